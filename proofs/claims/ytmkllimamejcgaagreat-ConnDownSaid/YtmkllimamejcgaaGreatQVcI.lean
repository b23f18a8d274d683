/- Part. -/
import Derived.Test.YtmkllimamejcgaaGreatQTab
namespace Go.Proofs.YtmkllimamejcgaaGreat
set_option linter.all false
set_option maxRecDepth 100000
open Go.RowKit
variable (a b c d e f g h j k l m n o p : Value) (w : World) (R : Value -> World -> Prop)
def LV:Prop:=bU 0 a w λb=>aF 103 [b] w λc d=>R c d
theorem cE1(h:LV a w R):aF 135 [a] w R:=cw Tryz.func135 h
def MQ:Prop:=bU 0 a w λb=>zd b λc=>R c w
theorem cGi(h:MQ a w R):aF 186 [a] w R:=cw Tryz.func186 h
def MW:Prop:=zm [bI] [] λk=>∃f:List Value,k= .agg f.toArray/\zh f 305 w λg l=>zd a λm=>∃(I:IW) (μ:IM),I [(ai 0)] l /\∀(b:Value) c,I [b] c -> aI .lss b m (zk 2 a b λn=>zg 2 n c λo=>zh [ai 0,cQ] 66 c λd p=>zj 2 d o p λe=>a_ 0 d e λq=>a_ 1 d e λr=>aF 268 [g,q,r] e λs h=>zc .add b (ai 1) λj=>I [j] h/\μ [j] h<μ [b] c) (R g c)
theorem cGn(h:MW a w R):aF 194 [a] w R:=VJ [(3,[10],[3,8,9])] [] Tryz.func194 h
def Nh:Prop:=aF 282 [a,b] w λd c=>zf 0 d λe=>zf 1 d λf=>cL f (R (.tuple #[(.string {data:=#[]}),(.bool false)]) c) (bU 0 a c λg=>zk 2 g e λh=>a_ 1 h c λj=>R (.tuple #[j,(.bool true)]) c)
theorem cG7(h:Nh a b w R):aF 214 [a,b] w R:=cw Tryz.func214 h
def NW:Prop:=aF 282 [a,b] w λe d=>zf 0 e λf=>zf 1 e λg=>dm g (bU 0 a d λh=>zk 2 h f λj=>zl 1 j λk=>eH k c d λl=>bY R l) (bU 0 a d λm=>zm [ai 0,cQ] [(0,1,b),(1,1,c)] λn=>zn (cK [ai 0,cQ] 1) [(0,2,n)] 66 1 d λo p=>aF 321 [m,f,o] p λq r=>cV 0 a q r λs=>R (.bool true) s)
theorem cIa(h:NW a b c w R):aF 268 [a,b,c] w R:=cw Tryz.func268 h
def N_:Prop:=bU 0 a w λd=>aF 331 [d,b,(.func (.func 332) #[] #[])] w λc e=>zf 0 c λf=>zf 1 c λg=>R (.tuple #[f,g]) e
theorem cIp(h:N_ a b w R):aF 282 [a,b] w R:=cw Tryz.func282 h
def Oh:Prop:=aF 282 [a,b] w λe c=>zf 0 e λf=>zf 1 e λd=>dm d (bU 0 a c λg=>zc .add f (ai 1) λh=>aF 335 [g,f,h] c λj k=>cV 0 a j k λl=>R d l) (R d c)
theorem cIx(h:Oh a b w R):aF 290 [a,b] w R:=cw Tryz.func290 h
def Ot:Prop:=aF 282 [a,b] w λe f=>zf 0 e λg=>zf 1 e λk=>∃I:IW,(dm k (zc .add g (ai 1) λl=>I [l] f) (I [g] f)) /\∀(h:Value) d,I [h] d -> bU 0 a d λm=>fp 2 m (some h) none none λj=>zd j λn=>ZS c n λo=>yS o (ai 0) λp=>fp 2 j none (some p) none λq=>aF 103 [q] d λr s=>R r s
theorem cI5(h:Ot a b c w R):aF 298 [a,b,c] w R:=VJ [] [(4,[7],[0,2])] Tryz.func298 h
def OQ:Prop:=∃c:List Value,a= .agg c.toArray/\zh c 66 w λe d=>a_ 0 e d λf=>aF 246 [f,b] d λg h=>R g h
theorem cJu(h:OQ a b w R):aF 332 [a,b] w R:=cw Tryz.func332 h
def PV:Prop:=aF 134 [a,b] w λd c=>cL d (R bI c) (bU 0 a c λe=>zk 1 e b λf=>a_ 0 f c λg=>aF 135 [g] c λh j=>R h j)
theorem cLt(h:PV a b w R):aF 84 [a,b] w R:=cw Tryz.func84 h
def LD:Prop:=bU 0 a w λb=>zd b λc=>R c w
theorem cEl(h:LD a w R):aF 110 [a] w R:=cw Tryz.func110 h
def LR:Prop:=aF 134 [a,b] w λd c=>cL d (R (ai 0) c) (bU 0 a c λe=>zk 1 e b λf=>a_ 0 f c λg=>aF 186 [g] c λh j=>R h j)
theorem cEy(h:LR a b w R):aF 123 [a,b] w R:=cw Tryz.func123 h
def LU:Prop:=aI .geq b (ai 0) (bU 0 a w λc=>zd c λd=>zc .lss b d λe=>R e w) (bY R w)
theorem cE0(h:LU a b w R):aF 134 [a,b] w R:=cw Tryz.func134 h
def LX:Prop:=aI .lss a (ai 1) (R (.tuple #[cT,(ai 1)]) w) (aI .gtr a (ai 8) (R (.tuple #[cT,(ai 1)]) w) (zm [bI] [] λn=>∃g:List Value,n= .agg g.toArray/\zh g 241 w λd o=>∃(I:IW) (μ:IM),I [(ai 0)] o /\∀(b:Value) c,I [b] c -> aI .lss b a (zi c λh=>bV 0 d λe=>cn e h λf=>aF 194 [bI] h λp j=>aR e j f <| zm [cT] [(0,1,p)] λq=>zn (cK [cT] 1) [(0,1,q)] 238 1 j λr k=>aR e k f <| zx 1 8 [cT] 238 f r k λs t=>cV 0 d s t λl=>zc .add b (ai 1) λm=>I [m] l/\μ [m] l<μ [b] c) (R (.tuple #[d,(ai 0)]) c)))
theorem cE3(h:LX a w R):aF 137 [a] w R:=VJ [(5,[14],[4,13])] [] Tryz.func137 h
def Au(a:Value)(b d:World)(I:IW)(μ:IM):Prop:=zc .add a (ai 1) λc=>I [c] b/\μ [c] b<μ [a] d
def Mr:Prop:=aF 213 [a,b] w λP r=>cL P (bY R r) (bU 0 a r λQ=>zd Q λB=>B2 [ai 0] 8 3 B B r λf C=>bU 0 a C λD=>zd D λS=>∃(I:IW) (μ:IM),I [(ai 0)] C/\∀(l:Value) g,I [l] g->aI .lss l S (zk 1 D l λT=>zg 1 T g λU=>zh [cT] 238 g λE V=>zj 1 E U V λG=>a_ 0 E G λX=>aF 186 [X] G λY Z=>zk 1 f l λα=>eH α Y Z λβ=>Au l β g I μ) (zd b λγ=>∃(k:IW) (o:IM),k [(ai 0)] (g.alloc (.map #[] 0))/\∀(h:Value) e,k [h] e->aI .lss h γ (zk 4 b h λδ=>zg 4 δ e λε=>zh [ai 0,ai 0,.bool false,cQ] 56 e λc ζ=>zj 4 c ε ζ λs=>a_ 0 c s λη=>a_ 1 c s λθ=>zm [ai 0,ai 0] [(0,1,η),(1,1,θ)] λι=>zh [ai 0,ai 0] 336 s λt κ=>zj 2 t ι κ λp=>zg 2 t p λν=>ff Tryz.prog (Instr.lookup 334 (.map (some g.heap.size)) ν true) p λH=>zf 0 H λξ=>zf 1 H λπ=>∃v:IW,(cL π (zi p λm=>bU 0 a m λρ=>a_ 0 c m λσ=>zk 1 ρ σ λτ=>a_ 0 τ m λφ=>a_ 1 c m λχ=>aF 214 [φ,χ] m λJ ψ=>zf 0 J λav=>zf 1 J λω=>v [ω] ψ) (v [ξ] p))/\∀(x:Value) q,v [x] q->zg 2 t q λaa=>a_ 2 c q λab=>Zf ab λac=>zR Tryz.prog (do Instr.mapUpdate 334 (.map (some g.heap.size)) aa ac;pure undef) q λu y=>∃z:IW,(dm x (a_ 2 c y λad=>z [ad] y) (z [(.bool false)] y))/\∀(K:Value) d,z [K] d->dm K (a_ 0 c d λL=>zk 1 f L λae=>cn ae d λaf=>zc .sub af (ai 1) λag=>zk 1 f L λah=>eH ah ag d λaj=>Au h aj e k o) (cL x (a_ 2 c d λak=>cL ak (a_ 0 c d λM=>zk 1 f M λal=>cn al d λam=>zc .add am (ai 1) λan=>zk 1 f M λao=>eH ao an d λap=>Au h ap e k o) (Au h d e k o)) (Au h d e k o))) (zd f λaq=>∃(A:IW) (N:IM),A [(ai 0)] e/\∀(n:Value) j,A [n] j->aI .lss n aq (zk 1 f n λar=>cn ar j λau=>aI .gtr au (ai 1000) (bY R j) (zc .add n (ai 1) λO=>A [O] j/\N [O] j<N [n] j)) (R (.bool true) j))))
theorem cFt(h:Mr a b w R):aF 161 [a,b] w R:=VJ [(5,[31],[0,1,5,29,30]),(11,[46],[0,5,8,44,45]),(24,[114],[112,113])] [(17,[12],[0,5,8,10,11,44,45,46]),(19,[83],[0,5,8,10,12,44,45,46])] Tryz.func161 h
def Mu:Prop:=aF 213 [a,b] w λk g=>cL k (bY R g) (zd b λl=>∃(I:IW) (μ:IM),I [(ai 0)] g /\∀(c:Value) d,I [c] d -> aI .lss c l (zk 4 b c λm=>zg 4 m d λn=>zh [ai 0,ai 0,.bool false,cQ] 56 d λf o=>zj 4 f n o λp=>zi p λe=>bU 0 a e λq=>a_ 0 f e λr=>zk 1 q r λs=>zg 1 s e λt=>zg 4 f e λu=>aF 222 [t,u] e λv h=>zc .add c (ai 1) λj=>I [j] h/\μ [j] h<μ [c] d) (R (.bool true) d))
theorem cFw(h:Mu a b w R):aF 164 [a,b] w R:=VJ [(4,[13],[0,11,12])] [] Tryz.func164 h
def M1:Prop:=aF 134 [a,b] w λj d=>dm j (zi d λe=>bV 0 a λf=>cn f e λg=>aF 194 [c] e λk h=>aR f h g <| zm [cT] [(0,1,k)] λl=>zk 1 g b λm=>zj 1 m l h λn=>aF 134 [a,b] n λo p=>R o p) (aF 134 [a,b] d λq r=>R q r)
theorem cGs(h:M1 a b c w R):aF 199 [a,b,c] w R:=cw Tryz.func199 h
def Ng:Prop:=zd b λj=>∃(I:IW) (μ:IM),I [(ai 0)] w /\∀(c:Value) d,I [c] d -> aI .lss c j (zk 4 b c λk=>zg 4 k d λl=>zh [ai 0,ai 0,.bool false,cQ] 56 d λf m=>zj 4 f l m λg=>a_ 0 f g λn=>aF 134 [a,n] g λo e=>cL o (bY R e) (zc .add c (ai 1) λh=>I [h] e/\μ [h] e<μ [c] d)) (R (.bool true) d)
theorem cG6(h:Ng a b w R):aF 213 [a,b] w R:=VJ [(2,[9],[0,7,8])] [] Tryz.func213 h
def Nq:Prop:=∃e:List Value,a= .agg e.toArray/\zh e 238 w λf h=>∃g:List Value,b= .agg g.toArray/\zh g 56 h λd c=>a_ 2 d c λj=>dm j (a_ 0 f c λk=>a_ 1 d c λl=>aF 290 [k,l] c λr m=>R (.tuple #[]) m) (a_ 0 f c λn=>a_ 1 d c λo=>a_ 3 d c λp=>aF 268 [n,o,p] c λs q=>R (.tuple #[]) q)
theorem cHf(h:Nq a b w R):aF 222 [a,b] w R:=cw Tryz.func222 h
def NC:Prop:=aF 134 [a,b] w λf e=>cL f (R bI e) (bU 0 a e λg=>zk 1 g b λh=>a_ 0 h e λj=>aF 298 [j,c,d] e λk l=>R k l)
theorem cHr(h:NC a b c d w R):aF 234 [a,b,c,d] w R:=cw Tryz.func234 h
def OF:Prop:=fp 2 a (some b) none none λQ=>zd c λd=>aI .eql d (ai 0) (R a w) (zd a λf=>aI .eql b f (zx 2 24 [ai 0,cQ] 66 a c w λj k=>R j k) (zc .add f d λl=>ff Tryz.prog (Builtin.cap_ #[67] 3 [a].toArray) w λm=>aI .gtr l m (fp 2 a none (some b) none λn=>zc .add f d λo=>zc .sub o b λp=>zR Tryz.prog (Builtin.append_ #[67,3] 67 #[n,p]) w λg q=>fp 2 g (some b) none none λr=>zR Tryz.prog (Builtin.copy_ #[67,67] 3 [r,c].toArray) q λS s=>zi s λt=>zc .add b d λu=>fp 2 g (some u) none none λv=>fp 2 a (some b) none none λx=>zR Tryz.prog (Builtin.copy_ #[67,67] 3 [v,x].toArray) t λT y=>R g y) (zc .add f d λz=>fp 2 a none (some z) none λe=>zc .add b d λA=>fp 2 e (some A) none none λB=>q7 Tryz.prog 366 [c,B] w λC h=>cL C (zi h λD=>zc .add b d λE=>fp 2 e (some E) none none λG=>fp 2 e (some b) none none λH=>zR Tryz.prog (Builtin.copy_ #[67,67] 3 [G,H].toArray) D λU J=>fp 2 e (some b) none none λK=>zR Tryz.prog (Builtin.copy_ #[67,67] 3 [K,c].toArray) J λV L=>R e L) (fp 2 e (some f) none none λM=>zR Tryz.prog (Builtin.copy_ #[67,67] 3 [M,c].toArray) h λX N=>fp 2 e (some b) none none λO=>aF 367 [O,d] N λY P=>R e P))))
theorem cJi(h:OF a b c w R):aF 321 [a,b,c] w R:=cw Tryz.func321 h
def OP:Prop:=zd a λj=>∃(I:IW) (μ:IM),I [(ai 0),j] w /\∀(d f:Value) e,I [d,f] e -> aI .lss d f (zc .add d f λl=>zK .u64 l λm=>zc .shr m (.int .u64 1) λn=>zK .i64 n λg=>zk 2 a g λo=>zg 2 o e λp=>zS Tryz.prog mT c [p,b] e λq h=>aI .lss q (ai 0) (zc .add g (ai 1) λk=>I [k,f] h/\μ [k,f] h<μ [d,f] e) (I [d,g] h/\μ [d,g] h<μ [d,f] e)) (aI .lss d j (zk 2 a d λr=>zg 2 r e λs=>zS Tryz.prog mT c [s,b] e λt u=>zc .eql t (ai 0) λv=>R (.tuple #[d,v]) u) (R (.tuple #[d,(.bool false)]) e))
theorem cJt(h:OP a b c w R):aF 331 [a,b,c] w R:=VJ [(3,[9,10],[0,1,2,8])] [] Tryz.func331 h
def aw6:Prop:=zd a λe=>fp 2 a (some b) (some c) (some e) λo=>aI .eql b c (R a w) (zd a λf=>zi w λg=>fp 2 a none (some b) none λh=>fp 2 a (some c) none none λj=>zx 2 24 [ai 0,cQ] 66 h j g λd k=>zd d λl=>fp 2 d (some l) (some f) none λm=>zR Tryz.prog (Builtin.clear_ #[67] 0 [m].toArray) k λu n=>R d n)
theorem cJx(h:aw6 a b c w R):aF 335 [a,b,c] w R:=cw Tryz.func335 h
def G7:Prop:=aF 304 [a] w λe f=>aF 304 [b] f λd c=>dm e (dm d (R (ai 0) c) (R (ai (-1)) c)) (dm d (R (ai 1) c) (aI .lss a b (R (ai (-1)) c) (aI .gtr a b (R (ai 1) c) (R (ai 0) c))))
theorem XS(h:G7 a b w R):aF 246 [a,b] w R:=cw Tryz.func246 h
def G9:Prop:=zc .neq a a λb=>R b w
theorem XU(h:G9 a w R):aF 304 [a] w R:=cw Tryz.func304 h
