/- Part of the proof (my own). -/
import Derived.Test.YtfenmffiidchcaaGreatQTab
namespace Go.Proofs.YtfenmffiidchcaaGreat
set_option linter.unusedVariables false
set_option maxRecDepth 100000
open Go.RowKit
variable (a b c d e f g h j k l m n o p : Value) (w : World) (R : Value -> World -> Prop)
def Nf:Prop:=bF 0 a w λb=>aw 170 [b] w λc d=>R c d
theorem b9b(h:Nf a w R):aw 82 [a] w R:=dw Tryz.func82 h
def J3:Prop:=zn [bI] [] λk=>∃f:List Value,k= .agg f.toArray/\zk f 250 w λg l=>zd a λm=>∃(I:IW) (μ:IM),I [(ai 0)] l /\∀(b:Value) c,I [b] c -> aF .lss b m (ze 2 a b λn=>zj 2 n c λo=>zk [ai 0,cI] 52 c λd p=>zl 2 d o p λe=>a7 0 d e λq=>a7 1 d e λr=>aw 217 [g,q,r] e λs h=>zc .add b (ai 1) λj=>I [j] h/\μ [j] h<μ [b] c) (R g c)
theorem b3t(h:J3 a w R):aw 136 [a] w R:=VJ [(3,[10],[3,8,9])] [] Tryz.func136 h
def Ku:Prop:=aw 240 [a,b] w λe f=>zf 0 e λg=>zf 1 e λk=>∃I:IW,(ic k (zc .add g (ai 1) λl=>I [l] f) (I [g] f)) /\∀(h:Value) d,I [h] d -> bF 0 a d λm=>iL 2 m (some h) none none λj=>zd j λn=>YW c n λo=>QM o (ai 0) λp=>iL 2 j none (some p) none λq=>aw 170 [q] d λr s=>R r s
theorem b4m(h:Ku a b c w R):aw 171 [a,b,c] w R:=VJ [] [(4,[7],[0,2])] Tryz.func171 h
def K4:Prop:=aw 240 [a,b] w λe d=>zf 0 e λf=>zf 1 e λg=>ic g (bF 0 a d λh=>ze 2 h f λj=>zr 1 j λk=>jG k c d λl=>b7 R l) (bF 0 a d λm=>zn [ai 0,cI] [(0,1,b),(1,1,c)] λn=>zm (b_ [ai 0,cI] 1) [(0,2,n)] 52 1 d λo p=>aw 278 [m,f,o] p λq r=>fI 0 a q r λs=>R (.bool true) s)
theorem b5l(h:K4 a b c w R):aw 217 [a,b,c] w R:=dw Tryz.func217 h
def La:Prop:=bF 0 a w λb=>zd b λc=>R c w
theorem b5s(h:La a w R):aw 223 [a] w R:=dw Tryz.func223 h
def Lb:Prop:=aw 240 [a,b] w λd c=>zf 0 d λe=>zf 1 d λf=>c_ f (R (.tuple #[(.string {data:=#[]}),(.bool false)]) c) (bF 0 a c λg=>ze 2 g e λh=>a7 1 h c λj=>R (.tuple #[j,(.bool true)]) c)
theorem b5t(h:Lb a b w R):aw 224 [a,b] w R:=dw Tryz.func224 h
def Lp:Prop:=bF 0 a w λd=>aw 297 [d,b,(.func (.func 298) #[] #[])] w λc e=>zf 0 c λf=>zf 1 c λg=>R (.tuple #[f,g]) e
theorem b57(h:Lp a b w R):aw 240 [a,b] w R:=dw Tryz.func240 h
def LV:Prop:=aw 240 [a,b] w λe c=>zf 0 e λf=>zf 1 e λd=>ic d (bF 0 a c λg=>zc .add f (ai 1) λh=>aw 327 [g,f,h] c λj k=>fI 0 a j k λl=>R d l) (R d c)
theorem b61(h:LV a b w R):aw 283 [a,b] w R:=dw Tryz.func283 h
def Ma:Prop:=∃c:List Value,a= .agg c.toArray/\zk c 52 w λe d=>a7 0 e d λf=>aw 299 [f,b] d λg h=>R g h
theorem b7d(h:Ma a b w R):aw 298 [a,b] w R:=dw Tryz.func298 h
def LN:Prop:=aw 81 [a,b] w λd c=>c_ d (R bI c) (bF 0 a c λe=>ze 1 e b λf=>a7 0 f c λg=>aw 82 [g] c λh j=>R h j)
theorem b6u(h:LN a b w R):aw 27 [a,b] w R:=dw Tryz.func27 h
def MU:Prop:=aF .lss a (ai 1) (R (.tuple #[eI,(ai 1)]) w) (aF .gtr a (ai 8) (R (.tuple #[eI,(ai 1)]) w) (zn [bI] [] λn=>∃g:List Value,n= .agg g.toArray/\zk g 165 w λd o=>∃(I:IW) (μ:IM),I [(ai 0)] o /\∀(b:Value) c,I [b] c -> aF .lss b a (zi c λh=>dI 0 d λe=>b6 e h λf=>aw 136 [bI] h λp j=>aW e j f <| zn [eI] [(0,1,p)] λq=>zm (b_ [eI] 1) [(0,1,q)] 162 1 j λr k=>aW e k f <| zu 1 8 [eI] 162 f r k λs t=>fI 0 d s t λl=>zc .add b (ai 1) λm=>I [m] l/\μ [m] l<μ [b] c) (R (.tuple #[d,(ai 0)]) c)))
theorem b8r(h:MU a w R):aw 54 [a] w R:=VJ [(5,[14],[4,13])] [] Tryz.func54 h
def MY:Prop:=bF 0 a w λb=>zd b λc=>R c w
theorem b8v(h:MY a w R):aw 59 [a] w R:=dw Tryz.func59 h
def Nd:Prop:=aF .geq b (ai 0) (bF 0 a w λc=>zd c λd=>zc .lss b d λe=>R e w) (b7 R w)
theorem b9a(h:Nd a b w R):aw 81 [a,b] w R:=dw Tryz.func81 h
def Ng:Prop:=aw 81 [a,b] w λf e=>c_ f (R bI e) (bF 0 a e λg=>ze 1 g b λh=>a7 0 h e λj=>aw 171 [j,c,d] e λk l=>R k l)
theorem b9c(h:Ng a b c d w R):aw 83 [a,b,c,d] w R:=dw Tryz.func83 h
def J8:Prop:=aw 81 [a,b] w λj d=>ic j (zi d λe=>dI 0 a λf=>b6 f e λg=>aw 136 [c] e λk h=>aW f h g <| zn [eI] [(0,1,k)] λl=>ze 1 g b λm=>zl 1 m l h λn=>aw 81 [a,b] n λo p=>R o p) (aw 81 [a,b] d λq r=>R q r)
theorem b3y(h:J8 a b c w R):aw 141 [a,b,c] w R:=dw Tryz.func141 h
def J9:Prop:=aw 220 [a,b] w λk g=>c_ k (b7 R g) (zd b λl=>∃(I:IW) (μ:IM),I [(ai 0)] g /\∀(c:Value) d,I [c] d -> aF .lss c l (ze 4 b c λm=>zj 4 m d λn=>zk [ai 0,ai 0,.bool false,cI] 82 d λf o=>zl 4 f n o λp=>zi p λe=>bF 0 a e λq=>a7 0 f e λr=>ze 1 q r λs=>zj 1 s e λt=>zj 4 f e λu=>aw 221 [t,u] e λv h=>zc .add c (ai 1) λj=>I [j] h/\μ [j] h<μ [c] d) (R (.bool true) d))
theorem b3z(h:J9 a b w R):aw 142 [a,b] w R:=VJ [(4,[13],[0,11,12])] [] Tryz.func142 h
def Ka:Prop:=aw 220 [a,b] w λZ r=>c_ Z (b7 R r) (bF 0 a r λα=>zd α λB=>wF [ai 0] 8 3 B B r λh C=>bF 0 a C λD=>zd D λβ=>∃(I:IW) (μ:IM),I [(ai 0)] C /\∀(l:Value) j,I [l] j -> aF .lss l β (ze 1 D l λγ=>zj 1 γ j λδ=>zk [eI] 162 j λE ε=>zl 1 E δ ε λG=>a7 0 E G λζ=>aw 223 [ζ] G λη θ=>ze 1 h l λι=>jG ι η θ λH=>zc .add l (ai 1) λJ=>I [J] H/\μ [J] H<μ [l] j) (zd b λκ=>∃(m:IW) (f:IM),m [(ai 0)] (j.alloc (.map #[] 0)) /\∀(d:Value) g,m [d] g -> aF .lss d κ (ze 4 b d λν=>zj 4 ν g λξ=>zk [ai 0,ai 0,.bool false,cI] 82 g λe π=>zl 4 e ξ π λs=>a7 0 e s λρ=>a7 1 e s λσ=>zn [ai 0,ai 0] [(0,1,ρ),(1,1,σ)] λτ=>zk [ai 0,ai 0] 311 s λt φ=>zl 2 t τ φ λp=>zj 2 t p λχ=>kg Tryz.prog (Instr.lookup 309 (.map (some j.heap.size)) χ true) p λK=>zf 0 K λψ=>zf 1 K λω=>∃v:IW,(c_ ω (zi p λn=>bF 0 a n λaa=>a7 0 e n λab=>ze 1 aa ab λac=>a7 0 ac n λad=>a7 1 e n λae=>aw 224 [ad,ae] n λL af=>zf 0 L λaB=>zf 1 L λag=>v [ag] af) (v [ψ] p)) /\∀(x:Value) q,v [x] q -> zj 2 t q λah=>a7 2 e q λaj=>Zj aj λak=>z6 Tryz.prog (do Instr.mapUpdate 309 (.map (some j.heap.size)) ah ak;pure undef) q λu y=>∃z:IW,(ic x (a7 2 e y λal=>z [al] y) (z [(.bool false)] y)) /\∀(M:Value) c,z [M] c -> ic M (a7 0 e c λN=>ze 1 h N λam=>b6 am c λan=>zc .sub an (ai 1) λao=>ze 1 h N λap=>jG ap ao c λO=>zc .add d (ai 1) λP=>m [P] O/\f [P] O<f [d] g) (c_ x (a7 2 e c λaq=>c_ aq (a7 0 e c λQ=>ze 1 h Q λar=>b6 ar c λau=>zc .add au (ai 1) λav=>ze 1 h Q λax=>jG ax av c λS=>zc .add d (ai 1) λT=>m [T] S/\f [T] S<f [d] g) (zc .add d (ai 1) λU=>m [U] c/\f [U] c<f [d] g)) (zc .add d (ai 1) λV=>m [V] c/\f [V] c<f [d] g))) (zd h λay=>∃(A:IW) (X:IM),A [(ai 0)] g /\∀(o:Value) k,A [o] k -> aF .lss o ay (ze 1 h o λaz=>b6 az k λaA=>aF .gtr aA (ai 1000) (b7 R k) (zc .add o (ai 1) λY=>A [Y] k/\X [Y] k<X [o] k)) (R (.bool true) k))))
theorem b32(h:Ka a b w R):aw 145 [a,b] w R:=VJ [(5,[31],[0,1,5,29,30]),(11,[46],[0,5,8,44,45]),(24,[114],[112,113])] [(17,[12],[0,5,8,10,11,44,45,46]),(19,[83],[0,5,8,10,12,44,45,46])] Tryz.func145 h
def K8:Prop:=zd b λj=>∃(I:IW) (μ:IM),I [(ai 0)] w /\∀(c:Value) d,I [c] d -> aF .lss c j (ze 4 b c λk=>zj 4 k d λl=>zk [ai 0,ai 0,.bool false,cI] 82 d λf m=>zl 4 f l m λg=>a7 0 f g λn=>aw 81 [a,n] g λo e=>c_ o (b7 R e) (zc .add c (ai 1) λh=>I [h] e/\μ [h] e<μ [c] d)) (R (.bool true) d)
theorem b5p(h:K8 a b w R):aw 220 [a,b] w R:=VJ [(2,[9],[0,7,8])] [] Tryz.func220 h
def K9:Prop:=∃e:List Value,a= .agg e.toArray/\zk e 162 w λf h=>∃g:List Value,b= .agg g.toArray/\zk g 82 h λd c=>a7 2 d c λj=>ic j (a7 0 f c λk=>a7 1 d c λl=>aw 283 [k,l] c λr m=>R (.tuple #[]) m) (a7 0 f c λn=>a7 1 d c λo=>a7 3 d c λp=>aw 217 [n,o,p] c λs q=>R (.tuple #[]) q)
theorem b5q(h:K9 a b w R):aw 221 [a,b] w R:=dw Tryz.func221 h
def LO:Prop:=iL 2 a (some b) none none λQ=>zd c λd=>aF .eql d (ai 0) (R a w) (zd a λf=>aF .eql b f (zu 2 24 [ai 0,cI] 52 a c w λj k=>R j k) (zc .add f d λl=>kg Tryz.prog (Builtin.cap_ #[53] 3 [a].toArray) w λm=>aF .gtr l m (iL 2 a none (some b) none λn=>zc .add f d λo=>zc .sub o b λp=>z6 Tryz.prog (Builtin.append_ #[53,3] 53 #[n,p]) w λg q=>iL 2 g (some b) none none λr=>z6 Tryz.prog (Builtin.copy_ #[53,53] 3 [r,c].toArray) q λS s=>zi s λt=>zc .add b d λu=>iL 2 g (some u) none none λv=>iL 2 a (some b) none none λx=>z6 Tryz.prog (Builtin.copy_ #[53,53] 3 [v,x].toArray) t λT y=>R g y) (zc .add f d λz=>iL 2 a none (some z) none λe=>zc .add b d λA=>iL 2 e (some A) none none λB=>qE Tryz.prog 323 [c,B] w λC h=>c_ C (zi h λD=>zc .add b d λE=>iL 2 e (some E) none none λG=>iL 2 e (some b) none none λH=>z6 Tryz.prog (Builtin.copy_ #[53,53] 3 [G,H].toArray) D λU J=>iL 2 e (some b) none none λK=>z6 Tryz.prog (Builtin.copy_ #[53,53] 3 [K,c].toArray) J λV L=>R e L) (iL 2 e (some f) none none λM=>z6 Tryz.prog (Builtin.copy_ #[53,53] 3 [M,c].toArray) h λX N=>iL 2 e (some b) none none λO=>aw 324 [O,d] N λY P=>R e P))))
theorem b6v(h:LO a b c w R):aw 278 [a,b,c] w R:=dw Tryz.func278 h
def L_:Prop:=zd a λj=>∃(I:IW) (μ:IM),I [(ai 0),j] w /\∀(d f:Value) e,I [d,f] e -> aF .lss d f (zc .add d f λl=>zG .u64 l λm=>zc .shr m (.int .u64 1) λn=>zG .i64 n λg=>ze 2 a g λo=>zj 2 o e λp=>yM Tryz.prog uN c [p,b] e λq h=>aF .lss q (ai 0) (zc .add g (ai 1) λk=>I [k,f] h/\μ [k,f] h<μ [d,f] e) (I [d,g] h/\μ [d,g] h<μ [d,f] e)) (aF .lss d j (ze 2 a d λr=>zj 2 r e λs=>yM Tryz.prog uN c [s,b] e λt u=>zc .eql t (ai 0) λv=>R (.tuple #[d,v]) u) (R (.tuple #[d,(.bool false)]) e))
theorem b7c(h:L_ a b c w R):aw 297 [a,b,c] w R:=VJ [(3,[9,10],[0,1,2,8])] [] Tryz.func297 h
def U4:Prop:=zd a λe=>iL 2 a (some b) (some c) (some e) λo=>aF .eql b c (R a w) (zd a λf=>zi w λg=>iL 2 a none (some b) none λh=>iL 2 a (some c) none none λj=>zu 2 24 [ai 0,cI] 52 h j g λd k=>zd d λl=>iL 2 d (some l) (some f) none λm=>z6 Tryz.prog (Builtin.clear_ #[53] 0 [m].toArray) k λu n=>R d n)
theorem b7w(h:U4 a b c w R):aw 327 [a,b,c] w R:=dw Tryz.func327 h
def Mb:Prop:=aw 343 [a] w λe f=>aw 343 [b] f λd c=>ic e (ic d (R (ai 0) c) (R (ai (-1)) c)) (ic d (R (ai 1) c) (aF .lss a b (R (ai (-1)) c) (aF .gtr a b (R (ai 1) c) (R (ai 0) c))))
theorem b7e(h:Mb a b w R):aw 299 [a,b] w R:=dw Tryz.func299 h
def Mw:Prop:=zc .neq a a λb=>R b w
theorem b73(h:Mw a w R):aw 343 [a] w R:=dw Tryz.func343 h
end Go.Proofs.YtfenmffiidchcaaGreat
