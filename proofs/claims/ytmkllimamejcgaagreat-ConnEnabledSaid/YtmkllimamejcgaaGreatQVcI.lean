/- Part of the proof. -/
import Derived.Test.YtmkllimamejcgaaGreatQTab
namespace Go.Proofs.YtmkllimamejcgaaGreat
set_option linter.all false
set_option maxRecDepth 100000
open Go.RowKit
variable (a b c d e f g h j k l m n o p : Value) (w : World) (R : Value -> World -> Prop)
def N1:Prop:=bW 0 a w λb=>aF 103 [b] w λc d=>R c d
theorem gF5(h:N1 a w R):aF 135 [a] w R:=c_ Tryz.func135 h
def OT:Prop:=bW 0 a w λb=>zd b λc=>R c w
theorem gRl(h:OT a w R):aF 186 [a] w R:=c_ Tryz.func186 h
def OY:Prop:=zk [bI] [] λk=>∃f:List Value,k= .agg f.toArray/\zh f 305 w λg l=>zd a λm=>∃(I:IW) (μ:IM),I [(ai 0)] l /\∀(b:Value) c,I [b] c -> aI .lss b m (zl 2 a b λn=>ze 2 n c λo=>zh [ai 0,gI] 66 c λd p=>zi 2 d o p λe=>a_ 0 d e λq=>a_ 1 d e λr=>aF 268 [g,q,r] e λs h=>zc .add b (ai 1) λj=>I [j] h/\μ [j] h<μ [b] c) (R g c)
theorem gRq(h:OY a w R):aF 194 [a] w R:=VJ [(3,[10],[3,8,9])] [] Tryz.func194 h
def Pg:Prop:=aF 282 [a,b] w λd c=>zf 0 d λe=>zf 1 d λf=>gi f (R (.tuple #[(.string {data:=#[]}),(.bool false)]) c) (bW 0 a c λg=>zl 2 g e λh=>a_ 1 h c λj=>R (.tuple #[j,(.bool true)]) c)
theorem gWa(h:Pg a b w R):aF 214 [a,b] w R:=c_ Tryz.func214 h
def PX:Prop:=aF 282 [a,b] w λe d=>zf 0 e λf=>zf 1 e λg=>iy g (bW 0 a d λh=>zl 2 h f λj=>zn 1 j λk=>jN k c d λl=>cW R l) (bW 0 a d λm=>zk [ai 0,gI] [(0,1,b),(1,1,c)] λn=>zm (fR [ai 0,gI] 1) [(0,2,n)] 66 1 d λo p=>aF 321 [m,f,o] p λq r=>ia 0 a q r λs=>R (.bool true) s)
theorem g_d(h:PX a b c w R):aF 268 [a,b,c] w R:=c_ Tryz.func268 h
def Q_:Prop:=bW 0 a w λd=>aF 331 [d,b,(.func (.func 332) #[] #[])] w λc e=>zf 0 c λf=>zf 1 c λg=>R (.tuple #[f,g]) e
theorem g_s(h:Q_ a b w R):aF 282 [a,b] w R:=c_ Tryz.func282 h
def Ri:Prop:=aF 282 [a,b] w λe c=>zf 0 e λf=>zf 1 e λd=>iy d (bW 0 a c λg=>zc .add f (ai 1) λh=>aF 335 [g,f,h] c λj k=>ia 0 a j k λl=>R d l) (R d c)
theorem g_0(h:Ri a b w R):aF 290 [a,b] w R:=c_ Tryz.func290 h
def Rr:Prop:=aF 282 [a,b] w λe f=>zf 0 e λg=>zf 1 e λk=>∃I:IW,(iy k (zc .add g (ai 1) λl=>I [l] f) (I [g] f)) /\∀(h:Value) d,I [h] d -> bW 0 a d λm=>kh 2 m (some h) none none λj=>zd j λn=>ZS c n λo=>y2 o (ai 0) λp=>kh 2 j none (some p) none λq=>aF 103 [q] d λr s=>R r s
theorem g_8(h:Rr a b c w R):aF 298 [a,b,c] w R:=VJ [] [(4,[7],[0,2])] Tryz.func298 h
def RR:Prop:=∃c:List Value,a= .agg c.toArray/\zh c 66 w λe d=>a_ 0 e d λf=>aF 246 [f,b] d λg h=>R g h
theorem h_y(h:RR a b w R):aF 332 [a,b] w R:=c_ Tryz.func332 h
def SY:Prop:=aF 134 [a,b] w λd c=>gi d (R bI c) (bW 0 a c λe=>zl 1 e b λf=>a_ 0 f c λg=>aF 135 [g] c λh j=>R h j)
theorem ibt(h:SY a b w R):aF 84 [a,b] w R:=c_ Tryz.func84 h
def NL:Prop:=bW 0 a w λb=>zd b λc=>R c w
theorem gFp(h:NL a w R):aF 110 [a] w R:=c_ Tryz.func110 h
def N0:Prop:=aI .geq b (ai 0) (bW 0 a w λc=>zd c λd=>zc .lss b d λe=>R e w) (cW R w)
theorem gF4(h:N0 a b w R):aF 134 [a,b] w R:=c_ Tryz.func134 h
def N3:Prop:=aI .lss a (ai 1) (R (.tuple #[h_,(ai 1)]) w) (aI .gtr a (ai 8) (R (.tuple #[h_,(ai 1)]) w) (zk [bI] [] λn=>∃g:List Value,n= .agg g.toArray/\zh g 241 w λd o=>∃(I:IW) (μ:IM),I [(ai 0)] o /\∀(b:Value) c,I [b] c -> aI .lss b a (zj c λh=>b_ 0 d λe=>cI e h λf=>aF 194 [bI] h λp j=>aR e j f <| zk [h_] [(0,1,p)] λq=>zm (fR [h_] 1) [(0,1,q)] 238 1 j λr k=>aR e k f <| zx 1 8 [h_] 238 f r k λs t=>ia 0 d s t λl=>zc .add b (ai 1) λm=>I [m] l/\μ [m] l<μ [b] c) (R (.tuple #[d,(ai 0)]) c)))
theorem gF7(h:N3 a w R):aF 137 [a] w R:=VJ [(5,[14],[4,13])] [] Tryz.func137 h
def Ov:Prop:=aF 213 [a,b] w λZ r=>gi Z (cW R r) (bW 0 a r λα=>zd α λB=>ED [ai 0] 8 3 B B r λh C=>bW 0 a C λD=>zd D λβ=>∃(I:IW) (μ:IM),I [(ai 0)] C /\∀(l:Value) j,I [l] j -> aI .lss l β (zl 1 D l λγ=>ze 1 γ j λδ=>zh [h_] 238 j λE ε=>zi 1 E δ ε λG=>a_ 0 E G λζ=>aF 186 [ζ] G λη θ=>zl 1 h l λι=>jN ι η θ λH=>zc .add l (ai 1) λJ=>I [J] H/\μ [J] H<μ [l] j) (zd b λκ=>∃(m:IW) (f:IM),m [(ai 0)] (j.alloc (.map #[] 0)) /\∀(d:Value) g,m [d] g -> aI .lss d κ (zl 4 b d λν=>ze 4 ν g λξ=>zh [ai 0,ai 0,.bool false,gI] 56 g λe π=>zi 4 e ξ π λs=>a_ 0 e s λρ=>a_ 1 e s λσ=>zk [ai 0,ai 0] [(0,1,ρ),(1,1,σ)] λτ=>zh [ai 0,ai 0] 336 s λt φ=>zi 2 t τ φ λp=>ze 2 t p λχ=>jY Tryz.prog (Instr.lookup 334 (.map (some j.heap.size)) χ true) p λK=>zf 0 K λψ=>zf 1 K λω=>∃v:IW,(gi ω (zj p λn=>bW 0 a n λaa=>a_ 0 e n λab=>zl 1 aa ab λac=>a_ 0 ac n λad=>a_ 1 e n λae=>aF 214 [ad,ae] n λL af=>zf 0 L λaB=>zf 1 L λag=>v [ag] af) (v [ψ] p)) /\∀(x:Value) q,v [x] q -> ze 2 t q λah=>a_ 2 e q λaj=>Zf aj λak=>zR Tryz.prog (do Instr.mapUpdate 334 (.map (some j.heap.size)) ah ak;pure undef) q λu y=>∃z:IW,(iy x (a_ 2 e y λal=>z [al] y) (z [(.bool false)] y)) /\∀(M:Value) c,z [M] c -> iy M (a_ 0 e c λN=>zl 1 h N λam=>cI am c λan=>zc .sub an (ai 1) λao=>zl 1 h N λap=>jN ap ao c λO=>zc .add d (ai 1) λP=>m [P] O/\f [P] O<f [d] g) (gi x (a_ 2 e c λaq=>gi aq (a_ 0 e c λQ=>zl 1 h Q λar=>cI ar c λau=>zc .add au (ai 1) λav=>zl 1 h Q λax=>jN ax av c λS=>zc .add d (ai 1) λT=>m [T] S/\f [T] S<f [d] g) (zc .add d (ai 1) λU=>m [U] c/\f [U] c<f [d] g)) (zc .add d (ai 1) λV=>m [V] c/\f [V] c<f [d] g))) (zd h λay=>∃(A:IW) (X:IM),A [(ai 0)] g /\∀(o:Value) k,A [o] k -> aI .lss o ay (zl 1 h o λaz=>cI az k λaA=>aI .gtr aA (ai 1000) (cW R k) (zc .add o (ai 1) λY=>A [Y] k/\X [Y] k<X [o] k)) (R (.bool true) k))))
theorem gIx(h:Ov a b w R):aF 161 [a,b] w R:=VJ [(5,[31],[0,1,5,29,30]),(11,[46],[0,5,8,44,45]),(24,[114],[112,113])] [(17,[12],[0,5,8,10,11,44,45,46]),(19,[83],[0,5,8,10,12,44,45,46])] Tryz.func161 h
def Oy:Prop:=aF 213 [a,b] w λk g=>gi k (cW R g) (zd b λl=>∃(I:IW) (μ:IM),I [(ai 0)] g /\∀(c:Value) d,I [c] d -> aI .lss c l (zl 4 b c λm=>ze 4 m d λn=>zh [ai 0,ai 0,.bool false,gI] 56 d λf o=>zi 4 f n o λp=>zj p λe=>bW 0 a e λq=>a_ 0 f e λr=>zl 1 q r λs=>ze 1 s e λt=>ze 4 f e λu=>aF 222 [t,u] e λv h=>zc .add c (ai 1) λj=>I [j] h/\μ [j] h<μ [c] d) (R (.bool true) d))
theorem gI0(h:Oy a b w R):aF 164 [a,b] w R:=VJ [(4,[13],[0,11,12])] [] Tryz.func164 h
def O3:Prop:=aF 134 [a,b] w λj d=>iy j (zj d λe=>b_ 0 a λf=>cI f e λg=>aF 194 [c] e λk h=>aR f h g <| zk [h_] [(0,1,k)] λl=>zl 1 g b λm=>zi 1 m l h λn=>aF 134 [a,b] n λo p=>R o p) (aF 134 [a,b] d λq r=>R q r)
theorem gRv(h:O3 a b c w R):aF 199 [a,b,c] w R:=c_ Tryz.func199 h
def Pf:Prop:=zd b λj=>∃(I:IW) (μ:IM),I [(ai 0)] w /\∀(c:Value) d,I [c] d -> aI .lss c j (zl 4 b c λk=>ze 4 k d λl=>zh [ai 0,ai 0,.bool false,gI] 56 d λf m=>zi 4 f l m λg=>a_ 0 f g λn=>aF 134 [a,n] g λo e=>gi o (cW R e) (zc .add c (ai 1) λh=>I [h] e/\μ [h] e<μ [c] d)) (R (.bool true) d)
theorem gR9(h:Pf a b w R):aF 213 [a,b] w R:=VJ [(2,[9],[0,7,8])] [] Tryz.func213 h
def Pq:Prop:=∃e:List Value,a= .agg e.toArray/\zh e 238 w λf h=>∃g:List Value,b= .agg g.toArray/\zh g 56 h λd c=>a_ 2 d c λj=>iy j (a_ 0 f c λk=>a_ 1 d c λl=>aF 290 [k,l] c λr m=>R (.tuple #[]) m) (a_ 0 f c λn=>a_ 1 d c λo=>a_ 3 d c λp=>aF 268 [n,o,p] c λs q=>R (.tuple #[]) q)
theorem gWi(h:Pq a b w R):aF 222 [a,b] w R:=c_ Tryz.func222 h
def PC:Prop:=aF 134 [a,b] w λf e=>gi f (R bI e) (bW 0 a e λg=>zl 1 g b λh=>a_ 0 h e λj=>aF 298 [j,c,d] e λk l=>R k l)
theorem gWu(h:PC a b c d w R):aF 234 [a,b,c,d] w R:=c_ Tryz.func234 h
def RE:Prop:=kh 2 a (some b) none none λQ=>zd c λd=>aI .eql d (ai 0) (R a w) (zd a λf=>aI .eql b f (zx 2 24 [ai 0,gI] 66 a c w λj k=>R j k) (zc .add f d λl=>jY Tryz.prog (Builtin.cap_ #[67] 3 [a].toArray) w λm=>aI .gtr l m (kh 2 a none (some b) none λn=>zc .add f d λo=>zc .sub o b λp=>zR Tryz.prog (Builtin.append_ #[67,3] 67 #[n,p]) w λg q=>kh 2 g (some b) none none λr=>zR Tryz.prog (Builtin.copy_ #[67,67] 3 [r,c].toArray) q λS s=>zj s λt=>zc .add b d λu=>kh 2 g (some u) none none λv=>kh 2 a (some b) none none λx=>zR Tryz.prog (Builtin.copy_ #[67,67] 3 [v,x].toArray) t λT y=>R g y) (zc .add f d λz=>kh 2 a none (some z) none λe=>zc .add b d λA=>kh 2 e (some A) none none λB=>qW Tryz.prog 366 [c,B] w λC h=>gi C (zj h λD=>zc .add b d λE=>kh 2 e (some E) none none λG=>kh 2 e (some b) none none λH=>zR Tryz.prog (Builtin.copy_ #[67,67] 3 [G,H].toArray) D λU J=>kh 2 e (some b) none none λK=>zR Tryz.prog (Builtin.copy_ #[67,67] 3 [K,c].toArray) J λV L=>R e L) (kh 2 e (some f) none none λM=>zR Tryz.prog (Builtin.copy_ #[67,67] 3 [M,c].toArray) h λX N=>kh 2 e (some b) none none λO=>aF 367 [O,d] N λY P=>R e P))))
theorem h_m(h:RE a b c w R):aF 321 [a,b,c] w R:=c_ Tryz.func321 h
def RQ:Prop:=zd a λj=>∃(I:IW) (μ:IM),I [(ai 0),j] w /\∀(d f:Value) e,I [d,f] e -> aI .lss d f (zc .add d f λl=>zJ .u64 l λm=>zc .shr m (.int .u64 1) λn=>zJ .i64 n λg=>zl 2 a g λo=>ze 2 o e λp=>zS Tryz.prog r_ c [p,b] e λq h=>aI .lss q (ai 0) (zc .add g (ai 1) λk=>I [k,f] h/\μ [k,f] h<μ [d,f] e) (I [d,g] h/\μ [d,g] h<μ [d,f] e)) (aI .lss d j (zl 2 a d λr=>ze 2 r e λs=>zS Tryz.prog r_ c [s,b] e λt u=>zc .eql t (ai 0) λv=>R (.tuple #[d,v]) u) (R (.tuple #[d,(.bool false)]) e))
theorem h_x(h:RQ a b c w R):aF 331 [a,b,c] w R:=VJ [(3,[9,10],[0,1,2,8])] [] Tryz.func331 h
def aWp:Prop:=zd a λe=>kh 2 a (some b) (some c) (some e) λo=>aI .eql b c (R a w) (zd a λf=>zj w λg=>kh 2 a none (some b) none λh=>kh 2 a (some c) none none λj=>zx 2 24 [ai 0,gI] 66 h j g λd k=>zd d λl=>kh 2 d (some l) (some f) none λm=>zR Tryz.prog (Builtin.clear_ #[67] 0 [m].toArray) k λu n=>R d n)
theorem h_1(h:aWp a b c w R):aF 335 [a,b,c] w R:=c_ Tryz.func335 h
def JB:Prop:=aF 304 [a] w λe f=>aF 304 [b] f λd c=>iy e (iy d (R (ai 0) c) (R (ai (-1)) c)) (iy d (R (ai 1) c) (aI .lss a b (R (ai (-1)) c) (aI .gtr a b (R (ai 1) c) (R (ai 0) c))))
theorem aF5(h:JB a b w R):aF 246 [a,b] w R:=c_ Tryz.func246 h
def JE:Prop:=zc .neq a a λb=>R b w
theorem aF7(h:JE a w R):aF 304 [a] w R:=c_ Tryz.func304 h
