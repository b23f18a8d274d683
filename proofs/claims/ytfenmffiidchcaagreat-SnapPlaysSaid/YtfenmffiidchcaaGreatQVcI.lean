/- Part of the proof (my own). -/
import Derived.Test.YtfenmffiidchcaaGreatQTab
namespace Go.Proofs.YtfenmffiidchcaaGreat
set_option linter.unusedVariables false
set_option maxRecDepth 100000
open Go.RowKit
variable (a b c d e f g h j k l m n o p : Value) (w : World) (R : Value -> World -> Prop)
def Kw:Prop:=zo [bR] [] λk=>∃f:List Value,k= .agg f.toArray/\zk f 250 w λg l=>zd a λm=>∃(I:IW) (μ:IM),I [(ai 0)] l /\∀(b:Value) c,I [b] c -> aF .lss b m (ze 2 a b λn=>zh 2 n c λo=>zk [ai 0,dw] 52 c λd p=>zl 2 d o p λe=>a_ 0 d e λq=>a_ 1 d e λr=>aw 217 [g,q,r] e λs h=>zc .add b (ai 1) λj=>I [j] h/\μ [j] h<μ [b] c) (R g c)
theorem cRo(h:Kw a w R):aw 136 [a] w R:=VJ [(3,[10],[3,8,9])] [] Tryz.func136 h
def K3:Prop:=aw 240 [a,b] w λe f=>zf 0 e λg=>zf 1 e λk=>∃I:IW,(g9 k (zc .add g (ai 1) λl=>I [l] f) (I [g] f)) /\∀(h:Value) d,I [h] d -> bF 0 a d λm=>iQ 2 m (some h) none none λj=>zd j λn=>qp c n λo=>qo o (ai 0) λp=>iQ 2 j none (some p) none λq=>aw 170 [q] d λr s=>R r s
theorem cWm(h:K3 a b c w R):aw 171 [a,b,c] w R:=VJ [] [(4,[7],[0,2])] Tryz.func171 h
def LL:Prop:=aw 240 [a,b] w λe d=>zf 0 e λf=>zf 1 e λg=>g9 g (bF 0 a d λh=>ze 2 h f λj=>zq 1 j λk=>jH k c d λl=>cw R l) (bF 0 a d λm=>zo [ai 0,dw] [(0,1,b),(1,1,c)] λn=>zm (cW [ai 0,dw] 1) [(0,2,n)] 52 1 d λo p=>aw 278 [m,f,o] p λq r=>fR 0 a q r λs=>R (.bool true) s)
theorem c_v(h:LL a b c w R):aw 217 [a,b,c] w R:=dF Tryz.func217 h
def LS:Prop:=bF 0 a w λb=>zd b λc=>R c w
theorem c_2(h:LS a w R):aw 223 [a] w R:=dF Tryz.func223 h
def LU:Prop:=aw 240 [a,b] w λd c=>zf 0 d λe=>zf 1 d λf=>dW f (R (.tuple #[(.string {data:=#[]}),(.bool false)]) c) (bF 0 a c λg=>ze 2 g e λh=>a_ 1 h c λj=>R (.tuple #[j,(.bool true)]) c)
theorem c_3(h:LU a b w R):aw 224 [a,b] w R:=dF Tryz.func224 h
def Mc:Prop:=bF 0 a w λd=>aw 297 [d,b,(.func (.func 298) #[] #[])] w λc e=>zf 0 c λf=>zf 1 c λg=>R (.tuple #[f,g]) e
theorem dwi(h:Mc a b w R):aw 240 [a,b] w R:=dF Tryz.func240 h
def MT:Prop:=aw 240 [a,b] w λe c=>zf 0 e λf=>zf 1 e λd=>g9 d (bF 0 a c λg=>zc .add f (ai 1) λh=>aw 327 [g,f,h] c λj k=>fR 0 a j k λl=>R d l) (R d c)
theorem dFo(h:MT a b w R):aw 283 [a,b] w R:=dF Tryz.func283 h
def M6:Prop:=∃c:List Value,a= .agg c.toArray/\zk c 52 w λe d=>a_ 0 e d λf=>aw 299 [f,b] d λg h=>R g h
theorem dF0(h:M6 a b w R):aw 298 [a,b] w R:=dF Tryz.func298 h
def N0:Prop:=aF .lss a (ai 1) (R (.tuple #[gw,(ai 1)]) w) (aF .gtr a (ai 8) (R (.tuple #[gw,(ai 1)]) w) (zo [bR] [] λn=>∃g:List Value,n= .agg g.toArray/\zk g 165 w λd o=>∃(I:IW) (μ:IM),I [(ai 0)] o /\∀(b:Value) c,I [b] c -> aF .lss b a (zj c λh=>d_ 0 d λe=>cI e h λf=>aw 136 [bR] h λp j=>aW e j f <| zo [gw] [(0,1,p)] λq=>zm (cW [gw] 1) [(0,1,q)] 162 1 j λr k=>aW e k f <| zr 1 8 [gw] 162 f r k λs t=>fR 0 d s t λl=>zc .add b (ai 1) λm=>I [m] l/\μ [m] l<μ [b] c) (R (.tuple #[d,(ai 0)]) c)))
theorem dRq(h:N0 a w R):aw 54 [a] w R:=VJ [(5,[14],[4,13])] [] Tryz.func54 h
def N5:Prop:=bF 0 a w λb=>zd b λc=>R c w
theorem dRu(h:N5 a w R):aw 59 [a] w R:=dF Tryz.func59 h
def Om:Prop:=aF .geq b (ai 0) (bF 0 a w λc=>zd c λd=>zc .lss b d λe=>R e w) (cw R w)
theorem dWd(h:Om a b w R):aw 81 [a,b] w R:=dF Tryz.func81 h
def On:Prop:=aw 81 [a,b] w λf e=>dW f (R bR e) (bF 0 a e λg=>ze 1 g b λh=>a_ 0 h e λj=>aw 171 [j,c,d] e λk l=>R k l)
theorem dWe(h:On a b c d w R):aw 83 [a,b,c,d] w R:=dF Tryz.func83 h
def KB:Prop:=aw 81 [a,b] w λj d=>g9 j (zj d λe=>d_ 0 a λf=>cI f e λg=>aw 136 [c] e λk h=>aW f h g <| zo [gw] [(0,1,k)] λl=>ze 1 g b λm=>zl 1 m l h λn=>aw 81 [a,b] n λo p=>R o p) (aw 81 [a,b] d λq r=>R q r)
theorem cRt(h:KB a b c w R):aw 141 [a,b,c] w R:=dF Tryz.func141 h
def KC:Prop:=aw 220 [a,b] w λk g=>dW k (cw R g) (zd b λl=>∃(I:IW) (μ:IM),I [(ai 0)] g /\∀(c:Value) d,I [c] d -> aF .lss c l (ze 4 b c λm=>zh 4 m d λn=>zk [ai 0,ai 0,.bool false,dw] 82 d λf o=>zl 4 f n o λp=>zj p λe=>bF 0 a e λq=>a_ 0 f e λr=>ze 1 q r λs=>zh 1 s e λt=>zh 4 f e λu=>aw 221 [t,u] e λv h=>zc .add c (ai 1) λj=>I [j] h/\μ [j] h<μ [c] d) (R (.bool true) d))
theorem cRu(h:KC a b w R):aw 142 [a,b] w R:=VJ [(4,[13],[0,11,12])] [] Tryz.func142 h
def KF:Prop:=aw 220 [a,b] w λZ r=>dW Z (cw R r) (bF 0 a r λα=>zd α λB=>Ai [ai 0] 8 3 B B r λh C=>bF 0 a C λD=>zd D λβ=>∃(I:IW) (μ:IM),I [(ai 0)] C /\∀(l:Value) j,I [l] j -> aF .lss l β (ze 1 D l λγ=>zh 1 γ j λδ=>zk [gw] 162 j λE ε=>zl 1 E δ ε λG=>a_ 0 E G λζ=>aw 223 [ζ] G λη θ=>ze 1 h l λι=>jH ι η θ λH=>zc .add l (ai 1) λJ=>I [J] H/\μ [J] H<μ [l] j) (zd b λκ=>∃(m:IW) (f:IM),m [(ai 0)] (j.alloc (.map #[] 0)) /\∀(d:Value) g,m [d] g -> aF .lss d κ (ze 4 b d λν=>zh 4 ν g λξ=>zk [ai 0,ai 0,.bool false,dw] 82 g λe π=>zl 4 e ξ π λs=>a_ 0 e s λρ=>a_ 1 e s λσ=>zo [ai 0,ai 0] [(0,1,ρ),(1,1,σ)] λτ=>zk [ai 0,ai 0] 311 s λt φ=>zl 2 t τ φ λp=>zh 2 t p λχ=>jZ Tryz.prog (Instr.lookup 309 (.map (some j.heap.size)) χ true) p λK=>zf 0 K λψ=>zf 1 K λω=>∃v:IW,(dW ω (zj p λn=>bF 0 a n λaa=>a_ 0 e n λab=>ze 1 aa ab λac=>a_ 0 ac n λad=>a_ 1 e n λae=>aw 224 [ad,ae] n λL af=>zf 0 L λaB=>zf 1 L λag=>v [ag] af) (v [ψ] p)) /\∀(x:Value) q,v [x] q -> zh 2 t q λah=>a_ 2 e q λaj=>y0 aj λak=>z7 Tryz.prog (do Instr.mapUpdate 309 (.map (some j.heap.size)) ah ak;pure undef) q λu y=>∃z:IW,(g9 x (a_ 2 e y λal=>z [al] y) (z [(.bool false)] y)) /\∀(M:Value) c,z [M] c -> g9 M (a_ 0 e c λN=>ze 1 h N λam=>cI am c λan=>zc .sub an (ai 1) λao=>ze 1 h N λap=>jH ap ao c λO=>zc .add d (ai 1) λP=>m [P] O/\f [P] O<f [d] g) (dW x (a_ 2 e c λaq=>dW aq (a_ 0 e c λQ=>ze 1 h Q λar=>cI ar c λau=>zc .add au (ai 1) λav=>ze 1 h Q λax=>jH ax av c λS=>zc .add d (ai 1) λT=>m [T] S/\f [T] S<f [d] g) (zc .add d (ai 1) λU=>m [U] c/\f [U] c<f [d] g)) (zc .add d (ai 1) λV=>m [V] c/\f [V] c<f [d] g))) (zd h λay=>∃(A:IW) (X:IM),A [(ai 0)] g /\∀(o:Value) k,A [o] k -> aF .lss o ay (ze 1 h o λaz=>cI az k λaA=>aF .gtr aA (ai 1000) (cw R k) (zc .add o (ai 1) λY=>A [Y] k/\X [Y] k<X [o] k)) (R (.bool true) k))))
theorem cRx(h:KF a b w R):aw 145 [a,b] w R:=VJ [(5,[31],[0,1,5,29,30]),(11,[46],[0,5,8,44,45]),(24,[114],[112,113])] [(17,[12],[0,5,8,10,11,44,45,46]),(19,[83],[0,5,8,10,12,44,45,46])] Tryz.func145 h
def LP:Prop:=zd b λj=>∃(I:IW) (μ:IM),I [(ai 0)] w /\∀(c:Value) d,I [c] d -> aF .lss c j (ze 4 b c λk=>zh 4 k d λl=>zk [ai 0,ai 0,.bool false,dw] 82 d λf m=>zl 4 f l m λg=>a_ 0 f g λn=>aw 81 [a,n] g λo e=>dW o (cw R e) (zc .add c (ai 1) λh=>I [h] e/\μ [h] e<μ [c] d)) (R (.bool true) d)
theorem c_z(h:LP a b w R):aw 220 [a,b] w R:=VJ [(2,[9],[0,7,8])] [] Tryz.func220 h
def LQ:Prop:=∃e:List Value,a= .agg e.toArray/\zk e 162 w λf h=>∃g:List Value,b= .agg g.toArray/\zk g 82 h λd c=>a_ 2 d c λj=>g9 j (a_ 0 f c λk=>a_ 1 d c λl=>aw 283 [k,l] c λr m=>R (.tuple #[]) m) (a_ 0 f c λn=>a_ 1 d c λo=>a_ 3 d c λp=>aw 217 [n,o,p] c λs q=>R (.tuple #[]) q)
theorem c_0(h:LQ a b w R):aw 221 [a,b] w R:=dF Tryz.func221 h
def MM:Prop:=iQ 2 a (some b) none none λQ=>zd c λd=>aF .eql d (ai 0) (R a w) (zd a λf=>aF .eql b f (zr 2 24 [ai 0,dw] 52 a c w λj k=>R j k) (zc .add f d λl=>jZ Tryz.prog (Builtin.cap_ #[53] 3 [a].toArray) w λm=>aF .gtr l m (iQ 2 a none (some b) none λn=>zc .add f d λo=>zc .sub o b λp=>z7 Tryz.prog (Builtin.append_ #[53,3] 53 #[n,p]) w λg q=>iQ 2 g (some b) none none λr=>z7 Tryz.prog (Builtin.copy_ #[53,53] 3 [r,c].toArray) q λS s=>zj s λt=>zc .add b d λu=>iQ 2 g (some u) none none λv=>iQ 2 a (some b) none none λx=>z7 Tryz.prog (Builtin.copy_ #[53,53] 3 [v,x].toArray) t λT y=>R g y) (zc .add f d λz=>iQ 2 a none (some z) none λe=>zc .add b d λA=>iQ 2 e (some A) none none λB=>Qu Tryz.prog 323 [c,B] w λC h=>dW C (zj h λD=>zc .add b d λE=>iQ 2 e (some E) none none λG=>iQ 2 e (some b) none none λH=>z7 Tryz.prog (Builtin.copy_ #[53,53] 3 [G,H].toArray) D λU J=>iQ 2 e (some b) none none λK=>z7 Tryz.prog (Builtin.copy_ #[53,53] 3 [K,c].toArray) J λV L=>R e L) (iQ 2 e (some f) none none λM=>z7 Tryz.prog (Builtin.copy_ #[53,53] 3 [M,c].toArray) h λX N=>iQ 2 e (some b) none none λO=>aw 324 [O,d] N λY P=>R e P))))
theorem dFi(h:MM a b c w R):aw 278 [a,b,c] w R:=dF Tryz.func278 h
def M5:Prop:=zd a λj=>∃(I:IW) (μ:IM),I [(ai 0),j] w /\∀(d f:Value) e,I [d,f] e -> aF .lss d f (zc .add d f λl=>zG .u64 l λm=>zc .shr m (.int .u64 1) λn=>zG .i64 n λg=>ze 2 a g λo=>zh 2 o e λp=>zZ Tryz.prog pW c [p,b] e λq h=>aF .lss q (ai 0) (zc .add g (ai 1) λk=>I [k,f] h/\μ [k,f] h<μ [d,f] e) (I [d,g] h/\μ [d,g] h<μ [d,f] e)) (aF .lss d j (ze 2 a d λr=>zh 2 r e λs=>zZ Tryz.prog pW c [s,b] e λt u=>zc .eql t (ai 0) λv=>R (.tuple #[d,v]) u) (R (.tuple #[d,(.bool false)]) e))
theorem dFz(h:M5 a b c w R):aw 297 [a,b,c] w R:=VJ [(3,[9,10],[0,1,2,8])] [] Tryz.func297 h
def VX:Prop:=zd a λe=>iQ 2 a (some b) (some c) (some e) λo=>aF .eql b c (R a w) (zd a λf=>zj w λg=>iQ 2 a none (some b) none λh=>iQ 2 a (some c) none none λj=>zr 2 24 [ai 0,dw] 52 h j g λd k=>zd d λl=>iQ 2 d (some l) (some f) none λm=>z7 Tryz.prog (Builtin.clear_ #[53] 0 [m].toArray) k λu n=>R d n)
theorem dIs(h:VX a b c w R):aw 327 [a,b,c] w R:=dF Tryz.func327 h
def M7:Prop:=aw 343 [a] w λe f=>aw 343 [b] f λd c=>g9 e (g9 d (R (ai 0) c) (R (ai (-1)) c)) (g9 d (R (ai 1) c) (aF .lss a b (R (ai (-1)) c) (aF .gtr a b (R (ai 1) c) (R (ai 0) c))))
theorem dF1(h:M7 a b w R):aw 299 [a,b] w R:=dF Tryz.func299 h
def Nz:Prop:=zc .neq a a λb=>R b w
theorem dIz(h:Nz a w R):aw 343 [a] w R:=dF Tryz.func343 h
end Go.Proofs.YtfenmffiidchcaaGreat
