/- Part of the proof (my own). -/
import Derived.Test.YtfenmffiidchcaaGreatQTab
namespace Go.Proofs.YtfenmffiidchcaaGreat
set_option linter.unusedVariables false
set_option maxRecDepth 100000
open Go.RowKit
variable (a b c d e f g h j k l m n o p : Value) (w : World) (R : Value -> World -> Prop)
def Ii:Prop:=zo [bF] [] λk=>∃f:List Value,k= .agg f.toArray/\zk f 250 w λg l=>zd a λm=>∃(I:IW) (μ:IM),I [(ai 0)] l /\∀(b:Value) c,I [b] c -> aF .lss b m (zh 2 a b λn=>zj 2 n c λo=>zk [ai 0,c_] 52 c λd p=>zl 2 d o p λe=>a_ 0 d e λq=>a_ 1 d e λr=>aw 217 [g,q,r] e λs h=>zc .add b (ai 1) λj=>I [j] h/\μ [j] h<μ [b] c) (R g c)
theorem bw6(h:Ii a w R):aw 136 [a] w R:=VJ [(3,[10],[3,8,9])] [] Tryz.func136 h
def IK:Prop:=aw 240 [a,b] w λe f=>ze 0 e λg=>ze 1 e λk=>∃I:IW,(dO k (zc .add g (ai 1) λl=>I [l] f) (I [g] f)) /\∀(h:Value) d,I [h] d -> bw 0 a d λm=>eG 2 m (some h) none none λj=>zd j λn=>YV c n λo=>QC o (ai 0) λp=>eG 2 j none (some p) none λq=>aw 170 [q] d λr s=>R r s
theorem bFx(h:IK a b c w R):aw 171 [a,b,c] w R:=VJ [] [(4,[7],[0,2])] Tryz.func171 h
def Jl:Prop:=aw 240 [a,b] w λe d=>ze 0 e λf=>ze 1 e λg=>dO g (bw 0 a d λh=>zh 2 h f λj=>zu 1 j λk=>fH k c d λl=>b7 R l) (bw 0 a d λm=>zo [ai 0,c_] [(0,1,b),(1,1,c)] λn=>zn (db [ai 0,c_] 1) [(0,2,n)] 52 1 d λo p=>aw 278 [m,f,o] p λq r=>dx 0 a q r λs=>R (.bool true) s)
theorem bIw(h:Jl a b c w R):aw 217 [a,b,c] w R:=dd Tryz.func217 h
def Js:Prop:=bw 0 a w λb=>zd b λc=>R c w
theorem bI3(h:Js a w R):aw 223 [a] w R:=dd Tryz.func223 h
def Jt:Prop:=aw 240 [a,b] w λd c=>ze 0 d λe=>ze 1 d λf=>dc f (R (.tuple #[(.string {data:=#[]}),(.bool false)]) c) (bw 0 a c λg=>zh 2 g e λh=>a_ 1 h c λj=>R (.tuple #[j,(.bool true)]) c)
theorem bI4(h:Jt a b w R):aw 224 [a,b] w R:=dd Tryz.func224 h
def JI:Prop:=bw 0 a w λd=>aw 297 [d,b,(.func (.func 298) #[] #[])] w λc e=>ze 0 c λf=>ze 1 c λg=>R (.tuple #[f,g]) e
theorem bRi(h:JI a b w R):aw 240 [a,b] w R:=dd Tryz.func240 h
def Ka:Prop:=aw 240 [a,b] w λe c=>ze 0 e λf=>ze 1 e λd=>dO d (bw 0 a c λg=>zc .add f (ai 1) λh=>aw 327 [g,f,h] c λj k=>dx 0 a j k λl=>R d l) (R d c)
theorem bWb(h:Ka a b w R):aw 283 [a,b] w R:=dd Tryz.func283 h
def Km:Prop:=∃c:List Value,a= .agg c.toArray/\zk c 52 w λe d=>a_ 0 e d λf=>aw 299 [f,b] d λg h=>R g h
theorem bWn(h:Km a b w R):aw 298 [a,b] w R:=dd Tryz.func298 h
def K5:Prop:=aF .lss a (ai 1) (R (.tuple #[dk,(ai 1)]) w) (aF .gtr a (ai 8) (R (.tuple #[dk,(ai 1)]) w) (zo [bF] [] λn=>∃g:List Value,n= .agg g.toArray/\zk g 165 w λd o=>∃(I:IW) (μ:IM),I [(ai 0)] o /\∀(b:Value) c,I [b] c -> aF .lss b a (zi c λh=>df 0 d λe=>cR e h λf=>aw 136 [bF] h λp j=>cF e j f <| zo [dk] [(0,1,p)] λq=>zn (db [dk] 1) [(0,1,q)] 162 1 j λr k=>cF e k f <| zt 1 8 [dk] 162 f r k λs t=>dx 0 d s t λl=>zc .add b (ai 1) λm=>I [m] l/\μ [m] l<μ [b] c) (R (.tuple #[d,(ai 0)]) c)))
theorem b5z(h:K5 a w R):aw 54 [a] w R:=VJ [(5,[14],[4,13])] [] Tryz.func54 h
def K9:Prop:=bw 0 a w λb=>zd b λc=>R c w
theorem b53(h:K9 a w R):aw 59 [a] w R:=dd Tryz.func59 h
def Ln:Prop:=aF .geq b (ai 0) (bw 0 a w λc=>zd c λd=>zc .lss b d λe=>R e w) (b7 R w)
theorem b6i(h:Ln a b w R):aw 81 [a,b] w R:=dd Tryz.func81 h
def Lo:Prop:=aw 81 [a,b] w λf e=>dc f (R bF e) (bw 0 a e λg=>zh 1 g b λh=>a_ 0 h e λj=>aw 171 [j,c,d] e λk l=>R k l)
theorem b6j(h:Lo a b c d w R):aw 83 [a,b,c,d] w R:=dd Tryz.func83 h
def Io:Prop:=aw 81 [a,b] w λj d=>dO j (zi d λe=>df 0 a λf=>cR f e λg=>aw 136 [c] e λk h=>cF f h g <| zo [dk] [(0,1,k)] λl=>zh 1 g b λm=>zl 1 m l h λn=>aw 81 [a,b] n λo p=>R o p) (aw 81 [a,b] d λq r=>R q r)
theorem bFb(h:Io a b c w R):aw 141 [a,b,c] w R:=dd Tryz.func141 h
def Ip:Prop:=aw 220 [a,b] w λk g=>dc k (b7 R g) (zd b λl=>∃(I:IW) (μ:IM),I [(ai 0)] g /\∀(c:Value) d,I [c] d -> aF .lss c l (zh 4 b c λm=>zj 4 m d λn=>zk [ai 0,ai 0,.bool false,c_] 82 d λf o=>zl 4 f n o λp=>zi p λe=>bw 0 a e λq=>a_ 0 f e λr=>zh 1 q r λs=>zj 1 s e λt=>zj 4 f e λu=>aw 221 [t,u] e λv h=>zc .add c (ai 1) λj=>I [j] h/\μ [j] h<μ [c] d) (R (.bool true) d))
theorem bFc(h:Ip a b w R):aw 142 [a,b] w R:=VJ [(4,[13],[0,11,12])] [] Tryz.func142 h
def Ir:Prop:=aw 220 [a,b] w λZ r=>dc Z (b7 R r) (bw 0 a r λα=>zd α λB=>sA [ai 0] 8 3 B B r λh C=>bw 0 a C λD=>zd D λβ=>∃(I:IW) (μ:IM),I [(ai 0)] C /\∀(l:Value) j,I [l] j -> aF .lss l β (zh 1 D l λγ=>zj 1 γ j λδ=>zk [dk] 162 j λE ε=>zl 1 E δ ε λG=>a_ 0 E G λζ=>aw 223 [ζ] G λη θ=>zh 1 h l λι=>fH ι η θ λH=>zc .add l (ai 1) λJ=>I [J] H/\μ [J] H<μ [l] j) (zd b λκ=>∃(m:IW) (f:IM),m [(ai 0)] (j.alloc (.map #[] 0)) /\∀(d:Value) g,m [d] g -> aF .lss d κ (zh 4 b d λν=>zj 4 ν g λξ=>zk [ai 0,ai 0,.bool false,c_] 82 g λe π=>zl 4 e ξ π λs=>a_ 0 e s λρ=>a_ 1 e s λσ=>zo [ai 0,ai 0] [(0,1,ρ),(1,1,σ)] λτ=>zk [ai 0,ai 0] 311 s λt φ=>zl 2 t τ φ λp=>zj 2 t p λχ=>ga Tryz.prog (Instr.lookup 309 (.map (some j.heap.size)) χ true) p λK=>ze 0 K λψ=>ze 1 K λω=>∃v:IW,(dc ω (zi p λn=>bw 0 a n λaa=>a_ 0 e n λab=>zh 1 aa ab λac=>a_ 0 ac n λad=>a_ 1 e n λae=>aw 224 [ad,ae] n λL af=>ze 0 L λaB=>ze 1 L λag=>v [ag] af) (v [ψ] p)) /\∀(x:Value) q,v [x] q -> zj 2 t q λah=>a_ 2 e q λaj=>Zi aj λak=>zZ Tryz.prog (do Instr.mapUpdate 309 (.map (some j.heap.size)) ah ak;pure undef) q λu y=>∃z:IW,(dO x (a_ 2 e y λal=>z [al] y) (z [(.bool false)] y)) /\∀(M:Value) c,z [M] c -> dO M (a_ 0 e c λN=>zh 1 h N λam=>cR am c λan=>zc .sub an (ai 1) λao=>zh 1 h N λap=>fH ap ao c λO=>zc .add d (ai 1) λP=>m [P] O/\f [P] O<f [d] g) (dc x (a_ 2 e c λaq=>dc aq (a_ 0 e c λQ=>zh 1 h Q λar=>cR ar c λau=>zc .add au (ai 1) λav=>zh 1 h Q λax=>fH ax av c λS=>zc .add d (ai 1) λT=>m [T] S/\f [T] S<f [d] g) (zc .add d (ai 1) λU=>m [U] c/\f [U] c<f [d] g)) (zc .add d (ai 1) λV=>m [V] c/\f [V] c<f [d] g))) (zd h λay=>∃(A:IW) (X:IM),A [(ai 0)] g /\∀(o:Value) k,A [o] k -> aF .lss o ay (zh 1 h o λaz=>cR az k λaA=>aF .gtr aA (ai 1000) (b7 R k) (zc .add o (ai 1) λY=>A [Y] k/\X [Y] k<X [o] k)) (R (.bool true) k))))
theorem bFe(h:Ir a b w R):aw 145 [a,b] w R:=VJ [(5,[31],[0,1,5,29,30]),(11,[46],[0,5,8,44,45]),(24,[114],[112,113])] [(17,[12],[0,5,8,10,11,44,45,46]),(19,[83],[0,5,8,10,12,44,45,46])] Tryz.func145 h
def Jp:Prop:=zd b λj=>∃(I:IW) (μ:IM),I [(ai 0)] w /\∀(c:Value) d,I [c] d -> aF .lss c j (zh 4 b c λk=>zj 4 k d λl=>zk [ai 0,ai 0,.bool false,c_] 82 d λf m=>zl 4 f l m λg=>a_ 0 f g λn=>aw 81 [a,n] g λo e=>dc o (b7 R e) (zc .add c (ai 1) λh=>I [h] e/\μ [h] e<μ [c] d)) (R (.bool true) d)
theorem bI0(h:Jp a b w R):aw 220 [a,b] w R:=VJ [(2,[9],[0,7,8])] [] Tryz.func220 h
def Jq:Prop:=∃e:List Value,a= .agg e.toArray/\zk e 162 w λf h=>∃g:List Value,b= .agg g.toArray/\zk g 82 h λd c=>a_ 2 d c λj=>dO j (a_ 0 f c λk=>a_ 1 d c λl=>aw 283 [k,l] c λr m=>R (.tuple #[]) m) (a_ 0 f c λn=>a_ 1 d c λo=>a_ 3 d c λp=>aw 217 [n,o,p] c λs q=>R (.tuple #[]) q)
theorem bI1(h:Jq a b w R):aw 221 [a,b] w R:=dd Tryz.func221 h
def J6:Prop:=eG 2 a (some b) none none λQ=>zd c λd=>aF .eql d (ai 0) (R a w) (zd a λf=>aF .eql b f (zt 2 24 [ai 0,c_] 52 a c w λj k=>R j k) (zc .add f d λl=>ga Tryz.prog (Builtin.cap_ #[53] 3 [a].toArray) w λm=>aF .gtr l m (eG 2 a none (some b) none λn=>zc .add f d λo=>zc .sub o b λp=>zZ Tryz.prog (Builtin.append_ #[53,3] 53 #[n,p]) w λg q=>eG 2 g (some b) none none λr=>zZ Tryz.prog (Builtin.copy_ #[53,53] 3 [r,c].toArray) q λS s=>zi s λt=>zc .add b d λu=>eG 2 g (some u) none none λv=>eG 2 a (some b) none none λx=>zZ Tryz.prog (Builtin.copy_ #[53,53] 3 [v,x].toArray) t λT y=>R g y) (zc .add f d λz=>eG 2 a none (some z) none λe=>zc .add b d λA=>eG 2 e (some A) none none λB=>qz Tryz.prog 323 [c,B] w λC h=>dc C (zi h λD=>zc .add b d λE=>eG 2 e (some E) none none λG=>eG 2 e (some b) none none λH=>zZ Tryz.prog (Builtin.copy_ #[53,53] 3 [G,H].toArray) D λU J=>eG 2 e (some b) none none λK=>zZ Tryz.prog (Builtin.copy_ #[53,53] 3 [K,c].toArray) J λV L=>R e L) (eG 2 e (some f) none none λM=>zZ Tryz.prog (Builtin.copy_ #[53,53] 3 [M,c].toArray) h λX N=>eG 2 e (some b) none none λO=>aw 324 [O,d] N λY P=>R e P))))
theorem bR5(h:J6 a b c w R):aw 278 [a,b,c] w R:=dd Tryz.func278 h
def Kl:Prop:=zd a λj=>∃(I:IW) (μ:IM),I [(ai 0),j] w /\∀(d f:Value) e,I [d,f] e -> aF .lss d f (zc .add d f λl=>zG .u64 l λm=>zc .shr m (.int .u64 1) λn=>zG .i64 n λg=>zh 2 a g λo=>zj 2 o e λp=>yK Tryz.prog rD c [p,b] e λq h=>aF .lss q (ai 0) (zc .add g (ai 1) λk=>I [k,f] h/\μ [k,f] h<μ [d,f] e) (I [d,g] h/\μ [d,g] h<μ [d,f] e)) (aF .lss d j (zh 2 a d λr=>zj 2 r e λs=>yK Tryz.prog rD c [s,b] e λt u=>zc .eql t (ai 0) λv=>R (.tuple #[d,v]) u) (R (.tuple #[d,(.bool false)]) e))
theorem bWm(h:Kl a b c w R):aw 297 [a,b,c] w R:=VJ [(3,[9,10],[0,1,2,8])] [] Tryz.func297 h
def TA:Prop:=zd a λe=>eG 2 a (some b) (some c) (some e) λo=>aF .eql b c (R a w) (zd a λf=>zi w λg=>eG 2 a none (some b) none λh=>eG 2 a (some c) none none λj=>zt 2 24 [ai 0,c_] 52 h j g λd k=>zd d λl=>eG 2 d (some l) (some f) none λm=>zZ Tryz.prog (Builtin.clear_ #[53] 0 [m].toArray) k λu n=>R d n)
theorem bW6(h:TA a b c w R):aw 327 [a,b,c] w R:=dd Tryz.func327 h
def Kn:Prop:=aw 343 [a] w λe f=>aw 343 [b] f λd c=>dO e (dO d (R (ai 0) c) (R (ai (-1)) c)) (dO d (R (ai 1) c) (aF .lss a b (R (ai (-1)) c) (aF .gtr a b (R (ai 1) c) (R (ai 0) c))))
theorem bWo(h:Kn a b w R):aw 299 [a,b] w R:=dd Tryz.func299 h
def KH:Prop:=zc .neq a a λb=>R b w
theorem b5c(h:KH a w R):aw 343 [a] w R:=dd Tryz.func343 h
end Go.Proofs.YtfenmffiidchcaaGreat
