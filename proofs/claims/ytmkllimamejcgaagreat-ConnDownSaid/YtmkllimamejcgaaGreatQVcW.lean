/- Part. -/
import Derived.Test.YtmkllimamejcgaaGreatQTab
namespace Go.Proofs.YtmkllimamejcgaaGreat
set_option linter.all false
set_option maxRecDepth 100000
open Go.RowKit
variable (a b c d e f g h j k l m n o p : Value) (w : World) (R : Value -> World -> Prop)
def NN:Prop:=zd a λf=>∃(I:IW) (μ:IM),I [(ai 0)] w /\∀(c:Value) b,I [c] b -> aI .lss c f (zk 1 a c λg=>cn g b λd=>aI .neq d (ai 0) (R d b) (zc .add c (ai 1) λe=>I [e] b/\μ [e] b<μ [c] b)) (R (ai 0) b)
theorem cH1(h:NN a w R):aF 245 [a] w R:=VJ [(3,[8],[3,6,7])] [] Tryz.func245 h
def NO:Prop:=aF 305 [a] w λe f=>aF 305 [b] f λd c=>dm e (dm d (R (ai 0) c) (R (ai (-1)) c)) (dm d (R (ai 1) c) (aI .lss a b (R (ai (-1)) c) (aI .gtr a b (R (ai 1) c) (R (ai 0) c))))
theorem cH2(h:NO a b w R):aF 247 [a,b] w R:=cw Tryz.func247 h
def Oy:Prop:=zc .neq a a λb=>R b w
theorem cJa(h:Oy a w R):aF 305 [a] w R:=cw Tryz.func305 h
def M_:Prop:=zm [bI,ai 0,.bool false,ai 0] [] λb=>∃a:List Value,b= .agg a.toArray/\zh a 402 w λc d=>R c d
theorem cG0(h:M_ w R):aF 207 [] w R:=cw Tryz.func207 h
def Ny:Prop:=bU 0 a w λk=>zd k λl=>aI .eql l (ai 0) (R (.tuple #[(ai 0),(.bool false)]) w) (∃I:IW,(bU 2 a w λm=>dm m (bU 3 a w λn=>aI .eql n (ai 0) (bU 1 a w λo=>zc .add o (ai 1) λp=>cV 1 a p w λq=>cV 2 a (.bool false) q λr=>I [] r) (I [] w)) (I [] w)) /\∀b,I [] b -> ∃f:IW,(bU 2 a b λs=>cL s (∃g:IW,(zi b λc=>bU 1 a c λt=>bU 0 a c λu=>zd u λv=>aI .geq t v (cV 1 a (ai 0) c λx=>g [] x) (g [] c)) /\∀j,g [] j -> zi j λd=>bU 0 a d λy=>bU 1 a d λz=>zk 2 y z λA=>zl 0 A λB=>a_ 0 B d λC=>cV 2 a (.bool true) d λD=>cV 3 a C D λE=>f [] E) (f [] b)) /\∀h,f [] h -> bU 3 a h λG=>zc .sub G (ai 1) λH=>cV 3 a H h λJ=>zi J λe=>bU 0 a e λK=>bU 1 a e λL=>zk 2 K L λM=>a_ 1 M e λN=>R (.tuple #[N,(.bool true)]) e)
theorem cHn(h:Ny a w R):aF 230 [a] w R:=VJ [] [(6,[],[0]),(10,[],[0]),(9,[],[0])] Tryz.func230 h
def Oo:Prop:=aF 341 [a,b] w λd e=>aI .lss d (ai 0) (R (ai 5) e) (bU 0 a e λf=>zc .add d (ai 1) λg=>aF 342 [f,d,g] e λh j=>cV 0 a h j λc=>bU 1 a c λk=>aI .lss d k (bU 1 a c λl=>zc .sub l (ai 1) λm=>cV 1 a m c λn=>R (ai 0) n) (bU 1 a c λo=>aI .eql d o (cV 2 a (.bool false) c λp=>R (ai 0) p) (R (ai 0) c)))
theorem cI3(h:Oo a b w R):aF 296 [a,b] w R:=cw Tryz.func296 h
def Oq:Prop:=aI .lss b (ai 1) (R (ai 1) w) (aI .gtr b (ai 64) (R (ai 1) w) (aI .lss c (ai 1) (R (ai 1) w) (aI .gtr c (ai 8) (R (ai 1) w) (aF 341 [a,b] w λe d=>aI .geq e (ai 0) (R (ai 6) d) (bU 0 a d λf=>zm [ai 0] [(0,1,c)] λg=>zm [ai 0,ai 0] [(0,1,g),(1,1,b)] λh=>zn (cK [ai 0,ai 0] 1) [(0,2,h)] 418 1 d λj k=>zx 2 16 [ai 0,ai 0] 418 f j k λl m=>cV 0 a l m λn=>R (ai 0) n)))))
theorem cI4(h:Oq a b c w R):aF 297 [a,b,c] w R:=cw Tryz.func297 h
def OZ:Prop:=(b).oneCell'=true/\zh [b] 3 w λd c=>bU 0 a c λe=>aF 373 [e,(.func (.func 374) [].toArray [d].toArray)] c λf g=>R f g
theorem cJ4(h:OZ a b w R):aF 341 [a,b] w R:=cw Tryz.func341 h
def O_:Prop:=∃d:List Value,a= .agg d.toArray/\zh d 418 w λe c=>a_ 1 e c λf=>cn b c λg=>zc .eql f g λh=>R h c
theorem cKl(h:O_ a b w R):aF 374 [a,b] w R:=cw Tryz.func374 h
def Px:Prop:=bU 8 a w λb=>R b w
theorem cK7(h:Px a w R):aF 55 [a] w R:=cw Tryz.func55 h
def Py:Prop:=bV 0 a λb=>a_ 4 b w λc=>aF 103 [c] w λd e=>R d e
theorem cK8(h:Py a w R):aF 56 [a] w R:=cw Tryz.func56 h
def Ly:Prop:=∃d:List Value,b= .agg d.toArray/\zh d 101 w λe f=>zi f λc=>a_ 1 e c λg=>aI .eql g (ai 2) (a_ 4 e c λh=>bV 0 a λj=>a_ 0 j c λk=>aI .eql h k (bU 8 a c λl=>aI .eql l (ai 1) (R (.bool true) c) (bU 8 a c λm=>zc .eql m (ai 2) λn=>R n c)) (bY R c)) (bY R c)
theorem cEg(h:Ly a b w R):aF 106 [a,b] w R:=cw Tryz.func106 h
def MB:Prop:=bU 8 a w λm=>aI .neq m (ai 1) (bY R w) (zd b λn=>bU 7 a w λo=>aI .gtr n o (bY R w) (bV 0 a λp=>a_ 1 p w λq=>zd b λr=>∃(I:IW) (μ:IM),I [q,(ai 0)] w /\∀(g d:Value) e,I [g,d] e -> aI .lss d r (zk 2 b d λs=>zg 2 s e λt=>zh [ai 0,cQ] 66 e λf u=>zj 2 f t u λc=>a_ 0 f c λv=>aI .leq v g (bY R c) (a_ 0 f c λx=>aI .gtr x (ai 1099511627776) (bY R c) (a_ 0 f c λj=>zc .add d (ai 1) λk=>I [j,k] c/\μ [j,k] c<μ [g,d] e))) (aF 103 [b] e λy z=>bV 0 a λA=>zl 4 A λB=>eH B y z λC=>cV 8 a (ai 2) C λD=>zi D λh=>bV 0 a λE=>a_ 1 E h λG=>bU 7 a h λH=>aF 233 [G,H,b] h λl J=>zf 0 l λK=>zf 1 l λL=>bV 0 a λM=>zl 5 M λN=>eH N K J λO=>bV 0 a λP=>zl 6 P λQ=>eH Q L O λS=>R (.bool true) S)))
theorem cF3(h:MB a b w R):aF 171 [a,b] w R:=VJ [(5,[5,29],[0,1,27,28])] [] Tryz.func171 h
def MD:Prop:=bV 0 a λb=>a_ 3 b w λc=>R c w
theorem cF5(h:MD a w R):aF 173 [a] w R:=cw Tryz.func173 h
def ME:Prop:=bV 0 a λb=>a_ 1 b w λc=>R c w
theorem cF6(h:ME a w R):aF 174 [a] w R:=cw Tryz.func174 h
def M9:Prop:=aI .lss a (ai 1) (R (.tuple #[cT,(ai 1)]) w) (aI .gtr a (ai 64) (R (.tuple #[cT,(ai 1)]) w) (zm [ai 0,ai 0,ai 0,ai 0,bI,ai 0,.bool false,ai 0,ai 0] [(7,1,a)] λc=>∃b:List Value,c= .agg b.toArray/\zh b 192 w λd e=>R (.tuple #[d,(ai 0)]) e))
theorem cGz(h:M9 a w R):aF 206 [a] w R:=cw Tryz.func206 h
def Nu:Prop:=bU 8 a w λc=>aI .neq c (ai 3) (bY R w) (bV 0 a λd=>a_ 0 d w λe=>aI .neq b e (bY R w) (cV 8 a (ai 4) w λf=>R (.bool true) f))
theorem cHj(h:Nu a b w R):aF 226 [a,b] w R:=cw Tryz.func226 h
def NA:Prop:=bU 8 a w λf=>aI .neq f (ai 0) (bY R w) (aI .lss b (ai 1) (bY R w) (aI .gtr b (ai 1099511627776) (bY R w) (aI .lss c (ai 1) (bY R w) (aI .gtr c (ai 64) (bY R w) (aI .lss d (ai 0) (bY R w) (aI .geq d (ai 8) (bY R w) (aI .lss e (ai 0) (bY R w) (aI .gtr e (ai 1099511627776) (bY R w) (zm [ai 0,ai 0,ai 0,ai 0,bI,ai 0,.bool false] [(0,1,b),(2,1,c),(3,1,d),(1,1,e)] λg=>bV 0 a λh=>zj 7 h g w λj=>cV 8 a (ai 1) j λk=>R (.bool true) k)))))))))
theorem cHp(h:NA a b c d e w R):aF 232 [a,b,c,d,e] w R:=cw Tryz.func232 h
def ND:Prop:=bV 0 a λb=>a_ 0 b w λc=>R c w
theorem cHs(h:ND a w R):aF 235 [a] w R:=cw Tryz.func235 h
def NF:Prop:=bU 8 a w λb=>aI .neq b (ai 2) (bY R w) (cV 8 a (ai 3) w λc=>R (.bool true) c)
theorem cHt(h:NF a w R):aF 236 [a] w R:=cw Tryz.func236 h
def Ol:Prop:=bU 8 a w λk=>aI .neq k (ai 4) (R (ai 0) w) (bV 0 a λl=>a_ 4 l w λm=>zd m λn=>zd b λo=>∃(I:IW) (μ:IM),I [(ai 0)] w /\∀(c:Value) d,I [c] d -> aI .lss c o (zk 4 b c λp=>zg 4 p d λq=>zh [ai 0,ai 0,.bool false,cQ] 56 d λf r=>zj 4 f q r λs=>zi s λe=>a_ 0 f e λt=>bV 0 a λu=>a_ 3 u e λv=>aI .eql t v (bV 0 a λx=>a_ 4 x e λy=>aF 338 [y,(.func (.func 339) [].toArray [f].toArray)] e λz A=>bV 0 a λB=>zl 4 B λC=>eH C z A λg=>zc .add c (ai 1) λh=>I [h] g/\μ [h] g<μ [c] d) (zc .add c (ai 1) λj=>I [j] e/\μ [j] e<μ [c] d)) (bV 0 a λD=>a_ 4 D d λE=>zd E λG=>zc .sub n G λH=>R H d))
theorem cI0(h:Ol a b w R):aF 293 [a,b] w R:=VJ [(5,[21],[0,5,19,20])] [] Tryz.func293 h
def Ch(a:Value)(c:World)(R:Value->World->Prop):Prop:=zm [ai 0,bI,bI] [] λd=>zj 3 a d c λb=>zg 3 a b λr=>R (.tuple #[r,(.bool false)]) b
def Om:Prop:=zh [ai 0,bI,bI] 214 w λe d=>bU 8 a d λJ=>aI .neq J (ai 4) (Ch e d R) (bV 0 a λK=>a_ 0 K d λL=>aI .neq b L (Ch e d R) (aI .lss c (ai 1) (Ch e d R) (aI .gtr c (ai 1099511627776) (Ch e d R) (∃I:IW,(zi d λf=>bV 0 a λM=>zl 2 M λp=>cn p f λq=>bV 0 a λN=>zl 5 N λr=>cn r f λs=>bV 0 a λO=>zl 6 O λt=>cn t f λu=>zm [ai 0,ai 0,ai 0,ai 0,ai 0,ai 0,.bool false] [(0,1,(ai 2)),(1,1,q),(5,1,s),(6,1,u)] λv=>(zn (cK [ai 0,ai 0,ai 0,ai 0,ai 0,ai 0,.bool false] 1) [(0,7,v)] 393 1 f λP Q=>zm [ai 0,bI,bI] [(0,1,c),(2,1,P)] λS=>zh [ai 0,bI,bI] 214 Q λx T=>zj 3 x S T λU=>I [x] U)/\(zh [ai 0,bI,bI] 214 f λy k=>aR p k q <| aR r k s <| aR t k u <| zn (cK [ai 0,ai 0,ai 0,ai 0,ai 0,ai 0,.bool false] 1) [(0,7,v)] 393 1 k λV X=>zm [ai 0,bI,bI] [(0,1,c),(2,1,V)] λY=>zj 3 y Y X λZ=>I [y] Z))/\∀(l:Value) m,I [l] m->bV 0 a λα=>a_ 4 α m λz=>zd z λβ=>∃(n:IW) (μ:IM),n [(ai 0)] m/\∀(g:Value) h,n [g] h->aI .lss g β (zk 2 z g λγ=>zg 2 γ h λδ=>zh [ai 0,cQ] 66 h λo ε=>zj 2 o δ ε λζ=>zi ζ λj=>zl 1 l λA=>cn A j λB=>bV 0 a λη=>a_ 3 η j λθ=>a_ 0 o j λι=>a_ 1 o j λκ=>zm [ai 0,ai 0,ai 0,.bool false,cQ] [(0,1,c),(1,1,θ),(2,1,ι),(4,1,κ)] λν=>zn (cK [ai 0,ai 0,ai 0,.bool false,cQ] 1) [(0,5,ν)] 390 1 j λξ C=>aR A C B <| zx 5 48 [ai 0,ai 0,ai 0,.bool false,cQ] 390 B ξ C λπ ρ=>zl 1 l λσ=>eH σ π ρ λD=>zc .add g (ai 1) λE=>n [E] D/\μ [E] D<μ [g] h) (zm [ai 0,ai 0,ai 0,ai 0,bI,ai 0,.bool false] [] λτ=>bV 0 a λφ=>zj 7 φ τ h λχ=>cV 8 a (ai 0) χ λG=>zg 3 l G λψ=>zj 3 e ψ G λH=>zg 3 e H λω=>R (.tuple #[ω,(.bool true)]) H)))))
theorem cI1(h:Om a b c w R):aF 294 [a,b,c] w R:=VJ [(5,[59],[0,2,6,8,57,58])] [(4,[8],[0,2,6])] Tryz.func294 h
def OW:Prop:=∃d:List Value,a= .agg d.toArray/\zh d 66 w λe c=>a_ 0 e c λf=>a_ 1 b c λg=>zc .eql f g λh=>R h c
theorem cJ1(h:OW a b w R):aF 339 [a,b] w R:=cw Tryz.func339 h
def Pp:Prop:=∃b:List Value,a= .agg b.toArray/\zh b 119 w λd c=>a_ 0 d c λe=>R e c
theorem cKz(h:Pp a w R):aF 46 [a] w R:=cw Tryz.func46 h
def Pu:Prop:=bU 3 a w λb=>R b w
theorem cK4(h:Pu a w R):aF 51 [a] w R:=cw Tryz.func51 h
def PE:Prop:=∃d:List Value,a= .agg d.toArray/\zh d 119 w λf g=>∃e:List Value,b= .agg e.toArray/\zh e 101 g λh c=>a_ 0 f c λj=>zg 5 h c λk=>aF 106 [j,k] c λl m=>R l m
theorem cLe(h:PE a b w R):aF 63 [a,b] w R:=cw Tryz.func63 h
def PR:Prop:=bU 4 a w λb=>aF 85 [b] w λc d=>R c d
theorem cLp(h:PR a w R):aF 75 [a] w R:=cw Tryz.func75 h
def Mc:Prop:=aI .lss a (ai 1) (R (.tuple #[cT,(ai 1)]) w) (aI .gtr a (ai 8) (R (.tuple #[cT,(ai 1)]) w) (aI .lss b (ai 0) (R (.tuple #[cT,(ai 1)]) w) (zc .shl (ai 1) a λl=>aI .geq b l (R (.tuple #[cT,(ai 1)]) w) (aI .lss d (ai 0) (R (.tuple #[cT,(ai 1)]) w) (aI .gtr d (ai 1099511627776) (R (.tuple #[cT,(ai 1)]) w) (aF 205 [e,a,d] w λm f=>cL m (R (.tuple #[cT,(ai 1)]) f) (aF 206 [c] f λg h=>zf 0 g λn=>zf 1 g λj=>aI .neq j (ai 0) (R (.tuple #[cT,j]) h) (zm [cT] [(0,1,n)] λo=>aF 85 [e] h λp q=>zm [cT,ai 0,ai 0,ai 0,bI] [(0,1,o),(1,1,a),(2,1,b),(3,1,d),(4,1,p)] λr=>∃k:List Value,r= .agg k.toArray/\zh k 121 q λs t=>R (.tuple #[s,(ai 0)]) t))))))))
theorem cFe(h:Mc a b c d e w R):aF 148 [a,b,c,d,e] w R:=cw Tryz.func148 h
def Mw:Prop:=∃j:List Value,b= .agg j.toArray/\zh j 101 w λd v=>zh [ai 0,bI,bI] 214 v λc k=>zg 5 d k λx=>aF 108 [x] k λy l=>cL y (zm [ai 0,bI,bI] [] λz=>zj 3 c z l λm=>zg 3 c m λr=>R (.tuple #[r,(ai 1)]) m) (zi l λe=>a_ 0 d e λA=>bU 3 a e λB=>zc .add B (ai 1) λC=>aI .neq A C (zm [ai 0,bI,bI] [] λD=>zj 3 c D e λn=>zg 3 c n λE=>R (.tuple #[E,(ai 10)]) n) (bV 0 a λG=>zg 1 G e λH=>zg 5 d e λJ=>aF 63 [H,J] e λK g=>dm K (zm [ai 0,bI,bI] [] λL=>zj 3 c L g λo=>zg 3 c o λM=>R (.tuple #[M,(ai 10)]) o) (a_ 0 d g λN=>cV 3 a N g λf=>a_ 1 d f λp=>aI .eql p (ai 1) (zg 5 d f λO=>aF 224 [a,O] f λP Q=>zj 3 c P Q λq=>zg 3 c q λS=>R (.tuple #[S,(ai 0)]) q) (aI .eql p (ai 3) (zg 5 d f λT=>aF 225 [a,T] f λU V=>zj 3 c U V λs=>zg 3 c s λX=>R (.tuple #[X,(ai 0)]) s) (zi f λh=>bV 0 a λY=>a_ 0 Y h λZ=>a_ 4 d h λα=>aF 226 [Z,α] h λε t=>a_ 0 d t λβ=>zm [ai 0,bI,bI] [(0,1,β)] λγ=>zj 3 c γ t λu=>zg 3 c u λδ=>R (.tuple #[δ,(ai 0)]) u)))))
theorem cFy(h:Mw a b w R):aF 167 [a,b] w R:=cw Tryz.func167 h
def M8:Prop:=zd a λj=>∃(I:IW) (μ:IM),I [(ai 0)] w /\∀(e:Value) f,I [e] f -> aI .lss e j (zk 7 a e λk=>zg 7 k f λl=>zh [ai 0,ai 0,ai 0,ai 0,ai 0,ai 0,.bool false] 98 f λg m=>zj 7 g l m λd=>a_ 1 g d λn=>aI .geq n b (bY R d) (a_ 3 g d λo=>aI .gtr o c (bY R d) (zc .add e (ai 1) λh=>I [h] d/\μ [h] d<μ [e] f))) (aF 279 [a] f λp q=>R p q)
theorem cGy(h:M8 a b c w R):aF 205 [a,b,c] w R:=VJ [(2,[11],[0,1,2,9,10])] [] Tryz.func205 h
def Ns:Prop:=∃p:List Value,b= .agg p.toArray/\zh p 101 w λe K=>zh [ai 0,bI,bI] 214 K λq s=>a_ 0 e s λL=>zm [ai 0,bI,bI] [(0,1,L)] λM=>zh [ai 0,bI,bI] 214 s λf N=>zj 3 f M N λt=>a_ 3 e t λu=>zd u λO=>∃(I:IW) (μ:IM),I [(ai 0)] t /\∀(k:Value) g,I [k] g -> aI .lss k O (zk 1 u k λP=>cn P g λQ=>zi g λn=>zl 2 f λv=>cn v n λx=>a_ 0 e n λS=>aF 291 [a,Q,S] n λT y=>aR v y x <| zx 7 56 [ai 0,ai 0,ai 0,ai 0,ai 0,ai 0,.bool false] 393 x T y λU V=>zl 2 f λX=>eH X U V λz=>zc .add k (ai 1) λA=>I [A] z/\μ [A] z<μ [k] g) (a_ 2 e g λB=>zd B λY=>∃(l:IW) (m:IM),l [(ai 0)] g /\∀(d:Value) h,l [d] h -> aI .lss d Y (zk 4 B d λZ=>zg 4 Z h λα=>zh [ai 0,ai 0,.bool false,cQ] 56 h λj β=>zj 4 j α β λC=>a_ 0 j C λγ=>aF 292 [a,γ] C λδ c=>dm δ (a_ 1 f c λε=>a_ 0 e c λζ=>a_ 0 j c λη=>a_ 1 j c λθ=>a_ 2 j c λι=>a_ 3 j c λκ=>zm [ai 0,ai 0,ai 0,.bool false,cQ] [(0,1,ζ),(1,1,η),(2,1,θ),(3,1,ι),(4,1,κ)] λν=>zn (cK [ai 0,ai 0,ai 0,.bool false,cQ] 1) [(0,5,ν)] 390 1 c λξ π=>zx 5 48 [ai 0,ai 0,ai 0,.bool false,cQ] 390 ε ξ π λρ σ=>zl 1 f λτ=>eH τ ρ σ λD=>zc .add d (ai 1) λE=>l [E] D/\m [E] D<m [d] h) (zc .add d (ai 1) λG=>l [G] c/\m [G] c<m [d] h)) (zi h λo=>bV 0 a λφ=>a_ 0 φ o λχ=>a_ 2 e o λψ=>aF 293 [χ,ψ] o λaa H=>zg 3 f H λω=>zj 3 q ω H λJ=>zg 3 q J λr=>R r J))
theorem cHh(h:Ns a b w R):aF 224 [a,b] w R:=VJ [(3,[16],[0,3,4,5,14,15]),(8,[33],[0,3,4,5,31,32])] [] Tryz.func224 h
def Nt:Prop:=∃o:List Value,b= .agg o.toArray/\zh o 101 w λk H=>zh [ai 0,bI,bI] 214 H λc J=>∃I:IW,(zi J λe=>bV 0 a λK=>zl 0 K λp=>cn p e λl=>zl 4 k λq=>cn q e λm=>zl 0 k λs=>cn s e λn=>(aF 294 [l,m,n] e λt L=>zf 0 t λM=>zf 1 t λN=>zh [ai 0,bI,bI] 214 L λu O=>zj 3 u M O λP=>I [u,N] P) /\(zh [ai 0,bI,bI] 214 e λv h=>aR p h l <| aR q h m <| aR s h n <| aF 294 [l,m,n] h λx Q=>zf 0 x λS=>zf 1 x λT=>zj 3 v S Q λU=>I [v,T] U)) /\∀(f:Value) (y:Value) d,I [f,y] d -> cL y (a_ 0 k d λV=>zm [ai 0,bI,bI] [(0,1,V)] λX=>zj 3 c X d λz=>zg 3 c z λr=>R r z) (a_ 2 f d λY=>zk 7 Y (ai 0) λZ=>zg 7 Z d λα=>zh [ai 0,ai 0,ai 0,ai 0,ai 0,ai 0,.bool false] 393 d λj β=>zj 7 j α β λγ=>zi γ λg=>bU 4 a g λδ=>a_ 1 j g λε=>a_ 5 j g λζ=>a_ 6 j g λη=>aF 295 [δ,ε,ζ,η] g λA B=>zf 0 A λθ=>zf 1 A λι=>cL ι (zl 2 f λκ=>eH κ bI B λC=>zg 3 f C λν=>zj 3 c ν C λD=>zg 3 c D λξ=>R ξ D) (cV 4 a θ B λE=>zg 3 f E λπ=>zj 3 c π E λG=>zg 3 c G λρ=>R ρ G))
theorem cHi(h:Nt a b w R):aF 225 [a,b] w R:=VJ [] [(2,[5,6],[0,3,4])] Tryz.func225 h
def Oi:Prop:=aF 124 [b] w λh m=>zf 0 h λn=>zf 1 h λo=>zh [ai 0,ai 0] 227 m λd p=>zj 2 d n p λq=>zi q λe=>cL o (R bI e) (a_ 0 d e λr=>bU 1 a e λs=>aI .geq r s (R bI e) (zi e λf=>bU 4 a f λt=>a_ 0 d f λu=>a_ 1 d f λv=>aF 328 [t,u,v,c] f λj k=>zf 0 j λl=>zf 1 j λx=>cL x (R bI k) (cV 4 a l k λg=>zd l λy=>a_ 0 d g λz=>a_ 1 d g λA=>zm [ai 0,ai 0,ai 0,ai 0,ai 0,ai 0,.bool false] [(0,1,(ai 1)),(1,1,y),(2,1,z),(3,1,A),(4,1,c)] λB=>zn (cK [ai 0,ai 0,ai 0,ai 0,ai 0,ai 0,.bool false] 1) [(0,7,B)] 393 1 g λC D=>R C D)))
theorem cIy(h:Oi a b c w R):aF 291 [a,b,c] w R:=cw Tryz.func291 h
def Oj:Prop:=(b).oneCell'=true/\zh [b] 3 w λe f=>zi f λc=>cn e c λg=>aI .lss g (ai 0) (bY R c) (cn e c λh=>bU 1 a c λj=>aI .geq h j (bY R c) (zi c λd=>bU 2 a d λk=>cn e d λl=>zc .shr k l λm=>zc .and m (ai 1) λn=>aI .eql n (ai 0) (R (.bool true) d) (bU 4 a d λo=>aF 336 [o,(.func (.func 337) [].toArray [e].toArray)] d λp q=>R p q)))
theorem cIz(h:Oj a b w R):aF 292 [a,b] w R:=cw Tryz.func292 h
def OU:Prop:=∃d:List Value,a= .agg d.toArray/\zh d 98 w λe c=>a_ 1 e c λf=>cn b c λg=>zc .eql f g λh=>R h c
theorem cJz(h:OU a b w R):aF 337 [a,b] w R:=cw Tryz.func337 h
def PG:Prop:=bU 2 a w λd=>aF 55 [d] w λc b=>aI .eql c (ai 1) (R (.bool true) b) (aI .eql c (ai 2) (R (.bool true) b) (aI .eql c (ai 0) (bU 1 a b λe=>aF 75 [e] b λf g=>aF 74 [f] g λh j=>zd h λk=>zc .gtr k (ai 0) λl=>R l j) (bY R b)))
theorem cLf(h:PG a w R):aF 64 [a] w R:=cw Tryz.func64 h
def LI:Prop:=aF 64 [a] w λt g=>cL t (R (.tuple #[(ai 0),(ai 0)]) g) (bU 2 a g λu=>aF 55 [u] g λn h=>aI .eql n (ai 0) (aF 170 [a] h λo v=>zf 0 o λx=>zf 1 o λy=>R (.tuple #[x,y]) v) (aI .eql n (ai 1) (zi h λb=>bV 2 a λd=>cn d b λe=>bV 0 a λj=>cn j b λk=>bU 2 a b λz=>bV 2 a λp=>cn p b λq=>bV 4 a λl=>cn l b λm=>aF 173 [z] b λA c=>aR d c e <| aR j c k <| aR p c q <| aR l c m <| aF 174 [q] c λB f=>aR d f e <| aR j f k <| aR l f m <| aF 172 [k,A,B,m] f λC r=>aR d r e <| aF 171 [e,C] r λJ D=>R (.tuple #[(ai 4),(ai 0)]) D) (aF 175 [a] h λs E=>zf 0 s λG=>zf 1 s λH=>R (.tuple #[G,H]) E)))
theorem cEp(h:LI a w R):aF 114 [a] w R:=cw Tryz.func114 h
def Mf:Prop:=aI .lss c (ai 1) (R (.tuple #[cT,(ai 1)]) w) (aI .gtr c (ai 64) (R (.tuple #[cT,(ai 1)]) w) (bV 0 b λe=>zg 1 e w λf=>aF 46 [f] w λg h=>aF 207 [] h λj k=>zm [cT,cT,cT,cT,ai 0] [(0,1,a),(1,1,b),(2,1,g),(3,1,j),(4,1,c)] λl=>∃d:List Value,l= .agg d.toArray/\zh d 208 k λm n=>R (.tuple #[m,(ai 0)]) n))
theorem cFh(h:Mf a b c w R):aF 150 [a,b,c] w R:=cw Tryz.func150 h
def MA:Prop:=aF 229 [a] w λJ f=>bU 3 a f λp=>aF 230 [p] f λg h=>zf 0 g λj=>zf 1 g λq=>bU 1 a h λr=>aF 75 [r] h λk c=>cL q (R (.tuple #[(ai 0),(ai 0)]) c) (zd k λs=>aI .gtr j s (R (.tuple #[(ai 0),(ai 0)]) c) (bU 0 a c λt=>aF 48 [t] c λu l=>zc .add u (ai 1) λm=>bU 0 a l λv=>aF 231 [v,(ai 2),m] l λn e=>zf 0 n λK=>zf 1 n λo=>aI .neq o (ai 0) (R (.tuple #[(ai 0),o]) e) (zc .sub j (ai 1) λx=>zk 7 k x λy=>zg 7 y e λz=>zh [ai 0,ai 0,ai 0,ai 0,ai 0,ai 0,.bool false] 98 e λd A=>zj 7 d z A λB=>zi B λb=>bU 2 a b λC=>a_ 0 d b λD=>a_ 1 d b λE=>a_ 4 d b λG=>aF 232 [C,m,D,E,G] b λL H=>R (.tuple #[(ai 3),(ai 0)]) H)))
theorem cF2(h:MA a w R):aF 170 [a] w R:=cw Tryz.func170 h
def MF:Prop:=zi w λb=>bV 0 a λd=>cn d b λe=>bU 2 a b λj=>aF 235 [j] b λk f=>aR d f e <| aF 231 [e,(ai 3),k] f λg c=>zf 0 g λn=>zf 1 g λh=>aI .neq h (ai 0) (R (.tuple #[(ai 0),h]) c) (bU 2 a c λl=>aF 236 [l] c λo m=>R (.tuple #[(ai 5),(ai 0)]) m)
theorem cF7(h:MF a w R):aF 175 [a] w R:=cw Tryz.func175 h
def Nx:Prop:=bU 1 a w λu=>aF 75 [u] w λm v=>zd m λx=>∃(I:IW) (μ:IM),I [(ai 0)] v /\∀(b:Value) c,I [b] c -> aI .lss b x (zk 7 m b λy=>zg 7 y c λz=>zh [ai 0,ai 0,ai 0,ai 0,ai 0,ai 0,.bool false] 98 c λh A=>zj 7 h z A λf=>a_ 6 h f λB=>dm B (zi f λj=>bU 3 a j λC=>a_ 0 h j λD=>aF 296 [C,D] j λT n=>zc .add b (ai 1) λo=>I [o] n/\μ [o] n<μ [b] c) (zc .add b (ai 1) λp=>I [p] f/\μ [p] f<μ [b] c)) (bU 1 a c λE=>aF 75 [E] c λG H=>aF 74 [G] H λq J=>zd q λK=>∃(k:IW) (r:IM),k [(ai 0)] J /\∀(d:Value) e,k [d] e -> aI .lss d K (zk 7 q d λL=>zg 7 L e λM=>zh [ai 0,ai 0,ai 0,ai 0,ai 0,ai 0,.bool false] 98 e λl N=>zj 7 l M N λO=>zi O λg=>bU 3 a g λP=>a_ 0 l g λQ=>a_ 2 l g λS=>aF 297 [P,Q,S] g λU s=>zc .add d (ai 1) λt=>k [t] s/\r [t] s<r [d] e) (R (.tuple #[]) e))
theorem cHm(h:Nx a w R):aF 229 [a] w R:=VJ [(1,[12],[0,10,11]),(7,[33],[0,31,32])] [] Tryz.func229 h
def NB:Prop:=zd c λd=>aI .gtr d (ai 0) (zd c λe=>zc .sub e (ai 1) λf=>zk 2 c f λg=>a_ 0 g w λh=>zd c λj=>zc .lss j b λk=>R (.tuple #[h,k]) w) (zd c λl=>zc .lss l b λm=>R (.tuple #[a,m]) w)
theorem cHq(h:NB a b c w R):aF 233 [a,b,c] w R:=cw Tryz.func233 h
def Ej(a:Value)(c:World)(R:Value->World->Prop):Prop:=zm [ai 0,ai 0] [] λd=>zj 2 a d c λb=>zg 2 a b λr=>R (.tuple #[r,(.bool false)]) b
def LS:Prop:=zh [ai 0,ai 0] 227 w λc k=>aF 187 [a,(.string {data:=#[115,110,97,112,115,104,111,116,32]})] k λf g=>zf 0 f λl=>zf 1 f λm=>cL m (Ej c g R) (aF 188 [l,(.string {data:=#[32]})] g λe n=>zf 0 e λo=>zf 1 e λp=>zf 2 e λq=>aF 189 [o,(.int .u8 48),(.int .u8 55)] n λr s=>zm [ai 0,ai 0] [(0,1,r),(1,1,(ai 1))] λt=>zh [ai 0,ai 0] 227 s λd u=>zj 2 d t u λh=>∃I:IW,(dm q (aF 189 [p,(.int .u8 49),(.int .u8 56)] h λv x=>zl 1 d λy=>eH y v x λz=>I [] z) (I [] h))/\∀b,I [] b->a_ 0 d b λA=>aI .lss A (ai 0) (Ej c b R) (a_ 1 d b λB=>aI .lss B (ai 0) (Ej c b R) (zg 2 d b λC=>zj 2 c C b λj=>zg 2 c j λD=>R (.tuple #[D,(.bool true)]) j)))
theorem cEz(h:LS a w R):aF 124 [a] w R:=VJ [] [(8,[],[2,9])] Tryz.func124 h
def MU:Prop:=zX a λd=>aI .neq d (ai 1) (R (ai (-1)) w) (ff Tryz.prog (Instr.index 9 a (ai 0)) w λe=>aI .lss e b (R (ai (-1)) w) (ff Tryz.prog (Instr.index 9 a (ai 0)) w λf=>aI .gtr f c (R (ai (-1)) w) (ff Tryz.prog (Instr.index 9 a (ai 0)) w λg=>zc .sub g (.int .u8 48) λh=>zK .i64 h λj=>R j w)))
theorem cGl(h:MU a b c w R):aF 189 [a,b,c] w R:=cw Tryz.func189 h
def Pj:Prop:=aF 95 [a] w λc d=>zm [bI,bI,bI,bI,bI,bI,bI,bI,bI,bI,bI,bI,bI,bI,bI,bI,ai 0] [(16,1,c)] λe=>∃b:List Value,e= .agg b.toArray/\zh b 173 d λf g=>R f g
theorem cKu(h:Pj a w R):aF 41 [a] w R:=cw Tryz.func41 h
def Pt:Prop:=bU 16 a w λb=>R b w
theorem cK3(h:Pt a w R):aF 50 [a] w R:=cw Tryz.func50 h
def P1:Prop:=yS a (ai 0) λb=>ZS b (ai 1125899906842624) λc=>R c w
theorem cL1(h:P1 a w R):aF 95 [a] w R:=cw Tryz.func95 h
def MK:Prop:=zi w λh=>bV 16 a λj=>cn j h λk=>aF 95 [b] h λr l=>aR j l k <| yS k r λs=>cV 16 a s l λt=>aF 242 [a] t λf u=>aF 243 [f,(.func (.func 244) #[] #[])] u λG v=>zd f λx=>∃(I:IW) (μ:IM),I [bI,(ai 0)] v /\∀(e c:Value) d,I [e,c] d -> aI .lss c x (zk 2 f c λy=>zg 2 y d λz=>zh [ai 0,ai 0] 361 d λg A=>zj 2 g z A λm=>a_ 0 g m λB=>aF 248 [a,B] m λH n=>a_ 0 g n λC=>zn (cK [ai 0] 1) [(0,1,C)] 3 1 n λD E=>zx 1 8 [ai 0] 3 e D E λo p=>zc .add c (ai 1) λq=>I [o,q] p/\μ [o,q] p<μ [e,c] d) (R e d)
theorem cGc(h:MK a b w R):aF 180 [a,b] w R:=VJ [(6,[6,25],[0,23,24])] [] Tryz.func180 h
def NL:Prop:=bV 0 a λs=>zg 16 s w λt=>∃(I:IW) (μ:IM),I [bI,(ai 0)] w /\∀(h f:Value) g,I [h,f] g -> aI .lss f (ai 16) (ff Tryz.prog (Instr.index 171 t f) g λm=>zd m λu=>∃(j:IW) (k:IM),j [h,(ai 0)] g /\∀(b:Value) (c:Value) d,j [b,c] d -> aI .lss c u (zk 2 m c λv=>zg 2 v d λx=>zh [ai 0,ai 0] 361 d λl y=>zj 2 l x y λz=>zi z λe=>a_ 1 l e λA=>bU 16 a e λB=>aI .leq A B (zg 2 l e λC=>zn (cK [ai 0,ai 0] 1) [(0,2,C)] 361 1 e λD E=>zx 2 16 [ai 0,ai 0] 361 b D E λn o=>zc .add c (ai 1) λp=>j [n,p] o/\k [n,p] o<k [b,c] d) (zc .add c (ai 1) λq=>j [b,q] e/\k [b,q] e<k [b,c] d)) (zc .add f (ai 1) λr=>I [b,r] d/\μ [b,r] d<μ [h,f] g)) (R h g)
theorem cHz(h:NL a w R):aF 242 [a] w R:=VJ [(3,[3,12],[0,11]),(6,[3,17],[0,11,12,15,16])] [] Tryz.func242 h
def NM:Prop:=∃e:List Value,a= .agg e.toArray/\zh e 361 w λf n=>∃g:List Value,b= .agg g.toArray/\zh g 361 n λh o=>zi o λc=>a_ 1 f c λp=>a_ 1 h c λq=>zl 0 f λj=>cn j c λk=>zl 0 h λl=>cn l c λm=>aF 246 [p,q] c λr d=>aR j d k <| aR l d m <| aF 247 [k,m] d λs t=>zn (cK [ai 0] 2) [(0,1,r),(1,1,s)] 3 2 t λu v=>aF 245 [u] v λx y=>R x y
theorem cH0(h:NM a b w R):aF 244 [a,b] w R:=cw Tryz.func244 h
def NP:Prop:=aF 306 [a,b] w λc d=>aI .lss c (ai 0) (bY R d) (aF 307 [b] d λe g=>zi g λf=>bV 0 a λh=>yC 1 16 h e λj=>cn j f λk=>zc .add c (ai 1) λl=>bV 0 a λm=>aF 308 [k,c,l] f λn o=>yC 1 16 m e λp=>eH p n o λq=>R (.bool true) q)
theorem cH3(h:NP a b w R):aF 248 [a,b] w R:=cw Tryz.func248 h
def Oz:Prop:=(b).oneCell'=true/\zh [b] 3 w λc f=>zi f λd=>cn c d λg=>bV 0 a λh=>aF 307 [g] d λj e=>yC 1 16 h j λk=>cn k e λl=>aF 354 [l,(.func (.func 355) [].toArray [c].toArray)] e λm n=>R m n
theorem cJb(h:Oz a b w R):aF 306 [a,b] w R:=cw Tryz.func306 h
def OA:Prop:=zK .u64 a λb=>zc .rem b (.int .u64 16) λc=>zK .i64 c λd=>R d w
theorem cJc(h:OA a w R):aF 307 [a] w R:=cw Tryz.func307 h
def O2:Prop:=∃d:List Value,a= .agg d.toArray/\zh d 361 w λe c=>a_ 0 e c λf=>cn b c λg=>zc .eql f g λh=>R h c
theorem cJ9(h:O2 a b w R):aF 355 [a,b] w R:=cw Tryz.func355 h
def aw8:Prop:=zd a λg=>∃(I:IW) (μ:IM),I [(ai 0)] w /\∀(c:Value) d,I [c] d -> aI .lss c g (zk 2 a c λh=>zg 2 h d λj=>zS Tryz.prog mT b [j] d λk e=>dm k (R c e) (zc .add c (ai 1) λf=>I [f] e/\μ [f] e<μ [c] d)) (R (ai (-1)) d)
theorem cJ8(h:aw8 a b w R):aF 354 [a,b] w R:=VJ [(2,[8],[0,1,7])] [] Tryz.func354 h
def aw9:Prop:=zd a λg=>∃(I:IW) (μ:IM),I [(ai 0)] w /\∀(c:Value) d,I [c] d -> aI .lss c g (zk 7 a c λh=>zg 7 h d λj=>zS Tryz.prog mT b [j] d λk e=>dm k (R c e) (zc .add c (ai 1) λf=>I [f] e/\μ [f] e<μ [c] d)) (R (ai (-1)) d)
theorem cKi(h:aw9 a b w R):aF 371 [a,b] w R:=VJ [(2,[8],[0,1,7])] [] Tryz.func371 h
def aFa:Prop:=zd a λg=>∃(I:IW) (μ:IM),I [(ai 0)] w /\∀(c:Value) d,I [c] d -> aI .lss c g (zk 2 a c λh=>zg 2 h d λj=>zS Tryz.prog mT b [j] d λk e=>dm k (R c e) (zc .add c (ai 1) λf=>I [f] e/\μ [f] e<μ [c] d)) (R (ai (-1)) d)
theorem cKj(h:aFa a b w R):aF 372 [a,b] w R:=VJ [(2,[8],[0,1,7])] [] Tryz.func372 h
def aFb:Prop:=zd a λg=>∃(I:IW) (μ:IM),I [(ai 0)] w /\∀(c:Value) d,I [c] d -> aI .lss c g (zk 2 a c λh=>zg 2 h d λj=>zS Tryz.prog mT b [j] d λk e=>dm k (R c e) (zc .add c (ai 1) λf=>I [f] e/\μ [f] e<μ [c] d)) (R (ai (-1)) d)
theorem cKk(h:aFb a b w R):aF 373 [a,b] w R:=VJ [(2,[8],[0,1,7])] [] Tryz.func373 h
def OT:Prop:=aF 371 [a,b] w λc d=>zc .geq c (ai 0) λe=>R e d
theorem cJy(h:OT a b w R):aF 336 [a,b] w R:=cw Tryz.func336 h
def OV:Prop:=aF 372 [a,b] w λg j=>aI .eql g (ai (-1)) (R a j) (zc .add g (ai 1) λp=>∃(I:IW) (μ:IM),I [g,p] j /\∀(c d:Value) e,I [c,d] e -> zd a λq=>aI .lss d q (zk 2 a d λr=>zg 2 r e λs=>zh [ai 0,cQ] 66 e λh t=>zj 2 h s t λk=>zg 2 h k λv=>zS Tryz.prog mT b [v] k λx f=>cL x (zg 2 h f λy=>zk 2 a c λz=>zj 2 z y f λl=>zc .add c (ai 1) λm=>zc .add d (ai 1) λn=>I [m,n] l/\μ [m,n] l<μ [c,d] e) (zc .add d (ai 1) λo=>I [c,o] f/\μ [c,o] f<μ [c,d] e)) (fp 2 a (some c) none none λA=>zR Tryz.prog (Builtin.clear_ #[67] 0 [A].toArray) e λu B=>fp 2 a none (some c) none λC=>R C B))
theorem cJ0(h:OV a b w R):aF 338 [a,b] w R:=VJ [(5,[5,6],[0,1])] [] Tryz.func338 h
def aw7:Prop:=zd a λe=>fp 2 a (some b) (some c) (some e) λo=>aI .eql b c (R a w) (zd a λf=>zi w λg=>fp 2 a none (some b) none λh=>fp 2 a (some c) none none λj=>zx 2 16 [ai 0,ai 0] 418 h j g λd k=>zd d λl=>fp 2 d (some l) (some f) none λm=>zR Tryz.prog (Builtin.clear_ #[400] 0 [m].toArray) k λu n=>R d n)
theorem cJ5(h:aw7 a b c w R):aF 342 [a,b,c] w R:=cw Tryz.func342 h
def aw5:Prop:=zd a λe=>fp 2 a (some b) (some c) (some e) λo=>aI .eql b c (R a w) (zd a λf=>zi w λg=>fp 2 a none (some b) none λh=>fp 2 a (some c) none none λj=>zx 2 16 [ai 0,ai 0] 361 h j g λd k=>zd d λl=>fp 2 d (some l) (some f) none λm=>zR Tryz.prog (Builtin.clear_ #[170] 0 [m].toArray) k λu n=>R d n)
theorem cJd(h:aw5 a b c w R):aF 308 [a,b,c] w R:=cw Tryz.func308 h
def MR:Prop:=aF 255 [a,b] w λc d=>zf 0 c λe=>zf 1 c λf=>R (.tuple #[e,f]) d
theorem cGj(h:MR a b w R):aF 187 [a,b] w R:=cw Tryz.func187 h
def MT:Prop:=aF 256 [a,b] w λc d=>zf 0 c λe=>zf 1 c λf=>zf 2 c λg=>R (.tuple #[e,f,g]) d
theorem cGk(h:MT a b w R):aF 188 [a,b] w R:=cw Tryz.func188 h
def NV:Prop:=aF 315 [a,b] w λc d=>aI .geq c (ai 0) (zi d λe=>Zq a none (some c) λf=>zX b λg=>zc .add c g λh=>Zq a (some h) none λj=>R (.tuple #[f,j,(.bool true)]) e) (R (.tuple #[a,(.string {data:=#[]}),(.bool false)]) d)
theorem cH9(h:NV a b w R):aF 256 [a,b] w R:=cw Tryz.func256 h
def NU:Prop:=aF 314 [a,b] w λd c=>cL d (R (.tuple #[a,(.bool false)]) c) (zX b λe=>Zq a (some e) none λf=>R (.tuple #[f,(.bool true)]) c)
theorem cH8(h:NU a b w R):aF 255 [a,b] w R:=cw Tryz.func255 h
def OD:Prop:=zX a λc=>zX b λd=>aI .geq c d (zX b λe=>Zq a none (some e) λf=>zc .eql f b λg=>R g w) (bY R w)
theorem cJg(h:OD a b w R):aF 314 [a,b] w R:=cw Tryz.func314 h
def OE:Prop:=zX b λf=>∃I:IW,(aI .eql f (ai 0) (R (ai 0) w) (aI .eql b a (R (ai 0) w) (aI .eql f (ai 1) (ff Tryz.prog (Instr.index 9 b (ai 0)) w λC=>aF 361 [a,C] w λD E=>R D E) (zX a λG=>aI .geq f G (R (ai (-1)) w) (cn (.pointer (some ⟨0,0,none⟩)) w λH=>aI .leq f H (zX a λJ=>aI .leq J (ai 64) (q7 Tryz.prog 362 [a,b] w λK L=>R K L) (I [] w)) (I [] w)))))) /\∀n,I [] n -> ff Tryz.prog (Instr.index 9 b (ai 0)) n λt=>ff Tryz.prog (Instr.index 9 b (ai 1)) n λM=>zX a λN=>zc .sub N f λO=>zc .add O (ai 1) λp=>∃(k:IW) (μ:IM),k [(ai 0),(ai 0)] n /\∀(e l:Value) g,k [e,l] g -> aI .lss e p (∃q:IW,(ff Tryz.prog (Instr.index 9 a e) g λP=>aI .neq P t (zc .add e (ai 1) λQ=>Zq a (some Q) (some p) λS=>aF 361 [S,t] g λu v=>aI .lss u (ai 0) (R (ai (-1)) v) (zc .add u (ai 1) λT=>zc .add e T λU=>q [U] v)) (q [e] g)) /\∀(j:Value) m,q [j] m -> ∃r:IW,(zc .add j (ai 1) λV=>ff Tryz.prog (Instr.index 9 a V) m λX=>aI .eql X M (zc .add j f λY=>Zq a (some j) (some Y) λZ=>aI .eql Z b (R j m) (r [] m)) (r [] m)) /\∀o,r [] o -> zc .add j (ai 1) λc=>zc .add l (ai 1) λh=>∃s:IW,(cn (.pointer (some ⟨0,0,none⟩)) o λα=>aI .leq f α (aF 363 [c] o λβ γ=>zc .gtr h β λδ=>s [δ] γ) (s [(.bool false)] o)) /\∀(x:Value) d,s [x] d -> dm x (Zq a (some c) none λε=>q7 Tryz.prog 362 [ε,b] d λy z=>aI .geq y (ai 0) (zc .add y c λζ=>R ζ z) (R (ai (-1)) z)) (cn (.pointer (some ⟨0,0,none⟩)) d λη=>aI .gtr f η (zc .shr c (.int .u64 4) λθ=>zc .add (ai 4) θ λι=>aI .geq h ι (aI .lss c p (Zq a (some c) none λκ=>aF 364 [κ,b] d λA B=>aI .lss A (ai 0) (R (ai (-1)) B) (zc .add c A λν=>R ν B)) (k [c,h] d/\μ [c,h] d<μ [e,l] g)) (k [c,h] d/\μ [c,h] d<μ [e,l] g)) (k [c,h] d/\μ [c,h] d<μ [e,l] g))) (R (ai (-1)) g)
theorem cJh(h:OE a b w R):aF 315 [a,b] w R:=VJ [(15,[8,10],[0,1,5,6,7,9])] [(10,[],[0,1,5]),(21,[8],[0,1,5,6,7,9,10]),(23,[],[0,1,5,6,7,8,9,10]),(26,[107],[0,1,5,6,7,8,9,10])] Tryz.func315 h
def O7:Prop:=q7 Tryz.prog 390 [a,b] w λc d=>R c d
theorem cKe(h:O7 a b w R):aF 361 [a,b] w R:=cw Tryz.func361 h
