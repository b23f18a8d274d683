/- Part of the proof. -/
import Derived.Test.YtmkllimamejcgaaGreatQTab
namespace Go.Proofs.YtmkllimamejcgaaGreat
set_option linter.all false
set_option maxRecDepth 100000
open Go.RowKit
variable (a b c d e f g h j k l m n o p : Value) (w : World) (R : Value -> World -> Prop)
def PN:Prop:=zd a λf=>∃(I:IW) (μ:IM),I [(ai 0)] w /\∀(c:Value) b,I [c] b -> aI .lss c f (zl 1 a c λg=>cI g b λd=>aI .neq d (ai 0) (R d b) (zc .add c (ai 1) λe=>I [e] b/\μ [e] b<μ [c] b)) (R (ai 0) b)
theorem gW4(h:PN a w R):aF 245 [a] w R:=VJ [(3,[8],[3,6,7])] [] Tryz.func245 h
def PO:Prop:=aF 305 [a] w λe f=>aF 305 [b] f λd c=>iy e (iy d (R (ai 0) c) (R (ai (-1)) c)) (iy d (R (ai 1) c) (aI .lss a b (R (ai (-1)) c) (aI .gtr a b (R (ai 1) c) (R (ai 0) c))))
theorem gW5(h:PO a b w R):aF 247 [a,b] w R:=c_ Tryz.func247 h
def Rx:Prop:=zc .neq a a λb=>R b w
theorem h_e(h:Rx a w R):aF 305 [a] w R:=c_ Tryz.func305 h
def O_:Prop:=zk [bI,ai 0,.bool false,ai 0] [] λb=>∃a:List Value,b= .agg a.toArray/\zh a 402 w λc d=>R c d
theorem gR3(h:O_ w R):aF 207 [] w R:=c_ Tryz.func207 h
def Py:Prop:=bW 0 a w λk=>zd k λl=>aI .eql l (ai 0) (R (.tuple #[(ai 0),(.bool false)]) w) (∃I:IW,(bW 2 a w λm=>iy m (bW 3 a w λn=>aI .eql n (ai 0) (bW 1 a w λo=>zc .add o (ai 1) λp=>ia 1 a p w λq=>ia 2 a (.bool false) q λr=>I [] r) (I [] w)) (I [] w)) /\∀b,I [] b -> ∃f:IW,(bW 2 a b λs=>gi s (∃g:IW,(zj b λc=>bW 1 a c λt=>bW 0 a c λu=>zd u λv=>aI .geq t v (ia 1 a (ai 0) c λx=>g [] x) (g [] c)) /\∀j,g [] j -> zj j λd=>bW 0 a d λy=>bW 1 a d λz=>zl 2 y z λA=>zn 0 A λB=>a_ 0 B d λC=>ia 2 a (.bool true) d λD=>ia 3 a C D λE=>f [] E) (f [] b)) /\∀h,f [] h -> bW 3 a h λG=>zc .sub G (ai 1) λH=>ia 3 a H h λJ=>zj J λe=>bW 0 a e λK=>bW 1 a e λL=>zl 2 K L λM=>a_ 1 M e λN=>R (.tuple #[N,(.bool true)]) e)
theorem gWq(h:Py a w R):aF 230 [a] w R:=VJ [] [(6,[],[0]),(10,[],[0]),(9,[],[0])] Tryz.func230 h
def Ro:Prop:=aF 341 [a,b] w λd e=>aI .lss d (ai 0) (R (ai 5) e) (bW 0 a e λf=>zc .add d (ai 1) λg=>aF 342 [f,d,g] e λh j=>ia 0 a h j λc=>bW 1 a c λk=>aI .lss d k (bW 1 a c λl=>zc .sub l (ai 1) λm=>ia 1 a m c λn=>R (ai 0) n) (bW 1 a c λo=>aI .eql d o (ia 2 a (.bool false) c λp=>R (ai 0) p) (R (ai 0) c)))
theorem g_6(h:Ro a b w R):aF 296 [a,b] w R:=c_ Tryz.func296 h
def Rp:Prop:=aI .lss b (ai 1) (R (ai 1) w) (aI .gtr b (ai 64) (R (ai 1) w) (aI .lss c (ai 1) (R (ai 1) w) (aI .gtr c (ai 8) (R (ai 1) w) (aF 341 [a,b] w λe d=>aI .geq e (ai 0) (R (ai 6) d) (bW 0 a d λf=>zk [ai 0] [(0,1,c)] λg=>zk [ai 0,ai 0] [(0,1,g),(1,1,b)] λh=>zm (fR [ai 0,ai 0] 1) [(0,2,h)] 418 1 d λj k=>zx 2 16 [ai 0,ai 0] 418 f j k λl m=>ia 0 a l m λn=>R (ai 0) n)))))
theorem g_7(h:Rp a b c w R):aF 297 [a,b,c] w R:=c_ Tryz.func297 h
def R0:Prop:=(b).oneCell'=true/\zh [b] 3 w λd c=>bW 0 a c λe=>aF 373 [e,(.func (.func 374) [].toArray [d].toArray)] c λf g=>R f g
theorem h_7(h:R0 a b w R):aF 341 [a,b] w R:=c_ Tryz.func341 h
def Sd:Prop:=∃d:List Value,a= .agg d.toArray/\zh d 418 w λe c=>a_ 1 e c λf=>cI b c λg=>zc .eql f g λh=>R h c
theorem iao(h:Sd a b w R):aF 374 [a,b] w R:=c_ Tryz.func374 h
def SB:Prop:=bW 8 a w λb=>R b w
theorem iba(h:SB a w R):aF 55 [a] w R:=c_ Tryz.func55 h
def SC:Prop:=b_ 0 a λb=>a_ 4 b w λc=>aF 103 [c] w λd e=>R d e
theorem ibb(h:SC a w R):aF 56 [a] w R:=c_ Tryz.func56 h
def NG:Prop:=∃d:List Value,b= .agg d.toArray/\zh d 101 w λe f=>zj f λc=>a_ 1 e c λg=>aI .eql g (ai 2) (a_ 4 e c λh=>b_ 0 a λj=>a_ 0 j c λk=>aI .eql h k (bW 8 a c λl=>aI .eql l (ai 1) (R (.bool true) c) (bW 8 a c λm=>zc .eql m (ai 2) λn=>R n c)) (cW R c)) (cW R c)
theorem gFk(h:NG a b w R):aF 106 [a,b] w R:=c_ Tryz.func106 h
def OE:Prop:=bW 8 a w λm=>aI .neq m (ai 1) (cW R w) (zd b λn=>bW 7 a w λo=>aI .gtr n o (cW R w) (b_ 0 a λp=>a_ 1 p w λq=>zd b λr=>∃(I:IW) (μ:IM),I [q,(ai 0)] w /\∀(g d:Value) e,I [g,d] e -> aI .lss d r (zl 2 b d λs=>ze 2 s e λt=>zh [ai 0,gI] 66 e λf u=>zi 2 f t u λc=>a_ 0 f c λv=>aI .leq v g (cW R c) (a_ 0 f c λx=>aI .gtr x (ai 1099511627776) (cW R c) (a_ 0 f c λj=>zc .add d (ai 1) λk=>I [j,k] c/\μ [j,k] c<μ [g,d] e))) (aF 103 [b] e λy z=>b_ 0 a λA=>zn 4 A λB=>jN B y z λC=>ia 8 a (ai 2) C λD=>zj D λh=>b_ 0 a λE=>a_ 1 E h λG=>bW 7 a h λH=>aF 233 [G,H,b] h λl J=>zf 0 l λK=>zf 1 l λL=>b_ 0 a λM=>zn 5 M λN=>jN N K J λO=>b_ 0 a λP=>zn 6 P λQ=>jN Q L O λS=>R (.bool true) S)))
theorem gI6(h:OE a b w R):aF 171 [a,b] w R:=VJ [(5,[5,29],[0,1,27,28])] [] Tryz.func171 h
def OG:Prop:=b_ 0 a λb=>a_ 3 b w λc=>R c w
theorem gI8(h:OG a w R):aF 173 [a] w R:=c_ Tryz.func173 h
def OH:Prop:=b_ 0 a λb=>a_ 1 b w λc=>R c w
theorem gI9(h:OH a w R):aF 174 [a] w R:=c_ Tryz.func174 h
def O':Prop:=aI .lss a (ai 1) (R (.tuple #[h_,(ai 1)]) w) (aI .gtr a (ai 64) (R (.tuple #[h_,(ai 1)]) w) (zk [ai 0,ai 0,ai 0,ai 0,bI,ai 0,.bool false,ai 0,ai 0] [(7,1,a)] λc=>∃b:List Value,c= .agg b.toArray/\zh b 192 w λd e=>R (.tuple #[d,(ai 0)]) e))
theorem gR2(h:O' a w R):aF 206 [a] w R:=c_ Tryz.func206 h
def Pu:Prop:=bW 8 a w λc=>aI .neq c (ai 3) (cW R w) (b_ 0 a λd=>a_ 0 d w λe=>aI .neq b e (cW R w) (ia 8 a (ai 4) w λf=>R (.bool true) f))
theorem gWm(h:Pu a b w R):aF 226 [a,b] w R:=c_ Tryz.func226 h
def PA:Prop:=bW 8 a w λf=>aI .neq f (ai 0) (cW R w) (aI .lss b (ai 1) (cW R w) (aI .gtr b (ai 1099511627776) (cW R w) (aI .lss c (ai 1) (cW R w) (aI .gtr c (ai 64) (cW R w) (aI .lss d (ai 0) (cW R w) (aI .geq d (ai 8) (cW R w) (aI .lss e (ai 0) (cW R w) (aI .gtr e (ai 1099511627776) (cW R w) (zk [ai 0,ai 0,ai 0,ai 0,bI,ai 0,.bool false] [(0,1,b),(2,1,c),(3,1,d),(1,1,e)] λg=>b_ 0 a λh=>zi 7 h g w λj=>ia 8 a (ai 1) j λk=>R (.bool true) k)))))))))
theorem gWs(h:PA a b c d e w R):aF 232 [a,b,c,d,e] w R:=c_ Tryz.func232 h
def PD:Prop:=b_ 0 a λb=>a_ 0 b w λc=>R c w
theorem gWv(h:PD a w R):aF 235 [a] w R:=c_ Tryz.func235 h
def PE:Prop:=bW 8 a w λb=>aI .neq b (ai 2) (cW R w) (ia 8 a (ai 3) w λc=>R (.bool true) c)
theorem gWw(h:PE a w R):aF 236 [a] w R:=c_ Tryz.func236 h
def Rl:Prop:=bW 8 a w λk=>aI .neq k (ai 4) (R (ai 0) w) (b_ 0 a λl=>a_ 4 l w λm=>zd m λn=>zd b λo=>∃(I:IW) (μ:IM),I [(ai 0)] w /\∀(c:Value) d,I [c] d -> aI .lss c o (zl 4 b c λp=>ze 4 p d λq=>zh [ai 0,ai 0,.bool false,gI] 56 d λf r=>zi 4 f q r λs=>zj s λe=>a_ 0 f e λt=>b_ 0 a λu=>a_ 3 u e λv=>aI .eql t v (b_ 0 a λx=>a_ 4 x e λy=>aF 338 [y,(.func (.func 339) [].toArray [f].toArray)] e λz A=>b_ 0 a λB=>zn 4 B λC=>jN C z A λg=>zc .add c (ai 1) λh=>I [h] g/\μ [h] g<μ [c] d) (zc .add c (ai 1) λj=>I [j] e/\μ [j] e<μ [c] d)) (b_ 0 a λD=>a_ 4 D d λE=>zd E λG=>zc .sub n G λH=>R H d))
theorem g_3(h:Rl a b w R):aF 293 [a,b] w R:=VJ [(5,[21],[0,5,19,20])] [] Tryz.func293 h
def Rm:Prop:=zh [ai 0,bI,bI] 214 w λd e=>bW 8 a e λO=>aI .neq O (ai 4) (zk [ai 0,bI,bI] [] λP=>zi 3 d P e λp=>ze 3 d p λr=>R (.tuple #[r,(.bool false)]) p) (b_ 0 a λQ=>a_ 0 Q e λS=>aI .neq b S (zk [ai 0,bI,bI] [] λT=>zi 3 d T e λq=>ze 3 d q λU=>R (.tuple #[U,(.bool false)]) q) (aI .lss c (ai 1) (zk [ai 0,bI,bI] [] λV=>zi 3 d V e λs=>ze 3 d s λX=>R (.tuple #[X,(.bool false)]) s) (aI .gtr c (ai 1099511627776) (zk [ai 0,bI,bI] [] λY=>zi 3 d Y e λt=>ze 3 d t λZ=>R (.tuple #[Z,(.bool false)]) t) (∃I:IW,(zj e λf=>b_ 0 a λα=>zn 2 α λu=>cI u f λv=>b_ 0 a λβ=>zn 5 β λx=>cI x f λy=>b_ 0 a λγ=>zn 6 γ λz=>cI z f λA=>zk [ai 0,ai 0,ai 0,ai 0,ai 0,ai 0,.bool false] [(0,1,(ai 2)),(1,1,v),(5,1,y),(6,1,A)] λB=>(zm (fR [ai 0,ai 0,ai 0,ai 0,ai 0,ai 0,.bool false] 1) [(0,7,B)] 393 1 f λδ ε=>zk [ai 0,bI,bI] [(0,1,c),(2,1,δ)] λζ=>zh [ai 0,bI,bI] 214 ε λC η=>zi 3 C ζ η λθ=>I [C] θ) /\(zh [ai 0,bI,bI] 214 f λD k=>aR u k v <| aR x k y <| aR z k A <| zm (fR [ai 0,ai 0,ai 0,ai 0,ai 0,ai 0,.bool false] 1) [(0,7,B)] 393 1 k λι κ=>zk [ai 0,bI,bI] [(0,1,c),(2,1,ι)] λν=>zi 3 D ν κ λξ=>I [D] ξ)) /\∀(l:Value) m,I [l] m -> b_ 0 a λπ=>a_ 4 π m λE=>zd E λρ=>∃(n:IW) (μ:IM),n [(ai 0)] m /\∀(g:Value) h,n [g] h -> aI .lss g ρ (zl 2 E g λσ=>ze 2 σ h λτ=>zh [ai 0,gI] 66 h λo φ=>zi 2 o τ φ λχ=>zj χ λj=>zn 1 l λG=>cI G j λH=>b_ 0 a λψ=>a_ 3 ψ j λω=>a_ 0 o j λaa=>a_ 1 o j λab=>zk [ai 0,ai 0,ai 0,.bool false,gI] [(0,1,c),(1,1,ω),(2,1,aa),(4,1,ab)] λac=>zm (fR [ai 0,ai 0,ai 0,.bool false,gI] 1) [(0,5,ac)] 390 1 j λad J=>aR G J H <| zx 5 48 [ai 0,ai 0,ai 0,.bool false,gI] 390 H ad J λae af=>zn 1 l λag=>jN ag ae af λK=>zc .add g (ai 1) λL=>n [L] K/\μ [L] K<μ [g] h) (zk [ai 0,ai 0,ai 0,ai 0,bI,ai 0,.bool false] [] λah=>b_ 0 a λaj=>zi 7 aj ah h λak=>ia 8 a (ai 0) ak λM=>ze 3 l M λal=>zi 3 d al M λN=>ze 3 d N λam=>R (.tuple #[am,(.bool true)]) N)))))
theorem g_4(h:Rm a b c w R):aF 294 [a,b,c] w R:=VJ [(5,[59],[0,2,6,8,57,58])] [(4,[8],[0,2,6])] Tryz.func294 h
def RY:Prop:=∃d:List Value,a= .agg d.toArray/\zh d 66 w λe c=>a_ 0 e c λf=>a_ 1 b c λg=>zc .eql f g λh=>R h c
theorem h_5(h:RY a b w R):aF 339 [a,b] w R:=c_ Tryz.func339 h
def Sr:Prop:=∃b:List Value,a= .agg b.toArray/\zh b 119 w λd c=>a_ 0 d c λe=>R e c
theorem ia1(h:Sr a w R):aF 46 [a] w R:=c_ Tryz.func46 h
def Sx:Prop:=bW 3 a w λb=>R b w
theorem ia6(h:Sx a w R):aF 51 [a] w R:=c_ Tryz.func51 h
def SI:Prop:=∃d:List Value,a= .agg d.toArray/\zh d 119 w λf g=>∃e:List Value,b= .agg e.toArray/\zh e 101 g λh c=>a_ 0 f c λj=>ze 5 h c λk=>aF 106 [j,k] c λl m=>R l m
theorem ibh(h:SI a b w R):aF 63 [a,b] w R:=c_ Tryz.func63 h
def SV:Prop:=bW 4 a w λb=>aF 85 [b] w λc d=>R c d
theorem ibr(h:SV a w R):aF 75 [a] w R:=c_ Tryz.func75 h
def Oc:Prop:=aI .lss a (ai 1) (R (.tuple #[h_,(ai 1)]) w) (aI .gtr a (ai 8) (R (.tuple #[h_,(ai 1)]) w) (aI .lss b (ai 0) (R (.tuple #[h_,(ai 1)]) w) (zc .shl (ai 1) a λl=>aI .geq b l (R (.tuple #[h_,(ai 1)]) w) (aI .lss d (ai 0) (R (.tuple #[h_,(ai 1)]) w) (aI .gtr d (ai 1099511627776) (R (.tuple #[h_,(ai 1)]) w) (aF 205 [e,a,d] w λm f=>gi m (R (.tuple #[h_,(ai 1)]) f) (aF 206 [c] f λg h=>zf 0 g λn=>zf 1 g λj=>aI .neq j (ai 0) (R (.tuple #[h_,j]) h) (zk [h_] [(0,1,n)] λo=>aF 85 [e] h λp q=>zk [h_,ai 0,ai 0,ai 0,bI] [(0,1,o),(1,1,a),(2,1,b),(3,1,d),(4,1,p)] λr=>∃k:List Value,r= .agg k.toArray/\zh k 121 q λs t=>R (.tuple #[s,(ai 0)]) t))))))))
theorem gIi(h:Oc a b c d e w R):aF 148 [a,b,c,d,e] w R:=c_ Tryz.func148 h
def OA:Prop:=∃j:List Value,b= .agg j.toArray/\zh j 101 w λd v=>zh [ai 0,bI,bI] 214 v λc k=>ze 5 d k λx=>aF 108 [x] k λy l=>gi y (zk [ai 0,bI,bI] [] λz=>zi 3 c z l λm=>ze 3 c m λr=>R (.tuple #[r,(ai 1)]) m) (zj l λe=>a_ 0 d e λA=>bW 3 a e λB=>zc .add B (ai 1) λC=>aI .neq A C (zk [ai 0,bI,bI] [] λD=>zi 3 c D e λn=>ze 3 c n λE=>R (.tuple #[E,(ai 10)]) n) (b_ 0 a λG=>ze 1 G e λH=>ze 5 d e λJ=>aF 63 [H,J] e λK g=>iy K (zk [ai 0,bI,bI] [] λL=>zi 3 c L g λo=>ze 3 c o λM=>R (.tuple #[M,(ai 10)]) o) (a_ 0 d g λN=>ia 3 a N g λf=>a_ 1 d f λp=>aI .eql p (ai 1) (ze 5 d f λO=>aF 224 [a,O] f λP Q=>zi 3 c P Q λq=>ze 3 c q λS=>R (.tuple #[S,(ai 0)]) q) (aI .eql p (ai 3) (ze 5 d f λT=>aF 225 [a,T] f λU V=>zi 3 c U V λs=>ze 3 c s λX=>R (.tuple #[X,(ai 0)]) s) (zj f λh=>b_ 0 a λY=>a_ 0 Y h λZ=>a_ 4 d h λα=>aF 226 [Z,α] h λε t=>a_ 0 d t λβ=>zk [ai 0,bI,bI] [(0,1,β)] λγ=>zi 3 c γ t λu=>ze 3 c u λδ=>R (.tuple #[δ,(ai 0)]) u)))))
theorem gI2(h:OA a b w R):aF 167 [a,b] w R:=c_ Tryz.func167 h
def O9:Prop:=zd a λj=>∃(I:IW) (μ:IM),I [(ai 0)] w /\∀(e:Value) f,I [e] f -> aI .lss e j (zl 7 a e λk=>ze 7 k f λl=>zh [ai 0,ai 0,ai 0,ai 0,ai 0,ai 0,.bool false] 98 f λg m=>zi 7 g l m λd=>a_ 1 g d λn=>aI .geq n b (cW R d) (a_ 3 g d λo=>aI .gtr o c (cW R d) (zc .add e (ai 1) λh=>I [h] d/\μ [h] d<μ [e] f))) (aF 279 [a] f λp q=>R p q)
theorem gR1(h:O9 a b c w R):aF 205 [a,b,c] w R:=VJ [(2,[11],[0,1,2,9,10])] [] Tryz.func205 h
def Ps:Prop:=∃p:List Value,b= .agg p.toArray/\zh p 101 w λe K=>zh [ai 0,bI,bI] 214 K λq s=>a_ 0 e s λL=>zk [ai 0,bI,bI] [(0,1,L)] λM=>zh [ai 0,bI,bI] 214 s λf N=>zi 3 f M N λt=>a_ 3 e t λu=>zd u λO=>∃(I:IW) (μ:IM),I [(ai 0)] t /\∀(k:Value) g,I [k] g -> aI .lss k O (zl 1 u k λP=>cI P g λQ=>zj g λn=>zn 2 f λv=>cI v n λx=>a_ 0 e n λS=>aF 291 [a,Q,S] n λT y=>aR v y x <| zx 7 56 [ai 0,ai 0,ai 0,ai 0,ai 0,ai 0,.bool false] 393 x T y λU V=>zn 2 f λX=>jN X U V λz=>zc .add k (ai 1) λA=>I [A] z/\μ [A] z<μ [k] g) (a_ 2 e g λB=>zd B λY=>∃(l:IW) (m:IM),l [(ai 0)] g /\∀(d:Value) h,l [d] h -> aI .lss d Y (zl 4 B d λZ=>ze 4 Z h λα=>zh [ai 0,ai 0,.bool false,gI] 56 h λj β=>zi 4 j α β λC=>a_ 0 j C λγ=>aF 292 [a,γ] C λδ c=>iy δ (a_ 1 f c λε=>a_ 0 e c λζ=>a_ 0 j c λη=>a_ 1 j c λθ=>a_ 2 j c λι=>a_ 3 j c λκ=>zk [ai 0,ai 0,ai 0,.bool false,gI] [(0,1,ζ),(1,1,η),(2,1,θ),(3,1,ι),(4,1,κ)] λν=>zm (fR [ai 0,ai 0,ai 0,.bool false,gI] 1) [(0,5,ν)] 390 1 c λξ π=>zx 5 48 [ai 0,ai 0,ai 0,.bool false,gI] 390 ε ξ π λρ σ=>zn 1 f λτ=>jN τ ρ σ λD=>zc .add d (ai 1) λE=>l [E] D/\m [E] D<m [d] h) (zc .add d (ai 1) λG=>l [G] c/\m [G] c<m [d] h)) (zj h λo=>b_ 0 a λφ=>a_ 0 φ o λχ=>a_ 2 e o λψ=>aF 293 [χ,ψ] o λaa H=>ze 3 f H λω=>zi 3 q ω H λJ=>ze 3 q J λr=>R r J))
theorem gWk(h:Ps a b w R):aF 224 [a,b] w R:=VJ [(3,[16],[0,3,4,5,14,15]),(8,[33],[0,3,4,5,31,32])] [] Tryz.func224 h
def Pt:Prop:=∃o:List Value,b= .agg o.toArray/\zh o 101 w λk H=>zh [ai 0,bI,bI] 214 H λc J=>∃I:IW,(zj J λe=>b_ 0 a λK=>zn 0 K λp=>cI p e λl=>zn 4 k λq=>cI q e λm=>zn 0 k λs=>cI s e λn=>(aF 294 [l,m,n] e λt L=>zf 0 t λM=>zf 1 t λN=>zh [ai 0,bI,bI] 214 L λu O=>zi 3 u M O λP=>I [u,N] P) /\(zh [ai 0,bI,bI] 214 e λv h=>aR p h l <| aR q h m <| aR s h n <| aF 294 [l,m,n] h λx Q=>zf 0 x λS=>zf 1 x λT=>zi 3 v S Q λU=>I [v,T] U)) /\∀(f:Value) (y:Value) d,I [f,y] d -> gi y (a_ 0 k d λV=>zk [ai 0,bI,bI] [(0,1,V)] λX=>zi 3 c X d λz=>ze 3 c z λr=>R r z) (a_ 2 f d λY=>zl 7 Y (ai 0) λZ=>ze 7 Z d λα=>zh [ai 0,ai 0,ai 0,ai 0,ai 0,ai 0,.bool false] 393 d λj β=>zi 7 j α β λγ=>zj γ λg=>bW 4 a g λδ=>a_ 1 j g λε=>a_ 5 j g λζ=>a_ 6 j g λη=>aF 295 [δ,ε,ζ,η] g λA B=>zf 0 A λθ=>zf 1 A λι=>gi ι (zn 2 f λκ=>jN κ bI B λC=>ze 3 f C λν=>zi 3 c ν C λD=>ze 3 c D λξ=>R ξ D) (ia 4 a θ B λE=>ze 3 f E λπ=>zi 3 c π E λG=>ze 3 c G λρ=>R ρ G))
theorem gWl(h:Pt a b w R):aF 225 [a,b] w R:=VJ [] [(2,[5,6],[0,3,4])] Tryz.func225 h
def Rj:Prop:=aF 124 [b] w λh m=>zf 0 h λn=>zf 1 h λo=>zh [ai 0,ai 0] 227 m λd p=>zi 2 d n p λq=>zj q λe=>gi o (R bI e) (a_ 0 d e λr=>bW 1 a e λs=>aI .geq r s (R bI e) (zj e λf=>bW 4 a f λt=>a_ 0 d f λu=>a_ 1 d f λv=>aF 328 [t,u,v,c] f λj k=>zf 0 j λl=>zf 1 j λx=>gi x (R bI k) (ia 4 a l k λg=>zd l λy=>a_ 0 d g λz=>a_ 1 d g λA=>zk [ai 0,ai 0,ai 0,ai 0,ai 0,ai 0,.bool false] [(0,1,(ai 1)),(1,1,y),(2,1,z),(3,1,A),(4,1,c)] λB=>zm (fR [ai 0,ai 0,ai 0,ai 0,ai 0,ai 0,.bool false] 1) [(0,7,B)] 393 1 g λC D=>R C D)))
theorem g_1(h:Rj a b c w R):aF 291 [a,b,c] w R:=c_ Tryz.func291 h
def Rk:Prop:=(b).oneCell'=true/\zh [b] 3 w λe f=>zj f λc=>cI e c λg=>aI .lss g (ai 0) (cW R c) (cI e c λh=>bW 1 a c λj=>aI .geq h j (cW R c) (zj c λd=>bW 2 a d λk=>cI e d λl=>zc .shr k l λm=>zc .and m (ai 1) λn=>aI .eql n (ai 0) (R (.bool true) d) (bW 4 a d λo=>aF 336 [o,(.func (.func 337) [].toArray [e].toArray)] d λp q=>R p q)))
theorem g_2(h:Rk a b w R):aF 292 [a,b] w R:=c_ Tryz.func292 h
def RW:Prop:=∃d:List Value,a= .agg d.toArray/\zh d 98 w λe c=>a_ 1 e c λf=>cI b c λg=>zc .eql f g λh=>R h c
theorem h_3(h:RW a b w R):aF 337 [a,b] w R:=c_ Tryz.func337 h
def SJ:Prop:=bW 2 a w λd=>aF 55 [d] w λc b=>aI .eql c (ai 1) (R (.bool true) b) (aI .eql c (ai 2) (R (.bool true) b) (aI .eql c (ai 0) (bW 1 a b λe=>aF 75 [e] b λf g=>aF 74 [f] g λh j=>zd h λk=>zc .gtr k (ai 0) λl=>R l j) (cW R b)))
theorem ibi(h:SJ a w R):aF 64 [a] w R:=c_ Tryz.func64 h
def NP:Prop:=aF 64 [a] w λt g=>gi t (R (.tuple #[(ai 0),(ai 0)]) g) (bW 2 a g λu=>aF 55 [u] g λn h=>aI .eql n (ai 0) (aF 170 [a] h λo v=>zf 0 o λx=>zf 1 o λy=>R (.tuple #[x,y]) v) (aI .eql n (ai 1) (zj h λb=>b_ 2 a λd=>cI d b λe=>b_ 0 a λj=>cI j b λk=>bW 2 a b λz=>b_ 2 a λp=>cI p b λq=>b_ 4 a λl=>cI l b λm=>aF 173 [z] b λA c=>aR d c e <| aR j c k <| aR p c q <| aR l c m <| aF 174 [q] c λB f=>aR d f e <| aR j f k <| aR l f m <| aF 172 [k,A,B,m] f λC r=>aR d r e <| aF 171 [e,C] r λJ D=>R (.tuple #[(ai 4),(ai 0)]) D) (aF 175 [a] h λs E=>zf 0 s λG=>zf 1 s λH=>R (.tuple #[G,H]) E)))
theorem gFt(h:NP a w R):aF 114 [a] w R:=c_ Tryz.func114 h
def Of:Prop:=aI .lss c (ai 1) (R (.tuple #[h_,(ai 1)]) w) (aI .gtr c (ai 64) (R (.tuple #[h_,(ai 1)]) w) (b_ 0 b λe=>ze 1 e w λf=>aF 46 [f] w λg h=>aF 207 [] h λj k=>zk [h_,h_,h_,h_,ai 0] [(0,1,a),(1,1,b),(2,1,g),(3,1,j),(4,1,c)] λl=>∃d:List Value,l= .agg d.toArray/\zh d 208 k λm n=>R (.tuple #[m,(ai 0)]) n))
theorem gIl(h:Of a b c w R):aF 150 [a,b,c] w R:=c_ Tryz.func150 h
def OD:Prop:=aF 229 [a] w λJ f=>bW 3 a f λp=>aF 230 [p] f λg h=>zf 0 g λj=>zf 1 g λq=>bW 1 a h λr=>aF 75 [r] h λk c=>gi q (R (.tuple #[(ai 0),(ai 0)]) c) (zd k λs=>aI .gtr j s (R (.tuple #[(ai 0),(ai 0)]) c) (bW 0 a c λt=>aF 48 [t] c λu l=>zc .add u (ai 1) λm=>bW 0 a l λv=>aF 231 [v,(ai 2),m] l λn e=>zf 0 n λK=>zf 1 n λo=>aI .neq o (ai 0) (R (.tuple #[(ai 0),o]) e) (zc .sub j (ai 1) λx=>zl 7 k x λy=>ze 7 y e λz=>zh [ai 0,ai 0,ai 0,ai 0,ai 0,ai 0,.bool false] 98 e λd A=>zi 7 d z A λB=>zj B λb=>bW 2 a b λC=>a_ 0 d b λD=>a_ 1 d b λE=>a_ 4 d b λG=>aF 232 [C,m,D,E,G] b λL H=>R (.tuple #[(ai 3),(ai 0)]) H)))
theorem gI5(h:OD a w R):aF 170 [a] w R:=c_ Tryz.func170 h
def OI:Prop:=zj w λb=>b_ 0 a λd=>cI d b λe=>bW 2 a b λj=>aF 235 [j] b λk f=>aR d f e <| aF 231 [e,(ai 3),k] f λg c=>zf 0 g λn=>zf 1 g λh=>aI .neq h (ai 0) (R (.tuple #[(ai 0),h]) c) (bW 2 a c λl=>aF 236 [l] c λo m=>R (.tuple #[(ai 5),(ai 0)]) m)
theorem gRa(h:OI a w R):aF 175 [a] w R:=c_ Tryz.func175 h
def Px:Prop:=bW 1 a w λu=>aF 75 [u] w λm v=>zd m λx=>∃(I:IW) (μ:IM),I [(ai 0)] v /\∀(b:Value) c,I [b] c -> aI .lss b x (zl 7 m b λy=>ze 7 y c λz=>zh [ai 0,ai 0,ai 0,ai 0,ai 0,ai 0,.bool false] 98 c λh A=>zi 7 h z A λf=>a_ 6 h f λB=>iy B (zj f λj=>bW 3 a j λC=>a_ 0 h j λD=>aF 296 [C,D] j λT n=>zc .add b (ai 1) λo=>I [o] n/\μ [o] n<μ [b] c) (zc .add b (ai 1) λp=>I [p] f/\μ [p] f<μ [b] c)) (bW 1 a c λE=>aF 75 [E] c λG H=>aF 74 [G] H λq J=>zd q λK=>∃(k:IW) (r:IM),k [(ai 0)] J /\∀(d:Value) e,k [d] e -> aI .lss d K (zl 7 q d λL=>ze 7 L e λM=>zh [ai 0,ai 0,ai 0,ai 0,ai 0,ai 0,.bool false] 98 e λl N=>zi 7 l M N λO=>zj O λg=>bW 3 a g λP=>a_ 0 l g λQ=>a_ 2 l g λS=>aF 297 [P,Q,S] g λU s=>zc .add d (ai 1) λt=>k [t] s/\r [t] s<r [d] e) (R (.tuple #[]) e))
theorem gWp(h:Px a w R):aF 229 [a] w R:=VJ [(1,[12],[0,10,11]),(7,[33],[0,31,32])] [] Tryz.func229 h
def PB:Prop:=zd c λd=>aI .gtr d (ai 0) (zd c λe=>zc .sub e (ai 1) λf=>zl 2 c f λg=>a_ 0 g w λh=>zd c λj=>zc .lss j b λk=>R (.tuple #[h,k]) w) (zd c λl=>zc .lss l b λm=>R (.tuple #[a,m]) w)
theorem gWt(h:PB a b c w R):aF 233 [a,b,c] w R:=c_ Tryz.func233 h
def NY:Prop:=zh [ai 0,ai 0] 227 w λb n=>aF 187 [a,(.string {data:=#[115,110,97,112,115,104,111,116,32]})] n λf g=>zf 0 f λo=>zf 1 f λp=>gi p (zk [ai 0,ai 0] [] λq=>zi 2 b q g λh=>ze 2 b h λr=>R (.tuple #[r,(.bool false)]) h) (aF 188 [o,(.string {data:=#[32]})] g λe s=>zf 0 e λt=>zf 1 e λu=>zf 2 e λv=>aF 189 [t,(.int .u8 48),(.int .u8 55)] s λx y=>zk [ai 0,ai 0] [(0,1,x),(1,1,(ai 1))] λz=>zh [ai 0,ai 0] 227 y λd A=>zi 2 d z A λj=>∃I:IW,(iy v (aF 189 [u,(.int .u8 49),(.int .u8 56)] j λB C=>zn 1 d λD=>jN D B C λE=>I [] E) (I [] j)) /\∀c,I [] c -> a_ 0 d c λG=>aI .lss G (ai 0) (zk [ai 0,ai 0] [] λH=>zi 2 b H c λk=>ze 2 b k λJ=>R (.tuple #[J,(.bool false)]) k) (a_ 1 d c λK=>aI .lss K (ai 0) (zk [ai 0,ai 0] [] λL=>zi 2 b L c λl=>ze 2 b l λM=>R (.tuple #[M,(.bool false)]) l) (ze 2 d c λN=>zi 2 b N c λm=>ze 2 b m λO=>R (.tuple #[O,(.bool true)]) m)))
theorem gF2(h:NY a w R):aF 124 [a] w R:=VJ [] [(8,[],[2,9])] Tryz.func124 h
def OW:Prop:=zX a λd=>aI .neq d (ai 1) (R (ai (-1)) w) (jY Tryz.prog (Instr.index 9 a (ai 0)) w λe=>aI .lss e b (R (ai (-1)) w) (jY Tryz.prog (Instr.index 9 a (ai 0)) w λf=>aI .gtr f c (R (ai (-1)) w) (jY Tryz.prog (Instr.index 9 a (ai 0)) w λg=>zc .sub g (.int .u8 48) λh=>zJ .i64 h λj=>R j w)))
theorem gRo(h:OW a b c w R):aF 189 [a,b,c] w R:=c_ Tryz.func189 h
def Sl:Prop:=aF 95 [a] w λc d=>zk [bI,bI,bI,bI,bI,bI,bI,bI,bI,bI,bI,bI,bI,bI,bI,bI,ai 0] [(16,1,c)] λe=>∃b:List Value,e= .agg b.toArray/\zh b 173 d λf g=>R f g
theorem iaw(h:Sl a w R):aF 41 [a] w R:=c_ Tryz.func41 h
def Sw:Prop:=bW 16 a w λb=>R b w
theorem ia5(h:Sw a w R):aF 50 [a] w R:=c_ Tryz.func50 h
def S4:Prop:=y2 a (ai 0) λb=>ZS b (ai 1125899906842624) λc=>R c w
theorem ib1(h:S4 a w R):aF 95 [a] w R:=c_ Tryz.func95 h
def ON:Prop:=zj w λh=>b_ 16 a λj=>cI j h λk=>aF 95 [b] h λr l=>aR j l k <| y2 k r λs=>ia 16 a s l λt=>aF 242 [a] t λf u=>aF 243 [f,(.func (.func 244) #[] #[])] u λG v=>zd f λx=>∃(I:IW) (μ:IM),I [bI,(ai 0)] v /\∀(e c:Value) d,I [e,c] d -> aI .lss c x (zl 2 f c λy=>ze 2 y d λz=>zh [ai 0,ai 0] 361 d λg A=>zi 2 g z A λm=>a_ 0 g m λB=>aF 248 [a,B] m λH n=>a_ 0 g n λC=>zm (fR [ai 0] 1) [(0,1,C)] 3 1 n λD E=>zx 1 8 [ai 0] 3 e D E λo p=>zc .add c (ai 1) λq=>I [o,q] p/\μ [o,q] p<μ [e,c] d) (R e d)
theorem gRf(h:ON a b w R):aF 180 [a,b] w R:=VJ [(6,[6,25],[0,23,24])] [] Tryz.func180 h
def PL:Prop:=b_ 0 a λs=>ze 16 s w λt=>∃(I:IW) (μ:IM),I [bI,(ai 0)] w /\∀(h f:Value) g,I [h,f] g -> aI .lss f (ai 16) (jY Tryz.prog (Instr.index 171 t f) g λm=>zd m λu=>∃(j:IW) (k:IM),j [h,(ai 0)] g /\∀(b:Value) (c:Value) d,j [b,c] d -> aI .lss c u (zl 2 m c λv=>ze 2 v d λx=>zh [ai 0,ai 0] 361 d λl y=>zi 2 l x y λz=>zj z λe=>a_ 1 l e λA=>bW 16 a e λB=>aI .leq A B (ze 2 l e λC=>zm (fR [ai 0,ai 0] 1) [(0,2,C)] 361 1 e λD E=>zx 2 16 [ai 0,ai 0] 361 b D E λn o=>zc .add c (ai 1) λp=>j [n,p] o/\k [n,p] o<k [b,c] d) (zc .add c (ai 1) λq=>j [b,q] e/\k [b,q] e<k [b,c] d)) (zc .add f (ai 1) λr=>I [b,r] d/\μ [b,r] d<μ [h,f] g)) (R h g)
theorem gW2(h:PL a w R):aF 242 [a] w R:=VJ [(3,[3,12],[0,11]),(6,[3,17],[0,11,12,15,16])] [] Tryz.func242 h
def PM:Prop:=∃e:List Value,a= .agg e.toArray/\zh e 361 w λf n=>∃g:List Value,b= .agg g.toArray/\zh g 361 n λh o=>zj o λc=>a_ 1 f c λp=>a_ 1 h c λq=>zn 0 f λj=>cI j c λk=>zn 0 h λl=>cI l c λm=>aF 246 [p,q] c λr d=>aR j d k <| aR l d m <| aF 247 [k,m] d λs t=>zm (fR [ai 0] 2) [(0,1,r),(1,1,s)] 3 2 t λu v=>aF 245 [u] v λx y=>R x y
theorem gW3(h:PM a b w R):aF 244 [a,b] w R:=c_ Tryz.func244 h
def PQ:Prop:=aF 306 [a,b] w λc d=>aI .lss c (ai 0) (cW R d) (aF 307 [b] d λe g=>zj g λf=>b_ 0 a λh=>yz 1 16 h e λj=>cI j f λk=>zc .add c (ai 1) λl=>b_ 0 a λm=>aF 308 [k,c,l] f λn o=>yz 1 16 m e λp=>jN p n o λq=>R (.bool true) q)
theorem gW6(h:PQ a b w R):aF 248 [a,b] w R:=c_ Tryz.func248 h
def Ry:Prop:=(b).oneCell'=true/\zh [b] 3 w λc f=>zj f λd=>cI c d λg=>b_ 0 a λh=>aF 307 [g] d λj e=>yz 1 16 h j λk=>cI k e λl=>aF 354 [l,(.func (.func 355) [].toArray [c].toArray)] e λm n=>R m n
theorem h_f(h:Ry a b w R):aF 306 [a,b] w R:=c_ Tryz.func306 h
def Rz:Prop:=zJ .u64 a λb=>zc .rem b (.int .u64 16) λc=>zJ .i64 c λd=>R d w
theorem h_g(h:Rz a w R):aF 307 [a] w R:=c_ Tryz.func307 h
def R5:Prop:=∃d:List Value,a= .agg d.toArray/\zh d 361 w λe c=>a_ 0 e c λf=>cI b c λg=>zc .eql f g λh=>R h c
theorem iac(h:R5 a b w R):aF 355 [a,b] w R:=c_ Tryz.func355 h
def aWr:Prop:=zd a λg=>∃(I:IW) (μ:IM),I [(ai 0)] w /\∀(c:Value) d,I [c] d -> aI .lss c g (zl 2 a c λh=>ze 2 h d λj=>zS Tryz.prog r_ b [j] d λk e=>iy k (R c e) (zc .add c (ai 1) λf=>I [f] e/\μ [f] e<μ [c] d)) (R (ai (-1)) d)
theorem iab(h:aWr a b w R):aF 354 [a,b] w R:=VJ [(2,[8],[0,1,7])] [] Tryz.func354 h
def aWs:Prop:=zd a λg=>∃(I:IW) (μ:IM),I [(ai 0)] w /\∀(c:Value) d,I [c] d -> aI .lss c g (zl 7 a c λh=>ze 7 h d λj=>zS Tryz.prog r_ b [j] d λk e=>iy k (R c e) (zc .add c (ai 1) λf=>I [f] e/\μ [f] e<μ [c] d)) (R (ai (-1)) d)
theorem ial(h:aWs a b w R):aF 371 [a,b] w R:=VJ [(2,[8],[0,1,7])] [] Tryz.func371 h
def aWt:Prop:=zd a λg=>∃(I:IW) (μ:IM),I [(ai 0)] w /\∀(c:Value) d,I [c] d -> aI .lss c g (zl 2 a c λh=>ze 2 h d λj=>zS Tryz.prog r_ b [j] d λk e=>iy k (R c e) (zc .add c (ai 1) λf=>I [f] e/\μ [f] e<μ [c] d)) (R (ai (-1)) d)
theorem iam(h:aWt a b w R):aF 372 [a,b] w R:=VJ [(2,[8],[0,1,7])] [] Tryz.func372 h
def aWu:Prop:=zd a λg=>∃(I:IW) (μ:IM),I [(ai 0)] w /\∀(c:Value) d,I [c] d -> aI .lss c g (zl 2 a c λh=>ze 2 h d λj=>zS Tryz.prog r_ b [j] d λk e=>iy k (R c e) (zc .add c (ai 1) λf=>I [f] e/\μ [f] e<μ [c] d)) (R (ai (-1)) d)
theorem ian(h:aWu a b w R):aF 373 [a,b] w R:=VJ [(2,[8],[0,1,7])] [] Tryz.func373 h
def RV:Prop:=aF 371 [a,b] w λc d=>zc .geq c (ai 0) λe=>R e d
theorem h_2(h:RV a b w R):aF 336 [a,b] w R:=c_ Tryz.func336 h
def RX:Prop:=aF 372 [a,b] w λg j=>aI .eql g (ai (-1)) (R a j) (zc .add g (ai 1) λp=>∃(I:IW) (μ:IM),I [g,p] j /\∀(c d:Value) e,I [c,d] e -> zd a λq=>aI .lss d q (zl 2 a d λr=>ze 2 r e λs=>zh [ai 0,gI] 66 e λh t=>zi 2 h s t λk=>ze 2 h k λv=>zS Tryz.prog r_ b [v] k λx f=>gi x (ze 2 h f λy=>zl 2 a c λz=>zi 2 z y f λl=>zc .add c (ai 1) λm=>zc .add d (ai 1) λn=>I [m,n] l/\μ [m,n] l<μ [c,d] e) (zc .add d (ai 1) λo=>I [c,o] f/\μ [c,o] f<μ [c,d] e)) (kh 2 a (some c) none none λA=>zR Tryz.prog (Builtin.clear_ #[67] 0 [A].toArray) e λu B=>kh 2 a none (some c) none λC=>R C B))
theorem h_4(h:RX a b w R):aF 338 [a,b] w R:=VJ [(5,[5,6],[0,1])] [] Tryz.func338 h
def aWq:Prop:=zd a λe=>kh 2 a (some b) (some c) (some e) λo=>aI .eql b c (R a w) (zd a λf=>zj w λg=>kh 2 a none (some b) none λh=>kh 2 a (some c) none none λj=>zx 2 16 [ai 0,ai 0] 418 h j g λd k=>zd d λl=>kh 2 d (some l) (some f) none λm=>zR Tryz.prog (Builtin.clear_ #[400] 0 [m].toArray) k λu n=>R d n)
theorem h_8(h:aWq a b c w R):aF 342 [a,b,c] w R:=c_ Tryz.func342 h
def aWo:Prop:=zd a λe=>kh 2 a (some b) (some c) (some e) λo=>aI .eql b c (R a w) (zd a λf=>zj w λg=>kh 2 a none (some b) none λh=>kh 2 a (some c) none none λj=>zx 2 16 [ai 0,ai 0] 361 h j g λd k=>zd d λl=>kh 2 d (some l) (some f) none λm=>zR Tryz.prog (Builtin.clear_ #[170] 0 [m].toArray) k λu n=>R d n)
theorem h_h(h:aWo a b c w R):aF 308 [a,b,c] w R:=c_ Tryz.func308 h
def OU:Prop:=aF 255 [a,b] w λc d=>zf 0 c λe=>zf 1 c λf=>R (.tuple #[e,f]) d
theorem gRm(h:OU a b w R):aF 187 [a,b] w R:=c_ Tryz.func187 h
def OV:Prop:=aF 256 [a,b] w λc d=>zf 0 c λe=>zf 1 c λf=>zf 2 c λg=>R (.tuple #[e,f,g]) d
theorem gRn(h:OV a b w R):aF 188 [a,b] w R:=c_ Tryz.func188 h
def PW:Prop:=aF 315 [a,b] w λc d=>aI .geq c (ai 0) (zj d λe=>Zp a none (some c) λf=>zX b λg=>zc .add c g λh=>Zp a (some h) none λj=>R (.tuple #[f,j,(.bool true)]) e) (R (.tuple #[a,(.string {data:=#[]}),(.bool false)]) d)
theorem g_c(h:PW a b w R):aF 256 [a,b] w R:=c_ Tryz.func256 h
def PV:Prop:=aF 314 [a,b] w λd c=>gi d (R (.tuple #[a,(.bool false)]) c) (zX b λe=>Zp a (some e) none λf=>R (.tuple #[f,(.bool true)]) c)
theorem g_b(h:PV a b w R):aF 255 [a,b] w R:=c_ Tryz.func255 h
def RC:Prop:=zX a λc=>zX b λd=>aI .geq c d (zX b λe=>Zp a none (some e) λf=>zc .eql f b λg=>R g w) (cW R w)
theorem h_k(h:RC a b w R):aF 314 [a,b] w R:=c_ Tryz.func314 h
def RD:Prop:=zX b λf=>∃I:IW,(aI .eql f (ai 0) (R (ai 0) w) (aI .eql b a (R (ai 0) w) (aI .eql f (ai 1) (jY Tryz.prog (Instr.index 9 b (ai 0)) w λC=>aF 361 [a,C] w λD E=>R D E) (zX a λG=>aI .geq f G (R (ai (-1)) w) (cI (.pointer (some ⟨0,0,none⟩)) w λH=>aI .leq f H (zX a λJ=>aI .leq J (ai 64) (qW Tryz.prog 362 [a,b] w λK L=>R K L) (I [] w)) (I [] w)))))) /\∀n,I [] n -> jY Tryz.prog (Instr.index 9 b (ai 0)) n λt=>jY Tryz.prog (Instr.index 9 b (ai 1)) n λM=>zX a λN=>zc .sub N f λO=>zc .add O (ai 1) λp=>∃(k:IW) (μ:IM),k [(ai 0),(ai 0)] n /\∀(e l:Value) g,k [e,l] g -> aI .lss e p (∃q:IW,(jY Tryz.prog (Instr.index 9 a e) g λP=>aI .neq P t (zc .add e (ai 1) λQ=>Zp a (some Q) (some p) λS=>aF 361 [S,t] g λu v=>aI .lss u (ai 0) (R (ai (-1)) v) (zc .add u (ai 1) λT=>zc .add e T λU=>q [U] v)) (q [e] g)) /\∀(j:Value) m,q [j] m -> ∃r:IW,(zc .add j (ai 1) λV=>jY Tryz.prog (Instr.index 9 a V) m λX=>aI .eql X M (zc .add j f λY=>Zp a (some j) (some Y) λZ=>aI .eql Z b (R j m) (r [] m)) (r [] m)) /\∀o,r [] o -> zc .add j (ai 1) λc=>zc .add l (ai 1) λh=>∃s:IW,(cI (.pointer (some ⟨0,0,none⟩)) o λα=>aI .leq f α (aF 363 [c] o λβ γ=>zc .gtr h β λδ=>s [δ] γ) (s [(.bool false)] o)) /\∀(x:Value) d,s [x] d -> iy x (Zp a (some c) none λε=>qW Tryz.prog 362 [ε,b] d λy z=>aI .geq y (ai 0) (zc .add y c λζ=>R ζ z) (R (ai (-1)) z)) (cI (.pointer (some ⟨0,0,none⟩)) d λη=>aI .gtr f η (zc .shr c (.int .u64 4) λθ=>zc .add (ai 4) θ λι=>aI .geq h ι (aI .lss c p (Zp a (some c) none λκ=>aF 364 [κ,b] d λA B=>aI .lss A (ai 0) (R (ai (-1)) B) (zc .add c A λν=>R ν B)) (k [c,h] d/\μ [c,h] d<μ [e,l] g)) (k [c,h] d/\μ [c,h] d<μ [e,l] g)) (k [c,h] d/\μ [c,h] d<μ [e,l] g))) (R (ai (-1)) g)
theorem h_l(h:RD a b w R):aF 315 [a,b] w R:=VJ [(15,[8,10],[0,1,5,6,7,9])] [(10,[],[0,1,5]),(21,[8],[0,1,5,6,7,9,10]),(23,[],[0,1,5,6,7,8,9,10]),(26,[107],[0,1,5,6,7,8,9,10])] Tryz.func315 h
def R_:Prop:=qW Tryz.prog 390 [a,b] w λc d=>R c d
theorem iah(h:R_ a b w R):aF 361 [a,b] w R:=c_ Tryz.func361 h
