/- Part. -/
import Derived.Test.YtmkllimamejcgaaGreatQTab
namespace Go.Proofs.YtmkllimamejcgaaGreat
set_option linter.all false
set_option maxRecDepth 100000
open Go.RowKit
variable (a b c d e f g h j k l m n o p : Value) (w : World) (R : Value -> World -> Prop)
def Pr:Prop:=bU 2 a w λb=>bV 0 b λc=>aF 101 [c] w λd e=>R d e
theorem cK1(h:Pr a w R):aF 48 [a] w R:=cw Tryz.func48 h
def Ps:Prop:=bU 2 a w λb=>bV 0 b λc=>aF 102 [c] w λd e=>R d e
theorem cK2(h:Ps a w R):aF 49 [a] w R:=cw Tryz.func49 h
def PJ:Prop:=zm [ai 0,ai 0,bI,bI,ai 0] [(0,1,(ai 1)),(1,1,(ai 1)),(2,1,c),(3,1,b)] λj=>zh [ai 0,ai 0,bI,bI,ai 0] 101 w λd k=>zj 5 d j k λg=>zg 5 d g λl=>aF 108 [l] g λm e=>cL m (R (.tuple #[(ai 0),(ai 1)]) e) (bU 0 a e λn=>aF 110 [n] e λo p=>aF 109 [c,o] p λq f=>cL q (R (.tuple #[(ai 0),(ai 1)]) f) (zg 5 d f λr=>aF 111 [a,r] f λh s=>zf 0 h λt=>zf 1 h λu=>R (.tuple #[t,u]) s))
theorem cLi(h:PJ a b c w R):aF 67 [a,b,c] w R:=cw Tryz.func67 h
def PW:Prop:=zh [ai 0,ai 0,bI,bI,ai 0] 101 w λc d=>bU 2 a d λl=>bV 0 l λm=>aF 136 [m,b] d λe f=>zf 0 e λn=>zf 1 e λg=>aI .neq g (ai 0) (zm [ai 0,ai 0,bI,bI,ai 0] [] λo=>zj 5 c o f λh=>zg 5 c h λr=>R (.tuple #[r,g]) h) (aF 105 [n] f λj p=>zf 0 j λq=>zf 1 j λs=>zj 5 c q p λk=>zg 5 c k λt=>R (.tuple #[t,s]) k)
theorem cLv(h:PW a b w R):aF 86 [a,b] w R:=cw Tryz.func86 h
def P2:Prop:=aF 137 [b] w λe f=>zf 0 e λn=>zf 1 e λg=>aI .neq g (ai 0) (R (.tuple #[cT,g]) f) (aF 138 [a,(ai 16),c] f λh j=>zf 0 h λo=>zf 1 h λk=>aI .neq k (ai 0) (R (.tuple #[cT,k]) j) (zm [cT,cT,cT,ai 0,ai 0] [(0,1,n),(1,1,a),(2,1,o),(3,1,(ai (-1)))] λp=>∃l:List Value,p= .agg l.toArray/\zh l 156 j λd q=>aF 139 [d] q λt r=>aF 140 [d] r λs m=>cL s (R (.tuple #[cT,(ai 3)]) m) (R (.tuple #[d,(ai 0)]) m)))
theorem cL2(h:P2 a b c w R):aF 96 [a,b,c] w R:=cw Tryz.func96 h
def LB:Prop:=zd a λh=>∃(I:IW) (μ:IM),I [(ai 0)] w /\∀(c:Value) d,I [c] d -> aI .lss c h (zk 4 a c λj=>zg 4 j d λk=>zh [ai 0,ai 0,.bool false,cQ] 56 d λf l=>zj 4 f k l λe=>a_ 0 f e λm=>aI .geq m b (bY R e) (zc .add c (ai 1) λg=>I [g] e/\μ [g] e<μ [c] d)) (R (.bool true) d)
theorem cEj(h:LB a b w R):aF 109 [a,b] w R:=VJ [(2,[9],[1,7,8])] [] Tryz.func109 h
def LF:Prop:=∃j:List Value,b= .agg j.toArray/\zh j 101 w λc k=>bU 1 a k λt=>aF 60 [t] k λu l=>dm u (R (.tuple #[(ai 0),(ai 8)]) l) (zi l λd=>bU 0 a d λv=>a_ 2 c d λx=>aF 161 [v,x] d λy m=>cL y (R (.tuple #[(ai 0),(ai 7)]) m) (aF 48 [a] m λz n=>aI .geq z (ai 1099511627776) (R (.tuple #[(ai 0),(ai 7)]) n) (aF 48 [a] n λA B=>zc .add A (ai 1) λC=>zl 0 c λD=>eH D C B λo=>zg 5 c o λE=>aF 162 [E] o λp e=>zf 0 p λG=>zf 1 p λq=>∃I:IW,(aI .eql q (ai 0) (bU 2 a e λH=>aF 163 [H,G] e λr J=>zf 0 r λO=>zf 1 r λK=>I [K] J) (I [q] e)) /\∀(f:Value) g,I [f] g -> aI .neq f (ai 0) (R (.tuple #[(ai 0),f]) g) (zi g λh=>bU 0 a h λL=>a_ 2 c h λM=>aF 164 [L,M] h λP s=>a_ 0 c s λN=>R (.tuple #[N,(ai 0)]) s))))
theorem cEm(h:LF a b w R):aF 111 [a,b] w R:=VJ [] [(9,[7],[0,3])] Tryz.func111 h
def LO:Prop:=aI .lss b (ai 0) (R (ai 1) w) (aF 48 [a] w λg d=>aI .gtr b g (R (ai 1) d) (bU 1 a d λh=>aF 60 [h] d λj c=>dm j (R (ai 8) c) (bU 4 a c λk=>aI .gtr b k (aF 181 [a] c λf e=>aI .neq f (ai 0) (R f e) (bU 2 a e λl=>aF 182 [l,b] e λm n=>R m n)) (bU 2 a c λo=>aF 182 [o,b] c λp q=>R p q))))
theorem cEv(h:LO a b w R):aF 120 [a,b] w R:=cw Tryz.func120 h
def LZ:Prop:=∃(I:IW) (μ:IM),I [(ai 0)] w /\∀(b:Value) e,I [b] e -> aI .leq b (ai 1) (zi e λg=>bV 1 a λl=>cn l g λm=>bU 0 a g λy=>aF 110 [y] g λz n=>aR l n m <| aF 198 [m,b,z] n λh c=>zf 0 h λo=>zf 1 h λp=>zf 2 h λA=>∃j:IW,(cL A (zc .add b (ai 1) λq=>I [q] c/\μ [q] c<μ [b] e) (bU 3 a c λB=>aI .geq B (ai 0) (bU 4 a c λC=>aI .leq o C (zc .add b (ai 1) λr=>I [r] c/\μ [r] c<μ [b] e) (j [] c)) (j [] c))) /\∀s,j [] s -> cV 3 a b s λD=>cV 4 a o D λE=>zd p λG=>∃(k:IW) (t:IM),k [(ai 0)] E /\∀(f:Value) d,k [f] d -> aI .lss f G (zk 1 p f λH=>cn H d λJ=>bU 0 a d λK=>aF 199 [K,f,J] d λL u=>zc .add f (ai 1) λv=>k [v] u/\t [v] u<t [f] d) (zc .add b (ai 1) λx=>I [x] d/\μ [x] d<μ [b] e)) (R (.tuple #[]) e)
theorem cE5(h:LZ a w R):aF 139 [a] w R:=VJ [(1,[2],[0]),(7,[54],[0,2,52,53])] [(5,[],[0,2,3,4])] Tryz.func139 h
def L4:Prop:=aF 49 [a] w λy z=>∃(I:IW) (μ:IM),I [y] z /\∀(b:Value) e,I [b] e -> aF 48 [a] e λA j=>aI .leq b A (aF 86 [a,b] j λk B=>zf 0 k λC=>zf 1 k λD=>zh [ai 0,ai 0,bI,bI,ai 0] 101 B λf E=>zj 5 f C E λG=>zi G λc=>aI .neq D (ai 0) (bY R c) (a_ 0 f c λH=>aI .neq H b (bY R c) (zl 2 f λl=>cn l c λm=>bU 0 a c λJ=>aF 110 [J] c λK n=>aR l n m <| aF 109 [m,K] n λL d=>cL L (bY R d) (bU 4 a d λM=>aI .gtr b M (zi d λh=>bU 0 a h λN=>a_ 2 f h λO=>aF 164 [N,O] h λU o=>zc .add b (ai 1) λp=>I [p] o/\μ [p] o<μ [b] e) (zc .add b (ai 1) λq=>I [q] d/\μ [q] d<μ [b] e))))) (zi j λr=>bV 4 a λs=>cn s r λt=>aF 48 [a] r λP g=>aR s g t <| aI .leq t P (bV 4 a λu=>cn u g λv=>zc .add v (ai 1) λQ=>aF 49 [a] g λS x=>aR u x v <| zc .leq S Q λT=>R T x) (bY R g))
theorem cE7(h:L4 a w R):aF 140 [a] w R:=VJ [(2,[3],[0])] [] Tryz.func140 h
def MC:Prop:=bU 0 a w λe=>aF 234 [e,b,c,d] w λf g=>R f g
theorem cF4(h:MC a b c d w R):aF 172 [a,b,c,d] w R:=cw Tryz.func172 h
def ML:Prop:=∃I:IW,(bU 3 a w λy=>aI .eql y (ai 0) (zc .add (ai 0) (ai 1) λz=>I [z] w) (I [(ai 0)] w)) /\∀(b:Value) k,I [b] k -> bU 0 a k λA=>aF 110 [A] k λB C=>∃(l:IW) (μ:IM),l [bI,(ai 0)] C /\∀(f c:Value) d,l [f,c] d -> aI .lss c B (bU 0 a d λD=>aF 84 [D,c] d λE G=>zn (cK [bI] 1) [(0,1,E)] 67 1 G λH J=>zx 1 24 [bI] 67 f H J λr s=>zc .add c (ai 1) λt=>l [r,t] s/\μ [r,t] s<μ [f,c] d) (aF 48 [a] d λK L=>aF 249 [K,f] L λu m=>zf 0 u λM=>zf 1 u λn=>∃g:IW,(aI .eql n (ai 0) (bU 1 a m λN=>aF 250 [N,b] m λO o=>aI .geq O (ai 0) (bU 1 a o λP=>aF 251 [P,b,(ai 0)] o λQ S=>g [Q] S) (g [n] o)) (g [n] m)) /\∀(p:Value) h,g [p] h -> ∃q:IW,(aI .eql p (ai 0) (bU 1 a h λT=>aF 220 [T,b,M] h λU V=>q [U] V) (q [p] h)) /\∀(j:Value) e,q [j] e -> aI .eql j (ai 0) (bU 1 a e λX=>aF 221 [X,b] e λv x=>aI .neq v (ai 0) (R v x) (aF 48 [a] x λY Z=>cV 3 a b Z λα=>cV 4 a Y α λβ=>R (ai 0) β)) (aI .neq j (ai 0) (R j e) (aF 48 [a] e λγ δ=>cV 3 a b δ λε=>cV 4 a γ ε λζ=>R (ai 0) ζ)))
theorem cGd(h:ML a w R):aF 181 [a] w R:=VJ [(6,[4,21],[0,3,20])] [(4,[3],[0]),(13,[7],[0,3,6]),(15,[7],[0,3])] Tryz.func181 h
def M0:Prop:=aF 269 [a,b] w λf g=>zf 0 f λk=>zf 1 f λl=>cL l (R (.tuple #[(ai 0),bI,(.bool false)]) g) (aF 271 [k] g λd h=>zf 0 d λj=>zf 1 d λe=>zf 2 d λm=>aI .eql m (ai 0) (zd e λn=>zc .eql n c λo=>R (.tuple #[j,e,o]) h) (R (.tuple #[j,e,(.bool false)]) h))
theorem cGr(h:M0 a b c w R):aF 198 [a,b,c] w R:=cw Tryz.func198 h
def Hh(b e:Value)(c:World)(R:Value->World->Prop):Prop:=zg 5 b c λf=>aF 108 [f] c λg a=>cL g (R (.tuple #[(ai 0),(ai 1)]) a) (zg 5 b a λh=>aF 111 [e,h] a λd j=>zf 0 d λk=>zf 1 d λl=>R (.tuple #[k,l]) j)
def Nz:Prop:=zm [ai 0,ai 0,bI,bI,ai 0] [(0,1,(ai 1)),(1,1,b),(4,1,c)] λf=>zh [ai 0,ai 0,bI,bI,ai 0] 101 w λd g=>zj 5 d f g λe=>aI .neq b (ai 2) (aI .neq b (ai 3) (R (.tuple #[(ai 0),(ai 1)]) e) (Hh d a e R)) (Hh d a e R)
theorem cHo(h:Nz a b c w R):aF 231 [a,b,c] w R:=cw Tryz.func231 h
