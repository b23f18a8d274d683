/- Part. -/
import Derived.Test.YtmkllimamejcgaaGreatQTab
namespace Go.Proofs.YtmkllimamejcgaaGreat
set_option linter.all false
set_option maxRecDepth 100000
open Go.RowKit
variable (a b c d e f g h j k l m n o p : Value) (w : World) (R : Value -> World -> Prop)
def P0:Prop:=aI .geq a (ai 1) (aI .leq a (ai 1073741824) (aI .geq b a (aI .leq b (ai 1073741824) (aI .geq c (ai 0) (zc .leq c (ai 1073741824) λd=>R d w) (bY R w)) (bY R w)) (bY R w)) (bY R w)) (bY R w)
theorem cL0(h:P0 a b c w R):aF 94 [a,b,c] w R:=cw Tryz.func94 h
def O1:Prop:=aF 94 [b,c,d] w λg f=>cL g (R (ai 0) f) (zi f λh=>yS e (ai 0) λj=>zc .add d (ai 1) λk=>zc .rem j k λl=>aF 375 [a,b,c] h λm n=>zc .add m l λo=>R o n)
theorem cJ7(h:O1 a b c d e w R):aF 345 [a,b,c,d,e] w R:=cw Tryz.func345 h
def Pa:Prop:=yS a (ai 0) λe=>aF 94 [b,c,(ai 0)] w λf d=>cL f (R (ai 0) d) (aI .gtr e (ai 30) (R c d) (zc .shr c e λg=>aI .gtr b g (R c d) (zc .shl b e λh=>R h d)))
theorem cKm(h:Pa a b c w R):aF 375 [a,b,c] w R:=cw Tryz.func375 h
def Pz:Prop:=bU 3 a w λb=>R b w
theorem cK9(h:Pz a w R):aF 57 [a] w R:=cw Tryz.func57 h
def PA:Prop:=bU 4 a w λb=>R b w
theorem cLa(h:PA a w R):aF 58 [a] w R:=cw Tryz.func58 h
def Lz:Prop:=bU 4 a w λc=>zc .geq b c λd=>R d w
theorem cEh(h:Lz a b w R):aF 107 [a,b] w R:=cw Tryz.func107 h
def Ma:Prop:=aF 94 [a,b,c] w λf d=>cL f (R (.tuple #[cT,(ai 1)]) d) (zm [ai 0,ai 0,ai 0] [(0,1,a),(1,1,b),(2,1,c)] λg=>zm [ai 0,ai 0,ai 0,ai 0,ai 0] [(0,3,g)] λh=>∃e:List Value,h= .agg e.toArray/\zh e 197 d λj k=>R (.tuple #[j,(ai 0)]) k)
theorem cFc(h:Ma a b c w R):aF 146 [a,b,c] w R:=cw Tryz.func146 h
def NJ:Prop:=cV 3 a (ai 0) w λb=>cV 4 a (ai 0) b λc=>R (.tuple #[]) c
theorem cHx(h:NJ a w R):aF 240 [a] w R:=cw Tryz.func240 h
def NK:Prop:=bU 3 a w λf=>zc .add f (ai 1) λg=>cV 3 a g w λh=>zi h λd=>yS b (ai 0) λj=>ZS j (ai 1125899906842624) λk=>bV 0 a λl=>zg 3 l d λm=>bU 3 a d λn=>aF 302 [m,n,c] d λo p=>zc .add k o λq=>cV 4 a q p λe=>bU 4 a e λr=>R r e
theorem cHy(h:NK a b c w R):aF 241 [a,b,c] w R:=cw Tryz.func241 h
def Ox:Prop:=∃f:List Value,a= .agg f.toArray/\zh f 195 w λe d=>a_ 0 e d λg=>a_ 1 e d λh=>a_ 2 e d λj=>aF 345 [b,g,h,j,c] d λk l=>R k l
theorem cI9(h:Ox a b c w R):aF 302 [a,b,c] w R:=cw Tryz.func302 h
def PH:Prop:=bU 7 a w λc=>aI .gtr c (ai 0) (bU 2 a w λd=>aF 107 [d,b] w λe f=>R e f) (bU 1 a w λg=>bU 0 g w λh=>aF 52 [h] w λj k=>zc .gtr j (ai 0) λl=>R l k)
theorem cLg(h:PH a b w R):aF 65 [a,b] w R:=cw Tryz.func65 h
def Md:Prop:=aI .lss d (ai 1) (R (.tuple #[cT,(ai 1)]) w) (aI .gtr d (ai 64) (R (.tuple #[cT,(ai 1)]) w) (zm [cT] [(0,1,a)] λf=>zm [cT,cT,cT,ai 0,ai 0,bI,bI,ai 0] [(0,1,f),(1,1,b),(2,1,c),(3,1,d)] λg=>∃e:List Value,g= .agg e.toArray/\zh e 216 w λh j=>R (.tuple #[h,(ai 0)]) j))
theorem cFf(h:Md a b c d w R):aF 149 [a,b,c,d] w R:=cw Tryz.func149 h
def MG:Prop:=aF 65 [a,b] w λn d=>cL n (R (.tuple #[(ai 0),(ai 0)]) d) (∃I:IW,(bU 7 a d λo=>aI .eql o (ai 0) (aF 237 [a] d λj k=>aI .neq j (ai 0) (R (.tuple #[(ai 0),j]) k) (I [] k)) (I [] d)) /\∀l,I [] l -> zi l λf=>bV 0 a λp=>zg 1 p f λq=>bV 4 a λr=>zg 3 r f λs=>aF 238 [q,s] f λg e=>aI .eql g (ai 0) (zi e λh=>bU 1 a h λt=>bU 7 a h λu=>aF 239 [t,u] h λE m=>bU 2 a m λv=>aF 240 [v] m λG x=>zm [ai 0,bI,bI] [] λy=>bV 4 a λz=>zj 3 z y x λA=>cV 7 a (ai 0) A λB=>R (.tuple #[(ai 6),(ai 0)]) B) (aI .eql g (ai 9) (bU 2 a e λC=>aF 241 [C,b,c] e λH D=>R (.tuple #[(ai 7),(ai 0)]) D) (R (.tuple #[(ai 0),g]) e)))
theorem cF8(h:MG a b c w R):aF 176 [a,b,c] w R:=VJ [] [(7,[],[0,1,2])] Tryz.func176 h
def NG:Prop:=∃I:IW,(∃(d:IW) (μ:IM),d [bI] w /\∀(b:Value) c,d [b] c -> zd b λt=>bU 3 a c λu=>aI .lss t u (bU 1 a c λv=>aF 299 [v] c λj k=>zf 0 j λx=>zf 1 j λy=>cL y (I [b] k) (zR Tryz.prog (convert 9 205 x) k λz A=>aF 201 [z] A λl B=>zf 0 l λC=>zf 1 l λm=>zh [ai 0,bI,bI] 214 B λn D=>zj 3 n C D λe=>aI .neq m (ai 0) (R m e) (zg 3 n e λE=>zn (cK [ai 0,bI,bI] 1) [(0,3,E)] 214 1 e λG H=>zx 3 56 [ai 0,bI,bI] 214 b G H λo p=>d [o] p/\μ [o] p<μ [b] c))) (I [b] c)) /\∀(f:Value) q,I [f] q -> aF 300 [f] q λr J=>zf 0 r λK=>zf 1 r λg=>zh [ai 0,bI,bI] 214 J λs L=>zj 3 s K L λh=>aI .eql g (ai 0) (zg 3 s h λM=>zd f λN=>bV 4 a λO=>zj 3 O M h λP=>cV 7 a N P λQ=>R g Q) (R g h)
theorem cHu(h:NG a w R):aF 237 [a] w R:=VJ [(2,[3],[0])] [(9,[3],[0])] Tryz.func237 h
def NH:Prop:=∃d:List Value,a= .agg d.toArray/\zh d 210 w λf g=>∃e:List Value,b= .agg e.toArray/\zh e 214 g λh c=>a_ 0 f c λj=>zg 3 h c λk=>aF 301 [j,k] c λl m=>R l m
theorem cHv(h:NH a b w R):aF 238 [a,b] w R:=cw Tryz.func238 h
