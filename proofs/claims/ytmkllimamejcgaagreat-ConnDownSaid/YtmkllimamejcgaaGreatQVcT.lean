/- Part. -/
import Derived.Test.YtmkllimamejcgaaGreatQTab
namespace Go.Proofs.YtmkllimamejcgaaGreat
set_option linter.all false
set_option maxRecDepth 100000
open Go.RowKit
variable (a b c d e f g h j k l m n o p : Value) (w : World) (R : Value -> World -> Prop)
def Pv:Prop:=bU 2 a w λb=>R b w
theorem cK5(h:Pv a w R):aF 52 [a] w R:=cw Tryz.func52 h
def PD:Prop:=bU 0 a w λb=>zd b λc=>R c w
theorem cLd(h:PD a w R):aF 61 [a] w R:=cw Tryz.func61 h
def G3:Prop:=bU 2 a w λc=>aI .eql c (ai 0) (R (.tuple #[(.string {data:=#[]}),(.bool false)]) w) (zi w λb=>bU 0 a b λd=>bU 1 a b λe=>zk 1 d e λf=>cn f b λg=>R (.tuple #[g,(.bool true)]) b)
theorem XO(h:G3 a w R):aF 104 [a] w R:=cw Tryz.func104 h
def L9:Prop:=aI .lss a (ai 1) (R (.tuple #[cT,(ai 1)]) w) (aI .gtr a (ai 64) (R (.tuple #[cT,(ai 1)]) w) (B2 [cQ] 16 9 a a w λc d=>zm [bI,ai 0,ai 0] [(0,1,c)] λe=>∃b:List Value,e= .agg b.toArray/\zh b 188 d λf g=>R (.tuple #[f,(ai 0)]) g))
theorem cFa(h:L9 a w R):aF 144 [a] w R:=cw Tryz.func144 h
def Mv:Prop:=zi w λc=>bU 2 a c λj=>bU 0 a c λk=>zd k λl=>aI .eql j l (bY R c) (zi c λd=>bV 0 a λe=>cn e d λf=>bU 2 a d λm=>aF 223 [a,m] d λn g=>aR e g f <| zk 1 f n λo=>eH o b g λh=>bU 2 a h λp=>zc .add p (ai 1) λq=>cV 2 a q h λr=>R (.bool true) r)
theorem cFx(h:Mv a b w R):aF 165 [a,b] w R:=cw Tryz.func165 h
def G6:Prop:=aF 104 [a] w λd e=>zf 0 d λf=>zf 1 d λb=>dm b (zi e λc=>bU 0 a c λh=>bU 1 a c λj=>zk 1 h j λk=>eH k (.string {data:=#[]}) c λl=>aF 223 [a,(ai 1)] l λm n=>cV 1 a m n λg=>bU 2 a g λo=>zc .sub o (ai 1) λp=>cV 2 a p g λq=>R (.tuple #[f,b]) q) (R (.tuple #[f,b]) e)
theorem XR(h:G6 a w R):aF 166 [a] w R:=cw Tryz.func166 h
def Nr:Prop:=zi w λc=>bU 1 a c λd=>zc .add d b λe=>bU 0 a c λf=>zd f λg=>zc .rem e g λh=>R h c
theorem cHg(h:Nr a b w R):aF 223 [a,b] w R:=cw Tryz.func223 h
def Hb:Prop:=bU 1 a w λb=>R b w
theorem XX(h:Hb a w R):aF 53 [a] w R:=cw Tryz.func53 h
def Pw:Prop:=zi w λb=>bU 0 a b λj=>bV 0 a λf=>cn f b λg=>bV 1 a λc=>cn c b λd=>aF 61 [j] b λk e=>aR f e g <| aR c e d <| aF 52 [g] e λl h=>aR c h d <| zc .sub k l λm=>zc .sub m d λn=>R n h
theorem cK6(h:Pw a w R):aF 54 [a] w R:=cw Tryz.func54 h
def L_:Prop:=aF 144 [a] w λb c=>zf 0 b λf=>zf 1 b λd=>aI .neq d (ai 0) (R (.tuple #[cT,d]) c) (zm [cT,ai 0] [(0,1,f)] λg=>∃e:List Value,g= .agg e.toArray/\zh e 125 c λh j=>R (.tuple #[h,(ai 0)]) j)
theorem cFb(h:L_ a w R):aF 145 [a] w R:=cw Tryz.func145 h
def Nw:Prop:=aF 54 [a] w λd c=>aI .gtr d (ai 0) (bU 0 a c λe=>aF 165 [e,b] c λf g=>R f g) (bY R c)
theorem cHl(h:Nw a b w R):aF 228 [a,b] w R:=cw Tryz.func228 h
def NI:Prop:=yS b (ai 0) λd=>bU 1 a w λe=>ZS d e λc=>bU 1 a w λf=>zc .sub f c λg=>cV 1 a g w λh=>R c h
theorem cHw(h:NI a b w R):aF 239 [a,b] w R:=cw Tryz.func239 h
def G8:Prop:=bU 0 a w λf=>aF 166 [f] w λd b=>zf 0 d λe=>zf 1 d λc=>dm c (bU 1 a b λg=>zc .add g (ai 1) λh=>cV 1 a h b λj=>R (.tuple #[e,c]) j) (R (.tuple #[e,c]) b)
theorem XT(h:G8 a w R):aF 299 [a] w R:=cw Tryz.func299 h
