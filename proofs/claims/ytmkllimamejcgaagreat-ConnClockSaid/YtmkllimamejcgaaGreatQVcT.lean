/- Part of the proof. -/
import Derived.Test.YtmkllimamejcgaaGreatQTab
namespace Go.Proofs.YtmkllimamejcgaaGreat
set_option linter.all false
set_option maxRecDepth 100000
open Go.RowKit
variable (a b c d e f g h j k l m n o p : Value) (w : World) (R : Value -> World -> Prop)
def O_:Prop:=bU 2 a w λb=>R b w
theorem cJu(h:O_ a w R):aF 52 [a] w R:=b_ Tryz.func52 h
def Ph:Prop:=bU 0 a w λb=>zd b λc=>R c w
theorem cJ2(h:Ph a w R):aF 61 [a] w R:=b_ Tryz.func61 h
def GK:Prop:=bU 2 a w λc=>aI .eql c (ai 0) (R (.tuple #[(.string {data:=#[]}),(.bool false)]) w) (zi w λb=>bU 0 a b λd=>bU 1 a b λe=>zk 1 d e λf=>cn f b λg=>R (.tuple #[g,(.bool true)]) b)
theorem XE(h:GK a w R):aF 104 [a] w R:=b_ Tryz.func104 h
def LJ:Prop:=aI .lss a (ai 1) (R (.tuple #[cT,(ai 1)]) w) (aI .gtr a (ai 64) (R (.tuple #[cT,(ai 1)]) w) (BL [cP] 16 9 a a w λc d=>zm [bR,ai 0,ai 0] [(0,1,c)] λe=>∃b:List Value,e= .agg b.toArray/\zh b 188 d λf g=>R (.tuple #[f,(ai 0)]) g))
theorem cDz(h:LJ a w R):aF 144 [a] w R:=b_ Tryz.func144 h
def Mb:Prop:=zi w λc=>bU 2 a c λj=>bU 0 a c λk=>zd k λl=>aI .eql j l (cw R c) (zi c λd=>bV 0 a λe=>cn e d λf=>bU 2 a d λm=>aF 223 [a,m] d λn g=>aR e g f <| zk 1 f n λo=>eF o b g λh=>bU 2 a h λp=>zc .add p (ai 1) λq=>cV 2 a q h λr=>R (.bool true) r)
theorem cEm(h:Mb a b w R):aF 165 [a,b] w R:=b_ Tryz.func165 h
def GN:Prop:=aF 104 [a] w λd e=>zf 0 d λf=>zf 1 d λb=>dm b (zi e λc=>bU 0 a c λh=>bU 1 a c λj=>zk 1 h j λk=>eF k (.string {data:=#[]}) c λl=>aF 223 [a,(ai 1)] l λm n=>cV 1 a m n λg=>bU 2 a g λo=>zc .sub o (ai 1) λp=>cV 2 a p g λq=>R (.tuple #[f,b]) q) (R (.tuple #[f,b]) e)
theorem XH(h:GN a w R):aF 166 [a] w R:=b_ Tryz.func166 h
def M6:Prop:=zi w λc=>bU 1 a c λd=>zc .add d b λe=>bU 0 a c λf=>zd f λg=>zc .rem e g λh=>R h c
theorem cF5(h:M6 a b w R):aF 223 [a,b] w R:=b_ Tryz.func223 h
def GV:Prop:=bU 1 a w λb=>R b w
theorem XN(h:GV a w R):aF 53 [a] w R:=b_ Tryz.func53 h
def Pa:Prop:=zi w λb=>bU 0 a b λj=>bV 0 a λf=>cn f b λg=>bV 1 a λc=>cn c b λd=>aF 61 [j] b λk e=>aR f e g <| aR c e d <| aF 52 [g] e λl h=>aR c h d <| zc .sub k l λm=>zc .sub m d λn=>R n h
theorem cJv(h:Pa a w R):aF 54 [a] w R:=b_ Tryz.func54 h
def LK:Prop:=aF 144 [a] w λb c=>zf 0 b λf=>zf 1 b λd=>aI .neq d (ai 0) (R (.tuple #[cT,d]) c) (zm [cT,ai 0] [(0,1,f)] λg=>∃e:List Value,g= .agg e.toArray/\zh e 125 c λh j=>R (.tuple #[h,(ai 0)]) j)
theorem cD0(h:LK a w R):aF 145 [a] w R:=b_ Tryz.func145 h
def Na:Prop:=aF 54 [a] w λd c=>aI .gtr d (ai 0) (bU 0 a c λe=>aF 165 [e,b] c λf g=>R f g) (cw R c)
theorem cGa(h:Na a b w R):aF 228 [a,b] w R:=b_ Tryz.func228 h
def Nn:Prop:=yT b (ai 0) λd=>bU 1 a w λe=>ZT d e λc=>bU 1 a w λf=>zc .sub f c λg=>cV 1 a g w λh=>R c h
theorem cGl(h:Nn a b w R):aF 239 [a,b] w R:=b_ Tryz.func239 h
def GP:Prop:=bU 0 a w λf=>aF 166 [f] w λd b=>zf 0 d λe=>zf 1 d λc=>dm c (bU 1 a b λg=>zc .add g (ai 1) λh=>cV 1 a h b λj=>R (.tuple #[e,c]) j) (R (.tuple #[e,c]) b)
theorem XJ(h:GP a w R):aF 299 [a] w R:=b_ Tryz.func299 h
