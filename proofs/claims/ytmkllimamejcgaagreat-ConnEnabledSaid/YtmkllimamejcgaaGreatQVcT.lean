/- Part of the proof. -/
import Derived.Test.YtmkllimamejcgaaGreatQTab
namespace Go.Proofs.YtmkllimamejcgaaGreat
set_option linter.all false
set_option maxRecDepth 100000
open Go.RowKit
variable (a b c d e f g h j k l m n o p : Value) (w : World) (R : Value -> World -> Prop)
def Sy:Prop:=bW 2 a w λb=>R b w
theorem ia7(h:Sy a w R):aF 52 [a] w R:=c_ Tryz.func52 h
def SH:Prop:=bW 0 a w λb=>zd b λc=>R c w
theorem ibg(h:SH a w R):aF 61 [a] w R:=c_ Tryz.func61 h
def Jx:Prop:=bW 2 a w λc=>aI .eql c (ai 0) (R (.tuple #[(.string {data:=#[]}),(.bool false)]) w) (zj w λb=>bW 0 a b λd=>bW 1 a b λe=>zl 1 d e λf=>cI f b λg=>R (.tuple #[g,(.bool true)]) b)
theorem aF1(h:Jx a w R):aF 104 [a] w R:=c_ Tryz.func104 h
def N':Prop:=aI .lss a (ai 1) (R (.tuple #[h_,(ai 1)]) w) (aI .gtr a (ai 64) (R (.tuple #[h_,(ai 1)]) w) (ED [gI] 16 9 a a w λc d=>zk [bI,ai 0,ai 0] [(0,1,c)] λe=>∃b:List Value,e= .agg b.toArray/\zh b 188 d λf g=>R (.tuple #[f,(ai 0)]) g))
theorem gIe(h:N' a w R):aF 144 [a] w R:=c_ Tryz.func144 h
def Oz:Prop:=zj w λc=>bW 2 a c λj=>bW 0 a c λk=>zd k λl=>aI .eql j l (cW R c) (zj c λd=>b_ 0 a λe=>cI e d λf=>bW 2 a d λm=>aF 223 [a,m] d λn g=>aR e g f <| zl 1 f n λo=>jN o b g λh=>bW 2 a h λp=>zc .add p (ai 1) λq=>ia 2 a q h λr=>R (.bool true) r)
theorem gI1(h:Oz a b w R):aF 165 [a,b] w R:=c_ Tryz.func165 h
def JA:Prop:=aF 104 [a] w λd e=>zf 0 d λf=>zf 1 d λb=>iy b (zj e λc=>bW 0 a c λh=>bW 1 a c λj=>zl 1 h j λk=>jN k (.string {data:=#[]}) c λl=>aF 223 [a,(ai 1)] l λm n=>ia 1 a m n λg=>bW 2 a g λo=>zc .sub o (ai 1) λp=>ia 2 a p g λq=>R (.tuple #[f,b]) q) (R (.tuple #[f,b]) e)
theorem aF4(h:JA a w R):aF 166 [a] w R:=c_ Tryz.func166 h
def Pr:Prop:=zj w λc=>bW 1 a c λd=>zc .add d b λe=>bW 0 a c λf=>zd f λg=>zc .rem e g λh=>R h c
theorem gWj(h:Pr a b w R):aF 223 [a,b] w R:=c_ Tryz.func223 h
def Sz:Prop:=bW 1 a w λb=>R b w
theorem ia8(h:Sz a w R):aF 53 [a] w R:=c_ Tryz.func53 h
def SA:Prop:=zj w λb=>bW 0 a b λj=>b_ 0 a λf=>cI f b λg=>b_ 1 a λc=>cI c b λd=>aF 61 [j] b λk e=>aR f e g <| aR c e d <| aF 52 [g] e λl h=>aR c h d <| zc .sub k l λm=>zc .sub m d λn=>R n h
theorem ia9(h:SA a w R):aF 54 [a] w R:=c_ Tryz.func54 h
def N_:Prop:=aF 144 [a] w λb c=>zf 0 b λf=>zf 1 b λd=>aI .neq d (ai 0) (R (.tuple #[h_,d]) c) (zk [h_,ai 0] [(0,1,f)] λg=>∃e:List Value,g= .agg e.toArray/\zh e 125 c λh j=>R (.tuple #[h,(ai 0)]) j)
theorem gIf(h:N_ a w R):aF 145 [a] w R:=c_ Tryz.func145 h
def Pw:Prop:=aF 54 [a] w λd c=>aI .gtr d (ai 0) (bW 0 a c λe=>aF 165 [e,b] c λf g=>R f g) (cW R c)
theorem gWo(h:Pw a b w R):aF 228 [a,b] w R:=c_ Tryz.func228 h
def PI:Prop:=y2 b (ai 0) λd=>bW 1 a w λe=>ZS d e λc=>bW 1 a w λf=>zc .sub f c λg=>ia 1 a g w λh=>R c h
theorem gWz(h:PI a b w R):aF 239 [a,b] w R:=c_ Tryz.func239 h
def JD:Prop:=bW 0 a w λf=>aF 166 [f] w λd b=>zf 0 d λe=>zf 1 d λc=>iy c (bW 1 a b λg=>zc .add g (ai 1) λh=>ia 1 a h b λj=>R (.tuple #[e,c]) j) (R (.tuple #[e,c]) b)
theorem aF6(h:JD a w R):aF 299 [a] w R:=c_ Tryz.func299 h
