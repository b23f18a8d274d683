/- Part. -/
import Derived.Test.YtmkllimamejcgaaGreatQTab
namespace Go.Proofs.YtmkllimamejcgaaGreat
set_option linter.all false
set_option maxRecDepth 100000
open Go.RowKit
variable (a b c d e f g h j k l m n o p : Value) (w : World) (R : Value -> World -> Prop)
def PQ:Prop:=zd a λl=>∃(I:IW) (μ:IM),I [bI,(ai 0)] w /\∀(b c:Value) d,I [b,c] d -> aI .lss c l (zk 7 a c λm=>zg 7 m d λn=>zh [ai 0,ai 0,ai 0,ai 0,ai 0,ai 0,.bool false] 98 d λf o=>zj 7 f n o λe=>a_ 6 f e λp=>cL p (zg 7 f e λq=>zn (cK [ai 0,ai 0,ai 0,ai 0,ai 0,ai 0,.bool false] 1) [(0,7,q)] 98 1 e λr s=>zx 7 56 [ai 0,ai 0,ai 0,ai 0,ai 0,ai 0,.bool false] 98 b r s λg h=>zc .add c (ai 1) λj=>I [g,j] h/\μ [g,j] h<μ [b,c] d) (zc .add c (ai 1) λk=>I [b,k] e/\μ [b,k] e<μ [b,c] d)) (R b d)
theorem cLo(h:PQ a w R):aF 74 [a] w R:=VJ [(3,[3,8],[6,7])] [] Tryz.func74 h
def N7:Prop:=aF 330 [a] w λb c=>R b c
theorem cIl(h:N7 a w R):aF 279 [a] w R:=cw Tryz.func279 h
def On:Prop:=aF 340 [a,b] w λh k=>zf 0 h λf=>zf 1 h λl=>aF 279 [a] k λm e=>cL m (R (.tuple #[bI,(.bool false)]) e) (cL l (R (.tuple #[bI,(.bool false)]) e) (zk 7 a f λn=>a_ 4 n e λo=>aI .lss c o (R (.tuple #[bI,(.bool false)]) e) (aI .gtr c (ai 1099511627776) (R (.tuple #[bI,(.bool false)]) e) (zk 7 a f λp=>a_ 5 p e λq=>aI .geq q (ai 1099511627776) (R (.tuple #[bI,(.bool false)]) e) (aF 85 [a] e λg r=>zk 7 g f λs=>zl 4 s λt=>eH t c r λu=>zk 7 g f λv=>zl 6 v λx=>eH x d u λj=>zk 7 g f λy=>a_ 5 y j λz=>zc .add z (ai 1) λA=>zk 7 g f λB=>zl 5 B λC=>eH C A j λD=>R (.tuple #[g,(.bool true)]) D)))))
theorem cI2(h:On a b c d w R):aF 295 [a,b,c,d] w R:=cw Tryz.func295 h
def OL:Prop:=aF 85 [a] w λh j=>zd a λk=>zc .add k (ai 1) λl=>zm [ai 0,ai 0,ai 0,ai 0,ai 0,ai 0,.bool false] [(0,1,l),(1,1,b),(2,1,c),(3,1,d)] λm=>zn (cK [ai 0,ai 0,ai 0,ai 0,ai 0,ai 0,.bool false] 1) [(0,7,m)] 98 1 j λn o=>zx 7 56 [ai 0,ai 0,ai 0,ai 0,ai 0,ai 0,.bool false] 98 h n o λe p=>aF 279 [a] p λq f=>cL q (R (.tuple #[bI,(.bool false)]) f) (aF 279 [e] f λr g=>cL r (R (.tuple #[bI,(.bool false)]) g) (R (.tuple #[e,(.bool true)]) g))
theorem cJp(h:OL a b c d w R):aF 328 [a,b,c,d] w R:=cw Tryz.func328 h
def OO:Prop:=zh [.bool false,.bool false,.bool false,.bool false,.bool false,.bool false,.bool false,.bool false] 489 w λj r=>zd a λs=>∃(I:IW) (μ:IM),I [(ai 0),(ai 0)] r /\∀(h c:Value) e,I [h,c] e -> aI .lss c s (zk 7 a c λt=>zg 7 t e λu=>zh [ai 0,ai 0,ai 0,ai 0,ai 0,ai 0,.bool false] 98 e λb v=>zj 7 b u v λg=>a_ 0 b g λx=>zc .add c (ai 1) λy=>aI .neq x y (bY R g) (zg 7 b g λz=>aF 369 [z,h] g λA f=>cL A (bY R f) (a_ 1 b f λB=>yC 1 8 j B λC=>cn C f λD=>dm D (bY R f) (zi f λd=>zl 1 b λk=>cn k d λl=>a_ 3 b d λm=>zl 6 b λn=>cn n d λo=>Zf o λE=>aR k d l <| aR n d o <| yC 1 8 j l λG=>eH G E d λp=>zc .add c (ai 1) λq=>I [m,q] p/\μ [m,q] p<μ [h,c] e)))) (zd a λH=>zc .leq H (ai 64) λJ=>R J e)
theorem cJs(h:OO a w R):aF 330 [a] w R:=VJ [(4,[4,9],[0,3,7,8])] [] Tryz.func330 h
def OY:Prop:=zi w λc=>zc .sub b (ai 1) λd=>aI .geq b (ai 1) (zd a λg=>aI .leq b g (zc .sub b (ai 1) λh=>zk 7 a h λj=>zl 6 j λe=>cn e c λf=>Zf f λk=>aR e c f <| R (.tuple #[d,k]) c) (R (.tuple #[d,(.bool false)]) c)) (R (.tuple #[d,(.bool false)]) c)
theorem cJ3(h:OY a b w R):aF 340 [a,b] w R:=cw Tryz.func340 h
def O9:Prop:=∃e:List Value,a= .agg e.toArray/\zh e 98 w λd c=>a_ 1 d c λf=>aI .geq f (ai 0) (a_ 1 d c λg=>aI .lss g (ai 8) (a_ 2 d c λh=>aI .geq h (ai 1) (a_ 2 d c λj=>aI .leq j (ai 8) (a_ 3 d c λk=>yS b (ai 1) λl=>aI .geq k l (a_ 3 d c λm=>aI .leq m (ai 1099511627776) (a_ 4 d c λn=>aI .geq n (ai 0) (a_ 4 d c λo=>aI .leq o (ai 1099511627776) (a_ 5 d c λp=>aI .geq p (ai 0) (a_ 5 d c λq=>zc .leq q (ai 1099511627776) λr=>R r c) (bY R c)) (bY R c)) (bY R c)) (bY R c)) (bY R c)) (bY R c)) (bY R c)) (bY R c)) (bY R c)
theorem cKg(h:O9 a b w R):aF 369 [a,b] w R:=cw Tryz.func369 h
