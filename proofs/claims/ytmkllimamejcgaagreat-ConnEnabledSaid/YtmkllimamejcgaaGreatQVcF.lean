/- Part of the proof. -/
import Derived.Test.YtmkllimamejcgaaGreatQTab
namespace Go.Proofs.YtmkllimamejcgaaGreat
set_option linter.all false
set_option maxRecDepth 100000
open Go.RowKit
variable (a b c d e f g h j k l m n o p : Value) (w : World) (R : Value -> World -> Prop)
def SU:Prop:=zd a λl=>∃(I:IW) (μ:IM),I [bI,(ai 0)] w /\∀(b c:Value) d,I [b,c] d -> aI .lss c l (zl 7 a c λm=>ze 7 m d λn=>zh [ai 0,ai 0,ai 0,ai 0,ai 0,ai 0,.bool false] 98 d λf o=>zi 7 f n o λe=>a_ 6 f e λp=>gi p (ze 7 f e λq=>zm (fR [ai 0,ai 0,ai 0,ai 0,ai 0,ai 0,.bool false] 1) [(0,7,q)] 98 1 e λr s=>zx 7 56 [ai 0,ai 0,ai 0,ai 0,ai 0,ai 0,.bool false] 98 b r s λg h=>zc .add c (ai 1) λj=>I [g,j] h/\μ [g,j] h<μ [b,c] d) (zc .add c (ai 1) λk=>I [b,k] e/\μ [b,k] e<μ [b,c] d)) (R b d)
theorem ibq(h:SU a w R):aF 74 [a] w R:=VJ [(3,[3,8],[6,7])] [] Tryz.func74 h
def P8:Prop:=aF 330 [a] w λb c=>R b c
theorem g_o(h:P8 a w R):aF 279 [a] w R:=c_ Tryz.func279 h
def Rn:Prop:=aF 340 [a,b] w λh k=>zf 0 h λf=>zf 1 h λl=>aF 279 [a] k λm e=>gi m (R (.tuple #[bI,(.bool false)]) e) (gi l (R (.tuple #[bI,(.bool false)]) e) (zl 7 a f λn=>a_ 4 n e λo=>aI .lss c o (R (.tuple #[bI,(.bool false)]) e) (aI .gtr c (ai 1099511627776) (R (.tuple #[bI,(.bool false)]) e) (zl 7 a f λp=>a_ 5 p e λq=>aI .geq q (ai 1099511627776) (R (.tuple #[bI,(.bool false)]) e) (aF 85 [a] e λg r=>zl 7 g f λs=>zn 4 s λt=>jN t c r λu=>zl 7 g f λv=>zn 6 v λx=>jN x d u λj=>zl 7 g f λy=>a_ 5 y j λz=>zc .add z (ai 1) λA=>zl 7 g f λB=>zn 5 B λC=>jN C A j λD=>R (.tuple #[g,(.bool true)]) D)))))
theorem g_5(h:Rn a b c d w R):aF 295 [a,b,c,d] w R:=c_ Tryz.func295 h
def RM:Prop:=aF 85 [a] w λh j=>zd a λk=>zc .add k (ai 1) λl=>zk [ai 0,ai 0,ai 0,ai 0,ai 0,ai 0,.bool false] [(0,1,l),(1,1,b),(2,1,c),(3,1,d)] λm=>zm (fR [ai 0,ai 0,ai 0,ai 0,ai 0,ai 0,.bool false] 1) [(0,7,m)] 98 1 j λn o=>zx 7 56 [ai 0,ai 0,ai 0,ai 0,ai 0,ai 0,.bool false] 98 h n o λe p=>aF 279 [a] p λq f=>gi q (R (.tuple #[bI,(.bool false)]) f) (aF 279 [e] f λr g=>gi r (R (.tuple #[bI,(.bool false)]) g) (R (.tuple #[e,(.bool true)]) g))
theorem h_t(h:RM a b c d w R):aF 328 [a,b,c,d] w R:=c_ Tryz.func328 h
def RP:Prop:=zh [.bool false,.bool false,.bool false,.bool false,.bool false,.bool false,.bool false,.bool false] 489 w λj r=>zd a λs=>∃(I:IW) (μ:IM),I [(ai 0),(ai 0)] r /\∀(h c:Value) e,I [h,c] e -> aI .lss c s (zl 7 a c λt=>ze 7 t e λu=>zh [ai 0,ai 0,ai 0,ai 0,ai 0,ai 0,.bool false] 98 e λb v=>zi 7 b u v λg=>a_ 0 b g λx=>zc .add c (ai 1) λy=>aI .neq x y (cW R g) (ze 7 b g λz=>aF 369 [z,h] g λA f=>gi A (cW R f) (a_ 1 b f λB=>yz 1 8 j B λC=>cI C f λD=>iy D (cW R f) (zj f λd=>zn 1 b λk=>cI k d λl=>a_ 3 b d λm=>zn 6 b λn=>cI n d λo=>Zf o λE=>aR k d l <| aR n d o <| yz 1 8 j l λG=>jN G E d λp=>zc .add c (ai 1) λq=>I [m,q] p/\μ [m,q] p<μ [h,c] e)))) (zd a λH=>zc .leq H (ai 64) λJ=>R J e)
theorem h_w(h:RP a w R):aF 330 [a] w R:=VJ [(4,[4,9],[0,3,7,8])] [] Tryz.func330 h
def RZ:Prop:=zj w λc=>zc .sub b (ai 1) λd=>aI .geq b (ai 1) (zd a λg=>aI .leq b g (zc .sub b (ai 1) λh=>zl 7 a h λj=>zn 6 j λe=>cI e c λf=>Zf f λk=>aR e c f <| R (.tuple #[d,k]) c) (R (.tuple #[d,(.bool false)]) c)) (R (.tuple #[d,(.bool false)]) c)
theorem h_6(h:RZ a b w R):aF 340 [a,b] w R:=c_ Tryz.func340 h
def Sb:Prop:=∃e:List Value,a= .agg e.toArray/\zh e 98 w λd c=>a_ 1 d c λf=>aI .geq f (ai 0) (a_ 1 d c λg=>aI .lss g (ai 8) (a_ 2 d c λh=>aI .geq h (ai 1) (a_ 2 d c λj=>aI .leq j (ai 8) (a_ 3 d c λk=>y2 b (ai 1) λl=>aI .geq k l (a_ 3 d c λm=>aI .leq m (ai 1099511627776) (a_ 4 d c λn=>aI .geq n (ai 0) (a_ 4 d c λo=>aI .leq o (ai 1099511627776) (a_ 5 d c λp=>aI .geq p (ai 0) (a_ 5 d c λq=>zc .leq q (ai 1099511627776) λr=>R r c) (cW R c)) (cW R c)) (cW R c)) (cW R c)) (cW R c)) (cW R c)) (cW R c)) (cW R c)) (cW R c)
theorem iaj(h:Sb a b w R):aF 369 [a,b] w R:=c_ Tryz.func369 h
