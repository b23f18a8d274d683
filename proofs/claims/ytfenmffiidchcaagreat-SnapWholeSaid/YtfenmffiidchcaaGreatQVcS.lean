/- Part of the proof (my own). -/
import Derived.Test.YtfenmffiidchcaaGreatQTab
namespace Go.Proofs.YtfenmffiidchcaaGreat
set_option linter.unusedVariables false
set_option maxRecDepth 100000
open Go.RowKit
variable (a b c d e f g h j k l m n o p : Value) (w : World) (R : Value -> World -> Prop)
def Kk:Prop:=zn [bI,.bool false] [(0,1,a)] λc=>∃b:List Value,c= .agg b.toArray/\zk b 330 w λd e=>R d e
theorem b4c(h:Kk a w R):aw 158 [a] w R:=dw Tryz.func158 h
def Kl:Prop:=aw 238 [a,(ai 1)] w λc b=>kg Tryz.prog (Instr.field 174 c 1) b λd=>R d b
theorem b4d(h:Kl a w R):aw 159 [a] w R:=dw Tryz.func159 h
def Kn:Prop:=aw 159 [a] w λc d=>aF .lss c (ai 0) (fI 1 a (.bool true) d λe=>R (ai 0) e) (aF .gtr c b (fI 1 a (.bool true) d λf=>R (ai 0) f) (R c d))
theorem b4f(h:Kn a b w R):aw 160 [a,b] w R:=dw Tryz.func160 h
def Kp:Prop:=aw 238 [a,(ai 2)] w λc b=>kg Tryz.prog (Instr.field 174 c 2) b λd=>R d b
theorem b4h(h:Kp a w R):aw 162 [a] w R:=dw Tryz.func162 h
def Kq:Prop:=bF 1 a w λb=>c_ b (bF 0 a w λc=>zd c λd=>zc .eql d (ai 0) λe=>R e w) (b7 R w)
theorem b4i(h:Kq a w R):aw 163 [a] w R:=dw Tryz.func163 h
def Lc:Prop:=zd a λh=>∃(I:IW) (μ:IM),I [bI,(ai 0)] w /\∀(d b:Value) c,I [d,b] c -> aF .lss b h (ze 1 a b λj=>b6 j c λk=>zn [ai 0,ai 0,cI] [(0,1,(ai 1)),(1,1,k)] λl=>zm (b_ [ai 0,ai 0,cI] 1) [(0,3,l)] 174 1 c λm n=>zu 3 32 [ai 0,ai 0,cI] 174 d m n λe f=>zc .add b (ai 1) λg=>I [e,g] f/\μ [e,g] f<μ [d,b] c) (R d c)
theorem b5u(h:Lc a w R):aw 225 [a] w R:=VJ [(3,[3,8],[6,7])] [] Tryz.func225 h
def Ld:Prop:=ic a (R (ai 1) w) (R (ai 0) w)
theorem b5v(h:Ld a w R):aw 226 [a] w R:=dw Tryz.func226 h
def Le:Prop:=zk [ai 0,ai 0,cI] 174 w λb d=>zn [ai 0,ai 0,cI] [(0,1,(ai 2)),(2,1,a)] λe=>zl 3 b e d λc=>zj 3 b c λr=>R r c
theorem b5w(h:Le a w R):aw 227 [a] w R:=dw Tryz.func227 h
def Ln:Prop:=zk [ai 0,ai 0,cI] 174 w λd c=>bF 1 a c λm=>ic m (fI 1 a (.bool true) c λn=>zn [ai 0,ai 0,cI] [] λo=>zl 3 d o n λe=>zj 3 d e λr=>R r e) (bF 0 a c λp=>zd p λq=>aF .eql q (ai 0) (fI 1 a (.bool true) c λs=>zn [ai 0,ai 0,cI] [] λt=>zl 3 d t s λf=>zj 3 d f λu=>R u f) (bF 0 a c λv=>ze 3 v (ai 0) λx=>a7 0 x c λy=>aF .neq y b (fI 1 a (.bool true) c λz=>zn [ai 0,ai 0,cI] [] λA=>zl 3 d A z λg=>zj 3 d g λB=>R B g) (bF 0 a c λC=>ze 3 C (ai 0) λD=>zj 3 D c λE=>zk [ai 0,ai 0,cI] 174 c λh G=>zl 3 h E G λj=>bF 0 a j λH=>iL 3 H (some (ai 1)) none none λJ=>fI 0 a J j λk=>zj 3 h k λK=>zl 3 d K k λl=>zj 3 d l λL=>R L l)))
theorem b55(h:Ln a b w R):aw 238 [a,b] w R:=dw Tryz.func238 h
def Lo:Prop:=aw 160 [a,(ai 1)] w λb c=>zc .eql b (ai 1) λd=>R d c
theorem b56(h:Lo a w R):aw 239 [a] w R:=dw Tryz.func239 h
def Mp:Prop:=bF 1 a w λb=>Zj b λc=>R c w
theorem b7v(h:Mp a w R):aw 326 [a] w R:=dw Tryz.func326 h
def Lt:Prop:=zi w λc=>bF 2 a c λe=>ic e (fI 2 a (.bool true) c λf=>R (ai 0) f) (bF 1 a c λg=>bF 0 a c λh=>zd h λj=>aF .geq g j (fI 2 a (.bool true) c λk=>R (ai 0) k) (bF 0 a c λl=>bF 1 a c λm=>ze 3 l m λn=>a7 0 n c λo=>aF .neq o (ai 1) (fI 2 a (.bool true) c λp=>R (ai 0) p) (bF 0 a c λq=>bF 1 a c λr=>ze 3 q r λs=>a7 1 s c λt=>aF .lss t (ai 0) (fI 2 a (.bool true) c λu=>R (ai 0) u) (bF 0 a c λv=>bF 1 a c λx=>ze 3 v x λy=>a7 1 y c λz=>aF .gtr z b (fI 2 a (.bool true) c λA=>R (ai 0) A) (bF 1 a c λB=>zc .add B (ai 1) λC=>fI 1 a C c λD=>zi D λd=>bF 0 a d λE=>bF 1 a d λG=>zc .sub G (ai 1) λH=>ze 3 E H λJ=>a7 1 J d λK=>R K d)))))
theorem b6b(h:Lt a b w R):aw 244 [a,b] w R:=dw Tryz.func244 h
def Lu:Prop:=zi w λb=>bF 2 a b λd=>ic d (fI 2 a (.bool true) b λe=>R (.string {data:=#[]}) e) (bF 1 a b λf=>bF 0 a b λg=>zd g λh=>aF .geq f h (fI 2 a (.bool true) b λj=>R (.string {data:=#[]}) j) (bF 0 a b λk=>bF 1 a b λl=>ze 3 k l λm=>a7 0 m b λn=>aF .neq n (ai 2) (fI 2 a (.bool true) b λo=>R (.string {data:=#[]}) o) (bF 1 a b λp=>zc .add p (ai 1) λq=>fI 1 a q b λr=>zi r λc=>bF 0 a c λs=>bF 1 a c λt=>zc .sub t (ai 1) λu=>ze 3 s u λv=>a7 2 v c λx=>R x c)))
theorem b6c(h:Lu a w R):aw 245 [a] w R:=dw Tryz.func245 h
def Lv:Prop:=zi w λb=>bF 2 a b λc=>c_ c (bF 1 a b λd=>bF 0 a b λe=>zd e λf=>zc .eql d f λg=>R g b) (b7 R b)
theorem b6d(h:Lv a w R):aw 246 [a] w R:=dw Tryz.func246 h
def Lw:Prop:=zk [ai 0,ai 0,.bool false,cI] 82 w λc f=>aw 244 [a,(ai 7)] f λg h=>zn [ai 0,ai 0,.bool false,cI] [(0,1,g)] λj=>zk [ai 0,ai 0,.bool false,cI] 82 h λb k=>zl 4 b j k λl=>aw 244 [a,(ai 1099511627776)] l λm n=>zr 1 b λo=>jG o m n λp=>aw 301 [a] p λq s=>zr 2 b λt=>jG t q s λu=>aw 245 [a] u λv x=>zr 3 b λy=>jG y v x λd=>zj 4 b d λz=>zl 4 c z d λe=>zj 4 c e λr=>R r e
theorem b6e(h:Lw a w R):aw 247 [a] w R:=dw Tryz.func247 h
def Ly:Prop:=∃k:List Value,a= .agg k.toArray/\zk k 82 w λc o=>zi o λb=>a7 0 c b λp=>zr 1 c λl=>b6 l b λm=>zr 2 c λg=>b6 g b λh=>zr 3 c λd=>b6 d b λe=>aw 92 [p] b λq f=>aW l f m <| aW g f h <| aW d f e <| aw 92 [m] f λr j=>aW g j h <| aW d j e <| aw 302 [h] j λs n=>aW d n e <| aw 93 [e] n λt u=>zm (b_ [ai 0,ai 0,cI] 4) [(0,3,q),(3,3,r),(6,3,s),(9,3,t)] 174 4 u λv x=>R v x
theorem b6g(h:Ly a w R):aw 249 [a] w R:=dw Tryz.func249 h
def Me:Prop:=aw 244 [a,(ai 1)] w λb c=>zc .eql b (ai 1) λd=>R d c
theorem b7h(h:Me a w R):aw 301 [a] w R:=dw Tryz.func301 h
end Go.Proofs.YtfenmffiidchcaaGreat
