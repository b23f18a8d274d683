/- Part of the proof (my own). -/
import Derived.Test.YtfenmffiidchcaaGreatQTab
namespace Go.Proofs.YtfenmffiidchcaaGreat
set_option linter.unusedVariables false
set_option maxRecDepth 100000
open Go.RowKit
variable (a b c d e f g h j k l m n o p : Value) (w : World) (R : Value -> World -> Prop)
def KQ:Prop:=zo [bR,.bool false] [(0,1,a)] λc=>∃b:List Value,c= .agg b.toArray/\zk b 330 w λd e=>R d e
theorem cR8(h:KQ a w R):aw 158 [a] w R:=dF Tryz.func158 h
def KR:Prop:=aw 238 [a,(ai 1)] w λc b=>jZ Tryz.prog (Instr.field 174 c 1) b λd=>R d b
theorem cR9(h:KR a w R):aw 159 [a] w R:=dF Tryz.func159 h
def KU:Prop:=aw 159 [a] w λc d=>aF .lss c (ai 0) (fR 1 a (.bool true) d λe=>R (ai 0) e) (aF .gtr c b (fR 1 a (.bool true) d λf=>R (ai 0) f) (R c d))
theorem cWb(h:KU a b w R):aw 160 [a,b] w R:=dF Tryz.func160 h
def KW:Prop:=aw 238 [a,(ai 2)] w λc b=>jZ Tryz.prog (Instr.field 174 c 2) b λd=>R d b
theorem cWd(h:KW a w R):aw 162 [a] w R:=dF Tryz.func162 h
def KX:Prop:=bF 1 a w λb=>dW b (bF 0 a w λc=>zd c λd=>zc .eql d (ai 0) λe=>R e w) (cw R w)
theorem cWe(h:KX a w R):aw 163 [a] w R:=dF Tryz.func163 h
def LV:Prop:=zd a λh=>∃(I:IW) (μ:IM),I [bR,(ai 0)] w /\∀(d b:Value) c,I [d,b] c -> aF .lss b h (ze 1 a b λj=>cI j c λk=>zo [ai 0,ai 0,dw] [(0,1,(ai 1)),(1,1,k)] λl=>zm (cW [ai 0,ai 0,dw] 1) [(0,3,l)] 174 1 c λm n=>zr 3 32 [ai 0,ai 0,dw] 174 d m n λe f=>zc .add b (ai 1) λg=>I [e,g] f/\μ [e,g] f<μ [d,b] c) (R d c)
theorem c_4(h:LV a w R):aw 225 [a] w R:=VJ [(3,[3,8],[6,7])] [] Tryz.func225 h
def LW:Prop:=g9 a (R (ai 1) w) (R (ai 0) w)
theorem c_5(h:LW a w R):aw 226 [a] w R:=dF Tryz.func226 h
def LX:Prop:=zk [ai 0,ai 0,dw] 174 w λb d=>zo [ai 0,ai 0,dw] [(0,1,(ai 2)),(2,1,a)] λe=>zl 3 b e d λc=>zh 3 b c λr=>R r c
theorem c_6(h:LX a w R):aw 227 [a] w R:=dF Tryz.func227 h
def L_:Prop:=zk [ai 0,ai 0,dw] 174 w λd c=>bF 1 a c λm=>g9 m (fR 1 a (.bool true) c λn=>zo [ai 0,ai 0,dw] [] λo=>zl 3 d o n λe=>zh 3 d e λr=>R r e) (bF 0 a c λp=>zd p λq=>aF .eql q (ai 0) (fR 1 a (.bool true) c λs=>zo [ai 0,ai 0,dw] [] λt=>zl 3 d t s λf=>zh 3 d f λu=>R u f) (bF 0 a c λv=>ze 3 v (ai 0) λx=>a_ 0 x c λy=>aF .neq y b (fR 1 a (.bool true) c λz=>zo [ai 0,ai 0,dw] [] λA=>zl 3 d A z λg=>zh 3 d g λB=>R B g) (bF 0 a c λC=>ze 3 C (ai 0) λD=>zh 3 D c λE=>zk [ai 0,ai 0,dw] 174 c λh G=>zl 3 h E G λj=>bF 0 a j λH=>iQ 3 H (some (ai 1)) none none λJ=>fR 0 a J j λk=>zh 3 h k λK=>zl 3 d K k λl=>zh 3 d l λL=>R L l)))
theorem dwf(h:L_ a b w R):aw 238 [a,b] w R:=dF Tryz.func238 h
def Ma:Prop:=aw 160 [a,(ai 1)] w λb c=>zc .eql b (ai 1) λd=>R d c
theorem dwg(h:Ma a w R):aw 239 [a] w R:=dF Tryz.func239 h
def Ns:Prop:=bF 1 a w λb=>y0 b λc=>R c w
theorem dIr(h:Ns a w R):aw 326 [a] w R:=dF Tryz.func326 h
def Mg:Prop:=zj w λc=>bF 2 a c λe=>g9 e (fR 2 a (.bool true) c λf=>R (ai 0) f) (bF 1 a c λg=>bF 0 a c λh=>zd h λj=>aF .geq g j (fR 2 a (.bool true) c λk=>R (ai 0) k) (bF 0 a c λl=>bF 1 a c λm=>ze 3 l m λn=>a_ 0 n c λo=>aF .neq o (ai 1) (fR 2 a (.bool true) c λp=>R (ai 0) p) (bF 0 a c λq=>bF 1 a c λr=>ze 3 q r λs=>a_ 1 s c λt=>aF .lss t (ai 0) (fR 2 a (.bool true) c λu=>R (ai 0) u) (bF 0 a c λv=>bF 1 a c λx=>ze 3 v x λy=>a_ 1 y c λz=>aF .gtr z b (fR 2 a (.bool true) c λA=>R (ai 0) A) (bF 1 a c λB=>zc .add B (ai 1) λC=>fR 1 a C c λD=>zj D λd=>bF 0 a d λE=>bF 1 a d λG=>zc .sub G (ai 1) λH=>ze 3 E H λJ=>a_ 1 J d λK=>R K d)))))
theorem dwm(h:Mg a b w R):aw 244 [a,b] w R:=dF Tryz.func244 h
def Mh:Prop:=zj w λb=>bF 2 a b λd=>g9 d (fR 2 a (.bool true) b λe=>R (.string {data:=#[]}) e) (bF 1 a b λf=>bF 0 a b λg=>zd g λh=>aF .geq f h (fR 2 a (.bool true) b λj=>R (.string {data:=#[]}) j) (bF 0 a b λk=>bF 1 a b λl=>ze 3 k l λm=>a_ 0 m b λn=>aF .neq n (ai 2) (fR 2 a (.bool true) b λo=>R (.string {data:=#[]}) o) (bF 1 a b λp=>zc .add p (ai 1) λq=>fR 1 a q b λr=>zj r λc=>bF 0 a c λs=>bF 1 a c λt=>zc .sub t (ai 1) λu=>ze 3 s u λv=>a_ 2 v c λx=>R x c)))
theorem dwn(h:Mh a w R):aw 245 [a] w R:=dF Tryz.func245 h
def Mi:Prop:=zj w λb=>bF 2 a b λc=>dW c (bF 1 a b λd=>bF 0 a b λe=>zd e λf=>zc .eql d f λg=>R g b) (cw R b)
theorem dwo(h:Mi a w R):aw 246 [a] w R:=dF Tryz.func246 h
def Mj:Prop:=zk [ai 0,ai 0,.bool false,dw] 82 w λc f=>aw 244 [a,(ai 7)] f λg h=>zo [ai 0,ai 0,.bool false,dw] [(0,1,g)] λj=>zk [ai 0,ai 0,.bool false,dw] 82 h λb k=>zl 4 b j k λl=>aw 244 [a,(ai 1099511627776)] l λm n=>zq 1 b λo=>jH o m n λp=>aw 301 [a] p λq s=>zq 2 b λt=>jH t q s λu=>aw 245 [a] u λv x=>zq 3 b λy=>jH y v x λd=>zh 4 b d λz=>zl 4 c z d λe=>zh 4 c e λr=>R r e
theorem dwp(h:Mj a w R):aw 247 [a] w R:=dF Tryz.func247 h
def Ml:Prop:=∃k:List Value,a= .agg k.toArray/\zk k 82 w λc o=>zj o λb=>a_ 0 c b λp=>zq 1 c λl=>cI l b λm=>zq 2 c λg=>cI g b λh=>zq 3 c λd=>cI d b λe=>aw 92 [p] b λq f=>aW l f m <| aW g f h <| aW d f e <| aw 92 [m] f λr j=>aW g j h <| aW d j e <| aw 302 [h] j λs n=>aW d n e <| aw 93 [e] n λt u=>zm (cW [ai 0,ai 0,dw] 4) [(0,3,q),(3,3,r),(6,3,s),(9,3,t)] 174 4 u λv x=>R v x
theorem dwr(h:Ml a w R):aw 249 [a] w R:=dF Tryz.func249 h
def M_:Prop:=aw 244 [a,(ai 1)] w λb c=>zc .eql b (ai 1) λd=>R d c
theorem dF4(h:M_ a w R):aw 301 [a] w R:=dF Tryz.func301 h
end Go.Proofs.YtfenmffiidchcaaGreat
