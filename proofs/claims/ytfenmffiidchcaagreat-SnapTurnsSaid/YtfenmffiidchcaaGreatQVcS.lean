/- Part of the proof (my own). -/
import Derived.Test.YtfenmffiidchcaaGreatQTab
namespace Go.Proofs.YtfenmffiidchcaaGreat
set_option linter.unusedVariables false
set_option maxRecDepth 100000
open Go.RowKit
variable (a b c d e f g h j k l m n o p : Value) (w : World) (R : Value -> World -> Prop)
def IB:Prop:=zo [bF,.bool false] [(0,1,a)] λc=>∃b:List Value,c= .agg b.toArray/\zk b 330 w λd e=>R d e
theorem bFo(h:IB a w R):aw 158 [a] w R:=dd Tryz.func158 h
def IC:Prop:=aw 238 [a,(ai 1)] w λc b=>ga Tryz.prog (Instr.field 174 c 1) b λd=>R d b
theorem bFp(h:IC a w R):aw 159 [a] w R:=dd Tryz.func159 h
def IE:Prop:=aw 159 [a] w λc d=>aF .lss c (ai 0) (dx 1 a (.bool true) d λe=>R (ai 0) e) (aF .gtr c b (dx 1 a (.bool true) d λf=>R (ai 0) f) (R c d))
theorem bFr(h:IE a b w R):aw 160 [a,b] w R:=dd Tryz.func160 h
def IG:Prop:=aw 238 [a,(ai 2)] w λc b=>ga Tryz.prog (Instr.field 174 c 2) b λd=>R d b
theorem bFt(h:IG a w R):aw 162 [a] w R:=dd Tryz.func162 h
def IH:Prop:=bw 1 a w λb=>dc b (bw 0 a w λc=>zd c λd=>zc .eql d (ai 0) λe=>R e w) (b7 R w)
theorem bFu(h:IH a w R):aw 163 [a] w R:=dd Tryz.func163 h
def Ju:Prop:=zd a λh=>∃(I:IW) (μ:IM),I [bF,(ai 0)] w /\∀(d b:Value) c,I [d,b] c -> aF .lss b h (zh 1 a b λj=>cR j c λk=>zo [ai 0,ai 0,c_] [(0,1,(ai 1)),(1,1,k)] λl=>zn (db [ai 0,ai 0,c_] 1) [(0,3,l)] 174 1 c λm n=>zt 3 32 [ai 0,ai 0,c_] 174 d m n λe f=>zc .add b (ai 1) λg=>I [e,g] f/\μ [e,g] f<μ [d,b] c) (R d c)
theorem bI5(h:Ju a w R):aw 225 [a] w R:=VJ [(3,[3,8],[6,7])] [] Tryz.func225 h
def Jv:Prop:=dO a (R (ai 1) w) (R (ai 0) w)
theorem bI6(h:Jv a w R):aw 226 [a] w R:=dd Tryz.func226 h
def Jw:Prop:=zk [ai 0,ai 0,c_] 174 w λb d=>zo [ai 0,ai 0,c_] [(0,1,(ai 2)),(2,1,a)] λe=>zl 3 b e d λc=>zj 3 b c λr=>R r c
theorem bI7(h:Jw a w R):aw 227 [a] w R:=dd Tryz.func227 h
def JG:Prop:=zk [ai 0,ai 0,c_] 174 w λd c=>bw 1 a c λm=>dO m (dx 1 a (.bool true) c λn=>zo [ai 0,ai 0,c_] [] λo=>zl 3 d o n λe=>zj 3 d e λr=>R r e) (bw 0 a c λp=>zd p λq=>aF .eql q (ai 0) (dx 1 a (.bool true) c λs=>zo [ai 0,ai 0,c_] [] λt=>zl 3 d t s λf=>zj 3 d f λu=>R u f) (bw 0 a c λv=>zh 3 v (ai 0) λx=>a_ 0 x c λy=>aF .neq y b (dx 1 a (.bool true) c λz=>zo [ai 0,ai 0,c_] [] λA=>zl 3 d A z λg=>zj 3 d g λB=>R B g) (bw 0 a c λC=>zh 3 C (ai 0) λD=>zj 3 D c λE=>zk [ai 0,ai 0,c_] 174 c λh G=>zl 3 h E G λj=>bw 0 a j λH=>eG 3 H (some (ai 1)) none none λJ=>dx 0 a J j λk=>zj 3 h k λK=>zl 3 d K k λl=>zj 3 d l λL=>R L l)))
theorem bRg(h:JG a b w R):aw 238 [a,b] w R:=dd Tryz.func238 h
def JH:Prop:=aw 160 [a,(ai 1)] w λb c=>zc .eql b (ai 1) λd=>R d c
theorem bRh(h:JH a w R):aw 239 [a] w R:=dd Tryz.func239 h
def KB:Prop:=bw 1 a w λb=>Zi b λc=>R c w
theorem bW5(h:KB a w R):aw 326 [a] w R:=dd Tryz.func326 h
def JN:Prop:=zi w λc=>bw 2 a c λe=>dO e (dx 2 a (.bool true) c λf=>R (ai 0) f) (bw 1 a c λg=>bw 0 a c λh=>zd h λj=>aF .geq g j (dx 2 a (.bool true) c λk=>R (ai 0) k) (bw 0 a c λl=>bw 1 a c λm=>zh 3 l m λn=>a_ 0 n c λo=>aF .neq o (ai 1) (dx 2 a (.bool true) c λp=>R (ai 0) p) (bw 0 a c λq=>bw 1 a c λr=>zh 3 q r λs=>a_ 1 s c λt=>aF .lss t (ai 0) (dx 2 a (.bool true) c λu=>R (ai 0) u) (bw 0 a c λv=>bw 1 a c λx=>zh 3 v x λy=>a_ 1 y c λz=>aF .gtr z b (dx 2 a (.bool true) c λA=>R (ai 0) A) (bw 1 a c λB=>zc .add B (ai 1) λC=>dx 1 a C c λD=>zi D λd=>bw 0 a d λE=>bw 1 a d λG=>zc .sub G (ai 1) λH=>zh 3 E H λJ=>a_ 1 J d λK=>R K d)))))
theorem bRm(h:JN a b w R):aw 244 [a,b] w R:=dd Tryz.func244 h
def JO:Prop:=zi w λb=>bw 2 a b λd=>dO d (dx 2 a (.bool true) b λe=>R (.string {data:=#[]}) e) (bw 1 a b λf=>bw 0 a b λg=>zd g λh=>aF .geq f h (dx 2 a (.bool true) b λj=>R (.string {data:=#[]}) j) (bw 0 a b λk=>bw 1 a b λl=>zh 3 k l λm=>a_ 0 m b λn=>aF .neq n (ai 2) (dx 2 a (.bool true) b λo=>R (.string {data:=#[]}) o) (bw 1 a b λp=>zc .add p (ai 1) λq=>dx 1 a q b λr=>zi r λc=>bw 0 a c λs=>bw 1 a c λt=>zc .sub t (ai 1) λu=>zh 3 s u λv=>a_ 2 v c λx=>R x c)))
theorem bRn(h:JO a w R):aw 245 [a] w R:=dd Tryz.func245 h
def JP:Prop:=zi w λb=>bw 2 a b λc=>dc c (bw 1 a b λd=>bw 0 a b λe=>zd e λf=>zc .eql d f λg=>R g b) (b7 R b)
theorem bRo(h:JP a w R):aw 246 [a] w R:=dd Tryz.func246 h
def JQ:Prop:=zk [ai 0,ai 0,.bool false,c_] 82 w λc f=>aw 244 [a,(ai 7)] f λg h=>zo [ai 0,ai 0,.bool false,c_] [(0,1,g)] λj=>zk [ai 0,ai 0,.bool false,c_] 82 h λb k=>zl 4 b j k λl=>aw 244 [a,(ai 1099511627776)] l λm n=>zu 1 b λo=>fH o m n λp=>aw 301 [a] p λq s=>zu 2 b λt=>fH t q s λu=>aw 245 [a] u λv x=>zu 3 b λy=>fH y v x λd=>zj 4 b d λz=>zl 4 c z d λe=>zj 4 c e λr=>R r e
theorem bRp(h:JQ a w R):aw 247 [a] w R:=dd Tryz.func247 h
def JS:Prop:=∃k:List Value,a= .agg k.toArray/\zk k 82 w λc o=>zi o λb=>a_ 0 c b λp=>zu 1 c λl=>cR l b λm=>zu 2 c λg=>cR g b λh=>zu 3 c λd=>cR d b λe=>aw 92 [p] b λq f=>cF l f m <| cF g f h <| cF d f e <| aw 92 [m] f λr j=>cF g j h <| cF d j e <| aw 302 [h] j λs n=>cF d n e <| aw 93 [e] n λt u=>zn (db [ai 0,ai 0,c_] 4) [(0,3,q),(3,3,r),(6,3,s),(9,3,t)] 174 4 u λv x=>R v x
theorem bRr(h:JS a w R):aw 249 [a] w R:=dd Tryz.func249 h
def Kq:Prop:=aw 244 [a,(ai 1)] w λb c=>zc .eql b (ai 1) λd=>R d c
theorem bWr(h:Kq a w R):aw 301 [a] w R:=dd Tryz.func301 h
end Go.Proofs.YtfenmffiidchcaaGreat
