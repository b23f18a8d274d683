/- Part of the proof (my own). -/
import Derived.Test.YtfenmffiidchcaaGreatQTab
namespace Go.Proofs.YtfenmffiidchcaaGreat
set_option linter.unusedVariables false
set_option maxRecDepth 100000
open Go.RowKit
variable (a b c d e f g h j k l m n o p : Value) (w : World) (R : Value -> World -> Prop)
def HR:Prop:=zo [.map none,.bool false,ai 0,ai 0] [(0,1,(.map (some w.heap.size)))] λb=>∃a:List Value,b= .agg a.toArray/\zk a 129 (w.alloc (.map #[] 0)) λc d=>R c d
theorem bwn(h:HR w R):aw 11 [] w R:=dd Tryz.func11 h
def KG:Prop:=aw 96 [a,b] w λg d=>aF .neq g (ai 0) (R g d) (bw 0 a d λl=>ga Tryz.prog (Instr.lookup 127 l b false) d λe=>HEq (.pointer 142) false e dk λm=>dO m (zo [bF,ai 0] [] λn=>∃h:List Value,n= .agg h.toArray/\zk h 142 d λf j=>bw 0 a j λo=>zZ Tryz.prog (do Instr.mapUpdate 127 o b f;pure undef) j λu k=>bw 0 f k λp=>zt 1 1 [.int .u8 0] 5 p c k λq r=>dx 0 f q r λs=>aw 97 [a] s λt v=>R t v) (bw 0 e d λx=>zt 1 1 [.int .u8 0] 5 x c d λy z=>dx 0 e y z λA=>aw 97 [a] A λB C=>R B C))
theorem b5b(h:KG a b c w R):aw 34 [a,b,c] w R:=dd Tryz.func34 h
def Lc:Prop:=bw 1 a w λb=>R b w
theorem b57(h:Lc a w R):aw 64 [a] w R:=dd Tryz.func64 h
def Ld:Prop:=bw 0 a w λb=>aw 155 [b] w λc d=>aw 154 [c] d λe f=>R e f
theorem b58(h:Ld a w R):aw 67 [a] w R:=dd Tryz.func67 h
def Le:Prop:=bw 0 a w λd=>eG 1 d none (some b) none λe=>aw 156 [e] w λf g=>dx 0 a f g λc=>bw 1 a c λh=>YV h b λj=>dx 1 a j c λk=>R (.tuple #[]) k
theorem b59(h:Le a b w R):aw 68 [a,b] w R:=dd Tryz.func68 h
def LB:Prop:=bw 1 a w λc=>dO c (R (ai 8) w) (aF .lss b (ai 0) (R (ai 1) w) (aF .geq b (ai 16384) (R (ai 1) w) (R (ai 0) w)))
theorem b6w(h:LB a b w R):aw 96 [a,b] w R:=dd Tryz.func96 h
def LC:Prop:=bw 3 a w λe=>zc .add e (ai 1) λf=>dx 3 a f w λb=>bw 2 a b λg=>aF .gtr g (ai 0) (bw 2 a b λh=>zc .sub h (ai 1) λj=>dx 2 a j b λd=>bw 2 a d λk=>zc .eql k (ai 0) λl=>dx 1 a l d λc=>bw 1 a c λm=>dO m (R (ai 8) c) (R (ai 0) c)) (bw 1 a b λn=>dO n (R (ai 8) b) (R (ai 0) b))
theorem b6x(h:LC a w R):aw 97 [a] w R:=dd Tryz.func97 h
def HQ:Prop:=bw 0 a w λd=>ga Tryz.prog (Instr.lookup 127 d b false) w λc=>HEq (.pointer 142) false c dk λe=>dO e (R (.tuple #[bF,(.bool false)]) w) (bw 0 c w λf=>aw 156 [f] w λg h=>R (.tuple #[g,(.bool true)]) h)
theorem bwm(h:HQ a b w R):aw 103 [a,b] w R:=dd Tryz.func103 h
def Iu:Prop:=bw 0 a w λd=>ga Tryz.prog (Instr.lookup 127 d b false) w λc=>HEq (.pointer 142) true c dk λe=>dO e (bw 0 c w λf=>zd f λg=>R g w) (R (ai (-1)) w)
theorem bFh(h:Iu a b w R):aw 149 [a,b] w R:=dd Tryz.func149 h
def Iv:Prop:=aw 232 [a,b] w λk d=>ze 0 k λg=>ze 1 k λh=>∃I:IW,(aF .eql h (ai 0) (aF .lss c (ai 0) (I [(ai 1)] d) (bw 0 g d λm=>zd m λn=>aF .gtr c n (I [(ai 1)] d) (I [h] d))) (I [h] d)) /\∀(e:Value) f,I [e] f -> aF .eql e (ai 0) (aw 97 [a] f λj l=>aF .eql j (ai 0) (aw 68 [g,c] l λq o=>R j o) (R j l)) (aF .eql e (ai 0) (aw 68 [g,c] f λr p=>R e p) (R e f))
theorem bFi(h:Iv a b c w R):aw 150 [a,b,c] w R:=VJ [] [(4,[8],[0,2,7])] Tryz.func150 h
def Iw:Prop:=aw 232 [a,b] w λh c=>ze 0 h λd=>ze 1 h λe=>aF .eql e (ai 0) (aw 97 [a] c λf g=>aF .eql f (ai 0) (bw 0 d g λj=>zd j λk=>dx 1 d k g λl=>R f l) (R f g)) (aF .eql e (ai 0) (bw 0 d c λm=>zd m λn=>dx 1 d n c λo=>R e o) (R e c))
theorem bFj(h:Iw a b w R):aw 151 [a,b] w R:=dd Tryz.func151 h
def Iy:Prop:=aw 232 [a,b] w λg c=>ze 0 g λm=>ze 1 g λd=>aF .eql d (ai 0) (aw 97 [a] c λe f=>aF .eql e (ai 0) (bw 0 a f λh=>zZ Tryz.prog (Builtin.delete_ #[127,3] 0 [h,b].toArray) f λu j=>R e j) (R e f)) (aF .eql d (ai 0) (bw 0 a c λk=>zZ Tryz.prog (Builtin.delete_ #[127,3] 0 [k,b].toArray) c λu_1 l=>R d l) (R d c))
theorem bFl(h:Iy a b w R):aw 153 [a,b] w R:=dd Tryz.func153 h
def JD:Prop:=aw 96 [a,b] w λd c=>aF .neq d (ai 0) (R (.tuple #[dk,d]) c) (bw 0 a c λf=>ga Tryz.prog (Instr.lookup 127 f b false) c λe=>HEq (.pointer 142) false e dk λg=>dO g (R (.tuple #[dk,(ai 5)]) c) (R (.tuple #[e,(ai 0)]) c))
theorem bRd(h:JD a b w R):aw 232 [a,b] w R:=dd Tryz.func232 h
def KI:Prop:=aw 98 [a,b,(.bool false)] w λj k=>aF .neq j (ai 0) (R j k) (aw 99 [a] k λx y=>aw 100 [a,b] y λl m=>ze 0 l λd=>ze 1 l λz=>∃I:IW,(dc z (zn (db [ai 0,ai 0,bF] 0) [] 186 0 m λA n=>bw 0 a n λB=>eG 3 B none (some d) none λC=>zt 3 40 [ai 0,ai 0,bF] 186 A C n λD E=>zo [ai 0,ai 0,bF] [(0,1,b)] λG=>zn (db [ai 0,ai 0,bF] 1) [(0,3,G)] 186 1 E λH J=>zt 3 40 [ai 0,ai 0,bF] 186 D H J λK o=>bw 0 a o λL=>eG 3 L (some d) none none λM=>zt 3 40 [ai 0,ai 0,bF] 186 K M o λN O=>dx 0 a N O λP=>I [] P) (I [] m)) /\∀p,I [] p -> zi p λe=>df 0 a λf=>cR f e λg=>df 0 a λq=>cR q e λr=>zh 3 r d λQ=>zu 2 Q λs=>cR s e λt=>zn (db [.int .u8 0] 0) [] 5 0 e λS h=>cF f h g <| cF q h r <| cF s h t <| zt 1 1 [.int .u8 0] 5 S t h λT u=>cF f u g <| zt 1 1 [.int .u8 0] 5 T c u λU v=>cF f v g <| zh 3 g d λV=>zu 2 V λX=>fH X U v λY=>aw 101 [x] Y λZ α=>R Z α)
theorem b5d(h:KI a b c w R):aw 35 [a,b,c] w R:=VJ [] [(10,[],[0,2,8,9])] Tryz.func35 h
def LD:Prop:=bw 2 a w λf=>dO f (R (ai 8) w) (aF .lss b (ai 0) (R (ai 1) w) (aF .geq b (ai 16384) (R (ai 1) w) (aw 100 [a,b] w λe d=>ze 0 e λh=>ze 1 e λg=>dO c (dc g (R (ai 5) d) (R (ai 0) d)) (R (ai 0) d))))
theorem b6y(h:LD a b c w R):aw 98 [a,b,c] w R:=dd Tryz.func98 h
def LF:Prop:=bw 3 a w λe=>zc .add e (ai 1) λf=>dx 3 a f w λb=>bw 1 a b λg=>aF .gtr g (ai 0) (bw 1 a b λh=>zc .sub h (ai 1) λj=>dx 1 a j b λc=>bw 1 a c λk=>aF .eql k (ai 0) (dx 2 a (.bool true) c λd=>bw 2 a d λl=>R l d) (bw 2 a c λm=>R m c)) (bw 2 a b λn=>R n b)
theorem b6z(h:LF a w R):aw 99 [a] w R:=dd Tryz.func99 h
def HO:Prop:=∃(I:IW) (μ:IM),I [(ai 0)] w /\∀(c:Value) d,I [c] d -> bw 0 a d λq=>zd q λr=>aF .lss c r (bw 0 a d λs=>zh 3 s c λt=>a_ 0 t d λu=>aF .lss u b (zc .add c (ai 1) λg=>I [g] d/\μ [g] d<μ [c] d) (zi d λe=>bw 0 a e λv=>zd v λx=>aF .lss c x (df 0 a λh=>cR h e λj=>zh 3 j c λy=>zu 0 y λk=>cR k e λl=>zc .eql l b λz=>cF h e j <| cF k e l <| R (.tuple #[c,z]) e) (R (.tuple #[c,(.bool false)]) e))) (zi d λf=>bw 0 a f λA=>zd A λB=>aF .lss c B (df 0 a λm=>cR m f λn=>zh 3 n c λC=>zu 0 C λo=>cR o f λp=>zc .eql p b λD=>cF m f n <| cF o f p <| R (.tuple #[c,D]) f) (R (.tuple #[c,(.bool false)]) f))
theorem bwk(h:HO a b w R):aw 100 [a,b] w R:=VJ [(2,[6],[0,1])] [] Tryz.func100 h
def HP:Prop:=dO a (R (ai 8) w) (R (ai 0) w)
theorem bwl(h:HP a w R):aw 101 [a] w R:=dd Tryz.func101 h
def IP:Prop:=aw 98 [a,b,(.bool true)] w λh j=>aF .neq h (ai 0) (R h j) (aw 99 [a] j λc k=>dc c (aw 100 [a,b] k λl q=>ze 0 l λm=>ze 1 l λE=>zi q λd=>df 0 a λn=>cR n d λo=>eG 3 o none (some m) none λr=>df 0 a λe=>cR e d λf=>zc .add m (ai 1) λs=>eG 3 f (some s) none none λt=>zn (db [ai 0,ai 0,bF] 0) [] 186 0 d λu g=>cF n g o <| cF e g f <| zt 3 40 [ai 0,ai 0,bF] 186 u r g λv p=>cF e p f <| zt 3 40 [ai 0,ai 0,bF] 186 v t p λx y=>dx 0 a x y λz=>aw 101 [c] z λA B=>R A B) (aw 101 [c] k λC D=>R C D))
theorem bF0(h:IP a b w R):aw 174 [a,b] w R:=dd Tryz.func174 h
def IS:Prop:=aw 98 [a,b,(.bool true)] w λm n=>aF .neq m (ai 0) (R m n) (aw 100 [a,b] n λo d=>ze 0 o λe=>ze 1 o λX=>aF .lss c (ai 0) (R (ai 1) d) (bw 0 a d λv=>zh 3 v e λx=>a_ 2 x d λy=>zd y λz=>aF .gtr c z (R (ai 1) d) (aw 99 [a] d λj p=>dc j (zi p λf=>df 0 a λk=>cR k f λl=>df 0 a λq=>cR q f λr=>zh 3 r e λA=>zu 2 A λs=>cR s f λt=>eG 1 t none (some c) none λB=>zn (db [.int .u8 0] 0) [] 5 0 f λC g=>cF k g l <| cF q g r <| cF s g t <| zt 1 1 [.int .u8 0] 5 C B g λD u=>cF k u l <| zh 3 l e λE=>zu 2 E λG=>fH G D u λH=>zi H λh=>bw 0 a h λJ=>bw 0 a h λK=>zh 3 K e λL=>a_ 1 L h λM=>YV M c λN=>zh 3 J e λO=>zu 1 O λP=>fH P N h λQ=>aw 101 [j] Q λS T=>R S T) (aw 101 [j] p λU V=>R U V))))
theorem bF2(h:IS a b c w R):aw 176 [a,b,c] w R:=dd Tryz.func176 h
def IT:Prop:=aw 100 [a,b] w λd e=>ze 0 d λf=>ze 1 d λg=>dc g (R (.tuple #[bF,(.bool false)]) e) (zn (db [.int .u8 0] 0) [] 5 0 e λh c=>bw 0 a c λj=>zh 3 j f λk=>a_ 2 k c λl=>zt 1 1 [.int .u8 0] 5 h l c λm n=>R (.tuple #[m,(.bool true)]) n)
theorem bF3(h:IT a b w R):aw 177 [a,b] w R:=dd Tryz.func177 h
def JV:Prop:=aw 98 [a,b,(.bool true)] w λe f=>aF .neq e (ai 0) (R e f) (aw 99 [a] f λd g=>dc d (aw 100 [a,b] g λh k=>ze 0 h λj=>ze 1 h λy=>zi k λc=>bw 0 a c λl=>bw 0 a c λm=>zh 3 m j λn=>a_ 2 n c λo=>zd o λp=>zh 3 l j λq=>zu 1 q λr=>fH r p c λs=>aw 101 [d] s λt u=>R t u) (aw 101 [d] g λv x=>R v x))
theorem bRu(h:JV a b w R):aw 252 [a,b] w R:=dd Tryz.func252 h
def ID:Prop:=zG .u64 a λc=>zG .u64 b λd=>zc .rem c d λe=>zG .i64 e λf=>R f w
theorem bFq(h:ID a b w R):aw 16 [a,b] w R:=dd Tryz.func16 h
def Tv:Prop:=HEq (.slice 125) false a bF λb=>dO b (R bF w) (zn (db [ai 0,ai 0,ai 0,ai 0,ai 0,ai 0,.bool false] 0) [] 125 0 w λc d=>zt 7 56 [ai 0,ai 0,ai 0,ai 0,ai 0,ai 0,.bool false] 125 c a d λe f=>R e f)
theorem bw3(h:Tv a w R):aw 126 [a] w R:=dd Tryz.func126 h
def Iz:Prop:=HEq (.slice 5) false a bF λb=>dO b (R bF w) (zn (db [.int .u8 0] 0) [] 5 0 w λc d=>zt 1 1 [.int .u8 0] 5 c a d λe f=>R e f)
theorem bFm(h:Iz a w R):aw 156 [a] w R:=dd Tryz.func156 h
def Tw:Prop:=HEq (.slice 52) false a bF λb=>dO b (R bF w) (zn (db [ai 0,c_] 0) [] 52 0 w λc d=>zt 2 24 [ai 0,c_] 52 c a d λe f=>R e f)
theorem S6(h:Tw a w R):aw 170 [a] w R:=dd Tryz.func170 h
def IZ:Prop:=∃e:List Value,a= .agg e.toArray/\zk e 82 w λd c=>a_ 0 d c λf=>aF .geq f (ai 0) (a_ 0 d c λg=>aF .lss g b (a_ 1 d c λh=>aF .geq h (ai 1) (a_ 1 d c λj=>aF .leq j (ai 1099511627776) (a_ 3 d c λk=>zR k λl=>aF .leq l (ai 32) (a_ 2 d c λm=>dO m (a_ 3 d c λn=>zc .neq n (.string {data:=#[]}) λo=>Zi o λp=>R p c) (Zi (.bool false) λq=>R q c)) (b7 R c)) (b7 R c)) (b7 R c)) (b7 R c)) (b7 R c)
theorem bF8(h:IZ a b w R):aw 181 [a,b] w R:=dd Tryz.func181 h
end Go.Proofs.YtfenmffiidchcaaGreat
