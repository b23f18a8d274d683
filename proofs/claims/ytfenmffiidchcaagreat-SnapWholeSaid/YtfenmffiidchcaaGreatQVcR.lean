/- Part of the proof (my own). -/
import Derived.Test.YtfenmffiidchcaaGreatQTab
namespace Go.Proofs.YtfenmffiidchcaaGreat
set_option linter.unusedVariables false
set_option maxRecDepth 100000
open Go.RowKit
variable (a b c d e f g h j k l m n o p : Value) (w : World) (R : Value -> World -> Prop)
def Mt:Prop:=zd a λh=>∃(I:IW) (μ:IM),I [(.int .u32 0),(ai 0)] w /\∀(d b:Value) c,I [d,b] c -> aF .lss b h (ze 1 a b λj=>b6 j c λk=>aw 359 [d,k] c λe f=>zc .add b (ai 1) λg=>I [e,g] f/\μ [e,g] f<μ [d,b] c) (R d c)
theorem b70(h:Mt a w R):aw 330 [a] w R:=VJ [(3,[3,8],[6,7])] [] Tryz.func330 h
def MC:Prop:=qD a λj=>zd b λk=>∃(I:IW) (μ:IM),I [j,(ai 0)] w /\∀(e c:Value) d,I [e,c] d -> aF .lss c k (ze 1 b c λl=>b6 l d λm=>aw 372 [e,m] d λf g=>zc .add c (ai 1) λh=>I [f,h] g/\μ [f,h] g<μ [e,c] d) (qD e λn=>R n d)
theorem b8a(h:MC a b w R):aw 359 [a,b] w R:=VJ [(3,[5,12],[10,11])] [] Tryz.func359 h
def MF:Prop:=zG .u32 b λk=>zc .xor a k λl=>∃(I:IW) (μ:IM),I [l,(ai 0)] w /\∀(d:Value) (e:Value) c,I [d,e] c -> aF .lss e (ai 8) (zc .and d (.int .u32 1) λm=>zc .eql m (.int .u32 1) λn=>zc .shr d (.int .u64 1) λf=>ic n (zc .xor f (.int .u32 3988292384) λg=>zc .add e (ai 1) λh=>I [g,h] c/\μ [g,h] c<μ [d,e] c) (zc .add e (ai 1) λj=>I [f,j] c/\μ [f,j] c<μ [d,e] c)) (R d c)
theorem b8d(h:MF a b w R):aw 372 [a,b] w R:=VJ [(3,[0,10],[])] [] Tryz.func372 h
def Lj:Prop:=zd a λj=>aF .gtr j (ai 1048576) (R (.tuple #[bI,(ai 1)]) w) (aw 289 [a] w λk l=>zk [bI,bI] 377 l λb m=>zl 2 b k m λn=>zi n λc=>zr 0 b λo=>zj 1 o c λp=>zr 1 b λe=>b6 e c λf=>zr 0 b λq=>zr 0 q λg=>b6 g c λh=>aw 291 [p] c λr d=>aW e d f <| aW g d h <| zm (b_ [bI] 3) [(0,1,r),(1,1,f),(2,1,h)] 62 3 d λs t=>aw 290 [s] t λu v=>R (.tuple #[u,(ai 0)]) v)
theorem b51(h:Lj a w R):aw 231 [a] w R:=dw Tryz.func231 h
def LP:Prop:=∃(I:IW) (μ:IM),I [bI,(ai 0)] w /\∀(c b:Value) d,I [c,b] d -> iL 1 a (some b) none none λk=>aw 281 [k] d λe f=>zf 0 e λl=>zf 1 e λm=>zf 2 e λn=>aF .neq n (ai 0) (R (.tuple #[c,b]) f) (zm (b_ [bI] 1) [(0,1,l)] 62 1 f λo p=>zu 1 24 [bI] 62 c o p λg h=>zc .add b m λj=>I [g,j] h/\μ [g,j] h<μ [c,b] d)
theorem b6w(h:LP a w R):aw 279 [a] w R:=VJ [(3,[4,5],[0])] [] Tryz.func279 h
def LS:Prop:=zd a λg=>aF .lss g (ai 8) (R (.tuple #[bI,(ai 0),(ai 2)]) w) (zi w λb=>ze 1 a (ai 0) λh=>b6 h b λj=>zG .i64 j λk=>zc .shl k (.int .u64 24) λl=>ze 1 a (ai 1) λm=>b6 m b λn=>zG .i64 n λo=>zc .shl o (.int .u64 16) λp=>zc .or l p λq=>ze 1 a (ai 2) λr=>b6 r b λs=>zG .i64 s λt=>zc .shl t (.int .u64 8) λu=>zc .or q u λv=>ze 1 a (ai 3) λx=>b6 x b λy=>zG .i64 y λz=>zc .or v z λc=>aF .gtr c (ai 1048576) (R (.tuple #[bI,(ai 0),(ai 3)]) b) (zd a λA=>zc .add (ai 8) c λB=>aF .lss A B (R (.tuple #[bI,(ai 0),(ai 2)]) b) (zc .add (ai 8) c λC=>iL 1 a (some (ai 8)) (some C) none λD=>aw 289 [D] b λE G=>zk [bI,bI] 377 G λd H=>zl 2 d E H λJ=>zi J λf=>a7 1 d f λK=>iL 1 a (some (ai 4)) (some (ai 8)) none λL=>aw 325 [K,L] f λM e=>c_ M (R (.tuple #[bI,(ai 0),(ai 4)]) e) (zr 0 d λN=>a7 0 N e λO=>aw 156 [O] e λP Q=>zc .add (ai 8) c λS=>R (.tuple #[P,S,(ai 0)]) Q))))
theorem b6z(h:LS a w R):aw 281 [a] w R:=dw Tryz.func281 h
def L3:Prop:=zk [bI,bI] 377 w λe l=>zn [bI] [(0,1,a)] λm=>zk [bI] 375 l λb n=>zl 1 b m n λo=>zi o λd=>zj 1 b d λc=>zj 1 b d λp=>aw 291 [p] d λq f=>zj 1 b f λs=>s=c /\zm (b_ [bI] 2) [(0,1,q),(1,1,a)] 62 2 f λt g=>zj 1 b g λu=>u=c /\aw 330 [t] g λv h=>zj 1 b h λx=>x=c /\aw 329 [v] h λy j=>zj 1 b j λz=>z=c /\zn [bI,bI] [(0,1,c),(1,1,y)] λA=>zl 2 e A j λk=>zj 2 e k λr=>R r k
theorem b67(h:L3 a w R):aw 289 [a] w R:=dw Tryz.func289 h
def L5:Prop:=∃b:List Value,a= .agg b.toArray/\zk b 375 w λd c=>a7 0 d c λe=>zd e λf=>zG .u32 f λg=>aw 329 [g] c λh j=>R h j
theorem b69(h:L5 a w R):aw 291 [a] w R:=dw Tryz.func291 h
def Mr:Prop:=zc .shr a (.int .u64 24) λb=>zG .u8 b λc=>zc .shr a (.int .u64 16) λd=>zG .u8 d λe=>zc .shr a (.int .u64 8) λf=>zG .u8 f λg=>zG .u8 a λh=>zm (b_ [.int .u8 0] 4) [(0,1,c),(1,1,e),(2,1,g),(3,1,h)] 5 4 w λj k=>R j k
theorem b7y(h:Mr a w R):aw 329 [a] w R:=dw Tryz.func329 h
def Kj:Prop:=zn [bI,ai 0] [(0,1,a)] λs=>∃l:List Value,s= .agg l.toArray/\zk l 327 w λb t=>∃I:IW,(aw 236 [b,(ai 32767)] t λu v=>∃(j:IW) (μ:IM),j [bI,u] v /\∀(e f:Value) c,j [e,f] c -> aF .gtr f (ai 0) (bF 1 b c λx=>aF .eql x (ai 0) (aw 237 [b] c λy z=>zm (b_ [ai 0,ai 0,cI] 1) [(0,3,y)] 174 1 z λA B=>zu 3 32 [ai 0,ai 0,cI] 174 e A B λm n=>zc .sub f (ai 1) λo=>j [m,o] n/\μ [m,o] n<μ [e,f] c) (I [e] c)) (I [e] c)) /\∀(p:Value) d,I [p] d -> ∃g:IW,(bF 1 b d λC=>aF .eql C (ai 0) (bF 0 b d λD=>zd D λE=>aF .gtr E (ai 0) (fI 1 b (ai 3) d λG=>g [] G) (g [] d)) (g [] d)) /\∀h,g [] h -> bF 1 b h λH=>aF .neq H (ai 0) (zi h λk=>dI 1 b λq=>b6 q k λr=>aW q k r <| R (.tuple #[bI,r]) k) (R (.tuple #[p,(ai 0)]) h)
theorem b4b(h:Kj a w R):aw 157 [a] w R:=VJ [(4,[5,6],[4])] [(7,[5],[4]),(9,[],[4,5])] Tryz.func157 h
def Lf:Prop:=zd a λu=>aF .gtr u (ai 32767) (R (.tuple #[bI,(ai 1)]) w) (zd a λv=>zG .u64 v λx=>aw 284 [bI,x,(ai 2)] w λy z=>zd a λA=>∃(I:IW) (μ:IM),I [y,(ai 0)] z /\∀(e b:Value) d,I [e,b] d -> aF .lss b A (ze 3 a b λB=>zj 3 B d λC=>zk [ai 0,ai 0,cI] 174 d λc D=>zl 3 c C D λj=>zj 3 c j λE=>aw 285 [E] j λG g=>c_ G (R (.tuple #[bI,(ai 1)]) g) (a7 0 c g λH=>zG .u8 H λJ=>zm (b_ [.int .u8 0] 1) [(0,1,J)] 5 1 g λK L=>zu 1 1 [.int .u8 0] 5 e K L λk f=>a7 0 c f λM=>aF .eql M (ai 1) (a7 1 c f λN=>zG .u64 N λO=>aw 284 [k,O,(ai 8)] f λl m=>zc .add b (ai 1) λn=>I [l,n] m/\μ [l,n] m<μ [e,b] d) (zi f λh=>a7 2 c h λP=>zT P λQ=>zG .u64 Q λS=>zr 2 c λo=>b6 o h λp=>aw 284 [k,S,(ai 2)] h λT q=>aW o q p <| zu 1 1 [.int .u8 0] 5 T p q λr s=>zc .add b (ai 1) λt=>I [r,t] s/\μ [r,t] s<μ [e,b] d))) (R (.tuple #[e,(ai 0)]) d))
theorem b5x(h:Lf a w R):aw 228 [a] w R:=VJ [(5,[4,16],[14,15])] [] Tryz.func228 h
def Ll:Prop:=aw 295 [a,(ai 2)] w λe c=>zG .i64 e λd=>aF .gtr d b (fI 1 a (ai 3) c λf=>R (ai 0) f) (R d c)
theorem b53(h:Ll a b w R):aw 236 [a,b] w R:=dw Tryz.func236 h
def Lm:Prop:=zk [ai 0,ai 0,cI] 174 w λb k=>aw 295 [a,(ai 1)] k λl c=>zG .i64 l λd=>aF .eql d (ai 1) (aw 295 [a,(ai 8)] c λm n=>zG .i64 m λo=>zn [ai 0,ai 0,cI] [(0,1,d),(1,1,o)] λp=>zl 3 b p n λe=>zj 3 b e λr=>R r e) (aF .eql d (ai 2) (aw 236 [a,(ai 4096)] c λq s=>aw 296 [a,q] s λt f=>kg Tryz.prog (convert 62 9 t) f λu=>zn [ai 0,ai 0,cI] [(0,1,d),(2,1,u)] λv=>zl 3 b v f λg=>zj 3 b g λx=>R x g) (bF 1 a c λy=>aF .eql y (ai 0) (fI 1 a (ai 3) c λz=>zn [ai 0,ai 0,cI] [] λA=>zl 3 b A z λh=>zj 3 b h λB=>R B h) (zn [ai 0,ai 0,cI] [] λC=>zl 3 b C c λj=>zj 3 b j λD=>R D j)))
theorem b54(h:Lm a w R):aw 237 [a] w R:=dw Tryz.func237 h
def LW:Prop:=zc .sub c (ai 1) λk=>∃(I:IW) (μ:IM),I [a,k] w /\∀(e:Value) (d:Value) f,I [e,d] f -> aF .geq d (ai 0) (zc .mul (ai 8) d λl=>zc .shr b l λm=>zG .u8 m λn=>zm (b_ [.int .u8 0] 1) [(0,1,n)] 5 1 f λo p=>zu 1 1 [.int .u8 0] 5 e o p λg h=>zc .sub d (ai 1) λj=>I [g,j] h/\μ [g,j] h<μ [e,d] f) (R e f)
theorem b62(h:LW a b c w R):aw 284 [a,b,c] w R:=VJ [(2,[0,7],[1])] [] Tryz.func284 h
def LX:Prop:=∃d:List Value,a= .agg d.toArray/\zk d 174 w λc b=>a7 0 c b λe=>aF .eql e (ai 1) (a7 2 c b λf=>zc .eql f (.string {data:=#[]}) λg=>R g b) (aF .eql e (ai 2) (a7 1 c b λh=>aF .eql h (ai 0) (a7 2 c b λj=>zT j λk=>zc .leq k (ai 4096) λl=>R l b) (b7 R b)) (b7 R b))
theorem b63(h:LX a w R):aw 285 [a] w R:=dw Tryz.func285 h
def L8:Prop:=aw 296 [a,b] w λf j=>zd f λk=>∃(I:IW) (μ:IM),I [(.int .u64 0),(ai 0)] j /\∀(e d:Value) c,I [e,d] c -> aF .lss d k (ze 1 f d λl=>b6 l c λm=>zc .shl e (.int .u64 8) λn=>zG .u64 m λo=>zc .or n o λg=>zc .add d (ai 1) λh=>I [g,h] c/\μ [g,h] c<μ [e,d] c) (R e c)
theorem b7a(h:L8 a b w R):aw 295 [a,b] w R:=VJ [(3,[5,12],[10,11])] [] Tryz.func295 h
def L9:Prop:=∃I:IW,(bF 1 a w λd=>aF .eql d (ai 0) (bF 0 a w λe=>zd e λf=>aF .lss f b (fI 1 a (ai 2) w λg=>I [] g) (I [] w)) (I [] w)) /\∀c,I [] c -> bF 1 a c λh=>aF .neq h (ai 0) (R bI c) (bF 0 a c λj=>iL 1 j none (some b) none λk=>bF 0 a c λl=>iL 1 l (some b) none none λm=>fI 0 a m c λn=>R k n)
theorem b7b(h:L9 a b w R):aw 296 [a,b] w R:=VJ [] [(3,[],[0,1])] Tryz.func296 h
def K5:Prop:=aw 279 [a] w λf l=>zf 0 f λm=>zf 1 f λn=>zn [bI,ai 0] [(0,1,m),(1,1,n)] λo=>zn [bI,ai 0,ai 0] [(0,2,o)] λp=>∃g:List Value,p= .agg g.toArray/\zk g 371 l λc q=>aw 280 [c] q λr h=>c_ r (R (.tuple #[(ai 0),bI,(ai 0),(ai 3)]) h) (zi h λb=>bF 2 c b λs=>dI 0 c λt=>zr 0 t λj=>b6 j b λk=>iL 1 k (some (ai 1)) none none λu=>dI 0 c λv=>zr 1 v λd=>b6 d b λe=>aW j b k <| aW d b e <| aW d b e <| R (.tuple #[s,u,e,(ai 0)]) b)
theorem b5m(h:K5 a w R):aw 218 [a] w R:=dw Tryz.func218 h
def LR:Prop:=dI 0 a λe=>a7 0 e w λf=>zd f λg=>aF .eql g (ai 0) (b7 R w) (dI 0 a λh=>a7 0 h w λj=>ze 1 j (ai 0) λk=>b6 k w λl=>aw 157 [l] w λd b=>zf 0 d λc=>zf 1 d λm=>aF .neq m (ai 0) (b7 R b) (zd c λn=>aF .neq n (ai 1) (b7 R b) (ze 3 c (ai 0) λo=>a7 0 o b λp=>aF .neq p (ai 1) (b7 R b) (ze 3 c (ai 0) λq=>a7 1 q b λr=>aF .lss r (ai 1) (b7 R b) (ze 3 c (ai 0) λs=>a7 1 s b λt=>aF .gtr t (ai 1099511627776) (b7 R b) (ze 3 c (ai 0) λu=>a7 1 u b λv=>fI 2 a v b λx=>R (.bool true) x))))))
theorem b6y(h:LR a w R):aw 280 [a] w R:=dw Tryz.func280 h
def Mq:Prop:=aF .lss a (ai 1) (R (.tuple #[bI,(ai 1)]) w) (aF .gtr a (ai 1099511627776) (R (.tuple #[bI,(ai 1)]) w) (zn [ai 0,ai 0,cI] [(0,1,(ai 1)),(1,1,a)] λf=>zm (b_ [ai 0,ai 0,cI] 1) [(0,3,f)] 174 1 w λg h=>aw 228 [g] h λb c=>zf 0 b λj=>zf 1 b λd=>aF .neq d (ai 0) (R (.tuple #[bI,d]) c) (aw 231 [j] c λe k=>zf 0 e λl=>zf 1 e λm=>R (.tuple #[l,m]) k)))
theorem b7x(h:Mq a w R):aw 328 [a] w R:=dw Tryz.func328 h
def L4:Prop:=zd a λp=>∃(I:IW) (μ:IM),I [(ai 0),(ai 0)] w /\∀(f c:Value) b,I [f,c] b -> aF .lss c p (ze 1 a c λq=>b6 q b λr=>zd r λs=>zc .add f s λh=>aF .lss h (ai 0) (False) (zc .add c (ai 1) λk=>I [h,k] b/\μ [h,k] b<μ [f,c] b)) (aw 331 [bI,f] b λt u=>zd a λv=>∃(j:IW) (l:IM),j [t,(ai 0)] u /\∀(g d:Value) e,j [g,d] e -> aF .lss d v (ze 1 a d λx=>b6 x e λy=>zu 1 1 [.int .u8 0] 5 g y e λm n=>zc .add d (ai 1) λo=>j [m,o] n/\l [m,o] n<l [g,d] e) (R g e))
theorem b68(h:L4 a w R):aw 290 [a] w R:=VJ [(3,[3,11],[0,9,10]),(11,[6,27],[25,26])] [] Tryz.func290 h
def Mo:Prop:=zd a λg=>zd b λh=>aF .neq g h (b7 R w) (zd a λj=>∃(I:IW) (μ:IM),I [(ai 0)] w /\∀(c:Value) e,I [c] e -> aF .lss c j (zi e λd=>ze 1 a c λk=>b6 k d λl=>ze 1 b c λm=>b6 m d λn=>aF .neq l n (b7 R d) (zc .add c (ai 1) λf=>I [f] d/\μ [f] d<μ [c] e)) (R (.bool true) e))
theorem b7u(h:Mo a b w R):aw 325 [a,b] w R:=VJ [(4,[13],[0,1,12])] [] Tryz.func325 h
def Mu:Prop:=aF .lss b (ai 0) (False) (kg Tryz.prog (Builtin.cap_ #[62] 3 [a].toArray) w λd=>zd a λe=>zc .sub d e λf=>zc .sub b f λc=>aF .gtr c (ai 0) (kg Tryz.prog (Builtin.cap_ #[62] 3 [a].toArray) w λg=>iL 1 a none (some g) none λh=>z6 Tryz.prog (Builtin.append_ #[62,3] 62 #[h,c]) w λj k=>zd a λl=>iL 1 j none (some l) none λm=>R m k) (R a w))
theorem b71(h:Mu a b w R):aw 331 [a,b] w R:=dw Tryz.func331 h
end Go.Proofs.YtfenmffiidchcaaGreat
