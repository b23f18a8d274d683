/- Part of the proof (my own). -/
import Derived.Test.YtfenmffiidchcaaGreatQTab
namespace Go.Proofs.YtfenmffiidchcaaGreat
set_option linter.unusedVariables false
set_option maxRecDepth 100000
open Go.RowKit
variable (a b c d e f g h j k l m n o p : Value) (w : World) (R : Value -> World -> Prop)
def KE:Prop:=zd a λh=>∃(I:IW) (μ:IM),I [(.int .u32 0),(ai 0)] w /\∀(d b:Value) c,I [d,b] c -> aF .lss b h (zh 1 a b λj=>cR j c λk=>aw 359 [d,k] c λe f=>zc .add b (ai 1) λg=>I [e,g] f/\μ [e,g] f<μ [d,b] c) (R d c)
theorem bW9(h:KE a w R):aw 330 [a] w R:=VJ [(3,[3,8],[6,7])] [] Tryz.func330 h
def KO:Prop:=qy a λj=>zd b λk=>∃(I:IW) (μ:IM),I [j,(ai 0)] w /\∀(e c:Value) d,I [e,c] d -> aF .lss c k (zh 1 b c λl=>cR l d λm=>aw 372 [e,m] d λf g=>zc .add c (ai 1) λh=>I [f,h] g/\μ [f,h] g<μ [e,c] d) (qy e λn=>R n d)
theorem b5j(h:KO a b w R):aw 359 [a,b] w R:=VJ [(3,[5,12],[10,11])] [] Tryz.func359 h
def KR:Prop:=zG .u32 b λk=>zc .xor a k λl=>∃(I:IW) (μ:IM),I [l,(ai 0)] w /\∀(d:Value) (e:Value) c,I [d,e] c -> aF .lss e (ai 8) (zc .and d (.int .u32 1) λm=>zc .eql m (.int .u32 1) λn=>zc .shr d (.int .u64 1) λf=>dO n (zc .xor f (.int .u32 3988292384) λg=>zc .add e (ai 1) λh=>I [g,h] c/\μ [g,h] c<μ [d,e] c) (zc .add e (ai 1) λj=>I [f,j] c/\μ [f,j] c<μ [d,e] c)) (R d c)
theorem b5m(h:KR a b w R):aw 372 [a,b] w R:=VJ [(3,[0,10],[])] [] Tryz.func372 h
def JB:Prop:=zd a λj=>aF .gtr j (ai 1048576) (R (.tuple #[bF,(ai 1)]) w) (aw 289 [a] w λk l=>zk [bF,bF] 377 l λb m=>zl 2 b k m λn=>zi n λc=>zu 0 b λo=>zj 1 o c λp=>zu 1 b λe=>cR e c λf=>zu 0 b λq=>zu 0 q λg=>cR g c λh=>aw 291 [p] c λr d=>cF e d f <| cF g d h <| zn (db [bF] 3) [(0,1,r),(1,1,f),(2,1,h)] 62 3 d λs t=>aw 290 [s] t λu v=>R (.tuple #[u,(ai 0)]) v)
theorem bRc(h:JB a w R):aw 231 [a] w R:=dd Tryz.func231 h
def J7:Prop:=∃(I:IW) (μ:IM),I [bF,(ai 0)] w /\∀(c b:Value) d,I [c,b] d -> eG 1 a (some b) none none λk=>aw 281 [k] d λe f=>ze 0 e λl=>ze 1 e λm=>ze 2 e λn=>aF .neq n (ai 0) (R (.tuple #[c,b]) f) (zn (db [bF] 1) [(0,1,l)] 62 1 f λo p=>zt 1 24 [bF] 62 c o p λg h=>zc .add b m λj=>I [g,j] h/\μ [g,j] h<μ [c,b] d)
theorem bR6(h:J7 a w R):aw 279 [a] w R:=VJ [(3,[4,5],[0])] [] Tryz.func279 h
def J':Prop:=zd a λg=>aF .lss g (ai 8) (R (.tuple #[bF,(ai 0),(ai 2)]) w) (zi w λb=>zh 1 a (ai 0) λh=>cR h b λj=>zG .i64 j λk=>zc .shl k (.int .u64 24) λl=>zh 1 a (ai 1) λm=>cR m b λn=>zG .i64 n λo=>zc .shl o (.int .u64 16) λp=>zc .or l p λq=>zh 1 a (ai 2) λr=>cR r b λs=>zG .i64 s λt=>zc .shl t (.int .u64 8) λu=>zc .or q u λv=>zh 1 a (ai 3) λx=>cR x b λy=>zG .i64 y λz=>zc .or v z λc=>aF .gtr c (ai 1048576) (R (.tuple #[bF,(ai 0),(ai 3)]) b) (zd a λA=>zc .add (ai 8) c λB=>aF .lss A B (R (.tuple #[bF,(ai 0),(ai 2)]) b) (zc .add (ai 8) c λC=>eG 1 a (some (ai 8)) (some C) none λD=>aw 289 [D] b λE G=>zk [bF,bF] 377 G λd H=>zl 2 d E H λJ=>zi J λf=>a_ 1 d f λK=>eG 1 a (some (ai 4)) (some (ai 8)) none λL=>aw 325 [K,L] f λM e=>dc M (R (.tuple #[bF,(ai 0),(ai 4)]) e) (zu 0 d λN=>a_ 0 N e λO=>aw 156 [O] e λP Q=>zc .add (ai 8) c λS=>R (.tuple #[P,S,(ai 0)]) Q))))
theorem bR9(h:J' a w R):aw 281 [a] w R:=dd Tryz.func281 h
def Kg:Prop:=zk [bF,bF] 377 w λe l=>zo [bF] [(0,1,a)] λm=>zk [bF] 375 l λb n=>zl 1 b m n λo=>zi o λd=>zj 1 b d λc=>zj 1 b d λp=>aw 291 [p] d λq f=>zj 1 b f λs=>s=c /\zn (db [bF] 2) [(0,1,q),(1,1,a)] 62 2 f λt g=>zj 1 b g λu=>u=c /\aw 330 [t] g λv h=>zj 1 b h λx=>x=c /\aw 329 [v] h λy j=>zj 1 b j λz=>z=c /\zo [bF,bF] [(0,1,c),(1,1,y)] λA=>zl 2 e A j λk=>zj 2 e k λr=>R r k
theorem bWh(h:Kg a w R):aw 289 [a] w R:=dd Tryz.func289 h
def Ki:Prop:=∃b:List Value,a= .agg b.toArray/\zk b 375 w λd c=>a_ 0 d c λe=>zd e λf=>zG .u32 f λg=>aw 329 [g] c λh j=>R h j
theorem bWj(h:Ki a w R):aw 291 [a] w R:=dd Tryz.func291 h
def KD:Prop:=zc .shr a (.int .u64 24) λb=>zG .u8 b λc=>zc .shr a (.int .u64 16) λd=>zG .u8 d λe=>zc .shr a (.int .u64 8) λf=>zG .u8 f λg=>zG .u8 a λh=>zn (db [.int .u8 0] 4) [(0,1,c),(1,1,e),(2,1,g),(3,1,h)] 5 4 w λj k=>R j k
theorem bW8(h:KD a w R):aw 329 [a] w R:=dd Tryz.func329 h
def IA:Prop:=zo [bF,ai 0] [(0,1,a)] λs=>∃l:List Value,s= .agg l.toArray/\zk l 327 w λb t=>∃I:IW,(aw 236 [b,(ai 32767)] t λu v=>∃(j:IW) (μ:IM),j [bF,u] v /\∀(e f:Value) c,j [e,f] c -> aF .gtr f (ai 0) (bw 1 b c λx=>aF .eql x (ai 0) (aw 237 [b] c λy z=>zn (db [ai 0,ai 0,c_] 1) [(0,3,y)] 174 1 z λA B=>zt 3 32 [ai 0,ai 0,c_] 174 e A B λm n=>zc .sub f (ai 1) λo=>j [m,o] n/\μ [m,o] n<μ [e,f] c) (I [e] c)) (I [e] c)) /\∀(p:Value) d,I [p] d -> ∃g:IW,(bw 1 b d λC=>aF .eql C (ai 0) (bw 0 b d λD=>zd D λE=>aF .gtr E (ai 0) (dx 1 b (ai 3) d λG=>g [] G) (g [] d)) (g [] d)) /\∀h,g [] h -> bw 1 b h λH=>aF .neq H (ai 0) (zi h λk=>df 1 b λq=>cR q k λr=>cF q k r <| R (.tuple #[bF,r]) k) (R (.tuple #[p,(ai 0)]) h)
theorem bFn(h:IA a w R):aw 157 [a] w R:=VJ [(4,[5,6],[4])] [(7,[5],[4]),(9,[],[4,5])] Tryz.func157 h
def Jx:Prop:=zd a λu=>aF .gtr u (ai 32767) (R (.tuple #[bF,(ai 1)]) w) (zd a λv=>zG .u64 v λx=>aw 284 [bF,x,(ai 2)] w λy z=>zd a λA=>∃(I:IW) (μ:IM),I [y,(ai 0)] z /\∀(e b:Value) d,I [e,b] d -> aF .lss b A (zh 3 a b λB=>zj 3 B d λC=>zk [ai 0,ai 0,c_] 174 d λc D=>zl 3 c C D λj=>zj 3 c j λE=>aw 285 [E] j λG g=>dc G (R (.tuple #[bF,(ai 1)]) g) (a_ 0 c g λH=>zG .u8 H λJ=>zn (db [.int .u8 0] 1) [(0,1,J)] 5 1 g λK L=>zt 1 1 [.int .u8 0] 5 e K L λk f=>a_ 0 c f λM=>aF .eql M (ai 1) (a_ 1 c f λN=>zG .u64 N λO=>aw 284 [k,O,(ai 8)] f λl m=>zc .add b (ai 1) λn=>I [l,n] m/\μ [l,n] m<μ [e,b] d) (zi f λh=>a_ 2 c h λP=>zR P λQ=>zG .u64 Q λS=>zu 2 c λo=>cR o h λp=>aw 284 [k,S,(ai 2)] h λT q=>cF o q p <| zt 1 1 [.int .u8 0] 5 T p q λr s=>zc .add b (ai 1) λt=>I [r,t] s/\μ [r,t] s<μ [e,b] d))) (R (.tuple #[e,(ai 0)]) d))
theorem bI8(h:Jx a w R):aw 228 [a] w R:=VJ [(5,[4,16],[14,15])] [] Tryz.func228 h
def JE:Prop:=aw 295 [a,(ai 2)] w λe c=>zG .i64 e λd=>aF .gtr d b (dx 1 a (ai 3) c λf=>R (ai 0) f) (R d c)
theorem bRe(h:JE a b w R):aw 236 [a,b] w R:=dd Tryz.func236 h
def JF:Prop:=zk [ai 0,ai 0,c_] 174 w λb k=>aw 295 [a,(ai 1)] k λl c=>zG .i64 l λd=>aF .eql d (ai 1) (aw 295 [a,(ai 8)] c λm n=>zG .i64 m λo=>zo [ai 0,ai 0,c_] [(0,1,d),(1,1,o)] λp=>zl 3 b p n λe=>zj 3 b e λr=>R r e) (aF .eql d (ai 2) (aw 236 [a,(ai 4096)] c λq s=>aw 296 [a,q] s λt f=>ga Tryz.prog (convert 62 9 t) f λu=>zo [ai 0,ai 0,c_] [(0,1,d),(2,1,u)] λv=>zl 3 b v f λg=>zj 3 b g λx=>R x g) (bw 1 a c λy=>aF .eql y (ai 0) (dx 1 a (ai 3) c λz=>zo [ai 0,ai 0,c_] [] λA=>zl 3 b A z λh=>zj 3 b h λB=>R B h) (zo [ai 0,ai 0,c_] [] λC=>zl 3 b C c λj=>zj 3 b j λD=>R D j)))
theorem bRf(h:JF a w R):aw 237 [a] w R:=dd Tryz.func237 h
def Kb:Prop:=zc .sub c (ai 1) λk=>∃(I:IW) (μ:IM),I [a,k] w /\∀(e:Value) (d:Value) f,I [e,d] f -> aF .geq d (ai 0) (zc .mul (ai 8) d λl=>zc .shr b l λm=>zG .u8 m λn=>zn (db [.int .u8 0] 1) [(0,1,n)] 5 1 f λo p=>zt 1 1 [.int .u8 0] 5 e o p λg h=>zc .sub d (ai 1) λj=>I [g,j] h/\μ [g,j] h<μ [e,d] f) (R e f)
theorem bWc(h:Kb a b c w R):aw 284 [a,b,c] w R:=VJ [(2,[0,7],[1])] [] Tryz.func284 h
def Kc:Prop:=∃d:List Value,a= .agg d.toArray/\zk d 174 w λc b=>a_ 0 c b λe=>aF .eql e (ai 1) (a_ 2 c b λf=>zc .eql f (.string {data:=#[]}) λg=>R g b) (aF .eql e (ai 2) (a_ 1 c b λh=>aF .eql h (ai 0) (a_ 2 c b λj=>zR j λk=>zc .leq k (ai 4096) λl=>R l b) (b7 R b)) (b7 R b))
theorem bWd(h:Kc a w R):aw 285 [a] w R:=dd Tryz.func285 h
def Kj:Prop:=aw 296 [a,b] w λf j=>zd f λk=>∃(I:IW) (μ:IM),I [(.int .u64 0),(ai 0)] j /\∀(e d:Value) c,I [e,d] c -> aF .lss d k (zh 1 f d λl=>cR l c λm=>zc .shl e (.int .u64 8) λn=>zG .u64 m λo=>zc .or n o λg=>zc .add d (ai 1) λh=>I [g,h] c/\μ [g,h] c<μ [e,d] c) (R e c)
theorem bWk(h:Kj a b w R):aw 295 [a,b] w R:=VJ [(3,[5,12],[10,11])] [] Tryz.func295 h
def Kk:Prop:=∃I:IW,(bw 1 a w λd=>aF .eql d (ai 0) (bw 0 a w λe=>zd e λf=>aF .lss f b (dx 1 a (ai 2) w λg=>I [] g) (I [] w)) (I [] w)) /\∀c,I [] c -> bw 1 a c λh=>aF .neq h (ai 0) (R bF c) (bw 0 a c λj=>eG 1 j none (some b) none λk=>bw 0 a c λl=>eG 1 l (some b) none none λm=>dx 0 a m c λn=>R k n)
theorem bWl(h:Kk a b w R):aw 296 [a,b] w R:=VJ [] [(3,[],[0,1])] Tryz.func296 h
def Jm:Prop:=aw 279 [a] w λf l=>ze 0 f λm=>ze 1 f λn=>zo [bF,ai 0] [(0,1,m),(1,1,n)] λo=>zo [bF,ai 0,ai 0] [(0,2,o)] λp=>∃g:List Value,p= .agg g.toArray/\zk g 371 l λc q=>aw 280 [c] q λr h=>dc r (R (.tuple #[(ai 0),bF,(ai 0),(ai 3)]) h) (zi h λb=>bw 2 c b λs=>df 0 c λt=>zu 0 t λj=>cR j b λk=>eG 1 k (some (ai 1)) none none λu=>df 0 c λv=>zu 1 v λd=>cR d b λe=>cF j b k <| cF d b e <| cF d b e <| R (.tuple #[s,u,e,(ai 0)]) b)
theorem bIx(h:Jm a w R):aw 218 [a] w R:=dd Tryz.func218 h
def J9:Prop:=df 0 a λe=>a_ 0 e w λf=>zd f λg=>aF .eql g (ai 0) (b7 R w) (df 0 a λh=>a_ 0 h w λj=>zh 1 j (ai 0) λk=>cR k w λl=>aw 157 [l] w λd b=>ze 0 d λc=>ze 1 d λm=>aF .neq m (ai 0) (b7 R b) (zd c λn=>aF .neq n (ai 1) (b7 R b) (zh 3 c (ai 0) λo=>a_ 0 o b λp=>aF .neq p (ai 1) (b7 R b) (zh 3 c (ai 0) λq=>a_ 1 q b λr=>aF .lss r (ai 1) (b7 R b) (zh 3 c (ai 0) λs=>a_ 1 s b λt=>aF .gtr t (ai 1099511627776) (b7 R b) (zh 3 c (ai 0) λu=>a_ 1 u b λv=>dx 2 a v b λx=>R (.bool true) x))))))
theorem bR8(h:J9 a w R):aw 280 [a] w R:=dd Tryz.func280 h
def KC:Prop:=aF .lss a (ai 1) (R (.tuple #[bF,(ai 1)]) w) (aF .gtr a (ai 1099511627776) (R (.tuple #[bF,(ai 1)]) w) (zo [ai 0,ai 0,c_] [(0,1,(ai 1)),(1,1,a)] λf=>zn (db [ai 0,ai 0,c_] 1) [(0,3,f)] 174 1 w λg h=>aw 228 [g] h λb c=>ze 0 b λj=>ze 1 b λd=>aF .neq d (ai 0) (R (.tuple #[bF,d]) c) (aw 231 [j] c λe k=>ze 0 e λl=>ze 1 e λm=>R (.tuple #[l,m]) k)))
theorem bW7(h:KC a w R):aw 328 [a] w R:=dd Tryz.func328 h
def Kh:Prop:=zd a λp=>∃(I:IW) (μ:IM),I [(ai 0),(ai 0)] w /\∀(f c:Value) b,I [f,c] b -> aF .lss c p (zh 1 a c λq=>cR q b λr=>zd r λs=>zc .add f s λh=>aF .lss h (ai 0) (False) (zc .add c (ai 1) λk=>I [h,k] b/\μ [h,k] b<μ [f,c] b)) (aw 331 [bF,f] b λt u=>zd a λv=>∃(j:IW) (l:IM),j [t,(ai 0)] u /\∀(g d:Value) e,j [g,d] e -> aF .lss d v (zh 1 a d λx=>cR x e λy=>zt 1 1 [.int .u8 0] 5 g y e λm n=>zc .add d (ai 1) λo=>j [m,o] n/\l [m,o] n<l [g,d] e) (R g e))
theorem bWi(h:Kh a w R):aw 290 [a] w R:=VJ [(3,[3,11],[0,9,10]),(11,[6,27],[25,26])] [] Tryz.func290 h
def KA:Prop:=zd a λg=>zd b λh=>aF .neq g h (b7 R w) (zd a λj=>∃(I:IW) (μ:IM),I [(ai 0)] w /\∀(c:Value) e,I [c] e -> aF .lss c j (zi e λd=>zh 1 a c λk=>cR k d λl=>zh 1 b c λm=>cR m d λn=>aF .neq l n (b7 R d) (zc .add c (ai 1) λf=>I [f] d/\μ [f] d<μ [c] e)) (R (.bool true) e))
theorem bW4(h:KA a b w R):aw 325 [a,b] w R:=VJ [(4,[13],[0,1,12])] [] Tryz.func325 h
def KF:Prop:=aF .lss b (ai 0) (False) (ga Tryz.prog (Builtin.cap_ #[62] 3 [a].toArray) w λd=>zd a λe=>zc .sub d e λf=>zc .sub b f λc=>aF .gtr c (ai 0) (ga Tryz.prog (Builtin.cap_ #[62] 3 [a].toArray) w λg=>eG 1 a none (some g) none λh=>zZ Tryz.prog (Builtin.append_ #[62,3] 62 #[h,c]) w λj k=>zd a λl=>eG 1 j none (some l) none λm=>R m k) (R a w))
theorem b5a(h:KF a b w R):aw 331 [a,b] w R:=dd Tryz.func331 h
end Go.Proofs.YtfenmffiidchcaaGreat
