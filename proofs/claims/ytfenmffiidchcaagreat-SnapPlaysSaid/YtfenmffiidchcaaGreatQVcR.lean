/- Part of the proof (my own). -/
import Derived.Test.YtfenmffiidchcaaGreatQTab
namespace Go.Proofs.YtfenmffiidchcaaGreat
set_option linter.unusedVariables false
set_option maxRecDepth 100000
open Go.RowKit
variable (a b c d e f g h j k l m n o p : Value) (w : World) (R : Value -> World -> Prop)
def Nw:Prop:=zd a λh=>∃(I:IW) (μ:IM),I [(.int .u32 0),(ai 0)] w /\∀(d b:Value) c,I [d,b] c -> aF .lss b h (ze 1 a b λj=>cI j c λk=>aw 359 [d,k] c λe f=>zc .add b (ai 1) λg=>I [e,g] f/\μ [e,g] f<μ [d,b] c) (R d c)
theorem dIw(h:Nw a w R):aw 330 [a] w R:=VJ [(3,[3,8],[6,7])] [] Tryz.func330 h
def NG:Prop:=Qt a λj=>zd b λk=>∃(I:IW) (μ:IM),I [j,(ai 0)] w /\∀(e c:Value) d,I [e,c] d -> aF .lss c k (ze 1 b c λl=>cI l d λm=>aw 372 [e,m] d λf g=>zc .add c (ai 1) λh=>I [f,h] g/\μ [f,h] g<μ [e,c] d) (Qt e λn=>R n d)
theorem dI6(h:NG a b w R):aw 359 [a,b] w R:=VJ [(3,[5,12],[10,11])] [] Tryz.func359 h
def NJ:Prop:=zG .u32 b λk=>zc .xor a k λl=>∃(I:IW) (μ:IM),I [l,(ai 0)] w /\∀(d:Value) (e:Value) c,I [d,e] c -> aF .lss e (ai 8) (zc .and d (.int .u32 1) λm=>zc .eql m (.int .u32 1) λn=>zc .shr d (.int .u64 1) λf=>g9 n (zc .xor f (.int .u32 3988292384) λg=>zc .add e (ai 1) λh=>I [g,h] c/\μ [g,h] c<μ [d,e] c) (zc .add e (ai 1) λj=>I [f,j] c/\μ [f,j] c<μ [d,e] c)) (R d c)
theorem dI9(h:NJ a b w R):aw 372 [a,b] w R:=VJ [(3,[0,10],[])] [] Tryz.func372 h
def L4:Prop:=zd a λj=>aF .gtr j (ai 1048576) (R (.tuple #[bR,(ai 1)]) w) (aw 289 [a] w λk l=>zk [bR,bR] 377 l λb m=>zl 2 b k m λn=>zj n λc=>zq 0 b λo=>zh 1 o c λp=>zq 1 b λe=>cI e c λf=>zq 0 b λq=>zq 0 q λg=>cI g c λh=>aw 291 [p] c λr d=>aW e d f <| aW g d h <| zm (cW [bR] 3) [(0,1,r),(1,1,f),(2,1,h)] 62 3 d λs t=>aw 290 [s] t λu v=>R (.tuple #[u,(ai 0)]) v)
theorem dwb(h:L4 a w R):aw 231 [a] w R:=dF Tryz.func231 h
def MN:Prop:=∃(I:IW) (μ:IM),I [bR,(ai 0)] w /\∀(c b:Value) d,I [c,b] d -> iQ 1 a (some b) none none λk=>aw 281 [k] d λe f=>zf 0 e λl=>zf 1 e λm=>zf 2 e λn=>aF .neq n (ai 0) (R (.tuple #[c,b]) f) (zm (cW [bR] 1) [(0,1,l)] 62 1 f λo p=>zr 1 24 [bR] 62 c o p λg h=>zc .add b m λj=>I [g,j] h/\μ [g,j] h<μ [c,b] d)
theorem dFj(h:MN a w R):aw 279 [a] w R:=VJ [(3,[4,5],[0])] [] Tryz.func279 h
def MQ:Prop:=zd a λg=>aF .lss g (ai 8) (R (.tuple #[bR,(ai 0),(ai 2)]) w) (zj w λb=>ze 1 a (ai 0) λh=>cI h b λj=>zG .i64 j λk=>zc .shl k (.int .u64 24) λl=>ze 1 a (ai 1) λm=>cI m b λn=>zG .i64 n λo=>zc .shl o (.int .u64 16) λp=>zc .or l p λq=>ze 1 a (ai 2) λr=>cI r b λs=>zG .i64 s λt=>zc .shl t (.int .u64 8) λu=>zc .or q u λv=>ze 1 a (ai 3) λx=>cI x b λy=>zG .i64 y λz=>zc .or v z λc=>aF .gtr c (ai 1048576) (R (.tuple #[bR,(ai 0),(ai 3)]) b) (zd a λA=>zc .add (ai 8) c λB=>aF .lss A B (R (.tuple #[bR,(ai 0),(ai 2)]) b) (zc .add (ai 8) c λC=>iQ 1 a (some (ai 8)) (some C) none λD=>aw 289 [D] b λE G=>zk [bR,bR] 377 G λd H=>zl 2 d E H λJ=>zj J λf=>a_ 1 d f λK=>iQ 1 a (some (ai 4)) (some (ai 8)) none λL=>aw 325 [K,L] f λM e=>dW M (R (.tuple #[bR,(ai 0),(ai 4)]) e) (zq 0 d λN=>a_ 0 N e λO=>aw 156 [O] e λP Q=>zc .add (ai 8) c λS=>R (.tuple #[P,S,(ai 0)]) Q))))
theorem dFm(h:MQ a w R):aw 281 [a] w R:=dF Tryz.func281 h
def MZ:Prop:=zk [bR,bR] 377 w λe l=>zo [bR] [(0,1,a)] λm=>zk [bR] 375 l λb n=>zl 1 b m n λo=>zj o λd=>zh 1 b d λc=>zh 1 b d λp=>aw 291 [p] d λq f=>zh 1 b f λs=>s=c /\zm (cW [bR] 2) [(0,1,q),(1,1,a)] 62 2 f λt g=>zh 1 b g λu=>u=c /\aw 330 [t] g λv h=>zh 1 b h λx=>x=c /\aw 329 [v] h λy j=>zh 1 b j λz=>z=c /\zo [bR,bR] [(0,1,c),(1,1,y)] λA=>zl 2 e A j λk=>zh 2 e k λr=>R r k
theorem dFu(h:MZ a w R):aw 289 [a] w R:=dF Tryz.func289 h
def M1:Prop:=∃b:List Value,a= .agg b.toArray/\zk b 375 w λd c=>a_ 0 d c λe=>zd e λf=>zG .u32 f λg=>aw 329 [g] c λh j=>R h j
theorem dFw(h:M1 a w R):aw 291 [a] w R:=dF Tryz.func291 h
def Nu:Prop:=zc .shr a (.int .u64 24) λb=>zG .u8 b λc=>zc .shr a (.int .u64 16) λd=>zG .u8 d λe=>zc .shr a (.int .u64 8) λf=>zG .u8 f λg=>zG .u8 a λh=>zm (cW [.int .u8 0] 4) [(0,1,c),(1,1,e),(2,1,g),(3,1,h)] 5 4 w λj k=>R j k
theorem dIu(h:Nu a w R):aw 329 [a] w R:=dF Tryz.func329 h
def KP:Prop:=zo [bR,ai 0] [(0,1,a)] λs=>∃l:List Value,s= .agg l.toArray/\zk l 327 w λb t=>∃I:IW,(aw 236 [b,(ai 32767)] t λu v=>∃(j:IW) (μ:IM),j [bR,u] v /\∀(e f:Value) c,j [e,f] c -> aF .gtr f (ai 0) (bF 1 b c λx=>aF .eql x (ai 0) (aw 237 [b] c λy z=>zm (cW [ai 0,ai 0,dw] 1) [(0,3,y)] 174 1 z λA B=>zr 3 32 [ai 0,ai 0,dw] 174 e A B λm n=>zc .sub f (ai 1) λo=>j [m,o] n/\μ [m,o] n<μ [e,f] c) (I [e] c)) (I [e] c)) /\∀(p:Value) d,I [p] d -> ∃g:IW,(bF 1 b d λC=>aF .eql C (ai 0) (bF 0 b d λD=>zd D λE=>aF .gtr E (ai 0) (fR 1 b (ai 3) d λG=>g [] G) (g [] d)) (g [] d)) /\∀h,g [] h -> bF 1 b h λH=>aF .neq H (ai 0) (zj h λk=>d_ 1 b λq=>cI q k λr=>aW q k r <| R (.tuple #[bR,r]) k) (R (.tuple #[p,(ai 0)]) h)
theorem cR7(h:KP a w R):aw 157 [a] w R:=VJ [(4,[5,6],[4])] [(7,[5],[4]),(9,[],[4,5])] Tryz.func157 h
def LY:Prop:=zd a λu=>aF .gtr u (ai 32767) (R (.tuple #[bR,(ai 1)]) w) (zd a λv=>zG .u64 v λx=>aw 284 [bR,x,(ai 2)] w λy z=>zd a λA=>∃(I:IW) (μ:IM),I [y,(ai 0)] z /\∀(e b:Value) d,I [e,b] d -> aF .lss b A (ze 3 a b λB=>zh 3 B d λC=>zk [ai 0,ai 0,dw] 174 d λc D=>zl 3 c C D λj=>zh 3 c j λE=>aw 285 [E] j λG g=>dW G (R (.tuple #[bR,(ai 1)]) g) (a_ 0 c g λH=>zG .u8 H λJ=>zm (cW [.int .u8 0] 1) [(0,1,J)] 5 1 g λK L=>zr 1 1 [.int .u8 0] 5 e K L λk f=>a_ 0 c f λM=>aF .eql M (ai 1) (a_ 1 c f λN=>zG .u64 N λO=>aw 284 [k,O,(ai 8)] f λl m=>zc .add b (ai 1) λn=>I [l,n] m/\μ [l,n] m<μ [e,b] d) (zj f λh=>a_ 2 c h λP=>zS P λQ=>zG .u64 Q λS=>zq 2 c λo=>cI o h λp=>aw 284 [k,S,(ai 2)] h λT q=>aW o q p <| zr 1 1 [.int .u8 0] 5 T p q λr s=>zc .add b (ai 1) λt=>I [r,t] s/\μ [r,t] s<μ [e,b] d))) (R (.tuple #[e,(ai 0)]) d))
theorem c_7(h:LY a w R):aw 228 [a] w R:=VJ [(5,[4,16],[14,15])] [] Tryz.func228 h
def L8:Prop:=aw 295 [a,(ai 2)] w λe c=>zG .i64 e λd=>aF .gtr d b (fR 1 a (ai 3) c λf=>R (ai 0) f) (R d c)
theorem dwd(h:L8 a b w R):aw 236 [a,b] w R:=dF Tryz.func236 h
def L9:Prop:=zk [ai 0,ai 0,dw] 174 w λb k=>aw 295 [a,(ai 1)] k λl c=>zG .i64 l λd=>aF .eql d (ai 1) (aw 295 [a,(ai 8)] c λm n=>zG .i64 m λo=>zo [ai 0,ai 0,dw] [(0,1,d),(1,1,o)] λp=>zl 3 b p n λe=>zh 3 b e λr=>R r e) (aF .eql d (ai 2) (aw 236 [a,(ai 4096)] c λq s=>aw 296 [a,q] s λt f=>jZ Tryz.prog (convert 62 9 t) f λu=>zo [ai 0,ai 0,dw] [(0,1,d),(2,1,u)] λv=>zl 3 b v f λg=>zh 3 b g λx=>R x g) (bF 1 a c λy=>aF .eql y (ai 0) (fR 1 a (ai 3) c λz=>zo [ai 0,ai 0,dw] [] λA=>zl 3 b A z λh=>zh 3 b h λB=>R B h) (zo [ai 0,ai 0,dw] [] λC=>zl 3 b C c λj=>zh 3 b j λD=>R D j)))
theorem dwe(h:L9 a w R):aw 237 [a] w R:=dF Tryz.func237 h
def MU:Prop:=zc .sub c (ai 1) λk=>∃(I:IW) (μ:IM),I [a,k] w /\∀(e:Value) (d:Value) f,I [e,d] f -> aF .geq d (ai 0) (zc .mul (ai 8) d λl=>zc .shr b l λm=>zG .u8 m λn=>zm (cW [.int .u8 0] 1) [(0,1,n)] 5 1 f λo p=>zr 1 1 [.int .u8 0] 5 e o p λg h=>zc .sub d (ai 1) λj=>I [g,j] h/\μ [g,j] h<μ [e,d] f) (R e f)
theorem dFp(h:MU a b c w R):aw 284 [a,b,c] w R:=VJ [(2,[0,7],[1])] [] Tryz.func284 h
def MV:Prop:=∃d:List Value,a= .agg d.toArray/\zk d 174 w λc b=>a_ 0 c b λe=>aF .eql e (ai 1) (a_ 2 c b λf=>zc .eql f (.string {data:=#[]}) λg=>R g b) (aF .eql e (ai 2) (a_ 1 c b λh=>aF .eql h (ai 0) (a_ 2 c b λj=>zS j λk=>zc .leq k (ai 4096) λl=>R l b) (cw R b)) (cw R b))
theorem dFq(h:MV a w R):aw 285 [a] w R:=dF Tryz.func285 h
def M3:Prop:=aw 296 [a,b] w λf j=>zd f λk=>∃(I:IW) (μ:IM),I [(.int .u64 0),(ai 0)] j /\∀(e d:Value) c,I [e,d] c -> aF .lss d k (ze 1 f d λl=>cI l c λm=>zc .shl e (.int .u64 8) λn=>zG .u64 m λo=>zc .or n o λg=>zc .add d (ai 1) λh=>I [g,h] c/\μ [g,h] c<μ [e,d] c) (R e c)
theorem dFx(h:M3 a b w R):aw 295 [a,b] w R:=VJ [(3,[5,12],[10,11])] [] Tryz.func295 h
def M4:Prop:=∃I:IW,(bF 1 a w λd=>aF .eql d (ai 0) (bF 0 a w λe=>zd e λf=>aF .lss f b (fR 1 a (ai 2) w λg=>I [] g) (I [] w)) (I [] w)) /\∀c,I [] c -> bF 1 a c λh=>aF .neq h (ai 0) (R bR c) (bF 0 a c λj=>iQ 1 j none (some b) none λk=>bF 0 a c λl=>iQ 1 l (some b) none none λm=>fR 0 a m c λn=>R k n)
theorem dFy(h:M4 a b w R):aw 296 [a,b] w R:=VJ [] [(3,[],[0,1])] Tryz.func296 h
def LM:Prop:=aw 279 [a] w λf l=>zf 0 f λm=>zf 1 f λn=>zo [bR,ai 0] [(0,1,m),(1,1,n)] λo=>zo [bR,ai 0,ai 0] [(0,2,o)] λp=>∃g:List Value,p= .agg g.toArray/\zk g 371 l λc q=>aw 280 [c] q λr h=>dW r (R (.tuple #[(ai 0),bR,(ai 0),(ai 3)]) h) (zj h λb=>bF 2 c b λs=>d_ 0 c λt=>zq 0 t λj=>cI j b λk=>iQ 1 k (some (ai 1)) none none λu=>d_ 0 c λv=>zq 1 v λd=>cI d b λe=>aW j b k <| aW d b e <| aW d b e <| R (.tuple #[s,u,e,(ai 0)]) b)
theorem c_w(h:LM a w R):aw 218 [a] w R:=dF Tryz.func218 h
def MP:Prop:=d_ 0 a λe=>a_ 0 e w λf=>zd f λg=>aF .eql g (ai 0) (cw R w) (d_ 0 a λh=>a_ 0 h w λj=>ze 1 j (ai 0) λk=>cI k w λl=>aw 157 [l] w λd b=>zf 0 d λc=>zf 1 d λm=>aF .neq m (ai 0) (cw R b) (zd c λn=>aF .neq n (ai 1) (cw R b) (ze 3 c (ai 0) λo=>a_ 0 o b λp=>aF .neq p (ai 1) (cw R b) (ze 3 c (ai 0) λq=>a_ 1 q b λr=>aF .lss r (ai 1) (cw R b) (ze 3 c (ai 0) λs=>a_ 1 s b λt=>aF .gtr t (ai 1099511627776) (cw R b) (ze 3 c (ai 0) λu=>a_ 1 u b λv=>fR 2 a v b λx=>R (.bool true) x))))))
theorem dFl(h:MP a w R):aw 280 [a] w R:=dF Tryz.func280 h
def Nt:Prop:=aF .lss a (ai 1) (R (.tuple #[bR,(ai 1)]) w) (aF .gtr a (ai 1099511627776) (R (.tuple #[bR,(ai 1)]) w) (zo [ai 0,ai 0,dw] [(0,1,(ai 1)),(1,1,a)] λf=>zm (cW [ai 0,ai 0,dw] 1) [(0,3,f)] 174 1 w λg h=>aw 228 [g] h λb c=>zf 0 b λj=>zf 1 b λd=>aF .neq d (ai 0) (R (.tuple #[bR,d]) c) (aw 231 [j] c λe k=>zf 0 e λl=>zf 1 e λm=>R (.tuple #[l,m]) k)))
theorem dIt(h:Nt a w R):aw 328 [a] w R:=dF Tryz.func328 h
def M0:Prop:=zd a λp=>∃(I:IW) (μ:IM),I [(ai 0),(ai 0)] w /\∀(f c:Value) b,I [f,c] b -> aF .lss c p (ze 1 a c λq=>cI q b λr=>zd r λs=>zc .add f s λh=>aF .lss h (ai 0) (False) (zc .add c (ai 1) λk=>I [h,k] b/\μ [h,k] b<μ [f,c] b)) (aw 331 [bR,f] b λt u=>zd a λv=>∃(j:IW) (l:IM),j [t,(ai 0)] u /\∀(g d:Value) e,j [g,d] e -> aF .lss d v (ze 1 a d λx=>cI x e λy=>zr 1 1 [.int .u8 0] 5 g y e λm n=>zc .add d (ai 1) λo=>j [m,o] n/\l [m,o] n<l [g,d] e) (R g e))
theorem dFv(h:M0 a w R):aw 290 [a] w R:=VJ [(3,[3,11],[0,9,10]),(11,[6,27],[25,26])] [] Tryz.func290 h
def Nr:Prop:=zd a λg=>zd b λh=>aF .neq g h (cw R w) (zd a λj=>∃(I:IW) (μ:IM),I [(ai 0)] w /\∀(c:Value) e,I [c] e -> aF .lss c j (zj e λd=>ze 1 a c λk=>cI k d λl=>ze 1 b c λm=>cI m d λn=>aF .neq l n (cw R d) (zc .add c (ai 1) λf=>I [f] d/\μ [f] d<μ [c] e)) (R (.bool true) e))
theorem dIq(h:Nr a b w R):aw 325 [a,b] w R:=VJ [(4,[13],[0,1,12])] [] Tryz.func325 h
def Nx:Prop:=aF .lss b (ai 0) (False) (jZ Tryz.prog (Builtin.cap_ #[62] 3 [a].toArray) w λd=>zd a λe=>zc .sub d e λf=>zc .sub b f λc=>aF .gtr c (ai 0) (jZ Tryz.prog (Builtin.cap_ #[62] 3 [a].toArray) w λg=>iQ 1 a none (some g) none λh=>z7 Tryz.prog (Builtin.append_ #[62,3] 62 #[h,c]) w λj k=>zd a λl=>iQ 1 j none (some l) none λm=>R m k) (R a w))
theorem dIx(h:Nx a b w R):aw 331 [a,b] w R:=dF Tryz.func331 h
end Go.Proofs.YtfenmffiidchcaaGreat
