/- Part of the proof. -/
import Derived.Test.YtmkllimamejcgaaGreatQTab
namespace Go.Proofs.YtmkllimamejcgaaGreat
set_option linter.all false
set_option maxRecDepth 100000
open Go.RowKit
variable (a b c d e f g h j k l m n o p : Value) (w : World) (R : Value -> World -> Prop)
def S3:Prop:=aI .geq a (ai 1) (aI .leq a (ai 1073741824) (aI .geq b a (aI .leq b (ai 1073741824) (aI .geq c (ai 0) (zc .leq c (ai 1073741824) λd=>R d w) (cW R w)) (cW R w)) (cW R w)) (cW R w)) (cW R w)
theorem ib0(h:S3 a b c w R):aF 94 [a,b,c] w R:=c_ Tryz.func94 h
def R4:Prop:=aF 94 [b,c,d] w λg f=>gi g (R (ai 0) f) (zj f λh=>y2 e (ai 0) λj=>zc .add d (ai 1) λk=>zc .rem j k λl=>aF 375 [a,b,c] h λm n=>zc .add m l λo=>R o n)
theorem iaa(h:R4 a b c d e w R):aF 345 [a,b,c,d,e] w R:=c_ Tryz.func345 h
def Se:Prop:=y2 a (ai 0) λe=>aF 94 [b,c,(ai 0)] w λf d=>gi f (R (ai 0) d) (aI .gtr e (ai 30) (R c d) (zc .shr c e λg=>aI .gtr b g (R c d) (zc .shl b e λh=>R h d)))
theorem iap(h:Se a b c w R):aF 375 [a,b,c] w R:=c_ Tryz.func375 h
def SD:Prop:=bW 3 a w λb=>R b w
theorem ibc(h:SD a w R):aF 57 [a] w R:=c_ Tryz.func57 h
def SE:Prop:=bW 4 a w λb=>R b w
theorem ibd(h:SE a w R):aF 58 [a] w R:=c_ Tryz.func58 h
def NH:Prop:=bW 4 a w λc=>zc .geq b c λd=>R d w
theorem gFl(h:NH a b w R):aF 107 [a,b] w R:=c_ Tryz.func107 h
def Oa:Prop:=aF 94 [a,b,c] w λf d=>gi f (R (.tuple #[h_,(ai 1)]) d) (zk [ai 0,ai 0,ai 0] [(0,1,a),(1,1,b),(2,1,c)] λg=>zk [ai 0,ai 0,ai 0,ai 0,ai 0] [(0,3,g)] λh=>∃e:List Value,h= .agg e.toArray/\zh e 197 d λj k=>R (.tuple #[j,(ai 0)]) k)
theorem gIg(h:Oa a b c w R):aF 146 [a,b,c] w R:=c_ Tryz.func146 h
def PJ:Prop:=ia 3 a (ai 0) w λb=>ia 4 a (ai 0) b λc=>R (.tuple #[]) c
theorem gW0(h:PJ a w R):aF 240 [a] w R:=c_ Tryz.func240 h
def PK:Prop:=bW 3 a w λf=>zc .add f (ai 1) λg=>ia 3 a g w λh=>zj h λd=>y2 b (ai 0) λj=>ZS j (ai 1125899906842624) λk=>b_ 0 a λl=>ze 3 l d λm=>bW 3 a d λn=>aF 302 [m,n,c] d λo p=>zc .add k o λq=>ia 4 a q p λe=>bW 4 a e λr=>R r e
theorem gW1(h:PK a b c w R):aF 241 [a,b,c] w R:=c_ Tryz.func241 h
def Rw:Prop:=∃f:List Value,a= .agg f.toArray/\zh f 195 w λe d=>a_ 0 e d λg=>a_ 1 e d λh=>a_ 2 e d λj=>aF 345 [b,g,h,j,c] d λk l=>R k l
theorem h_d(h:Rw a b c w R):aF 302 [a,b,c] w R:=c_ Tryz.func302 h
def SK:Prop:=bW 7 a w λc=>aI .gtr c (ai 0) (bW 2 a w λd=>aF 107 [d,b] w λe f=>R e f) (bW 1 a w λg=>bW 0 g w λh=>aF 52 [h] w λj k=>zc .gtr j (ai 0) λl=>R l k)
theorem ibj(h:SK a b w R):aF 65 [a,b] w R:=c_ Tryz.func65 h
def Od:Prop:=aI .lss d (ai 1) (R (.tuple #[h_,(ai 1)]) w) (aI .gtr d (ai 64) (R (.tuple #[h_,(ai 1)]) w) (zk [h_] [(0,1,a)] λf=>zk [h_,h_,h_,ai 0,ai 0,bI,bI,ai 0] [(0,1,f),(1,1,b),(2,1,c),(3,1,d)] λg=>∃e:List Value,g= .agg e.toArray/\zh e 216 w λh j=>R (.tuple #[h,(ai 0)]) j))
theorem gIj(h:Od a b c d w R):aF 149 [a,b,c,d] w R:=c_ Tryz.func149 h
def OJ:Prop:=aF 65 [a,b] w λn d=>gi n (R (.tuple #[(ai 0),(ai 0)]) d) (∃I:IW,(bW 7 a d λo=>aI .eql o (ai 0) (aF 237 [a] d λj k=>aI .neq j (ai 0) (R (.tuple #[(ai 0),j]) k) (I [] k)) (I [] d)) /\∀l,I [] l -> zj l λf=>b_ 0 a λp=>ze 1 p f λq=>b_ 4 a λr=>ze 3 r f λs=>aF 238 [q,s] f λg e=>aI .eql g (ai 0) (zj e λh=>bW 1 a h λt=>bW 7 a h λu=>aF 239 [t,u] h λE m=>bW 2 a m λv=>aF 240 [v] m λG x=>zk [ai 0,bI,bI] [] λy=>b_ 4 a λz=>zi 3 z y x λA=>ia 7 a (ai 0) A λB=>R (.tuple #[(ai 6),(ai 0)]) B) (aI .eql g (ai 9) (bW 2 a e λC=>aF 241 [C,b,c] e λH D=>R (.tuple #[(ai 7),(ai 0)]) D) (R (.tuple #[(ai 0),g]) e)))
theorem gRb(h:OJ a b c w R):aF 176 [a,b,c] w R:=VJ [] [(7,[],[0,1,2])] Tryz.func176 h
def PG:Prop:=∃I:IW,(∃(d:IW) (μ:IM),d [bI] w /\∀(b:Value) c,d [b] c -> zd b λt=>bW 3 a c λu=>aI .lss t u (bW 1 a c λv=>aF 299 [v] c λj k=>zf 0 j λx=>zf 1 j λy=>gi y (I [b] k) (zR Tryz.prog (convert 9 205 x) k λz A=>aF 201 [z] A λl B=>zf 0 l λC=>zf 1 l λm=>zh [ai 0,bI,bI] 214 B λn D=>zi 3 n C D λe=>aI .neq m (ai 0) (R m e) (ze 3 n e λE=>zm (fR [ai 0,bI,bI] 1) [(0,3,E)] 214 1 e λG H=>zx 3 56 [ai 0,bI,bI] 214 b G H λo p=>d [o] p/\μ [o] p<μ [b] c))) (I [b] c)) /\∀(f:Value) q,I [f] q -> aF 300 [f] q λr J=>zf 0 r λK=>zf 1 r λg=>zh [ai 0,bI,bI] 214 J λs L=>zi 3 s K L λh=>aI .eql g (ai 0) (ze 3 s h λM=>zd f λN=>b_ 4 a λO=>zi 3 O M h λP=>ia 7 a N P λQ=>R g Q) (R g h)
theorem gWx(h:PG a w R):aF 237 [a] w R:=VJ [(2,[3],[0])] [(9,[3],[0])] Tryz.func237 h
def PH:Prop:=∃d:List Value,a= .agg d.toArray/\zh d 210 w λf g=>∃e:List Value,b= .agg e.toArray/\zh e 214 g λh c=>a_ 0 f c λj=>ze 3 h c λk=>aF 301 [j,k] c λl m=>R l m
theorem gWy(h:PH a b w R):aF 238 [a,b] w R:=c_ Tryz.func238 h
