/- Part of the proof (my own). -/
import Derived.Test.YtfenmffiidchcaaGreatQTab
namespace Go.Proofs.YtfenmffiidchcaaGreat
set_option linter.unusedVariables false
set_option maxRecDepth 100000
open Go.RowKit
variable (a b c d e f g h j k l m n o p : Value) (w : World) (R : Value → World → Prop)
def Vc11(w:World)(R:Value→World→Prop):Prop:=zt [.map none,.bool false,.int .i64 0,.int .i64 0] [(0,1,(.map (some w.heap.size)))] λb=>∃a:List Value,b= .agg a.toArray∧zl a 129 (w.alloc (.map #[] 0)) λc d=>R c d
theorem vc11(h:Vc11 w R):HCl 11 [] w R:=VJ [] [] Tryz.func11 h
def Vc15(a b:Value)(w:World)(R:Value→World→Prop):Prop:=YJ b (.int .i64 0) λc=>zf a λd=>ze 2 d λe=>HSt e c w λf=>R (.tuple #[]) f
theorem vc15(h:Vc15 a b w R):HCl 15 [a,b] w R:=VJ [] [] Tryz.func15 h
def Vc20(d g:Value)(w:World)(R:Value→World→Prop):Prop:=HCl 67 [d] w λj o=>zg j λp=>∃(I:IW) (μ:IM),I [(.int .i64 0)] o ∧∀(b:Value) a,I [b] a → zc .lss b p λq=>HIf q (zj 1 j b λr=>HLd r a λs=>zf d λt=>ze 0 t λu=>HLd u a λv=>HRq Tryz.prog (Instr.lookup 127 v s false) a λc=>∃e:IW,(zg g λx=>zc .lss b x λy=>HIf y (zj 1 g b λz=>HLd z a λA=>zc .gtr A (.int .i64 0) λB=>HIf B (zm a λf=>zj 1 g b λC=>HLd C f λD=>zf c λE=>ze 0 E λG=>HLd G f λH=>zg H λJ=>zf c λK=>ze 1 K λL=>HLd L f λM=>zc .sub J M λN=>zc .add N (.int .i64 1) λO=>zc .rem D O λP=>e [P] f) (e [(.int .i64 0)] a)) (e [(.int .i64 0)] a)) ∧∀(k:Value) h,e [k] h → zf c λQ=>ze 1 Q λS=>HLd S h λT=>zc .add T k λU=>HCl 68 [c,U] h λι l=>zf c λV=>ze 0 V λX=>HLd X l λY=>zg Y λZ=>zf c λα=>ze 1 α λβ=>HSt β Z l λm=>zc .add b (.int .i64 1) λn=>I [n] m∧μ [n] m<μ [b] a) (zf d λγ=>ze 1 γ λδ=>HSt δ (.bool false) a λε=>zf d λζ=>ze 2 ζ λη=>HSt η (.int .i64 0) ε λθ=>R (.tuple #[]) θ)
theorem vc20(h:Vc20 a b w R):HCl 20 [a,b] w R:=VJ [(1,[11],[0,1,9,10])] [(7,[7],[0,1,6,9,10,11])] Tryz.func20 h
def Vc34(b c f:Value)(w:World)(R:Value→World→Prop):Prop:=HCl 96 [b,c] w λg a=>zc .neq g (.int .i64 0) λl=>HIf l (R g a) (zf b λm=>ze 0 m λn=>HLd n a λo=>HRq Tryz.prog (Instr.lookup 127 o c false) a λd=>HEq (.pointer 142) false d (.pointer none) λp=>HIf p (zt [.slice none 0 0,.int .i64 0] [] λq=>∃h:List Value,q= .agg h.toArray∧zl h 142 a λe j=>zf b λr=>ze 0 r λs=>HLd s j λt=>zE Tryz.prog (do Instr.mapUpdate 127 t c e;pure undef) j λu k=>zf e λv=>ze 0 v λx=>HLd x k λy=>zs 1 1 [.int .u8 0] 5 y f k λz A=>zf e λB=>ze 0 B λC=>HSt C z A λD=>HCl 97 [b] D λE G=>R E G) (zf d λH=>ze 0 H λJ=>HLd J a λK=>zs 1 1 [.int .u8 0] 5 K f a λL M=>zf d λN=>ze 0 N λO=>HSt O L M λP=>HCl 97 [b] P λQ S=>R Q S))
theorem vc34(h:Vc34 a b c w R):HCl 34 [a,b,c] w R:=VJ [] [] Tryz.func34 h
def Vc64(a:Value)(w:World)(R:Value→World→Prop):Prop:=zf a λb=>ze 1 b λc=>HLd c w λd=>R d w
theorem vc64(h:Vc64 a w R):HCl 64 [a] w R:=VJ [] [] Tryz.func64 h
def Vc67(a:Value)(w:World)(R:Value→World→Prop):Prop:=zf a λb=>ze 0 b λc=>HLd c w λd=>HCl 155 [d] w λe f=>HCl 154 [e] f λg h=>R g h
theorem vc67(h:Vc67 a w R):HCl 67 [a] w R:=VJ [] [] Tryz.func67 h
def Vc68(a b:Value)(w:World)(R:Value→World→Prop):Prop:=zf a λd=>ze 0 d λe=>HLd e w λf=>HSl 1 f none (some b) none λg=>HCl 156 [g] w λh j=>zf a λk=>ze 0 k λl=>HSt l h j λc=>zf a λm=>ze 1 m λn=>HLd n c λo=>Z8 o b λp=>zf a λq=>ze 1 q λr=>HSt r p c λs=>R (.tuple #[]) s
theorem vc68(h:Vc68 a b w R):HCl 68 [a,b] w R:=VJ [] [] Tryz.func68 h
def Vc96(b a:Value)(w:World)(R:Value→World→Prop):Prop:=zf b λc=>ze 1 c λd=>HLd d w λe=>HIf e (R (.int .i64 8) w) (zc .lss a (.int .i64 0) λf=>HIf f (R (.int .i64 1) w) (zc .geq a (.int .i64 16384) λg=>HIf g (R (.int .i64 1) w) (R (.int .i64 0) w)))
theorem vc96(h:Vc96 a b w R):HCl 96 [a,b] w R:=VJ [] [] Tryz.func96 h
def Vc97(a:Value)(w:World)(R:Value→World→Prop):Prop:=zf a λe=>ze 3 e λf=>HLd f w λg=>zc .add g (.int .i64 1) λh=>zf a λj=>ze 3 j λk=>HSt k h w λb=>zf a λl=>ze 2 l λm=>HLd m b λn=>zc .gtr n (.int .i64 0) λo=>HIf o (zf a λp=>ze 2 p λq=>HLd q b λr=>zc .sub r (.int .i64 1) λs=>zf a λt=>ze 2 t λu=>HSt u s b λd=>zf a λv=>ze 2 v λx=>HLd x d λy=>zc .eql y (.int .i64 0) λz=>zf a λA=>ze 1 A λB=>HSt B z d λc=>zf a λC=>ze 1 C λD=>HLd D c λE=>HIf E (R (.int .i64 8) c) (R (.int .i64 0) c)) (zf a λG=>ze 1 G λH=>HLd H b λJ=>HIf J (R (.int .i64 8) b) (R (.int .i64 0) b))
theorem vc97(h:Vc97 a w R):HCl 97 [a] w R:=VJ [] [] Tryz.func97 h
def Vc103(b c:Value)(w:World)(R:Value→World→Prop):Prop:=zf b λd=>ze 0 d λe=>HLd e w λf=>HRq Tryz.prog (Instr.lookup 127 f c false) w λa=>HEq (.pointer 142) false a (.pointer none) λg=>HIf g (R (.tuple #[(.slice none 0 0),(.bool false)]) w) (zf a λh=>ze 0 h λj=>HLd j w λk=>HCl 156 [k] w λl m=>R (.tuple #[l,(.bool true)]) m)
theorem vc103(h:Vc103 a b w R):HCl 103 [a,b] w R:=VJ [] [] Tryz.func103 h
def Vc149(b c:Value)(w:World)(R:Value→World→Prop):Prop:=zf b λd=>ze 0 d λe=>HLd e w λf=>HRq Tryz.prog (Instr.lookup 127 f c false) w λa=>HEq (.pointer 142) true a (.pointer none) λg=>HIf g (zf a λh=>ze 0 h λj=>HLd j w λk=>zg k λl=>R l w) (R (.int .i64 (-1)) w)
theorem vc149(h:Vc149 a b w R):HCl 149 [a,b] w R:=VJ [] [] Tryz.func149 h
def Vc150(h l c:Value)(w:World)(R:Value→World→Prop):Prop:=HCl 232 [h,l] w λj a=>zi 0 j λe=>zi 1 j λf=>∃I:IW,(zc .eql f (.int .i64 0) λm=>HIf m (zc .lss c (.int .i64 0) λn=>HIf n (I [(.int .i64 1)] a) (zf e λo=>ze 0 o λp=>HLd p a λq=>zg q λr=>zc .gtr c r λs=>HIf s (I [(.int .i64 1)] a) (I [f] a))) (I [f] a)) ∧∀(b:Value) d,I [b] d → zc .eql b (.int .i64 0) λt=>HIf t (HCl 97 [h] d λg k=>zc .eql g (.int .i64 0) λu=>HIf u (HCl 68 [e,c] k λz v=>R g v) (R g k)) (zc .eql b (.int .i64 0) λx=>HIf x (HCl 68 [e,c] d λA y=>R b y) (R b d))
theorem vc150(h:Vc150 a b c w R):HCl 150 [a,b,c] w R:=VJ [] [(4,[8],[0,2,7])] Tryz.func150 h
def Vc151(f h:Value)(w:World)(R:Value→World→Prop):Prop:=HCl 232 [f,h] w λg a=>zi 0 g λb=>zi 1 g λc=>zc .eql c (.int .i64 0) λj=>HIf j (HCl 97 [f] a λd e=>zc .eql d (.int .i64 0) λk=>HIf k (zf b λl=>ze 0 l λm=>HLd m e λn=>zg n λo=>zf b λp=>ze 1 p λq=>HSt q o e λr=>R d r) (R d e)) (zc .eql c (.int .i64 0) λs=>HIf s (zf b λt=>ze 0 t λu=>HLd u a λv=>zg v λx=>zf b λy=>ze 1 y λz=>HSt z x a λA=>R c A) (R c a))
theorem vc151(h:Vc151 a b w R):HCl 151 [a,b] w R:=VJ [] [] Tryz.func151 h
def Vc153(a d:Value)(w:World)(R:Value→World→Prop):Prop:=HCl 232 [a,d] w λg b=>zi 0 g λt=>zi 1 g λc=>zc .eql c (.int .i64 0) λh=>HIf h (HCl 97 [a] b λe f=>zc .eql e (.int .i64 0) λj=>HIf j (zf a λk=>ze 0 k λl=>HLd l f λm=>zE Tryz.prog (Builtin.delete_ #[127,3] 0 [m,d].toArray) f λu n=>R e n) (R e f)) (zc .eql c (.int .i64 0) λo=>HIf o (zf a λp=>ze 0 p λq=>HLd q b λr=>zE Tryz.prog (Builtin.delete_ #[127,3] 0 [r,d].toArray) b λu_1 s=>R c s) (R c b))
theorem vc153(h:Vc153 a b w R):HCl 153 [a,b] w R:=VJ [] [] Tryz.func153 h
def Vc232(b c:Value)(w:World)(R:Value→World→Prop):Prop:=HCl 96 [b,c] w λd a=>zc .neq d (.int .i64 0) λf=>HIf f (R (.tuple #[(.pointer none),d]) a) (zf b λg=>ze 0 g λh=>HLd h a λj=>HRq Tryz.prog (Instr.lookup 127 j c false) a λe=>HEq (.pointer 142) false e (.pointer none) λk=>HIf k (R (.tuple #[(.pointer none),(.int .i64 5)]) a) (R (.tuple #[e,(.int .i64 0)]) a))
theorem vc232(h:Vc232 a b w R):HCl 232 [a,b] w R:=VJ [] [] Tryz.func232 h
def Vc24(g h:Value)(w:World)(R:Value→World→Prop):Prop:=∃e:List Value,g= .agg e.toArray∧zl e 39 w λb j=>∃f:List Value,h= .agg f.toArray∧zl f 39 j λc a=>ze 0 b λk=>HLd k a λl=>ze 0 c λm=>HLd m a λn=>zc .eql l n λo=>HIf o (ze 1 b λp=>HLd p a λq=>ze 1 c λr=>HLd r a λs=>zc .eql q s λt=>HIf t (ze 4 b λu=>HLd u a λv=>ze 4 c λx=>HLd x a λy=>zc .eql v y λz=>HIf z (ze 2 b λA=>HLd A a λB=>ze 2 c λC=>HLd C a λD=>HCl 73 [B,D] a λE d=>HIf E (ze 3 b λG=>HLd G d λH=>ze 3 c λJ=>HLd J d λK=>HCl 74 [H,K] d λL M=>R L M) (R (.bool false) d)) (R (.bool false) a)) (R (.bool false) a)) (R (.bool false) a)
theorem vc24(h:Vc24 a b w R):HCl 24 [a,b] w R:=VJ [] [] Tryz.func24 h
def Vc26(a b:Value)(w:World)(R:Value→World→Prop):Prop:=HCl 79 [a,b,(.func (.func 80) #[] #[])] w λc d=>R c d
theorem vc26(h:Vc26 a b w R):HCl 26 [a,b] w R:=VJ [] [] Tryz.func26 h
def Vc73(a b:Value)(w:World)(R:Value→World→Prop):Prop:=HCl 164 [a,b,(.func (.func 165) #[] #[])] w λc d=>R c d
theorem vc73(h:Vc73 a b w R):HCl 73 [a,b] w R:=VJ [] [] Tryz.func73 h
def Vc74(a b:Value)(w:World)(R:Value→World→Prop):Prop:=HCl 166 [a,b,(.func (.func 167) #[] #[])] w λc d=>R c d
theorem vc74(h:Vc74 a b w R):HCl 74 [a,b] w R:=VJ [] [] Tryz.func74 h
def Vc79(c f h:Value)(w:World)(R:Value→World→Prop):Prop:=zg c λj=>zg f λk=>zc .neq j k λl=>HIf l (R (.bool false) w) (∃(I:IW) (μ:IM),I [(.int .i64 0)] w ∧∀(a:Value) b,I [a] b → zg c λm=>zc .lss a m λn=>HIf n (zm b λd=>zj 2 c a λo=>zk 2 o d λp=>zj 2 f a λq=>zk 2 q d λr=>ye Tryz.prog Tcall h [p,r] d λs e=>zw s λt=>HIf t (R (.bool false) e) (zc .add a (.int .i64 1) λg=>I [g] e∧μ [g] e<μ [a] b)) (R (.bool true) b))
theorem vc79(h:Vc79 a b c w R):HCl 79 [a,b,c] w R:=VJ [(4,[7],[0,1,2])] [] Tryz.func79 h
def Vc80(d e:Value)(w:World)(R:Value→World→Prop):Prop:=∃b:List Value,d= .agg b.toArray∧zl b 52 w λf g=>∃c:List Value,e= .agg c.toArray∧zl c 52 g λh a=>zk 2 f a λj=>zk 2 h a λk=>Yi Tryz.prog 52 false j k a λl=>R l a
theorem vc80(h:Vc80 a b w R):HCl 80 [a,b] w R:=VJ [] [] Tryz.func80 h
def Vc164(c f h:Value)(w:World)(R:Value→World→Prop):Prop:=zg c λj=>zg f λk=>zc .neq j k λl=>HIf l (R (.bool false) w) (∃(I:IW) (μ:IM),I [(.int .i64 0)] w ∧∀(a:Value) b,I [a] b → zg c λm=>zc .lss a m λn=>HIf n (zm b λd=>zj 4 c a λo=>zk 4 o d λp=>zj 4 f a λq=>zk 4 q d λr=>ye Tryz.prog Tcall h [p,r] d λs e=>zw s λt=>HIf t (R (.bool false) e) (zc .add a (.int .i64 1) λg=>I [g] e∧μ [g] e<μ [a] b)) (R (.bool true) b))
theorem vc164(h:Vc164 a b c w R):HCl 164 [a,b,c] w R:=VJ [(4,[7],[0,1,2])] [] Tryz.func164 h
def Vc165(d e:Value)(w:World)(R:Value→World→Prop):Prop:=∃b:List Value,d= .agg b.toArray∧zl b 82 w λf g=>∃c:List Value,e= .agg c.toArray∧zl c 82 g λh a=>zk 4 f a λj=>zk 4 h a λk=>Yi Tryz.prog 82 false j k a λl=>R l a
theorem vc165(h:Vc165 a b w R):HCl 165 [a,b] w R:=VJ [] [] Tryz.func165 h
def Vc166(c f h:Value)(w:World)(R:Value→World→Prop):Prop:=zg c λj=>zg f λk=>zc .neq j k λl=>HIf l (R (.bool false) w) (∃(I:IW) (μ:IM),I [(.int .i64 0)] w ∧∀(a:Value) b,I [a] b → zg c λm=>zc .lss a m λn=>HIf n (zm b λd=>zj 1 c a λo=>HLd o d λp=>zj 1 f a λq=>HLd q d λr=>ye Tryz.prog Tcall h [p,r] d λs e=>zw s λt=>HIf t (R (.bool false) e) (zc .add a (.int .i64 1) λg=>I [g] e∧μ [g] e<μ [a] b)) (R (.bool true) b))
theorem vc166(h:Vc166 a b c w R):HCl 166 [a,b,c] w R:=VJ [(4,[7],[0,1,2])] [] Tryz.func166 h
def Vc167(a b:Value)(w:World)(R:Value→World→Prop):Prop:=zc .eql a b λc=>R c w
theorem vc167(h:Vc167 a b w R):HCl 167 [a,b] w R:=VJ [] [] Tryz.func167 h
def Vc16(a b:Value)(w:World)(R:Value→World→Prop):Prop:=zD .u64 a λc=>zD .u64 b λd=>zc .rem c d λe=>zD .i64 e λf=>R f w
theorem vc16(h:Vc16 a b w R):HCl 16 [a,b] w R:=VJ [] [] Tryz.func16 h
def Vc17(d h j:Value)(w:World)(R:Value→World→Prop):Prop:=∃(I:IW) (μ:IM),I [(.slice none 0 0),(.int .i64 0)] w ∧∀(c a:Value) b,I [c,a] b → zg d λk=>zc .lss a k λl=>HIf l (zc .lss a j λm=>HIf m (zj 4 d a λn=>zk 4 n b λo=>HCl 60 [o,h] b λp q=>zn (zrow [.int .i64 0,.int .i64 0,.bool false,.string ⟨#[]⟩] 1) [(0,4,p)] 82 1 q λr s=>zs 4 40 [.int .i64 0,.int .i64 0,.bool false,.string ⟨#[]⟩] 82 c r s λe f=>zc .add a (.int .i64 1) λg=>I [e,g] f∧μ [e,g] f<μ [c,a] b) (R c b)) (R c b)
theorem vc17(h:Vc17 a b c w R):HCl 17 [a,b,c] w R:=VJ [(3,[7,8],[0,1,2])] [] Tryz.func17 h
def Vc33(a b:Value)(w:World)(R:Value→World→Prop):Prop:=zD .u64 a λc=>zD .u64 b λd=>zc .rem c d λe=>zD .i64 e λf=>R f w
theorem vc33(h:Vc33 a b w R):HCl 33 [a,b] w R:=VJ [] [] Tryz.func33 h
def Vc60(K t:Value)(w:World)(R:Value→World→Prop):Prop:=∃u:List Value,K= .agg u.toArray∧zl u 82 w λc L=>zl [.int .i64 0,.int .i64 0,.bool false,.string ⟨#[]⟩] 82 L λj M=>∃I:IW,(zm M λf=>ze 0 c λv=>HLd v f λm=>ze 1 c λg=>HLd g f λd=>ze 2 c λb=>HLd b f λa=>(HCl 16 [m,t] f λx k=>HLd g k λN=>N=d ∧HLd b k λO=>O=a ∧(HCl 33 [d,(.int .i64 12)] k λP y=>HLd b y λQ=>Q=a ∧zc .add (.int .i64 1) P λS=>zt [.int .i64 0,.int .i64 0,.bool false,.string ⟨#[]⟩] [(0,1,x),(1,1,S),(2,1,a)] λT=>zl [.int .i64 0,.int .i64 0,.bool false,.string ⟨#[]⟩] 82 y λz A=>HLd b A λU=>U=a ∧zq 4 z T A λV=>I [z] V) ∧(zl [.int .i64 0,.int .i64 0,.bool false,.string ⟨#[]⟩] 82 k λB n=>HLd g n λX=>X=d ∧HLd b n λY=>Y=a ∧HCl 33 [d,(.int .i64 12)] n λZ C=>HLd b C λα=>α=a ∧zc .add (.int .i64 1) Z λβ=>zt [.int .i64 0,.int .i64 0,.bool false,.string ⟨#[]⟩] [(0,1,x),(1,1,β),(2,1,a)] λγ=>zq 4 B γ C λδ=>I [B] δ)) ∧(zl [.int .i64 0,.int .i64 0,.bool false,.string ⟨#[]⟩] 82 f λD l=>HLd v l λε=>ε=m ∧HLd g l λζ=>ζ=d ∧HLd b l λη=>η=a ∧HCl 16 [m,t] l λθ o=>HLd g o λι=>ι=d ∧HLd b o λκ=>κ=a ∧HCl 33 [d,(.int .i64 12)] o λν E=>HLd b E λξ=>ξ=a ∧zc .add (.int .i64 1) ν λπ=>zt [.int .i64 0,.int .i64 0,.bool false,.string ⟨#[]⟩] [(0,1,θ),(1,1,π),(2,1,a)] λρ=>zq 4 D ρ E λσ=>I [D] σ)) ∧∀(h:Value) p,I [h] p → ∃q:IW,(ze 1 c λτ=>HLd τ p λφ=>HCl 33 [φ,(.int .i64 31)] p λχ s=>zc .eql χ (.int .i64 30) λψ=>HIf ψ (ze 1 c λω=>HLd ω s λaa=>HCl 33 [aa,(.int .i64 1099511627776)] s λab ac=>zc .add (.int .i64 1) ab λad=>ze 1 h λae=>HSt ae ad ac λaf=>q [] af) (q [] s)) ∧∀e,q [] e → ze 2 c λag=>HLd ag e λah=>zw ah λaj=>HIf aj (ze 3 c λak=>HLd ak e λal=>HCl 143 [al,(.int .i64 32)] e λam an=>ze 3 h λao=>HSt ao am an λG=>zk 4 h G λap=>zq 4 j ap G λH=>zk 4 j H λr=>R r H) (zk 4 h e λaq=>zq 4 j aq e λJ=>zk 4 j J λar=>R ar J)
theorem vc60(h:Vc60 a b w R):HCl 60 [a,b] w R:=VJ [] [(2,[5],[2,4]),(4,[],[2,4,5])] Tryz.func60 h
def Vc143(a b:Value)(w:World)(R:Value→World→Prop):Prop:=yt a λc=>Z8 c b λd=>HSlS a none (some d) λe=>R e w
theorem vc143(h:Vc143 a b w R):HCl 143 [a,b] w R:=VJ [] [] Tryz.func143 h
def Vc156(a:Value)(w:World)(R:Value→World→Prop):Prop:=HEq (.slice 5) false a (.slice none 0 0) λb=>HIf b (R (.slice none 0 0) w) (zn (zrow [.int .u8 0] 0) [] 5 0 w λc d=>zs 1 1 [.int .u8 0] 5 c a d λe f=>R e f)
theorem vc156(h:Vc156 a w R):HCl 156 [a] w R:=VJ [] [] Tryz.func156 h
def Vc170(a:Value)(w:World)(R:Value→World→Prop):Prop:=HEq (.slice 52) false a (.slice none 0 0) λb=>HIf b (R (.slice none 0 0) w) (zn (zrow [.int .i64 0,.string ⟨#[]⟩] 0) [] 52 0 w λc d=>zs 2 24 [.int .i64 0,.string ⟨#[]⟩] 52 c a d λe f=>R e f)
theorem vc170(h:Vc170 a w R):HCl 170 [a] w R:=VJ [] [] Tryz.func170 h
end Go.Proofs.YtfenmffiidchcaaGreat
