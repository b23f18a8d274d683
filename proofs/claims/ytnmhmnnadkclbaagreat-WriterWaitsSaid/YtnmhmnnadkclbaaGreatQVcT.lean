/- Part of the proof (my own). -/
import Derived.Test.YtnmhmnnadkclbaaGreatQTab
namespace Go.Proofs.YtnmhmnnadkclbaaGreat
set_option linter.unusedVariables false
set_option maxRecDepth 100000
open Go.RowKit
def Vc59(a:Value)(w:World)(R:Value→World→Prop):Prop:=zg a λb=>zd 2 b λc=>HLd c w λd=>R d w
theorem vc59(a:Value)(w:World)(R:Value→World→Prop)(h:Vc59 a w R):za Tryz.prog 59 [a] w R:=VV Tryz.func59 (by kernel_rfl) (by kernel_rfl) (by kernel_rfl) h
def Vc142(a:Value)(w:World)(R:Value→World→Prop):Prop:=zg a λb=>zd 0 b λc=>HLd c w λd=>zh d λe=>R e w
theorem vc142(a:Value)(w:World)(R:Value→World→Prop)(h:Vc142 a w R):za Tryz.prog 142 [a] w R:=VV Tryz.func142 (by kernel_rfl) (by kernel_rfl) (by kernel_rfl) h
def Vc143(a h:Value)(w:World)(R:Value→World→Prop):Prop:=zn w λb=>zg a λj=>zd 2 j λk=>HLd k b λl=>zg a λm=>zd 0 m λn=>HLd n b λo=>zh o λp=>zc .eql l p λq=>HIf q (R (.bool false) b) (zn b λc=>zg a λr=>zd 0 r λd=>HLd d c λe=>zg a λs=>zd 2 s λt=>HLd t c λu=>za Tryz.prog 201 [a,u] c λv f=>HLd d f λx=>x=e ∧zk 1 e v λy=>HSt y h f λg=>zg a λz=>zd 2 z λA=>HLd A g λB=>zc .add B (.int .i64 1) λC=>zg a λD=>zd 2 D λE=>HSt E C g λG=>R (.bool true) G)
theorem vc143(a b:Value)(w:World)(R:Value→World→Prop)(h:Vc143 a b w R):za Tryz.prog 143 [a,b] w R:=VV Tryz.func143 (by kernel_rfl) (by kernel_rfl) (by kernel_rfl) h
def Vc193(a:Value)(w:World)(R:Value→World→Prop):Prop:=zc .lss a (.int .i64 1) λc=>HIf c (R (.tuple #[(.pointer none),(.int .i64 1)]) w) (zc .gtr a (.int .i64 64) λd=>HIf d (R (.tuple #[(.pointer none),(.int .i64 1)]) w) (HMk [.string ⟨#[]⟩] 16 9 a a w λe f=>zq [.slice none 0 0,.int .i64 0,.int .i64 0] [(0,1,e)] λg=>∃b:List Value,g= .agg b.toArray∧zl b 246 f λh j=>R (.tuple #[h,(.int .i64 0)]) j))
theorem vc193(a:Value)(w:World)(R:Value→World→Prop)(h:Vc193 a w R):za Tryz.prog 193 [a] w R:=VV Tryz.func193 (by kernel_rfl) (by kernel_rfl) (by kernel_rfl) h
def Vc201(b c:Value)(w:World)(R:Value→World→Prop):Prop:=zn w λa=>zg b λd=>zd 1 d λe=>HLd e a λf=>zc .add f c λg=>zg b λh=>zd 0 h λj=>HLd j a λk=>zh k λl=>zc .rem g l λm=>R m a
theorem vc201(a b:Value)(w:World)(R:Value→World→Prop)(h:Vc201 a b w R):za Tryz.prog 201 [a,b] w R:=VV Tryz.func201 (by kernel_rfl) (by kernel_rfl) (by kernel_rfl) h
def Vc237(a:Value)(w:World)(R:Value→World→Prop):Prop:=za Tryz.prog 268 [a] w λd e=>zm 0 d λf=>zm 1 d λb=>HIf b (zn e λc=>zg a λh=>zd 0 h λj=>HLd j c λk=>zg a λl=>zd 1 l λm=>HLd m c λn=>zk 1 k n λo=>HSt o (.string {data:=#[]}) c λp=>za Tryz.prog 201 [a,(.int .i64 1)] p λq r=>zg a λs=>zd 1 s λt=>HSt t q r λg=>zg a λu=>zd 2 u λv=>HLd v g λx=>zc .sub x (.int .i64 1) λy=>zg a λz=>zd 2 z λA=>HSt A y g λB=>R (.tuple #[f,b]) B) (R (.tuple #[f,b]) e)
theorem vc237(a:Value)(w:World)(R:Value→World→Prop)(h:Vc237 a w R):za Tryz.prog 237 [a] w R:=VV Tryz.func237 (by kernel_rfl) (by kernel_rfl) (by kernel_rfl) h
def Vc268(b:Value)(w:World)(R:Value→World→Prop):Prop:=zg b λc=>zd 2 c λd=>HLd d w λe=>zc .eql e (.int .i64 0) λf=>HIf f (R (.tuple #[(.string {data:=#[]}),(.bool false)]) w) (zn w λa=>zg b λg=>zd 0 g λh=>HLd h a λj=>zg b λk=>zd 1 k λl=>HLd l a λm=>zk 1 j m λn=>HLd n a λo=>R (.tuple #[o,(.bool true)]) a)
theorem vc268(a:Value)(w:World)(R:Value→World→Prop)(h:Vc268 a w R):za Tryz.prog 268 [a] w R:=VV Tryz.func268 (by kernel_rfl) (by kernel_rfl) (by kernel_rfl) h
def Vc60(a:Value)(w:World)(R:Value→World→Prop):Prop:=zg a λb=>zd 1 b λc=>HLd c w λd=>R d w
theorem vc60(a:Value)(w:World)(R:Value→World→Prop)(h:Vc60 a w R):za Tryz.prog 60 [a] w R:=VV Tryz.func60 (by kernel_rfl) (by kernel_rfl) (by kernel_rfl) h
def Vc61(b:Value)(w:World)(R:Value→World→Prop):Prop:=zn w λa=>zg b λj=>zd 0 j λk=>HLd k a λl=>zg b λm=>zd 0 m λf=>HLd f a λg=>zg b λn=>zd 1 n λc=>HLd c a λd=>za Tryz.prog 142 [l] a λo e=>HLd f e λp=>p=g ∧HLd c e λq=>q=d ∧za Tryz.prog 59 [g] e λr h=>HLd c h λs=>s=d ∧zc .sub o r λt=>zc .sub t d λu=>R u h
theorem vc61(a:Value)(w:World)(R:Value→World→Prop)(h:Vc61 a w R):za Tryz.prog 61 [a] w R:=VV Tryz.func61 (by kernel_rfl) (by kernel_rfl) (by kernel_rfl) h
def Vc62(b c:Value)(w:World)(R:Value→World→Prop):Prop:=za Tryz.prog 61 [b] w λd a=>zc .gtr d (.int .i64 0) λe=>HIf e (zg b λf=>zd 0 f λg=>HLd g a λh=>za Tryz.prog 143 [h,c] a λj k=>R j k) (R (.bool false) a)
theorem vc62(a b:Value)(w:World)(R:Value→World→Prop)(h:Vc62 a b w R):za Tryz.prog 62 [a,b] w R:=VV Tryz.func62 (by kernel_rfl) (by kernel_rfl) (by kernel_rfl) h
def Vc129(e:Value)(w:World)(R:Value→World→Prop):Prop:=za Tryz.prog 193 [e] w λa b=>zm 0 a λf=>zm 1 a λc=>zc .neq c (.int .i64 0) λg=>HIf g (R (.tuple #[(.pointer none),c]) b) (zq [.pointer none,.int .i64 0] [(0,1,f)] λh=>∃d:List Value,h= .agg d.toArray∧zl d 129 b λj k=>R (.tuple #[j,(.int .i64 0)]) k)
theorem vc129(a:Value)(w:World)(R:Value→World→Prop)(h:Vc129 a w R):za Tryz.prog 129 [a] w R:=VV Tryz.func129 (by kernel_rfl) (by kernel_rfl) (by kernel_rfl) h
def Vc137(a c:Value)(w:World)(R:Value→World→Prop):Prop:=Ya c (.int .i64 0) λd=>zg a λe=>zd 1 e λf=>HLd f w λg=>y2 d g λb=>zg a λh=>zd 1 h λj=>HLd j w λk=>zc .sub k b λl=>zg a λm=>zd 1 m λn=>HSt n l w λo=>R b o
theorem vc137(a b:Value)(w:World)(R:Value→World→Prop)(h:Vc137 a b w R):za Tryz.prog 137 [a,b] w R:=VV Tryz.func137 (by kernel_rfl) (by kernel_rfl) (by kernel_rfl) h
def Vc198(a:Value)(w:World)(R:Value→World→Prop):Prop:=zg a λf=>zd 0 f λg=>HLd g w λh=>za Tryz.prog 237 [h] w λd b=>zm 0 d λe=>zm 1 d λc=>HIf c (zg a λj=>zd 1 j λk=>HLd k b λl=>zc .add l (.int .i64 1) λm=>zg a λn=>zd 1 n λo=>HSt o m b λp=>R (.tuple #[e,c]) p) (R (.tuple #[e,c]) b)
theorem vc198(a:Value)(w:World)(R:Value→World→Prop)(h:Vc198 a w R):za Tryz.prog 198 [a] w R:=VV Tryz.func198 (by kernel_rfl) (by kernel_rfl) (by kernel_rfl) h
def Vc131(a:Value)(w:World)(R:Value→World→Prop):Prop:=zc .lss a (.int .i64 1) λc=>HIf c (R (.pointer none) w) (zc .gtr a (.int .i64 64) λd=>HIf d (R (.pointer none) w) (zq [.int .i64 0,.int .i64 0,.int .i64 0,.slice none 0 0] [(0,1,a),(1,1,a)] λe=>∃b:List Value,e= .agg b.toArray∧zl b 249 w λf g=>R f g))
theorem vc131(a:Value)(w:World)(R:Value→World→Prop)(h:Vc131 a w R):za Tryz.prog 131 [a] w R:=VV Tryz.func131 (by kernel_rfl) (by kernel_rfl) (by kernel_rfl) h
def Vc133(a c:Value)(w:World)(R:Value→World→Prop):Prop:=zg a λd=>zd 1 d λe=>HLd e w λf=>zc .eql f (.int .i64 0) λg=>HIf g (R (.bool false) w) (zg a λh=>zd 1 h λj=>HLd j w λk=>zc .sub k (.int .i64 1) λl=>zg a λm=>zd 1 m λn=>HSt n l w λo=>zp (zrow [.string ⟨#[]⟩] 0) [] 9 0 o λp b=>zg a λq=>zd 3 q λr=>HLd r b λs=>zw 1 16 [.string ⟨#[]⟩] 9 p s b λt u=>zp (zrow [.string ⟨#[]⟩] 1) [(0,1,c)] 9 1 u λv x=>zw 1 16 [.string ⟨#[]⟩] 9 t v x λy z=>zg a λA=>zd 3 A λB=>HSt B y z λC=>R (.bool true) C)
theorem vc133(a b:Value)(w:World)(R:Value→World→Prop)(h:Vc133 a b w R):za Tryz.prog 133 [a,b] w R:=VV Tryz.func133 (by kernel_rfl) (by kernel_rfl) (by kernel_rfl) h
end Go.Proofs.YtnmhmnnadkclbaaGreat
