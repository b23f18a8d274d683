/- Part of the proof (my own). -/
import Derived.Test.YtnmhmnnadkclbaaGreatQTab
namespace Go.Proofs.YtnmhmnnadkclbaaGreat
set_option linter.unusedVariables false
set_option maxRecDepth 100000
open Go.RowKit
variable (a b c d e f g h j k l m n o p : Value) (w : World) (R : Value → World → Prop)
def Vc59(a:Value)(w:World)(R:Value→World→Prop):Prop:=zf a λb=>za 2 b λc=>HLd c w λd=>R d w
theorem vc59(h:Vc59 a w R):HCl 59 [a] w R:=VJ [] [] Tryz.func59 h
def Vc142(a:Value)(w:World)(R:Value→World→Prop):Prop:=zf a λb=>za 0 b λc=>HLd c w λd=>zg d λe=>R e w
theorem vc142(h:Vc142 a w R):HCl 142 [a] w R:=VJ [] [] Tryz.func142 h
def Vc143(a h:Value)(w:World)(R:Value→World→Prop):Prop:=zk w λb=>zf a λj=>za 2 j λk=>HLd k b λl=>zf a λm=>za 0 m λn=>HLd n b λo=>zg o λp=>zc .eql l p λq=>HIf q (R (.bool false) b) (zk b λc=>zf a λr=>za 0 r λd=>HLd d c λe=>zf a λs=>za 2 s λt=>HLd t c λu=>HCl 201 [a,u] c λv f=>HLd d f λx=>x=e ∧zj 1 e v λy=>HSt y h f λg=>zf a λz=>za 2 z λA=>HLd A g λB=>zc .add B (.int .i64 1) λC=>zf a λD=>za 2 D λE=>HSt E C g λG=>R (.bool true) G)
theorem vc143(h:Vc143 a b w R):HCl 143 [a,b] w R:=VJ [] [] Tryz.func143 h
def Vc193(a:Value)(w:World)(R:Value→World→Prop):Prop:=zc .lss a (.int .i64 1) λc=>HIf c (R (.tuple #[(.pointer none),(.int .i64 1)]) w) (zc .gtr a (.int .i64 64) λd=>HIf d (R (.tuple #[(.pointer none),(.int .i64 1)]) w) (HMk [.string ⟨#[]⟩] 16 9 a a w λe f=>zp [.slice none 0 0,.int .i64 0,.int .i64 0] [(0,1,e)] λg=>∃b:List Value,g= .agg b.toArray∧zm b 246 f λh j=>R (.tuple #[h,(.int .i64 0)]) j))
theorem vc193(h:Vc193 a w R):HCl 193 [a] w R:=VJ [] [] Tryz.func193 h
def Vc201(b c:Value)(w:World)(R:Value→World→Prop):Prop:=zk w λa=>zf b λd=>za 1 d λe=>HLd e a λf=>zc .add f c λg=>zf b λh=>za 0 h λj=>HLd j a λk=>zg k λl=>zc .rem g l λm=>R m a
theorem vc201(h:Vc201 a b w R):HCl 201 [a,b] w R:=VJ [] [] Tryz.func201 h
def Vc237(a:Value)(w:World)(R:Value→World→Prop):Prop:=HCl 268 [a] w λd e=>zl 0 d λf=>zl 1 d λb=>HIf b (zk e λc=>zf a λh=>za 0 h λj=>HLd j c λk=>zf a λl=>za 1 l λm=>HLd m c λn=>zj 1 k n λo=>HSt o (.string {data:=#[]}) c λp=>HCl 201 [a,(.int .i64 1)] p λq r=>zf a λs=>za 1 s λt=>HSt t q r λg=>zf a λu=>za 2 u λv=>HLd v g λx=>zc .sub x (.int .i64 1) λy=>zf a λz=>za 2 z λA=>HSt A y g λB=>R (.tuple #[f,b]) B) (R (.tuple #[f,b]) e)
theorem vc237(h:Vc237 a w R):HCl 237 [a] w R:=VJ [] [] Tryz.func237 h
def Vc268(b:Value)(w:World)(R:Value→World→Prop):Prop:=zf b λc=>za 2 c λd=>HLd d w λe=>zc .eql e (.int .i64 0) λf=>HIf f (R (.tuple #[(.string {data:=#[]}),(.bool false)]) w) (zk w λa=>zf b λg=>za 0 g λh=>HLd h a λj=>zf b λk=>za 1 k λl=>HLd l a λm=>zj 1 j m λn=>HLd n a λo=>R (.tuple #[o,(.bool true)]) a)
theorem vc268(h:Vc268 a w R):HCl 268 [a] w R:=VJ [] [] Tryz.func268 h
def Vc60(a:Value)(w:World)(R:Value→World→Prop):Prop:=zf a λb=>za 1 b λc=>HLd c w λd=>R d w
theorem vc60(h:Vc60 a w R):HCl 60 [a] w R:=VJ [] [] Tryz.func60 h
def Vc61(b:Value)(w:World)(R:Value→World→Prop):Prop:=zk w λa=>zf b λj=>za 0 j λk=>HLd k a λl=>zf b λm=>za 0 m λf=>HLd f a λg=>zf b λn=>za 1 n λc=>HLd c a λd=>HCl 142 [l] a λo e=>HLd f e λp=>p=g ∧HLd c e λq=>q=d ∧HCl 59 [g] e λr h=>HLd c h λs=>s=d ∧zc .sub o r λt=>zc .sub t d λu=>R u h
theorem vc61(h:Vc61 a w R):HCl 61 [a] w R:=VJ [] [] Tryz.func61 h
def Vc62(b c:Value)(w:World)(R:Value→World→Prop):Prop:=HCl 61 [b] w λd a=>zc .gtr d (.int .i64 0) λe=>HIf e (zf b λf=>za 0 f λg=>HLd g a λh=>HCl 143 [h,c] a λj k=>R j k) (R (.bool false) a)
theorem vc62(h:Vc62 a b w R):HCl 62 [a,b] w R:=VJ [] [] Tryz.func62 h
def Vc129(e:Value)(w:World)(R:Value→World→Prop):Prop:=HCl 193 [e] w λa b=>zl 0 a λf=>zl 1 a λc=>zc .neq c (.int .i64 0) λg=>HIf g (R (.tuple #[(.pointer none),c]) b) (zp [.pointer none,.int .i64 0] [(0,1,f)] λh=>∃d:List Value,h= .agg d.toArray∧zm d 129 b λj k=>R (.tuple #[j,(.int .i64 0)]) k)
theorem vc129(h:Vc129 a w R):HCl 129 [a] w R:=VJ [] [] Tryz.func129 h
def Vc137(a c:Value)(w:World)(R:Value→World→Prop):Prop:=Zh c (.int .i64 0) λd=>zf a λe=>za 1 e λf=>HLd f w λg=>Zq d g λb=>zf a λh=>za 1 h λj=>HLd j w λk=>zc .sub k b λl=>zf a λm=>za 1 m λn=>HSt n l w λo=>R b o
theorem vc137(h:Vc137 a b w R):HCl 137 [a,b] w R:=VJ [] [] Tryz.func137 h
def Vc198(a:Value)(w:World)(R:Value→World→Prop):Prop:=zf a λf=>za 0 f λg=>HLd g w λh=>HCl 237 [h] w λd b=>zl 0 d λe=>zl 1 d λc=>HIf c (zf a λj=>za 1 j λk=>HLd k b λl=>zc .add l (.int .i64 1) λm=>zf a λn=>za 1 n λo=>HSt o m b λp=>R (.tuple #[e,c]) p) (R (.tuple #[e,c]) b)
theorem vc198(h:Vc198 a w R):HCl 198 [a] w R:=VJ [] [] Tryz.func198 h
def Vc131(a:Value)(w:World)(R:Value→World→Prop):Prop:=zc .lss a (.int .i64 1) λc=>HIf c (R (.pointer none) w) (zc .gtr a (.int .i64 64) λd=>HIf d (R (.pointer none) w) (zp [.int .i64 0,.int .i64 0,.int .i64 0,.slice none 0 0] [(0,1,a),(1,1,a)] λe=>∃b:List Value,e= .agg b.toArray∧zm b 249 w λf g=>R f g))
theorem vc131(h:Vc131 a w R):HCl 131 [a] w R:=VJ [] [] Tryz.func131 h
def Vc133(a c:Value)(w:World)(R:Value→World→Prop):Prop:=zf a λd=>za 1 d λe=>HLd e w λf=>zc .eql f (.int .i64 0) λg=>HIf g (R (.bool false) w) (zf a λh=>za 1 h λj=>HLd j w λk=>zc .sub k (.int .i64 1) λl=>zf a λm=>za 1 m λn=>HSt n l w λo=>zo (zrow [.string ⟨#[]⟩] 0) [] 9 0 o λp b=>zf a λq=>za 3 q λr=>HLd r b λs=>zt 1 16 [.string ⟨#[]⟩] 9 p s b λt u=>zo (zrow [.string ⟨#[]⟩] 1) [(0,1,c)] 9 1 u λv x=>zt 1 16 [.string ⟨#[]⟩] 9 t v x λy z=>zf a λA=>za 3 A λB=>HSt B y z λC=>R (.bool true) C)
theorem vc133(h:Vc133 a b w R):HCl 133 [a,b] w R:=VJ [] [] Tryz.func133 h
def Vc145(a:Value)(w:World)(R:Value→World→Prop):Prop:=zf a λc=>za 3 c λd=>HLd d w λe=>zg e λf=>zc .eql f (.int .i64 0) λg=>HIf g (R (.tuple #[(.string {data:=#[]}),(.bool false)]) w) (zf a λh=>za 3 h λj=>HLd j w λk=>zj 1 k (.int .i64 0) λl=>HLd l w λm=>zf a λn=>za 3 n λo=>HLd o w λp=>HSl 1 p (some (.int .i64 1)) none none λq=>zf a λr=>za 3 r λs=>HSt s q w λb=>zf a λt=>za 2 t λu=>HLd u b λv=>zc .add v (.int .i64 1) λx=>zf a λy=>za 2 y λz=>HSt z x b λA=>R (.tuple #[m,(.bool true)]) A)
theorem vc145(h:Vc145 a w R):HCl 145 [a] w R:=VJ [] [] Tryz.func145 h
def Vc147(a d:Value)(w:World)(R:Value→World→Prop):Prop:=zf a λe=>za 2 e λf=>HLd f w λg=>Zq d g λh=>Zh (.int .i64 0) h λb=>zf a λj=>za 2 j λk=>HLd k w λl=>zc .sub l b λm=>zf a λn=>za 2 n λo=>HSt o m w λc=>zf a λp=>za 1 p λq=>HLd q c λr=>zc .add r b λs=>zf a λt=>za 1 t λu=>HSt u s c λv=>R b v
theorem vc147(h:Vc147 a b w R):HCl 147 [a,b] w R:=VJ [] [] Tryz.func147 h
end Go.Proofs.YtnmhmnnadkclbaaGreat
