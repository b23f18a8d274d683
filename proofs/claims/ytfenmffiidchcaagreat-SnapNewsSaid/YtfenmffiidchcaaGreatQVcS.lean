/- Part of the proof (my own). -/
import Derived.Test.YtfenmffiidchcaaGreatQTab
namespace Go.Proofs.YtfenmffiidchcaaGreat
set_option linter.unusedVariables false
set_option maxRecDepth 100000
open Go.RowKit
variable (a b c d e f g h j k l m n o p : Value) (w : World) (R : Value → World → Prop)
def Vc158(b:Value)(w:World)(R:Value→World→Prop):Prop:=zr [.slice none 0 0,.bool false] [(0,1,b)] λc=>∃a:List Value,c= .agg a.toArray∧zm a 330 w λd e=>R d e
theorem vc158(h:Vc158 a w R):HCl 158 [a] w R:=VJ [] [] Tryz.func158 h
def Vc159(b:Value)(w:World)(R:Value→World→Prop):Prop:=HCl 238 [b,(.int .i64 1)] w λc a=>HRq Tryz.prog (Instr.field 174 c 1) a λd=>R d a
theorem vc159(h:Vc159 a w R):HCl 159 [a] w R:=VJ [] [] Tryz.func159 h
def Vc160(a d:Value)(w:World)(R:Value→World→Prop):Prop:=HCl 159 [a] w λb c=>za .lss b (.int .i64 0) λe=>HIf e (ze a λf=>zd 1 f λg=>HSt g (.bool true) c λh=>R (.int .i64 0) h) (za .gtr b d λj=>HIf j (ze a λk=>zd 1 k λl=>HSt l (.bool true) c λm=>R (.int .i64 0) m) (R b c))
theorem vc160(h:Vc160 a b w R):HCl 160 [a,b] w R:=VJ [] [] Tryz.func160 h
def Vc162(b:Value)(w:World)(R:Value→World→Prop):Prop:=HCl 238 [b,(.int .i64 2)] w λc a=>HRq Tryz.prog (Instr.field 174 c 2) a λd=>R d a
theorem vc162(h:Vc162 a w R):HCl 162 [a] w R:=VJ [] [] Tryz.func162 h
def Vc163(a:Value)(w:World)(R:Value→World→Prop):Prop:=ze a λb=>zd 1 b λc=>HLd c w λd=>zu d λe=>HIf e (ze a λf=>zd 0 f λg=>HLd g w λh=>zf h λj=>za .eql j (.int .i64 0) λk=>R k w) (R (.bool false) w)
theorem vc163(h:Vc163 a w R):HCl 163 [a] w R:=VJ [] [] Tryz.func163 h
def Vc225(d:Value)(w:World)(R:Value→World→Prop):Prop:=zf d λh=>∃(I:IW) (μ:IM),I [(.slice none 0 0),(.int .i64 0)] w ∧∀(c a:Value) b,I [c,a] b → za .lss a h λj=>HIf j (zj 1 d a λk=>HLd k b λl=>zr [.int .i64 0,.int .i64 0,.string ⟨#[]⟩] [(0,1,(.int .i64 1)),(1,1,l)] λm=>zo (zrow [.int .i64 0,.int .i64 0,.string ⟨#[]⟩] 1) [(0,3,m)] 174 1 b λn o=>zw 3 32 [.int .i64 0,.int .i64 0,.string ⟨#[]⟩] 174 c n o λe f=>za .add a (.int .i64 1) λg=>I [e,g] f∧μ [e,g] f<μ [c,a] b) (R c b)
theorem vc225(h:Vc225 a w R):HCl 225 [a] w R:=VJ [(3,[3,8],[6,7])] [] Tryz.func225 h
def Vc226(a:Value)(w:World)(R:Value→World→Prop):Prop:=HIf a (R (.int .i64 1) w) (R (.int .i64 0) w)
theorem vc226(h:Vc226 a w R):HCl 226 [a] w R:=VJ [] [] Tryz.func226 h
def Vc227(c:Value)(w:World)(R:Value→World→Prop):Prop:=zm [.int .i64 0,.int .i64 0,.string ⟨#[]⟩] 174 w λa d=>zr [.int .i64 0,.int .i64 0,.string ⟨#[]⟩] [(0,1,(.int .i64 2)),(2,1,c)] λe=>zq 3 a e d λb=>zk 3 a b λr=>R r b
theorem vc227(h:Vc227 a w R):HCl 227 [a] w R:=VJ [] [] Tryz.func227 h
def Vc238(b l:Value)(w:World)(R:Value→World→Prop):Prop:=zm [.int .i64 0,.int .i64 0,.string ⟨#[]⟩] 174 w λc a=>ze b λm=>zd 1 m λn=>HLd n a λo=>HIf o (ze b λp=>zd 1 p λq=>HSt q (.bool true) a λs=>zr [.int .i64 0,.int .i64 0,.string ⟨#[]⟩] [] λt=>zq 3 c t s λd=>zk 3 c d λr=>R r d) (ze b λu=>zd 0 u λv=>HLd v a λx=>zf x λy=>za .eql y (.int .i64 0) λz=>HIf z (ze b λA=>zd 1 A λB=>HSt B (.bool true) a λC=>zr [.int .i64 0,.int .i64 0,.string ⟨#[]⟩] [] λD=>zq 3 c D C λe=>zk 3 c e λE=>R E e) (ze b λG=>zd 0 G λH=>HLd H a λJ=>zj 3 J (.int .i64 0) λK=>zd 0 K λL=>HLd L a λM=>za .neq M l λN=>HIf N (ze b λO=>zd 1 O λP=>HSt P (.bool true) a λQ=>zr [.int .i64 0,.int .i64 0,.string ⟨#[]⟩] [] λS=>zq 3 c S Q λf=>zk 3 c f λT=>R T f) (ze b λU=>zd 0 U λV=>HLd V a λX=>zj 3 X (.int .i64 0) λY=>zk 3 Y a λZ=>zm [.int .i64 0,.int .i64 0,.string ⟨#[]⟩] 174 a λg α=>zq 3 g Z α λh=>ze b λβ=>zd 0 β λγ=>HLd γ h λδ=>HSl 3 δ (some (.int .i64 1)) none none λε=>ze b λζ=>zd 0 ζ λη=>HSt η ε h λj=>zk 3 g j λθ=>zq 3 c θ j λk=>zk 3 c k λι=>R ι k)))
theorem vc238(h:Vc238 a b w R):HCl 238 [a,b] w R:=VJ [] [] Tryz.func238 h
def Vc239(a:Value)(w:World)(R:Value→World→Prop):Prop:=HCl 160 [a,(.int .i64 1)] w λb c=>za .eql b (.int .i64 1) λd=>R d c
theorem vc239(h:Vc239 a w R):HCl 239 [a] w R:=VJ [] [] Tryz.func239 h
def Vc326(a:Value)(w:World)(R:Value→World→Prop):Prop:=ze a λb=>zd 1 b λc=>HLd c w λd=>zu d λe=>R e w
theorem vc326(h:Vc326 a w R):HCl 326 [a] w R:=VJ [] [] Tryz.func326 h
def Vc244(b d:Value)(w:World)(R:Value→World→Prop):Prop:=zl w λa=>ze b λe=>zd 2 e λf=>HLd f a λg=>HIf g (ze b λh=>zd 2 h λj=>HSt j (.bool true) a λk=>R (.int .i64 0) k) (ze b λl=>zd 1 l λm=>HLd m a λn=>ze b λo=>zd 0 o λp=>HLd p a λq=>zf q λr=>za .geq n r λs=>HIf s (ze b λt=>zd 2 t λu=>HSt u (.bool true) a λv=>R (.int .i64 0) v) (ze b λx=>zd 0 x λy=>HLd y a λz=>ze b λA=>zd 1 A λB=>HLd B a λC=>zj 3 z C λD=>zd 0 D λE=>HLd E a λG=>za .neq G (.int .i64 1) λH=>HIf H (ze b λJ=>zd 2 J λK=>HSt K (.bool true) a λL=>R (.int .i64 0) L) (ze b λM=>zd 0 M λN=>HLd N a λO=>ze b λP=>zd 1 P λQ=>HLd Q a λS=>zj 3 O S λT=>zd 1 T λU=>HLd U a λV=>za .lss V (.int .i64 0) λX=>HIf X (ze b λY=>zd 2 Y λZ=>HSt Z (.bool true) a λα=>R (.int .i64 0) α) (ze b λβ=>zd 0 β λγ=>HLd γ a λδ=>ze b λε=>zd 1 ε λζ=>HLd ζ a λη=>zj 3 δ η λθ=>zd 1 θ λι=>HLd ι a λκ=>za .gtr κ d λν=>HIf ν (ze b λξ=>zd 2 ξ λπ=>HSt π (.bool true) a λρ=>R (.int .i64 0) ρ) (ze b λσ=>zd 1 σ λτ=>HLd τ a λφ=>za .add φ (.int .i64 1) λχ=>ze b λψ=>zd 1 ψ λω=>HSt ω χ a λaa=>zl aa λc=>ze b λab=>zd 0 ab λac=>HLd ac c λad=>ze b λae=>zd 1 ae λaf=>HLd af c λag=>za .sub ag (.int .i64 1) λah=>zj 3 ad ah λaj=>zd 1 aj λak=>HLd ak c λal=>R al c)))))
theorem vc244(h:Vc244 a b w R):HCl 244 [a,b] w R:=VJ [] [] Tryz.func244 h
def Vc245(a:Value)(w:World)(R:Value→World→Prop):Prop:=zl w λb=>ze a λd=>zd 2 d λe=>HLd e b λf=>HIf f (ze a λg=>zd 2 g λh=>HSt h (.bool true) b λj=>R (.string {data:=#[]}) j) (ze a λk=>zd 1 k λl=>HLd l b λm=>ze a λn=>zd 0 n λo=>HLd o b λp=>zf p λq=>za .geq m q λr=>HIf r (ze a λs=>zd 2 s λt=>HSt t (.bool true) b λu=>R (.string {data:=#[]}) u) (ze a λv=>zd 0 v λx=>HLd x b λy=>ze a λz=>zd 1 z λA=>HLd A b λB=>zj 3 y B λC=>zd 0 C λD=>HLd D b λE=>za .neq E (.int .i64 2) λG=>HIf G (ze a λH=>zd 2 H λJ=>HSt J (.bool true) b λK=>R (.string {data:=#[]}) K) (ze a λL=>zd 1 L λM=>HLd M b λN=>za .add N (.int .i64 1) λO=>ze a λP=>zd 1 P λQ=>HSt Q O b λS=>zl S λc=>ze a λT=>zd 0 T λU=>HLd U c λV=>ze a λX=>zd 1 X λY=>HLd Y c λZ=>za .sub Z (.int .i64 1) λα=>zj 3 V α λβ=>zd 2 β λγ=>HLd γ c λδ=>R δ c)))
theorem vc245(h:Vc245 a w R):HCl 245 [a] w R:=VJ [] [] Tryz.func245 h
def Vc246(b:Value)(w:World)(R:Value→World→Prop):Prop:=zl w λa=>ze b λc=>zd 2 c λd=>HLd d a λe=>zu e λf=>HIf f (ze b λg=>zd 1 g λh=>HLd h a λj=>ze b λk=>zd 0 k λl=>HLd l a λm=>zf m λn=>za .eql j n λo=>R o a) (R (.bool false) a)
theorem vc246(h:Vc246 a w R):HCl 246 [a] w R:=VJ [] [] Tryz.func246 h
def Vc247(b:Value)(w:World)(R:Value→World→Prop):Prop:=zm [.int .i64 0,.int .i64 0,.bool false,.string ⟨#[]⟩] 82 w λc f=>HCl 244 [b,(.int .i64 7)] f λg h=>zr [.int .i64 0,.int .i64 0,.bool false,.string ⟨#[]⟩] [(0,1,g)] λj=>zm [.int .i64 0,.int .i64 0,.bool false,.string ⟨#[]⟩] 82 h λa k=>zq 4 a j k λl=>HCl 244 [b,(.int .i64 1099511627776)] l λm n=>zd 1 a λo=>HSt o m n λp=>HCl 301 [b] p λq s=>zd 2 a λt=>HSt t q s λu=>HCl 245 [b] u λv x=>zd 3 a λy=>HSt y v x λd=>zk 4 a d λz=>zq 4 c z d λe=>zk 4 c e λr=>R r e
theorem vc247(h:Vc247 a w R):HCl 247 [a] w R:=VJ [] [] Tryz.func247 h
def Vc249(n:Value)(w:World)(R:Value→World→Prop):Prop:=∃j:List Value,n= .agg j.toArray∧zm j 82 w λb o=>zl o λa=>zd 0 b λp=>HLd p a λq=>zd 1 b λk=>HLd k a λl=>zd 2 b λf=>HLd f a λg=>zd 3 b λc=>HLd c a λd=>HCl 92 [q] a λr e=>HLd k e λs=>s=l ∧HLd f e λt=>t=g ∧HLd c e λu=>u=d ∧HCl 92 [l] e λv h=>HLd f h λx=>x=g ∧HLd c h λy=>y=d ∧HCl 302 [g] h λz m=>HLd c m λA=>A=d ∧HCl 93 [d] m λB C=>zo (zrow [.int .i64 0,.int .i64 0,.string ⟨#[]⟩] 4) [(0,3,r),(3,3,v),(6,3,z),(9,3,B)] 174 4 C λD E=>R D E
theorem vc249(h:Vc249 a w R):HCl 249 [a] w R:=VJ [] [] Tryz.func249 h
def Vc301(a:Value)(w:World)(R:Value→World→Prop):Prop:=HCl 244 [a,(.int .i64 1)] w λb c=>za .eql b (.int .i64 1) λd=>R d c
theorem vc301(h:Vc301 a w R):HCl 301 [a] w R:=VJ [] [] Tryz.func301 h
end Go.Proofs.YtfenmffiidchcaaGreat
