/- Part of the proof (my own). -/
import Derived.Test.YtfenmffiidchcaaGreatQTab
namespace Go.Proofs.YtfenmffiidchcaaGreat
set_option linter.unusedVariables false
set_option maxRecDepth 100000
open Go.RowKit
variable (a b c d e f g h j k l m n o p : Value) (w : World) (R : Value → World → Prop)
def Vc158(b:Value)(w:World)(R:Value→World→Prop):Prop:=zr [.slice none 0 0,.bool false] [(0,1,b)] λc=>∃a:List Value,c= .agg a.toArray∧zl a 330 w λd e=>R d e
theorem vc158(h:Vc158 a w R):HCl 158 [a] w R:=VJ [] [] Tryz.func158 h
def Vc159(b:Value)(w:World)(R:Value→World→Prop):Prop:=HCl 238 [b,(.int .i64 1)] w λc a=>HRq Tryz.prog (Instr.field 174 c 1) a λd=>R d a
theorem vc159(h:Vc159 a w R):HCl 159 [a] w R:=VJ [] [] Tryz.func159 h
def Vc160(a d:Value)(w:World)(R:Value→World→Prop):Prop:=HCl 159 [a] w λb c=>zc .lss b (.int .i64 0) λe=>HIf e (zf a λf=>ze 1 f λg=>HSt g (.bool true) c λh=>R (.int .i64 0) h) (zc .gtr b d λj=>HIf j (zf a λk=>ze 1 k λl=>HSt l (.bool true) c λm=>R (.int .i64 0) m) (R b c))
theorem vc160(h:Vc160 a b w R):HCl 160 [a,b] w R:=VJ [] [] Tryz.func160 h
def Vc162(b:Value)(w:World)(R:Value→World→Prop):Prop:=HCl 238 [b,(.int .i64 2)] w λc a=>HRq Tryz.prog (Instr.field 174 c 2) a λd=>R d a
theorem vc162(h:Vc162 a w R):HCl 162 [a] w R:=VJ [] [] Tryz.func162 h
def Vc163(a:Value)(w:World)(R:Value→World→Prop):Prop:=zf a λb=>ze 1 b λc=>HLd c w λd=>zu d λe=>HIf e (zf a λf=>ze 0 f λg=>HLd g w λh=>zh h λj=>zc .eql j (.int .i64 0) λk=>R k w) (R (.bool false) w)
theorem vc163(h:Vc163 a w R):HCl 163 [a] w R:=VJ [] [] Tryz.func163 h
def Vc225(d:Value)(w:World)(R:Value→World→Prop):Prop:=zh d λh=>∃(I:IW) (μ:IM),I [(.slice none 0 0),(.int .i64 0)] w ∧∀(c a:Value) b,I [c,a] b → zc .lss a h λj=>HIf j (zj 1 d a λk=>HLd k b λl=>zr [.int .i64 0,.int .i64 0,.string ⟨#[]⟩] [(0,1,(.int .i64 1)),(1,1,l)] λm=>zn (zrow [.int .i64 0,.int .i64 0,.string ⟨#[]⟩] 1) [(0,3,m)] 174 1 b λn o=>zt 3 32 [.int .i64 0,.int .i64 0,.string ⟨#[]⟩] 174 c n o λe f=>zc .add a (.int .i64 1) λg=>I [e,g] f∧μ [e,g] f<μ [c,a] b) (R c b)
theorem vc225(h:Vc225 a w R):HCl 225 [a] w R:=VJ [(3,[3,8],[6,7])] [] Tryz.func225 h
def Vc226(a:Value)(w:World)(R:Value→World→Prop):Prop:=HIf a (R (.int .i64 1) w) (R (.int .i64 0) w)
theorem vc226(h:Vc226 a w R):HCl 226 [a] w R:=VJ [] [] Tryz.func226 h
def Vc227(c:Value)(w:World)(R:Value→World→Prop):Prop:=zl [.int .i64 0,.int .i64 0,.string ⟨#[]⟩] 174 w λa d=>zr [.int .i64 0,.int .i64 0,.string ⟨#[]⟩] [(0,1,(.int .i64 2)),(2,1,c)] λe=>zq 3 a e d λb=>zk 3 a b λr=>R r b
theorem vc227(h:Vc227 a w R):HCl 227 [a] w R:=VJ [] [] Tryz.func227 h
def Vc238(b l:Value)(w:World)(R:Value→World→Prop):Prop:=zl [.int .i64 0,.int .i64 0,.string ⟨#[]⟩] 174 w λc a=>zf b λm=>ze 1 m λn=>HLd n a λo=>HIf o (zf b λp=>ze 1 p λq=>HSt q (.bool true) a λs=>zr [.int .i64 0,.int .i64 0,.string ⟨#[]⟩] [] λt=>zq 3 c t s λd=>zk 3 c d λr=>R r d) (zf b λu=>ze 0 u λv=>HLd v a λx=>zh x λy=>zc .eql y (.int .i64 0) λz=>HIf z (zf b λA=>ze 1 A λB=>HSt B (.bool true) a λC=>zr [.int .i64 0,.int .i64 0,.string ⟨#[]⟩] [] λD=>zq 3 c D C λe=>zk 3 c e λE=>R E e) (zf b λG=>ze 0 G λH=>HLd H a λJ=>zj 3 J (.int .i64 0) λK=>ze 0 K λL=>HLd L a λM=>zc .neq M l λN=>HIf N (zf b λO=>ze 1 O λP=>HSt P (.bool true) a λQ=>zr [.int .i64 0,.int .i64 0,.string ⟨#[]⟩] [] λS=>zq 3 c S Q λf=>zk 3 c f λT=>R T f) (zf b λU=>ze 0 U λV=>HLd V a λX=>zj 3 X (.int .i64 0) λY=>zk 3 Y a λZ=>zl [.int .i64 0,.int .i64 0,.string ⟨#[]⟩] 174 a λg α=>zq 3 g Z α λh=>zf b λβ=>ze 0 β λγ=>HLd γ h λδ=>HSl 3 δ (some (.int .i64 1)) none none λε=>zf b λζ=>ze 0 ζ λη=>HSt η ε h λj=>zk 3 g j λθ=>zq 3 c θ j λk=>zk 3 c k λι=>R ι k)))
theorem vc238(h:Vc238 a b w R):HCl 238 [a,b] w R:=VJ [] [] Tryz.func238 h
def Vc239(a:Value)(w:World)(R:Value→World→Prop):Prop:=HCl 160 [a,(.int .i64 1)] w λb c=>zc .eql b (.int .i64 1) λd=>R d c
theorem vc239(h:Vc239 a w R):HCl 239 [a] w R:=VJ [] [] Tryz.func239 h
def Vc326(a:Value)(w:World)(R:Value→World→Prop):Prop:=zf a λb=>ze 1 b λc=>HLd c w λd=>zu d λe=>R e w
theorem vc326(h:Vc326 a w R):HCl 326 [a] w R:=VJ [] [] Tryz.func326 h
end Go.Proofs.YtfenmffiidchcaaGreat
