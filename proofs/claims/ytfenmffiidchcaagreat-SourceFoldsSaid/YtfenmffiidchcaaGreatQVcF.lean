/- Part of the proof (my own). -/
import Derived.Test.YtfenmffiidchcaaGreatQTab
namespace Go.Proofs.YtfenmffiidchcaaGreat
set_option linter.unusedVariables false
set_option maxRecDepth 100000
open Go.RowKit
variable (a b c d e f g h j k l m n o p : Value) (w : World) (R : Value → World → Prop)
def Vc39(d e k:Value)(w:World)(R:Value→World→Prop):Prop:=zc .lss d (.int .i64 1) λl=>HIf l (R (.slice none 0 0) w) (zc .gtr d (.int .i64 8) λm=>HIf m (R (.slice none 0 0) w) (∃(I:IW) (μ:IM),I [(.slice none 0 0),(.int .i64 0)] w ∧∀(b a:Value) c,I [b,a] c → zc .lss a d λn=>HIf n (HCl 109 [e,a] c λf o=>zh e λp=>HCl 111 [k,p] o λq r=>HCl 110 [f,q] r λy s=>HCl 112 [f] s λt u=>zn (zrow [.slice none 0 0] 1) [(0,1,t)] 53 1 u λv x=>zt 1 24 [.slice none 0 0] 53 b v x λg h=>zc .add a (.int .i64 1) λj=>I [g,j] h∧μ [g,j] h<μ [b,a] c) (R b c)))
theorem vc39(h:Vc39 a b c w R):HCl 39 [a,b,c] w R:=VJ [(5,[7,17],[1,2,16])] [] Tryz.func39 h
def Vc109(b c:Value)(w:World)(R:Value→World→Prop):Prop:=zr [.int .i64 0,.slice none 0 0,.int .i64 0,.map none] [(1,1,b),(2,1,c),(3,1,(.map (some w.heap.size)))] λd=>∃a:List Value,d= .agg a.toArray∧zl a 273 (w.alloc (.map #[] 0)) λe f=>R e f
theorem vc109(h:Vc109 a b w R):HCl 109 [a,b] w R:=VJ [] [] Tryz.func109 h
def Vc110(b t:Value)(w:World)(R:Value→World→Prop):Prop:=∃(I:IW) (μ:IM),I [] w ∧∀g,I [] g → zf b λv=>ze 0 v λx=>ze 0 x λy=>HLd y g λz=>zc .lss z t λA=>HIf A (zm g λj=>zf b λB=>ze 1 B λC=>HLd C j λD=>zf b λE=>ze 0 E λG=>ze 0 G λH=>HLd H j λJ=>zj 5 D J λK=>ze 2 K λL=>HLd L j λm=>zh m λM=>∃(h:IW) (e:IM),h [(.int .i64 0)] j ∧∀(a:Value) c,h [a] c → zc .lss a M λN=>HIf N (zj 4 m a λO=>zk 4 O c λP=>zl [.int .i64 0,.int .i64 0,.bool false,.string ⟨#[]⟩] 82 c λf Q=>zq 4 f P Q λS=>zm S λd=>ze 0 f λT=>HLd T d λU=>zf b λV=>ze 2 V λX=>HLd X d λY=>zc .neq U Y λZ=>HIf Z (zc .add a (.int .i64 1) λn=>h [n] d∧e [n] d<e [a] c) (ze 2 f λα=>HLd α d λβ=>HIf β (zm d λl=>zf b λγ=>ze 3 γ λδ=>HLd δ l λε=>ze 1 f λζ=>HLd ζ l λη=>zD Tryz.prog (Builtin.delete_ #[269,2] 0 [ε,η].toArray) l λu o=>zc .add a (.int .i64 1) λp=>h [p] o∧e [p] o<e [a] c) (zm d λk=>zf b λθ=>ze 3 θ λι=>HLd ι k λκ=>ze 1 f λν=>HLd ν k λξ=>ze 3 f λπ=>HLd π k λρ=>zD Tryz.prog (do Instr.mapUpdate 269 κ ξ ρ;pure undef) k λu_1 q=>zc .add a (.int .i64 1) λr=>h [r] q∧e [r] q<e [a] c))) (zf b λσ=>ze 0 σ λτ=>HCl 190 [τ] c λφ s=>I [] s∧μ [] s<μ [] g)) (R (.tuple #[]) g)
theorem vc110(h:Vc110 a b w R):HCl 110 [a,b] w R:=VJ [(0,[],[0,1]),(2,[26],[0,1,24,25])] [] Tryz.func110 h
def Vc111(a b:Value)(w:World)(R:Value→World→Prop):Prop:=YB a (.int .i64 0) λc=>ZH c b λd=>R d w
theorem vc111(h:Vc111 a b w R):HCl 111 [a,b] w R:=VJ [] [] Tryz.func111 h
def Vc112(d:Value)(w:World)(R:Value→World→Prop):Prop:=zf d λk=>ze 3 k λl=>HLd l w λm=>HCl 192 [m] w λn o=>HCl 191 [n] o λe p=>zh e λq=>∃(I:IW) (μ:IM),I [(.slice none 0 0),(.int .i64 0)] p ∧∀(c b:Value) a,I [c,b] a → zc .lss b q λr=>HIf r (zj 1 e b λs=>HLd s a λf=>zf d λt=>ze 3 t λu=>HLd u a λv=>HRq Tryz.prog (Instr.lookup 269 v f false) a λx=>zr [.int .i64 0,.string ⟨#[]⟩] [(0,1,f),(1,1,x)] λy=>zn (zrow [.int .i64 0,.string ⟨#[]⟩] 1) [(0,2,y)] 52 1 a λz A=>zt 2 24 [.int .i64 0,.string ⟨#[]⟩] 52 c z A λg h=>zc .add b (.int .i64 1) λj=>I [g,j] h∧μ [g,j] h<μ [c,b] a) (R c a)
theorem vc112(h:Vc112 a w R):HCl 112 [a] w R:=VJ [(3,[3,13],[0,11,12])] [] Tryz.func112 h
def Vc190(a:Value)(w:World)(R:Value→World→Prop):Prop:=zf a λb=>ze 0 b λc=>HLd c w λd=>zc .add d (.int .i64 1) λe=>zf a λf=>ze 0 f λg=>HSt g e w λh=>R (.tuple #[]) h
theorem vc190(h:Vc190 a w R):HCl 190 [a] w R:=VJ [] [] Tryz.func190 h
end Go.Proofs.YtfenmffiidchcaaGreat
