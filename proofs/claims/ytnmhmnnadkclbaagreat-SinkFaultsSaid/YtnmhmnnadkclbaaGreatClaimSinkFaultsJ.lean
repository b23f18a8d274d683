/-
  The statement SinkFaults holds: for all inputs the Go function returns true, and the input reads as before.
  No condition beyond the row's own.
-/
import Derived.Test.YtnmhmnnadkclbaaGreatJ12
namespace Go.Proofs.YtnmhmnnadkclbaaGreat
set_option linter.unusedVariables false
open Go.ChangeShapes Go.WideShapes Go.ChangeAt Go.RowKit
set_option maxRecDepth 100000 in
theorem sinkFaults_lifted(os:Os)(started:os.Started)(H:Type)(enc:TypeId × Value→H):
  ReturnsInHanded {} Tryz.checked os 5 .any (Rows.sinkFaultsSpec.pre6 enc Tryz.prog Tryz.f5 Rows.sinkFaultsRow.domain false) (Rows.sinkFaultsSpec.post enc Tryz.prog Tryz.f5 false true false false):=by
 refine returnsInHanded_of_change_sized (C:=Tryz.checked) Tryz.own started (by kernel_rfl) Tryz.func5
  (ChangeSpec.witness6 (enc:=enc) (C:=Tryz.checked) false ⟨#[],#[.slice none 0 0],[]⟩ 12 (by kernel_rfl) (by kernel_rfl) (by kernel_rfl) (by kernel_rfl)) ?_
 intro W base args ds gs before hval0 hW _ hsz _
 have hval:∀(j:Nat) t v,Tryz.f5.params[j]?=some t→args[j]?=some v→Value.okWide Tryz.prog W .any base t v:=hval0
 have hW':DataW.Whole enc Tryz.prog Tryz.f5.params.toList Rows.sinkFaultsSpec.vars false W args.toList ds gs before:=hW
 obtain⟨p,q,hA0,_,_,_,_⟩:=hW
 have hA:DataW.TrodAll enc Tryz.prog W 0 (λ_=>true) true Tryz.f5.params.toList args.toList ds p:=hA0
 have hsz':(DataW.weightsEach Tryz.prog (Tryz.f5.params.toList++Rows.sinkFaultsSpec.plain.varTypes Tryz.prog) (ds++gs)).all (·≤reachBytes)=true:=hsz
 rw[Tryz.params5]at hA hval hsz'
 clear hval0 hA0 hsz
 obtain⟨v0,vs0,d0,ds0,p0,q0,hargs0,rfl,rfl,h0,r0⟩:=trodAll_cons hA
 obtain⟨rfl,rfl,rfl⟩:=trodAll_nil r0
 obtain rfl:args = #[v0]:=by cases args;simp_all
 simp only[List.cons_append,List.nil_append,DataW.weightsEach,List.all_append,Bool.and_eq_true]at hsz'
 obtain⟨l,hr0,ok0⟩:=arg_one (opens_slice (b:=112) o18Opens Tryz.underlying22 (by kernel_rfl) (by kernel_rfl) (by decide)) (by rw[Tryz.underlying22];rfl) (hval 0 22 v0 rfl rfl) h0 hsz'.1
 obtain⟨v'0,hv'0,hr0⟩:=hr0
 obtain rfl:v0=v'0:=by simpa using hv'0
 refine (sinkFaults_law l ok0.2 v0 W hr0).mono λe W' ⟨he,hf⟩=>⟨_,he,?_⟩
 exact law_post (P:=Tryz.prog) Tryz.laidOut (of_decide_eq_true (by kernel_rfl)) rfl rfl Tryz.underlying4 (λds hds=>by match ds,hds with|[d0],_=>exact⟨rfl,rfl,rfl⟩) hW' hf
theorem sinkFaults_fn:Tryz.checked.prog.funcNamed Rows.sinkFaultsRow.func=some 5:=by kernel_rfl
theorem sinkFaults_jA:jnA Tryz.prog Tryz.f5 Rows.sinkFaultsSpec Rows.sinkFaultsRow=true:=by kernel_rfl
theorem sinkFaults_jB:jnB Tryz.prog 5 Rows.sinkFaultsRow=true:=by kernel_rfl
theorem sinkFaults_jC:jnC Tryz.prog 5 Rows.sinkFaultsRow=true:=by kernel_rfl
theorem sinkFaults_jD:jnD Tryz.prog 5 Rows.sinkFaultsRow=true:=by kernel_rfl
theorem sinkFaults_jE:jnE Tryz.prog Tryz.f5 Rows.sinkFaultsSpec Rows.sinkFaultsRow=true:=by kernel_rfl
theorem sinkFaults_jF:jnF Tryz.prog Rows.sinkFaultsRow=true:=by kernel_rfl
theorem sinkFaults_jG:jnG Tryz.prog Tryz.f5 Rows.sinkFaultsSpec Rows.sinkFaultsRow=true:=by kernel_rfl
theorem sinkFaults_jn:joinedFacts Tryz.checked.prog 5 Tryz.f5 Rows.sinkFaultsSpec Rows.sinkFaultsRow=true:=joined_of sinkFaults_jA sinkFaults_jB sinkFaults_jC sinkFaults_jD sinkFaults_jE sinkFaults_jF sinkFaults_jG rfl rfl
theorem sinkFaults_holds:Rows.SinkFaultsSaid:=
 OpenClaim.holds_of_wide 5 Tryz.f5 rfl rfl rfl rfl rfl rfl rfl ⟨rfl,rfl,rfl,rfl,rfl⟩ rfl rfl rfl rfl rfl sinkFaults_fn Tryz.func5 sinkFaults_jn
  (of_decide_eq_true (by kernel_rfl)) (by unfold Func.isWrapper;first|(rw[if_pos (by decide +kernel)];kernel_rfl)|(rw[if_neg (by decide +kernel)];exact⟨rfl,rfl⟩))
  (λos started H enc _=>sinkFaults_lifted os started H enc)
end Go.Proofs.YtnmhmnnadkclbaaGreat
