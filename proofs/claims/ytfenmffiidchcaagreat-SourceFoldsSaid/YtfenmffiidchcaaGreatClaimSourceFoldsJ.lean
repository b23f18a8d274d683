/-
  The statement SourceFolds holds: for all inputs the Go function returns true, and the input reads as before.
  No condition beyond the row's own.
-/
import Derived.Test.YtfenmffiidchcaaGreatJ12
namespace Go.Proofs.YtfenmffiidchcaaGreat
set_option linter.unusedVariables false
open Go.ChangeShapes Go.WideShapes Go.ChangeAt Go.RowKit
set_option maxRecDepth 100000 in
theorem sourceFolds_lifted(os:Os)(started:os.Started)(H:Type)(enc:TypeId × Value→H):
  ReturnsInHanded {} Tryz.checked os 6 .any (Rows.sourceFoldsSpec.pre6 enc Tryz.prog Tryz.f6 Rows.sourceFoldsRow.domain false) (Rows.sourceFoldsSpec.post enc Tryz.prog Tryz.f6 false true false false):=by
 refine returnsInHanded_of_change_sized (C:=Tryz.checked) Tryz.own started (by kernel_rfl) Tryz.func6
  (ChangeSpec.witness6 (enc:=enc) (C:=Tryz.checked) false ⟨#[],#[.slice none 0 0,.slice none 0 0],[]⟩ 12 (by kernel_rfl) (by kernel_rfl) (by kernel_rfl) (by kernel_rfl)) ?_
 intro W base args ds gs before hval0 hW _ hsz _
 have hval:∀(j:Nat) t v,Tryz.f6.params[j]?=some t→args[j]?=some v→Value.okWide Tryz.prog W .any base t v:=hval0
 have hW':DataW.Whole enc Tryz.prog Tryz.f6.params.toList Rows.sourceFoldsSpec.vars false W args.toList ds gs before:=hW
 obtain⟨p,q,hA0,_,_,_,_⟩:=hW
 have hA:DataW.TrodAll enc Tryz.prog W 0 (λ_=>true) true Tryz.f6.params.toList args.toList ds p:=hA0
 have hsz':(DataW.weightsEach Tryz.prog (Tryz.f6.params.toList++Rows.sourceFoldsSpec.plain.varTypes Tryz.prog) (ds++gs)).all (·≤reachBytes)=true:=hsz
 rw[Tryz.params6]at hA hval hsz'
 clear hval0 hA0 hsz
 obtain⟨v0,vs0,d0,ds0,p0,q0,hargs0,rfl,rfl,h0,r0⟩:=trodAll_cons hA
 obtain⟨v1,vs1,d1,ds1,p1,q1,hargs1,rfl,rfl,h1,r1⟩:=trodAll_cons r0
 obtain⟨rfl,rfl,rfl⟩:=trodAll_nil r1
 obtain rfl:args = #[v0,v1]:=by cases args;simp_all
 simp only[List.cons_append,List.nil_append,DataW.weightsEach,List.all_append,Bool.and_eq_true]at hsz'
 obtain⟨l,hr0,ok0⟩:=arg_one (opens_slice (b:=72) txnOpens Tryz.underlying32 (by kernel_rfl) (by kernel_rfl) (by decide)) (by rw[Tryz.underlying32];rfl) (hval 0 32 v0 rfl rfl) h0 hsz'.1
 obtain⟨v'0,hv'0,hr0⟩:=hr0
 obtain rfl:v0=v'0:=by simpa using hv'0
 obtain⟨bad,hr1,ok1⟩:=arg_one (opens_slice (b:=40) chgOpens Tryz.underlying35 (by kernel_rfl) (by kernel_rfl) (by decide)) (by rw[Tryz.underlying35];rfl) (hval 1 35 v1 rfl rfl) h1 hsz'.2.1
 obtain⟨v'1,hv'1,hr1⟩:=hr1
 obtain rfl:v1=v'1:=by simpa using hv'1
 refine (sourceFolds_law l bad ok0.2 (by have:=ok1.1;omega) v0 v1 W hr0 hr1).mono λe W' ⟨he,hf⟩=>⟨_,he,?_⟩
 exact law_post (P:=Tryz.prog) Tryz.laidOut (of_decide_eq_true (by kernel_rfl)) rfl rfl Tryz.underlying4 (λds hds=>by match ds,hds with|[d0,d1],_=>exact⟨rfl,rfl,rfl⟩) hW' hf
theorem sourceFolds_fn:Tryz.checked.prog.funcNamed Rows.sourceFoldsRow.func=some 6:=by kernel_rfl
theorem sourceFolds_jA:jnA Tryz.prog Tryz.f6 Rows.sourceFoldsSpec Rows.sourceFoldsRow=true:=by kernel_rfl
theorem sourceFolds_jB:jnB Tryz.prog 6 Rows.sourceFoldsRow=true:=by kernel_rfl
theorem sourceFolds_jC:jnC Tryz.prog 6 Rows.sourceFoldsRow=true:=by kernel_rfl
theorem sourceFolds_jD:jnD Tryz.prog 6 Rows.sourceFoldsRow=true:=by kernel_rfl
theorem sourceFolds_jE:jnE Tryz.prog Tryz.f6 Rows.sourceFoldsSpec Rows.sourceFoldsRow=true:=by kernel_rfl
theorem sourceFolds_jF:jnF Tryz.prog Rows.sourceFoldsRow=true:=by kernel_rfl
theorem sourceFolds_jG:jnG Tryz.prog Tryz.f6 Rows.sourceFoldsSpec Rows.sourceFoldsRow=true:=by kernel_rfl
theorem sourceFolds_jn:joinedFacts Tryz.checked.prog 6 Tryz.f6 Rows.sourceFoldsSpec Rows.sourceFoldsRow=true:=joined_of sourceFolds_jA sourceFolds_jB sourceFolds_jC sourceFolds_jD sourceFolds_jE sourceFolds_jF sourceFolds_jG rfl rfl
theorem sourceFolds_holds:Rows.SourceFoldsSaid:=
 OpenClaim.holds_of_wide 6 Tryz.f6 rfl rfl rfl rfl rfl rfl rfl ⟨rfl,rfl,rfl,rfl,rfl⟩ rfl rfl rfl rfl rfl sourceFolds_fn Tryz.func6 sourceFolds_jn
  (of_decide_eq_true (by kernel_rfl)) (by unfold Func.isWrapper;first|(rw[if_pos (by decide +kernel)];kernel_rfl)|(rw[if_neg (by decide +kernel)];exact⟨rfl,rfl⟩))
  (λos started H enc _=>sourceFolds_lifted os started H enc)
end Go.Proofs.YtfenmffiidchcaaGreat
