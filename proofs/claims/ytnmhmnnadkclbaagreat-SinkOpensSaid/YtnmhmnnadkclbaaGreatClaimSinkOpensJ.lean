/-
  The statement SinkOpens holds: for all inputs the Go function returns true, and the input reads as before.
  No condition beyond the row's own.
-/
import Derived.Test.YtnmhmnnadkclbaaGreatJ12
namespace Go.Proofs.YtnmhmnnadkclbaaGreat
set_option linter.unusedVariables false
open Go.ChangeShapes Go.WideShapes Go.ChangeAt Go.RowKit
set_option maxRecDepth 100000 in
theorem sinkOpens_lifted(os:Os)(started:os.Started)(H:Type)(enc:TypeId × Value→H):
  ReturnsInHanded {} Tryz.checked os 3 .any (Rows.sinkOpensSpec.pre6 enc Tryz.prog Tryz.f3 Rows.sinkOpensRow.domain false) (Rows.sinkOpensSpec.post enc Tryz.prog Tryz.f3 false true false false):=by
 refine returnsInHanded_of_change_sized (C:=Tryz.checked) Tryz.own started (by kernel_rfl) Tryz.func3
  (ChangeSpec.witness6 (enc:=enc) (C:=Tryz.checked) false ⟨#[],#[.slice none 0 0,.slice none 0 0],[]⟩ 12 (by kernel_rfl) (by kernel_rfl) (by kernel_rfl) (by kernel_rfl)) ?_
 intro W base args ds gs before hval0 hW _ hsz _
 have hval:∀(j:Nat) t v,Tryz.f3.params[j]?=some t→args[j]?=some v→Value.okWide Tryz.prog W .any base t v:=hval0
 have hW':DataW.Whole enc Tryz.prog Tryz.f3.params.toList Rows.sinkOpensSpec.vars false W args.toList ds gs before:=hW
 obtain⟨p,q,hA0,_,_,_,_⟩:=hW
 have hA:DataW.TrodAll enc Tryz.prog W 0 (λ_=>true) true Tryz.f3.params.toList args.toList ds p:=hA0
 have hsz':(DataW.weightsEach Tryz.prog (Tryz.f3.params.toList++Rows.sinkOpensSpec.plain.varTypes Tryz.prog) (ds++gs)).all (·≤reachBytes)=true:=hsz
 rw[Tryz.params3]at hA hval hsz'
 clear hval0 hA0 hsz
 obtain⟨v0,vs0,d0,ds0,p0,q0,hargs0,rfl,rfl,h0,r0⟩:=trodAll_cons hA
 obtain⟨v1,vs1,d1,ds1,p1,q1,hargs1,rfl,rfl,h1,r1⟩:=trodAll_cons r0
 obtain⟨rfl,rfl,rfl⟩:=trodAll_nil r1
 obtain rfl:args = #[v0,v1]:=by cases args;simp_all
 simp only[List.cons_append,List.nil_append,DataW.weightsEach,List.all_append,Bool.and_eq_true]at hsz'
 obtain⟨l,hr0,ok0⟩:=arg_one (opens_slice (b:=112) o18Opens Tryz.underlying22 (by kernel_rfl) (by kernel_rfl) (by decide)) (by rw[Tryz.underlying22];rfl) (hval 0 22 v0 rfl rfl) h0 hsz'.1
 obtain⟨v'0,hv'0,hr0⟩:=hr0
 obtain rfl:v0=v'0:=by simpa using hv'0
 obtain⟨b_,hr1,ok1⟩:=arg_one (opens_slice (b:=24) (opens_slice (b:=1) (opens_int (k:=.u8) Tryz.underlying5 (by kernel_rfl)) Tryz.underlying54 (by kernel_rfl) (by kernel_rfl) (by decide)) Tryz.underlying23 (by kernel_rfl) (by kernel_rfl) (by decide)) (by rw[Tryz.underlying23];rfl) (hval 1 23 v1 rfl rfl) h1 hsz'.2.1
 obtain⟨v'1,hv'1,hr1⟩:=hr1
 obtain rfl:v1=v'1:=by simpa using hv'1
 refine (sinkOpens_law l b_ ok0.2 ok1 v0 v1 W hr0 hr1).mono λe W' ⟨he,hf⟩=>⟨_,he,?_⟩
 exact law_post (P:=Tryz.prog) Tryz.laidOut (of_decide_eq_true (by kernel_rfl)) rfl rfl Tryz.underlying4 (λds hds=>by match ds,hds with|[d0,d1],_=>exact⟨rfl,rfl,rfl⟩) hW' hf
theorem sinkOpens_fn:Tryz.checked.prog.funcNamed Rows.sinkOpensRow.func=some 3:=by kernel_rfl
theorem sinkOpens_jA:jnA Tryz.prog Tryz.f3 Rows.sinkOpensSpec Rows.sinkOpensRow=true:=by kernel_rfl
theorem sinkOpens_jB:jnB Tryz.prog 3 Rows.sinkOpensRow=true:=by kernel_rfl
theorem sinkOpens_jC:jnC Tryz.prog 3 Rows.sinkOpensRow=true:=by kernel_rfl
theorem sinkOpens_jD:jnD Tryz.prog 3 Rows.sinkOpensRow=true:=by kernel_rfl
theorem sinkOpens_jE:jnE Tryz.prog Tryz.f3 Rows.sinkOpensSpec Rows.sinkOpensRow=true:=by kernel_rfl
theorem sinkOpens_jF:jnF Tryz.prog Rows.sinkOpensRow=true:=by kernel_rfl
theorem sinkOpens_jG:jnG Tryz.prog Tryz.f3 Rows.sinkOpensSpec Rows.sinkOpensRow=true:=by kernel_rfl
theorem sinkOpens_jn:joinedFacts Tryz.checked.prog 3 Tryz.f3 Rows.sinkOpensSpec Rows.sinkOpensRow=true:=joined_of sinkOpens_jA sinkOpens_jB sinkOpens_jC sinkOpens_jD sinkOpens_jE sinkOpens_jF sinkOpens_jG rfl rfl
theorem sinkOpens_holds:Rows.SinkOpensSaid:=
 OpenClaim.holds_of_wide 3 Tryz.f3 rfl rfl rfl rfl rfl rfl rfl ⟨rfl,rfl,rfl,rfl,rfl⟩ rfl rfl rfl rfl rfl sinkOpens_fn Tryz.func3 sinkOpens_jn
  (of_decide_eq_true (by kernel_rfl)) (by unfold Func.isWrapper;first|(rw[if_pos (by decide +kernel)];kernel_rfl)|(rw[if_neg (by decide +kernel)];exact⟨rfl,rfl⟩))
  (λos started H enc _=>sinkOpens_lifted os started H enc)
end Go.Proofs.YtnmhmnnadkclbaaGreat
