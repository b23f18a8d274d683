/-
  The statement SinkRefuses holds: for all inputs the Go function returns true, and the input reads as before.
  No condition beyond the row's own.
-/
import Derived.Test.YtnmhmnnadkclbaaGreatJ12
namespace Go.Proofs.YtnmhmnnadkclbaaGreat
set_option linter.unusedVariables false
open Go.ChangeShapes Go.WideShapes Go.ChangeAt Go.RowKit
set_option maxRecDepth 100000 in
theorem sinkRefuses_lifted(os:Os)(started:os.Started)(H:Type)(enc:TypeId × Value→H):
  ReturnsInHanded {} Tryz.checked os 6 .any (Rows.sinkRefusesSpec.pre6 enc Tryz.prog Tryz.f6 Rows.sinkRefusesRow.domain false) (Rows.sinkRefusesSpec.post enc Tryz.prog Tryz.f6 false true false false):=by
 refine returnsInHanded_of_change_sized (C:=Tryz.checked) Tryz.own started (by kernel_rfl) Tryz.func6
  (ChangeSpec.witness6 (enc:=enc) (C:=Tryz.checked) false ⟨#[],#[.slice none 0 0,.agg #[.int .i64 0,.slice none 0 0,.slice none 0 0],.agg #[.int .i64 0,.int .i64 0]],[]⟩ 12 (by kernel_rfl) (by kernel_rfl) (by kernel_rfl) (by kernel_rfl)) ?_
 intro W base args ds gs before hval0 hW _ hsz _
 have hval:∀(j:Nat) t v,Tryz.f6.params[j]?=some t→args[j]?=some v→Value.okWide Tryz.prog W .any base t v:=hval0
 have hW':DataW.Whole enc Tryz.prog Tryz.f6.params.toList Rows.sinkRefusesSpec.vars false W args.toList ds gs before:=hW
 obtain⟨p,q,hA0,_,_,_,_⟩:=hW
 have hA:DataW.TrodAll enc Tryz.prog W 0 (λ_=>true) true Tryz.f6.params.toList args.toList ds p:=hA0
 have hsz':(DataW.weightsEach Tryz.prog (Tryz.f6.params.toList++Rows.sinkRefusesSpec.plain.varTypes Tryz.prog) (ds++gs)).all (·≤reachBytes)=true:=hsz
 rw[Tryz.params6]at hA hval hsz'
 clear hval0 hA0 hsz
 obtain⟨v0,vs0,d0,ds0,p0,q0,hargs0,rfl,rfl,h0,r0⟩:=trodAll_cons hA
 obtain⟨v1,vs1,d1,ds1,p1,q1,hargs1,rfl,rfl,h1,r1⟩:=trodAll_cons r0
 obtain⟨v2,vs2,d2,ds2,p2,q2,hargs2,rfl,rfl,h2,r2⟩:=trodAll_cons r1
 obtain⟨rfl,rfl,rfl⟩:=trodAll_nil r2
 obtain rfl:args = #[v0,v1,v2]:=by cases args;simp_all
 simp only[List.cons_append,List.nil_append,DataW.weightsEach,List.all_append,Bool.and_eq_true]at hsz'
 obtain⟨l,hr0,ok0⟩:=arg_one (opens_slice (b:=112) o18Opens Tryz.underlying22 (by kernel_rfl) (by kernel_rfl) (by decide)) (by rw[Tryz.underlying22];rfl) (hval 0 22 v0 rfl rfl) h0 hsz'.1
 obtain⟨v'0,hv'0,hr0⟩:=hr0
 obtain rfl:v0=v'0:=by simpa using hv'0
 obtain⟨z,cs1,rfl,hr1,ok1⟩:=arg_agg itemOpens Tryz.underlying46 (hval 1 46 v1 rfl rfl) h1 hsz'.2.1
 obtain⟨f_,cs2,rfl,hr2,ok2⟩:=arg_agg ftOpens Tryz.underlying48 (hval 2 48 v2 rfl rfl) h2 hsz'.2.2.1
 refine (sinkRefuses_law l z f_ ok0.2 ok1 v0 cs1 cs2 W hr0 hr1 hr2).mono λe W' ⟨he,hf⟩=>⟨_,he,?_⟩
 exact law_post (P:=Tryz.prog) Tryz.laidOut (of_decide_eq_true (by kernel_rfl)) rfl rfl Tryz.underlying4 (λds hds=>by match ds,hds with|[d0,d1,d2],_=>exact⟨rfl,rfl,rfl⟩) hW' hf
theorem sinkRefuses_fn:Tryz.checked.prog.funcNamed Rows.sinkRefusesRow.func=some 6:=by kernel_rfl
theorem sinkRefuses_jA:jnA Tryz.prog Tryz.f6 Rows.sinkRefusesSpec Rows.sinkRefusesRow=true:=by kernel_rfl
theorem sinkRefuses_jB:jnB Tryz.prog 6 Rows.sinkRefusesRow=true:=by kernel_rfl
theorem sinkRefuses_jC:jnC Tryz.prog 6 Rows.sinkRefusesRow=true:=by kernel_rfl
theorem sinkRefuses_jD:jnD Tryz.prog 6 Rows.sinkRefusesRow=true:=by kernel_rfl
theorem sinkRefuses_jE:jnE Tryz.prog Tryz.f6 Rows.sinkRefusesSpec Rows.sinkRefusesRow=true:=by kernel_rfl
theorem sinkRefuses_jF:jnF Tryz.prog Rows.sinkRefusesRow=true:=by kernel_rfl
theorem sinkRefuses_jG:jnG Tryz.prog Tryz.f6 Rows.sinkRefusesSpec Rows.sinkRefusesRow=true:=by kernel_rfl
theorem sinkRefuses_jn:joinedFacts Tryz.checked.prog 6 Tryz.f6 Rows.sinkRefusesSpec Rows.sinkRefusesRow=true:=joined_of sinkRefuses_jA sinkRefuses_jB sinkRefuses_jC sinkRefuses_jD sinkRefuses_jE sinkRefuses_jF sinkRefuses_jG rfl rfl
theorem sinkRefuses_holds:Rows.SinkRefusesSaid:=
 OpenClaim.holds_of_wide 6 Tryz.f6 rfl rfl rfl rfl rfl rfl rfl ⟨rfl,rfl,rfl,rfl,rfl⟩ rfl rfl rfl rfl rfl sinkRefuses_fn Tryz.func6 sinkRefuses_jn
  (of_decide_eq_true (by kernel_rfl)) (by unfold Func.isWrapper;first|(rw[if_pos (by decide +kernel)];kernel_rfl)|(rw[if_neg (by decide +kernel)];exact⟨rfl,rfl⟩))
  (λos started H enc _=>sinkRefuses_lifted os started H enc)
end Go.Proofs.YtnmhmnnadkclbaaGreat
