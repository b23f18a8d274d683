/-
  The statement SnapNews holds: for all inputs the Go function returns true, and the input reads as before.
  No condition beyond the row's own.
-/
import Derived.Test.YtfenmffiidchcaaGreatJ14
namespace Go.Proofs.YtfenmffiidchcaaGreat
set_option linter.unusedVariables false
open Go.ChangeShapes Go.WideShapes Go.ChangeAt Go.RowKit
set_option maxRecDepth 100000 in
theorem snapNews_lifted(os:Os)(started:os.Started)(H:Type)(enc:TypeId × Value→H):
  ReturnsInHanded {} Tryz.checked os 7 .any (Rows.snapNewsSpec.pre6 enc Tryz.prog Tryz.f7 Rows.snapNewsRow.domain false) (Rows.snapNewsSpec.post enc Tryz.prog Tryz.f7 false true false false):=by
 refine returnsInHanded_of_change_sized (C:=Tryz.checked) Tryz.own started (by kernel_rfl) Tryz.func7
  (ChangeSpec.witness6 (enc:=enc) (C:=Tryz.checked) false ⟨#[],#[.int .i64 0],[]⟩ 12 (by kernel_rfl) (by kernel_rfl) (by kernel_rfl) (by kernel_rfl)) ?_
 intro W base args ds gs before hval0 hW _ hsz _
 have hval:∀(j:Nat) t v,Tryz.f7.params[j]?=some t→args[j]?=some v→Value.okWide Tryz.prog W .any base t v:=hval0
 have hW':DataW.Whole enc Tryz.prog Tryz.f7.params.toList Rows.snapNewsSpec.vars false W args.toList ds gs before:=hW
 obtain⟨p,q,hA0,_,_,_,_⟩:=hW
 have hA:DataW.TrodAll enc Tryz.prog W 0 (λ_=>true) true Tryz.f7.params.toList args.toList ds p:=hA0
 have hsz':(DataW.weightsEach Tryz.prog (Tryz.f7.params.toList++Rows.snapNewsSpec.plain.varTypes Tryz.prog) (ds++gs)).all (·≤reachBytes)=true:=hsz
 rw[Tryz.params7]at hA hval hsz'
 clear hval0 hA0 hsz
 obtain⟨v0,vs0,d0,ds0,p0,q0,hargs0,rfl,rfl,h0,r0⟩:=trodAll_cons hA
 obtain⟨rfl,rfl,rfl⟩:=trodAll_nil r0
 obtain rfl:args = #[v0]:=by cases args;simp_all
 simp only[List.cons_append,List.nil_append,DataW.weightsEach,List.all_append,Bool.and_eq_true]at hsz'
 obtain⟨n,hr0,ok0⟩:=arg_one (opens_int (k:=.i64) Tryz.underlying3 (by kernel_rfl)) (by rw[Tryz.underlying3];rfl) (hval 0 3 v0 rfl rfl) h0 hsz'.1
 obtain rfl:v0= .int .i64 n:=by have h:[v0]=[.int .i64 n]:=hr0;simpa using h
 refine (snapNews_law n W).mono λe W' ⟨he,hf⟩=>⟨_,he,?_⟩
 exact law_post (P:=Tryz.prog) Tryz.laidOut (of_decide_eq_true (by kernel_rfl)) rfl rfl Tryz.underlying4 (λds hds=>by match ds,hds with|[d0],_=>exact⟨rfl,rfl,rfl⟩) hW' hf
theorem snapNews_fn:Tryz.checked.prog.funcNamed Rows.snapNewsRow.func=some 7:=by kernel_rfl
theorem snapNews_jA:jnA Tryz.prog Tryz.f7 Rows.snapNewsSpec Rows.snapNewsRow=true:=by kernel_rfl
theorem snapNews_jB:jnB Tryz.prog 7 Rows.snapNewsRow=true:=by kernel_rfl
theorem snapNews_jC:jnC Tryz.prog 7 Rows.snapNewsRow=true:=by kernel_rfl
theorem snapNews_jD:jnD Tryz.prog 7 Rows.snapNewsRow=true:=by kernel_rfl
theorem snapNews_jE:jnE Tryz.prog Tryz.f7 Rows.snapNewsSpec Rows.snapNewsRow=true:=by kernel_rfl
theorem snapNews_jF:jnF Tryz.prog Rows.snapNewsRow=true:=by kernel_rfl
theorem snapNews_jG:jnG Tryz.prog Tryz.f7 Rows.snapNewsSpec Rows.snapNewsRow=true:=by kernel_rfl
theorem snapNews_jn:joinedFacts Tryz.checked.prog 7 Tryz.f7 Rows.snapNewsSpec Rows.snapNewsRow=true:=joined_of snapNews_jA snapNews_jB snapNews_jC snapNews_jD snapNews_jE snapNews_jF snapNews_jG rfl rfl
theorem snapNews_holds:Rows.SnapNewsSaid:=
 OpenClaim.holds_of_wide 7 Tryz.f7 rfl rfl rfl rfl rfl rfl rfl ⟨rfl,rfl,rfl,rfl,rfl⟩ rfl rfl rfl rfl rfl snapNews_fn Tryz.func7 snapNews_jn
  (of_decide_eq_true (by kernel_rfl)) (by unfold Func.isWrapper;first|(rw[if_pos (by decide +kernel)];kernel_rfl)|(rw[if_neg (by decide +kernel)];exact⟨rfl,rfl⟩))
  (λos started H enc _=>snapNews_lifted os started H enc)
end Go.Proofs.YtfenmffiidchcaaGreat
