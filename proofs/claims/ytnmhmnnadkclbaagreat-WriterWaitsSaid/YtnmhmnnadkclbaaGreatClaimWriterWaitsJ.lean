/-
  The statement WriterWaits holds: for all inputs the Go function returns true, and the input reads as before.
  No condition beyond the row's own.
-/
import Derived.Test.YtnmhmnnadkclbaaGreatJ12
namespace Go.Proofs.YtnmhmnnadkclbaaGreat
set_option linter.unusedVariables false
open Go.ChangeShapes Go.WideShapes Go.ChangeAt Go.RowKit
set_option maxRecDepth 100000 in
theorem writerWaits_lifted(os:Os)(started:os.Started)(H:Type)(enc:TypeId × Value→H):
  ReturnsInHanded {} Tryz.checked os 9 .any (Rows.writerWaitsSpec.pre6 enc Tryz.prog Tryz.f9 Rows.writerWaitsRow.domain false) (Rows.writerWaitsSpec.post enc Tryz.prog Tryz.f9 false true false false):=by
 refine returnsInHanded_of_change_sized (C:=Tryz.checked) Tryz.own started (by kernel_rfl) Tryz.func9
  (ChangeSpec.witness6 (enc:=enc) (C:=Tryz.checked) false ⟨#[],#[.agg #[.int .i64 0,.int .i64 0,.int .i64 0,.int .i64 0,.int .i64 0,.int .i64 0,.int .i64 0,.int .i64 0,.int .i64 0,.int .i64 0],.int .i64 0,.int .i64 0],[]⟩ 12 (by kernel_rfl) (by kernel_rfl) (by kernel_rfl) (by kernel_rfl)) ?_
 intro W base args ds gs before hval0 hW _ hsz _
 have hval:∀(j:Nat) t v,Tryz.f9.params[j]?=some t→args[j]?=some v→Value.okWide Tryz.prog W .any base t v:=hval0
 have hW':DataW.Whole enc Tryz.prog Tryz.f9.params.toList Rows.writerWaitsSpec.vars false W args.toList ds gs before:=hW
 obtain⟨p,q,hA0,_,_,_,_⟩:=hW
 have hA:DataW.TrodAll enc Tryz.prog W 0 (λ_=>true) true Tryz.f9.params.toList args.toList ds p:=hA0
 have hsz':(DataW.weightsEach Tryz.prog (Tryz.f9.params.toList++Rows.writerWaitsSpec.plain.varTypes Tryz.prog) (ds++gs)).all (·≤reachBytes)=true:=hsz
 rw[Tryz.params9]at hA hval hsz'
 clear hval0 hA0 hsz
 obtain⟨v0,vs0,d0,ds0,p0,q0,hargs0,rfl,rfl,h0,r0⟩:=trodAll_cons hA
 obtain⟨v1,vs1,d1,ds1,p1,q1,hargs1,rfl,rfl,h1,r1⟩:=trodAll_cons r0
 obtain⟨v2,vs2,d2,ds2,p2,q2,hargs2,rfl,rfl,h2,r2⟩:=trodAll_cons r1
 obtain⟨rfl,rfl,rfl⟩:=trodAll_nil r2
 obtain rfl:args = #[v0,v1,v2]:=by cases args;simp_all
 simp only[List.cons_append,List.nil_append,DataW.weightsEach,List.all_append,Bool.and_eq_true]at hsz'
 obtain⟨c,cs0,rfl,hr0,ok0⟩:=arg_agg cfgOpens Tryz.underlying109 (hval 0 109 v0 rfl rfl) h0 hsz'.1
 obtain⟨n,hr1,ok1⟩:=arg_one (opens_int (k:=.i64) Tryz.underlying3 (by kernel_rfl)) (by rw[Tryz.underlying3];rfl) (hval 1 3 v1 rfl rfl) h1 hsz'.2.1
 obtain rfl:v1= .int .i64 n:=by have h:[v1]=[.int .i64 n]:=hr1;simpa using h
 obtain⟨draw,hr2,ok2⟩:=arg_one (opens_int (k:=.i64) Tryz.underlying2 (by kernel_rfl)) (by rw[Tryz.underlying2];rfl) (hval 2 2 v2 rfl rfl) h2 hsz'.2.2.1
 obtain rfl:v2= .int .i64 draw:=by have h:[v2]=[.int .i64 draw]:=hr2;simpa using h
 refine (writerWaits_law c n draw cs0 W hr0).mono λe W' ⟨he,hf⟩=>⟨_,he,?_⟩
 exact law_post (P:=Tryz.prog) Tryz.laidOut (of_decide_eq_true (by kernel_rfl)) rfl rfl Tryz.underlying4 (λds hds=>by match ds,hds with|[d0,d1,d2],_=>exact⟨rfl,rfl,rfl⟩) hW' hf
theorem writerWaits_fn:Tryz.checked.prog.funcNamed Rows.writerWaitsRow.func=some 9:=by kernel_rfl
theorem writerWaits_jA:jnA Tryz.prog Tryz.f9 Rows.writerWaitsSpec Rows.writerWaitsRow=true:=by kernel_rfl
theorem writerWaits_jB:jnB Tryz.prog 9 Rows.writerWaitsRow=true:=by kernel_rfl
theorem writerWaits_jC:jnC Tryz.prog 9 Rows.writerWaitsRow=true:=by kernel_rfl
theorem writerWaits_jD:jnD Tryz.prog 9 Rows.writerWaitsRow=true:=by kernel_rfl
theorem writerWaits_jE:jnE Tryz.prog Tryz.f9 Rows.writerWaitsSpec Rows.writerWaitsRow=true:=by kernel_rfl
theorem writerWaits_jF:jnF Tryz.prog Rows.writerWaitsRow=true:=by kernel_rfl
theorem writerWaits_jG:jnG Tryz.prog Tryz.f9 Rows.writerWaitsSpec Rows.writerWaitsRow=true:=by kernel_rfl
theorem writerWaits_jn:joinedFacts Tryz.checked.prog 9 Tryz.f9 Rows.writerWaitsSpec Rows.writerWaitsRow=true:=joined_of writerWaits_jA writerWaits_jB writerWaits_jC writerWaits_jD writerWaits_jE writerWaits_jF writerWaits_jG rfl rfl
theorem writerWaits_holds:Rows.WriterWaitsSaid:=
 OpenClaim.holds_of_wide 9 Tryz.f9 rfl rfl rfl rfl rfl rfl rfl ⟨rfl,rfl,rfl,rfl,rfl⟩ rfl rfl rfl rfl rfl writerWaits_fn Tryz.func9 writerWaits_jn
  (of_decide_eq_true (by kernel_rfl)) (by unfold Func.isWrapper;first|(rw[if_pos (by decide +kernel)];kernel_rfl)|(rw[if_neg (by decide +kernel)];exact⟨rfl,rfl⟩))
  (λos started H enc _=>writerWaits_lifted os started H enc)
end Go.Proofs.YtnmhmnnadkclbaaGreat
