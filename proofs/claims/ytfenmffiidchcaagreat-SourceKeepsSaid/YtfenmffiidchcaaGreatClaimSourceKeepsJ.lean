/-
  The statement SourceKeeps holds: for all inputs the Go function returns true, and the input reads as before.
  No condition beyond the row's own.
-/
import Derived.Test.YtfenmffiidchcaaGreatJ12
namespace Go.Proofs.YtfenmffiidchcaaGreat
set_option linter.unusedVariables false
open Go.ChangeShapes Go.WideShapes Go.ChangeAt Go.RowKit
set_option maxRecDepth 100000 in
theorem sourceKeeps_lifted(os:Os)(started:os.Started)(H:Type)(enc:TypeId × Value→H):
  ReturnsInHanded {} Tryz.checked os 3 .any (Rows.sourceKeepsSpec.pre6 enc Tryz.prog Tryz.f3 Rows.sourceKeepsRow.domain false) (Rows.sourceKeepsSpec.post enc Tryz.prog Tryz.f3 false true false false):=by
 refine returnsInHanded_of_change_sized (C:=Tryz.checked) Tryz.own started (by kernel_rfl) Tryz.func3
  (ChangeSpec.witness6 (enc:=enc) (C:=Tryz.checked) false ⟨#[],#[.int .i64 0,.slice none 0 0,.int .i64 0,.int .i64 0,.slice none 0 0],[]⟩ 12 (by kernel_rfl) (by kernel_rfl) (by kernel_rfl) (by kernel_rfl)) ?_
 intro W base args ds gs before hval0 hW _ hsz _
 have hval:∀(j:Nat) t v,Tryz.f3.params[j]?=some t→args[j]?=some v→Value.okWide Tryz.prog W .any base t v:=hval0
 have hW':DataW.Whole enc Tryz.prog Tryz.f3.params.toList Rows.sourceKeepsSpec.vars false W args.toList ds gs before:=hW
 obtain⟨p,q,hA0,_,_,_,_⟩:=hW
 have hA:DataW.TrodAll enc Tryz.prog W 0 (λ_=>true) true Tryz.f3.params.toList args.toList ds p:=hA0
 have hsz':(DataW.weightsEach Tryz.prog (Tryz.f3.params.toList++Rows.sourceKeepsSpec.plain.varTypes Tryz.prog) (ds++gs)).all (·≤reachBytes)=true:=hsz
 rw[Tryz.params3]at hA hval hsz'
 clear hval0 hA0 hsz
 obtain⟨v0,vs0,d0,ds0,p0,q0,hargs0,rfl,rfl,h0,r0⟩:=trodAll_cons hA
 obtain⟨v1,vs1,d1,ds1,p1,q1,hargs1,rfl,rfl,h1,r1⟩:=trodAll_cons r0
 obtain⟨v2,vs2,d2,ds2,p2,q2,hargs2,rfl,rfl,h2,r2⟩:=trodAll_cons r1
 obtain⟨v3,vs3,d3,ds3,p3,q3,hargs3,rfl,rfl,h3,r3⟩:=trodAll_cons r2
 obtain⟨v4,vs4,d4,ds4,p4,q4,hargs4,rfl,rfl,h4,r4⟩:=trodAll_cons r3
 obtain⟨rfl,rfl,rfl⟩:=trodAll_nil r4
 obtain rfl:args = #[v0,v1,v2,v3,v4]:=by cases args;simp_all
 simp only[List.cons_append,List.nil_append,DataW.weightsEach,List.all_append,Bool.and_eq_true]at hsz'
 obtain⟨n,hr0,ok0⟩:=arg_one (opens_int (k:=.i64) Tryz.underlying3 (by kernel_rfl)) (by rw[Tryz.underlying3];rfl) (hval 0 3 v0 rfl rfl) h0 hsz'.1
 obtain rfl:v0= .int .i64 n:=by have h:[v0]=[.int .i64 n]:=hr0;simpa using h
 obtain⟨l,hr1,ok1⟩:=arg_one (opens_slice (b:=24) (opens_slice (b:=40) chgOpens Tryz.underlying35 (by kernel_rfl) (by kernel_rfl) (by decide)) Tryz.underlying22 (by kernel_rfl) (by kernel_rfl) (by decide)) (by rw[Tryz.underlying22];rfl) (hval 1 22 v1 rfl rfl) h1 hsz'.2.1
 obtain⟨v'1,hv'1,hr1⟩:=hr1
 obtain rfl:v1=v'1:=by simpa using hv'1
 obtain⟨at_,hr2,ok2⟩:=arg_one (opens_int (k:=.i64) Tryz.underlying3 (by kernel_rfl)) (by rw[Tryz.underlying3];rfl) (hval 2 3 v2 rfl rfl) h2 hsz'.2.2.1
 obtain rfl:v2= .int .i64 at_:=by have h:[v2]=[.int .i64 at_]:=hr2;simpa using h
 obtain⟨every,hr3,ok3⟩:=arg_one (opens_int (k:=.i64) Tryz.underlying3 (by kernel_rfl)) (by rw[Tryz.underlying3];rfl) (hval 3 3 v3 rfl rfl) h3 hsz'.2.2.2.1
 obtain rfl:v3= .int .i64 every:=by have h:[v3]=[.int .i64 every]:=hr3;simpa using h
 obtain⟨keep,hr4,ok4⟩:=arg_one (opens_slice (b:=8) (opens_int (k:=.i64) Tryz.underlying3 (by kernel_rfl)) Tryz.underlying23 (by kernel_rfl) (by kernel_rfl) (by decide)) (by rw[Tryz.underlying23];rfl) (hval 4 23 v4 rfl rfl) h4 hsz'.2.2.2.2.1
 obtain⟨v'4,hv'4,hr4⟩:=hr4
 obtain rfl:v4=v'4:=by simpa using hv'4
 refine (sourceKeeps_law n at_ every l keep (λx hx=>by have:=(ok1.2 x hx).1;omega) v1 v4 W hr1 hr4).mono λe W' ⟨he,hf⟩=>⟨_,he,?_⟩
 exact law_post (P:=Tryz.prog) Tryz.laidOut (of_decide_eq_true (by kernel_rfl)) rfl rfl Tryz.underlying4 (λds hds=>by match ds,hds with|[d0,d1,d2,d3,d4],_=>exact⟨rfl,rfl,rfl⟩) hW' hf
theorem sourceKeeps_fn:Tryz.checked.prog.funcNamed Rows.sourceKeepsRow.func=some 3:=by kernel_rfl
theorem sourceKeeps_jA:jnA Tryz.prog Tryz.f3 Rows.sourceKeepsSpec Rows.sourceKeepsRow=true:=by kernel_rfl
theorem sourceKeeps_jB:jnB Tryz.prog 3 Rows.sourceKeepsRow=true:=by kernel_rfl
theorem sourceKeeps_jC:jnC Tryz.prog 3 Rows.sourceKeepsRow=true:=by kernel_rfl
theorem sourceKeeps_jD:jnD Tryz.prog 3 Rows.sourceKeepsRow=true:=by kernel_rfl
theorem sourceKeeps_jE:jnE Tryz.prog Tryz.f3 Rows.sourceKeepsSpec Rows.sourceKeepsRow=true:=by kernel_rfl
theorem sourceKeeps_jF:jnF Tryz.prog Rows.sourceKeepsRow=true:=by kernel_rfl
theorem sourceKeeps_jG:jnG Tryz.prog Tryz.f3 Rows.sourceKeepsSpec Rows.sourceKeepsRow=true:=by kernel_rfl
theorem sourceKeeps_jn:joinedFacts Tryz.checked.prog 3 Tryz.f3 Rows.sourceKeepsSpec Rows.sourceKeepsRow=true:=joined_of sourceKeeps_jA sourceKeeps_jB sourceKeeps_jC sourceKeeps_jD sourceKeeps_jE sourceKeeps_jF sourceKeeps_jG rfl rfl
theorem sourceKeeps_holds:Rows.SourceKeepsSaid:=
 OpenClaim.holds_of_wide 3 Tryz.f3 rfl rfl rfl rfl rfl rfl rfl ⟨rfl,rfl,rfl,rfl,rfl⟩ rfl rfl rfl rfl rfl sourceKeeps_fn Tryz.func3 sourceKeeps_jn
  (of_decide_eq_true (by kernel_rfl)) (by unfold Func.isWrapper;first|(rw[if_pos (by decide +kernel)];kernel_rfl)|(rw[if_neg (by decide +kernel)];exact⟨rfl,rfl⟩))
  (λos started H enc _=>sourceKeeps_lifted os started H enc)
end Go.Proofs.YtfenmffiidchcaaGreat
