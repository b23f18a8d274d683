/-
  The statement WriterPlays holds: for all inputs the Go function returns true, and the input reads as before.
  No condition beyond the row's own.
-/
import Derived.Test.YtnmhmnnadkclbaaGreatJ13
namespace Go.Proofs.YtnmhmnnadkclbaaGreat
set_option linter.unusedVariables false
open Go.ChangeShapes Go.WideShapes Go.ChangeAt Go.RowKit
set_option maxRecDepth 100000 in
theorem writerPlays_lifted(os:Os)(started:os.Started)(H:Type)(enc:TypeId × Value→H):
  ReturnsInHanded {} Tryz.checked os 11 .any (Rows.writerPlaysSpec.pre6 enc Tryz.prog Tryz.f11 Rows.writerPlaysRow.domain false) (Rows.writerPlaysSpec.post enc Tryz.prog Tryz.f11 false true false false):=by
 refine returnsInHanded_of_change_sized (C:=Tryz.checked) Tryz.own started (by kernel_rfl) Tryz.func11
  (ChangeSpec.witness6 (enc:=enc) (C:=Tryz.checked) false ⟨#[],#[.agg #[.int .i64 0,.int .i64 0,.int .i64 0,.int .i64 0,.int .i64 0,.int .i64 0,.int .i64 0,.int .i64 0,.int .i64 0,.int .i64 0],.slice none 0 0],[]⟩ 12 (by kernel_rfl) (by kernel_rfl) (by kernel_rfl) (by kernel_rfl)) ?_
 intro W base args ds gs before hval0 hW _ hsz _
 have hval:∀(j:Nat) t v,Tryz.f11.params[j]?=some t→args[j]?=some v→Value.okWide Tryz.prog W .any base t v:=hval0
 have hW':DataW.Whole enc Tryz.prog Tryz.f11.params.toList Rows.writerPlaysSpec.vars false W args.toList ds gs before:=hW
 obtain⟨p,q,hA0,_,_,_,_⟩:=hW
 have hA:DataW.TrodAll enc Tryz.prog W 0 (λ_=>true) true Tryz.f11.params.toList args.toList ds p:=hA0
 have hsz':(DataW.weightsEach Tryz.prog (Tryz.f11.params.toList++Rows.writerPlaysSpec.plain.varTypes Tryz.prog) (ds++gs)).all (·≤reachBytes)=true:=hsz
 rw[Tryz.params11]at hA hval hsz'
 clear hval0 hA0 hsz
 obtain⟨v0,vs0,d0,ds0,p0,q0,hargs0,rfl,rfl,h0,r0⟩:=trodAll_cons hA
 obtain⟨v1,vs1,d1,ds1,p1,q1,hargs1,rfl,rfl,h1,r1⟩:=trodAll_cons r0
 obtain⟨rfl,rfl,rfl⟩:=trodAll_nil r1
 obtain rfl:args = #[v0,v1]:=by cases args;simp_all
 simp only[List.cons_append,List.nil_append,DataW.weightsEach,List.all_append,Bool.and_eq_true]at hsz'
 obtain⟨c,cs0,rfl,hr0,ok0⟩:=arg_agg cfgOpens Tryz.underlying109 (hval 0 109 v0 rfl rfl) h0 hsz'.1
 obtain⟨l,hr1,ok1⟩:=arg_one (opens_slice (b:=104) o29Opens Tryz.underlying133 (by kernel_rfl) (by kernel_rfl) (by decide)) (by rw[Tryz.underlying133];rfl) (hval 1 133 v1 rfl rfl) h1 hsz'.2.1
 obtain⟨v'1,hv'1,hr1⟩:=hr1
 obtain rfl:v1=v'1:=by simpa using hv'1
 refine (writerPlays_law c l ok1.2 cs0 v1 W hr0 hr1).mono λe W' ⟨he,hf⟩=>⟨_,he,?_⟩
 exact law_post (P:=Tryz.prog) Tryz.laidOut (of_decide_eq_true (by kernel_rfl)) rfl rfl Tryz.underlying4 (λds hds=>by match ds,hds with|[d0,d1],_=>exact⟨rfl,rfl,rfl⟩) hW' hf
theorem writerPlays_fn:Tryz.checked.prog.funcNamed Rows.writerPlaysRow.func=some 11:=by kernel_rfl
theorem writerPlays_jA:jnA Tryz.prog Tryz.f11 Rows.writerPlaysSpec Rows.writerPlaysRow=true:=by kernel_rfl
theorem writerPlays_jB:jnB Tryz.prog 11 Rows.writerPlaysRow=true:=by kernel_rfl
theorem writerPlays_jC:jnC Tryz.prog 11 Rows.writerPlaysRow=true:=by kernel_rfl
theorem writerPlays_jD:jnD Tryz.prog 11 Rows.writerPlaysRow=true:=by kernel_rfl
theorem writerPlays_jE:jnE Tryz.prog Tryz.f11 Rows.writerPlaysSpec Rows.writerPlaysRow=true:=by kernel_rfl
theorem writerPlays_jF:jnF Tryz.prog Rows.writerPlaysRow=true:=by kernel_rfl
theorem writerPlays_jG:jnG Tryz.prog Tryz.f11 Rows.writerPlaysSpec Rows.writerPlaysRow=true:=by kernel_rfl
theorem writerPlays_jn:joinedFacts Tryz.checked.prog 11 Tryz.f11 Rows.writerPlaysSpec Rows.writerPlaysRow=true:=joined_of writerPlays_jA writerPlays_jB writerPlays_jC writerPlays_jD writerPlays_jE writerPlays_jF writerPlays_jG rfl rfl
theorem writerPlays_holds:Rows.WriterPlaysSaid:=
 OpenClaim.holds_of_wide 11 Tryz.f11 rfl rfl rfl rfl rfl rfl rfl ⟨rfl,rfl,rfl,rfl,rfl⟩ rfl rfl rfl rfl rfl writerPlays_fn Tryz.func11 writerPlays_jn
  (of_decide_eq_true (by kernel_rfl)) (by unfold Func.isWrapper;first|(rw[if_pos (by decide +kernel)];kernel_rfl)|(rw[if_neg (by decide +kernel)];exact⟨rfl,rfl⟩))
  (λos started H enc _=>writerPlays_lifted os started H enc)
end Go.Proofs.YtnmhmnnadkclbaaGreat
