/-
  The statement WriterNews holds: for all inputs the Go function returns true, and the input reads as before.
  No condition beyond the row's own.
-/
import Derived.Test.YtnmhmnnadkclbaaGreatJ12
namespace Go.Proofs.YtnmhmnnadkclbaaGreat
set_option linter.unusedVariables false
open Go.ChangeShapes Go.WideShapes Go.ChangeAt Go.RowKit
set_option maxRecDepth 100000 in
theorem writerNews_lifted(os:Os)(started:os.Started)(H:Type)(enc:TypeId × Value→H):
  ReturnsInHanded {} Tryz.checked os 8 .any (Rows.writerNewsSpec.pre6 enc Tryz.prog Tryz.f8 Rows.writerNewsRow.domain false) (Rows.writerNewsSpec.post enc Tryz.prog Tryz.f8 false true false false):=by
 refine returnsInHanded_of_change_sized (C:=Tryz.checked) Tryz.own started (by kernel_rfl) Tryz.func8
  (ChangeSpec.witness6 (enc:=enc) (C:=Tryz.checked) false ⟨#[],#[.int .i64 0,.slice none 0 0],[]⟩ 12 (by kernel_rfl) (by kernel_rfl) (by kernel_rfl) (by kernel_rfl)) ?_
 intro W base args ds gs before hval0 hW _ hsz _
 have hval:∀(j:Nat) t v,Tryz.f8.params[j]?=some t→args[j]?=some v→Value.okWide Tryz.prog W .any base t v:=hval0
 have hW':DataW.Whole enc Tryz.prog Tryz.f8.params.toList Rows.writerNewsSpec.vars false W args.toList ds gs before:=hW
 obtain⟨p,q,hA0,_,_,_,_⟩:=hW
 have hA:DataW.TrodAll enc Tryz.prog W 0 (λ_=>true) true Tryz.f8.params.toList args.toList ds p:=hA0
 have hsz':(DataW.weightsEach Tryz.prog (Tryz.f8.params.toList++Rows.writerNewsSpec.plain.varTypes Tryz.prog) (ds++gs)).all (·≤reachBytes)=true:=hsz
 rw[Tryz.params8]at hA hval hsz'
 clear hval0 hA0 hsz
 obtain⟨v0,vs0,d0,ds0,p0,q0,hargs0,rfl,rfl,h0,r0⟩:=trodAll_cons hA
 obtain⟨v1,vs1,d1,ds1,p1,q1,hargs1,rfl,rfl,h1,r1⟩:=trodAll_cons r0
 obtain⟨rfl,rfl,rfl⟩:=trodAll_nil r1
 obtain rfl:args = #[v0,v1]:=by cases args;simp_all
 simp only[List.cons_append,List.nil_append,DataW.weightsEach,List.all_append,Bool.and_eq_true]at hsz'
 obtain⟨n,hr0,ok0⟩:=arg_one (opens_int (k:=.i64) Tryz.underlying3 (by kernel_rfl)) (by rw[Tryz.underlying3];rfl) (hval 0 3 v0 rfl rfl) h0 hsz'.1
 obtain rfl:v0= .int .i64 n:=by have h:[v0]=[.int .i64 n]:=hr0;simpa using h
 obtain⟨l,hr1,ok1⟩:=arg_one (opens_slice (b:=56) itemOpens Tryz.underlying75 (by kernel_rfl) (by kernel_rfl) (by decide)) (by rw[Tryz.underlying75];rfl) (hval 1 75 v1 rfl rfl) h1 hsz'.2.1
 obtain⟨v'1,hv'1,hr1⟩:=hr1
 obtain rfl:v1=v'1:=by simpa using hv'1
 refine (writerNews_law n l ok1.2 v1 W hr1).mono λe W' ⟨he,hf⟩=>⟨_,he,?_⟩
 exact law_post (P:=Tryz.prog) Tryz.laidOut (of_decide_eq_true (by kernel_rfl)) rfl rfl Tryz.underlying4 (λds hds=>by match ds,hds with|[d0,d1],_=>exact⟨rfl,rfl,rfl⟩) hW' hf
theorem writerNews_fn:Tryz.checked.prog.funcNamed Rows.writerNewsRow.func=some 8:=by kernel_rfl
theorem writerNews_jA:jnA Tryz.prog Tryz.f8 Rows.writerNewsSpec Rows.writerNewsRow=true:=by kernel_rfl
theorem writerNews_jB:jnB Tryz.prog 8 Rows.writerNewsRow=true:=by kernel_rfl
theorem writerNews_jC:jnC Tryz.prog 8 Rows.writerNewsRow=true:=by kernel_rfl
theorem writerNews_jD:jnD Tryz.prog 8 Rows.writerNewsRow=true:=by kernel_rfl
theorem writerNews_jE:jnE Tryz.prog Tryz.f8 Rows.writerNewsSpec Rows.writerNewsRow=true:=by kernel_rfl
theorem writerNews_jF:jnF Tryz.prog Rows.writerNewsRow=true:=by kernel_rfl
theorem writerNews_jG:jnG Tryz.prog Tryz.f8 Rows.writerNewsSpec Rows.writerNewsRow=true:=by kernel_rfl
theorem writerNews_jn:joinedFacts Tryz.checked.prog 8 Tryz.f8 Rows.writerNewsSpec Rows.writerNewsRow=true:=joined_of writerNews_jA writerNews_jB writerNews_jC writerNews_jD writerNews_jE writerNews_jF writerNews_jG rfl rfl
theorem writerNews_holds:Rows.WriterNewsSaid:=
 OpenClaim.holds_of_wide 8 Tryz.f8 rfl rfl rfl rfl rfl rfl rfl ⟨rfl,rfl,rfl,rfl,rfl⟩ rfl rfl rfl rfl rfl writerNews_fn Tryz.func8 writerNews_jn
  (of_decide_eq_true (by kernel_rfl)) (by unfold Func.isWrapper;first|(rw[if_pos (by decide +kernel)];kernel_rfl)|(rw[if_neg (by decide +kernel)];exact⟨rfl,rfl⟩))
  (λos started H enc _=>writerNews_lifted os started H enc)
end Go.Proofs.YtnmhmnnadkclbaaGreat
