/-
  The statement WriterAll holds: for all inputs the Go function returns true, and the input reads as before.
  No condition beyond the row's own.
-/
import Derived.Test.YtnmhmnnadkclbaaGreatJ12
namespace Go.Proofs.YtnmhmnnadkclbaaGreat
set_option linter.unusedVariables false
open Go.ChangeShapes Go.WideShapes Go.ChangeAt Go.RowKit
set_option maxRecDepth 100000 in
theorem writerAll_lifted(os:Os)(started:os.Started)(H:Type)(enc:TypeId × Value→H):
  ReturnsInHanded {} Tryz.checked os 10 .any (Rows.writerAllSpec.pre6 enc Tryz.prog Tryz.f10 Rows.writerAllRow.domain false) (Rows.writerAllSpec.post enc Tryz.prog Tryz.f10 false true false false):=by
 refine returnsInHanded_of_change_sized (C:=Tryz.checked) Tryz.own started (by kernel_rfl) Tryz.func10
  (ChangeSpec.witness6 (enc:=enc) (C:=Tryz.checked) false ⟨#[],#[.agg #[.int .i64 0,.int .i64 0,.int .i64 0,.int .i64 0,.int .i64 0,.int .i64 0,.int .i64 0,.int .i64 0,.int .i64 0,.int .i64 0],.slice none 0 0,.slice none 0 0,.slice none 0 0],[]⟩ 12 (by kernel_rfl) (by kernel_rfl) (by kernel_rfl) (by kernel_rfl)) ?_
 intro W base args ds gs before hval0 hW _ hsz _
 have hval:∀(j:Nat) t v,Tryz.f10.params[j]?=some t→args[j]?=some v→Value.okWide Tryz.prog W .any base t v:=hval0
 have hW':DataW.Whole enc Tryz.prog Tryz.f10.params.toList Rows.writerAllSpec.vars false W args.toList ds gs before:=hW
 obtain⟨p,q,hA0,_,_,_,_⟩:=hW
 have hA:DataW.TrodAll enc Tryz.prog W 0 (λ_=>true) true Tryz.f10.params.toList args.toList ds p:=hA0
 have hsz':(DataW.weightsEach Tryz.prog (Tryz.f10.params.toList++Rows.writerAllSpec.plain.varTypes Tryz.prog) (ds++gs)).all (·≤reachBytes)=true:=hsz
 rw[Tryz.params10]at hA hval hsz'
 clear hval0 hA0 hsz
 obtain⟨v0,vs0,d0,ds0,p0,q0,hargs0,rfl,rfl,h0,r0⟩:=trodAll_cons hA
 obtain⟨v1,vs1,d1,ds1,p1,q1,hargs1,rfl,rfl,h1,r1⟩:=trodAll_cons r0
 obtain⟨v2,vs2,d2,ds2,p2,q2,hargs2,rfl,rfl,h2,r2⟩:=trodAll_cons r1
 obtain⟨v3,vs3,d3,ds3,p3,q3,hargs3,rfl,rfl,h3,r3⟩:=trodAll_cons r2
 obtain⟨rfl,rfl,rfl⟩:=trodAll_nil r3
 obtain rfl:args = #[v0,v1,v2,v3]:=by cases args;simp_all
 simp only[List.cons_append,List.nil_append,DataW.weightsEach,List.all_append,Bool.and_eq_true]at hsz'
 obtain⟨c,cs0,rfl,hr0,ok0⟩:=arg_agg cfgOpens Tryz.underlying109 (hval 0 109 v0 rfl rfl) h0 hsz'.1
 obtain⟨l,hr1,ok1⟩:=arg_one (opens_slice (b:=56) itemOpens Tryz.underlying75 (by kernel_rfl) (by kernel_rfl) (by decide)) (by rw[Tryz.underlying75];rfl) (hval 1 75 v1 rfl rfl) h1 hsz'.2.1
 obtain⟨v'1,hv'1,hr1⟩:=hr1
 obtain rfl:v1=v'1:=by simpa using hv'1
 obtain⟨f_,hr2,ok2⟩:=arg_one (opens_slice (b:=16) ftOpens Tryz.underlying39 (by kernel_rfl) (by kernel_rfl) (by decide)) (by rw[Tryz.underlying39];rfl) (hval 2 39 v2 rfl rfl) h2 hsz'.2.2.1
 obtain⟨v'2,hv'2,hr2⟩:=hr2
 obtain rfl:v2=v'2:=by simpa using hv'2
 obtain⟨d_,hr3,ok3⟩:=arg_one (opens_slice (b:=8) (opens_int (k:=.i64) Tryz.underlying2 (by kernel_rfl)) Tryz.underlying126 (by kernel_rfl) (by kernel_rfl) (by decide)) (by rw[Tryz.underlying126];rfl) (hval 3 126 v3 rfl rfl) h3 hsz'.2.2.2.1
 obtain⟨v'3,hv'3,hr3⟩:=hr3
 obtain rfl:v3=v'3:=by simpa using hv'3
 refine (writerAll_law c l f_ d_ ok1.2 cs0 v1 v2 v3 W hr0 hr1 hr2 hr3).mono λe W' ⟨he,hf⟩=>⟨_,he,?_⟩
 exact law_post (P:=Tryz.prog) Tryz.laidOut (of_decide_eq_true (by kernel_rfl)) rfl rfl Tryz.underlying4 (λds hds=>by match ds,hds with|[d0,d1,d2,d3],_=>exact⟨rfl,rfl,rfl⟩) hW' hf
theorem writerAll_fn:Tryz.checked.prog.funcNamed Rows.writerAllRow.func=some 10:=by kernel_rfl
theorem writerAll_jA:jnA Tryz.prog Tryz.f10 Rows.writerAllSpec Rows.writerAllRow=true:=by kernel_rfl
theorem writerAll_jB:jnB Tryz.prog 10 Rows.writerAllRow=true:=by kernel_rfl
theorem writerAll_jC:jnC Tryz.prog 10 Rows.writerAllRow=true:=by kernel_rfl
theorem writerAll_jD:jnD Tryz.prog 10 Rows.writerAllRow=true:=by kernel_rfl
theorem writerAll_jE:jnE Tryz.prog Tryz.f10 Rows.writerAllSpec Rows.writerAllRow=true:=by kernel_rfl
theorem writerAll_jF:jnF Tryz.prog Rows.writerAllRow=true:=by kernel_rfl
theorem writerAll_jG:jnG Tryz.prog Tryz.f10 Rows.writerAllSpec Rows.writerAllRow=true:=by kernel_rfl
theorem writerAll_jn:joinedFacts Tryz.checked.prog 10 Tryz.f10 Rows.writerAllSpec Rows.writerAllRow=true:=joined_of writerAll_jA writerAll_jB writerAll_jC writerAll_jD writerAll_jE writerAll_jF writerAll_jG rfl rfl
theorem writerAll_holds:Rows.WriterAllSaid:=
 OpenClaim.holds_of_wide 10 Tryz.f10 rfl rfl rfl rfl rfl rfl rfl ⟨rfl,rfl,rfl,rfl,rfl⟩ rfl rfl rfl rfl rfl writerAll_fn Tryz.func10 writerAll_jn
  (of_decide_eq_true (by kernel_rfl)) (by unfold Func.isWrapper;first|(rw[if_pos (by decide +kernel)];kernel_rfl)|(rw[if_neg (by decide +kernel)];exact⟨rfl,rfl⟩))
  (λos started H enc _=>writerAll_lifted os started H enc)
end Go.Proofs.YtnmhmnnadkclbaaGreat
