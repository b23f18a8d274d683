/-
  The statement SnapWhole holds: for all inputs the Go function returns true, and the input reads as before.
  No condition beyond the row's own.
-/
import Derived.Test.YtfenmffiidchcaaGreatJ14
namespace Go.Proofs.YtfenmffiidchcaaGreat
set_option linter.unusedVariables false
open Go.ChangeShapes Go.WideShapes Go.ChangeAt Go.RowKit
set_option maxRecDepth 100000 in
theorem snapWhole_lifted(os:Os)(started:os.Started)(H:Type)(enc:TypeId × Value->H):
  ReturnsInHanded {} Tryz.checked os 10 .any (Rows.snapWholeSpec.pre6 enc Tryz.prog Tryz.f10 Rows.snapWholeRow.domain false) (Rows.snapWholeSpec.post enc Tryz.prog Tryz.f10 false true false false):=by
 refine returnsInHanded_of_change_sized (C:=Tryz.checked) Tryz.own started (by kernel_rfl) Tryz.func10
  (ChangeSpec.witness6 (enc:=enc) (C:=Tryz.checked) false ⟨#[],#[.agg #[.int .i64 0,.int .i64 0,.int .i64 0,.int .i64 0,.int .i64 0,.int .i64 0,.int .i64 0,.int .i64 0,.int .i64 0,.int .i64 0],.slice none 0 0,.slice none 0 0],[]⟩ 12 (by kernel_rfl) (by kernel_rfl) (by kernel_rfl) (by kernel_rfl)) ?_
 intro W base args ds gs before hval0 hW _ nU _
 have o8:∀(j:Nat) t v,Tryz.f10.params[j]?=some t->args[j]?=some v->Value.okWide Tryz.prog W .any base t v:=hval0
 have pk:DataW.Whole enc Tryz.prog Tryz.f10.params.toList Rows.snapWholeSpec.vars false W args.toList ds gs before:=hW
 obtain⟨p,q,hA0,_,_,_,_⟩:=hW
 have hA:DataW.TrodAll enc Tryz.prog W 0 (λ_=>true) true Tryz.f10.params.toList args.toList ds p:=hA0
 have hsz':(DataW.weightsEach Tryz.prog (Tryz.f10.params.toList++Rows.snapWholeSpec.plain.varTypes Tryz.prog) (ds++gs)).all (·<=reachBytes)=true:=nU
 rw[Tryz.params10]at hA o8 hsz'
 clear hval0 hA0 nU
 obtain⟨v0,Fa,d0,ds0,p0,q0,hargs0,rfl,rfl,h0,r0⟩:=trodAll_cons hA
 obtain⟨v1,vs1,d1,WG,p1,q1,hargs1,rfl,rfl,h1,r1⟩:=trodAll_cons r0
 obtain⟨v2,UA,d2,ds2,p2,q2,hargs2,rfl,rfl,h2,r2⟩:=trodAll_cons r1
 obtain⟨rfl,rfl,rfl⟩:=trodAll_nil r2
 obtain rfl:args = #[v0,v1,v2]:=by cases args;simp_all
 simp only[List.cons_append,List.nil_append,DataW.weightsEach,List.all_append,Bool.and_eq_true]at hsz'
 obtain⟨c,cs0,rfl,hr0,ok0⟩:=b_b b_k Tryz.underlying87 (o8 0 87 v0 rfl rfl) h0 hsz'.1
 obtain⟨rows,Ct,S6⟩:=b_c (cFf (b:=40) b_l Tryz.underlying35 (by kernel_rfl) (by kernel_rfl) (by decide)) (by rw[Tryz.underlying35];rfl) (o8 1 35 v1 rfl rfl) h1 hsz'.2.1
 obtain⟨v'1,hv'1,Ct⟩:=Ct
 obtain rfl:v1=v'1:=by simpa using hv'1
 obtain⟨more,D8,S7⟩:=b_c (cFf (b:=16) (a7x Tryz.underlying9 (by kernel_rfl)) Tryz.underlying37 (by kernel_rfl) (by kernel_rfl) (by decide)) (by rw[Tryz.underlying37];rfl) (o8 2 37 v2 rfl rfl) h2 hsz'.2.2.1
 obtain⟨v'2,hv'2,D8⟩:=D8
 obtain rfl:v2=v'2:=by simpa using hv'2
 refine (cFl c rows more (by have:=S6.1;omega) (by have:=S7.1;omega) cs0 v1 v2 W hr0 Ct D8).mono λe W' ⟨he,hf⟩=>⟨_,he,?_⟩
 exact cw8 (P:=Tryz.prog) Tryz.laidOut (of_decide_eq_true (by kernel_rfl)) rfl rfl Tryz.underlying4 (λds hds=>by match ds,hds with|[d0,d1,d2],_=>exact⟨rfl,rfl,rfl⟩) pk hf
theorem snapWhole_fn:Tryz.checked.prog.funcNamed Rows.snapWholeRow.func=some 10:=by kernel_rfl
theorem snapWhole_jA:Sf Tryz.prog Tryz.f10 Rows.snapWholeSpec Rows.snapWholeRow=true:=by kernel_rfl
theorem snapWhole_jB:Sg Tryz.prog 10 Rows.snapWholeRow=true:=by kernel_rfl
theorem snapWhole_jC:Sh Tryz.prog 10 Rows.snapWholeRow=true:=by kernel_rfl
theorem snapWhole_jD:Si Tryz.prog 10 Rows.snapWholeRow=true:=by kernel_rfl
theorem snapWhole_jE:Sj Tryz.prog Tryz.f10 Rows.snapWholeSpec Rows.snapWholeRow=true:=by kernel_rfl
theorem snapWhole_jF:Sk Tryz.prog Rows.snapWholeRow=true:=by kernel_rfl
theorem snapWhole_jG:Sl Tryz.prog Tryz.f10 Rows.snapWholeSpec Rows.snapWholeRow=true:=by kernel_rfl
theorem snapWhole_jn:joinedFacts Tryz.checked.prog 10 Tryz.f10 Rows.snapWholeSpec Rows.snapWholeRow=true:=cw4 snapWhole_jA snapWhole_jB snapWhole_jC snapWhole_jD snapWhole_jE snapWhole_jF snapWhole_jG rfl rfl
theorem snapWhole_holds:Rows.SnapWholeSaid:=
 OpenClaim.holds_of_wide 10 Tryz.f10 rfl rfl rfl rfl rfl rfl rfl ⟨rfl,rfl,rfl,rfl,rfl⟩ rfl rfl rfl rfl rfl snapWhole_fn Tryz.func10 snapWhole_jn
  (of_decide_eq_true (by kernel_rfl)) (by unfold Func.isWrapper;first|(rw[if_pos (by decide +kernel)];kernel_rfl)|(rw[if_neg (by decide +kernel)];exact⟨rfl,rfl⟩))
  (λos started H enc _=>snapWhole_lifted os started H enc)
end Go.Proofs.YtfenmffiidchcaaGreat
