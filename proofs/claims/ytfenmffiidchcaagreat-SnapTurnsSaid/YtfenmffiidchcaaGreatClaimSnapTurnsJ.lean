/-
  The statement SnapTurns holds: for all inputs the Go function returns true, and the input reads as before.
  No condition beyond the row's own.
-/
import Derived.Test.YtfenmffiidchcaaGreatJ14
namespace Go.Proofs.YtfenmffiidchcaaGreat
set_option linter.unusedVariables false
open Go.ChangeShapes Go.WideShapes Go.ChangeAt Go.RowKit
set_option maxRecDepth 100000 in
theorem snapTurns_lifted(os:Os)(started:os.Started)(H:Type)(enc:TypeId × Value->H):
  ReturnsInHanded {} Tryz.checked os 8 .any (Rows.snapTurnsSpec.pre6 enc Tryz.prog Tryz.f8 Rows.snapTurnsRow.domain false) (Rows.snapTurnsSpec.post enc Tryz.prog Tryz.f8 false true false false):=by
 refine returnsInHanded_of_change_sized (C:=Tryz.checked) Tryz.own started (by kernel_rfl) Tryz.func8
  (ChangeSpec.witness6 (enc:=enc) (C:=Tryz.checked) false ⟨#[],#[.slice none 0 0,.int .i64 0],[]⟩ 12 (by kernel_rfl) (by kernel_rfl) (by kernel_rfl) (by kernel_rfl)) ?_
 intro W base args ds gs before hval0 hW _ kH _
 have lM:∀(j:Nat) t v,Tryz.f8.params[j]?=some t->args[j]?=some v->Value.okWide Tryz.prog W .any base t v:=hval0
 have BJ:DataW.Whole enc Tryz.prog Tryz.f8.params.toList Rows.snapTurnsSpec.vars false W args.toList ds gs before:=hW
 obtain⟨p,q,hA0,_,_,_,_⟩:=hW
 have hA:DataW.TrodAll enc Tryz.prog W 0 (λ_=>true) true Tryz.f8.params.toList args.toList ds p:=hA0
 have hsz':(DataW.weightsEach Tryz.prog (Tryz.f8.params.toList++Rows.snapTurnsSpec.plain.varTypes Tryz.prog) (ds++gs)).all (·<=reachBytes)=true:=kH
 rw[Tryz.params8]at hA lM hsz'
 clear hval0 hA0 kH
 obtain⟨v0,C4,d0,ds0,p0,q0,hargs0,rfl,rfl,h0,r0⟩:=trodAll_cons hA
 obtain⟨v1,vs1,d1,U5,p1,q1,hargs1,rfl,rfl,h1,r1⟩:=trodAll_cons r0
 obtain⟨rfl,rfl,rfl⟩:=trodAll_nil r1
 obtain rfl:args = #[v0,v1]:=by cases args;simp_all
 simp only[List.cons_append,List.nil_append,DataW.weightsEach,List.all_append,Bool.and_eq_true]at hsz'
 obtain⟨weights,Xf,ok0⟩:=b7l (RD (b:=8) (tm (k:=.i64) Tryz.underlying3 (by kernel_rfl)) Tryz.underlying23 (by kernel_rfl) (by kernel_rfl) (by decide)) (by rw[Tryz.underlying23];rfl) (lM 0 23 v0 rfl rfl) h0 hsz'.1
 obtain⟨v'0,hv'0,Xf⟩:=Xf
 obtain rfl:v0=v'0:=by simpa using hv'0
 obtain⟨rows,Ae,Rt⟩:=b7l (tm (k:=.i64) Tryz.underlying3 (by kernel_rfl)) (by rw[Tryz.underlying3];rfl) (lM 1 3 v1 rfl rfl) h1 hsz'.2.1
 obtain rfl:v1= .int .i64 rows:=by have h:[v1]=[.int .i64 rows]:=Ae;simpa using h
 refine (b9z weights rows (by have:=ok0.1;omega) v0 W Xf).mono λe W' ⟨he,hf⟩=>⟨_,he,?_⟩
 exact b9j (P:=Tryz.prog) Tryz.laidOut (of_decide_eq_true (by kernel_rfl)) rfl rfl Tryz.underlying4 (λds hds=>by match ds,hds with|[d0,d1],_=>exact⟨rfl,rfl,rfl⟩) BJ hf
theorem snapTurns_fn:Tryz.checked.prog.funcNamed Rows.snapTurnsRow.func=some 8:=by kernel_rfl
theorem snapTurns_jA:PE Tryz.prog Tryz.f8 Rows.snapTurnsSpec Rows.snapTurnsRow=true:=by kernel_rfl
theorem snapTurns_jB:PG Tryz.prog 8 Rows.snapTurnsRow=true:=by kernel_rfl
theorem snapTurns_jC:PH Tryz.prog 8 Rows.snapTurnsRow=true:=by kernel_rfl
theorem snapTurns_jD:PI Tryz.prog 8 Rows.snapTurnsRow=true:=by kernel_rfl
theorem snapTurns_jE:PJ Tryz.prog Tryz.f8 Rows.snapTurnsSpec Rows.snapTurnsRow=true:=by kernel_rfl
theorem snapTurns_jF:PK Tryz.prog Rows.snapTurnsRow=true:=by kernel_rfl
theorem snapTurns_jG:PL Tryz.prog Tryz.f8 Rows.snapTurnsSpec Rows.snapTurnsRow=true:=by kernel_rfl
theorem snapTurns_jn:joinedFacts Tryz.checked.prog 8 Tryz.f8 Rows.snapTurnsSpec Rows.snapTurnsRow=true:=b9f snapTurns_jA snapTurns_jB snapTurns_jC snapTurns_jD snapTurns_jE snapTurns_jF snapTurns_jG rfl rfl
theorem snapTurns_holds:Rows.SnapTurnsSaid:=
 OpenClaim.holds_of_wide 8 Tryz.f8 rfl rfl rfl rfl rfl rfl rfl ⟨rfl,rfl,rfl,rfl,rfl⟩ rfl rfl rfl rfl rfl snapTurns_fn Tryz.func8 snapTurns_jn
  (of_decide_eq_true (by kernel_rfl)) (by unfold Func.isWrapper;first|(rw[if_pos (by decide +kernel)];kernel_rfl)|(rw[if_neg (by decide +kernel)];exact⟨rfl,rfl⟩))
  (λos started H enc _=>snapTurns_lifted os started H enc)
end Go.Proofs.YtfenmffiidchcaaGreat
