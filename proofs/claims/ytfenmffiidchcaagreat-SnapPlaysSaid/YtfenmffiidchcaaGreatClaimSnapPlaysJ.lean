/-
  The statement SnapPlays holds: for all inputs the Go function returns true, and the input reads as before.
  No condition beyond the row's own.
-/
import Derived.Test.YtfenmffiidchcaaGreatJ14
namespace Go.Proofs.YtfenmffiidchcaaGreat
set_option linter.unusedVariables false
open Go.ChangeShapes Go.WideShapes Go.ChangeAt Go.RowKit
set_option maxRecDepth 100000 in
theorem snapPlays_lifted(os:Os)(started:os.Started)(H:Type)(enc:TypeId × Value->H):
  ReturnsInHanded {} Tryz.checked os 9 .any (Rows.snapPlaysSpec.pre6 enc Tryz.prog Tryz.f9 Rows.snapPlaysRow.domain false) (Rows.snapPlaysSpec.post enc Tryz.prog Tryz.f9 false true false false):=by
 refine returnsInHanded_of_change_sized (C:=Tryz.checked) Tryz.own started (by kernel_rfl) Tryz.func9
  (ChangeSpec.witness6 (enc:=enc) (C:=Tryz.checked) false ⟨#[],#[.agg #[.int .i64 0,.int .i64 0,.int .i64 0,.int .i64 0,.int .i64 0,.int .i64 0,.int .i64 0,.int .i64 0,.int .i64 0,.int .i64 0],.slice none 0 0],[]⟩ 12 (by kernel_rfl) (by kernel_rfl) (by kernel_rfl) (by kernel_rfl)) ?_
 intro W base args ds gs before hval0 hW _ nM _
 have pA:∀(j:Nat) t v,Tryz.f9.params[j]?=some t->args[j]?=some v->Value.okWide Tryz.prog W .any base t v:=hval0
 have Ej:DataW.Whole enc Tryz.prog Tryz.f9.params.toList Rows.snapPlaysSpec.vars false W args.toList ds gs before:=hW
 obtain⟨p,q,hA0,_,_,_,_⟩:=hW
 have hA:DataW.TrodAll enc Tryz.prog W 0 (λ_=>true) true Tryz.f9.params.toList args.toList ds p:=hA0
 have hsz':(DataW.weightsEach Tryz.prog (Tryz.f9.params.toList++Rows.snapPlaysSpec.plain.varTypes Tryz.prog) (ds++gs)).all (·<=reachBytes)=true:=nM
 rw[Tryz.params9]at hA pA hsz'
 clear hval0 hA0 nM
 obtain⟨v0,FK,d0,ds0,p0,q0,hargs0,rfl,rfl,h0,r0⟩:=trodAll_cons hA
 obtain⟨v1,vs1,d1,XN,p1,q1,hargs1,rfl,rfl,h1,r1⟩:=trodAll_cons r0
 obtain⟨rfl,rfl,rfl⟩:=trodAll_nil r1
 obtain rfl:args = #[v0,v1]:=by cases args;simp_all
 simp only[List.cons_append,List.nil_append,DataW.weightsEach,List.all_append,Bool.and_eq_true]at hsz'
 obtain⟨c,cs0,rfl,hr0,ok0⟩:=d_h d_p Tryz.underlying87 (pA 0 87 v0 rfl rfl) h0 hsz'.1
 obtain⟨l,CN,TU⟩:=d_i (T4 (b:=64) eF9 Tryz.underlying115 (by kernel_rfl) (by kernel_rfl) (by decide)) (by rw[Tryz.underlying115];rfl) (pA 1 115 v1 rfl rfl) h1 hsz'.2.1
 obtain⟨v'1,hv'1,CN⟩:=CN
 obtain rfl:v1=v'1:=by simpa using hv'1
 refine (eIf c l TU.2 cs0 v1 W hr0 CN).mono λe W' ⟨he,hf⟩=>⟨_,he,?_⟩
 exact eF6 (P:=Tryz.prog) Tryz.laidOut (of_decide_eq_true (by kernel_rfl)) rfl rfl Tryz.underlying4 (λds hds=>by match ds,hds with|[d0,d1],_=>exact⟨rfl,rfl,rfl⟩) Ej hf
theorem snapPlays_fn:Tryz.checked.prog.funcNamed Rows.snapPlaysRow.func=some 9:=by kernel_rfl
theorem snapPlays_jA:S7 Tryz.prog Tryz.f9 Rows.snapPlaysSpec Rows.snapPlaysRow=true:=by kernel_rfl
theorem snapPlays_jB:S8 Tryz.prog 9 Rows.snapPlaysRow=true:=by kernel_rfl
theorem snapPlays_jC:S9 Tryz.prog 9 Rows.snapPlaysRow=true:=by kernel_rfl
theorem snapPlays_jD:S' Tryz.prog 9 Rows.snapPlaysRow=true:=by kernel_rfl
theorem snapPlays_jE:S_ Tryz.prog Tryz.f9 Rows.snapPlaysSpec Rows.snapPlaysRow=true:=by kernel_rfl
theorem snapPlays_jF:Ta Tryz.prog Rows.snapPlaysRow=true:=by kernel_rfl
theorem snapPlays_jG:Tb Tryz.prog Tryz.f9 Rows.snapPlaysSpec Rows.snapPlaysRow=true:=by kernel_rfl
theorem snapPlays_jn:joinedFacts Tryz.checked.prog 9 Tryz.f9 Rows.snapPlaysSpec Rows.snapPlaysRow=true:=eF2 snapPlays_jA snapPlays_jB snapPlays_jC snapPlays_jD snapPlays_jE snapPlays_jF snapPlays_jG rfl rfl
theorem snapPlays_holds:Rows.SnapPlaysSaid:=
 OpenClaim.holds_of_wide 9 Tryz.f9 rfl rfl rfl rfl rfl rfl rfl ⟨rfl,rfl,rfl,rfl,rfl⟩ rfl rfl rfl rfl rfl snapPlays_fn Tryz.func9 snapPlays_jn
  (of_decide_eq_true (by kernel_rfl)) (by unfold Func.isWrapper;first|(rw[if_pos (by decide +kernel)];kernel_rfl)|(rw[if_neg (by decide +kernel)];exact⟨rfl,rfl⟩))
  (λos started H enc _=>snapPlays_lifted os started H enc)
end Go.Proofs.YtfenmffiidchcaaGreat
