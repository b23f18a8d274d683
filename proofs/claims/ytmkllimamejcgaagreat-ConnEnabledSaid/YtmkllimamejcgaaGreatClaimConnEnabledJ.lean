/-
  The statement ConnEnabled holds: for all inputs the Go function returns true, and the input reads as before.
  No condition beyond the row's own.
-/
import Derived.Test.YtmkllimamejcgaaGreatJ15
namespace Go.Proofs.YtmkllimamejcgaaGreat
set_option linter.all false
open Go.ChangeShapes Go.WideShapes Go.ChangeAt Go.RowKit
set_option maxRecDepth 100000 in
theorem connEnabled_lifted(os:Os)(started:os.Started)(H:Type)(enc:TypeId × Value->H):
  ReturnsInHanded {} Tryz.checked os 3 .any (Rows.connEnabledSpec.pre6 enc Tryz.prog Tryz.f3 Rows.connEnabledRow.domain false) (Rows.connEnabledSpec.post enc Tryz.prog Tryz.f3 false true false false):=by
 refine returnsInHanded_of_change_sized (C:=Tryz.checked) Tryz.own started (by kernel_rfl) Tryz.func3
  (ChangeSpec.witness6 (enc:=enc) (C:=Tryz.checked) false ⟨#[],#[.agg #[.int .i64 0,.int .i64 0,.int .i64 0,.int .i64 0,.int .i64 0,.int .i64 0,.int .i64 0,.int .i64 0,.int .i64 0,.int .i64 0],.slice none 0 0],[]⟩ 12 (by kernel_rfl) (by kernel_rfl) (by kernel_rfl) (by kernel_rfl)) ?_
 intro W base args ds gs before hval0 hW _ kV _;have tz:∀(j:Nat) t v,Tryz.f3.params[j]?=some t->args[j]?=some v->Value.okWide Tryz.prog W .any base t v:=hval0;have HB:DataW.Whole enc Tryz.prog Tryz.f3.params.toList Rows.connEnabledSpec.vars false W args.toList ds gs before:=hW;obtain⟨p,q,Hw,_,_,_,_⟩:=hW;have hA:DataW.TrodAll enc Tryz.prog W 0 (λ_=>true) true Tryz.f3.params.toList args.toList ds p:=Hw;have hsz':(DataW.weightsEach Tryz.prog (Tryz.f3.params.toList++Rows.connEnabledSpec.plain.varTypes Tryz.prog) (ds++gs)).all (·<=reachBytes)=true:=kV;rw[Tryz.params3]at hA tz hsz'
 clear hval0 Hw kV;obtain⟨v0,Na,d0,ds0,p0,q0,hargs0,rfl,rfl,h0,r0⟩:=trodAll_cons hA;obtain⟨v1,vs1,d1,ds1,p1,q1,hargs1,rfl,rfl,h1,r1⟩:=trodAll_cons r0;obtain⟨rfl,rfl,rfl⟩:=trodAll_nil r1;obtain rfl:args = #[v0,v1]:=by cases args;simp_all
 simp only[zzu,zzp,DataW.weightsEach,vv7,zz9]at hsz';obtain⟨c,cs0,rfl,xt,ok0⟩:=ic5 ien Tryz.underlying23 (tz 0 23 v0 rfl rfl) h0 hsz'.1;obtain⟨l,FQ,XR⟩:=ic6 (Mq (b:=104) ig4 Tryz.underlying24 (by kernel_rfl) (by kernel_rfl) (by decide)) (by rw[Tryz.underlying24];rfl) (tz 1 24 v1 rfl rfl) h1 hsz'.2.1;obtain⟨v'1,hv'1,FQ⟩:=FQ;obtain rfl:v1=v'1:=by simpa using hv'1
 refine (ieo c l XR.2 cs0 v1 W xt FQ).mono λe W' ⟨he,hf⟩=>⟨_,he,?_⟩;exact igx (P:=Tryz.prog) Tryz.laidOut (zzl (by kernel_rfl)) rfl rfl vv1 (λds hds=>by match ds,hds with|[d0,d1],_=>exact⟨rfl,rfl,rfl⟩) HB hf
theorem connEnabled_fn:Tryz.checked.prog.funcNamed Rows.connEnabledRow.func=some 3:=by kernel_rfl
theorem connEnabled_jA:WQ Tryz.prog Tryz.f3 Rows.connEnabledSpec Rows.connEnabledRow=true:=by kernel_rfl
theorem connEnabled_jB:WR Tryz.prog 3 Rows.connEnabledRow=true:=by kernel_rfl
theorem connEnabled_jC:WS Tryz.prog 3 Rows.connEnabledRow=true:=by kernel_rfl
theorem connEnabled_jD:WT Tryz.prog 3 Rows.connEnabledRow=true:=by kernel_rfl
theorem connEnabled_jE:WU Tryz.prog Tryz.f3 Rows.connEnabledSpec Rows.connEnabledRow=true:=by kernel_rfl
theorem connEnabled_jF:WV Tryz.prog Rows.connEnabledRow=true:=by kernel_rfl
theorem connEnabled_jG:WW Tryz.prog Tryz.f3 Rows.connEnabledSpec Rows.connEnabledRow=true:=by kernel_rfl
theorem connEnabled_jn:joinedFacts Tryz.checked.prog 3 Tryz.f3 Rows.connEnabledSpec Rows.connEnabledRow=true:=igw connEnabled_jA connEnabled_jB connEnabled_jC connEnabled_jD connEnabled_jE connEnabled_jF connEnabled_jG rfl rfl
theorem connEnabled_holds:Rows.ConnEnabledSaid:=
 OpenClaim.holds_of_wide 3 Tryz.f3 rfl rfl rfl rfl rfl rfl rfl ⟨rfl,rfl,rfl,rfl,rfl⟩ rfl rfl rfl rfl rfl connEnabled_fn Tryz.func3 connEnabled_jn
  (zzl (by kernel_rfl)) (by unfold Func.isWrapper;first|(rw[zzc (by decide +kernel)];kernel_rfl)|(rw[zzb (by decide +kernel)];exact⟨rfl,rfl⟩))
  (λos started H enc _=>connEnabled_lifted os started H enc)
end Go.Proofs.YtmkllimamejcgaaGreat
