/-
  The statement ConnAsks holds: for all inputs the Go function returns true, and the input reads as before.
  No condition beyond the row's own.
-/
import Derived.Test.YtlngdcpffiklgaaGreatJ15
namespace Go.Proofs.YtlngdcpffiklgaaGreat
set_option linter.all false
open Go.ChangeShapes Go.WideShapes Go.ChangeAt Go.RowKit Go.Proofs.Tryz
set_option maxRecDepth 100000 in
theorem connAsks_lifted(os:Os)(started:os.Started)(H:Type)(enc:TypeId × Value->H):
  ReturnsInHanded {} Tryz.checked os 3 .any (Rows.connAsksSpec.pre6 enc prog Tryz.f3 Rows.connAsksRow.domain false) (Rows.connAsksSpec.post enc prog Tryz.f3 false true false false):=by
 refine returnsInHanded_of_change_sized (C:=Tryz.checked) Tryz.own started (by kernel_rfl) func3
  (ChangeSpec.witness6 (enc:=enc) (C:=Tryz.checked) false ⟨#[],#[.agg #[.int .i64 0,.int .i64 0,.int .i64 0,.int .i64 0,.int .i64 0,.int .i64 0,.int .i64 0,.int .i64 0,.int .i64 0,.int .i64 0],.slice none 0 0],[]⟩ 12 (by kernel_rfl) (by kernel_rfl) (by kernel_rfl) (by kernel_rfl)) ?_
 intro W base args ds gs before hval0 hW _ f_ _;have oM:∀(j:Nat) t v,Tryz.f3.params[j]?=some t->args[j]?=some v->Value.okWide prog W .any base t v:=hval0;have Fs:DataW.Whole enc prog Tryz.f3.params.toList Rows.connAsksSpec.vars false W args.toList ds gs before:=hW;obtain⟨p,q,Fl,_,_,_,_⟩:=hW;have hA:DataW.TrodAll enc prog W 0 (λ_=>true) true Tryz.f3.params.toList args.toList ds p:=Fl;have hsz':(DataW.weightsEach prog (Tryz.f3.params.toList++Rows.connAsksSpec.plain.varTypes prog) (ds++gs)).all (·<=reachBytes)=true:=f_;rw[Tryz.params3]at hA oM hsz'
 clear hval0 Fl f_;obtain⟨v0,Ln,d0,ds0,p0,q0,hargs0,rfl,rfl,h0,r0⟩:=trodAll_cons hA;obtain⟨v1,vs1,d1,ds1,p1,q1,hargs1,rfl,rfl,h1,r1⟩:=trodAll_cons r0;obtain⟨rfl,rfl,rfl⟩:=trodAll_nil r1;obtain rfl:args = #[v0,v1]:=by cases args;simp_all
 simp only[zzv,zzq,DataW.weightsEach,uub,zzu]at hsz';obtain⟨c,cs0,rfl,tQ,ok0⟩:=cVp cWb underlying23 (oM 0 23 v0 rfl rfl) h0 hsz'.1;obtain⟨l,Ds,Wz⟩:=cVq (Kx (b:=104) cXu underlying24 (by kernel_rfl) (by kernel_rfl) (by decide)) (by rw[underlying24];rfl) (oM 1 24 v1 rfl rfl) h1 hsz'.2.1;obtain⟨v'1,hv'1,Ds⟩:=Ds;obtain rfl:v1=v'1:=by simpa using hv'1
 refine (cWc c l Wz.2 cs0 v1 W tQ Ds).mono λe W' ⟨he,hf⟩=>⟨_,he,?_⟩;exact cXp (P:=prog) Tryz.laidOut (zzp (by kernel_rfl)) rfl rfl wwk (λds hds=>by match ds,hds with|[d0,d1],_=>exact⟨rfl,rfl,rfl⟩) Fs hf
theorem connAsks_fn:Tryz.checked.prog.funcNamed Rows.connAsksRow.func=some 3:=by kernel_rfl
theorem connAsks_jA:VB prog Tryz.f3 Rows.connAsksSpec Rows.connAsksRow=true:=by kernel_rfl
theorem connAsks_jB:VC prog 3 Rows.connAsksRow=true:=by kernel_rfl
theorem connAsks_jC:VD prog 3 Rows.connAsksRow=true:=by kernel_rfl
theorem connAsks_jD:VE prog 3 Rows.connAsksRow=true:=by kernel_rfl
theorem connAsks_jE:VF prog Tryz.f3 Rows.connAsksSpec Rows.connAsksRow=true:=by kernel_rfl
theorem connAsks_jF:VG prog Rows.connAsksRow=true:=by kernel_rfl
theorem connAsks_jG:VH prog Tryz.f3 Rows.connAsksSpec Rows.connAsksRow=true:=by kernel_rfl
theorem connAsks_jn:joinedFacts Tryz.checked.prog 3 Tryz.f3 Rows.connAsksSpec Rows.connAsksRow=true:=cXo connAsks_jA connAsks_jB connAsks_jC connAsks_jD connAsks_jE connAsks_jF connAsks_jG rfl rfl
theorem connAsks_holds:Rows.ConnAsksSaid:=
 OpenClaim.holds_of_wide 3 Tryz.f3 rfl rfl rfl rfl rfl rfl rfl ⟨rfl,rfl,rfl,rfl,rfl⟩ rfl rfl rfl rfl rfl connAsks_fn func3 connAsks_jn
  (zzp (by kernel_rfl)) (by unfold Func.isWrapper;first|(rw[zzd (by decide +kernel)];kernel_rfl)|(rw[zzb (by decide +kernel)];exact⟨rfl,rfl⟩))
  (λos started H enc _=>connAsks_lifted os started H enc)
end Go.Proofs.YtlngdcpffiklgaaGreat
