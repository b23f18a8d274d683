/-
  The statement ConnClock holds: for all inputs the Go function returns true, and the input reads as before.
  No condition beyond the row's own.
-/
import Derived.Test.YtmkllimamejcgaaGreatJ15
namespace Go.Proofs.YtmkllimamejcgaaGreat
set_option linter.all false
open Go.ChangeShapes Go.WideShapes Go.ChangeAt Go.RowKit
set_option maxRecDepth 100000 in
theorem connClock_lifted(os:Os)(started:os.Started)(H:Type)(enc:TypeId × Value->H):
  ReturnsInHanded {} Tryz.checked os 5 .any (Rows.connClockSpec.pre6 enc Tryz.prog Tryz.f5 Rows.connClockRow.domain false) (Rows.connClockSpec.post enc Tryz.prog Tryz.f5 false true false false):=by
 refine returnsInHanded_of_change_sized (C:=Tryz.checked) Tryz.own started (by kernel_rfl) Tryz.func5
  (ChangeSpec.witness6 (enc:=enc) (C:=Tryz.checked) false ⟨#[],#[.agg #[.int .i64 0,.int .i64 0,.int .i64 0,.int .i64 0,.int .i64 0,.int .i64 0,.int .i64 0,.int .i64 0,.int .i64 0,.int .i64 0],.slice none 0 0],[]⟩ 12 (by kernel_rfl) (by kernel_rfl) (by kernel_rfl) (by kernel_rfl)) ?_
 intro W base args ds gs before hval0 hW _ fS _;have oq:∀(j:Nat) t v,Tryz.f5.params[j]?=some t->args[j]?=some v->Value.okWide Tryz.prog W .any base t v:=hval0;have ES:DataW.Whole enc Tryz.prog Tryz.f5.params.toList Rows.connClockSpec.vars false W args.toList ds gs before:=hW;obtain⟨p,q,EM,_,_,_,_⟩:=hW;have hA:DataW.TrodAll enc Tryz.prog W 0 (λ_=>true) true Tryz.f5.params.toList args.toList ds p:=EM;have hsz':(DataW.weightsEach Tryz.prog (Tryz.f5.params.toList++Rows.connClockSpec.plain.varTypes Tryz.prog) (ds++gs)).all (·<=reachBytes)=true:=fS;rw[Tryz.params5]at hA oq hsz'
 clear hval0 EM fS;obtain⟨v0,KK,d0,ds0,p0,q0,hargs0,rfl,rfl,h0,r0⟩:=trodAll_cons hA;obtain⟨v1,vs1,d1,ds1,p1,q1,hargs1,rfl,rfl,h1,r1⟩:=trodAll_cons r0;obtain⟨rfl,rfl,rfl⟩:=trodAll_nil r1;obtain rfl:args = #[v0,v1]:=by cases args;simp_all
 simp only[zzu,zzq,DataW.weightsEach,vv7,zz9]at hsz';obtain⟨c,cs0,rfl,tB,ok0⟩:=cLx cMd Tryz.underlying23 (oq 0 23 v0 rfl rfl) h0 hsz'.1;obtain⟨l,C2,VP⟩:=cLy (JY (b:=104) cNz Tryz.underlying24 (by kernel_rfl) (by kernel_rfl) (by decide)) (by rw[Tryz.underlying24];rfl) (oq 1 24 v1 rfl rfl) h1 hsz'.2.1;obtain⟨v'1,hv'1,C2⟩:=C2;obtain rfl:v1=v'1:=by simpa using hv'1
 refine (cMe c l VP.2 cs0 v1 W tB C2).mono λe W' ⟨he,hf⟩=>⟨_,he,?_⟩;exact cNs (P:=Tryz.prog) Tryz.laidOut (zzm (by kernel_rfl)) rfl rfl vve (λds hds=>by match ds,hds with|[d0,d1],_=>exact⟨rfl,rfl,rfl⟩) ES hf
theorem connClock_fn:Tryz.checked.prog.funcNamed Rows.connClockRow.func=some 5:=by kernel_rfl
theorem connClock_jA:US Tryz.prog Tryz.f5 Rows.connClockSpec Rows.connClockRow=true:=by kernel_rfl
theorem connClock_jB:UT Tryz.prog 5 Rows.connClockRow=true:=by kernel_rfl
theorem connClock_jC:UU Tryz.prog 5 Rows.connClockRow=true:=by kernel_rfl
theorem connClock_jD:UW Tryz.prog 5 Rows.connClockRow=true:=by kernel_rfl
theorem connClock_jE:UX Tryz.prog Tryz.f5 Rows.connClockSpec Rows.connClockRow=true:=by kernel_rfl
theorem connClock_jF:UY Tryz.prog Rows.connClockRow=true:=by kernel_rfl
theorem connClock_jG:UZ Tryz.prog Tryz.f5 Rows.connClockSpec Rows.connClockRow=true:=by kernel_rfl
theorem connClock_jn:joinedFacts Tryz.checked.prog 5 Tryz.f5 Rows.connClockSpec Rows.connClockRow=true:=cNr connClock_jA connClock_jB connClock_jC connClock_jD connClock_jE connClock_jF connClock_jG rfl rfl
theorem connClock_holds:Rows.ConnClockSaid:=
 OpenClaim.holds_of_wide 5 Tryz.f5 rfl rfl rfl rfl rfl rfl rfl ⟨rfl,rfl,rfl,rfl,rfl⟩ rfl rfl rfl rfl rfl connClock_fn Tryz.func5 connClock_jn
  (zzm (by kernel_rfl)) (by unfold Func.isWrapper;first|(rw[zzc (by decide +kernel)];kernel_rfl)|(rw[zzb (by decide +kernel)];exact⟨rfl,rfl⟩))
  (λos started H enc _=>connClock_lifted os started H enc)
end Go.Proofs.YtmkllimamejcgaaGreat
