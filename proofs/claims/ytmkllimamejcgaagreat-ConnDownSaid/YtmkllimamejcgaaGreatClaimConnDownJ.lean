/-
  The statement ConnDown holds: for all inputs the Go function returns true, and the input reads as before.
  No condition beyond the row's own.
-/
import Derived.Test.YtmkllimamejcgaaGreatJ15
namespace Go.Proofs.YtmkllimamejcgaaGreat
set_option linter.all false
open Go.ChangeShapes Go.WideShapes Go.ChangeAt Go.RowKit
set_option maxRecDepth 100000 in
theorem connDown_lifted(os:Os)(started:os.Started)(H:Type)(enc:TypeId × Value->H):
  ReturnsInHanded {} Tryz.checked os 4 .any (Rows.connDownSpec.pre6 enc Tryz.prog Tryz.f4 Rows.connDownRow.domain false) (Rows.connDownSpec.post enc Tryz.prog Tryz.f4 false true false false):=by
 refine returnsInHanded_of_change_sized (C:=Tryz.checked) Tryz.own started (by kernel_rfl) Tryz.func4
  (ChangeSpec.witness6 (enc:=enc) (C:=Tryz.checked) false ⟨#[],#[.agg #[.int .i64 0,.int .i64 0,.int .i64 0,.int .i64 0,.int .i64 0,.int .i64 0,.int .i64 0,.int .i64 0,.int .i64 0,.int .i64 0],.slice none 0 0,.int .i64 0,.slice none 0 0],[]⟩ 12 (by kernel_rfl) (by kernel_rfl) (by kernel_rfl) (by kernel_rfl)) ?_
 intro W base args ds gs before hval0 hW _ fX _;have oC:∀(j:Nat) t v,Tryz.f4.params[j]?=some t->args[j]?=some v->Value.okWide Tryz.prog W .any base t v:=hval0;have Fa:DataW.Whole enc Tryz.prog Tryz.f4.params.toList Rows.connDownSpec.vars false W args.toList ds gs before:=hW;obtain⟨p,q,E6,_,_,_,_⟩:=hW;have hA:DataW.TrodAll enc Tryz.prog W 0 (λ_=>true) true Tryz.f4.params.toList args.toList ds p:=E6;have hsz':(DataW.weightsEach Tryz.prog (Tryz.f4.params.toList++Rows.connDownSpec.plain.varTypes Tryz.prog) (ds++gs)).all (·<=reachBytes)=true:=fX;rw[Tryz.params4]at hA oC hsz'
 clear hval0 E6 fX;obtain⟨v0,K3,d0,ds0,p0,q0,hargs0,rfl,rfl,h0,r0⟩:=trodAll_cons hA;obtain⟨v1,vs1,d1,ds1,p1,q1,hargs1,rfl,rfl,h1,r1⟩:=trodAll_cons r0;obtain⟨v2,X2,d2,ds2,p2,q2,hargs2,rfl,rfl,h2,r2⟩:=trodAll_cons r1;obtain⟨v3,vs3,d3,ds3,p3,q3,hargs3,rfl,rfl,h3,r3⟩:=trodAll_cons r2;obtain⟨rfl,rfl,rfl⟩:=trodAll_nil r3;obtain rfl:args = #[v0,v1,v2,v3]:=by cases args;simp_all
 simp only[zzv,zzr,DataW.weightsEach,uua,zzu]at hsz';obtain⟨c,cs0,rfl,tI,ok0⟩:=cNa cNt Tryz.underlying23 (oC 0 23 v0 rfl rfl) h0 hsz'.1;obtain⟨l,Di,VY⟩:=cNb (Kb (b:=104) cPh Tryz.underlying24 (by kernel_rfl) (by kernel_rfl) (by decide)) (by rw[Tryz.underlying24];rfl) (oC 1 24 v1 rfl rfl) h1 hsz'.2.1;obtain⟨v'1,hv'1,Di⟩:=Di;obtain rfl:v1=v'1:=by simpa using hv'1
 obtain⟨at_,xK,VZ⟩:=cNb (ni (k:=.i64) yyc (by kernel_rfl)) (by rw[yyc];rfl) (oC 2 3 v2 rfl rfl) h2 hsz'.2.2.1;obtain rfl:v2= .int .i64 at_:=by have h:[v2]=[.int .i64 at_]:=xK;simpa using h
 obtain⟨keep,hr3,ok3⟩:=cNb (Kb (b:=8) (ni yyc (by kernel_rfl)) Tryz.underlying34 (by kernel_rfl) (by kernel_rfl) (by decide)) (by rw[Tryz.underlying34];rfl) (oC 3 34 v3 rfl rfl) h3 hsz'.2.2.2.1;obtain⟨v'3,hv'3,hr3⟩:=hr3;obtain rfl:v3=v'3:=by simpa using hv'3
 refine (cNu c l at_ keep VY.2 (by have:=ok3.1;omega) cs0 v1 v3 W tI Di hr3).mono λe W' ⟨he,hf⟩=>⟨_,he,?_⟩;exact cPa (P:=Tryz.prog) Tryz.laidOut (zzp (by kernel_rfl)) rfl rfl vv4 (λds hds=>by match ds,hds with|[d0,d1,d2,d3],_=>exact⟨rfl,rfl,rfl⟩) Fa hf
theorem connDown_fn:Tryz.checked.prog.funcNamed Rows.connDownRow.func=some 4:=by kernel_rfl
theorem connDown_jA:U1 Tryz.prog Tryz.f4 Rows.connDownSpec Rows.connDownRow=true:=by kernel_rfl
theorem connDown_jB:U2 Tryz.prog 4 Rows.connDownRow=true:=by kernel_rfl
theorem connDown_jC:U3 Tryz.prog 4 Rows.connDownRow=true:=by kernel_rfl
theorem connDown_jD:U4 Tryz.prog 4 Rows.connDownRow=true:=by kernel_rfl
theorem connDown_jE:U5 Tryz.prog Tryz.f4 Rows.connDownSpec Rows.connDownRow=true:=by kernel_rfl
theorem connDown_jF:U6 Tryz.prog Rows.connDownRow=true:=by kernel_rfl
theorem connDown_jG:U7 Tryz.prog Tryz.f4 Rows.connDownSpec Rows.connDownRow=true:=by kernel_rfl
theorem connDown_jn:joinedFacts Tryz.checked.prog 4 Tryz.f4 Rows.connDownSpec Rows.connDownRow=true:=cO9 connDown_jA connDown_jB connDown_jC connDown_jD connDown_jE connDown_jF connDown_jG rfl rfl
theorem connDown_holds:Rows.ConnDownSaid:=
 OpenClaim.holds_of_wide 4 Tryz.f4 rfl rfl rfl rfl rfl rfl rfl ⟨rfl,rfl,rfl,rfl,rfl⟩ rfl rfl rfl rfl rfl connDown_fn Tryz.func4 connDown_jn
  (zzp (by kernel_rfl)) (by unfold Func.isWrapper;first|(rw[zzd (by decide +kernel)];kernel_rfl)|(rw[zzb (by decide +kernel)];exact⟨rfl,rfl⟩))
  (λos started H enc _=>connDown_lifted os started H enc)
end Go.Proofs.YtmkllimamejcgaaGreat
