/-
  The statement ScriptFront holds: for all inputs the Go function returns true, and the input reads as before.
  No condition beyond the row's own.
-/
import Derived.Test.YthohmpdacdmclaaGreatDoorJ19
import Derived.Test.YthohmpdacdmclaaGreatDoorCards
import Derived.Test.YthohmpdacdmclaaGreatDoorTie
import Derived.LaidMore
namespace Go.Proofs.YthohmpdacdmclaaGreatDoor
set_option linter.all false
open Go.ChangeShapes Go.WideShapes Go.ChangeAt Go.RowKit Go.Proofs.Tryz
theorem scriptFront_door(os:Os)(args:Array Value):laidMetH prog Rows.scriptFrontRow.laid ((World.doorLaid prog 24 os).forCall (λ_ _=>0) ⟨#[],args,[]⟩).memory:=
 laidMetH_of_parts3 (fuel:=8) (laidMet_of_run' 8 (by kernel_rfl) (by kernel_rfl)) (by kernel_rfl) (by kernel_rfl)
set_option maxRecDepth 100000 in
theorem scriptFront_lifted(os:Os)(started:os.Started)(H:Type)(enc:TypeId × Value->H):
  ReturnsInHanded {} Tryz.checked os 3 .any (λw args=>(Rows.scriptFrontSpec.pre enc prog Tryz.f3 [] false w args/\laidMetH prog Rows.scriptFrontRow.laid w)/\sizedMet enc prog Tryz.f3 (OpenSpec.ofChange Rows.scriptFrontSpec) false w args) (Rows.scriptFrontSpec.post enc prog Tryz.f3 false true false false):=by
 refine returnsInHanded_of_change_and (C:=Tryz.checked) (X:=λw _=>laidMetH prog Rows.scriptFrontRow.laid w) (λ_ _ _ hh h=>h.of_heap hh) Tryz.own started (by kernel_rfl) func3
  (ChangeSpec.witness_shaped (enc:=enc) (C:=Tryz.checked) (os:=os) (X:=λw _=>laidMetH prog Rows.scriptFrontRow.laid w) false (World.doorLaid prog 24 os) #[.agg #[.int .i64 0,.int .i64 0,.int .i64 0,.int .i64 0,.int .i64 0,.int .i64 0,.int .i64 0,.int .i64 0,.int .i64 0,.int .i64 0],.slice none 0 0,.int .i64 0] 12 rfl (World.shaped_of_RefB (by kernel_rfl) (by kernel_rfl)) (by kernel_rfl) (by kernel_rfl) (by kernel_rfl) (scriptFront_door os _)) ?_
 intro W base args ds gs before hval0 hW _ fw hL _;have nI:∀(j:Nat) t v,Tryz.f3.params[j]?=some t->args[j]?=some v->Value.okWide prog W .any base t v:=hval0;have EC:DataW.Whole enc prog Tryz.f3.params.toList Rows.scriptFrontSpec.vars false W args.toList ds gs before:=hW;obtain⟨p,q,Ew,_,_,_,_⟩:=hW;have hA:DataW.TrodAll enc prog W 0 (λ_=>true) true Tryz.f3.params.toList args.toList ds p:=Ew;have hsz':(DataW.weightsEach prog (Tryz.f3.params.toList++Rows.scriptFrontSpec.plain.varTypes prog) (ds++gs)).all (·<=reachBytes)=true:=fw;rw[Tryz.params3]at hA nI hsz'
 clear hval0 Ew fw;obtain⟨v0,KH,d0,ds0,p0,q0,hargs0,rfl,rfl,h0,r0⟩:=trodAll_cons hA;obtain⟨v1,vs1,d1,ds1,p1,q1,hargs1,rfl,rfl,h1,r1⟩:=trodAll_cons r0;obtain⟨v2,X1,d2,ds2,p2,q2,hargs2,rfl,rfl,h2,r2⟩:=trodAll_cons r1;obtain⟨rfl,rfl,rfl⟩:=trodAll_nil r2;obtain rfl:args = #[v0,v1,v2]:=by cases args;simp_all
 simp only[zzn,zzo,DataW.weightsEach,vvz,zzs]at hsz';obtain⟨c,cs0,rfl,vv,ok0⟩:=bK1 bK7 underlying23 (nI 0 23 v0 rfl rfl) h0 hsz'.1;obtain⟨l,CO,VZ⟩:=bK2 (JX (b:=104) bMz underlying24 (by kernel_rfl) (by kernel_rfl) (by decide)) (by rw[underlying24];rfl) (nI 1 24 v1 rfl rfl) h1 hsz'.2.1;obtain⟨v'1,hv'1,CO⟩:=CO;obtain rfl:v1=v'1:=by simpa using hv'1
 obtain⟨cut,wY,V0⟩:=bK2 (mw (k:=.i64) yyc (by kernel_rfl)) (by rw[yyc];rfl) (nI 2 3 v2 rfl rfl) h2 hsz'.2.2.1;obtain rfl:v2= .int .i64 cut:=by have h:[v2]=[.int .i64 cut]:=wY;simpa using h
 refine (bMx c l cut VZ.2 cs0 v1 W vv CO (bMu hL)).mono λe W' ⟨he,hf⟩=>⟨_,he,?_⟩;exact bMp (P:=prog) Tryz.laidOut (zzt (by kernel_rfl)) rfl rfl uug (λds hds=>by match ds,hds with|[d0,d1,d2],_=>exact⟨rfl,rfl,rfl⟩) EC hf
theorem scriptFront_fn:Tryz.checked.prog.funcNamed Rows.scriptFrontRow.func=some 3:=by kernel_rfl
theorem scriptFront_jA:UZ prog Tryz.f3 Rows.scriptFrontSpec Rows.scriptFrontRow=true:=by kernel_rfl
theorem scriptFront_jB:U0 prog 3 Rows.scriptFrontRow=true:=by kernel_rfl
theorem scriptFront_jC:U1 prog 3 Rows.scriptFrontRow=true:=by kernel_rfl
theorem scriptFront_jD:U2 prog 3 Rows.scriptFrontRow=true:=by kernel_rfl
theorem scriptFront_jE:U3 prog Tryz.f3 Rows.scriptFrontSpec Rows.scriptFrontRow=true:=by kernel_rfl
theorem scriptFront_jF:U4 prog Rows.scriptFrontRow=true:=by kernel_rfl
theorem scriptFront_jG:U5 prog Tryz.f3 Rows.scriptFrontSpec Rows.scriptFrontRow=true:=by kernel_rfl
theorem scriptFront_jn:joinedFacts Tryz.checked.prog 3 Tryz.f3 Rows.scriptFrontSpec Rows.scriptFrontRow=true:=bMn scriptFront_jA scriptFront_jB scriptFront_jC scriptFront_jD scriptFront_jE scriptFront_jF scriptFront_jG rfl rfl
theorem scriptFront_row:Rows.ScriptFrontSaid:=
 OpenClaim.holds_of_wide 3 Tryz.f3 rfl rfl rfl rfl rfl rfl rfl ⟨rfl,rfl,rfl,rfl,rfl⟩ rfl rfl rfl rfl rfl scriptFront_fn func3 scriptFront_jn
  (zzt (by kernel_rfl)) (by unfold Func.isWrapper;first|(rw[zzc (by decide +kernel)];kernel_rfl)|(rw[zzb (by decide +kernel)];exact⟨rfl,rfl⟩))
  (λos started H enc _=>scriptFront_lifted os started H enc)
theorem scriptFront_w:Rows.scriptFrontRow.wfByText (OpenSpec.ofChange Rows.scriptFrontSpec)=true:=by kernel_rfl
theorem scriptFront_m : Tryz.pinned.checked.prog.mainIs = some (true, "b68678e58eddc4c3c1bfa2a5bd40bed63c9e41da46131a18ce693087ef38addc".toList) := by kernel_rfl
theorem scriptFront_l:false=prog.looks []:=by kernel_rfl
theorem scriptFront_g:false=Rows.scriptFrontRow.goesBy prog:=by kernel_rfl
theorem scriptFront_p:(Tryz.f3.params.toList.all λu=>!prog.wantsStandIn u)=true:=by kernel_rfl
theorem scriptFront_holds:Rows.ScriptFrontCardSaid:=
 Claim7.holds_tied_plain_at .later [] [.data, .data, .data] true (true, "b68678e58eddc4c3c1bfa2a5bd40bed63c9e41da46131a18ce693087ef38addc") false
  scriptFront_row (λ_ h=>by cases h) scriptFront_w (λ_ h=>by cases h) scriptFront_row_tie rfl ⟨rfl,rfl⟩ scriptFront_m rfl
  (λf fn hf ET=>by
   obtain rfl:f=3:=xx1 (scriptFront_fn.symm.trans hf) |>.symm;obtain rfl:fn=Tryz.f3:=(xx1 (func3.symm.trans ET)).symm;exact⟨scriptFront_l,λj t ht=>by
    have hm:t∈Tryz.f3.params.toList:=by simpa using Array.mem_of_getElem? ht
    exact (show prog.wantsStandIn t=false by simpa using zz7.1 scriptFront_p t hm)⟩)
  scriptFront_g
end Go.Proofs.YthohmpdacdmclaaGreatDoor
