/-
  The statement ScriptBack holds: for all inputs the Go function returns true, and the input reads as before.
  No condition beyond the row's own.
-/
import Derived.Test.YtgfbifafbkkghaaGreatDoorJ16
import Derived.Test.YtgfbifafbkkghaaGreatDoorCards
import Derived.Test.YtgfbifafbkkghaaGreatDoorTie
import Derived.LaidMore
namespace Go.Proofs.YtgfbifafbkkghaaGreatDoor
set_option linter.all false
open Go.ChangeShapes Go.WideShapes Go.ChangeAt Go.RowKit Go.Proofs.Tryz
def uut:=@laidMetH_of_parts3
def uu4:=@laidMet_of_run'
def vvb:=@returnsInHanded_of_change_and
def vvu:=@ChangeSpec.witness_shaped
def uuj:=@World.shaped_of_RefB
def ww2:=@underlying22
def vv4:=@OpenClaim.holds_of_wide
def vvm:=@Claim7.holds_tied_plain_at
def uud:=@Array.mem_of_getElem?
theorem scriptBack_door(os:Os)(args:Array Value):laidMetH prog Rows.scriptBackRow.laid ((World.doorLaid prog 24 os).forCall (λ_ _=>0) ⟨#[],args,[]⟩).memory:=
 uut (fuel:=8) (uu4 8 (by kernel_rfl) (by kernel_rfl)) (by kernel_rfl) (by kernel_rfl)
set_option maxRecDepth 100000 in
theorem scriptBack_lifted(os:Os)(started:os.Started)(H:Type)(enc:TypeId × Value->H):
  ReturnsInHanded {} Tryz.checked os 4 .any (λw args=>(Rows.scriptBackSpec.pre enc prog Tryz.f4 [] false w args/\laidMetH prog Rows.scriptBackRow.laid w)/\sizedMet enc prog Tryz.f4 (OpenSpec.ofChange Rows.scriptBackSpec) false w args) (Rows.scriptBackSpec.post enc prog Tryz.f4 false true false false):=by
 refine vvb (C:=Tryz.checked) (X:=λw _=>laidMetH prog Rows.scriptBackRow.laid w) (λ_ _ _ hh h=>h.of_heap hh) Tryz.own started (by kernel_rfl) func4
  (vvu (enc:=enc) (C:=Tryz.checked) (os:=os) (X:=λw _=>laidMetH prog Rows.scriptBackRow.laid w) false (World.doorLaid prog 24 os) #[.slice none 0 0,.int .u8 0] 12 rfl (uuj (by kernel_rfl) (by kernel_rfl)) (by kernel_rfl) (by kernel_rfl) (by kernel_rfl) (scriptBack_door os _)) ?_
 intro W base args ds gs before hval0 hW _ gK hL _;have kx:∀(j:Nat) t v,Tryz.f4.params[j]?=some t->args[j]?=some v->Value.okWide prog W .any base t v:=hval0;have xL:DataW.Whole enc prog Tryz.f4.params.toList Rows.scriptBackSpec.vars false W args.toList ds gs before:=hW;obtain⟨p,q,hA0,_,_,_,_⟩:=hW;have hA:DataW.TrodAll enc prog W 0 (λ_=>true) true Tryz.f4.params.toList args.toList ds p:=hA0;have hsz':(DataW.weightsEach prog (Tryz.f4.params.toList++Rows.scriptBackSpec.plain.varTypes prog) (ds++gs)).all (·<=reachBytes)=true:=gK;rw[Tryz.params4]at hA kx hsz'
 clear hval0 hA0 gK;obtain⟨v0,Ey,d0,ds0,p0,q0,hargs0,rfl,rfl,h0,r0⟩:=trodAll_cons hA;obtain⟨v1,vs1,d1,Se,p1,q1,hargs1,rfl,rfl,h1,r1⟩:=trodAll_cons r0;obtain⟨rfl,rfl,rfl⟩:=trodAll_nil r1;obtain rfl:args = #[v0,v1]:=by cases args;simp_all
 simp only[zzq,zzp,DataW.weightsEach,wwj,zzk]at hsz';obtain⟨l,UA,ok0⟩:=ba4 (DV (b:=104) bd2 ww2 (by kernel_rfl) (by kernel_rfl) (by decide)) (by rw[ww2];rfl) (kx 0 22 v0 rfl rfl) h0 hsz'.1;obtain⟨v'0,hv'0,UA⟩:=UA;obtain rfl:v0=v'0:=by simpa using hv'0
 obtain⟨more,UB,Nh⟩:=ba4 (o4 (k:=.u8) yyy (by kernel_rfl)) (by rw[yyy];rfl) (kx 1 5 v1 rfl rfl) h1 hsz'.2.1;obtain rfl:v1= .int .u8 more:=by have h:[v1]=[.int .u8 more]:=UB;simpa using h
 refine (bdx l more ok0.2 Nh v0 W UA).mono λe W' ⟨he,hf⟩=>⟨_,he,?_⟩;exact bdk (P:=prog) Tryz.laidOut (zzl (by kernel_rfl)) rfl rfl wwo (λds hds=>by match ds,hds with|[d0,d1],_=>exact⟨rfl,rfl,rfl⟩) xL hf
theorem scriptBack_fn:Tryz.checked.prog.funcNamed Rows.scriptBackRow.func=some 4:=by kernel_rfl
theorem scriptBack_jA:L8 prog Tryz.f4 Rows.scriptBackSpec Rows.scriptBackRow=true:=by kernel_rfl
theorem scriptBack_jB:L9 prog 4 Rows.scriptBackRow=true:=by kernel_rfl
theorem scriptBack_jC:L_ prog 4 Rows.scriptBackRow=true:=by kernel_rfl
theorem scriptBack_jD:Ma prog 4 Rows.scriptBackRow=true:=by kernel_rfl
theorem scriptBack_jE:Mb prog Tryz.f4 Rows.scriptBackSpec Rows.scriptBackRow=true:=by kernel_rfl
theorem scriptBack_jF:Mc prog Rows.scriptBackRow=true:=by kernel_rfl
theorem scriptBack_jG:Md prog Tryz.f4 Rows.scriptBackSpec Rows.scriptBackRow=true:=by kernel_rfl
theorem scriptBack_jn:joinedFacts Tryz.checked.prog 4 Tryz.f4 Rows.scriptBackSpec Rows.scriptBackRow=true:=bdi scriptBack_jA scriptBack_jB scriptBack_jC scriptBack_jD scriptBack_jE scriptBack_jF scriptBack_jG rfl rfl
theorem scriptBack_row:Rows.ScriptBackSaid:=
 vv4 4 Tryz.f4 rfl rfl rfl rfl rfl rfl rfl ⟨rfl,rfl,rfl,rfl,rfl⟩ rfl rfl rfl rfl rfl scriptBack_fn func4 scriptBack_jn
  (zzl (by kernel_rfl)) (by unfold Func.isWrapper;first|(rw[zzd (by decide +kernel)];kernel_rfl)|(rw[zzb (by decide +kernel)];exact⟨rfl,rfl⟩))
  (λos started H enc _=>scriptBack_lifted os started H enc)
theorem scriptBack_w:Rows.scriptBackRow.wfByText (OpenSpec.ofChange Rows.scriptBackSpec)=true:=by kernel_rfl
theorem scriptBack_m : Tryz.pinned.checked.prog.mainIs = some (true, "504d64da40ad2cdadf1634ed6b5e4b7510fa4447812c7192eab01152d41c4915".toList) := by kernel_rfl
theorem scriptBack_l:false=prog.looks []:=by kernel_rfl
theorem scriptBack_g:false=Rows.scriptBackRow.goesBy prog:=by kernel_rfl
theorem scriptBack_p:(Tryz.f4.params.toList.all λu=>!prog.wantsStandIn u)=true:=by kernel_rfl
theorem scriptBack_holds:Rows.ScriptBackCardSaid:=
 vvm .later [] [.data, .data, .data] true (true, "504d64da40ad2cdadf1634ed6b5e4b7510fa4447812c7192eab01152d41c4915") false
  scriptBack_row (λ_ h=>by cases h) scriptBack_w (λ_ h=>by cases h) scriptBack_row_tie rfl ⟨rfl,rfl⟩ scriptBack_m rfl
  (λf fn hf CQ=>by
   obtain rfl:f=4:=xxx (scriptBack_fn.symm.trans hf) |>.symm;obtain rfl:fn=Tryz.f4:=(xxx (func4.symm.trans CQ)).symm;exact⟨scriptBack_l,λj t ht=>by
    have hm:t∈Tryz.f4.params.toList:=by simpa using uud ht
    exact (show prog.wantsStandIn t=false by simpa using zzw.1 scriptBack_p t hm)⟩)
  scriptBack_g
end Go.Proofs.YtgfbifafbkkghaaGreatDoor
