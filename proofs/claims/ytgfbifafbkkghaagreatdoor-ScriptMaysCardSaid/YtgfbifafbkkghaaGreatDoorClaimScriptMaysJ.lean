/-
  The statement ScriptMays holds: for all inputs the Go function returns true, and the input reads as before.
  No condition beyond the row's own.
-/
import Derived.Test.YtgfbifafbkkghaaGreatDoorJ16
import Derived.Test.YtgfbifafbkkghaaGreatDoorCards
import Derived.Test.YtgfbifafbkkghaaGreatDoorTie
import Derived.LaidMore
namespace Go.Proofs.YtgfbifafbkkghaaGreatDoor
set_option linter.all false
open Go.ChangeShapes Go.WideShapes Go.ChangeAt Go.RowKit Go.Proofs.Tryz
def uut:=@laidMetH_of_parts3
def uu4:=@laidMet_of_run'
def vvb:=@returnsInHanded_of_change_and
def vvu:=@ChangeSpec.witness_shaped
def uuj:=@World.shaped_of_RefB
def ww2:=@underlying22
def vv4:=@OpenClaim.holds_of_wide
def vvm:=@Claim7.holds_tied_plain_at
def uud:=@Array.mem_of_getElem?
theorem scriptMays_door(os:Os)(args:Array Value):laidMetH prog Rows.scriptMaysRow.laid ((World.doorLaid prog 24 os).forCall (λ_ _=>0) ⟨#[],args,[]⟩).memory:=
 uut (fuel:=8) (uu4 8 (by kernel_rfl) (by kernel_rfl)) (by kernel_rfl) (by kernel_rfl)
set_option maxRecDepth 100000 in
theorem scriptMays_lifted(os:Os)(started:os.Started)(H:Type)(enc:TypeId × Value->H):
  ReturnsInHanded {} Tryz.checked os 3 .any (λw args=>(Rows.scriptMaysSpec.pre enc prog Tryz.f3 [] false w args/\laidMetH prog Rows.scriptMaysRow.laid w)/\sizedMet enc prog Tryz.f3 (OpenSpec.ofChange Rows.scriptMaysSpec) false w args) (Rows.scriptMaysSpec.post enc prog Tryz.f3 false true false false):=by
 refine vvb (C:=Tryz.checked) (X:=λw _=>laidMetH prog Rows.scriptMaysRow.laid w) (λ_ _ _ hh h=>h.of_heap hh) Tryz.own started (by kernel_rfl) func3
  (vvu (enc:=enc) (C:=Tryz.checked) (os:=os) (X:=λw _=>laidMetH prog Rows.scriptMaysRow.laid w) false (World.doorLaid prog 24 os) #[.slice none 0 0,.agg #[.int .i64 0,.int .i64 0,.slice none 0 0,.slice none 0 0,.int .i64 0,.int .i64 0,.slice none 0 0],.int .i64 0] 12 rfl (uuj (by kernel_rfl) (by kernel_rfl)) (by kernel_rfl) (by kernel_rfl) (by kernel_rfl) (scriptMays_door os _)) ?_
 intro W base args ds gs before hval0 hW _ gK hL _;have kx:∀(j:Nat) t v,Tryz.f3.params[j]?=some t->args[j]?=some v->Value.okWide prog W .any base t v:=hval0;have xL:DataW.Whole enc prog Tryz.f3.params.toList Rows.scriptMaysSpec.vars false W args.toList ds gs before:=hW;obtain⟨p,q,hA0,_,_,_,_⟩:=hW;have hA:DataW.TrodAll enc prog W 0 (λ_=>true) true Tryz.f3.params.toList args.toList ds p:=hA0;have hsz':(DataW.weightsEach prog (Tryz.f3.params.toList++Rows.scriptMaysSpec.plain.varTypes prog) (ds++gs)).all (·<=reachBytes)=true:=gK;rw[Tryz.params3]at hA kx hsz'
 clear hval0 hA0 gK;obtain⟨v0,Ey,d0,ds0,p0,q0,hargs0,rfl,rfl,h0,r0⟩:=trodAll_cons hA;obtain⟨v1,vs1,d1,Se,p1,q1,hargs1,rfl,rfl,h1,r1⟩:=trodAll_cons r0;obtain⟨v2,O1,d2,ds2,p2,q2,hargs2,rfl,rfl,h2,r2⟩:=trodAll_cons r1;obtain⟨rfl,rfl,rfl⟩:=trodAll_nil r2;obtain rfl:args = #[v0,v1,v2]:=by cases args;simp_all
 simp only[zzq,zzp,DataW.weightsEach,wwj,zzk]at hsz';obtain⟨l,UA,ok0⟩:=ba4 (DV (b:=104) bd2 ww2 (by kernel_rfl) (by kernel_rfl) (by decide)) (by rw[ww2];rfl) (kx 0 22 v0 rfl rfl) h0 hsz'.1;obtain⟨v'0,hv'0,UA⟩:=UA;obtain rfl:v0=v'0:=by simpa using hv'0
 obtain⟨s,cs1,rfl,UB,Nh⟩:=ba3 bd2 underlying29 (kx 1 29 v1 rfl rfl) h1 hsz'.2.1;obtain⟨at_,pI,Ni⟩:=ba4 (o4 (k:=.i64) zz9 (by kernel_rfl)) (by rw[zz9];rfl) (kx 2 3 v2 rfl rfl) h2 hsz'.2.2.1;obtain rfl:v2= .int .i64 at_:=by have h:[v2]=[.int .i64 at_]:=pI;simpa using h
 refine (bdy l s at_ (by have:=ok0.1;omega) ok0.2 Nh v0 cs1 W UA UB).mono λe W' ⟨he,hf⟩=>⟨_,he,?_⟩;exact bdk (P:=prog) Tryz.laidOut (zzl (by kernel_rfl)) rfl rfl wwo (λds hds=>by match ds,hds with|[d0,d1,d2],_=>exact⟨rfl,rfl,rfl⟩) xL hf
theorem scriptMays_fn:Tryz.checked.prog.funcNamed Rows.scriptMaysRow.func=some 3:=by kernel_rfl
theorem scriptMays_jA:L8 prog Tryz.f3 Rows.scriptMaysSpec Rows.scriptMaysRow=true:=by kernel_rfl
theorem scriptMays_jB:L9 prog 3 Rows.scriptMaysRow=true:=by kernel_rfl
theorem scriptMays_jC:L_ prog 3 Rows.scriptMaysRow=true:=by kernel_rfl
theorem scriptMays_jD:Ma prog 3 Rows.scriptMaysRow=true:=by kernel_rfl
theorem scriptMays_jE:Mb prog Tryz.f3 Rows.scriptMaysSpec Rows.scriptMaysRow=true:=by kernel_rfl
theorem scriptMays_jF:Mc prog Rows.scriptMaysRow=true:=by kernel_rfl
theorem scriptMays_jG:Md prog Tryz.f3 Rows.scriptMaysSpec Rows.scriptMaysRow=true:=by kernel_rfl
theorem scriptMays_jn:joinedFacts Tryz.checked.prog 3 Tryz.f3 Rows.scriptMaysSpec Rows.scriptMaysRow=true:=bdi scriptMays_jA scriptMays_jB scriptMays_jC scriptMays_jD scriptMays_jE scriptMays_jF scriptMays_jG rfl rfl
theorem scriptMays_row:Rows.ScriptMaysSaid:=
 vv4 3 Tryz.f3 rfl rfl rfl rfl rfl rfl rfl ⟨rfl,rfl,rfl,rfl,rfl⟩ rfl rfl rfl rfl rfl scriptMays_fn func3 scriptMays_jn
  (zzl (by kernel_rfl)) (by unfold Func.isWrapper;first|(rw[zzd (by decide +kernel)];kernel_rfl)|(rw[zzb (by decide +kernel)];exact⟨rfl,rfl⟩))
  (λos started H enc _=>scriptMays_lifted os started H enc)
theorem scriptMays_w:Rows.scriptMaysRow.wfByText (OpenSpec.ofChange Rows.scriptMaysSpec)=true:=by kernel_rfl
theorem scriptMays_m : Tryz.pinned.checked.prog.mainIs = some (true, "504d64da40ad2cdadf1634ed6b5e4b7510fa4447812c7192eab01152d41c4915".toList) := by kernel_rfl
theorem scriptMays_l:false=prog.looks []:=by kernel_rfl
theorem scriptMays_g:false=Rows.scriptMaysRow.goesBy prog:=by kernel_rfl
theorem scriptMays_p:(Tryz.f3.params.toList.all λu=>!prog.wantsStandIn u)=true:=by kernel_rfl
theorem scriptMays_holds:Rows.ScriptMaysCardSaid:=
 vvm .later [] [.data, .data, .data] true (true, "504d64da40ad2cdadf1634ed6b5e4b7510fa4447812c7192eab01152d41c4915") false
  scriptMays_row (λ_ h=>by cases h) scriptMays_w (λ_ h=>by cases h) scriptMays_row_tie rfl ⟨rfl,rfl⟩ scriptMays_m rfl
  (λf fn hf CQ=>by
   obtain rfl:f=3:=xxx (scriptMays_fn.symm.trans hf) |>.symm;obtain rfl:fn=Tryz.f3:=(xxx (func3.symm.trans CQ)).symm;exact⟨scriptMays_l,λj t ht=>by
    have hm:t∈Tryz.f3.params.toList:=by simpa using uud ht
    exact (show prog.wantsStandIn t=false by simpa using zzw.1 scriptMays_p t hm)⟩)
  scriptMays_g
end Go.Proofs.YtgfbifafbkkghaaGreatDoor
