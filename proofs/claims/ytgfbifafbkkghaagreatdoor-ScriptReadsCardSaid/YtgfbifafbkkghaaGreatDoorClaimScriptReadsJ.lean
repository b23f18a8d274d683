/-
  The statement ScriptReads holds: for all inputs the Go function returns true, and the input reads as before.
  No condition beyond the row's own.
-/
import Derived.Test.YtgfbifafbkkghaaGreatDoorJ16
import Derived.Test.YtgfbifafbkkghaaGreatDoorCards
import Derived.Test.YtgfbifafbkkghaaGreatDoorTie
import Derived.LaidMore
namespace Go.Proofs.YtgfbifafbkkghaaGreatDoor
set_option linter.all false
open Go.ChangeShapes Go.WideShapes Go.ChangeAt Go.RowKit Go.Proofs.Tryz
def uut:=@laidMetH_of_parts3
def uu4:=@laidMet_of_run'
def vvb:=@returnsInHanded_of_change_and
def vvu:=@ChangeSpec.witness_shaped
def uuj:=@World.shaped_of_RefB
def ww2:=@underlying22
def vv4:=@OpenClaim.holds_of_wide
def vvm:=@Claim7.holds_tied_plain_at
def uud:=@Array.mem_of_getElem?
theorem scriptReads_door(os:Os)(args:Array Value):laidMetH prog Rows.scriptReadsRow.laid ((World.doorLaid prog 24 os).forCall (λ_ _=>0) ⟨#[],args,[]⟩).memory:=
 uut (fuel:=8) (uu4 8 (by kernel_rfl) (by kernel_rfl)) (by kernel_rfl) (by kernel_rfl)
set_option maxRecDepth 100000 in
theorem scriptReads_lifted(os:Os)(started:os.Started)(H:Type)(enc:TypeId × Value->H):
  ReturnsInHanded {} Tryz.checked os 5 .any (λw args=>(Rows.scriptReadsSpec.pre enc prog Tryz.f5 [] false w args/\laidMetH prog Rows.scriptReadsRow.laid w)/\sizedMet enc prog Tryz.f5 (OpenSpec.ofChange Rows.scriptReadsSpec) false w args) (Rows.scriptReadsSpec.post enc prog Tryz.f5 false true false false):=by
 refine vvb (C:=Tryz.checked) (X:=λw _=>laidMetH prog Rows.scriptReadsRow.laid w) (λ_ _ _ hh h=>h.of_heap hh) Tryz.own started (by kernel_rfl) func5
  (vvu (enc:=enc) (C:=Tryz.checked) (os:=os) (X:=λw _=>laidMetH prog Rows.scriptReadsRow.laid w) false (World.doorLaid prog 24 os) #[.slice none 0 0,.slice none 0 0,.slice none 0 0,.int .i64 0,.int .u8 0] 12 rfl (uuj (by kernel_rfl) (by kernel_rfl)) (by kernel_rfl) (by kernel_rfl) (by kernel_rfl) (scriptReads_door os _)) ?_
 intro W base args ds gs before hval0 hW _ gK hL _;have kx:∀(j:Nat) t v,Tryz.f5.params[j]?=some t->args[j]?=some v->Value.okWide prog W .any base t v:=hval0;have xL:DataW.Whole enc prog Tryz.f5.params.toList Rows.scriptReadsSpec.vars false W args.toList ds gs before:=hW;obtain⟨p,q,hA0,_,_,_,_⟩:=hW;have hA:DataW.TrodAll enc prog W 0 (λ_=>true) true Tryz.f5.params.toList args.toList ds p:=hA0;have hsz':(DataW.weightsEach prog (Tryz.f5.params.toList++Rows.scriptReadsSpec.plain.varTypes prog) (ds++gs)).all (·<=reachBytes)=true:=gK;rw[Tryz.params5]at hA kx hsz'
 clear hval0 hA0 gK;obtain⟨v0,Ey,d0,ds0,p0,q0,hargs0,rfl,rfl,h0,r0⟩:=trodAll_cons hA;obtain⟨v1,vs1,d1,Se,p1,q1,hargs1,rfl,rfl,h1,r1⟩:=trodAll_cons r0;obtain⟨v2,O1,d2,ds2,p2,q2,hargs2,rfl,rfl,h2,r2⟩:=trodAll_cons r1;obtain⟨v3,vs3,d3,ds3,p3,q3,hargs3,rfl,rfl,h3,r3⟩:=trodAll_cons r2;obtain⟨v4,vs4,d4,ds4,p4,q4,hargs4,rfl,rfl,h4,r4⟩:=trodAll_cons r3;obtain⟨rfl,rfl,rfl⟩:=trodAll_nil r4;obtain rfl:args = #[v0,v1,v2,v3,v4]:=by cases args;simp_all
 simp only[zzq,zzp,DataW.weightsEach,wwj,zzk]at hsz';obtain⟨bl,UA,ok0⟩:=ba4 (DV (b:=1) (o4 (k:=.u8) yyy (by kernel_rfl)) yyw (by kernel_rfl) (by kernel_rfl) (by decide)) (by rw[yyw];rfl) (kx 0 34 v0 rfl rfl) h0 hsz'.1;obtain⟨v'0,hv'0,UA⟩:=UA;obtain rfl:v0=v'0:=by simpa using hv'0
 obtain⟨f,UB,Nh⟩:=ba4 (DV (b:=32) bcc underlying45 (by kernel_rfl) (by kernel_rfl) (by decide)) (by rw[underlying45];rfl) (kx 1 45 v1 rfl rfl) h1 hsz'.2.1;obtain⟨v'1,hv'1,UB⟩:=UB;obtain rfl:v1=v'1:=by simpa using hv'1
 obtain⟨l,pI,Ni⟩:=ba4 (DV (b:=104) bd2 ww2 (by kernel_rfl) (by kernel_rfl) (by decide)) (by rw[ww2];rfl) (kx 2 22 v2 rfl rfl) h2 hsz'.2.2.1;obtain⟨v'2,hv'2,pI⟩:=pI;obtain rfl:v2=v'2:=by simpa using hv'2
 obtain⟨at_,UC,ok3⟩:=ba4 (o4 (k:=.i64) zz9 (by kernel_rfl)) (by rw[zz9];rfl) (kx 3 3 v3 rfl rfl) h3 hsz'.2.2.2.1;obtain rfl:v3= .int .i64 at_:=by have h:[v3]=[.int .i64 at_]:=UC;simpa using h
 obtain⟨y,vE,ok4⟩:=ba4 (o4 (k:=.u8) yyy (by kernel_rfl)) (by rw[yyy];rfl) (kx 4 5 v4 rfl rfl) h4 hsz'.2.2.2.2.1;obtain rfl:v4= .int .u8 y:=by have h:[v4]=[.int .u8 y]:=vE;simpa using h
 refine (bdz bl f l at_ y ok0.2 (by have:=ok0.1;omega) Ni.2 ok4 v0 v1 v2 W UA UB pI).mono λe W' ⟨he,hf⟩=>⟨_,he,?_⟩;exact bdk (P:=prog) Tryz.laidOut (zzl (by kernel_rfl)) rfl rfl wwo (λds hds=>by match ds,hds with|[d0,d1,d2,d3,d4],_=>exact⟨rfl,rfl,rfl⟩) xL hf
theorem scriptReads_fn:Tryz.checked.prog.funcNamed Rows.scriptReadsRow.func=some 5:=by kernel_rfl
theorem scriptReads_jA:L8 prog Tryz.f5 Rows.scriptReadsSpec Rows.scriptReadsRow=true:=by kernel_rfl
theorem scriptReads_jB:L9 prog 5 Rows.scriptReadsRow=true:=by kernel_rfl
theorem scriptReads_jC:L_ prog 5 Rows.scriptReadsRow=true:=by kernel_rfl
theorem scriptReads_jD:Ma prog 5 Rows.scriptReadsRow=true:=by kernel_rfl
theorem scriptReads_jE:Mb prog Tryz.f5 Rows.scriptReadsSpec Rows.scriptReadsRow=true:=by kernel_rfl
theorem scriptReads_jF:Mc prog Rows.scriptReadsRow=true:=by kernel_rfl
theorem scriptReads_jG:Md prog Tryz.f5 Rows.scriptReadsSpec Rows.scriptReadsRow=true:=by kernel_rfl
theorem scriptReads_jn:joinedFacts Tryz.checked.prog 5 Tryz.f5 Rows.scriptReadsSpec Rows.scriptReadsRow=true:=bdi scriptReads_jA scriptReads_jB scriptReads_jC scriptReads_jD scriptReads_jE scriptReads_jF scriptReads_jG rfl rfl
theorem scriptReads_row:Rows.ScriptReadsSaid:=
 vv4 5 Tryz.f5 rfl rfl rfl rfl rfl rfl rfl ⟨rfl,rfl,rfl,rfl,rfl⟩ rfl rfl rfl rfl rfl scriptReads_fn func5 scriptReads_jn
  (zzl (by kernel_rfl)) (by unfold Func.isWrapper;first|(rw[zzd (by decide +kernel)];kernel_rfl)|(rw[zzb (by decide +kernel)];exact⟨rfl,rfl⟩))
  (λos started H enc _=>scriptReads_lifted os started H enc)
theorem scriptReads_w:Rows.scriptReadsRow.wfByText (OpenSpec.ofChange Rows.scriptReadsSpec)=true:=by kernel_rfl
theorem scriptReads_m : Tryz.pinned.checked.prog.mainIs = some (true, "504d64da40ad2cdadf1634ed6b5e4b7510fa4447812c7192eab01152d41c4915".toList) := by kernel_rfl
theorem scriptReads_l:false=prog.looks []:=by kernel_rfl
theorem scriptReads_g:false=Rows.scriptReadsRow.goesBy prog:=by kernel_rfl
theorem scriptReads_p:(Tryz.f5.params.toList.all λu=>!prog.wantsStandIn u)=true:=by kernel_rfl
theorem scriptReads_holds:Rows.ScriptReadsCardSaid:=
 vvm .later [] [.data, .data, .data] true (true, "504d64da40ad2cdadf1634ed6b5e4b7510fa4447812c7192eab01152d41c4915") false
  scriptReads_row (λ_ h=>by cases h) scriptReads_w (λ_ h=>by cases h) scriptReads_row_tie rfl ⟨rfl,rfl⟩ scriptReads_m rfl
  (λf fn hf CQ=>by
   obtain rfl:f=5:=xxx (scriptReads_fn.symm.trans hf) |>.symm;obtain rfl:fn=Tryz.f5:=(xxx (func5.symm.trans CQ)).symm;exact⟨scriptReads_l,λj t ht=>by
    have hm:t∈Tryz.f5.params.toList:=by simpa using uud ht
    exact (show prog.wantsStandIn t=false by simpa using zzw.1 scriptReads_p t hm)⟩)
  scriptReads_g
end Go.Proofs.YtgfbifafbkkghaaGreatDoor
