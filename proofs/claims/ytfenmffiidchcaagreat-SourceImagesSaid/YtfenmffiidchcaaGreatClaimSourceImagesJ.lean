/-
  The statement SourceImages holds: for all inputs the Go function returns true, and the input reads as before.
  No condition beyond the row's own.
-/
import Derived.Test.YtfenmffiidchcaaGreatJ13
namespace Go.Proofs.YtfenmffiidchcaaGreat
set_option linter.unusedVariables false
open Go.ChangeShapes Go.WideShapes Go.ChangeAt Go.RowKit
set_option maxRecDepth 100000 in
theorem sourceImages_lifted(os:Os)(started:os.Started)(H:Type)(enc:TypeId × Value→H):
  ReturnsInHanded {} Tryz.checked os 5 .any (Rows.sourceImagesSpec.pre6 enc Tryz.prog Tryz.f5 Rows.sourceImagesRow.domain false) (Rows.sourceImagesSpec.post enc Tryz.prog Tryz.f5 false true false false):=by
 refine returnsInHanded_of_change_sized (C:=Tryz.checked) Tryz.own started (by kernel_rfl) Tryz.func5
  (ChangeSpec.witness6 (enc:=enc) (C:=Tryz.checked) false ⟨#[],#[.slice none 0 0,.slice none 0 0,.slice none 0 0,.int .i64 0,.int .i64 0,.slice none 0 0],[]⟩ 12 (by kernel_rfl) (by kernel_rfl) (by kernel_rfl) (by kernel_rfl)) ?_
 intro W base args ds gs before hval0 hW _ hsz _
 have hval:∀(j:Nat) t v,Tryz.f5.params[j]?=some t→args[j]?=some v→Value.okWide Tryz.prog W .any base t v:=hval0
 have hW':DataW.Whole enc Tryz.prog Tryz.f5.params.toList Rows.sourceImagesSpec.vars false W args.toList ds gs before:=hW
 obtain⟨p,q,hA0,_,_,_,_⟩:=hW
 have hA:DataW.TrodAll enc Tryz.prog W 0 (λ_=>true) true Tryz.f5.params.toList args.toList ds p:=hA0
 have hsz':(DataW.weightsEach Tryz.prog (Tryz.f5.params.toList++Rows.sourceImagesSpec.plain.varTypes Tryz.prog) (ds++gs)).all (·≤reachBytes)=true:=hsz
 rw[Tryz.params5]at hA hval hsz'
 clear hval0 hA0 hsz
 obtain⟨v0,vs0,d0,ds0,p0,q0,hargs0,rfl,rfl,h0,r0⟩:=trodAll_cons hA
 obtain⟨v1,vs1,d1,ds1,p1,q1,hargs1,rfl,rfl,h1,r1⟩:=trodAll_cons r0
 obtain⟨v2,vs2,d2,ds2,p2,q2,hargs2,rfl,rfl,h2,r2⟩:=trodAll_cons r1
 obtain⟨v3,vs3,d3,ds3,p3,q3,hargs3,rfl,rfl,h3,r3⟩:=trodAll_cons r2
 obtain⟨v4,vs4,d4,ds4,p4,q4,hargs4,rfl,rfl,h4,r4⟩:=trodAll_cons r3
 obtain⟨v5,vs5,d5,ds5,p5,q5,hargs5,rfl,rfl,h5,r5⟩:=trodAll_cons r4
 obtain⟨rfl,rfl,rfl⟩:=trodAll_nil r5
 obtain rfl:args = #[v0,v1,v2,v3,v4,v5]:=by cases args;simp_all
 simp only[List.cons_append,List.nil_append,DataW.weightsEach,List.all_append,Bool.and_eq_true]at hsz'
 obtain⟨l,hr0,ok0⟩:=arg_one (opens_slice (b:=72) txnOpens Tryz.underlying32 (by kernel_rfl) (by kernel_rfl) (by decide)) (by rw[Tryz.underlying32];rfl) (hval 0 32 v0 rfl rfl) h0 hsz'.1
 obtain⟨v'0,hv'0,hr0⟩:=hr0
 obtain rfl:v0=v'0:=by simpa using hv'0
 obtain⟨xa,hr1,ok1⟩:=arg_one (opens_slice (b:=1) (opens_int (k:=.u8) Tryz.underlying5 (by kernel_rfl)) Tryz.underlying62 (by kernel_rfl) (by kernel_rfl) (by decide)) (by rw[Tryz.underlying62];rfl) (hval 1 62 v1 rfl rfl) h1 hsz'.2.1
 obtain⟨v'1,hv'1,hr1⟩:=hr1
 obtain rfl:v1=v'1:=by simpa using hv'1
 obtain⟨xb,hr2,ok2⟩:=arg_one (opens_slice (b:=1) (opens_int (k:=.u8) Tryz.underlying5 (by kernel_rfl)) Tryz.underlying62 (by kernel_rfl) (by kernel_rfl) (by decide)) (by rw[Tryz.underlying62];rfl) (hval 2 62 v2 rfl rfl) h2 hsz'.2.2.1
 obtain⟨v'2,hv'2,hr2⟩:=hr2
 obtain rfl:v2=v'2:=by simpa using hv'2
 obtain⟨n,hr3,ok3⟩:=arg_one (opens_int (k:=.i64) Tryz.underlying3 (by kernel_rfl)) (by rw[Tryz.underlying3];rfl) (hval 3 3 v3 rfl rfl) h3 hsz'.2.2.2.1
 obtain rfl:v3= .int .i64 n:=by have h:[v3]=[.int .i64 n]:=hr3;simpa using h
 obtain⟨lsn,hr4,ok4⟩:=arg_one (opens_int (k:=.i64) Tryz.underlying2 (by kernel_rfl)) (by rw[Tryz.underlying2];rfl) (hval 4 2 v4 rfl rfl) h4 hsz'.2.2.2.2.1
 obtain rfl:v4= .int .i64 lsn:=by have h:[v4]=[.int .i64 lsn]:=hr4;simpa using h
 obtain⟨rows,hr5,ok5⟩:=arg_one (opens_slice (b:=24) (opens_slice (b:=24) rowOpens Tryz.underlying53 (by kernel_rfl) (by kernel_rfl) (by decide)) Tryz.underlying48 (by kernel_rfl) (by kernel_rfl) (by decide)) (by rw[Tryz.underlying48];rfl) (hval 5 48 v5 rfl rfl) h5 hsz'.2.2.2.2.2.1
 obtain⟨v'5,hv'5,hr5⟩:=hr5
 obtain rfl:v5=v'5:=by simpa using hv'5
 refine (sourceImages_law l xa xb n lsn rows ok0.2 (by have:=ok0.1;omega) ok1.2 ok2.2 (by have:=ok1.1;omega) (by have:=ok2.1;omega) (by have:=ok5.1;omega) (λx hx=>by have:=(ok5.2 x hx).1;omega) v0 v1 v2 v5 W hr0 hr1 hr2 hr5).mono λe W' ⟨he,hf⟩=>⟨_,he,?_⟩
 exact law_post (P:=Tryz.prog) Tryz.laidOut (of_decide_eq_true (by kernel_rfl)) rfl rfl Tryz.underlying4 (λds hds=>by match ds,hds with|[d0,d1,d2,d3,d4,d5],_=>exact⟨rfl,rfl,rfl⟩) hW' hf
theorem sourceImages_fn:Tryz.checked.prog.funcNamed Rows.sourceImagesRow.func=some 5:=by kernel_rfl
theorem sourceImages_jA:jnA Tryz.prog Tryz.f5 Rows.sourceImagesSpec Rows.sourceImagesRow=true:=by kernel_rfl
theorem sourceImages_jB:jnB Tryz.prog 5 Rows.sourceImagesRow=true:=by kernel_rfl
theorem sourceImages_jC:jnC Tryz.prog 5 Rows.sourceImagesRow=true:=by kernel_rfl
theorem sourceImages_jD:jnD Tryz.prog 5 Rows.sourceImagesRow=true:=by kernel_rfl
theorem sourceImages_jE:jnE Tryz.prog Tryz.f5 Rows.sourceImagesSpec Rows.sourceImagesRow=true:=by kernel_rfl
theorem sourceImages_jF:jnF Tryz.prog Rows.sourceImagesRow=true:=by kernel_rfl
theorem sourceImages_jG:jnG Tryz.prog Tryz.f5 Rows.sourceImagesSpec Rows.sourceImagesRow=true:=by kernel_rfl
theorem sourceImages_jn:joinedFacts Tryz.checked.prog 5 Tryz.f5 Rows.sourceImagesSpec Rows.sourceImagesRow=true:=joined_of sourceImages_jA sourceImages_jB sourceImages_jC sourceImages_jD sourceImages_jE sourceImages_jF sourceImages_jG rfl rfl
theorem sourceImages_holds:Rows.SourceImagesSaid:=
 OpenClaim.holds_of_wide 5 Tryz.f5 rfl rfl rfl rfl rfl rfl rfl ⟨rfl,rfl,rfl,rfl,rfl⟩ rfl rfl rfl rfl rfl sourceImages_fn Tryz.func5 sourceImages_jn
  (of_decide_eq_true (by kernel_rfl)) (by unfold Func.isWrapper;first|(rw[if_pos (by decide +kernel)];kernel_rfl)|(rw[if_neg (by decide +kernel)];exact⟨rfl,rfl⟩))
  (λos started H enc _=>sourceImages_lifted os started H enc)
end Go.Proofs.YtfenmffiidchcaaGreat
