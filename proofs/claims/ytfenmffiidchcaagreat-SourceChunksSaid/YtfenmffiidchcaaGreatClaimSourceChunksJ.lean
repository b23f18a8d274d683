/-
  The statement SourceChunks holds: for all inputs the Go function returns true, and the input reads as before.
  No condition beyond the row's own.
-/
import Derived.Test.YtfenmffiidchcaaGreatJ12
namespace Go.Proofs.YtfenmffiidchcaaGreat
set_option linter.unusedVariables false
open Go.ChangeShapes Go.WideShapes Go.ChangeAt Go.RowKit
set_option maxRecDepth 100000 in
theorem sourceChunks_lifted(os:Os)(started:os.Started)(H:Type)(enc:TypeId × Value→H):
  ReturnsInHanded {} Tryz.checked os 4 .any (Rows.sourceChunksSpec.pre6 enc Tryz.prog Tryz.f4 Rows.sourceChunksRow.domain false) (Rows.sourceChunksSpec.post enc Tryz.prog Tryz.f4 false true false false):=by
 refine returnsInHanded_of_change_sized (C:=Tryz.checked) Tryz.own started (by kernel_rfl) Tryz.func4
  (ChangeSpec.witness6 (enc:=enc) (C:=Tryz.checked) false ⟨#[],#[.slice none 0 0,.int .i64 0],[]⟩ 12 (by kernel_rfl) (by kernel_rfl) (by kernel_rfl) (by kernel_rfl)) ?_
 intro W base args ds gs before hval0 hW _ hsz _
 have hval:∀(j:Nat) t v,Tryz.f4.params[j]?=some t→args[j]?=some v→Value.okWide Tryz.prog W .any base t v:=hval0
 have hW':DataW.Whole enc Tryz.prog Tryz.f4.params.toList Rows.sourceChunksSpec.vars false W args.toList ds gs before:=hW
 obtain⟨p,q,hA0,_,_,_,_⟩:=hW
 have hA:DataW.TrodAll enc Tryz.prog W 0 (λ_=>true) true Tryz.f4.params.toList args.toList ds p:=hA0
 have hsz':(DataW.weightsEach Tryz.prog (Tryz.f4.params.toList++Rows.sourceChunksSpec.plain.varTypes Tryz.prog) (ds++gs)).all (·≤reachBytes)=true:=hsz
 rw[Tryz.params4]at hA hval hsz'
 clear hval0 hA0 hsz
 obtain⟨v0,vs0,d0,ds0,p0,q0,hargs0,rfl,rfl,h0,r0⟩:=trodAll_cons hA
 obtain⟨v1,vs1,d1,ds1,p1,q1,hargs1,rfl,rfl,h1,r1⟩:=trodAll_cons r0
 obtain⟨rfl,rfl,rfl⟩:=trodAll_nil r1
 obtain rfl:args = #[v0,v1]:=by cases args;simp_all
 simp only[List.cons_append,List.nil_append,DataW.weightsEach,List.all_append,Bool.and_eq_true]at hsz'
 obtain⟨l,hr0,ok0⟩:=arg_one (opens_slice (b:=24) (opens_slice (b:=40) chgOpens Tryz.underlying35 (by kernel_rfl) (by kernel_rfl) (by decide)) Tryz.underlying22 (by kernel_rfl) (by kernel_rfl) (by decide)) (by rw[Tryz.underlying22];rfl) (hval 0 22 v0 rfl rfl) h0 hsz'.1
 obtain⟨v'0,hv'0,hr0⟩:=hr0
 obtain rfl:v0=v'0:=by simpa using hv'0
 obtain⟨n,hr1,ok1⟩:=arg_one (opens_int (k:=.i64) Tryz.underlying3 (by kernel_rfl)) (by rw[Tryz.underlying3];rfl) (hval 1 3 v1 rfl rfl) h1 hsz'.2.1
 obtain rfl:v1= .int .i64 n:=by have h:[v1]=[.int .i64 n]:=hr1;simpa using h
 refine (sourceChunks_law n l (λx hx=>by have:=(ok0.2 x hx).1;omega) v0 W hr0).mono λe W' ⟨he,hf⟩=>⟨_,he,?_⟩
 exact law_post (P:=Tryz.prog) Tryz.laidOut (of_decide_eq_true (by kernel_rfl)) rfl rfl Tryz.underlying4 (λds hds=>by match ds,hds with|[d0,d1],_=>exact⟨rfl,rfl,rfl⟩) hW' hf
theorem sourceChunks_fn:Tryz.checked.prog.funcNamed Rows.sourceChunksRow.func=some 4:=by kernel_rfl
theorem sourceChunks_jA:jnA Tryz.prog Tryz.f4 Rows.sourceChunksSpec Rows.sourceChunksRow=true:=by kernel_rfl
theorem sourceChunks_jB:jnB Tryz.prog 4 Rows.sourceChunksRow=true:=by kernel_rfl
theorem sourceChunks_jC:jnC Tryz.prog 4 Rows.sourceChunksRow=true:=by kernel_rfl
theorem sourceChunks_jD:jnD Tryz.prog 4 Rows.sourceChunksRow=true:=by kernel_rfl
theorem sourceChunks_jE:jnE Tryz.prog Tryz.f4 Rows.sourceChunksSpec Rows.sourceChunksRow=true:=by kernel_rfl
theorem sourceChunks_jF:jnF Tryz.prog Rows.sourceChunksRow=true:=by kernel_rfl
theorem sourceChunks_jG:jnG Tryz.prog Tryz.f4 Rows.sourceChunksSpec Rows.sourceChunksRow=true:=by kernel_rfl
theorem sourceChunks_jn:joinedFacts Tryz.checked.prog 4 Tryz.f4 Rows.sourceChunksSpec Rows.sourceChunksRow=true:=joined_of sourceChunks_jA sourceChunks_jB sourceChunks_jC sourceChunks_jD sourceChunks_jE sourceChunks_jF sourceChunks_jG rfl rfl
theorem sourceChunks_holds:Rows.SourceChunksSaid:=
 OpenClaim.holds_of_wide 4 Tryz.f4 rfl rfl rfl rfl rfl rfl rfl ⟨rfl,rfl,rfl,rfl,rfl⟩ rfl rfl rfl rfl rfl sourceChunks_fn Tryz.func4 sourceChunks_jn
  (of_decide_eq_true (by kernel_rfl)) (by unfold Func.isWrapper;first|(rw[if_pos (by decide +kernel)];kernel_rfl)|(rw[if_neg (by decide +kernel)];exact⟨rfl,rfl⟩))
  (λos started H enc _=>sourceChunks_lifted os started H enc)
end Go.Proofs.YtfenmffiidchcaaGreat
