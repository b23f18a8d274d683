/-
  The statement WalTorn holds: for every size, any entries, wherever the last file is cut, and any entry behind, the Go function returns true, and the arguments read as before.
  No condition beyond the row's own.
-/
import Derived.Test.YtilgfgghjdomcaaJ10
namespace Go.Proofs.Ytilgfgghjdomcaa
set_option linter.unusedVariables false
open Go.ChangeShapes Go.WideShapes Go.ChangeAt Go.RowKit

set_option maxRecDepth 100000 in
theorem walTorn_lifted (os : Os) (started : os.Started) (H : Type) (enc : TypeId × Value → H) :
    ReturnsInHanded {} Try.checked os 3 .any (Rows.walTornSpec.pre6 enc Try.prog Try.f3 Rows.walTornRow.domain false) (Rows.walTornSpec.post enc Try.prog Try.f3 false true false false) := by
  refine returnsInHanded_of_change_sized (C := Try.checked) Try.own started (by kernel_rfl) Try.func3
    (ChangeSpec.witness6 (enc := enc) (C := Try.checked) false ⟨#[], #[.int .i64 0, .slice none 0 0, .int .i64 0, .slice none 0 0], []⟩ 12 (by kernel_rfl) (by kernel_rfl) (by kernel_rfl) (by kernel_rfl)) ?_
  intro W base args ds gs before hval0 hW _ hsz _
  have hval : ∀ (j : Nat) t v, Try.f3.params[j]? = some t → args[j]? = some v → Value.okWide Try.prog W .any base t v := hval0
  have hW' : DataW.Whole enc Try.prog Try.f3.params.toList Rows.walTornSpec.vars false W args.toList ds gs before := hW
  obtain ⟨p, q, hA0, _, _, _, _⟩ := hW
  have hA : DataW.TrodAll enc Try.prog W 0 (fun _ => true) true Try.f3.params.toList args.toList ds p := hA0
  have hsz' : (DataW.weightsEach Try.prog (Try.f3.params.toList ++ Rows.walTornSpec.plain.varTypes Try.prog) (ds ++ gs)).all (· ≤ reachBytes) = true := hsz
  rw [Try.params3] at hA hval hsz'
  clear hval0 hA0 hsz
  obtain ⟨v0, vs0, d0, ds0, p0, q0, hargs0, rfl, rfl, h0, r0⟩ := trodAll_cons hA
  obtain ⟨v1, vs1, d1, ds1, p1, q1, hargs1, rfl, rfl, h1, r1⟩ := trodAll_cons r0
  obtain ⟨v2, vs2, d2, ds2, p2, q2, hargs2, rfl, rfl, h2, r2⟩ := trodAll_cons r1
  obtain ⟨v3, vs3, d3, ds3, p3, q3, hargs3, rfl, rfl, h3, r3⟩ := trodAll_cons r2
  obtain ⟨rfl, rfl, rfl⟩ := trodAll_nil r3
  obtain rfl : args = #[v0, v1, v2, v3] := by cases args; simp_all
  simp only [List.cons_append, List.nil_append, DataW.weightsEach, List.all_append, Bool.and_eq_true] at hsz'
  obtain ⟨n, hr0, ok0⟩ := arg_one (opens_int (k := .i64) Try.underlying3 (by kernel_rfl)) (by rw [Try.underlying3]; rfl) (hval 0 3 v0 rfl rfl) h0 hsz'.1
  obtain rfl : v0 = .int .i64 n := by have h : [v0] = [.int .i64 n] := hr0; simpa using h
  obtain ⟨l, hr1, ok1⟩ := arg_one (opens_slice (b := 24) (opens_slice (b := 1) (opens_int (k := .u8) Try.underlying5 (by kernel_rfl)) Try.underlying23 (by kernel_rfl) (by kernel_rfl) (by decide)) Try.underlying22 (by kernel_rfl) (by kernel_rfl) (by decide)) (by rw [Try.underlying22]; rfl) (hval 1 22 v1 rfl rfl) h1 hsz'.2.1
  obtain ⟨v'1, hv'1, hr1⟩ := hr1
  obtain rfl : v1 = v'1 := by simpa using hv'1
  obtain ⟨cut, hr2, ok2⟩ := arg_one (opens_int (k := .i64) Try.underlying3 (by kernel_rfl)) (by rw [Try.underlying3]; rfl) (hval 2 3 v2 rfl rfl) h2 hsz'.2.2.1
  obtain rfl : v2 = .int .i64 cut := by have h : [v2] = [.int .i64 cut] := hr2; simpa using h
  obtain ⟨p_, hr3, ok3⟩ := arg_one (opens_slice (b := 1) (opens_int (k := .u8) Try.underlying5 (by kernel_rfl)) Try.underlying23 (by kernel_rfl) (by kernel_rfl) (by decide)) (by rw [Try.underlying23]; rfl) (hval 3 23 v3 rfl rfl) h3 hsz'.2.2.2.1
  obtain ⟨v'3, hv'3, hr3⟩ := hr3
  obtain rfl : v3 = v'3 := by simpa using hv'3
  refine (walTorn_law n cut l p_ (okB ok1) ok3.2 v1 v3 W hr1 hr3).mono fun e W' ⟨he, hf⟩ => ⟨_, he, ?_⟩
  exact law_post (P := Try.prog) Try.laidOut (of_decide_eq_true (by kernel_rfl)) rfl rfl Try.underlying4 (fun ds hds => by match ds, hds with | [d0, d1, d2, d3], _ => exact ⟨rfl, rfl, rfl⟩) hW' hf

theorem walTorn_holds : Rows.WalTornSaid :=
  OpenClaim.holds_of_wide 3 Try.f3 rfl rfl rfl rfl rfl rfl rfl ⟨rfl, rfl, rfl, rfl, rfl⟩ rfl rfl rfl rfl rfl (by kernel_rfl) Try.func3 (by kernel_rfl)
    (of_decide_eq_true (by kernel_rfl)) (by unfold Func.isWrapper; first | (rw [if_pos (by decide +kernel)]; kernel_rfl) | (rw [if_neg (by decide +kernel)]; exact ⟨rfl, rfl⟩))
    (fun os started H enc _ => walTorn_lifted os started H enc)

end Go.Proofs.Ytilgfgghjdomcaa
