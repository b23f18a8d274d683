/-
  The statement WheelTimes holds: for every list of times and every step the Go function returns true, and the list reads as before.
  No condition beyond the row's own.
-/
import Derived.Test.YtffogjfnmbgogaaLaw24T
import Derived.Test.YtffogjfnmbgogaaOwn
namespace Go.Proofs.Ytffogjfnmbgogaa
set_option linter.unusedVariables false
open Go.ChangeShapes Go.WideShapes Go.ChangeAt Go.RowKit

set_option maxRecDepth 100000 in
theorem wheelTimes_lifted (os : Os) (started : os.Started) (H : Type) (enc : TypeId × Value → H) :
    ReturnsInHanded {} Try.checked os 11 .any (Rows.wheelTimesSpec.pre6 enc Try.prog Try.f11 Rows.wheelTimesRow.domain false) (Rows.wheelTimesSpec.post enc Try.prog Try.f11 false true false false) := by
  refine returnsInHanded_of_change_sized (C := Try.checked) Try.own started (by kernel_rfl) Try.func11
    (ChangeSpec.witness6 (enc := enc) (C := Try.checked) false ⟨#[], #[.slice none 0 0, .int .i64 0], []⟩ 12 (by kernel_rfl) (by kernel_rfl) (by kernel_rfl) (by kernel_rfl)) ?_
  intro W base args ds gs before hval0 hW _ hsz _
  have hval : ∀ (j : Nat) t v, Try.f11.params[j]? = some t → args[j]? = some v → Value.okWide Try.prog W .any base t v := hval0
  have hW' : DataW.Whole enc Try.prog Try.f11.params.toList Rows.wheelTimesSpec.vars false W args.toList ds gs before := hW
  obtain ⟨p, q, hA0, _, _, _, _⟩ := hW
  have hA : DataW.TrodAll enc Try.prog W 0 (fun _ => true) true Try.f11.params.toList args.toList ds p := hA0
  have hsz' : (DataW.weightsEach Try.prog (Try.f11.params.toList ++ Rows.wheelTimesSpec.plain.varTypes Try.prog) (ds ++ gs)).all (· ≤ reachBytes) = true := hsz
  rw [Try.params11] at hA hval hsz'
  clear hval0 hA0 hsz
  obtain ⟨v0, vs0, d0, ds0, p0, q0, hargs0, rfl, rfl, h0, r0⟩ := trodAll_cons hA
  obtain ⟨v1, vs1, d1, ds1, p1, q1, hargs1, rfl, rfl, h1, r1⟩ := trodAll_cons r0
  obtain ⟨rfl, rfl, rfl⟩ := trodAll_nil r1
  obtain rfl : args = #[v0, v1] := by cases args; simp_all
  simp only [List.cons_append, List.nil_append, DataW.weightsEach, List.all_append, Bool.and_eq_true] at hsz'
  obtain ⟨l, hr0, ok0⟩ := arg_one (opens_slice (b := 8) (opens_int (k := .i64) Try.underlying2 (by kernel_rfl)) Try.underlying73 (by kernel_rfl) (by kernel_rfl) (by decide)) (by rw [Try.underlying73]; rfl) (hval 0 73 v0 rfl rfl) h0 hsz'.1
  obtain ⟨v'0, hv'0, hr0⟩ := hr0
  obtain rfl : v0 = v'0 := by simpa using hv'0
  obtain ⟨step, hr1, ok1⟩ := arg_one (opens_int (k := .i64) Try.underlying2 (by kernel_rfl)) (by rw [Try.underlying2]; rfl) (hval 1 2 v1 rfl rfl) h1 hsz'.2.1
  obtain rfl : v1 = .int .i64 step := by have h : [v1] = [.int .i64 step] := hr1; simpa using h
  refine (wheelTimes_law l step v0 W hr0 (by have := ok0.1; omega)).mono fun e W' ⟨he, hf⟩ => ⟨_, he, ?_⟩
  exact law_post (P := Try.prog) Try.laidOut (of_decide_eq_true (by kernel_rfl)) rfl rfl Try.underlying4 (fun ds hds => by match ds, hds with | [d0, d1], _ => exact ⟨rfl, rfl, rfl⟩) hW' hf

theorem wheelTimes_holds : Rows.WheelTimesSaid :=
  OpenClaim.holds_of_wide 11 Try.f11 rfl rfl rfl rfl rfl rfl rfl ⟨rfl, rfl, rfl, rfl, rfl⟩ rfl rfl rfl rfl rfl (by kernel_rfl) Try.func11 (by kernel_rfl)
    (of_decide_eq_true (by kernel_rfl)) (by unfold Func.isWrapper; first | (rw [if_pos (by decide +kernel)]; kernel_rfl) | (rw [if_neg (by decide +kernel)]; exact ⟨rfl, rfl⟩))
    (fun os started H enc _ => wheelTimes_lifted os started H enc)

end Go.Proofs.Ytffogjfnmbgogaa
