/-
  The statement WheelPlays holds: for every clock and every list of ops the Go function returns true, and the list reads as before.
  No condition beyond the row's own.
-/
import Derived.Test.YtffogjfnmbgogaaLaw24P
import Derived.Test.YtffogjfnmbgogaaOwn
namespace Go.Proofs.Ytffogjfnmbgogaa
set_option linter.unusedVariables false
open Go.ChangeShapes Go.WideShapes Go.ChangeAt Go.RowKit

set_option maxRecDepth 100000 in
theorem wheelPlays_lifted (os : Os) (started : os.Started) (H : Type) (enc : TypeId × Value → H) :
    ReturnsInHanded {} Try.checked os 12 .any (Rows.wheelPlaysSpec.pre6 enc Try.prog Try.f12 Rows.wheelPlaysRow.domain false) (Rows.wheelPlaysSpec.post enc Try.prog Try.f12 false true false false) := by
  refine returnsInHanded_of_change_sized (C := Try.checked) Try.own started (by kernel_rfl) Try.func12
    (ChangeSpec.witness6 (enc := enc) (C := Try.checked) false ⟨#[], #[.int .i64 0, .slice none 0 0], []⟩ 12 (by kernel_rfl) (by kernel_rfl) (by kernel_rfl) (by kernel_rfl)) ?_
  intro W base args ds gs before hval0 hW _ hsz _
  have hval : ∀ (j : Nat) t v, Try.f12.params[j]? = some t → args[j]? = some v → Value.okWide Try.prog W .any base t v := hval0
  have hW' : DataW.Whole enc Try.prog Try.f12.params.toList Rows.wheelPlaysSpec.vars false W args.toList ds gs before := hW
  obtain ⟨p, q, hA0, _, _, _, _⟩ := hW
  have hA : DataW.TrodAll enc Try.prog W 0 (fun _ => true) true Try.f12.params.toList args.toList ds p := hA0
  have hsz' : (DataW.weightsEach Try.prog (Try.f12.params.toList ++ Rows.wheelPlaysSpec.plain.varTypes Try.prog) (ds ++ gs)).all (· ≤ reachBytes) = true := hsz
  rw [Try.params12] at hA hval hsz'
  clear hval0 hA0 hsz
  obtain ⟨v0, vs0, d0, ds0, p0, q0, hargs0, rfl, rfl, h0, r0⟩ := trodAll_cons hA
  obtain ⟨v1, vs1, d1, ds1, p1, q1, hargs1, rfl, rfl, h1, r1⟩ := trodAll_cons r0
  obtain ⟨rfl, rfl, rfl⟩ := trodAll_nil r1
  obtain rfl : args = #[v0, v1] := by cases args; simp_all
  simp only [List.cons_append, List.nil_append, DataW.weightsEach, List.all_append, Bool.and_eq_true] at hsz'
  obtain ⟨now, hr0, ok0⟩ := arg_one (opens_int (k := .i64) Try.underlying2 (by kernel_rfl)) (by rw [Try.underlying2]; rfl) (hval 0 2 v0 rfl rfl) h0 hsz'.1
  obtain rfl : v0 = .int .i64 now := by have h : [v0] = [.int .i64 now] := hr0; simpa using h
  obtain ⟨l, hr1, ok1⟩ := arg_one (opens_slice (b := 24) wopOpens Try.underlying80 (by kernel_rfl) (by kernel_rfl) (by decide)) (by rw [Try.underlying80]; rfl) (hval 1 80 v1 rfl rfl) h1 hsz'.2.1
  obtain ⟨v'1, hv'1, hr1⟩ := hr1
  obtain rfl : v1 = v'1 := by simpa using hv'1
  refine (wheelPlays_law now l v1 W hr1 (by have := ok1.1; omega)).mono fun e W' ⟨he, hf⟩ => ⟨_, he, ?_⟩
  exact law_post (P := Try.prog) Try.laidOut (of_decide_eq_true (by kernel_rfl)) rfl rfl Try.underlying4 (fun ds hds => by match ds, hds with | [d0, d1], _ => exact ⟨rfl, rfl, rfl⟩) hW' hf

theorem wheelPlays_holds : Rows.WheelPlaysSaid :=
  OpenClaim.holds_of_wide 12 Try.f12 rfl rfl rfl rfl rfl rfl rfl ⟨rfl, rfl, rfl, rfl, rfl⟩ rfl rfl rfl rfl rfl (by kernel_rfl) Try.func12 (by kernel_rfl)
    (of_decide_eq_true (by kernel_rfl)) (by unfold Func.isWrapper; first | (rw [if_pos (by decide +kernel)]; kernel_rfl) | (rw [if_neg (by decide +kernel)]; exact ⟨rfl, rfl⟩))
    (fun os started H enc _ => wheelPlays_lifted os started H enc)

end Go.Proofs.Ytffogjfnmbgogaa
