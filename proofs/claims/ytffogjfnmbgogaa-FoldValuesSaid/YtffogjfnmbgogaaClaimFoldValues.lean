/-
  The statement FoldValues holds: for every list of transactions and every numbers and text the Go function returns true, and the transactions read as before.
  No condition beyond the row's own.
-/
import Derived.Test.YtffogjfnmbgogaaLaw11V
import Derived.Test.YtffogjfnmbgogaaOwn
namespace Go.Proofs.Ytffogjfnmbgogaa
set_option linter.unusedVariables false
open Go.ChangeShapes Go.WideShapes Go.ChangeAt Go.RowKit

set_option maxRecDepth 100000 in
theorem foldValues_lifted (os : Os) (started : os.Started) (H : Type) (enc : TypeId × Value → H) :
    ReturnsInHanded {} Try.checked os 8 .any (Rows.foldValuesSpec.pre6 enc Try.prog Try.f8 Rows.foldValuesRow.domain false) (Rows.foldValuesSpec.post enc Try.prog Try.f8 false true false false) := by
  refine returnsInHanded_of_change_sized (C := Try.checked) Try.own started (by kernel_rfl) Try.func8
    (ChangeSpec.witness6 (enc := enc) (C := Try.checked) false ⟨#[], #[.slice none 0 0, .int .i64 0, .int .i64 0, .int .i64 0, .int .i64 0, .string ⟨#[]⟩], []⟩ 12 (by kernel_rfl) (by kernel_rfl) (by kernel_rfl) (by kernel_rfl)) ?_
  intro W base args ds gs before hval0 hW _ hsz _
  have hval : ∀ (j : Nat) t v, Try.f8.params[j]? = some t → args[j]? = some v → Value.okWide Try.prog W .any base t v := hval0
  have hW' : DataW.Whole enc Try.prog Try.f8.params.toList Rows.foldValuesSpec.vars false W args.toList ds gs before := hW
  obtain ⟨p, q, hA0, _, _, _, _⟩ := hW
  have hA : DataW.TrodAll enc Try.prog W 0 (fun _ => true) true Try.f8.params.toList args.toList ds p := hA0
  have hsz' : (DataW.weightsEach Try.prog (Try.f8.params.toList ++ Rows.foldValuesSpec.plain.varTypes Try.prog) (ds ++ gs)).all (· ≤ reachBytes) = true := hsz
  rw [Try.params8] at hA hval hsz'
  clear hval0 hA0 hsz
  obtain ⟨v0, vs0, d0, ds0, p0, q0, hargs0, rfl, rfl, h0, r0⟩ := trodAll_cons hA
  obtain ⟨v1, vs1, d1, ds1, p1, q1, hargs1, rfl, rfl, h1, r1⟩ := trodAll_cons r0
  obtain ⟨v2, vs2, d2, ds2, p2, q2, hargs2, rfl, rfl, h2, r2⟩ := trodAll_cons r1
  obtain ⟨v3, vs3, d3, ds3, p3, q3, hargs3, rfl, rfl, h3, r3⟩ := trodAll_cons r2
  obtain ⟨v4, vs4, d4, ds4, p4, q4, hargs4, rfl, rfl, h4, r4⟩ := trodAll_cons r3
  obtain ⟨v5, vs5, d5, ds5, p5, q5, hargs5, rfl, rfl, h5, r5⟩ := trodAll_cons r4
  obtain ⟨rfl, rfl, rfl⟩ := trodAll_nil r5
  obtain rfl : args = #[v0, v1, v2, v3, v4, v5] := by cases args; simp_all
  simp only [List.cons_append, List.nil_append, DataW.weightsEach, List.all_append, Bool.and_eq_true] at hsz'
  obtain ⟨l, hr0, ok0⟩ := arg_one (opens_slice (b := 72) txnOpens Try.underlying52 (by kernel_rfl) (by kernel_rfl) (by decide)) (by rw [Try.underlying52]; rfl) (hval 0 52 v0 rfl rfl) h0 hsz'.1
  obtain ⟨v'0, hv'0, hr0⟩ := hr0
  obtain rfl : v0 = v'0 := by simpa using hv'0
  obtain ⟨a, hr1, ok1⟩ := arg_one (opens_int (k := .i64) Try.underlying3 (by kernel_rfl)) (by rw [Try.underlying3]; rfl) (hval 1 3 v1 rfl rfl) h1 hsz'.2.1
  obtain rfl : v1 = .int .i64 a := by have h : [v1] = [.int .i64 a] := hr1; simpa using h
  obtain ⟨b, hr2, ok2⟩ := arg_one (opens_int (k := .i64) Try.underlying3 (by kernel_rfl)) (by rw [Try.underlying3]; rfl) (hval 2 3 v2 rfl rfl) h2 hsz'.2.2.1
  obtain rfl : v2 = .int .i64 b := by have h : [v2] = [.int .i64 b] := hr2; simpa using h
  obtain ⟨table, hr3, ok3⟩ := arg_one (opens_int (k := .i64) Try.underlying3 (by kernel_rfl)) (by rw [Try.underlying3]; rfl) (hval 3 3 v3 rfl rfl) h3 hsz'.2.2.2.1
  obtain rfl : v3 = .int .i64 table := by have h : [v3] = [.int .i64 table] := hr3; simpa using h
  obtain ⟨key, hr4, ok4⟩ := arg_one (opens_int (k := .i64) Try.underlying2 (by kernel_rfl)) (by rw [Try.underlying2]; rfl) (hval 4 2 v4 rfl rfl) h4 hsz'.2.2.2.2.1
  obtain rfl : v4 = .int .i64 key := by have h : [v4] = [.int .i64 key] := hr4; simpa using h
  obtain ⟨val, hr5, ok5⟩ := arg_one (opens_str Try.underlying9 (by kernel_rfl)) (by rw [Try.underlying9]; rfl) (hval 5 9 v5 rfl rfl) h5 hsz'.2.2.2.2.2.1
  obtain rfl : v5 = .string val := by have h : [v5] = [.string val] := hr5; simpa using h
  refine (foldValues_law l a b table key val ok0.2 v0 W hr0 (by have := ok0.1; omega)).mono fun e W' ⟨he, hf⟩ => ⟨_, he, ?_⟩
  exact law_post (P := Try.prog) Try.laidOut (of_decide_eq_true (by kernel_rfl)) rfl rfl Try.underlying4 (fun ds hds => by match ds, hds with | [d0, d1, d2, d3, d4, d5], _ => exact ⟨rfl, rfl, rfl⟩) hW' hf

theorem foldValues_holds : Rows.FoldValuesSaid :=
  OpenClaim.holds_of_wide 8 Try.f8 rfl rfl rfl rfl rfl rfl rfl ⟨rfl, rfl, rfl, rfl, rfl⟩ rfl rfl rfl rfl rfl (by kernel_rfl) Try.func8 (by kernel_rfl)
    (of_decide_eq_true (by kernel_rfl)) (by unfold Func.isWrapper; first | (rw [if_pos (by decide +kernel)]; kernel_rfl) | (rw [if_neg (by decide +kernel)]; exact ⟨rfl, rfl⟩))
    (fun os started H enc _ => foldValues_lifted os started H enc)

end Go.Proofs.Ytffogjfnmbgogaa
