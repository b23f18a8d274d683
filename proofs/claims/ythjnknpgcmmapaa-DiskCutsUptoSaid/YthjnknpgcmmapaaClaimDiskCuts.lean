/-
  The statement DiskCutsUpto holds: for all rows of bytes and every number, of bulk at most 1048576 together, the Go function returns true, and the rows read as before.
  No condition beyond the row's own.
-/
import Derived.Test.YthjnknpgcmmapaaLaw04C
import Derived.Test.YthjnknpgcmmapaaLib3B
import Derived.Test.YthjnknpgcmmapaaOwn
namespace Go.Proofs.Ythjnknpgcmmapaa
set_option linter.unusedVariables false
open Go.ChangeShapes Go.WideShapes Go.ChangeAt Go.RowKit

set_option maxRecDepth 100000 in
theorem diskCutsUpto_lifted (os : Os) (started : os.Started) (H : Type) (enc : TypeId × Value → H) (F : Stop.Interp) :
    ReturnsInHanded {} Try.checked os 6 .any ((Rows.OpenSpec.upto Rows.diskCutsSpec).pre6 enc Try.prog Try.f6 Rows.diskCutsUptoRow.domain false) (((Rows.OpenSpec.upto Rows.diskCutsSpec).at F).post enc Try.prog Try.f6 false true false false) := by
  refine returnsInHanded_of_cond (C := Try.checked) (s := Rows.OpenSpec.upto Rows.diskCutsSpec) (k := Rows.uptoSmall) rfl Try.own started (by kernel_rfl) Try.func6
    (OpenSpec.witness (enc := enc) (C := Try.checked) (s := Rows.OpenSpec.upto Rows.diskCutsSpec) (k := Rows.uptoSmall) rfl false ⟨#[], #[.slice none 0 0, .slice none 0 0, .int .i64 0], []⟩ 12 (by kernel_rfl) (by kernel_rfl) (by kernel_rfl)
      (x := ([.nil, .nil, .lit (.int .i64 0)], [], [])) (by kernel_rfl) rfl (by kernel_rfl)) ?_
  intro W base args ds gs before hval0 hW _ hk0 _
  have hval : ∀ (j : Nat) t v, Try.f6.params[j]? = some t → args[j]? = some v → Value.okWide Try.prog W .any base t v := hval0
  have hW' : DataW.Whole enc Try.prog Try.f6.params.toList Rows.diskCutsSpec.vars false W args.toList ds gs before := hW
  obtain ⟨p, q, hA0, hV, _, _, _⟩ := hW
  obtain ⟨rfl, rfl⟩ := trodVars_none hV
  have hA : DataW.TrodAll enc Try.prog W 0 (fun _ => true) true Try.f6.params.toList args.toList ds p := hA0
  have hk := uptoBound hk0
  rw [Try.params6] at hA hval
  clear hval0 hA0
  obtain ⟨v0, vs0, d0, ds0, p0, q0, hargs0, rfl, rfl, h0, r0⟩ := trodAll_cons hA
  obtain ⟨v1, vs1, d1, ds1, p1, q1, hargs1, rfl, rfl, h1, r1⟩ := trodAll_cons r0
  obtain ⟨v2, vs2, d2, ds2, p2, q2, hargs2, rfl, rfl, h2, r2⟩ := trodAll_cons r1
  obtain ⟨rfl, rfl, rfl⟩ := trodAll_nil r2
  obtain rfl : args = #[v0, v1, v2] := by cases args; simp_all
  simp only [List.cons_append, List.nil_append, Rows.uptoBulkAll] at hk
  obtain ⟨a, hr0, ok0, sz0⟩ := argB_one (opensB_slice (opensB_int (k := .u8) Try.underlying5 (by kernel_rfl)) Try.underlying22 (by kernel_rfl) (by decide)) (by rw [Try.underlying22]; rfl) (hval 0 22 v0 rfl rfl) h0
  obtain ⟨v'0, hv'0, hr0⟩ := hr0
  obtain rfl : v0 = v'0 := by simpa using hv'0
  obtain ⟨b, hr1, ok1, sz1⟩ := argB_one (opensB_slice (opensB_int (k := .u8) Try.underlying5 (by kernel_rfl)) Try.underlying22 (by kernel_rfl) (by decide)) (by rw [Try.underlying22]; rfl) (hval 1 22 v1 rfl rfl) h1
  obtain ⟨v'1, hv'1, hr1⟩ := hr1
  obtain rfl : v1 = v'1 := by simpa using hv'1
  obtain ⟨n, hr2, ok2, sz2⟩ := argB_one (opensB_int (k := .i64) Try.underlying3 (by kernel_rfl)) (by rw [Try.underlying3]; rfl) (hval 2 3 v2 rfl rfl) h2
  obtain rfl : v2 = .int .i64 n := by have h : [v2] = [.int .i64 n] := hr2; simpa using h
  refine (diskCuts_law a b n ok0 ok1 v0 v1 W hr0 hr1 (by rw [sum_ones3] at sz0; omega) (by rw [sum_ones3] at sz1; omega)).mono fun e W' ⟨he, hf⟩ => ⟨_, he, ?_⟩
  exact law_post (P := Try.prog) (s := Rows.diskCutsSpec) Try.laidOut (of_decide_eq_true (by kernel_rfl)) rfl rfl Try.underlying4 (fun ds hds => by match ds, hds with | [d0, d1, d2], _ => exact ⟨rfl, rfl, rfl⟩) hW' hf

theorem diskCutsUpto_holds : Rows.DiskCutsUptoSaid :=
  OpenClaim.holds_of_cond 6 Try.f6 rfl rfl rfl rfl rfl rfl rfl ⟨rfl, rfl, rfl, rfl, rfl⟩ rfl rfl rfl rfl rfl (by kernel_rfl) Try.func6 (by kernel_rfl)
    (of_decide_eq_true (by kernel_rfl)) (by unfold Func.isWrapper; first | (rw [if_pos (by decide +kernel)]; kernel_rfl) | (rw [if_neg (by decide +kernel)]; exact ⟨rfl, rfl⟩))
    (fun os started H enc _ F => diskCutsUpto_lifted os started H enc F)

end Go.Proofs.Ythjnknpgcmmapaa
