/-
  The statement WalOpensUpto holds: for every base and size and any files of bulk at most 1048576 the Go function returns true, and the files read as before.
  No condition beyond the row's own.
-/
import Derived.Test.YtmcglicbolhmfaaGreatJ12
namespace Go.Proofs.YtmcglicbolhmfaaGreat
set_option linter.unusedVariables false
open Go.ChangeShapes Go.WideShapes Go.ChangeAt Go.RowKit

set_option maxRecDepth 100000 in
theorem walOpensUpto_lifted (os : Os) (started : os.Started) (H : Type) (enc : TypeId × Value → H) (F : Stop.Interp) :
    ReturnsInHanded {} Tryz.checked os 3 .any ((Rows.OpenSpec.upto Rows.walOpensSpec).pre6 enc Tryz.prog Tryz.f3 Rows.walOpensUptoRow.domain false) (((Rows.OpenSpec.upto Rows.walOpensSpec).at F).post enc Tryz.prog Tryz.f3 false true false false) := by
  refine returnsInHanded_of_cond (C := Tryz.checked) (s := Rows.OpenSpec.upto Rows.walOpensSpec) (k := Rows.uptoSmall) rfl Tryz.own started (by kernel_rfl) Tryz.func3
    (OpenSpec.witness (enc := enc) (C := Tryz.checked) (s := Rows.OpenSpec.upto Rows.walOpensSpec) (k := Rows.uptoSmall) rfl false ⟨#[], #[.int .i64 0, .int .i64 0, .slice none 0 0], []⟩ 12 (by kernel_rfl) (by kernel_rfl) (by kernel_rfl)
      (x := ([.lit (.int .i64 0), .lit (.int .i64 0), .nil], [], [])) (by kernel_rfl) rfl (by kernel_rfl)) ?_
  intro W base args ds gs before hval0 hW _ hk0 _
  have hval : ∀ (j : Nat) t v, Tryz.f3.params[j]? = some t → args[j]? = some v → Value.okWide Tryz.prog W .any base t v := hval0
  have hW' : DataW.Whole enc Tryz.prog Tryz.f3.params.toList Rows.walOpensSpec.vars false W args.toList ds gs before := hW
  obtain ⟨p, q, hA0, hV, _, _, _⟩ := hW
  obtain ⟨rfl, rfl⟩ := trodVars_none hV
  have hA : DataW.TrodAll enc Tryz.prog W 0 (fun _ => true) true Tryz.f3.params.toList args.toList ds p := hA0
  have hk := uptoBound hk0
  rw [Tryz.params3] at hA hval
  clear hval0 hA0
  obtain ⟨v0, vs0, d0, ds0, p0, q0, hargs0, rfl, rfl, h0, r0⟩ := trodAll_cons hA
  obtain ⟨v1, vs1, d1, ds1, p1, q1, hargs1, rfl, rfl, h1, r1⟩ := trodAll_cons r0
  obtain ⟨v2, vs2, d2, ds2, p2, q2, hargs2, rfl, rfl, h2, r2⟩ := trodAll_cons r1
  obtain ⟨rfl, rfl, rfl⟩ := trodAll_nil r2
  obtain rfl : args = #[v0, v1, v2] := by cases args; simp_all
  simp only [List.cons_append, List.nil_append, Rows.uptoBulkAll] at hk
  obtain ⟨base, hr0, ok0, sz0⟩ := argB_one (opensB_int (k := .i64) Tryz.underlying3 (by kernel_rfl)) (by rw [Tryz.underlying3]; rfl) (hval 0 3 v0 rfl rfl) h0
  obtain rfl : v0 = .int .i64 base := by have h : [v0] = [.int .i64 base] := hr0; simpa using h
  obtain ⟨n, hr1, ok1, sz1⟩ := argB_one (opensB_int (k := .i64) Tryz.underlying3 (by kernel_rfl)) (by rw [Tryz.underlying3]; rfl) (hval 1 3 v1 rfl rfl) h1
  obtain rfl : v1 = .int .i64 n := by have h : [v1] = [.int .i64 n] := hr1; simpa using h
  obtain ⟨l, hr2, ok2, sz2⟩ := argB_one (opensB_slice f6Opens Tryz.underlying22 (by kernel_rfl) (by decide)) (by rw [Tryz.underlying22]; rfl) (hval 2 22 v2 rfl rfl) h2
  obtain ⟨v'2, hv'2, hr2⟩ := hr2
  obtain rfl : v2 = v'2 := by simpa using hv'2
  refine (walOpens_law base n l ok2 v2 W hr2 (by omega)).mono fun e W' ⟨he, hf⟩ => ⟨_, he, ?_⟩
  exact law_post (P := Tryz.prog) (s := Rows.walOpensSpec) Tryz.laidOut (of_decide_eq_true (by kernel_rfl)) rfl rfl Tryz.underlying4 (fun ds hds => by match ds, hds with | [d0, d1, d2], _ => exact ⟨rfl, rfl, rfl⟩) hW' hf

theorem walOpensUpto_holds : Rows.WalOpensUptoSaid :=
  OpenClaim.holds_of_cond 3 Tryz.f3 rfl rfl rfl rfl rfl rfl rfl ⟨rfl, rfl, rfl, rfl, rfl⟩ rfl rfl rfl rfl rfl (by kernel_rfl) Tryz.func3 (by kernel_rfl)
    (of_decide_eq_true (by kernel_rfl)) (by unfold Func.isWrapper; first | (rw [if_pos (by decide +kernel)]; kernel_rfl) | (rw [if_neg (by decide +kernel)]; exact ⟨rfl, rfl⟩))
    (fun os started H enc _ F => walOpensUpto_lifted os started H enc F)

end Go.Proofs.YtmcglicbolhmfaaGreat
