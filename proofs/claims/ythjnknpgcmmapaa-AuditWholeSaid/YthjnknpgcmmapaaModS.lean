/-
  Mod and Big, over pieces of memory.
-/
import Derived.Test.YthjnknpgcmmapaaSl5
import Derived.Test.YthjnknpgcmmapaaVcG
namespace Go.Proofs.Ythjnknpgcmmapaa
set_option linter.unusedVariables false
set_option maxRecDepth 100000
open Go.RowKit

/-- Mod(v, n). -/
def md (v : Int) (n : Nat) : Nat := ((IntKind.u64.wrap v) % (n : Int)).toNat
theorem md_lt (v : Int) (n : Nat) (hn : 0 < n) : md v n < n := by
  unfold md
  have h1 := Int.emod_nonneg (IntKind.u64.wrap v) (show (n : Int) ≠ 0 by omega)
  have h2 := Int.emod_lt_of_pos (IntKind.u64.wrap v) (show (0 : Int) < n by omega)
  omega
theorem mod_spec (v : Int) (n : Nat) (h1 : 0 < n) (h2 : n ≤ 9223372036854775807) : Spec Try.prog 27 [.int .i64 v, .int .i64 (n : Int)] [] (Gives (.int .i64 (md v n : Int)) []) := by
  intro W F w hS; apply vc27; unfold Vc27; (try simp only [app] at hS)
  have hn : IntKind.u64.wrap (n : Int) = n := by rw [IntKind.wrap_u64]; omega
  have hv : 0 ≤ IntKind.u64.wrap v := by rw [IntKind.wrap_u64]; omega
  refine s_cvI (s_cvI ?_)
  rw [hn]
  refine s_rem (by omega) ?_
  have e : (IntKind.u64.wrap v).tmod (n : Int) = (md v n : Int) := by
    rw [Int.tmod_eq_emod_of_nonneg hv]; unfold md
    have := Int.emod_nonneg (IntKind.u64.wrap v) (show (n : Int) ≠ 0 by omega)
    omega
  rw [e]
  have := md_lt v n h1
  refine s_cv64 (by omega) ?_
  (refine ⟨_, ⟨rfl, rfl⟩, SL.into hS ?_⟩; (focus ((try simp only [app]); repeat (first | (with_reducible exact Into.refl) | ((with_reducible apply Into.cons); (focus ((repeat (first | (with_reducible exact Rem.hd) | (with_reducible apply Rem.tl))); done))) | (with_reducible apply Into.drop)))))
theorem big_spec (v : Int) (n : Nat) (h1 : 0 < n) (h2 : n ≤ 9223372036854775807) : Spec Try.prog 66 [.int .i64 v, .int .i64 (n : Int)] [] (Gives (.int .i64 (md v n : Int)) []) := by
  intro W F w hS; apply vc66; unfold Vc66; (try simp only [app] at hS)
  have hn : IntKind.u64.wrap (n : Int) = n := by rw [IntKind.wrap_u64]; omega
  have hv : 0 ≤ IntKind.u64.wrap v := by rw [IntKind.wrap_u64]; omega
  refine s_cvI (s_cvI ?_)
  rw [hn]
  refine s_rem (by omega) ?_
  have e : (IntKind.u64.wrap v).tmod (n : Int) = (md v n : Int) := by
    rw [Int.tmod_eq_emod_of_nonneg hv]; unfold md
    have := Int.emod_nonneg (IntKind.u64.wrap v) (show (n : Int) ≠ 0 by omega)
    omega
  rw [e]
  have := md_lt v n h1
  refine s_cv64 (by omega) ?_
  (refine ⟨_, ⟨rfl, rfl⟩, SL.into hS ?_⟩; (focus ((try simp only [app]); repeat (first | (with_reducible exact Into.refl) | ((with_reducible apply Into.cons); (focus ((repeat (first | (with_reducible exact Rem.hd) | (with_reducible apply Rem.tl))); done))) | (with_reducible apply Into.drop)))))
end Go.Proofs.Ythjnknpgcmmapaa
