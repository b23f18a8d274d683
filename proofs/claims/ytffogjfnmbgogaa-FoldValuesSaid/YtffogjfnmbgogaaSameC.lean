/-
  Lists of cells, of rows, held against each other.
-/
import Derived.Test.YtffogjfnmbgogaaApi
import Derived.Test.YtffogjfnmbgogaaVcG
namespace Go.Proofs.Ytffogjfnmbgogaa
set_option linter.unusedVariables false
set_option maxRecDepth 100000
open Go.RowKit

theorem eq_cell (a b : Cell) (w : World) : (Op.equal 38 (agg (encCell a)) (agg (encCell b))).run Try.prog w = .ok (decide (a = b)) w := by
  refine run_eqG Try.underlying38 (by kernel_rfl) ?_
  obtain ⟨k, n, g, v⟩ := a
  obtain ⟨k', n', g', v'⟩ := b
  simp [encCell, Op.eqFields, part, run_equalIn_int (h := Try.underlying2), run_equalIn_int (h := Try.underlying3), run_equalIn_bool' (h := Try.underlying4), run_equalIn_string (h := Try.underlying9), Result.andThen, toList_inj]
  by_cases h0 : k = k' <;> by_cases h1 : n = n' <;> by_cases h2 : g = g' <;> by_cases h3 : v = v' <;> simp [*]
theorem one_cell (a b : Cell) : Spec Try.prog 57 [agg (encCell a), agg (encCell b)] [] (Gives (.bool (decide (a = b))) []) := by
  intro W F w hS; apply vc57; unfold Vc57; (try simp only [app] at hS)
  refine ⟨_, rfl, s_new hS ?_⟩
  clear hS; intro b1 w hS
  refine ⟨_, rfl, s_new hS ?_⟩
  clear hS; intro b2 w hS
  refine s_ldN0 hS (by (first | exact .hd | exact .tl .hd | exact .tl (.tl .hd) | exact .tl (.tl (.tl .hd)) | exact .tl (.tl (.tl (.tl .hd))) | exact .tl (.tl (.tl (.tl (.tl .hd)))) | exact .tl (.tl (.tl (.tl (.tl (.tl .hd))))) | exact .tl (.tl (.tl (.tl (.tl (.tl (.tl .hd)))))))) rfl (s_ldN0 hS (by (first | exact .hd | exact .tl .hd | exact .tl (.tl .hd) | exact .tl (.tl (.tl .hd)) | exact .tl (.tl (.tl (.tl .hd))) | exact .tl (.tl (.tl (.tl (.tl .hd)))) | exact .tl (.tl (.tl (.tl (.tl (.tl .hd))))) | exact .tl (.tl (.tl (.tl (.tl (.tl (.tl .hd)))))))) rfl (s_eqG (eq_cell a b w) ?_))
  (refine ⟨_, ⟨rfl, rfl⟩, SL.into hS ?_⟩; (focus ((try simp only [app]); repeat (first | (with_reducible exact Into.refl) | ((with_reducible apply Into.cons); (focus ((repeat (first | (with_reducible exact Rem.hd) | (with_reducible apply Rem.tl))); done))) | (with_reducible apply Into.drop)))))
theorem plain_cell (H : Heap) (u v : Value) (A B : List Cell) (hu : RdSl H 4 u A.length (A.map encCell).flatten) (hv : RdSl H 4 v B.length (B.map encCell).flatten) (hn : A.length ≤ 9223372036854775806) :
    Spec Try.prog 20 [u, v] [.mem H] (Gives (.bool (decide (A = B))) [.mem H]) := by
  intro W F w hS; apply vc20; unfold Vc20; (try simp only [app] at hS)
  (apply s_call (same_gen encCell_len rfl (fun v0 v1 v2 w R h => vc56 v0 v1 v2 w R h) one_cell H u v A B hu hv hn) hS; (focus (repeat (first | (with_reducible exact Pick.nil) | ((with_reducible apply Pick.cons); (focus ((repeat (first | (with_reducible exact Rem.hd) | (with_reducible apply Rem.tl))); done)))))); clear hS)
  rintro v post ⟨rfl, rfl⟩ w hS
  (try simp only [app] at hS)
  (refine ⟨_, ⟨rfl, rfl⟩, SL.into hS ?_⟩; (focus ((try simp only [app]); repeat (first | (with_reducible exact Into.refl) | ((with_reducible apply Into.cons); (focus ((repeat (first | (with_reducible exact Rem.hd) | (with_reducible apply Rem.tl))); done))) | (with_reducible apply Into.drop)))))

theorem eq_row (a b : Row) (w : World) : (Op.equal 43 (agg (encRow a)) (agg (encRow b))).run Try.prog w = .ok (decide (a = b)) w := by
  refine run_eqG Try.underlying43 (by kernel_rfl) ?_
  obtain ⟨k, v⟩ := a
  obtain ⟨k', v'⟩ := b
  simp [encRow, Op.eqFields, part, run_equalIn_int (h := Try.underlying2), run_equalIn_int (h := Try.underlying3), run_equalIn_bool' (h := Try.underlying4), run_equalIn_string (h := Try.underlying9), Result.andThen, toList_inj]
  by_cases h0 : k = k' <;> by_cases h1 : v = v' <;> simp [*]
theorem one_row (a b : Row) : Spec Try.prog 62 [agg (encRow a), agg (encRow b)] [] (Gives (.bool (decide (a = b))) []) := by
  intro W F w hS; apply vc62; unfold Vc62; (try simp only [app] at hS)
  refine ⟨_, rfl, s_new hS ?_⟩
  clear hS; intro b1 w hS
  refine ⟨_, rfl, s_new hS ?_⟩
  clear hS; intro b2 w hS
  refine s_ldN0 hS (by (first | exact .hd | exact .tl .hd | exact .tl (.tl .hd) | exact .tl (.tl (.tl .hd)) | exact .tl (.tl (.tl (.tl .hd))) | exact .tl (.tl (.tl (.tl (.tl .hd)))) | exact .tl (.tl (.tl (.tl (.tl (.tl .hd))))) | exact .tl (.tl (.tl (.tl (.tl (.tl (.tl .hd)))))))) rfl (s_ldN0 hS (by (first | exact .hd | exact .tl .hd | exact .tl (.tl .hd) | exact .tl (.tl (.tl .hd)) | exact .tl (.tl (.tl (.tl .hd))) | exact .tl (.tl (.tl (.tl (.tl .hd)))) | exact .tl (.tl (.tl (.tl (.tl (.tl .hd))))) | exact .tl (.tl (.tl (.tl (.tl (.tl (.tl .hd)))))))) rfl (s_eqG (eq_row a b w) ?_))
  (refine ⟨_, ⟨rfl, rfl⟩, SL.into hS ?_⟩; (focus ((try simp only [app]); repeat (first | (with_reducible exact Into.refl) | ((with_reducible apply Into.cons); (focus ((repeat (first | (with_reducible exact Rem.hd) | (with_reducible apply Rem.tl))); done))) | (with_reducible apply Into.drop)))))
theorem plain_row (H : Heap) (u v : Value) (A B : List Row) (hu : RdSl H 2 u A.length (A.map encRow).flatten) (hv : RdSl H 2 v B.length (B.map encRow).flatten) (hn : A.length ≤ 9223372036854775806) :
    Spec Try.prog 23 [u, v] [.mem H] (Gives (.bool (decide (A = B))) [.mem H]) := by
  intro W F w hS; apply vc23; unfold Vc23; (try simp only [app] at hS)
  (apply s_call (same_gen encRow_len rfl (fun v0 v1 v2 w R h => vc61 v0 v1 v2 w R h) one_row H u v A B hu hv hn) hS; (focus (repeat (first | (with_reducible exact Pick.nil) | ((with_reducible apply Pick.cons); (focus ((repeat (first | (with_reducible exact Rem.hd) | (with_reducible apply Rem.tl))); done)))))); clear hS)
  rintro v post ⟨rfl, rfl⟩ w hS
  (try simp only [app] at hS)
  (refine ⟨_, ⟨rfl, rfl⟩, SL.into hS ?_⟩; (focus ((try simp only [app]); repeat (first | (with_reducible exact Into.refl) | ((with_reducible apply Into.cons); (focus ((repeat (first | (with_reducible exact Rem.hd) | (with_reducible apply Rem.tl))); done))) | (with_reducible apply Into.drop)))))
end Go.Proofs.Ytffogjfnmbgogaa
