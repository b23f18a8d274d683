/-
  My own small library: the steps of a drawn region's head.
-/
import Derived.Test.YtjgacikohlnjdaaLib5
namespace Go.Proofs.Ytjgacikohlnjdaa
set_option linter.unusedVariables false
open Go.RowKit

section
variable {P : Program} {ops : Array Oper} {G : World → World → Prop} {S : World → Prop} {w0 : World} {sz : Nat} {ins : List (Option Tmp × Pd)} {fin : List (Option Tmp × Pd) → Prop} {o : Oper} {r : List Oper} {acc : List (Option Tmp × Pd)}

/-- The world is left alone, the value is always the same. -/
theorem hd_pure {c : Value} {d : Option Tmp} (hGr : ∀ x, G x x) (hrun : ∀ a w, a.tmps.size = sz → G w0 w → S w → facts (acc ++ ins) (o.looksAt ops) a w → ∀ (K : Act → World → Prop) (Q : Exit → Act → World → Prop), K (a.put d c) w → if Region.wanted o (yielded ops a.tmps) = true then o.wp P a w K Q else K (a.put o.dst undef) w)
    (hrest : HeadOk P ops G S w0 sz ins fin r (acc ++ [(d, fun v _ => v = c)])) (hd : o.dst = d := by rfl) : HeadOk P ops G S w0 sz ins fin (o :: r) acc := by
  subst hd
  exact ⟨fun v _ => v = c, fun _ _ _ h _ => h, fun a w h1 h2 h3 h4 K Q hK => hrun a w h1 h2 h3 h4 K Q (hK c w (hGr w) rfl), hrest⟩

theorem hd_step {d : Option Tmp} (F : Pd) (hst : ∀ v w w', F v w → G w w' → F v w') (hrun : ∀ a w, a.tmps.size = sz → G w0 w → S w → facts (acc ++ ins) (o.looksAt ops) a w → ∀ (K : Act → World → Prop) (Q : Exit → Act → World → Prop), (∀ v w', G w w' → F v w' → K (a.put d v) w') → if Region.wanted o (yielded ops a.tmps) = true then o.wp P a w K Q else K (a.put o.dst undef) w)
    (hrest : HeadOk P ops G S w0 sz ins fin r (acc ++ [(d, F)])) (hd : o.dst = d := by rfl) : HeadOk P ops G S w0 sz ins fin (o :: r) acc := by
  subst hd
  exact ⟨F, hst, hrun, hrest⟩
theorem hd_nil (h : fin acc) : HeadOk P ops G S w0 sz ins fin [] acc := h
end

/-- Draws alone. -/
theorem Dr.refl' : ∀ x : World, Dr x x := Dr.refl
theorem Dr.trans' {x y z : World} (h : Dr x y) (k : Dr y z) : Dr x z := h.trans k
theorem FrN.refl (x : World) : Fr Nob x x := Fr.refl _ _
theorem FrN.trans {x y z : World} (h : Fr Nob x y) (k : Fr Nob y z) : Fr Nob x z := h.trans k
end Go.Proofs.Ytjgacikohlnjdaa
