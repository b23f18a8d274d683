/-
  Contracts of the helpers of the statements at texts: Same, Plain.
-/
import Derived.Test.YtjgacikohlnjdaaRows
import Derived.Test.YtjgacikohlnjdaaLib1
namespace Go.Proofs.Ytjgacikohlnjdaa
set_option linter.unusedVariables false
open Go.RowKit

set_option maxHeartbeats 400000 in
theorem eqStr_any (s t : ByteArray) (w : World) :
    Calls Try.prog 32 #[.string s, .string t] w fun e w' => e = .returned (.bool (decide (s = t))) ∧ w' = w := by
  go_enter Try.func32, Try.ntmps32
  go_wp2
  go_ret
  exact ⟨congrArg (fun b => Ending.returned (.bool b)) (strEq s t), rfl⟩

theorem take_ne {α : Type} {A B : List α} {k : Nat} {x y : α} (hx : A[k]? = some x) (hy : B[k]? = some y) (h : x ≠ y) : A ≠ B := fun e => by
  subst e; rw [hx] at hy; exact h (Option.some.inj hy)

set_option maxHeartbeats 800000 in
theorem sameStr_any (L1 L2 : List ByteArray) (a1 a2 : Option Addr) (c1 c2 : Nat) (w : World) (hlen : L1.length ≤ 4611686018427387904)
    (hx1 : ∀ i s, L1[i]? = some s → ∃ b off, a1 = some ⟨b, off, none⟩ ∧ w.cell? ⟨b, off + i, none⟩ = some (.string s))
    (hx2 : ∀ i s, L2[i]? = some s → ∃ b off, a2 = some ⟨b, off, none⟩ ∧ w.cell? ⟨b, off + i, none⟩ = some (.string s)) (hc1 : L1.length ≤ c1) (hc2 : L2.length ≤ c2) :
    Calls Try.prog 31 #[.slice a1 L1.length c1, .slice a2 L2.length c2, .func (.func 32) #[] #[]] w fun e w' => e = .returned (.bool (decide (L1 = L2))) ∧ Dr w w' := by
  by_cases hl : L1.length = L2.length
  · have hne : ((L1.length : Int) != (L2.length : Int)) = false := by simp; omega
    have HL : Hid (L1.length = L2.length) := hl
    clear hl
    go_enter Try.func31, Try.ntmps31
    go_wp2
    go_loopw [7] (fun i wr => ∃ k : Nat, k ≤ L1.length ∧ i = .int .i64 k ∧ Hid (∀ i, i < k → L1[i]? = L2[i]?) ∧ Dr w wr) (fun i _ => L1.length - (intOf i).toNat)
    case atStart => exact ⟨0, by omega, rfl, (fun i hi => by omega : ∀ i, i < 0 → L1[i]? = L2[i]?), Dr.refl w⟩
    case round =>
      obtain ⟨k, hk, rfl, HE, hw⟩ := hrel
      by_cases hlt : k < L1.length
      · obtain ⟨s, hs⟩ : ∃ s, L1[k]? = some s := ⟨_, List.getElem?_eq_getElem hlt⟩
        obtain ⟨t, ht⟩ : ∃ t, L2[k]? = some t := ⟨_, List.getElem?_eq_getElem (HL.out ▸ hlt)⟩
        obtain ⟨b1, o1, rfl, k1⟩ := hx1 k s hs
        obtain ⟨b2, o2, rfl, k2⟩ := hx2 k t ht
        have l1 := (hw.cell _).trans k1
        have l2 := (hw.cell _).trans k2
        clear hx1 hx2 k1 k2
        have HS : Hid (L1[k]? = some s) := hs
        have HT : Hid (L2[k]? = some t) := ht
        clear hs ht
        have g0 : (0 : Int) ≤ k := by omega
        have g1 : (k : Int) < L1.length := by omega
        have g2 : (k : Int) < L2.length := by rw [← HL.out]; omega
        by_cases he : s = t
        · have HB : Hid (decide (s = t) = true) := decide_eq_true he
          have HE2 : Hid (s = t) := he
          clear he
          go_wp2
          go_quiet ((go_at_call 32; exact Calls.quiet_of_same ((eqStr_any s t _).mono fun e w' h => ⟨h.1.trans (congrArg (fun b => Ending.returned (.bool b)) HB.out), h.2⟩)))
          go_wp2
          go_roundw
          case rel =>
            refine ⟨k + 1, by omega, by go_num, (fun i hi => ?_ : ∀ i, i < k + 1 → L1[i]? = L2[i]?), hw.drewN _⟩
            by_cases h : i < k
            · exact HE.out i h
            · obtain rfl : i = k := by omega
              rw [HS.out, HT.out, HE2.out]
          case measure => simp [intOf]; omega
        · have HB : Hid (decide (s = t) = false) := decide_eq_false he
          have HN : Hid (¬ L1 = L2) := take_ne HS.out HT.out he
          clear he
          go_wp2
          go_quiet ((go_at_call 32; exact Calls.quiet_of_same ((eqStr_any s t _).mono fun e w' h => ⟨h.1.trans (congrArg (fun b => Ending.returned (.bool b)) HB.out), h.2⟩)))
          go_wp2
          go_ret
          exact ⟨by simp [HN.out], hw.drewN _⟩
      · have HN : Hid (L1 = L2) := by
          refine List.ext_getElem? fun i => ?_
          by_cases h : i < L1.length
          · exact HE.out i (by omega)
          · rw [List.getElem?_eq_none (by omega), List.getElem?_eq_none (by rw [← HL.out]; omega)]
        clear hx1 hx2
        go_wp2
        go_ret
        exact ⟨by simp [HN.out], hw⟩
  · have hne : ((L1.length : Int) != (L2.length : Int)) = true := by simp; omega
    have HL : Hid (¬ L1 = L2) := fun e => hl (by rw [e])
    clear hl hx1 hx2
    go_enter Try.func31, Try.ntmps31
    go_wp2
    go_ret
    exact ⟨by simp [HL.out], Dr.refl _⟩
end Go.Proofs.Ytjgacikohlnjdaa
