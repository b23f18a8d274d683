/-
  The statements of layer 21 (ring), walked.
-/
import Derived.Test.YtjgacikohlnjdaaRing2
import Derived.Test.YtjgacikohlnjdaaSameStr
import Derived.Test.YtjgacikohlnjdaaLib3
namespace Go.Proofs.Ytjgacikohlnjdaa
set_option linter.unusedVariables false
open Go.RowKit

theorem plainStr_any {L1 L2 : List ByteArray} {v1 v2 : Value} {w : World} {M1 M2 : MS} (h1 : RdS tStr w M1 L1 v1) (h2 : RdS tStr w M2 L2 v2) (hlen : L1.length ≤ 4611686018427387904) :
    Calls Try.prog 16 #[v1, v2] w fun e w' => e = .returned (.bool (decide (L1 = L2))) ∧ Dr w w' := by
  obtain ⟨a1, c1, rfl, hc1, hx1⟩ := h1.out
  obtain ⟨a2, c2, rfl, hc2, hx2⟩ := h2.out
  have k1 : ∀ i s, L1[i]? = some s → ∃ b off, a1 = some ⟨b, off, none⟩ ∧ w.cell? ⟨b, off + i, none⟩ = some (.string s) := fun i s hs => by
    obtain ⟨hi, rfl⟩ := List.getElem?_eq_some_iff.1 hs
    obtain ⟨b, off, cs, ha, hr, hat⟩ := hx1 i hi
    refine ⟨b, off, ha, ?_⟩
    have hr' : cs = [.string L1[i]] := hr
    subst hr'
    simpa [tStr, GoT.plain] using hat.2 0 _ rfl
  have k2 : ∀ i s, L2[i]? = some s → ∃ b off, a2 = some ⟨b, off, none⟩ ∧ w.cell? ⟨b, off + i, none⟩ = some (.string s) := fun i s hs => by
    obtain ⟨hi, rfl⟩ := List.getElem?_eq_some_iff.1 hs
    obtain ⟨b, off, cs, ha, hr, hat⟩ := hx2 i hi
    refine ⟨b, off, ha, ?_⟩
    have hr' : cs = [.string L2[i]] := hr
    subst hr'
    simpa [tStr, GoT.plain] using hat.2 0 _ rfl
  have H := fun W => sameStr_any L1 L2 a1 a2 c1 c2 W hlen
  have HS := H w k1 k2 hc1 hc2
  have HQ : Hid (Calls Try.prog 31 #[.slice a1 L1.length c1, .slice a2 L2.length c2, .func (.func 32) #[] #[]] w fun e w' => e = .returned (.bool (decide (L1 = L2))) ∧ Dr w w') := HS
  clear HS H k1 k2 hx1 hx2 h1 h2
  go_enter Try.func16, Try.ntmps16
  go_wp2_with (go_at_call 31; refine HQ.out.mono ?_; rintro e w' ⟨rfl, hw⟩)
  go_ret
  exact ⟨rfl, hw⟩

set_option maxRecDepth 100000 in
set_option maxHeartbeats 1000000 in
theorem awake21 (w : World) : LawTrue Try.prog 9 #[] w := by
  unfold LawTrue
  go_enter Try.func9, Try.ntmps9
  go_wp2_with fail
  refine (ring_new 1 w (by omega) (by omega)).mono ?_
  rintro e w1 ⟨rfl, h1, f1⟩
  go_wp2_with fail
  refine (new_bad 0 _ (by omega)).mono ?_
  rintro e w2 ⟨rfl, rfl⟩
  go_wp2_with fail
  refine (ring_push_yes h1 _ (by simp)).mono ?_
  rintro e w2 ⟨rfl, h2, f2⟩
  go_wp2_with fail
  refine (ring_push_no h2 _ (by simp)).mono ?_
  rintro e w3 ⟨rfl, h3, f3⟩
  go_wp2_with fail
  simp only [List.nil_append] at h3
  refine (ring_pop_yes h3).mono ?_
  rintro e w4 ⟨rfl, h4, f4⟩
  go_wp2_with fail
  refine (ring_len h4).mono ?_
  rintro e w5 ⟨rfl, rfl⟩
  go_wp2_with fail
  refine (ring_cap h4).mono ?_
  rintro e w5 ⟨rfl, rfl⟩
  go_wp2
  go_ret
  refine ⟨rfl, ?_⟩
  have hM : ∀ i, i < w.heap.size → RingM (w.heap.size + 1) w.heap.size i → Nob i := fun i hi h => by rcases h with h | h <;> omega
  exact (((f1.trans' f2 hM).trans' f3 hM).trans' f4 hM)

set_option maxRecDepth 100000 in
set_option maxHeartbeats 1000000 in
theorem ringNews_any (n : Int) (w : World) (hn : inK .i64 n) : LawTrue Try.prog 3 #[.int .i64 n] w := by
  unfold LawTrue
  by_cases h : n < 1 ∨ 64 < n
  · rcases h with h | h
    · have h' : ¬ 1 ≤ n := by omega
      clear hn
      go_enter Try.func3, Try.ntmps3
      go_wp2_with fail
      refine (new_bad n w (by omega)).mono ?_
      rintro e w1 ⟨rfl, rfl⟩
      go_wp2_with fail
      refine (awake21 _).mono ?_
      rintro e w2 ⟨rfl, f2⟩
      go_wp2
      go_ret
      exact ⟨rfl, f2⟩
    · have h' : ¬ n ≤ 64 := by omega
      clear hn
      go_enter Try.func3, Try.ntmps3
      go_wp2_with fail
      refine (new_bad n w (by omega)).mono ?_
      rintro e w1 ⟨rfl, rfl⟩
      go_wp2_with fail
      refine (awake21 _).mono ?_
      rintro e w2 ⟨rfl, f2⟩
      go_wp2
      go_ret
      exact ⟨rfl, f2⟩
  · obtain ⟨k, rfl⟩ : ∃ k : Nat, n = k := ⟨n.toNat, by omega⟩
    have g1 : (1 : Int) ≤ k := by omega
    have g2 : (k : Int) ≤ 64 := by omega
    clear h hn
    go_enter Try.func3, Try.ntmps3
    go_wp2_with fail
    refine (ring_new k w (by omega) (by omega)).mono ?_
    rintro e w1 ⟨rfl, h1, f1⟩
    go_wp2_with fail
    refine (awake21 w1).mono ?_
    rintro e w2 ⟨rfl, f2⟩
    have h2 := h1.keep f2 (fun x => x) (fun x => x)
    go_wp2_with fail
    refine (ring_cap h2).mono ?_
    rintro e w3 ⟨rfl, rfl⟩
    go_wp2_with fail
    refine (ring_len h2).mono ?_
    rintro e w3 ⟨rfl, rfl⟩
    go_wp2
    go_ret
    exact ⟨rfl, f1.trans f2⟩
end Go.Proofs.Ytjgacikohlnjdaa
