/-
  Contracts of the reference's gate.
-/
import Derived.Test.YtjgacikohlnjdaaRing2
import Derived.Test.YtjgacikohlnjdaaLib4
namespace Go.Proofs.Ytjgacikohlnjdaa
set_option linter.unusedVariables false
open Go.RowKit

theorem Try.styStr : STy Try.prog 31 9 tStr.n 16 := STy.mk' Try.underlying31 Try.infoStr rfl

/-- At block b lies a reference's gate. -/
structure RGate (w : World) (b : Nat) (cap cred out : Nat) (L : List ByteArray) : Prop where
  lst : ∃ v, Blk w b 56 [.int .i64 cap, .int .i64 cred, .int .i64 out, v] ∧ RdS tStr w (Only b) L v

theorem RGate.keep {w w' : World} {M : MS} {b cap cred out : Nat} {L : List ByteArray} (h : RGate w b cap cred out L) (hf : Fr M w w') (hM : ∀ k, M k → False) : RGate w' b cap cred out L := by
  obtain ⟨v, h1, h2⟩ := h.lst
  have hf' : Fr Nob w w' := hf.mono (fun k _ hk => hM k hk)
  exact ⟨v, h1.keep hf' (fun x => x), h2.grow hf'⟩

set_option maxHeartbeats 400000 in
theorem rpush_yes {w : World} {b cap cred out : Nat} {L : List ByteArray} (s : ByteArray) (h : RGate w b cap (cred + 1) out L) (hc : cred < 1000) (hl : L.length ≤ 1000) :
    Calls Try.prog 27 #[.pointer (some ⟨b, 0, none⟩), .string s] w fun e w' => e = .returned (.bool true) ∧ RGate w' b cap cred out (L ++ [s]) ∧ Fr (Only b) w w' := by
  obtain ⟨lv, hb, hL⟩ := h.lst
  have h1 : w.cell? ⟨b, 1, none⟩ = some (.int .i64 ((cred + 1 : Nat) : Int)) := hb.cell rfl
  have h3 : w.cell? ⟨b, 3, none⟩ = some lv := hb.cell rfl
  have f1 := hb.frozen 1
  have f3 := hb.frozen 3
  have hlt := hb.lt
  have g0 : (((cred + 1 : Nat) : Int) == 0) = false := by simp; omega
  have g1 : ((cred + 1 : Nat) : Int) ≤ 1000 := by omega
  have g2 : (0 : Int) < ((cred + 1 : Nat) : Int) := by omega
  obtain ⟨al, cl, rfl, _, _⟩ := hL.out
  generalize hcrd : ((cred + 1 : Nat) : Int) = crd at *
  have HC : Hid (crd - 1 = (cred : Int)) := by show crd - 1 = _; omega
  clear hcrd
  go_enter Try.func27, Try.ntmps27
  have B0 := hb.setCell 1 (.int .i64 (crd - 1))
  go_wp2_with (at_builtin; first
    | (refine wpList_append_rd tStr (by rfl) (.tmp 18) (.tmp 22) 31 31 9 16 (by rfl) Try.styStr Try.underlying31 w.heap.size (Only b) [] L _ _ (by rfl) (by rfl) (OwnS.empty tStr 9 _ _ _ _ (by simp) (Blk.newL (by simp) (by rfl))) (hL.for_own (by repeat (first | exact Fr.refl _ _ | refine Fr.alloc ?_ _ | refine Fr.setOnly ?_ _ _)) (own_some _ _ _ _ _ (by simp))) (by simp; omega) (by simp; omega) (by simp) L rfl L.length (by simp) _ rfl ?_
       intro ao cap1 w1 hap
       have F1 : Fr Nob (w.setCell ⟨b, 1, none⟩ (.int .i64 (crd - 1))) w1 := hap.fr ((Fr.refl _ _).alloc _) (fun k hk hlt => by cases hk; simp at hlt)
       have z1 := F1.size
       have o1 := hap.own.lt)
    | (refine wpList_append_rd tStr (by rfl) (.tmp 23) (.tmp 25) 31 31 9 16 (by rfl) Try.styStr Try.underlying31 w.heap.size (Only b) L [s] _ _ (by rfl) (by rfl) (hap.own.grow (Fr.alloc (Fr.refl _ _) _)) (RdS.one (e := 9) (Nat.le_refl _) (Blk.newL (by simp) (by rfl)) (by rfl) (by
          simp at z1
          rintro (h | h)
          · have h' : _ = b := h
            omega
          · have := (o1 _ h).2; omega)) (by simp; omega) (by simp; omega) (by simp at z1 ⊢; omega) (L ++ [s]) rfl (L.length + 1) (by simp) _ rfl ?_
       intro ao2 cap2 w2 hap2
       obtain ⟨g2, rfl, hg2, _⟩ := hap2.own.pos (by omega)
       have F2 : Fr Nob (w.setCell ⟨b, 1, none⟩ (.int .i64 (crd - 1))) w2 := hap2.fr (F1.alloc _) (fun k hk hlt => by have := (o1 k hk).1; simp at hlt; omega)
       have B2 := B0.keep F2 (fun x => x)
       have k3 := B2.cell (o := 3) rfl
       have q3 := B2.frozen 3
       have H2 := Lib.hid hap2; clear hap2))
  go_ret
  refine ⟨rfl, ⟨.slice (some ⟨g2, 0, none⟩) (L.length + 1) cap2, by have := B2.setCell 3 (.slice (some ⟨g2, 0, none⟩) (L.length + 1) cap2); rw [HC.out] at this; exact this, ?_⟩, ?_⟩
  · exact (H2.out.own.to_rd (M := fun k => k = b) (fun k hk e => by cases hk; have e' : g2 = b := e; omega)).keep (w' := _) ((Fr.refl (Only b) _).setOnly _ _) (fun _ _ x => x)
  · exact (((Fr.refl (Only b) w).setOnly 1 _).trans (F2.mono (fun _ _ x => x.elim))).setOnly 3 _

set_option maxHeartbeats 400000 in
theorem rpush_no {w : World} {b cap out : Nat} {L : List ByteArray} (s : ByteArray) (h : RGate w b cap 0 out L) :
    Calls Try.prog 27 #[.pointer (some ⟨b, 0, none⟩), .string s] w fun e w' => e = .returned (.bool false) ∧ w = w' := by
  obtain ⟨lv, hb, hL⟩ := h.lst
  have h1 : w.cell? ⟨b, 1, none⟩ = some (.int .i64 0) := hb.cell rfl
  clear hb hL
  go_enter Try.func27, Try.ntmps27
  go_wp2
  go_ret
  exact ⟨rfl, rfl⟩

set_option maxHeartbeats 400000 in
theorem rpop_no {w : World} {b cap cred out : Nat} (h : RGate w b cap cred out []) :
    Calls Try.prog 28 #[.pointer (some ⟨b, 0, none⟩)] w fun e w' => e = .returned (.tuple #[.string ⟨#[]⟩, .bool false]) ∧ w = w' := by
  obtain ⟨lv, hb, hL⟩ := h.lst
  have h1 : w.cell? ⟨b, 3, none⟩ = some lv := hb.cell rfl
  obtain ⟨al, cl, rfl, _, _⟩ := hL.out
  clear hb hL
  simp only [List.length_nil] at h1
  go_enter Try.func28, Try.ntmps28
  go_wp2
  go_ret2
  exact ⟨rfl, rfl⟩

set_option maxHeartbeats 400000 in
theorem rpop_yes {w : World} {b cap cred out : Nat} {s : ByteArray} {L : List ByteArray} (h : RGate w b cap cred out (s :: L)) (ho : out < 1000) (hl : L.length ≤ 1000) :
    Calls Try.prog 28 #[.pointer (some ⟨b, 0, none⟩)] w fun e w' => e = .returned (.tuple #[.string s, .bool true]) ∧ RGate w' b cap cred (out + 1) L ∧ Fr (Only b) w w' := by
  obtain ⟨lv, hb, hL⟩ := h.lst
  have h2 : w.cell? ⟨b, 2, none⟩ = some (.int .i64 (out : Int)) := hb.cell rfl
  have h3 : w.cell? ⟨b, 3, none⟩ = some lv := hb.cell rfl
  have f2 := hb.frozen 2
  have f3 := hb.frozen 3
  obtain ⟨c, off, cl, rfl, hc, hx⟩ := hL.pos (by simp)
  obtain ⟨cs, hr, hat⟩ := hx 0 (by simp)
  have hr' : cs = [.string s] := hr
  subst hr'
  have hs : w.cell? ⟨c, off, none⟩ = some (.string s) := by simpa using hat.2 0 _ rfl
  have g0 : (((L.length + 1 : Nat) : Int) == 0) = false := by simp; omega
  have g1 : (out : Int) ≤ 1000 := by omega
  have hc' : (((L.length + 1 : Nat) : Int)) ≤ cl := by simp at hc; omega
  have hp1 : (1 : Int) ≤ ((L.length + 1 : Nat) : Int) := by omega
  have hp0 : (0 : Int) < ((L.length + 1 : Nat) : Int) := by omega
  have HT := Lib.hid hL
  have HB := Lib.hid hb
  clear hb hL hx hat hr
  simp only [List.length_cons] at h3 hc HT
  go_enter Try.func28, Try.ntmps28
  go_wp2
  all_goals go_ret2
  · have hL0 : L.length = 0 := by omega
    refine ⟨rfl, ⟨.slice (some ⟨c, off, none⟩) L.length 0, ?_, ?_⟩, ((Fr.refl _ w).setOnly _ _).setOnly _ _⟩
    · have := (HB.out.setCell 3 (.slice (some ⟨c, off, none⟩) L.length 0)).setCell 2 (.int .i64 ((out + 1 : Nat) : Int))
      simpa using this
    · have t := HT.out.tail ⟨c, off, none⟩ (fun h => by omega)
      have e : cl - 1 = 0 := by omega
      rw [e] at t
      exact t.keep (((Fr.refl (Only b) w).setOnly _ _).setOnly _ _) (fun _ _ x => x)
  · refine ⟨rfl, ⟨.slice (some ⟨c, off + 1, none⟩) L.length (cl - 1), ?_, ?_⟩, ((Fr.refl _ w).setOnly _ _).setOnly _ _⟩
    · have := (HB.out.setCell 3 (.slice (some ⟨c, off + 1, none⟩) L.length (cl - 1))).setCell 2 (.int .i64 ((out + 1 : Nat) : Int))
      simpa using this
    · exact (HT.out.tail ⟨c, off + 1, none⟩ (fun h => rfl)).keep (((Fr.refl (Only b) w).setOnly _ _).setOnly _ _) (fun _ _ x => x)

/-- How many credits come back. -/
def giveN (k : Int) (out : Nat) : Nat := (max 0 (min k out)).toNat
theorem giveN_le (k : Int) (out : Nat) : giveN k out ≤ out := by unfold giveN; omega

theorem rgive_close {w : World} {b cap cred out : Nat} {L : List ByteArray} (h : RGate w b cap cred out L) (g : Nat) (X Y : Int) (hX : X = ((out - g : Nat) : Int)) (hY : Y = ((cred + g : Nat) : Int)) :
    RGate ((w.setCell ⟨b, 2, none⟩ (.int .i64 X)).setCell ⟨b, 1, none⟩ (.int .i64 Y)) b cap (cred + g) (out - g) L ∧ Fr (Only b) w ((w.setCell ⟨b, 2, none⟩ (.int .i64 X)).setCell ⟨b, 1, none⟩ (.int .i64 Y)) := by
  obtain ⟨lv, hb, hL⟩ := h.lst
  have hf : Fr (Only b) w ((w.setCell ⟨b, 2, none⟩ (.int .i64 X)).setCell ⟨b, 1, none⟩ (.int .i64 Y)) := ((Fr.refl _ w).setOnly _ _).setOnly _ _
  refine ⟨⟨lv, ?_, hL.keep hf (fun _ _ x => x)⟩, hf⟩
  subst hX hY
  exact (hb.setCell 2 (.int .i64 ((out - g : Nat) : Int))).setCell 1 (.int .i64 ((cred + g : Nat) : Int))

theorem ret_i64 {a b : Int} (h : a = b) : Ending.returned (.int .i64 a) = Ending.returned (.int .i64 b) := by rw [h]

set_option maxHeartbeats 400000 in
theorem rgive {w : World} {b cap cred out : Nat} {L : List ByteArray} (k : Int) (h : RGate w b cap cred out L) (ho : out ≤ 1000) (hc : cred ≤ 1000) :
    Calls Try.prog 29 #[.pointer (some ⟨b, 0, none⟩), .int .i64 k] w fun e w' => e = .returned (.int .i64 (giveN k out)) ∧ RGate w' b cap (cred + giveN k out) (out - giveN k out) L ∧ Fr (Only b) w w' := by
  obtain ⟨lv, hb, hL⟩ := h.lst
  have h1 : w.cell? ⟨b, 1, none⟩ = some (.int .i64 (cred : Int)) := hb.cell rfl
  have h2 : w.cell? ⟨b, 2, none⟩ = some (.int .i64 (out : Int)) := hb.cell rfl
  have f1 := hb.frozen 1
  have f2 := hb.frozen 2
  have HH := Lib.hid h
  have g1 : (out : Int) ≤ 1000 := by omega
  have g2 : (cred : Int) ≤ 1000 := by omega
  have g3 : (0 : Int) ≤ out := by omega
  have g4 : (0 : Int) ≤ cred := by omega
  clear hb hL h
  by_cases c1 : k ≤ 0
  · have c2 : ¬ (out : Int) < k := by omega
    have c3 : ¬ (0 : Int) < k := by omega
    go_enter Try.func29, Try.ntmps29
    go_wp2
    go_ret
    exact ⟨ret_i64 (by unfold giveN; omega), rgive_close HH.out _ _ _ (by unfold giveN; omega) (by unfold giveN; omega)⟩
  · by_cases c2 : (out : Int) < k
    · go_enter Try.func29, Try.ntmps29
      go_wp2
      all_goals go_ret
      all_goals exact ⟨ret_i64 (by unfold giveN; omega), rgive_close HH.out _ _ _ (by unfold giveN; omega) (by unfold giveN; omega)⟩
    · have c3 : (0 : Int) < k := by omega
      have c4 : k ≤ out := by omega
      go_enter Try.func29, Try.ntmps29
      go_wp2
      all_goals go_ret
      all_goals exact ⟨ret_i64 (by unfold giveN; omega), rgive_close HH.out _ _ _ (by unfold giveN; omega) (by unfold giveN; omega)⟩

set_option maxHeartbeats 400000 in
theorem rnew_bad (n : Int) (w : World) (h : n < 1 ∨ 64 < n) :
    Calls Try.prog 26 #[.int .i64 n] w fun e w' => e = .returned (.pointer none) ∧ w = w' := by
  rcases h with h | h
  · go_enter Try.func26, Try.ntmps26
    go_wp2
    go_ret
    exact ⟨rfl, rfl⟩
  · have h' : ¬ n < 1 := by omega
    go_enter Try.func26, Try.ntmps26
    go_wp2
    go_ret
    exact ⟨rfl, rfl⟩

set_option maxHeartbeats 400000 in
theorem rnew_ok (n : Nat) (w : World) (h1 : 1 ≤ n) (h2 : n ≤ 64) :
    Calls Try.prog 26 #[.int .i64 n] w fun e w' => e = .returned (.pointer (some ⟨w.heap.size, 0, none⟩)) ∧ RGate w' w.heap.size n n 0 [] ∧ Fr Nob w w' := by
  have g1 : (1 : Int) ≤ n := by omega
  have g2 : (n : Int) ≤ 64 := by omega
  go_enter Try.func26, Try.ntmps26
  go_wp2
  go_ret
  exact ⟨rfl, ⟨_, Blk.newL rfl rfl, RdS.nil _ _ _⟩, (Fr.refl _ _).alloc _⟩
end Go.Proofs.Ytjgacikohlnjdaa
