/-
  The statement RingRound, walked.
-/
import Derived.Test.YtjgacikohlnjdaaLaw21
import Derived.Test.YtjgacikohlnjdaaLib4
namespace Go.Proofs.Ytjgacikohlnjdaa
set_option linter.unusedVariables false
open Go.RowKit

/-- The text of one byte. -/
def bt (n : Nat) : ByteArray := strOfNums [(n : Int) % 256]
theorem bt_small (n : Nat) (h : n < 256) : strOfNums [(n : Int)] = bt n := by
  unfold bt
  rw [Int.emod_eq_of_lt (by omega) (by omega)]
theorem bt_sum (k t : Nat) : strOfNums [((k : Int) + (t : Int)) % 256] = bt (k + t) := by
  unfold bt
  rw [Int.natCast_add]
theorem bt_cons (t k : Nat) : (List.range' t k).map bt ++ [bt (k + t)] = bt t :: (List.range' (t + 1) k).map bt := by
  have h1 : List.range' t k ++ [t + k] = List.range' t (k + 1) := by rw [List.range'_1_concat]
  have h2 : List.range' t (k + 1) = t :: List.range' (t + 1) k := rfl
  rw [Nat.add_comm k t]
  have := congrArg (List.map bt) (h1.trans h2)
  simpa using this
theorem Try.convByte (W : World) (x : Int) : (convert 40 9 (.slice (some ⟨W.heap.size, 0, none⟩) 1 1)).run Try.prog (W.alloc (.cells #[.int .u8 x] 5)) = .ok (.string (strOfNums [x])) (W.alloc (.cells #[.int .u8 x] 5)) :=
  run_convert_bytes_arg (P := Try.prog) (W.alloc (.cells #[.int .u8 x] 5)) 40 5 Try.underlying40 Try.underlying5 W.heap.size 0 1 1 [x] rfl (fun i hi => by
    obtain rfl : i = 0 := by omega
    exact (Blk.newL (t := 5) (A := #[.int .u8 x]) rfl rfl).cell rfl) 9 Try.underlying9

set_option maxHeartbeats 400000 in
theorem spoilStr {w : World} {base : Nat} {M : MS} {L : List ByteArray} {v : Value} (h : OwnS tStr 9 w base M L v) (hl : L.length ≤ 1000) :
    Calls Try.prog 18 #[v] w fun e w' => e = .returned (.tuple #[]) ∧ Fr (fun k => v.ownBlock = some k) w w' := by
  obtain ⟨css, _, _, ho⟩ := h.out
  rcases ho.2 with ⟨rfl, h0⟩ | ⟨g, cap, cur, rfl, hg, hh, hnc, hcm, hcs, _⟩
  · go_enter Try.func18, Try.ntmps18
    go_wp2
    go_loop [3] (fun i => i = .int .i64 0) (fun _ => 0)
    case atStart => rfl
    case round =>
      subst hrel
      go_wp2
      go_end0
      exact ⟨rfl, Fr.refl _ _⟩
  · have hb : Blk w g 9 cur.toList := hh
    have hl2 : L.length ≤ cur.toList.length := by
      have : tStr.n = 1 := rfl
      rw [this] at hcs; simp; omega
    have gl : (L.length : Int) ≤ 1000 := by omega
    clear h ho hh hcs
    go_enter Try.func18, Try.ntmps18
    go_wp2
    go_loopw [3] (fun i wr => ∃ (k : Nat) (cs : List Value), k ≤ L.length ∧ i = .int .i64 k ∧ Blk wr g 9 cs ∧ L.length ≤ cs.length ∧ Fr (Only g) w wr) (fun i _ => L.length - (intOf i).toNat)
    case atStart => exact ⟨0, _, by omega, rfl, hb, hl2, Fr.refl _ _⟩
    case round =>
      obtain ⟨k, cs, hk, rfl, hB, hcs, hF⟩ := hrel
      by_cases hlt : k < L.length
      · have g1 : (k : Int) < L.length := by omega
        have g0 : (0 : Int) ≤ k := by omega
        have kc := hB.cell (o := k) (v := cs[k]'(by omega)) (List.getElem?_eq_getElem (by omega))
        have kf := hB.frozen k
        have HB := Lib.hid hB
        clear hB hb
        go_wp2
        go_roundw
        case rel => exact ⟨k + 1, cs.set k (.string ⟨#[]⟩), by omega, by go_num, HB.out.setCell k _, by simpa using hcs, hF.setOnly _ _⟩
        case measure => simp [intOf]; omega
      · have g1 : ¬ (k : Int) < L.length := by omega
        clear hB hb
        go_wp2
        go_end0
        exact ⟨rfl, hF.mono (fun i _ h => by have h' : i = g := h; rw [h']; rfl)⟩

set_option maxRecDepth 100000 in
set_option maxHeartbeats 2000000 in
theorem ringRound_any (n turns held : Int) (w : World) : LawTrue Try.prog 5 #[.int .i64 n, .int .i64 turns, .int .i64 held] w := by
  unfold LawTrue
  have b12 := md_lt n 12 (by omega)
  have b300 := md_lt turns 300 (by omega)
  obtain ⟨c, hc, hc1, hc2⟩ : ∃ c : Nat, 1 + (md n 12 : Int) = c ∧ 1 ≤ c ∧ c ≤ 12 := ⟨1 + md n 12, by omega, by omega, by omega⟩
  have HC := Lib.hid hc
  clear hc
  have bh := md_lt held c (by omega)
  have hcv := Try.convByte
  go_enter Try.func5, Try.ntmps5
  go_wp2_with fail
  refine (mod_any n 12 _ (by omega) (by omega)).mono ?_
  rintro e w2 ⟨rfl, rfl⟩
  go_wp2_with fail
  rw [HC.out]
  refine (ring_new c w hc1 (by omega)).mono ?_
  rintro e w1 ⟨rfl, h1, f1⟩
  go_wp2_with fail
  refine (mod_any held c _ (by omega) (by omega)).mono ?_
  rintro e w2 ⟨rfl, rfl⟩
  generalize md held c = h at *
  obtain ⟨m, hm⟩ : ∃ m, md turns 300 = m := ⟨_, rfl⟩
  rw [hm] at b300
  have HM := Lib.hid hm
  clear hm
  go_wp2_with fail
  go_loopw [11, 13] (fun nx i wr => ∃ (k : Nat), k ≤ h ∧ i = .int .i64 k ∧ nx = .int .i64 k ∧ Ring wr (w.heap.size + 1) w.heap.size c ((List.range' 0 k).map bt) ∧ Fr Nob w wr) (fun _ i _ => h - (intOf i).toNat)
  case atStart => exact ⟨0, by omega, rfl, rfl, h1, f1⟩
  case round =>
    obtain ⟨k, hk, rfl, rfl, hR, hF⟩ := hrel
    clear h1 f1
    have hRlt := hR.lt
    by_cases hlt : k < h
    · have g1 : (k : Int) < h := by omega
      go_wp2_with fail
      rw [bt_small k (by omega)]
      refine (ring_push_yes (hR.keep ((Fr.refl Nob wr).alloc _) (fun x => x) (fun x => x)) (bt k) (by simp; omega)).mono ?_
      rintro e w3 ⟨rfl, h3, f3⟩
      have e3 : (List.range' 0 k).map bt ++ [bt k] = (List.range' 0 (k + 1)).map bt := by rw [List.range'_1_concat]; simp
      rw [e3] at h3
      clear e3
      go_wp2
      go_roundw
      case rel => exact ⟨k + 1, by omega, by go_num, by go_num, h3, (hF.alloc _).trans' f3 (fun i hi h => by rcases h with h | h <;> omega)⟩
      case measure => simp [intOf]; omega
    · obtain rfl : k = h := by omega
      go_wp2_with fail
      go_loopw [11, 12, 14] (fun nx fs i wr => ∃ (t : Nat), t ≤ m ∧ i = .int .i64 t ∧ nx = .int .i64 ((k + t : Nat) : Int) ∧ fs = .int .i64 t ∧ Ring wr (w.heap.size + 1) w.heap.size c ((List.range' t k).map bt) ∧ Fr Nob w wr) (fun _ _ i _ => m - (intOf i).toNat)
      case atStart => exact ⟨0, by omega, rfl, rfl, rfl, hR, hF⟩
      case round =>
        obtain ⟨t, ht, rfl, rfl, rfl, hR, hF⟩ := hrel
        have hRlt := hR.lt
        go_wp2_with fail
        refine (mod_any turns 300 _ (by omega) (by omega)).mono ?_
        rintro e w2 ⟨rfl, rfl⟩
        rw [HM.out]
        by_cases hlt : t < m
        · have g1 : (t : Int) < m := by omega
          go_wp2_with fail
          rw [bt_sum k t]
          refine (ring_push_yes (hR.keep ((Fr.refl Nob wr).alloc _) (fun x => x) (fun x => x)) (bt (k + t)) (by simp; omega)).mono ?_
          rintro e w3 ⟨rfl, h3, f3⟩
          rw [bt_cons] at h3
          have F3 := (hF.alloc (Obj.cells #[Value.int IntKind.u8 (((k : Int) + (t : Int)) % 256)] 5)).trans' f3 (fun i hi h => by rcases h with h | h <;> omega)
          go_wp2_with fail
          refine (ring_pop_yes h3).mono ?_
          rintro e w4 ⟨rfl, h4, f4⟩
          have F4 := F3.trans' f4 (fun i hi h => by rcases h with h | h <;> omega)
          have HB : Hid (bt t = strOfNums [(t : Int) % 256]) := rfl
          clear f3 f4 F3 h3 hR hF
          rw [HB.out]
          go_wp2
          go_roundw
          case rel => exact ⟨t + 1, by omega, by go_num, by go_num, by go_num, h4.keep ((Fr.refl Nob _).alloc _) (fun x => x) (fun x => x), F4.alloc _⟩
          case measure => simp [intOf]; omega
        · have g1 : ¬ (t : Int) < m := by omega
          go_wp2_with fail
          refine (ring_all_own hR).mono ?_
          rintro e w3 ⟨v3, rfl, ho3, f3⟩
          have h3 := hR.keep f3 (fun x => x) (fun x => x)
          have hlen : ((List.range' t k).map bt).length = k := by simp
          generalize (List.range' t k).map bt = LL at *
          subst hlen
          go_wp2_with fail
          refine (ring_all_own h3).mono ?_
          rintro e w4 ⟨v4, rfl, ho4, f4⟩
          have h4 := h3.keep f4 (fun x => x) (fun x => x)
          go_wp2_with fail
          refine (spoilStr ho4 (by omega)).mono ?_
          rintro e w5 ⟨rfl, f5⟩
          have f5' : Fr Nob w3 w5 := f4.trans' f5 (fun i hi h => by have := (ho4.lt i h).1; omega)
          have h5 := h3.keep f5' (fun x => x) (fun x => x)
          have hX5 := (ho3.grow f5').to_rd (fun _ _ x => x)
          obtain ⟨a3, c3, rfl, _, _⟩ := hX5.out
          clear ho3 ho4 h4
          go_wp2_with fail
          refine (awake21 w5).mono ?_
          rintro e w6 ⟨rfl, f6⟩
          have h6 := h5.keep f6 (fun x => x) (fun x => x)
          have hX6 := hX5.grow f6
          go_wp2_with fail
          refine (ring_len h6).mono ?_
          rintro e w7 ⟨rfl, rfl⟩
          go_wp2_with fail
          refine (ring_all h6).mono ?_
          rintro e w7 ⟨v7, rfl, hv7, f7⟩
          have hX7 := hX6.grow f7
          go_wp2_with fail
          refine (plainStr_any hv7 hX7 (by omega)).mono ?_
          rintro e w8 ⟨rfl, f8⟩
          have e8 : decide (LL = LL) = true := by simp
          rw [e8]
          go_wp2
          go_ret
          exact ⟨rfl, (((hF.trans f3).trans f5').trans f6).trans (f7.trans (f8.fr _))⟩
end Go.Proofs.Ytjgacikohlnjdaa
