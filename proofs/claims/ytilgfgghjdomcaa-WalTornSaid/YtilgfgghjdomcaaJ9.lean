/-
  Texts of the proof, joined: WalS8, WalS9, WalSA, WalSB, Law06, Law06P, Law06L.
-/
import Derived.Test.YtilgfgghjdomcaaJ8
namespace Go.Proofs.Ytilgfgghjdomcaa
set_option linter.unusedVariables false
set_option maxRecDepth 100000
open Go.RowKit

theorem ops_trimL (n : Int) : ∀ (L : List PSeg) (d : DS), (trimL L d n).1.2.ops ≤ d.ops + L.length
  | [], d => Nat.le_refl _
  | [s], d => Nat.le_add_right _ _
  | s :: t :: L, d => by
    rw [trimL]
    have h1 := ops_remove d s.file
    split
    · split
      · simp; omega
      · have := ops_trimL n (t :: L) (d.remove s.file).1
        simp at this ⊢; omega
    · simp
/-- wal.Log.Trim -/
theorem trimLog_spec (lp dp : Nat) (g : PLog) (d : DS) (n : Int) {M N : Nat} (hg : g.Ok M) (hM : M ≤ 1000000000000) (hok : d.Ok N) (hops : d.ops + g.segs.length ≤ 100000) :
    Spec Try.prog 21 [.pointer (some ⟨lp, 0, none⟩), .int .i64 n] [.ob (LogO lp dp g), .ob (DskO dp d)] (Gives (.int .i64 (trimG g d n).2) [.ob (LogO lp dp (trimG g d n).1.1), .ob (DskO dp (trimG g d n).1.2)]) := by
  intro W F w hS; apply vc21; unfold Vc21; (try simp only [app] at hS)
  obtain ⟨sv, tv, xs, hx, hS⟩ := LogO.iff.1 hS
  (repeat (first | (with_reducible first | apply Q0 | refine Qa hS ?_ | refine Qb ?_ | refine Qc hS ?_ | refine Qd ?_) | ((with_reducible refine Qe hS ?_); clear hS; intro w hS; simp only [List.set] at hS) | ((with_reducible first | refine s_draw hS ?_ | refine Qf hS ?_); clear hS; intro w hS) | ((with_reducible first | refine s_new hS ?_ | refine Qg hS ?_); clear hS; intro b w hS)))
  (apply s_call (downD_spec dp d) hS; exact Xp; clear hS)
  (rintro v post ⟨rfl, rfl⟩ w hS; (try simp only [app] at hS); (repeat (first | (with_reducible first | apply Q0 | refine Qa hS ?_ | refine Qb ?_ | refine Qc hS ?_ | refine Qd ?_) | ((with_reducible refine Qe hS ?_); clear hS; intro w hS; simp only [List.set] at hS) | ((with_reducible first | refine s_draw hS ?_ | refine Qf hS ?_); clear hS; intro w hS) | ((with_reducible first | refine s_new hS ?_ | refine Qg hS ?_); clear hS; intro b w hS))))
  refine s_if (fun ho => ?_) (fun ho => ?_)
  · have e : trimG g d n = ((g, d), 8) := by unfold trimG; rw [if_pos ho]
    rw [e]
    have hS := (LogO.iff (g := g)).2 ⟨sv, tv, xs, hx, SL.into hS (t := .pt lp (lcells sv tv dp g.base g.size) 46 :: RowX sv xs :: .ob (HAll XSegO xs) :: .ob (TornO tv g.torn) :: .ob (DskO dp d) :: F) Xi⟩
    exact ⟨_, ⟨rfl, rfl⟩, SL.into hS Xi⟩
  · have e : trimG g d n = (({ g with segs := (trimL g.segs d n).1.1 }, (trimL g.segs d n).1.2), (trimL g.segs d n).2) := by unfold trimG; rw [if_neg (by rw [ho]; decide)]
    rw [e]
    have hfin : ∀ {w : World} {sv : Value} {xs : List XSeg} {d' : DS}, SL W (.pt lp (lcells sv tv dp g.base g.size) 46 :: RowX sv xs :: .ob (HAll XSegO xs) :: .ob (TornO tv g.torn) :: .ob (DskO dp d') :: F) w → SL W (.ob (LogO lp dp { g with segs := xs.map XSeg.pl }) :: .ob (DskO dp d') :: F) w := fun h => (LogO.iff (g := { g with segs := _ })).2 ⟨_, tv, _, rfl, h⟩
    refine ⟨fun vs w => vs = [] ∧ ∃ a c xs' d', trimL g.segs d n = trimL (xs'.map XSeg.pl) d' n ∧ (∀ s ∈ xs'.map XSeg.pl, SegOk s M) ∧ xs'.length ≤ M ∧ d'.Ok N ∧ d'.ops + xs'.length ≤ 100000 ∧ SL W (.pt lp (lcells (.slice a xs'.length c) tv dp g.base g.size) 46 :: RowX (.slice a xs'.length c) xs' :: .ob (HAll XSegO xs') :: .ob (TornO tv g.torn) :: .ob (DskO dp d') :: F) w,
      fun _ w => match w.cell? ⟨lp, 0, none⟩ with | some (.slice _ n _) => n | _ => 0, ?_, ?_⟩
    · obtain ⟨a, c, rfl, _⟩ := OwnSo.at hS (v := sv) (t := 71) (sz := 4) (n := xs.length) (cells := (xs.map xcells).flatten) Xh
      have hl : xs.length = g.segs.length := by rw [← hx, List.length_map]
      exact ⟨rfl, a, c, xs, d, by rw [hx], by rw [hx]; exact hg.segs, by rw [hl]; exact hg.ln, hok, by rw [hl]; exact hops, SL.into hS Xi⟩
    · clear hS hx
      rintro w ⟨-, a, c, xs', d', htr, hseg, hlen, hok', hops', hS⟩
      rw [htr]
      have hc0 := hS.cell (b := lp) (o := 0) .hd rfl
      (repeat (first | (with_reducible first | apply Q0 | refine Qa hS ?_ | refine Qb ?_ | refine Qc hS ?_ | refine Qd ?_) | ((with_reducible refine Qe hS ?_); clear hS; intro w hS; simp only [List.set] at hS) | ((with_reducible first | refine s_draw hS ?_ | refine Qf hS ?_); clear hS; intro w hS) | ((with_reducible first | refine s_new hS ?_ | refine Qg hS ?_); clear hS; intro b w hS)))
      refine s_ifp (fun h1 => ?_) (fun h1 => ?_)
      · match xs', h1, hseg, hlen, htr, hops', hS, hc0 with
        | x0 :: x1 :: r, _, hseg, hlen, htr, hops', hS, hc0 =>
        have hs0 := hseg x0.pl (by simp)
        have htl : trimL ((x0 :: x1 :: r).map XSeg.pl) d' n = if x0.pl.next - 1 ≤ n then (if (d'.remove x0.pl.file).2 ≠ 0 then (((x0 :: x1 :: r).map XSeg.pl, (d'.remove x0.pl.file).1), (d'.remove x0.pl.file).2) else trimL ((x1 :: r).map XSeg.pl) (d'.remove x0.pl.file).1 n) else (((x0 :: x1 :: r).map XSeg.pl, d'), 0) := by
          simp only [List.map_cons]; rw [trimL]
        have k0 := hs0.n0
        have k1 := hs0.n1
        have k2 := hs0.ln
        have hnx : x0.pl.next = x0.pl.first + x0.pl.l.length := rfl
        (repeat (first | (with_reducible first | apply Q0 | refine Qa hS ?_ | refine Qb ?_ | refine Qc hS ?_ | refine Qd ?_) | ((with_reducible refine Qe hS ?_); clear hS; intro w hS; simp only [List.set] at hS) | ((with_reducible first | refine s_draw hS ?_ | refine Qf hS ?_); clear hS; intro w hS) | ((with_reducible first | refine s_new hS ?_ | refine Qg hS ?_); clear hS; intro b w hS)))
        refine s_segSo (j := 0) hS Xh (by simp) ?_
        show HCall _ _ [.agg (xcells x0).toArray] _ _
        (apply s_call (nextX_spec x0 hs0 (by omega)) hS; exact Xp; clear hS)
        (rintro v post ⟨rfl, rfl⟩ w hS; (try simp only [app] at hS); (repeat (first | (with_reducible first | apply Q0 | refine Qa hS ?_ | refine Qb ?_ | refine Qc hS ?_ | refine Qd ?_) | ((with_reducible refine Qe hS ?_); clear hS; intro w hS; simp only [List.set] at hS) | ((with_reducible first | refine s_draw hS ?_ | refine Qf hS ?_); clear hS; intro w hS) | ((with_reducible first | refine s_new hS ?_ | refine Qg hS ?_); clear hS; intro b w hS))))
        refine s_ifp (fun h2 => ?_) (fun h2 => ?_)
        · rw [if_pos h2] at htl
          (repeat (first | (with_reducible first | apply Q0 | refine Qa hS ?_ | refine Qb ?_ | refine Qc hS ?_ | refine Qd ?_) | ((with_reducible refine Qe hS ?_); clear hS; intro w hS; simp only [List.set] at hS) | ((with_reducible first | refine s_draw hS ?_ | refine Qf hS ?_); clear hS; intro w hS) | ((with_reducible first | refine s_new hS ?_ | refine Qg hS ?_); clear hS; intro b w hS)))
          refine s_segF (j := 0) (i := 0) hS Xh (by simp) (u := .int .i64 x0.file) rfl ?_
          (apply s_call (removeD_spec dp d' N hok' (by omega) x0.file) hS; exact Xp; clear hS)
          (rintro v post ⟨rfl, rfl⟩ w hS; (try simp only [app] at hS); (repeat (first | (with_reducible first | apply Q0 | refine Qa hS ?_ | refine Qb ?_ | refine Qc hS ?_ | refine Qd ?_) | ((with_reducible refine Qe hS ?_); clear hS; intro w hS; simp only [List.set] at hS) | ((with_reducible first | refine s_draw hS ?_ | refine Qf hS ?_); clear hS; intro w hS) | ((with_reducible first | refine s_new hS ?_ | refine Qg hS ?_); clear hS; intro b w hS))))
          have hrk := hok'.remove x0.file
          have hro := ops_remove d' x0.file
          have hxf : x0.pl.file = x0.file := rfl
          rw [hxf] at htl
          refine s_ifp (fun h3 => ?_) (fun h3 => ?_)
          · rw [htl, if_pos h3]
            have hS := hfin (SL.into hS Xi)
            exact ⟨_, ⟨rfl, rfl⟩, SL.into hS Xi⟩
          · rw [if_neg h3] at htl
            rw [htl] at htr ⊢
            (repeat (first | (with_reducible first | apply Q0 | refine Qa hS ?_ | refine Qb ?_ | refine Qc hS ?_ | refine Qd ?_) | ((with_reducible refine Qe hS ?_); clear hS; intro w hS; simp only [List.set] at hS) | ((with_reducible first | refine s_draw hS ?_ | refine Qf hS ?_); clear hS; intro w hS) | ((with_reducible first | refine s_new hS ?_ | refine Qg hS ?_); clear hS; intro b w hS)))
            refine s_slSo (k := 1) (SL.into hS (t := RowX (.slice a (x0 :: x1 :: r).length c) (x0 :: x1 :: r) :: .pt lp (lcells (.slice a (x0 :: x1 :: r).length c) tv dp g.base g.size) 46 :: .ob (HAll XSegO (x0 :: x1 :: r)) :: .ob (TornO tv g.torn) :: .ob (DskO dp (d'.remove x0.file).1) :: F) Xi) (by simp) ?_
            clear hS; intro u hS
            have e1 : (x0 :: x1 :: r).length - 1 = (x1 :: r).length := by simp
            have e2 : ((x0 :: x1 :: r).map xcells).flatten.drop (1 * 4) = ((x1 :: r).map xcells).flatten := by simp [xcells]
            rw [e1, e2] at hS
            obtain ⟨ua, uc, rfl, _⟩ := OwnSo.at hS (v := u) .hd
            have hS := HAll.take (t := 0) (x := x0) (SL.into hS (t := .ob (HAll XSegO (x0 :: x1 :: r)) :: .ob (OwnSo (.slice ua (x1 :: r).length uc) 71 4 (x1 :: r).length ((x1 :: r).map xcells).flatten) :: .pt lp (lcells (.slice a (x0 :: x1 :: r).length c) tv dp g.base g.size) 46 :: .ob (TornO tv g.torn) :: .ob (DskO dp (d'.remove x0.file).1) :: F) Xi) rfl
            have e3 : (x0 :: x1 :: r).eraseIdx 0 = x1 :: r := rfl
            rw [e3] at hS
            (repeat (first | (with_reducible first | apply Q0 | refine Qa hS ?_ | refine Qb ?_ | refine Qc hS ?_ | refine Qd ?_) | ((with_reducible refine Qe hS ?_); clear hS; intro w hS; simp only [List.set] at hS) | ((with_reducible first | refine s_draw hS ?_ | refine Qf hS ?_); clear hS; intro w hS) | ((with_reducible first | refine s_new hS ?_ | refine Qg hS ?_); clear hS; intro b w hS)))
            have hc1 := hS.cell (b := lp) (o := 0) (cs := lcells (.slice ua (x1 :: r).length uc) tv dp g.base g.size) (t := 46) Xh rfl
            refine ⟨⟨rfl, ua, uc, x1 :: r, (d'.remove x0.file).1, rfl, fun s hs => hseg s (by simp at hs ⊢; exact .inr hs), by simp at hlen ⊢; omega, hrk, by simp at hops' ⊢; omega, SL.into hS Xi⟩, ?_⟩
            dsimp only
            rw [hc1, hc0]
            simp
        · rw [htl, if_neg h2]
          have hS := hfin (SL.into hS Xi)
          exact ⟨_, ⟨rfl, rfl⟩, SL.into hS Xi⟩
      · have htl : trimL (xs'.map XSeg.pl) d' n = ((xs'.map XSeg.pl, d'), 0) := by
          match xs', h1 with
          | [], _ => rfl
          | [x], _ => rfl
          | _ :: _ :: _, h1 => simp at h1; omega
        rw [htl]
        have hS := hfin (SL.into hS Xi)
        exact ⟨_, ⟨rfl, rfl⟩, SL.into hS Xi⟩
/-- wal.Log.files -/
theorem filesL_spec (lp dp : Nat) (g : PLog) (d : DS) {M N : Nat} (hb0 : 0 ≤ g.base) (hb1 : g.base ≤ 12288) (hok : d.Ok N) (hR : d.R.length ≤ 100000) :
    Spec Try.prog 26 [.pointer (some ⟨lp, 0, none⟩)] [.ob (LogO lp dp g), .ob (DskO dp d)] (fun v post => post = [.ob (OwnSl v 3 1 (idsG g.base d.R).length ((idsG g.base d.R).map (Value.int .i64))), .ob (LogO lp dp g), .ob (DskO dp d)]) := by
  intro W F w hS; apply vc26; unfold Vc26; (try simp only [app] at hS)
  obtain ⟨sv, tv, xs, hx, hS⟩ := LogO.iff.1 hS
  (repeat (first | (with_reducible first | apply Q0 | refine Qa hS ?_ | refine Qb ?_ | refine Qc hS ?_ | refine Qd ?_) | ((with_reducible refine Qe hS ?_); clear hS; intro w hS; simp only [List.set] at hS) | ((with_reducible first | refine s_draw hS ?_ | refine Qf hS ?_); clear hS; intro w hS) | ((with_reducible first | refine s_new hS ?_ | refine Qg hS ?_); clear hS; intro b w hS)))
  (apply s_call (filesD_spec dp d N hok hR) hS; exact Xp; clear hS)
  rintro fl post rfl w hS
  (try simp only [app] at hS)
  refine s_lenO hS (t := 3) (sz := 1) (n := d.R.length) (cells := d.R.map fun x => .int .i64 x.id) Xh ?_
  have hS : SL W (.ob (OwnSl (.slice none 0 0) 3 1 (idsG g.base (d.R.take 0)).length ((idsG g.base (d.R.take 0)).map (Value.int .i64))) :: _) w := OwnSl.nil hS
  refine ⟨fun vs w => ∃ (u : Value) (i : Nat), i ≤ d.R.length ∧ vs = [u, .int .i64 i] ∧ SL W (.ob (OwnSl u 3 1 (idsG g.base (d.R.take i)).length ((idsG g.base (d.R.take i)).map (Value.int .i64))) :: .pt lp (lcells sv tv dp g.base g.size) 46 :: RowX sv xs :: .ob (HAll XSegO xs) :: .ob (TornO tv g.torn) :: .ob (DskO dp d) :: .ob (OwnSl fl 3 1 d.R.length (d.R.map fun x => .int .i64 x.id)) :: F) w,
    fun vs _ => match vs with | [_, .int _ i] => (d.R.length - i).toNat | _ => 0, ⟨.slice none 0 0, 0, by omega, rfl, SL.into hS Xi⟩, ?_⟩
  clear hS
  rintro v3 v12 w ⟨u, i, hi, hvs, hS⟩
  cases hvs
  (repeat (first | (with_reducible first | apply Q0 | refine Qa hS ?_ | refine Qb ?_ | refine Qc hS ?_ | refine Qd ?_) | ((with_reducible refine Qe hS ?_); clear hS; intro w hS; simp only [List.set] at hS) | ((with_reducible first | refine s_draw hS ?_ | refine Qf hS ?_); clear hS; intro w hS) | ((with_reducible first | refine s_new hS ?_ | refine Qg hS ?_); clear hS; intro b w hS)))
  refine s_ifp (fun h => ?_) (fun h => ?_)
  · have hil : i < d.R.length := by omega
    have hu : (d.R.map fun x => Value.int .i64 x.id)[i]? = some (.int .i64 d.R[i].id) := by simp [hil]
    have hidl : (idsG g.base (d.R.take i)).length ≤ 100000 := by
      unfold idsG
      have := List.length_filter_le (fun f => decide (g.base ≤ f ∧ f < g.base + 4096)) ((d.R.take i).map PF.id)
      rw [List.length_map, List.length_take] at this
      omega
    have hstep : idsG g.base (d.R.take (i + 1)) = idsG g.base (d.R.take i) ++ if g.base ≤ d.R[i].id ∧ d.R[i].id < g.base + 4096 then [d.R[i].id] else [] := by
      unfold idsG
      rw [List.take_add_one, List.getElem?_eq_getElem hil, List.map_append, List.filter_append]
      congr 1
      simp only [Option.toList_some, List.map_cons, List.map_nil, List.filter_cons, List.filter_nil, decide_eq_true_eq]
    have hlast : ∀ {w : World} {u : Value}, (idsG g.base (d.R.take (i + 1)) = idsG g.base (d.R.take i)) → SL W (.ob (OwnSl u 3 1 (idsG g.base (d.R.take i)).length ((idsG g.base (d.R.take i)).map (Value.int .i64))) :: .pt lp (lcells sv tv dp g.base g.size) 46 :: RowX sv xs :: .ob (HAll XSegO xs) :: .ob (TornO tv g.torn) :: .ob (DskO dp d) :: .ob (OwnSl fl 3 1 d.R.length (d.R.map fun x => .int .i64 x.id)) :: F) w →
        (∃ (u' : Value) (i' : Nat), i' ≤ d.R.length ∧ [u, Value.int .i64 ((i + 1 : Nat) : Int)] = [u', .int .i64 i'] ∧ SL W (.ob (OwnSl u' 3 1 (idsG g.base (d.R.take i')).length ((idsG g.base (d.R.take i')).map (Value.int .i64))) :: .pt lp (lcells sv tv dp g.base g.size) 46 :: RowX sv xs :: .ob (HAll XSegO xs) :: .ob (TornO tv g.torn) :: .ob (DskO dp d) :: .ob (OwnSl fl 3 1 d.R.length (d.R.map fun x => .int .i64 x.id)) :: F) w) := fun e h => ⟨_, i + 1, by omega, rfl, by rw [e]; exact h⟩
    refine s_get1O hS (t := 3) Xh hil hu ?_
    (repeat (first | (with_reducible first | apply Q0 | refine Qa hS ?_ | refine Qb ?_ | refine Qc hS ?_ | refine Qd ?_) | ((with_reducible refine Qe hS ?_); clear hS; intro w hS; simp only [List.set] at hS) | ((with_reducible first | refine s_draw hS ?_ | refine Qf hS ?_); clear hS; intro w hS) | ((with_reducible first | refine s_new hS ?_ | refine Qg hS ?_); clear hS; intro b w hS)))
    refine s_ifp (fun h1 => ?_) (fun h1 => ?_)
    · (repeat (first | (with_reducible first | apply Q0 | refine Qa hS ?_ | refine Qb ?_ | refine Qc hS ?_ | refine Qd ?_) | ((with_reducible refine Qe hS ?_); clear hS; intro w hS; simp only [List.set] at hS) | ((with_reducible first | refine s_draw hS ?_ | refine Qf hS ?_); clear hS; intro w hS) | ((with_reducible first | refine s_new hS ?_ | refine Qg hS ?_); clear hS; intro b w hS)))
      refine s_ifp (fun h2 => ?_) (fun h2 => ?_)
      · rw [if_pos ⟨h1, h2⟩] at hstep
        (repeat (first | (with_reducible first | apply Q0 | refine Qa hS ?_ | refine Qb ?_ | refine Qc hS ?_ | refine Qd ?_) | ((with_reducible refine Qe hS ?_); clear hS; intro w hS; simp only [List.set] at hS) | ((with_reducible first | refine s_draw hS ?_ | refine Qf hS ?_); clear hS; intro w hS) | ((with_reducible first | refine s_new hS ?_ | refine Qg hS ?_); clear hS; intro b w hS)))
        refine s_app (m := 1) (cs := [.int .i64 d.R[i].id]) hS Xr (src_pt0 hS .hd rfl) rfl rfl (by simp [Value.oneCell']) (by omega) (by omega) ?_
        clear hS; intro v' w hS
        have e1 : (idsG g.base (d.R.take i)).length + 1 = (idsG g.base (d.R.take (i + 1))).length := by rw [hstep, List.length_append]; rfl
        have e2 : (idsG g.base (d.R.take i)).map (Value.int .i64) ++ [Value.int .i64 d.R[i].id] = (idsG g.base (d.R.take (i + 1))).map (Value.int .i64) := by rw [hstep, List.map_append]; rfl
        rw [e1, e2] at hS
        (repeat (first | (with_reducible first | apply Q0 | refine Qa hS ?_ | refine Qb ?_ | refine Qc hS ?_ | refine Qd ?_) | ((with_reducible refine Qe hS ?_); clear hS; intro w hS; simp only [List.set] at hS) | ((with_reducible first | refine s_draw hS ?_ | refine Qf hS ?_); clear hS; intro w hS) | ((with_reducible first | refine s_new hS ?_ | refine Qg hS ?_); clear hS; intro b w hS)))
        exact ⟨⟨v', i + 1, by omega, rfl, SL.into hS Xi⟩, by dsimp only; omega⟩
      · rw [if_neg (by omega), List.append_nil] at hstep
        (repeat (first | (with_reducible first | apply Q0 | refine Qa hS ?_ | refine Qb ?_ | refine Qc hS ?_ | refine Qd ?_) | ((with_reducible refine Qe hS ?_); clear hS; intro w hS; simp only [List.set] at hS) | ((with_reducible first | refine s_draw hS ?_ | refine Qf hS ?_); clear hS; intro w hS) | ((with_reducible first | refine s_new hS ?_ | refine Qg hS ?_); clear hS; intro b w hS)))
        exact ⟨hlast hstep hS, by dsimp only; omega⟩
    · rw [if_neg (by omega), List.append_nil] at hstep
      (repeat (first | (with_reducible first | apply Q0 | refine Qa hS ?_ | refine Qb ?_ | refine Qc hS ?_ | refine Qd ?_) | ((with_reducible refine Qe hS ?_); clear hS; intro w hS; simp only [List.set] at hS) | ((with_reducible first | refine s_draw hS ?_ | refine Qf hS ?_); clear hS; intro w hS) | ((with_reducible first | refine s_new hS ?_ | refine Qg hS ?_); clear hS; intro b w hS)))
      exact ⟨hlast hstep hS, by dsimp only; omega⟩
  · have hie : i = d.R.length := by omega
    subst hie
    rw [List.take_length] at hS
    have hS := (LogO.iff (g := g)).2 ⟨sv, tv, xs, hx, SL.into hS (t := .pt lp (lcells sv tv dp g.base g.size) 46 :: RowX sv xs :: .ob (HAll XSegO xs) :: .ob (TornO tv g.torn) :: .ob (OwnSl v3 3 1 (idsG g.base d.R).length ((idsG g.base d.R).map (Value.int .i64))) :: .ob (DskO dp d) :: F) Xi⟩
    exact ⟨_, rfl, SL.into hS Xi⟩
end Go.Proofs.Ytilgfgghjdomcaa
namespace Go.Proofs.Ytilgfgghjdomcaa
set_option linter.unusedVariables false
set_option maxRecDepth 100000
open Go.RowKit

theorem scanA_ok2 (f : Nat) : ∀ b : List UInt8, b.length < f → (∀ p ∈ (scanA b).1, p.length ≤ 1048576) ∧ (scanA b).1.length ≤ (scanA b).2 := by
  induction f with
  | zero => intro b h; omega
  | succ f ih =>
    intro b hb
    cases h : takeR b with
    | error e => rw [scanA_er h]; exact ⟨by simp, by simp⟩
    | ok x =>
      obtain ⟨p, n⟩ := x
      have h2 := takeR_len h
      obtain ⟨i1, i2⟩ := ih (b.drop n) (by rw [List.length_drop]; omega)
      rw [scanA_ok h]
      refine ⟨fun q hq => ?_, ?_⟩
      · rcases List.mem_cons.1 hq with rfl | hq
        · exact h2.2.2.1
        · exact i1 q hq
      · show (p :: (scanA (b.drop n)).1).length ≤ n + (scanA (b.drop n)).2
        rw [List.length_cons]; omega
theorem readS_ok {q : List UInt8} {f : Int} {l : List (List UInt8)} {n : Nat} (h : readS q = some (f, l, n)) : 1 ≤ f ∧ f ≤ 1099511627776 ∧ n ≤ q.length ∧ l.length ≤ q.length ∧ ∀ p ∈ l, p.length ≤ 1048576 := by
  obtain ⟨h1, h2⟩ := scanA_ok2 (q.length + 1) q (by omega)
  have h3 := scanA_le (q.length + 1) q (by omega)
  unfold readS at h
  split at h
  · cases h
  · rename_i hd l' hs
    rw [hs] at h1 h2
    cases hh : hdOf hd with
    | none => rw [hh] at h; cases h
    | some k =>
      rw [hh] at h
      cases h
      have hk : 1 ≤ f ∧ f ≤ 1099511627776 := by
        unfold hdOf at hh
        split at hh
        · unfold hdF at hh
          split at hh
          · split at hh
            · rename_i hc
              cases hh; exact ⟨hc.2.1, hc.2.2⟩
            · cases hh
          · cases hh
        · cases hh
      refine ⟨hk.1, hk.2, h3, ?_, fun p hp => h1 p (.tail _ hp)⟩
      rw [List.length_cons] at h2; omega
theorem loadG_ok {L : List PSeg} {R : List PF} {f : Int} {last : Bool} {M N : Nat} (hR : ∀ x ∈ R, x.b.length ≤ N) (hN : N ≤ M) (f0 : 0 ≤ f) (f1 : f ≤ 100000) (hL : ∀ s ∈ L, SegOk s M) : (∀ s ∈ (loadG L R f last).2, SegOk s M) ∧ (loadG L R f last).2.length ≤ L.length + 1 := by
  have hq : (((getK PF.id R f).map PF.b).getD []).length ≤ N := by
    cases hg : getK PF.id R f with
    | none => simp
    | some x => exact hR x (getK_mem hg).1
  unfold loadG
  generalize ((getK PF.id R f).map PF.b).getD [] = q at *
  simp only
  cases hr : readS q with
  | none => exact ⟨hL, by simp⟩
  | some y =>
    obtain ⟨k, l, n⟩ := y
    have := readS_ok hr
    simp only
    split
    · exact ⟨hL, by simp⟩
    · refine ⟨fun s hs => ?_, by simp⟩
      rcases List.mem_append.1 hs with hs | hs
      · exact hL s hs
      · rw [List.mem_singleton.1 hs]
        exact ⟨f0, f1, this.1, this.2.1, by show n ≤ M; omega, by show l.length ≤ M; omega, this.2.2.2.2⟩
/-- wal.Log.load -/
theorem loadL_spec (lp dp : Nat) (g : PLog) (d : DS) (f : Int) (last : Bool) {M N : Nat} (hg : g.Ok M) (hM : M ≤ 1000000000000) (hok : d.Ok N) (hN : N ≤ 10000000000) :
    Spec Try.prog 27 [.pointer (some ⟨lp, 0, none⟩), .int .i64 f, .bool last] [.ob (LogO lp dp g), .ob (DskO dp d)] (Gives (.tuple #[.bool (loadG g.segs d.R f last).1.1, .bool (loadG g.segs d.R f last).1.2]) [.ob (LogO lp dp { g with segs := (loadG g.segs d.R f last).2 }), .ob (DskO dp d)]) := by
  intro W F w hS; apply vc27; unfold Vc27; (try simp only [app] at hS)
  obtain ⟨sv, tv, xs, hx, hS⟩ := LogO.iff.1 hS
  obtain ⟨hxo, hxl, hh0, hh1⟩ := hg.xs hx
  have hhead : headG (xs.map XSeg.pl) = headG g.segs := by rw [hx]
  have hgl : g.segs.length = xs.length := by rw [← hx, List.length_map]
  (repeat (first | (with_reducible first | apply Q0 | refine Qa hS ?_ | refine Qb ?_ | refine Qc hS ?_ | refine Qd ?_) | ((with_reducible refine Qe hS ?_); clear hS; intro w hS; simp only [List.set] at hS) | ((with_reducible first | refine s_draw hS ?_ | refine Qf hS ?_); clear hS; intro w hS) | ((with_reducible first | refine s_new hS ?_ | refine Qg hS ?_); clear hS; intro b w hS)))
  (apply s_call (readD_spec dp d N hok (by omega) f) hS; exact Xp; clear hS)
  rintro r post hQ w hS
  have hq : (((getK PF.id d.R f).map PF.b).getD []).length ≤ N := by
    cases hg : getK PF.id d.R f with
    | none => simp
    | some x => exact hok.len x (getK_mem hg).1
  have hload : loadG g.segs d.R f last = match readS (((getK PF.id d.R f).map PF.b).getD []) with
    | none => ((false, last), g.segs)
    | some (first, l, n) => if (last = false ∧ (n ≠ (((getK PF.id d.R f).map PF.b).getD []).length ∨ l.length = 0)) ∨ (0 < g.segs.length ∧ first ≠ headG g.segs + 1) ∨ 1099511627776 < first + l.length - 1 then ((true, false), g.segs)
      else ((true, true), g.segs ++ [⟨f, first, n, l⟩]) := rfl
  have hrd : ∃ (X : Chunk) (a : Option Addr) (c : Nat) (bb : Bool), r = .tuple #[.slice a (((getK PF.id d.R f).map PF.b).getD []).length c, .bool bb] ∧ Rdb X (.slice a (((getK PF.id d.R f).map PF.b).getD []).length c) (((getK PF.id d.R f).map PF.b).getD []) ∧ SL W (X :: .ob (DskO dp d) :: .pt lp (lcells sv tv dp g.base g.size) 46 :: RowX sv xs :: .ob (HAll XSegO xs) :: .ob (TornO tv g.torn) :: F) w := by
    unfold ReadQ at hQ
    cases hg : getK PF.id d.R f with
    | none =>
      rw [hg] at hQ
      obtain ⟨rfl, rfl⟩ := hQ
      (try simp only [app] at hS)
      exact ⟨.mem Heap.emp, none, 0, false, rfl, Rdb.nil, SL.into hS.memNil Xi⟩
    | some x =>
      rw [hg] at hQ
      obtain ⟨u, rfl, rfl⟩ := hQ
      (try simp only [app] at hS)
      obtain ⟨a, c, rfl, _⟩ := OwnSl.at hS (v := u) (t := 5) (sz := 1) (n := x.b.length) (cells := x.b.map u8c) Xh
      exact ⟨.ob (OwnSl (.slice a x.b.length c) 5 1 x.b.length (x.b.map u8c)), a, c, true, rfl, Rdb.own, SL.into hS Xi⟩
  clear hS hQ
  obtain ⟨X, a, c, bb, rfl, hX, hS⟩ := hrd
  rw [hload]
  clear hload
  generalize ((getK PF.id d.R f).map PF.b).getD [] = q at *
  (repeat (first | (with_reducible first | apply Q0 | refine Qa hS ?_ | refine Qb ?_ | refine Qc hS ?_ | refine Qd ?_) | ((with_reducible refine Qe hS ?_); clear hS; intro w hS; simp only [List.set] at hS) | ((with_reducible first | refine s_draw hS ?_ | refine Qf hS ?_); clear hS; intro w hS) | ((with_reducible first | refine s_new hS ?_ | refine Qg hS ?_); clear hS; intro b w hS)))
  (apply s_call (segRead_spec X _ q hX (by omega)) hS; exact Xp; clear hS)
  rintro r post hQ w hS
  unfold ReadQ2 at hQ
  cases hr : readS q with
  | none =>
    rw [hr] at hQ
    obtain ⟨rfl, rfl⟩ := hQ
    (try simp only [app] at hS)
    (repeat (first | (with_reducible first | apply Q0 | refine Qa hS ?_ | refine Qb ?_ | refine Qc hS ?_ | refine Qd ?_) | ((with_reducible refine Qe hS ?_); clear hS; intro w hS; simp only [List.set] at hS) | ((with_reducible first | refine s_draw hS ?_ | refine Qf hS ?_); clear hS; intro w hS) | ((with_reducible first | refine s_new hS ?_ | refine Qg hS ?_); clear hS; intro b w hS)))
    refine s_ifp (fun _ => ?_) (fun h => absurd (by decide) h)
    have hS := (LogO.iff (g := g)).2 ⟨sv, tv, xs, hx, SL.into hS (t := .pt lp (lcells sv tv dp g.base g.size) 46 :: RowX sv xs :: .ob (HAll XSegO xs) :: .ob (TornO tv g.torn) :: .ob (DskO dp d) :: F) Xi⟩
    exact ⟨_, ⟨rfl, rfl⟩, SL.into hS Xi⟩
  | some y =>
    obtain ⟨first, l, n⟩ := y
    have hrk := readS_ok hr
    rw [hr] at hQ
    obtain ⟨u, es, he, rfl, rfl⟩ := hQ
    (try simp only [app] at hS)
    have hel : l.length = es.length := by rw [← he, byts_len]
    obtain ⟨ua, uc, rfl, _⟩ := OwnSo.at hS (v := u) .hd
    obtain ⟨r1, r2, r3, r4, r5⟩ := hrk
    simp only [hel, hgl]
    have hsOne : SegOk (XSeg.pl ⟨f, first, n, es, ua, uc⟩) M ∨ True := .inr trivial
    (repeat (first | (with_reducible first | apply Q0 | refine Qa hS ?_ | refine Qb ?_ | refine Qc hS ?_ | refine Qd ?_) | ((with_reducible refine Qe hS ?_); clear hS; intro w hS; simp only [List.set] at hS) | ((with_reducible first | refine s_draw hS ?_ | refine Qf hS ?_); clear hS; intro w hS) | ((with_reducible first | refine s_new hS ?_ | refine Qg hS ?_); clear hS; intro b w hS)))
    refine s_ifp (fun h => absurd rfl h) (fun _ => ?_)
    (repeat (first | (with_reducible first | apply Q0 | refine Qa hS ?_ | refine Qb ?_ | refine Qc hS ?_ | refine Qd ?_) | ((with_reducible refine Qe hS ?_); clear hS; intro w hS; simp only [List.set] at hS) | ((with_reducible first | refine s_draw hS ?_ | refine Qf hS ?_); clear hS; intro w hS) | ((with_reducible first | refine s_new hS ?_ | refine Qg hS ?_); clear hS; intro b w hS)))
    obtain ⟨sb, rfl⟩ : ∃ k, k = b := ⟨b, rfl⟩
    obtain ⟨I, hI⟩ : ∃ I : List Value → World → Prop, I = fun vs w => ∃ bad : Bool, vs = [.bool bad] ∧ (bad = true ↔ ((last = false ∧ (n ≠ q.length ∨ es.length = 0)) ∨ (0 < xs.length ∧ first ≠ headG g.segs + 1) ∨ 1099511627776 < first + es.length - 1)) ∧
      SL W (.pt sb [.int .i64 f, .int .i64 first, .int .i64 n, .slice ua es.length uc] 71 :: .ob (OwnSo (.slice ua es.length uc) 23 1 es.length (vals es)) :: .ob (HAll BEntO es) :: .ob (DskO dp d) :: .pt lp (lcells sv tv dp g.base g.size) 46 :: RowX sv xs :: .ob (HAll XSegO xs) :: .ob (TornO tv g.torn) :: F) w := ⟨_, rfl⟩
    refine ⟨I, ?_, ?_⟩
    · have hend : ∀ (w : World) (K : Value → World → Prop), ¬ (last = false ∧ (n ≠ q.length ∨ es.length = 0)) → SL W (.pt sb [.int .i64 f, .int .i64 first, .int .i64 n, .slice ua es.length uc] 71 :: .ob (OwnSo (.slice ua es.length uc) 23 1 es.length (vals es)) :: .ob (HAll BEntO es) :: .ob (DskO dp d) :: .pt lp (lcells sv tv dp g.base g.size) 46 :: RowX sv xs :: .ob (HAll XSegO xs) :: .ob (TornO tv g.torn) :: F) w →
          (∀ (bad : Bool) w, (bad = true ↔ ((last = false ∧ (n ≠ q.length ∨ es.length = 0)) ∨ (0 < xs.length ∧ first ≠ headG g.segs + 1) ∨ 1099511627776 < first + es.length - 1)) → SL W (.pt sb [.int .i64 f, .int .i64 first, .int .i64 n, .slice ua es.length uc] 71 :: .ob (OwnSo (.slice ua es.length uc) 23 1 es.length (vals es)) :: .ob (HAll BEntO es) :: .ob (DskO dp d) :: .pt lp (lcells sv tv dp g.base g.size) 46 :: RowX sv xs :: .ob (HAll XSegO xs) :: .ob (TornO tv g.torn) :: F) w → K (.bool bad) w) →
          (HNil (.pointer (some ⟨lp, 0, none⟩)) fun v54 => HFld 0 v54 fun v55 => HFld 0 v55 fun v56 => HLd v56 w fun v57 => HLenS v57 fun v58 => HBin .gtr v58 (.int .i64 0) fun v59 =>
            HIf v59
            (HNil (.pointer (some ⟨lp, 0, none⟩)) fun v63 => HFld 0 v63 fun v64 => HCall Try.prog 16 [v64] w fun v65 w_5 => HBin .add v65 (.int .i64 1) fun v66 => HBin .neq (.int .i64 first) v66 fun v67 =>
              HIf v67 (K (.bool true) w_5)
              (HLdN 4 (.pointer (some ⟨sb, 0, none⟩)) w_5 fun v71 => HCall Try.prog 39 [v71] w_5 fun v72 w_6 => HBin .sub v72 (.int .i64 1) fun v73 => HBin .gtr v73 (.int .i64 1099511627776) fun v74 => K v74 w_6))
            (HLdN 4 (.pointer (some ⟨sb, 0, none⟩)) w fun v71_1 => HCall Try.prog 39 [v71_1] w fun v72_1 w_7 => HBin .sub v72_1 (.int .i64 1) fun v73_1 => HBin .gtr v73_1 (.int .i64 1099511627776) fun v74_1 => K v74_1 w_7)) := by
        intro w K hn hS hK
        clear bb
        (repeat (first | (with_reducible first | apply Q0 | refine Qa hS ?_ | refine Qb ?_ | refine Qc hS ?_ | refine Qd ?_) | ((with_reducible refine Qe hS ?_); clear hS; intro w hS; simp only [List.set] at hS) | ((with_reducible first | refine s_draw hS ?_ | refine Qf hS ?_); clear hS; intro w hS) | ((with_reducible first | refine s_new hS ?_ | refine Qg hS ?_); clear hS; intro b w hS)))
        refine s_lenSo hS (v := sv) (t := 71) (sz := 4) (n := xs.length) (cells := (xs.map xcells).flatten) Xh ?_
        (repeat (first | (with_reducible first | apply Q0 | refine Qa hS ?_ | refine Qb ?_ | refine Qc hS ?_ | refine Qd ?_) | ((with_reducible refine Qe hS ?_); clear hS; intro w hS; simp only [List.set] at hS) | ((with_reducible first | refine s_draw hS ?_ | refine Qf hS ?_); clear hS; intro w hS) | ((with_reducible first | refine s_new hS ?_ | refine Qg hS ?_); clear hS; intro b w hS)))
        refine s_ifp (fun h1 => ?_) (fun h1 => ?_)
        · (repeat (first | (with_reducible first | apply Q0 | refine Qa hS ?_ | refine Qb ?_ | refine Qc hS ?_ | refine Qd ?_) | ((with_reducible refine Qe hS ?_); clear hS; intro w hS; simp only [List.set] at hS) | ((with_reducible first | refine s_draw hS ?_ | refine Qf hS ?_); clear hS; intro w hS) | ((with_reducible first | refine s_new hS ?_ | refine Qg hS ?_); clear hS; intro b w hS)))
          (apply s_call (headL_spec lp (lcells sv tv dp g.base g.size) 46 sv xs rfl hxo (by omega) (by omega)) hS; exact Xp; clear hS)
          (rintro v post ⟨rfl, rfl⟩ w hS; (try simp only [app] at hS); (repeat (first | (with_reducible first | apply Q0 | refine Qa hS ?_ | refine Qb ?_ | refine Qc hS ?_ | refine Qd ?_) | ((with_reducible refine Qe hS ?_); clear hS; intro w hS; simp only [List.set] at hS) | ((with_reducible first | refine s_draw hS ?_ | refine Qf hS ?_); clear hS; intro w hS) | ((with_reducible first | refine s_new hS ?_ | refine Qg hS ?_); clear hS; intro b w hS))))
          rw [hhead]
          refine s_ifp (fun h2 => ?_) (fun h2 => ?_)
          · refine hK true _ ⟨fun _ => .inr (.inl ⟨by omega, by omega⟩), fun _ => rfl⟩ (SL.into hS Xi)
          · (repeat (first | (with_reducible first | apply Q0 | refine Qa hS ?_ | refine Qb ?_ | refine Qc hS ?_ | refine Qd ?_) | ((with_reducible refine Qe hS ?_); clear hS; intro w hS; simp only [List.set] at hS) | ((with_reducible first | refine s_draw hS ?_ | refine Qf hS ?_); clear hS; intro w hS) | ((with_reducible first | refine s_new hS ?_ | refine Qg hS ?_); clear hS; intro b w hS)))
            (apply s_call (next39_spec f first n ua es.length uc (by omega) (by omega)) hS; exact Xp; clear hS)
            (rintro v post ⟨rfl, rfl⟩ w hS; (try simp only [app] at hS); (repeat (first | (with_reducible first | apply Q0 | refine Qa hS ?_ | refine Qb ?_ | refine Qc hS ?_ | refine Qd ?_) | ((with_reducible refine Qe hS ?_); clear hS; intro w hS; simp only [List.set] at hS) | ((with_reducible first | refine s_draw hS ?_ | refine Qf hS ?_); clear hS; intro w hS) | ((with_reducible first | refine s_new hS ?_ | refine Qg hS ?_); clear hS; intro b w hS))))
            refine hK _ _ ⟨fun h => .inr (.inr (by simpa using h)), fun h => ?_⟩ (SL.into hS Xi)
            rcases h with h | h | h
            · exact absurd h hn
            · omega
            · simpa using h
        · (repeat (first | (with_reducible first | apply Q0 | refine Qa hS ?_ | refine Qb ?_ | refine Qc hS ?_ | refine Qd ?_) | ((with_reducible refine Qe hS ?_); clear hS; intro w hS; simp only [List.set] at hS) | ((with_reducible first | refine s_draw hS ?_ | refine Qf hS ?_); clear hS; intro w hS) | ((with_reducible first | refine s_new hS ?_ | refine Qg hS ?_); clear hS; intro b w hS)))
          (apply s_call (next39_spec f first n ua es.length uc (by omega) (by omega)) hS; exact Xp; clear hS)
          (rintro v post ⟨rfl, rfl⟩ w hS; (try simp only [app] at hS); (repeat (first | (with_reducible first | apply Q0 | refine Qa hS ?_ | refine Qb ?_ | refine Qc hS ?_ | refine Qd ?_) | ((with_reducible refine Qe hS ?_); clear hS; intro w hS; simp only [List.set] at hS) | ((with_reducible first | refine s_draw hS ?_ | refine Qf hS ?_); clear hS; intro w hS) | ((with_reducible first | refine s_new hS ?_ | refine Qg hS ?_); clear hS; intro b w hS))))
          refine hK _ _ ⟨fun h => .inr (.inr (by simpa using h)), fun h => ?_⟩ (SL.into hS Xi)
          rcases h with h | h | h
          · exact absurd h hn
          · omega
          · simpa using h
      cases last with
      | false =>
        refine s_not ?_
        refine s_ift ?_
        (repeat (first | (with_reducible first | apply Q0 | refine Qa hS ?_ | refine Qb ?_ | refine Qc hS ?_ | refine Qd ?_) | ((with_reducible refine Qe hS ?_); clear hS; intro w hS; simp only [List.set] at hS) | ((with_reducible first | refine s_draw hS ?_ | refine Qf hS ?_); clear hS; intro w hS) | ((with_reducible first | refine s_new hS ?_ | refine Qg hS ?_); clear hS; intro b w hS)))
        refine s_ifp (fun h1 => ?_) (fun h1 => ?_)
        · rw [hI]; exact ⟨true, rfl, ⟨fun _ => .inl ⟨rfl, .inl (by omega)⟩, fun _ => rfl⟩, SL.into hS Xi⟩
        · (repeat (first | (with_reducible first | apply Q0 | refine Qa hS ?_ | refine Qb ?_ | refine Qc hS ?_ | refine Qd ?_) | ((with_reducible refine Qe hS ?_); clear hS; intro w hS; simp only [List.set] at hS) | ((with_reducible first | refine s_draw hS ?_ | refine Qf hS ?_); clear hS; intro w hS) | ((with_reducible first | refine s_new hS ?_ | refine Qg hS ?_); clear hS; intro b w hS)))
          refine s_ifp (fun h2 => ?_) (fun h2 => ?_)
          · rw [hI]; exact ⟨true, rfl, ⟨fun _ => .inl ⟨rfl, .inr (by omega)⟩, fun _ => rfl⟩, SL.into hS Xi⟩
          · exact hend w (fun v w => I [v] w) (by omega) (SL.into hS Xi) (fun bad w hb h => by rw [hI]; exact ⟨bad, rfl, hb, h⟩)
      | true =>
        refine s_not ?_
        refine s_iff ?_
        exact hend w (fun v w => I [v] w) (by simp) (SL.into hS Xi) (fun bad w hb h => by rw [hI]; exact ⟨bad, rfl, hb, h⟩)
    · clear hS
      rw [hI]
      rintro v75 w ⟨bad, hvs, hbad, hS⟩
      cases hvs
      cases bad with
      | true =>
        refine s_ift ?_
        rw [if_pos (hbad.1 rfl)]
        have hS := (LogO.iff (g := g)).2 ⟨sv, tv, xs, hx, SL.into hS (t := .pt lp (lcells sv tv dp g.base g.size) 46 :: RowX sv xs :: .ob (HAll XSegO xs) :: .ob (TornO tv g.torn) :: .ob (DskO dp d) :: F) Xi⟩
        exact ⟨_, ⟨rfl, rfl⟩, SL.into hS Xi⟩
      | false =>
        refine s_iff ?_
        rw [if_neg (fun h => by have := hbad.2 h; cases this)]
        (repeat (first | (with_reducible first | apply Q0 | refine Qa hS ?_ | refine Qb ?_ | refine Qc hS ?_ | refine Qd ?_) | ((with_reducible refine Qe hS ?_); clear hS; intro w hS; simp only [List.set] at hS) | ((with_reducible first | refine s_draw hS ?_ | refine Qf hS ?_); clear hS; intro w hS) | ((with_reducible first | refine s_new hS ?_ | refine Qg hS ?_); clear hS; intro b w hS)))
        refine s_appSo (t := 71) (sz := 4) (n := xs.length) (cells := (xs.map xcells).flatten) (m := 1) (cs := [.int .i64 f, .int .i64 first, .int .i64 n, .slice ua es.length uc]) hS Xr (src_pt0 hS .hd rfl) rfl rfl (by simp [Value.oneCell']) (by omega) (by omega) ?_
        clear hS; intro sv' w hS
        have hone := OwnSo.one hS (v := sv') .hd
        (repeat (first | (with_reducible first | apply Q0 | refine Qa hS ?_ | refine Qb ?_ | refine Qc hS ?_ | refine Qd ?_) | ((with_reducible refine Qe hS ?_); clear hS; intro w hS; simp only [List.set] at hS) | ((with_reducible first | refine s_draw hS ?_ | refine Qf hS ?_); clear hS; intro w hS) | ((with_reducible first | refine s_new hS ?_ | refine Qg hS ?_); clear hS; intro b w hS)))
        have hS := (XSegO.iff (x := ⟨f, first, n, es, ua, uc⟩)).2 (SL.into hS (t := .ob (OwnSo (.slice ua es.length uc) 23 1 es.length (vals es)) :: .ob (HAll BEntO es) :: .ob (HAll XSegO xs) :: .ob (DskO dp d) :: .pt lp (lcells sv' tv dp g.base g.size) 46 :: .ob (OwnSo sv' 71 4 (xs.length + 1) ((xs.map xcells).flatten ++ [.int .i64 f, .int .i64 first, .int .i64 n, .slice ua es.length uc])) :: .ob (TornO tv g.torn) :: F) Xi)
        have hS := HAll.snoc (hS.into (t := .ob (HAll XSegO xs) :: .ob (XSegO ⟨f, first, n, es, ua, uc⟩) :: .ob (DskO dp d) :: .pt lp (lcells sv' tv dp g.base g.size) 46 :: .ob (OwnSo sv' 71 4 (xs.length + 1) ((xs.map xcells).flatten ++ [.int .i64 f, .int .i64 first, .int .i64 n, .slice ua es.length uc])) :: .ob (TornO tv g.torn) :: F) Xi)
        have e1 : xs.length + 1 = (xs ++ [(⟨f, first, n, es, ua, uc⟩ : XSeg)]).length := by simp
        have e2 : (xs.map xcells).flatten ++ [.int .i64 f, .int .i64 first, .int .i64 n, .slice ua es.length uc] = ((xs ++ [(⟨f, first, n, es, ua, uc⟩ : XSeg)]).map xcells).flatten := by simp [xcells, XSeg.lv]
        rw [e1, e2] at hS
        have hx2 : (xs ++ [(⟨f, first, n, es, ua, uc⟩ : XSeg)]).map XSeg.pl = g.segs ++ [⟨f, first, n, l⟩] := by
          rw [List.map_append, hx]; simp [XSeg.pl, he]
        have hS := (LogO.iff (g := { g with segs := g.segs ++ [⟨f, first, n, l⟩] })).2 ⟨sv', tv, xs ++ [⟨f, first, n, es, ua, uc⟩], hx2, SL.into hS (t := .pt lp (lcells sv' tv dp g.base g.size) 46 :: RowX sv' (xs ++ [⟨f, first, n, es, ua, uc⟩]) :: .ob (HAll XSegO (xs ++ [⟨f, first, n, es, ua, uc⟩])) :: .ob (TornO tv g.torn) :: .ob (DskO dp d) :: F) Xi⟩
        exact ⟨_, ⟨rfl, rfl⟩, SL.into hS Xi⟩
end Go.Proofs.Ytilgfgghjdomcaa
namespace Go.Proofs.Ytilgfgghjdomcaa
set_option linter.unusedVariables false
set_option maxRecDepth 100000
open Go.RowKit

/-- wal.Log.begin -/
theorem beginL_spec (lp dp : Nat) (g : PLog) (d : DS) (iv : Value) (ids : List Int) (whole : Bool) {M N : Nat} (hg : g.Ok M) (hM : M ≤ 1000000000000) (hok : d.Ok N) (hN : N ≤ 10000000000) (hops : d.ops ≤ 100000) (hne : whole = true → ids ≠ [] → g.segs ≠ []) (hil : ids.length ≤ 100000) :
    Spec Try.prog 28 [.pointer (some ⟨lp, 0, none⟩), iv, .bool whole] [.ob (LogO lp dp g), .ob (DskO dp d), .ob (OwnSl iv 3 1 ids.length (ids.map (Value.int .i64)))]
      (Gives (.int .i64 (beginG g.segs d ids whole).2) [.ob (LogO lp dp g), .ob (DskO dp (beginG g.segs d ids whole).1), .ob (OwnSl iv 3 1 ids.length (ids.map (Value.int .i64)))]) := by
  intro W F w hS; apply vc28; unfold Vc28; (try simp only [app] at hS)
  obtain ⟨sv, tv, xs, hx, hS⟩ := LogO.iff.1 hS
  obtain ⟨hxo, hxl, _, _⟩ := hg.xs hx
  have hfin : ∀ {w : World} {d' : DS}, SL W (.pt lp (lcells sv tv dp g.base g.size) 46 :: RowX sv xs :: .ob (HAll XSegO xs) :: .ob (TornO tv g.torn) :: .ob (DskO dp d') :: .ob (OwnSl iv 3 1 ids.length (ids.map (Value.int .i64))) :: F) w → SL W (.ob (LogO lp dp g) :: .ob (DskO dp d') :: .ob (OwnSl iv 3 1 ids.length (ids.map (Value.int .i64))) :: F) w := fun h => (LogO.iff (g := g)).2 ⟨_, tv, _, hx, h⟩
  refine s_lenO hS (v := iv) (t := 3) (sz := 1) (n := ids.length) (cells := ids.map (Value.int .i64)) Xh ?_
  (repeat (first | (with_reducible first | apply Q0 | refine Qa hS ?_ | refine Qb ?_ | refine Qc hS ?_ | refine Qd ?_) | ((with_reducible refine Qe hS ?_); clear hS; intro w hS; simp only [List.set] at hS) | ((with_reducible first | refine s_draw hS ?_ | refine Qf hS ?_); clear hS; intro w hS) | ((with_reducible first | refine s_new hS ?_ | refine Qg hS ?_); clear hS; intro b w hS)))
  refine s_ifp (fun h => ?_) (fun h => ?_)
  · have : ids = [] := List.eq_nil_of_length_eq_zero (by omega)
    subst this
    have hS := hfin (SL.into hS Xi)
    exact ⟨_, ⟨rfl, rfl⟩, hS⟩
  · have hj : ids.length - 1 < ids.length := by omega
    have hgl : ids.getLast? = some (ids[ids.length - 1]'hj) := by rw [List.getLast?_eq_getElem?, List.getElem?_eq_getElem hj]
    have hne' : ids ≠ [] := fun e => by rw [e] at h; simp at h
    have hu : (ids.map (Value.int .i64))[ids.length - 1]? = some (.int .i64 (ids[ids.length - 1]'hj)) := by simp [hj]
    generalize (ids[ids.length - 1]'hj) = f at *
    refine s_lenO hS (v := iv) (t := 3) (sz := 1) (n := ids.length) (cells := ids.map (Value.int .i64)) Xh ?_
    (repeat (first | (with_reducible first | apply Q0 | refine Qa hS ?_ | refine Qb ?_ | refine Qc hS ?_ | refine Qd ?_) | ((with_reducible refine Qe hS ?_); clear hS; intro w hS; simp only [List.set] at hS) | ((with_reducible first | refine s_draw hS ?_ | refine Qf hS ?_); clear hS; intro w hS) | ((with_reducible first | refine s_new hS ?_ | refine Qg hS ?_); clear hS; intro b w hS)))
    have e : ((ids.length : Nat) : Int) - 1 = ((ids.length - 1 : Nat) : Int) := by omega
    rw [e]
    refine s_get1O hS (v := iv) (t := 3) Xh hj hu ?_
    cases whole with
    | false =>
      have hb : beginG g.segs d ids false = d.remove f := by unfold beginG; rw [hgl]; rfl
      rw [hb]
      refine s_not ?_
      refine s_ift ?_
      (repeat (first | (with_reducible first | apply Q0 | refine Qa hS ?_ | refine Qb ?_ | refine Qc hS ?_ | refine Qd ?_) | ((with_reducible refine Qe hS ?_); clear hS; intro w hS; simp only [List.set] at hS) | ((with_reducible first | refine s_draw hS ?_ | refine Qf hS ?_); clear hS; intro w hS) | ((with_reducible first | refine s_new hS ?_ | refine Qg hS ?_); clear hS; intro b w hS)))
      (apply s_call (removeD_spec dp d N hok hops f) hS; exact Xp; clear hS)
      (rintro v post ⟨rfl, rfl⟩ w hS; (try simp only [app] at hS); (repeat (first | (with_reducible first | apply Q0 | refine Qa hS ?_ | refine Qb ?_ | refine Qc hS ?_ | refine Qd ?_) | ((with_reducible refine Qe hS ?_); clear hS; intro w hS; simp only [List.set] at hS) | ((with_reducible first | refine s_draw hS ?_ | refine Qf hS ?_); clear hS; intro w hS) | ((with_reducible first | refine s_new hS ?_ | refine Qg hS ?_); clear hS; intro b w hS))))
      have hS := hfin (SL.into hS Xi)
      exact ⟨_, ⟨rfl, rfl⟩, hS⟩
    | true =>
      have hb : beginG g.segs d ids true = if lastSize g.segs < lenF d.R f then d.cut f (lastSize g.segs) else (d, 0) := by unfold beginG; rw [hgl]; rfl
      rw [hb]
      refine s_not ?_
      refine s_iff ?_
      have hn := hne rfl hne'
      have hle : 0 < xs.length := by
        rcases Nat.eq_zero_or_pos xs.length with h0 | h0
        · rw [← hx, List.eq_nil_of_length_eq_zero h0] at hn; exact absurd rfl hn
        · exact h0
      have hj2 : xs.length - 1 < xs.length := by omega
      have hlz : lastSize g.segs = ((xs[xs.length - 1]'hj2).size : Nat) := by
        unfold lastSize
        rw [← hx, List.getLast?_map, List.getLast?_eq_getElem?, List.getElem?_eq_getElem hj2]; rfl
      rw [hlz]
      (repeat (first | (with_reducible first | apply Q0 | refine Qa hS ?_ | refine Qb ?_ | refine Qc hS ?_ | refine Qd ?_) | ((with_reducible refine Qe hS ?_); clear hS; intro w hS; simp only [List.set] at hS) | ((with_reducible first | refine s_draw hS ?_ | refine Qf hS ?_); clear hS; intro w hS) | ((with_reducible first | refine s_new hS ?_ | refine Qg hS ?_); clear hS; intro b w hS)))
      refine s_lenSo hS (v := sv) (t := 71) (sz := 4) (n := xs.length) (cells := (xs.map xcells).flatten) Xh ?_
      (repeat (first | (with_reducible first | apply Q0 | refine Qa hS ?_ | refine Qb ?_ | refine Qc hS ?_ | refine Qd ?_) | ((with_reducible refine Qe hS ?_); clear hS; intro w hS; simp only [List.set] at hS) | ((with_reducible first | refine s_draw hS ?_ | refine Qf hS ?_); clear hS; intro w hS) | ((with_reducible first | refine s_new hS ?_ | refine Qg hS ?_); clear hS; intro b w hS)))
      have e : ((xs.length : Nat) : Int) - 1 = ((xs.length - 1 : Nat) : Int) := by omega
      rw [e]
      refine s_segF (i := 2) hS Xh hj2 (u := .int .i64 ((xs[xs.length - 1]'hj2).size : Nat)) rfl ?_
      generalize (xs[xs.length - 1]'hj2).size = z at *
      (repeat (first | (with_reducible first | apply Q0 | refine Qa hS ?_ | refine Qb ?_ | refine Qc hS ?_ | refine Qd ?_) | ((with_reducible refine Qe hS ?_); clear hS; intro w hS; simp only [List.set] at hS) | ((with_reducible first | refine s_draw hS ?_ | refine Qf hS ?_); clear hS; intro w hS) | ((with_reducible first | refine s_new hS ?_ | refine Qg hS ?_); clear hS; intro b w hS)))
      (apply s_call (lenD_spec dp d f) hS; exact Xp; clear hS)
      (rintro v post ⟨rfl, rfl⟩ w hS; (try simp only [app] at hS); (repeat (first | (with_reducible first | apply Q0 | refine Qa hS ?_ | refine Qb ?_ | refine Qc hS ?_ | refine Qd ?_) | ((with_reducible refine Qe hS ?_); clear hS; intro w hS; simp only [List.set] at hS) | ((with_reducible first | refine s_draw hS ?_ | refine Qf hS ?_); clear hS; intro w hS) | ((with_reducible first | refine s_new hS ?_ | refine Qg hS ?_); clear hS; intro b w hS))))
      refine s_ifp (fun h1 => ?_) (fun h1 => ?_)
      · rw [if_pos h1]
        (repeat (first | (with_reducible first | apply Q0 | refine Qa hS ?_ | refine Qb ?_ | refine Qc hS ?_ | refine Qd ?_) | ((with_reducible refine Qe hS ?_); clear hS; intro w hS; simp only [List.set] at hS) | ((with_reducible first | refine s_draw hS ?_ | refine Qf hS ?_); clear hS; intro w hS) | ((with_reducible first | refine s_new hS ?_ | refine Qg hS ?_); clear hS; intro b w hS)))
        (apply s_call (cutD_spec dp d N hok (by omega) hops f (z : Int)) hS; exact Xp; clear hS)
        (rintro v post ⟨rfl, rfl⟩ w hS; (try simp only [app] at hS); (repeat (first | (with_reducible first | apply Q0 | refine Qa hS ?_ | refine Qb ?_ | refine Qc hS ?_ | refine Qd ?_) | ((with_reducible refine Qe hS ?_); clear hS; intro w hS; simp only [List.set] at hS) | ((with_reducible first | refine s_draw hS ?_ | refine Qf hS ?_); clear hS; intro w hS) | ((with_reducible first | refine s_new hS ?_ | refine Qg hS ?_); clear hS; intro b w hS))))
        have hS := hfin (SL.into hS Xi)
        exact ⟨_, ⟨rfl, rfl⟩, hS⟩
      · rw [if_neg h1]
        have hS := hfin (SL.into hS Xi)
        exact ⟨_, ⟨rfl, rfl⟩, hS⟩
def OpenQ (dp : Nat) (y : DS × Except Int PLog) (r : Value) (post : List Chunk) : Prop := match y.2 with
  | .error e => e ≠ 0 ∧ r = .tuple #[.pointer none, .int .i64 e] ∧ post = [.ob (DskO dp y.1)]
  | .ok g => ∃ lp : Nat, r = .tuple #[.pointer (some ⟨lp, 0, none⟩), .int .i64 0] ∧ post = [.ob (LogO lp dp g), .ob (DskO dp y.1)]
theorem loadsG_ok {R : List PF} {M N : Nat} (hR : ∀ x ∈ R, x.b.length ≤ N) (hN : N ≤ M) : ∀ (ids : List Int) (prev : Option Int) (L : List PSeg) (wh : Bool) (k : Nat), (∀ f ∈ ids, 0 ≤ f ∧ f ≤ 100000) → (∀ s ∈ L, SegOk s M) → L.length ≤ k → ∀ {L' wh'}, loadsG R ids prev L wh = some (L', wh') → (∀ s ∈ L', SegOk s M) ∧ L'.length ≤ k + ids.length
  | [], prev, L, wh, k, _, hL, hk, L', wh', h => by
    cases h; exact ⟨hL, by simpa using hk⟩
  | f :: r, prev, L, wh, k, hf, hL, hk, L', wh', h => by
    rw [loadsG_cons] at h
    obtain ⟨f0, f1⟩ := hf f (.head _)
    obtain ⟨k1, k2⟩ := loadG_ok (last := r.isEmpty) hR hN f0 f1 hL
    split at h
    · cases h
    · split at h
      · cases h
      · have := loadsG_ok hR hN r _ _ _ (k + 1) (fun x hx => hf x (.tail _ hx)) k1 (by omega) h
        exact ⟨this.1, by simp at this ⊢; omega⟩
theorem idsG_mem {base : Int} {R : List PF} {f : Int} (h : f ∈ idsG base R) : base ≤ f ∧ f < base + 4096 := by
  unfold idsG at h
  have := (List.mem_filter.1 h).2
  simpa using this
theorem idsG_len (base : Int) (R : List PF) : (idsG base R).length ≤ R.length := by
  unfold idsG
  have := List.length_filter_le (fun f => decide (base ≤ f ∧ f < base + 4096)) (R.map PF.id)
  rwa [List.length_map] at this
theorem openG_gok {d d' : DS} {base size : Int} {N : Nat} (hok : d.Ok N) (hR : d.R.length ≤ 100000) {g : PLog} (h : openG d base size = (d', .ok g)) : g.Ok (N + 100000) ∧ d.off = false := by
  unfold openG at h
  split at h
  · cases h
  · rename_i hb
    split at h
    · cases h
    · rename_i ho
      split at h
      · cases h
      · rename_i L wh hl
        have hi : ∀ f ∈ idsG base d.R, 0 ≤ f ∧ f ≤ 100000 := fun f hf => by have := idsG_mem hf; omega
        obtain ⟨k1, k2⟩ := loadsG_ok (M := N + 100000) hok.len (by omega) _ _ [] _ 0 hi (by simp) (by simp) hl
        have := idsG_len base d.R
        have hL : (⟨L, base, size, none⟩ : PLog).Ok (N + 100000) := ⟨k1, by show 0 ≤ base; omega, by show base ≤ 12288; omega, by show 64 ≤ size; omega, by show size ≤ 65536; omega, by show L.length ≤ _; omega⟩
        split at h
        · cases h
        · cases h; exact ⟨hL, by simpa using ho⟩
/-- wal.Open -/
theorem openL_spec (dp : Nat) (d : DS) (base size : Int) {N : Nat} (hok : d.Ok N) (hN : N ≤ 1000000000) (hR : d.R.length ≤ 100000) (hops : d.ops ≤ 100000) :
    Spec Try.prog 8 [.pointer (some ⟨dp, 0, none⟩), .int .i64 base, .int .i64 size] [.ob (DskO dp d)] (OpenQ dp (openG d base size)) := by
  intro W F w hS; apply vc8; unfold Vc8; (try simp only [app] at hS)
  by_cases hbd : base < 0 ∨ 12288 < base ∨ size < 64 ∨ 65536 < size
  · have e : openG d base size = (d, .error 1) := by unfold openG; rw [if_pos hbd]
    rw [e]
    have hE : ∀ {w : World}, SL W (.ob (DskO dp d) :: F) w → ∃ post, OpenQ dp (d, .error 1) (.tuple #[.pointer none, .int .i64 1]) post ∧ SL W (app post F) w := fun h => ⟨_, ⟨by decide, rfl, rfl⟩, h⟩
    (repeat (first | (with_reducible first | apply Q0 | refine Qa hS ?_ | refine Qb ?_ | refine Qc hS ?_ | refine Qd ?_) | ((with_reducible refine Qe hS ?_); clear hS; intro w hS; simp only [List.set] at hS) | ((with_reducible first | refine s_draw hS ?_ | refine Qf hS ?_); clear hS; intro w hS) | ((with_reducible first | refine s_new hS ?_ | refine Qg hS ?_); clear hS; intro b w hS)))
    refine s_ifp (fun h => hE hS) (fun h1 => ?_)
    (repeat (first | (with_reducible first | apply Q0 | refine Qa hS ?_ | refine Qb ?_ | refine Qc hS ?_ | refine Qd ?_) | ((with_reducible refine Qe hS ?_); clear hS; intro w hS; simp only [List.set] at hS) | ((with_reducible first | refine s_draw hS ?_ | refine Qf hS ?_); clear hS; intro w hS) | ((with_reducible first | refine s_new hS ?_ | refine Qg hS ?_); clear hS; intro b w hS)))
    refine s_ifp (fun h => hE hS) (fun h2 => ?_)
    (repeat (first | (with_reducible first | apply Q0 | refine Qa hS ?_ | refine Qb ?_ | refine Qc hS ?_ | refine Qd ?_) | ((with_reducible refine Qe hS ?_); clear hS; intro w hS; simp only [List.set] at hS) | ((with_reducible first | refine s_draw hS ?_ | refine Qf hS ?_); clear hS; intro w hS) | ((with_reducible first | refine s_new hS ?_ | refine Qg hS ?_); clear hS; intro b w hS)))
    refine s_ifp (fun h => hE hS) (fun h3 => ?_)
    (repeat (first | (with_reducible first | apply Q0 | refine Qa hS ?_ | refine Qb ?_ | refine Qc hS ?_ | refine Qd ?_) | ((with_reducible refine Qe hS ?_); clear hS; intro w hS; simp only [List.set] at hS) | ((with_reducible first | refine s_draw hS ?_ | refine Qf hS ?_); clear hS; intro w hS) | ((with_reducible first | refine s_new hS ?_ | refine Qg hS ?_); clear hS; intro b w hS)))
    refine s_ifp (fun h => hE hS) (fun h4 => by omega)
  · (repeat (first | (with_reducible first | apply Q0 | refine Qa hS ?_ | refine Qb ?_ | refine Qc hS ?_ | refine Qd ?_) | ((with_reducible refine Qe hS ?_); clear hS; intro w hS; simp only [List.set] at hS) | ((with_reducible first | refine s_draw hS ?_ | refine Qf hS ?_); clear hS; intro w hS) | ((with_reducible first | refine s_new hS ?_ | refine Qg hS ?_); clear hS; intro b w hS)))
    refine s_ifp (fun h => by omega) (fun _ => ?_)
    (repeat (first | (with_reducible first | apply Q0 | refine Qa hS ?_ | refine Qb ?_ | refine Qc hS ?_ | refine Qd ?_) | ((with_reducible refine Qe hS ?_); clear hS; intro w hS; simp only [List.set] at hS) | ((with_reducible first | refine s_draw hS ?_ | refine Qf hS ?_); clear hS; intro w hS) | ((with_reducible first | refine s_new hS ?_ | refine Qg hS ?_); clear hS; intro b w hS)))
    refine s_ifp (fun h => by omega) (fun _ => ?_)
    (repeat (first | (with_reducible first | apply Q0 | refine Qa hS ?_ | refine Qb ?_ | refine Qc hS ?_ | refine Qd ?_) | ((with_reducible refine Qe hS ?_); clear hS; intro w hS; simp only [List.set] at hS) | ((with_reducible first | refine s_draw hS ?_ | refine Qf hS ?_); clear hS; intro w hS) | ((with_reducible first | refine s_new hS ?_ | refine Qg hS ?_); clear hS; intro b w hS)))
    refine s_ifp (fun h => by omega) (fun _ => ?_)
    (repeat (first | (with_reducible first | apply Q0 | refine Qa hS ?_ | refine Qb ?_ | refine Qc hS ?_ | refine Qd ?_) | ((with_reducible refine Qe hS ?_); clear hS; intro w hS; simp only [List.set] at hS) | ((with_reducible first | refine s_draw hS ?_ | refine Qf hS ?_); clear hS; intro w hS) | ((with_reducible first | refine s_new hS ?_ | refine Qg hS ?_); clear hS; intro b w hS)))
    refine s_ifp (fun h => by omega) (fun _ => ?_)
    (repeat (first | (with_reducible first | apply Q0 | refine Qa hS ?_ | refine Qb ?_ | refine Qc hS ?_ | refine Qd ?_) | ((with_reducible refine Qe hS ?_); clear hS; intro w hS; simp only [List.set] at hS) | ((with_reducible first | refine s_draw hS ?_ | refine Qf hS ?_); clear hS; intro w hS) | ((with_reducible first | refine s_new hS ?_ | refine Qg hS ?_); clear hS; intro b w hS)))
    (apply s_call (downD_spec dp d) hS; exact Xp; clear hS)
    (rintro v post ⟨rfl, rfl⟩ w hS; (try simp only [app] at hS); (repeat (first | (with_reducible first | apply Q0 | refine Qa hS ?_ | refine Qb ?_ | refine Qc hS ?_ | refine Qd ?_) | ((with_reducible refine Qe hS ?_); clear hS; intro w hS; simp only [List.set] at hS) | ((with_reducible first | refine s_draw hS ?_ | refine Qf hS ?_); clear hS; intro w hS) | ((with_reducible first | refine s_new hS ?_ | refine Qg hS ?_); clear hS; intro b w hS))))
    refine s_if (fun ho => ?_) (fun ho => ?_)
    · have e : openG d base size = (d, .error 8) := by unfold openG; rw [if_neg hbd, if_pos ho]
      rw [e]
      exact ⟨_, ⟨by decide, rfl, rfl⟩, hS⟩
    · have eo : openG d base size = match loadsG d.R (idsG base d.R) none [] true with
        | none => (d, .error 3)
        | some (L, whole) => if (beginG L d (idsG base d.R) whole).2 ≠ 0 then ((beginG L d (idsG base d.R) whole).1, .error (beginG L d (idsG base d.R) whole).2) else ((beginG L d (idsG base d.R) whole).1, .ok ⟨L, base, size, none⟩) := by
        unfold openG; rw [if_neg hbd, if_neg (by rw [ho]; decide)]; rfl
      rw [eo]
      have hi : ∀ f ∈ idsG base d.R, base ≤ f ∧ f < base + 4096 := fun f hf => idsG_mem hf
      have hil := idsG_len base d.R
      (repeat (first | (with_reducible first | apply Q0 | refine Qa hS ?_ | refine Qb ?_ | refine Qc hS ?_ | refine Qd ?_) | ((with_reducible refine Qe hS ?_); clear hS; intro w hS; simp only [List.set] at hS) | ((with_reducible first | refine s_draw hS ?_ | refine Qf hS ?_); clear hS; intro w hS) | ((with_reducible first | refine s_new hS ?_ | refine Qg hS ?_); clear hS; intro b w hS)))
      refine ⟨_, rfl, s_new hS ?_⟩
      clear hS; intro lp w hS
      have hS := (TornO_none (v := .pointer none)).2 ⟨rfl, hS⟩
      have hS := OwnSo.nil0 (a := none) (t := 71) (sz := 4) hS
      have hS := HAll.nil (A := XSegO) hS
      have hS := SL.into hS (t := .pt lp (lcells (.slice none 0 0) (.pointer none) dp base size) 46 :: .ob (OwnSo (.slice none 0 0) 71 4 0 []) :: .ob (HAll XSegO []) :: .ob (TornO (.pointer none) none) :: .ob (DskO dp d) :: F) Xi
      have hS := (LogO.iff (g := ⟨[], base, size, none⟩)).2 ⟨_, _, [], rfl, hS⟩
      (apply s_call (filesL_spec lp dp ⟨[], base, size, none⟩ d (M := 0) (N := N) (by show 0 ≤ base; omega) (by show base ≤ 12288; omega) hok hR) hS; exact Xp; clear hS)
      rintro iv post rfl w hS; (try simp only [app] at hS)
      generalize hids : idsG base d.R = ids at *
      refine s_lenO hS (v := iv) (t := 3) (sz := 1) (n := ids.length) (cells := ids.map (Value.int .i64)) Xh ?_
      refine ⟨fun vs w => ∃ (wh : Bool) (i : Nat) (L : List PSeg), i ≤ ids.length ∧ vs = [.bool wh, .int .i64 i] ∧ loadsG d.R ids none [] true = loadsG d.R (ids.drop i) (if i = 0 then none else ids[i - 1]?) L wh ∧ (∀ s ∈ L, SegOk s (N + 100000)) ∧ L.length ≤ i ∧ (wh = true → 0 < i → L ≠ []) ∧ SL W (.ob (LogO lp dp ⟨L, base, size, none⟩) :: .ob (DskO dp d) :: .ob (OwnSl iv 3 1 ids.length (ids.map (Value.int .i64))) :: F) w,
        fun vs _ => match vs with | [_, .int _ i] => (ids.length - i).toNat | _ => 0, ⟨true, 0, [], by omega, rfl, rfl, by simp, by simp, fun _ h => by omega, SL.into hS Xi⟩, ?_⟩
      clear hS
      rintro v10 v43 w ⟨wh, i, L, hi1, hvs, hld, hLok, hLl, hwh, hS⟩
      cases hvs
      have hLO : (⟨L, base, size, none⟩ : PLog).Ok (N + 100000) := ⟨hLok, by show 0 ≤ base; omega, by show base ≤ 12288; omega, by show 64 ≤ size; omega, by show size ≤ 65536; omega, by show L.length ≤ _; omega⟩
      (repeat (first | (with_reducible first | apply Q0 | refine Qa hS ?_ | refine Qb ?_ | refine Qc hS ?_ | refine Qd ?_) | ((with_reducible refine Qe hS ?_); clear hS; intro w hS; simp only [List.set] at hS) | ((with_reducible first | refine s_draw hS ?_ | refine Qf hS ?_); clear hS; intro w hS) | ((with_reducible first | refine s_new hS ?_ | refine Qg hS ?_); clear hS; intro b w hS)))
      refine s_ifp (fun h1 => ?_) (fun h1 => ?_)
      · have hj : i < ids.length := by omega
        have hu : (ids.map (Value.int .i64))[i]? = some (.int .i64 ids[i]) := by simp [hj]
        have hfi := hi _ (List.getElem_mem hj)
        rw [List.drop_eq_getElem_cons hj, loadsG_cons] at hld
        refine s_get1O hS (v := iv) (t := 3) Xh hj hu ?_
        (repeat (first | (with_reducible first | apply Q0 | refine Qa hS ?_ | refine Qb ?_ | refine Qc hS ?_ | refine Qd ?_) | ((with_reducible refine Qe hS ?_); clear hS; intro w hS; simp only [List.set] at hS) | ((with_reducible first | refine s_draw hS ?_ | refine Qf hS ?_); clear hS; intro w hS) | ((with_reducible first | refine s_new hS ?_ | refine Qg hS ?_); clear hS; intro b w hS)))
        refine s_lenO hS (v := iv) (t := 3) (sz := 1) (n := ids.length) (cells := ids.map (Value.int .i64)) Xh ?_
        (repeat (first | (with_reducible first | apply Q0 | refine Qa hS ?_ | refine Qb ?_ | refine Qc hS ?_ | refine Qd ?_) | ((with_reducible refine Qe hS ?_); clear hS; intro w hS; simp only [List.set] at hS) | ((with_reducible first | refine s_draw hS ?_ | refine Qf hS ?_); clear hS; intro w hS) | ((with_reducible first | refine s_new hS ?_ | refine Qg hS ?_); clear hS; intro b w hS)))
        have hlast : decide (((i : Nat) : Int) = ((ids.length : Nat) : Int) - 1) = (ids.drop (i + 1)).isEmpty := by
          rw [Bool.eq_iff_iff, decide_eq_true_iff, List.isEmpty_iff, List.drop_eq_nil_iff]
          omega
        rw [hlast]
        obtain ⟨k1, k2⟩ := loadG_ok (L := L) (f := ids[i]) (last := (ids.drop (i + 1)).isEmpty) (M := N + 100000) hok.len (by omega) (by omega) (by omega) hLok
        have hnn : (loadG L d.R ids[i] (ids.drop (i + 1)).isEmpty).1.1 = true → (loadG L d.R ids[i] (ids.drop (i + 1)).isEmpty).1.2 = true → (loadG L d.R ids[i] (ids.drop (i + 1)).isEmpty).2 ≠ [] := by
          unfold loadG
          simp only
          split
          · intro h; cases h
          · split
            · intro _ h; cases h
            · intro _ _; simp
        (apply s_call (loadL_spec lp dp ⟨L, base, size, none⟩ d ids[i] (ids.drop (i + 1)).isEmpty hLO (by omega) hok (by omega)) hS; exact Xp; clear hS)
        (rintro v post ⟨rfl, rfl⟩ w hS; (try simp only [app] at hS); (repeat (first | (with_reducible first | apply Q0 | refine Qa hS ?_ | refine Qb ?_ | refine Qc hS ?_ | refine Qd ?_) | ((with_reducible refine Qe hS ?_); clear hS; intro w hS; simp only [List.set] at hS) | ((with_reducible first | refine s_draw hS ?_ | refine Qf hS ?_); clear hS; intro w hS) | ((with_reducible first | refine s_new hS ?_ | refine Qg hS ?_); clear hS; intro b w hS))))
        generalize hLG : loadG L d.R ids[i] (ids.drop (i + 1)).isEmpty = y at *
        obtain ⟨⟨is, ok⟩, L2⟩ := y
        simp only at hS hld k1 k2 hnn ⊢
        cases ok with
        | false =>
          refine s_ift ?_
          rw [if_pos rfl] at hld
          rw [hld]
          exact ⟨_, ⟨by decide, rfl, rfl⟩, SL.into hS Xi⟩
        | true =>
          refine s_iff ?_
          rw [if_neg (by decide)] at hld
          have hnext : ∀ {w : World}, (¬ gapG (if i = 0 then none else ids[i - 1]?) ids[i] = true) → SL W (.ob (LogO lp dp ⟨L2, base, size, none⟩) :: .ob (DskO dp d) :: .ob (OwnSl iv 3 1 ids.length (ids.map (Value.int .i64))) :: F) w →
              ∃ (wh : Bool) (i' : Nat) (L : List PSeg), i' ≤ ids.length ∧ [Value.bool is, Value.int .i64 ((i + 1 : Nat) : Int)] = [.bool wh, .int .i64 i'] ∧ loadsG d.R ids none [] true = loadsG d.R (ids.drop i') (if i' = 0 then none else ids[i' - 1]?) L wh ∧ (∀ s ∈ L, SegOk s (N + 100000)) ∧ L.length ≤ i' ∧ (wh = true → 0 < i' → L ≠ []) ∧ SL W (.ob (LogO lp dp ⟨L, base, size, none⟩) :: .ob (DskO dp d) :: .ob (OwnSl iv 3 1 ids.length (ids.map (Value.int .i64))) :: F) w := by
            intro w hp hS
            refine ⟨is, i + 1, L2, by omega, rfl, ?_, k1, by omega, fun h _ => hnn h rfl, hS⟩
            rw [if_neg hp] at hld
            rw [hld, if_neg (by omega), Nat.add_sub_cancel, List.getElem?_eq_getElem hj]
          (repeat (first | (with_reducible first | apply Q0 | refine Qa hS ?_ | refine Qb ?_ | refine Qc hS ?_ | refine Qd ?_) | ((with_reducible refine Qe hS ?_); clear hS; intro w hS; simp only [List.set] at hS) | ((with_reducible first | refine s_draw hS ?_ | refine Qf hS ?_); clear hS; intro w hS) | ((with_reducible first | refine s_new hS ?_ | refine Qg hS ?_); clear hS; intro b w hS)))
          refine s_ifp (fun h2 => ?_) (fun h2 => ?_)
          · have hj0 : i - 1 < ids.length := by omega
            have hf0 := hi _ (List.getElem_mem hj0)
            (repeat (first | (with_reducible first | apply Q0 | refine Qa hS ?_ | refine Qb ?_ | refine Qc hS ?_ | refine Qd ?_) | ((with_reducible refine Qe hS ?_); clear hS; intro w hS; simp only [List.set] at hS) | ((with_reducible first | refine s_draw hS ?_ | refine Qf hS ?_); clear hS; intro w hS) | ((with_reducible first | refine s_new hS ?_ | refine Qg hS ?_); clear hS; intro b w hS)))
            have e : ((i : Nat) : Int) - 1 = ((i - 1 : Nat) : Int) := by omega
            rw [e]
            have hu0 : (ids.map (Value.int .i64))[i - 1]? = some (.int .i64 (ids[i - 1]'hj0)) := by simp [hj0]
            refine s_get1O hS (v := iv) (t := 3) Xh hj0 hu0 ?_
            have hpv : gapG (if i = 0 then none else ids[i - 1]?) ids[i] = decide (ids[i] ≠ (ids[i - 1]'hj0) + 1) := by
              rw [if_neg (by omega), List.getElem?_eq_getElem hj0]; rfl
            (repeat (first | (with_reducible first | apply Q0 | refine Qa hS ?_ | refine Qb ?_ | refine Qc hS ?_ | refine Qd ?_) | ((with_reducible refine Qe hS ?_); clear hS; intro w hS; simp only [List.set] at hS) | ((with_reducible first | refine s_draw hS ?_ | refine Qf hS ?_); clear hS; intro w hS) | ((with_reducible first | refine s_new hS ?_ | refine Qg hS ?_); clear hS; intro b w hS)))
            refine s_ifp (fun h3 => ?_) (fun h3 => ?_)
            · rw [if_pos (by rw [hpv]; simpa using h3)] at hld
              rw [hld]
              exact ⟨_, ⟨by decide, rfl, rfl⟩, SL.into hS Xi⟩
            · (repeat (first | (with_reducible first | apply Q0 | refine Qa hS ?_ | refine Qb ?_ | refine Qc hS ?_ | refine Qd ?_) | ((with_reducible refine Qe hS ?_); clear hS; intro w hS; simp only [List.set] at hS) | ((with_reducible first | refine s_draw hS ?_ | refine Qf hS ?_); clear hS; intro w hS) | ((with_reducible first | refine s_new hS ?_ | refine Qg hS ?_); clear hS; intro b w hS)))
              exact ⟨hnext (by rw [hpv]; simpa using h3) (SL.into hS Xi), by dsimp only; omega⟩
          · (repeat (first | (with_reducible first | apply Q0 | refine Qa hS ?_ | refine Qb ?_ | refine Qc hS ?_ | refine Qd ?_) | ((with_reducible refine Qe hS ?_); clear hS; intro w hS; simp only [List.set] at hS) | ((with_reducible first | refine s_draw hS ?_ | refine Qf hS ?_); clear hS; intro w hS) | ((with_reducible first | refine s_new hS ?_ | refine Qg hS ?_); clear hS; intro b w hS)))
            have hi0 : i = 0 := by omega
            exact ⟨hnext (by rw [if_pos hi0]; simp [gapG]) (SL.into hS Xi), by dsimp only; omega⟩
      · have hie : i = ids.length := by omega
        rw [hie, List.drop_length] at hld
        rw [hld]
        simp only [loadsG]
        (repeat (first | (with_reducible first | apply Q0 | refine Qa hS ?_ | refine Qb ?_ | refine Qc hS ?_ | refine Qd ?_) | ((with_reducible refine Qe hS ?_); clear hS; intro w hS; simp only [List.set] at hS) | ((with_reducible first | refine s_draw hS ?_ | refine Qf hS ?_); clear hS; intro w hS) | ((with_reducible first | refine s_new hS ?_ | refine Qg hS ?_); clear hS; intro b w hS)))
        have hbo := beginG_ok (L := L) (ids := ids) (wh := wh) hok
        (apply s_call (beginL_spec lp dp ⟨L, base, size, none⟩ d iv ids wh hLO (by omega) hok (by omega) hops (fun h hne => hwh h (by rw [hie]; exact List.length_pos_iff.2 hne)) (by omega)) hS; exact Xp; clear hS)
        (rintro v post ⟨rfl, rfl⟩ w hS; (try simp only [app] at hS); (repeat (first | (with_reducible first | apply Q0 | refine Qa hS ?_ | refine Qb ?_ | refine Qc hS ?_ | refine Qd ?_) | ((with_reducible refine Qe hS ?_); clear hS; intro w hS; simp only [List.set] at hS) | ((with_reducible first | refine s_draw hS ?_ | refine Qf hS ?_); clear hS; intro w hS) | ((with_reducible first | refine s_new hS ?_ | refine Qg hS ?_); clear hS; intro b w hS))))
        simp only at hS ⊢
        refine s_ifp (fun h2 => ?_) (fun h2 => ?_)
        · rw [if_pos h2]
          exact ⟨_, ⟨h2, rfl, rfl⟩, SL.into hS Xi⟩
        · rw [if_neg h2]
          exact ⟨_, ⟨lp, rfl, rfl⟩, SL.into hS Xi⟩
end Go.Proofs.Ytilgfgghjdomcaa
namespace Go.Proofs.Ytilgfgghjdomcaa
set_option linter.unusedVariables false
set_option maxRecDepth 100000
open Go.RowKit

section
variable (lp dp : Nat) (g : PLog) {M : Nat} (hg : g.Ok M) (hM : M ≤ 1000000000000)
include hg hM
theorem headO_spec : Spec Try.prog 16 [.pointer (some ⟨lp, 0, none⟩)] [.ob (LogO lp dp g)] (Gives (.int .i64 (headG g.segs)) [.ob (LogO lp dp g)]) := by
  intro W F w hS
  obtain ⟨sv, tv, xs, hx, hS⟩ := LogO.iff.1 hS
  obtain ⟨h1, h2, _, _⟩ := hg.xs hx
  refine s_call (headL_spec lp (lcells sv tv dp g.base g.size) 46 sv xs rfl h1 (by omega) (by omega)) hS Xp ?_
  rintro v post ⟨rfl, rfl⟩ w hS
  (try simp only [app] at hS)
  rw [hx]
  exact ⟨_, ⟨rfl, rfl⟩, LogO.iff.2 ⟨sv, tv, xs, hx, SL.into hS Xi⟩⟩
theorem lowO_spec : Spec Try.prog 22 [.pointer (some ⟨lp, 0, none⟩)] [.ob (LogO lp dp g)] (Gives (.int .i64 (lowG g.segs)) [.ob (LogO lp dp g)]) := by
  intro W F w hS
  obtain ⟨sv, tv, xs, hx, hS⟩ := LogO.iff.1 hS
  obtain ⟨h1, h2, _, _⟩ := hg.xs hx
  refine s_call (lowL_spec lp (lcells sv tv dp g.base g.size) 46 sv xs rfl (by omega)) hS Xp ?_
  rintro v post ⟨rfl, rfl⟩ w hS
  (try simp only [app] at hS)
  rw [hx]
  exact ⟨_, ⟨rfl, rfl⟩, LogO.iff.2 ⟨sv, tv, xs, hx, SL.into hS Xi⟩⟩
theorem segsO_spec : Spec Try.prog 20 [.pointer (some ⟨lp, 0, none⟩)] [.ob (LogO lp dp g)] (Gives (.int .i64 g.segs.length) [.ob (LogO lp dp g)]) := by
  intro W F w hS
  obtain ⟨sv, tv, xs, hx, hS⟩ := LogO.iff.1 hS
  have _h1 := hg
  have _h2 := hM
  refine s_call (segmentsL_spec lp (lcells sv tv dp g.base g.size) 46 sv xs rfl) hS Xp ?_
  rintro v post ⟨rfl, rfl⟩ w hS
  (try simp only [app] at hS)
  have e : xs.length = g.segs.length := by rw [← hx, List.length_map]
  rw [e]
  exact ⟨_, ⟨rfl, rfl⟩, LogO.iff.2 ⟨sv, tv, xs, hx, SL.into hS Xi⟩⟩
theorem readO_spec (n : Int) (hn : -9000000000000000000 ≤ n ∧ n ≤ 9000000000000000000) : Spec Try.prog 17 [.pointer (some ⟨lp, 0, none⟩), .int .i64 n] [.ob (LogO lp dp g)] (ReadLQ [.ob (LogO lp dp g)] (readG g.segs n)) := by
  intro W F w hS
  obtain ⟨sv, tv, xs, hx, hS⟩ := LogO.iff.1 hS
  obtain ⟨h1, h2, _, _⟩ := hg.xs hx
  refine s_call (readL_spec lp (lcells sv tv dp g.base g.size) 46 sv xs n rfl h1 (by omega) (by omega) hn) hS Xp ?_
  intro r post hQ w hS
  rw [hx] at hQ
  cases hr : readG g.segs n with
  | none =>
    rw [hr] at hQ
    obtain ⟨rfl, rfl⟩ := hQ
    (try simp only [app] at hS)
    exact ⟨_, ⟨rfl, rfl⟩, LogO.iff.2 ⟨sv, tv, xs, hx, SL.into hS Xi⟩⟩
  | some b =>
    rw [hr] at hQ
    obtain ⟨u, rfl, rfl⟩ := hQ
    (try simp only [app] at hS)
    have hS := (LogO.iff (g := g)).2 ⟨sv, tv, xs, hx, SL.into hS (t := .pt lp (lcells sv tv dp g.base g.size) 46 :: RowX sv xs :: .ob (HAll XSegO xs) :: .ob (TornO tv g.torn) :: .ob (OwnSl u 5 1 b.length (b.map u8c)) :: F) Xi⟩
    exact ⟨_, ⟨u, rfl, rfl⟩, SL.into hS Xi⟩
end
theorem Rdb.isSl {W w : World} {l : List Chunk} {X : Chunk} {v : Value} {b : List UInt8} (h : Rdb X v b) (hS : SL W l w) (m : Has X l) : ∃ a n c, v = .slice a n c := by
  obtain ⟨a, c, e, _⟩ := h.sl hS m; exact ⟨a, _, c, e⟩
theorem bytesB_spec (X Y : Chunk) (v1 v2 : Value) (b1 b2 : List UInt8) (h1 : Rdb X v1 b1) (h2 : Rdb Y v2 b2) :
    Spec Try.prog 18 [v1, v2] [X, Y] (Gives (.bool (decide (b1 = b2))) [X, Y]) := by
  intro W F w hS; apply vc18; unfold Vc18; (try simp only [app] at hS)
  refine s_bytesStr (h1.isSl hS Xh) (h1.src hS Xh) Try.underlying23 Try.underlying9 Try.underlying5 ?_
  refine s_bytesStr (h2.isSl hS Xh) (h2.src hS Xh) Try.underlying23 Try.underlying9 Try.underlying5 ?_
  (repeat (first | (with_reducible first | apply Q0 | refine Qa hS ?_ | refine Qb ?_ | refine Qc hS ?_ | refine Qd ?_) | ((with_reducible refine Qe hS ?_); clear hS; intro w hS; simp only [List.set] at hS) | ((with_reducible first | refine s_draw hS ?_ | refine Qf hS ?_); clear hS; intro w hS) | ((with_reducible first | refine s_new hS ?_ | refine Qg hS ?_); clear hS; intro b w hS)))
  have e : decide (bstr b1 = bstr b2) = decide (b1 = b2) := by congr 1; exact propext bstr_inj
  rw [e]
  (exact ⟨_, ⟨rfl, rfl⟩, SL.into hS Xi⟩)
/-! Rows of rows of bytes, in memory that is not written any more. -/
def RdRows (H : Heap) (v : Value) (ls : List (List UInt8)) : Prop := ∃ vs : List Value, vs.length = ls.length ∧ RdSl H 1 v ls.length vs ∧ ∀ i (h : i < ls.length) (h' : i < vs.length), RdSl H 1 vs[i] ls[i].length (ls[i].map u8c)
theorem RdRows.mono {H H' : Heap} (hh : H.le H') {v : Value} {ls : List (List UInt8)} (h : RdRows H v ls) : RdRows H' v ls := by
  obtain ⟨vs, h1, h2, h3⟩ := h
  exact ⟨vs, h1, h2.mono hh, fun i a b => (h3 i a b).mono hh⟩
theorem s_lenRR {H : Heap} {v : Value} {ls : List (List UInt8)} {K : Value → Prop} (h : RdRows H v ls) (k : K (.int .i64 ls.length)) : HLenS v K := by
  obtain ⟨vs, _, h2, _⟩ := h
  exact s_lenR h2 k
theorem s_getRR {W w : World} {l : List Chunk} {H : Heap} {v : Value} {ls : List (List UInt8)} {j : Nat} {k : IntKind} {K : Value → Prop} (hS : SL W l w) (hm : Has (.mem H) l) (h : RdRows H v ls) (hj : j < ls.length)
    (hK : ∀ u, RdSl H 1 u ls[j].length (ls[j].map u8c) → K u) : HIdx 1 v (.int k (j : Int)) fun p => HLd p w K := by
  obtain ⟨vs, h1, h2, h3⟩ := h
  exact s_get1 hS hm h2 hj (List.getElem?_eq_getElem (by omega)) (hK _ (h3 j hj (by omega)))
/-- One element, read again behind a call. -/
theorem s_getRR2 {W w : World} {l : List Chunk} {H : Heap} {v : Value} {ls : List (List UInt8)} {j : Nat} {k : IntKind} {K : Value → Value → Prop} (hS : SL W l w) (hm : Has (.mem H) l) (h : RdRows H v ls) (hj : j < ls.length)
    (hK : ∀ p u, RdSl H 1 u ls[j].length (ls[j].map u8c) → (∀ w' l', SL W l' w' → ∀ H', H.le H' → Has (.mem H') l' → ∀ K' : Value → Prop, K' u → HLd p w' K') → K p u) : HIdx 1 v (.int k (j : Int)) fun p => HLd p w (K p) := by
  obtain ⟨vs, h1, h2, h3⟩ := h
  refine s_idxR h2 hj fun b o hb => ?_
  have hu : vs[j * 1 + 0]? = some (vs[j]'(by omega)) := by rw [Nat.mul_one, Nat.add_zero, List.getElem?_eq_getElem]
  have hc := hb 0 _ (by omega) hu
  refine s_ldm hS hm hc (hK _ _ (h3 j hj (by omega)) fun w' l' hS' H' hh hm' K' k' => s_ldm hS' hm' (Heap.cell_le hh hc) k')
end Go.Proofs.Ytilgfgghjdomcaa
namespace Go.Proofs.Ytilgfgghjdomcaa
set_option linter.unusedVariables false
set_option maxRecDepth 100000
open Go.RowKit

def szOf (n : Int) : Int := ([64, 65, 100, 200, 1000, 65536] : List Int).getD (md n 6) 64
theorem szOf_le (n : Int) : 64 ≤ szOf n ∧ szOf n ≤ 65536 := by
  unfold szOf
  have h := md_lt n 6 (by decide)
  generalize md n 6 = k at *
  match k, h with
  | 0, _ => decide
  | 1, _ => decide
  | 2, _ => decide
  | 3, _ => decide
  | 4, _ => decide
  | 5, _ => decide
theorem size_spec6 (n : Int) : Spec Try.prog 9 [.int .i64 n] [] (Gives (.int .i64 (szOf n)) []) := by
  intro W F w hS; apply vc9; unfold Vc9; (try simp only [app] at hS)
  (repeat (first | (with_reducible first | apply Q0 | refine Qa hS ?_ | refine Qb ?_ | refine Qc hS ?_ | refine Qd ?_) | ((with_reducible refine Qe hS ?_); clear hS; intro w hS; simp only [List.set] at hS) | ((with_reducible first | refine s_draw hS ?_ | refine Qf hS ?_); clear hS; intro w hS) | ((with_reducible first | refine s_new hS ?_ | refine Qg hS ?_); clear hS; intro b w hS)))
  (apply s_call (mod_spec n 6 (by decide) (by decide)) hS; exact Xp; clear hS)
  (rintro v post ⟨rfl, rfl⟩ w hS; (try simp only [app] at hS); (repeat (first | (with_reducible first | apply Q0 | refine Qa hS ?_ | refine Qb ?_ | refine Qc hS ?_ | refine Qd ?_) | ((with_reducible refine Qe hS ?_); clear hS; intro w hS; simp only [List.set] at hS) | ((with_reducible first | refine s_draw hS ?_ | refine Qf hS ?_); clear hS; intro w hS) | ((with_reducible first | refine s_new hS ?_ | refine Qg hS ?_); clear hS; intro b w hS))))
  have h := md_lt n 6 (by decide)
  have hu : (([64, 65, 100, 200, 1000, 65536] : List Int).map (Value.int .i64))[md n 6]? = some (.int .i64 (szOf n)) := by
    unfold szOf
    rw [List.getElem?_map, List.getD_eq_getElem?_getD, List.getElem?_eq_getElem (by simpa using h)]; rfl
  refine s_idx h ?_
  rw [Nat.zero_add, Nat.mul_one]
  refine s_ld hS Xh hu ?_
  exact ⟨_, ⟨rfl, rfl⟩, SL.into hS Xi⟩
theorem open00 {base size : Int} (b0 : 0 ≤ base) (b1 : base ≤ 12288) (s0 : 64 ≤ size) (s1 : size ≤ 65536) : openG s00 base size = (s00, .ok ⟨[], base, size, none⟩) :=
  open_chain (L := []) (f := base) (n := 1) trivial rfl rfl b0 b1 s0 s1 (Int.le_refl _) (by simp; omega) (by decide) (by simp [entsG])
theorem linv00 {base size : Int} (b0 : 0 ≤ base) (b1 : base ≤ 12288) (s0 : 64 ≤ size) (s1 : size ≤ 65536) : LInv ⟨[], base, size, none⟩ s00 base 1 [] :=
  ⟨trivial, rfl, rfl, fun _ => ⟨rfl, rfl⟩, Int.le_refl _, b0, b1, s0, s1, by decide, by show base + ((0 : Nat) : Int) + 2 ≤ base + 4096; omega, rfl, rfl⟩
theorem ok00 {base size : Int} (b0 : 0 ≤ base) (b1 : base ≤ 12288) (s0 : 64 ≤ size) (s1 : size ≤ 65536) : (⟨[], base, size, none⟩ : PLog).Ok 0 := ⟨by simp, b0, b1, s0, s1, Nat.le_refl _⟩
theorem full_len {L : List PSeg} (h : ∀ s ∈ L, s.l ≠ []) : L.length ≤ (entsG L).length := by
  induction L with
  | nil => simp
  | cons a A ih =>
    have h0 : a.l.length ≠ 0 := fun e => h a (.head _) (List.eq_nil_of_length_eq_zero e)
    have := ih fun s hs => h s (.tail _ hs)
    rw [entsG_cons, List.length_append, List.length_cons]; omega
theorem awake06_spec : Spec Try.prog 10 [] [] (Gives (.bool true) []) := by
  intro W F w hS; apply vc10; unfold Vc10; (try simp only [app] at hS)
  (apply s_call (newD_spec) hS; exact Xp; clear hS)
  rintro v post ⟨dp, rfl, rfl⟩ w hS
  (try simp only [app] at hS)
  (apply s_call (openL_spec dp s00 16 64 (s00_ok 0) (by decide) (by decide) (by decide)) hS; exact Xp; clear hS)
  rintro r post hQ w hS
  rw [open00 (by decide) (by decide) (by decide) (by decide)] at hQ
  obtain ⟨lp, rfl, rfl⟩ := hQ
  (try simp only [app] at hS)
  have hi := linv00 (base := 16) (size := 64) (by decide) (by decide) (by decide) (by decide)
  have hok := ok00 (base := 16) (size := 64) (by decide) (by decide) (by decide) (by decide)
  (repeat (first | (with_reducible first | apply Q0 | refine Qa hS ?_ | refine Qb ?_ | refine Qc hS ?_ | refine Qd ?_) | ((with_reducible refine Qe hS ?_); clear hS; intro w hS; simp only [List.set] at hS) | ((with_reducible first | refine s_draw hS ?_ | refine Qf hS ?_); clear hS; intro w hS) | ((with_reducible first | refine s_new hS ?_ | refine Qg hS ?_); clear hS; intro b w hS)))
  refine s_iff ?_
  (repeat (first | (with_reducible first | apply Q0 | refine Qa hS ?_ | refine Qb ?_ | refine Qc hS ?_ | refine Qd ?_) | ((with_reducible refine Qe hS ?_); clear hS; intro w hS; simp only [List.set] at hS) | ((with_reducible first | refine s_draw hS ?_ | refine Qf hS ?_); clear hS; intro w hS) | ((with_reducible first | refine s_new hS ?_ | refine Qg hS ?_); clear hS; intro b w hS)))
  refine s_iff ?_
  (repeat (first | (with_reducible first | apply Q0 | refine Qa hS ?_ | refine Qb ?_ | refine Qc hS ?_ | refine Qd ?_) | ((with_reducible refine Qe hS ?_); clear hS; intro w hS; simp only [List.set] at hS) | ((with_reducible first | refine s_draw hS ?_ | refine Qf hS ?_); clear hS; intro w hS) | ((with_reducible first | refine s_new hS ?_ | refine Qg hS ?_); clear hS; intro b w hS)))
  refine s_ifp (fun h => absurd rfl h) (fun _ => ?_)
  (repeat (first | (with_reducible first | apply Q0 | refine Qa hS ?_ | refine Qb ?_ | refine Qc hS ?_ | refine Qd ?_) | ((with_reducible refine Qe hS ?_); clear hS; intro w hS; simp only [List.set] at hS) | ((with_reducible first | refine s_draw hS ?_ | refine Qf hS ?_); clear hS; intro w hS) | ((with_reducible first | refine s_new hS ?_ | refine Qg hS ?_); clear hS; intro b w hS)))
  (apply s_call (lowO_spec lp dp _ hok (by decide)) hS; exact Xp; clear hS)
  (rintro v post ⟨rfl, rfl⟩ w hS; (try simp only [app] at hS); (repeat (first | (with_reducible first | apply Q0 | refine Qa hS ?_ | refine Qb ?_ | refine Qc hS ?_ | refine Qd ?_) | ((with_reducible refine Qe hS ?_); clear hS; intro w hS; simp only [List.set] at hS) | ((with_reducible first | refine s_draw hS ?_ | refine Qf hS ?_); clear hS; intro w hS) | ((with_reducible first | refine s_new hS ?_ | refine Qg hS ?_); clear hS; intro b w hS))))
  refine s_ifp (fun h => absurd rfl h) (fun _ => ?_)
  (repeat (first | (with_reducible first | apply Q0 | refine Qa hS ?_ | refine Qb ?_ | refine Qc hS ?_ | refine Qd ?_) | ((with_reducible refine Qe hS ?_); clear hS; intro w hS; simp only [List.set] at hS) | ((with_reducible first | refine s_draw hS ?_ | refine Qf hS ?_); clear hS; intro w hS) | ((with_reducible first | refine s_new hS ?_ | refine Qg hS ?_); clear hS; intro b w hS)))
  (apply s_call (headO_spec lp dp _ hok (by decide)) hS; exact Xp; clear hS)
  (rintro v post ⟨rfl, rfl⟩ w hS; (try simp only [app] at hS); (repeat (first | (with_reducible first | apply Q0 | refine Qa hS ?_ | refine Qb ?_ | refine Qc hS ?_ | refine Qd ?_) | ((with_reducible refine Qe hS ?_); clear hS; intro w hS; simp only [List.set] at hS) | ((with_reducible first | refine s_draw hS ?_ | refine Qf hS ?_); clear hS; intro w hS) | ((with_reducible first | refine s_new hS ?_ | refine Qg hS ?_); clear hS; intro b w hS))))
  refine s_ifp (fun h => absurd rfl h) (fun _ => ?_)
  (repeat (first | (with_reducible first | apply Q0 | refine Qa hS ?_ | refine Qb ?_ | refine Qc hS ?_ | refine Qd ?_) | ((with_reducible refine Qe hS ?_); clear hS; intro w hS; simp only [List.set] at hS) | ((with_reducible first | refine s_draw hS ?_ | refine Qf hS ?_); clear hS; intro w hS) | ((with_reducible first | refine s_new hS ?_ | refine Qg hS ?_); clear hS; intro b w hS)))
  refine s_cvSame hS Xu Try.underlying23 Try.underlying5 ?_
  clear hS; intro w hS
  have hS := OwnSl.full (n := 1) (sz := 1) (cells := ([97] : List UInt8).map u8c) (b := b) (t := 5) rfl (SL.into hS (t := .pt b [.int .u8 97] 5 :: .ob (LogO lp dp ⟨[], 16, 64, none⟩) :: .ob (DskO dp s00) :: F) Xi)
  have hrb : Rdb (.ob (OwnSl (.slice (some ⟨b, 0, none⟩) 1 1) 5 1 1 (([97] : List UInt8).map u8c))) (.slice (some ⟨b, 0, none⟩) 1 1) [97] := Rdb.own (b := [97])
  (apply s_call (appendL_spec (.ob (OwnSl (.slice (some ⟨b, 0, none⟩) 1 1) 5 1 1 (([97] : List UInt8).map u8c))) lp dp ⟨[], 16, 64, none⟩ s00 _ [97] hrb (by decide) hok (by decide) (s00_ok 0) (by decide) (by decide)) hS; exact Xp; clear hS)
  (rintro v post ⟨rfl, rfl⟩ w hS; (try simp only [app] at hS); (repeat (first | (with_reducible first | apply Q0 | refine Qa hS ?_ | refine Qb ?_ | refine Qc hS ?_ | refine Qd ?_) | ((with_reducible refine Qe hS ?_); clear hS; intro w hS; simp only [List.set] at hS) | ((with_reducible first | refine s_draw hS ?_ | refine Qf hS ?_); clear hS; intro w hS) | ((with_reducible first | refine s_new hS ?_ | refine Qg hS ?_); clear hS; intro b w hS))))
  have hgo := appendG_gok (d := s00) hok [97]
  rcases append_live hi (p := [97]) (by decide) (by decide) (by decide) (by decide) with ⟨g, d, e, hi2, ho, _, _, _, _, hne, _, _⟩ | ⟨d, _, _, _, _, h0⟩
  · rw [e] at hS hgo ⊢
    simp only at hS hgo ⊢
    (apply s_call (readO_spec lp dp g hgo (by decide) 1 (by decide)) hS; exact Xp; clear hS)
    rintro r post hQ w hS
    rw [hi2.chain.read, hi2.ents] at hQ
    obtain ⟨u, rfl, rfl⟩ := hQ
    (try simp only [app] at hS)
    (repeat (first | (with_reducible first | apply Q0 | refine Qa hS ?_ | refine Qb ?_ | refine Qc hS ?_ | refine Qd ?_) | ((with_reducible refine Qe hS ?_); clear hS; intro w hS; simp only [List.set] at hS) | ((with_reducible first | refine s_draw hS ?_ | refine Qf hS ?_); clear hS; intro w hS) | ((with_reducible first | refine s_new hS ?_ | refine Qg hS ?_); clear hS; intro b w hS)))
    refine s_ifp (fun _ => ?_) (fun h => absurd rfl h)
    (repeat (first | (with_reducible first | apply Q0 | refine Qa hS ?_ | refine Qb ?_ | refine Qc hS ?_ | refine Qd ?_) | ((with_reducible refine Qe hS ?_); clear hS; intro w hS; simp only [List.set] at hS) | ((with_reducible first | refine s_draw hS ?_ | refine Qf hS ?_); clear hS; intro w hS) | ((with_reducible first | refine s_new hS ?_ | refine Qg hS ?_); clear hS; intro b w hS)))
    refine s_ifp (fun _ => ?_) (fun h => absurd rfl h)
    (repeat (first | (with_reducible first | apply Q0 | refine Qa hS ?_ | refine Qb ?_ | refine Qc hS ?_ | refine Qd ?_) | ((with_reducible refine Qe hS ?_); clear hS; intro w hS; simp only [List.set] at hS) | ((with_reducible first | refine s_draw hS ?_ | refine Qf hS ?_); clear hS; intro w hS) | ((with_reducible first | refine s_new hS ?_ | refine Qg hS ?_); clear hS; intro b w hS)))
    refine s_ifp (fun _ => ?_) (fun h => absurd rfl h)
    have hrd : Rdb (.ob (OwnSl u 5 1 ([97] : List UInt8).length (([97] : List UInt8).map u8c))) u [97] := Rdb.own
    refine s_bytesStr (bs := [97]) (hrd.isSl hS Xh) (hrd.src hS Xh) Try.underlying23 Try.underlying9 Try.underlying5 ?_
    (repeat (first | (with_reducible first | apply Q0 | refine Qa hS ?_ | refine Qb ?_ | refine Qc hS ?_ | refine Qd ?_) | ((with_reducible refine Qe hS ?_); clear hS; intro w hS; simp only [List.set] at hS) | ((with_reducible first | refine s_draw hS ?_ | refine Qf hS ?_); clear hS; intro w hS) | ((with_reducible first | refine s_new hS ?_ | refine Qg hS ?_); clear hS; intro b w hS)))
    refine s_ifp (fun _ => ?_) (fun h => absurd rfl h)
    (repeat (first | (with_reducible first | apply Q0 | refine Qa hS ?_ | refine Qb ?_ | refine Qc hS ?_ | refine Qd ?_) | ((with_reducible refine Qe hS ?_); clear hS; intro w hS; simp only [List.set] at hS) | ((with_reducible first | refine s_draw hS ?_ | refine Qf hS ?_); clear hS; intro w hS) | ((with_reducible first | refine s_new hS ?_ | refine Qg hS ?_); clear hS; intro b w hS)))
    (apply s_call (segsO_spec lp dp g hgo (by decide)) hS; exact Xp; clear hS)
    (rintro v post ⟨rfl, rfl⟩ w hS; (try simp only [app] at hS); (repeat (first | (with_reducible first | apply Q0 | refine Qa hS ?_ | refine Qb ?_ | refine Qc hS ?_ | refine Qd ?_) | ((with_reducible refine Qe hS ?_); clear hS; intro w hS; simp only [List.set] at hS) | ((with_reducible first | refine s_draw hS ?_ | refine Qf hS ?_); clear hS; intro w hS) | ((with_reducible first | refine s_new hS ?_ | refine Qg hS ?_); clear hS; intro b w hS))))
    have hl1 := full_len hne
    have hl2 : g.segs ≠ [] := fun e => by have := hi2.ents; rw [e] at this; cases this
    have hl3 := List.length_pos_iff.2 hl2
    rw [hi2.ents] at hl1
    have hl4 : g.segs.length = 1 := by simp at hl1; omega
    rw [hl4]
    refine s_ifp (fun _ => ?_) (fun h => absurd rfl h)
    (repeat (first | (with_reducible first | apply Q0 | refine Qa hS ?_ | refine Qb ?_ | refine Qc hS ?_ | refine Qd ?_) | ((with_reducible refine Qe hS ?_); clear hS; intro w hS; simp only [List.set] at hS) | ((with_reducible first | refine s_draw hS ?_ | refine Qf hS ?_); clear hS; intro w hS) | ((with_reducible first | refine s_new hS ?_ | refine Qg hS ?_); clear hS; intro b w hS)))
    (apply s_call (opsD_spec dp d) hS; exact Xp; clear hS)
    (rintro v post ⟨rfl, rfl⟩ w hS; (try simp only [app] at hS); (repeat (first | (with_reducible first | apply Q0 | refine Qa hS ?_ | refine Qb ?_ | refine Qc hS ?_ | refine Qd ?_) | ((with_reducible refine Qe hS ?_); clear hS; intro w hS; simp only [List.set] at hS) | ((with_reducible first | refine s_draw hS ?_ | refine Qf hS ?_); clear hS; intro w hS) | ((with_reducible first | refine s_new hS ?_ | refine Qg hS ?_); clear hS; intro b w hS))))
    rw [ho]
    exact ⟨_, ⟨rfl, rfl⟩, SL.into hS Xi⟩
  · exact absurd rfl h0
end Go.Proofs.Ytilgfgghjdomcaa
namespace Go.Proofs.Ytilgfgghjdomcaa
set_option linter.unusedVariables false
open Go.RowKit

theorem LInv.low {g : PLog} {d : DS} {f n : Int} {es : List (List UInt8)} (h : LInv g d f n es) : lowG g.segs = n := by
  by_cases hL : g.segs = []
  · rw [hL, (h.nil hL).2]; rfl
  · exact h.chain.low hL
theorem LInv.read {g : PLog} {d : DS} {f n : Int} {es : List (List UInt8)} (h : LInv g d f n es) (i : Int) : readG g.segs i = if n ≤ i then es[(i - n).toNat]? else none := by rw [h.chain.read, h.ents]
theorem LInv.rlen {g : PLog} {d : DS} {f n : Int} {es : List (List UInt8)} (h : LInv g d f n es) : d.R.length ≤ es.length + 1 := by
  have := h.chain.len_le
  rw [h.ents] at this
  rw [h.files, List.length_map]; exact this
theorem Torn.rlen {d : DS} {f n : Int} {es : List (List UInt8)} {p : List UInt8} {whole : Bool} (h : Torn d f n es p whole) : d.R.length ≤ es.length + 2 := by
  obtain ⟨A, l0, pre, k, hA, _, he, _, _, _, _, _, hR⟩ := h
  have h1 := hA.len_le
  have h2 : (entsG A).length + l0.length = es.length := by rw [← he, List.length_append]
  rw [hR, List.length_append, List.length_map]
  simp only [List.length_cons, List.length_nil]; omega
/-- What is there behind i entries, of which so many were told. -/
structure KS (ls : List (List UInt8)) (told i : Nat) (g : PLog) (d : DS) : Prop where
  ti : told ≤ i
  il : i ≤ ls.length
  gok : g.Ok (i * 2000)
  dok : d.Ok (i * 2000)
  ops : d.ops ≤ 2 * i
  arm : 0 ≤ d.arm
  st : (told = i ∧ LInv g d 0 1 (ls.take i) ∧ g.base = 0) ∨ (told < i ∧ d.off = true ∧ ∃ p, ls[told]? = some p ∧ Torn d 0 1 (ls.take told) p true)
theorem take_snoc {α : Type} {ls : List α} {i : Nat} (h : i < ls.length) : ls.take i ++ [ls[i]] = ls.take (i + 1) := by
  rw [List.take_add_one, List.getElem?_eq_getElem h]; rfl
theorem KS.step {ls : List (List UInt8)} {told i : Nat} {g : PLog} {d : DS} (h : KS ls told i g d) (hi : i < 100) (hl : i < ls.length) (hb : ls[i].length ≤ 1000) :
    ((appendG g d ls[i]).2 = (((told + 1 : Nat) : Int), 0) ∧ told = i ∧ KS ls (told + 1) (i + 1) (appendG g d ls[i]).1.1 (appendG g d ls[i]).1.2) ∨ ((appendG g d ls[i]).2 = (0, 8) ∧ KS ls told (i + 1) (appendG g d ls[i]).1.1 (appendG g d ls[i]).1.2) := by
  have gok := (appendG_gok (d := d) h.gok ls[i]).mono (M := (i + 1) * 2000) (by omega)
  have dok := (appendG_ok (g := g) h.dok ls[i]).mono (M := (i + 1) * 2000) (by omega)
  have hops := h.ops
  have hti := h.ti
  rcases h.st with ⟨ht, hL, hb0⟩ | ⟨ht, ho, p, hp, hT⟩
  · have hlen : (ls.take i).length = i := by rw [List.length_take]; omega
    rcases append_live hL (p := ls[i]) (by omega) (by rw [hlen]; omega) (by rw [hlen, hb0]; omega) h.arm with ⟨g', d', e, h1, h2, h3, _, h4, _⟩ | ⟨d', e, h1, h2, h3, h4⟩
    · left
      rw [e] at gok dok ⊢
      refine ⟨by show ((1 + ((ls.take i).length : Int)), (0 : Int)) = _; rw [hlen]; congr 1; omega, ht, by omega, hl, gok, dok, by simp only; omega, h3, .inl ⟨by omega, ?_, by rw [h4, hb0]⟩⟩
      rw [take_snoc hl] at h1; exact h1
    · right
      rw [e] at gok dok ⊢
      refine ⟨rfl, by omega, hl, gok, dok, by simp only; omega, ?_, .inr ⟨by omega, h2, ls[i], by rw [ht]; exact List.getElem?_eq_getElem hl, by rw [ht]; exact h1⟩⟩
      exact dok.arm0
  · right
    rw [append_dead (by omega) ho] at gok dok ⊢
    exact ⟨rfl, by omega, hl, gok, dok, by simp only; omega, h.arm, .inr ⟨by omega, ho, p, hp, hT⟩⟩
theorem KS.rlen {ls : List (List UInt8)} {told i : Nat} {g : PLog} {d : DS} (h : KS ls told i g d) : d.R.length ≤ i + 2 := by
  have hti := h.ti
  have hil := h.il
  rcases h.st with ⟨ht, hL, _⟩ | ⟨ht, ho, p, hp, hT⟩
  · have := hL.rlen
    rw [List.length_take] at this; omega
  · have := hT.rlen
    rw [List.length_take] at this; omega
theorem KS.done {ls : List (List UInt8)} {told i : Nat} {g : PLog} {d : DS} (h : KS ls told i g d) (hi : i ≤ 100) (keep : List Int) {size : Int} (s0 : 64 ≤ size) (s1 : size ≤ 65536) :
    ∃ g' d' m, openG (d.crash keep) 0 size = (d', .ok g') ∧ LInv g' d' 0 1 (ls.take m) ∧ told ≤ m ∧ m ≤ told + 1 ∧ m ≤ ls.length := by
  have hti := h.ti
  have hil := h.il
  rcases h.st with ⟨ht, hL, hb0⟩ | ⟨ht, ho, p, hp, hT⟩
  · have hR : (d.crash keep).R = g.segs.map segF := by show crashR d.R keep = _; rw [hL.files, crash_chain]
    have hlen : (ls.take i).length = i := by rw [List.length_take]; omega
    have hle := hL.chain.len_le
    rw [hL.ents, hlen] at hle
    have := open_chain (d := d.crash keep) (base := 0) (size := size) hL.chain hR rfl (by decide) (by decide) s0 s1 (by decide) (by omega) (by decide) (by rw [hL.ents, hlen]; omega)
    exact ⟨_, _, i, this, ⟨hL.chain, hL.ents, hR, fun _ => ⟨rfl, rfl⟩, Int.le_refl _, Int.le_refl _, (by decide : (0 : Int) ≤ 12288), s0, s1, by decide, by rw [hlen]; show (0 : Int) + i + 2 ≤ 0 + 4096; omega, rfl, rfl⟩, by omega, by omega, by omega⟩
  · have hlen : (ls.take told).length = told := by rw [List.length_take]; omega
    obtain ⟨g', d', es', h1, h2, _, _, _, _, h3⟩ := torn_open hT keep (base := 0) (size := size) (by decide) (by decide) s0 s1 (by decide) (by rw [hlen]; omega) (by decide) (by rw [hlen]; omega) ⟨rfl, rfl⟩
    obtain ⟨htl, he⟩ := List.getElem?_eq_some_iff.1 hp
    rcases h3 with rfl | ⟨_, rfl⟩
    · exact ⟨g', d', told, h1, h2, by omega, by omega, by omega⟩
    · rw [← he, take_snoc htl] at h2
      exact ⟨g', d', told + 1, h1, h2, by omega, by omega, by omega⟩
theorem KS.init {ls : List (List UInt8)} {size : Int} (s0 : 64 ≤ size) (s1 : size ≤ 65536) {a : Int} (ha : 0 ≤ a) (ha2 : a ≤ 1000) : KS ls 0 0 ⟨[], 0, size, none⟩ (s00.armed a) := by
  have h := linv00 (base := 0) (size := size) (by decide) (by decide) s0 s1
  refine ⟨Nat.le_refl _, Nat.zero_le _, ok00 (by decide) (by decide) s0 s1, (s00_ok 0).armed (by omega), Nat.le_refl _, by simp only [DS.armed]; omega, .inl ⟨rfl, ?_, rfl⟩⟩
  exact h.withD rfl rfl
end Go.Proofs.Ytilgfgghjdomcaa
namespace Go.Proofs.Ytilgfgghjdomcaa
set_option linter.unusedVariables false
open Go.RowKit

theorem updF_len2 {R : List PF} (hs : SortedK PF.id R) (f : Int) (g : PF → PF) : (updF R f g).length ≤ R.length + 1 := by
  unfold updF; split
  · exact putK_len R _
  · omega
structure LS (ls : List (List UInt8)) (i : Nat) (b : Int) (g : PLog) (d : DS) : Prop where
  il : i ≤ ls.length
  i2 : i ≤ 45
  bl : ∀ p ∈ ls.take i, p.length ≤ 1000
  dok : d.Ok (i * 4000)
  ops : d.ops ≤ 8 * i
  arm : d.arm = 0
  inv : LInv g d b 1 (ls.take i)
  base : g.base = b
theorem LS.gok {ls : List (List UInt8)} {i : Nat} {b : Int} {g : PLog} {d : DS} (h : LS ls i b g d) : g.Ok 1000000 := by
  have := h.i2
  exact h.inv.segOk (by rw [List.length_take]; omega) (by rw [List.length_take]; omega) h.bl
theorem LS.len {ls : List (List UInt8)} {i : Nat} {b : Int} {g : PLog} {d : DS} (h : LS ls i b g d) : (ls.take i).length = i := by rw [List.length_take]; have := h.il; omega
theorem LS.head {ls : List (List UInt8)} {i : Nat} {b : Int} {g : PLog} {d : DS} (h : LS ls i b g d) : headG g.segs = i := by rw [h.inv.head, h.len]; omega
theorem LS.rlen {ls : List (List UInt8)} {i : Nat} {b : Int} {g : PLog} {d : DS} (h : LS ls i b g d) : d.R.length ≤ 46 := by
  have := h.inv.rlen
  rw [h.len] at this
  have := h.i2; omega
theorem LS.init {ls : List (List UInt8)} {b size : Int} (b0 : 0 ≤ b) (b1 : b ≤ 12288) (s0 : 64 ≤ size) (s1 : size ≤ 65536) : LS ls 0 b ⟨[], b, size, none⟩ s00 :=
  ⟨Nat.zero_le _, by decide, by simp, s00_ok 0, Nat.le_refl _, rfl, linv00 b0 b1 s0 s1, rfl⟩
/-- An entry more, from any log over the same. -/
theorem LS.put {ls : List (List UInt8)} {i N : Nat} {b : Int} {g : PLog} {d : DS} (hi : i < 40) (hl : i < ls.length) (hb : ls[i].length ≤ 1000) (hbl : ∀ p ∈ ls.take i, p.length ≤ 1000) (inv : LInv g d b 1 (ls.take i)) (base : g.base = b) (arm : d.arm = 0) (dok : d.Ok N) (hN : N ≤ i * 4000 + 2900) (ops : d.ops ≤ 8 * i + 6) (b1 : b ≤ 100) :
    ∃ g' d', appendG g d ls[i] = ((g', d'), (((i + 1 : Nat) : Int), 0)) ∧ LS ls (i + 1) b g' d' ∧ g'.size = g.size ∧ ∀ s ∈ g'.segs, s.l ≠ [] := by
  have hlen : (ls.take i).length = i := by rw [List.length_take]; omega
  have dok2 := appendG_ok (g := g) dok ls[i]
  rcases append_live inv (p := ls[i]) (by omega) (by rw [hlen]; omega) (by rw [hlen, base]; omega) (by omega) with ⟨g', d', e, h1, h2, _, h4, h5, h6, h7, _⟩ | ⟨d', _, _, _, _, h4⟩
  · rw [e] at dok2
    refine ⟨g', d', by rw [e, hlen]; congr 2; omega, ⟨hl, by omega, ?_, dok2.mono (by omega), by omega, h4 arm, ?_, by rw [h5, base]⟩, h6, h7⟩
    · rw [← take_snoc hl]
      intro p hp
      rcases List.mem_append.1 hp with hp | hp
      · exact hbl p hp
      · rw [List.mem_singleton.1 hp]; exact hb
    · rw [take_snoc hl] at h1; exact h1
  · exact absurd arm h4
theorem LS.step {ls : List (List UInt8)} {i : Nat} {b : Int} {g : PLog} {d : DS} (h : LS ls i b g d) (hi : i < 40) (hl : i < ls.length) (hb : ls[i].length ≤ 1000) (b1 : b ≤ 100) :
    ∃ g' d', appendG g d ls[i] = ((g', d'), (((i + 1 : Nat) : Int), 0)) ∧ LS ls (i + 1) b g' d' ∧ g'.size = g.size ∧ ∀ s ∈ g'.segs, s.l ≠ [] :=
  LS.put hi hl hb h.bl h.inv h.base h.arm h.dok (by omega) (by have := h.ops; omega) b1
theorem ops_tear (g : PLog) (d : DS) (p : List UInt8) (k : Int) : (tearG g d p k).1.2.ops ≤ d.ops + 2 := by
  unfold tearG
  split
  · simp
  · split
    · simp
    · rename_i x _
      have h1 := ops_mend g d
      have h2 := ops_append (mendG g d).1.2 x.file (x.b.take (k.toNat % x.b.length))
      simp only
      split
      · first | omega | (simp only; omega)
      · split
        · first | omega | (simp only; omega)
        · first | omega | (simp only; omega)
/-- A write breaks off. -/
theorem LS.tear {ls : List (List UInt8)} {i : Nat} {g : PLog} {d : DS} (h : LS ls i 0 g d) (hi : i < 30) (hl : i < ls.length) (hb : ls[i].length ≤ 1000) {k : Int} (hk : 0 ≤ k) :
    ∃ g1 d1, tearG g d ls[i] k = ((g1, d1), 0) ∧ headG g1.segs = i ∧ g1.Ok 1000000 ∧ d1.Ok (i * 4000 + 1100) ∧ d1.ops ≤ 8 * i + 2 ∧ d1.R.length ≤ 100 ∧
      (∃ g3 d3, appendG g1 d1 ls[i] = ((g3, d3), (((i + 1 : Nat) : Int), 0)) ∧ LS ls (i + 1) 0 g3 d3) ∧
      ∀ (keep : List Int) (size : Int), 64 ≤ size → size ≤ 65536 → ∃ g2 d2, openG (d1.crash keep) 0 size = (d2, .ok g2) ∧ headG g2.segs = i ∧ g2.Ok 1000000 ∧ d2.Ok (i * 4000 + 1100) ∧ d2.ops ≤ 8 * i + 3 ∧
        ∃ g3 d3, appendG g2 d2 ls[i] = ((g3, d3), (((i + 1 : Nat) : Int), 0)) ∧ LS ls (i + 1) 0 g3 d3 := by
  have hlen := h.len
  obtain ⟨g1, d1, e, hT, ho, ha, hops, hs1, hb1, hz1, g2, d2, hm, hL2, ha2, hops2, hs2, hb2, hz2⟩ := tear_live h.inv (p := ls[i]) (by omega) (by rw [hlen]; omega) h.arm hk
  have hg := h.gok
  have hg1 : g1.Ok 1000000 := hg.congr hs1 hb1 hz1
  have hd1 : d1.Ok (i * 4000 + 1100) := by
    have := tearG_ok (g := g) h.dok ls[i] k
    rw [e] at this
    exact this.mono (by omega)
  have hop := h.ops
  have hdm : d2.Ok (i * 4000 + 1100) := by
    have := mendG_ok (g := g1) hd1
    rw [hm] at this; exact this
  have hrl := hT.rlen
  rw [hlen] at hrl
  refine ⟨g1, d1, e, by rw [hs1]; exact h.head, hg1, hd1, by omega, by omega, ?_, ?_⟩
  · obtain ⟨x, _, _, _, hpl, _⟩ := plan_ok hL2 (p := ls[i]) (by omega) (by rw [hlen]; omega)
    obtain ⟨g3, d3, e3, h3, _⟩ := LS.put (N := i * 4000 + 1100) (by omega) hl hb h.bl hL2 (by rw [hb2, h.base]) ha2 hdm (by omega) (by omega) (by decide)
    refine ⟨g3, d3, ?_, h3⟩
    rw [append_mend hm hs2 (by rw [hb2, hb1]) (by rw [hz2, hz1]) ho hL2.off hL2.torn hpl]
    exact e3
  · intro keep size s0 s1
    obtain ⟨g2, d2, es', h1, h2, h3, h4, h5, h6, h7⟩ := torn_open hT keep (base := 0) (size := size) (by decide) (by decide) s0 s1 (by decide) (by rw [hlen]; omega) (by decide) (by rw [hlen]; omega) ⟨rfl, rfl⟩
    rcases h7 with rfl | ⟨hw, _⟩
    · have hcok := hd1.crash keep
      have hd2 := openG_ok (base := 0) (size := size) hcok
      rw [h1] at hd2
      obtain ⟨g3, d3, e3, hL3, _⟩ := LS.put (N := i * 4000 + 1100) (by omega) hl hb h.bl h2 h5 h3 hd2 (by omega) (by have : (d1.crash keep).ops = d1.ops := rfl; omega) (by decide)
      refine ⟨g2, d2, h1, by rw [h2.head, hlen]; omega, h2.segOk (by rw [hlen]; omega) (by rw [hlen]; omega) h.bl, hd2, by have : (d1.crash keep).ops = d1.ops := rfl; omega, g3, d3, e3, hL3⟩
    · cases hw
/-- A crash, and opened anew. -/
theorem LS.again {ls : List (List UInt8)} {i : Nat} {g : PLog} {d : DS} (h : LS ls i 0 g d) (keep : List Int) {size : Int} (s0 : 64 ≤ size) (s1 : size ≤ 65536) :
    ∃ g2 d2, openG (d.crash keep) 0 size = (d2, .ok g2) ∧ LInv g2 d2 0 1 (ls.take i) := by
  have hlen := h.len
  have hi := h.i2
  have hR : (d.crash keep).R = g.segs.map segF := by show crashR d.R keep = _; rw [h.inv.files, crash_chain]
  have hle := h.inv.chain.len_le
  rw [h.inv.ents, hlen] at hle
  have := open_chain (d := d.crash keep) (base := 0) (size := size) h.inv.chain hR rfl (by decide) (by decide) s0 s1 (by decide) (by omega) (by decide) (by rw [h.inv.ents, hlen]; omega)
  exact ⟨_, _, this, ⟨h.inv.chain, h.inv.ents, hR, fun _ => ⟨rfl, rfl⟩, Int.le_refl _, Int.le_refl _, (by decide : (0 : Int) ≤ 12288), s0, s1, by decide, by rw [hlen]; show (0 : Int) + i + 2 ≤ 0 + 4096; omega, rfl, rfl⟩⟩
/-- The last file is cut anywhere. -/
theorem LS.cut {ls : List (List UInt8)} {b : Int} {g : PLog} {d : DS} (h : LS ls ls.length b g d) (hfull : ∀ s ∈ g.segs, s.l ≠ []) (hne : ls ≠ []) (b0 : 0 ≤ b) (b1 : b ≤ 100) :
    ∃ hj : d.R.length - 1 < d.R.length, 0 < d.R[d.R.length - 1].b.length ∧ ∀ m : Nat, m < d.R[d.R.length - 1].b.length → ∃ d1, d.cut d.R[d.R.length - 1].id (m : Int) = (d1, 0) ∧ d1.ops ≤ d.ops + 1 ∧
      ∀ size : Int, 64 ≤ size → size ≤ 65536 → ∃ g2 d2 k, openG d1 b size = (d2, .ok g2) ∧ LInv g2 d2 b 1 (ls.take k) ∧ k < ls.length ∧ d2.arm = 0 ∧ d2.ops ≤ d.ops + 2 ∧ g2.base = b := by
  have hes : entsG g.segs = ls := by rw [h.inv.ents, List.take_length]
  have hlen := h.i2
  obtain ⟨A, s, hA⟩ : ∃ A s, g.segs = A ++ [s] := by
    rcases List.eq_nil_or_concat g.segs with h0 | ⟨A, s, h0⟩
    · rw [h0] at hes; exact absurd hes.symm hne
    · exact ⟨A, s, by rw [h0, List.concat_eq_append]⟩
  have hR : d.R = A.map segF ++ [segF s] := by rw [h.inv.files, hA, List.map_append]; rfl
  have hRl : d.R.length - 1 = (A.map segF).length := by rw [hR]; simp
  have hj : d.R.length - 1 < d.R.length := by rw [hR]; simp
  have hx : d.R[d.R.length - 1] = segF s := by
    have : d.R[d.R.length - 1]? = some (segF s) := by rw [hRl, hR, List.getElem?_append_right (Nat.le_refl _), Nat.sub_self]; rfl
    rw [List.getElem?_eq_getElem hj] at this
    exact Option.some.inj this
  have hc := h.inv.chain
  rw [hA] at hc
  obtain ⟨c1, c2, c3, c4, c5, c6, _⟩ := Chain.app.1 hc
  have c2 := c2 (by simp)
  have hsl : s.l ≠ [] := hfull s (by rw [hA]; simp)
  have hsplit : entsG A ++ s.l = ls := by rw [← hes, hA, entsG_app]; simp [entsG]
  have hsum : (entsG A).length + s.l.length = ls.length := by rw [← hsplit, List.length_append]
  have hAl := c1.len_le
  have hsn : 0 < s.l.length := List.length_pos_iff.2 hsl
  refine ⟨hj, ?_, ?_⟩
  · rw [hx]; show 0 < (segB s).length; rw [segB_len]; omega
  · rw [hx]
    intro m hm
    have hm : m < (segB s).length := hm
    have hsrt : SortedK PF.id (A.map segF ++ [segF s]) := by rw [← hR, h.inv.files]; exact h.inv.chain.con.sorted
    have hmay : may d (segF s).id = 0 := by
      unfold may
      rw [if_neg (by simp [h.inv.off]), if_neg (by show ¬ (s.file < 0 ∨ 16384 ≤ s.file); omega)]
    have hfind : d.find (segF s).id = 0 := by
      unfold DS.find
      rw [if_neg (by simp [hmay]), hR, if_pos (is_end hsrt)]
    have hlenF : lenF d.R (segF s).id = (segB s).length := by
      unfold lenF
      rw [hR, get_end hsrt]; rfl
    have hcoff : d.cnt.off = false := by simp [DS.cnt, h.arm]
    let d1 : DS := { d.cnt with R := updF d.R (segF s).id (cutF ((m : Nat) : Int).toNat) }
    have hcut : d.cut (segF s).id (m : Int) = (d1, 0) := by
      unfold DS.cut
      rw [if_neg (by simp [hfind]), if_neg (by rw [hlenF]; omega), if_neg (by simp [hcoff])]
    have hR1 : d1.R = A.map segF ++ [{ cutF m (segF s) with id := (segF s).id }] := by
      show updF d.R (segF s).id (cutF ((m : Nat) : Int).toNat) = _
      rw [hR, upd_end hsrt, Int.toNat_natCast]
    refine ⟨d1, hcut, by simp [d1, DS.cnt], fun size s0 s1 => ?_⟩
    obtain ⟨L, j, d2, j1, j2, j3, ho, hcL, he, hR', ho', ha', hops, _, _, _⟩ := open_tail (d := d1) (A := A) (l := s.l) (f := b) (n := 1) (base := b) (size := size) (k := m) (x := { cutF m (segF s) with id := (segF s).id }) c1 c2 c6 hR1 c3
      (by simp only [cutF, segF, List.length_take]; omega) (by simp only [cutF, segF, segB, c4]) hcoff (by simp [d1, DS.cnt, h.arm]) b0 (by omega) s0 s1 (Int.le_refl _) (by omega) (by decide) (by omega)
    have hjl : j < s.l.length := by
      rcases j3 s.l.length (Nat.le_refl _) (by rw [List.take_length, ← c4]; exact hm) with h1 | h1 <;> omega
    have hek : entsG L = ls.take ((entsG A).length + j) := by rw [he, ← hsplit, List.take_length_add_append]
    refine ⟨⟨L, b, size, none⟩, d2, (entsG A).length + j, ho, ⟨hcL, hek, hR', fun _ => ⟨rfl, rfl⟩, Int.le_refl _, b0, by show b ≤ 12288; omega, s0, s1, by decide, ?_, ho', rfl⟩, by omega, ha', by simp [d1, DS.cnt] at hops ⊢; omega, rfl⟩
    rw [List.length_take]
    show b + ((min ((entsG A).length + j) ls.length : Nat) : Int) + 2 ≤ b + 4096
    omega
/-- Segments trimmed: what is left, and that it is opened as it is. -/
theorem LS.trim {ls : List (List UInt8)} {i : Nat} {g : PLog} {d : DS} (h : LS ls i 0 g d) (k : Int) :
    ∃ (g2 : PLog) (d2 : DS) (f : Int) (j : Nat), trimG g d k = ((g2, d2), 0) ∧ LInv g2 d2 f (1 + j) ((ls.take i).drop j) ∧ j ≤ i ∧ g2.segs.length ≤ g.segs.length ∧ (0 < i → 0 < g2.segs.length) ∧ (j = 0 ∨ 1 + (j : Int) ≤ k + 1) ∧ d2.ops ≤ d.ops + 46 ∧ d2.Ok (i * 4000) ∧ d2.R.length ≤ 46 ∧ g2.Ok 1000000 ∧
      openG d2 0 64 = (d2, .ok ⟨g2.segs, 0, 64, none⟩) := by
  have hlen := h.len
  have hi := h.i2
  obtain ⟨g2, d2, f, j, e, hL, hj, hl, hne, hk, ha, ho, hb, hz⟩ := trim_live h.inv h.arm k (by rw [hlen]; omega)
  rw [hlen] at hj
  have hle := h.inv.chain.len_le
  rw [h.inv.ents, hlen] at hle
  have hdl : ((ls.take i).drop j).length = i - j := by rw [List.length_drop, hlen]
  have hdok := trimG_ok (g := g) h.dok k
  have hgok := trimG_gok (d := d) h.gok k
  rw [e] at hdok hgok
  have hrl := hL.rlen
  have hce := hL.chain.len_le
  rw [hL.ents, hdl] at hce
  have hfi := hL.fi
  have hbs := hL.base
  rw [hdl] at hrl hfi
  rw [hb, h.base] at hfi hbs
  refine ⟨g2, d2, f, j, e, hL, hj, hl, fun h0 => ?_, hk, by omega, hdok, by omega, hgok, ?_⟩
  · refine List.length_pos_iff.2 (hne fun e => ?_)
    have := h.inv.ents
    rw [e] at this
    have := congrArg List.length this
    rw [hlen] at this
    simp [entsG] at this; omega
  · exact open_chain (d := d2) (base := 0) (size := 64) hL.chain hL.files hL.off (by decide) (by decide) (by decide) (by decide) hbs (by omega) (by omega) (by rw [hL.ents, hdl]; omega)
end Go.Proofs.Ytilgfgghjdomcaa
