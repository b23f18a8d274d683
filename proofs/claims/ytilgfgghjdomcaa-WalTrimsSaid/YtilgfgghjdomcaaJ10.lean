/-
  Texts of the proof, joined: Own, OpT, BytesT, RowsT, Law06R.
-/
import Derived.Test.YtilgfgghjdomcaaJ9
import Derived.Test.YtilgfgghjdomcaaRows
namespace Go.Proofs.Ytilgfgghjdomcaa
set_option linter.unusedVariables false
theorem Try.own : ownKnob Try.prog.godebug = none := by kernel_rfl
theorem Try.laidOut : laidOutB Try.prog = true := by kernel_rfl
end Go.Proofs.Ytilgfgghjdomcaa
namespace Go.Proofs.Ytilgfgghjdomcaa
set_option linter.unusedVariables false
set_option maxRecDepth 100000
open Go.ChangeShapes Go.WideShapes Go.ChangeAt Go.RowKit

def tAOp : GoT AOp := (tPair (tInt .i64) (tPair (tInt .i64) (tPair (tInt .i64) (tPair tBool (tPair tStr tUnit))))).via fun o => (o.lsn, o.table, o.key, o.gone, o.val, ())
theorem tAOp_rd {w : World} {M : MS} {o : AOp} {cs : List Value} (h : tAOp.rd w M o cs) : cs = encOp o := by
  obtain ⟨c1, c2, rfl, h1, c3, c4, rfl, h3, c5, c6, rfl, h5, c7, c8, rfl, h7, c9, c10, rfl, h9, h10⟩ := h
  have h1' : c1 = [.int .i64 o.lsn] := h1
  have h3' : c3 = [.int .i64 o.table] := h3
  have h5' : c5 = [.int .i64 o.key] := h5
  have h7' : c7 = [.bool o.gone] := h7
  have h9' : c9 = [.string o.val] := h9
  have h10' : c10 = [] := h10
  subst h1' h3' h5' h7' h9' h10'
  rfl
def okAOp (o : AOp) : Prop := inK .i64 o.lsn ∧ inK .i64 o.table ∧ inK .i64 o.key ∧ okStr o.val
/-- A row of one-cell elements: their cells. -/
theorem RdS.cells1 {α : Type} {T : GoT α} (hT : T.n = 1) {w : World} {xs : List α} {v : Value} (h : RdS T w Nob xs v) :
    ∃ vs : List Value, vs.length = xs.length ∧ RdSl (Heap.of w) 1 v xs.length vs ∧ ∀ i (h : i < xs.length) (h' : i < vs.length), T.rd w Nob xs[i] [vs[i]] := by
  obtain ⟨a, cap, rfl, hc, hx⟩ := h.out
  have hex : ∀ i, ∃ u, ∀ h : i < xs.length, T.rd w Nob xs[i] [u] ∧ ∃ b off, a = some ⟨b, off, none⟩ ∧ w.cell? ⟨b, off + i, none⟩ = some u := fun i => by
    by_cases hi : i < xs.length
    · obtain ⟨b, off, cs, ha, hr, hat⟩ := hx i hi
      have hl := T.len hr
      rw [hT] at hl
      match cs, hl with
      | [u], _ =>
        refine ⟨u, fun _ => ⟨hr, b, off, ha, ?_⟩⟩
        have := hat.2 0 u rfl
        rw [hT] at this
        simpa using this
    · exact ⟨undef, fun h => absurd h hi⟩
  obtain ⟨f, hf⟩ := Classical.axiomOfChoice hex
  refine ⟨(List.range xs.length).map f, by simp, ⟨by simp, a, cap, rfl, hc, ?_⟩, fun i hi hi' => ?_⟩
  · rcases Nat.eq_zero_or_pos xs.length with h0 | h0
    · exact .inl h0
    · right
      obtain ⟨_, b, off, rfl, _⟩ := hf 0 h0
      refine ⟨b, off, rfl, fun j u hu => ?_⟩
      have hj : j < xs.length := by have := (List.getElem?_eq_some_iff.1 hu).1; simpa using this
      have hu' : f j = u := by simpa [hj] using hu
      obtain ⟨_, b', off', hab, hcell⟩ := hf j hj
      simp at hab
      obtain ⟨rfl, rfl⟩ := hab
      rw [hu'] at hcell
      unfold World.cell? at hcell
      unfold Heap.cell Heap.of
      simp only at hcell ⊢
      split at hcell
      · rename_i c t f he'; rw [he']; simpa using hcell
      · cases hcell
  · simpa using (hf i hi).1
/-- A row of rows. -/
theorem RdS.rows {α : Type} {T : GoT α} {enc : α → List Value} {w : World} {xss : List (List α)} {v : Value} (h : RdS (tSlice T) w Nob xss v) (he : ∀ {M x cs}, T.rd w M x cs → cs = enc x) (hn : ∀ x, (enc x).length = T.n) :
    ∃ vs : List Value, vs.length = xss.length ∧ RdSl (Heap.of w) 1 v xss.length vs ∧ ∀ i (h : i < xss.length) (h' : i < vs.length), RdSl (Heap.of w) T.n vs[i] xss[i].length (xss[i].map enc).flatten := by
  obtain ⟨vs, h1, h2, h3⟩ := RdS.cells1 rfl h
  refine ⟨vs, h1, h2, fun i hi hi' => ?_⟩
  obtain ⟨u, hu, hr⟩ := h3 i hi hi'
  have : vs[i] = u := by simpa using hu
  rw [this]
  exact hr.flat he hn
end Go.Proofs.Ytilgfgghjdomcaa
namespace Go.Proofs.Ytilgfgghjdomcaa
set_option linter.unusedVariables false
open Go.ChangeShapes Go.WideShapes Go.ChangeAt Go.RowKit

theorem flat_val {α : Type} (f : α → Value) : ∀ l : List α, (l.map fun x => [f x]).flatten = l.map f
  | [] => rfl
  | x :: l => by simp only [List.map_cons, List.flatten_cons, flat_val f l]; rfl
theorem RdS.ints {k : IntKind} {w : World} {l : List Int} {v : Value} (h : RdS (tInt k) w Nob l v) : RdSl (Heap.of w) 1 v l.length (l.map (Value.int k)) := by
  have h2 := h.flat (enc := fun x => [.int k x]) (fun h => h) (fun _ => rfl)
  rw [flat_val] at h2
  exact h2
def toB (x : Int) : UInt8 := UInt8.ofNat x.toNat
theorem toB_c {x : Int} (h : inK .u8 x) : u8c (toB x) = .int .u8 x := by
  have := inK_u8 h
  unfold u8c toB
  congr 1
  rw [UInt8.toNat_ofNat']
  omega
theorem toB_map : ∀ {l : List Int}, (∀ x ∈ l, inK .u8 x) → l.map (Value.int .u8) = (l.map toB).map u8c
  | [], _ => rfl
  | x :: l, h => by
    simp only [List.map_cons, toB_c (h x (.head _))]
    rw [toB_map fun y hy => h y (.tail _ hy)]
theorem RdSl.toB {H : Heap} {v : Value} {l : List Int} (h : RdSl H 1 v l.length (l.map (Value.int .u8))) (hok : ∀ x ∈ l, inK .u8 x) : RdSl H 1 v (l.map toB).length ((l.map toB).map u8c) := by
  rw [toB_map hok] at h
  rw [List.length_map]; exact h
end Go.Proofs.Ytilgfgghjdomcaa
namespace Go.Proofs.Ytilgfgghjdomcaa
set_option linter.unusedVariables false
open Go.ChangeShapes Go.WideShapes Go.ChangeAt Go.RowKit

def toBs (l : List (List Int)) : List (List UInt8) := l.map fun x => x.map toB
theorem RdS.bytes {w : World} {l : List (List Int)} {v : Value} (h : RdS (tSlice (tInt .u8)) w Nob l v) (ok : ∀ x ∈ l, ∀ y ∈ x, inK .u8 y) : RdRows (Heap.of w) v (toBs l) := by
  obtain ⟨vs, h1, h2, h3⟩ := RdS.rows (enc := fun x => [.int .u8 x]) h (fun h => h) (fun _ => rfl)
  refine ⟨vs, by simp [toBs, h1], by simpa [toBs] using h2, fun i hi hi' => ?_⟩
  have hi2 : i < l.length := by simpa [toBs] using hi
  have h4 := h3 i hi2 hi'
  rw [flat_val] at h4
  have h5 := RdSl.toB h4 (fun x hx => ok _ (List.getElem_mem hi2) x hx)
  have e : (toBs l)[i] = l[i].map toB := by simp [toBs]
  rw [e]
  exact h5
theorem okB {l : List (List Int)} {a b : Nat} (h : okSlice a (okSlice b (inK .u8)) l) : ∀ x ∈ l, ∀ y ∈ x, inK .u8 y := fun x hx y hy => (h.2 x hx).2 y hy
end Go.Proofs.Ytilgfgghjdomcaa
namespace Go.Proofs.Ytilgfgghjdomcaa
set_option linter.unusedVariables false
set_option maxRecDepth 100000
open Go.RowKit

theorem walTrims_spec (H : Heap) (n lsn : Int) (v1 : Value) (ls : List (List UInt8)) (h1 : RdRows H v1 ls) :
    Spec Try.prog 4 [.int .i64 n, v1, .int .i64 lsn] [.mem H] (fun v post => v = .bool true ∧ ∃ H' l, H.le H' ∧ post = .mem H' :: l) := by
  intro W F w hS; apply vc4; unfold Vc4; (try simp only [app] at hS)
  (apply s_call (newD_spec) hS; exact Xp; clear hS)
  rintro v post ⟨dp, rfl, rfl⟩ w hS
  (try simp only [app] at hS)
  (apply s_call (openL_spec dp s00 0 64 (s00_ok 0) (by decide) (by decide) (by decide)) hS; exact Xp; clear hS)
  rintro r post hQ w hS
  rw [open00 (by decide) (by decide) (by decide) (by decide)] at hQ
  obtain ⟨lp, rfl, rfl⟩ := hQ
  (try simp only [app] at hS)
  (repeat (first | (with_reducible first | apply Q0 | refine Qa hS ?_ | refine Qb ?_ | refine Qc hS ?_ | refine Qd ?_) | ((with_reducible refine Qe hS ?_); clear hS; intro w hS; simp only [List.set] at hS) | ((with_reducible first | refine s_draw hS ?_ | refine Qf hS ?_); clear hS; intro w hS) | ((with_reducible first | refine s_new hS ?_ | refine Qg hS ?_); clear hS; intro b w hS)))
  (apply s_call (awake06_spec) hS; exact Xp; clear hS)
  (rintro v post ⟨rfl, rfl⟩ w hS; (try simp only [app] at hS); (repeat (first | (with_reducible first | apply Q0 | refine Qa hS ?_ | refine Qb ?_ | refine Qc hS ?_ | refine Qd ?_) | ((with_reducible refine Qe hS ?_); clear hS; intro w hS; simp only [List.set] at hS) | ((with_reducible first | refine s_draw hS ?_ | refine Qf hS ?_); clear hS; intro w hS) | ((with_reducible first | refine s_new hS ?_ | refine Qg hS ?_); clear hS; intro b w hS))))
  refine s_iff ?_
  (repeat (first | (with_reducible first | apply Q0 | refine Qa hS ?_ | refine Qb ?_ | refine Qc hS ?_ | refine Qd ?_) | ((with_reducible refine Qe hS ?_); clear hS; intro w hS; simp only [List.set] at hS) | ((with_reducible first | refine s_draw hS ?_ | refine Qf hS ?_); clear hS; intro w hS) | ((with_reducible first | refine s_new hS ?_ | refine Qg hS ?_); clear hS; intro b w hS)))
  refine s_iff ?_
  (repeat (first | (with_reducible first | apply Q0 | refine Qa hS ?_ | refine Qb ?_ | refine Qc hS ?_ | refine Qd ?_) | ((with_reducible refine Qe hS ?_); clear hS; intro w hS; simp only [List.set] at hS) | ((with_reducible first | refine s_draw hS ?_ | refine Qf hS ?_); clear hS; intro w hS) | ((with_reducible first | refine s_new hS ?_ | refine Qg hS ?_); clear hS; intro b w hS)))
  refine s_iff ?_
  (repeat (first | (with_reducible first | apply Q0 | refine Qa hS ?_ | refine Qb ?_ | refine Qc hS ?_ | refine Qd ?_) | ((with_reducible refine Qe hS ?_); clear hS; intro w hS; simp only [List.set] at hS) | ((with_reducible first | refine s_draw hS ?_ | refine Qf hS ?_); clear hS; intro w hS) | ((with_reducible first | refine s_new hS ?_ | refine Qg hS ?_); clear hS; intro b w hS)))
  refine s_ifp (fun h => absurd rfl h) (fun _ => ?_)
  refine s_lenRR h1 ?_
  (repeat (first | (with_reducible first | apply Q0 | refine Qa hS ?_ | refine Qb ?_ | refine Qc hS ?_ | refine Qd ?_) | ((with_reducible refine Qe hS ?_); clear hS; intro w hS; simp only [List.set] at hS) | ((with_reducible first | refine s_draw hS ?_ | refine Qf hS ?_); clear hS; intro w hS) | ((with_reducible first | refine s_new hS ?_ | refine Qg hS ?_); clear hS; intro b w hS)))
  obtain ⟨m, hm⟩ : ∃ m : Nat, m = min ls.length 40 := ⟨_, rfl⟩
  have hmi : min ((ls.length : Nat) : Int) 40 = (m : Int) := by rw [hm]; omega
  rw [hmi]
  have hK0 : LS ls 0 0 ⟨[], 0, 64, none⟩ s00 := LS.init (by decide) (by decide) (by decide) (by decide)
  refine ⟨fun vs w => ∃ (i : Nat) (g : PLog) (d : DS), vs = [.int .i64 i] ∧ i ≤ m ∧ LS ls i 0 g d ∧ SL W (.ob (LogO lp dp g) :: .ob (DskO dp d) :: .mem H :: F) w,
    fun vs _ => match vs with | [.int _ i] => (m - i).toNat | _ => 0, ⟨0, _, _, rfl, by omega, hK0, SL.into hS Xi⟩, ?_⟩
  clear hS hK0
  rintro v11 w ⟨i, g, d, hvs, him, hK, hS⟩
  cases hvs
  have hil := hK.il
  have hgok := hK.gok
  have hdok := hK.dok
  have hops := hK.ops
  (repeat (first | (with_reducible first | apply Q0 | refine Qa hS ?_ | refine Qb ?_ | refine Qc hS ?_ | refine Qd ?_) | ((with_reducible refine Qe hS ?_); clear hS; intro w hS; simp only [List.set] at hS) | ((with_reducible first | refine s_draw hS ?_ | refine Qf hS ?_); clear hS; intro w hS) | ((with_reducible first | refine s_new hS ?_ | refine Qg hS ?_); clear hS; intro b w hS)))
  refine s_ifp (fun ha => ?_) (fun ha => ?_)
  · have hl : i < ls.length := by omega
    refine s_getRR hS Xh h1 hl ?_
    intro u hu
    refine s_lenR hu ?_
    (repeat (first | (with_reducible first | apply Q0 | refine Qa hS ?_ | refine Qb ?_ | refine Qc hS ?_ | refine Qd ?_) | ((with_reducible refine Qe hS ?_); clear hS; intro w hS; simp only [List.set] at hS) | ((with_reducible first | refine s_draw hS ?_ | refine Qf hS ?_); clear hS; intro w hS) | ((with_reducible first | refine s_new hS ?_ | refine Qg hS ?_); clear hS; intro b w hS)))
    refine s_ifp (fun hc => ⟨_, ⟨rfl, H, [], Heap.le_refl H, rfl⟩, SL.into hS Xi⟩) (fun hc => ?_)
    have hlen : ls[i].length ≤ 1000 := by omega
    refine s_getRR hS Xh h1 hl ?_
    clear hu
    intro u hu
    obtain ⟨g', d', e, hK', _, hf'⟩ := hK.step (by omega) hl hlen (by decide)
    (apply s_call (appendL_spec (.mem H) lp dp g d u ls[i] (Rdb.rd hu) (by omega) hgok (by omega) hdok (by omega) (by omega)) hS; exact Xp; clear hS)
    rw [e]
    (rintro v post ⟨rfl, rfl⟩ w hS; (try simp only [app] at hS); (repeat (first | (with_reducible first | apply Q0 | refine Qa hS ?_ | refine Qb ?_ | refine Qc hS ?_ | refine Qd ?_) | ((with_reducible refine Qe hS ?_); clear hS; intro w hS; simp only [List.set] at hS) | ((with_reducible first | refine s_draw hS ?_ | refine Qf hS ?_); clear hS; intro w hS) | ((with_reducible first | refine s_new hS ?_ | refine Qg hS ?_); clear hS; intro b w hS))))
    refine s_ifp (fun h => absurd rfl h) (fun _ => ?_)
    (repeat (first | (with_reducible first | apply Q0 | refine Qa hS ?_ | refine Qb ?_ | refine Qc hS ?_ | refine Qd ?_) | ((with_reducible refine Qe hS ?_); clear hS; intro w hS; simp only [List.set] at hS) | ((with_reducible first | refine s_draw hS ?_ | refine Qf hS ?_); clear hS; intro w hS) | ((with_reducible first | refine s_new hS ?_ | refine Qg hS ?_); clear hS; intro b w hS)))
    exact ⟨⟨i + 1, g', d', rfl, by omega, hK', SL.into hS Xi⟩, by dsimp only; omega⟩
  · have hie : i = m := by omega
    subst hie
    (repeat (first | (with_reducible first | apply Q0 | refine Qa hS ?_ | refine Qb ?_ | refine Qc hS ?_ | refine Qd ?_) | ((with_reducible refine Qe hS ?_); clear hS; intro w hS; simp only [List.set] at hS) | ((with_reducible first | refine s_draw hS ?_ | refine Qf hS ?_); clear hS; intro w hS) | ((with_reducible first | refine s_new hS ?_ | refine Qg hS ?_); clear hS; intro b w hS)))
    have hmd := md_lt lsn (i + 3) (by omega)
    (apply s_call (mod_spec lsn (i + 3) (by omega) (by omega)) hS; exact Xp; clear hS)
    (rintro v post ⟨rfl, rfl⟩ w hS; (try simp only [app] at hS); (repeat (first | (with_reducible first | apply Q0 | refine Qa hS ?_ | refine Qb ?_ | refine Qc hS ?_ | refine Qd ?_) | ((with_reducible refine Qe hS ?_); clear hS; intro w hS; simp only [List.set] at hS) | ((with_reducible first | refine s_draw hS ?_ | refine Qf hS ?_); clear hS; intro w hS) | ((with_reducible first | refine s_new hS ?_ | refine Qg hS ?_); clear hS; intro b w hS))))
    generalize md lsn (i + 3) = k at *
    obtain ⟨g2, d2, f, j, e, hL, hj, hsl, hpos, hk, ho2, hd2, hr2, hg2, hop⟩ := hK.trim (k : Int)
    have hlen := hK.len
    have hdl : ((ls.take i).drop j).length = i - j := by rw [List.length_drop, hlen]
    have hlow := hL.low
    have hhd : headG g2.segs = i := by rw [hL.head, hdl]; omega
    have hgl : g.segs.length ≤ 46 := by
      have := hK.inv.chain.len_le
      rw [hK.inv.ents, hlen] at this
      have := hK.i2; omega
    (apply s_call (segsO_spec lp dp g hgok (by omega)) hS; exact Xp; clear hS)
    (rintro v post ⟨rfl, rfl⟩ w hS; (try simp only [app] at hS); (repeat (first | (with_reducible first | apply Q0 | refine Qa hS ?_ | refine Qb ?_ | refine Qc hS ?_ | refine Qd ?_) | ((with_reducible refine Qe hS ?_); clear hS; intro w hS; simp only [List.set] at hS) | ((with_reducible first | refine s_draw hS ?_ | refine Qf hS ?_); clear hS; intro w hS) | ((with_reducible first | refine s_new hS ?_ | refine Qg hS ?_); clear hS; intro b w hS))))
    refine ⟨fun vs w => vs = [] ∧ SL W (.ob (LogO lp dp g2) :: .ob (DskO dp d2) :: .mem H :: F) w, ?_, ?_⟩
    · (apply s_call (trimLog_spec lp dp g d (k : Int) hgok (by omega) hdok (by omega)) hS; exact Xp; clear hS)
      rw [e]
      (rintro v post ⟨rfl, rfl⟩ w hS; (try simp only [app] at hS); (repeat (first | (with_reducible first | apply Q0 | refine Qa hS ?_ | refine Qb ?_ | refine Qc hS ?_ | refine Qd ?_) | ((with_reducible refine Qe hS ?_); clear hS; intro w hS; simp only [List.set] at hS) | ((with_reducible first | refine s_draw hS ?_ | refine Qf hS ?_); clear hS; intro w hS) | ((with_reducible first | refine s_new hS ?_ | refine Qg hS ?_); clear hS; intro b w hS))))
      refine s_ifp (fun h => absurd rfl h) (fun _ => ?_)
      (repeat (first | (with_reducible first | apply Q0 | refine Qa hS ?_ | refine Qb ?_ | refine Qc hS ?_ | refine Qd ?_) | ((with_reducible refine Qe hS ?_); clear hS; intro w hS; simp only [List.set] at hS) | ((with_reducible first | refine s_draw hS ?_ | refine Qf hS ?_); clear hS; intro w hS) | ((with_reducible first | refine s_new hS ?_ | refine Qg hS ?_); clear hS; intro b w hS)))
      (apply s_call (headO_spec lp dp g2 hg2 (by omega)) hS; exact Xp; clear hS)
      (rintro v post ⟨rfl, rfl⟩ w hS; (try simp only [app] at hS); (repeat (first | (with_reducible first | apply Q0 | refine Qa hS ?_ | refine Qb ?_ | refine Qc hS ?_ | refine Qd ?_) | ((with_reducible refine Qe hS ?_); clear hS; intro w hS; simp only [List.set] at hS) | ((with_reducible first | refine s_draw hS ?_ | refine Qf hS ?_); clear hS; intro w hS) | ((with_reducible first | refine s_new hS ?_ | refine Qg hS ?_); clear hS; intro b w hS))))
      rw [hhd]
      refine s_ifp (fun h => absurd rfl h) (fun _ => ?_)
      (repeat (first | (with_reducible first | apply Q0 | refine Qa hS ?_ | refine Qb ?_ | refine Qc hS ?_ | refine Qd ?_) | ((with_reducible refine Qe hS ?_); clear hS; intro w hS; simp only [List.set] at hS) | ((with_reducible first | refine s_draw hS ?_ | refine Qf hS ?_); clear hS; intro w hS) | ((with_reducible first | refine s_new hS ?_ | refine Qg hS ?_); clear hS; intro b w hS)))
      (apply s_call (lowO_spec lp dp g2 hg2 (by omega)) hS; exact Xp; clear hS)
      (rintro v post ⟨rfl, rfl⟩ w hS; (try simp only [app] at hS); (repeat (first | (with_reducible first | apply Q0 | refine Qa hS ?_ | refine Qb ?_ | refine Qc hS ?_ | refine Qd ?_) | ((with_reducible refine Qe hS ?_); clear hS; intro w hS; simp only [List.set] at hS) | ((with_reducible first | refine s_draw hS ?_ | refine Qf hS ?_); clear hS; intro w hS) | ((with_reducible first | refine s_new hS ?_ | refine Qg hS ?_); clear hS; intro b w hS))))
      rw [hlow]
      refine s_ifp (fun h => by omega) (fun _ => ?_)
      (repeat (first | (with_reducible first | apply Q0 | refine Qa hS ?_ | refine Qb ?_ | refine Qc hS ?_ | refine Qd ?_) | ((with_reducible refine Qe hS ?_); clear hS; intro w hS; simp only [List.set] at hS) | ((with_reducible first | refine s_draw hS ?_ | refine Qf hS ?_); clear hS; intro w hS) | ((with_reducible first | refine s_new hS ?_ | refine Qg hS ?_); clear hS; intro b w hS)))
      (apply s_call (lowO_spec lp dp g2 hg2 (by omega)) hS; exact Xp; clear hS)
      (rintro v post ⟨rfl, rfl⟩ w hS; (try simp only [app] at hS); (repeat (first | (with_reducible first | apply Q0 | refine Qa hS ?_ | refine Qb ?_ | refine Qc hS ?_ | refine Qd ?_) | ((with_reducible refine Qe hS ?_); clear hS; intro w hS; simp only [List.set] at hS) | ((with_reducible first | refine s_draw hS ?_ | refine Qf hS ?_); clear hS; intro w hS) | ((with_reducible first | refine s_new hS ?_ | refine Qg hS ?_); clear hS; intro b w hS))))
      rw [hlow]
      refine s_ifp (fun h => ?_) (fun _ => ?_)
      · (repeat (first | (with_reducible first | apply Q0 | refine Qa hS ?_ | refine Qb ?_ | refine Qc hS ?_ | refine Qd ?_) | ((with_reducible refine Qe hS ?_); clear hS; intro w hS; simp only [List.set] at hS) | ((with_reducible first | refine s_draw hS ?_ | refine Qf hS ?_); clear hS; intro w hS) | ((with_reducible first | refine s_new hS ?_ | refine Qg hS ?_); clear hS; intro b w hS)))
        (apply s_call (lowO_spec lp dp g2 hg2 (by omega)) hS; exact Xp; clear hS)
        (rintro v post ⟨rfl, rfl⟩ w hS; (try simp only [app] at hS); (repeat (first | (with_reducible first | apply Q0 | refine Qa hS ?_ | refine Qb ?_ | refine Qc hS ?_ | refine Qd ?_) | ((with_reducible refine Qe hS ?_); clear hS; intro w hS; simp only [List.set] at hS) | ((with_reducible first | refine s_draw hS ?_ | refine Qf hS ?_); clear hS; intro w hS) | ((with_reducible first | refine s_new hS ?_ | refine Qg hS ?_); clear hS; intro b w hS))))
        rw [hlow]
        refine s_ifp (fun h => by omega) (fun h => by omega)
      · (repeat (first | (with_reducible first | apply Q0 | refine Qa hS ?_ | refine Qb ?_ | refine Qc hS ?_ | refine Qd ?_) | ((with_reducible refine Qe hS ?_); clear hS; intro w hS; simp only [List.set] at hS) | ((with_reducible first | refine s_draw hS ?_ | refine Qf hS ?_); clear hS; intro w hS) | ((with_reducible first | refine s_new hS ?_ | refine Qg hS ?_); clear hS; intro b w hS)))
        (apply s_call (segsO_spec lp dp g2 hg2 (by omega)) hS; exact Xp; clear hS)
        (rintro v post ⟨rfl, rfl⟩ w hS; (try simp only [app] at hS); (repeat (first | (with_reducible first | apply Q0 | refine Qa hS ?_ | refine Qb ?_ | refine Qc hS ?_ | refine Qd ?_) | ((with_reducible refine Qe hS ?_); clear hS; intro w hS; simp only [List.set] at hS) | ((with_reducible first | refine s_draw hS ?_ | refine Qf hS ?_); clear hS; intro w hS) | ((with_reducible first | refine s_new hS ?_ | refine Qg hS ?_); clear hS; intro b w hS))))
        refine s_ifp (fun h => by omega) (fun _ => ?_)
        (repeat (first | (with_reducible first | apply Q0 | refine Qa hS ?_ | refine Qb ?_ | refine Qc hS ?_ | refine Qd ?_) | ((with_reducible refine Qe hS ?_); clear hS; intro w hS; simp only [List.set] at hS) | ((with_reducible first | refine s_draw hS ?_ | refine Qf hS ?_); clear hS; intro w hS) | ((with_reducible first | refine s_new hS ?_ | refine Qg hS ?_); clear hS; intro b w hS)))
        refine s_ifp (fun h => ?_) (fun h => ⟨rfl, SL.into hS Xi⟩)
        (repeat (first | (with_reducible first | apply Q0 | refine Qa hS ?_ | refine Qb ?_ | refine Qc hS ?_ | refine Qd ?_) | ((with_reducible refine Qe hS ?_); clear hS; intro w hS; simp only [List.set] at hS) | ((with_reducible first | refine s_draw hS ?_ | refine Qf hS ?_); clear hS; intro w hS) | ((with_reducible first | refine s_new hS ?_ | refine Qg hS ?_); clear hS; intro b w hS)))
        have hp2 := hpos (by omega)
        (apply s_call (segsO_spec lp dp g2 hg2 (by omega)) hS; exact Xp; clear hS)
        (rintro v post ⟨rfl, rfl⟩ w hS; (try simp only [app] at hS); (repeat (first | (with_reducible first | apply Q0 | refine Qa hS ?_ | refine Qb ?_ | refine Qc hS ?_ | refine Qd ?_) | ((with_reducible refine Qe hS ?_); clear hS; intro w hS; simp only [List.set] at hS) | ((with_reducible first | refine s_draw hS ?_ | refine Qf hS ?_); clear hS; intro w hS) | ((with_reducible first | refine s_new hS ?_ | refine Qg hS ?_); clear hS; intro b w hS))))
        refine s_ifp (fun h => by omega) (fun _ => ?_)
        exact ⟨rfl, SL.into hS Xi⟩
    · clear hS
      rintro w ⟨-, hS⟩
      have hgk := (openG_gok hd2 (by omega) hop).1
      (apply s_call (openL_spec dp d2 0 64 hd2 (by omega) (by omega) (by omega)) hS; exact Xp; clear hS)
      rintro r post hQ w hS
      rw [hop] at hQ
      obtain ⟨lp2, rfl, rfl⟩ := hQ
      (try simp only [app] at hS)
      (repeat (first | (with_reducible first | apply Q0 | refine Qa hS ?_ | refine Qb ?_ | refine Qc hS ?_ | refine Qd ?_) | ((with_reducible refine Qe hS ?_); clear hS; intro w hS; simp only [List.set] at hS) | ((with_reducible first | refine s_draw hS ?_ | refine Qf hS ?_); clear hS; intro w hS) | ((with_reducible first | refine s_new hS ?_ | refine Qg hS ?_); clear hS; intro b w hS)))
      refine s_ifp (fun h => absurd rfl h) (fun _ => ?_)
      (repeat (first | (with_reducible first | apply Q0 | refine Qa hS ?_ | refine Qb ?_ | refine Qc hS ?_ | refine Qd ?_) | ((with_reducible refine Qe hS ?_); clear hS; intro w hS; simp only [List.set] at hS) | ((with_reducible first | refine s_draw hS ?_ | refine Qf hS ?_); clear hS; intro w hS) | ((with_reducible first | refine s_new hS ?_ | refine Qg hS ?_); clear hS; intro b w hS)))
      refine s_iff ?_
      (repeat (first | (with_reducible first | apply Q0 | refine Qa hS ?_ | refine Qb ?_ | refine Qc hS ?_ | refine Qd ?_) | ((with_reducible refine Qe hS ?_); clear hS; intro w hS; simp only [List.set] at hS) | ((with_reducible first | refine s_draw hS ?_ | refine Qf hS ?_); clear hS; intro w hS) | ((with_reducible first | refine s_new hS ?_ | refine Qg hS ?_); clear hS; intro b w hS)))
      (apply s_call (lowO_spec lp2 dp _ hgk (by omega)) hS; exact Xp; clear hS)
      (rintro v post ⟨rfl, rfl⟩ w hS; (try simp only [app] at hS); (repeat (first | (with_reducible first | apply Q0 | refine Qa hS ?_ | refine Qb ?_ | refine Qc hS ?_ | refine Qd ?_) | ((with_reducible refine Qe hS ?_); clear hS; intro w hS; simp only [List.set] at hS) | ((with_reducible first | refine s_draw hS ?_ | refine Qf hS ?_); clear hS; intro w hS) | ((with_reducible first | refine s_new hS ?_ | refine Qg hS ?_); clear hS; intro b w hS))))
      (apply s_call (lowO_spec lp dp g2 hg2 (by omega)) hS; exact Xp; clear hS)
      (rintro v post ⟨rfl, rfl⟩ w hS; (try simp only [app] at hS); (repeat (first | (with_reducible first | apply Q0 | refine Qa hS ?_ | refine Qb ?_ | refine Qc hS ?_ | refine Qd ?_) | ((with_reducible refine Qe hS ?_); clear hS; intro w hS; simp only [List.set] at hS) | ((with_reducible first | refine s_draw hS ?_ | refine Qf hS ?_); clear hS; intro w hS) | ((with_reducible first | refine s_new hS ?_ | refine Qg hS ?_); clear hS; intro b w hS))))
      rw [hlow]
      refine s_ifp (fun h => absurd rfl h) (fun _ => ?_)
      (repeat (first | (with_reducible first | apply Q0 | refine Qa hS ?_ | refine Qb ?_ | refine Qc hS ?_ | refine Qd ?_) | ((with_reducible refine Qe hS ?_); clear hS; intro w hS; simp only [List.set] at hS) | ((with_reducible first | refine s_draw hS ?_ | refine Qf hS ?_); clear hS; intro w hS) | ((with_reducible first | refine s_new hS ?_ | refine Qg hS ?_); clear hS; intro b w hS)))
      (apply s_call (headO_spec lp2 dp _ hgk (by omega)) hS; exact Xp; clear hS)
      (rintro v post ⟨rfl, rfl⟩ w hS; (try simp only [app] at hS); (repeat (first | (with_reducible first | apply Q0 | refine Qa hS ?_ | refine Qb ?_ | refine Qc hS ?_ | refine Qd ?_) | ((with_reducible refine Qe hS ?_); clear hS; intro w hS; simp only [List.set] at hS) | ((with_reducible first | refine s_draw hS ?_ | refine Qf hS ?_); clear hS; intro w hS) | ((with_reducible first | refine s_new hS ?_ | refine Qg hS ?_); clear hS; intro b w hS))))
      rw [hhd]
      refine s_ifp (fun h => absurd rfl h) (fun _ => ?_)
      (repeat (first | (with_reducible first | apply Q0 | refine Qa hS ?_ | refine Qb ?_ | refine Qc hS ?_ | refine Qd ?_) | ((with_reducible refine Qe hS ?_); clear hS; intro w hS; simp only [List.set] at hS) | ((with_reducible first | refine s_draw hS ?_ | refine Qf hS ?_); clear hS; intro w hS) | ((with_reducible first | refine s_new hS ?_ | refine Qg hS ?_); clear hS; intro b w hS)))
      (apply s_call (lowO_spec lp dp g2 hg2 (by omega)) hS; exact Xp; clear hS)
      (rintro v post ⟨rfl, rfl⟩ w hS; (try simp only [app] at hS); (repeat (first | (with_reducible first | apply Q0 | refine Qa hS ?_ | refine Qb ?_ | refine Qc hS ?_ | refine Qd ?_) | ((with_reducible refine Qe hS ?_); clear hS; intro w hS; simp only [List.set] at hS) | ((with_reducible first | refine s_draw hS ?_ | refine Qf hS ?_); clear hS; intro w hS) | ((with_reducible first | refine s_new hS ?_ | refine Qg hS ?_); clear hS; intro b w hS))))
      rw [hlow]
      refine ⟨fun vs w => ∃ q : Nat, vs = [.int .i64 (1 + (j : Int) + (q : Int))] ∧ j + q ≤ i ∧ SL W (.ob (LogO lp2 dp ⟨g2.segs, 0, 64, none⟩) :: .ob (LogO lp dp g2) :: .mem H :: F) w, fun vs _ => match vs with | [.int _ x] => (i + 1 - x).toNat | _ => 0, ⟨0, by simp, by omega, SL.into hS Xi⟩, ?_⟩
      clear hS
      rintro v18 w ⟨q, hvs, hq, hS⟩
      cases hvs
      (repeat (first | (with_reducible first | apply Q0 | refine Qa hS ?_ | refine Qb ?_ | refine Qc hS ?_ | refine Qd ?_) | ((with_reducible refine Qe hS ?_); clear hS; intro w hS; simp only [List.set] at hS) | ((with_reducible first | refine s_draw hS ?_ | refine Qf hS ?_); clear hS; intro w hS) | ((with_reducible first | refine s_new hS ?_ | refine Qg hS ?_); clear hS; intro b w hS)))
      refine s_ifp (fun h => ?_) (fun h => ?_)
      · have hjl : j + q < ls.length := by omega
        (repeat (first | (with_reducible first | apply Q0 | refine Qa hS ?_ | refine Qb ?_ | refine Qc hS ?_ | refine Qd ?_) | ((with_reducible refine Qe hS ?_); clear hS; intro w hS; simp only [List.set] at hS) | ((with_reducible first | refine s_draw hS ?_ | refine Qf hS ?_); clear hS; intro w hS) | ((with_reducible first | refine s_new hS ?_ | refine Qg hS ?_); clear hS; intro b w hS)))
        (apply s_call (readO_spec lp2 dp _ hgk (by omega) (1 + (j : Int) + (q : Int)) (by omega)) hS; exact Xp; clear hS)
        rintro r post hQ w hS
        have hr : readG g2.segs (1 + (j : Int) + (q : Int)) = some ls[j + q] := by
          rw [hL.read, if_pos (by omega), show (1 + (j : Int) + (q : Int) - (1 + (j : Int))).toNat = q by omega, List.getElem?_drop, List.getElem?_take, if_pos (by omega), List.getElem?_eq_getElem hjl]
        rw [hr] at hQ
        obtain ⟨u, rfl, rfl⟩ := hQ
        (try simp only [app] at hS)
        (repeat (first | (with_reducible first | apply Q0 | refine Qa hS ?_ | refine Qb ?_ | refine Qc hS ?_ | refine Qd ?_) | ((with_reducible refine Qe hS ?_); clear hS; intro w hS; simp only [List.set] at hS) | ((with_reducible first | refine s_draw hS ?_ | refine Qf hS ?_); clear hS; intro w hS) | ((with_reducible first | refine s_new hS ?_ | refine Qg hS ?_); clear hS; intro b w hS)))
        refine s_ifp (fun h => absurd rfl h) (fun _ => ?_)
        (repeat (first | (with_reducible first | apply Q0 | refine Qa hS ?_ | refine Qb ?_ | refine Qc hS ?_ | refine Qd ?_) | ((with_reducible refine Qe hS ?_); clear hS; intro w hS; simp only [List.set] at hS) | ((with_reducible first | refine s_draw hS ?_ | refine Qf hS ?_); clear hS; intro w hS) | ((with_reducible first | refine s_new hS ?_ | refine Qg hS ?_); clear hS; intro b w hS)))
        have e1 : 1 + (j : Int) + (q : Int) - 1 = ((j + q : Nat) : Int) := by omega
        rw [e1]
        refine s_getRR hS Xh h1 hjl ?_
        intro u2 hu2
        (apply s_call (bytesB_spec (.ob (OwnSl u 5 1 ls[j + q].length (ls[j + q].map u8c))) (.mem H) u u2 ls[j + q] ls[j + q] Rdb.own (Rdb.rd hu2)) hS; exact Xp; clear hS)
        (rintro v post ⟨rfl, rfl⟩ w hS; (try simp only [app] at hS); (repeat (first | (with_reducible first | apply Q0 | refine Qa hS ?_ | refine Qb ?_ | refine Qc hS ?_ | refine Qd ?_) | ((with_reducible refine Qe hS ?_); clear hS; intro w hS; simp only [List.set] at hS) | ((with_reducible first | refine s_draw hS ?_ | refine Qf hS ?_); clear hS; intro w hS) | ((with_reducible first | refine s_new hS ?_ | refine Qg hS ?_); clear hS; intro b w hS))))
        rw [decide_eq_true rfl]
        refine s_iff ?_
        (repeat (first | (with_reducible first | apply Q0 | refine Qa hS ?_ | refine Qb ?_ | refine Qc hS ?_ | refine Qd ?_) | ((with_reducible refine Qe hS ?_); clear hS; intro w hS; simp only [List.set] at hS) | ((with_reducible first | refine s_draw hS ?_ | refine Qf hS ?_); clear hS; intro w hS) | ((with_reducible first | refine s_new hS ?_ | refine Qg hS ?_); clear hS; intro b w hS)))
        refine ⟨⟨q + 1, ?_, by omega, SL.into hS Xi⟩, by dsimp only; omega⟩
        congr 2
      · (repeat (first | (with_reducible first | apply Q0 | refine Qa hS ?_ | refine Qb ?_ | refine Qc hS ?_ | refine Qd ?_) | ((with_reducible refine Qe hS ?_); clear hS; intro w hS; simp only [List.set] at hS) | ((with_reducible first | refine s_draw hS ?_ | refine Qf hS ?_); clear hS; intro w hS) | ((with_reducible first | refine s_new hS ?_ | refine Qg hS ?_); clear hS; intro b w hS)))
        (apply s_call (lowO_spec lp dp g2 hg2 (by omega)) hS; exact Xp; clear hS)
        (rintro v post ⟨rfl, rfl⟩ w hS; (try simp only [app] at hS); (repeat (first | (with_reducible first | apply Q0 | refine Qa hS ?_ | refine Qb ?_ | refine Qc hS ?_ | refine Qd ?_) | ((with_reducible refine Qe hS ?_); clear hS; intro w hS; simp only [List.set] at hS) | ((with_reducible first | refine s_draw hS ?_ | refine Qf hS ?_); clear hS; intro w hS) | ((with_reducible first | refine s_new hS ?_ | refine Qg hS ?_); clear hS; intro b w hS))))
        rw [hlow]
        (repeat (first | (with_reducible first | apply Q0 | refine Qa hS ?_ | refine Qb ?_ | refine Qc hS ?_ | refine Qd ?_) | ((with_reducible refine Qe hS ?_); clear hS; intro w hS; simp only [List.set] at hS) | ((with_reducible first | refine s_draw hS ?_ | refine Qf hS ?_); clear hS; intro w hS) | ((with_reducible first | refine s_new hS ?_ | refine Qg hS ?_); clear hS; intro b w hS)))
        (apply s_call (readO_spec lp2 dp _ hgk (by omega) (1 + (j : Int) - 1) (by omega)) hS; exact Xp; clear hS)
        rintro r post hQ w hS
        have hr : readG g2.segs (1 + (j : Int) - 1) = none := by rw [hL.read, if_neg (by omega)]
        rw [hr] at hQ
        obtain ⟨rfl, rfl⟩ := hQ
        (try simp only [app] at hS)
        (repeat (first | (with_reducible first | apply Q0 | refine Qa hS ?_ | refine Qb ?_ | refine Qc hS ?_ | refine Qd ?_) | ((with_reducible refine Qe hS ?_); clear hS; intro w hS; simp only [List.set] at hS) | ((with_reducible first | refine s_draw hS ?_ | refine Qf hS ?_); clear hS; intro w hS) | ((with_reducible first | refine s_new hS ?_ | refine Qg hS ?_); clear hS; intro b w hS)))
        exact ⟨_, ⟨rfl, H, [], Heap.le_refl H, rfl⟩, SL.into hS Xi⟩
theorem walTrims_law (n lsn : Int) (l : List (List Int)) (ok : ∀ x ∈ l, ∀ y ∈ x, inK .u8 y) (v1 : Value) (w : World) (hl : RdS (tSlice (tInt .u8)) w Nob l v1) :
    Calls Try.prog 4 #[.int .i64 n, v1, .int .i64 lsn] w fun e w' => e = .returned (.bool true) ∧ Below w.heap.size w w' :=
  (law_of_spec (walTrims_spec (Heap.of w) n lsn v1 (toBs l) (hl.bytes ok))).calls
end Go.Proofs.Ytilgfgghjdomcaa
