/-
  Texts of the proof, joined: Own, OpT, BytesT, RowsT, Law06T.
-/
import Derived.Test.YtilgfgghjdomcaaJ9
import Derived.Test.YtilgfgghjdomcaaRows
namespace Go.Proofs.Ytilgfgghjdomcaa
set_option linter.unusedVariables false
theorem Try.own : ownKnob Try.prog.godebug = none := by kernel_rfl
theorem Try.laidOut : laidOutB Try.prog = true := by kernel_rfl
end Go.Proofs.Ytilgfgghjdomcaa
namespace Go.Proofs.Ytilgfgghjdomcaa
set_option linter.unusedVariables false
set_option maxRecDepth 100000
open Go.ChangeShapes Go.WideShapes Go.ChangeAt Go.RowKit

def tAOp : GoT AOp := (tPair (tInt .i64) (tPair (tInt .i64) (tPair (tInt .i64) (tPair tBool (tPair tStr tUnit))))).via fun o => (o.lsn, o.table, o.key, o.gone, o.val, ())
theorem tAOp_rd {w : World} {M : MS} {o : AOp} {cs : List Value} (h : tAOp.rd w M o cs) : cs = encOp o := by
  obtain ⟨c1, c2, rfl, h1, c3, c4, rfl, h3, c5, c6, rfl, h5, c7, c8, rfl, h7, c9, c10, rfl, h9, h10⟩ := h
  have h1' : c1 = [.int .i64 o.lsn] := h1
  have h3' : c3 = [.int .i64 o.table] := h3
  have h5' : c5 = [.int .i64 o.key] := h5
  have h7' : c7 = [.bool o.gone] := h7
  have h9' : c9 = [.string o.val] := h9
  have h10' : c10 = [] := h10
  subst h1' h3' h5' h7' h9' h10'
  rfl
def okAOp (o : AOp) : Prop := inK .i64 o.lsn ∧ inK .i64 o.table ∧ inK .i64 o.key ∧ okStr o.val
/-- A row of one-cell elements: their cells. -/
theorem RdS.cells1 {α : Type} {T : GoT α} (hT : T.n = 1) {w : World} {xs : List α} {v : Value} (h : RdS T w Nob xs v) :
    ∃ vs : List Value, vs.length = xs.length ∧ RdSl (Heap.of w) 1 v xs.length vs ∧ ∀ i (h : i < xs.length) (h' : i < vs.length), T.rd w Nob xs[i] [vs[i]] := by
  obtain ⟨a, cap, rfl, hc, hx⟩ := h.out
  have hex : ∀ i, ∃ u, ∀ h : i < xs.length, T.rd w Nob xs[i] [u] ∧ ∃ b off, a = some ⟨b, off, none⟩ ∧ w.cell? ⟨b, off + i, none⟩ = some u := fun i => by
    by_cases hi : i < xs.length
    · obtain ⟨b, off, cs, ha, hr, hat⟩ := hx i hi
      have hl := T.len hr
      rw [hT] at hl
      match cs, hl with
      | [u], _ =>
        refine ⟨u, fun _ => ⟨hr, b, off, ha, ?_⟩⟩
        have := hat.2 0 u rfl
        rw [hT] at this
        simpa using this
    · exact ⟨undef, fun h => absurd h hi⟩
  obtain ⟨f, hf⟩ := Classical.axiomOfChoice hex
  refine ⟨(List.range xs.length).map f, by simp, ⟨by simp, a, cap, rfl, hc, ?_⟩, fun i hi hi' => ?_⟩
  · rcases Nat.eq_zero_or_pos xs.length with h0 | h0
    · exact .inl h0
    · right
      obtain ⟨_, b, off, rfl, _⟩ := hf 0 h0
      refine ⟨b, off, rfl, fun j u hu => ?_⟩
      have hj : j < xs.length := by have := (List.getElem?_eq_some_iff.1 hu).1; simpa using this
      have hu' : f j = u := by simpa [hj] using hu
      obtain ⟨_, b', off', hab, hcell⟩ := hf j hj
      simp at hab
      obtain ⟨rfl, rfl⟩ := hab
      rw [hu'] at hcell
      unfold World.cell? at hcell
      unfold Heap.cell Heap.of
      simp only at hcell ⊢
      split at hcell
      · rename_i c t f he'; rw [he']; simpa using hcell
      · cases hcell
  · simpa using (hf i hi).1
/-- A row of rows. -/
theorem RdS.rows {α : Type} {T : GoT α} {enc : α → List Value} {w : World} {xss : List (List α)} {v : Value} (h : RdS (tSlice T) w Nob xss v) (he : ∀ {M x cs}, T.rd w M x cs → cs = enc x) (hn : ∀ x, (enc x).length = T.n) :
    ∃ vs : List Value, vs.length = xss.length ∧ RdSl (Heap.of w) 1 v xss.length vs ∧ ∀ i (h : i < xss.length) (h' : i < vs.length), RdSl (Heap.of w) T.n vs[i] xss[i].length (xss[i].map enc).flatten := by
  obtain ⟨vs, h1, h2, h3⟩ := RdS.cells1 rfl h
  refine ⟨vs, h1, h2, fun i hi hi' => ?_⟩
  obtain ⟨u, hu, hr⟩ := h3 i hi hi'
  have : vs[i] = u := by simpa using hu
  rw [this]
  exact hr.flat he hn
end Go.Proofs.Ytilgfgghjdomcaa
namespace Go.Proofs.Ytilgfgghjdomcaa
set_option linter.unusedVariables false
open Go.ChangeShapes Go.WideShapes Go.ChangeAt Go.RowKit

theorem flat_val {α : Type} (f : α → Value) : ∀ l : List α, (l.map fun x => [f x]).flatten = l.map f
  | [] => rfl
  | x :: l => by simp only [List.map_cons, List.flatten_cons, flat_val f l]; rfl
theorem RdS.ints {k : IntKind} {w : World} {l : List Int} {v : Value} (h : RdS (tInt k) w Nob l v) : RdSl (Heap.of w) 1 v l.length (l.map (Value.int k)) := by
  have h2 := h.flat (enc := fun x => [.int k x]) (fun h => h) (fun _ => rfl)
  rw [flat_val] at h2
  exact h2
def toB (x : Int) : UInt8 := UInt8.ofNat x.toNat
theorem toB_c {x : Int} (h : inK .u8 x) : u8c (toB x) = .int .u8 x := by
  have := inK_u8 h
  unfold u8c toB
  congr 1
  rw [UInt8.toNat_ofNat']
  omega
theorem toB_map : ∀ {l : List Int}, (∀ x ∈ l, inK .u8 x) → l.map (Value.int .u8) = (l.map toB).map u8c
  | [], _ => rfl
  | x :: l, h => by
    simp only [List.map_cons, toB_c (h x (.head _))]
    rw [toB_map fun y hy => h y (.tail _ hy)]
theorem RdSl.toB {H : Heap} {v : Value} {l : List Int} (h : RdSl H 1 v l.length (l.map (Value.int .u8))) (hok : ∀ x ∈ l, inK .u8 x) : RdSl H 1 v (l.map toB).length ((l.map toB).map u8c) := by
  rw [toB_map hok] at h
  rw [List.length_map]; exact h
end Go.Proofs.Ytilgfgghjdomcaa
namespace Go.Proofs.Ytilgfgghjdomcaa
set_option linter.unusedVariables false
open Go.ChangeShapes Go.WideShapes Go.ChangeAt Go.RowKit

def toBs (l : List (List Int)) : List (List UInt8) := l.map fun x => x.map toB
theorem RdS.bytes {w : World} {l : List (List Int)} {v : Value} (h : RdS (tSlice (tInt .u8)) w Nob l v) (ok : ∀ x ∈ l, ∀ y ∈ x, inK .u8 y) : RdRows (Heap.of w) v (toBs l) := by
  obtain ⟨vs, h1, h2, h3⟩ := RdS.rows (enc := fun x => [.int .u8 x]) h (fun h => h) (fun _ => rfl)
  refine ⟨vs, by simp [toBs, h1], by simpa [toBs] using h2, fun i hi hi' => ?_⟩
  have hi2 : i < l.length := by simpa [toBs] using hi
  have h4 := h3 i hi2 hi'
  rw [flat_val] at h4
  have h5 := RdSl.toB h4 (fun x hx => ok _ (List.getElem_mem hi2) x hx)
  have e : (toBs l)[i] = l[i].map toB := by simp [toBs]
  rw [e]
  exact h5
theorem okB {l : List (List Int)} {a b : Nat} (h : okSlice a (okSlice b (inK .u8)) l) : ∀ x ∈ l, ∀ y ∈ x, inK .u8 y := fun x hx y hy => (h.2 x hx).2 y hy
end Go.Proofs.Ytilgfgghjdomcaa
namespace Go.Proofs.Ytilgfgghjdomcaa
set_option linter.unusedVariables false
set_option maxRecDepth 100000
open Go.RowKit

theorem walTears_spec (H : Heap) (n k : Int) (v1 kv : Value) (ls : List (List UInt8)) (keep : List Int) (h1 : RdRows H v1 ls) (hk : RdSl H 1 kv keep.length (keep.map (Value.int .i64))) :
    Spec Try.prog 6 [.int .i64 n, v1, .int .i64 k, kv] [.mem H] (fun v post => v = .bool true ∧ ∃ H' l, H.le H' ∧ post = .mem H' :: l) := by
  intro W F w hS; apply vc6; unfold Vc6; (try simp only [app] at hS)
  obtain ⟨sz0, sz1⟩ := szOf_le n
  (apply s_call (newD_spec) hS; exact Xp; clear hS)
  rintro v post ⟨dp, rfl, rfl⟩ w hS
  (try simp only [app] at hS)
  (apply s_call (size_spec6 n) hS; exact Xp; clear hS)
  (rintro v post ⟨rfl, rfl⟩ w hS; (try simp only [app] at hS); (repeat (first | (with_reducible first | apply Q0 | refine Qa hS ?_ | refine Qb ?_ | refine Qc hS ?_ | refine Qd ?_) | ((with_reducible refine Qe hS ?_); clear hS; intro w hS; simp only [List.set] at hS) | ((with_reducible first | refine s_draw hS ?_ | refine Qf hS ?_); clear hS; intro w hS) | ((with_reducible first | refine s_new hS ?_ | refine Qg hS ?_); clear hS; intro b w hS))))
  (apply s_call (openL_spec dp s00 0 (szOf n) (s00_ok 0) (by decide) (by decide) (by decide)) hS; exact Xp; clear hS)
  rintro r post hQ w hS
  rw [open00 (by decide) (by decide) sz0 sz1] at hQ
  obtain ⟨lp, rfl, rfl⟩ := hQ
  (try simp only [app] at hS)
  (repeat (first | (with_reducible first | apply Q0 | refine Qa hS ?_ | refine Qb ?_ | refine Qc hS ?_ | refine Qd ?_) | ((with_reducible refine Qe hS ?_); clear hS; intro w hS; simp only [List.set] at hS) | ((with_reducible first | refine s_draw hS ?_ | refine Qf hS ?_); clear hS; intro w hS) | ((with_reducible first | refine s_new hS ?_ | refine Qg hS ?_); clear hS; intro b w hS)))
  (apply s_call (awake06_spec) hS; exact Xp; clear hS)
  (rintro v post ⟨rfl, rfl⟩ w hS; (try simp only [app] at hS); (repeat (first | (with_reducible first | apply Q0 | refine Qa hS ?_ | refine Qb ?_ | refine Qc hS ?_ | refine Qd ?_) | ((with_reducible refine Qe hS ?_); clear hS; intro w hS; simp only [List.set] at hS) | ((with_reducible first | refine s_draw hS ?_ | refine Qf hS ?_); clear hS; intro w hS) | ((with_reducible first | refine s_new hS ?_ | refine Qg hS ?_); clear hS; intro b w hS))))
  refine s_iff ?_
  (repeat (first | (with_reducible first | apply Q0 | refine Qa hS ?_ | refine Qb ?_ | refine Qc hS ?_ | refine Qd ?_) | ((with_reducible refine Qe hS ?_); clear hS; intro w hS; simp only [List.set] at hS) | ((with_reducible first | refine s_draw hS ?_ | refine Qf hS ?_); clear hS; intro w hS) | ((with_reducible first | refine s_new hS ?_ | refine Qg hS ?_); clear hS; intro b w hS)))
  refine s_iff ?_
  (repeat (first | (with_reducible first | apply Q0 | refine Qa hS ?_ | refine Qb ?_ | refine Qc hS ?_ | refine Qd ?_) | ((with_reducible refine Qe hS ?_); clear hS; intro w hS; simp only [List.set] at hS) | ((with_reducible first | refine s_draw hS ?_ | refine Qf hS ?_); clear hS; intro w hS) | ((with_reducible first | refine s_new hS ?_ | refine Qg hS ?_); clear hS; intro b w hS)))
  refine s_iff ?_
  (repeat (first | (with_reducible first | apply Q0 | refine Qa hS ?_ | refine Qb ?_ | refine Qc hS ?_ | refine Qd ?_) | ((with_reducible refine Qe hS ?_); clear hS; intro w hS; simp only [List.set] at hS) | ((with_reducible first | refine s_draw hS ?_ | refine Qf hS ?_); clear hS; intro w hS) | ((with_reducible first | refine s_new hS ?_ | refine Qg hS ?_); clear hS; intro b w hS)))
  refine s_ifp (fun h => absurd rfl h) (fun _ => ?_)
  have hK0 : LS ls 0 0 ⟨[], 0, szOf n, none⟩ s00 := LS.init (by decide) (by decide) sz0 sz1
  refine ⟨fun vs w => ∃ (i : Nat) (g : PLog) (d : DS), vs = [.int .i64 i] ∧ i ≤ 20 ∧ LS ls i 0 g d ∧ SL W (.ob (DskO dp d) :: .mem H :: F) w, ?_, ?_⟩
  · refine ⟨fun vs w => ∃ (lp i : Nat) (g : PLog) (d : DS), vs = [.pointer (some ⟨lp, 0, none⟩), .int .i64 i, .int .i64 i] ∧ i ≤ 20 ∧ LS ls i 0 g d ∧ SL W (.ob (LogO lp dp g) :: .ob (DskO dp d) :: .mem H :: F) w,
      fun vs _ => match vs with | [_, _, .int _ i] => (30 - i).toNat | _ => 0, ⟨lp, 0, _, _, rfl, by omega, hK0, SL.into hS Xi⟩, ?_⟩
    clear hS hK0 lp
    rintro v10 v12 v13 w ⟨lp, i, g, d, hvs, hi, hK, hS⟩
    cases hvs
    have hlen := hK.len
    have hgok := hK.gok
    have hdok := hK.dok
    have hops := hK.ops
    refine s_lenRR h1 ?_
    (repeat (first | (with_reducible first | apply Q0 | refine Qa hS ?_ | refine Qb ?_ | refine Qc hS ?_ | refine Qd ?_) | ((with_reducible refine Qe hS ?_); clear hS; intro w hS; simp only [List.set] at hS) | ((with_reducible first | refine s_draw hS ?_ | refine Qf hS ?_); clear hS; intro w hS) | ((with_reducible first | refine s_new hS ?_ | refine Qg hS ?_); clear hS; intro b w hS)))
    refine s_ifp (fun ha => ?_) (fun ha => ⟨i, g, d, rfl, hi, hK, SL.into hS Xi⟩)
    have hl : i < ls.length := by omega
    (repeat (first | (with_reducible first | apply Q0 | refine Qa hS ?_ | refine Qb ?_ | refine Qc hS ?_ | refine Qd ?_) | ((with_reducible refine Qe hS ?_); clear hS; intro w hS; simp only [List.set] at hS) | ((with_reducible first | refine s_draw hS ?_ | refine Qf hS ?_); clear hS; intro w hS) | ((with_reducible first | refine s_new hS ?_ | refine Qg hS ?_); clear hS; intro b w hS)))
    refine s_ifp (fun hb => ?_) (fun hb => ⟨i, g, d, rfl, hi, hK, SL.into hS Xi⟩)
    have hi2 : i < 20 := by omega
    (repeat (first | (with_reducible first | apply Q0 | refine Qa hS ?_ | refine Qb ?_ | refine Qc hS ?_ | refine Qd ?_) | ((with_reducible refine Qe hS ?_); clear hS; intro w hS; simp only [List.set] at hS) | ((with_reducible first | refine s_draw hS ?_ | refine Qf hS ?_); clear hS; intro w hS) | ((with_reducible first | refine s_new hS ?_ | refine Qg hS ?_); clear hS; intro b w hS)))
    refine s_getRR hS Xh h1 hl ?_
    intro u hu
    refine s_lenR hu ?_
    (repeat (first | (with_reducible first | apply Q0 | refine Qa hS ?_ | refine Qb ?_ | refine Qc hS ?_ | refine Qd ?_) | ((with_reducible refine Qe hS ?_); clear hS; intro w hS; simp only [List.set] at hS) | ((with_reducible first | refine s_draw hS ?_ | refine Qf hS ?_); clear hS; intro w hS) | ((with_reducible first | refine s_new hS ?_ | refine Qg hS ?_); clear hS; intro b w hS)))
    refine s_ifp (fun hc => ?_) (fun hc => ?_)
    · refine s_getRR hS Xh h1 hl ?_
      intro u hu
      refine s_lenR hu ?_
      (repeat (first | (with_reducible first | apply Q0 | refine Qa hS ?_ | refine Qb ?_ | refine Qc hS ?_ | refine Qd ?_) | ((with_reducible refine Qe hS ?_); clear hS; intro w hS; simp only [List.set] at hS) | ((with_reducible first | refine s_draw hS ?_ | refine Qf hS ?_); clear hS; intro w hS) | ((with_reducible first | refine s_new hS ?_ | refine Qg hS ?_); clear hS; intro b w hS)))
      rw [decide_eq_true hc]
      exact ⟨_, ⟨rfl, H, [], Heap.le_refl H, rfl⟩, SL.into hS Xi⟩
    have hlen : ls[i].length ≤ 1000 := by omega
    clear hu
    refine s_getRR2 hS Xh h1 hl ?_
    intro pp u hu hre
    (apply s_call (mod_spec k 3000 (by decide) (by decide)) hS; exact Xp; clear hS)
    rintro v post ⟨rfl, rfl⟩ w hS
    (try simp only [app] at hS)
    refine hre w _ hS H (Heap.le_refl H) Xh _ ⟨rfl, ?_⟩
    (apply s_call (tearL_spec (.mem H) lp dp g d u ls[i] (md k 3000 : Nat) (Rdb.rd hu) (by omega) hgok (by omega) hdok (by omega) (by omega)) hS; exact Xp; clear hS)
    obtain ⟨g1, d1, e, hhd, hg1, hd1, ho1, hr1, ⟨g3, d3, e3, hL3⟩, hcr⟩ := hK.tear (by omega) hl hlen (k := (md k 3000 : Nat)) (by omega)
    rw [e]
    (rintro v post ⟨rfl, rfl⟩ w hS; (try simp only [app] at hS); (repeat (first | (with_reducible first | apply Q0 | refine Qa hS ?_ | refine Qb ?_ | refine Qc hS ?_ | refine Qd ?_) | ((with_reducible refine Qe hS ?_); clear hS; intro w hS; simp only [List.set] at hS) | ((with_reducible first | refine s_draw hS ?_ | refine Qf hS ?_); clear hS; intro w hS) | ((with_reducible first | refine s_new hS ?_ | refine Qg hS ?_); clear hS; intro b w hS))))
    refine s_ifp (fun h => absurd rfl h) (fun _ => ?_)
    (repeat (first | (with_reducible first | apply Q0 | refine Qa hS ?_ | refine Qb ?_ | refine Qc hS ?_ | refine Qd ?_) | ((with_reducible refine Qe hS ?_); clear hS; intro w hS; simp only [List.set] at hS) | ((with_reducible first | refine s_draw hS ?_ | refine Qf hS ?_); clear hS; intro w hS) | ((with_reducible first | refine s_new hS ?_ | refine Qg hS ?_); clear hS; intro b w hS)))
    (apply s_call (headO_spec lp dp g1 hg1 (by omega)) hS; exact Xp; clear hS)
    (rintro v post ⟨rfl, rfl⟩ w hS; (try simp only [app] at hS); (repeat (first | (with_reducible first | apply Q0 | refine Qa hS ?_ | refine Qb ?_ | refine Qc hS ?_ | refine Qd ?_) | ((with_reducible refine Qe hS ?_); clear hS; intro w hS; simp only [List.set] at hS) | ((with_reducible first | refine s_draw hS ?_ | refine Qf hS ?_); clear hS; intro w hS) | ((with_reducible first | refine s_new hS ?_ | refine Qg hS ?_); clear hS; intro b w hS))))
    rw [hhd]
    refine s_ifp (fun h => absurd rfl h) (fun _ => ?_)
    have hnext : ∀ {w : World} {lp : Nat} {g2 : PLog} {d2 : DS}, g2.Ok 1000000 → d2.Ok (i * 4000 + 1100) → d2.ops ≤ 8 * i + 3 → (∃ g3 d3, appendG g2 d2 ls[i] = ((g3, d3), (((i + 1 : Nat) : Int), 0)) ∧ LS ls (i + 1) 0 g3 d3) → SL W (.ob (LogO lp dp g2) :: .ob (DskO dp d2) :: .mem H :: F) w →
        ∀ (K : Value → World → Prop), (∀ w' (g3 : PLog) (d3 : DS), LS ls (i + 1) 0 g3 d3 → SL W (.ob (LogO lp dp g3) :: .ob (DskO dp d3) :: .mem H :: F) w' → K (.tuple #[.int .i64 ((i + 1 : Nat) : Int), .int .i64 0]) w') →
        HIdx 1 v1 (.int .i64 (i : Int)) fun v115 => HLd v115 w fun v116 => HCall Try.prog 11 [.pointer (some ⟨lp, 0, none⟩), v116] w K := by
      intro w lp g2 d2 hg2 hd2 ho2 ⟨g3, d3, e3, hL3⟩ hS K hK
      refine s_getRR hS Xh h1 hl ?_
      intro u hu
      refine s_call (appendL_spec (.mem H) lp dp g2 d2 u ls[i] (Rdb.rd hu) (by omega) hg2 (by omega) hd2 (by omega) (by omega)) hS Xp ?_
      rw [e3]
      rintro v post ⟨rfl, rfl⟩ w hS
      exact hK w g3 d3 hL3 hS
    refine ⟨fun vs w => ∃ (lp : Nat) (g2 : PLog) (d2 : DS), vs = [.pointer (some ⟨lp, 0, none⟩)] ∧ g2.Ok 1000000 ∧ d2.Ok (i * 4000 + 1100) ∧ d2.ops ≤ 8 * i + 3 ∧ (∃ g3 d3, appendG g2 d2 ls[i] = ((g3, d3), (((i + 1 : Nat) : Int), 0)) ∧ LS ls (i + 1) 0 g3 d3) ∧ SL W (.ob (LogO lp dp g2) :: .ob (DskO dp d2) :: .mem H :: F) w, ?_, ?_⟩
    · refine s_rem (by decide) ?_
      (repeat (first | (with_reducible first | apply Q0 | refine Qa hS ?_ | refine Qb ?_ | refine Qc hS ?_ | refine Qd ?_) | ((with_reducible refine Qe hS ?_); clear hS; intro w hS; simp only [List.set] at hS) | ((with_reducible first | refine s_draw hS ?_ | refine Qf hS ?_); clear hS; intro w hS) | ((with_reducible first | refine s_new hS ?_ | refine Qg hS ?_); clear hS; intro b w hS)))
      refine s_ifp (fun hodd => ?_) (fun hodd => ⟨lp, g1, d1, rfl, hg1, hd1, by omega, ⟨g3, d3, e3, hL3⟩, SL.into hS Xi⟩)
      (repeat (first | (with_reducible first | apply Q0 | refine Qa hS ?_ | refine Qb ?_ | refine Qc hS ?_ | refine Qd ?_) | ((with_reducible refine Qe hS ?_); clear hS; intro w hS; simp only [List.set] at hS) | ((with_reducible first | refine s_draw hS ?_ | refine Qf hS ?_); clear hS; intro w hS) | ((with_reducible first | refine s_new hS ?_ | refine Qg hS ?_); clear hS; intro b w hS)))
      (apply s_call (crashD_spec H dp d1 _ hd1 (by omega) (by omega) kv keep hk) hS; exact Xp; clear hS)
      (rintro v post ⟨rfl, rfl⟩ w hS; (try simp only [app] at hS); (repeat (first | (with_reducible first | apply Q0 | refine Qa hS ?_ | refine Qb ?_ | refine Qc hS ?_ | refine Qd ?_) | ((with_reducible refine Qe hS ?_); clear hS; intro w hS; simp only [List.set] at hS) | ((with_reducible first | refine s_draw hS ?_ | refine Qf hS ?_); clear hS; intro w hS) | ((with_reducible first | refine s_new hS ?_ | refine Qg hS ?_); clear hS; intro b w hS))))
      (apply s_call (size_spec6 n) hS; exact Xp; clear hS)
      (rintro v post ⟨rfl, rfl⟩ w hS; (try simp only [app] at hS); (repeat (first | (with_reducible first | apply Q0 | refine Qa hS ?_ | refine Qb ?_ | refine Qc hS ?_ | refine Qd ?_) | ((with_reducible refine Qe hS ?_); clear hS; intro w hS; simp only [List.set] at hS) | ((with_reducible first | refine s_draw hS ?_ | refine Qf hS ?_); clear hS; intro w hS) | ((with_reducible first | refine s_new hS ?_ | refine Qg hS ?_); clear hS; intro b w hS))))
      have hcok := hd1.crash keep
      have hcl : (d1.crash keep).R.length ≤ 100000 := by simp only [DS.crash, crashR, List.length_mapIdx]; omega
      obtain ⟨g2, d2, e2, hh2, hg2, hd2, ho2, hx2⟩ := hcr keep (szOf n) sz0 sz1
      (apply s_call (openL_spec dp (d1.crash keep) 0 (szOf n) hcok (by omega) hcl (by simp only [DS.crash]; omega)) hS; exact Xp; clear hS)
      rintro r post hQ w hS
      rw [e2] at hQ
      obtain ⟨lp2, rfl, rfl⟩ := hQ
      (try simp only [app] at hS)
      (repeat (first | (with_reducible first | apply Q0 | refine Qa hS ?_ | refine Qb ?_ | refine Qc hS ?_ | refine Qd ?_) | ((with_reducible refine Qe hS ?_); clear hS; intro w hS; simp only [List.set] at hS) | ((with_reducible first | refine s_draw hS ?_ | refine Qf hS ?_); clear hS; intro w hS) | ((with_reducible first | refine s_new hS ?_ | refine Qg hS ?_); clear hS; intro b w hS)))
      refine s_ifp (fun h => absurd rfl h) (fun _ => ?_)
      (repeat (first | (with_reducible first | apply Q0 | refine Qa hS ?_ | refine Qb ?_ | refine Qc hS ?_ | refine Qd ?_) | ((with_reducible refine Qe hS ?_); clear hS; intro w hS; simp only [List.set] at hS) | ((with_reducible first | refine s_draw hS ?_ | refine Qf hS ?_); clear hS; intro w hS) | ((with_reducible first | refine s_new hS ?_ | refine Qg hS ?_); clear hS; intro b w hS)))
      refine s_iff ?_
      (repeat (first | (with_reducible first | apply Q0 | refine Qa hS ?_ | refine Qb ?_ | refine Qc hS ?_ | refine Qd ?_) | ((with_reducible refine Qe hS ?_); clear hS; intro w hS; simp only [List.set] at hS) | ((with_reducible first | refine s_draw hS ?_ | refine Qf hS ?_); clear hS; intro w hS) | ((with_reducible first | refine s_new hS ?_ | refine Qg hS ?_); clear hS; intro b w hS)))
      (apply s_call (headO_spec lp2 dp g2 hg2 (by omega)) hS; exact Xp; clear hS)
      (rintro v post ⟨rfl, rfl⟩ w hS; (try simp only [app] at hS); (repeat (first | (with_reducible first | apply Q0 | refine Qa hS ?_ | refine Qb ?_ | refine Qc hS ?_ | refine Qd ?_) | ((with_reducible refine Qe hS ?_); clear hS; intro w hS; simp only [List.set] at hS) | ((with_reducible first | refine s_draw hS ?_ | refine Qf hS ?_); clear hS; intro w hS) | ((with_reducible first | refine s_new hS ?_ | refine Qg hS ?_); clear hS; intro b w hS))))
      rw [hh2]
      refine s_ifp (fun h => absurd rfl h) (fun _ => ?_)
      exact ⟨lp2, g2, d2, rfl, hg2, hd2, ho2, hx2, SL.into hS Xi⟩
    · clear hS
      rintro v10 w ⟨lp2, g2, d2, hvs, hg2, hd2, ho2, hx2, hS⟩
      cases hvs
      refine hnext hg2 hd2 ho2 hx2 hS _ ?_
      clear hS
      intro w g3 d3 hL hS
      (repeat (first | (with_reducible first | apply Q0 | refine Qa hS ?_ | refine Qb ?_ | refine Qc hS ?_ | refine Qd ?_) | ((with_reducible refine Qe hS ?_); clear hS; intro w hS; simp only [List.set] at hS) | ((with_reducible first | refine s_draw hS ?_ | refine Qf hS ?_); clear hS; intro w hS) | ((with_reducible first | refine s_new hS ?_ | refine Qg hS ?_); clear hS; intro b w hS)))
      refine s_ifp (fun h => absurd rfl h) (fun _ => ?_)
      (repeat (first | (with_reducible first | apply Q0 | refine Qa hS ?_ | refine Qb ?_ | refine Qc hS ?_ | refine Qd ?_) | ((with_reducible refine Qe hS ?_); clear hS; intro w hS; simp only [List.set] at hS) | ((with_reducible first | refine s_draw hS ?_ | refine Qf hS ?_); clear hS; intro w hS) | ((with_reducible first | refine s_new hS ?_ | refine Qg hS ?_); clear hS; intro b w hS)))
      refine s_ifp (fun h => absurd rfl h) (fun _ => ?_)
      (repeat (first | (with_reducible first | apply Q0 | refine Qa hS ?_ | refine Qb ?_ | refine Qc hS ?_ | refine Qd ?_) | ((with_reducible refine Qe hS ?_); clear hS; intro w hS; simp only [List.set] at hS) | ((with_reducible first | refine s_draw hS ?_ | refine Qf hS ?_); clear hS; intro w hS) | ((with_reducible first | refine s_new hS ?_ | refine Qg hS ?_); clear hS; intro b w hS)))
      exact ⟨⟨lp2, i + 1, g3, d3, rfl, by omega, hL, SL.into hS Xi⟩, by dsimp only; omega⟩
  · clear hS hK0 lp
    rintro v12 w ⟨i, g, d, hvs, hi, hK, hS⟩
    cases hvs
    have hrl := hK.rlen
    have hdo := hK.dok
    have hops := hK.ops
    have hlen := hK.len
    obtain ⟨g2, d2, ho, hL⟩ := hK.again keep sz0 sz1
    (apply s_call (crashD_spec H dp d _ hdo (by omega) (by omega) kv keep hk) hS; exact Xp; clear hS)
    (rintro v post ⟨rfl, rfl⟩ w hS; (try simp only [app] at hS); (repeat (first | (with_reducible first | apply Q0 | refine Qa hS ?_ | refine Qb ?_ | refine Qc hS ?_ | refine Qd ?_) | ((with_reducible refine Qe hS ?_); clear hS; intro w hS; simp only [List.set] at hS) | ((with_reducible first | refine s_draw hS ?_ | refine Qf hS ?_); clear hS; intro w hS) | ((with_reducible first | refine s_new hS ?_ | refine Qg hS ?_); clear hS; intro b w hS))))
    (apply s_call (size_spec6 n) hS; exact Xp; clear hS)
    (rintro v post ⟨rfl, rfl⟩ w hS; (try simp only [app] at hS); (repeat (first | (with_reducible first | apply Q0 | refine Qa hS ?_ | refine Qb ?_ | refine Qc hS ?_ | refine Qd ?_) | ((with_reducible refine Qe hS ?_); clear hS; intro w hS; simp only [List.set] at hS) | ((with_reducible first | refine s_draw hS ?_ | refine Qf hS ?_); clear hS; intro w hS) | ((with_reducible first | refine s_new hS ?_ | refine Qg hS ?_); clear hS; intro b w hS))))
    have hcok := hdo.crash keep
    have hcl : (d.crash keep).R.length ≤ 100000 := by simp only [DS.crash, crashR, List.length_mapIdx]; omega
    (apply s_call (openL_spec dp (d.crash keep) 0 (szOf n) hcok (by omega) hcl (by simp only [DS.crash]; omega)) hS; exact Xp; clear hS)
    rintro r post hQ w hS
    have hgk := (openG_gok hcok hcl ho).1
    rw [ho] at hQ
    obtain ⟨lp2, rfl, rfl⟩ := hQ
    (try simp only [app] at hS)
    (repeat (first | (with_reducible first | apply Q0 | refine Qa hS ?_ | refine Qb ?_ | refine Qc hS ?_ | refine Qd ?_) | ((with_reducible refine Qe hS ?_); clear hS; intro w hS; simp only [List.set] at hS) | ((with_reducible first | refine s_draw hS ?_ | refine Qf hS ?_); clear hS; intro w hS) | ((with_reducible first | refine s_new hS ?_ | refine Qg hS ?_); clear hS; intro b w hS)))
    refine s_ifp (fun _ => ?_) (fun h => absurd rfl h)
    (repeat (first | (with_reducible first | apply Q0 | refine Qa hS ?_ | refine Qb ?_ | refine Qc hS ?_ | refine Qd ?_) | ((with_reducible refine Qe hS ?_); clear hS; intro w hS; simp only [List.set] at hS) | ((with_reducible first | refine s_draw hS ?_ | refine Qf hS ?_); clear hS; intro w hS) | ((with_reducible first | refine s_new hS ?_ | refine Qg hS ?_); clear hS; intro b w hS)))
    refine s_ift ?_
    (repeat (first | (with_reducible first | apply Q0 | refine Qa hS ?_ | refine Qb ?_ | refine Qc hS ?_ | refine Qd ?_) | ((with_reducible refine Qe hS ?_); clear hS; intro w hS; simp only [List.set] at hS) | ((with_reducible first | refine s_draw hS ?_ | refine Qf hS ?_); clear hS; intro w hS) | ((with_reducible first | refine s_new hS ?_ | refine Qg hS ?_); clear hS; intro b w hS)))
    have hhd : headG g2.segs = i := by rw [hL.head, hlen]; omega
    (apply s_call (headO_spec lp2 dp g2 hgk (by omega)) hS; exact Xp; clear hS)
    (rintro v post ⟨rfl, rfl⟩ w hS; (try simp only [app] at hS); (repeat (first | (with_reducible first | apply Q0 | refine Qa hS ?_ | refine Qb ?_ | refine Qc hS ?_ | refine Qd ?_) | ((with_reducible refine Qe hS ?_); clear hS; intro w hS; simp only [List.set] at hS) | ((with_reducible first | refine s_draw hS ?_ | refine Qf hS ?_); clear hS; intro w hS) | ((with_reducible first | refine s_new hS ?_ | refine Qg hS ?_); clear hS; intro b w hS))))
    rw [hhd]
    refine s_ifp (fun _ => ?_) (fun h => absurd rfl h)
    (repeat (first | (with_reducible first | apply Q0 | refine Qa hS ?_ | refine Qb ?_ | refine Qc hS ?_ | refine Qd ?_) | ((with_reducible refine Qe hS ?_); clear hS; intro w hS; simp only [List.set] at hS) | ((with_reducible first | refine s_draw hS ?_ | refine Qf hS ?_); clear hS; intro w hS) | ((with_reducible first | refine s_new hS ?_ | refine Qg hS ?_); clear hS; intro b w hS)))
    (apply s_call (lowO_spec lp2 dp g2 hgk (by omega)) hS; exact Xp; clear hS)
    (rintro v post ⟨rfl, rfl⟩ w hS; (try simp only [app] at hS); (repeat (first | (with_reducible first | apply Q0 | refine Qa hS ?_ | refine Qb ?_ | refine Qc hS ?_ | refine Qd ?_) | ((with_reducible refine Qe hS ?_); clear hS; intro w hS; simp only [List.set] at hS) | ((with_reducible first | refine s_draw hS ?_ | refine Qf hS ?_); clear hS; intro w hS) | ((with_reducible first | refine s_new hS ?_ | refine Qg hS ?_); clear hS; intro b w hS))))
    rw [hL.low]
    exact ⟨_, ⟨rfl, H, [], Heap.le_refl H, rfl⟩, SL.into hS Xi⟩
theorem walTears_law (n k : Int) (l : List (List Int)) (keep : List Int) (ok : ∀ x ∈ l, ∀ y ∈ x, inK .u8 y) (v1 v3 : Value) (w : World) (hl : RdS (tSlice (tInt .u8)) w Nob l v1) (hk : RdS (tInt .i64) w Nob keep v3) :
    Calls Try.prog 6 #[.int .i64 n, v1, .int .i64 k, v3] w fun e w' => e = .returned (.bool true) ∧ Below w.heap.size w w' :=
  (law_of_spec (walTears_spec (Heap.of w) n k v1 v3 (toBs l) keep (hl.bytes ok) hk.ints)).calls
end Go.Proofs.Ytilgfgghjdomcaa
