/-
  Texts of the proof, joined: Own, OpT, BytesT, RowsT, Law06N.
-/
import Derived.Test.YtilgfgghjdomcaaJ9
import Derived.Test.YtilgfgghjdomcaaRows
namespace Go.Proofs.Ytilgfgghjdomcaa
set_option linter.unusedVariables false
theorem Try.own : ownKnob Try.prog.godebug = none := by kernel_rfl
theorem Try.laidOut : laidOutB Try.prog = true := by kernel_rfl
end Go.Proofs.Ytilgfgghjdomcaa
namespace Go.Proofs.Ytilgfgghjdomcaa
set_option linter.unusedVariables false
set_option maxRecDepth 100000
open Go.ChangeShapes Go.WideShapes Go.ChangeAt Go.RowKit

def tAOp : GoT AOp := (tPair (tInt .i64) (tPair (tInt .i64) (tPair (tInt .i64) (tPair tBool (tPair tStr tUnit))))).via fun o => (o.lsn, o.table, o.key, o.gone, o.val, ())
theorem tAOp_rd {w : World} {M : MS} {o : AOp} {cs : List Value} (h : tAOp.rd w M o cs) : cs = encOp o := by
  obtain ⟨c1, c2, rfl, h1, c3, c4, rfl, h3, c5, c6, rfl, h5, c7, c8, rfl, h7, c9, c10, rfl, h9, h10⟩ := h
  have h1' : c1 = [.int .i64 o.lsn] := h1
  have h3' : c3 = [.int .i64 o.table] := h3
  have h5' : c5 = [.int .i64 o.key] := h5
  have h7' : c7 = [.bool o.gone] := h7
  have h9' : c9 = [.string o.val] := h9
  have h10' : c10 = [] := h10
  subst h1' h3' h5' h7' h9' h10'
  rfl
def okAOp (o : AOp) : Prop := inK .i64 o.lsn ∧ inK .i64 o.table ∧ inK .i64 o.key ∧ okStr o.val
/-- A row of one-cell elements: their cells. -/
theorem RdS.cells1 {α : Type} {T : GoT α} (hT : T.n = 1) {w : World} {xs : List α} {v : Value} (h : RdS T w Nob xs v) :
    ∃ vs : List Value, vs.length = xs.length ∧ RdSl (Heap.of w) 1 v xs.length vs ∧ ∀ i (h : i < xs.length) (h' : i < vs.length), T.rd w Nob xs[i] [vs[i]] := by
  obtain ⟨a, cap, rfl, hc, hx⟩ := h.out
  have hex : ∀ i, ∃ u, ∀ h : i < xs.length, T.rd w Nob xs[i] [u] ∧ ∃ b off, a = some ⟨b, off, none⟩ ∧ w.cell? ⟨b, off + i, none⟩ = some u := fun i => by
    by_cases hi : i < xs.length
    · obtain ⟨b, off, cs, ha, hr, hat⟩ := hx i hi
      have hl := T.len hr
      rw [hT] at hl
      match cs, hl with
      | [u], _ =>
        refine ⟨u, fun _ => ⟨hr, b, off, ha, ?_⟩⟩
        have := hat.2 0 u rfl
        rw [hT] at this
        simpa using this
    · exact ⟨undef, fun h => absurd h hi⟩
  obtain ⟨f, hf⟩ := Classical.axiomOfChoice hex
  refine ⟨(List.range xs.length).map f, by simp, ⟨by simp, a, cap, rfl, hc, ?_⟩, fun i hi hi' => ?_⟩
  · rcases Nat.eq_zero_or_pos xs.length with h0 | h0
    · exact .inl h0
    · right
      obtain ⟨_, b, off, rfl, _⟩ := hf 0 h0
      refine ⟨b, off, rfl, fun j u hu => ?_⟩
      have hj : j < xs.length := by have := (List.getElem?_eq_some_iff.1 hu).1; simpa using this
      have hu' : f j = u := by simpa [hj] using hu
      obtain ⟨_, b', off', hab, hcell⟩ := hf j hj
      simp at hab
      obtain ⟨rfl, rfl⟩ := hab
      rw [hu'] at hcell
      unfold World.cell? at hcell
      unfold Heap.cell Heap.of
      simp only at hcell ⊢
      split at hcell
      · rename_i c t f he'; rw [he']; simpa using hcell
      · cases hcell
  · simpa using (hf i hi).1
/-- A row of rows. -/
theorem RdS.rows {α : Type} {T : GoT α} {enc : α → List Value} {w : World} {xss : List (List α)} {v : Value} (h : RdS (tSlice T) w Nob xss v) (he : ∀ {M x cs}, T.rd w M x cs → cs = enc x) (hn : ∀ x, (enc x).length = T.n) :
    ∃ vs : List Value, vs.length = xss.length ∧ RdSl (Heap.of w) 1 v xss.length vs ∧ ∀ i (h : i < xss.length) (h' : i < vs.length), RdSl (Heap.of w) T.n vs[i] xss[i].length (xss[i].map enc).flatten := by
  obtain ⟨vs, h1, h2, h3⟩ := RdS.cells1 rfl h
  refine ⟨vs, h1, h2, fun i hi hi' => ?_⟩
  obtain ⟨u, hu, hr⟩ := h3 i hi hi'
  have : vs[i] = u := by simpa using hu
  rw [this]
  exact hr.flat he hn
end Go.Proofs.Ytilgfgghjdomcaa
namespace Go.Proofs.Ytilgfgghjdomcaa
set_option linter.unusedVariables false
open Go.ChangeShapes Go.WideShapes Go.ChangeAt Go.RowKit

theorem flat_val {α : Type} (f : α → Value) : ∀ l : List α, (l.map fun x => [f x]).flatten = l.map f
  | [] => rfl
  | x :: l => by simp only [List.map_cons, List.flatten_cons, flat_val f l]; rfl
theorem RdS.ints {k : IntKind} {w : World} {l : List Int} {v : Value} (h : RdS (tInt k) w Nob l v) : RdSl (Heap.of w) 1 v l.length (l.map (Value.int k)) := by
  have h2 := h.flat (enc := fun x => [.int k x]) (fun h => h) (fun _ => rfl)
  rw [flat_val] at h2
  exact h2
def toB (x : Int) : UInt8 := UInt8.ofNat x.toNat
theorem toB_c {x : Int} (h : inK .u8 x) : u8c (toB x) = .int .u8 x := by
  have := inK_u8 h
  unfold u8c toB
  congr 1
  rw [UInt8.toNat_ofNat']
  omega
theorem toB_map : ∀ {l : List Int}, (∀ x ∈ l, inK .u8 x) → l.map (Value.int .u8) = (l.map toB).map u8c
  | [], _ => rfl
  | x :: l, h => by
    simp only [List.map_cons, toB_c (h x (.head _))]
    rw [toB_map fun y hy => h y (.tail _ hy)]
theorem RdSl.toB {H : Heap} {v : Value} {l : List Int} (h : RdSl H 1 v l.length (l.map (Value.int .u8))) (hok : ∀ x ∈ l, inK .u8 x) : RdSl H 1 v (l.map toB).length ((l.map toB).map u8c) := by
  rw [toB_map hok] at h
  rw [List.length_map]; exact h
end Go.Proofs.Ytilgfgghjdomcaa
namespace Go.Proofs.Ytilgfgghjdomcaa
set_option linter.unusedVariables false
open Go.ChangeShapes Go.WideShapes Go.ChangeAt Go.RowKit

def toBs (l : List (List Int)) : List (List UInt8) := l.map fun x => x.map toB
theorem RdS.bytes {w : World} {l : List (List Int)} {v : Value} (h : RdS (tSlice (tInt .u8)) w Nob l v) (ok : ∀ x ∈ l, ∀ y ∈ x, inK .u8 y) : RdRows (Heap.of w) v (toBs l) := by
  obtain ⟨vs, h1, h2, h3⟩ := RdS.rows (enc := fun x => [.int .u8 x]) h (fun h => h) (fun _ => rfl)
  refine ⟨vs, by simp [toBs, h1], by simpa [toBs] using h2, fun i hi hi' => ?_⟩
  have hi2 : i < l.length := by simpa [toBs] using hi
  have h4 := h3 i hi2 hi'
  rw [flat_val] at h4
  have h5 := RdSl.toB h4 (fun x hx => ok _ (List.getElem_mem hi2) x hx)
  have e : (toBs l)[i] = l[i].map toB := by simp [toBs]
  rw [e]
  exact h5
theorem okB {l : List (List Int)} {a b : Nat} (h : okSlice a (okSlice b (inK .u8)) l) : ∀ x ∈ l, ∀ y ∈ x, inK .u8 y := fun x hx y hy => (h.2 x hx).2 y hy
end Go.Proofs.Ytilgfgghjdomcaa
namespace Go.Proofs.Ytilgfgghjdomcaa
set_option linter.unusedVariables false
set_option maxRecDepth 100000
open Go.RowKit

theorem walTorn_spec (H : Heap) (n cut : Int) (v1 pv : Value) (ls : List (List UInt8)) (p : List UInt8) (h1 : RdRows H v1 ls) (hp : RdSl H 1 pv p.length (p.map u8c)) :
    Spec Try.prog 3 [.int .i64 n, v1, .int .i64 cut, pv] [.mem H] (fun v post => v = .bool true ∧ ∃ H' l, H.le H' ∧ post = .mem H' :: l) := by
  intro W F w hS; apply vc3; unfold Vc3; (try simp only [app] at hS)
  obtain ⟨sz0, sz1⟩ := szOf_le n
  (apply s_call (newD_spec) hS; exact Xp; clear hS)
  rintro v post ⟨dp, rfl, rfl⟩ w hS
  (try simp only [app] at hS)
  (apply s_call (size_spec6 n) hS; exact Xp; clear hS)
  (rintro v post ⟨rfl, rfl⟩ w hS; (try simp only [app] at hS); (repeat (first | (with_reducible first | apply Q0 | refine Qa hS ?_ | refine Qb ?_ | refine Qc hS ?_ | refine Qd ?_) | ((with_reducible refine Qe hS ?_); clear hS; intro w hS; simp only [List.set] at hS) | ((with_reducible first | refine s_draw hS ?_ | refine Qf hS ?_); clear hS; intro w hS) | ((with_reducible first | refine s_new hS ?_ | refine Qg hS ?_); clear hS; intro b w hS))))
  (apply s_call (openL_spec dp s00 5 (szOf n) (s00_ok 0) (by decide) (by decide) (by decide)) hS; exact Xp; clear hS)
  rintro r post hQ w hS
  rw [open00 (by decide) (by decide) sz0 sz1] at hQ
  obtain ⟨lp, rfl, rfl⟩ := hQ
  (try simp only [app] at hS)
  (repeat (first | (with_reducible first | apply Q0 | refine Qa hS ?_ | refine Qb ?_ | refine Qc hS ?_ | refine Qd ?_) | ((with_reducible refine Qe hS ?_); clear hS; intro w hS; simp only [List.set] at hS) | ((with_reducible first | refine s_draw hS ?_ | refine Qf hS ?_); clear hS; intro w hS) | ((with_reducible first | refine s_new hS ?_ | refine Qg hS ?_); clear hS; intro b w hS)))
  (apply s_call (awake06_spec) hS; exact Xp; clear hS)
  (rintro v post ⟨rfl, rfl⟩ w hS; (try simp only [app] at hS); (repeat (first | (with_reducible first | apply Q0 | refine Qa hS ?_ | refine Qb ?_ | refine Qc hS ?_ | refine Qd ?_) | ((with_reducible refine Qe hS ?_); clear hS; intro w hS; simp only [List.set] at hS) | ((with_reducible first | refine s_draw hS ?_ | refine Qf hS ?_); clear hS; intro w hS) | ((with_reducible first | refine s_new hS ?_ | refine Qg hS ?_); clear hS; intro b w hS))))
  refine s_iff ?_
  (repeat (first | (with_reducible first | apply Q0 | refine Qa hS ?_ | refine Qb ?_ | refine Qc hS ?_ | refine Qd ?_) | ((with_reducible refine Qe hS ?_); clear hS; intro w hS; simp only [List.set] at hS) | ((with_reducible first | refine s_draw hS ?_ | refine Qf hS ?_); clear hS; intro w hS) | ((with_reducible first | refine s_new hS ?_ | refine Qg hS ?_); clear hS; intro b w hS)))
  refine s_iff ?_
  (repeat (first | (with_reducible first | apply Q0 | refine Qa hS ?_ | refine Qb ?_ | refine Qc hS ?_ | refine Qd ?_) | ((with_reducible refine Qe hS ?_); clear hS; intro w hS; simp only [List.set] at hS) | ((with_reducible first | refine s_draw hS ?_ | refine Qf hS ?_); clear hS; intro w hS) | ((with_reducible first | refine s_new hS ?_ | refine Qg hS ?_); clear hS; intro b w hS)))
  refine s_iff ?_
  (repeat (first | (with_reducible first | apply Q0 | refine Qa hS ?_ | refine Qb ?_ | refine Qc hS ?_ | refine Qd ?_) | ((with_reducible refine Qe hS ?_); clear hS; intro w hS; simp only [List.set] at hS) | ((with_reducible first | refine s_draw hS ?_ | refine Qf hS ?_); clear hS; intro w hS) | ((with_reducible first | refine s_new hS ?_ | refine Qg hS ?_); clear hS; intro b w hS)))
  refine s_ifp (fun h => absurd rfl h) (fun _ => ?_)
  have haw : ∀ {w : World}, SL W (.mem H :: F) w → HCall Try.prog 10 [] w fun v w' => ∃ post, (v = .bool true ∧ ∃ H' l, H.le H' ∧ post = .mem H' :: l) ∧ SL W (app post F) w' := by
    intro w hS
    (apply s_call (awake06_spec) hS; exact Xp; clear hS)
    rintro v post ⟨rfl, rfl⟩ w hS
    exact ⟨_, ⟨rfl, H, [], Heap.le_refl H, rfl⟩, hS⟩
  refine s_lenRR h1 ?_
  (repeat (first | (with_reducible first | apply Q0 | refine Qa hS ?_ | refine Qb ?_ | refine Qc hS ?_ | refine Qd ?_) | ((with_reducible refine Qe hS ?_); clear hS; intro w hS; simp only [List.set] at hS) | ((with_reducible first | refine s_draw hS ?_ | refine Qf hS ?_); clear hS; intro w hS) | ((with_reducible first | refine s_new hS ?_ | refine Qg hS ?_); clear hS; intro b w hS)))
  refine s_ifp (fun _ => haw (SL.into hS Xi)) (fun hne => ?_)
  refine s_lenRR h1 ?_
  (repeat (first | (with_reducible first | apply Q0 | refine Qa hS ?_ | refine Qb ?_ | refine Qc hS ?_ | refine Qd ?_) | ((with_reducible refine Qe hS ?_); clear hS; intro w hS; simp only [List.set] at hS) | ((with_reducible first | refine s_draw hS ?_ | refine Qf hS ?_); clear hS; intro w hS) | ((with_reducible first | refine s_new hS ?_ | refine Qg hS ?_); clear hS; intro b w hS)))
  refine s_ifp (fun _ => haw (SL.into hS Xi)) (fun h30 => ?_)
  refine s_lenR hp ?_
  (repeat (first | (with_reducible first | apply Q0 | refine Qa hS ?_ | refine Qb ?_ | refine Qc hS ?_ | refine Qd ?_) | ((with_reducible refine Qe hS ?_); clear hS; intro w hS; simp only [List.set] at hS) | ((with_reducible first | refine s_draw hS ?_ | refine Qf hS ?_); clear hS; intro w hS) | ((with_reducible first | refine s_new hS ?_ | refine Qg hS ?_); clear hS; intro b w hS)))
  refine s_ifp (fun _ => haw (SL.into hS Xi)) (fun hp1 => ?_)
  have hK0 : LS ls 0 5 ⟨[], 5, szOf n, none⟩ s00 := LS.init (by decide) (by decide) sz0 sz1
  have hne' : ls ≠ [] := fun e => hne (by rw [e]; rfl)
  refine ⟨fun vs w => ∃ (i : Nat) (g : PLog) (d : DS), vs = [.int .i64 i] ∧ LS ls i 5 g d ∧ (∀ s ∈ g.segs, s.l ≠ []) ∧ SL W (.ob (LogO lp dp g) :: .ob (DskO dp d) :: .mem H :: F) w,
    fun vs _ => match vs with | [.int _ i] => (ls.length - i).toNat | _ => 0, ⟨0, _, _, rfl, hK0, by simp, SL.into hS Xi⟩, ?_⟩
  clear hS hK0
  rintro v12 w ⟨i, g, d, hvs, hK, hfull, hS⟩
  cases hvs
  have hil := hK.il
  have hgok := hK.gok
  have hdok := hK.dok
  have hops := hK.ops
  refine s_lenRR h1 ?_
  (repeat (first | (with_reducible first | apply Q0 | refine Qa hS ?_ | refine Qb ?_ | refine Qc hS ?_ | refine Qd ?_) | ((with_reducible refine Qe hS ?_); clear hS; intro w hS; simp only [List.set] at hS) | ((with_reducible first | refine s_draw hS ?_ | refine Qf hS ?_); clear hS; intro w hS) | ((with_reducible first | refine s_new hS ?_ | refine Qg hS ?_); clear hS; intro b w hS)))
  refine s_ifp (fun ha => ?_) (fun ha => ?_)
  · have hl : i < ls.length := by omega
    refine s_getRR hS Xh h1 hl ?_
    intro u hu
    refine s_lenR hu ?_
    (repeat (first | (with_reducible first | apply Q0 | refine Qa hS ?_ | refine Qb ?_ | refine Qc hS ?_ | refine Qd ?_) | ((with_reducible refine Qe hS ?_); clear hS; intro w hS; simp only [List.set] at hS) | ((with_reducible first | refine s_draw hS ?_ | refine Qf hS ?_); clear hS; intro w hS) | ((with_reducible first | refine s_new hS ?_ | refine Qg hS ?_); clear hS; intro b w hS)))
    refine s_ifp (fun hc => ⟨_, ⟨rfl, H, [], Heap.le_refl H, rfl⟩, SL.into hS Xi⟩) (fun hc => ?_)
    have hlen : ls[i].length ≤ 1000 := by omega
    refine s_getRR hS Xh h1 hl ?_
    clear hu
    intro u hu
    obtain ⟨g', d', e, hK', _, hf'⟩ := hK.step (by omega) hl hlen (by decide)
    (apply s_call (appendL_spec (.mem H) lp dp g d u ls[i] (Rdb.rd hu) (by omega) hgok (by omega) hdok (by omega) (by omega)) hS; exact Xp; clear hS)
    rw [e]
    (rintro v post ⟨rfl, rfl⟩ w hS; (try simp only [app] at hS); (repeat (first | (with_reducible first | apply Q0 | refine Qa hS ?_ | refine Qb ?_ | refine Qc hS ?_ | refine Qd ?_) | ((with_reducible refine Qe hS ?_); clear hS; intro w hS; simp only [List.set] at hS) | ((with_reducible first | refine s_draw hS ?_ | refine Qf hS ?_); clear hS; intro w hS) | ((with_reducible first | refine s_new hS ?_ | refine Qg hS ?_); clear hS; intro b w hS))))
    refine s_ifp (fun h => absurd rfl h) (fun _ => ?_)
    (repeat (first | (with_reducible first | apply Q0 | refine Qa hS ?_ | refine Qb ?_ | refine Qc hS ?_ | refine Qd ?_) | ((with_reducible refine Qe hS ?_); clear hS; intro w hS; simp only [List.set] at hS) | ((with_reducible first | refine s_draw hS ?_ | refine Qf hS ?_); clear hS; intro w hS) | ((with_reducible first | refine s_new hS ?_ | refine Qg hS ?_); clear hS; intro b w hS)))
    exact ⟨⟨i + 1, g', d', rfl, hK', hf', SL.into hS Xi⟩, by dsimp only; omega⟩
  · have hie : i = ls.length := by omega
    subst hie
    obtain ⟨hj, hpos, hcut⟩ := hK.cut hfull hne' (by decide) (by decide)
    have hrl := hK.rlen
    have hg := getK_of hdok.sorted (List.getElem_mem hj)
    have hu0 : (d.R.map fun x => Value.int .i64 x.id)[d.R.length - 1]? = some (.int .i64 d.R[d.R.length - 1].id) := by simp [hj]
    have hxN := hdok.len _ (List.getElem_mem hj)
    generalize d.R[d.R.length - 1] = x at *
    (apply s_call (filesD_spec dp d _ hdok (by omega)) hS; exact Xp; clear hS)
    rintro fl post rfl w hS
    (try simp only [app] at hS)
    refine s_lenO hS (v := fl) (t := 3) (sz := 1) (n := d.R.length) (cells := d.R.map fun x => .int .i64 x.id) Xh ?_
    (repeat (first | (with_reducible first | apply Q0 | refine Qa hS ?_ | refine Qb ?_ | refine Qc hS ?_ | refine Qd ?_) | ((with_reducible refine Qe hS ?_); clear hS; intro w hS; simp only [List.set] at hS) | ((with_reducible first | refine s_draw hS ?_ | refine Qf hS ?_); clear hS; intro w hS) | ((with_reducible first | refine s_new hS ?_ | refine Qg hS ?_); clear hS; intro b w hS)))
    refine s_ifp (fun h => by omega) (fun _ => ?_)
    refine s_lenO hS (v := fl) (t := 3) (sz := 1) (n := d.R.length) (cells := d.R.map fun x => .int .i64 x.id) Xh ?_
    (repeat (first | (with_reducible first | apply Q0 | refine Qa hS ?_ | refine Qb ?_ | refine Qc hS ?_ | refine Qd ?_) | ((with_reducible refine Qe hS ?_); clear hS; intro w hS; simp only [List.set] at hS) | ((with_reducible first | refine s_draw hS ?_ | refine Qf hS ?_); clear hS; intro w hS) | ((with_reducible first | refine s_new hS ?_ | refine Qg hS ?_); clear hS; intro b w hS)))
    have e : ((d.R.length : Nat) : Int) - 1 = ((d.R.length - 1 : Nat) : Int) := by omega
    rw [e]
    refine s_get1O hS (v := fl) (t := 3) Xh hj hu0 ?_
    (apply s_call (readD_spec dp d _ hdok (by omega) x.id) hS; exact Xp; clear hS)
    rintro r post hQ w hS
    unfold ReadQ at hQ
    rw [hg] at hQ
    obtain ⟨u, rfl, rfl⟩ := hQ
    (try simp only [app] at hS)
    (repeat (first | (with_reducible first | apply Q0 | refine Qa hS ?_ | refine Qb ?_ | refine Qc hS ?_ | refine Qd ?_) | ((with_reducible refine Qe hS ?_); clear hS; intro w hS; simp only [List.set] at hS) | ((with_reducible first | refine s_draw hS ?_ | refine Qf hS ?_); clear hS; intro w hS) | ((with_reducible first | refine s_new hS ?_ | refine Qg hS ?_); clear hS; intro b w hS)))
    refine s_lenO hS (v := u) (t := 5) (sz := 1) (n := x.b.length) (cells := x.b.map u8c) Xh ?_
    (repeat (first | (with_reducible first | apply Q0 | refine Qa hS ?_ | refine Qb ?_ | refine Qc hS ?_ | refine Qd ?_) | ((with_reducible refine Qe hS ?_); clear hS; intro w hS; simp only [List.set] at hS) | ((with_reducible first | refine s_draw hS ?_ | refine Qf hS ?_); clear hS; intro w hS) | ((with_reducible first | refine s_new hS ?_ | refine Qg hS ?_); clear hS; intro b w hS)))
    refine s_ifp (fun h => by omega) (fun _ => ?_)
    refine s_lenO hS (v := u) (t := 5) (sz := 1) (n := x.b.length) (cells := x.b.map u8c) Xh ?_
    (repeat (first | (with_reducible first | apply Q0 | refine Qa hS ?_ | refine Qb ?_ | refine Qc hS ?_ | refine Qd ?_) | ((with_reducible refine Qe hS ?_); clear hS; intro w hS; simp only [List.set] at hS) | ((with_reducible first | refine s_draw hS ?_ | refine Qf hS ?_); clear hS; intro w hS) | ((with_reducible first | refine s_new hS ?_ | refine Qg hS ?_); clear hS; intro b w hS)))
    have hmd := md_lt cut x.b.length hpos
    (apply s_call (mod_spec cut x.b.length hpos (by omega)) hS; exact Xp; clear hS)
    (rintro v post ⟨rfl, rfl⟩ w hS; (try simp only [app] at hS); (repeat (first | (with_reducible first | apply Q0 | refine Qa hS ?_ | refine Qb ?_ | refine Qc hS ?_ | refine Qd ?_) | ((with_reducible refine Qe hS ?_); clear hS; intro w hS; simp only [List.set] at hS) | ((with_reducible first | refine s_draw hS ?_ | refine Qf hS ?_); clear hS; intro w hS) | ((with_reducible first | refine s_new hS ?_ | refine Qg hS ?_); clear hS; intro b w hS))))
    obtain ⟨d1, hc1, ho1, hop⟩ := hcut _ hmd
    have hd1 : d1.Ok (ls.length * 4000) := by
      have := hdok.cut x.id (md cut x.b.length : Nat)
      rw [hc1] at this; exact this
    (apply s_call (cutD_spec dp d _ hdok (by omega) (by omega) x.id (md cut x.b.length : Nat)) hS; exact Xp; clear hS)
    rw [hc1]
    (rintro v post ⟨rfl, rfl⟩ w hS; (try simp only [app] at hS); (repeat (first | (with_reducible first | apply Q0 | refine Qa hS ?_ | refine Qb ?_ | refine Qc hS ?_ | refine Qd ?_) | ((with_reducible refine Qe hS ?_); clear hS; intro w hS; simp only [List.set] at hS) | ((with_reducible first | refine s_draw hS ?_ | refine Qf hS ?_); clear hS; intro w hS) | ((with_reducible first | refine s_new hS ?_ | refine Qg hS ?_); clear hS; intro b w hS))))
    refine s_ifp (fun h => absurd rfl h) (fun _ => ?_)
    (repeat (first | (with_reducible first | apply Q0 | refine Qa hS ?_ | refine Qb ?_ | refine Qc hS ?_ | refine Qd ?_) | ((with_reducible refine Qe hS ?_); clear hS; intro w hS; simp only [List.set] at hS) | ((with_reducible first | refine s_draw hS ?_ | refine Qf hS ?_); clear hS; intro w hS) | ((with_reducible first | refine s_new hS ?_ | refine Qg hS ?_); clear hS; intro b w hS)))
    (apply s_call (size_spec6 n) hS; exact Xp; clear hS)
    (rintro v post ⟨rfl, rfl⟩ w hS; (try simp only [app] at hS); (repeat (first | (with_reducible first | apply Q0 | refine Qa hS ?_ | refine Qb ?_ | refine Qc hS ?_ | refine Qd ?_) | ((with_reducible refine Qe hS ?_); clear hS; intro w hS; simp only [List.set] at hS) | ((with_reducible first | refine s_draw hS ?_ | refine Qf hS ?_); clear hS; intro w hS) | ((with_reducible first | refine s_new hS ?_ | refine Qg hS ?_); clear hS; intro b w hS))))
    obtain ⟨g2, d2, m, h2, hL, hm, ha2, ho2, hb2⟩ := hop (szOf n) sz0 sz1
    have hr1 : d1.R.length ≤ 100000 := by
      have : d1 = (d.cut x.id (md cut x.b.length : Nat)).1 := by rw [hc1]
      rw [this]
      unfold DS.cut
      split
      · show d.R.length ≤ _; omega
      · split
        · show d.R.length ≤ _; omega
        · split
          · show d.R.length ≤ _; omega
          · have := updF_len2 hdok.sorted x.id (cutF ((md cut x.b.length : Nat) : Int).toNat)
            show (updF d.R x.id (cutF ((md cut x.b.length : Nat) : Int).toNat)).length ≤ _; omega
    (apply s_call (openL_spec dp d1 5 (szOf n) hd1 (by omega) hr1 (by omega)) hS; exact Xp; clear hS)
    rintro r post hQ w hS
    obtain ⟨hgk, hoff1⟩ := openG_gok hd1 hr1 h2
    have hd2 := openG_ok (base := 5) (size := szOf n) hd1
    rw [h2] at hQ hd2
    obtain ⟨lp2, rfl, rfl⟩ := hQ
    (try simp only [app] at hS)
    (repeat (first | (with_reducible first | apply Q0 | refine Qa hS ?_ | refine Qb ?_ | refine Qc hS ?_ | refine Qd ?_) | ((with_reducible refine Qe hS ?_); clear hS; intro w hS; simp only [List.set] at hS) | ((with_reducible first | refine s_draw hS ?_ | refine Qf hS ?_); clear hS; intro w hS) | ((with_reducible first | refine s_new hS ?_ | refine Qg hS ?_); clear hS; intro b w hS)))
    refine s_ifp (fun h => absurd rfl h) (fun _ => ?_)
    (repeat (first | (with_reducible first | apply Q0 | refine Qa hS ?_ | refine Qb ?_ | refine Qc hS ?_ | refine Qd ?_) | ((with_reducible refine Qe hS ?_); clear hS; intro w hS; simp only [List.set] at hS) | ((with_reducible first | refine s_draw hS ?_ | refine Qf hS ?_); clear hS; intro w hS) | ((with_reducible first | refine s_new hS ?_ | refine Qg hS ?_); clear hS; intro b w hS)))
    refine s_iff ?_
    (repeat (first | (with_reducible first | apply Q0 | refine Qa hS ?_ | refine Qb ?_ | refine Qc hS ?_ | refine Qd ?_) | ((with_reducible refine Qe hS ?_); clear hS; intro w hS; simp only [List.set] at hS) | ((with_reducible first | refine s_draw hS ?_ | refine Qf hS ?_); clear hS; intro w hS) | ((with_reducible first | refine s_new hS ?_ | refine Qg hS ?_); clear hS; intro b w hS)))
    have hml : (ls.take m).length = m := by rw [List.length_take]; omega
    have hhd : headG g2.segs = m := by rw [hL.head, hml]; omega
    (apply s_call (headO_spec lp2 dp g2 hgk (by omega)) hS; exact Xp; clear hS)
    (rintro v post ⟨rfl, rfl⟩ w hS; (try simp only [app] at hS); (repeat (first | (with_reducible first | apply Q0 | refine Qa hS ?_ | refine Qb ?_ | refine Qc hS ?_ | refine Qd ?_) | ((with_reducible refine Qe hS ?_); clear hS; intro w hS; simp only [List.set] at hS) | ((with_reducible first | refine s_draw hS ?_ | refine Qf hS ?_); clear hS; intro w hS) | ((with_reducible first | refine s_new hS ?_ | refine Qg hS ?_); clear hS; intro b w hS))))
    rw [hhd]
    refine s_lenRR h1 ?_
    (repeat (first | (with_reducible first | apply Q0 | refine Qa hS ?_ | refine Qb ?_ | refine Qc hS ?_ | refine Qd ?_) | ((with_reducible refine Qe hS ?_); clear hS; intro w hS; simp only [List.set] at hS) | ((with_reducible first | refine s_draw hS ?_ | refine Qf hS ?_); clear hS; intro w hS) | ((with_reducible first | refine s_new hS ?_ | refine Qg hS ?_); clear hS; intro b w hS)))
    refine s_ifp (fun h => by omega) (fun _ => ?_)
    (repeat (first | (with_reducible first | apply Q0 | refine Qa hS ?_ | refine Qb ?_ | refine Qc hS ?_ | refine Qd ?_) | ((with_reducible refine Qe hS ?_); clear hS; intro w hS; simp only [List.set] at hS) | ((with_reducible first | refine s_draw hS ?_ | refine Qf hS ?_); clear hS; intro w hS) | ((with_reducible first | refine s_new hS ?_ | refine Qg hS ?_); clear hS; intro b w hS)))
    (apply s_call (headO_spec lp2 dp g2 hgk (by omega)) hS; exact Xp; clear hS)
    (rintro v post ⟨rfl, rfl⟩ w hS; (try simp only [app] at hS); (repeat (first | (with_reducible first | apply Q0 | refine Qa hS ?_ | refine Qb ?_ | refine Qc hS ?_ | refine Qd ?_) | ((with_reducible refine Qe hS ?_); clear hS; intro w hS; simp only [List.set] at hS) | ((with_reducible first | refine s_draw hS ?_ | refine Qf hS ?_); clear hS; intro w hS) | ((with_reducible first | refine s_new hS ?_ | refine Qg hS ?_); clear hS; intro b w hS))))
    rw [hhd]
    refine s_ifp (fun h => by omega) (fun _ => ?_)
    (repeat (first | (with_reducible first | apply Q0 | refine Qa hS ?_ | refine Qb ?_ | refine Qc hS ?_ | refine Qd ?_) | ((with_reducible refine Qe hS ?_); clear hS; intro w hS; simp only [List.set] at hS) | ((with_reducible first | refine s_draw hS ?_ | refine Qf hS ?_); clear hS; intro w hS) | ((with_reducible first | refine s_new hS ?_ | refine Qg hS ?_); clear hS; intro b w hS)))
    have hgo3 := appendG_gok (d := d2) hgk p
    rcases append_live hL (p := p) (by omega) (by rw [hml]; omega) (by rw [hml, hb2]; omega) (by omega) with ⟨g3, d3, e3, hL3, ho3, _⟩ | ⟨_, _, _, _, _, h0⟩
    · (apply s_call (appendL_spec (.mem H) lp2 dp g2 d2 pv p (Rdb.rd hp) (by omega) hgk (by omega) hd2 (by omega) (by omega)) hS; exact Xp; clear hS)
      rw [hml] at e3
      rw [e3] at hgo3 ⊢
      (rintro v post ⟨rfl, rfl⟩ w hS; (try simp only [app] at hS); (repeat (first | (with_reducible first | apply Q0 | refine Qa hS ?_ | refine Qb ?_ | refine Qc hS ?_ | refine Qd ?_) | ((with_reducible refine Qe hS ?_); clear hS; intro w hS; simp only [List.set] at hS) | ((with_reducible first | refine s_draw hS ?_ | refine Qf hS ?_); clear hS; intro w hS) | ((with_reducible first | refine s_new hS ?_ | refine Qg hS ?_); clear hS; intro b w hS))))
      refine s_ifp (fun h => absurd rfl h) (fun _ => ?_)
      (repeat (first | (with_reducible first | apply Q0 | refine Qa hS ?_ | refine Qb ?_ | refine Qc hS ?_ | refine Qd ?_) | ((with_reducible refine Qe hS ?_); clear hS; intro w hS; simp only [List.set] at hS) | ((with_reducible first | refine s_draw hS ?_ | refine Qf hS ?_); clear hS; intro w hS) | ((with_reducible first | refine s_new hS ?_ | refine Qg hS ?_); clear hS; intro b w hS)))
      have hl3 : (ls.take m ++ [p]).length = m + 1 := by rw [List.length_append, hml]; rfl
      have hhd3 : headG g3.segs = 1 + (m : Int) := by rw [hL3.head, hl3]; omega
      (apply s_call (headO_spec lp2 dp g3 hgo3 (by omega)) hS; exact Xp; clear hS)
      (rintro v post ⟨rfl, rfl⟩ w hS; (try simp only [app] at hS); (repeat (first | (with_reducible first | apply Q0 | refine Qa hS ?_ | refine Qb ?_ | refine Qc hS ?_ | refine Qd ?_) | ((with_reducible refine Qe hS ?_); clear hS; intro w hS; simp only [List.set] at hS) | ((with_reducible first | refine s_draw hS ?_ | refine Qf hS ?_); clear hS; intro w hS) | ((with_reducible first | refine s_new hS ?_ | refine Qg hS ?_); clear hS; intro b w hS))))
      rw [hhd3]
      refine s_ifp (fun h => absurd rfl h) (fun _ => ?_)
      (repeat (first | (with_reducible first | apply Q0 | refine Qa hS ?_ | refine Qb ?_ | refine Qc hS ?_ | refine Qd ?_) | ((with_reducible refine Qe hS ?_); clear hS; intro w hS; simp only [List.set] at hS) | ((with_reducible first | refine s_draw hS ?_ | refine Qf hS ?_); clear hS; intro w hS) | ((with_reducible first | refine s_new hS ?_ | refine Qg hS ?_); clear hS; intro b w hS)))
      refine s_ifp (fun h => by omega) (fun _ => ?_)
      refine s_lenRR h1 ?_
      (repeat (first | (with_reducible first | apply Q0 | refine Qa hS ?_ | refine Qb ?_ | refine Qc hS ?_ | refine Qd ?_) | ((with_reducible refine Qe hS ?_); clear hS; intro w hS; simp only [List.set] at hS) | ((with_reducible first | refine s_draw hS ?_ | refine Qf hS ?_); clear hS; intro w hS) | ((with_reducible first | refine s_new hS ?_ | refine Qg hS ?_); clear hS; intro b w hS)))
      refine s_ifp (fun h => by omega) (fun _ => ?_)
      refine ⟨fun vs w => ∃ i : Nat, vs = [.int .i64 i] ∧ i ≤ m ∧ SL W (.ob (LogO lp2 dp g3) :: .ob (DskO dp d3) :: .mem H :: F) w, fun vs _ => match vs with | [.int _ i] => (m - i).toNat | _ => 0, ⟨0, rfl, by omega, SL.into hS Xi⟩, ?_⟩
      clear hS
      rintro v23 w ⟨j, hvs, hjm, hS⟩
      cases hvs
      (repeat (first | (with_reducible first | apply Q0 | refine Qa hS ?_ | refine Qb ?_ | refine Qc hS ?_ | refine Qd ?_) | ((with_reducible refine Qe hS ?_); clear hS; intro w hS; simp only [List.set] at hS) | ((with_reducible first | refine s_draw hS ?_ | refine Qf hS ?_); clear hS; intro w hS) | ((with_reducible first | refine s_new hS ?_ | refine Qg hS ?_); clear hS; intro b w hS)))
      refine s_ifp (fun h => ?_) (fun h => ?_)
      · have hjl : j < ls.length := by omega
        (repeat (first | (with_reducible first | apply Q0 | refine Qa hS ?_ | refine Qb ?_ | refine Qc hS ?_ | refine Qd ?_) | ((with_reducible refine Qe hS ?_); clear hS; intro w hS; simp only [List.set] at hS) | ((with_reducible first | refine s_draw hS ?_ | refine Qf hS ?_); clear hS; intro w hS) | ((with_reducible first | refine s_new hS ?_ | refine Qg hS ?_); clear hS; intro b w hS)))
        (apply s_call (readO_spec lp2 dp g3 hgo3 (by omega) ((j + 1 : Nat) : Int) (by omega)) hS; exact Xp; clear hS)
        rintro r post hQ w hS
        have hr : readG g3.segs ((j + 1 : Nat) : Int) = some ls[j] := by
          rw [hL3.read, if_pos (by omega), show (((j + 1 : Nat) : Int) - 1).toNat = j by omega, List.getElem?_append_left (by omega), List.getElem?_take, if_pos (by omega), List.getElem?_eq_getElem hjl]
        rw [hr] at hQ
        obtain ⟨q, rfl, rfl⟩ := hQ
        (try simp only [app] at hS)
        (repeat (first | (with_reducible first | apply Q0 | refine Qa hS ?_ | refine Qb ?_ | refine Qc hS ?_ | refine Qd ?_) | ((with_reducible refine Qe hS ?_); clear hS; intro w hS; simp only [List.set] at hS) | ((with_reducible first | refine s_draw hS ?_ | refine Qf hS ?_); clear hS; intro w hS) | ((with_reducible first | refine s_new hS ?_ | refine Qg hS ?_); clear hS; intro b w hS)))
        refine s_ifp (fun h => absurd rfl h) (fun _ => ?_)
        refine s_getRR hS Xh h1 hjl ?_
        intro u2 hu2
        (apply s_call (bytesB_spec (.ob (OwnSl q 5 1 ls[j].length (ls[j].map u8c))) (.mem H) q u2 ls[j] ls[j] Rdb.own (Rdb.rd hu2)) hS; exact Xp; clear hS)
        (rintro v post ⟨rfl, rfl⟩ w hS; (try simp only [app] at hS); (repeat (first | (with_reducible first | apply Q0 | refine Qa hS ?_ | refine Qb ?_ | refine Qc hS ?_ | refine Qd ?_) | ((with_reducible refine Qe hS ?_); clear hS; intro w hS; simp only [List.set] at hS) | ((with_reducible first | refine s_draw hS ?_ | refine Qf hS ?_); clear hS; intro w hS) | ((with_reducible first | refine s_new hS ?_ | refine Qg hS ?_); clear hS; intro b w hS))))
        rw [decide_eq_true rfl]
        refine s_iff ?_
        (repeat (first | (with_reducible first | apply Q0 | refine Qa hS ?_ | refine Qb ?_ | refine Qc hS ?_ | refine Qd ?_) | ((with_reducible refine Qe hS ?_); clear hS; intro w hS; simp only [List.set] at hS) | ((with_reducible first | refine s_draw hS ?_ | refine Qf hS ?_); clear hS; intro w hS) | ((with_reducible first | refine s_new hS ?_ | refine Qg hS ?_); clear hS; intro b w hS)))
        exact ⟨⟨j + 1, rfl, by omega, SL.into hS Xi⟩, by dsimp only; omega⟩
      · (repeat (first | (with_reducible first | apply Q0 | refine Qa hS ?_ | refine Qb ?_ | refine Qc hS ?_ | refine Qd ?_) | ((with_reducible refine Qe hS ?_); clear hS; intro w hS; simp only [List.set] at hS) | ((with_reducible first | refine s_draw hS ?_ | refine Qf hS ?_); clear hS; intro w hS) | ((with_reducible first | refine s_new hS ?_ | refine Qg hS ?_); clear hS; intro b w hS)))
        (apply s_call (readO_spec lp2 dp g3 hgo3 (by omega) (1 + (m : Int)) (by omega)) hS; exact Xp; clear hS)
        rintro r post hQ w hS
        have hr : readG g3.segs (1 + (m : Int)) = some p := by
          rw [hL3.read, if_pos (by omega), show (1 + (m : Int) - 1).toNat = m by omega, List.getElem?_append_right (by omega), hml, Nat.sub_self]; rfl
        rw [hr] at hQ
        obtain ⟨q, rfl, rfl⟩ := hQ
        (try simp only [app] at hS)
        (repeat (first | (with_reducible first | apply Q0 | refine Qa hS ?_ | refine Qb ?_ | refine Qc hS ?_ | refine Qd ?_) | ((with_reducible refine Qe hS ?_); clear hS; intro w hS; simp only [List.set] at hS) | ((with_reducible first | refine s_draw hS ?_ | refine Qf hS ?_); clear hS; intro w hS) | ((with_reducible first | refine s_new hS ?_ | refine Qg hS ?_); clear hS; intro b w hS)))
        refine s_ifp (fun _ => ?_) (fun h => absurd rfl h)
        (apply s_call (bytesB_spec (.ob (OwnSl q 5 1 p.length (p.map u8c))) (.mem H) q pv p p Rdb.own (Rdb.rd hp)) hS; exact Xp; clear hS)
        (rintro v post ⟨rfl, rfl⟩ w hS; (try simp only [app] at hS); (repeat (first | (with_reducible first | apply Q0 | refine Qa hS ?_ | refine Qb ?_ | refine Qc hS ?_ | refine Qd ?_) | ((with_reducible refine Qe hS ?_); clear hS; intro w hS; simp only [List.set] at hS) | ((with_reducible first | refine s_draw hS ?_ | refine Qf hS ?_); clear hS; intro w hS) | ((with_reducible first | refine s_new hS ?_ | refine Qg hS ?_); clear hS; intro b w hS))))
        rw [decide_eq_true rfl]
        refine s_ift ?_
        (repeat (first | (with_reducible first | apply Q0 | refine Qa hS ?_ | refine Qb ?_ | refine Qc hS ?_ | refine Qd ?_) | ((with_reducible refine Qe hS ?_); clear hS; intro w hS; simp only [List.set] at hS) | ((with_reducible first | refine s_draw hS ?_ | refine Qf hS ?_); clear hS; intro w hS) | ((with_reducible first | refine s_new hS ?_ | refine Qg hS ?_); clear hS; intro b w hS)))
        (apply s_call (downD_spec dp d3) hS; exact Xp; clear hS)
        (rintro v post ⟨rfl, rfl⟩ w hS; (try simp only [app] at hS); (repeat (first | (with_reducible first | apply Q0 | refine Qa hS ?_ | refine Qb ?_ | refine Qc hS ?_ | refine Qd ?_) | ((with_reducible refine Qe hS ?_); clear hS; intro w hS; simp only [List.set] at hS) | ((with_reducible first | refine s_draw hS ?_ | refine Qf hS ?_); clear hS; intro w hS) | ((with_reducible first | refine s_new hS ?_ | refine Qg hS ?_); clear hS; intro b w hS))))
        rw [hL3.off]
        exact ⟨_, ⟨rfl, H, [], Heap.le_refl H, rfl⟩, SL.into hS Xi⟩
    · exact absurd ha2 h0
theorem walTorn_law (n cut : Int) (l : List (List Int)) (p : List Int) (ok : ∀ x ∈ l, ∀ y ∈ x, inK .u8 y) (okp : ∀ x ∈ p, inK .u8 x) (v1 v3 : Value) (w : World) (hl : RdS (tSlice (tInt .u8)) w Nob l v1) (hp : RdS (tInt .u8) w Nob p v3) :
    Calls Try.prog 3 #[.int .i64 n, v1, .int .i64 cut, v3] w fun e w' => e = .returned (.bool true) ∧ Below w.heap.size w w' :=
  (law_of_spec (walTorn_spec (Heap.of w) n cut v1 v3 (toBs l) (p.map toB) (hl.bytes ok) (hp.ints.toB okp))).calls
end Go.Proofs.Ytilgfgghjdomcaa
