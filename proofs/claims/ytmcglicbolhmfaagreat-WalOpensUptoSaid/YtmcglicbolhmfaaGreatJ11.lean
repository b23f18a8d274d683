/-
  Texts of the proof, joined: Own, OpT, BytesT, RowsT, CellsN.
-/
import Derived.Test.YtmcglicbolhmfaaGreatJ10
import Derived.Test.YtmcglicbolhmfaaGreatRows
namespace Go.Proofs.YtmcglicbolhmfaaGreat
set_option linter.unusedVariables false
theorem Tryz.own : ownKnob Tryz.prog.godebug = none := by kernel_rfl
theorem Tryz.laidOut : laidOutB Tryz.prog = true := by kernel_rfl
end Go.Proofs.YtmcglicbolhmfaaGreat
namespace Go.Proofs.YtmcglicbolhmfaaGreat
set_option linter.unusedVariables false
set_option maxRecDepth 100000
open Go.ChangeShapes Go.WideShapes Go.ChangeAt Go.RowKit

def tAOp : GoT AOp := (tPair (tInt .i64) (tPair (tInt .i64) (tPair (tInt .i64) (tPair tBool (tPair tStr tUnit))))).via fun o => (o.lsn, o.table, o.key, o.gone, o.val, ())
theorem tAOp_rd {w : World} {M : MS} {o : AOp} {cs : List Value} (h : tAOp.rd w M o cs) : cs = encOp o := by
  obtain ⟨c1, c2, rfl, h1, c3, c4, rfl, h3, c5, c6, rfl, h5, c7, c8, rfl, h7, c9, c10, rfl, h9, h10⟩ := h
  have h1' : c1 = [.int .i64 o.lsn] := h1
  have h3' : c3 = [.int .i64 o.table] := h3
  have h5' : c5 = [.int .i64 o.key] := h5
  have h7' : c7 = [.bool o.gone] := h7
  have h9' : c9 = [.string o.val] := h9
  have h10' : c10 = [] := h10
  subst h1' h3' h5' h7' h9' h10'
  rfl
def okAOp (o : AOp) : Prop := inK .i64 o.lsn ∧ inK .i64 o.table ∧ inK .i64 o.key ∧ okStr o.val
/-- A row of one-cell elements: their cells. -/
theorem RdS.cells1 {α : Type} {T : GoT α} (hT : T.n = 1) {w : World} {xs : List α} {v : Value} (h : RdS T w Nob xs v) :
    ∃ vs : List Value, vs.length = xs.length ∧ RdSl (Heap.of w) 1 v xs.length vs ∧ ∀ i (h : i < xs.length) (h' : i < vs.length), T.rd w Nob xs[i] [vs[i]] := by
  obtain ⟨a, cap, rfl, hc, hx⟩ := h.out
  have hex : ∀ i, ∃ u, ∀ h : i < xs.length, T.rd w Nob xs[i] [u] ∧ ∃ b off, a = some ⟨b, off, none⟩ ∧ w.cell? ⟨b, off + i, none⟩ = some u := fun i => by
    by_cases hi : i < xs.length
    · obtain ⟨b, off, cs, ha, hr, hat⟩ := hx i hi
      have hl := T.len hr
      rw [hT] at hl
      match cs, hl with
      | [u], _ =>
        refine ⟨u, fun _ => ⟨hr, b, off, ha, ?_⟩⟩
        have := hat.2 0 u rfl
        rw [hT] at this
        simpa using this
    · exact ⟨undef, fun h => absurd h hi⟩
  obtain ⟨f, hf⟩ := Classical.axiomOfChoice hex
  refine ⟨(List.range xs.length).map f, by simp, ⟨by simp, a, cap, rfl, hc, ?_⟩, fun i hi hi' => ?_⟩
  · rcases Nat.eq_zero_or_pos xs.length with h0 | h0
    · exact .inl h0
    · right
      obtain ⟨_, b, off, rfl, _⟩ := hf 0 h0
      refine ⟨b, off, rfl, fun j u hu => ?_⟩
      have hj : j < xs.length := by have := (List.getElem?_eq_some_iff.1 hu).1; simpa using this
      have hu' : f j = u := by simpa [hj] using hu
      obtain ⟨_, b', off', hab, hcell⟩ := hf j hj
      simp at hab
      obtain ⟨rfl, rfl⟩ := hab
      rw [hu'] at hcell
      unfold World.cell? at hcell
      unfold Heap.cell Heap.of
      simp only at hcell ⊢
      split at hcell
      · rename_i c t f he'; rw [he']; simpa using hcell
      · cases hcell
  · simpa using (hf i hi).1
/-- A row of rows. -/
theorem RdS.rows {α : Type} {T : GoT α} {enc : α → List Value} {w : World} {xss : List (List α)} {v : Value} (h : RdS (tSlice T) w Nob xss v) (he : ∀ {M x cs}, T.rd w M x cs → cs = enc x) (hn : ∀ x, (enc x).length = T.n) :
    ∃ vs : List Value, vs.length = xss.length ∧ RdSl (Heap.of w) 1 v xss.length vs ∧ ∀ i (h : i < xss.length) (h' : i < vs.length), RdSl (Heap.of w) T.n vs[i] xss[i].length (xss[i].map enc).flatten := by
  obtain ⟨vs, h1, h2, h3⟩ := RdS.cells1 rfl h
  refine ⟨vs, h1, h2, fun i hi hi' => ?_⟩
  obtain ⟨u, hu, hr⟩ := h3 i hi hi'
  have : vs[i] = u := by simpa using hu
  rw [this]
  exact hr.flat he hn
end Go.Proofs.YtmcglicbolhmfaaGreat
namespace Go.Proofs.YtmcglicbolhmfaaGreat
set_option linter.unusedVariables false
open Go.ChangeShapes Go.WideShapes Go.ChangeAt Go.RowKit

theorem flat_val {α : Type} (f : α → Value) : ∀ l : List α, (l.map fun x => [f x]).flatten = l.map f
  | [] => rfl
  | x :: l => by simp only [List.map_cons, List.flatten_cons, flat_val f l]; rfl
theorem RdS.ints {k : IntKind} {w : World} {l : List Int} {v : Value} (h : RdS (tInt k) w Nob l v) : RdSl (Heap.of w) 1 v l.length (l.map (Value.int k)) := by
  have h2 := h.flat (enc := fun x => [.int k x]) (fun h => h) (fun _ => rfl)
  rw [flat_val] at h2
  exact h2
def toB (x : Int) : UInt8 := UInt8.ofNat x.toNat
theorem toB_c {x : Int} (h : inK .u8 x) : u8c (toB x) = .int .u8 x := by
  have := inK_u8 h
  unfold u8c toB
  congr 1
  rw [UInt8.toNat_ofNat']
  omega
theorem toB_map : ∀ {l : List Int}, (∀ x ∈ l, inK .u8 x) → l.map (Value.int .u8) = (l.map toB).map u8c
  | [], _ => rfl
  | x :: l, h => by
    simp only [List.map_cons, toB_c (h x (.head _))]
    rw [toB_map fun y hy => h y (.tail _ hy)]
theorem RdSl.toB {H : Heap} {v : Value} {l : List Int} (h : RdSl H 1 v l.length (l.map (Value.int .u8))) (hok : ∀ x ∈ l, inK .u8 x) : RdSl H 1 v (l.map toB).length ((l.map toB).map u8c) := by
  rw [toB_map hok] at h
  rw [List.length_map]; exact h
end Go.Proofs.YtmcglicbolhmfaaGreat
namespace Go.Proofs.YtmcglicbolhmfaaGreat
set_option linter.unusedVariables false
open Go.ChangeShapes Go.WideShapes Go.ChangeAt Go.RowKit

def toBs (l : List (List Int)) : List (List UInt8) := l.map fun x => x.map toB
theorem RdS.bytes {w : World} {l : List (List Int)} {v : Value} (h : RdS (tSlice (tInt .u8)) w Nob l v) (ok : ∀ x ∈ l, ∀ y ∈ x, inK .u8 y) : RdBs (Heap.of w) v (toBs l) := by
  obtain ⟨vs, h1, h2, h3⟩ := RdS.rows (enc := fun x => [.int .u8 x]) h (fun h => h) (fun _ => rfl)
  refine ⟨vs, by simp [toBs, h1], by simpa [toBs] using h2, fun i hi hi' => ?_⟩
  have hi2 : i < l.length := by simpa [toBs] using hi
  have h4 := h3 i hi2 hi'
  rw [flat_val] at h4
  have h5 := RdSl.toB h4 (fun x hx => ok _ (List.getElem_mem hi2) x hx)
  have e : (toBs l)[i] = l[i].map toB := by simp [toBs]
  rw [e]
  exact h5
theorem okB {l : List (List Int)} {a b : Nat} (h : okSlice a (okSlice b (inK .u8)) l) : ∀ x ∈ l, ∀ y ∈ x, inK .u8 y := fun x hx y hy => (h.2 x hx).2 y hy
end Go.Proofs.YtmcglicbolhmfaaGreat
namespace Go.Proofs.YtmcglicbolhmfaaGreat
set_option linter.unusedVariables false
open Go.ChangeShapes Go.WideShapes Go.ChangeAt Go.RowKit

/-- A row's elements, each with its cells. -/
theorem RdS.cellsN {α : Type} {T : GoT α} {w : World} {xs : List α} {v : Value} (h : RdS T w Nob xs v) (hT : 0 < T.n) :
    ∃ css : List (List Value), css.length = xs.length ∧ RdSl (Heap.of w) T.n v xs.length css.flatten ∧ ∀ i (h : i < xs.length) (h' : i < css.length), T.rd w Nob xs[i] css[i] := by
  obtain ⟨a, cap, rfl, hc, hx⟩ := h.out
  have hex : ∀ i, ∃ cs : List Value, cs.length = T.n ∧ ∀ h : i < xs.length, T.rd w Nob xs[i] cs ∧ ∃ b off, a = some ⟨b, off, none⟩ ∧ At w Nob b (off + i * T.n) cs := fun i => by
    by_cases hi : i < xs.length
    · obtain ⟨b, off, cs, ha, hr, hat⟩ := hx i hi
      exact ⟨cs, T.len hr, fun _ => ⟨hr, b, off, ha, hat⟩⟩
    · exact ⟨List.replicate T.n undef, by simp, fun h => absurd h hi⟩
  obtain ⟨f, hf⟩ := Classical.axiomOfChoice hex
  have hlen : ∀ x ∈ (List.range xs.length).map f, x.length = T.n := fun x hx => by
    obtain ⟨i, _, rfl⟩ := List.mem_map.1 hx; exact (hf i).1
  have hfl : ((List.range xs.length).map f).flatten.length = xs.length * T.n := by rw [flatten_length (n := T.n) _ hlen]; simp
  refine ⟨(List.range xs.length).map f, by simp, ⟨hfl, a, cap, rfl, hc, ?_⟩, fun i hi hi' => ?_⟩
  · rcases Nat.eq_zero_or_pos xs.length with h0 | h0
    · exact .inl h0
    · right
      obtain ⟨_, b, off, rfl, _⟩ := (hf 0).2 h0
      refine ⟨b, off, rfl, fun j u hu => ?_⟩
      have hj := (List.getElem?_eq_some_iff.1 hu).1
      rw [hfl] at hj
      have hi : j / T.n < xs.length := (Nat.div_lt_iff_lt_mul hT).2 hj
      obtain ⟨_, b', off', hab, hat⟩ := (hf (j / T.n)).2 hi
      simp at hab
      obtain ⟨rfl, rfl⟩ := hab
      have hmod : j % T.n < (f (j / T.n)).length := by rw [(hf _).1]; exact Nat.mod_lt _ hT
      have hg := flatten_get (n := T.n) ((List.range xs.length).map f) hlen (j / T.n) (j % T.n) (by simpa using hi) ((f (j / T.n))[j % T.n]'hmod) (by simp [List.getElem?_eq_getElem hmod])
      have hdm : j / T.n * T.n + j % T.n = j := by rw [Nat.mul_comm]; exact Nat.div_add_mod j T.n
      rw [hdm, hu] at hg
      have hu' : u = (f (j / T.n))[j % T.n] := Option.some.inj hg
      have := hat.2 (j % T.n) u (by rw [hu']; exact List.getElem?_eq_getElem hmod)
      rw [show off + j / T.n * T.n + j % T.n = off + j by omega] at this
      unfold World.cell? at this
      unfold Heap.cell Heap.of
      simp only at this ⊢
      split at this
      · rename_i c t f he'; rw [he']; simpa using this
      · cases this
  · simpa using ((hf i).2 hi).1
end Go.Proofs.YtmcglicbolhmfaaGreat
