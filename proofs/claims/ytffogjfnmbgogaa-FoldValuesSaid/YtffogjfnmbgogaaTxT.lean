/-
  Arguments: lists of transactions.
-/
import Derived.Test.YtffogjfnmbgogaaOpT
import Derived.Test.YtffogjfnmbgogaaFMod
namespace Go.Proofs.Ytffogjfnmbgogaa
set_option linter.unusedVariables false
set_option maxRecDepth 100000
open Go.ChangeShapes Go.WideShapes Go.ChangeAt Go.RowKit

/-- A row's elements, each with its cells. -/
theorem RdS.cellsN {α : Type} {T : GoT α} {w : World} {xs : List α} {v : Value} (h : RdS T w Nob xs v) (hT : 0 < T.n) :
    ∃ css : List (List Value), css.length = xs.length ∧ RdSl (Heap.of w) T.n v xs.length css.flatten ∧ ∀ i (h : i < xs.length) (h' : i < css.length), T.rd w Nob xs[i] css[i] := by
  obtain ⟨a, cap, rfl, hc, hx⟩ := h.out
  have hex : ∀ i, ∃ cs : List Value, cs.length = T.n ∧ ∀ h : i < xs.length, T.rd w Nob xs[i] cs ∧ ∃ b off, a = some ⟨b, off, none⟩ ∧ At w Nob b (off + i * T.n) cs := fun i => by
    by_cases hi : i < xs.length
    · obtain ⟨b, off, cs, ha, hr, hat⟩ := hx i hi
      exact ⟨cs, T.len hr, fun _ => ⟨hr, b, off, ha, hat⟩⟩
    · exact ⟨List.replicate T.n undef, by simp, fun h => absurd h hi⟩
  obtain ⟨f, hf⟩ := Classical.axiomOfChoice hex
  have hlen : ∀ x ∈ (List.range xs.length).map f, x.length = T.n := fun x hx => by
    obtain ⟨i, _, rfl⟩ := List.mem_map.1 hx; exact (hf i).1
  have hfl : ((List.range xs.length).map f).flatten.length = xs.length * T.n := by rw [flatten_length (n := T.n) _ hlen]; simp
  refine ⟨(List.range xs.length).map f, by simp, ⟨hfl, a, cap, rfl, hc, ?_⟩, fun i hi hi' => ?_⟩
  · rcases Nat.eq_zero_or_pos xs.length with h0 | h0
    · exact .inl h0
    · right
      obtain ⟨_, b, off, rfl, _⟩ := (hf 0).2 h0
      refine ⟨b, off, rfl, fun j u hu => ?_⟩
      have hj := (List.getElem?_eq_some_iff.1 hu).1
      rw [hfl] at hj
      have hi : j / T.n < xs.length := (Nat.div_lt_iff_lt_mul hT).2 hj
      obtain ⟨_, b', off', hab, hat⟩ := (hf (j / T.n)).2 hi
      simp at hab
      obtain ⟨rfl, rfl⟩ := hab
      have hmod : j % T.n < (f (j / T.n)).length := by rw [(hf _).1]; exact Nat.mod_lt _ hT
      have hg := flatten_get (n := T.n) ((List.range xs.length).map f) hlen (j / T.n) (j % T.n) (by simpa using hi) ((f (j / T.n))[j % T.n]'hmod) (by simp [List.getElem?_eq_getElem hmod])
      have hdm : j / T.n * T.n + j % T.n = j := by rw [Nat.mul_comm]; exact Nat.div_add_mod j T.n
      rw [hdm, hu] at hg
      have hu' : u = (f (j / T.n))[j % T.n] := Option.some.inj hg
      have := hat.2 (j % T.n) u (by rw [hu']; exact List.getElem?_eq_getElem hmod)
      rw [show off + j / T.n * T.n + j % T.n = off + j by omega] at this
      unfold World.cell? at this
      unfold Heap.cell Heap.of
      simp only at this ⊢
      split at this
      · rename_i c t f he'; rw [he']; simpa using this
      · cases this
  · simpa using ((hf i).2 hi).1
def tChg : GoT Chg := (tPair (tInt .i64) (tPair (tInt .i64) (tPair tBool (tPair tStr tUnit)))).via fun o => (o.table, o.key, o.gone, o.val, ())
theorem tChg_rd {w : World} {M : MS} {o : Chg} {cs : List Value} (h : tChg.rd w M o cs) : cs = encChg o := by
  obtain ⟨c1, c2, rfl, h1, c3, c4, rfl, h3, c5, c6, rfl, h5, c7, c8, rfl, h7, h8⟩ := h
  have h1' : c1 = [.int .i64 o.table] := h1
  have h3' : c3 = [.int .i64 o.key] := h3
  have h5' : c5 = [.bool o.gone] := h5
  have h7' : c7 = [.string o.val] := h7
  have h8' : c8 = [] := h8
  subst h1' h3' h5' h7' h8'
  rfl
def tTxn : GoT TxnD := (tPair (tInt .i64) (tPair (tInt .i64) (tPair (tSlice tChg) (tPair (tSlice tStr) (tPair (tInt .i64) tUnit))))).via fun t => (t.lsn, t.kind, t.changes, t.signals, t.mark, ())
theorem tTxn_rd {w : World} {t : TxnD} {cs : List Value} (h : tTxn.rd w Nob t cs) : ∃ x : TxV, cs = encTx x ∧ TxIs (Heap.of w) x t := by
  obtain ⟨c1, c2, rfl, h1, c3, c4, rfl, h3, c5, c6, rfl, h5, c7, c8, rfl, h7, c9, c10, rfl, h9, h10⟩ := h
  have h1' : c1 = [.int .i64 t.lsn] := h1
  have h3' : c3 = [.int .i64 t.kind] := h3
  obtain ⟨cv, h5', hcv⟩ : ∃ v, c5 = [v] ∧ RdS tChg w Nob t.changes v := h5
  obtain ⟨sv, h7', hsv⟩ : ∃ v, c7 = [v] ∧ RdS tStr w Nob t.signals v := h7
  have h9' : c9 = [.int .i64 t.mark] := h9
  have h10' : c10 = [] := h10
  subst h1' h3' h5' h7' h9' h10'
  refine ⟨⟨t.lsn, t.kind, cv, sv, t.mark⟩, rfl, rfl, rfl, rfl, hcv.flat tChg_rd (fun _ => rfl), ?_⟩
  have := hsv.flat (enc := fun s => [.string s]) (fun h => h) (fun _ => rfl)
  have e : (t.signals.map fun s => [Value.string s]).flatten = t.signals.map Value.string := by
    induction t.signals with
    | nil => rfl
    | cons a l ih => simp [ih]
  rw [e] at this
  exact this
theorem RdTx.of {w : World} {l : List TxnD} {v : Value} (h : RdS tTxn w Nob l v) : RdTx (Heap.of w) v l := by
  obtain ⟨css, h1, h2, h3⟩ := RdS.cellsN h (by decide)
  have hex : ∀ i, ∃ x : TxV, ∀ (h : i < l.length) (h' : i < css.length), css[i] = encTx x ∧ TxIs (Heap.of w) x l[i] := fun i => by
    by_cases hi : i < l.length
    · obtain ⟨x, e, hx⟩ := tTxn_rd (h3 i hi (by omega))
      exact ⟨x, fun _ _ => ⟨e, hx⟩⟩
    · exact ⟨⟨0, 0, .slice none 0 0, .slice none 0 0, 0⟩, fun h => absurd h hi⟩
  obtain ⟨f, hf⟩ := Classical.axiomOfChoice hex
  refine ⟨(List.range l.length).map f, by simp, ?_, fun i hi hi' => by simpa using (hf i hi (by omega)).2⟩
  have e : css = ((List.range l.length).map f).map encTx := List.ext_getElem (by simp [h1]) fun i g1 g2 => by simpa using (hf i (by omega) g1).1
  rw [e] at h2
  exact h2
def okChgA (c : Chg) : Prop := inK .i64 c.key
theorem chgOpens : Opens Try.prog 68 tChg okChgA :=
  opens_ok (opens_via (fun o : Chg => (o.table, o.key, o.gone, o.val, ())) (fun x => ⟨x.1, x.2.1, x.2.2.1, x.2.2.2.1⟩) (fun _ => rfl)
    (opens_struct Try.underlying68 (by kernel_rfl) (fields_cons (opens_int Try.underlying3 (by kernel_rfl)) rfl (fields_cons (opens_int Try.underlying2 (by kernel_rfl)) rfl (fields_cons (opens_bool Try.underlying4 (by kernel_rfl)) rfl (fields_cons (opens_str Try.underlying9 (by kernel_rfl)) rfl (fields_nil _ _))))))) (fun o h => h.2.1)
def okTxnA (t : TxnD) : Prop := inI64 t.kind ∧ t.changes.length ≤ 140737488351232 ∧ t.signals.length ≤ 140737488351232 ∧ ∀ c ∈ t.changes, inI64 c.key
theorem txnOpens : Opens Try.prog 66 tTxn okTxnA :=
  opens_ok (opens_via (fun t : TxnD => (t.lsn, t.kind, t.changes, t.signals, t.mark, ())) (fun x => ⟨x.1, x.2.1, x.2.2.1, x.2.2.2.1, x.2.2.2.2.1⟩) (fun _ => rfl)
    (opens_struct Try.underlying66 (by kernel_rfl) (fields_cons (opens_int Try.underlying2 (by kernel_rfl)) rfl (fields_cons (opens_int Try.underlying3 (by kernel_rfl)) rfl
      (fields_cons (opens_slice (b := 40) chgOpens Try.underlying64 (by kernel_rfl) (by kernel_rfl) (by decide)) rfl (fields_cons (opens_slice (b := 16) (opens_str Try.underlying9 (by kernel_rfl)) Try.underlying61 (by kernel_rfl) (by kernel_rfl) (by decide)) rfl
        (fields_cons (opens_int Try.underlying2 (by kernel_rfl)) rfl (fields_nil _ _)))))))) (fun t h => by
      have h2 := h.2.2.1
      have h3 := h.2.2.2.1
      exact ⟨inK_i64 h.2.1, by have := h2.1; simp only at this; omega, by have := h3.1; simp only at this; omega, fun c hc => inK_i64 (h2.2 c hc)⟩)
end Go.Proofs.Ytffogjfnmbgogaa
