/-
  FoldAll.
-/
import Derived.Test.YtffogjfnmbgogaaLaw11
namespace Go.Proofs.Ytffogjfnmbgogaa
set_option linter.unusedVariables false
set_option maxRecDepth 100000
open Go.RowKit

/-- What an argument's transactions are like. -/
def okTxn (t : TxnD) : Prop := inI64 t.kind ∧ t.changes.length ≤ 140737488351232 ∧ t.signals.length ≤ 140737488351232 ∧ ∀ c ∈ t.changes, inI64 c.key
theorem okTx.keys {k : Nat} {t : TxnD} (h : okTx k t) : ∀ c ∈ t.changes, inI64 c.key := fun c hc => by
  have := h.2.2 c hc
  unfold inI64; omega
theorem okTx.total {k : Nat} : ∀ {ts : List TxnD}, (∀ t ∈ ts, okTx k t) → (ts.flatMap (·.changes)).length ≤ 5 * ts.length
  | [], _ => by simp
  | t :: ts, h => by
    have := (h t (.head _)).1
    have ih := okTx.total (ts := ts) (fun x hx => h x (.tail _ hx))
    simp only [List.flatMap_cons, List.length_append, List.length_cons]; omega
theorem tabs_len (n : Int) (l : List TxnD) (k : Int) : (tabs n l k).length ≤ 8 := by
  unfold tabs
  split
  · simp
  · simp; omega
theorem tabs_each {n : Int} {l : List TxnD} {k : Int} {B : Nat} (hB : (l.flatMap (·.changes)).length ≤ B) : ∀ L ∈ tabs n l k, L.length ≤ B := by
  intro L hL
  unfold tabs at hL
  split at hL
  · cases hL
  · obtain ⟨t, _, rfl⟩ := List.mem_map.1 hL
    exact Nat.le_trans (fold_len' l t _) hB
/-- Both folds, and their tables held against each other. -/
theorem both_fold {W w : World} {F : List Chunk} {H : Heap} {lv : Value} {l : List TxnD} {n k : Int} (hl : RdTx H lv l) (hn : l.length ≤ 140737488351232) (hc : ∀ t ∈ l, t.changes.length ≤ 140737488351232) (ok : okT l) (hB : (l.flatMap (·.changes)).length ≤ 1000000)
    {K : Value → World → Prop} (hS : SL W (.mem H :: F) w) (h : ∀ H' w', H.le H' → SL W (.mem H' :: F) w' → K (.bool true) w') :
    HCall Try.prog 33 [.int .i64 n, lv, .int .i64 k] w fun v22 w_6 => HCall Try.prog 34 [.int .i64 n, lv, .int .i64 k] w_6 fun v26 w_7 => HCall Try.prog 32 [v22, v26] w_7 K := by
  (apply s_call (foldF_spec H lv l n k hl hn hc ok (fun tb i => Nat.le_trans (fold_len' l tb i) hB)) hS; (focus (repeat (first | (with_reducible exact Pick.nil) | ((with_reducible apply Pick.cons); (focus ((repeat (first | (with_reducible exact Rem.hd) | (with_reducible apply Rem.tl))); done)))))); clear hS)
  rintro v1 post ⟨H1, us, h01, hr1, rfl⟩ w hS
  (try simp only [app] at hS)
  (apply s_call (rfold_spec H1 lv l n k (hl.mono h01) hn hc hB) hS; (focus (repeat (first | (with_reducible exact Pick.nil) | ((with_reducible apply Pick.cons); (focus ((repeat (first | (with_reducible exact Rem.hd) | (with_reducible apply Rem.tl))); done)))))); clear hS)
  rintro v2 post ⟨H2, us2, h12, hr2, rfl⟩ w hS
  (try simp only [app] at hS)
  have htl := tabs_len n l k
  (apply s_call (tables_spec H2 v1 v2 (tabs n l k) (tabs n l k) us us2 (hr1.mono h12) hr2 (by omega) (fun L hL => Nat.le_trans (tabs_each hB L hL) (by decide))) hS; (focus (repeat (first | (with_reducible exact Pick.nil) | ((with_reducible apply Pick.cons); (focus ((repeat (first | (with_reducible exact Rem.hd) | (with_reducible apply Rem.tl))); done)))))); clear hS)
  rintro v3 post ⟨rfl, rfl⟩ w hS
  (try simp only [app] at hS)
  simp only [decide_true]
  exact h H2 w (Heap.le_trans h01 h12) hS
theorem foldAll_spec (H : Heap) (lv : Value) (l : List TxnD) (n k : Int) (hl : RdTx H lv l) (hn : l.length ≤ 140737488351232) (hok : ∀ t ∈ l, okTxn t) :
    Spec Try.prog 7 [.int .i64 n, lv, .int .i64 k] [.mem H] (fun v post => v = .bool true ∧ ∃ H' l, H.le H' ∧ post = .mem H' :: l) := by
  intro W F w hS; apply vc7; unfold Vc7; (try simp only [app] at hS)
  have hc : ∀ t ∈ l, t.changes.length ≤ 140737488351232 := fun t ht => (hok t ht).2.1
  have ok : okT l := fun t ht => (hok t ht).2.2.2
  (apply s_call (few_spec H lv l hl hn hc) hS; (focus (repeat (first | (with_reducible exact Pick.nil) | ((with_reducible apply Pick.cons); (focus ((repeat (first | (with_reducible exact Rem.hd) | (with_reducible apply Rem.tl))); done)))))); clear hS)
  rintro v10 post ⟨b, rfl, hb, rfl⟩ w hS
  (try simp only [app] at hS)
  (repeat (first | (with_reducible refine s_nil ?_) | (with_reducible refine s_ext20 ?_) | (with_reducible refine s_ext21 ?_) | (with_reducible refine s_ext30 ?_) | (with_reducible refine s_ext31 ?_) | (with_reducible refine s_ext32 ?_) | (with_reducible refine s_ext40 ?_) | (with_reducible refine s_ext41 ?_) | (with_reducible refine s_ext42 ?_) | (with_reducible refine s_ext43 ?_) | (with_reducible refine s_fld ?_) | (with_reducible refine s_lenS ?_) | (with_reducible refine s_lenT ?_) | (with_reducible refine s_eq ?_) | (with_reducible refine s_ne ?_) | (with_reducible refine s_lt ?_) | (with_reducible refine s_le ?_) | (with_reducible refine s_gt ?_) | (with_reducible refine s_ge ?_) | (with_reducible refine s_eqs ?_) | (with_reducible refine s_nes ?_) | (with_reducible refine s_eqb ?_) | (with_reducible refine s_neb ?_) | (with_reducible refine s_eqp ?_) | (with_reducible refine s_nep ?_) | (with_reducible refine s_not ?_) | (with_reducible refine s_min ?_) | (with_reducible refine s_max ?_) | ((with_reducible apply s_ld hS); (focus (first | exact .hd | exact .tl .hd | exact .tl (.tl .hd) | exact .tl (.tl (.tl .hd)) | exact .tl (.tl (.tl (.tl .hd))) | exact .tl (.tl (.tl (.tl (.tl .hd)))) | exact .tl (.tl (.tl (.tl (.tl (.tl .hd))))) | exact .tl (.tl (.tl (.tl (.tl (.tl (.tl .hd)))))))); (focus rfl)) | ((with_reducible apply s_add1); (focus omega)) | ((with_reducible apply s_addn); (focus omega)) | ((with_reducible apply s_add); (focus omega)) | ((with_reducible apply s_remn); (focus omega)) | ((with_reducible apply s_sub); (focus omega)) | ((with_reducible apply s_st hS); (focus (repeat (first | exact Upd.hd | apply Upd.tl))); (focus rfl); (focus (first | rfl | assumption)); clear hS; intro w hS; simp only [List.set] at hS) | ((with_reducible refine s_draw hS ?_); clear hS; intro w hS) | ((with_reducible refine s_new hS ?_); clear hS; intro b w hS) | ((with_reducible apply s_stN0 hS); (focus (repeat (first | exact Upd.hd | apply Upd.tl))); (focus rfl); (focus rfl); (focus (simp [Value.oneCell']; done)); clear hS; intro w hS) | ((with_reducible apply s_ldN0 hS); (focus (first | exact .hd | exact .tl .hd | exact .tl (.tl .hd) | exact .tl (.tl (.tl .hd)) | exact .tl (.tl (.tl (.tl .hd))) | exact .tl (.tl (.tl (.tl (.tl .hd)))) | exact .tl (.tl (.tl (.tl (.tl (.tl .hd))))) | exact .tl (.tl (.tl (.tl (.tl (.tl (.tl .hd)))))))); (focus rfl)) | ((with_reducible apply s_bld); (focus (simp [fillL, Value.cells]; rfl))) | ((with_reducible apply s_bldS hS); (focus (simp [fillL, Value.cells, zrow]; rfl)); clear hS; intro b w hS) | (with_reducible refine s_ift ?_) | (with_reducible refine s_iff ?_) | (with_reducible refine s_same ?_)))
  refine s_ifn (fun he => ?_) (fun he => ?_)
  · (apply s_call (awake11_spec H) hS; (focus (repeat (first | (with_reducible exact Pick.nil) | ((with_reducible apply Pick.cons); (focus ((repeat (first | (with_reducible exact Rem.hd) | (with_reducible apply Rem.tl))); done)))))); clear hS)
    rintro v post ⟨H', hH, rfl, rfl⟩ w hS
    (try simp only [app] at hS)
    exact ⟨_, ⟨rfl, H', [], hH, rfl⟩, hS⟩
  · have hfew := hb he
    have hB : (l.flatMap (·.changes)).length ≤ 1000000 := by omega
    have hm := md_lt n 10 (by decide)
    (apply s_call (mod_spec n 10 (by decide) (by decide)) hS; (focus (repeat (first | (with_reducible exact Pick.nil) | ((with_reducible apply Pick.cons); (focus ((repeat (first | (with_reducible exact Rem.hd) | (with_reducible apply Rem.tl))); done)))))); clear hS)
    (rintro v post ⟨rfl, rfl⟩ w hS; (try simp only [app] at hS); (repeat (first | (with_reducible refine s_nil ?_) | (with_reducible refine s_ext20 ?_) | (with_reducible refine s_ext21 ?_) | (with_reducible refine s_ext30 ?_) | (with_reducible refine s_ext31 ?_) | (with_reducible refine s_ext32 ?_) | (with_reducible refine s_ext40 ?_) | (with_reducible refine s_ext41 ?_) | (with_reducible refine s_ext42 ?_) | (with_reducible refine s_ext43 ?_) | (with_reducible refine s_fld ?_) | (with_reducible refine s_lenS ?_) | (with_reducible refine s_lenT ?_) | (with_reducible refine s_eq ?_) | (with_reducible refine s_ne ?_) | (with_reducible refine s_lt ?_) | (with_reducible refine s_le ?_) | (with_reducible refine s_gt ?_) | (with_reducible refine s_ge ?_) | (with_reducible refine s_eqs ?_) | (with_reducible refine s_nes ?_) | (with_reducible refine s_eqb ?_) | (with_reducible refine s_neb ?_) | (with_reducible refine s_eqp ?_) | (with_reducible refine s_nep ?_) | (with_reducible refine s_not ?_) | (with_reducible refine s_min ?_) | (with_reducible refine s_max ?_) | ((with_reducible apply s_ld hS); (focus (first | exact .hd | exact .tl .hd | exact .tl (.tl .hd) | exact .tl (.tl (.tl .hd)) | exact .tl (.tl (.tl (.tl .hd))) | exact .tl (.tl (.tl (.tl (.tl .hd)))) | exact .tl (.tl (.tl (.tl (.tl (.tl .hd))))) | exact .tl (.tl (.tl (.tl (.tl (.tl (.tl .hd)))))))); (focus rfl)) | ((with_reducible apply s_add1); (focus omega)) | ((with_reducible apply s_addn); (focus omega)) | ((with_reducible apply s_add); (focus omega)) | ((with_reducible apply s_remn); (focus omega)) | ((with_reducible apply s_sub); (focus omega)) | ((with_reducible apply s_st hS); (focus (repeat (first | exact Upd.hd | apply Upd.tl))); (focus rfl); (focus (first | rfl | assumption)); clear hS; intro w hS; simp only [List.set] at hS) | ((with_reducible refine s_draw hS ?_); clear hS; intro w hS) | ((with_reducible refine s_new hS ?_); clear hS; intro b w hS) | ((with_reducible apply s_stN0 hS); (focus (repeat (first | exact Upd.hd | apply Upd.tl))); (focus rfl); (focus rfl); (focus (simp [Value.oneCell']; done)); clear hS; intro w hS) | ((with_reducible apply s_ldN0 hS); (focus (first | exact .hd | exact .tl .hd | exact .tl (.tl .hd) | exact .tl (.tl (.tl .hd)) | exact .tl (.tl (.tl (.tl .hd))) | exact .tl (.tl (.tl (.tl (.tl .hd)))) | exact .tl (.tl (.tl (.tl (.tl (.tl .hd))))) | exact .tl (.tl (.tl (.tl (.tl (.tl (.tl .hd)))))))); (focus rfl)) | ((with_reducible apply s_bld); (focus (simp [fillL, Value.cells]; rfl))) | ((with_reducible apply s_bldS hS); (focus (simp [fillL, Value.cells, zrow]; rfl)); clear hS; intro b w hS) | (with_reducible refine s_ift ?_) | (with_reducible refine s_iff ?_) | (with_reducible refine s_same ?_))))
    (apply s_call (txns_spec H lv l 8 30 hl (by decide) (by decide) (by decide) hn (fun t ht => ⟨(hok t ht).2.1, (hok t ht).2.2.1, (hok t ht).1⟩)) hS; (focus (repeat (first | (with_reducible exact Pick.nil) | ((with_reducible apply Pick.cons); (focus ((repeat (first | (with_reducible exact Rem.hd) | (with_reducible apply Rem.tl))); done)))))); clear hS)
    rintro v16 post ⟨H1, ts, h01, hts, htl, htok, rfl⟩ w hS
    (try simp only [app] at hS)
    have tn : ts.length ≤ 140737488351232 := by omega
    have tc : ∀ t ∈ ts, t.changes.length ≤ 140737488351232 := fun t ht => by have := (htok t ht).1; omega
    have tok : okT ts := fun t ht => (htok t ht).keys
    have tB : (ts.flatMap (·.changes)).length ≤ 1000000 := by have := okTx.total htok; omega
    (apply s_call (awake11_spec H1) hS; (focus (repeat (first | (with_reducible exact Pick.nil) | ((with_reducible apply Pick.cons); (focus ((repeat (first | (with_reducible exact Rem.hd) | (with_reducible apply Rem.tl))); done)))))); clear hS)
    rintro v post ⟨H2, h12, rfl, rfl⟩ w hS
    (try simp only [app] at hS)
    refine s_ift ?_
    have hH2 := Heap.le_trans h01 h12
    refine both_fold (hl.mono hH2) hn hc ok hB hS ?_
    clear hS; intro H3 w h23 hS
    refine s_ift ?_
    refine both_fold (hts.mono (Heap.le_trans h12 h23)) tn tc tok tB hS ?_
    clear hS; intro H4 w h34 hS
    refine s_ift ?_
    have hts4 := (hts.mono (Heap.le_trans h12 h23)).mono h34
    (apply s_call (mod_spec k 31 (by decide) (by decide)) hS; (focus (repeat (first | (with_reducible exact Pick.nil) | ((with_reducible apply Pick.cons); (focus ((repeat (first | (with_reducible exact Rem.hd) | (with_reducible apply Rem.tl))); done)))))); clear hS)
    (rintro v post ⟨rfl, rfl⟩ w hS; (try simp only [app] at hS); (repeat (first | (with_reducible refine s_nil ?_) | (with_reducible refine s_ext20 ?_) | (with_reducible refine s_ext21 ?_) | (with_reducible refine s_ext30 ?_) | (with_reducible refine s_ext31 ?_) | (with_reducible refine s_ext32 ?_) | (with_reducible refine s_ext40 ?_) | (with_reducible refine s_ext41 ?_) | (with_reducible refine s_ext42 ?_) | (with_reducible refine s_ext43 ?_) | (with_reducible refine s_fld ?_) | (with_reducible refine s_lenS ?_) | (with_reducible refine s_lenT ?_) | (with_reducible refine s_eq ?_) | (with_reducible refine s_ne ?_) | (with_reducible refine s_lt ?_) | (with_reducible refine s_le ?_) | (with_reducible refine s_gt ?_) | (with_reducible refine s_ge ?_) | (with_reducible refine s_eqs ?_) | (with_reducible refine s_nes ?_) | (with_reducible refine s_eqb ?_) | (with_reducible refine s_neb ?_) | (with_reducible refine s_eqp ?_) | (with_reducible refine s_nep ?_) | (with_reducible refine s_not ?_) | (with_reducible refine s_min ?_) | (with_reducible refine s_max ?_) | ((with_reducible apply s_ld hS); (focus (first | exact .hd | exact .tl .hd | exact .tl (.tl .hd) | exact .tl (.tl (.tl .hd)) | exact .tl (.tl (.tl (.tl .hd))) | exact .tl (.tl (.tl (.tl (.tl .hd)))) | exact .tl (.tl (.tl (.tl (.tl (.tl .hd))))) | exact .tl (.tl (.tl (.tl (.tl (.tl (.tl .hd)))))))); (focus rfl)) | ((with_reducible apply s_add1); (focus omega)) | ((with_reducible apply s_addn); (focus omega)) | ((with_reducible apply s_add); (focus omega)) | ((with_reducible apply s_remn); (focus omega)) | ((with_reducible apply s_sub); (focus omega)) | ((with_reducible apply s_st hS); (focus (repeat (first | exact Upd.hd | apply Upd.tl))); (focus rfl); (focus (first | rfl | assumption)); clear hS; intro w hS; simp only [List.set] at hS) | ((with_reducible refine s_draw hS ?_); clear hS; intro w hS) | ((with_reducible refine s_new hS ?_); clear hS; intro b w hS) | ((with_reducible apply s_stN0 hS); (focus (repeat (first | exact Upd.hd | apply Upd.tl))); (focus rfl); (focus rfl); (focus (simp [Value.oneCell']; done)); clear hS; intro w hS) | ((with_reducible apply s_ldN0 hS); (focus (first | exact .hd | exact .tl .hd | exact .tl (.tl .hd) | exact .tl (.tl (.tl .hd)) | exact .tl (.tl (.tl (.tl .hd))) | exact .tl (.tl (.tl (.tl (.tl .hd)))) | exact .tl (.tl (.tl (.tl (.tl (.tl .hd))))) | exact .tl (.tl (.tl (.tl (.tl (.tl (.tl .hd)))))))); (focus rfl)) | ((with_reducible apply s_bld); (focus (simp [fillL, Value.cells]; rfl))) | ((with_reducible apply s_bldS hS); (focus (simp [fillL, Value.cells, zrow]; rfl)); clear hS; intro b w hS) | (with_reducible refine s_ift ?_) | (with_reducible refine s_iff ?_) | (with_reducible refine s_same ?_))))
    (apply s_call (foldF_spec H4 v16 ts (md n 10 : Nat) (md k 31 : Nat) hts4 tn tc tok (fun tb i => Nat.le_trans (fold_len' ts tb i) tB)) hS; (focus (repeat (first | (with_reducible exact Pick.nil) | ((with_reducible apply Pick.cons); (focus ((repeat (first | (with_reducible exact Rem.hd) | (with_reducible apply Rem.tl))); done)))))); clear hS)
    rintro v45 post ⟨H5, us, h45, hr1, rfl⟩ w hS
    (try simp only [app] at hS)
    (apply s_call (mod_spec k 31 (by decide) (by decide)) hS; (focus (repeat (first | (with_reducible exact Pick.nil) | ((with_reducible apply Pick.cons); (focus ((repeat (first | (with_reducible exact Rem.hd) | (with_reducible apply Rem.tl))); done)))))); clear hS)
    (rintro v post ⟨rfl, rfl⟩ w hS; (try simp only [app] at hS); (repeat (first | (with_reducible refine s_nil ?_) | (with_reducible refine s_ext20 ?_) | (with_reducible refine s_ext21 ?_) | (with_reducible refine s_ext30 ?_) | (with_reducible refine s_ext31 ?_) | (with_reducible refine s_ext32 ?_) | (with_reducible refine s_ext40 ?_) | (with_reducible refine s_ext41 ?_) | (with_reducible refine s_ext42 ?_) | (with_reducible refine s_ext43 ?_) | (with_reducible refine s_fld ?_) | (with_reducible refine s_lenS ?_) | (with_reducible refine s_lenT ?_) | (with_reducible refine s_eq ?_) | (with_reducible refine s_ne ?_) | (with_reducible refine s_lt ?_) | (with_reducible refine s_le ?_) | (with_reducible refine s_gt ?_) | (with_reducible refine s_ge ?_) | (with_reducible refine s_eqs ?_) | (with_reducible refine s_nes ?_) | (with_reducible refine s_eqb ?_) | (with_reducible refine s_neb ?_) | (with_reducible refine s_eqp ?_) | (with_reducible refine s_nep ?_) | (with_reducible refine s_not ?_) | (with_reducible refine s_min ?_) | (with_reducible refine s_max ?_) | ((with_reducible apply s_ld hS); (focus (first | exact .hd | exact .tl .hd | exact .tl (.tl .hd) | exact .tl (.tl (.tl .hd)) | exact .tl (.tl (.tl (.tl .hd))) | exact .tl (.tl (.tl (.tl (.tl .hd)))) | exact .tl (.tl (.tl (.tl (.tl (.tl .hd))))) | exact .tl (.tl (.tl (.tl (.tl (.tl (.tl .hd)))))))); (focus rfl)) | ((with_reducible apply s_add1); (focus omega)) | ((with_reducible apply s_addn); (focus omega)) | ((with_reducible apply s_add); (focus omega)) | ((with_reducible apply s_remn); (focus omega)) | ((with_reducible apply s_sub); (focus omega)) | ((with_reducible apply s_st hS); (focus (repeat (first | exact Upd.hd | apply Upd.tl))); (focus rfl); (focus (first | rfl | assumption)); clear hS; intro w hS; simp only [List.set] at hS) | ((with_reducible refine s_draw hS ?_); clear hS; intro w hS) | ((with_reducible refine s_new hS ?_); clear hS; intro b w hS) | ((with_reducible apply s_stN0 hS); (focus (repeat (first | exact Upd.hd | apply Upd.tl))); (focus rfl); (focus rfl); (focus (simp [Value.oneCell']; done)); clear hS; intro w hS) | ((with_reducible apply s_ldN0 hS); (focus (first | exact .hd | exact .tl .hd | exact .tl (.tl .hd) | exact .tl (.tl (.tl .hd)) | exact .tl (.tl (.tl (.tl .hd))) | exact .tl (.tl (.tl (.tl (.tl .hd)))) | exact .tl (.tl (.tl (.tl (.tl (.tl .hd))))) | exact .tl (.tl (.tl (.tl (.tl (.tl (.tl .hd)))))))); (focus rfl)) | ((with_reducible apply s_bld); (focus (simp [fillL, Value.cells]; rfl))) | ((with_reducible apply s_bldS hS); (focus (simp [fillL, Value.cells, zrow]; rfl)); clear hS; intro b w hS) | (with_reducible refine s_ift ?_) | (with_reducible refine s_iff ?_) | (with_reducible refine s_same ?_))))
    (apply s_call (rfold_spec H5 v16 ts (md n 10 : Nat) (md k 31 : Nat) (hts4.mono h45) tn tc tB) hS; (focus (repeat (first | (with_reducible exact Pick.nil) | ((with_reducible apply Pick.cons); (focus ((repeat (first | (with_reducible exact Rem.hd) | (with_reducible apply Rem.tl))); done)))))); clear hS)
    rintro v50 post ⟨H6, us2, h56, hr2, rfl⟩ w hS
    (try simp only [app] at hS)
    have htl := tabs_len (md n 10 : Nat) ts (md k 31 : Nat)
    (apply s_call (tables_spec H6 v45 v50 _ _ us us2 (hr1.mono h56) hr2 (by omega) (fun L hL => Nat.le_trans (tabs_each tB L hL) (by decide))) hS; (focus (repeat (first | (with_reducible exact Pick.nil) | ((with_reducible apply Pick.cons); (focus ((repeat (first | (with_reducible exact Rem.hd) | (with_reducible apply Rem.tl))); done)))))); clear hS)
    rintro v51 post ⟨rfl, rfl⟩ w hS
    (try simp only [app] at hS)
    exact ⟨_, ⟨by simp, H6, [], Heap.le_trans hH2 (Heap.le_trans h23 (Heap.le_trans h34 (Heap.le_trans h45 h56))), rfl⟩, hS⟩

theorem foldAll_law (n : Int) (l : List TxnD) (k : Int) (hok : ∀ t ∈ l, okTxn t) (v : Value) (w : World) (hl : RdS tTxn w Nob l v) (hlen : l.length ≤ 140737488351232) : Calls Try.prog 7 #[.int .i64 n, v, .int .i64 k] w fun e w' => e = .returned (.bool true) ∧ Below w.heap.size w w' :=
  (law_of_spec (foldAll_spec (Heap.of w) v l n k (RdTx.of hl) hlen hok)).calls
end Go.Proofs.Ytffogjfnmbgogaa
