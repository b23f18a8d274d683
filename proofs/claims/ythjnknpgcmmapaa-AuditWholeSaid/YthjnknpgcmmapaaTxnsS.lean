/-
  qanatplay: transactions of any ones, over pieces of memory.
-/
import Derived.Test.YthjnknpgcmmapaaPlaySig
namespace Go.Proofs.Ythjnknpgcmmapaa
set_option linter.unusedVariables false
set_option maxRecDepth 100000
open Go.RowKit

/-- What such transactions are like. -/
def okTx (k : Nat) (t : TxnD) : Prop := t.changes.length ≤ 5 ∧ t.signals.length ≤ 2 ∧ ∀ c ∈ t.changes, 1 ≤ c.key ∧ c.key ≤ 1099511627776 ∧ 0 ≤ c.table ∧ c.table < k ∧ c.val.size ≤ 32
theorem chOf_ok (c : Chg) (k : Nat) (h : 0 < k) : 1 ≤ (chOf c k).key ∧ (chOf c k).key ≤ 1099511627776 ∧ 0 ≤ (chOf c k).table ∧ (chOf c k).table < k ∧ (chOf c k).val.size ≤ 32 := by
  have h1 := md_lt c.key 1099511627776 (by decide)
  have h2 := md_lt c.key 12 (by decide)
  have h3 := md_lt c.table k h
  have h4 : (chOf c k).val.size ≤ 32 := by
    unfold chOf
    simp only
    split
    · simp [ByteArray.size]
    · unfold cutOf; rw [ByteArray.size_extract]; omega
  refine ⟨?_, ?_, ?_, ?_, h4⟩ <;> (unfold chOf; simp only; try split) <;> omega
theorem encTx_one {H : Heap} {x : TxV} {t : TxnD} (h : TxIs H x t) : ∀ v ∈ encTx x, v.oneCell' = true := by
  have h1 := h.cv.one
  have h2 := h.sv.one
  intro v hv
  simp only [encTx, List.mem_cons, List.mem_nil_iff, or_false] at hv
  rcases hv with rfl | rfl | rfl | rfl | rfl
  · rfl
  · rfl
  · exact h1
  · exact h2
  · rfl
theorem fill_tx (x : TxV) (z : List Value) (hz : z.length = 5) : fillL (zrow z 1) [(0, 5, agg (encTx x))] = some (encTx x) := by
  simp [fillL, zrow, Value.cells, encTx, hz]
theorem txns_spec (H : Heap) (v : Value) (l : List TxnD) (k most : Nat) (hl : RdTx H v l) (h1 : 0 < k) (h2 : k ≤ 8) (hm : most ≤ 1000) (hn : l.length ≤ 140737488351232) (hc : ∀ t ∈ l, t.changes.length ≤ 140737488351232 ∧ t.signals.length ≤ 140737488351232 ∧ inI64 t.kind) :
    Spec Try.prog 39 [v, .int .i64 k, .int .i64 most] [.mem H] (fun u post => ∃ (H' : Heap) (ts : List TxnD), H.le H' ∧ RdTx H' u ts ∧ ts.length = min l.length most ∧ (∀ t ∈ ts, okTx k t) ∧ post = [.mem H']) := by
  intro W F w hS; apply vc39; unfold Vc39; (try simp only [app] at hS)
  obtain ⟨xs, hxl, hxv, hxs⟩ := hl
  refine ⟨fun us w => ∃ (m : Nat) (u : Value) (ys : List TxV) (ts : List TxnD) (H2 : Heap), us = [u, .int .i64 m] ∧ m ≤ l.length ∧ m ≤ most ∧ ys.length = m ∧ ts.length = m ∧ H.le H2 ∧ (∀ i (h : i < ts.length) (h' : i < ys.length), TxIs H2 ys[i] ts[i]) ∧ (∀ t ∈ ts, okTx k t) ∧
      SL W (.ob (OwnSl u 103 5 m ((ys.map encTx).flatten)) :: .mem H2 :: F) w,
    fun us _ => match us with | [_, .int _ m] => (l.length - m).toNat | _ => 0, ⟨0, _, [], [], H, rfl, by omega, by omega, rfl, rfl, Heap.le_refl H, fun i h => by simp at h, by simp, OwnSl.nil hS⟩, ?_⟩
  clear hS
  rintro v7 v8 w ⟨m, u, ys, ts, H2, hus, hml, hmm, hys, hts, hH, hall, hok, hS⟩
  cases hus
  have hend : ∀ w, m = min l.length most → SL W (.ob (OwnSl v7 103 5 m ((ys.map encTx).flatten)) :: .mem H2 :: F) w →
      ∃ post, (∃ (H' : Heap) (ts : List TxnD), H.le H' ∧ RdTx H' v7 ts ∧ ts.length = min l.length most ∧ (∀ t ∈ ts, okTx k t) ∧ post = [.mem H']) ∧ SL W (app post F) w := fun w he hS => by
    obtain ⟨H3, h23, hR, hS⟩ := s_freeze (H := H2) (v := v7) hS (by (repeat (first | (with_reducible exact Pick.nil) | ((with_reducible apply Pick.cons); (focus ((repeat (first | (with_reducible exact Rem.hd) | (with_reducible apply Rem.tl))); done))))))
    exact ⟨_, ⟨H3, ts, Heap.le_trans hH h23, ⟨ys, by omega, by rw [hts]; exact hR, fun i h h' => (hall i h h').mono h23⟩, by omega, hok, rfl⟩, hS⟩
  refine s_lenR hxv ?_
  (repeat (first | (with_reducible first | apply Z0 | apply Z1 | apply Z2 | apply Z3 | apply Z4 | apply Z5 | apply Z6 | apply Z7 | apply Z8 | apply Z9 | apply Za | apply Zb | apply Zc | apply Zd | apply Ze | apply Zf | apply Zg | apply Zh | apply Zi | apply Zj | apply Zk | apply Zl | apply Zm | apply Zn | apply Zo | apply Zp | apply Zq | apply Zr) | ((with_reducible apply s_ld hS); (focus (repeat (first | exact Has.hd | apply Has.tl)); done); (focus rfl)) | ((with_reducible first | apply s_add1 | apply s_addn | apply s_add | apply s_remn | apply s_sub); (focus omega)) | ((with_reducible apply s_st hS); (focus (repeat (first | exact Upd.hd | apply Upd.tl)); done); (focus rfl); (focus (first | rfl | assumption)); clear hS; intro w hS; simp only [List.set] at hS) | ((with_reducible refine s_draw hS ?_); clear hS; intro w hS) | ((with_reducible refine s_new hS ?_); clear hS; intro b w hS) | ((with_reducible apply s_stN0 hS); (focus (repeat (first | exact Upd.hd | apply Upd.tl)); done); (focus rfl); (focus rfl); (focus (simp [Value.oneCell']; done)); clear hS; intro w hS) | ((with_reducible apply s_ldN0 hS); (focus (repeat (first | exact Has.hd | apply Has.tl)); done); (focus rfl)) | ((with_reducible apply s_bld); (focus (simp [fillL, Value.cells]; rfl))) | ((with_reducible apply s_bldS hS); (focus (simp [fillL, Value.cells, zrow]; rfl)); clear hS; intro b w hS) | (with_reducible first | apply Zs | apply Zt | apply Zu)))
  refine s_ifp (fun h => ?_) (fun h => hend w (by omega) hS)
  (repeat (first | (with_reducible first | apply Z0 | apply Z1 | apply Z2 | apply Z3 | apply Z4 | apply Z5 | apply Z6 | apply Z7 | apply Z8 | apply Z9 | apply Za | apply Zb | apply Zc | apply Zd | apply Ze | apply Zf | apply Zg | apply Zh | apply Zi | apply Zj | apply Zk | apply Zl | apply Zm | apply Zn | apply Zo | apply Zp | apply Zq | apply Zr) | ((with_reducible apply s_ld hS); (focus (repeat (first | exact Has.hd | apply Has.tl)); done); (focus rfl)) | ((with_reducible first | apply s_add1 | apply s_addn | apply s_add | apply s_remn | apply s_sub); (focus omega)) | ((with_reducible apply s_st hS); (focus (repeat (first | exact Upd.hd | apply Upd.tl)); done); (focus rfl); (focus (first | rfl | assumption)); clear hS; intro w hS; simp only [List.set] at hS) | ((with_reducible refine s_draw hS ?_); clear hS; intro w hS) | ((with_reducible refine s_new hS ?_); clear hS; intro b w hS) | ((with_reducible apply s_stN0 hS); (focus (repeat (first | exact Upd.hd | apply Upd.tl)); done); (focus rfl); (focus rfl); (focus (simp [Value.oneCell']; done)); clear hS; intro w hS) | ((with_reducible apply s_ldN0 hS); (focus (repeat (first | exact Has.hd | apply Has.tl)); done); (focus rfl)) | ((with_reducible apply s_bld); (focus (simp [fillL, Value.cells]; rfl))) | ((with_reducible apply s_bldS hS); (focus (simp [fillL, Value.cells, zrow]; rfl)); clear hS; intro b w hS) | (with_reducible first | apply Zs | apply Zt | apply Zu)))
  refine s_ifp (fun h3 => ?_) (fun h3 => hend w (by omega) hS)
  clear hend
  have hil : m < l.length := by omega
  have hix : m < xs.length := by omega
  have hxm := (hxs m hil hix).mono hH
  have hcm := hc _ (List.getElem_mem hil)
  have hxi : xs[m]? = some xs[m] := by simp [hix]
  have hxv2 := hxv.mono hH
  generalize xs[m] = x at hxm hxi
  generalize l[m] = t at hxm hcm
  obtain ⟨tl, tk, tc, tsg, tm⟩ := t
  (repeat (first | (with_reducible first | apply Z0 | apply Z1 | apply Z2 | apply Z3 | apply Z4 | apply Z5 | apply Z6 | apply Z7 | apply Z8 | apply Z9 | apply Za | apply Zb | apply Zc | apply Zd | apply Ze | apply Zf | apply Zg | apply Zh | apply Zi | apply Zj | apply Zk | apply Zl | apply Zm | apply Zn | apply Zo | apply Zp | apply Zq | apply Zr) | ((with_reducible apply s_ld hS); (focus (repeat (first | exact Has.hd | apply Has.tl)); done); (focus rfl)) | ((with_reducible first | apply s_add1 | apply s_addn | apply s_add | apply s_remn | apply s_sub); (focus omega)) | ((with_reducible apply s_st hS); (focus (repeat (first | exact Upd.hd | apply Upd.tl)); done); (focus rfl); (focus (first | rfl | assumption)); clear hS; intro w hS; simp only [List.set] at hS) | ((with_reducible refine s_draw hS ?_); clear hS; intro w hS) | ((with_reducible refine s_new hS ?_); clear hS; intro b w hS) | ((with_reducible apply s_stN0 hS); (focus (repeat (first | exact Upd.hd | apply Upd.tl)); done); (focus rfl); (focus rfl); (focus (simp [Value.oneCell']; done)); clear hS; intro w hS) | ((with_reducible apply s_ldN0 hS); (focus (repeat (first | exact Has.hd | apply Has.tl)); done); (focus rfl)) | ((with_reducible apply s_bld); (focus (simp [fillL, Value.cells]; rfl))) | ((with_reducible apply s_bldS hS); (focus (simp [fillL, Value.cells, zrow]; rfl)); clear hS; intro b w hS) | (with_reducible first | apply Zs | apply Zt | apply Zu)))
  refine ⟨fun us w => us = [] ∧ ∃ (y : TxV) (t' : TxnD) (H3 : Heap), H2.le H3 ∧ TxIs H3 y t' ∧ okTx k t' ∧ SL W (.pt b (encTx y) 103 :: .ob (OwnSl v7 103 5 m ((ys.map encTx).flatten)) :: .mem H3 :: F) w, ?_, ?_⟩
  · refine s_getF hS (by (repeat (first | exact Has.hd | apply Has.tl))) encTx_len hxv2 hxi hil (i := 1) rfl ?_
    have e1 := hxm.kind
    have e2 := hxm.mark
    simp only at e1 e2
    rw [e1]
    (apply s_call (mod_spec tk 9 (by decide) (by decide)) hS; (focus (repeat (first | (with_reducible exact Pick.nil) | ((with_reducible apply Pick.cons); (focus ((repeat (first | (with_reducible exact Rem.hd) | (with_reducible apply Rem.tl))); done)))))); clear hS)
    (rintro v post ⟨rfl, rfl⟩ w hS; (try simp only [app] at hS); (repeat (first | (with_reducible first | apply Z0 | apply Z1 | apply Z2 | apply Z3 | apply Z4 | apply Z5 | apply Z6 | apply Z7 | apply Z8 | apply Z9 | apply Za | apply Zb | apply Zc | apply Zd | apply Ze | apply Zf | apply Zg | apply Zh | apply Zi | apply Zj | apply Zk | apply Zl | apply Zm | apply Zn | apply Zo | apply Zp | apply Zq | apply Zr) | ((with_reducible apply s_ld hS); (focus (repeat (first | exact Has.hd | apply Has.tl)); done); (focus rfl)) | ((with_reducible first | apply s_add1 | apply s_addn | apply s_add | apply s_remn | apply s_sub); (focus omega)) | ((with_reducible apply s_st hS); (focus (repeat (first | exact Upd.hd | apply Upd.tl)); done); (focus rfl); (focus (first | rfl | assumption)); clear hS; intro w hS; simp only [List.set] at hS) | ((with_reducible refine s_draw hS ?_); clear hS; intro w hS) | ((with_reducible refine s_new hS ?_); clear hS; intro b w hS) | ((with_reducible apply s_stN0 hS); (focus (repeat (first | exact Upd.hd | apply Upd.tl)); done); (focus rfl); (focus rfl); (focus (simp [Value.oneCell']; done)); clear hS; intro w hS) | ((with_reducible apply s_ldN0 hS); (focus (repeat (first | exact Has.hd | apply Has.tl)); done); (focus rfl)) | ((with_reducible apply s_bld); (focus (simp [fillL, Value.cells]; rfl))) | ((with_reducible apply s_bldS hS); (focus (simp [fillL, Value.cells, zrow]; rfl)); clear hS; intro b w hS) | (with_reducible first | apply Zs | apply Zt | apply Zu))))
    refine s_ifp (fun h4 => ?_) (fun h4 => ?_)
    · refine s_getF hS (by (repeat (first | exact Has.hd | apply Has.tl))) encTx_len hxv2 hxi hil (i := 1) rfl ?_
      rw [e1]
      have hk := hcm.2.2
      unfold inI64 at hk
      simp only at hk
      have hq : -9223372036854775808 ≤ tk.tdiv 9 ∧ tk.tdiv 9 ≤ 9223372036854775807 := by
        by_cases h0 : 0 ≤ tk
        · rw [Int.tdiv_eq_ediv_of_nonneg h0]; omega
        · have e := Int.neg_tdiv (-tk) 9
          rw [Int.neg_neg, Int.tdiv_eq_ediv_of_nonneg (a := -tk) (by omega)] at e
          rw [e]; omega
      refine s_quo (by decide) hq ?_
      have hm2 := md_lt (tk.tdiv 9) 2 (by decide)
      (apply s_call (mod_spec (tk.tdiv 9) 2 (by decide) (by decide)) hS; (focus (repeat (first | (with_reducible exact Pick.nil) | ((with_reducible apply Pick.cons); (focus ((repeat (first | (with_reducible exact Rem.hd) | (with_reducible apply Rem.tl))); done)))))); clear hS)
      (rintro v post ⟨rfl, rfl⟩ w hS; (try simp only [app] at hS); (repeat (first | (with_reducible first | apply Z0 | apply Z1 | apply Z2 | apply Z3 | apply Z4 | apply Z5 | apply Z6 | apply Z7 | apply Z8 | apply Z9 | apply Za | apply Zb | apply Zc | apply Zd | apply Ze | apply Zf | apply Zg | apply Zh | apply Zi | apply Zj | apply Zk | apply Zl | apply Zm | apply Zn | apply Zo | apply Zp | apply Zq | apply Zr) | ((with_reducible apply s_ld hS); (focus (repeat (first | exact Has.hd | apply Has.tl)); done); (focus rfl)) | ((with_reducible first | apply s_add1 | apply s_addn | apply s_add | apply s_remn | apply s_sub); (focus omega)) | ((with_reducible apply s_st hS); (focus (repeat (first | exact Upd.hd | apply Upd.tl)); done); (focus rfl); (focus (first | rfl | assumption)); clear hS; intro w hS; simp only [List.set] at hS) | ((with_reducible refine s_draw hS ?_); clear hS; intro w hS) | ((with_reducible refine s_new hS ?_); clear hS; intro b w hS) | ((with_reducible apply s_stN0 hS); (focus (repeat (first | exact Upd.hd | apply Upd.tl)); done); (focus rfl); (focus rfl); (focus (simp [Value.oneCell']; done)); clear hS; intro w hS) | ((with_reducible apply s_ldN0 hS); (focus (repeat (first | exact Has.hd | apply Has.tl)); done); (focus rfl)) | ((with_reducible apply s_bld); (focus (simp [fillL, Value.cells]; rfl))) | ((with_reducible apply s_bldS hS); (focus (simp [fillL, Value.cells, zrow]; rfl)); clear hS; intro b w hS) | (with_reducible first | apply Zs | apply Zt | apply Zu))))
      refine s_getF hS (by (repeat (first | exact Has.hd | apply Has.tl))) encTx_len hxv2 hxi hil (i := 4) rfl ?_
      rw [e2]
      have hm3 := md_lt tm 20 (by decide)
      (apply s_call (big_spec tm 20 (by decide) (by decide)) hS; (focus (repeat (first | (with_reducible exact Pick.nil) | ((with_reducible apply Pick.cons); (focus ((repeat (first | (with_reducible exact Rem.hd) | (with_reducible apply Rem.tl))); done)))))); clear hS)
      (rintro v post ⟨rfl, rfl⟩ w hS; (try simp only [app] at hS); (repeat (first | (with_reducible first | apply Z0 | apply Z1 | apply Z2 | apply Z3 | apply Z4 | apply Z5 | apply Z6 | apply Z7 | apply Z8 | apply Z9 | apply Za | apply Zb | apply Zc | apply Zd | apply Ze | apply Zf | apply Zg | apply Zh | apply Zi | apply Zj | apply Zk | apply Zl | apply Zm | apply Zn | apply Zo | apply Zp | apply Zq | apply Zr) | ((with_reducible apply s_ld hS); (focus (repeat (first | exact Has.hd | apply Has.tl)); done); (focus rfl)) | ((with_reducible first | apply s_add1 | apply s_addn | apply s_add | apply s_remn | apply s_sub); (focus omega)) | ((with_reducible apply s_st hS); (focus (repeat (first | exact Upd.hd | apply Upd.tl)); done); (focus rfl); (focus (first | rfl | assumption)); clear hS; intro w hS; simp only [List.set] at hS) | ((with_reducible refine s_draw hS ?_); clear hS; intro w hS) | ((with_reducible refine s_new hS ?_); clear hS; intro b w hS) | ((with_reducible apply s_stN0 hS); (focus (repeat (first | exact Upd.hd | apply Upd.tl)); done); (focus rfl); (focus rfl); (focus (simp [Value.oneCell']; done)); clear hS; intro w hS) | ((with_reducible apply s_ldN0 hS); (focus (repeat (first | exact Has.hd | apply Has.tl)); done); (focus rfl)) | ((with_reducible apply s_bld); (focus (simp [fillL, Value.cells]; rfl))) | ((with_reducible apply s_bldS hS); (focus (simp [fillL, Value.cells, zrow]; rfl)); clear hS; intro b w hS) | (with_reducible first | apply Zs | apply Zt | apply Zu))))
      refine ⟨⟨(m : Int) + 1, 2 + (md (tk.tdiv 9) 2 : Nat), .slice none 0 0, .slice none 0 0, 1 + (md tm 20 : Nat)⟩, ⟨(m : Int) + 1, 2 + (md (tk.tdiv 9) 2 : Nat), [], [], 1 + (md tm 20 : Nat)⟩, H2, Heap.le_refl H2, ⟨rfl, rfl, rfl, RdSl.nil _ _, RdSl.nil _ _⟩, ⟨by simp, by simp, by simp⟩, ?_⟩
      simp only [encTx]
      exact SL.into hS (by ((try simp only [app]); repeat (first | (with_reducible exact Into.refl) | ((with_reducible apply Into.cons); (focus ((repeat (first | (with_reducible exact Rem.hd) | (with_reducible apply Rem.tl))); done))) | (with_reducible apply Into.drop))))
    · refine s_getF hS (by (repeat (first | exact Has.hd | apply Has.tl))) encTx_len hxv2 hxi hil (i := 2) rfl ?_
      have hcv := hxm.cv
      have hsv := hxm.sv
      simp only at hcv hsv
      (apply s_call (changes_spec H2 x.cv tc k 5 hcv h1 h2 (by decide) hcm.1) hS; (focus (repeat (first | (with_reducible exact Pick.nil) | ((with_reducible apply Pick.cons); (focus ((repeat (first | (with_reducible exact Rem.hd) | (with_reducible apply Rem.tl))); done)))))); clear hS)
      rintro u1 post ⟨H3, h23, hR, rfl⟩ w hS
      (try simp only [app] at hS)
      have o1 := hR.one
      (repeat (first | (with_reducible first | apply Z0 | apply Z1 | apply Z2 | apply Z3 | apply Z4 | apply Z5 | apply Z6 | apply Z7 | apply Z8 | apply Z9 | apply Za | apply Zb | apply Zc | apply Zd | apply Ze | apply Zf | apply Zg | apply Zh | apply Zi | apply Zj | apply Zk | apply Zl | apply Zm | apply Zn | apply Zo | apply Zp | apply Zq | apply Zr) | ((with_reducible apply s_ld hS); (focus (repeat (first | exact Has.hd | apply Has.tl)); done); (focus rfl)) | ((with_reducible first | apply s_add1 | apply s_addn | apply s_add | apply s_remn | apply s_sub); (focus omega)) | ((with_reducible apply s_st hS); (focus (repeat (first | exact Upd.hd | apply Upd.tl)); done); (focus rfl); (focus (first | rfl | assumption)); clear hS; intro w hS; simp only [List.set] at hS) | ((with_reducible refine s_draw hS ?_); clear hS; intro w hS) | ((with_reducible refine s_new hS ?_); clear hS; intro b w hS) | ((with_reducible apply s_stN0 hS); (focus (repeat (first | exact Upd.hd | apply Upd.tl)); done); (focus rfl); (focus rfl); (focus (simp [Value.oneCell']; done)); clear hS; intro w hS) | ((with_reducible apply s_ldN0 hS); (focus (repeat (first | exact Has.hd | apply Has.tl)); done); (focus rfl)) | ((with_reducible apply s_bld); (focus (simp [fillL, Value.cells]; rfl))) | ((with_reducible apply s_bldS hS); (focus (simp [fillL, Value.cells, zrow]; rfl)); clear hS; intro b w hS) | (with_reducible first | apply Zs | apply Zt | apply Zu)))
      refine s_getF hS (by (repeat (first | exact Has.hd | apply Has.tl))) encTx_len (hxv2.mono h23) hxi hil (i := 3) rfl ?_
      (apply s_call (signals_spec H3 x.sv tsg k 2 (hsv.mono h23) h1 h2 (by decide) hcm.2.1) hS; (focus (repeat (first | (with_reducible exact Pick.nil) | ((with_reducible apply Pick.cons); (focus ((repeat (first | (with_reducible exact Rem.hd) | (with_reducible apply Rem.tl))); done)))))); clear hS)
      rintro u2 post ⟨H4, rs, h34, hrl, hR2, rfl⟩ w hS
      (try simp only [app] at hS)
      have o2 := hR2.one
      (repeat (first | (with_reducible first | apply Z0 | apply Z1 | apply Z2 | apply Z3 | apply Z4 | apply Z5 | apply Z6 | apply Z7 | apply Z8 | apply Z9 | apply Za | apply Zb | apply Zc | apply Zd | apply Ze | apply Zf | apply Zg | apply Zh | apply Zi | apply Zj | apply Zk | apply Zl | apply Zm | apply Zn | apply Zo | apply Zp | apply Zq | apply Zr) | ((with_reducible apply s_ld hS); (focus (repeat (first | exact Has.hd | apply Has.tl)); done); (focus rfl)) | ((with_reducible first | apply s_add1 | apply s_addn | apply s_add | apply s_remn | apply s_sub); (focus omega)) | ((with_reducible apply s_st hS); (focus (repeat (first | exact Upd.hd | apply Upd.tl)); done); (focus rfl); (focus (first | rfl | assumption)); clear hS; intro w hS; simp only [List.set] at hS) | ((with_reducible refine s_draw hS ?_); clear hS; intro w hS) | ((with_reducible refine s_new hS ?_); clear hS; intro b w hS) | ((with_reducible apply s_stN0 hS); (focus (repeat (first | exact Upd.hd | apply Upd.tl)); done); (focus rfl); (focus rfl); (focus (simp [Value.oneCell']; done)); clear hS; intro w hS) | ((with_reducible apply s_ldN0 hS); (focus (repeat (first | exact Has.hd | apply Has.tl)); done); (focus rfl)) | ((with_reducible apply s_bld); (focus (simp [fillL, Value.cells]; rfl))) | ((with_reducible apply s_bldS hS); (focus (simp [fillL, Value.cells, zrow]; rfl)); clear hS; intro b w hS) | (with_reducible first | apply Zs | apply Zt | apply Zu)))
      refine ⟨⟨(m : Int) + 1, 1, u1, u2, 0⟩, ⟨(m : Int) + 1, 1, (tc.take 5).map (chOf · k), rs, 0⟩, H4, Heap.le_trans h23 h34, ⟨rfl, rfl, rfl, hR.mono h34, hR2⟩, ⟨by simp only [List.length_map, List.length_take]; omega, hrl, fun c hc => ?_⟩, ?_⟩
      · obtain ⟨d, _, rfl⟩ := List.mem_map.1 hc
        exact chOf_ok d k h1
      · simp only [encTx]
        exact SL.into hS (by ((try simp only [app]); repeat (first | (with_reducible exact Into.refl) | ((with_reducible apply Into.cons); (focus ((repeat (first | (with_reducible exact Rem.hd) | (with_reducible apply Rem.tl))); done))) | (with_reducible apply Into.drop))))
  · clear hS
    rintro w ⟨-, y, t', H3, h23, hy, hyok, hS⟩
    have hone := encTx_one hy
    refine s_ldN0 hS (by (repeat (first | exact Has.hd | apply Has.tl))) rfl ?_
    refine s_bldS hS (fill_tx y [.int .i64 0, .int .i64 0, .slice none 0 0, .slice none 0 0, .int .i64 0] rfl) ?_
    clear hS; intro b2 w hS
    refine s_app (n := m) (m := 1) hS (by repeat (first | exact Rem.hd | apply Rem.tl)) (src_pt0 (cs := encTx y) hS .hd rfl) rfl rfl hone (by omega) (by omega) ?_
    clear hS; intro u' w hS
    (repeat (first | (with_reducible first | apply Z0 | apply Z1 | apply Z2 | apply Z3 | apply Z4 | apply Z5 | apply Z6 | apply Z7 | apply Z8 | apply Z9 | apply Za | apply Zb | apply Zc | apply Zd | apply Ze | apply Zf | apply Zg | apply Zh | apply Zi | apply Zj | apply Zk | apply Zl | apply Zm | apply Zn | apply Zo | apply Zp | apply Zq | apply Zr) | ((with_reducible apply s_ld hS); (focus (repeat (first | exact Has.hd | apply Has.tl)); done); (focus rfl)) | ((with_reducible first | apply s_add1 | apply s_addn | apply s_add | apply s_remn | apply s_sub); (focus omega)) | ((with_reducible apply s_st hS); (focus (repeat (first | exact Upd.hd | apply Upd.tl)); done); (focus rfl); (focus (first | rfl | assumption)); clear hS; intro w hS; simp only [List.set] at hS) | ((with_reducible refine s_draw hS ?_); clear hS; intro w hS) | ((with_reducible refine s_new hS ?_); clear hS; intro b w hS) | ((with_reducible apply s_stN0 hS); (focus (repeat (first | exact Upd.hd | apply Upd.tl)); done); (focus rfl); (focus rfl); (focus (simp [Value.oneCell']; done)); clear hS; intro w hS) | ((with_reducible apply s_ldN0 hS); (focus (repeat (first | exact Has.hd | apply Has.tl)); done); (focus rfl)) | ((with_reducible apply s_bld); (focus (simp [fillL, Value.cells]; rfl))) | ((with_reducible apply s_bldS hS); (focus (simp [fillL, Value.cells, zrow]; rfl)); clear hS; intro b w hS) | (with_reducible first | apply Zs | apply Zt | apply Zu)))
    refine ⟨⟨m + 1, u', ys ++ [y], ts ++ [t'], H3, rfl, (by omega), (by omega), (by simp [hys]), (by simp [hts]), Heap.le_trans hH h23, fun i hi hi' => ?_, fun t ht => ?_, (by rw [flat_snoc]; exact SL.into hS (by ((try simp only [app]); repeat (first | (with_reducible exact Into.refl) | ((with_reducible apply Into.cons); (focus ((repeat (first | (with_reducible exact Rem.hd) | (with_reducible apply Rem.tl))); done))) | (with_reducible apply Into.drop)))))⟩, (by dsimp only; omega)⟩
    · rcases Nat.lt_or_ge i m with him | him
      · rw [List.getElem_append_left (by omega), List.getElem_append_left (by omega)]; exact (hall i (by omega) (by omega)).mono h23
      · have : i = m := by simp at hi; omega
        subst this
        rw [List.getElem_append_right (by omega), List.getElem_append_right (by omega)]; simpa using hy
    · rcases List.mem_append.1 ht with ht | ht
      · exact hok t ht
      · simp at ht; subst ht; exact hyok
end Go.Proofs.Ythjnknpgcmmapaa
