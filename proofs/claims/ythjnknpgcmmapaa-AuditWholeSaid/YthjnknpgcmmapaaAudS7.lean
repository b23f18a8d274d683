/-
  Package audit, and the reference: how many chunks a request may have.
-/
import Derived.Test.YthjnknpgcmmapaaAudS3
import Derived.Test.YthjnknpgcmmapaaAudS6
namespace Go.Proofs.Ythjnknpgcmmapaa
set_option linter.unusedVariables false
set_option maxRecDepth 100000
open Go.RowKit

theorem RdTx.drop {H : Heap} {v : Value} {l : List TxnD} (h : RdTx H v l) {k : Nat} {kk : IntKind} (hk : k ≤ l.length) {K : Value → Prop} (hK : ∀ v', RdTx H v' (l.drop k) → K v') : HSl 5 v (some (.int kk (k : Int))) none none K := by
  obtain ⟨xs, h1, h2, h3⟩ := h
  refine s_slR h2 hk fun v' hv' => hK v' ⟨xs.drop k, by simp [h1], ?_, fun i hi hi' => ?_⟩
  · rw [flat_drop_n encTx_len] at hv'
    rw [List.length_drop]; exact hv'
  · rw [List.length_drop] at hi
    have := h3 (k + i) (by omega) (by omega)
    simpa using this
def pc (t : Int) (c : Chg) : Bool := decide (c.table = t) && !c.gone
/-- How many changes put a row into a table. -/
def putsC (t : Int) (l : List TxnD) : Nat := (l.flatMap (·.changes)).countP (pc t)
theorem putsC_take {t : Int} {l : List TxnD} {i : Nat} (h : i < l.length) : putsC t (l.take (i + 1)) = putsC t (l.take i) + l[i].changes.countP (pc t) := by
  unfold putsC
  rw [List.take_succ_eq_append_getElem h, List.flatMap_append, List.countP_append]
  simp only [List.flatMap_cons, List.flatMap_nil, List.append_nil]
theorem cnt_take {t : Int} {l : List Chg} {j : Nat} (h : j < l.length) : (l.take (j + 1)).countP (pc t) = (l.take j).countP (pc t) + if pc t l[j] = true then 1 else 0 := by
  rw [List.take_succ_eq_append_getElem h, List.countP_append]
  simp [List.countP_cons, List.countP_nil]
theorem putsC_le (t : Int) (l : List TxnD) : putsC t l ≤ (l.flatMap (·.changes)).length := List.countP_le_length
theorem putsC_take_le (t : Int) (l : List TxnD) (i : Nat) : putsC t (l.take i) ≤ putsC t l := by
  unfold putsC
  have : l = l.take i ++ l.drop i := by simp
  conv => rhs; rw [this]
  rw [List.flatMap_append, List.countP_append]; omega
theorem putsC_drop_le (t : Int) (l : List TxnD) (i : Nat) : putsC t (l.drop i) ≤ (l.flatMap (·.changes)).length := by
  refine Nat.le_trans (putsC_le t _) ?_
  have : l = l.take i ++ l.drop i := by simp
  conv => rhs; rw [this]
  rw [List.flatMap_append, List.length_append]; omega
theorem puts_spec (H : Heap) (lv : Value) (l : List TxnD) (k : Nat) (t : Int) (hl : TxOk H lv l) (hk : k < l.length) :
    Spec Try.prog 80 [agg [lv], .int .i64 ((k + 1 : Nat) : Int), .int .i64 t] [.mem H] (Gives (.int .i64 (putsC t (l.drop k) : Int)) [.mem H]) := by
  intro W F w hS; apply vc80; unfold Vc80; (try simp only [app] at hS)
  refine ⟨_, rfl, s_new hS ?_⟩
  clear hS; intro p w hS
  have ek : ((k + 1 : Nat) : Int) - 1 = (k : Int) := by omega
  have hll := hl.len
  (repeat (first | (with_reducible first | apply Z0 | apply Z1 | apply Z2 | apply Z3 | apply Z4 | apply Z5 | apply Z6 | apply Z7 | apply Z8 | apply Z9 | apply Za | apply Zb | apply Zc | apply Zd | apply Ze | apply Zf | apply Zg | apply Zh | apply Zi | apply Zj | apply Zk | apply Zl | apply Zm | apply Zn | apply Zo | apply Zp | apply Zq | apply Zr) | ((with_reducible apply s_ld hS); (focus (repeat (first | exact Has.hd | apply Has.tl)); done); (focus rfl)) | ((with_reducible first | apply s_add1 | apply s_addn | apply s_add | apply s_remn | apply s_sub); (focus omega)) | ((with_reducible apply s_st hS); (focus (repeat (first | exact Upd.hd | apply Upd.tl)); done); (focus rfl); (focus (first | rfl | assumption)); clear hS; intro w hS; simp only [List.set] at hS) | ((with_reducible refine s_draw hS ?_); clear hS; intro w hS) | ((with_reducible refine s_new hS ?_); clear hS; intro b w hS) | ((with_reducible apply s_stN0 hS); (focus (repeat (first | exact Upd.hd | apply Upd.tl)); done); (focus rfl); (focus rfl); (focus (simp [Value.oneCell']; done)); clear hS; intro w hS) | ((with_reducible apply s_ldN0 hS); (focus (repeat (first | exact Has.hd | apply Has.tl)); done); (focus rfl)) | ((with_reducible apply s_bld); (focus (simp [fillL, Value.cells]; rfl))) | ((with_reducible apply s_bldS hS); (focus (simp [fillL, Value.cells, zrow]; rfl)); clear hS; intro b w hS) | (with_reducible first | apply Zs | apply Zt | apply Zu)))
  rw [ek]
  refine hl.rd.drop (by omega) fun u hu => ?_
  have hmax := putsC_drop_le t l k
  have hall := hl.all
  have hdl : (l.drop k).length ≤ 1000000 := by rw [List.length_drop]; have := hl.len; omega
  have hdc : ∀ t ∈ l.drop k, t.changes.length ≤ 140737488351232 := fun t ht => hl.each t (List.mem_of_mem_drop ht)
  generalize l.drop k = d at *
  obtain ⟨xs, hx1, hx2, hx3⟩ := hu
  refine s_lenR hx2 ?_
  refine ⟨fun us w => ∃ i : Nat, us = [.int .i64 (putsC t (d.take i) : Int), .int .i64 i] ∧ i ≤ d.length ∧ SL W (.mem H :: F) w,
    fun us _ => match us with | [_, .int _ i] => (d.length - i).toNat | _ => 0, ⟨0, rfl, by omega, SL.into hS (by ((try simp only [app]); repeat (first | (with_reducible exact Into.refl) | ((with_reducible apply Into.cons); (focus ((repeat (first | (with_reducible exact Rem.hd) | (with_reducible apply Rem.tl))); done))) | (with_reducible apply Into.drop))))⟩, ?_⟩
  clear hS
  rintro v7 v18 w ⟨i, hus, hi, hS⟩
  cases hus
  (repeat (first | (with_reducible first | apply Z0 | apply Z1 | apply Z2 | apply Z3 | apply Z4 | apply Z5 | apply Z6 | apply Z7 | apply Z8 | apply Z9 | apply Za | apply Zb | apply Zc | apply Zd | apply Ze | apply Zf | apply Zg | apply Zh | apply Zi | apply Zj | apply Zk | apply Zl | apply Zm | apply Zn | apply Zo | apply Zp | apply Zq | apply Zr) | ((with_reducible apply s_ld hS); (focus (repeat (first | exact Has.hd | apply Has.tl)); done); (focus rfl)) | ((with_reducible first | apply s_add1 | apply s_addn | apply s_add | apply s_remn | apply s_sub); (focus omega)) | ((with_reducible apply s_st hS); (focus (repeat (first | exact Upd.hd | apply Upd.tl)); done); (focus rfl); (focus (first | rfl | assumption)); clear hS; intro w hS; simp only [List.set] at hS) | ((with_reducible refine s_draw hS ?_); clear hS; intro w hS) | ((with_reducible refine s_new hS ?_); clear hS; intro b w hS) | ((with_reducible apply s_stN0 hS); (focus (repeat (first | exact Upd.hd | apply Upd.tl)); done); (focus rfl); (focus rfl); (focus (simp [Value.oneCell']; done)); clear hS; intro w hS) | ((with_reducible apply s_ldN0 hS); (focus (repeat (first | exact Has.hd | apply Has.tl)); done); (focus rfl)) | ((with_reducible apply s_bld); (focus (simp [fillL, Value.cells]; rfl))) | ((with_reducible apply s_bldS hS); (focus (simp [fillL, Value.cells, zrow]; rfl)); clear hS; intro b w hS) | (with_reducible first | apply Zs | apply Zt | apply Zu)))
  refine s_ifp (fun h => ?_) (fun h => ?_)
  · have hil : i < d.length := by omega
    have hix : i < xs.length := by omega
    have hx := hx3 i hil hix
    have htk := putsC_take (t := t) hil
    have hle1 := putsC_take_le t d (i + 1)
    have hcl := hdc _ (List.getElem_mem hil)
    refine s_getN hS (by (repeat (first | exact Has.hd | apply Has.tl))) (fun _ => rfl) hx2 (x := xs[i]) (by simp [hix]) hil ?_
    refine s_new hS ?_
    clear hS; intro b w hS
    have hone : ∀ v ∈ encTx xs[i], v.oneCell' = true := by
      intro v hv
      simp only [encTx, List.mem_cons, List.not_mem_nil, or_false] at hv
      rcases hv with rfl | rfl | rfl | rfl | rfl
      · rfl
      · rfl
      · exact hx.cv.one
      · exact hx.sv.one
      · rfl
    refine s_stN0 (vs := encTx xs[i]) hS .hd rfl rfl hone ?_
    clear hS; intro w hS
    unfold encTx at hS
    (repeat (first | (with_reducible first | apply Z0 | apply Z1 | apply Z2 | apply Z3 | apply Z4 | apply Z5 | apply Z6 | apply Z7 | apply Z8 | apply Z9 | apply Za | apply Zb | apply Zc | apply Zd | apply Ze | apply Zf | apply Zg | apply Zh | apply Zi | apply Zj | apply Zk | apply Zl | apply Zm | apply Zn | apply Zo | apply Zp | apply Zq | apply Zr) | ((with_reducible apply s_ld hS); (focus (repeat (first | exact Has.hd | apply Has.tl)); done); (focus rfl)) | ((with_reducible first | apply s_add1 | apply s_addn | apply s_add | apply s_remn | apply s_sub); (focus omega)) | ((with_reducible apply s_st hS); (focus (repeat (first | exact Upd.hd | apply Upd.tl)); done); (focus rfl); (focus (first | rfl | assumption)); clear hS; intro w hS; simp only [List.set] at hS) | ((with_reducible refine s_draw hS ?_); clear hS; intro w hS) | ((with_reducible refine s_new hS ?_); clear hS; intro b w hS) | ((with_reducible apply s_stN0 hS); (focus (repeat (first | exact Upd.hd | apply Upd.tl)); done); (focus rfl); (focus rfl); (focus (simp [Value.oneCell']; done)); clear hS; intro w hS) | ((with_reducible apply s_ldN0 hS); (focus (repeat (first | exact Has.hd | apply Has.tl)); done); (focus rfl)) | ((with_reducible apply s_bld); (focus (simp [fillL, Value.cells]; rfl))) | ((with_reducible apply s_bldS hS); (focus (simp [fillL, Value.cells, zrow]; rfl)); clear hS; intro b w hS) | (with_reducible first | apply Zs | apply Zt | apply Zu)))
    refine s_lenR hx.cv ?_
    refine ⟨fun us w => ∃ j : Nat, us = [.int .i64 ((putsC t (d.take i) + (d[i].changes.take j).countP (pc t) : Nat) : Int), .int .i64 j] ∧ j ≤ d[i].changes.length ∧ SL W (.mem H :: F) w,
      fun us _ => match us with | [_, .int _ j] => (d[i].changes.length - j).toNat | _ => 0, ⟨0, by simp, by omega, SL.into hS (by ((try simp only [app]); repeat (first | (with_reducible exact Into.refl) | ((with_reducible apply Into.cons); (focus ((repeat (first | (with_reducible exact Rem.hd) | (with_reducible apply Rem.tl))); done))) | (with_reducible apply Into.drop))))⟩, ?_⟩
    clear hS
    rintro v7 v25 w ⟨j, hus, hj, hS⟩
    cases hus
    (repeat (first | (with_reducible first | apply Z0 | apply Z1 | apply Z2 | apply Z3 | apply Z4 | apply Z5 | apply Z6 | apply Z7 | apply Z8 | apply Z9 | apply Za | apply Zb | apply Zc | apply Zd | apply Ze | apply Zf | apply Zg | apply Zh | apply Zi | apply Zj | apply Zk | apply Zl | apply Zm | apply Zn | apply Zo | apply Zp | apply Zq | apply Zr) | ((with_reducible apply s_ld hS); (focus (repeat (first | exact Has.hd | apply Has.tl)); done); (focus rfl)) | ((with_reducible first | apply s_add1 | apply s_addn | apply s_add | apply s_remn | apply s_sub); (focus omega)) | ((with_reducible apply s_st hS); (focus (repeat (first | exact Upd.hd | apply Upd.tl)); done); (focus rfl); (focus (first | rfl | assumption)); clear hS; intro w hS; simp only [List.set] at hS) | ((with_reducible refine s_draw hS ?_); clear hS; intro w hS) | ((with_reducible refine s_new hS ?_); clear hS; intro b w hS) | ((with_reducible apply s_stN0 hS); (focus (repeat (first | exact Upd.hd | apply Upd.tl)); done); (focus rfl); (focus rfl); (focus (simp [Value.oneCell']; done)); clear hS; intro w hS) | ((with_reducible apply s_ldN0 hS); (focus (repeat (first | exact Has.hd | apply Has.tl)); done); (focus rfl)) | ((with_reducible apply s_bld); (focus (simp [fillL, Value.cells]; rfl))) | ((with_reducible apply s_bldS hS); (focus (simp [fillL, Value.cells, zrow]; rfl)); clear hS; intro b w hS) | (with_reducible first | apply Zs | apply Zt | apply Zu)))
    refine s_ifp (fun h2 => ?_) (fun h2 => ?_)
    · have hjl : j < d[i].changes.length := by omega
      have hct := cnt_take (t := t) hjl
      have hcj : (d[i].changes.take (j + 1)).countP (pc t) ≤ d[i].changes.countP (pc t) := (List.take_sublist _ _).countP_le
      refine s_getN hS (by (repeat (first | exact Has.hd | apply Has.tl))) (fun _ => rfl) hx.cv (x := d[i].changes[j]) (by simp [hjl]) hjl ?_
      refine s_new hS ?_
      clear hS; intro b w hS
      refine s_stN0 (vs := encChg d[i].changes[j]) hS .hd rfl rfl (by simp [encChg, Value.oneCell']) ?_
      clear hS; intro w hS
      unfold encChg at hS
      generalize hcc : d[i].changes[j] = c at hct hS
      unfold pc at hct
      have hnext : ∀ (n : Nat) w, n = putsC t (d.take i) + (d[i].changes.take (j + 1)).countP (pc t) → SL W (.mem H :: F) w → (∃ j : Nat, ([.int .i64 (n : Int), .int .i64 ((j + 1 : Nat) : Int)] : List Value) = [.int .i64 ((putsC t (d.take i) + (d[i].changes.take (j + 1)).countP (pc t) : Nat) : Int), .int .i64 ((j + 1 : Nat) : Int)] ∧ True) := fun n w hn hS => ⟨j, by rw [hn], trivial⟩
      clear hnext
      (repeat (first | (with_reducible first | apply Z0 | apply Z1 | apply Z2 | apply Z3 | apply Z4 | apply Z5 | apply Z6 | apply Z7 | apply Z8 | apply Z9 | apply Za | apply Zb | apply Zc | apply Zd | apply Ze | apply Zf | apply Zg | apply Zh | apply Zi | apply Zj | apply Zk | apply Zl | apply Zm | apply Zn | apply Zo | apply Zp | apply Zq | apply Zr) | ((with_reducible apply s_ld hS); (focus (repeat (first | exact Has.hd | apply Has.tl)); done); (focus rfl)) | ((with_reducible first | apply s_add1 | apply s_addn | apply s_add | apply s_remn | apply s_sub); (focus omega)) | ((with_reducible apply s_st hS); (focus (repeat (first | exact Upd.hd | apply Upd.tl)); done); (focus rfl); (focus (first | rfl | assumption)); clear hS; intro w hS; simp only [List.set] at hS) | ((with_reducible refine s_draw hS ?_); clear hS; intro w hS) | ((with_reducible refine s_new hS ?_); clear hS; intro b w hS) | ((with_reducible apply s_stN0 hS); (focus (repeat (first | exact Upd.hd | apply Upd.tl)); done); (focus rfl); (focus rfl); (focus (simp [Value.oneCell']; done)); clear hS; intro w hS) | ((with_reducible apply s_ldN0 hS); (focus (repeat (first | exact Has.hd | apply Has.tl)); done); (focus rfl)) | ((with_reducible apply s_bld); (focus (simp [fillL, Value.cells]; rfl))) | ((with_reducible apply s_bldS hS); (focus (simp [fillL, Value.cells, zrow]; rfl)); clear hS; intro b w hS) | (with_reducible first | apply Zs | apply Zt | apply Zu)))
      refine s_ifp (fun h3 => ?_) (fun h3 => ?_)
      · (repeat (first | (with_reducible first | apply Z0 | apply Z1 | apply Z2 | apply Z3 | apply Z4 | apply Z5 | apply Z6 | apply Z7 | apply Z8 | apply Z9 | apply Za | apply Zb | apply Zc | apply Zd | apply Ze | apply Zf | apply Zg | apply Zh | apply Zi | apply Zj | apply Zk | apply Zl | apply Zm | apply Zn | apply Zo | apply Zp | apply Zq | apply Zr) | ((with_reducible apply s_ld hS); (focus (repeat (first | exact Has.hd | apply Has.tl)); done); (focus rfl)) | ((with_reducible first | apply s_add1 | apply s_addn | apply s_add | apply s_remn | apply s_sub); (focus omega)) | ((with_reducible apply s_st hS); (focus (repeat (first | exact Upd.hd | apply Upd.tl)); done); (focus rfl); (focus (first | rfl | assumption)); clear hS; intro w hS; simp only [List.set] at hS) | ((with_reducible refine s_draw hS ?_); clear hS; intro w hS) | ((with_reducible refine s_new hS ?_); clear hS; intro b w hS) | ((with_reducible apply s_stN0 hS); (focus (repeat (first | exact Upd.hd | apply Upd.tl)); done); (focus rfl); (focus rfl); (focus (simp [Value.oneCell']; done)); clear hS; intro w hS) | ((with_reducible apply s_ldN0 hS); (focus (repeat (first | exact Has.hd | apply Has.tl)); done); (focus rfl)) | ((with_reducible apply s_bld); (focus (simp [fillL, Value.cells]; rfl))) | ((with_reducible apply s_bldS hS); (focus (simp [fillL, Value.cells, zrow]; rfl)); clear hS; intro b w hS) | (with_reducible first | apply Zs | apply Zt | apply Zu)))
        refine s_ifn (fun h4 => ?_) (fun h4 => ?_)
        · have hc1 : (d[i].changes.take (j + 1)).countP (pc t) = (d[i].changes.take j).countP (pc t) + 1 := by
            rw [show (List.take (j + 1) d[i].changes).countP (pc t) = _ from hct, if_pos (by simp [h3, h4])]; rfl
          (repeat (first | (with_reducible first | apply Z0 | apply Z1 | apply Z2 | apply Z3 | apply Z4 | apply Z5 | apply Z6 | apply Z7 | apply Z8 | apply Z9 | apply Za | apply Zb | apply Zc | apply Zd | apply Ze | apply Zf | apply Zg | apply Zh | apply Zi | apply Zj | apply Zk | apply Zl | apply Zm | apply Zn | apply Zo | apply Zp | apply Zq | apply Zr) | ((with_reducible apply s_ld hS); (focus (repeat (first | exact Has.hd | apply Has.tl)); done); (focus rfl)) | ((with_reducible first | apply s_add1 | apply s_addn | apply s_add | apply s_remn | apply s_sub); (focus omega)) | ((with_reducible apply s_st hS); (focus (repeat (first | exact Upd.hd | apply Upd.tl)); done); (focus rfl); (focus (first | rfl | assumption)); clear hS; intro w hS; simp only [List.set] at hS) | ((with_reducible refine s_draw hS ?_); clear hS; intro w hS) | ((with_reducible refine s_new hS ?_); clear hS; intro b w hS) | ((with_reducible apply s_stN0 hS); (focus (repeat (first | exact Upd.hd | apply Upd.tl)); done); (focus rfl); (focus rfl); (focus (simp [Value.oneCell']; done)); clear hS; intro w hS) | ((with_reducible apply s_ldN0 hS); (focus (repeat (first | exact Has.hd | apply Has.tl)); done); (focus rfl)) | ((with_reducible apply s_bld); (focus (simp [fillL, Value.cells]; rfl))) | ((with_reducible apply s_bldS hS); (focus (simp [fillL, Value.cells, zrow]; rfl)); clear hS; intro b w hS) | (with_reducible first | apply Zs | apply Zt | apply Zu)))
          exact ⟨⟨j + 1, by rw [hc1, ← Nat.add_assoc], by omega, SL.into hS (by ((try simp only [app]); repeat (first | (with_reducible exact Into.refl) | ((with_reducible apply Into.cons); (focus ((repeat (first | (with_reducible exact Rem.hd) | (with_reducible apply Rem.tl))); done))) | (with_reducible apply Into.drop))))⟩, by dsimp only; omega⟩
        · have hc1 : (d[i].changes.take (j + 1)).countP (pc t) = (d[i].changes.take j).countP (pc t) := by
            rw [show (List.take (j + 1) d[i].changes).countP (pc t) = _ from hct, if_neg (by simp [h3, h4])]; rfl
          (repeat (first | (with_reducible first | apply Z0 | apply Z1 | apply Z2 | apply Z3 | apply Z4 | apply Z5 | apply Z6 | apply Z7 | apply Z8 | apply Z9 | apply Za | apply Zb | apply Zc | apply Zd | apply Ze | apply Zf | apply Zg | apply Zh | apply Zi | apply Zj | apply Zk | apply Zl | apply Zm | apply Zn | apply Zo | apply Zp | apply Zq | apply Zr) | ((with_reducible apply s_ld hS); (focus (repeat (first | exact Has.hd | apply Has.tl)); done); (focus rfl)) | ((with_reducible first | apply s_add1 | apply s_addn | apply s_add | apply s_remn | apply s_sub); (focus omega)) | ((with_reducible apply s_st hS); (focus (repeat (first | exact Upd.hd | apply Upd.tl)); done); (focus rfl); (focus (first | rfl | assumption)); clear hS; intro w hS; simp only [List.set] at hS) | ((with_reducible refine s_draw hS ?_); clear hS; intro w hS) | ((with_reducible refine s_new hS ?_); clear hS; intro b w hS) | ((with_reducible apply s_stN0 hS); (focus (repeat (first | exact Upd.hd | apply Upd.tl)); done); (focus rfl); (focus rfl); (focus (simp [Value.oneCell']; done)); clear hS; intro w hS) | ((with_reducible apply s_ldN0 hS); (focus (repeat (first | exact Has.hd | apply Has.tl)); done); (focus rfl)) | ((with_reducible apply s_bld); (focus (simp [fillL, Value.cells]; rfl))) | ((with_reducible apply s_bldS hS); (focus (simp [fillL, Value.cells, zrow]; rfl)); clear hS; intro b w hS) | (with_reducible first | apply Zs | apply Zt | apply Zu)))
          exact ⟨⟨j + 1, by rw [hc1], by omega, SL.into hS (by ((try simp only [app]); repeat (first | (with_reducible exact Into.refl) | ((with_reducible apply Into.cons); (focus ((repeat (first | (with_reducible exact Rem.hd) | (with_reducible apply Rem.tl))); done))) | (with_reducible apply Into.drop))))⟩, by dsimp only; omega⟩
      · have hc1 : (d[i].changes.take (j + 1)).countP (pc t) = (d[i].changes.take j).countP (pc t) := by
          rw [show (List.take (j + 1) d[i].changes).countP (pc t) = _ from hct, if_neg (by simp [h3])]; rfl
        (repeat (first | (with_reducible first | apply Z0 | apply Z1 | apply Z2 | apply Z3 | apply Z4 | apply Z5 | apply Z6 | apply Z7 | apply Z8 | apply Z9 | apply Za | apply Zb | apply Zc | apply Zd | apply Ze | apply Zf | apply Zg | apply Zh | apply Zi | apply Zj | apply Zk | apply Zl | apply Zm | apply Zn | apply Zo | apply Zp | apply Zq | apply Zr) | ((with_reducible apply s_ld hS); (focus (repeat (first | exact Has.hd | apply Has.tl)); done); (focus rfl)) | ((with_reducible first | apply s_add1 | apply s_addn | apply s_add | apply s_remn | apply s_sub); (focus omega)) | ((with_reducible apply s_st hS); (focus (repeat (first | exact Upd.hd | apply Upd.tl)); done); (focus rfl); (focus (first | rfl | assumption)); clear hS; intro w hS; simp only [List.set] at hS) | ((with_reducible refine s_draw hS ?_); clear hS; intro w hS) | ((with_reducible refine s_new hS ?_); clear hS; intro b w hS) | ((with_reducible apply s_stN0 hS); (focus (repeat (first | exact Upd.hd | apply Upd.tl)); done); (focus rfl); (focus rfl); (focus (simp [Value.oneCell']; done)); clear hS; intro w hS) | ((with_reducible apply s_ldN0 hS); (focus (repeat (first | exact Has.hd | apply Has.tl)); done); (focus rfl)) | ((with_reducible apply s_bld); (focus (simp [fillL, Value.cells]; rfl))) | ((with_reducible apply s_bldS hS); (focus (simp [fillL, Value.cells, zrow]; rfl)); clear hS; intro b w hS) | (with_reducible first | apply Zs | apply Zt | apply Zu)))
        exact ⟨⟨j + 1, by rw [hc1], by omega, SL.into hS (by ((try simp only [app]); repeat (first | (with_reducible exact Into.refl) | ((with_reducible apply Into.cons); (focus ((repeat (first | (with_reducible exact Rem.hd) | (with_reducible apply Rem.tl))); done))) | (with_reducible apply Into.drop))))⟩, by dsimp only; omega⟩
    · have hje : j = d[i].changes.length := by omega
      subst hje
      rw [List.take_length]
      (repeat (first | (with_reducible first | apply Z0 | apply Z1 | apply Z2 | apply Z3 | apply Z4 | apply Z5 | apply Z6 | apply Z7 | apply Z8 | apply Z9 | apply Za | apply Zb | apply Zc | apply Zd | apply Ze | apply Zf | apply Zg | apply Zh | apply Zi | apply Zj | apply Zk | apply Zl | apply Zm | apply Zn | apply Zo | apply Zp | apply Zq | apply Zr) | ((with_reducible apply s_ld hS); (focus (repeat (first | exact Has.hd | apply Has.tl)); done); (focus rfl)) | ((with_reducible first | apply s_add1 | apply s_addn | apply s_add | apply s_remn | apply s_sub); (focus omega)) | ((with_reducible apply s_st hS); (focus (repeat (first | exact Upd.hd | apply Upd.tl)); done); (focus rfl); (focus (first | rfl | assumption)); clear hS; intro w hS; simp only [List.set] at hS) | ((with_reducible refine s_draw hS ?_); clear hS; intro w hS) | ((with_reducible refine s_new hS ?_); clear hS; intro b w hS) | ((with_reducible apply s_stN0 hS); (focus (repeat (first | exact Upd.hd | apply Upd.tl)); done); (focus rfl); (focus rfl); (focus (simp [Value.oneCell']; done)); clear hS; intro w hS) | ((with_reducible apply s_ldN0 hS); (focus (repeat (first | exact Has.hd | apply Has.tl)); done); (focus rfl)) | ((with_reducible apply s_bld); (focus (simp [fillL, Value.cells]; rfl))) | ((with_reducible apply s_bldS hS); (focus (simp [fillL, Value.cells, zrow]; rfl)); clear hS; intro b w hS) | (with_reducible first | apply Zs | apply Zt | apply Zu)))
      exact ⟨⟨i + 1, by rw [htk], by omega, SL.into hS (by ((try simp only [app]); repeat (first | (with_reducible exact Into.refl) | ((with_reducible apply Into.cons); (focus ((repeat (first | (with_reducible exact Rem.hd) | (with_reducible apply Rem.tl))); done))) | (with_reducible apply Into.drop))))⟩, by dsimp only; omega⟩
  · have hie : i = d.length := by omega
    subst hie
    rw [List.take_length]
    (refine ⟨_, ⟨rfl, rfl⟩, SL.into hS ?_⟩; (focus ((try simp only [app]); repeat (first | (with_reducible exact Into.refl) | ((with_reducible apply Into.cons); (focus ((repeat (first | (with_reducible exact Rem.hd) | (with_reducible apply Rem.tl))); done))) | (with_reducible apply Into.drop)))))
end Go.Proofs.Ythjnknpgcmmapaa
