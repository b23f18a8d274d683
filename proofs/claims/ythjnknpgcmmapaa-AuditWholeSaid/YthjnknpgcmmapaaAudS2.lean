/-
  Package audit, and the reference: whether rows may be a table's.
-/
import Derived.Test.YthjnknpgcmmapaaAudS
import Derived.Test.YthjnknpgcmmapaaFoldS
import Derived.Test.YthjnknpgcmmapaaRefFF
namespace Go.Proofs.Ythjnknpgcmmapaa
set_option linter.unusedVariables false
set_option maxRecDepth 100000
open Go.RowKit

theorem s_eqGN {P : Program} {w : World} {t : TypeId} {xs ys : List Value} {p : Prop} [Decidable p] {K : Value → Prop} (h : (Op.equal t (agg xs) (agg ys)).run P w = .ok (decide p) w) (hK : K (.bool !(decide p))) : HEqG P t true (agg xs) (agg ys) w K :=
  ⟨xs.toArray, ys.toArray, decide p, rfl, rfl, h, hK⟩
theorem eq_rowA (a b : Row) (w : World) : (Op.equal 69 (agg (encRow a)) (agg (encRow b))).run Try.prog w = .ok (decide (a = b)) w := by
  refine run_eqG Try.underlying69 (by kernel_rfl) ?_
  obtain ⟨k1, v1⟩ := a
  obtain ⟨k2, v2⟩ := b
  simp [encRow, Op.eqFields, part, run_equalIn_int (h := Try.underlying2), run_equalIn_int (h := Try.underlying3), run_equalIn_bool' (h := Try.underlying4), run_equalIn_string (h := Try.underlying9), Result.andThen, toList_inj]
  by_cases h0 : k1 = k2 <;> by_cases h1 : v1 = v2 <;> simp [*]
theorem equal_spec (H : Heap) (u v : Value) (A B : List Row) (hu : RdSl H 2 u A.length (A.map encRow).flatten) (hv : RdSl H 2 v B.length (B.map encRow).flatten) (hA : A.length ≤ 9223372036854775806) :
    Spec Try.prog 73 [u, v] [.mem H] (Gives (.bool (decide (A = B))) [.mem H]) := by
  intro W F w hS; apply vc73; unfold Vc73; (try simp only [app] at hS)
  refine s_lenR hu (s_lenR hv ?_)
  (repeat (first | (with_reducible first | apply Z0 | apply Z1 | apply Z2 | apply Z3 | apply Z4 | apply Z5 | apply Z6 | apply Z7 | apply Z8 | apply Z9 | apply Za | apply Zb | apply Zc | apply Zd | apply Ze | apply Zf | apply Zg | apply Zh | apply Zi | apply Zj | apply Zk | apply Zl | apply Zm | apply Zn | apply Zo | apply Zp | apply Zq | apply Zr) | ((with_reducible apply s_ld hS); (focus (repeat (first | exact Has.hd | apply Has.tl)); done); (focus rfl)) | ((with_reducible first | apply s_add1 | apply s_addn | apply s_add | apply s_remn | apply s_sub); (focus omega)) | ((with_reducible apply s_st hS); (focus (repeat (first | exact Upd.hd | apply Upd.tl)); done); (focus rfl); (focus (first | rfl | assumption)); clear hS; intro w hS; simp only [List.set] at hS) | ((with_reducible refine s_draw hS ?_); clear hS; intro w hS) | ((with_reducible refine s_new hS ?_); clear hS; intro b w hS) | ((with_reducible apply s_stN0 hS); (focus (repeat (first | exact Upd.hd | apply Upd.tl)); done); (focus rfl); (focus rfl); (focus (simp [Value.oneCell']; done)); clear hS; intro w hS) | ((with_reducible apply s_ldN0 hS); (focus (repeat (first | exact Has.hd | apply Has.tl)); done); (focus rfl)) | ((with_reducible apply s_bld); (focus (simp [fillL, Value.cells]; rfl))) | ((with_reducible apply s_bldS hS); (focus (simp [fillL, Value.cells, zrow]; rfl)); clear hS; intro b w hS) | (with_reducible first | apply Zs | apply Zt | apply Zu)))
  refine s_ifp (fun h => ?_) (fun h => ?_)
  · have : A ≠ B := fun e => by subst e; exact h rfl
    simp only [this, decide_false]
    (refine ⟨_, ⟨rfl, rfl⟩, SL.into hS ?_⟩; (focus ((try simp only [app]); repeat (first | (with_reducible exact Into.refl) | ((with_reducible apply Into.cons); (focus ((repeat (first | (with_reducible exact Rem.hd) | (with_reducible apply Rem.tl))); done))) | (with_reducible apply Into.drop)))))
  · have hl : A.length = B.length := by omega
    refine s_lenR hu ?_
    refine ⟨fun vs w => ∃ k : Nat, vs = [.int .i64 k] ∧ k ≤ A.length ∧ A.take k = B.take k ∧ SL W (.mem H :: F) w, fun vs _ => match vs with | [.int _ k] => (A.length - k).toNat | _ => 0, ⟨0, rfl, by omega, rfl, hS⟩, ?_⟩
    clear hS
    rintro v7 w ⟨k, hv7, hk, htk, hS⟩
    cases hv7
    (repeat (first | (with_reducible first | apply Z0 | apply Z1 | apply Z2 | apply Z3 | apply Z4 | apply Z5 | apply Z6 | apply Z7 | apply Z8 | apply Z9 | apply Za | apply Zb | apply Zc | apply Zd | apply Ze | apply Zf | apply Zg | apply Zh | apply Zi | apply Zj | apply Zk | apply Zl | apply Zm | apply Zn | apply Zo | apply Zp | apply Zq | apply Zr) | ((with_reducible apply s_ld hS); (focus (repeat (first | exact Has.hd | apply Has.tl)); done); (focus rfl)) | ((with_reducible first | apply s_add1 | apply s_addn | apply s_add | apply s_remn | apply s_sub); (focus omega)) | ((with_reducible apply s_st hS); (focus (repeat (first | exact Upd.hd | apply Upd.tl)); done); (focus rfl); (focus (first | rfl | assumption)); clear hS; intro w hS; simp only [List.set] at hS) | ((with_reducible refine s_draw hS ?_); clear hS; intro w hS) | ((with_reducible refine s_new hS ?_); clear hS; intro b w hS) | ((with_reducible apply s_stN0 hS); (focus (repeat (first | exact Upd.hd | apply Upd.tl)); done); (focus rfl); (focus rfl); (focus (simp [Value.oneCell']; done)); clear hS; intro w hS) | ((with_reducible apply s_ldN0 hS); (focus (repeat (first | exact Has.hd | apply Has.tl)); done); (focus rfl)) | ((with_reducible apply s_bld); (focus (simp [fillL, Value.cells]; rfl))) | ((with_reducible apply s_bldS hS); (focus (simp [fillL, Value.cells, zrow]; rfl)); clear hS; intro b w hS) | (with_reducible first | apply Zs | apply Zt | apply Zu)))
    refine s_ifp (fun h => ?_) (fun h => ?_)
    · have hk1 : k < A.length := by omega
      have hk2 : k < B.length := by omega
      refine s_draw hS ?_
      clear hS; intro w hS
      refine s_getN hS .hd encRow_len hu (x := A[k]) (by simp [hk1]) hk1 ?_
      refine s_getN hS .hd encRow_len hv (x := B[k]) (by simp [hk2]) hk2 ?_
      refine s_eqGN (eq_rowA A[k] B[k] w) ?_
      refine s_ifn (fun he => ?_) (fun he => ?_)
      · have : A ≠ B := fun e => by subst e; simp at he
        simp only [this, decide_false]
        (refine ⟨_, ⟨rfl, rfl⟩, SL.into hS ?_⟩; (focus ((try simp only [app]); repeat (first | (with_reducible exact Into.refl) | ((with_reducible apply Into.cons); (focus ((repeat (first | (with_reducible exact Rem.hd) | (with_reducible apply Rem.tl))); done))) | (with_reducible apply Into.drop)))))
      · have he' := of_decide_eq_true he
        (repeat (first | (with_reducible first | apply Z0 | apply Z1 | apply Z2 | apply Z3 | apply Z4 | apply Z5 | apply Z6 | apply Z7 | apply Z8 | apply Z9 | apply Za | apply Zb | apply Zc | apply Zd | apply Ze | apply Zf | apply Zg | apply Zh | apply Zi | apply Zj | apply Zk | apply Zl | apply Zm | apply Zn | apply Zo | apply Zp | apply Zq | apply Zr) | ((with_reducible apply s_ld hS); (focus (repeat (first | exact Has.hd | apply Has.tl)); done); (focus rfl)) | ((with_reducible first | apply s_add1 | apply s_addn | apply s_add | apply s_remn | apply s_sub); (focus omega)) | ((with_reducible apply s_st hS); (focus (repeat (first | exact Upd.hd | apply Upd.tl)); done); (focus rfl); (focus (first | rfl | assumption)); clear hS; intro w hS; simp only [List.set] at hS) | ((with_reducible refine s_draw hS ?_); clear hS; intro w hS) | ((with_reducible refine s_new hS ?_); clear hS; intro b w hS) | ((with_reducible apply s_stN0 hS); (focus (repeat (first | exact Upd.hd | apply Upd.tl)); done); (focus rfl); (focus rfl); (focus (simp [Value.oneCell']; done)); clear hS; intro w hS) | ((with_reducible apply s_ldN0 hS); (focus (repeat (first | exact Has.hd | apply Has.tl)); done); (focus rfl)) | ((with_reducible apply s_bld); (focus (simp [fillL, Value.cells]; rfl))) | ((with_reducible apply s_bldS hS); (focus (simp [fillL, Value.cells, zrow]; rfl)); clear hS; intro b w hS) | (with_reducible first | apply Zs | apply Zt | apply Zu)))
        refine ⟨⟨k + 1, by simp, by omega, ?_, hS⟩, by dsimp only; omega⟩
        rw [List.take_succ_eq_append_getElem hk1, List.take_succ_eq_append_getElem hk2, htk, he']
    · have : k = A.length := by omega
      subst this
      have : A = B := by rw [List.take_length, hl, List.take_length] at htk; exact htk
      simp only [this, decide_true]
      (refine ⟨_, ⟨rfl, rfl⟩, SL.into hS ?_⟩; (focus ((try simp only [app]); repeat (first | (with_reducible exact Into.refl) | ((with_reducible apply Into.cons); (focus ((repeat (first | (with_reducible exact Rem.hd) | (with_reducible apply Rem.tl))); done))) | (with_reducible apply Into.drop)))))
theorem rrows_spec (H : Heap) (u v : Value) (A B : List Row) (hu : RdSl H 2 u A.length (A.map encRow).flatten) (hv : RdSl H 2 v B.length (B.map encRow).flatten) (hA : A.length ≤ 9223372036854775806) :
    Spec Try.prog 77 [u, v] [.mem H] (Gives (.bool (decide (A = B))) [.mem H]) := by
  intro W F w hS; apply vc77; unfold Vc77; (try simp only [app] at hS)
  refine s_lenR hu (s_lenR hv ?_)
  (repeat (first | (with_reducible first | apply Z0 | apply Z1 | apply Z2 | apply Z3 | apply Z4 | apply Z5 | apply Z6 | apply Z7 | apply Z8 | apply Z9 | apply Za | apply Zb | apply Zc | apply Zd | apply Ze | apply Zf | apply Zg | apply Zh | apply Zi | apply Zj | apply Zk | apply Zl | apply Zm | apply Zn | apply Zo | apply Zp | apply Zq | apply Zr) | ((with_reducible apply s_ld hS); (focus (repeat (first | exact Has.hd | apply Has.tl)); done); (focus rfl)) | ((with_reducible first | apply s_add1 | apply s_addn | apply s_add | apply s_remn | apply s_sub); (focus omega)) | ((with_reducible apply s_st hS); (focus (repeat (first | exact Upd.hd | apply Upd.tl)); done); (focus rfl); (focus (first | rfl | assumption)); clear hS; intro w hS; simp only [List.set] at hS) | ((with_reducible refine s_draw hS ?_); clear hS; intro w hS) | ((with_reducible refine s_new hS ?_); clear hS; intro b w hS) | ((with_reducible apply s_stN0 hS); (focus (repeat (first | exact Upd.hd | apply Upd.tl)); done); (focus rfl); (focus rfl); (focus (simp [Value.oneCell']; done)); clear hS; intro w hS) | ((with_reducible apply s_ldN0 hS); (focus (repeat (first | exact Has.hd | apply Has.tl)); done); (focus rfl)) | ((with_reducible apply s_bld); (focus (simp [fillL, Value.cells]; rfl))) | ((with_reducible apply s_bldS hS); (focus (simp [fillL, Value.cells, zrow]; rfl)); clear hS; intro b w hS) | (with_reducible first | apply Zs | apply Zt | apply Zu)))
  refine s_ifp (fun h => ?_) (fun h => ?_)
  · have : A ≠ B := fun e => by subst e; exact h rfl
    simp only [this, decide_false]
    (refine ⟨_, ⟨rfl, rfl⟩, SL.into hS ?_⟩; (focus ((try simp only [app]); repeat (first | (with_reducible exact Into.refl) | ((with_reducible apply Into.cons); (focus ((repeat (first | (with_reducible exact Rem.hd) | (with_reducible apply Rem.tl))); done))) | (with_reducible apply Into.drop)))))
  · have hl : A.length = B.length := by omega
    refine ⟨fun vs w => ∃ k : Nat, vs = [.int .i64 k] ∧ k ≤ A.length ∧ A.take k = B.take k ∧ SL W (.mem H :: F) w, fun vs _ => match vs with | [.int _ k] => (A.length - k).toNat | _ => 0, ⟨0, rfl, by omega, rfl, hS⟩, ?_⟩
    clear hS
    rintro v7 w ⟨k, hv7, hk, htk, hS⟩
    cases hv7
    refine s_lenR hu ?_
    (repeat (first | (with_reducible first | apply Z0 | apply Z1 | apply Z2 | apply Z3 | apply Z4 | apply Z5 | apply Z6 | apply Z7 | apply Z8 | apply Z9 | apply Za | apply Zb | apply Zc | apply Zd | apply Ze | apply Zf | apply Zg | apply Zh | apply Zi | apply Zj | apply Zk | apply Zl | apply Zm | apply Zn | apply Zo | apply Zp | apply Zq | apply Zr) | ((with_reducible apply s_ld hS); (focus (repeat (first | exact Has.hd | apply Has.tl)); done); (focus rfl)) | ((with_reducible first | apply s_add1 | apply s_addn | apply s_add | apply s_remn | apply s_sub); (focus omega)) | ((with_reducible apply s_st hS); (focus (repeat (first | exact Upd.hd | apply Upd.tl)); done); (focus rfl); (focus (first | rfl | assumption)); clear hS; intro w hS; simp only [List.set] at hS) | ((with_reducible refine s_draw hS ?_); clear hS; intro w hS) | ((with_reducible refine s_new hS ?_); clear hS; intro b w hS) | ((with_reducible apply s_stN0 hS); (focus (repeat (first | exact Upd.hd | apply Upd.tl)); done); (focus rfl); (focus rfl); (focus (simp [Value.oneCell']; done)); clear hS; intro w hS) | ((with_reducible apply s_ldN0 hS); (focus (repeat (first | exact Has.hd | apply Has.tl)); done); (focus rfl)) | ((with_reducible apply s_bld); (focus (simp [fillL, Value.cells]; rfl))) | ((with_reducible apply s_bldS hS); (focus (simp [fillL, Value.cells, zrow]; rfl)); clear hS; intro b w hS) | (with_reducible first | apply Zs | apply Zt | apply Zu)))
    refine s_ifp (fun h => ?_) (fun h => ?_)
    · have hk1 : k < A.length := by omega
      have hk2 : k < B.length := by omega
      refine s_draw hS ?_
      clear hS; intro w hS
      refine s_getN hS .hd encRow_len hu (x := A[k]) (by simp [hk1]) hk1 ?_
      refine s_getN hS .hd encRow_len hv (x := B[k]) (by simp [hk2]) hk2 ?_
      refine s_eqGN (eq_rowA A[k] B[k] w) ?_
      refine s_ifn (fun he => ?_) (fun he => ?_)
      · have : A ≠ B := fun e => by subst e; simp at he
        simp only [this, decide_false]
        (refine ⟨_, ⟨rfl, rfl⟩, SL.into hS ?_⟩; (focus ((try simp only [app]); repeat (first | (with_reducible exact Into.refl) | ((with_reducible apply Into.cons); (focus ((repeat (first | (with_reducible exact Rem.hd) | (with_reducible apply Rem.tl))); done))) | (with_reducible apply Into.drop)))))
      · have he' := of_decide_eq_true he
        (repeat (first | (with_reducible first | apply Z0 | apply Z1 | apply Z2 | apply Z3 | apply Z4 | apply Z5 | apply Z6 | apply Z7 | apply Z8 | apply Z9 | apply Za | apply Zb | apply Zc | apply Zd | apply Ze | apply Zf | apply Zg | apply Zh | apply Zi | apply Zj | apply Zk | apply Zl | apply Zm | apply Zn | apply Zo | apply Zp | apply Zq | apply Zr) | ((with_reducible apply s_ld hS); (focus (repeat (first | exact Has.hd | apply Has.tl)); done); (focus rfl)) | ((with_reducible first | apply s_add1 | apply s_addn | apply s_add | apply s_remn | apply s_sub); (focus omega)) | ((with_reducible apply s_st hS); (focus (repeat (first | exact Upd.hd | apply Upd.tl)); done); (focus rfl); (focus (first | rfl | assumption)); clear hS; intro w hS; simp only [List.set] at hS) | ((with_reducible refine s_draw hS ?_); clear hS; intro w hS) | ((with_reducible refine s_new hS ?_); clear hS; intro b w hS) | ((with_reducible apply s_stN0 hS); (focus (repeat (first | exact Upd.hd | apply Upd.tl)); done); (focus rfl); (focus rfl); (focus (simp [Value.oneCell']; done)); clear hS; intro w hS) | ((with_reducible apply s_ldN0 hS); (focus (repeat (first | exact Has.hd | apply Has.tl)); done); (focus rfl)) | ((with_reducible apply s_bld); (focus (simp [fillL, Value.cells]; rfl))) | ((with_reducible apply s_bldS hS); (focus (simp [fillL, Value.cells, zrow]; rfl)); clear hS; intro b w hS) | (with_reducible first | apply Zs | apply Zt | apply Zu)))
        refine ⟨⟨k + 1, by simp, by omega, ?_, hS⟩, by dsimp only; omega⟩
        rw [List.take_succ_eq_append_getElem hk1, List.take_succ_eq_append_getElem hk2, htk, he']
    · have : k = A.length := by omega
      subst this
      have : A = B := by rw [List.take_length, hl, List.take_length] at htk; exact htk
      simp only [this, decide_true]
      (refine ⟨_, ⟨rfl, rfl⟩, SL.into hS ?_⟩; (focus ((try simp only [app]); repeat (first | (with_reducible exact Into.refl) | ((with_reducible apply Into.cons); (focus ((repeat (first | (with_reducible exact Rem.hd) | (with_reducible apply Rem.tl))); done))) | (with_reducible apply Into.drop)))))
theorem howR_range (t : Int) (L : List Rq) : howR t L = 0 ∨ howR t L = 1 ∨ howR t L = 2 := by
  unfold howR
  suffices h : ∀ (L : List Rq) (a : Int), (a = 0 ∨ a = 1 ∨ a = 2) → (L.foldl (howStep t) a = 0 ∨ L.foldl (howStep t) a = 1 ∨ L.foldl (howStep t) a = 2) from h L 0 (.inl rfl)
  intro L
  induction L with
  | nil => intro a h; exact h
  | cons r L ih =>
    intro a h
    rw [List.foldl_cons]
    refine ih _ ?_
    unfold howStep
    split
    · split
      · exact .inr (.inr rfl)
      · omega
    · exact h
theorem stands_range (late : Int) (L : List Rq) (t : Int) : (standsR late L t = 0 ∨ standsR late L t = 1 ∨ standsR late L t = 2) ∧ (standsR late L t ≠ 0 → 0 ≤ t ∧ t < 8) := by
  unfold standsR
  by_cases h : t < 0 ∨ 8 ≤ t
  · rw [if_pos h]; exact ⟨.inl rfl, fun h => absurd rfl h⟩
  · rw [if_neg h]
    refine ⟨?_, fun _ => by omega⟩
    split
    · exact .inr (.inr rfl)
    · exact howR_range t L
/-- What audit.Table asks of a table under way. -/
def UnderP (l : List TxnD) (a lsn t : Int) (rows : List Row) : Prop := ∀ i (h : i < rows.length), (∀ h0 : 0 < i, rows[i - 1].key < rows[i].key) ∧ Betw t l (heldN a l.length) (heldN lsn l.length) rows[i]
def TableP (l : List TxnD) (lsn late : Int) (L : List Rq) (t : Int) (rows : List Row) : Prop :=
  0 ≤ lsn ∧ lsn ≤ l.length ∧ (standsR late L t = 2 → rows = foldR t (l.take (heldN lsn l.length))) ∧ (standsR late L t = 1 → UnderP l (lastR t L) lsn t rows) ∧ (standsR late L t = 0 → rows = [])
/-- What all these calls want of transactions. -/
structure TxOk (H : Heap) (lv : Value) (l : List TxnD) : Prop where
  rd : RdTx H lv l
  len : l.length ≤ 1000000
  each : ∀ t ∈ l, t.changes.length ≤ 140737488351232
  keys : okT l
  all : (l.flatMap (·.changes)).length ≤ 1000000
theorem TxOk.mono {H H' : Heap} (hh : H.le H') {lv : Value} {l : List TxnD} (h : TxOk H lv l) : TxOk H' lv l := ⟨h.rd.mono hh, h.len, h.each, h.keys, h.all⟩
theorem tabs8 (l : List TxnD) (k : Int) : (tabs 8 l k).length = 8 := by simp [tabs]
theorem tabs8_get (l : List TxnD) (k : Int) (t : Nat) (h : t < (tabs 8 l k).length) : (tabs 8 l k)[t] = foldR t (l.take (heldN k l.length)) := by simp [tabs]
theorem recrows_spec (H : Heap) (lv : Value) (l : List TxnD) (k : Int) (t : Int) (hl : TxOk H lv l) (h0 : 0 ≤ t) (h8 : t < 8) :
    Spec Try.prog 74 [agg [lv], .int .i64 k, .int .i64 t] [.mem H] (fun v post => ∃ H', H.le H' ∧ RdSl H' 2 v (foldR t (l.take (heldN k l.length))).length ((foldR t (l.take (heldN k l.length))).map encRow).flatten ∧ post = [.mem H']) := by
  intro W F w hS; apply vc74; unfold Vc74; (try simp only [app] at hS)
  refine ⟨_, rfl, s_new hS ?_⟩
  clear hS; intro b w hS
  (repeat (first | (with_reducible first | apply Z0 | apply Z1 | apply Z2 | apply Z3 | apply Z4 | apply Z5 | apply Z6 | apply Z7 | apply Z8 | apply Z9 | apply Za | apply Zb | apply Zc | apply Zd | apply Ze | apply Zf | apply Zg | apply Zh | apply Zi | apply Zj | apply Zk | apply Zl | apply Zm | apply Zn | apply Zo | apply Zp | apply Zq | apply Zr) | ((with_reducible apply s_ld hS); (focus (repeat (first | exact Has.hd | apply Has.tl)); done); (focus rfl)) | ((with_reducible first | apply s_add1 | apply s_addn | apply s_add | apply s_remn | apply s_sub); (focus omega)) | ((with_reducible apply s_st hS); (focus (repeat (first | exact Upd.hd | apply Upd.tl)); done); (focus rfl); (focus (first | rfl | assumption)); clear hS; intro w hS; simp only [List.set] at hS) | ((with_reducible refine s_draw hS ?_); clear hS; intro w hS) | ((with_reducible refine s_new hS ?_); clear hS; intro b w hS) | ((with_reducible apply s_stN0 hS); (focus (repeat (first | exact Upd.hd | apply Upd.tl)); done); (focus rfl); (focus rfl); (focus (simp [Value.oneCell']; done)); clear hS; intro w hS) | ((with_reducible apply s_ldN0 hS); (focus (repeat (first | exact Has.hd | apply Has.tl)); done); (focus rfl)) | ((with_reducible apply s_bld); (focus (simp [fillL, Value.cells]; rfl))) | ((with_reducible apply s_bldS hS); (focus (simp [fillL, Value.cells, zrow]; rfl)); clear hS; intro b w hS) | (with_reducible first | apply Zs | apply Zt | apply Zu)))
  (apply s_call (foldF_spec H lv l 8 k hl.rd (Nat.le_trans hl.len (by decide)) hl.each hl.keys (fun tb i => Nat.le_trans (fold_len' l tb i) hl.all)) hS; (focus (repeat (first | (with_reducible exact Pick.nil) | ((with_reducible apply Pick.cons); (focus ((repeat (first | (with_reducible exact Rem.hd) | (with_reducible apply Rem.tl))); done)))))); clear hS)
  rintro v post ⟨H1, us, h01, hr, rfl⟩ w hS
  (try simp only [app] at hS)
  have h8l := tabs8 l k
  obtain ⟨t, rfl⟩ : ∃ n : Nat, t = (n : Int) := ⟨t.toNat, by omega⟩
  have ht : t < (tabs 8 l k).length := by omega
  have hul := hr.len
  have he := hr.each t ht (by omega)
  rw [tabs8_get l k t ht] at he
  refine s_get1 hS (by (repeat (first | exact Has.hd | apply Has.tl))) hr.out (u := us[t]'(by omega)) ht (List.getElem?_eq_getElem (by omega)) ?_
  exact ⟨_, ⟨H1, h01, he, rfl⟩, SL.into hS (by ((try simp only [app]); repeat (first | (with_reducible exact Into.refl) | ((with_reducible apply Into.cons); (focus ((repeat (first | (with_reducible exact Rem.hd) | (with_reducible apply Rem.tl))); done))) | (with_reducible apply Into.drop))))⟩
theorem held_clamp {a : Int} {n : Nat} (h : n ≤ 1000000) : heldN (min (max a 0) 1099511627776) n = heldN a n := by unfold heldN; omega
theorem was_spec (H : Heap) (lv rv : Value) (l : List TxnD) (lsn t a : Int) (rows : List Row) (hl : TxOk H lv l) (hr : RdSl H 2 rv rows.length (rows.map encRow).flatten) (hn : rows.length ≤ 140737488351232) :
    Spec Try.prog 75 [agg [lv, .int .i64 lsn, .int .i64 t, rv], .int .i64 a] [.mem H] (fun v post => ∃ q : Bool, v = .bool q ∧ (q = true ↔ UnderP l a lsn t rows) ∧ post = [.mem H]) := by
  intro W F w hS; apply vc75; unfold Vc75; (try simp only [app] at hS)
  refine ⟨_, rfl, s_new hS ?_⟩
  clear hS; intro p w hS
  (repeat (first | (with_reducible first | apply Z0 | apply Z1 | apply Z2 | apply Z3 | apply Z4 | apply Z5 | apply Z6 | apply Z7 | apply Z8 | apply Z9 | apply Za | apply Zb | apply Zc | apply Zd | apply Ze | apply Zf | apply Zg | apply Zh | apply Zi | apply Zj | apply Zk | apply Zl | apply Zm | apply Zn | apply Zo | apply Zp | apply Zq | apply Zr) | ((with_reducible apply s_ld hS); (focus (repeat (first | exact Has.hd | apply Has.tl)); done); (focus rfl)) | ((with_reducible first | apply s_add1 | apply s_addn | apply s_add | apply s_remn | apply s_sub); (focus omega)) | ((with_reducible apply s_st hS); (focus (repeat (first | exact Upd.hd | apply Upd.tl)); done); (focus rfl); (focus (first | rfl | assumption)); clear hS; intro w hS; simp only [List.set] at hS) | ((with_reducible refine s_draw hS ?_); clear hS; intro w hS) | ((with_reducible refine s_new hS ?_); clear hS; intro b w hS) | ((with_reducible apply s_stN0 hS); (focus (repeat (first | exact Upd.hd | apply Upd.tl)); done); (focus rfl); (focus rfl); (focus (simp [Value.oneCell']; done)); clear hS; intro w hS) | ((with_reducible apply s_ldN0 hS); (focus (repeat (first | exact Has.hd | apply Has.tl)); done); (focus rfl)) | ((with_reducible apply s_bld); (focus (simp [fillL, Value.cells]; rfl))) | ((with_reducible apply s_bldS hS); (focus (simp [fillL, Value.cells, zrow]; rfl)); clear hS; intro b w hS) | (with_reducible first | apply Zs | apply Zt | apply Zu)))
  refine s_lenR hr ?_
  refine ⟨fun us w => ∃ i : Nat, us = [.int .i64 i] ∧ i ≤ rows.length ∧ (∀ j (h : j < rows.length), j < i → (∀ h0 : 0 < j, rows[j - 1].key < rows[j].key) ∧ Betw t l (heldN a l.length) (heldN lsn l.length) rows[j]) ∧ SL W (.pt p [lv, .int .i64 lsn, .int .i64 t, rv] 121 :: .mem H :: F) w,
    fun us _ => match us with | [.int _ i] => (rows.length - i).toNat | _ => 0, ⟨0, rfl, by omega, fun j h h0 => by omega, SL.into hS (by ((try simp only [app]); repeat (first | (with_reducible exact Into.refl) | ((with_reducible apply Into.cons); (focus ((repeat (first | (with_reducible exact Rem.hd) | (with_reducible apply Rem.tl))); done))) | (with_reducible apply Into.drop))))⟩, ?_⟩
  clear hS
  rintro v14 w ⟨i, hus, hi, hall, hS⟩
  cases hus
  (repeat (first | (with_reducible first | apply Z0 | apply Z1 | apply Z2 | apply Z3 | apply Z4 | apply Z5 | apply Z6 | apply Z7 | apply Z8 | apply Z9 | apply Za | apply Zb | apply Zc | apply Zd | apply Ze | apply Zf | apply Zg | apply Zh | apply Zi | apply Zj | apply Zk | apply Zl | apply Zm | apply Zn | apply Zo | apply Zp | apply Zq | apply Zr) | ((with_reducible apply s_ld hS); (focus (repeat (first | exact Has.hd | apply Has.tl)); done); (focus rfl)) | ((with_reducible first | apply s_add1 | apply s_addn | apply s_add | apply s_remn | apply s_sub); (focus omega)) | ((with_reducible apply s_st hS); (focus (repeat (first | exact Upd.hd | apply Upd.tl)); done); (focus rfl); (focus (first | rfl | assumption)); clear hS; intro w hS; simp only [List.set] at hS) | ((with_reducible refine s_draw hS ?_); clear hS; intro w hS) | ((with_reducible refine s_new hS ?_); clear hS; intro b w hS) | ((with_reducible apply s_stN0 hS); (focus (repeat (first | exact Upd.hd | apply Upd.tl)); done); (focus rfl); (focus rfl); (focus (simp [Value.oneCell']; done)); clear hS; intro w hS) | ((with_reducible apply s_ldN0 hS); (focus (repeat (first | exact Has.hd | apply Has.tl)); done); (focus rfl)) | ((with_reducible apply s_bld); (focus (simp [fillL, Value.cells]; rfl))) | ((with_reducible apply s_bldS hS); (focus (simp [fillL, Value.cells, zrow]; rfl)); clear hS; intro b w hS) | (with_reducible first | apply Zs | apply Zt | apply Zu)))
  refine s_ifp (fun h => ?_) (fun h => ?_)
  · have hil : i < rows.length := by omega
    refine s_getN hS (by (repeat (first | exact Has.hd | apply Has.tl))) encRow_len hr (x := rows[i]) (by simp [hil]) hil ?_
    refine s_new hS ?_
    clear hS; intro b w hS
    refine s_stN0 (vs := encRow rows[i]) hS .hd rfl rfl (by simp [encRow, Value.oneCell']) ?_
    clear hS; intro w hS
    have htail : (∀ h0 : 0 < i, rows[i - 1].key < rows[i].key) → ∀ w, SL W (.pt b (encRow rows[i]) 69 :: .pt p [lv, .int .i64 lsn, .int .i64 t, rv] 121 :: .mem H :: F) w →
        HCall Try.prog 96 [lv, .int .i64 (min (max a 0) 1099511627776), .int .i64 lsn, .int .i64 t, agg (encRow rows[i])] w fun v43 w_6 => HNot v43 fun v44 =>
        HIf v44 (∃ post, (∃ q : Bool, (.bool false : Value) = .bool q ∧ (q = true ↔ UnderP l a lsn t rows) ∧ post = [.mem H]) ∧ SL W (app post F) w_6)
        (HBin .add (.int .i64 (i : Int)) (.int .i64 1) fun v46 =>
          (∃ i : Nat, [v46] = [.int .i64 i] ∧ i ≤ rows.length ∧ (∀ j (h : j < rows.length), j < i → (∀ h0 : 0 < j, rows[j - 1].key < rows[j].key) ∧ Betw t l (heldN a l.length) (heldN lsn l.length) rows[j]) ∧ SL W (.pt p [lv, .int .i64 lsn, .int .i64 t, rv] 121 :: .mem H :: F) w_6) ∧
          (match [v46] with | [.int _ i] => (rows.length - i).toNat | _ => 0) < ((rows.length : Int) - (i : Int)).toNat) := fun hk w hS => by
      (apply s_call (betwF_spec H lv l (min (max a 0) 1099511627776) lsn t rows[i] hl.rd (Nat.le_trans hl.len (by decide)) hl.each hl.keys) hS; (focus (repeat (first | (with_reducible exact Pick.nil) | ((with_reducible apply Pick.cons); (focus ((repeat (first | (with_reducible exact Rem.hd) | (with_reducible apply Rem.tl))); done)))))); clear hS)
      rintro v post ⟨q, rfl, hq, rfl⟩ w hS
      (try simp only [app] at hS)
      rw [held_clamp hl.len] at hq
      (repeat (first | (with_reducible first | apply Z0 | apply Z1 | apply Z2 | apply Z3 | apply Z4 | apply Z5 | apply Z6 | apply Z7 | apply Z8 | apply Z9 | apply Za | apply Zb | apply Zc | apply Zd | apply Ze | apply Zf | apply Zg | apply Zh | apply Zi | apply Zj | apply Zk | apply Zl | apply Zm | apply Zn | apply Zo | apply Zp | apply Zq | apply Zr) | ((with_reducible apply s_ld hS); (focus (repeat (first | exact Has.hd | apply Has.tl)); done); (focus rfl)) | ((with_reducible first | apply s_add1 | apply s_addn | apply s_add | apply s_remn | apply s_sub); (focus omega)) | ((with_reducible apply s_st hS); (focus (repeat (first | exact Upd.hd | apply Upd.tl)); done); (focus rfl); (focus (first | rfl | assumption)); clear hS; intro w hS; simp only [List.set] at hS) | ((with_reducible refine s_draw hS ?_); clear hS; intro w hS) | ((with_reducible refine s_new hS ?_); clear hS; intro b w hS) | ((with_reducible apply s_stN0 hS); (focus (repeat (first | exact Upd.hd | apply Upd.tl)); done); (focus rfl); (focus rfl); (focus (simp [Value.oneCell']; done)); clear hS; intro w hS) | ((with_reducible apply s_ldN0 hS); (focus (repeat (first | exact Has.hd | apply Has.tl)); done); (focus rfl)) | ((with_reducible apply s_bld); (focus (simp [fillL, Value.cells]; rfl))) | ((with_reducible apply s_bldS hS); (focus (simp [fillL, Value.cells, zrow]; rfl)); clear hS; intro b w hS) | (with_reducible first | apply Zs | apply Zt | apply Zu)))
      refine s_ifn (fun he => ?_) (fun he => ?_)
      · refine ⟨_, ⟨false, rfl, ⟨fun e => (by cases e), fun hu => ?_⟩, rfl⟩, SL.into hS (by ((try simp only [app]); repeat (first | (with_reducible exact Into.refl) | ((with_reducible apply Into.cons); (focus ((repeat (first | (with_reducible exact Rem.hd) | (with_reducible apply Rem.tl))); done))) | (with_reducible apply Into.drop))))⟩
        have := hq.2 (hu i hil).2
        rw [he] at this; cases this
      · (repeat (first | (with_reducible first | apply Z0 | apply Z1 | apply Z2 | apply Z3 | apply Z4 | apply Z5 | apply Z6 | apply Z7 | apply Z8 | apply Z9 | apply Za | apply Zb | apply Zc | apply Zd | apply Ze | apply Zf | apply Zg | apply Zh | apply Zi | apply Zj | apply Zk | apply Zl | apply Zm | apply Zn | apply Zo | apply Zp | apply Zq | apply Zr) | ((with_reducible apply s_ld hS); (focus (repeat (first | exact Has.hd | apply Has.tl)); done); (focus rfl)) | ((with_reducible first | apply s_add1 | apply s_addn | apply s_add | apply s_remn | apply s_sub); (focus omega)) | ((with_reducible apply s_st hS); (focus (repeat (first | exact Upd.hd | apply Upd.tl)); done); (focus rfl); (focus (first | rfl | assumption)); clear hS; intro w hS; simp only [List.set] at hS) | ((with_reducible refine s_draw hS ?_); clear hS; intro w hS) | ((with_reducible refine s_new hS ?_); clear hS; intro b w hS) | ((with_reducible apply s_stN0 hS); (focus (repeat (first | exact Upd.hd | apply Upd.tl)); done); (focus rfl); (focus rfl); (focus (simp [Value.oneCell']; done)); clear hS; intro w hS) | ((with_reducible apply s_ldN0 hS); (focus (repeat (first | exact Has.hd | apply Has.tl)); done); (focus rfl)) | ((with_reducible apply s_bld); (focus (simp [fillL, Value.cells]; rfl))) | ((with_reducible apply s_bldS hS); (focus (simp [fillL, Value.cells, zrow]; rfl)); clear hS; intro b w hS) | (with_reducible first | apply Zs | apply Zt | apply Zu)))
        refine ⟨⟨i + 1, by simp, by omega, fun j h1 h2 => ?_, SL.into hS (by ((try simp only [app]); repeat (first | (with_reducible exact Into.refl) | ((with_reducible apply Into.cons); (focus ((repeat (first | (with_reducible exact Rem.hd) | (with_reducible apply Rem.tl))); done))) | (with_reducible apply Into.drop))))⟩, ?_⟩
        · by_cases e : j = i
          · subst e; exact ⟨hk, hq.1 he⟩
          · exact hall j h1 (by omega)
        · show ((rows.length : Int) - ((i + 1 : Nat) : Int)).toNat < ((rows.length : Int) - (i : Int)).toNat
          omega
    unfold encRow at hS htail
    (repeat (first | (with_reducible first | apply Z0 | apply Z1 | apply Z2 | apply Z3 | apply Z4 | apply Z5 | apply Z6 | apply Z7 | apply Z8 | apply Z9 | apply Za | apply Zb | apply Zc | apply Zd | apply Ze | apply Zf | apply Zg | apply Zh | apply Zi | apply Zj | apply Zk | apply Zl | apply Zm | apply Zn | apply Zo | apply Zp | apply Zq | apply Zr) | ((with_reducible apply s_ld hS); (focus (repeat (first | exact Has.hd | apply Has.tl)); done); (focus rfl)) | ((with_reducible first | apply s_add1 | apply s_addn | apply s_add | apply s_remn | apply s_sub); (focus omega)) | ((with_reducible apply s_st hS); (focus (repeat (first | exact Upd.hd | apply Upd.tl)); done); (focus rfl); (focus (first | rfl | assumption)); clear hS; intro w hS; simp only [List.set] at hS) | ((with_reducible refine s_draw hS ?_); clear hS; intro w hS) | ((with_reducible refine s_new hS ?_); clear hS; intro b w hS) | ((with_reducible apply s_stN0 hS); (focus (repeat (first | exact Upd.hd | apply Upd.tl)); done); (focus rfl); (focus rfl); (focus (simp [Value.oneCell']; done)); clear hS; intro w hS) | ((with_reducible apply s_ldN0 hS); (focus (repeat (first | exact Has.hd | apply Has.tl)); done); (focus rfl)) | ((with_reducible apply s_bld); (focus (simp [fillL, Value.cells]; rfl))) | ((with_reducible apply s_bldS hS); (focus (simp [fillL, Value.cells, zrow]; rfl)); clear hS; intro b w hS) | (with_reducible first | apply Zs | apply Zt | apply Zu)))
    refine s_ifp (fun h0 => ?_) (fun h0 => ?_)
    · have hi1 : i - 1 < rows.length := by omega
      have e1 : (i : Int) - 1 = ((i - 1 : Nat) : Int) := by omega
      (repeat (first | (with_reducible first | apply Z0 | apply Z1 | apply Z2 | apply Z3 | apply Z4 | apply Z5 | apply Z6 | apply Z7 | apply Z8 | apply Z9 | apply Za | apply Zb | apply Zc | apply Zd | apply Ze | apply Zf | apply Zg | apply Zh | apply Zi | apply Zj | apply Zk | apply Zl | apply Zm | apply Zn | apply Zo | apply Zp | apply Zq | apply Zr) | ((with_reducible apply s_ld hS); (focus (repeat (first | exact Has.hd | apply Has.tl)); done); (focus rfl)) | ((with_reducible first | apply s_add1 | apply s_addn | apply s_add | apply s_remn | apply s_sub); (focus omega)) | ((with_reducible apply s_st hS); (focus (repeat (first | exact Upd.hd | apply Upd.tl)); done); (focus rfl); (focus (first | rfl | assumption)); clear hS; intro w hS; simp only [List.set] at hS) | ((with_reducible refine s_draw hS ?_); clear hS; intro w hS) | ((with_reducible refine s_new hS ?_); clear hS; intro b w hS) | ((with_reducible apply s_stN0 hS); (focus (repeat (first | exact Upd.hd | apply Upd.tl)); done); (focus rfl); (focus rfl); (focus (simp [Value.oneCell']; done)); clear hS; intro w hS) | ((with_reducible apply s_ldN0 hS); (focus (repeat (first | exact Has.hd | apply Has.tl)); done); (focus rfl)) | ((with_reducible apply s_bld); (focus (simp [fillL, Value.cells]; rfl))) | ((with_reducible apply s_bldS hS); (focus (simp [fillL, Value.cells, zrow]; rfl)); clear hS; intro b w hS) | (with_reducible first | apply Zs | apply Zt | apply Zu)))
      rw [e1]
      refine s_getF hS (by (repeat (first | exact Has.hd | apply Has.tl))) encRow_len hr (x := rows[i - 1]) (by simp [hi1]) hi1 (i := 0) rfl ?_
      (repeat (first | (with_reducible first | apply Z0 | apply Z1 | apply Z2 | apply Z3 | apply Z4 | apply Z5 | apply Z6 | apply Z7 | apply Z8 | apply Z9 | apply Za | apply Zb | apply Zc | apply Zd | apply Ze | apply Zf | apply Zg | apply Zh | apply Zi | apply Zj | apply Zk | apply Zl | apply Zm | apply Zn | apply Zo | apply Zp | apply Zq | apply Zr) | ((with_reducible apply s_ld hS); (focus (repeat (first | exact Has.hd | apply Has.tl)); done); (focus rfl)) | ((with_reducible first | apply s_add1 | apply s_addn | apply s_add | apply s_remn | apply s_sub); (focus omega)) | ((with_reducible apply s_st hS); (focus (repeat (first | exact Upd.hd | apply Upd.tl)); done); (focus rfl); (focus (first | rfl | assumption)); clear hS; intro w hS; simp only [List.set] at hS) | ((with_reducible refine s_draw hS ?_); clear hS; intro w hS) | ((with_reducible refine s_new hS ?_); clear hS; intro b w hS) | ((with_reducible apply s_stN0 hS); (focus (repeat (first | exact Upd.hd | apply Upd.tl)); done); (focus rfl); (focus rfl); (focus (simp [Value.oneCell']; done)); clear hS; intro w hS) | ((with_reducible apply s_ldN0 hS); (focus (repeat (first | exact Has.hd | apply Has.tl)); done); (focus rfl)) | ((with_reducible apply s_bld); (focus (simp [fillL, Value.cells]; rfl))) | ((with_reducible apply s_bldS hS); (focus (simp [fillL, Value.cells, zrow]; rfl)); clear hS; intro b w hS) | (with_reducible first | apply Zs | apply Zt | apply Zu)))
      refine s_ifp (fun hle => ?_) (fun hle => ?_)
      · refine ⟨_, ⟨false, rfl, ⟨fun e => (by cases e), fun hu => ?_⟩, rfl⟩, SL.into hS (by ((try simp only [app]); repeat (first | (with_reducible exact Into.refl) | ((with_reducible apply Into.cons); (focus ((repeat (first | (with_reducible exact Rem.hd) | (with_reducible apply Rem.tl))); done))) | (with_reducible apply Into.drop))))⟩
        have := (hu i hil).1 (by omega)
        omega
      · (repeat (first | (with_reducible first | apply Z0 | apply Z1 | apply Z2 | apply Z3 | apply Z4 | apply Z5 | apply Z6 | apply Z7 | apply Z8 | apply Z9 | apply Za | apply Zb | apply Zc | apply Zd | apply Ze | apply Zf | apply Zg | apply Zh | apply Zi | apply Zj | apply Zk | apply Zl | apply Zm | apply Zn | apply Zo | apply Zp | apply Zq | apply Zr) | ((with_reducible apply s_ld hS); (focus (repeat (first | exact Has.hd | apply Has.tl)); done); (focus rfl)) | ((with_reducible first | apply s_add1 | apply s_addn | apply s_add | apply s_remn | apply s_sub); (focus omega)) | ((with_reducible apply s_st hS); (focus (repeat (first | exact Upd.hd | apply Upd.tl)); done); (focus rfl); (focus (first | rfl | assumption)); clear hS; intro w hS; simp only [List.set] at hS) | ((with_reducible refine s_draw hS ?_); clear hS; intro w hS) | ((with_reducible refine s_new hS ?_); clear hS; intro b w hS) | ((with_reducible apply s_stN0 hS); (focus (repeat (first | exact Upd.hd | apply Upd.tl)); done); (focus rfl); (focus rfl); (focus (simp [Value.oneCell']; done)); clear hS; intro w hS) | ((with_reducible apply s_ldN0 hS); (focus (repeat (first | exact Has.hd | apply Has.tl)); done); (focus rfl)) | ((with_reducible apply s_bld); (focus (simp [fillL, Value.cells]; rfl))) | ((with_reducible apply s_bldS hS); (focus (simp [fillL, Value.cells, zrow]; rfl)); clear hS; intro b w hS) | (with_reducible first | apply Zs | apply Zt | apply Zu)))
        exact htail (fun _ => by omega) w (SL.into hS (by ((try simp only [app]); repeat (first | (with_reducible exact Into.refl) | ((with_reducible apply Into.cons); (focus ((repeat (first | (with_reducible exact Rem.hd) | (with_reducible apply Rem.tl))); done))) | (with_reducible apply Into.drop)))))
    · (repeat (first | (with_reducible first | apply Z0 | apply Z1 | apply Z2 | apply Z3 | apply Z4 | apply Z5 | apply Z6 | apply Z7 | apply Z8 | apply Z9 | apply Za | apply Zb | apply Zc | apply Zd | apply Ze | apply Zf | apply Zg | apply Zh | apply Zi | apply Zj | apply Zk | apply Zl | apply Zm | apply Zn | apply Zo | apply Zp | apply Zq | apply Zr) | ((with_reducible apply s_ld hS); (focus (repeat (first | exact Has.hd | apply Has.tl)); done); (focus rfl)) | ((with_reducible first | apply s_add1 | apply s_addn | apply s_add | apply s_remn | apply s_sub); (focus omega)) | ((with_reducible apply s_st hS); (focus (repeat (first | exact Upd.hd | apply Upd.tl)); done); (focus rfl); (focus (first | rfl | assumption)); clear hS; intro w hS; simp only [List.set] at hS) | ((with_reducible refine s_draw hS ?_); clear hS; intro w hS) | ((with_reducible refine s_new hS ?_); clear hS; intro b w hS) | ((with_reducible apply s_stN0 hS); (focus (repeat (first | exact Upd.hd | apply Upd.tl)); done); (focus rfl); (focus rfl); (focus (simp [Value.oneCell']; done)); clear hS; intro w hS) | ((with_reducible apply s_ldN0 hS); (focus (repeat (first | exact Has.hd | apply Has.tl)); done); (focus rfl)) | ((with_reducible apply s_bld); (focus (simp [fillL, Value.cells]; rfl))) | ((with_reducible apply s_bldS hS); (focus (simp [fillL, Value.cells, zrow]; rfl)); clear hS; intro b w hS) | (with_reducible first | apply Zs | apply Zt | apply Zu)))
      exact htail (fun h => by omega) w (SL.into hS (by ((try simp only [app]); repeat (first | (with_reducible exact Into.refl) | ((with_reducible apply Into.cons); (focus ((repeat (first | (with_reducible exact Rem.hd) | (with_reducible apply Rem.tl))); done))) | (with_reducible apply Into.drop)))))
  · have hie : i = rows.length := by omega
    subst hie
    exact ⟨_, ⟨true, rfl, ⟨fun _ j h => hall j h h, fun _ => rfl⟩, rfl⟩, SL.into hS (by ((try simp only [app]); repeat (first | (with_reducible exact Into.refl) | ((with_reducible apply Into.cons); (focus ((repeat (first | (with_reducible exact Rem.hd) | (with_reducible apply Rem.tl))); done))) | (with_reducible apply Into.drop))))⟩
end Go.Proofs.Ythjnknpgcmmapaa
