/-
  AuditWhole.
-/
import Derived.Test.YthjnknpgcmmapaaLaw32T
import Derived.Test.YthjnknpgcmmapaaOwn
namespace Go.Proofs.Ythjnknpgcmmapaa
set_option linter.unusedVariables false
set_option maxRecDepth 100000
open Go.ChangeShapes Go.WideShapes Go.ChangeAt Go.RowKit

theorem bit1 : bitV 1 0 ≠ 0 := by decide
theorem stQ {L : List Rq} : standsR 1 L 0 = howR 0 L := by unfold standsR; rw [if_neg (by decide), if_neg bit1]
/-- The rows of a table behind so many transactions were there then. -/
theorem under_of {l : List TxnD} {a lsn : Int} {i : Nat} {rows : List Row} (hk : okT l) (h1 : heldN a l.length ≤ i) (h2 : i ≤ heldN lsn l.length) (hs : rows.Sublist (foldR 0 (l.take i))) : UnderP l a lsn 0 rows := by
  have ok := hk.fold 0 i
  have hsort : SortedR rows := ok.1.sublist hs
  intro j hj
  refine ⟨fun h0 => List.pairwise_iff_getElem.1 hsort (j - 1) j (by omega) hj (by omega), i, h1, h2, ?_⟩
  exact getR_mem ok.1 (hs.subset (List.getElem_mem hj))
theorem not_betw {l : List TxnD} {k i j : Nat} {r : Row} (hok : ∀ t ∈ l, okTx k t) (hr : 1099511627776 < r.key) : ¬ Betw 0 l i j r := by
  rintro ⟨m, _, _, h⟩
  have := okRow_of hok 0 m _ (getR_some h)
  have := this.2.1
  simp only at this
  omega
theorem tabOne {l : List TxnD} {lsn late : Int} {L : List Rq} {rows : List Row} (h2 : standsR late L 0 = 1) (h0 : 0 ≤ lsn) (h1 : lsn ≤ l.length) (h : UnderP l (lastR 0 L) lsn 0 rows) : TableP l lsn late L 0 rows := by
  unfold TableP
  exact ⟨h0, h1, fun e => by omega, fun _ => h, fun e => by omega⟩
theorem tabZero {l : List TxnD} {lsn late : Int} {L : List Rq} {rows : List Row} (h2 : standsR late L 0 = 0) (h0 : 0 ≤ lsn) (h1 : lsn ≤ l.length) (h : rows = []) : TableP l lsn late L 0 rows := by
  unfold TableP
  exact ⟨h0, h1, fun e => by omega, fun e => by omega, fun _ => h⟩
theorem q_true {q : Bool} {P : Prop} (h : q = true ↔ P) (hp : P) : q = true := h.2 hp
theorem q_false {q : Bool} {P : Prop} (h : q = true ↔ P) (hp : ¬ P) : q = false := by
  cases q with
  | false => rfl
  | true => exact absurd (h.1 rfl) hp
def reqQ (a : Nat) : Rq := ⟨1, 0, 1, a, 0, 0, false⟩
def reqD (a : Nat) : Rq := ⟨1, 0, 1, a, 0, 1, true⟩
structure WB (H : Heap) (xv fv ov sv qv dv : Value) (ts : List TxnD) (G O S : List Row) (a : Nat) : Prop where
  tx : TxOk H xv ts
  f : RdSl H 2 fv G.length (G.map encRow).flatten
  o : RdSl H 2 ov O.length (O.map encRow).flatten
  s : RdSl H 2 sv S.length (S.map encRow).flatten
  q : RdRq H qv [reqQ a]
  d : RdRq H dv [reqD a]
theorem WB.mono {H H' : Heap} (hh : H.le H') {xv fv ov sv qv dv : Value} {ts : List TxnD} {G O S : List Row} {a : Nat} (h : WB H xv fv ov sv qv dv ts G O S a) : WB H' xv fv ov sv qv dv ts G O S a :=
  ⟨h.tx.mono hh, h.f.mono hh, h.o.mono hh, h.s.mono hh, RdSl.mono hh h.q, RdSl.mono hh h.d⟩
theorem s_table {W w : World} {F : List Chunk} {H : Heap} {lv qv rv : Value} {l : List TxnD} {L : List Rq} {rows : List Row} {lsn late t : Int} {K : Value → World → Prop} (hl : TxOk H lv l) (hq : RdRq H qv L) (hL : L.length ≤ 1000) (hr : RdSl H 2 rv rows.length (rows.map encRow).flatten) (hn : rows.length ≤ 100000)
    (hS : SL W (.mem H :: F) w) (q : Bool) (hp : q = true ↔ TableP l lsn late L t rows) (h : ∀ H' w', H.le H' → SL W (.mem H' :: F) w' → K (.bool q) w') : HCall Try.prog 41 [lv, .int .i64 lsn, .int .i64 late, qv, .int .i64 t, rv] w K := by
  (apply s_call (table_spec H lv qv rv l lsn late t L rows hl hq (by omega) hr (by omega)) hS; (focus (repeat (first | (with_reducible exact Pick.nil) | ((with_reducible apply Pick.cons); (focus ((repeat (first | (with_reducible exact Rem.hd) | (with_reducible apply Rem.tl))); done)))))); clear hS)
  rintro _ post ⟨q1, H1, rfl, hq1, h01, rfl⟩ w hS
  (try simp only [app] at hS)
  obtain rfl := bool_iff hp hq1
  exact h H1 w h01 hS
theorem iffT {P : Prop} (h : P) : (true = true ↔ P) := ⟨fun _ => h, fun _ => rfl⟩
theorem iffF {P : Prop} (h : ¬ P) : (false = true ↔ P) := ⟨fun e => (by cases e), fun e => absurd e h⟩
theorem auditWhole_spec (H : Heap) (lv pv : Value) (l : List TxnD) (lsn from_ : Int) (pick : List Bool) (hl : RdTx H lv l) (hn : l.length ≤ 140737488351232) (hok : ∀ t ∈ l, okTxn t)
    (hp : RdSl H 1 pv pick.length (pick.map Value.bool)) (hpl : pick.length ≤ 140737488351232) :
    Spec Try.prog 10 [lv, .int .i64 lsn, .int .i64 from_, pv] [.mem H] (fun v post => v = .bool true ∧ ∃ H' l, H.le H' ∧ post = .mem H' :: l) := by
  intro W F w hS; apply vc10; unfold Vc10; (try simp only [app] at hS)
  (apply s_call (txns_spec H lv l 1 25 hl (by decide) (by decide) (by decide) hn (fun t ht => ⟨(hok t ht).2.1, (hok t ht).2.2.1, (hok t ht).1⟩)) hS; (focus (repeat (first | (with_reducible exact Pick.nil) | ((with_reducible apply Pick.cons); (focus ((repeat (first | (with_reducible exact Rem.hd) | (with_reducible apply Rem.tl))); done)))))); clear hS)
  rintro xv post ⟨H1, ts, h01, hts, htl, htok, rfl⟩ w hS
  (try simp only [app] at hS)
  have hT : TxOk H1 xv ts := TxOk.of hts (by omega) htok
  have hF5 := okTx.total htok
  obtain ⟨xa, xcap, hxv⟩ := hts.slice
  rw [show HLenS xv = HLenS (.slice xa ts.length xcap) by rw [hxv]]
  (repeat (first | (with_reducible first | apply Z0 | apply Z1 | apply Z2 | apply Z3 | apply Z4 | apply Z5 | apply Z6 | apply Z7 | apply Z8 | apply Z9 | apply Za | apply Zb | apply Zc | apply Zd | apply Ze | apply Zf | apply Zg | apply Zh | apply Zi | apply Zj | apply Zk | apply Zl | apply Zm | apply Zn | apply Zo | apply Zp | apply Zq | apply Zr) | ((with_reducible apply s_ld hS); (focus (repeat (first | exact Has.hd | apply Has.tl)); done); (focus rfl)) | ((with_reducible first | apply s_add1 | apply s_addn | apply s_add | apply s_remn | apply s_sub); (focus omega)) | ((with_reducible apply s_st hS); (focus (repeat (first | exact Upd.hd | apply Upd.tl)); done); (focus rfl); (focus (first | rfl | assumption)); clear hS; intro w hS; simp only [List.set] at hS) | ((with_reducible refine s_draw hS ?_); clear hS; intro w hS) | ((with_reducible refine s_new hS ?_); clear hS; intro b w hS) | ((with_reducible apply s_stN0 hS); (focus (repeat (first | exact Upd.hd | apply Upd.tl)); done); (focus rfl); (focus rfl); (focus (simp [Value.oneCell']; done)); clear hS; intro w hS) | ((with_reducible apply s_ldN0 hS); (focus (repeat (first | exact Has.hd | apply Has.tl)); done); (focus rfl)) | ((with_reducible apply s_bld); (focus (simp [fillL, Value.cells]; rfl))) | ((with_reducible apply s_bldS hS); (focus (simp [fillL, Value.cells, zrow]; rfl)); clear hS; intro b w hS) | (with_reducible first | apply Zs | apply Zt | apply Zu)))
  refine s_ifp (fun h => ?_) (fun h0 => ?_)
  · (apply s_call (awake32_spec H1) hS; (focus (repeat (first | (with_reducible exact Pick.nil) | ((with_reducible apply Pick.cons); (focus ((repeat (first | (with_reducible exact Rem.hd) | (with_reducible apply Rem.tl))); done)))))); clear hS)
    rintro _ post ⟨H2, h12, rfl, rfl⟩ w hS
    (try simp only [app] at hS)
    exact ⟨_, ⟨rfl, H2, [], Heap.le_trans h01 h12, rfl⟩, hS⟩
  have hpos : 0 < ts.length := by omega
  (repeat (first | (with_reducible first | apply Z0 | apply Z1 | apply Z2 | apply Z3 | apply Z4 | apply Z5 | apply Z6 | apply Z7 | apply Z8 | apply Z9 | apply Za | apply Zb | apply Zc | apply Zd | apply Ze | apply Zf | apply Zg | apply Zh | apply Zi | apply Zj | apply Zk | apply Zl | apply Zm | apply Zn | apply Zo | apply Zp | apply Zq | apply Zr) | ((with_reducible apply s_ld hS); (focus (repeat (first | exact Has.hd | apply Has.tl)); done); (focus rfl)) | ((with_reducible first | apply s_add1 | apply s_addn | apply s_add | apply s_remn | apply s_sub); (focus omega)) | ((with_reducible apply s_st hS); (focus (repeat (first | exact Upd.hd | apply Upd.tl)); done); (focus rfl); (focus (first | rfl | assumption)); clear hS; intro w hS; simp only [List.set] at hS) | ((with_reducible refine s_draw hS ?_); clear hS; intro w hS) | ((with_reducible refine s_new hS ?_); clear hS; intro b w hS) | ((with_reducible apply s_stN0 hS); (focus (repeat (first | exact Upd.hd | apply Upd.tl)); done); (focus rfl); (focus rfl); (focus (simp [Value.oneCell']; done)); clear hS; intro w hS) | ((with_reducible apply s_ldN0 hS); (focus (repeat (first | exact Has.hd | apply Has.tl)); done); (focus rfl)) | ((with_reducible apply s_bld); (focus (simp [fillL, Value.cells]; rfl))) | ((with_reducible apply s_bldS hS); (focus (simp [fillL, Value.cells, zrow]; rfl)); clear hS; intro b w hS) | (with_reducible first | apply Zs | apply Zt | apply Zu)))
  have hmk := md_lt lsn ts.length hpos
  (apply s_call (mod_spec lsn ts.length hpos (by omega)) hS; (focus (repeat (first | (with_reducible exact Pick.nil) | ((with_reducible apply Pick.cons); (focus ((repeat (first | (with_reducible exact Rem.hd) | (with_reducible apply Rem.tl))); done)))))); clear hS)
  (rintro v post ⟨rfl, rfl⟩ w hS; (try simp only [app] at hS); (repeat (first | (with_reducible first | apply Z0 | apply Z1 | apply Z2 | apply Z3 | apply Z4 | apply Z5 | apply Z6 | apply Z7 | apply Z8 | apply Z9 | apply Za | apply Zb | apply Zc | apply Zd | apply Ze | apply Zf | apply Zg | apply Zh | apply Zi | apply Zj | apply Zk | apply Zl | apply Zm | apply Zn | apply Zo | apply Zp | apply Zq | apply Zr) | ((with_reducible apply s_ld hS); (focus (repeat (first | exact Has.hd | apply Has.tl)); done); (focus rfl)) | ((with_reducible first | apply s_add1 | apply s_addn | apply s_add | apply s_remn | apply s_sub); (focus omega)) | ((with_reducible apply s_st hS); (focus (repeat (first | exact Upd.hd | apply Upd.tl)); done); (focus rfl); (focus (first | rfl | assumption)); clear hS; intro w hS; simp only [List.set] at hS) | ((with_reducible refine s_draw hS ?_); clear hS; intro w hS) | ((with_reducible refine s_new hS ?_); clear hS; intro b w hS) | ((with_reducible apply s_stN0 hS); (focus (repeat (first | exact Upd.hd | apply Upd.tl)); done); (focus rfl); (focus rfl); (focus (simp [Value.oneCell']; done)); clear hS; intro w hS) | ((with_reducible apply s_ldN0 hS); (focus (repeat (first | exact Has.hd | apply Has.tl)); done); (focus rfl)) | ((with_reducible apply s_bld); (focus (simp [fillL, Value.cells]; rfl))) | ((with_reducible apply s_bldS hS); (focus (simp [fillL, Value.cells, zrow]; rfl)); clear hS; intro b w hS) | (with_reducible first | apply Zs | apply Zt | apply Zu))))
  have ek : (1 : Int) + (md lsn ts.length : Int) = ((1 + md lsn ts.length : Nat) : Int) := by omega
  try rw [ek]
  have hk1 : 1 ≤ 1 + md lsn ts.length := by omega
  have hk2 : 1 + md lsn ts.length ≤ ts.length := by omega
  generalize 1 + md lsn ts.length = k at *
  have hheldk : heldN (k : Int) ts.length = k := by unfold heldN; omega
  (apply s_call (rfold_spec H1 xv ts 1 (k : Int) hT.rd (by omega) hT.each hT.all) hS; (focus (repeat (first | (with_reducible exact Pick.nil) | ((with_reducible apply Pick.cons); (focus ((repeat (first | (with_reducible exact Rem.hd) | (with_reducible apply Rem.tl))); done)))))); clear hS)
  rintro tv post ⟨H2, us, h12, hf, rfl⟩ w hS
  (try simp only [app] at hS)
  have hT2 := hT.mono h12
  have h1l := tabs_len' (n := 1) (by decide) (by decide) ts (k : Int)
  have ht0 : 0 < (tabs 1 ts (k : Int)).length := by rw [h1l]; decide
  have hul := hf.len
  have hx := hf.each 0 ht0 (by omega)
  rw [tabs_get (by decide) (by decide) ts (k : Int) 0 (by decide) ht0, hheldk] at hx
  refine s_get1 (j := 0) hS (by (repeat (first | exact Has.hd | apply Has.tl))) hf.out (u := us[0]'(by omega)) ht0 (List.getElem?_eq_getElem (by omega)) ?_
  generalize us[0]'(by omega) = fv at *
  (repeat (first | (with_reducible first | apply Z0 | apply Z1 | apply Z2 | apply Z3 | apply Z4 | apply Z5 | apply Z6 | apply Z7 | apply Z8 | apply Z9 | apply Za | apply Zb | apply Zc | apply Zd | apply Ze | apply Zf | apply Zg | apply Zh | apply Zi | apply Zj | apply Zk | apply Zl | apply Zm | apply Zn | apply Zo | apply Zp | apply Zq | apply Zr) | ((with_reducible apply s_ld hS); (focus (repeat (first | exact Has.hd | apply Has.tl)); done); (focus rfl)) | ((with_reducible first | apply s_add1 | apply s_addn | apply s_add | apply s_remn | apply s_sub); (focus omega)) | ((with_reducible apply s_st hS); (focus (repeat (first | exact Upd.hd | apply Upd.tl)); done); (focus rfl); (focus (first | rfl | assumption)); clear hS; intro w hS; simp only [List.set] at hS) | ((with_reducible refine s_draw hS ?_); clear hS; intro w hS) | ((with_reducible refine s_new hS ?_); clear hS; intro b w hS) | ((with_reducible apply s_stN0 hS); (focus (repeat (first | exact Upd.hd | apply Upd.tl)); done); (focus rfl); (focus rfl); (focus (simp [Value.oneCell']; done)); clear hS; intro w hS) | ((with_reducible apply s_ldN0 hS); (focus (repeat (first | exact Has.hd | apply Has.tl)); done); (focus rfl)) | ((with_reducible apply s_bld); (focus (simp [fillL, Value.cells]; rfl))) | ((with_reducible apply s_bldS hS); (focus (simp [fillL, Value.cells, zrow]; rfl)); clear hS; intro b w hS) | (with_reducible first | apply Zs | apply Zt | apply Zu)))
  have hma := md_lt from_ k (by omega)
  (apply s_call (mod_spec from_ k (by omega) (by omega)) hS; (focus (repeat (first | (with_reducible exact Pick.nil) | ((with_reducible apply Pick.cons); (focus ((repeat (first | (with_reducible exact Rem.hd) | (with_reducible apply Rem.tl))); done)))))); clear hS)
  (rintro v post ⟨rfl, rfl⟩ w hS; (try simp only [app] at hS); (repeat (first | (with_reducible first | apply Z0 | apply Z1 | apply Z2 | apply Z3 | apply Z4 | apply Z5 | apply Z6 | apply Z7 | apply Z8 | apply Z9 | apply Za | apply Zb | apply Zc | apply Zd | apply Ze | apply Zf | apply Zg | apply Zh | apply Zi | apply Zj | apply Zk | apply Zl | apply Zm | apply Zn | apply Zo | apply Zp | apply Zq | apply Zr) | ((with_reducible apply s_ld hS); (focus (repeat (first | exact Has.hd | apply Has.tl)); done); (focus rfl)) | ((with_reducible first | apply s_add1 | apply s_addn | apply s_add | apply s_remn | apply s_sub); (focus omega)) | ((with_reducible apply s_st hS); (focus (repeat (first | exact Upd.hd | apply Upd.tl)); done); (focus rfl); (focus (first | rfl | assumption)); clear hS; intro w hS; simp only [List.set] at hS) | ((with_reducible refine s_draw hS ?_); clear hS; intro w hS) | ((with_reducible refine s_new hS ?_); clear hS; intro b w hS) | ((with_reducible apply s_stN0 hS); (focus (repeat (first | exact Upd.hd | apply Upd.tl)); done); (focus rfl); (focus rfl); (focus (simp [Value.oneCell']; done)); clear hS; intro w hS) | ((with_reducible apply s_ldN0 hS); (focus (repeat (first | exact Has.hd | apply Has.tl)); done); (focus rfl)) | ((with_reducible apply s_bld); (focus (simp [fillL, Value.cells]; rfl))) | ((with_reducible apply s_bldS hS); (focus (simp [fillL, Value.cells, zrow]; rfl)); clear hS; intro b w hS) | (with_reducible first | apply Zs | apply Zt | apply Zu))))
  have ea : (1 : Int) + (md from_ k : Int) = ((1 + md from_ k : Nat) : Int) := by omega
  rw [ea] at hS ⊢
  have ha1 : 1 ≤ 1 + md from_ k := by omega
  have ha2 : 1 + md from_ k ≤ k := by omega
  generalize 1 + md from_ k = a at *
  have hhelda : heldN (a : Int) ts.length = a := by unfold heldN; omega
  (repeat (first | (with_reducible first | apply Z0 | apply Z1 | apply Z2 | apply Z3 | apply Z4 | apply Z5 | apply Z6 | apply Z7 | apply Z8 | apply Z9 | apply Za | apply Zb | apply Zc | apply Zd | apply Ze | apply Zf | apply Zg | apply Zh | apply Zi | apply Zj | apply Zk | apply Zl | apply Zm | apply Zn | apply Zo | apply Zp | apply Zq | apply Zr) | ((with_reducible apply s_ld hS); (focus (repeat (first | exact Has.hd | apply Has.tl)); done); (focus rfl)) | ((with_reducible first | apply s_add1 | apply s_addn | apply s_add | apply s_remn | apply s_sub); (focus omega)) | ((with_reducible apply s_st hS); (focus (repeat (first | exact Upd.hd | apply Upd.tl)); done); (focus rfl); (focus (first | rfl | assumption)); clear hS; intro w hS; simp only [List.set] at hS) | ((with_reducible refine s_draw hS ?_); clear hS; intro w hS) | ((with_reducible refine s_new hS ?_); clear hS; intro b w hS) | ((with_reducible apply s_stN0 hS); (focus (repeat (first | exact Upd.hd | apply Upd.tl)); done); (focus rfl); (focus rfl); (focus (simp [Value.oneCell']; done)); clear hS; intro w hS) | ((with_reducible apply s_ldN0 hS); (focus (repeat (first | exact Has.hd | apply Has.tl)); done); (focus rfl)) | ((with_reducible apply s_bld); (focus (simp [fillL, Value.cells]; rfl))) | ((with_reducible apply s_bldS hS); (focus (simp [fillL, Value.cells, zrow]; rfl)); clear hS; intro b w hS) | (with_reducible first | apply Zs | apply Zt | apply Zu)))
  have hS := OwnSl.full (n := 1) (sz := 7) (cells := encRq (reqD a)) rfl hS
  obtain ⟨H3, h23, hD, hS⟩ := s_freeze (H := H2) hS (by (repeat (first | (with_reducible exact Pick.nil) | ((with_reducible apply Pick.cons); (focus ((repeat (first | (with_reducible exact Rem.hd) | (with_reducible apply Rem.tl))); done))))))
  have hS := OwnSl.full (n := 1) (sz := 7) (cells := encRq (reqQ a)) rfl (SL.perm hS (.swap _ _ _))
  obtain ⟨H4, h34, hQ, hS⟩ := s_freeze (H := H3) hS (by (repeat (first | (with_reducible exact Pick.nil) | ((with_reducible apply Pick.cons); (focus ((repeat (first | (with_reducible exact Rem.hd) | (with_reducible apply Rem.tl))); done))))))
  have h24 := Heap.le_trans h23 h34
  have hT4 := hT2.mono h24
  (apply s_call (rfold_spec H4 xv ts 1 (a : Int) hT4.rd (by omega) hT4.each hT4.all) hS; (focus (repeat (first | (with_reducible exact Pick.nil) | ((with_reducible apply Pick.cons); (focus ((repeat (first | (with_reducible exact Rem.hd) | (with_reducible apply Rem.tl))); done)))))); clear hS)
  rintro tv2 post ⟨H5, us2, h45, hf2, rfl⟩ w hS
  (try simp only [app] at hS)
  have h1l2 := tabs_len' (n := 1) (by decide) (by decide) ts (a : Int)
  have ht02 : 0 < (tabs 1 ts (a : Int)).length := by rw [h1l2]; decide
  have hul2 := hf2.len
  have hg := hf2.each 0 ht02 (by omega)
  rw [tabs_get (by decide) (by decide) ts (a : Int) 0 (by decide) ht02, hhelda] at hg
  refine s_get1 (j := 0) hS (by (repeat (first | exact Has.hd | apply Has.tl))) hf2.out (u := us2[0]'(by omega)) ht02 (List.getElem?_eq_getElem (by omega)) ?_
  generalize us2[0]'(by omega) = gv at *
  have hGl := fold_len' ts (((0 : Nat) : Int)) a
  have hFl := fold_len' ts (((0 : Nat) : Int)) k
  have h05 : H.le H5 := Heap.le_trans h01 (Heap.le_trans h12 (Heap.le_trans h24 h45))
  have hp5 := hp.mono h05
  have hnz : (((0 : Nat) : Int)) = (0 : Int) := rfl
  rw [hnz] at hx hg hGl hFl
  refine ⟨fun us w => ∃ (i : Nat) (u : Value) (S : List Row), us = [u, .int .i64 i] ∧ i ≤ (foldR 0 (ts.take a)).length ∧ S.length ≤ i ∧ S.Sublist ((foldR 0 (ts.take a)).take i) ∧ SL W (.ob (OwnSl u 69 2 S.length (S.map encRow).flatten) :: .mem H5 :: F) w,
    fun us _ => match us with | [_, .int _ i] => ((foldR 0 (ts.take a)).length - i).toNat | _ => 0, ⟨0, _, [], rfl, by omega, by simp, by simp, OwnSl.nil hS⟩, ?_⟩
  clear hS
  rintro v16 v17 w ⟨i, u, S, hus, hi, hSl, hsub, hS⟩
  cases hus
  refine s_lenR hg ?_
  (repeat (first | (with_reducible first | apply Z0 | apply Z1 | apply Z2 | apply Z3 | apply Z4 | apply Z5 | apply Z6 | apply Z7 | apply Z8 | apply Z9 | apply Za | apply Zb | apply Zc | apply Zd | apply Ze | apply Zf | apply Zg | apply Zh | apply Zi | apply Zj | apply Zk | apply Zl | apply Zm | apply Zn | apply Zo | apply Zp | apply Zq | apply Zr) | ((with_reducible apply s_ld hS); (focus (repeat (first | exact Has.hd | apply Has.tl)); done); (focus rfl)) | ((with_reducible first | apply s_add1 | apply s_addn | apply s_add | apply s_remn | apply s_sub); (focus omega)) | ((with_reducible apply s_st hS); (focus (repeat (first | exact Upd.hd | apply Upd.tl)); done); (focus rfl); (focus (first | rfl | assumption)); clear hS; intro w hS; simp only [List.set] at hS) | ((with_reducible refine s_draw hS ?_); clear hS; intro w hS) | ((with_reducible refine s_new hS ?_); clear hS; intro b w hS) | ((with_reducible apply s_stN0 hS); (focus (repeat (first | exact Upd.hd | apply Upd.tl)); done); (focus rfl); (focus rfl); (focus (simp [Value.oneCell']; done)); clear hS; intro w hS) | ((with_reducible apply s_ldN0 hS); (focus (repeat (first | exact Has.hd | apply Has.tl)); done); (focus rfl)) | ((with_reducible apply s_bld); (focus (simp [fillL, Value.cells]; rfl))) | ((with_reducible apply s_bldS hS); (focus (simp [fillL, Value.cells, zrow]; rfl)); clear hS; intro b w hS) | (with_reducible first | apply Zs | apply Zt | apply Zu)))
  refine s_ifp (fun hlt => ?_) (fun hlt => ?_)
  · have hil : i < (foldR 0 (ts.take a)).length := by omega
    have htk : (foldR 0 (ts.take a)).take (i + 1) = (foldR 0 (ts.take a)).take i ++ [(foldR 0 (ts.take a))[i]] := List.take_succ_eq_append_getElem hil
    have hsub1 : S.Sublist ((foldR 0 (ts.take a)).take (i + 1)) := by rw [htk]; exact hsub.trans (List.sublist_append_left _ _)
    refine s_lenR hp5 ?_
    (repeat (first | (with_reducible first | apply Z0 | apply Z1 | apply Z2 | apply Z3 | apply Z4 | apply Z5 | apply Z6 | apply Z7 | apply Z8 | apply Z9 | apply Za | apply Zb | apply Zc | apply Zd | apply Ze | apply Zf | apply Zg | apply Zh | apply Zi | apply Zj | apply Zk | apply Zl | apply Zm | apply Zn | apply Zo | apply Zp | apply Zq | apply Zr) | ((with_reducible apply s_ld hS); (focus (repeat (first | exact Has.hd | apply Has.tl)); done); (focus rfl)) | ((with_reducible first | apply s_add1 | apply s_addn | apply s_add | apply s_remn | apply s_sub); (focus omega)) | ((with_reducible apply s_st hS); (focus (repeat (first | exact Upd.hd | apply Upd.tl)); done); (focus rfl); (focus (first | rfl | assumption)); clear hS; intro w hS; simp only [List.set] at hS) | ((with_reducible refine s_draw hS ?_); clear hS; intro w hS) | ((with_reducible refine s_new hS ?_); clear hS; intro b w hS) | ((with_reducible apply s_stN0 hS); (focus (repeat (first | exact Upd.hd | apply Upd.tl)); done); (focus rfl); (focus rfl); (focus (simp [Value.oneCell']; done)); clear hS; intro w hS) | ((with_reducible apply s_ldN0 hS); (focus (repeat (first | exact Has.hd | apply Has.tl)); done); (focus rfl)) | ((with_reducible apply s_bld); (focus (simp [fillL, Value.cells]; rfl))) | ((with_reducible apply s_bldS hS); (focus (simp [fillL, Value.cells, zrow]; rfl)); clear hS; intro b w hS) | (with_reducible first | apply Zs | apply Zt | apply Zu)))
    refine s_ifp (fun hpk => ?_) (fun hpk => ?_)
    · have hpl2 : i < pick.length := by omega
      refine s_get1 hS (by (repeat (first | exact Has.hd | apply Has.tl))) hp5 hpl2 (u := .bool pick[i]) (by simp [hpl2]) ?_
      refine s_if (fun hb => ?_) (fun hb => ?_)
      · refine s_getN hS (by (repeat (first | exact Has.hd | apply Has.tl))) encRow_len hg (List.getElem?_eq_getElem hil) hil ?_
        refine s_bldS (cells := encRow (foldR 0 (ts.take a))[i]) hS (by simp [fillL, Value.cells, zrow, encRow]) ?_
        clear hS; intro b w hS
        refine s_app (n := S.length) (m := 1) (cells := (S.map encRow).flatten) hS (by repeat (first | exact Rem.hd | apply Rem.tl)) (src_pt0 (cs := encRow (foldR 0 (ts.take a))[i]) hS .hd rfl) rfl rfl (by simp [encRow, Value.oneCell']) (by omega) (by omega) ?_
        clear hS; intro u2 w hS
        rw [← flat_snoc, show S.length + 1 = (S ++ [(foldR 0 (ts.take a))[i]]).length by simp] at hS
        (repeat (first | (with_reducible first | apply Z0 | apply Z1 | apply Z2 | apply Z3 | apply Z4 | apply Z5 | apply Z6 | apply Z7 | apply Z8 | apply Z9 | apply Za | apply Zb | apply Zc | apply Zd | apply Ze | apply Zf | apply Zg | apply Zh | apply Zi | apply Zj | apply Zk | apply Zl | apply Zm | apply Zn | apply Zo | apply Zp | apply Zq | apply Zr) | ((with_reducible apply s_ld hS); (focus (repeat (first | exact Has.hd | apply Has.tl)); done); (focus rfl)) | ((with_reducible first | apply s_add1 | apply s_addn | apply s_add | apply s_remn | apply s_sub); (focus omega)) | ((with_reducible apply s_st hS); (focus (repeat (first | exact Upd.hd | apply Upd.tl)); done); (focus rfl); (focus (first | rfl | assumption)); clear hS; intro w hS; simp only [List.set] at hS) | ((with_reducible refine s_draw hS ?_); clear hS; intro w hS) | ((with_reducible refine s_new hS ?_); clear hS; intro b w hS) | ((with_reducible apply s_stN0 hS); (focus (repeat (first | exact Upd.hd | apply Upd.tl)); done); (focus rfl); (focus rfl); (focus (simp [Value.oneCell']; done)); clear hS; intro w hS) | ((with_reducible apply s_ldN0 hS); (focus (repeat (first | exact Has.hd | apply Has.tl)); done); (focus rfl)) | ((with_reducible apply s_bld); (focus (simp [fillL, Value.cells]; rfl))) | ((with_reducible apply s_bldS hS); (focus (simp [fillL, Value.cells, zrow]; rfl)); clear hS; intro b w hS) | (with_reducible first | apply Zs | apply Zt | apply Zu)))
        refine ⟨⟨i + 1, u2, S ++ [(foldR 0 (ts.take a))[i]], by simp, by omega, by simp; omega, ?_, SL.into hS (by ((try simp only [app]); repeat (first | (with_reducible exact Into.refl) | ((with_reducible apply Into.cons); (focus ((repeat (first | (with_reducible exact Rem.hd) | (with_reducible apply Rem.tl))); done))) | (with_reducible apply Into.drop))))⟩, by dsimp only; omega⟩
        rw [htk]
        exact List.Sublist.append hsub (List.Sublist.refl _)
      · (repeat (first | (with_reducible first | apply Z0 | apply Z1 | apply Z2 | apply Z3 | apply Z4 | apply Z5 | apply Z6 | apply Z7 | apply Z8 | apply Z9 | apply Za | apply Zb | apply Zc | apply Zd | apply Ze | apply Zf | apply Zg | apply Zh | apply Zi | apply Zj | apply Zk | apply Zl | apply Zm | apply Zn | apply Zo | apply Zp | apply Zq | apply Zr) | ((with_reducible apply s_ld hS); (focus (repeat (first | exact Has.hd | apply Has.tl)); done); (focus rfl)) | ((with_reducible first | apply s_add1 | apply s_addn | apply s_add | apply s_remn | apply s_sub); (focus omega)) | ((with_reducible apply s_st hS); (focus (repeat (first | exact Upd.hd | apply Upd.tl)); done); (focus rfl); (focus (first | rfl | assumption)); clear hS; intro w hS; simp only [List.set] at hS) | ((with_reducible refine s_draw hS ?_); clear hS; intro w hS) | ((with_reducible refine s_new hS ?_); clear hS; intro b w hS) | ((with_reducible apply s_stN0 hS); (focus (repeat (first | exact Upd.hd | apply Upd.tl)); done); (focus rfl); (focus rfl); (focus (simp [Value.oneCell']; done)); clear hS; intro w hS) | ((with_reducible apply s_ldN0 hS); (focus (repeat (first | exact Has.hd | apply Has.tl)); done); (focus rfl)) | ((with_reducible apply s_bld); (focus (simp [fillL, Value.cells]; rfl))) | ((with_reducible apply s_bldS hS); (focus (simp [fillL, Value.cells, zrow]; rfl)); clear hS; intro b w hS) | (with_reducible first | apply Zs | apply Zt | apply Zu)))
        exact ⟨⟨i + 1, v16, S, by simp, by omega, by omega, hsub1, hS⟩, by dsimp only; omega⟩
    · (repeat (first | (with_reducible first | apply Z0 | apply Z1 | apply Z2 | apply Z3 | apply Z4 | apply Z5 | apply Z6 | apply Z7 | apply Z8 | apply Z9 | apply Za | apply Zb | apply Zc | apply Zd | apply Ze | apply Zf | apply Zg | apply Zh | apply Zi | apply Zj | apply Zk | apply Zl | apply Zm | apply Zn | apply Zo | apply Zp | apply Zq | apply Zr) | ((with_reducible apply s_ld hS); (focus (repeat (first | exact Has.hd | apply Has.tl)); done); (focus rfl)) | ((with_reducible first | apply s_add1 | apply s_addn | apply s_add | apply s_remn | apply s_sub); (focus omega)) | ((with_reducible apply s_st hS); (focus (repeat (first | exact Upd.hd | apply Upd.tl)); done); (focus rfl); (focus (first | rfl | assumption)); clear hS; intro w hS; simp only [List.set] at hS) | ((with_reducible refine s_draw hS ?_); clear hS; intro w hS) | ((with_reducible refine s_new hS ?_); clear hS; intro b w hS) | ((with_reducible apply s_stN0 hS); (focus (repeat (first | exact Upd.hd | apply Upd.tl)); done); (focus rfl); (focus rfl); (focus (simp [Value.oneCell']; done)); clear hS; intro w hS) | ((with_reducible apply s_ldN0 hS); (focus (repeat (first | exact Has.hd | apply Has.tl)); done); (focus rfl)) | ((with_reducible apply s_bld); (focus (simp [fillL, Value.cells]; rfl))) | ((with_reducible apply s_bldS hS); (focus (simp [fillL, Value.cells, zrow]; rfl)); clear hS; intro b w hS) | (with_reducible first | apply Zs | apply Zt | apply Zu)))
      exact ⟨⟨i + 1, v16, S, by simp, by omega, by omega, hsub1, hS⟩, by dsimp only; omega⟩
  · have hie : i = (foldR 0 (ts.take a)).length := by omega
    subst hie
    rw [List.take_length] at hsub
    obtain ⟨H6, h56, hSR, hS⟩ := s_freeze (H := H5) (v := v16) (n := S.length) (sz := 2) (t := 69) (cells := (S.map encRow).flatten) hS (by (repeat (first | (with_reducible exact Pick.nil) | ((with_reducible apply Pick.cons); (focus ((repeat (first | (with_reducible exact Rem.hd) | (with_reducible apply Rem.tl))); done))))))
    have h26 : H2.le H6 := Heap.le_trans h24 (Heap.le_trans h45 h56)
    have hx6 := hx.mono h26
    (repeat (first | (with_reducible first | apply Z0 | apply Z1 | apply Z2 | apply Z3 | apply Z4 | apply Z5 | apply Z6 | apply Z7 | apply Z8 | apply Z9 | apply Za | apply Zb | apply Zc | apply Zd | apply Ze | apply Zf | apply Zg | apply Zh | apply Zi | apply Zj | apply Zk | apply Zl | apply Zm | apply Zn | apply Zo | apply Zp | apply Zq | apply Zr) | ((with_reducible apply s_ld hS); (focus (repeat (first | exact Has.hd | apply Has.tl)); done); (focus rfl)) | ((with_reducible first | apply s_add1 | apply s_addn | apply s_add | apply s_remn | apply s_sub); (focus omega)) | ((with_reducible apply s_st hS); (focus (repeat (first | exact Upd.hd | apply Upd.tl)); done); (focus rfl); (focus (first | rfl | assumption)); clear hS; intro w hS; simp only [List.set] at hS) | ((with_reducible refine s_draw hS ?_); clear hS; intro w hS) | ((with_reducible refine s_new hS ?_); clear hS; intro b w hS) | ((with_reducible apply s_stN0 hS); (focus (repeat (first | exact Upd.hd | apply Upd.tl)); done); (focus rfl); (focus rfl); (focus (simp [Value.oneCell']; done)); clear hS; intro w hS) | ((with_reducible apply s_ldN0 hS); (focus (repeat (first | exact Has.hd | apply Has.tl)); done); (focus rfl)) | ((with_reducible apply s_bld); (focus (simp [fillL, Value.cells]; rfl))) | ((with_reducible apply s_bldS hS); (focus (simp [fillL, Value.cells, zrow]; rfl)); clear hS; intro b w hS) | (with_reducible first | apply Zs | apply Zt | apply Zu)))
    have hS := OwnSl.full (n := 0) (sz := 2) rfl hS
    refine s_app (n := 0) (m := (foldR 0 (ts.take k)).length) hS .hd (src_rd hS (by (repeat (first | exact Has.hd | apply Has.tl))) hx6) (flat_len encRow_len _) rfl (encRow_one' _) (by omega) (by omega) ?_
    clear hS; intro o1 w hS
    rw [Nat.zero_add, List.nil_append] at hS
    (repeat (first | (with_reducible first | apply Z0 | apply Z1 | apply Z2 | apply Z3 | apply Z4 | apply Z5 | apply Z6 | apply Z7 | apply Z8 | apply Z9 | apply Za | apply Zb | apply Zc | apply Zd | apply Ze | apply Zf | apply Zg | apply Zh | apply Zi | apply Zj | apply Zk | apply Zl | apply Zm | apply Zn | apply Zo | apply Zp | apply Zq | apply Zr) | ((with_reducible apply s_ld hS); (focus (repeat (first | exact Has.hd | apply Has.tl)); done); (focus rfl)) | ((with_reducible first | apply s_add1 | apply s_addn | apply s_add | apply s_remn | apply s_sub); (focus omega)) | ((with_reducible apply s_st hS); (focus (repeat (first | exact Upd.hd | apply Upd.tl)); done); (focus rfl); (focus (first | rfl | assumption)); clear hS; intro w hS; simp only [List.set] at hS) | ((with_reducible refine s_draw hS ?_); clear hS; intro w hS) | ((with_reducible refine s_new hS ?_); clear hS; intro b w hS) | ((with_reducible apply s_stN0 hS); (focus (repeat (first | exact Upd.hd | apply Upd.tl)); done); (focus rfl); (focus rfl); (focus (simp [Value.oneCell']; done)); clear hS; intro w hS) | ((with_reducible apply s_ldN0 hS); (focus (repeat (first | exact Has.hd | apply Has.tl)); done); (focus rfl)) | ((with_reducible apply s_bld); (focus (simp [fillL, Value.cells]; rfl))) | ((with_reducible apply s_bldS hS); (focus (simp [fillL, Value.cells, zrow]; rfl)); clear hS; intro b w hS) | (with_reducible first | apply Zs | apply Zt | apply Zu)))
    refine s_app (n := (foldR 0 (ts.take k)).length) (m := 1) (cells := ((foldR 0 (ts.take k)).map encRow).flatten) hS (by repeat (first | exact Rem.hd | apply Rem.tl)) (src_pt0 (cs := encRow ⟨1099511627777, ⟨#[]⟩⟩) hS .hd rfl) rfl rfl (by simp [encRow, Value.oneCell']) (by omega) (by omega) ?_
    clear hS; intro o2 w hS
    rw [← flat_snoc, show (foldR 0 (ts.take k)).length + 1 = (foldR 0 (ts.take k) ++ [(⟨1099511627777, ⟨#[]⟩⟩ : Row)]).length by simp] at hS
    obtain ⟨H7, h67, hOR, hS⟩ := s_freeze (H := H6) (v := o2) (n := (foldR 0 (ts.take k) ++ [(⟨1099511627777, ⟨#[]⟩⟩ : Row)]).length) (sz := 2) (t := 69) (cells := ((foldR 0 (ts.take k) ++ [(⟨1099511627777, ⟨#[]⟩⟩ : Row)]).map encRow).flatten) hS (by (repeat (first | (with_reducible exact Pick.nil) | ((with_reducible apply Pick.cons); (focus ((repeat (first | (with_reducible exact Rem.hd) | (with_reducible apply Rem.tl))); done))))))
    have hSx : SL W (.mem H7 :: F) w := SL.into hS (by ((try simp only [app]); repeat (first | (with_reducible exact Into.refl) | ((with_reducible apply Into.cons); (focus ((repeat (first | (with_reducible exact Rem.hd) | (with_reducible apply Rem.tl))); done))) | (with_reducible apply Into.drop))))
    have h27 := Heap.le_trans h26 h67
    have h47 := Heap.le_trans h45 (Heap.le_trans h56 h67)
    have h07 : H.le H7 := Heap.le_trans h01 (Heap.le_trans h12 h27)
    have hQ' : RdRq H4 _ [reqQ a] := hQ
    have hD' : RdRq H3 _ [reqD a] := hD
    have hW : WB H7 xv fv o2 v16 _ _ ts (foldR 0 (ts.take k)) (foldR 0 (ts.take k) ++ [(⟨1099511627777, ⟨#[]⟩⟩ : Row)]) S a :=
      ⟨hT2.mono h27, hx.mono h27, hOR, hSR.mono h67, RdSl.mono h47 hQ', RdSl.mono (Heap.le_trans h34 h47) hD'⟩
    have hkeys := hT.keys
    have hSk : S.length ≤ 1000 := by have := hsub.length_le; omega
    clear hx hx6 hg hf hf2 hT hT2 hT4 hts hSR hOR hQ hD hQ' hD' hp5 hp
    generalize hGG : foldR 0 (ts.take k) = G at *
    have hS := hSx
    clear hSx
    have hGne : G ++ [(⟨1099511627777, ⟨#[]⟩⟩ : Row)] ≠ G := fun e => by have := congrArg List.length e; simp at this
    have hOl : (G ++ [(⟨1099511627777, ⟨#[]⟩⟩ : Row)]).length ≤ 1000 := by simp; omega
    have hk0 : (0 : Int) ≤ (k : Int) := by omega
    have hkl : (k : Int) ≤ (ts.length : Int) := by omega
    have hsD : standsR 1 [reqD a] 0 = 2 := by rw [stQ]; rfl
    have hsQ : standsR 1 [reqQ a] 0 = 1 := by rw [stQ]; rfl
    have hlQ : lastR 0 [reqQ a] = (a : Int) := rfl
    have hnq : ∀ Hx, RdRq Hx (.slice none 0 0) [] := fun Hx => RdSl.nil Hx 7
    have hnr : ∀ Hx, RdSl Hx 2 (.slice none 0 0) ([] : List Row).length (([] : List Row).map encRow).flatten := fun Hx => RdSl.nil Hx 2
    have hGk : G = foldR 0 (ts.take (heldN (k : Int) ts.length)) := by rw [hheldk]; exact hGG.symm
    refine s_table hW.tx (hnq H7) (by simp) hW.f (by omega) hS true (iffT (tabTwo st0 hk0 hkl hGk)) ?_
    clear hS; intro H8 w h78 hS
    have hW := hW.mono h78
    refine s_not (s_iff ?_)
    refine s_table hW.tx hW.d (by simp) hW.f (by omega) hS true (iffT (tabTwo hsD hk0 hkl hGk)) ?_
    clear hS; intro H9 w h89 hS
    have hW := hW.mono h89
    refine s_not (s_iff ?_)
    refine s_table hW.tx hW.d (by simp) hW.o (by omega) hS false (iffF fun hp => hGne ((hp.2.2.1 hsD).trans hGk.symm)) ?_
    clear hS; intro H10 w h910 hS
    have hW := hW.mono h910
    refine s_iff ?_
    refine s_table hW.tx (hnq H10) (by simp) hW.o (by omega) hS false (iffF fun hp => hGne ((hp.2.2.1 st0).trans hGk.symm)) ?_
    clear hS; intro H11 w h1011 hS
    have hW := hW.mono h1011
    refine s_iff ?_
    (apply s_call (awake32_spec H11) hS; (focus (repeat (first | (with_reducible exact Pick.nil) | ((with_reducible apply Pick.cons); (focus ((repeat (first | (with_reducible exact Rem.hd) | (with_reducible apply Rem.tl))); done)))))); clear hS)
    rintro _ post ⟨H12, h1112, rfl, rfl⟩ w hS
    (try simp only [app] at hS)
    have hW := hW.mono h1112
    refine s_ift ?_
    refine s_table hW.tx hW.q (by simp) hW.s (by omega) hS true (iffT (tabOne hsQ hk0 hkl (by rw [hlQ]; exact under_of hkeys (by rw [hhelda]; exact Nat.le_refl _) (by rw [hheldk]; exact ha2) hsub))) ?_
    clear hS; intro H13 w h1213 hS
    have hW := hW.mono h1213
    refine s_ift ?_
    refine s_table hW.tx hW.q (by simp) hW.f (by omega) hS true (iffT (tabOne hsQ hk0 hkl (by rw [hlQ]; exact under_of (i := k) hkeys (by rw [hhelda]; exact ha2) (by rw [hheldk]; exact Nat.le_refl _) (by rw [hGG]; exact List.Sublist.refl _)))) ?_
    clear hS; intro H14 w h1314 hS
    have hW := hW.mono h1314
    refine s_ift ?_
    refine s_table hW.tx hW.q (by simp) hW.o (by omega) hS false (iffF fun hp => by
      have hU := hp.2.2.2.1 hsQ
      have hlast := (hU G.length (by simp)).2
      rw [List.getElem_append_right (by omega)] at hlast
      simp only [Nat.sub_self, List.getElem_cons_zero] at hlast
      exact not_betw htok (by decide) hlast) ?_
    clear hS; intro H15 w h1415 hS
    have hW := hW.mono h1415
    refine s_not (s_ift ?_)
    have hz1 : standsR 1 [] 0 = 0 := st1
    refine s_table hW.tx (hnq H15) (by simp) (hnr H15) (by simp) hS true (iffT (tabZero hz1 hk0 hkl rfl)) ?_
    clear hS; intro H16 w h1516 hS
    have hW := hW.mono h1516
    refine s_ift ?_
    have h016 : H.le H16 := Heap.le_trans h07 (Heap.le_trans h78 (Heap.le_trans h89 (Heap.le_trans h910 (Heap.le_trans h1011 (Heap.le_trans h1112 (Heap.le_trans h1213 (Heap.le_trans h1314 (Heap.le_trans h1415 h1516))))))))
    have htail : ∀ H17 w, H16.le H17 → TxOk H17 xv ts → SL W (.mem H17 :: F) w →
        HCall Try.prog 41 [xv, .int .i64 ((ts.length + 1 : Nat) : Int), .int .i64 1, .slice none 0 0, .int .i64 0, .slice none 0 0] w fun v151 w_25 => HNot v151 fun v152 => HIf v152
          (HCall Try.prog 41 [xv, .int .i64 (-1), .int .i64 1, .slice none 0 0, .int .i64 0, .slice none 0 0] w_25 fun v156 w_26 => HNot v156 fun v157 =>
            ∃ post, (v157 = .bool true ∧ ∃ H' l, H.le H' ∧ post = .mem H' :: l) ∧ SL W (app post F) w_26)
          (∃ post, ((.bool false : Value) = .bool true ∧ ∃ H' l, H.le H' ∧ post = .mem H' :: l) ∧ SL W (app post F) w_25) := fun H17 w h1617 hT17 hS => by
      refine s_table hT17 (hnq H17) (by simp) (hnr H17) (by simp) hS false (iffF fun hp => by have := hp.2.1; omega) ?_
      clear hS; intro H18 w h1718 hS
      refine s_not (s_ift ?_)
      refine s_table (hT17.mono h1718) (hnq H18) (by simp) (hnr H18) (by simp) hS false (iffF fun hp => by have := hp.1; omega) ?_
      clear hS; intro H19 w h1819 hS
      refine s_not ?_
      exact ⟨_, ⟨rfl, H19, [], Heap.le_trans h016 (Heap.le_trans h1617 (Heap.le_trans h1718 h1819)), rfl⟩, hS⟩
    refine s_lenR hW.f ?_
    (repeat (first | (with_reducible first | apply Z0 | apply Z1 | apply Z2 | apply Z3 | apply Z4 | apply Z5 | apply Z6 | apply Z7 | apply Z8 | apply Z9 | apply Za | apply Zb | apply Zc | apply Zd | apply Ze | apply Zf | apply Zg | apply Zh | apply Zi | apply Zj | apply Zk | apply Zl | apply Zm | apply Zn | apply Zo | apply Zp | apply Zq | apply Zr) | ((with_reducible apply s_ld hS); (focus (repeat (first | exact Has.hd | apply Has.tl)); done); (focus rfl)) | ((with_reducible first | apply s_add1 | apply s_addn | apply s_add | apply s_remn | apply s_sub); (focus omega)) | ((with_reducible apply s_st hS); (focus (repeat (first | exact Upd.hd | apply Upd.tl)); done); (focus rfl); (focus (first | rfl | assumption)); clear hS; intro w hS; simp only [List.set] at hS) | ((with_reducible refine s_draw hS ?_); clear hS; intro w hS) | ((with_reducible refine s_new hS ?_); clear hS; intro b w hS) | ((with_reducible apply s_stN0 hS); (focus (repeat (first | exact Upd.hd | apply Upd.tl)); done); (focus rfl); (focus rfl); (focus (simp [Value.oneCell']; done)); clear hS; intro w hS) | ((with_reducible apply s_ldN0 hS); (focus (repeat (first | exact Has.hd | apply Has.tl)); done); (focus rfl)) | ((with_reducible apply s_bld); (focus (simp [fillL, Value.cells]; rfl))) | ((with_reducible apply s_bldS hS); (focus (simp [fillL, Value.cells, zrow]; rfl)); clear hS; intro b w hS) | (with_reducible first | apply Zs | apply Zt | apply Zu)))
    refine s_ifp (fun hG0 => ?_) (fun hG0 => ?_)
    · (repeat (first | (with_reducible first | apply Z0 | apply Z1 | apply Z2 | apply Z3 | apply Z4 | apply Z5 | apply Z6 | apply Z7 | apply Z8 | apply Z9 | apply Za | apply Zb | apply Zc | apply Zd | apply Ze | apply Zf | apply Zg | apply Zh | apply Zi | apply Zj | apply Zk | apply Zl | apply Zm | apply Zn | apply Zo | apply Zp | apply Zq | apply Zr) | ((with_reducible apply s_ld hS); (focus (repeat (first | exact Has.hd | apply Has.tl)); done); (focus rfl)) | ((with_reducible first | apply s_add1 | apply s_addn | apply s_add | apply s_remn | apply s_sub); (focus omega)) | ((with_reducible apply s_st hS); (focus (repeat (first | exact Upd.hd | apply Upd.tl)); done); (focus rfl); (focus (first | rfl | assumption)); clear hS; intro w hS; simp only [List.set] at hS) | ((with_reducible refine s_draw hS ?_); clear hS; intro w hS) | ((with_reducible refine s_new hS ?_); clear hS; intro b w hS) | ((with_reducible apply s_stN0 hS); (focus (repeat (first | exact Upd.hd | apply Upd.tl)); done); (focus rfl); (focus rfl); (focus (simp [Value.oneCell']; done)); clear hS; intro w hS) | ((with_reducible apply s_ldN0 hS); (focus (repeat (first | exact Has.hd | apply Has.tl)); done); (focus rfl)) | ((with_reducible apply s_bld); (focus (simp [fillL, Value.cells]; rfl))) | ((with_reducible apply s_bldS hS); (focus (simp [fillL, Value.cells, zrow]; rfl)); clear hS; intro b w hS) | (with_reducible first | apply Zs | apply Zt | apply Zu)))
      exact htail H16 w (Heap.le_refl _) hW.tx hS
    · refine s_table hW.tx (hnq H16) (by simp) hW.f (by omega) hS false (iffF fun hp => by
        have := hp.2.2.2.2 hz1
        rw [this] at hG0; exact hG0 rfl) ?_
      clear hS; intro H17 w h1617 hS
      refine s_not (s_ift ?_)
      (repeat (first | (with_reducible first | apply Z0 | apply Z1 | apply Z2 | apply Z3 | apply Z4 | apply Z5 | apply Z6 | apply Z7 | apply Z8 | apply Z9 | apply Za | apply Zb | apply Zc | apply Zd | apply Ze | apply Zf | apply Zg | apply Zh | apply Zi | apply Zj | apply Zk | apply Zl | apply Zm | apply Zn | apply Zo | apply Zp | apply Zq | apply Zr) | ((with_reducible apply s_ld hS); (focus (repeat (first | exact Has.hd | apply Has.tl)); done); (focus rfl)) | ((with_reducible first | apply s_add1 | apply s_addn | apply s_add | apply s_remn | apply s_sub); (focus omega)) | ((with_reducible apply s_st hS); (focus (repeat (first | exact Upd.hd | apply Upd.tl)); done); (focus rfl); (focus (first | rfl | assumption)); clear hS; intro w hS; simp only [List.set] at hS) | ((with_reducible refine s_draw hS ?_); clear hS; intro w hS) | ((with_reducible refine s_new hS ?_); clear hS; intro b w hS) | ((with_reducible apply s_stN0 hS); (focus (repeat (first | exact Upd.hd | apply Upd.tl)); done); (focus rfl); (focus rfl); (focus (simp [Value.oneCell']; done)); clear hS; intro w hS) | ((with_reducible apply s_ldN0 hS); (focus (repeat (first | exact Has.hd | apply Has.tl)); done); (focus rfl)) | ((with_reducible apply s_bld); (focus (simp [fillL, Value.cells]; rfl))) | ((with_reducible apply s_bldS hS); (focus (simp [fillL, Value.cells, zrow]; rfl)); clear hS; intro b w hS) | (with_reducible first | apply Zs | apply Zt | apply Zu)))
      exact htail H17 w h1617 (hW.tx.mono h1617) hS
theorem RdS.bools {w : World} {l : List Bool} {v : Value} (h : RdS tBool w Nob l v) : RdSl (Heap.of w) 1 v l.length (l.map Value.bool) := by
  have h2 := h.flat (enc := fun x => [.bool x]) (fun h => h) (fun _ => rfl)
  have e : ∀ l : List Bool, (l.map fun x => [Value.bool x]).flatten = l.map Value.bool := by
    intro l
    induction l with
    | nil => rfl
    | cons x l ih => simp only [List.map_cons, List.flatten_cons, ih]; rfl
  rw [e] at h2
  exact h2
theorem auditWhole_law (l : List TxnD) (lsn from_ : Int) (pick : List Bool) (hok : ∀ t ∈ l, okTxn t) (lv pv : Value) (w : World) (hl : RdS tTxn w Nob l lv) (hp : RdS tBool w Nob pick pv) (nl : l.length ≤ 140737488351232) (np : pick.length ≤ 140737488351232) :
    Calls Try.prog 10 #[lv, .int .i64 lsn, .int .i64 from_, pv] w fun e w' => e = .returned (.bool true) ∧ Below w.heap.size w w' :=
  (law_of_spec (auditWhole_spec (Heap.of w) lv pv l lsn from_ pick (RdTx.of hl) nl hok hp.bools np)).calls
end Go.Proofs.Ythjnknpgcmmapaa
