/-
  The program's plain records as rows of values.
-/
import Derived.Test.YthjnknpgcmmapaaSl4
namespace Go.Proofs.Ythjnknpgcmmapaa
set_option linter.unusedVariables false
open Go.RowKit

abbrev KI : Int → Value := Value.int .i64
structure Cell where
  key : Int
  lsn : Int
  gone : Bool
  val : ByteArray
deriving DecidableEq
structure Row where
  key : Int
  val : ByteArray
deriving DecidableEq
structure AOp where
  lsn : Int
  table : Int
  key : Int
  gone : Bool
  val : ByteArray
deriving DecidableEq
def encCell (c : Cell) : List Value := [.int .i64 c.key, .int .i64 c.lsn, .bool c.gone, .string c.val]
def encRow (c : Row) : List Value := [.int .i64 c.key, .string c.val]
def encOp (o : AOp) : List Value := [.int .i64 o.lsn, .int .i64 o.table, .int .i64 o.key, .bool o.gone, .string o.val]
theorem encCell_len (c : Cell) : (encCell c).length = 4 := rfl
theorem encRow_len (c : Row) : (encRow c).length = 2 := rfl
theorem encOp_len (o : AOp) : (encOp o).length = 5 := rfl
theorem encCell_one (c : Cell) : ∀ v ∈ encCell c, v.oneCell' = true := by simp [encCell, Value.oneCell']
theorem encRow_one (c : Row) : ∀ v ∈ encRow c, v.oneCell' = true := by simp [encRow, Value.oneCell']
theorem encOp_one (o : AOp) : ∀ v ∈ encOp o, v.oneCell' = true := by simp [encOp, Value.oneCell']
/-- A value of a record. -/
abbrev agg (l : List Value) : Value := .agg l.toArray
def cellV (c : Cell) : Value := agg (encCell c)
theorem fill_cell (c : Cell) (z : List Value) (hz : z.length = 4) : fillL (zrow z 1) [(0, 4, cellV c)] = some (encCell c) := by
  simp [fillL, zrow, cellV, Value.cells, encCell, hz]
theorem fill_row (c : Row) (z : List Value) (hz : z.length = 2) : fillL (zrow z 1) [(0, 2, agg (encRow c))] = some (encRow c) := by
  simp [fillL, zrow, Value.cells, encRow, hz]
theorem flat_snoc {α : Type} (enc : α → List Value) (xs : List α) (x : α) : ((xs ++ [x]).map enc).flatten = (xs.map enc).flatten ++ enc x := by simp
theorem flat_take {α : Type} (enc : α → List Value) (xs : List α) (k : Nat) (h : k < xs.length) : ((xs.take (k + 1)).map enc).flatten = ((xs.take k).map enc).flatten ++ enc xs[k] := by
  rw [List.take_succ_eq_append_getElem h, flat_snoc]

section
variable {W w : World} {l : List Chunk} {P : Program}
/-- Two records held against each other, cell by cell. -/
theorem s_eqG {t : TypeId} {xs ys : List Value} {p : Prop} [Decidable p] {K : Value → Prop} (h : (Op.equal t (agg xs) (agg ys)).run P w = .ok (decide p) w) (hK : K (.bool (decide p))) : HEqG P t false (agg xs) (agg ys) w K :=
  ⟨_, _, _, rfl, rfl, h, hK⟩
theorem fieldsOf_of {t : TypeId} {fs : Array Field} (h : P.underlying t = some (.struct fs)) : P.fieldsOf t = fs := by unfold Program.fieldsOf; rw [h]
theorem run_eqG {t : TypeId} {fs : Array Field} {xs ys : List Value} {b : Bool} (h : P.underlying t = some (.struct fs)) (hp : P.stoodInHeld t = false) (he : (Op.eqFields 9999 xs.toArray ys.toArray fs.toList).run P w = .ok b w) : (Op.equal t (agg xs) (agg ys)).run P w = .ok b w := by
  have hf := fieldsOf_of h
  unfold Op.equal Op.maxDepth
  rw [run_equalIn_agg w 9999 t _ _ (by rw [hf]; exact h) hp, hf]; exact he
theorem beq_str (a b : ByteArray) : (a.toList == b.toList) = decide (a = b) := by
  rw [← beq_toListBytes]
  by_cases h : a = b
  · subst h; simp [(MapKept.bytes_beq a a).2 rfl]
  · simp only [h, decide_false]
    cases hb : a == b with
    | false => rfl
    | true => exact absurd ((MapKept.bytes_beq a b).1 hb) h
theorem toList_inj (a b : ByteArray) : (a.toList = b.toList) = (a = b) := by
  have := beq_str a b
  by_cases h : a = b
  · subst h; simp
  · simp only [h, decide_false, beq_eq_false_iff_ne] at this
    simp [h, this]
theorem flat_len {α : Type} {enc : α → List Value} {n : Nat} (hn : ∀ x, (enc x).length = n) (xs : List α) : ((xs.map enc).flatten).length = xs.length * n := by
  induction xs with
  | nil => simp
  | cons x xs ih => simp [hn, ih, Nat.add_mul]; omega
theorem flat_at {α : Type} {enc : α → List Value} {n : Nat} (hn : ∀ x, (enc x).length = n) : ∀ (xs : List α) (j i : Nat) (x : α) (u : Value), xs[j]? = some x → (enc x)[i]? = some u → ((xs.map enc).flatten)[j * n + i]? = some u
  | [], j, i, x, u, h, _ => by simp at h
  | y :: xs, 0, i, x, u, h, hu => by
    simp at h; subst h
    have : i < (enc y).length := (List.getElem?_eq_some_iff.1 hu).1
    simp only [List.map_cons, List.flatten_cons, Nat.zero_mul, Nat.zero_add]
    rw [List.getElem?_append_left this]; exact hu
  | y :: xs, j + 1, i, x, u, h, hu => by
    have ih := flat_at hn xs j i x u (by simpa using h) hu
    simp only [List.map_cons, List.flatten_cons]
    rw [List.getElem?_append_right (by rw [hn, Nat.add_mul]; omega), hn]
    rw [show (j + 1) * n + i - n = j * n + i by rw [Nat.add_mul]; omega]; exact ih
theorem flat_take_n {α : Type} {enc : α → List Value} {n : Nat} (hn : ∀ x, (enc x).length = n) : ∀ (xs : List α) (k : Nat), (xs.map enc).flatten.take (k * n) = ((xs.take k).map enc).flatten
  | [], k => by simp
  | x :: xs, 0 => by simp
  | x :: xs, k + 1 => by
    have e : (k + 1) * n = (enc x).length + k * n := by rw [hn, Nat.add_mul, Nat.one_mul, Nat.add_comm]
    simp only [List.map_cons, List.flatten_cons, List.take_succ_cons]
    rw [e, List.take_length_add_append, flat_take_n hn xs k]
theorem flat_drop_n {α : Type} {enc : α → List Value} {n : Nat} (hn : ∀ x, (enc x).length = n) : ∀ (xs : List α) (k : Nat), (xs.map enc).flatten.drop (k * n) = ((xs.drop k).map enc).flatten
  | [], k => by simp
  | x :: xs, 0 => by simp
  | x :: xs, k + 1 => by
    have e : (k + 1) * n = (enc x).length + k * n := by rw [hn, Nat.add_mul, Nat.one_mul, Nat.add_comm]
    simp only [List.map_cons, List.flatten_cons, List.drop_succ_cons]
    rw [e, List.drop_length_add_append, flat_drop_n hn xs k]
theorem recs_one {α : Type} {enc : α → List Value} (h1 : ∀ x, ∀ v ∈ enc x, v.oneCell' = true) (xs : List α) : ∀ v ∈ (xs.map enc).flatten, v.oneCell' = true := by
  intro v hv
  obtain ⟨l, hl, hv⟩ := List.mem_flatten.1 hv
  obtain ⟨x, _, rfl⟩ := List.mem_map.1 hl
  exact h1 x v hv
/-- One element of a row of records is read, whole. -/
theorem s_getN {H : Heap} {α : Type} {enc : α → List Value} {v : Value} {n sz j : Nat} {k : IntKind} {xs : List α} {x : α} {K : Value → Prop} (hS : SL W l w) (hm : Has (.mem H) l) (hn : ∀ x, (enc x).length = sz) (h : RdSl H sz v n (xs.map enc).flatten) (hx : xs[j]? = some x) (hj : j < n) (hK : K (agg (enc x))) :
    HIdx sz v (.int k (j : Int)) fun p => HLdN sz p w K :=
  s_idxR h hj fun b o hb => s_ldNm hS hm (hn x) (fun i u hu => hb i u (by have := (List.getElem?_eq_some_iff.1 hu).1; rw [hn] at this; exact this) (flat_at hn xs j i x u hx hu)) hK
/-- One field of one element. -/
theorem s_getF {H : Heap} {α : Type} {enc : α → List Value} {v u : Value} {n sz j i : Nat} {k : IntKind} {xs : List α} {x : α} {K : Value → Prop} (hS : SL W l w) (hm : Has (.mem H) l) (hn : ∀ x, (enc x).length = sz) (h : RdSl H sz v n (xs.map enc).flatten) (hx : xs[j]? = some x) (hj : j < n) (hu : (enc x)[i]? = some u) (hK : K u) :
    HIdx sz v (.int k (j : Int)) fun p => HFld i p fun q => HLd q w K :=
  s_idxR h hj fun b o hb => s_fld (s_ldm hS hm (hb i u (by have := (List.getElem?_eq_some_iff.1 hu).1; rw [hn] at this; exact this) (flat_at hn xs j i x u hx hu)) hK)
end

/-- What Same asks, at elements of sz cells. -/
def VcSame (P : Program) (T : List Bool) (sz : Nat) (v0 : Value) (v1 : Value) (v2 : Value) (w : World) (R : Value → World → Prop) : Prop :=
  HLenS v0 fun v9 =>
  HLenS v1 fun v11 =>
  HBin .neq v9 v11 fun v12 =>
  HIf v12
  (R (.bool false) w)
  (∃ (I : List Value → World → Prop) (μ : List Value → World → Nat), I [(.int .i64 0)] w ∧
  ∀ (v7 : Value) w_1, I [v7] w_1 →
  HLenS v0 fun v15 =>
  HBin .lss v7 v15 fun v16 =>
  HIf v16
  (HDraw w_1 fun w_2 =>
  HIdx sz v0 v7 fun v22 =>
  HLdN sz v22 w_2 fun v23 =>
  HIdx sz v1 v7 fun v26 =>
  HLdN sz v26 w_2 fun v27 =>
  HCallV P T v2 [v23, v27] w_2 fun v28 w_3 =>
  HNot v28 fun v29 =>
  HIf v29
  (R (.bool false) w_3)
  (HBin .add v7 (.int .i64 1) fun v18 =>
  I [v18] w_3 ∧ μ [v18] w_3 < μ [v7] w_1))
  (R (.bool true) w_1))
theorem same_gen {P : Program} {T : List Bool} {f g : FuncId} {sz : Nat} {α : Type} [DecidableEq α] {enc : α → List Value} (hn : ∀ x, (enc x).length = sz) (hT : T.getD g false = true)
    (vc : ∀ v0 v1 v2 w R, VcSame P T sz v0 v1 v2 w R → HCall P f [v0, v1, v2] w R) (one : ∀ a b, Spec P g [agg (enc a), agg (enc b)] [] (Gives (.bool (decide (a = b))) []))
    (H : Heap) (u v : Value) (A B : List α) (hu : RdSl H sz u A.length (A.map enc).flatten) (hv : RdSl H sz v B.length (B.map enc).flatten) (hA : A.length ≤ 9223372036854775806) :
    Spec P f [u, v, .func (.func g) #[] #[]] [.mem H] (Gives (.bool (decide (A = B))) [.mem H]) := by
  intro W F w hS; apply vc; unfold VcSame; (try simp only [app] at hS)
  refine s_lenR hu (s_lenR hv ?_)
  (repeat (first | (with_reducible first | apply Z0 | apply Z1 | apply Z2 | apply Z3 | apply Z4 | apply Z5 | apply Z6 | apply Z7 | apply Z8 | apply Z9 | apply Za | apply Zb | apply Zc | apply Zd | apply Ze | apply Zf | apply Zg | apply Zh | apply Zi | apply Zj | apply Zk | apply Zl | apply Zm | apply Zn | apply Zo | apply Zp | apply Zq | apply Zr) | ((with_reducible apply s_ld hS); (focus (repeat (first | exact Has.hd | apply Has.tl)); done); (focus rfl)) | ((with_reducible first | apply s_add1 | apply s_addn | apply s_add | apply s_remn | apply s_sub); (focus omega)) | ((with_reducible apply s_st hS); (focus (repeat (first | exact Upd.hd | apply Upd.tl)); done); (focus rfl); (focus (first | rfl | assumption)); clear hS; intro w hS; simp only [List.set] at hS) | ((with_reducible refine s_draw hS ?_); clear hS; intro w hS) | ((with_reducible refine s_new hS ?_); clear hS; intro b w hS) | ((with_reducible apply s_stN0 hS); (focus (repeat (first | exact Upd.hd | apply Upd.tl)); done); (focus rfl); (focus rfl); (focus (simp [Value.oneCell']; done)); clear hS; intro w hS) | ((with_reducible apply s_ldN0 hS); (focus (repeat (first | exact Has.hd | apply Has.tl)); done); (focus rfl)) | ((with_reducible apply s_bld); (focus (simp [fillL, Value.cells]; rfl))) | ((with_reducible apply s_bldS hS); (focus (simp [fillL, Value.cells, zrow]; rfl)); clear hS; intro b w hS) | (with_reducible first | apply Zs | apply Zt | apply Zu)))
  refine s_ifp (fun h => ?_) (fun h => ?_)
  · have : A ≠ B := fun e => by subst e; exact h rfl
    simp only [this, decide_false]
    (refine ⟨_, ⟨rfl, rfl⟩, SL.into hS ?_⟩; (focus ((try simp only [app]); repeat (first | (with_reducible exact Into.refl) | ((with_reducible apply Into.cons); (focus ((repeat (first | (with_reducible exact Rem.hd) | (with_reducible apply Rem.tl))); done))) | (with_reducible apply Into.drop)))))
  · have hl : A.length = B.length := by omega
    refine ⟨fun vs w => ∃ k : Nat, vs = [.int .i64 k] ∧ k ≤ A.length ∧ A.take k = B.take k ∧ SL W (.mem H :: F) w, fun vs _ => match vs with | [.int _ k] => (A.length - k).toNat | _ => 0, ⟨0, rfl, by omega, rfl, hS⟩, ?_⟩
    clear hS
    rintro v7 w ⟨k, hv7, hk, htk, hS⟩
    cases hv7
    refine s_lenR hu ?_
    (repeat (first | (with_reducible first | apply Z0 | apply Z1 | apply Z2 | apply Z3 | apply Z4 | apply Z5 | apply Z6 | apply Z7 | apply Z8 | apply Z9 | apply Za | apply Zb | apply Zc | apply Zd | apply Ze | apply Zf | apply Zg | apply Zh | apply Zi | apply Zj | apply Zk | apply Zl | apply Zm | apply Zn | apply Zo | apply Zp | apply Zq | apply Zr) | ((with_reducible apply s_ld hS); (focus (repeat (first | exact Has.hd | apply Has.tl)); done); (focus rfl)) | ((with_reducible first | apply s_add1 | apply s_addn | apply s_add | apply s_remn | apply s_sub); (focus omega)) | ((with_reducible apply s_st hS); (focus (repeat (first | exact Upd.hd | apply Upd.tl)); done); (focus rfl); (focus (first | rfl | assumption)); clear hS; intro w hS; simp only [List.set] at hS) | ((with_reducible refine s_draw hS ?_); clear hS; intro w hS) | ((with_reducible refine s_new hS ?_); clear hS; intro b w hS) | ((with_reducible apply s_stN0 hS); (focus (repeat (first | exact Upd.hd | apply Upd.tl)); done); (focus rfl); (focus rfl); (focus (simp [Value.oneCell']; done)); clear hS; intro w hS) | ((with_reducible apply s_ldN0 hS); (focus (repeat (first | exact Has.hd | apply Has.tl)); done); (focus rfl)) | ((with_reducible apply s_bld); (focus (simp [fillL, Value.cells]; rfl))) | ((with_reducible apply s_bldS hS); (focus (simp [fillL, Value.cells, zrow]; rfl)); clear hS; intro b w hS) | (with_reducible first | apply Zs | apply Zt | apply Zu)))
    refine s_ifp (fun h => ?_) (fun h => ?_)
    · have hk1 : k < A.length := by omega
      have hk2 : k < B.length := by omega
      refine s_draw hS ?_
      clear hS; intro w hS
      refine s_getN hS .hd hn hu (x := A[k]) (by simp [hk1]) hk1 ?_
      refine s_getN hS .hd hn hv (x := B[k]) (by simp [hk2]) hk2 ?_
      refine s_callv (args' := [agg (enc A[k]), agg (enc B[k])]) hT (one A[k] B[k]) rfl hS .nil ?_
      clear hS
      rintro v post ⟨rfl, rfl⟩ w hS
      (try simp only [app] at hS)
      (repeat (first | (with_reducible first | apply Z0 | apply Z1 | apply Z2 | apply Z3 | apply Z4 | apply Z5 | apply Z6 | apply Z7 | apply Z8 | apply Z9 | apply Za | apply Zb | apply Zc | apply Zd | apply Ze | apply Zf | apply Zg | apply Zh | apply Zi | apply Zj | apply Zk | apply Zl | apply Zm | apply Zn | apply Zo | apply Zp | apply Zq | apply Zr) | ((with_reducible apply s_ld hS); (focus (repeat (first | exact Has.hd | apply Has.tl)); done); (focus rfl)) | ((with_reducible first | apply s_add1 | apply s_addn | apply s_add | apply s_remn | apply s_sub); (focus omega)) | ((with_reducible apply s_st hS); (focus (repeat (first | exact Upd.hd | apply Upd.tl)); done); (focus rfl); (focus (first | rfl | assumption)); clear hS; intro w hS; simp only [List.set] at hS) | ((with_reducible refine s_draw hS ?_); clear hS; intro w hS) | ((with_reducible refine s_new hS ?_); clear hS; intro b w hS) | ((with_reducible apply s_stN0 hS); (focus (repeat (first | exact Upd.hd | apply Upd.tl)); done); (focus rfl); (focus rfl); (focus (simp [Value.oneCell']; done)); clear hS; intro w hS) | ((with_reducible apply s_ldN0 hS); (focus (repeat (first | exact Has.hd | apply Has.tl)); done); (focus rfl)) | ((with_reducible apply s_bld); (focus (simp [fillL, Value.cells]; rfl))) | ((with_reducible apply s_bldS hS); (focus (simp [fillL, Value.cells, zrow]; rfl)); clear hS; intro b w hS) | (with_reducible first | apply Zs | apply Zt | apply Zu)))
      refine s_ifn (fun he => ?_) (fun he => ?_)
      · have : A ≠ B := fun e => by subst e; simp at he
        simp only [this, decide_false]
        (refine ⟨_, ⟨rfl, rfl⟩, SL.into hS ?_⟩; (focus ((try simp only [app]); repeat (first | (with_reducible exact Into.refl) | ((with_reducible apply Into.cons); (focus ((repeat (first | (with_reducible exact Rem.hd) | (with_reducible apply Rem.tl))); done))) | (with_reducible apply Into.drop)))))
      · have he' := of_decide_eq_true he
        (repeat (first | (with_reducible first | apply Z0 | apply Z1 | apply Z2 | apply Z3 | apply Z4 | apply Z5 | apply Z6 | apply Z7 | apply Z8 | apply Z9 | apply Za | apply Zb | apply Zc | apply Zd | apply Ze | apply Zf | apply Zg | apply Zh | apply Zi | apply Zj | apply Zk | apply Zl | apply Zm | apply Zn | apply Zo | apply Zp | apply Zq | apply Zr) | ((with_reducible apply s_ld hS); (focus (repeat (first | exact Has.hd | apply Has.tl)); done); (focus rfl)) | ((with_reducible first | apply s_add1 | apply s_addn | apply s_add | apply s_remn | apply s_sub); (focus omega)) | ((with_reducible apply s_st hS); (focus (repeat (first | exact Upd.hd | apply Upd.tl)); done); (focus rfl); (focus (first | rfl | assumption)); clear hS; intro w hS; simp only [List.set] at hS) | ((with_reducible refine s_draw hS ?_); clear hS; intro w hS) | ((with_reducible refine s_new hS ?_); clear hS; intro b w hS) | ((with_reducible apply s_stN0 hS); (focus (repeat (first | exact Upd.hd | apply Upd.tl)); done); (focus rfl); (focus rfl); (focus (simp [Value.oneCell']; done)); clear hS; intro w hS) | ((with_reducible apply s_ldN0 hS); (focus (repeat (first | exact Has.hd | apply Has.tl)); done); (focus rfl)) | ((with_reducible apply s_bld); (focus (simp [fillL, Value.cells]; rfl))) | ((with_reducible apply s_bldS hS); (focus (simp [fillL, Value.cells, zrow]; rfl)); clear hS; intro b w hS) | (with_reducible first | apply Zs | apply Zt | apply Zu)))
        refine ⟨⟨k + 1, by simp, by omega, ?_, hS⟩, by dsimp only; omega⟩
        rw [List.take_succ_eq_append_getElem hk1, List.take_succ_eq_append_getElem hk2, htk, he']
    · have : k = A.length := by omega
      subst this
      have : A = B := by rw [List.take_length, hl, List.take_length] at htk; exact htk
      simp only [this, decide_true]
      (refine ⟨_, ⟨rfl, rfl⟩, SL.into hS ?_⟩; (focus ((try simp only [app]); repeat (first | (with_reducible exact Into.refl) | ((with_reducible apply Into.cons); (focus ((repeat (first | (with_reducible exact Rem.hd) | (with_reducible apply Rem.tl))); done))) | (with_reducible apply Into.drop)))))
end Go.Proofs.Ythjnknpgcmmapaa
