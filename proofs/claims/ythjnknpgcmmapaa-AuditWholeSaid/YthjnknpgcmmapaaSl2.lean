/-
  My own library: the steps of what a call asks, over a memory of pieces.
-/
import Derived.Test.YthjnknpgcmmapaaSl1
namespace Go.Proofs.Ythjnknpgcmmapaa
set_option linter.unusedVariables false
open Go.RowKit

section
variable {W w : World} {l l' : List Chunk}

theorem s_nil {a : Addr} {K : Value → Prop} (h : K (.pointer (some a))) : HNil (.pointer (some a)) K := ⟨a, rfl, h⟩
theorem s_fld {b o off : Nat} {K : Value → Prop} (h : K (.pointer (some ⟨b, o + off, none⟩))) : HFld off (.pointer (some ⟨b, o, none⟩)) K := by
  refine ⟨_, rfl, ?_⟩
  rw [Addr.add_lit]; exact h
theorem s_ld {b o : Nat} {cs : List Value} {t : TypeId} {v : Value} {K : Value → Prop} (hS : SL W l w) (m : Has (.pt b cs t) l) (hv : cs[o]? = some v) (h : K v) : HLd (.pointer (some ⟨b, o, none⟩)) w K :=
  ⟨_, v, rfl, hS.cell m hv, h⟩
theorem s_ldm {H : Heap} {b o : Nat} {v : Value} {K : Value → Prop} (hS : SL W l w) (m : Has (.mem H) l) (hv : H.cell b o = some v) (h : K v) : HLd (.pointer (some ⟨b, o, none⟩)) w K :=
  ⟨_, v, rfl, hS.mcell m hv, h⟩
theorem s_ldN {b o n : Nat} {cs vs : List Value} {t : TypeId} {K : Value → Prop} (hS : SL W l w) (m : Has (.pt b cs t) l) (hn : vs.length = n) (hv : ∀ j v, vs[j]? = some v → cs[o + j]? = some v) (h : K (.agg vs.toArray)) : HLdN n (.pointer (some ⟨b, o, none⟩)) w K :=
  ⟨_, vs, rfl, hn, fun j v e => by rw [Addr.add_lit]; exact hS.cell m (hv j v e), h⟩
theorem s_ldN0 {b n : Nat} {cs : List Value} {t : TypeId} {K : Value → Prop} (hS : SL W l w) (m : Has (.pt b cs t) l) (hn : cs.length = n) (h : K (.agg cs.toArray)) : HLdN n (.pointer (some ⟨b, 0, none⟩)) w K :=
  s_ldN hS m hn (fun j v e => by rw [Nat.zero_add]; exact e) h
theorem s_ldNm {H : Heap} {b o n : Nat} {vs : List Value} {K : Value → Prop} (hS : SL W l w) (m : Has (.mem H) l) (hn : vs.length = n) (hv : ∀ j v, vs[j]? = some v → H.cell b (o + j) = some v) (h : K (.agg vs.toArray)) : HLdN n (.pointer (some ⟨b, o, none⟩)) w K :=
  ⟨_, vs, rfl, hn, fun j v e => by rw [Addr.add_lit]; exact hS.mcell m (hv j v e), h⟩
theorem s_st {b o : Nat} {cs : List Value} {t : TypeId} {v u : Value} {K : World → Prop} (hS : SL W l w) (m : Upd (.pt b cs t) (.pt b (cs.set o v) t) l l') (hu : cs[o]? = some u) (h1 : v.oneCell' = true) (h : ∀ w', SL W l' w' → K w') :
    HSt (.pointer (some ⟨b, o, none⟩)) v w K := by
  have hm : Has (.pt b cs t) l := by
    clear hS h
    generalize hd : Chunk.pt b (cs.set o v) t = d at m
    induction m with
    | hd => exact .hd
    | tl _ ih => exact .tl ih
  exact ⟨_, u, rfl, h1, hS.cell hm hu, hS.frozen hm hu, h _ (hS.store m hu)⟩

/-- The cells vs laid over cs from o on. -/
def over (cs : List Value) (o : Nat) : List Value → List Value
  | [] => cs
  | v :: r => over (cs.set o v) (o + 1) r
theorem Upd.has {c d : Chunk} (u : Upd c d l l') : Has c l := by
  induction u with
  | hd => exact .hd
  | tl _ ih => exact .tl ih
theorem Upd.other {c d : Chunk} (u : Upd c d l l') (e : Chunk) : ∃ l2, Upd c e l l2 ∧ Upd e d l2 l' := by
  induction u with
  | hd => exact ⟨_, .hd, .hd⟩
  | tl _ ih => obtain ⟨l2, p, q⟩ := ih; exact ⟨_, .tl p, .tl q⟩
theorem stN_sl {b : Nat} {t : TypeId} {K : World → Prop} : ∀ (vs : List Value) (o i : Nat) (cs : List Value) (w : World) (l l' : List Chunk), SL W l w → Upd (.pt b cs t) (.pt b (over cs (o + i) vs) t) l l' → o + i + vs.length ≤ cs.length → (∀ v ∈ vs, v.oneCell' = true) →
    (∀ w', SL W l' w' → K w') → stN ⟨b, o, none⟩ i vs w K
  | [], o, i, cs, w, l, l', hS, u, hl, h1, h => by
    refine h w ?_
    simp only [over] at u
    have : l = l' := by
      clear hS h
      generalize hc : Chunk.pt b cs t = c at u
      revert hc
      induction u with
      | hd => intro; rfl
      | tl _ ih => intro hc; rw [ih hc]
    rw [← this]; exact hS
  | v :: r, o, i, cs, w, l, l', hS, u, hl, h1, h => by
    simp only [List.length_cons] at hl
    have hc : cs[o + i]? = some (cs[o + i]'(by omega)) := List.getElem?_eq_getElem (by omega)
    obtain ⟨l2, p, q⟩ := u.other (.pt b (cs.set (o + i) v) t)
    refine ⟨h1 v (by simp), ⟨_, by rw [Addr.add_lit]; exact hS.cell u.has hc⟩, by rw [Addr.add_lit]; exact hS.frozen u.has hc, ?_⟩
    rw [Addr.add_lit]
    exact stN_sl r o (i + 1) _ _ l2 l' (hS.store p hc) (by simpa [over, Nat.add_assoc] using q) (by simp; omega) (fun v hv => h1 v (by simp [hv])) h
theorem over_all : ∀ (vs cs : List Value) (o : Nat), o + vs.length ≤ cs.length → over cs o vs = cs.take o ++ vs ++ cs.drop (o + vs.length)
  | [], cs, o, _ => by simp [over]
  | v :: r, cs, o, h => by
    simp only [List.length_cons] at h
    obtain ⟨A, x, B, rfl, hA⟩ : ∃ A x B, cs = A ++ x :: B ∧ A.length = o := by
      refine ⟨cs.take o, cs[o]'(by omega), cs.drop (o + 1), ?_, by simp; omega⟩
      rw [← List.drop_eq_getElem_cons, List.take_append_drop]
    subst hA
    rw [over, over_all r _ _ (by simp at h ⊢; omega)]
    have e1 : (A ++ x :: B).set A.length v = A ++ v :: B := by simp
    have e2 : (A ++ v :: B).take (A.length + 1) = A ++ [v] := by rw [List.take_length_add_append]; simp
    have e3 : (A ++ v :: B).drop (A.length + 1 + r.length) = B.drop r.length := by rw [show A.length + 1 + r.length = A.length + (r.length + 1) by omega, List.drop_length_add_append]; simp
    have e5 : (A ++ x :: B).drop (A.length + (r.length + 1)) = B.drop r.length := by rw [List.drop_length_add_append]; simp
    simp only [List.length_cons] at *
    rw [e1, e2, e3, e5]
    simp
/-- A whole block written. -/
theorem s_stN0 {b n : Nat} {cs vs : List Value} {t : TypeId} {K : World → Prop} (hS : SL W l w) (m : Upd (.pt b cs t) (.pt b vs t) l l') (hn : vs.length = n) (hc : cs.length = n) (h1 : ∀ v ∈ vs, v.oneCell' = true) (h : ∀ w', SL W l' w' → K w') :
    HStN n (.pointer (some ⟨b, 0, none⟩)) (.agg vs.toArray) w K := by
  refine ⟨_, vs, rfl, rfl, hn, stN_sl (t := t) vs 0 0 cs w l l' hS ?_ (by omega) h1 h⟩
  rw [over_all _ _ _ (by omega)]
  have : cs.drop (0 + 0 + vs.length) = [] := List.drop_eq_nil_of_le (by omega)
  rw [this]; simpa using m
/-- A part of a block written. -/
theorem s_stN {b o n : Nat} {cs vs : List Value} {t : TypeId} {K : World → Prop} (hS : SL W l w) (m : Upd (.pt b cs t) (.pt b (cs.take o ++ vs ++ cs.drop (o + n)) t) l l') (hn : vs.length = n) (hc : o + n ≤ cs.length) (h1 : ∀ v ∈ vs, v.oneCell' = true) (h : ∀ w', SL W l' w' → K w') :
    HStN n (.pointer (some ⟨b, o, none⟩)) (.agg vs.toArray) w K := by
  refine ⟨_, vs, rfl, rfl, hn, stN_sl (t := t) vs o 0 cs w l l' hS ?_ (by omega) h1 h⟩
  rw [Nat.add_zero, over_all _ _ _ (by omega), hn]
  exact m
theorem s_new {cs : List Value} {t : TypeId} {K : Value → World → Prop} (hS : SL W l w) (h : ∀ b w', SL W (.pt b cs t :: l) w' → K (.pointer (some ⟨b, 0, none⟩)) w') : HNew cs t w K := h _ _ hS.new
theorem s_ext {i : Nat} {vs : Array Value} {v : Value} {K : Value → Prop} (hv : vs[i]? = some v) (h : K v) : HExt i (.tuple vs) K := ⟨vs, v, rfl, hv, h⟩
theorem s_ext20 {a b : Value} {K : Value → Prop} (h : K a) : HExt 0 (.tuple #[a, b]) K := ⟨_, a, rfl, rfl, h⟩
theorem s_ext21 {a b : Value} {K : Value → Prop} (h : K b) : HExt 1 (.tuple #[a, b]) K := ⟨_, b, rfl, rfl, h⟩
theorem s_ext30 {a b c : Value} {K : Value → Prop} (h : K a) : HExt 0 (.tuple #[a, b, c]) K := ⟨_, a, rfl, rfl, h⟩
theorem s_ext31 {a b c : Value} {K : Value → Prop} (h : K b) : HExt 1 (.tuple #[a, b, c]) K := ⟨_, b, rfl, rfl, h⟩
theorem s_ext32 {a b c : Value} {K : Value → Prop} (h : K c) : HExt 2 (.tuple #[a, b, c]) K := ⟨_, c, rfl, rfl, h⟩
theorem s_ext40 {a b c d : Value} {K : Value → Prop} (h : K a) : HExt 0 (.tuple #[a, b, c, d]) K := ⟨_, a, rfl, rfl, h⟩
theorem s_ext41 {a b c d : Value} {K : Value → Prop} (h : K b) : HExt 1 (.tuple #[a, b, c, d]) K := ⟨_, b, rfl, rfl, h⟩
theorem s_ext42 {a b c d : Value} {K : Value → Prop} (h : K c) : HExt 2 (.tuple #[a, b, c, d]) K := ⟨_, c, rfl, rfl, h⟩
theorem s_ext43 {a b c d : Value} {K : Value → Prop} (h : K d) : HExt 3 (.tuple #[a, b, c, d]) K := ⟨_, d, rfl, rfl, h⟩
theorem s_lenS {a : Option Addr} {n c : Nat} {K : Value → Prop} (h : K (.int .i64 n)) : HLenS (.slice a n c) K := ⟨a, n, c, rfl, h⟩
theorem s_lenT {s : ByteArray} {K : Value → Prop} (h : K (.int .i64 s.size)) : HLenT (.string s) K := ⟨s, rfl, h⟩
theorem s_idx {b o len cap sz j : Nat} {k : IntKind} {K : Value → Prop} (hj : j < len) (h : K (.pointer (some ⟨b, o + j * sz, none⟩))) : HIdx sz (.slice (some ⟨b, o, none⟩) len cap) (.int k (j : Int)) K :=
  ⟨_, len, cap, k, j, rfl, rfl, hj, by rw [Addr.add_lit]; exact h⟩
theorem s_if {b : Bool} {A B : Prop} (h1 : b = true → A) (h2 : b = false → B) : HIf (.bool b) A B := ⟨b, rfl, h1, h2⟩
theorem s_ifp {p : Prop} [Decidable p] {A B : Prop} (h1 : p → A) (h2 : ¬ p → B) : HIf (.bool (decide p)) A B := ⟨_, rfl, fun e => h1 (of_decide_eq_true e), fun e => h2 (of_decide_eq_false e)⟩
theorem s_ift {A B : Prop} (h : A) : HIf (.bool true) A B := ⟨_, rfl, fun _ => h, fun e => by cases e⟩
theorem s_iff {A B : Prop} (h : B) : HIf (.bool false) A B := ⟨_, rfl, (fun e => (by cases e)), fun _ => h⟩
theorem s_ifn {A B : Prop} {b : Bool} (h1 : b = false → A) (h2 : b = true → B) : HIf (.bool !b) A B := ⟨_, rfl, (fun e => h1 (by simpa using e)), (fun e => h2 (by simpa using e))⟩
/-! Integers. -/
theorem s_add {a b : Int} {K : Value → Prop} (hr : -9223372036854775808 ≤ a + b ∧ a + b ≤ 9223372036854775807) (h : K (.int .i64 (a + b))) : HBin .add (.int .i64 a) (.int .i64 b) K :=
  ⟨_, rfl, by rw [IntWalk.i64_in _ hr]; exact h⟩
theorem s_sub {a b : Int} {K : Value → Prop} (hr : -9223372036854775808 ≤ a - b ∧ a - b ≤ 9223372036854775807) (h : K (.int .i64 (a - b))) : HBin .sub (.int .i64 a) (.int .i64 b) K :=
  ⟨_, rfl, by rw [IntWalk.i64_in _ hr]; exact h⟩
theorem s_mul {a b : Int} {K : Value → Prop} (hr : -9223372036854775808 ≤ a * b ∧ a * b ≤ 9223372036854775807) (h : K (.int .i64 (a * b))) : HBin .mul (.int .i64 a) (.int .i64 b) K :=
  ⟨_, rfl, by rw [IntWalk.i64_in _ hr]; exact h⟩
theorem s_addn {a b : Nat} {K : Value → Prop} (hr : a + b ≤ 9223372036854775807) (h : K (.int .i64 ((a + b : Nat) : Int))) : HBin .add (.int .i64 (a : Int)) (.int .i64 (b : Int)) K :=
  s_add (by omega) (by rw [show (a : Int) + (b : Int) = ((a + b : Nat) : Int) by omega]; exact h)
theorem s_add1 {a : Nat} {K : Value → Prop} (hr : a + 1 ≤ 9223372036854775807) (h : K (.int .i64 ((a + 1 : Nat) : Int))) : HBin .add (.int .i64 (a : Int)) (.int .i64 1) K :=
  s_add (by omega) (by rw [show (a : Int) + 1 = ((a + 1 : Nat) : Int) by omega]; exact h)
theorem s_rem {k : IntKind} {a b : Int} {K : Value → Prop} (hb : b ≠ 0) (h : K (.int k (a.tmod b))) : HBin .rem (.int k a) (.int k b) K :=
  ⟨.int k (a.tmod b), by simp [binVal, hb], h⟩
theorem s_quo {a b : Int} {K : Value → Prop} (hb : b ≠ 0) (hr : -9223372036854775808 ≤ a.tdiv b ∧ a.tdiv b ≤ 9223372036854775807) (h : K (.int .i64 (a.tdiv b))) : HBin .quo (.int .i64 a) (.int .i64 b) K :=
  ⟨.int .i64 (a.tdiv b), by simp [binVal, hb, IntWalk.i64_in _ hr], h⟩
theorem s_remn {k : IntKind} {a b : Nat} {K : Value → Prop} (hb : 0 < b) (h : K (.int k ((a % b : Nat) : Int))) : HBin .rem (.int k (a : Int)) (.int k (b : Int)) K :=
  s_rem (by omega) (by rw [Int.tmod_eq_emod_of_nonneg (by omega)]; exact h)
theorem s_eq {k : IntKind} {a b : Int} {K : Value → Prop} (h : K (.bool (decide (a = b)))) : HBin .eql (.int k a) (.int k b) K := ⟨.bool (decide (a = b)), by simp [binVal]; rfl, h⟩
theorem s_ne {k : IntKind} {a b : Int} {K : Value → Prop} (h : K (.bool (decide (a ≠ b)))) : HBin .neq (.int k a) (.int k b) K := ⟨.bool (decide (a ≠ b)), by simp [binVal, bne]; rfl, h⟩
theorem s_lt {k : IntKind} {a b : Int} {K : Value → Prop} (h : K (.bool (decide (a < b)))) : HBin .lss (.int k a) (.int k b) K := ⟨_, by simp [binVal], h⟩
theorem s_le {k : IntKind} {a b : Int} {K : Value → Prop} (h : K (.bool (decide (a ≤ b)))) : HBin .leq (.int k a) (.int k b) K := ⟨_, by simp [binVal], h⟩
theorem s_gt {k : IntKind} {a b : Int} {K : Value → Prop} (h : K (.bool (decide (b < a)))) : HBin .gtr (.int k a) (.int k b) K := ⟨_, by simp [binVal], h⟩
theorem s_ge {k : IntKind} {a b : Int} {K : Value → Prop} (h : K (.bool (decide (b ≤ a)))) : HBin .geq (.int k a) (.int k b) K := ⟨_, by simp [binVal], h⟩
theorem str_inj {s t : ByteArray} (h : s.toList = t.toList) : s = t := by
  rw [ByteArray.toList_eq, ByteArray.toList_eq] at h
  cases s; cases t; congr 1; exact Array.toList_inj.1 h
theorem s_eqs {a b : ByteArray} {K : Value → Prop} (h : K (.bool (decide (a = b)))) : HBin .eql (.string a) (.string b) K := by
  refine ⟨.bool (decide (a = b)), ?_, h⟩
  by_cases e : a = b
  · subst e; simp [binVal]
  · have : ¬ a.toList = b.toList := fun x => e (str_inj x)
    simp [binVal, e, this]
theorem s_nes {a b : ByteArray} {K : Value → Prop} (h : K (.bool (decide (a ≠ b)))) : HBin .neq (.string a) (.string b) K := by
  refine ⟨.bool (decide (a ≠ b)), ?_, h⟩
  by_cases e : a = b
  · subst e; simp [binVal]
  · have : ¬ a.toList = b.toList := fun x => e (str_inj x)
    simp [binVal, e, this]
theorem s_eqb {a b : Bool} {K : Value → Prop} (h : K (.bool (decide (a = b)))) : HEq .bool false (.bool a) (.bool b) K := ⟨a == b, rfl, by cases a <;> cases b <;> simpa using h⟩
theorem s_neb {a b : Bool} {K : Value → Prop} (h : K (.bool (decide (a ≠ b)))) : HEq .bool true (.bool a) (.bool b) K := ⟨a == b, rfl, by cases a <;> cases b <;> simpa using h⟩
theorem s_eqp {t : TypeId} {a : Option Addr} {K : Value → Prop} (h : K (.bool a.isNone)) : HEq (.pointer t) false (.pointer a) (.pointer none) K := ⟨a.isNone, by cases a <;> rfl, h⟩
theorem s_nep {t : TypeId} {a : Option Addr} {K : Value → Prop} (h : K (.bool a.isSome)) : HEq (.pointer t) true (.pointer a) (.pointer none) K := ⟨a.isNone, by cases a <;> rfl, by cases a <;> exact h⟩
theorem s_not {b : Bool} {K : Value → Prop} (h : K (.bool !b)) : HNot (.bool b) K := ⟨b, rfl, h⟩
theorem s_cvI {j : IntKind} {n : Int} {k : IntKind} {K : Value → Prop} (h : K (.int k (k.wrap n))) : HCvI k (.int j n) K := ⟨j, n, rfl, h⟩
theorem s_cv64 {j : IntKind} {n : Int} {K : Value → Prop} (hr : -9223372036854775808 ≤ n ∧ n ≤ 9223372036854775807) (h : K (.int .i64 n)) : HCvI .i64 (.int j n) K := ⟨j, n, rfl, by rw [IntWalk.i64_in _ hr]; exact h⟩
theorem s_min {k : IntKind} {a b : Int} {K : Value → Prop} (h : K (.int k (min a b))) : HMin (.int k a) (.int k b) K :=
  ⟨k, a, b, rfl, rfl, by rw [show (if b < a then b else a) = min a b by split <;> omega]; exact h⟩
theorem s_max {k : IntKind} {a b : Int} {K : Value → Prop} (h : K (.int k (max a b))) : HMax (.int k a) (.int k b) K :=
  ⟨k, a, b, rfl, rfl, by rw [show (if b > a then b else a) = max a b by split <;> omega]; exact h⟩
theorem s_bld {z cells : List Value} {ps : List (Nat × Nat × Value)} {K : Value → Prop} (hc : fillL z ps = some cells) (h : K (.agg cells.toArray)) : HBld z ps K := ⟨cells, hc, h⟩
theorem s_bldS {z cells : List Value} {ps : List (Nat × Nat × Value)} {e : TypeId} {n : Nat} {K : Value → World → Prop} (hS : SL W l w) (hc : fillL z ps = some cells)
    (h : ∀ b w', SL W (.pt b cells e :: l) w' → K (.slice (some ⟨b, 0, none⟩) n n) w') : HBldS z ps e n w K := ⟨cells, hc, h _ _ hS.new⟩
theorem s_mk {z : List Value} {by_ n c : Nat} {e : TypeId} {kl kc : IntKind} {K : Value → World → Prop} (hS : SL W l w) (h1 : n ≤ c) (h2 : by_ * c ≤ 281474976710656) (h3 : c < 9223372036854775808)
    (h : ∀ b w', SL W (.pt b (zrow z c) e :: l) w' → K (.slice (some ⟨b, 0, none⟩) n c) w') : HMk z by_ e (.int kl (n : Int)) (.int kc (c : Int)) w K := ⟨n, c, kl, kc, rfl, rfl, h1, h2, h3, h _ _ hS.new⟩

theorem s_draw {K : World → Prop} (hS : SL W l w) (h : ∀ w', SL W l w' → K w') : HDraw w K := h _ hS.drew

/-! ### Calls -/
def app : List Chunk → List Chunk → List Chunk
  | [], F => F
  | c :: r, F => c :: app r F
theorem app_eq : ∀ (p F : List Chunk), app p F = p ++ F
  | [], _ => rfl
  | c :: r, F => by rw [app, app_eq r F]; rfl
theorem SL.take {p F : List Chunk} (h : SL W l w) (k : Pick p l F) : SL W (app p F) w := by rw [app_eq]; exact h.pick k
/-- What a function does: with the pieces 'pre' it answers v and leaves the pieces 'post', such that Q. -/
def Spec (P : Program) (f : FuncId) (args : List Value) (pre : List Chunk) (Q : Value → List Chunk → Prop) : Prop :=
  ∀ W F w, SL W (app pre F) w → HCall P f args w fun v w' => ∃ post, Q v post ∧ SL W (app post F) w'
theorem s_call {P : Program} {f : FuncId} {args : List Value} {pre F : List Chunk} {Q : Value → List Chunk → Prop} {K : Value → World → Prop} (c : Spec P f args pre Q) (hS : SL W l w) (p : Pick pre l F)
    (h : ∀ v post, Q v post → ∀ w', SL W (app post F) w' → K v w') : HCall P f args w K :=
  (c W F w (hS.take p)).mono fun v w' ⟨post, hq, hs⟩ => h v post hq w' hs
theorem s_callv {P : Program} {T : List Bool} {f : FuncId} {first captured : Array Value} {args args' : List Value} {pre F : List Chunk} {Q : Value → List Chunk → Prop} {K : Value → World → Prop} (hT : T.getD f false = true) (c : Spec P f args' pre Q)
    (ha : first.toList ++ args ++ captured.toList = args') (hS : SL W l w) (p : Pick pre l F)
    (h : ∀ v post, Q v post → ∀ w', SL W (app post F) w' → K v w') : HCallV P T (.func (.func f) first captured) args w K :=
  ⟨f, first, captured, rfl, hT, by rw [ha]; exact s_call c hS p h⟩
theorem Spec.mono {P : Program} {f : FuncId} {args : List Value} {pre : List Chunk} {Q Q' : Value → List Chunk → Prop} (h : Spec P f args pre Q) (hq : ∀ v post, Q v post → Q' v post) : Spec P f args pre Q' :=
  fun W F w hS => (h W F w hS).mono fun v w' ⟨post, hp, hs⟩ => ⟨post, hq v post hp, hs⟩
/-- The answer is one value, the pieces one row. -/
def Gives (u : Value) (q : List Chunk) : Value → List Chunk → Prop := fun v post => v = u ∧ post = q
/-- Pieces let go. -/
inductive Drop (F : List Chunk) : List Chunk → Prop where
  | nil : Drop F F
  | tl {d : Chunk} {l : List Chunk} (h : Drop F l) : Drop F (d :: l)
theorem Drop.mono {post F l : List Chunk} (d : Drop F l) : ∀ {w : World}, SL W (post ++ l) w → SL W (post ++ F) w := by
  induction d with
  | nil => exact fun h => h
  | @tl d l' _ ih =>
    intro w h
    exact ih (SL.drop (c := d) (h.perm List.perm_middle))
/-- The pieces in another order, some let go. -/
inductive Into : List Chunk → List Chunk → Prop where
  | refl {l : List Chunk} : Into l l
  | cons {c : Chunk} {t l l' : List Chunk} (h : Rem c l l') (k : Into t l') : Into (c :: t) l
  | drop {d : Chunk} {t l : List Chunk} (k : Into t l) : Into t (d :: l)
theorem Into.spec {t l : List Chunk} (k : Into t l) : ∃ r, l.Perm (t ++ r) := by
  induction k with
  | refl => exact ⟨[], by simp⟩
  | cons h _ ih => obtain ⟨r, p⟩ := ih; exact ⟨r, h.perm.trans (p.cons _)⟩
  | @drop d t l _ ih => obtain ⟨r, p⟩ := ih; exact ⟨d :: r, (p.cons d).trans List.perm_middle.symm⟩
theorem SL.dropR : ∀ {r t : List Chunk} {w : World}, SL W (t ++ r) w → SL W t w
  | [], t, w, h => by simpa using h
  | c :: r, t, w, h => SL.dropR (r := r) (SL.drop (c := c) (h.perm List.perm_middle))
theorem SL.into {t : List Chunk} (h : SL W l w) (k : Into t l) : SL W t w := by
  obtain ⟨r, p⟩ := k.spec
  exact (h.perm p).dropR
theorem s_end {v : Value} {post F : List Chunk} {Q : Value → List Chunk → Prop} (hS : SL W l w) (hq : Q v post) (k : Into (app post F) l) : ∃ post, Q v post ∧ SL W (app post F) w := ⟨post, hq, hS.into k⟩
theorem s_same {α : Type} {a : α} {p : Prop} (h : p) : a = a ∧ p := ⟨rfl, h⟩
end
/-! Short names for the steps that are always tried. -/
abbrev Z0 := @s_nil
abbrev Z1 := @s_ext20
abbrev Z2 := @s_ext21
abbrev Z3 := @s_ext30
abbrev Z4 := @s_ext31
abbrev Z5 := @s_ext32
abbrev Z6 := @s_ext40
abbrev Z7 := @s_ext41
abbrev Z8 := @s_ext42
abbrev Z9 := @s_ext43
abbrev Za := @s_fld
abbrev Zb := @s_lenS
abbrev Zc := @s_lenT
abbrev Zd := @s_eq
abbrev Ze := @s_ne
abbrev Zf := @s_lt
abbrev Zg := @s_le
abbrev Zh := @s_gt
abbrev Zi := @s_ge
abbrev Zj := @s_eqs
abbrev Zk := @s_nes
abbrev Zl := @s_eqb
abbrev Zm := @s_neb
abbrev Zn := @s_eqp
abbrev Zo := @s_nep
abbrev Zp := @s_not
abbrev Zq := @s_min
abbrev Zr := @s_max
abbrev Zs := @s_ift
abbrev Zt := @s_iff
abbrev Zu := @s_same
end Go.Proofs.Ythjnknpgcmmapaa
