/-
  My own small library: a region that draws its order, walked ONCE in the order of its text, where memory may be made on the way.
  Each operation of the region's head is met with what is known of the slots that it looks at, in any world that G leads to; it leaves a value of which F is known, F being kept by G. The region's tail goes in the text's order.
-/
import Derived.Test.YtjgacikohlnjdaaLib4
import Derived.StillTailTactics
namespace Go.Proofs.Ytjgacikohlnjdaa
set_option linter.unusedVariables false
open Go.RowKit

abbrev Pd := Value → World → Prop

def lookP : List (Option Tmp × Pd) → Tmp → Option Pd
  | [], _ => none
  | (some d, F) :: r, t => if d = t then some F else lookP r t
  | (none, _) :: r, t => lookP r t

def facts (Γ : List (Option Tmp × Pd)) : List Tmp → Act → World → Prop
  | [], _, _ => True
  | t :: ts, a, w => (match lookP Γ t with | some F => F (a.tmps.getD t undef) w | none => True) ∧ facts Γ ts a w

def StepOk (P : Program) (ops : Array Oper) (G : World → World → Prop) (S : World → Prop) (w0 : World) (sz : Nat) (o : Oper) (Γ : List (Option Tmp × Pd)) (F : Pd) : Prop :=
  ∀ (a : Act) (w : World), a.tmps.size = sz → G w0 w → S w → facts Γ (o.looksAt ops) a w → ∀ (K : Act → World → Prop) (Q : Exit → Act → World → Prop),
    (∀ v w', G w w' → F v w' → K (a.put o.dst v) w') → if Region.wanted o (yielded ops a.tmps) = true then o.wp P a w K Q else K (a.put o.dst undef) w

def HeadOk (P : Program) (ops : Array Oper) (G : World → World → Prop) (S : World → Prop) (w0 : World) (sz : Nat) (ins : List (Option Tmp × Pd)) (fin : List (Option Tmp × Pd) → Prop) : List Oper → List (Option Tmp × Pd) → Prop
  | [], acc => fin acc
  | o :: r, acc => ∃ F : Pd, (∀ v w w', F v w → G w w' → F v w') ∧ StepOk P ops G S w0 sz o (acc ++ ins) F ∧ HeadOk P ops G S w0 sz ins fin r (acc ++ [(o.dst, F)])

/-- What is asked behind the head: for whatever values of which the head's facts hold. -/
def Done (R : Act → Prop) (w : World) : List (Option Tmp × Pd) → Act → Prop
  | [], a => R a
  | (d, F) :: r, a => ∀ v, F v w → Done R w r (a.put d v)

section
variable {P : Program} {ops : Array Oper} {G : World → World → Prop} {S : World → Prop} {w0 : World} {sz : Nat} {ins : List (Option Tmp × Pd)}

def heads (l : List Oper) (Fs : List Pd) : List (Option Tmp × Pd) := (l.map (·.dst)).zip Fs

theorem headOk_spec {fin : List (Option Tmp × Pd) → Prop} : ∀ (l : List Oper) (acc : List (Option Tmp × Pd)), HeadOk P ops G S w0 sz ins fin l acc →
    ∃ Fs : List Pd, Fs.length = l.length ∧ (∀ (i : Nat) (F : Pd), Fs[i]? = some F → ∀ v w w', F v w → G w w' → F v w') ∧
      (∀ (i : Nat) (o : Oper) (F : Pd), l[i]? = some o → Fs[i]? = some F → StepOk P ops G S w0 sz o (acc ++ (heads l Fs).take i ++ ins) F) ∧ fin (acc ++ heads l Fs)
  | [], acc, h => ⟨[], rfl, fun i F h => by simp at h, fun i o F h => by simp at h, by simpa [heads, HeadOk] using h⟩
  | o :: r, acc, ⟨F, hst, hstep, hr⟩ => by
    obtain ⟨Fs, h1, h2, h3, h4⟩ := headOk_spec r _ hr
    refine ⟨F :: Fs, by simp [h1], fun i F' hi => ?_, fun i o' F' ho hF => ?_, by simpa [heads] using h4⟩
    · cases i with
      | zero => simp at hi; subst hi; exact hst
      | succ i => exact h2 i F' (by simpa using hi)
    · cases i with
      | zero => simp at ho hF; subst ho hF; simpa [heads] using hstep
      | succ i =>
        have := h3 i o' F' (by simpa using ho) (by simpa using hF)
        simpa [heads] using this

/-! ### The state of a half-done head -/
def sel (listed : Array Bool) (vs : Nat → Value) : Nat → List Oper → Act → Act
  | _, [], a => a
  | k, o :: r, a => sel listed vs (k + 1) r (if listed.getD k false = true then a.put o.dst (vs k) else a)

theorem put_size (a : Act) (d : Option Tmp) (v : Value) : (a.put d v).tmps.size = a.tmps.size := by cases d <;> simp [Act.put]
theorem put_comm' (a : Act) (v u : Value) {d e : Option Tmp} (h : ∀ x, d = some x → e ≠ some x) : (a.put d v).put e u = (a.put e u).put d v := by
  cases d with
  | none => cases e <;> rfl
  | some x =>
    cases e with
    | none => rfl
    | some y =>
      have hne : x ≠ y := fun e => h x rfl (by rw [e])
      simp only [Act.put]
      rw [Array.setIfInBounds_comm _ _ hne]
theorem put_get (a : Act) (d : Option Tmp) (v : Value) (t : Tmp) (h : d ≠ some t) : (a.put d v).tmps.getD t undef = a.tmps.getD t undef := by
  cases d with
  | none => rfl
  | some x =>
    have hne : x ≠ t := fun e => h (by rw [e])
    simp [Act.put, Array.getElem?_setIfInBounds_ne hne]
theorem put_get_same (a : Act) (v : Value) (t : Tmp) (h : t < a.tmps.size) : (a.put (some t) v).tmps.getD t undef = v := by
  simp [Act.put, h]

theorem sel_size (listed : Array Bool) (vs : Nat → Value) : ∀ (l : List Oper) (k : Nat) (a : Act), (sel listed vs k l a).tmps.size = a.tmps.size
  | [], _, _ => rfl
  | o :: r, k, a => by
    rw [sel, sel_size listed vs r]
    split
    · exact put_size _ _ _
    · rfl

theorem sel_put (listed : Array Bool) (vs : Nat → Value) (d : Option Tmp) (v : Value) : ∀ (l : List Oper) (k : Nat) (a : Act), (∀ o ∈ l, ∀ x, d = some x → o.dst ≠ some x) → sel listed vs k l (a.put d v) = (sel listed vs k l a).put d v
  | [], _, _, _ => rfl
  | o :: r, k, a, h => by
    simp only [sel]
    split
    · rw [put_comm' a v (vs k) (h o (by simp)), sel_put listed vs d v r _ _ (fun o ho => h o (by simp [ho]))]
    · exact sel_put listed vs d v r _ _ (fun o ho => h o (by simp [ho]))

theorem sel_get_other (listed : Array Bool) (vs : Nat → Value) (t : Tmp) : ∀ (l : List Oper) (k : Nat) (a : Act), (∀ o ∈ l, o.dst ≠ some t) → (sel listed vs k l a).tmps.getD t undef = a.tmps.getD t undef
  | [], _, _, _ => rfl
  | o :: r, k, a, h => by
    rw [sel, sel_get_other listed vs t r _ _ (fun o ho => h o (by simp [ho]))]
    split
    · exact put_get _ _ _ _ (h o (by simp))
    · rfl

/-- No two operations of the head write one slot. -/
def distinct : List Oper → Bool
  | [] => true
  | o :: r => (match o.dst with | some d => r.all fun o' => o'.dst != some d | none => true) && distinct r

theorem distinct_cons {o : Oper} {r : List Oper} (h : distinct (o :: r) = true) : (∀ o' ∈ r, ∀ x, o.dst = some x → o'.dst ≠ some x) ∧ distinct r = true := by
  simp only [distinct, Bool.and_eq_true] at h
  refine ⟨fun o' ho x hx => ?_, h.2⟩
  have := h.1
  rw [hx] at this
  simpa using List.all_eq_true.1 this o' ho

theorem sel_get_same (listed : Array Bool) (vs : Nat → Value) (t : Tmp) (l : List Oper) : ∀ (k i : Nat) (a : Act) (o : Oper), distinct l = true → l[i]? = some o → o.dst = some t → listed.getD (k + i) false = true → t < a.tmps.size →
    (sel listed vs k l a).tmps.getD t undef = vs (k + i) := by
  induction l with
  | nil => intro k i a o _ ho; simp at ho
  | cons o r ih =>
    intro k i a o' hd ho ht hl hlt
    cases i with
    | zero =>
      simp at ho; subst ho
      rw [sel, sel_get_other listed vs t r _ _ (fun o' ho' => by have := (distinct_cons hd).1 o' ho' t ht; exact this)]
      rw [if_pos (by simpa using hl), ht]
      exact put_get_same _ _ _ hlt
    | succ i =>
      rw [sel, ih (k + 1) i _ o' (distinct_cons hd).2 (by simpa using ho) ht (by rw [Nat.add_right_comm]; exact hl) (by split <;> simp [put_size, hlt])]
      congr 1; omega

theorem sel_congr {listed listed' : Array Bool} {vs vs' : Nat → Value} : ∀ (l : List Oper) (k : Nat) (a : Act), (∀ j, k ≤ j → listed.getD j false = listed'.getD j false ∧ vs j = vs' j) → sel listed vs k l a = sel listed' vs' k l a
  | [], _, _, _ => rfl
  | o :: r, k, a, h => by
    obtain ⟨h1, h2⟩ := h k (Nat.le_refl _)
    rw [sel, sel, h1, h2]
    exact sel_congr r _ _ (fun j hj => h j (by omega))

theorem sel_set (listed : Array Bool) (vs : Nat → Value) (v : Value) (l : List Oper) : ∀ (k i : Nat) (a : Act) (o : Oper), distinct l = true → l[i]? = some o → listed.getD (k + i) false = false → k + i < listed.size →
    sel (listed.setIfInBounds (k + i) true) (fun j => if j = k + i then v else vs j) k l a = (sel listed vs k l a).put o.dst v := by
  induction l with
  | nil => intro k i a o _ ho; simp at ho
  | cons o r ih =>
    intro k i a o' hd ho hl hlt
    cases i with
    | zero =>
      simp at ho; subst ho
      have e1 : (listed.setIfInBounds (k + 0) true).getD k false = true := by simp at hlt; simp [hlt]
      show sel _ _ (k + 1) r (if (listed.setIfInBounds (k + 0) true).getD k false = true then a.put o.dst (if k = k + 0 then v else vs k) else a) = (sel listed vs (k + 1) r (if listed.getD k false = true then a.put o.dst (vs k) else a)).put o.dst v
      have hl' : ¬ listed.getD k false = true := by
        have : listed.getD k false = false := hl
        rw [this]; exact Bool.false_ne_true
      rw [if_pos e1, if_pos (show k = k + 0 from rfl), if_neg hl']
      rw [← sel_put listed vs o.dst v r (k + 1) a (distinct_cons hd).1]
      refine sel_congr r _ _ (fun j hj => ⟨?_, if_neg (by omega)⟩)
      exact getD_set_ne false (by omega)
    | succ i =>
      have e1 : (listed.setIfInBounds (k + (i + 1)) true).getD k false = listed.getD k false := getD_set_ne false (by omega)
      have e2 : (if k = k + (i + 1) then v else vs k) = vs k := if_neg (by omega)
      rw [sel, sel, e1, e2]
      have := ih (k + 1) i (if listed.getD k false = true then a.put o.dst (vs k) else a) o' (distinct_cons hd).2 (by simpa using ho) (by rw [show k + 1 + i = k + (i + 1) by omega]; exact hl) (by omega)
      rw [show k + 1 + i = k + (i + 1) by omega] at this
      exact this

theorem done_sel (R : Act → Prop) (w : World) (listed : Array Bool) (vs : Nat → Value) : ∀ (l : List Oper) (Fs : List Pd) (k : Nat) (a : Act), Fs.length = l.length → (∀ j, k ≤ j → j < k + l.length → listed.getD j false = true) →
    (∀ (i : Nat) (F : Pd), Fs[i]? = some F → F (vs (k + i)) w) → Done R w (heads l Fs) a → R (sel listed vs k l a)
  | [], [], _, _, _, _, _, h => h
  | o :: r, F :: Fs, k, a, hl, hd, hF, h => by
    rw [sel, if_pos (hd k (Nat.le_refl _) (by simp))]
    have h' := h (vs k) (by simpa using hF 0 F rfl)
    exact done_sel R w listed vs r Fs (k + 1) _ (by simpa using hl) (fun j h1 h2 => hd j (by omega) (by simp; omega)) (fun i F' hi => by
      have := hF (i + 1) F' (by simpa using hi)
      rwa [show k + 1 + i = k + (i + 1) by omega]) h'

/-! ### The checks on a region, by computation -/
def direct (md : Region.Mode) (ops : Array Oper) (n : Nat) : Bool :=
  (List.range n).all fun i => match ops[i]? with
    | some oi => (oi.after.all fun e => !Region.binds md e || decide (e.on < i)) &&
        (List.range n).all fun j => match ops[j]? with
          | some oj => match oj.dst with
            | some d => !(oi.looksAt ops).contains d || (decide (j < i) && Region.waitsFor md ops i j)
            | none => true
          | none => true
    | none => true

def slotsIn (sz : Nat) (l : List Oper) : Bool := l.all fun o => match o.dst with | some d => decide (d < sz) | none => true

/-- The values that the region finds in slots. -/
def insOk (a : Act) : List (Tmp × Value) → Prop
  | [] => True
  | (t, v) :: r => a.tmps.getD t undef = v ∧ insOk a r
def insOf (l : List (Tmp × Value)) : List (Option Tmp × Pd) := l.map fun p => (some p.1, fun v _ => v = p.2)

theorem insOk_look {a : Act} : ∀ {l : List (Tmp × Value)}, insOk a l → ∀ {t : Tmp} {F : Pd}, lookP (insOf l) t = some F → ∀ w, F (a.tmps.getD t undef) w
  | (t', v) :: r, h, t, F, hl, w => by
    simp only [insOf, List.map_cons, lookP] at hl
    split at hl
    · rename_i he
      cases hl
      subst he
      exact h.1
    · exact insOk_look h.2 hl w

theorem lookP_append : ∀ (A B : List (Option Tmp × Pd)) (t : Tmp), lookP (A ++ B) t = (lookP A t).orElse (fun _ => lookP B t)
  | [], B, t => by simp [lookP]
  | (some d, F) :: A, B, t => by
    simp only [List.cons_append, lookP]
    split
    · rfl
    · exact lookP_append A B t
  | (none, F) :: A, B, t => by simp only [List.cons_append, lookP]; exact lookP_append A B t

theorem lookP_heads {l : List Oper} : ∀ {Fs : List Pd} {i : Nat} {t : Tmp} {F : Pd}, lookP ((heads l Fs).take i) t = some F → ∃ (j : Nat) (o : Oper), j < i ∧ l[j]? = some o ∧ o.dst = some t ∧ Fs[j]? = some F := by
  induction l with
  | nil => intro Fs i t F h; simp [heads, lookP] at h
  | cons o r ih =>
    intro Fs i t F h
    cases Fs with
    | nil => simp [heads, lookP] at h
    | cons F0 Fs =>
      cases i with
      | zero => simp [lookP] at h
      | succ i =>
        have hrec : lookP ((heads r Fs).take i) t = some F → ∃ (j : Nat) (o' : Oper), j < i + 1 ∧ (o :: r)[j]? = some o' ∧ o'.dst = some t ∧ (F0 :: Fs)[j]? = some F := fun h => by
          obtain ⟨j, o', h1, h2, h3, h4⟩ := ih h
          exact ⟨j + 1, o', by omega, by simpa using h2, h3, by simpa using h4⟩
        simp only [heads, List.map_cons, List.zip_cons_cons, List.take_succ_cons] at h
        cases hd : o.dst with
        | none => rw [hd] at h; exact hrec (by simpa [lookP, heads] using h)
        | some d =>
          rw [hd] at h
          simp only [lookP] at h
          split at h
          · rename_i he
            exact ⟨0, o, by omega, rfl, by rw [hd, he], by simpa using h⟩
          · exact hrec h

theorem lookP_heads_none {l : List Oper} : ∀ {Fs : List Pd} {i : Nat} {t : Tmp}, Fs.length = l.length → lookP ((heads l Fs).take i) t = none → ∀ (j : Nat) (o : Oper), j < i → l[j]? = some o → o.dst ≠ some t := by
  induction l with
  | nil => intro Fs i t _ _ j o _ ho; simp at ho
  | cons o r ih =>
    intro Fs i t hl h j o' hj ho
    cases Fs with
    | nil => simp at hl
    | cons F0 Fs =>
      cases i with
      | zero => omega
      | succ i =>
        simp only [heads, List.map_cons, List.zip_cons_cons, List.take_succ_cons] at h
        have hrest : o.dst ≠ some t ∧ lookP ((heads r Fs).take i) t = none := by
          cases hd : o.dst with
          | none => rw [hd] at h; exact ⟨by simp, by simpa [lookP, heads] using h⟩
          | some d =>
            rw [hd] at h
            simp only [lookP] at h
            split at h
            · cases h
            · rename_i he
              exact ⟨fun e => he (Option.some.inj e), h⟩
        cases j with
        | zero => simp at ho; subst ho; exact hrest.1
        | succ j => exact ih (by simpa using hl) hrest.2 j o' (by omega) (by simpa using ho)

/-- The state of a region whose head is half done. -/
structure RInv (G : World → World → Prop) (w0 : World) (hd : List Oper) (Fs : List Pd) (a : Act) (vs : Nat → Value) (listed : Array Bool) (a' : Act) (w : World) : Prop where
  act : a' = sel listed vs 0 hd a
  grown : G w0 w
  known : ∀ (i : Nat) (F : Pd), Fs[i]? = some F → listed.getD i false = true → F (vs i) w

theorem facts_mk {Γ : List (Option Tmp × Pd)} {a : Act} {w : World} : ∀ (ts : List Tmp), (∀ t ∈ ts, ∀ F, lookP Γ t = some F → F (a.tmps.getD t undef) w) → facts Γ ts a w
  | [], _ => trivial
  | t :: ts, h => ⟨by
    cases hl : lookP Γ t with
    | none => trivial
    | some F => exact h t (by simp) F hl, facts_mk ts (fun t ht => h t (by simp [ht]))⟩

theorem head_any {l : List Oper} {n : Nat} {a : Act} {inl : List (Tmp × Value)} {Q : Exit → Act → World → Prop} {Fs : List Pd} (hGt : ∀ {x y z}, G x y → G y z → G x z)
    (hn : n < l.length) (hs : Region.sinkB .any l.toArray n = true) (hc : Region.chainB .any l.toArray n = true) (hdir : direct .any l.toArray n = true) (hdis : distinct (l.take n) = true) (hsl : slotsIn a.tmps.size (l.take n) = true)
    (hseq : Region.seqB .any l.toArray (l.length - n) n (Array.ofFn fun i : Fin l.length => decide (i.val < n)) = true) (hins : insOk a inl) (hS : ∀ w, G w0 w → S w)
    (hF : Fs.length = (l.take n).length) (hst : ∀ (i : Nat) (F : Pd), Fs[i]? = some F → ∀ v w w', F v w → G w w' → F v w')
    (hstep : ∀ (i : Nat) (o : Oper) (F : Pd), (l.take n)[i]? = some o → Fs[i]? = some F → StepOk P l.toArray G S w0 a.tmps.size o ((heads (l.take n) Fs).take i ++ insOf inl) F)
    (hfin : ∀ w', G w0 w' → Done (fun a' => wpList P l.toArray Q (l.drop n) a' w') w' (heads (l.take n) Fs) a) :
    ∀ (f : Nat) (listed : Array Bool) (a' : Act) (w : World) (vs : Nat → Value), HeadInv .any l.toArray n listed → RInv G w0 (l.take n) Fs a vs listed a' w → ((List.range n).filter fun i => !listed.getD i false).length = f →
      wpAny P .any l.toArray Q (f + (l.length - n)) listed a' w := by
  have htl : (l.take n).length = n := by simp; omega
  have hget : ∀ (i : Nat), i < n → (l.take n)[i]? = l[i]? := fun i hi => by simp [hi]
  intro f
  induction f with
  | zero =>
    intro listed a' w vs inv rinv hf
    have hall : ∀ i, i < n → listed.getD i false = true := fun i hi => by
      have h0 := List.eq_nil_of_length_eq_zero hf
      cases hb : listed.getD i false with
      | true => rfl
      | false =>
        have : i ∈ (List.range n).filter fun i => !listed.getD i false := List.mem_filter.2 ⟨List.mem_range.2 hi, by rw [hb]; rfl⟩
        rw [h0] at this; cases this
    have hlisted : listed = Array.ofFn fun i : Fin l.length => decide (i.val < n) := by
      apply Array.ext
      · simpa using inv.size
      · intro i h1 h2
        by_cases hi : i < n
        · have := hall i hi
          simp [h1] at this
          simp [this, hi]
        · have := inv.tail i (by omega) (by simpa [inv.size] using h1)
          simp [h1] at this
          simp [this, hi]
    rw [Nat.zero_add]
    have := wpAny_of_seq (P := P) (md := .any) (Q' := Q) (ops := l.toArray) (l.drop n) n listed a' w (fun j => by simp [List.getElem?_drop]) (by rw [hlisted]; simpa using hseq) (by
      rw [rinv.act]
      exact done_sel _ w listed vs (l.take n) Fs 0 a hF (fun j _ hj => hall j (by omega)) (fun i F hi => by
        have hi' : i < n := by have := (List.getElem?_eq_some_iff.1 hi).1; omega
        simpa using rinv.known i F hi (hall i hi')) (hfin w rinv.grown))
    simpa using this
  | succ f ih =>
    intro listed a' w vs inv rinv hf
    have hlsz : listed.size = l.length := by simpa using inv.size
    -- an operation of the head that is not done yet; the first of them is ready
    have hex : ∃ i, i < n ∧ listed.getD i false = false := by
      cases hl0 : (List.range n).filter fun i => !listed.getD i false with
      | nil => rw [hl0] at hf; simp at hf
      | cons i r =>
        have : i ∈ (List.range n).filter fun i => !listed.getD i false := by rw [hl0]; simp
        obtain ⟨h1, h2⟩ := List.mem_filter.1 this
        exact ⟨i, List.mem_range.1 h1, by simpa using h2⟩
    obtain ⟨i0, hi0, hu0⟩ := hex
    have hready : ∃ i, i ∈ Region.ready .any l.toArray listed := by
      have hmin : ∀ (m i : Nat), i = m → i < n → listed.getD i false = false → ∃ i, i ∈ Region.ready .any l.toArray listed := by
        intro m
        induction m using Nat.strongRecOn with
        | _ m ihm =>
          intro i him hi hu
          subst him
          obtain ⟨oi, hoi⟩ : ∃ oi, l.toArray[i]? = some oi := ⟨l.toArray[i]'(by first | (simp; done) | (simp; omega)), by first | (simp; done) | (simp; omega)⟩
          by_cases hr : i ∈ Region.ready .any l.toArray listed
          · exact ⟨i, hr⟩
          · have hd := List.all_eq_true.1 hdir i (List.mem_range.2 hi)
            rw [hoi] at hd
            simp only [Bool.and_eq_true] at hd
            have hne : ∃ e ∈ oi.after, Region.binds .any e = true ∧ listed.getD e.on false = false := by
              refine Classical.byContradiction fun hno => hr (mem_ready.2 ⟨getD_in (by omega) hu, oi, hoi, fun e he hb => ?_⟩)
              cases hx : listed.getD e.on false with
              | true => rfl
              | false => exact absurd ⟨e, he, hb, hx⟩ hno
            obtain ⟨e, he, hb, hx⟩ := hne
            have h1 := Array.all_eq_true'.1 hd.1 e he
            simp only [hb, Bool.not_true, Bool.false_or, decide_eq_true_eq] at h1
            exact ihm e.on h1 e.on rfl (by omega) hx
      exact hmin i0 i0 rfl hi0 hu0
    obtain ⟨ir, hir⟩ := hready
    rw [show f + 1 + (l.length - n) = (f + (l.length - n)) + 1 by omega]
    refine ⟨(fun h0 => by rw [h0] at hir; cases hir), fun i hi => ?_⟩
    have hin : i < n := by
      rcases Nat.lt_or_ge i n with h | h
      · exact h
      · exact absurd hi (tail_waits hs hc (by simpa using hn) inv _ i0 rfl hi0 (getD_in (by omega) hu0) i h)
    obtain ⟨hun, oi, hoi, hall⟩ := mem_ready.1 hi
    have hoi' : (l.take n)[i]? = some oi := by rw [hget i hin]; simpa using hoi
    obtain ⟨F, hFi⟩ : ∃ F, Fs[i]? = some F := ⟨Fs[i]'(by omega), List.getElem?_eq_getElem (by omega)⟩
    have hd := List.all_eq_true.1 hdir i (List.mem_range.2 hin)
    rw [hoi] at hd
    simp only [Bool.and_eq_true] at hd
    have hsz : a'.tmps.size = a.tmps.size := by rw [rinv.act, sel_size]
    have hfacts : facts ((heads (l.take n) Fs).take i ++ insOf inl) (oi.looksAt l.toArray) a' w := by
      refine facts_mk _ (fun t ht F' hl' => ?_)
      have waits : ∀ (j : Nat) (oj : Oper), (l.take n)[j]? = some oj → oj.dst = some t → j < i ∧ listed.getD j false = true := fun j oj hj hdst => by
        have hjn : j < n := by have := (List.getElem?_eq_some_iff.1 hj).1; omega
        have h2 := List.all_eq_true.1 hd.2 j (List.mem_range.2 hjn)
        have hj' : l.toArray[j]? = some oj := by rw [hget j hjn] at hj; simpa using hj
        rw [hj'] at h2
        simp only [hdst, Bool.or_eq_true, Bool.not_eq_true', Bool.and_eq_true, decide_eq_true_eq] at h2
        rcases h2 with h2 | ⟨h2, h3⟩
        · have : (oi.looksAt l.toArray).contains t = true := by simpa using ht
          rw [this] at h2; cases h2
        · obtain ⟨o', ho', e, he, hb, hon⟩ := Region.waitsFor_spec h3
          have : o' = oi := Option.some.inj (ho'.symm.trans hoi)
          subst this
          have := hall e he hb
          rw [hon] at this
          exact ⟨h2, this⟩
      rw [lookP_append] at hl'
      cases h1 : lookP ((heads (l.take n) Fs).take i) t with
      | some F1 =>
        rw [h1] at hl'
        simp at hl'
        subst hl'
        obtain ⟨j, oj, hji, hoj, hdst, hFj⟩ := lookP_heads h1
        obtain ⟨_, hlj⟩ := waits j oj hoj hdst
        have hjn : j < n := by omega
        have hts : t < a.tmps.size := by
          have := List.all_eq_true.1 hsl oj (List.mem_of_getElem? hoj)
          simpa [hdst] using this
        have := sel_get_same listed vs t (l.take n) 0 j a oj hdis hoj hdst (by simpa using hlj) hts
        rw [rinv.act, this]
        simpa using rinv.known j F1 hFj hlj
      | none =>
        rw [h1] at hl'
        simp at hl'
        have hno : ∀ o ∈ l.take n, o.dst ≠ some t := fun o ho hdst => by
          obtain ⟨j, hj, rfl⟩ := List.getElem_of_mem ho
          obtain ⟨hji, _⟩ := waits j _ (List.getElem?_eq_getElem hj) hdst
          exact lookP_heads_none hF h1 j _ hji (List.getElem?_eq_getElem hj) hdst
        rw [rinv.act, sel_get_other listed vs t _ _ _ hno]
        exact insOk_look hins hl' w
    have hstp := hstep i oi F hoi' hFi a' w hsz rinv.grown (hS w rinv.grown) hfacts
    -- behind the step
    have next : ∀ v w', G w w' → F v w' → wpAny P .any l.toArray Q (f + (l.length - n)) (listed.setIfInBounds i true) (a'.put oi.dst v) w' := fun v w' hg hv => by
      have hui : listed.getD i false = false := getD_both hun
      refine ih (listed.setIfInBounds i true) _ w' (fun j => if j = i then v else vs j) (inv.set hi hin) ⟨?_, hGt rinv.grown hg, fun j F' hj hlj => ?_⟩ ?_
      · have := sel_set listed vs v (l.take n) 0 i a oi hdis hoi' (by simpa using hui) (by simp; omega)
        simp only [Nat.zero_add] at this
        rw [this, rinv.act]
      · by_cases hji : j = i
        · subst hji
          simp only [if_true]
          have : F' = F := Option.some.inj (hj.symm.trans hFi)
          subst this
          exact hv
        · simp only [if_neg hji]
          rw [getD_set_ne false (fun e => hji e.symm)] at hlj
          exact hst j F' hj _ _ _ (rinv.known j F' hj hlj) hg
      · have hperm : ((List.range n).filter fun j => !listed.getD j false).length = ((List.range n).filter fun j => !(listed.setIfInBounds i true).getD j false).length + 1 := by
          have hcount : ∀ (m : Nat), ((List.range m).filter fun j => !listed.getD j false).length = ((List.range m).filter fun j => !(listed.setIfInBounds i true).getD j false).length + (if i < m then 1 else 0) := by
            intro m
            induction m with
            | zero => simp
            | succ m ihm =>
              rw [List.range_succ, List.filter_append, List.filter_append, List.length_append, List.length_append, ihm]
              by_cases hmi : m = i
              · subst hmi
                have e1 : (listed.setIfInBounds m true).getD m false = true := by simp [hlsz]; omega
                rw [List.filter_cons, List.filter_cons, hui, e1]
                simp
              · rw [List.filter_cons, List.filter_cons, getD_set_ne false (fun e => hmi e.symm), List.filter_nil, List.filter_nil]
                by_cases him : i < m
                · have h2 : i < m + 1 := by omega
                  simp only [him, h2, if_true]; omega
                · have h2 : ¬ i < m + 1 := by omega
                  simp only [him, h2, if_false]; omega
          have := hcount n
          rw [if_pos hin] at this
          exact this
        omega
    unfold wpOp
    rw [hoi]
    show if Region.wanted oi (yielded l.toArray a'.tmps) = true then _ else _
    have := hstp _ Q next
    split
    · rename_i hw; rw [if_pos hw] at this; exact .inl this
    · rename_i hw; rw [if_neg hw] at this; exact this

/-- **A REGION THAT DRAWS ITS ORDER, ITS HEAD MET OPERATION BY OPERATION, ITS TAIL IN THE TEXT's ORDER.** -/
theorem wp_region_rg {id : Nat} {Q : Exit → Act → World → Prop} {a : Act} {w : World} {l : List Oper} (n : Nat) (G : World → World → Prop) (S : World → Prop) (inl : List (Tmp × Value)) (hGr : ∀ x, G x x) (hGt : ∀ {x y z}, G x y → G y z → G x z)
    (hm : P.follows .mixedOrders = true) (hB : (decide (n < l.length) && Region.sinkB .any l.toArray n && Region.chainB .any l.toArray n && direct .any l.toArray n && distinct (l.take n) &&
      Region.seqB .any l.toArray (l.length - n) n (Array.ofFn fun i : Fin l.length => decide (i.val < n))) = true) (hsl : slotsIn a.tmps.size (l.take n) = true)
    (hins : insOk a inl) (hS : ∀ w', G w.drew w' → S w')
    (h : HeadOk P l.toArray G S w.drew a.tmps.size (insOf inl) (fun acc => ∀ w', G w.drew w' → Done (fun a' => wpList P l.toArray Q (l.drop n) a' w') w' acc a) (l.take n) []) : (Code.region id l.toArray true).wp P Q a w := by
  simp only [Bool.and_eq_true, decide_eq_true_eq] at hB
  obtain ⟨⟨⟨⟨⟨hn, hs⟩, hc⟩, hdir⟩, hdis⟩, hseq⟩ := hB
  obtain ⟨Fs, h1, h2, h3, h4⟩ := headOk_spec _ _ h
  refine wp_region_any hm ?_
  have hget : ∀ j, (Array.replicate l.toArray.size false).getD j false = false := fun j => getD_replicate_false _ _
  have := head_any (a := a) (w0 := w.drew) (S := S) (G := G) (inl := inl) (Q := Q) (Fs := Fs) hGt hn hs hc hdir hdis hsl hseq hins hS h1 h2 (by simpa using h3) (by simpa using h4) n (Array.replicate l.toArray.size false) a w.drew (fun _ => undef)
    ⟨by simp, (fun j oj _ hl => by rw [hget] at hl; cases hl), fun t _ ht => getD_in (by simpa using ht) (hget t)⟩
    ⟨by
      have : ∀ (r : List Oper) (k : Nat), sel (Array.replicate l.toArray.size false) (fun _ => undef) k r a = a := by
        intro r
        induction r with
        | nil => intro k; rfl
        | cons o r ih => intro k; rw [sel, if_neg (by rw [hget]; exact Bool.false_ne_true), ih]
      exact (this _ 0).symm, hGr _, fun i F _ hl => by rw [hget] at hl; cases hl⟩
    (by
      have : ((List.range n).filter fun i => !(Array.replicate l.toArray.size false).getD i false) = List.range n := List.filter_eq_self.2 (fun i _ => by rw [hget]; rfl)
      rw [this]; simp)
  rw [show n + (l.length - n) = l.toArray.size by simp; omega] at this
  exact this
end
end Go.Proofs.Ytjgacikohlnjdaa
