/-
  My own engine, part 7: regions in the text's order, and code.
-/
import Derived.Test.YthjnknpgcmmapaaEng6
namespace Go.Proofs.Ythjnknpgcmmapaa
set_option linter.unusedVariables false
open Go.RowKit

def HIf (x : Value) (A B : Prop) : Prop := ∃ r, x = .bool r ∧ (r = true → A) ∧ (r = false → B)
def setTmp (E : Env) (x : Operand) (e : Ent) : Env := match x with
  | .tmp t => (t, e) :: E
  | _ => E
def putO (n : Nat) (E : Env) (d : Option Nat) (x : Option Ent) (K : Env → Prop) : Prop := match x with
  | some e => K (E.put n d e)
  | none => False

def stepP (P : Program) (T : List Bool) (n : Nat) (o : Oper) (E : Env) (w : World) (K : Env → World → Prop) : Prop :=
  match o.op with
  | .move x => putO n E o.dst (E.ent x) fun E' => K E' w
  | .assign x => putO n E o.dst (E.ent x) fun E' => K E' w
  | .pick c a b => match E.ent c with
    | some .t => putO n E o.dst (E.ent a) fun E' => K E' w
    | some .f => putO n E o.dst (E.ent b) fun E' => K E' w
    | some (.v x) => HIf x (putO n (setTmp E c .t) o.dst (Env.ent (setTmp E c .t) a) fun E' => K E' w) (putO n (setTmp E c .f) o.dst (Env.ent (setTmp E c .f) b) fun E' => K E' w)
    | some .u => False
    | none => False
  | op => match E.hasAll (opnds op) with
    | true => opH P T op o.type E.ev w fun v w' => K (E.put n o.dst (.v v)) w'
    | false => False

/-- Run or pass over, as the guard says. -/
def guardP (ops : List Oper) (g : Option (Nat × Bool)) (E : Env) (run skip : Env → Prop) : Prop := match g with
  | none => run E
  | some (j, want) => match (ops[j]?).bind (·.dst) with
    | some g => match E.get g with
      | some .t => (match want with | true => run E | false => skip E)
      | some .f => (match want with | true => skip E | false => run E)
      | some (.v x) => HIf x (match want with | true => run ((g, .t) :: E) | false => skip ((g, .t) :: E)) (match want with | true => skip ((g, .f) :: E) | false => run ((g, .f) :: E))
      | some .u => skip E
      | none => False
    | none => False

def opsP (P : Program) (T : List Bool) (n : Nat) (ops : List Oper) (K : Env → World → Prop) : List Oper → Env → World → Prop
  | [], E, w => K E w
  | o :: r, E, w => guardP ops o.guard E (fun E' => stepP P T n o E' w fun E'' w' => opsP P T n ops K r E'' w') (fun E' => opsP P T n ops K r (E'.put n o.dst .u) w)

/-! ### Soundness of these -/
/-- Slots outside W are as they were. -/
def Keep (W : List Nat) (a a' : Act) : Prop := ∀ t, t ∉ W → a'.tmps[t]? = a.tmps[t]?
theorem Keep.refl (W : List Nat) (a : Act) : Keep W a a := fun _ _ => rfl
theorem Keep.trans {W : List Nat} {a b c : Act} (h : Keep W a b) (k : Keep W b c) : Keep W a c := fun t ht => (k t ht).trans (h t ht)
theorem Keep.mono {W W' : List Nat} {a b : Act} (h : Keep W a b) (hw : ∀ t ∈ W, t ∈ W') : Keep W' a b := fun t ht => h t fun x => ht (hw t x)
theorem Keep.put (a : Act) (d : Option Nat) (v : Value) (W : List Nat) (hd : ∀ t, d = some t → t ∈ W) : Keep W a (a.put d v) := by
  cases d with
  | none => exact .refl _ _
  | some d =>
    intro t ht
    have : d ≠ t := fun e => ht (hd t (by rw [e]))
    simp [Act.put, Array.getElem?_setIfInBounds_ne this]

theorem Agree.set {X : List Nat} {n : Nat} {E : Env} {a : Act} (h : Agree X n E a) {t : Nat} {e : Ent} (he : t ∉ X → a.tmps[t]? = some e.val) : Agree X n ((t, e) :: E) a := by
  refine ⟨h.size, h.defers, fun u e' hX hu => ?_⟩
  simp only [Env.get] at hu
  split at hu
  · rename_i hb
    obtain rfl := beq_iff.1 hb
    cases hu; exact he hX
  · exact h.get u e' hX hu

theorem Agree.setTmp {X : List Nat} {n : Nat} {E : Env} {a : Act} (h : Agree X n E a) {x : Operand} {v : Value} {e : Ent} (hx : E.ent x = some (.v v)) (hv : e.val = v) : Agree X n (setTmp E x e) a := by
  cases x with
  | tmp t => exact h.set (fun hX => by rw [hv]; exact h.get t _ hX hx)
  | const v => exact h
  | global g => exact h
  | func f => exact h

theorem putO_sound {X : List Nat} {n : Nat} {E : Env} {d : Option Nat} {x : Operand} {K : Env → Prop} (h : putO n E d (E.ent x) K) {a : Act} (hA : Agree X n E a) (hX : Off X x) : ∃ E', Agree X n E' (a.put d (a.eval x)) ∧ K E' := by
  unfold putO at h
  split at h
  · rename_i e he; exact ⟨_, by rw [hA.ent hX he]; exact hA.put d e, h⟩
  · cases h

section
variable {P : Program} {T : List Bool} {n : Nat} {X : List Nat}

theorem stepP_sound (hT : Calls.Tab P T) {o : Oper} {E : Env} {w : World} {K : Env → World → Prop} (h : stepP P T n o E w K) {a : Act} (hA : Agree X n E a) (hX : ∀ x ∈ opnds o.op, Off X x) {next : Act → World → Prop} {Q : Exit → Act → World → Prop}
    (hn : ∀ E' v w', Agree X n E' (a.put o.dst v) → K E' w' → next (a.put o.dst v) w') : o.wp P a w next Q := by
  unfold stepP at h
  split at h
  · rename_i x hop
    obtain ⟨E', h1, h2⟩ := putO_sound h hA (hX x (by simp [hop, opnds]))
    refine Does.upon (K := fun v w' => ∃ E', Agree X n E' (a.put o.dst v) ∧ K E' w') (.inl ⟨a.eval x, w, by simp [execOp, hop], E', h1, h2⟩) ?_
    rintro v w' ⟨E', h1, h2⟩
    exact hn E' v w' h1 h2
  · rename_i x hop
    obtain ⟨E', h1, h2⟩ := putO_sound h hA (hX x (by simp [hop, opnds]))
    refine Does.upon (K := fun v w' => ∃ E', Agree X n E' (a.put o.dst v) ∧ K E' w') (.inl ⟨a.eval x, w, by simp [execOp, hop], E', h1, h2⟩) ?_
    rintro v w' ⟨E', h1, h2⟩
    exact hn E' v w' h1 h2
  · rename_i c x y hop
    have key : ∀ (r : Bool), a.eval c = .bool r → (∃ E', Agree X n E' (a.put o.dst (if r then a.eval x else a.eval y)) ∧ K E' w) → o.wp P a w next Q := fun r hr h => by
      refine Does.upon (K := fun v w' => ∃ E', Agree X n E' (a.put o.dst v) ∧ K E' w') (.inl ⟨_, w, by simp [execOp, hop, hr, asBool], h⟩) ?_
      rintro v w' ⟨E', h1, h2⟩
      exact hn E' v w' h1 h2
    split at h
    · rename_i hc; exact key true (hA.ent (hX c (by simp [hop, opnds])) hc) (putO_sound h hA (hX _ (by simp [hop, opnds])))
    · rename_i hc; exact key false (hA.ent (hX c (by simp [hop, opnds])) hc) (putO_sound h hA (hX _ (by simp [hop, opnds])))
    · rename_i v hc
      obtain ⟨r, rfl, h1, h2⟩ := h
      cases r with
      | true =>
        exact key true (hA.ent (hX c (by simp [hop, opnds])) hc) (putO_sound (h1 rfl) (hA.setTmp hc rfl) (hX _ (by simp [hop, opnds])))
      | false => exact key false (hA.ent (hX c (by simp [hop, opnds])) hc) (putO_sound (h2 rfl) (hA.setTmp hc rfl) (hX _ (by simp [hop, opnds])))
    · cases h
    · cases h
  · split at h
    · rename_i hh
      refine Does.upon (opH_does hT (fun _ => rfl) (fun x hx => hA.ev (hX x hx) (Env.hasAll_mem hh x hx)) h) ?_
      intro v w' hk
      exact hn _ v w' (hA.put o.dst (.v v)) hk
    · cases h

theorem guardP_sound {ops : Array Oper} {g : Option (Nat × Bool)} {o : Oper} (hg : o.guard = g) {E : Env} {run skip : Env → Prop} (h : guardP ops.toList g E run skip) {a : Act} (hA : Agree X n E a)
    (hX : ∀ j want s, g = some (j, want) → (ops[j]?).bind (·.dst) = some s → s ∉ X) :
    ∃ E', Agree X n E' a ∧ ((Region.wanted o (yielded ops a.tmps) = true ∧ run E') ∨ (Region.wanted o (yielded ops a.tmps) = false ∧ skip E')) := by
  subst hg
  unfold guardP at h
  split at h
  · rename_i hg; exact ⟨E, hA, .inl ⟨by simp [Region.wanted, hg], h⟩⟩
  · rename_i j want hg
    split at h
    · rename_i s hs
      have hw : ∀ b, a.tmps[s]? = some (.bool b) → Region.wanted o (yielded ops a.tmps) = (b == want) := fun b hb => by
        simp only [Region.wanted, hg, yielded]
        rw [show ((ops[j]?).bind (·.dst)) = some s by simpa using hs]
        simp only [Option.bind_some, hb]
        cases b <;> cases want <;> rfl
      have hs' : s ∉ X := hX j want s hg (by simpa using hs)
      split at h
      · rename_i he
        have := hw true (hA.get _ _ hs' he)
        split at h
        · exact ⟨E, hA, .inl ⟨this, h⟩⟩
        · exact ⟨E, hA, .inr ⟨this, h⟩⟩
      · rename_i he
        have := hw false (hA.get _ _ hs' he)
        split at h
        · exact ⟨E, hA, .inr ⟨this, h⟩⟩
        · exact ⟨E, hA, .inl ⟨this, h⟩⟩
      · rename_i x he
        obtain ⟨r, rfl, h1, h2⟩ := h
        have hr := hw r (hA.get _ _ hs' he)
        cases r with
        | true =>
          have h1 := h1 rfl
          have hA' : Agree X n ((s, .t) :: E) a := hA.set (fun _ => hA.get s (.v (.bool true)) hs' he)
          split at h1
          · exact ⟨_, hA', .inl ⟨hr, h1⟩⟩
          · exact ⟨_, hA', .inr ⟨hr, h1⟩⟩
        | false =>
          have h2 := h2 rfl
          have hA' : Agree X n ((s, .f) :: E) a := hA.set (fun _ => hA.get s (.v (.bool false)) hs' he)
          split at h2
          · exact ⟨_, hA', .inr ⟨hr, h2⟩⟩
          · exact ⟨_, hA', .inl ⟨hr, h2⟩⟩
      · rename_i he
        have hb := hA.get _ _ hs' he
        refine ⟨E, hA, .inr ⟨?_, h⟩⟩
        simp only [Region.wanted, hg, yielded]
        rw [show ((ops[j]?).bind (·.dst)) = some s by simpa using hs]
        simp only [Option.bind_some, hb]
        cases want <;> rfl
      · cases h
    · cases h

def dsts (l : List Oper) : List Nat := l.filterMap (·.dst)

theorem opsP_sound (hT : Calls.Tab P T) {ops : Array Oper} {K : Env → World → Prop} {Q : Exit → Act → World → Prop} {W : List Nat} {a0 : Act} (hn : ∀ E' a' w', Agree [] n E' a' → Keep W a0 a' → K E' w' → Q .normal a' w') :
    ∀ (l : List Oper) (E : Env) (a : Act) (w : World), (∀ t ∈ dsts l, t ∈ W) → Keep W a0 a → Agree [] n E a → opsP P T n ops.toList K l E w → wpList P ops Q l a w
  | [], E, a, w, _, hk, hA, h => hn E a w hA hk h
  | o :: r, E, a, w, hW, hk, hA, h => by
    unfold opsP at h
    have hd : ∀ t, o.dst = some t → t ∈ W := fun t ht => hW t (by simp [dsts, ht])
    have hW' : ∀ t ∈ dsts r, t ∈ W := fun t ht => hW t (by
      unfold dsts at ht ⊢
      rw [List.filterMap_cons]
      split
      · exact ht
      · exact List.mem_cons_of_mem _ ht)
    obtain ⟨E', hA', ⟨hw, h⟩ | ⟨hw, h⟩⟩ := guardP_sound rfl h hA (fun _ _ _ _ _ h => by cases h)
    · unfold wpList
      rw [if_pos hw]
      refine .inl (stepP_sound hT h hA' (fun x _ => .nil x) ?_)
      intro E2 v w' hA2 hK
      exact opsP_sound hT hn r E2 _ w' hW' (hk.trans (Keep.put a o.dst v W hd)) hA2 hK
    · unfold wpList
      rw [if_neg (by rw [hw]; exact Bool.false_ne_true)]
      exact opsP_sound hT hn r _ _ w hW' (hk.trans (Keep.put a o.dst undef W hd)) (hA'.put o.dst .u) h
end

/-! ### Code -/
inductive Ex where
  | normal
  | exit (id : Nat)
  | ret
def Ex.to : Ex → Exit
  | .normal => .normal
  | .exit i => .exit i
  | .ret => .ret

def firstReg : Code → Option Nat
  | .region id _ _ => some id
  | .seq a b => match firstReg a with
    | some i => some i
    | none => firstReg b
  | .cond _ a b => match firstReg a with
    | some i => some i
    | none => firstReg b
  | .block _ c => firstReg c
  | .loop c => firstReg c
  | .scope c => firstReg c
  | _ => none
def wr : Code → List Nat
  | .region _ ops _ => dsts ops.toList
  | .seq a b => wr a ++ wr b
  | .cond _ a b => wr a ++ wr b
  | .block _ c => wr c
  | .loop c => wr c
  | .scope c => wr c
  | _ => []
abbrev Marks := List (Nat × List Nat × List Nat)
def Marks.find : Marks → Option Nat → Option (List Nat × List Nat)
  | _, none => none
  | [], _ => none
  | (k, x) :: r, some i => match Nat.beq k i with
    | true => some x
    | false => Marks.find r (some i)
def memB (t : Nat) : List Nat → Bool
  | [] => false
  | u :: r => match Nat.beq u t with
    | true => true
    | false => memB t r
def disjB (W : List Nat) : List Nat → Bool
  | [] => true
  | l :: r => match memB l W with
    | true => false
    | false => disjB W r
def livE (E R : Env) : List Nat → Env
  | [] => R
  | l :: r => match E.get l with
    | some e => (l, e) :: livE E R r
    | none => livE E R r
def valsE (E : Env) : List Nat → Option (List Value)
  | [] => some []
  | s :: r => match E.get s with
    | some e => match valsE E r with
      | some vs => some (e.val :: vs)
      | none => none
    | none => none
def bindS (R : Env) : List Nat → List Value → Env
  | s :: r, v :: vs => (s, .v v) :: bindS R r vs
  | _, _ => R
def allV : Nat → (List Value → Prop) → Prop
  | 0, K => K []
  | k + 1, K => ∀ v : Value, allV k fun l => K (v :: l)
def len' : List Nat → Nat
  | [] => 0
  | _ :: r => len' r + 1
def withV (o : Option (List Value)) (K : List Value → Prop) : Prop := match o with
  | some l => K l
  | none => False

theorem allV_spec : ∀ (k : Nat) (K : List Value → Prop), allV k K → ∀ l : List Value, l.length = k → K l
  | 0, K, h, l, hl => by rw [List.eq_nil_of_length_eq_zero hl]; exact h
  | k + 1, K, h, [], hl => by simp at hl
  | k + 1, K, h, v :: l, hl => allV_spec k _ (h v) l (by simpa using hl)
theorem len'_eq : ∀ l : List Nat, len' l = l.length
  | [] => rfl
  | _ :: r => by simp [len', len'_eq r]
theorem valsE_length {E : Env} : ∀ {S : List Nat} {vs : List Value}, valsE E S = some vs → vs.length = S.length
  | [], vs, h => by simp [valsE] at h; subst h; rfl
  | s :: r, vs, h => by
    simp only [valsE] at h
    split at h
    · split at h
      · rename_i vs' hv; cases h; simp [valsE_length hv]
      · cases h
    · cases h
theorem memB_iff {t : Nat} : ∀ {l : List Nat}, memB t l = true ↔ t ∈ l
  | [] => by simp [memB]
  | u :: r => by
    simp only [memB, List.mem_cons]
    split
    · rename_i h; simp [(beq_iff.1 h).symm]
    · rename_i h
      have hne : t ≠ u := fun e => by rw [beq_iff.2 e.symm] at h; cases h
      rw [memB_iff]; simp [hne]
theorem disjB_spec {W : List Nat} : ∀ {L : List Nat}, disjB W L = true → ∀ l ∈ L, l ∉ W
  | [], _, l, hl => by cases hl
  | x :: r, h, l, hl => by
    simp only [disjB] at h
    split at h
    · cases h
    · rename_i hm
      rcases List.mem_cons.1 hl with rfl | hl
      · intro hin; rw [memB_iff.2 hin] at hm; cases hm
      · exact disjB_spec h l hl

theorem livE_agree {n : Nat} {E R : Env} {a a' : Act} (hA : Agree [] n E a) (hR : Agree [] n R a') {W : List Nat} (hk : Keep W a a') : ∀ {L : List Nat}, (∀ l ∈ L, l ∉ W) → Agree [] n (livE E R L) a'
  | [], _ => hR
  | l :: r, h => by
    simp only [livE]
    split
    · rename_i e he
      exact (livE_agree hA hR hk (fun x hx => h x (List.mem_cons_of_mem _ hx))).set (fun _ => by rw [hk l (h l (by simp))]; exact hA.get l e (by simp) he)
    · exact livE_agree hA hR hk (fun x hx => h x (List.mem_cons_of_mem _ hx))
theorem bindS_agree {n : Nat} {E R : Env} {a : Act} (hA : Agree [] n E a) (hR : Agree [] n R a) : ∀ {S : List Nat} {vs : List Value}, valsE E S = some vs → Agree [] n (bindS R S vs) a
  | [], vs, h => by simp [valsE] at h; subst h; exact hR
  | s :: r, vs, h => by
    simp only [valsE] at h
    split at h
    · rename_i e he
      split at h
      · rename_i vs' hv
        cases h
        exact (bindS_agree hA hR hv).set (fun _ => hA.get s e (by simp) he)
      · cases h
    · cases h
end Go.Proofs.Ythjnknpgcmmapaa
