/-
  My own engine, part 9d: regions that draw their order: what they ask is sound.
-/
import Derived.Test.YthjnknpgcmmapaaEngE
import Derived.StillTail
namespace Go.Proofs.Ythjnknpgcmmapaa
set_option linter.unusedVariables false
open Go.RowKit

section
variable {P : Program} {T : List Bool} {n : Nat} {l : List Oper}

/-- The slots of the quiet operations that are not done yet. -/
def Xs (P : Program) (l : List Oper) (listed : Array Bool) : List Nat :=
  ((List.range l.length).filter fun j => !listed.getD j false && (match l[j]? with | some o => isFlt P o.op | none => false)).filterMap fun j => (l[j]?).bind (·.dst)
theorem Xs_mem {listed : Array Bool} {t : Nat} : t ∈ Xs P l listed ↔ ∃ j o, l[j]? = some o ∧ listed.getD j false = false ∧ isFlt P o.op = true ∧ o.dst = some t := by
  unfold Xs
  simp only [List.mem_filterMap, List.mem_filter, List.mem_range, Bool.and_eq_true, Bool.not_eq_true']
  constructor
  · rintro ⟨j, ⟨h1, h2, h3⟩, h4⟩
    have hj : l[j]? = some l[j] := List.getElem?_eq_getElem h1
    rw [hj] at h3 h4
    exact ⟨j, _, hj, h2, h3, h4⟩
  · rintro ⟨j, o, h1, h2, h3, h4⟩
    exact ⟨j, ⟨(List.getElem?_eq_some_iff.1 h1).1, h2, by rw [h1]; exact h3⟩, by rw [h1]; exact h4⟩

theorem Agree.same {X X' : List Nat} {E E' : Env} {a : Act} (h : Agree X n E a) (hX : ∀ t, t ∉ X' → t ∉ X) (hs : ∀ t, t ∉ X' → valOf E' t = valOf E t) : Agree X' n E' a := by
  refine ⟨h.size, h.defers, fun t e ht he => ?_⟩
  have h1 := hs t ht
  unfold valOf at h1
  rw [he] at h1
  cases h2 : E.get t with
  | none => rw [h2] at h1; cases h1
  | some e' =>
    rw [h2] at h1
    simp at h1
    rw [h.get t e' (hX t ht) h2, h1]

theorem wanted_of {ops : Array Oper} {o : Oper} {X : List Nat} {E : Env} {a : Act} {r : Bool} (h : Wants ops.toList o E r) (hA : Agree X n E a) (hX : ∀ t ∈ looks ops.toList o, t ∉ X) : Region.wanted o (yielded ops a.tmps) = r := by
  unfold Wants at h
  cases hg : o.guard with
  | none => simp only [hg] at h; simp [Region.wanted, hg, h]
  | some p =>
    obtain ⟨j, want⟩ := p
    simp only [hg] at h
    obtain ⟨s, b, h1, h2, h3⟩ := h
    have hs := hX s (looks_guard hg h1)
    unfold valOf at h2
    cases he : E.get s with
    | none => rw [he] at h2; cases h2
    | some e =>
      rw [he] at h2
      simp at h2
      have := hA.get s e hs he
      rw [h2] at this
      simp only [Region.wanted, hg, yielded]
      rw [show ((ops[j]?).bind (·.dst)) = some s by simpa using h1]
      simp only [Option.bind_some, this]
      rw [h3]
      cases b <;> cases want <;> first | rfl | (rename_i b; cases b <;> rfl)

/-- Which chain operations may come next, and what is asked of each. -/
def Next (P : Program) (T : List Bool) (n : Nat) (l : List Oper) (K : Env → World → Prop) (k done en : Nat) (E : Env) (w : World) : Prop :=
  match subB (mkRS P l).cm done with
  | true => K E w
  | false => andAll (fun c => match l[c]? with
      | some o => guardP l o.guard E (fun E2 => stepP P T n o E2 w fun E3 w3 => (mkRS P l).go P T n K k (done ||| 2 ^ c) en E3 w3)
          (fun E2 => (mkRS P l).go P T n K k (done ||| 2 ^ c) en (E2.put n o.dst .u) w)
      | none => False)
    (fltr (fun c => !Nat.testBit done c && (mkRS P l).enabled done c) (mkRS P l).chs)

theorem andAll_mem {F : Nat → Prop} : ∀ {r : List Nat}, andAll F r → ∀ c ∈ r, F c
  | [], _, c, hc => by cases hc
  | [x], h, c, hc => by simp at hc; subst hc; exact h
  | x :: y :: r, h, c, hc => by
    rcases List.mem_cons.1 hc with rfl | hc
    · exact h.1
    · exact andAll_mem h.2 c hc

theorem chs_mem {c : Nat} : c ∈ (mkRS P l).chs ↔ ∃ o, l[c]? = some o ∧ isFlt P o.op = false := by
  have := @idxs_mem (fun o => !isFlt P o.op) l 0 c
  simpa [mkRS] using this
theorem flts_mem {c : Nat} : c ∈ (mkRS P l).flts ↔ ∃ o, l[c]? = some o ∧ isFlt P o.op = true := by
  have := @idxs_mem (fun o => isFlt P o.op) l 0 c
  simpa [mkRS] using this
theorem cm_bit {c : Nat} : (mkRS P l).cm.testBit c = true ↔ c ∈ (mkRS P l).chs := maskOf_bit
theorem enabled_iff {done j : Nat} : (mkRS P l).enabled done j = true ↔ ∀ c, Bt l j c → c ∈ (mkRS P l).chs → done.testBit c = true := by
  unfold RS.enabled
  rw [subB_iff]
  constructor
  · intro h c hb hc
    refine h c ?_
    show (((mkRS P l).B.getD j 0) &&& (mkRS P l).cm).testBit c = true
    rw [Nat.testBit_and, Bool.and_eq_true]
    exact ⟨hb, cm_bit.2 hc⟩
  · intro h c hc
    have hc' : (((mkRS P l).B.getD j 0) &&& (mkRS P l).cm).testBit c = true := hc
    rw [Nat.testBit_and, Bool.and_eq_true] at hc'
    exact h c hc'.1 (cm_bit.1 hc'.2)
theorem needed_iff {done j : Nat} : (mkRS P l).needed done j = true ↔ ∃ c ∈ (mkRS P l).chs, done.testBit c = true ∧ Bt l c j := by
  unfold RS.needed
  rw [anyN_iff]
  constructor
  · rintro ⟨c, h1, h2⟩
    split at h2
    · rename_i hd; exact ⟨c, h1, hd, h2⟩
    · cases h2
  · rintro ⟨c, h1, h2, h3⟩
    exact ⟨c, h1, by rw [h2]; exact h3⟩

/-- A half-done region. -/
structure DI (P : Program) (T : List Bool) (n : Nat) (l : List Oper) (K : Env → World → Prop) (a0 : Act) (listed : Array Bool) (a : Act) (w : World) (done : Nat) (E : Env) : Prop where
  size : listed.size = l.length
  closed : ∀ i j, listed.getD i false = true → Bt l i j → listed.getD j false = true
  chain : ∀ c, c ∈ (mkRS P l).chs → (listed.getD c false = true ↔ done.testBit c = true)
  agree : Agree (Xs P l listed) n E a
  keep : Keep (dsts l) a0 a
  pend : ∀ j o, l[j]? = some o → isFlt P o.op = true → listed.getD j false = false → (mkRS P l).enabled done j = true → ∃ r v, Pend P l n o E w r v
  next : ∃ k en, (∀ j o, l[j]? = some o → isFlt P o.op = true → (en.testBit j = true ↔ (mkRS P l).enabled done j = true)) ∧ Next P T n l K k done en E w

theorem go_enter (hT : Calls.Tab P T) (rf : RF P n l) {K : Env → World → Prop} {a0 : Act} {listed : Array Bool} {a : Act} {w : World} {k done en : Nat} {was : Nat → Prop} {E : Env} (size : listed.size = l.length)
    (closed : ∀ i j, listed.getD i false = true → Bt l i j → listed.getD j false = true) (chain : ∀ c, c ∈ (mkRS P l).chs → (listed.getD c false = true ↔ done.testBit c = true))
    (agree : Agree (Xs P l listed) n E a) (keep : Keep (dsts l) a0 a) (sub : ∀ j, was j → (mkRS P l).enabled done j = true) (down : ∀ j k, was j → Bt l j k → was k)
    (hen : ∀ j o, l[j]? = some o → isFlt P o.op = true → (en.testBit j = true ↔ was j))
    (hlst : ∀ j o, l[j]? = some o → isFlt P o.op = true → listed.getD j false = true → was j)
    (prior : ∀ j o, l[j]? = some o → isFlt P o.op = true → listed.getD j false = false → was j → ∃ r v w0, Pend P l n o E w0 r v)
    (h : (mkRS P l).go P T n K k done en E w) : ∃ E', DI P T n l K a0 listed a w done E' := by
  cases k with
  | zero => exact h.elim
  | succ k =>
    unfold RS.go at h
    have hR : (mkRS P l).ops = l := rfl
    rw [hR] at h
    obtain ⟨h1, h2⟩ := reAll_spec _ (fun j hj o ho => by
      rw [fltr_eq] at hj
      obtain ⟨o', h1, h2⟩ := flts_mem.1 (List.mem_filter.1 hj).1
      rw [ho] at h1; cases h1; exact h2) h
    have hnew : ∀ j, j ∈ fltr (fun j => !Nat.testBit en j && (mkRS P l).enabled done j) (mkRS P l).flts ↔ ∃ o, l[j]? = some o ∧ isFlt P o.op = true ∧ en.testBit j = false ∧ (mkRS P l).enabled done j = true := by
      intro j
      rw [fltr_eq, List.mem_filter, flts_mem]
      simp only [Bool.and_eq_true, Bool.not_eq_true']
      constructor
      · rintro ⟨⟨o, a, b⟩, c, d⟩; exact ⟨o, a, b, c, d⟩
      · rintro ⟨o, a, b, c, d⟩; exact ⟨⟨o, a, b⟩, c, d⟩
    obtain ⟨E', k1, k2, k3⟩ := fltAll_spec (n := n) hT _ E (fun j hj o ho => by
      obtain ⟨o', q1, q2, _⟩ := (hnew j).1 hj
      rw [ho] at q1; cases q1
      exact ⟨q2, fun d hd => rf.self j o d ho q2 hd⟩) (by
        rw [fltr_eq]
        refine List.Pairwise.imp_of_mem ?_ (List.Pairwise.filter _ (idxs_asc (f := fun o => isFlt P o.op) (l := l) (s := 0)))
        intro j k hj hk hlt oj ok d hoj hok hd
        have hkf : isFlt P ok.op = true := by
          have hk' := (List.mem_filter.1 hk).1
          obtain ⟨o', q1, q2⟩ := flts_mem.1 hk'
          rw [hok] at q1; cases q1; exact q2
        refine ⟨fun hin => ?_, rf.one j k oj ok d hoj hok (by omega) hd hkf⟩
        rcases rf.dep j k oj ok d hoj hok (by omega) hd hin with q | ⟨q, _⟩
        · have := Bt.lt rf j (show Bt l j k from q); omega
        · rw [hkf] at q; cases q) h1
    have hnl : ∀ j o, l[j]? = some o → isFlt P o.op = true → j ∈ fltr (fun j => !Nat.testBit en j && (mkRS P l).enabled done j) (mkRS P l).flts → listed.getD j false = false := fun j o ho hf hj => by
      obtain ⟨o', q1, q2, q3, q4⟩ := (hnew j).1 hj
      cases hl : listed.getD j false with
      | false => rfl
      | true => rw [(hen j o ho hf).2 (hlst j o ho hf hl)] at q3; cases q3
    refine ⟨E', size, closed, chain, agree.same (fun t ht => ht) (fun t ht => k2 t (fun j hj o ho hd => ht ?_)), keep, fun j o ho hf hl he => ?_, k, _, ?_, k1⟩
    · obtain ⟨o', q1, q2, q3, q4⟩ := (hnew j).1 hj
      rw [ho] at q1; cases q1
      exact Xs_mem.2 ⟨j, o, ho, hnl j o ho q2 hj, q2, hd⟩
    · -- a quiet operation that is not done
      by_cases hold : was j
      · obtain ⟨r, v, w0, hp⟩ := prior j o ho hf hl hold
        have base : ∃ v, Pend P l n o E w r v := by
          cases r with
          | false => exact ⟨v, hp.wants, hp.val, fun h => (by cases h), hp.skip, fun h => (by cases h)⟩
          | true =>
            by_cases hrd : isRd P o.op = true
            · have hmem : j ∈ fltr (fun j => Nat.testBit en j && !(mkRS P l).needed done j && (match l[j]? with | some o => isRd P o.op | none => false)) (mkRS P l).flts := by
                rw [fltr_eq, List.mem_filter]
                refine ⟨flts_mem.2 ⟨o, ho, hf⟩, ?_⟩
                simp only [Bool.and_eq_true, Bool.not_eq_true', ho]
                refine ⟨⟨(hen j o ho hf).2 hold, ?_⟩, hrd⟩
                cases hn : (mkRS P l).needed done j with
                | false => rfl
                | true =>
                  obtain ⟨c, c1, c2, c3⟩ := needed_iff.1 hn
                  rw [closed c j ((chain c c1).2 c2) c3] at hl; cases hl
              obtain ⟨d, e, d1, d2, d3⟩ := h2 j hmem o ho hp.wants
              obtain ⟨u, u1, u2⟩ := flt_opH o.op hf d3
              subst u1
              refine ⟨e.val, hp.wants, fun d' hd' _ => ?_, hp.all, fun h => (by cases h), fun _ w' hw' ρ hF hρ => ?_⟩
              · rw [d1] at hd'; cases hd'; simp [valOf, d2]
              · exact opH_does hT hF (fun x hx => hρ x hx (hp.all rfl hrd x hx)) (u2 w' hw')
            · exact ⟨v, hp.mono (fun _ _ => rfl) (fun _ _ => rfl) (fun h => absurd h hrd)⟩
        obtain ⟨v, hp⟩ := base
        have away : ∀ k ok, k ∈ fltr (fun j => !Nat.testBit en j && (mkRS P l).enabled done j) (mkRS P l).flts → l[k]? = some ok → k ≠ j ∧ ∀ d, ok.dst = some d → d ∉ looks l o := fun k ok hk hok => by
          obtain ⟨o', q1, q2, q3, q4⟩ := (hnew k).1 hk
          rw [hok] at q1; cases q1
          have hkj : k ≠ j := fun e => by subst e; rw [(hen k o ho hf).2 hold] at q3; cases q3
          refine ⟨hkj, fun d hd hin => ?_⟩
          rcases rf.dep j k o ok d ho hok (Ne.symm hkj) hd hin with q | ⟨q, _⟩
          · rw [(hen k ok hok q2).2 (down j k hold q)] at q3; cases q3
          · rw [q2] at q; cases q
        refine ⟨r, v, hp.mono (fun t ht => k2 t (fun k hk ok hok hd => ?_)) (fun d hd => k2 d (fun k hk ok hok hd' => ?_)) (fun _ => rfl)⟩
        · exact (away k ok hk hok).2 t hd ht
        · obtain ⟨o', q1, q2, _⟩ := (hnew k).1 hk
          rw [hok] at q1; cases q1
          exact rf.one j k o ok d ho hok (Ne.symm (away k ok hk hok).1) hd' q2 hd
      · exact k3 j ((hnew j).2 ⟨o, ho, hf, by
          cases hb : en.testBit j with
          | false => rfl
          | true => exact absurd ((hen j o ho hf).1 hb) hold, he⟩) o ho
    · intro j o ho hf
      rw [Nat.testBit_or, Bool.or_eq_true, maskOf_bit, fltr_eq, List.mem_filter, flts_mem]
      constructor
      · rintro (q | ⟨_, q⟩)
        · exact sub j ((hen j o ho hf).1 q)
        · exact q
      · intro q; exact .inr ⟨⟨o, ho, hf⟩, q⟩
end
end Go.Proofs.Ythjnknpgcmmapaa
