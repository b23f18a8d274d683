/-
  Texts of the proof, joined: WalP4, WalM2, RLogM, WalS, WalS2, WalS3, WalS4, WalS5, WalS6, WalS7, WalS8, WalS9, WalSA, WalSB, RLogS, RLogS2.
-/
import Derived.Test.YtmcglicbolhmfaaGreatJ8
import Derived.Test.YtmcglicbolhmfaaGreatVcL
namespace Go.Proofs.YtmcglicbolhmfaaGreat
set_option linter.unusedVariables false
open Go.RowKit

theorem LInv.withD {g : PLog} {d d' : DS} {f n : Int} {es : List (List UInt8)} (h : LInv g d f n es) (hR : d'.R = d.R) (ho : d'.off = false) : LInv g d' f n es :=
  ⟨h.chain, h.ents, by rw [hR]; exact h.files, h.nil, h.base, h.b0, h.b1, h.s0, h.s1, h.n1, h.fi, ho, h.torn⟩
theorem PlanR.may {g : PLog} {d : DS} {f n : Int} {es : List (List UInt8)} {p : List UInt8} {x : PWr} {A : List PSeg} {l0 : List (List UInt8)} {pre : List UInt8} (h : PlanR g f n es p x A l0 pre) (hi : LInv g d f n es) {d' : DS} (ho : d'.off = false) : may d' x.file = 0 ∧ 0 ≤ x.file ∧ x.file < 16384 := by
  have h1 := h.chain.len_le
  have h2 : (entsG A).length + l0.length = es.length := by rw [← h.ents, List.length_append]
  have := hi.fi
  have := hi.base
  have := hi.b0
  have := hi.b1
  have h3 := h.file
  refine ⟨?_, by omega, by omega⟩
  unfold Go.Proofs.YtmcglicbolhmfaaGreat.may
  rw [if_neg (by simp [ho]), if_neg (by omega)]
theorem appendG_eq {g : PLog} {d a s : DS} {p : List UInt8} {x : PWr} {e1 e2 : Int} (hp : planG g d.off p = .ok x) (hm : mendG g d = ((g, d), 0)) (ha : d.append x.file x.b = (a, e1)) (hs : a.sync x.file = (s, e2)) :
    appendG g d p = if e1 ≠ 0 then ((g, a), (0, e1)) else if e2 ≠ 0 then ((g, s), (0, e2)) else (({ g with segs := putG g.segs x p }, s), (headG (putG g.segs x p), 0)) := by
  unfold appendG
  rw [hp]
  simp only [hm]
  rw [if_neg (by decide), ha]
  simp only [hs]
theorem tearG_eq {g : PLog} {d a : DS} {p : List UInt8} {k : Int} {x : PWr} (hk : 0 ≤ k) (hp : planG g d.off p = .ok x) (hm : mendG g d = ((g, d), 0)) (ha : d.append x.file (x.b.take (k.toNat % x.b.length)) = (a, 0)) :
    tearG g d p k = (({ g with torn := some ⟨x.file, if x.fresh = true then 0 else lastSize g.segs, x.fresh⟩ }, a), 0) := by
  unfold tearG
  rw [if_neg (by omega), hp]
  simp only [hm]
  rw [if_neg (by decide), ha]
  simp only
  rw [if_neg (by decide)]
theorem append_eq {d : DS} {f : Int} {b : List UInt8} (hm : may d f = 0) : d.append f b = ({ d.cnt with R := appF d.R f b }, d.cnt.err) := by
  unfold DS.append
  rw [if_neg (by simp [hm])]
/-- Power goes at none, or at one, of the two operations. -/
theorem append_live {g : PLog} {d : DS} {f n : Int} {es : List (List UInt8)} (h : LInv g d f n es) {p : List UInt8} (hp : p.length ≤ 1048576) (hn : n + es.length ≤ 100000) (hfi : f + es.length + 3 ≤ g.base + 4096) (ha : 0 ≤ d.arm) :
    (∃ g' d', appendG g d p = ((g', d'), (n + es.length, 0)) ∧ LInv g' d' f n (es ++ [p]) ∧ d'.ops = d.ops + 2 ∧ 0 ≤ d'.arm ∧ (d.arm = 0 → d'.arm = 0) ∧ g'.base = g.base ∧ g'.size = g.size ∧ (∀ s ∈ g'.segs, s.l ≠ []) ∧ d.arm ≠ 1 ∧ d.arm ≠ 2) ∨
    (∃ d', appendG g d p = ((g, d'), (0, 8)) ∧ Torn d' f n es p true ∧ d'.off = true ∧ d'.ops ≤ d.ops + 2 ∧ d.arm ≠ 0) := by
  obtain ⟨x, A, l0, pre, hpl, hr⟩ := plan_ok h hp hn
  have hoff := h.off
  have hm : mendG g d = ((g, d), 0) := by unfold mendG; rw [h.torn]
  obtain ⟨hmay, f0, f1⟩ := hr.may h hoff
  have happ := append_eq (b := x.b) hmay
  by_cases h1 : d.arm = 1
  · right
    have e : d.cnt.off = true := by simp [DS.cnt, h1]
    refine ⟨{ d.cnt with R := appF d.R x.file x.b }, ?_, hr.torn hp (m := x.b.length) (Nat.le_refl _) (fun e => by cases e) (by rw [List.take_length, h.files]), e, by simp [DS.cnt], by omega⟩
    have e2 : d.cnt.err = 8 := by unfold DS.err; rw [e]; rfl
    rw [appendG_eq (by rw [hoff]; exact hpl) hm happ rfl, e2]
    rfl
  · have e : d.cnt.off = false := by simp [DS.cnt, h1]
    have e2 : d.cnt.err = 0 := by unfold DS.err; rw [e]; rfl
    have hap := hr.app x.b
    rw [← h.files] at hap
    let d1 : DS := { d.cnt with R := appF d.R x.file x.b }
    have hcon : Con f (A.map segF ++ [⟨x.file, pre.length, pre ++ x.b⟩]) := hr.chain.con.snoc (by rw [List.length_map]; exact hr.file)
    have hR1 : d1.R = A.map segF ++ [⟨x.file, pre.length, pre ++ x.b⟩] := hap
    have hfind : d1.find x.file = 0 := by
      unfold DS.find
      rw [if_neg (by rw [(hr.may h (d' := d1) e).1]; simp)]
      have hs := hcon.sorted
      rw [hR1, if_pos (is_end (x := ⟨x.file, pre.length, pre ++ x.b⟩) hs)]
    rw [e2] at happ
    by_cases h2 : d.arm = 2
    · right
      have e3 : d1.cnt.off = true := by simp [DS.cnt, d1, h2]
      have hsy : d1.sync x.file = (d1.cnt, 8) := by
        unfold DS.sync
        rw [if_neg (by simp [hfind]), if_pos e3]
      rw [appendG_eq (by rw [hoff]; exact hpl) hm happ hsy]
      refine ⟨d1.cnt, rfl, hr.torn hp (m := x.b.length) (Nat.le_refl _) (fun e => by cases e) (by rw [List.take_length, ← h.files]; rfl), e3, by simp [DS.cnt, d1], by omega⟩
    · left
      have harm1 : d1.arm = if 0 < d.arm then d.arm - 1 else d.arm := rfl
      have e3 : d1.cnt.off = false := decide_eq_false (by rw [harm1]; split <;> omega)
      have harm2 : 0 ≤ d1.arm := by rw [harm1]; split <;> omega
      have hsy : d1.sync x.file = ({ d1.cnt with R := updF d1.R x.file fun y => { y with safe := y.b.length } }, 0) := by
        unfold DS.sync
        rw [if_neg (by simp [hfind]), if_neg (by simp [e3])]
      rw [appendG_eq (by rw [hoff]; exact hpl) hm happ hsy]
      have hc2 := hr.put
      have hup : updF d1.R x.file (fun y => { y with safe := y.b.length }) = (putG g.segs x p).map segF := by
        rw [hR1, upd_end (x := ⟨x.file, pre.length, pre ++ x.b⟩) hcon.sorted, hr.putF]
      refine ⟨{ g with segs := putG g.segs x p }, { d1.cnt with R := updF d1.R x.file fun y => { y with safe := y.b.length } }, ?_, ⟨hc2, hr.putE, hup, fun e => absurd e hr.putN, h.base, h.b0, h.b1, h.s0, h.s1, h.n1, ?_, e3, h.torn⟩, by simp [DS.cnt, d1], ?_, fun h0 => by simp [DS.cnt, d1, h0], rfl, rfl, hr.putA, h1, h2⟩
      · have : headG (putG g.segs x p) = n + es.length := by
          rw [hc2.head hr.putN, hr.putE, List.length_append]
          simp; omega
        rw [if_neg (by decide), if_neg (by decide), this]
      · show f + ((es ++ [p]).length : Int) + 2 ≤ g.base + 4096
        rw [List.length_append]
        simp; omega
      · show 0 ≤ if 0 < d1.arm then d1.arm - 1 else d1.arm
        split <;> omega
/-- Where power is off nothing is done. -/
theorem append_dead {g : PLog} {d : DS} {p : List UInt8} (hp : p.length ≤ 1048576) (ho : d.off = true) : appendG g d p = ((g, d), (0, 8)) := by
  unfold appendG planG
  rw [if_neg (by omega), if_pos ho]
theorem Torn.withD {d d' : DS} {f n : Int} {es : List (List UInt8)} {p : List UInt8} {whole : Bool} (h : Torn d f n es p whole) (hR : d'.R = d.R) : Torn d' f n es p whole := by
  obtain ⟨A, l0, pre, k, h⟩ := h
  exact ⟨A, l0, pre, k, by rw [hR]; exact h⟩
/-- A write that breaks off. -/
theorem tear_live {g : PLog} {d : DS} {f n : Int} {es : List (List UInt8)} (h : LInv g d f n es) {p : List UInt8} (hp : p.length ≤ 1048576) (hn : n + es.length ≤ 100000) (ha : d.arm = 0) {k : Int} (hk : 0 ≤ k) :
    ∃ g' d', tearG g d p k = ((g', d'), 0) ∧ Torn d' f n es p false ∧ d'.off = false ∧ d'.arm = 0 ∧ d'.ops = d.ops + 1 ∧ g'.segs = g.segs ∧ g'.base = g.base ∧ g'.size = g.size ∧
      (∃ g2 d2, mendG g' d' = ((g2, d2), 0) ∧ LInv g2 d2 f n es ∧ d2.arm = 0 ∧ d2.ops = d'.ops + 1 ∧ g2.segs = g'.segs ∧ g2.base = g.base ∧ g2.size = g.size) := by
  obtain ⟨x, A, l0, pre, hpl, hr⟩ := plan_ok h hp hn
  have hoff := h.off
  have hm : mendG g d = ((g, d), 0) := by unfold mendG; rw [h.torn]
  obtain ⟨hmay, f0, f1⟩ := hr.may h hoff
  have e : d.cnt.off = false := by simp [DS.cnt, ha]
  have e2 : d.cnt.err = 0 := by unfold DS.err; rw [e]; rfl
  let t := x.b.take (k.toNat % x.b.length)
  let d1 : DS := { d.cnt with R := appF d.R x.file t }
  have hlt : k.toNat % x.b.length < x.b.length := Nat.mod_lt _ hr.pos
  have hap := hr.app t
  rw [← h.files] at hap
  have hcon : Con f (A.map segF ++ [⟨x.file, pre.length, pre ++ t⟩]) := hr.chain.con.snoc (by rw [List.length_map]; exact hr.file)
  have hR1 : d1.R = A.map segF ++ [⟨x.file, pre.length, pre ++ t⟩] := hap
  have harm1 : d1.arm = 0 := by simp [DS.cnt, d1, ha]
  have hc1off : d1.cnt.off = false := by simp [DS.cnt, d1, ha]
  have hfind : d1.find x.file = 0 := by
    unfold DS.find
    rw [if_neg (by rw [(hr.may h (d' := d1) e).1]; simp)]
    have hs := hcon.sorted
    rw [hR1, if_pos (is_end (x := ⟨x.file, pre.length, pre ++ t⟩) hs)]
  refine ⟨{ g with torn := some ⟨x.file, if x.fresh = true then 0 else lastSize g.segs, x.fresh⟩ }, d1, ?_, hr.torn hp (m := k.toNat % x.b.length) (by omega) (fun _ => hlt) (by rw [← h.files]), e, harm1, by simp [DS.cnt, d1], rfl, rfl, rfl, ?_⟩
  · exact tearG_eq hk (by rw [hoff]; exact hpl) hm (by rw [append_eq hmay, e2])
  · unfold mendG
    simp only
    cases hfr : x.fresh with
    | true =>
      obtain ⟨hA, hpre⟩ := hr.fresh hfr
      have hrem : d1.remove x.file = ({ d1.cnt with R := A.map segF }, 0) := by
        unfold DS.remove
        rw [if_neg (by simp [hfind]), if_neg (by simp [hc1off])]
        rw [hR1, del_end (x := ⟨x.file, pre.length, pre ++ t⟩) hcon.sorted]
      simp only [if_true, hrem]
      refine ⟨_, _, rfl, ⟨h.chain, h.ents, by show A.map segF = _; rw [hA], h.nil, h.base, h.b0, h.b1, h.s0, h.s1, h.n1, h.fi, hc1off, rfl⟩, by simp [DS.cnt, harm1], by simp [DS.cnt], rfl, rfl, rfl⟩
    | false =>
      obtain ⟨hA, hsz⟩ := hr.old hfr
      have hlen : lenF d1.R x.file = (pre ++ t).length := by
        unfold lenF
        rw [hR1, get_end (x := ⟨x.file, pre.length, pre ++ t⟩) hcon.sorted]
      have hcut : d1.cut x.file (pre.length : Nat) = ({ d1.cnt with R := g.segs.map segF }, 0) := by
        unfold DS.cut
        rw [if_neg (by simp [hfind]), if_neg (by rw [hlen, List.length_append]; omega), if_neg (by simp [hc1off])]
        rw [hR1, upd_end (x := ⟨x.file, pre.length, pre ++ t⟩) hcon.sorted, hA, Int.toNat_natCast]
        simp only [cutF, List.take_left, Nat.min_self]
      simp only [Bool.false_eq_true, if_false, hsz, hcut, if_true]
      refine ⟨_, _, rfl, ⟨h.chain, h.ents, rfl, h.nil, h.base, h.b0, h.b1, h.s0, h.s1, h.n1, h.fi, hc1off, rfl⟩, by simp [DS.cnt, harm1], by simp [DS.cnt], rfl, rfl, rfl⟩
theorem append_mend {g g1 : PLog} {d d1 : DS} {p : List UInt8} (hm : mendG g d = ((g1, d1), 0)) (hs : g1.segs = g.segs) (hb : g1.base = g.base) (hz : g1.size = g.size) (ho : d.off = false) (ho1 : d1.off = false) (ht : g1.torn = none) {x : PWr} (hx : planG g1 false p = .ok x) : appendG g d p = appendG g1 d1 p := by
  have hp : planG g false p = planG g1 false p := by
    unfold planG freshG
    rw [hs, hb, hz]
  have hm1 : mendG g1 d1 = ((g1, d1), 0) := by unfold mendG; rw [ht]
  unfold appendG
  rw [ho, ho1, hp, hx]
  simp only [hm, hm1]
/-- Segments taken away from the front. -/
theorem trim_chain (k : Int) : ∀ (L : List PSeg) (f n : Int) (d : DS), Chain f n L → d.R = L.map segF → d.off = false → d.arm = 0 → 0 ≤ f → f + L.length ≤ 16384 →
    ∃ d' i, trimL L d k = ((L.drop i, d'), 0) ∧ (i < L.length ∨ i = 0) ∧ d'.R = (L.drop i).map segF ∧ d'.off = false ∧ d'.arm = 0 ∧ (i = 0 ∨ n + (entsG (L.take i)).length ≤ k + 1) ∧ d'.ops ≤ d.ops + L.length
  | [], f, n, d, _, hR, ho, ha, _, _ => ⟨d, 0, rfl, .inr rfl, hR, ho, ha, .inl rfl, by simp⟩
  | [s], f, n, d, _, hR, ho, ha, _, _ => ⟨d, 0, rfl, .inr rfl, hR, ho, ha, .inl rfl, by simp⟩
  | s :: t :: L, f, n, d, hc, hR, ho, ha, h0, h1 => by
    have hsrt := hc.con.sorted
    obtain ⟨c1, c2, c3, c4, c5, c6⟩ := hc
    rw [trimL]
    by_cases hk : s.next - 1 ≤ k
    · rw [if_pos hk]
      have hfind : d.find s.file = 0 := by
        unfold DS.find
        have hm : may d s.file = 0 := by
          unfold may
          rw [if_neg (by simp [ho]), if_neg (by simp at h1; omega)]
        rw [if_neg (by simp [hm]), hR, if_pos]
        exact (isK_iff hsrt).2 ⟨segF s, by simp, rfl⟩
      have hrem : d.remove s.file = ({ d.cnt with R := (t :: L).map segF }, 0) := by
        unfold DS.remove
        rw [if_neg (by simp [hfind]), if_neg (by simp [DS.cnt, ha])]
        have : delK PF.id d.R s.file = (t :: L).map segF := by rw [hR]; exact del_front (x := segF s) hsrt
        rw [this]
      rw [hrem]
      obtain ⟨d', i, r1, r2, r3, r4, r5, r6, r7⟩ := trim_chain k (t :: L) (f + 1) (n + s.l.length) { d.cnt with R := (t :: L).map segF } c6 rfl (by simp [DS.cnt, ha]) (by simp [DS.cnt, ha]) (by omega) (by simp at h1 ⊢; omega)
      refine ⟨d', i + 1, by rw [if_neg (by simp)]; exact r1, ?_, r3, r4, r5, .inr ?_, ?_⟩
      · rcases r2 with r2 | r2
        · exact .inl (by simp at r2 ⊢; omega)
        · exact .inl (by simp; omega)
      · rw [List.take_succ_cons, entsG_cons, List.length_append]
        rcases r6 with r6 | r6
        · subst r6
          simp only [PSeg.next, c2] at hk
          simp [entsG]; omega
        · omega
      · simp only [DS.cnt, List.length_cons] at r7 ⊢; omega
    · rw [if_neg hk]
      exact ⟨d, 0, rfl, .inr rfl, hR, ho, ha, .inl rfl, by omega⟩
theorem trim_live {g : PLog} {d : DS} {f n : Int} {es : List (List UInt8)} (h : LInv g d f n es) (ha : d.arm = 0) (k : Int) (hf2 : f + es.length + 1 ≤ 16384) :
    ∃ (g' : PLog) (d' : DS) (f' : Int) (i : Nat), trimG g d k = ((g', d'), 0) ∧ LInv g' d' f' (n + i) (es.drop i) ∧ i ≤ es.length ∧ g'.segs.length ≤ g.segs.length ∧ (g.segs ≠ [] → g'.segs ≠ []) ∧ (i = 0 ∨ n + i ≤ k + 1) ∧ d'.arm = 0 ∧ d'.ops ≤ d.ops + g.segs.length ∧ g'.base = g.base ∧ g'.size = g.size := by
  have hle := h.chain.len_le
  rw [h.ents] at hle
  have hb := h.base
  have hb0 := h.b0
  obtain ⟨d', i, r1, r2, r3, r4, r5, r6, r7⟩ := trim_chain k g.segs f n d h.chain h.files h.off ha (by omega) (by omega)
  have hce := h.chain
  rw [← List.take_append_drop i g.segs] at hce
  obtain ⟨k1, k2, k3⟩ := Chain.app.1 hce
  have hee : entsG (g.segs.take i) ++ entsG (g.segs.drop i) = es := by rw [← entsG_app, List.take_append_drop, h.ents]
  have hel : (entsG (g.segs.take i)).length + (entsG (g.segs.drop i)).length = es.length := by rw [← hee, List.length_append]
  have hil : (g.segs.take i).length = i := by
    rw [List.length_take]
    rcases r2 with r2 | r2 <;> omega
  have hne : g.segs ≠ [] → g.segs.drop i ≠ [] := fun hn e => by
    have := congrArg List.length e
    rw [List.length_drop] at this
    simp at this
    rcases r2 with r2 | r2
    · omega
    · subst r2; exact hn (List.eq_nil_of_length_eq_zero (by omega))
  have hi : i ≤ (entsG (g.segs.take i)).length := by
    by_cases hd : g.segs.drop i = []
    · rcases r2 with r2 | r2
      · have := congrArg List.length hd
        rw [List.length_drop] at this; simp at this; omega
      · omega
    · have hA := k2 hd
      have gen : ∀ A : List PSeg, (∀ s ∈ A, s.l ≠ []) → A.length ≤ (entsG A).length := by
        intro A
        induction A with
        | nil => intro _; simp
        | cons a A ih =>
          intro hA
          have h0 : a.l.length ≠ 0 := fun e => hA a (.head _) (List.eq_nil_of_length_eq_zero e)
          have := ih fun s hs => hA s (.tail _ hs)
          rw [entsG_cons, List.length_append, List.length_cons]; omega
      have := gen _ hA
      rw [hil] at this; exact this
  have hdrop : es.drop (entsG (g.segs.take i)).length = entsG (g.segs.drop i) := by rw [← hee, List.drop_left]
  refine ⟨{ g with segs := g.segs.drop i }, d', f + (g.segs.take i).length, (entsG (g.segs.take i)).length, ?_, ⟨k3, hdrop.symm, r3, fun e => ?_, by show g.base ≤ _; omega, h.b0, h.b1, h.s0, h.s1, by have := h.n1; omega, ?_, r4, h.torn⟩, by omega, by simp, hne, ?_, r5, r7, rfl, rfl⟩
  · unfold trimG
    rw [if_neg (by simp [h.off]), r1]
  · have : g.segs = [] := Classical.byContradiction fun hn => hne hn e
    have h2 := h.nil this
    rw [this]
    simp [entsG, h2]
  · have := h.fi
    have e : (es.drop (entsG (g.segs.take i)).length).length = es.length - (entsG (g.segs.take i)).length := List.length_drop
    show f + ((g.segs.take i).length : Int) + ((es.drop (entsG (g.segs.take i)).length).length : Int) + 2 ≤ g.base + 4096
    rw [e]; omega
  · rcases r6 with r6 | r6
    · subst r6
      left; simp [entsG]
    · exact .inr r6
/-! What holds of the files. -/
theorem planG_len {g : PLog} {off : Bool} {p : List UInt8} {x : PWr} (h : planG g off p = .ok x) : x.b.length ≤ 27 + p.length := by
  have hf : ∀ F, freshG g F p = .ok x → x.b.length ≤ 27 + p.length := fun F h => by
    unfold freshG at h
    split at h
    · cases h
    · cases h
      simp only [List.length_append, recB_len, hdB_len]; omega
  unfold planG at h
  split at h
  · cases h
  · split at h
    · cases h
    · split at h
      · cases h
      · split at h
        · exact hf _ h
        · split at h
          · cases h
            simp only [recB_len]; omega
          · exact hf _ h
theorem mendG_ok {g : PLog} {d : DS} {N : Nat} (h : d.Ok N) : (mendG g d).1.2.Ok N := by
  unfold mendG
  split
  · exact h
  · simp only
    split
    · exact h.remove _
    · exact h.cut _ _
theorem appendG_ok {g : PLog} {d : DS} {N : Nat} (h : d.Ok N) (p : List UInt8) : (appendG g d p).1.2.Ok (N + (27 + p.length)) := by
  unfold appendG
  split
  · exact h.mono (by omega)
  · rename_i x hx
    have hl := planG_len hx
    have hm := mendG_ok (g := g) h
    simp only
    split
    · exact hm.mono (by omega)
    · have ha := (hm.append x.file x.b).mono (M := N + (27 + p.length)) (by omega)
      split
      · exact ha
      · have hs := ha.sync x.file
        split
        · exact hs
        · exact hs
theorem tearG_ok {g : PLog} {d : DS} {N : Nat} (h : d.Ok N) (p : List UInt8) (k : Int) : (tearG g d p k).1.2.Ok (N + (27 + p.length)) := by
  unfold tearG
  split
  · exact h.mono (by omega)
  · split
    · exact h.mono (by omega)
    · rename_i x hx
      have hl := planG_len hx
      have hm := mendG_ok (g := g) h
      simp only
      split
      · exact hm.mono (by omega)
      · have ha := (hm.append x.file (x.b.take (k.toNat % x.b.length))).mono (M := N + (27 + p.length)) (by rw [List.length_take]; omega)
        split
        · exact ha
        · exact ha
theorem trimL_ok {N : Nat} (k : Int) : ∀ (L : List PSeg) (d : DS), d.Ok N → (trimL L d k).1.2.Ok N
  | [], d, h => h
  | [s], d, h => h
  | s :: t :: L, d, h => by
    rw [trimL]
    split
    · split
      · exact h.remove _
      · exact trimL_ok k (t :: L) _ (h.remove _)
    · exact h
theorem trimG_ok {g : PLog} {d : DS} {N : Nat} (h : d.Ok N) (k : Int) : (trimG g d k).1.2.Ok N := by
  unfold trimG
  split
  · exact h
  · exact trimL_ok k g.segs d h
theorem beginG_ok {L : List PSeg} {d : DS} {ids : List Int} {wh : Bool} {N : Nat} (h : d.Ok N) : (beginG L d ids wh).1.Ok N := by
  unfold beginG
  split
  · exact h
  · split
    · exact h.remove _
    · split
      · exact h.cut _ _
      · exact h
theorem openG_ok {d : DS} {base size : Int} {N : Nat} (h : d.Ok N) : (openG d base size).1.Ok N := by
  unfold openG
  split
  · exact h
  · split
    · exact h
    · split
      · exact h
      · split
        · exact beginG_ok h
        · exact beginG_ok h
end Go.Proofs.YtmcglicbolhmfaaGreat
namespace Go.Proofs.YtmcglicbolhmfaaGreat
set_option linter.unusedVariables false
open Go.RowKit

theorem SegOk.mono {s : PSeg} {N M : Nat} (h : SegOk s N) (hm : N ≤ M) : SegOk s M := ⟨h.f0, h.f1, h.n0, h.n1, Nat.le_trans h.sz hm, Nat.le_trans h.ln hm, h.bl⟩
theorem PLog.Ok.mono {g : PLog} {N M : Nat} (h : g.Ok N) (hm : N ≤ M) : g.Ok M := ⟨fun s hs => (h.segs s hs).mono hm, h.b0, h.b1, h.s0, h.s1, Nat.le_trans h.ln hm⟩
theorem PLog.Ok.congr {g g' : PLog} {N : Nat} (h : g.Ok N) (h1 : g'.segs = g.segs) (h2 : g'.base = g.base) (h3 : g'.size = g.size) : g'.Ok N :=
  ⟨by rw [h1]; exact h.segs, by rw [h2]; exact h.b0, by rw [h2]; exact h.b1, by rw [h3]; exact h.s0, by rw [h3]; exact h.s1, by rw [h1]; exact h.ln⟩
theorem mendG_same (g : PLog) (d : DS) : (mendG g d).1.1.segs = g.segs ∧ (mendG g d).1.1.base = g.base ∧ (mendG g d).1.1.size = g.size := by
  unfold mendG; split <;> exact ⟨rfl, rfl, rfl⟩
theorem mendG_gok {g : PLog} {d : DS} {N : Nat} (h : g.Ok N) : (mendG g d).1.1.Ok N := let ⟨a, b, c⟩ := mendG_same g d; h.congr a b c
/-- What a plan is. -/
structure WrOk (g : PLog) (p : List UInt8) (x : PWr) : Prop where
  pl : p.length ≤ 1048576
  hd : headG g.segs < 1099511627776
  old : x.fresh = false → ∃ s, g.segs.getLast? = some s ∧ x.file = s.file
  f0 : x.fresh = true → 0 ≤ x.file ∧ x.file ≤ 100000
  bl : x.b.length ≤ 27 + p.length
  pos : 8 ≤ x.b.length
theorem planG_wr {g : PLog} {N : Nat} (h : g.Ok N) {off : Bool} {p : List UInt8} {x : PWr} (hx : planG g off p = .ok x) : WrOk g p x := by
  have hb := planG_len hx
  have h0 := h.b0
  have h1 := h.b1
  have hp : p.length ≤ 1048576 := by
    unfold planG at hx
    split at hx
    · cases hx
    · omega
  have hfr : ∀ F, 0 ≤ F → headG g.segs < 1099511627776 → freshG g F p = .ok x → WrOk g p x := fun F hF hd hx => by
    unfold freshG at hx
    split at hx
    · cases hx
    · cases hx
      exact ⟨hp, hd, fun e => (by cases e), fun _ => ⟨hF, by show F ≤ 100000; omega⟩, hb, by show 8 ≤ (recB _ ++ recB p).length; rw [List.length_append, recB_len]; omega⟩
  unfold planG at hx
  rw [if_neg (by omega)] at hx
  split at hx
  · cases hx
  · split at hx
    · cases hx
    · rename_i hd
      have hd : headG g.segs < 1099511627776 := by omega
      split at hx
      · exact hfr _ h0 hd hx
      · rename_i s hs
        split at hx
        · cases hx
          exact ⟨hp, hd, fun _ => ⟨s, hs, rfl⟩, fun e => (by cases e), hb, by show 8 ≤ (recB p).length; rw [recB_len]; omega⟩
        · have := (h.segs s (List.mem_of_getLast? hs)).f0
          exact hfr _ (by omega) hd hx
/-- The segments with one more where a new file is begun. -/
def moreG (L : List PSeg) (x : PWr) : List PSeg := if x.fresh = true then L ++ [⟨x.file, headG L + 1, 0, []⟩] else L
def addE (s : PSeg) (n : Nat) (p : List UInt8) : PSeg := { s with size := s.size + n, l := s.l ++ [p] }
theorem putG_eq (L : List PSeg) (x : PWr) (p : List UInt8) {A : List PSeg} {s : PSeg} (h : moreG L x = A ++ [s]) : putG L x p = A ++ [addE s x.b.length p] := by
  unfold putG
  have : (if x.fresh = true then L ++ [⟨x.file, headG L + 1, 0, []⟩] else L) = A ++ [s] := h
  rw [this]
  simp only [List.dropLast_concat, List.getLast?_concat]
  rfl
theorem moreG_last {g : PLog} {p : List UInt8} {x : PWr} (h : WrOk g p x) : ∃ A s, moreG g.segs x = A ++ [s] := by
  unfold moreG
  cases hf : x.fresh with
  | true => exact ⟨_, _, rfl⟩
  | false =>
    obtain ⟨s, hs, _⟩ := h.old hf
    obtain ⟨A, hA⟩ := List.getLast?_eq_some_iff.1 hs
    exact ⟨A, s, by rw [if_neg (by decide)]; exact hA⟩
theorem moreG_ok {g : PLog} {N : Nat} (hg : g.Ok N) {p : List UInt8} {x : PWr} (h : WrOk g p x) : ∀ s ∈ moreG g.segs x, SegOk s N := by
  intro s hs
  unfold moreG at hs
  split at hs
  · rename_i hf
    rcases List.mem_append.1 hs with hs | hs
    · exact hg.segs s hs
    · rw [List.mem_singleton.1 hs]
      have := headG_ge hg.segs
      have := h.hd
      exact ⟨(h.f0 hf).1, (h.f0 hf).2, by show 1 ≤ headG g.segs + 1; omega, by show headG g.segs + 1 ≤ _; omega, Nat.zero_le _, Nat.zero_le _, fun b hb => by cases hb⟩
  · exact hg.segs s hs
theorem moreG_len (L : List PSeg) (x : PWr) : (moreG L x).length ≤ L.length + 1 := by
  unfold moreG; split <;> simp
theorem putG_ok {g : PLog} {N : Nat} (hg : g.Ok N) {p : List UInt8} {x : PWr} (h : WrOk g p x) : (∀ s ∈ putG g.segs x p, SegOk s (N + (28 + p.length))) ∧ (putG g.segs x p).length ≤ N + 1 := by
  obtain ⟨A, s, hA⟩ := moreG_last h
  have hok := moreG_ok hg h
  have hl := moreG_len g.segs x
  have hn := hg.ln
  rw [putG_eq _ _ _ hA]
  rw [hA] at hok hl
  refine ⟨fun t ht => ?_, by simp at hl ⊢; omega⟩
  rcases List.mem_append.1 ht with ht | ht
  · exact (hok t (List.mem_append_left _ ht)).mono (by omega)
  · rw [List.mem_singleton.1 ht]
    have hs := hok s (by simp)
    have := hs.sz
    have := hs.ln
    have := h.bl
    refine ⟨hs.f0, hs.f1, hs.n0, hs.n1, by show s.size + x.b.length ≤ _; omega, by show (s.l ++ [p]).length ≤ _; simp; omega, fun b hb => ?_⟩
    rcases List.mem_append.1 hb with hb | hb
    · exact hs.bl b hb
    · rw [List.mem_singleton.1 hb]; exact h.pl
theorem appendG_gok {g : PLog} {d : DS} {N : Nat} (h : g.Ok N) (p : List UInt8) : (appendG g d p).1.1.Ok (N + (28 + p.length)) := by
  unfold appendG
  split
  · exact h.mono (by omega)
  · rename_i x hx
    have hw := planG_wr h hx
    have hm := mendG_gok (d := d) h
    obtain ⟨m1, _, _⟩ := mendG_same g d
    simp only
    split
    · exact hm.mono (by omega)
    · split
      · exact hm.mono (by omega)
      · split
        · exact hm.mono (by omega)
        · rw [m1]
          obtain ⟨k1, k2⟩ := putG_ok h hw
          exact ⟨k1, hm.b0, hm.b1, hm.s0, hm.s1, by show (putG g.segs x p).length ≤ _; omega⟩
theorem tearG_gok {g : PLog} {d : DS} {N : Nat} (h : g.Ok N) (p : List UInt8) (k : Int) : (tearG g d p k).1.1.Ok N := by
  unfold tearG
  split
  · exact h
  · split
    · exact h
    · have hm := mendG_gok (d := d) h
      simp only
      split
      · exact hm
      · split
        · exact hm
        · exact hm.congr rfl rfl rfl
theorem trimL_sub (n : Int) : ∀ (L : List PSeg) (d : DS), (∀ s ∈ (trimL L d n).1.1, s ∈ L) ∧ (trimL L d n).1.1.length ≤ L.length
  | [], d => ⟨fun s hs => hs, Nat.le_refl _⟩
  | [t], d => ⟨fun s hs => hs, Nat.le_refl _⟩
  | t :: u :: L, d => by
    rw [trimL]
    split
    · split
      · exact ⟨fun s hs => hs, Nat.le_refl _⟩
      · obtain ⟨h1, h2⟩ := trimL_sub n (u :: L) (d.remove t.file).1
        exact ⟨fun s hs => .tail _ (h1 s hs), by simp at h2 ⊢; omega⟩
    · exact ⟨fun s hs => hs, Nat.le_refl _⟩
theorem trimG_gok {g : PLog} {d : DS} {N : Nat} (h : g.Ok N) (n : Int) : (trimG g d n).1.1.Ok N := by
  unfold trimG
  split
  · exact h
  · obtain ⟨h1, h2⟩ := trimL_sub n g.segs d
    exact ⟨fun s hs => h.segs s (h1 s hs), h.b0, h.b1, h.s0, h.s1, Nat.le_trans h2 h.ln⟩
end Go.Proofs.YtmcglicbolhmfaaGreat
namespace Go.Proofs.YtmcglicbolhmfaaGreat
set_option linter.unusedVariables false
open Go.RowKit

/-- Segments' numbers follow each other. -/
def SeqG : List PSeg → Prop
  | [] => True
  | [_] => True
  | s :: t :: r => t.first = s.next ∧ SeqG (t :: r)
theorem SeqG.tail {s : PSeg} {L : List PSeg} (h : SeqG (s :: L)) : SeqG L := by
  cases L with
  | nil => trivial
  | cons t r => exact h.2
theorem SeqG.drop {L : List PSeg} (h : SeqG L) : ∀ i, SeqG (L.drop i)
  | 0 => h
  | i + 1 => by
    cases L with
    | nil => exact trivial
    | cons s L => exact SeqG.drop h.tail i
theorem SeqG.snoc : ∀ {L : List PSeg} {x : PSeg}, SeqG L → (L ≠ [] → x.first = headG L + 1) → SeqG (L ++ [x])
  | [], x, _, _ => trivial
  | [s], x, _, h => ⟨by have := h (by simp); simp only [headG, List.getLast?_singleton] at this; omega, trivial⟩
  | s :: t :: r, x, h, hx => by
    refine ⟨h.1, ?_⟩
    refine SeqG.snoc (L := t :: r) h.2 fun _ => ?_
    have := hx (by simp)
    simp only [headG, List.getLast?_cons_cons] at this ⊢
    exact this
theorem SeqG.last : ∀ {A : List PSeg} {s t : PSeg}, SeqG (A ++ [s]) → t.first = s.first → SeqG (A ++ [t])
  | [], s, t, _, _ => trivial
  | [a], s, t, h, e => ⟨by rw [e]; exact h.1, trivial⟩
  | a :: b :: r, s, t, h, e => ⟨h.1, SeqG.last (A := b :: r) h.2 e⟩
/-- What a Tear left is of the last segment, or a file of its own. -/
def TOk (g : PLog) : Prop := ∀ x, g.torn = some x → 0 ≤ x.file ∧ x.file ≤ 100000 ∧ (x.fresh = false → ∃ s, g.segs.getLast? = some s ∧ s.file = x.file ∧ x.had = s.size) ∧ (x.fresh = true → ∀ s, g.segs.getLast? = some s → s.file ≠ x.file)
structure GOk (g : PLog) (M : Nat) : Prop where
  ok : g.Ok M
  seq : SeqG g.segs
  hd : headG g.segs ≤ 1099511627776
  torn : TOk g
theorem GOk.mono {g : PLog} {N M : Nat} (h : GOk g N) (hm : N ≤ M) : GOk g M := ⟨h.ok.mono hm, h.seq, h.hd, h.torn⟩
theorem mendG_torn (g : PLog) (d : DS) : (mendG g d).1.1.torn = if (mendG g d).2 = 0 then none else g.torn := by
  unfold mendG
  split
  · rename_i h; simp [h]
  · rename_i x h
    simp only
    split <;> simp [h]
theorem mendG_GOk {g : PLog} {d : DS} {M : Nat} (h : GOk g M) : GOk (mendG g d).1.1 M := by
  obtain ⟨h1, h2, h3⟩ := mendG_same g d
  refine ⟨mendG_gok h.ok, by rw [h1]; exact h.seq, by rw [h1]; exact h.hd, fun x hx => ?_⟩
  rw [mendG_torn] at hx
  split at hx
  · cases hx
  · rw [h1]; exact h.torn x hx
theorem headG_snoc (A : List PSeg) (s : PSeg) : headG (A ++ [s]) = s.next - 1 := by
  unfold headG; rw [List.getLast?_concat]
theorem putG_GOk {g : PLog} {M : Nat} (h : GOk g M) {p : List UInt8} {x : PWr} (hw : WrOk g p x) (ht : g.torn = none) : GOk { g with segs := putG g.segs x p } (M + (28 + p.length)) := by
  obtain ⟨k1, k2⟩ := putG_ok h.ok hw
  have hb := h.ok
  have hhd := hw.hd
  obtain ⟨A, s, hA⟩ := moreG_last hw
  have hseq : SeqG (A ++ [s]) ∧ s.next - 1 ≤ headG g.segs := by
    rw [← hA]
    unfold moreG at hA ⊢
    split
    · rename_i hf
      rw [if_pos hf] at hA
      have hs := List.append_inj' hA rfl
      have e : s = ⟨x.file, headG g.segs + 1, 0, []⟩ := by simpa using hs.2.symm
      refine ⟨h.seq.snoc fun _ => rfl, ?_⟩
      rw [e]; simp [PSeg.next]
    · rename_i hf
      rw [if_neg hf] at hA
      refine ⟨h.seq, ?_⟩
      rw [hA, headG_snoc]; exact Int.le_refl _
  rw [putG_eq _ _ _ hA] at k1 k2 ⊢
  refine ⟨⟨k1, hb.b0, hb.b1, hb.s0, hb.s1, by show (A ++ [addE s x.b.length p]).length ≤ _; omega⟩, hseq.1.last rfl, ?_, fun y hy => ?_⟩
  · show headG (A ++ [addE s x.b.length p]) ≤ _
    rw [headG_snoc]
    have e : (addE s x.b.length p).next = s.next + 1 := by simp [PSeg.next, addE]; omega
    rw [e]; omega
  · have : g.torn = some y := hy
    rw [ht] at this; cases this
theorem appendG_GOk {g : PLog} {d : DS} {M : Nat} (h : GOk g M) (p : List UInt8) : GOk (appendG g d p).1.1 (M + (28 + p.length)) := by
  unfold appendG
  split
  · exact h.mono (by omega)
  · rename_i x hx
    have hw := planG_wr h.ok hx
    have hm := mendG_GOk (d := d) h
    obtain ⟨m1, _, _⟩ := mendG_same g d
    have mt := mendG_torn g d
    simp only
    split
    · exact hm.mono (by omega)
    · rename_i h0
      have h0 : (mendG g d).2 = 0 := by simpa using h0
      rw [if_pos h0] at mt
      split
      · exact hm.mono (by omega)
      · split
        · exact hm.mono (by omega)
        · refine putG_GOk hm ⟨hw.pl, by rw [m1]; exact hw.hd, by rw [m1]; exact hw.old, hw.f0, hw.bl, hw.pos⟩ mt
/-- Where a plan writes. -/
theorem planG_file {g : PLog} {M : Nat} (h : g.Ok M) {off : Bool} {p : List UInt8} {x : PWr} (hx : planG g off p = .ok x) : 0 ≤ x.file ∧ x.file ≤ 100000 ∧ (x.fresh = false → ∃ s, g.segs.getLast? = some s ∧ s.file = x.file) ∧ (x.fresh = true → ∀ s, g.segs.getLast? = some s → s.file ≠ x.file) := by
  have hw := planG_wr h hx
  cases hf : x.fresh with
  | false =>
    obtain ⟨s, h1, h2⟩ := hw.old hf
    have := h.segs s (List.mem_of_getLast? h1)
    exact ⟨by rw [h2]; exact this.f0, by rw [h2]; exact this.f1, fun _ => ⟨s, h1, h2.symm⟩, fun e => by cases e⟩
  | true =>
    obtain ⟨f0, f1⟩ := hw.f0 hf
    refine ⟨f0, f1, (fun e => by cases e), fun _ s hs => ?_⟩
    unfold planG at hx
    rw [hs] at hx
    split at hx
    · cases hx
    · split at hx
      · cases hx
      · split at hx
        · cases hx
        · simp only at hx
          split at hx
          · cases hx; cases hf
          · unfold freshG at hx
            split at hx
            · cases hx
            · cases hx
              show s.file ≠ s.file + 1
              omega
theorem tearG_GOk {g : PLog} {d : DS} {M : Nat} (h : GOk g M) (p : List UInt8) (k : Int) : GOk (tearG g d p k).1.1 M := by
  unfold tearG
  split
  · exact h
  · split
    · exact h
    · rename_i x hx
      have hm := mendG_GOk (d := d) h
      obtain ⟨m1, m2, m3⟩ := mendG_same g d
      obtain ⟨f0, f1, f2, f3⟩ := planG_file h.ok hx
      simp only
      split
      · exact hm
      · split
        · exact hm
        · refine ⟨hm.ok.congr rfl rfl rfl, hm.seq, hm.hd, fun y hy => ?_⟩
          have hy : some (⟨x.file, if x.fresh = true then 0 else lastSize (mendG g d).1.1.segs, x.fresh⟩ : PTorn) = some y := hy
          cases hy
          refine ⟨f0, f1, fun hf => ?_, fun hf s hs => f3 hf s (by rw [← m1]; exact hs)⟩
          have hf : x.fresh = false := hf
          obtain ⟨s, h1, h2⟩ := f2 hf
          refine ⟨s, by rw [← m1] at h1; exact h1, h2, ?_⟩
          show (if x.fresh = true then 0 else lastSize (mendG g d).1.1.segs) = _
          rw [if_neg (by rw [hf]; decide)]
          unfold lastSize
          rw [m1, h1]
theorem trimL_drop (n : Int) : ∀ (L : List PSeg) (d : DS), ∃ i, (trimL L d n).1.1 = L.drop i ∧ (i = 0 ∨ i < L.length)
  | [], d => ⟨0, rfl, .inl rfl⟩
  | [t], d => ⟨0, rfl, .inl rfl⟩
  | t :: u :: L, d => by
    rw [trimL]
    split
    · split
      · exact ⟨0, rfl, .inl rfl⟩
      · obtain ⟨i, h1, h2⟩ := trimL_drop n (u :: L) (d.remove t.file).1
        exact ⟨i + 1, by rw [h1]; rfl, .inr (by simp at h2 ⊢; omega)⟩
    · exact ⟨0, rfl, .inl rfl⟩
theorem drop_last {α : Type} {L : List α} {i : Nat} (h : i = 0 ∨ i < L.length) : (L.drop i).getLast? = L.getLast? := by
  rcases h with rfl | h
  · rfl
  · rw [List.getLast?_drop, if_neg (by omega)]
theorem trimG_GOk {g : PLog} {d : DS} {M : Nat} (h : GOk g M) (n : Int) : GOk (trimG g d n).1.1 M := by
  have hk := trimG_gok (d := d) h.ok n
  unfold trimG at hk ⊢
  split
  · exact h
  · rename_i ho
    rw [if_neg ho] at hk
    obtain ⟨i, h1, h2⟩ := trimL_drop n g.segs d
    have hl : (trimL g.segs d n).1.1.getLast? = g.segs.getLast? := by rw [h1]; exact drop_last h2
    refine ⟨hk, by show SeqG (trimL g.segs d n).1.1; rw [h1]; exact h.seq.drop i, ?_, fun x hx => ?_⟩
    · show headG (trimL g.segs d n).1.1 ≤ _
      unfold headG
      rw [hl]; exact h.hd
    · show _ ∧ _ ∧ (_ → ∃ s, (trimL g.segs d n).1.1.getLast? = some s ∧ _) ∧ (_ → ∀ s, (trimL g.segs d n).1.1.getLast? = some s → _)
      rw [hl]; exact h.torn x hx
theorem loadG_seq {L : List PSeg} {R : List PF} {f : Int} {last : Bool} (h : SeqG L) (hh : headG L ≤ 1099511627776) : SeqG (loadG L R f last).2 ∧ headG (loadG L R f last).2 ≤ 1099511627776 := by
  unfold loadG
  simp only
  split
  · exact ⟨h, hh⟩
  · split
    · exact ⟨h, hh⟩
    · rename_i k l n hr hc
      refine ⟨h.snoc fun hL => ?_, ?_⟩
      · show k = headG L + 1
        have : 0 < L.length := List.length_pos_iff.2 hL
        rcases Int.lt_trichotomy k (headG L + 1) with h1 | h1 | h1
        · exact absurd (.inr (.inl ⟨this, by omega⟩)) hc
        · exact h1
        · exact absurd (.inr (.inl ⟨this, by omega⟩)) hc
      · show headG (L ++ [_]) ≤ _
        rw [headG_snoc]
        simp only [PSeg.next]
        rcases Int.lt_or_le 1099511627776 (k + l.length - 1) with h1 | h1
        · exact absurd (.inr (.inr h1)) hc
        · exact h1
theorem loadsG_seq {R : List PF} : ∀ (ids : List Int) (prev : Option Int) (L : List PSeg) (wh : Bool), SeqG L → headG L ≤ 1099511627776 → ∀ {L' wh'}, loadsG R ids prev L wh = some (L', wh') → SeqG L' ∧ headG L' ≤ 1099511627776
  | [], prev, L, wh, h, hh, L', wh', e => by cases e; exact ⟨h, hh⟩
  | f :: r, prev, L, wh, h, hh, L', wh', e => by
    rw [loadsG_cons] at e
    obtain ⟨k1, k2⟩ := loadG_seq (R := R) (f := f) (last := r.isEmpty) h hh
    split at e
    · cases e
    · split at e
      · cases e
      · exact loadsG_seq r _ _ _ k1 k2 e
/-- What the reference's Read finds. -/
def findR : List PSeg → Int → Option (List UInt8)
  | [], _ => none
  | s :: r, n => if n - s.first < s.l.length then s.l[(n - s.first).toNat]? else findR r n
theorem findR_eq : ∀ (L : List PSeg) (n : Int), SeqG L → (∀ s, L.head? = some s → s.first ≤ n) → findR L n = readG L n
  | [], n, _, _ => rfl
  | [s], n, _, h => by
    have h0 := h s rfl
    have hnx : s.next = s.first + s.l.length := rfl
    by_cases h1 : n - s.first < s.l.length
    · rw [findR, readG, if_pos h1, if_pos (c := s.first ≤ n ∧ n < s.next) ⟨h0, by omega⟩]
    · rw [findR, readG, if_neg h1, if_neg (c := s.first ≤ n ∧ n < s.next) (by omega)]; rfl
  | s :: t :: r, n, hs, h => by
    have h0 := h s rfl
    have hnx : s.next = s.first + s.l.length := rfl
    have h1 := hs.1
    by_cases h2 : n - s.first < s.l.length
    · rw [findR, readG, if_pos h2, if_pos (c := s.first ≤ n ∧ n < s.next) ⟨h0, by omega⟩]
    · rw [findR, readG, if_neg h2, if_neg (c := s.first ≤ n ∧ n < s.next) (by omega)]
      exact findR_eq (t :: r) n hs.2 fun x hx => by cases hx; omega
theorem readG_low : ∀ (L : List PSeg) (n : Int), SeqG L → (∀ s ∈ L, 0 ≤ (s.l.length : Int)) → n < lowG L → readG L n = none
  | [], n, _, _, _ => rfl
  | [s], n, _, _, h => by
    have h : n < s.first := h
    rw [readG, if_neg (by omega)]; rfl
  | s :: t :: r, n, hs, hp, h => by
    have h : n < s.first := h
    have h1 := hs.1
    simp only [PSeg.next] at h1
    rw [readG, if_neg (by omega)]
    exact readG_low (t :: r) n hs.2 (fun x hx => by omega) (by show n < t.first; omega)
theorem readG_high : ∀ (L : List PSeg) (n : Int), SeqG L → headG L < n → readG L n = none
  | [], n, _, _ => rfl
  | [s], n, _, h => by
    have h : s.next - 1 < n := h
    rw [readG, if_neg (by omega)]; rfl
  | s :: t :: r, n, hs, h => by
    have hh : headG (s :: t :: r) = headG (t :: r) := by simp only [headG, List.getLast?_cons_cons]
    rw [hh] at h
    have hle : ∀ (L : List PSeg) (x : PSeg), SeqG (x :: L) → x.next - 1 ≤ headG (x :: L) := by
      intro L
      induction L with
      | nil => intro x _; exact Int.le_refl _
      | cons y L ih =>
        intro x hx
        have := ih y hx.2
        have h1 := hx.1
        have h2 : headG (x :: y :: L) = headG (y :: L) := by simp only [headG, List.getLast?_cons_cons]
        rw [h2]
        simp only [PSeg.next] at *
        omega
    have h1 := hle r t hs.2
    have h2 := hs.1
    have h3 : s.next ≤ n := by simp only [PSeg.next] at *; omega
    rw [readG, if_neg (by omega)]
    exact readG_high (t :: r) n hs.2 h
end Go.Proofs.YtmcglicbolhmfaaGreat
namespace Go.Proofs.YtmcglicbolhmfaaGreat
set_option linter.unusedVariables false
set_option maxRecDepth 100000
open Go.RowKit

/-- A segment, as it lies there. -/
structure XSeg where
  file : Int
  first : Int
  size : Nat
  es : List BEnt
  a : Option Addr
  c : Nat
def XSeg.lv (x : XSeg) : Value := .slice x.a x.es.length x.c
def XSeg.pl (x : XSeg) : PSeg := ⟨x.file, x.first, x.size, byts x.es⟩
def xcells (x : XSeg) : List Value := [.int .i64 x.file, .int .i64 x.first, .int .i64 x.size, x.lv]
theorem xcells_len (x : XSeg) : (xcells x).length = 4 := rfl
theorem byts_len (es : List BEnt) : (byts es).length = es.length := by simp [byts]
def XSegO (x : XSeg) : HProp := HFact True [.ob (OwnSo x.lv 31 1 x.es.length (vals x.es)), .ob (HAll BEntO x.es)]
theorem XSegO.iff {W w : World} {x : XSeg} {l : List Chunk} : SL W (.ob (XSegO x) :: l) w ↔ SL W (.ob (OwnSo x.lv 31 1 x.es.length (vals x.es)) :: .ob (HAll BEntO x.es) :: l) w := by
  unfold XSegO
  simp only [SL.fact, List.cons_append, List.nil_append, true_and]
def TornO (v : Value) (t : Option PTorn) : HProp := match t with
  | none => HFact (v = .pointer none) []
  | some x => HEx fun b : Nat => HFact (v = .pointer (some ⟨b, 0, none⟩)) [.pt b [.int .i64 x.file, .int .i64 x.had, .bool x.fresh] 138]
theorem TornO_none {W w : World} {v : Value} {l : List Chunk} : SL W (.ob (TornO v none) :: l) w ↔ v = .pointer none ∧ SL W l w := by
  unfold TornO
  simp only [SL.fact, List.nil_append]
theorem TornO_some {W w : World} {v : Value} {x : PTorn} {l : List Chunk} : SL W (.ob (TornO v (some x)) :: l) w ↔ ∃ b : Nat, v = .pointer (some ⟨b, 0, none⟩) ∧ SL W (.pt b [.int .i64 x.file, .int .i64 x.had, .bool x.fresh] 138 :: l) w := by
  unfold TornO
  simp only [SL.ex, SL.fact, List.cons_append, List.nil_append]
theorem TornO_one {W w : World} {v : Value} {t : Option PTorn} {l : List Chunk} (h : SL W (.ob (TornO v t) :: l) w) : v.oneCell' = true := by
  cases t with
  | none => rw [(TornO_none.1 h).1]; rfl
  | some x => obtain ⟨b, rfl, _⟩ := TornO_some.1 h; rfl
abbrev lcells (sv tv : Value) (dp : Nat) (base size : Int) : List Value := [sv, .pointer (some ⟨dp, 0, none⟩), .int .i64 base, .int .i64 size, tv]
abbrev RowX (sv : Value) (xs : List XSeg) : Chunk := .ob (OwnSo sv 97 4 xs.length (xs.map xcells).flatten)
abbrev LogX (lp dp : Nat) (base size : Int) (t : Option PTorn) (sv tv : Value) (xs : List XSeg) : List Chunk := [.pt lp (lcells sv tv dp base size) 58, RowX sv xs, .ob (HAll XSegO xs), .ob (TornO tv t)]
/-- A log. -/
def LogO (lp dp : Nat) (g : PLog) : HProp := HEx fun x : Value × Value × List XSeg => HFact (x.2.2.map XSeg.pl = g.segs) (LogX lp dp g.base g.size g.torn x.1 x.2.1 x.2.2)
theorem LogO.iff {W w : World} {lp dp : Nat} {g : PLog} {l : List Chunk} : SL W (.ob (LogO lp dp g) :: l) w ↔ ∃ sv tv xs, xs.map XSeg.pl = g.segs ∧ SL W (.pt lp (lcells sv tv dp g.base g.size) 58 :: RowX sv xs :: .ob (HAll XSegO xs) :: .ob (TornO tv g.torn) :: l) w := by
  unfold LogO LogX
  simp only [SL.ex, SL.fact, List.cons_append, List.nil_append]
  exact ⟨fun ⟨x, h1, h2⟩ => ⟨x.1, x.2.1, x.2.2, h1, h2⟩, fun ⟨a, b, c, h1, h2⟩ => ⟨(a, b, c), h1, h2⟩⟩
section
variable {W w : World} {l : List Chunk}
/-- One segment's cells. -/
theorem s_segSo {v : Value} {xs : List XSeg} {j : Nat} {k : IntKind} {K : Value → Prop} (h : SL W l w) (m : Has (RowX v xs) l) (hj : j < xs.length) (hK : K (.agg (xcells xs[j]).toArray)) : HIdx 4 v (.int k (j : Int)) fun p => HLdN 4 p w K := by
  refine s_idxSo h m hj fun b o hb => ⟨⟨b, o, none⟩, xcells xs[j], rfl, rfl, fun i u hu => ?_, hK⟩
  rw [Addr.add_lit]
  have hi : i < 4 := (List.getElem?_eq_some_iff.1 hu).1
  exact hb i u hi (flat_get xcells_len hj hu)
theorem s_segF {v u : Value} {xs : List XSeg} {i j : Nat} {k : IntKind} {K : Value → Prop} (h : SL W l w) (m : Has (RowX v xs) l) (hj : j < xs.length) (hu : (xcells xs[j])[i]? = some u) (hK : K u) : HIdx 4 v (.int k (j : Int)) fun p => HFld i p fun q => HLd q w K := by
  refine s_idxSo h m hj fun b o hb => ?_
  refine s_fld ?_
  have hi : i < 4 := (List.getElem?_eq_some_iff.1 hu).1
  exact ⟨_, u, rfl, hb i u hi (flat_get xcells_len hj hu), hK⟩
end
theorem flatX_len (xs : List XSeg) : (xs.map xcells).flatten.length = xs.length * 4 := by
  induction xs with
  | nil => rfl
  | cons x xs ih => simp [ih, xcells_len]; omega
/-- wal.segment.next -/
theorem next39_spec (f n s : Int) (a : Option Addr) (k c : Nat) (h : -1000000000000000 ≤ n ∧ n ≤ 1000000000000000) (hk : k ≤ 1000000000000000) : Spec Tryz.prog 46 [.agg #[.int .i64 f, .int .i64 n, .int .i64 s, .slice a k c]] [] (Gives (.int .i64 (n + k)) []) := by
  intro W F w hS; apply vc46; unfold Vc46; (try simp only [app] at hS)
  refine ⟨[.int .i64 f, .int .i64 n, .int .i64 s, .slice a k c], rfl, ?_⟩
  (repeat (first | (with_reducible first | apply Q0 | refine Qa hS ?_ | refine Qb ?_ | refine Qc hS ?_ | refine Qd ?_) | ((with_reducible refine Qe hS ?_); clear hS; intro w hS; simp only [List.set] at hS) | ((with_reducible first | refine s_draw hS ?_ | refine Qf hS ?_); clear hS; intro w hS) | ((with_reducible first | refine s_new hS ?_ | refine Qg hS ?_); clear hS; intro b w hS)))
  (exact ⟨_, ⟨rfl, rfl⟩, SL.into hS Xi⟩)
theorem nextX_spec (x : XSeg) {N : Nat} (h : SegOk x.pl N) (hN : N ≤ 1000000000000000) : Spec Tryz.prog 46 [.agg (xcells x).toArray] [] (Gives (.int .i64 x.pl.next) []) := by
  have h1 := h.n0; have h2 := h.n1; have h3 := h.ln
  have e : x.pl.next = x.first + x.es.length := by simp [PSeg.next, XSeg.pl, byts_len]
  rw [e]
  have h3 : x.es.length ≤ N := by simpa [XSeg.pl, byts_len] using h3
  exact next39_spec x.file x.first x.size x.a x.es.length x.c (by simp only [XSeg.pl] at h1 h2; omega) (by omega)
abbrev AtSegs (cs : List Value) (sv : Value) : Prop := cs[0]? = some sv
/-- wal.reader.Head -/
theorem headL_spec (lp : Nat) (cs : List Value) (t : TypeId) (sv : Value) (xs : List XSeg) (hcs : cs[0]? = some sv) {N : Nat} (h : ∀ s ∈ xs.map XSeg.pl, SegOk s N) (hN : N ≤ 1000000000000000) (hl : xs.length ≤ 1000000000000000) :
    Spec Tryz.prog 17 [.pointer (some ⟨lp, 0, none⟩)] [.pt lp cs t, RowX sv xs] (Gives (.int .i64 (headG (xs.map XSeg.pl))) [.pt lp cs t, RowX sv xs]) := by
  intro W F w hS; apply vc17; unfold Vc17; (try simp only [app] at hS)
  (repeat (first | (with_reducible first | apply Q0 | refine Qa hS ?_ | refine Qb ?_ | refine Qc hS ?_ | refine Qd ?_) | ((with_reducible refine Qe hS ?_); clear hS; intro w hS; simp only [List.set] at hS) | ((with_reducible first | refine s_draw hS ?_ | refine Qf hS ?_); clear hS; intro w hS) | ((with_reducible first | refine s_new hS ?_ | refine Qg hS ?_); clear hS; intro b w hS)))
  refine s_ld hS .hd hcs ?_
  refine s_lenSo hS Xh ?_
  (repeat (first | (with_reducible first | apply Q0 | refine Qa hS ?_ | refine Qb ?_ | refine Qc hS ?_ | refine Qd ?_) | ((with_reducible refine Qe hS ?_); clear hS; intro w hS; simp only [List.set] at hS) | ((with_reducible first | refine s_draw hS ?_ | refine Qf hS ?_); clear hS; intro w hS) | ((with_reducible first | refine s_new hS ?_ | refine Qg hS ?_); clear hS; intro b w hS)))
  have hh := headG_ge h
  refine s_ifp (fun h0 => ?_) (fun h0 => ?_)
  · have : xs = [] := List.eq_nil_of_length_eq_zero (by omega)
    subst this
    (exact ⟨_, ⟨rfl, rfl⟩, SL.into hS Xi⟩)
  · (repeat (first | (with_reducible first | apply Q0 | refine Qa hS ?_ | refine Qb ?_ | refine Qc hS ?_ | refine Qd ?_) | ((with_reducible refine Qe hS ?_); clear hS; intro w hS; simp only [List.set] at hS) | ((with_reducible first | refine s_draw hS ?_ | refine Qf hS ?_); clear hS; intro w hS) | ((with_reducible first | refine s_new hS ?_ | refine Qg hS ?_); clear hS; intro b w hS)))
    refine s_ld hS .hd hcs ?_
    (repeat (first | (with_reducible first | apply Q0 | refine Qa hS ?_ | refine Qb ?_ | refine Qc hS ?_ | refine Qd ?_) | ((with_reducible refine Qe hS ?_); clear hS; intro w hS; simp only [List.set] at hS) | ((with_reducible first | refine s_draw hS ?_ | refine Qf hS ?_); clear hS; intro w hS) | ((with_reducible first | refine s_new hS ?_ | refine Qg hS ?_); clear hS; intro b w hS)))
    refine s_ld hS .hd hcs ?_
    refine s_lenSo hS Xh ?_
    (repeat (first | (with_reducible first | apply Q0 | refine Qa hS ?_ | refine Qb ?_ | refine Qc hS ?_ | refine Qd ?_) | ((with_reducible refine Qe hS ?_); clear hS; intro w hS; simp only [List.set] at hS) | ((with_reducible first | refine s_draw hS ?_ | refine Qf hS ?_); clear hS; intro w hS) | ((with_reducible first | refine s_new hS ?_ | refine Qg hS ?_); clear hS; intro b w hS)))
    have e : ((xs.length : Nat) : Int) - 1 = ((xs.length - 1 : Nat) : Int) := by omega
    rw [e]
    have hj : xs.length - 1 < xs.length := by omega
    refine s_segSo hS Xh hj ?_
    have hm : (xs[xs.length - 1]'hj).pl ∈ xs.map XSeg.pl := List.mem_map.2 ⟨_, List.getElem_mem hj, rfl⟩
    have hg : headG (xs.map XSeg.pl) = (xs[xs.length - 1]'hj).pl.next - 1 := by
      unfold headG
      rw [List.getLast?_map, List.getLast?_eq_getElem?, List.getElem?_eq_getElem hj]; rfl
    have hok := h _ hm
    rw [hg] at hh ⊢
    (apply s_call (nextX_spec _ hok hN) hS; exact Xp; clear hS)
    (rintro v post ⟨rfl, rfl⟩ w hS; (try simp only [app] at hS); (repeat (first | (with_reducible first | apply Q0 | refine Qa hS ?_ | refine Qb ?_ | refine Qc hS ?_ | refine Qd ?_) | ((with_reducible refine Qe hS ?_); clear hS; intro w hS; simp only [List.set] at hS) | ((with_reducible first | refine s_draw hS ?_ | refine Qf hS ?_); clear hS; intro w hS) | ((with_reducible first | refine s_new hS ?_ | refine Qg hS ?_); clear hS; intro b w hS))))
    exact ⟨_, ⟨rfl, rfl⟩, SL.into hS Xi⟩
/-- wal.reader.Low -/
theorem lowL_spec (lp : Nat) (cs : List Value) (t : TypeId) (sv : Value) (xs : List XSeg) (hcs : cs[0]? = some sv) (hl : xs.length ≤ 1000000000000000) :
    Spec Tryz.prog 16 [.pointer (some ⟨lp, 0, none⟩)] [.pt lp cs t, RowX sv xs] (Gives (.int .i64 (lowG (xs.map XSeg.pl))) [.pt lp cs t, RowX sv xs]) := by
  intro W F w hS; apply vc16; unfold Vc16; (try simp only [app] at hS)
  (repeat (first | (with_reducible first | apply Q0 | refine Qa hS ?_ | refine Qb ?_ | refine Qc hS ?_ | refine Qd ?_) | ((with_reducible refine Qe hS ?_); clear hS; intro w hS; simp only [List.set] at hS) | ((with_reducible first | refine s_draw hS ?_ | refine Qf hS ?_); clear hS; intro w hS) | ((with_reducible first | refine s_new hS ?_ | refine Qg hS ?_); clear hS; intro b w hS)))
  refine s_ld hS .hd hcs ?_
  refine s_lenSo hS Xh ?_
  (repeat (first | (with_reducible first | apply Q0 | refine Qa hS ?_ | refine Qb ?_ | refine Qc hS ?_ | refine Qd ?_) | ((with_reducible refine Qe hS ?_); clear hS; intro w hS; simp only [List.set] at hS) | ((with_reducible first | refine s_draw hS ?_ | refine Qf hS ?_); clear hS; intro w hS) | ((with_reducible first | refine s_new hS ?_ | refine Qg hS ?_); clear hS; intro b w hS)))
  refine s_ifp (fun h0 => ?_) (fun h0 => ?_)
  · have : xs = [] := List.eq_nil_of_length_eq_zero (by omega)
    subst this
    (exact ⟨_, ⟨rfl, rfl⟩, SL.into hS Xi⟩)
  · cases xs with
    | nil => simp at h0
    | cons x xs =>
      (repeat (first | (with_reducible first | apply Q0 | refine Qa hS ?_ | refine Qb ?_ | refine Qc hS ?_ | refine Qd ?_) | ((with_reducible refine Qe hS ?_); clear hS; intro w hS; simp only [List.set] at hS) | ((with_reducible first | refine s_draw hS ?_ | refine Qf hS ?_); clear hS; intro w hS) | ((with_reducible first | refine s_new hS ?_ | refine Qg hS ?_); clear hS; intro b w hS)))
      refine s_ld hS .hd hcs ?_
      refine s_segF (j := 0) (i := 1) hS Xh (by simp) (u := .int .i64 x.first) rfl ?_
      exact ⟨_, ⟨rfl, rfl⟩, hS⟩
/-- wal.reader.Segments -/
theorem segmentsL_spec (lp : Nat) (cs : List Value) (t : TypeId) (sv : Value) (xs : List XSeg) (hcs : cs[0]? = some sv) :
    Spec Tryz.prog 20 [.pointer (some ⟨lp, 0, none⟩)] [.pt lp cs t, RowX sv xs] (Gives (.int .i64 xs.length) [.pt lp cs t, RowX sv xs]) := by
  intro W F w hS; apply vc20; unfold Vc20; (try simp only [app] at hS)
  (repeat (first | (with_reducible first | apply Q0 | refine Qa hS ?_ | refine Qb ?_ | refine Qc hS ?_ | refine Qd ?_) | ((with_reducible refine Qe hS ?_); clear hS; intro w hS; simp only [List.set] at hS) | ((with_reducible first | refine s_draw hS ?_ | refine Qf hS ?_); clear hS; intro w hS) | ((with_reducible first | refine s_new hS ?_ | refine Qg hS ?_); clear hS; intro b w hS)))
  refine s_ld hS .hd hcs ?_
  refine s_lenSo hS Xh ?_
  (exact ⟨_, ⟨rfl, rfl⟩, SL.into hS Xi⟩)
end Go.Proofs.YtmcglicbolhmfaaGreat
namespace Go.Proofs.YtmcglicbolhmfaaGreat
set_option linter.unusedVariables false
set_option maxRecDepth 100000
open Go.RowKit

theorem HAll.back {W w : World} {l : List Chunk} {α : Type} {A : α → HProp} {xs : List α} {t : Nat} {x : α} (h : SL W (.ob (A x) :: .ob (HAll A (xs.eraseIdx t)) :: l) w) (hx : xs[t]? = some x) : SL W (.ob (HAll A xs) :: l) w := by
  obtain ⟨ht, e⟩ := List.getElem?_eq_some_iff.1 hx
  have := HAll.put h ht
  rwa [← e, List.set_getElem_self] at this
theorem xseg_next (x : XSeg) : x.pl.next = x.first + x.es.length := by simp [PSeg.next, XSeg.pl, byts_len]
theorem readG_at (xs : List XSeg) (i : Nat) (n : Int) : readG ((xs.drop i).map XSeg.pl) n = match xs[i]? with
  | none => none
  | some x => if x.first ≤ n ∧ n < x.pl.next then (byts x.es)[(n - x.first).toNat]? else readG ((xs.drop (i + 1)).map XSeg.pl) n := by
  cases h : xs[i]? with
  | none =>
    have : xs.drop i = [] := List.drop_eq_nil_of_le (by rw [List.getElem?_eq_none_iff] at h; exact h)
    rw [this]; rfl
  | some x =>
    obtain ⟨hi, e⟩ := List.getElem?_eq_some_iff.1 h
    rw [List.drop_eq_getElem_cons hi, e]; rfl
def ReadLQ (pre : List Chunk) (o : Option (List UInt8)) (r : Value) (post : List Chunk) : Prop := match o with
  | none => r = .tuple #[.slice none 0 0, .int .i64 5] ∧ post = pre
  | some b => ∃ u, r = .tuple #[u, .int .i64 0] ∧ post = .ob (OwnSl u 5 1 b.length (b.map u8c)) :: pre
/-- wal.reader.Read -/
theorem readL_spec (lp : Nat) (cs : List Value) (t : TypeId) (sv : Value) (xs : List XSeg) (n : Int) (hcs : cs[0]? = some sv) {N : Nat} (h : ∀ s ∈ xs.map XSeg.pl, SegOk s N) (hN : N ≤ 1000000000000000) (hl : xs.length ≤ 1000000000000000) (hn : -9000000000000000000 ≤ n ∧ n ≤ 9000000000000000000) :
    Spec Tryz.prog 19 [.pointer (some ⟨lp, 0, none⟩), .int .i64 n] [.pt lp cs t, RowX sv xs, .ob (HAll XSegO xs)] (ReadLQ [.pt lp cs t, RowX sv xs, .ob (HAll XSegO xs)] (readG (xs.map XSeg.pl) n)) := by
  intro W F w hS; apply vc19; unfold Vc19; (try simp only [app] at hS)
  (repeat (first | (with_reducible first | apply Q0 | refine Qa hS ?_ | refine Qb ?_ | refine Qc hS ?_ | refine Qd ?_) | ((with_reducible refine Qe hS ?_); clear hS; intro w hS; simp only [List.set] at hS) | ((with_reducible first | refine s_draw hS ?_ | refine Qf hS ?_); clear hS; intro w hS) | ((with_reducible first | refine s_new hS ?_ | refine Qg hS ?_); clear hS; intro b w hS)))
  refine s_ld hS .hd hcs ?_
  refine s_lenSo hS Xh ?_
  refine ⟨fun vs w => ∃ i : Nat, i ≤ xs.length ∧ vs = [.int .i64 i] ∧ readG (xs.map XSeg.pl) n = readG ((xs.drop i).map XSeg.pl) n ∧ SL W (.pt lp cs t :: RowX sv xs :: .ob (HAll XSegO xs) :: F) w, fun vs _ => match vs with
    | [.int _ i] => xs.length - i.toNat
    | _ => 0, ⟨0, by omega, rfl, rfl, hS⟩, ?_⟩
  clear hS
  rintro v1 w1 ⟨i, hi, hv, hr, hS⟩
  cases hv
  rw [readG_at] at hr
  (repeat (first | (with_reducible first | apply Q0 | refine Qa hS ?_ | refine Qb ?_ | refine Qc hS ?_ | refine Qd ?_) | ((with_reducible refine Qe hS ?_); clear hS; intro w hS; simp only [List.set] at hS) | ((with_reducible first | refine s_draw hS ?_ | refine Qf hS ?_); clear hS; intro w hS) | ((with_reducible first | refine s_new hS ?_ | refine Qg hS ?_); clear hS; intro b w hS)))
  refine s_ifp (fun h0 => ?_) (fun h0 => ?_)
  · have hj : i < xs.length := by omega
    have hx : xs[i]? = some xs[i] := List.getElem?_eq_getElem hj
    refine s_segSo hS Xh hj ?_
    have hok := h _ (List.mem_map.2 ⟨_, List.getElem_mem hj, rfl⟩)
    rw [hx] at hr
    simp only at hr
    generalize xs[i] = x at *
    have hnx := xseg_next x
    unfold xcells XSeg.lv
    (repeat (first | (with_reducible first | apply Q0 | refine Qa hS ?_ | refine Qb ?_ | refine Qc hS ?_ | refine Qd ?_) | ((with_reducible refine Qe hS ?_); clear hS; intro w hS; simp only [List.set] at hS) | ((with_reducible first | refine s_draw hS ?_ | refine Qf hS ?_); clear hS; intro w hS) | ((with_reducible first | refine s_new hS ?_ | refine Qg hS ?_); clear hS; intro b w hS)))
    refine s_ifp (fun h1 => ?_) (fun h1 => ?_)
    · (repeat (first | (with_reducible first | apply Q0 | refine Qa hS ?_ | refine Qb ?_ | refine Qc hS ?_ | refine Qd ?_) | ((with_reducible refine Qe hS ?_); clear hS; intro w hS; simp only [List.set] at hS) | ((with_reducible first | refine s_draw hS ?_ | refine Qf hS ?_); clear hS; intro w hS) | ((with_reducible first | refine s_new hS ?_ | refine Qg hS ?_); clear hS; intro b w hS)))
      (apply s_call (nextX_spec x hok hN) hS; exact Xp; clear hS)
      (rintro v post ⟨rfl, rfl⟩ w hS; (try simp only [app] at hS); (repeat (first | (with_reducible first | apply Q0 | refine Qa hS ?_ | refine Qb ?_ | refine Qc hS ?_ | refine Qd ?_) | ((with_reducible refine Qe hS ?_); clear hS; intro w hS; simp only [List.set] at hS) | ((with_reducible first | refine s_draw hS ?_ | refine Qf hS ?_); clear hS; intro w hS) | ((with_reducible first | refine s_new hS ?_ | refine Qg hS ?_); clear hS; intro b w hS))))
      refine s_ifp (fun h2 => ?_) (fun h2 => ?_)
      · rw [if_pos ⟨h1, h2⟩] at hr
        have hh1 := hok.n0
        have hh2 := hok.n1
        simp only [XSeg.pl] at hh1 hh2
        (repeat (first | (with_reducible first | apply Q0 | refine Qa hS ?_ | refine Qb ?_ | refine Qc hS ?_ | refine Qd ?_) | ((with_reducible refine Qe hS ?_); clear hS; intro w hS; simp only [List.set] at hS) | ((with_reducible first | refine s_draw hS ?_ | refine Qf hS ?_); clear hS; intro w hS) | ((with_reducible first | refine s_new hS ?_ | refine Qg hS ?_); clear hS; intro b w hS)))
        obtain ⟨j, hjn⟩ := Int.eq_ofNat_of_zero_le (show 0 ≤ n - x.first by omega)
        have hjl : j < x.es.length := by omega
        rw [hjn] at hr ⊢
        have hS := HAll.take (SL.into hS (t := .ob (HAll XSegO xs) :: .pt lp cs t :: RowX sv xs :: F) Xi) hx
        have hS := XSegO.iff.1 hS
        unfold XSeg.lv at hS
        refine s_idxSo (j := j) hS .hd hjl fun b o hb => ?_
        have hej : x.es[j]? = some x.es[j] := List.getElem?_eq_getElem hjl
        have hval : (vals x.es)[j * 1 + 0]? = some x.es[j].1 := by simp [vals, hjl]
        refine ⟨_, _, rfl, hb 0 _ (by omega) hval, ?_⟩
        have hS := HAll.take (SL.into hS (t := .ob (HAll BEntO x.es) :: .ob (OwnSo (.slice x.a x.es.length x.c) 31 1 x.es.length (vals x.es)) :: .ob (HAll XSegO (xs.eraseIdx i)) :: .pt lp cs t :: RowX sv xs :: F) Xi) hej
        have hbl : x.es[j].2.length ≤ 1048576 := hok.bl _ (List.mem_map.2 ⟨_, List.getElem_mem hjl, rfl⟩)
        have hby : (byts x.es)[((j : Int)).toNat]? = some x.es[j].2 := by simp [byts, hjl]
        rw [hby] at hr
        rw [hr]
        generalize x.es[j] = e at *
        have hR : Rdb (.ob (BEntO e)) e.1 e.2 := Rdb.own
        obtain ⟨ea, ec, ee, _⟩ := hR.sl hS .hd
        have hR2 := hR
        rw [ee] at hR2 ⊢
        refine s_clone (cs := e.2.map u8c) hS (fun w' c hS' => hR2.src hS' (.tl .hd)) (by simp) (u8c_one _) (by omega) ?_
        clear hS; intro u w hS _
        (repeat (first | (with_reducible first | apply Q0 | refine Qa hS ?_ | refine Qb ?_ | refine Qc hS ?_ | refine Qd ?_) | ((with_reducible refine Qe hS ?_); clear hS; intro w hS; simp only [List.set] at hS) | ((with_reducible first | refine s_draw hS ?_ | refine Qf hS ?_); clear hS; intro w hS) | ((with_reducible first | refine s_new hS ?_ | refine Qg hS ?_); clear hS; intro b w hS)))
        have hS := HAll.back (SL.into hS (t := .ob (BEntO e) :: .ob (HAll BEntO (x.es.eraseIdx j)) :: .ob (OwnSo (.slice x.a x.es.length x.c) 31 1 x.es.length (vals x.es)) :: .ob (OwnSl u 5 1 e.2.length (e.2.map u8c)) :: .ob (HAll XSegO (xs.eraseIdx i)) :: .pt lp cs t :: RowX sv xs :: F) Xi) hej
        have hS := (XSegO.iff (x := x)).2 (SL.into hS (t := .ob (OwnSo (.slice x.a x.es.length x.c) 31 1 x.es.length (vals x.es)) :: .ob (HAll BEntO x.es) :: .ob (OwnSl u 5 1 e.2.length (e.2.map u8c)) :: .ob (HAll XSegO (xs.eraseIdx i)) :: .pt lp cs t :: RowX sv xs :: F) Xi)
        have hS := HAll.back (SL.into hS (t := .ob (XSegO x) :: .ob (HAll XSegO (xs.eraseIdx i)) :: .ob (OwnSl u 5 1 e.2.length (e.2.map u8c)) :: .pt lp cs t :: RowX sv xs :: F) Xi) hx
        exact ⟨.ob (OwnSl u 5 1 e.2.length (e.2.map u8c)) :: [.pt lp cs t, RowX sv xs, .ob (HAll XSegO xs)], ⟨u, rfl, rfl⟩, SL.into hS Xi⟩
      · rw [if_neg (by omega)] at hr
        (repeat (first | (with_reducible first | apply Q0 | refine Qa hS ?_ | refine Qb ?_ | refine Qc hS ?_ | refine Qd ?_) | ((with_reducible refine Qe hS ?_); clear hS; intro w hS; simp only [List.set] at hS) | ((with_reducible first | refine s_draw hS ?_ | refine Qf hS ?_); clear hS; intro w hS) | ((with_reducible first | refine s_new hS ?_ | refine Qg hS ?_); clear hS; intro b w hS)))
        refine ⟨⟨i + 1, by omega, rfl, hr, SL.into hS Xi⟩, ?_⟩
        simp only [Int.toNat_natCast]; omega
    · rw [if_neg (by omega)] at hr
      (repeat (first | (with_reducible first | apply Q0 | refine Qa hS ?_ | refine Qb ?_ | refine Qc hS ?_ | refine Qd ?_) | ((with_reducible refine Qe hS ?_); clear hS; intro w hS; simp only [List.set] at hS) | ((with_reducible first | refine s_draw hS ?_ | refine Qf hS ?_); clear hS; intro w hS) | ((with_reducible first | refine s_new hS ?_ | refine Qg hS ?_); clear hS; intro b w hS)))
      refine ⟨⟨i + 1, by omega, rfl, hr, SL.into hS Xi⟩, ?_⟩
      simp only [Int.toNat_natCast]; omega
  · have hx : xs[i]? = none := List.getElem?_eq_none (by omega)
    rw [hx] at hr
    rw [hr]
    exact ⟨_, ⟨rfl, rfl⟩, hS⟩
end Go.Proofs.YtmcglicbolhmfaaGreat
namespace Go.Proofs.YtmcglicbolhmfaaGreat
set_option linter.unusedVariables false
set_option maxRecDepth 100000
open Go.RowKit

theorem mendG_some (segs : List PSeg) (base size : Int) (x : PTorn) (d : DS) : mendG ⟨segs, base, size, some x⟩ d =
    ((⟨segs, base, size, if (if x.fresh = true then d.remove x.file else d.cut x.file x.had).2 = 0 then none else some x⟩, (if x.fresh = true then d.remove x.file else d.cut x.file x.had).1), (if x.fresh = true then d.remove x.file else d.cut x.file x.had).2) := rfl
/-- wal.Log.mend -/
theorem mendL_spec (lp dp : Nat) (g : PLog) (d : DS) (N : Nat) (hok : d.Ok N) (hN : N ≤ 140737488355328) (hops : d.ops ≤ 100000) :
    Spec Tryz.prog 62 [.pointer (some ⟨lp, 0, none⟩)] [.ob (LogO lp dp g), .ob (DskO dp d)] (Gives (.int .i64 (mendG g d).2) [.ob (LogO lp dp (mendG g d).1.1), .ob (DskO dp (mendG g d).1.2)]) := by
  intro W F w hS; apply vc62; unfold Vc62; (try simp only [app] at hS)
  obtain ⟨sv, tv, xs, hx, hS⟩ := LogO.iff.1 hS
  obtain ⟨segs, base, size, torn⟩ := g
  simp only at hx hS
  cases torn with
  | none =>
    rw [show mendG ⟨segs, base, size, none⟩ d = ((⟨segs, base, size, none⟩, d), 0) from rfl]
    obtain ⟨rfl, hS⟩ := TornO_none.1 (SL.into hS (t := .ob (TornO tv none) :: .pt lp (lcells sv tv dp base size) 58 :: RowX sv xs :: .ob (HAll XSegO xs) :: .ob (DskO dp d) :: F) Xi)
    (repeat (first | (with_reducible first | apply Q0 | refine Qa hS ?_ | refine Qb ?_ | refine Qc hS ?_ | refine Qd ?_) | ((with_reducible refine Qe hS ?_); clear hS; intro w hS; simp only [List.set] at hS) | ((with_reducible first | refine s_draw hS ?_ | refine Qf hS ?_); clear hS; intro w hS) | ((with_reducible first | refine s_new hS ?_ | refine Qg hS ?_); clear hS; intro b w hS)))
    refine s_ift ?_
    (repeat (first | (with_reducible first | apply Q0 | refine Qa hS ?_ | refine Qb ?_ | refine Qc hS ?_ | refine Qd ?_) | ((with_reducible refine Qe hS ?_); clear hS; intro w hS; simp only [List.set] at hS) | ((with_reducible first | refine s_draw hS ?_ | refine Qf hS ?_); clear hS; intro w hS) | ((with_reducible first | refine s_new hS ?_ | refine Qg hS ?_); clear hS; intro b w hS)))
    have hS := (TornO_none (v := .pointer none)).2 ⟨rfl, hS⟩
    exact ⟨_, ⟨rfl, rfl⟩, LogO.iff.2 ⟨sv, .pointer none, xs, hx, SL.into hS Xi⟩⟩
  | some x =>
    obtain ⟨tb, rfl, hS⟩ := TornO_some.1 (SL.into hS (t := .ob (TornO tv (some x)) :: .pt lp (lcells sv tv dp base size) 58 :: RowX sv xs :: .ob (HAll XSegO xs) :: .ob (DskO dp d) :: F) Xi)
    rw [mendG_some]
    (repeat (first | (with_reducible first | apply Q0 | refine Qa hS ?_ | refine Qb ?_ | refine Qc hS ?_ | refine Qd ?_) | ((with_reducible refine Qe hS ?_); clear hS; intro w hS; simp only [List.set] at hS) | ((with_reducible first | refine s_draw hS ?_ | refine Qf hS ?_); clear hS; intro w hS) | ((with_reducible first | refine s_new hS ?_ | refine Qg hS ?_); clear hS; intro b w hS)))
    refine s_iff ?_
    (repeat (first | (with_reducible first | apply Q0 | refine Qa hS ?_ | refine Qb ?_ | refine Qc hS ?_ | refine Qd ?_) | ((with_reducible refine Qe hS ?_); clear hS; intro w hS; simp only [List.set] at hS) | ((with_reducible first | refine s_draw hS ?_ | refine Qf hS ?_); clear hS; intro w hS) | ((with_reducible first | refine s_new hS ?_ | refine Qg hS ?_); clear hS; intro b w hS)))
    refine s_if (fun hf => ?_) (fun hf => ?_)
    · simp only [if_pos hf]
      (repeat (first | (with_reducible first | apply Q0 | refine Qa hS ?_ | refine Qb ?_ | refine Qc hS ?_ | refine Qd ?_) | ((with_reducible refine Qe hS ?_); clear hS; intro w hS; simp only [List.set] at hS) | ((with_reducible first | refine s_draw hS ?_ | refine Qf hS ?_); clear hS; intro w hS) | ((with_reducible first | refine s_new hS ?_ | refine Qg hS ?_); clear hS; intro b w hS)))
      (apply s_call (removeD_spec dp d N hok hops x.file) hS; exact Xp; clear hS)
      (rintro v post ⟨rfl, rfl⟩ w hS; (try simp only [app] at hS); (repeat (first | (with_reducible first | apply Q0 | refine Qa hS ?_ | refine Qb ?_ | refine Qc hS ?_ | refine Qd ?_) | ((with_reducible refine Qe hS ?_); clear hS; intro w hS; simp only [List.set] at hS) | ((with_reducible first | refine s_draw hS ?_ | refine Qf hS ?_); clear hS; intro w hS) | ((with_reducible first | refine s_new hS ?_ | refine Qg hS ?_); clear hS; intro b w hS))))
      refine s_ifp (fun h => ?_) (fun h => ?_)
      · rw [if_pos h]
        (repeat (first | (with_reducible first | apply Q0 | refine Qa hS ?_ | refine Qb ?_ | refine Qc hS ?_ | refine Qd ?_) | ((with_reducible refine Qe hS ?_); clear hS; intro w hS; simp only [List.set] at hS) | ((with_reducible first | refine s_draw hS ?_ | refine Qf hS ?_); clear hS; intro w hS) | ((with_reducible first | refine s_new hS ?_ | refine Qg hS ?_); clear hS; intro b w hS)))
        have hS := (TornO_none (v := .pointer none)).2 ⟨rfl, hS⟩
        exact ⟨_, ⟨rfl, rfl⟩, LogO.iff.2 ⟨sv, .pointer none, xs, hx, SL.into hS Xi⟩⟩
      · rw [if_neg h]
        have hS := (TornO_some (v := .pointer (some ⟨tb, 0, none⟩)) (x := x)).2 ⟨tb, rfl, SL.into hS (t := .pt tb [.int .i64 x.file, .int .i64 x.had, .bool x.fresh] 138 :: .pt lp (lcells sv (.pointer (some ⟨tb, 0, none⟩)) dp base size) 58 :: RowX sv xs :: .ob (HAll XSegO xs) :: .ob (DskO dp (d.remove x.file).1) :: F) Xi⟩
        exact ⟨_, ⟨rfl, rfl⟩, LogO.iff.2 ⟨sv, _, xs, hx, SL.into hS Xi⟩⟩
    · have hf : ¬ x.fresh = true := by rw [hf]; decide
      simp only [if_neg hf]
      (repeat (first | (with_reducible first | apply Q0 | refine Qa hS ?_ | refine Qb ?_ | refine Qc hS ?_ | refine Qd ?_) | ((with_reducible refine Qe hS ?_); clear hS; intro w hS; simp only [List.set] at hS) | ((with_reducible first | refine s_draw hS ?_ | refine Qf hS ?_); clear hS; intro w hS) | ((with_reducible first | refine s_new hS ?_ | refine Qg hS ?_); clear hS; intro b w hS)))
      (apply s_call (cutD_spec dp d N hok hN hops x.file x.had) hS; exact Xp; clear hS)
      (rintro v post ⟨rfl, rfl⟩ w hS; (try simp only [app] at hS); (repeat (first | (with_reducible first | apply Q0 | refine Qa hS ?_ | refine Qb ?_ | refine Qc hS ?_ | refine Qd ?_) | ((with_reducible refine Qe hS ?_); clear hS; intro w hS; simp only [List.set] at hS) | ((with_reducible first | refine s_draw hS ?_ | refine Qf hS ?_); clear hS; intro w hS) | ((with_reducible first | refine s_new hS ?_ | refine Qg hS ?_); clear hS; intro b w hS))))
      refine s_ifp (fun h => ?_) (fun h => ?_)
      · rw [if_pos h]
        (repeat (first | (with_reducible first | apply Q0 | refine Qa hS ?_ | refine Qb ?_ | refine Qc hS ?_ | refine Qd ?_) | ((with_reducible refine Qe hS ?_); clear hS; intro w hS; simp only [List.set] at hS) | ((with_reducible first | refine s_draw hS ?_ | refine Qf hS ?_); clear hS; intro w hS) | ((with_reducible first | refine s_new hS ?_ | refine Qg hS ?_); clear hS; intro b w hS)))
        have hS := (TornO_none (v := .pointer none)).2 ⟨rfl, hS⟩
        exact ⟨_, ⟨rfl, rfl⟩, LogO.iff.2 ⟨sv, .pointer none, xs, hx, SL.into hS Xi⟩⟩
      · rw [if_neg h]
        have hS := (TornO_some (v := .pointer (some ⟨tb, 0, none⟩)) (x := x)).2 ⟨tb, rfl, SL.into hS (t := .pt tb [.int .i64 x.file, .int .i64 x.had, .bool x.fresh] 138 :: .pt lp (lcells sv (.pointer (some ⟨tb, 0, none⟩)) dp base size) 58 :: RowX sv xs :: .ob (HAll XSegO xs) :: .ob (DskO dp (d.cut x.file x.had).1) :: F) Xi⟩
        exact ⟨_, ⟨rfl, rfl⟩, LogO.iff.2 ⟨sv, _, xs, hx, SL.into hS Xi⟩⟩
end Go.Proofs.YtmcglicbolhmfaaGreat
namespace Go.Proofs.YtmcglicbolhmfaaGreat
set_option linter.unusedVariables false
set_option maxRecDepth 100000
open Go.RowKit

def wrcells (x : PWr) (u : Value) : List Value := [.int .i64 x.file, .bool x.fresh, u]
def PlanQ (lp dp : Nat) (g : PLog) (d : DS) (X : Chunk) (p : List UInt8) (y : Except Int PWr) (r : Value) (post : List Chunk) : Prop := match y with
  | .error e => (∃ z, r = .tuple #[.agg #[.int .i64 0, .bool false, .slice none 0 0], .int .i64 z] ∧ z = e ∧ z ≠ 0) ∧ post = [.ob (LogO lp dp g), .ob (DskO dp d), X]
  | .ok x => ∃ a c, r = .tuple #[.agg #[.int .i64 x.file, .bool x.fresh, .slice a x.b.length c], .int .i64 0] ∧ post = [.ob (OwnSl (.slice a x.b.length c) 5 1 x.b.length (x.b.map u8c)), .ob (LogO lp dp g), .ob (DskO dp d), X]
theorem PLog.Ok.xs {g : PLog} {N : Nat} (h : g.Ok N) {xs : List XSeg} (hx : xs.map XSeg.pl = g.segs) : (∀ s ∈ xs.map XSeg.pl, SegOk s N) ∧ xs.length ≤ N ∧ 0 ≤ headG g.segs ∧ headG g.segs ≤ 1099511627776 + N := by
  refine ⟨by rw [hx]; exact h.segs, ?_, headG_ge h.segs⟩
  have := h.ln
  rw [← hx, List.length_map] at this; exact this
/-- wal.Log.plan -/
theorem planL_spec (X : Chunk) (lp dp : Nat) (g : PLog) (d : DS) (v : Value) (p : List UInt8) (hv : Rdb X v p) (hp : p.length ≤ 140737488355328) {M : Nat} (hg : g.Ok M) (hM : M ≤ 1000000000000000) :
    Spec Tryz.prog 61 [.pointer (some ⟨lp, 0, none⟩), v] [.ob (LogO lp dp g), .ob (DskO dp d), X] (PlanQ lp dp g d X p (planG g d.off p)) := by
  intro W F w hS; apply vc61; unfold Vc61; (try simp only [app] at hS)
  obtain ⟨sv, tv, xs, hx, hS⟩ := LogO.iff.1 hS
  obtain ⟨hok, hl, hh0, hh1⟩ := hg.xs hx
  have hb0 := hg.b0
  have hb1 := hg.b1
  have hs1 := hg.s1
  have hs0 := hg.s0
  have hhead : headG (xs.map XSeg.pl) = headG g.segs := by rw [hx]
  (repeat (first | (with_reducible first | apply Q0 | refine Qa hS ?_ | refine Qb ?_ | refine Qc hS ?_ | refine Qd ?_) | ((with_reducible refine Qe hS ?_); clear hS; intro w hS; simp only [List.set] at hS) | ((with_reducible first | refine s_draw hS ?_ | refine Qf hS ?_); clear hS; intro w hS) | ((with_reducible first | refine s_new hS ?_ | refine Qg hS ?_); clear hS; intro b w hS)))
  (apply s_call (put_spec X v p hv hp) hS; exact Xp; clear hS)
  rintro r post hQ w hS
  unfold PutQ at hQ
  by_cases hbig : 1048576 < p.length
  · rw [if_pos hbig] at hQ
    obtain ⟨rfl, rfl⟩ := hQ
    have hpl : planG g d.off p = .error 1 := by unfold planG; rw [if_pos hbig]
    rw [hpl]
    (try simp only [app] at hS)
    (repeat (first | (with_reducible first | apply Q0 | refine Qa hS ?_ | refine Qb ?_ | refine Qc hS ?_ | refine Qd ?_) | ((with_reducible refine Qe hS ?_); clear hS; intro w hS; simp only [List.set] at hS) | ((with_reducible first | refine s_draw hS ?_ | refine Qf hS ?_); clear hS; intro w hS) | ((with_reducible first | refine s_new hS ?_ | refine Qg hS ?_); clear hS; intro b w hS)))
    refine s_ifp (fun _ => ?_) (fun h => absurd (by decide) h)
    (repeat (first | (with_reducible first | apply Q0 | refine Qa hS ?_ | refine Qb ?_ | refine Qc hS ?_ | refine Qd ?_) | ((with_reducible refine Qe hS ?_); clear hS; intro w hS; simp only [List.set] at hS) | ((with_reducible first | refine s_draw hS ?_ | refine Qf hS ?_); clear hS; intro w hS) | ((with_reducible first | refine s_new hS ?_ | refine Qg hS ?_); clear hS; intro b w hS)))
    exact ⟨_, ⟨⟨1, rfl, rfl, by decide⟩, rfl⟩, SL.into (LogO.iff.2 ⟨sv, tv, xs, hx, SL.into hS (t := .pt lp (lcells sv tv dp g.base g.size) 58 :: RowX sv xs :: .ob (HAll XSegO xs) :: .ob (TornO tv g.torn) :: .ob (DskO dp d) :: X :: F) Xi⟩) Xi⟩
  · rw [if_neg hbig] at hQ
    obtain ⟨u, rfl, rfl⟩ := hQ
    (try simp only [app] at hS)
    have hu := hS.ownOne .hd
    obtain ⟨au, cu, eu, _⟩ := OwnSl.at hS .hd
    subst eu
    (repeat (first | (with_reducible first | apply Q0 | refine Qa hS ?_ | refine Qb ?_ | refine Qc hS ?_ | refine Qd ?_) | ((with_reducible refine Qe hS ?_); clear hS; intro w hS; simp only [List.set] at hS) | ((with_reducible first | refine s_draw hS ?_ | refine Qf hS ?_); clear hS; intro w hS) | ((with_reducible first | refine s_new hS ?_ | refine Qg hS ?_); clear hS; intro b w hS)))
    refine s_ifp (fun h => absurd rfl h) (fun _ => ?_)
    (repeat (first | (with_reducible first | apply Q0 | refine Qa hS ?_ | refine Qb ?_ | refine Qc hS ?_ | refine Qd ?_) | ((with_reducible refine Qe hS ?_); clear hS; intro w hS; simp only [List.set] at hS) | ((with_reducible first | refine s_draw hS ?_ | refine Qf hS ?_); clear hS; intro w hS) | ((with_reducible first | refine s_new hS ?_ | refine Qg hS ?_); clear hS; intro b w hS)))
    (apply s_call (downD_spec dp d) hS; exact Xp; clear hS)
    (rintro v post ⟨rfl, rfl⟩ w hS; (try simp only [app] at hS); (repeat (first | (with_reducible first | apply Q0 | refine Qa hS ?_ | refine Qb ?_ | refine Qc hS ?_ | refine Qd ?_) | ((with_reducible refine Qe hS ?_); clear hS; intro w hS; simp only [List.set] at hS) | ((with_reducible first | refine s_draw hS ?_ | refine Qf hS ?_); clear hS; intro w hS) | ((with_reducible first | refine s_new hS ?_ | refine Qg hS ?_); clear hS; intro b w hS))))
    have hfin : ∀ {w : World} {l : List Chunk}, SL W (.pt lp (lcells sv tv dp g.base g.size) 58 :: RowX sv xs :: .ob (HAll XSegO xs) :: .ob (TornO tv g.torn) :: l) w → SL W (.ob (LogO lp dp g) :: l) w := fun h => LogO.iff.2 ⟨sv, tv, xs, hx, h⟩
    refine s_if (fun ho => ?_) (fun ho => ?_)
    · have hpl : planG g d.off p = .error 8 := by unfold planG; rw [if_neg hbig, if_pos ho]
      rw [hpl]
      (repeat (first | (with_reducible first | apply Q0 | refine Qa hS ?_ | refine Qb ?_ | refine Qc hS ?_ | refine Qd ?_) | ((with_reducible refine Qe hS ?_); clear hS; intro w hS; simp only [List.set] at hS) | ((with_reducible first | refine s_draw hS ?_ | refine Qf hS ?_); clear hS; intro w hS) | ((with_reducible first | refine s_new hS ?_ | refine Qg hS ?_); clear hS; intro b w hS)))
      exact ⟨_, ⟨⟨8, rfl, rfl, by decide⟩, rfl⟩, SL.into (hfin (SL.into hS (t := .pt lp (lcells sv tv dp g.base g.size) 58 :: RowX sv xs :: .ob (HAll XSegO xs) :: .ob (TornO tv g.torn) :: .ob (DskO dp d) :: X :: F) Xi)) Xi⟩
    · (repeat (first | (with_reducible first | apply Q0 | refine Qa hS ?_ | refine Qb ?_ | refine Qc hS ?_ | refine Qd ?_) | ((with_reducible refine Qe hS ?_); clear hS; intro w hS; simp only [List.set] at hS) | ((with_reducible first | refine s_draw hS ?_ | refine Qf hS ?_); clear hS; intro w hS) | ((with_reducible first | refine s_new hS ?_ | refine Qg hS ?_); clear hS; intro b w hS)))
      (apply s_call (headL_spec lp (lcells sv tv dp g.base g.size) 58 sv xs rfl hok hM (by omega)) hS; exact Xp; clear hS)
      (rintro v post ⟨rfl, rfl⟩ w hS; (try simp only [app] at hS); (repeat (first | (with_reducible first | apply Q0 | refine Qa hS ?_ | refine Qb ?_ | refine Qc hS ?_ | refine Qd ?_) | ((with_reducible refine Qe hS ?_); clear hS; intro w hS; simp only [List.set] at hS) | ((with_reducible first | refine s_draw hS ?_ | refine Qf hS ?_); clear hS; intro w hS) | ((with_reducible first | refine s_new hS ?_ | refine Qg hS ?_); clear hS; intro b w hS))))
      rw [hhead]
      refine s_ifp (fun h1 => ?_) (fun h1 => ?_)
      · have hpl : planG g d.off p = .error 7 := by unfold planG; rw [if_neg hbig, if_neg (by rw [ho]; decide), if_pos h1]
        rw [hpl]
        (repeat (first | (with_reducible first | apply Q0 | refine Qa hS ?_ | refine Qb ?_ | refine Qc hS ?_ | refine Qd ?_) | ((with_reducible refine Qe hS ?_); clear hS; intro w hS; simp only [List.set] at hS) | ((with_reducible first | refine s_draw hS ?_ | refine Qf hS ?_); clear hS; intro w hS) | ((with_reducible first | refine s_new hS ?_ | refine Qg hS ?_); clear hS; intro b w hS)))
        exact ⟨_, ⟨⟨7, rfl, rfl, by decide⟩, rfl⟩, SL.into (hfin (SL.into hS (t := .pt lp (lcells sv tv dp g.base g.size) 58 :: RowX sv xs :: .ob (HAll XSegO xs) :: .ob (TornO tv g.torn) :: .ob (DskO dp d) :: X :: F) Xi)) Xi⟩
      · (repeat (first | (with_reducible first | apply Q0 | refine Qa hS ?_ | refine Qb ?_ | refine Qc hS ?_ | refine Qd ?_) | ((with_reducible refine Qe hS ?_); clear hS; intro w hS; simp only [List.set] at hS) | ((with_reducible first | refine s_draw hS ?_ | refine Qf hS ?_); clear hS; intro w hS) | ((with_reducible first | refine s_new hS ?_ | refine Qg hS ?_); clear hS; intro b w hS)))
        refine ⟨fun vs w => ∃ f : Int, vs = [.int .i64 f] ∧ planG g d.off p = freshG g f p ∧ -1000000 ≤ f ∧ f ≤ 1000000 ∧ SL W (.pt b [.int .i64 0, .bool false, .slice none 0 0] 99 :: .pt lp (lcells sv tv dp g.base g.size) 58 :: RowX sv xs :: .ob (HAll XSegO xs) :: .ob (TornO tv g.torn) :: .ob (DskO dp d) :: .ob (OwnSl (.slice au (recB p).length cu) 5 1 (recB p).length ((recB p).map u8c)) :: X :: F) w, ?_, ?_⟩
        · (repeat (first | (with_reducible first | apply Q0 | refine Qa hS ?_ | refine Qb ?_ | refine Qc hS ?_ | refine Qd ?_) | ((with_reducible refine Qe hS ?_); clear hS; intro w hS; simp only [List.set] at hS) | ((with_reducible first | refine s_draw hS ?_ | refine Qf hS ?_); clear hS; intro w hS) | ((with_reducible first | refine s_new hS ?_ | refine Qg hS ?_); clear hS; intro b w hS)))
          refine s_lenSo hS Xh ?_
          (repeat (first | (with_reducible first | apply Q0 | refine Qa hS ?_ | refine Qb ?_ | refine Qc hS ?_ | refine Qd ?_) | ((with_reducible refine Qe hS ?_); clear hS; intro w hS; simp only [List.set] at hS) | ((with_reducible first | refine s_draw hS ?_ | refine Qf hS ?_); clear hS; intro w hS) | ((with_reducible first | refine s_new hS ?_ | refine Qg hS ?_); clear hS; intro b w hS)))
          refine s_ifp (fun h2 => ?_) (fun h2 => ?_)
          · (repeat (first | (with_reducible first | apply Q0 | refine Qa hS ?_ | refine Qb ?_ | refine Qc hS ?_ | refine Qd ?_) | ((with_reducible refine Qe hS ?_); clear hS; intro w hS; simp only [List.set] at hS) | ((with_reducible first | refine s_draw hS ?_ | refine Qf hS ?_); clear hS; intro w hS) | ((with_reducible first | refine s_new hS ?_ | refine Qg hS ?_); clear hS; intro b w hS)))
            have e : ((xs.length : Nat) : Int) - 1 = ((xs.length - 1 : Nat) : Int) := by omega
            rw [e]
            have hj : xs.length - 1 < xs.length := by omega
            refine s_segSo hS Xh hj ?_
            have hm : (xs[xs.length - 1]'hj).pl ∈ xs.map XSeg.pl := List.mem_map.2 ⟨_, List.getElem_mem hj, rfl⟩
            have hlast : g.segs.getLast? = some (xs[xs.length - 1]'hj).pl := by
              rw [← hx, List.getLast?_map, List.getLast?_eq_getElem?, List.getElem?_eq_getElem hj]; rfl
            have hsk := hok _ hm
            generalize xs[xs.length - 1]'hj = x at *
            have hpl0 : planG g d.off p = if x.pl.l.length = 0 ∨ (x.pl.size : Int) + (recB p).length ≤ g.size then .ok ⟨x.pl.file, false, recB p⟩ else freshG g (x.pl.file + 1) p := by
              unfold planG; rw [if_neg hbig, if_neg (by rw [ho]; decide), if_neg (by omega), hlast]
            have hxl : x.pl.l.length = x.es.length := by simp [XSeg.pl, byts_len]
            have hxz : x.pl.size = x.size := rfl
            have hxf : x.pl.file = x.file := rfl
            have k1 := hsk.f0
            have k2 := hsk.f1
            have k3 := hsk.sz
            rw [hxl, hxz, hxf] at hpl0
            rw [hxf] at k1 k2
            rw [hxz] at k3
            have hrl := recB_len p
            unfold xcells XSeg.lv
            (repeat (first | (with_reducible first | apply Q0 | refine Qa hS ?_ | refine Qb ?_ | refine Qc hS ?_ | refine Qd ?_) | ((with_reducible refine Qe hS ?_); clear hS; intro w hS; simp only [List.set] at hS) | ((with_reducible first | refine s_draw hS ?_ | refine Qf hS ?_); clear hS; intro w hS) | ((with_reducible first | refine s_new hS ?_ | refine Qg hS ?_); clear hS; intro b w hS)))
            refine s_ifp (fun h3 => ?_) (fun h3 => ?_)
            · rw [if_pos (.inl (by omega))] at hpl0
              rw [hpl0]
              (repeat (first | (with_reducible first | apply Q0 | refine Qa hS ?_ | refine Qb ?_ | refine Qc hS ?_ | refine Qd ?_) | ((with_reducible refine Qe hS ?_); clear hS; intro w hS; simp only [List.set] at hS) | ((with_reducible first | refine s_draw hS ?_ | refine Qf hS ?_); clear hS; intro w hS) | ((with_reducible first | refine s_new hS ?_ | refine Qg hS ?_); clear hS; intro b w hS)))
              exact ⟨_, ⟨au, cu, rfl, rfl⟩, SL.into (hfin (SL.into hS (t := .pt lp (lcells sv tv dp g.base g.size) 58 :: RowX sv xs :: .ob (HAll XSegO xs) :: .ob (TornO tv g.torn) :: .ob (OwnSl (.slice au (recB p).length cu) 5 1 (recB p).length ((recB p).map u8c)) :: .ob (DskO dp d) :: X :: F) Xi)) Xi⟩
            · (repeat (first | (with_reducible first | apply Q0 | refine Qa hS ?_ | refine Qb ?_ | refine Qc hS ?_ | refine Qd ?_) | ((with_reducible refine Qe hS ?_); clear hS; intro w hS; simp only [List.set] at hS) | ((with_reducible first | refine s_draw hS ?_ | refine Qf hS ?_); clear hS; intro w hS) | ((with_reducible first | refine s_new hS ?_ | refine Qg hS ?_); clear hS; intro b w hS)))
              refine s_ifp (fun h4 => ?_) (fun h4 => ?_)
              · rw [if_pos (.inr (by omega))] at hpl0
                rw [hpl0]
                (repeat (first | (with_reducible first | apply Q0 | refine Qa hS ?_ | refine Qb ?_ | refine Qc hS ?_ | refine Qd ?_) | ((with_reducible refine Qe hS ?_); clear hS; intro w hS; simp only [List.set] at hS) | ((with_reducible first | refine s_draw hS ?_ | refine Qf hS ?_); clear hS; intro w hS) | ((with_reducible first | refine s_new hS ?_ | refine Qg hS ?_); clear hS; intro b w hS)))
                exact ⟨_, ⟨au, cu, rfl, rfl⟩, SL.into (hfin (SL.into hS (t := .pt lp (lcells sv tv dp g.base g.size) 58 :: RowX sv xs :: .ob (HAll XSegO xs) :: .ob (TornO tv g.torn) :: .ob (OwnSl (.slice au (recB p).length cu) 5 1 (recB p).length ((recB p).map u8c)) :: .ob (DskO dp d) :: X :: F) Xi)) Xi⟩
              · rw [if_neg (by omega)] at hpl0
                (repeat (first | (with_reducible first | apply Q0 | refine Qa hS ?_ | refine Qb ?_ | refine Qc hS ?_ | refine Qd ?_) | ((with_reducible refine Qe hS ?_); clear hS; intro w hS; simp only [List.set] at hS) | ((with_reducible first | refine s_draw hS ?_ | refine Qf hS ?_); clear hS; intro w hS) | ((with_reducible first | refine s_new hS ?_ | refine Qg hS ?_); clear hS; intro b w hS)))
                exact ⟨x.file + 1, rfl, hpl0, by omega, by omega, SL.into hS Xi⟩
          · have hpl0 : planG g d.off p = freshG g g.base p := by
              have hnil : g.segs = [] := by
                rw [← hx]
                have : xs = [] := List.eq_nil_of_length_eq_zero (by omega)
                rw [this]; rfl
              unfold planG; rw [if_neg hbig, if_neg (by rw [ho]; decide), if_neg (by omega), hnil]; rfl
            exact ⟨g.base, rfl, hpl0, by omega, by omega, SL.into hS Xi⟩
        · clear hS
          rintro v8 w ⟨f, hvs, hpl0, f0, f1, hS⟩
          cases hvs
          rw [hpl0]
          unfold freshG
          (repeat (first | (with_reducible first | apply Q0 | refine Qa hS ?_ | refine Qb ?_ | refine Qc hS ?_ | refine Qd ?_) | ((with_reducible refine Qe hS ?_); clear hS; intro w hS; simp only [List.set] at hS) | ((with_reducible first | refine s_draw hS ?_ | refine Qf hS ?_); clear hS; intro w hS) | ((with_reducible first | refine s_new hS ?_ | refine Qg hS ?_); clear hS; intro b w hS)))
          refine s_ifp (fun h2 => ?_) (fun h2 => ?_)
          · rw [if_pos h2]
            (repeat (first | (with_reducible first | apply Q0 | refine Qa hS ?_ | refine Qb ?_ | refine Qc hS ?_ | refine Qd ?_) | ((with_reducible refine Qe hS ?_); clear hS; intro w hS; simp only [List.set] at hS) | ((with_reducible first | refine s_draw hS ?_ | refine Qf hS ?_); clear hS; intro w hS) | ((with_reducible first | refine s_new hS ?_ | refine Qg hS ?_); clear hS; intro b w hS)))
            exact ⟨_, ⟨⟨7, rfl, rfl, by decide⟩, rfl⟩, SL.into (hfin (SL.into hS (t := .pt lp (lcells sv tv dp g.base g.size) 58 :: RowX sv xs :: .ob (HAll XSegO xs) :: .ob (TornO tv g.torn) :: .ob (DskO dp d) :: X :: F) Xi)) Xi⟩
          · rw [if_neg h2]
            (repeat (first | (with_reducible first | apply Q0 | refine Qa hS ?_ | refine Qb ?_ | refine Qc hS ?_ | refine Qd ?_) | ((with_reducible refine Qe hS ?_); clear hS; intro w hS; simp only [List.set] at hS) | ((with_reducible first | refine s_draw hS ?_ | refine Qf hS ?_); clear hS; intro w hS) | ((with_reducible first | refine s_new hS ?_ | refine Qg hS ?_); clear hS; intro b w hS)))
            (apply s_call (headL_spec lp (lcells sv tv dp g.base g.size) 58 sv xs rfl hok hM (by omega)) hS; exact Xp; clear hS)
            (rintro v post ⟨rfl, rfl⟩ w hS; (try simp only [app] at hS); (repeat (first | (with_reducible first | apply Q0 | refine Qa hS ?_ | refine Qb ?_ | refine Qc hS ?_ | refine Qd ?_) | ((with_reducible refine Qe hS ?_); clear hS; intro w hS; simp only [List.set] at hS) | ((with_reducible first | refine s_draw hS ?_ | refine Qf hS ?_); clear hS; intro w hS) | ((with_reducible first | refine s_new hS ?_ | refine Qg hS ?_); clear hS; intro b w hS))))
            rw [hhead]
            (apply s_call (segHead_spec (headG g.segs + 1)) hS; exact Xp; clear hS)
            rintro r post hQ w hS
            unfold HeadQ at hQ
            rw [if_neg (by omega)] at hQ
            obtain ⟨y, rfl, rfl⟩ := hQ
            (try simp only [app] at hS)
            have hy := hS.ownOne .hd
            obtain ⟨ay, cy, ey, _⟩ := OwnSl.at hS .hd
            subst ey
            (repeat (first | (with_reducible first | apply Q0 | refine Qa hS ?_ | refine Qb ?_ | refine Qc hS ?_ | refine Qd ?_) | ((with_reducible refine Qe hS ?_); clear hS; intro w hS; simp only [List.set] at hS) | ((with_reducible first | refine s_draw hS ?_ | refine Qf hS ?_); clear hS; intro w hS) | ((with_reducible first | refine s_new hS ?_ | refine Qg hS ?_); clear hS; intro b w hS)))
            refine s_call (F := _) (concat_spec _ 2 _ [_, _] [recB (hdB (headG g.segs + 1).toNat), recB p] [.ob (OwnSl (.slice ay (recB (hdB (headG g.segs + 1).toNat)).length cy) 5 1 (recB (hdB (headG g.segs + 1).toNat)).length ((recB (hdB (headG g.segs + 1).toNat)).map u8c)), .ob (OwnSl (.slice au (recB p).length cu) 5 1 (recB p).length ((recB p).map u8c))] rfl rfl ?_ ?_ (by omega)) hS Xp ?_
            · intro i hi
              match i, hi with
              | 0, _ => exact ⟨_, .hd, Rdb.own⟩
              | 1, _ => exact ⟨_, .tl .hd, Rdb.own⟩
            · have := recB_len p
              have := recB_len (hdB (headG g.segs + 1).toNat)
              have := hdB_len (headG g.segs + 1).toNat
              simp; omega
            · clear hS
              rintro c post rfl w hS; (try simp only [app] at hS)
              have e2 : [recB (hdB (headG g.segs + 1).toNat), recB p].flatten = recB (hdB (headG g.segs + 1).toNat) ++ recB p := by simp
              rw [e2] at hS
              have hc := hS.ownOne .hd
              obtain ⟨ac, cc, ec, _⟩ := OwnSl.at hS .hd
              subst ec
              (repeat (first | (with_reducible first | apply Q0 | refine Qa hS ?_ | refine Qb ?_ | refine Qc hS ?_ | refine Qd ?_) | ((with_reducible refine Qe hS ?_); clear hS; intro w hS; simp only [List.set] at hS) | ((with_reducible first | refine s_draw hS ?_ | refine Qf hS ?_); clear hS; intro w hS) | ((with_reducible first | refine s_new hS ?_ | refine Qg hS ?_); clear hS; intro b w hS)))
              have e3 : (recB (hdB (headG g.segs + 1).toNat)).length + (recB p).length = (recB (hdB (headG g.segs + 1).toNat) ++ recB p).length := by rw [List.length_append]
              rw [e3]
              exact ⟨_, ⟨ac, cc, rfl, rfl⟩, SL.into (hfin (SL.into hS (t := .pt lp (lcells sv tv dp g.base g.size) 58 :: RowX sv xs :: .ob (HAll XSegO xs) :: .ob (TornO tv g.torn) :: .ob (OwnSl (.slice ac (recB (hdB (headG g.segs + 1).toNat) ++ recB p).length cc) 5 1 (recB (hdB (headG g.segs + 1).toNat) ++ recB p).length ((recB (hdB (headG g.segs + 1).toNat) ++ recB p).map u8c)) :: .ob (DskO dp d) :: X :: F) Xi)) Xi⟩
end Go.Proofs.YtmcglicbolhmfaaGreat
namespace Go.Proofs.YtmcglicbolhmfaaGreat
set_option linter.unusedVariables false
set_option maxRecDepth 100000
open Go.RowKit

def ReadyQ (lp dp : Nat) (g : PLog) (d : DS) (X : Chunk) (y : Except Int PWr) (r : Value) (post : List Chunk) : Prop := match y with
  | .error e => e ≠ 0 ∧ r = .tuple #[.agg #[.int .i64 0, .bool false, .slice none 0 0], .int .i64 e] ∧ post = [.ob (LogO lp dp g), .ob (DskO dp d), X]
  | .ok x => ∃ a c, r = .tuple #[.agg #[.int .i64 x.file, .bool x.fresh, .slice a x.b.length c], .int .i64 (mendG g d).2] ∧ post = [.ob (OwnSl (.slice a x.b.length c) 5 1 x.b.length (x.b.map u8c)), .ob (LogO lp dp (mendG g d).1.1), .ob (DskO dp (mendG g d).1.2), X]
/-- wal.Log.ready -/
theorem readyL_spec (X : Chunk) (lp dp : Nat) (g : PLog) (d : DS) (v : Value) (p : List UInt8) (hv : Rdb X v p) (hp : p.length ≤ 140737488355328) {M N : Nat} (hg : g.Ok M) (hM : M ≤ 1000000000000000) (hok : d.Ok N) (hN : N ≤ 140737488355328) (hops : d.ops ≤ 100000) :
    Spec Tryz.prog 47 [.pointer (some ⟨lp, 0, none⟩), v] [.ob (LogO lp dp g), .ob (DskO dp d), X] (ReadyQ lp dp g d X (planG g d.off p)) := by
  intro W F w hS; apply vc47; unfold Vc47; (try simp only [app] at hS)
  (repeat (first | (with_reducible first | apply Q0 | refine Qa hS ?_ | refine Qb ?_ | refine Qc hS ?_ | refine Qd ?_) | ((with_reducible refine Qe hS ?_); clear hS; intro w hS; simp only [List.set] at hS) | ((with_reducible first | refine s_draw hS ?_ | refine Qf hS ?_); clear hS; intro w hS) | ((with_reducible first | refine s_new hS ?_ | refine Qg hS ?_); clear hS; intro b w hS)))
  (apply s_call (planL_spec X lp dp g d v p hv hp hg hM) hS; exact Xp; clear hS)
  rintro r post hQ w hS
  cases hpl : planG g d.off p with
  | error e =>
    rw [hpl] at hQ
    obtain ⟨⟨z, rfl, rfl, hz⟩, rfl⟩ := hQ
    (try simp only [app] at hS)
    (repeat (first | (with_reducible first | apply Q0 | refine Qa hS ?_ | refine Qb ?_ | refine Qc hS ?_ | refine Qd ?_) | ((with_reducible refine Qe hS ?_); clear hS; intro w hS; simp only [List.set] at hS) | ((with_reducible first | refine s_draw hS ?_ | refine Qf hS ?_); clear hS; intro w hS) | ((with_reducible first | refine s_new hS ?_ | refine Qg hS ?_); clear hS; intro b w hS)))
    refine s_ifp (fun h => absurd h hz) (fun _ => ?_)
    (repeat (first | (with_reducible first | apply Q0 | refine Qa hS ?_ | refine Qb ?_ | refine Qc hS ?_ | refine Qd ?_) | ((with_reducible refine Qe hS ?_); clear hS; intro w hS; simp only [List.set] at hS) | ((with_reducible first | refine s_draw hS ?_ | refine Qf hS ?_); clear hS; intro w hS) | ((with_reducible first | refine s_new hS ?_ | refine Qg hS ?_); clear hS; intro b w hS)))
    exact ⟨_, ⟨hz, rfl, rfl⟩, SL.into hS Xi⟩
  | ok x =>
    rw [hpl] at hQ
    obtain ⟨a, c, rfl, rfl⟩ := hQ
    (try simp only [app] at hS)
    (repeat (first | (with_reducible first | apply Q0 | refine Qa hS ?_ | refine Qb ?_ | refine Qc hS ?_ | refine Qd ?_) | ((with_reducible refine Qe hS ?_); clear hS; intro w hS; simp only [List.set] at hS) | ((with_reducible first | refine s_draw hS ?_ | refine Qf hS ?_); clear hS; intro w hS) | ((with_reducible first | refine s_new hS ?_ | refine Qg hS ?_); clear hS; intro b w hS)))
    refine s_ifp (fun _ => ?_) (fun h => absurd rfl h)
    (repeat (first | (with_reducible first | apply Q0 | refine Qa hS ?_ | refine Qb ?_ | refine Qc hS ?_ | refine Qd ?_) | ((with_reducible refine Qe hS ?_); clear hS; intro w hS; simp only [List.set] at hS) | ((with_reducible first | refine s_draw hS ?_ | refine Qf hS ?_); clear hS; intro w hS) | ((with_reducible first | refine s_new hS ?_ | refine Qg hS ?_); clear hS; intro b w hS)))
    (apply s_call (mendL_spec lp dp g d N hok hN hops) hS; exact Xp; clear hS)
    (rintro v post ⟨rfl, rfl⟩ w hS; (try simp only [app] at hS); (repeat (first | (with_reducible first | apply Q0 | refine Qa hS ?_ | refine Qb ?_ | refine Qc hS ?_ | refine Qd ?_) | ((with_reducible refine Qe hS ?_); clear hS; intro w hS; simp only [List.set] at hS) | ((with_reducible first | refine s_draw hS ?_ | refine Qf hS ?_); clear hS; intro w hS) | ((with_reducible first | refine s_new hS ?_ | refine Qg hS ?_); clear hS; intro b w hS))))
    exact ⟨_, ⟨a, c, rfl, rfl⟩, SL.into hS Xi⟩
/-- One segment's cells, in their block. -/
theorem RowX.at {W w : World} {l : List Chunk} {v : Value} {xs : List XSeg} {j : Nat} (h : SL W (RowX v xs :: l) w) (hj : j < xs.length) :
    ∃ b o cap A B, v = .slice (some ⟨b, o, none⟩) xs.length cap ∧ A.length = o + j * 4 ∧ SL W (.pt b (A ++ (xcells xs[j] ++ B)) 97 :: l) w ∧
      ∀ y w' l', SL W (.pt b (A ++ (xcells y ++ B)) 97 :: l') w' → SL W (RowX v (xs.set j y) :: l') w' := by
  obtain ⟨b, pre, cap, rest, rfl, hc, hl, hr, hS⟩ := OwnSo.block h (by omega)
  have e : (xs.map xcells).flatten = ((xs.take j).map xcells).flatten ++ (xcells xs[j] ++ ((xs.drop (j + 1)).map xcells).flatten) := by
    have hsp : xs = xs.take j ++ xs[j] :: xs.drop (j + 1) := by rw [← List.drop_eq_getElem_cons hj, List.take_append_drop]
    have e := congrArg (fun l => (List.map xcells l).flatten) hsp
    simp only [List.map_append, List.map_cons, List.flatten_append, List.flatten_cons] at e
    exact e
  have el : ((xs.take j).map xcells).flatten.length = j * 4 := by rw [flatX_len, List.length_take]; omega
  refine ⟨b, pre.length, cap, pre ++ ((xs.take j).map xcells).flatten, ((xs.drop (j + 1)).map xcells).flatten ++ rest, rfl, by rw [List.length_append, el], ?_, fun y w' l' h' => ?_⟩
  · rw [e] at hS
    simp only [List.append_assoc] at hS ⊢
    exact hS
  · have e2 : ((xs.set j y).map xcells).flatten = ((xs.take j).map xcells).flatten ++ (xcells y ++ ((xs.drop (j + 1)).map xcells).flatten) := by
      rw [List.set_eq_take_append_cons_drop, if_pos hj]
      simp only [List.map_append, List.map_cons, List.flatten_append, List.flatten_cons]
    have := OwnSo.mk (b := b) (t := 97) (sz := 4) (n := xs.length) (cells := ((xs.set j y).map xcells).flatten) (pre := pre) (rest := rest) (cap := cap) hc (by rw [flatX_len, List.length_set]) hr rfl (by rw [e2]; simp only [List.append_assoc] at h' ⊢; exact h')
    show SL W (.ob (OwnSo _ 97 4 (xs.set j y).length _) :: l') w'
    rw [List.length_set]
    exact this
theorem pt_get {A B : List Value} {cs : List Value} {i : Nat} {u : Value} (h : cs[i]? = some u) : (A ++ (cs ++ B))[A.length + i]? = some u := by
  rw [List.getElem?_append_right (by omega), Nat.add_sub_cancel_left, List.getElem?_append_left (List.getElem?_eq_some_iff.1 h).1]; exact h
theorem pt_set {A B : List Value} {cs : List Value} {i : Nat} {u : Value} (h : i < cs.length) : (A ++ (cs ++ B)).set (A.length + i) u = A ++ (cs.set i u ++ B) := by
  rw [List.set_append_right _ _ (by omega), Nat.add_sub_cancel_left, List.set_append_left _ _ h]
end Go.Proofs.YtmcglicbolhmfaaGreat
namespace Go.Proofs.YtmcglicbolhmfaaGreat
set_option linter.unusedVariables false
set_option maxRecDepth 100000
open Go.RowKit

theorem appendG_er {g : PLog} {d : DS} {p : List UInt8} {e : Int} (h : planG g d.off p = .error e) : appendG g d p = ((g, d), (0, e)) := by
  unfold appendG; rw [h]
theorem appendG_m {g : PLog} {d : DS} {p : List UInt8} {x : PWr} (h : planG g d.off p = .ok x) (hm : (mendG g d).2 ≠ 0) : appendG g d p = ((mendG g d).1, (0, (mendG g d).2)) := by
  unfold appendG; rw [h]; simp only; rw [if_pos hm]
theorem appendG_a {g : PLog} {d : DS} {p : List UInt8} {x : PWr} (h : planG g d.off p = .ok x) (hm : (mendG g d).2 = 0) (ha : ((mendG g d).1.2.append x.file x.b).2 ≠ 0) :
    appendG g d p = (((mendG g d).1.1, ((mendG g d).1.2.append x.file x.b).1), (0, ((mendG g d).1.2.append x.file x.b).2)) := by
  unfold appendG; rw [h]; simp only; rw [if_neg (by simp [hm]), if_pos ha]
theorem appendG_s {g : PLog} {d : DS} {p : List UInt8} {x : PWr} (h : planG g d.off p = .ok x) (hm : (mendG g d).2 = 0) (ha : ((mendG g d).1.2.append x.file x.b).2 = 0) (hs : (((mendG g d).1.2.append x.file x.b).1.sync x.file).2 ≠ 0) :
    appendG g d p = (((mendG g d).1.1, (((mendG g d).1.2.append x.file x.b).1.sync x.file).1), (0, (((mendG g d).1.2.append x.file x.b).1.sync x.file).2)) := by
  unfold appendG; rw [h]; simp only; rw [if_neg (by simp [hm]), if_neg (by simp [ha]), if_pos hs]
theorem appendG_k {g : PLog} {d : DS} {p : List UInt8} {x : PWr} (h : planG g d.off p = .ok x) (hm : (mendG g d).2 = 0) (ha : ((mendG g d).1.2.append x.file x.b).2 = 0) (hs : (((mendG g d).1.2.append x.file x.b).1.sync x.file).2 = 0) :
    appendG g d p = (({ (mendG g d).1.1 with segs := putG g.segs x p }, (((mendG g d).1.2.append x.file x.b).1.sync x.file).1), (headG (putG g.segs x p), 0)) := by
  unfold appendG; rw [h]; simp only; rw [if_neg (by simp [hm]), if_neg (by simp [ha]), if_neg (by simp [hs]), (mendG_same g d).1]
theorem ops_append (s : DS) (f : Int) (b : List UInt8) : (s.append f b).1.ops ≤ s.ops + 1 := by
  unfold DS.append; split <;> simp [DS.cnt]
theorem ops_sync (s : DS) (f : Int) : (s.sync f).1.ops ≤ s.ops + 1 := by
  unfold DS.sync; split
  · simp
  · split <;> simp [DS.cnt]
theorem ops_cut (s : DS) (f n : Int) : (s.cut f n).1.ops ≤ s.ops + 1 := by
  unfold DS.cut; split
  · simp
  · split
    · simp
    · split <;> simp [DS.cnt]
theorem ops_remove (s : DS) (f : Int) : (s.remove f).1.ops ≤ s.ops + 1 := by
  unfold DS.remove; split
  · simp
  · split <;> simp [DS.cnt]
theorem ops_mend (g : PLog) (d : DS) : (mendG g d).1.2.ops ≤ d.ops + 1 := by
  unfold mendG; split
  · simp
  · simp only
    split
    · exact ops_remove _ _
    · exact ops_cut _ _ _
/-- wal.Log.Append -/
theorem appendL_spec (X : Chunk) (lp dp : Nat) (g : PLog) (d : DS) (v : Value) (p : List UInt8) (hv : Rdb X v p) (hp : p.length ≤ 140737488355328) {M N : Nat} (hg : g.Ok M) (hM : M ≤ 1000000000000) (hok : d.Ok N) (hN : N ≤ 140737480000000) (hops : d.ops ≤ 90000) :
    Spec Tryz.prog 18 [.pointer (some ⟨lp, 0, none⟩), v] [.ob (LogO lp dp g), .ob (DskO dp d), X] (Gives (.tuple #[.int .i64 (appendG g d p).2.1, .int .i64 (appendG g d p).2.2]) [.ob (LogO lp dp (appendG g d p).1.1), .ob (DskO dp (appendG g d p).1.2), X]) := by
  intro W F w hS; apply vc18; unfold Vc18; (try simp only [app] at hS)
  obtain ⟨va, vc, rfl, hvc⟩ := hv.sl hS Xh
  (repeat (first | (with_reducible first | apply Q0 | refine Qa hS ?_ | refine Qb ?_ | refine Qc hS ?_ | refine Qd ?_) | ((with_reducible refine Qe hS ?_); clear hS; intro w hS; simp only [List.set] at hS) | ((with_reducible first | refine s_draw hS ?_ | refine Qf hS ?_); clear hS; intro w hS) | ((with_reducible first | refine s_new hS ?_ | refine Qg hS ?_); clear hS; intro b w hS)))
  (apply s_call (readyL_spec X lp dp g d _ p hv hp hg (by omega) hok (by omega) (by omega)) hS; exact Xp; clear hS)
  rintro r post hQ w hS
  cases hpl : planG g d.off p with
  | error e =>
    rw [hpl] at hQ
    obtain ⟨hz, rfl, rfl⟩ := hQ
    rw [appendG_er hpl]
    (try simp only [app] at hS)
    (repeat (first | (with_reducible first | apply Q0 | refine Qa hS ?_ | refine Qb ?_ | refine Qc hS ?_ | refine Qd ?_) | ((with_reducible refine Qe hS ?_); clear hS; intro w hS; simp only [List.set] at hS) | ((with_reducible first | refine s_draw hS ?_ | refine Qf hS ?_); clear hS; intro w hS) | ((with_reducible first | refine s_new hS ?_ | refine Qg hS ?_); clear hS; intro b w hS)))
    refine ⟨fun vs w => vs = [.int .i64 e] ∧ SL W (.ob (LogO lp dp g) :: .ob (DskO dp d) :: X :: F) w, ?_, ?_⟩
    · (repeat (first | (with_reducible first | apply Q0 | refine Qa hS ?_ | refine Qb ?_ | refine Qc hS ?_ | refine Qd ?_) | ((with_reducible refine Qe hS ?_); clear hS; intro w hS; simp only [List.set] at hS) | ((with_reducible first | refine s_draw hS ?_ | refine Qf hS ?_); clear hS; intro w hS) | ((with_reducible first | refine s_new hS ?_ | refine Qg hS ?_); clear hS; intro b w hS)))
      refine s_ifp (fun h => absurd h hz) (fun _ => ⟨rfl, SL.into hS Xi⟩)
    · clear hS
      rintro v7 w ⟨hvs, hS⟩
      cases hvs
      refine ⟨fun vs w => vs = [.int .i64 e] ∧ SL W (.ob (LogO lp dp g) :: .ob (DskO dp d) :: X :: F) w, ?_, ?_⟩
      · (repeat (first | (with_reducible first | apply Q0 | refine Qa hS ?_ | refine Qb ?_ | refine Qc hS ?_ | refine Qd ?_) | ((with_reducible refine Qe hS ?_); clear hS; intro w hS; simp only [List.set] at hS) | ((with_reducible first | refine s_draw hS ?_ | refine Qf hS ?_); clear hS; intro w hS) | ((with_reducible first | refine s_new hS ?_ | refine Qg hS ?_); clear hS; intro b w hS)))
        refine s_ifp (fun h => absurd h hz) (fun _ => ⟨rfl, hS⟩)
      · clear hS
        rintro v7 w ⟨hvs, hS⟩
        cases hvs
        (repeat (first | (with_reducible first | apply Q0 | refine Qa hS ?_ | refine Qb ?_ | refine Qc hS ?_ | refine Qd ?_) | ((with_reducible refine Qe hS ?_); clear hS; intro w hS; simp only [List.set] at hS) | ((with_reducible first | refine s_draw hS ?_ | refine Qf hS ?_); clear hS; intro w hS) | ((with_reducible first | refine s_new hS ?_ | refine Qg hS ?_); clear hS; intro b w hS)))
        refine s_ifp (fun _ => ?_) (fun h => absurd hz h)
        (exact ⟨_, ⟨rfl, rfl⟩, SL.into hS Xi⟩)
  | ok x =>
    rw [hpl] at hQ
    obtain ⟨a, c, rfl, rfl⟩ := hQ
    have hw := planG_wr hg hpl
    have hmok := mendG_ok (g := g) hok
    have hmg := mendG_gok (d := d) hg
    have hms := mendG_same g d
    have hmo := ops_mend g d
    have hbl := hw.bl
    have hpp := hw.pl
    (try simp only [app] at hS)
    (repeat (first | (with_reducible first | apply Q0 | refine Qa hS ?_ | refine Qb ?_ | refine Qc hS ?_ | refine Qd ?_) | ((with_reducible refine Qe hS ?_); clear hS; intro w hS; simp only [List.set] at hS) | ((with_reducible first | refine s_draw hS ?_ | refine Qf hS ?_); clear hS; intro w hS) | ((with_reducible first | refine s_new hS ?_ | refine Qg hS ?_); clear hS; intro b w hS)))
    obtain ⟨wb, rfl⟩ : ∃ k, k = b := ⟨b, rfl⟩
    by_cases hm : (mendG g d).2 = 0
    · -- the end is mended
      have haok := hmok.append x.file x.b
      have hao := ops_append (mendG g d).1.2 x.file x.b
      have hsok := haok.sync x.file
      have hkk := appendG_k hpl hm
      have haa := appendG_a hpl hm
      have hss := appendG_s hpl hm
      generalize appendG g d p = G at *
      generalize mendG g d = m at *
      obtain ⟨⟨g1, d1⟩, me⟩ := m
      simp only at *
      subst hm
      refine ⟨fun vs w => vs = [.int .i64 (d1.append x.file x.b).2] ∧ SL W (.pt wb [.int .i64 x.file, .bool x.fresh, .slice a x.b.length c] 99 :: .ob (OwnSl (.slice a x.b.length c) 5 1 x.b.length (x.b.map u8c)) :: .ob (LogO lp dp g1) :: .ob (DskO dp (d1.append x.file x.b).1) :: X :: F) w, ?_, ?_⟩
      · (repeat (first | (with_reducible first | apply Q0 | refine Qa hS ?_ | refine Qb ?_ | refine Qc hS ?_ | refine Qd ?_) | ((with_reducible refine Qe hS ?_); clear hS; intro w hS; simp only [List.set] at hS) | ((with_reducible first | refine s_draw hS ?_ | refine Qf hS ?_); clear hS; intro w hS) | ((with_reducible first | refine s_new hS ?_ | refine Qg hS ?_); clear hS; intro b w hS)))
        refine s_ifp (fun _ => ?_) (fun h => absurd rfl h)
        obtain ⟨sv, tv, xs, hx, hS⟩ := LogO.iff.1 (SL.into hS (t := .ob (LogO lp dp g1) :: .pt wb [.int .i64 x.file, .bool x.fresh, .slice a x.b.length c] 99 :: .ob (OwnSl (.slice a x.b.length c) 5 1 x.b.length (x.b.map u8c)) :: .ob (DskO dp d1) :: X :: F) Xi)
        (repeat (first | (with_reducible first | apply Q0 | refine Qa hS ?_ | refine Qb ?_ | refine Qc hS ?_ | refine Qd ?_) | ((with_reducible refine Qe hS ?_); clear hS; intro w hS; simp only [List.set] at hS) | ((with_reducible first | refine s_draw hS ?_ | refine Qf hS ?_); clear hS; intro w hS) | ((with_reducible first | refine s_new hS ?_ | refine Qg hS ?_); clear hS; intro b w hS)))
        (apply s_call (appendD_gen (.ob (OwnSl (.slice a x.b.length c) 5 1 x.b.length (x.b.map u8c))) dp d1 N hmok (by omega) x.file _ x.b (fun hS h => src_own hS h) (by omega)) hS; exact Xp; clear hS)
        (rintro v post ⟨rfl, rfl⟩ w hS; (try simp only [app] at hS); (repeat (first | (with_reducible first | apply Q0 | refine Qa hS ?_ | refine Qb ?_ | refine Qc hS ?_ | refine Qd ?_) | ((with_reducible refine Qe hS ?_); clear hS; intro w hS; simp only [List.set] at hS) | ((with_reducible first | refine s_draw hS ?_ | refine Qf hS ?_); clear hS; intro w hS) | ((with_reducible first | refine s_new hS ?_ | refine Qg hS ?_); clear hS; intro b w hS))))
        have hS := LogO.iff.2 ⟨sv, tv, xs, hx, SL.into hS (t := .pt lp (lcells sv tv dp g1.base g1.size) 58 :: RowX sv xs :: .ob (HAll XSegO xs) :: .ob (TornO tv g1.torn) :: .pt wb [.int .i64 x.file, .bool x.fresh, .slice a x.b.length c] 99 :: .ob (OwnSl (.slice a x.b.length c) 5 1 x.b.length (x.b.map u8c)) :: .ob (DskO dp (d1.append x.file x.b).1) :: X :: F) Xi⟩
        exact SL.into hS Xi
      · clear hS
        rintro v7 w ⟨hvs, hS⟩
        cases hvs
        by_cases ha : (d1.append x.file x.b).2 = 0
        · rw [ha]
          refine ⟨fun vs w => vs = [.int .i64 ((d1.append x.file x.b).1.sync x.file).2] ∧ SL W (.pt wb [.int .i64 x.file, .bool x.fresh, .slice a x.b.length c] 99 :: .ob (OwnSl (.slice a x.b.length c) 5 1 x.b.length (x.b.map u8c)) :: .ob (LogO lp dp g1) :: .ob (DskO dp ((d1.append x.file x.b).1.sync x.file).1) :: X :: F) w, ?_, ?_⟩
          · (repeat (first | (with_reducible first | apply Q0 | refine Qa hS ?_ | refine Qb ?_ | refine Qc hS ?_ | refine Qd ?_) | ((with_reducible refine Qe hS ?_); clear hS; intro w hS; simp only [List.set] at hS) | ((with_reducible first | refine s_draw hS ?_ | refine Qf hS ?_); clear hS; intro w hS) | ((with_reducible first | refine s_new hS ?_ | refine Qg hS ?_); clear hS; intro b w hS)))
            refine s_ifp (fun _ => ?_) (fun h => absurd rfl h)
            obtain ⟨sv, tv, xs, hx, hS⟩ := LogO.iff.1 (SL.into hS (t := .ob (LogO lp dp g1) :: .pt wb [.int .i64 x.file, .bool x.fresh, .slice a x.b.length c] 99 :: .ob (OwnSl (.slice a x.b.length c) 5 1 x.b.length (x.b.map u8c)) :: .ob (DskO dp (d1.append x.file x.b).1) :: X :: F) Xi)
            (repeat (first | (with_reducible first | apply Q0 | refine Qa hS ?_ | refine Qb ?_ | refine Qc hS ?_ | refine Qd ?_) | ((with_reducible refine Qe hS ?_); clear hS; intro w hS; simp only [List.set] at hS) | ((with_reducible first | refine s_draw hS ?_ | refine Qf hS ?_); clear hS; intro w hS) | ((with_reducible first | refine s_new hS ?_ | refine Qg hS ?_); clear hS; intro b w hS)))
            (apply s_call (syncD_spec dp (d1.append x.file x.b).1 _ haok (by omega) x.file) hS; exact Xp; clear hS)
            (rintro v post ⟨rfl, rfl⟩ w hS; (try simp only [app] at hS); (repeat (first | (with_reducible first | apply Q0 | refine Qa hS ?_ | refine Qb ?_ | refine Qc hS ?_ | refine Qd ?_) | ((with_reducible refine Qe hS ?_); clear hS; intro w hS; simp only [List.set] at hS) | ((with_reducible first | refine s_draw hS ?_ | refine Qf hS ?_); clear hS; intro w hS) | ((with_reducible first | refine s_new hS ?_ | refine Qg hS ?_); clear hS; intro b w hS))))
            have hS := LogO.iff.2 ⟨sv, tv, xs, hx, SL.into hS (t := .pt lp (lcells sv tv dp g1.base g1.size) 58 :: RowX sv xs :: .ob (HAll XSegO xs) :: .ob (TornO tv g1.torn) :: .pt wb [.int .i64 x.file, .bool x.fresh, .slice a x.b.length c] 99 :: .ob (OwnSl (.slice a x.b.length c) 5 1 x.b.length (x.b.map u8c)) :: .ob (DskO dp ((d1.append x.file x.b).1.sync x.file).1) :: X :: F) Xi⟩
            exact SL.into hS Xi
          · clear hS
            rintro v7 w ⟨hvs, hS⟩
            cases hvs
            by_cases hs : ((d1.append x.file x.b).1.sync x.file).2 = 0
            · rw [hs]
              have hG := hkk ha hs
              subst hG
              clear hkk haa hss hao
              generalize ((d1.append x.file x.b).1.sync x.file).1 = d3 at *
              (repeat (first | (with_reducible first | apply Q0 | refine Qa hS ?_ | refine Qb ?_ | refine Qc hS ?_ | refine Qd ?_) | ((with_reducible refine Qe hS ?_); clear hS; intro w hS; simp only [List.set] at hS) | ((with_reducible first | refine s_draw hS ?_ | refine Qf hS ?_); clear hS; intro w hS) | ((with_reducible first | refine s_new hS ?_ | refine Qg hS ?_); clear hS; intro b w hS)))
              refine s_ifp (fun h => absurd rfl h) (fun _ => ?_)
              obtain ⟨sv, tv, xs, hx, hS⟩ := LogO.iff.1 (SL.into hS (t := .ob (LogO lp dp g1) :: .pt wb [.int .i64 x.file, .bool x.fresh, .slice a x.b.length c] 99 :: .ob (DskO dp d3) :: X :: F) Xi)
              obtain ⟨hxo, hxl, _, _⟩ := hmg.xs hx
              have hhead : headG (xs.map XSeg.pl) = headG g.segs := by rw [hx, hms.1]
              have hgd := hw.hd
              have hge := headG_ge hg.segs
              have hmok2 := moreG_ok hg hw
              refine ⟨fun vs w => vs = [] ∧ ∃ sv' xs', xs'.map XSeg.pl = moreG g.segs x ∧ xs'.length ≤ xs.length + 1 ∧ SL W (.pt lp (lcells sv' tv dp g1.base g1.size) 58 :: RowX sv' xs' :: .ob (HAll XSegO xs') :: .ob (TornO tv g1.torn) :: .pt wb [.int .i64 x.file, .bool x.fresh, .slice a x.b.length c] 99 :: .ob (DskO dp d3) :: X :: F) w, ?_, ?_⟩
              · (repeat (first | (with_reducible first | apply Q0 | refine Qa hS ?_ | refine Qb ?_ | refine Qc hS ?_ | refine Qd ?_) | ((with_reducible refine Qe hS ?_); clear hS; intro w hS; simp only [List.set] at hS) | ((with_reducible first | refine s_draw hS ?_ | refine Qf hS ?_); clear hS; intro w hS) | ((with_reducible first | refine s_new hS ?_ | refine Qg hS ?_); clear hS; intro b w hS)))
                unfold moreG
                refine s_if (fun hf => ?_) (fun hf => ?_)
                · rw [if_pos hf]
                  (repeat (first | (with_reducible first | apply Q0 | refine Qa hS ?_ | refine Qb ?_ | refine Qc hS ?_ | refine Qd ?_) | ((with_reducible refine Qe hS ?_); clear hS; intro w hS; simp only [List.set] at hS) | ((with_reducible first | refine s_draw hS ?_ | refine Qf hS ?_); clear hS; intro w hS) | ((with_reducible first | refine s_new hS ?_ | refine Qg hS ?_); clear hS; intro b w hS)))
                  (apply s_call (headL_spec lp (lcells sv tv dp g1.base g1.size) 58 sv xs rfl hxo (by omega) (by omega)) hS; exact Xp; clear hS)
                  (rintro v post ⟨rfl, rfl⟩ w hS; (try simp only [app] at hS); (repeat (first | (with_reducible first | apply Q0 | refine Qa hS ?_ | refine Qb ?_ | refine Qc hS ?_ | refine Qd ?_) | ((with_reducible refine Qe hS ?_); clear hS; intro w hS; simp only [List.set] at hS) | ((with_reducible first | refine s_draw hS ?_ | refine Qf hS ?_); clear hS; intro w hS) | ((with_reducible first | refine s_new hS ?_ | refine Qg hS ?_); clear hS; intro b w hS))))
                  rw [hhead] at hS
                  have hone := OwnSo.one hS (v := sv) (t := 97) (sz := 4) (n := xs.length) (cells := (xs.map xcells).flatten) Xh
                  refine s_appSo (m := 1) (cs := [.int .i64 x.file, .int .i64 (headG g.segs + 1), .int .i64 0, .slice none 0 0]) hS Xr (src_pt0 hS .hd rfl) rfl rfl (by simp [Value.oneCell']) (by omega) (by omega) ?_
                  clear hS; intro sv' w hS
                  have hone := OwnSo.one hS (v := sv') .hd
                  (repeat (first | (with_reducible first | apply Q0 | refine Qa hS ?_ | refine Qb ?_ | refine Qc hS ?_ | refine Qd ?_) | ((with_reducible refine Qe hS ?_); clear hS; intro w hS; simp only [List.set] at hS) | ((with_reducible first | refine s_draw hS ?_ | refine Qf hS ?_); clear hS; intro w hS) | ((with_reducible first | refine s_new hS ?_ | refine Qg hS ?_); clear hS; intro b w hS)))
                  have hS := OwnSo.nil0 (a := none) (t := 31) (sz := 1) hS
                  have hS := HAll.nil (A := BEntO) (SL.into hS (t := .ob (OwnSo (.slice none 0 0) 31 1 0 []) :: .ob (HAll XSegO xs) :: .pt lp (lcells sv' tv dp g1.base g1.size) 58 :: .ob (OwnSo sv' 97 4 (xs.length + 1) ((xs.map xcells).flatten ++ [.int .i64 x.file, .int .i64 (headG g.segs + 1), .int .i64 0, .slice none 0 0])) :: .ob (TornO tv g1.torn) :: .pt wb [.int .i64 x.file, .bool x.fresh, .slice a x.b.length c] 99 :: .ob (DskO dp d3) :: X :: F) Xi)
                  have hS := (XSegO.iff (x := ⟨x.file, headG g.segs + 1, 0, [], none, 0⟩)).2 (SL.into hS (t := .ob (OwnSo (.slice none 0 0) 31 1 0 []) :: .ob (HAll BEntO []) :: .ob (HAll XSegO xs) :: .pt lp (lcells sv' tv dp g1.base g1.size) 58 :: .ob (OwnSo sv' 97 4 (xs.length + 1) ((xs.map xcells).flatten ++ [.int .i64 x.file, .int .i64 (headG g.segs + 1), .int .i64 0, .slice none 0 0])) :: .ob (TornO tv g1.torn) :: .pt wb [.int .i64 x.file, .bool x.fresh, .slice a x.b.length c] 99 :: .ob (DskO dp d3) :: X :: F) Xi)
                  have hS := HAll.snoc (SL.into hS (t := .ob (HAll XSegO xs) :: .ob (XSegO ⟨x.file, headG g.segs + 1, 0, [], none, 0⟩) :: .pt lp (lcells sv' tv dp g1.base g1.size) 58 :: .ob (OwnSo sv' 97 4 (xs.length + 1) ((xs.map xcells).flatten ++ [.int .i64 x.file, .int .i64 (headG g.segs + 1), .int .i64 0, .slice none 0 0])) :: .ob (TornO tv g1.torn) :: .pt wb [.int .i64 x.file, .bool x.fresh, .slice a x.b.length c] 99 :: .ob (DskO dp d3) :: X :: F) Xi)
                  have e1 : xs.length + 1 = (xs ++ [(⟨x.file, headG g.segs + 1, 0, [], none, 0⟩ : XSeg)]).length := by simp
                  have e2 : (xs.map xcells).flatten ++ [.int .i64 x.file, .int .i64 (headG g.segs + 1), .int .i64 0, .slice none 0 0] = ((xs ++ [(⟨x.file, headG g.segs + 1, 0, [], none, 0⟩ : XSeg)]).map xcells).flatten := by simp [xcells, XSeg.lv]
                  rw [e1, e2] at hS
                  refine ⟨sv', xs ++ [⟨x.file, headG g.segs + 1, 0, [], none, 0⟩], ?_, by simp, SL.into hS Xi⟩
                  rw [List.map_append, hx, hms.1]; rfl
                · rw [if_neg (by rw [hf]; decide)]
                  exact ⟨rfl, sv, xs, by rw [hx, hms.1], by omega, SL.into hS Xi⟩
              · clear hS hxo hhead
                rintro w ⟨-, sv', xs', hx', hl', hS⟩
                obtain ⟨A, s, hA⟩ := moreG_last hw
                rw [putG_eq _ _ _ hA]
                have hle : 0 < xs'.length := by
                  have := congrArg List.length hx'
                  rw [hA] at this; simp at this; omega
                have hj : xs'.length - 1 < xs'.length := by omega
                have hsp : xs' = xs'.take (xs'.length - 1) ++ [xs'[xs'.length - 1]] := by
                  conv => lhs; rw [← List.take_append_drop (xs'.length - 1) xs']
                  rw [List.drop_eq_getElem_cons hj, List.drop_eq_nil_of_le (by omega)]
                have hAs : A = (xs'.take (xs'.length - 1)).map XSeg.pl ∧ s = (xs'[xs'.length - 1]).pl := by
                  rw [hsp, List.map_append] at hx'
                  rw [hA] at hx'
                  have := List.append_inj' hx' rfl
                  exact ⟨this.1.symm, by simpa using this.2.symm⟩
                obtain ⟨hA1, hs1⟩ := hAs
                subst hA1 hs1
                have hso := hmok2 (xs'[xs'.length - 1]).pl (by rw [hA]; simp)
                have z1 := hso.sz
                have z2 := hso.ln
                have hS := HAll.take (t := xs'.length - 1) (SL.into hS (t := .ob (HAll XSegO xs') :: RowX sv' xs' :: .pt lp (lcells sv' tv dp g1.base g1.size) 58 :: .ob (TornO tv g1.torn) :: .pt wb [.int .i64 x.file, .bool x.fresh, .slice a x.b.length c] 99 :: .ob (DskO dp d3) :: X :: F) Xi) (List.getElem?_eq_getElem hj)
                have hS := XSegO.iff.1 hS
                obtain ⟨rb, ro, rc, AA, BB, rfl, hAA, hS, hback⟩ := RowX.at (SL.into hS (t := RowX sv' xs' :: .ob (OwnSo (xs'[xs'.length - 1]).lv 31 1 (xs'[xs'.length - 1]).es.length (vals (xs'[xs'.length - 1]).es)) :: .ob (HAll BEntO (xs'[xs'.length - 1]).es) :: .ob (HAll XSegO (xs'.eraseIdx (xs'.length - 1))) :: .pt lp (lcells sv' tv dp g1.base g1.size) 58 :: .ob (TornO tv g1.torn) :: .pt wb [.int .i64 x.file, .bool x.fresh, .slice a x.b.length c] 99 :: .ob (DskO dp d3) :: X :: F) Xi) hj
                generalize hx0 : xs'[xs'.length - 1] = x0 at *
                have z1 : x0.size ≤ M := z1
                have z2 : x0.es.length ≤ M := by simpa [XSeg.pl, byts_len] using z2
                (repeat (first | (with_reducible first | apply Q0 | refine Qa hS ?_ | refine Qb ?_ | refine Qc hS ?_ | refine Qd ?_) | ((with_reducible refine Qe hS ?_); clear hS; intro w hS; simp only [List.set] at hS) | ((with_reducible first | refine s_draw hS ?_ | refine Qf hS ?_); clear hS; intro w hS) | ((with_reducible first | refine s_new hS ?_ | refine Qg hS ?_); clear hS; intro b w hS)))
                have e : ((xs'.length : Nat) : Int) - 1 = ((xs'.length - 1 : Nat) : Int) := by omega
                rw [e]
                refine s_idx hj ?_
                rw [← hAA]
                (repeat (first | (with_reducible first | apply Q0 | refine Qa hS ?_ | refine Qb ?_ | refine Qc hS ?_ | refine Qd ?_) | ((with_reducible refine Qe hS ?_); clear hS; intro w hS; simp only [List.set] at hS) | ((with_reducible first | refine s_draw hS ?_ | refine Qf hS ?_); clear hS; intro w hS) | ((with_reducible first | refine s_new hS ?_ | refine Qg hS ?_); clear hS; intro b w hS)))
                refine s_ld hS Xh (pt_get (i := 2) (u := .int .i64 x0.size) rfl) ?_
                (repeat (first | (with_reducible first | apply Q0 | refine Qa hS ?_ | refine Qb ?_ | refine Qc hS ?_ | refine Qd ?_) | ((with_reducible refine Qe hS ?_); clear hS; intro w hS; simp only [List.set] at hS) | ((with_reducible first | refine s_draw hS ?_ | refine Qf hS ?_); clear hS; intro w hS) | ((with_reducible first | refine s_new hS ?_ | refine Qg hS ?_); clear hS; intro b w hS)))
                refine s_st hS Xu (pt_get (i := 2) (u := .int .i64 x0.size) rfl) rfl ?_
                clear hS; intro w hS
                rw [pt_set (by rw [xcells_len]; decide)] at hS
                have e5 : (xcells x0).set 2 (.int .i64 ((x0.size + x.b.length : Nat) : Int)) = [.int .i64 x0.file, .int .i64 x0.first, .int .i64 ((x0.size + x.b.length : Nat) : Int), x0.lv] := rfl
                rw [e5] at hS
                (repeat (first | (with_reducible first | apply Q0 | refine Qa hS ?_ | refine Qb ?_ | refine Qc hS ?_ | refine Qd ?_) | ((with_reducible refine Qe hS ?_); clear hS; intro w hS; simp only [List.set] at hS) | ((with_reducible first | refine s_draw hS ?_ | refine Qf hS ?_); clear hS; intro w hS) | ((with_reducible first | refine s_new hS ?_ | refine Qg hS ?_); clear hS; intro b w hS)))
                refine s_ld hS Xh (pt_get (i := 3) (u := x0.lv) rfl) ?_
                refine s_clone (cs := p.map u8c) hS (fun w' c hS' => hv.src hS' (.tl Xh)) (by simp) (u8c_one _) (by omega) ?_
                clear hS; intro u w hS _
                have hu := hS.ownOne .hd
                obtain ⟨ua, uc, eu, _⟩ := OwnSl.at hS .hd
                subst eu
                refine s_ld hS Xh (pt_get (i := 3) (u := x0.lv) rfl) ?_
                (repeat (first | (with_reducible first | apply Q0 | refine Qa hS ?_ | refine Qb ?_ | refine Qc hS ?_ | refine Qd ?_) | ((with_reducible refine Qe hS ?_); clear hS; intro w hS; simp only [List.set] at hS) | ((with_reducible first | refine s_draw hS ?_ | refine Qf hS ?_); clear hS; intro w hS) | ((with_reducible first | refine s_new hS ?_ | refine Qg hS ?_); clear hS; intro b w hS)))
                refine s_ld hS Xh (pt_get (i := 3) (u := x0.lv) rfl) ?_
                (repeat (first | (with_reducible first | apply Q0 | refine Qa hS ?_ | refine Qb ?_ | refine Qc hS ?_ | refine Qd ?_) | ((with_reducible refine Qe hS ?_); clear hS; intro w hS; simp only [List.set] at hS) | ((with_reducible first | refine s_draw hS ?_ | refine Qf hS ?_); clear hS; intro w hS) | ((with_reducible first | refine s_new hS ?_ | refine Qg hS ?_); clear hS; intro b w hS)))
                refine s_appSo (t := 31) (sz := 1) (n := x0.es.length) (cells := vals x0.es) (m := 1) (cs := [.slice ua p.length uc]) hS Xr (src_pt0 hS .hd rfl) rfl rfl (by simp [Value.oneCell']) (by omega) (by omega) ?_
                clear hS; intro v' w hS
                have hone := OwnSo.one hS (v := v') .hd
                obtain ⟨a', c', ev, _⟩ := OwnSo.at hS (v := v') .hd
                subst ev
                (repeat (first | (with_reducible first | apply Q0 | refine Qa hS ?_ | refine Qb ?_ | refine Qc hS ?_ | refine Qd ?_) | ((with_reducible refine Qe hS ?_); clear hS; intro w hS; simp only [List.set] at hS) | ((with_reducible first | refine s_draw hS ?_ | refine Qf hS ?_); clear hS; intro w hS) | ((with_reducible first | refine s_new hS ?_ | refine Qg hS ?_); clear hS; intro b w hS)))
                refine s_st hS Xu (pt_get (i := 3) (u := x0.lv) rfl) hone ?_
                clear hS; intro w hS
                rw [pt_set (by show 3 < 4; decide)] at hS
                have e6 : ([.int .i64 x0.file, .int .i64 x0.first, .int .i64 ((x0.size + x.b.length : Nat) : Int), x0.lv] : List Value).set 3 (.slice a' (x0.es.length + 1) c') = xcells ⟨x0.file, x0.first, x0.size + x.b.length, x0.es ++ [(.slice ua p.length uc, p)], a', c'⟩ := by
                  simp [xcells, XSeg.lv]
                rw [e6] at hS
                let y : XSeg := ⟨x0.file, x0.first, x0.size + x.b.length, x0.es ++ [(.slice ua p.length uc, p)], a', c'⟩
                have hx2 : (xs'.set (xs'.length - 1) y).map XSeg.pl = (xs'.take (xs'.length - 1)).map XSeg.pl ++ [addE x0.pl x.b.length p] := by
                  rw [List.set_eq_take_append_cons_drop, if_pos hj, List.drop_eq_nil_of_le (by omega), List.map_append]
                  congr 1
                  simp [y, XSeg.pl, addE, byts]
                have hpk := (putG_ok hg hw).1
                rw [putG_eq _ _ _ hA, ← hx2] at hpk
                have hS := hback y w _ (SL.into hS (t := .pt rb (AA ++ (xcells y ++ BB)) 97 :: .ob (OwnSo (.slice a' (x0.es.length + 1) c') 31 1 (x0.es.length + 1) (vals x0.es ++ [.slice ua p.length uc])) :: .ob (OwnSl (.slice ua p.length uc) 5 1 p.length (p.map u8c)) :: .ob (HAll BEntO x0.es) :: .ob (HAll XSegO (xs'.eraseIdx (xs'.length - 1))) :: .pt lp (lcells (.slice (some ⟨rb, ro, none⟩) xs'.length rc) tv dp g1.base g1.size) 58 :: .ob (TornO tv g1.torn) :: .ob (DskO dp d3) :: X :: F) Xi)
                have hS := SL.into hS (t := .ob (OwnSl (.slice ua p.length uc) 5 1 p.length (p.map u8c)) :: .ob (HAll BEntO x0.es) :: .ob (OwnSo (.slice a' (x0.es.length + 1) c') 31 1 (x0.es.length + 1) (vals x0.es ++ [.slice ua p.length uc])) :: .ob (HAll XSegO (xs'.eraseIdx (xs'.length - 1))) :: RowX (.slice (some ⟨rb, ro, none⟩) xs'.length rc) (xs'.set (xs'.length - 1) y) :: .pt lp (lcells (.slice (some ⟨rb, ro, none⟩) xs'.length rc) tv dp g1.base g1.size) 58 :: .ob (TornO tv g1.torn) :: .ob (DskO dp d3) :: X :: F) Xi
                have hS : SL W (.ob (BEntO (.slice ua p.length uc, p)) :: .ob (HAll BEntO x0.es) :: .ob (OwnSo (.slice a' (x0.es.length + 1) c') 31 1 (x0.es.length + 1) (vals x0.es ++ [.slice ua p.length uc])) :: .ob (HAll XSegO (xs'.eraseIdx (xs'.length - 1))) :: RowX (.slice (some ⟨rb, ro, none⟩) xs'.length rc) (xs'.set (xs'.length - 1) y) :: .pt lp (lcells (.slice (some ⟨rb, ro, none⟩) xs'.length rc) tv dp g1.base g1.size) 58 :: .ob (TornO tv g1.torn) :: .ob (DskO dp d3) :: X :: F) w := hS
                have hS := HAll.snoc (hS.perm (.swap _ _ _))
                have e7 : x0.es.length + 1 = y.es.length := by simp [y]
                have e8 : vals x0.es ++ [.slice ua p.length uc] = vals y.es := by simp [y, vals]
                rw [e7, e8] at hS
                have hS := (XSegO.iff (x := y)).2 (SL.into hS (t := .ob (OwnSo (.slice a' y.es.length c') 31 1 y.es.length (vals y.es)) :: .ob (HAll BEntO (x0.es ++ [(.slice ua p.length uc, p)])) :: .ob (HAll XSegO (xs'.eraseIdx (xs'.length - 1))) :: RowX (.slice (some ⟨rb, ro, none⟩) xs'.length rc) (xs'.set (xs'.length - 1) y) :: .pt lp (lcells (.slice (some ⟨rb, ro, none⟩) xs'.length rc) tv dp g1.base g1.size) 58 :: .ob (TornO tv g1.torn) :: .ob (DskO dp d3) :: X :: F) Xi)
                have hS := HAll.put hS hj
                (repeat (first | (with_reducible first | apply Q0 | refine Qa hS ?_ | refine Qb ?_ | refine Qc hS ?_ | refine Qd ?_) | ((with_reducible refine Qe hS ?_); clear hS; intro w hS; simp only [List.set] at hS) | ((with_reducible first | refine s_draw hS ?_ | refine Qf hS ?_); clear hS; intro w hS) | ((with_reducible first | refine s_new hS ?_ | refine Qg hS ?_); clear hS; intro b w hS)))
                (apply s_call (headL_spec lp (lcells (.slice (some ⟨rb, ro, none⟩) xs'.length rc) tv dp g1.base g1.size) 58 (.slice (some ⟨rb, ro, none⟩) xs'.length rc) (xs'.set (xs'.length - 1) y) rfl hpk (by omega) (by rw [List.length_set]; omega)) hS; exact Xp; clear hS)
                (rintro v post ⟨rfl, rfl⟩ w hS; (try simp only [app] at hS); (repeat (first | (with_reducible first | apply Q0 | refine Qa hS ?_ | refine Qb ?_ | refine Qc hS ?_ | refine Qd ?_) | ((with_reducible refine Qe hS ?_); clear hS; intro w hS; simp only [List.set] at hS) | ((with_reducible first | refine s_draw hS ?_ | refine Qf hS ?_); clear hS; intro w hS) | ((with_reducible first | refine s_new hS ?_ | refine Qg hS ?_); clear hS; intro b w hS))))
                rw [hx2]
                have hS := (LogO.iff (g := { segs := (xs'.take (xs'.length - 1)).map XSeg.pl ++ [addE x0.pl x.b.length p], base := g1.base, size := g1.size, torn := g1.torn })).2 ⟨_, tv, xs'.set (xs'.length - 1) y, hx2, SL.into hS (t := .pt lp (lcells (.slice (some ⟨rb, ro, none⟩) xs'.length rc) tv dp g1.base g1.size) 58 :: RowX (.slice (some ⟨rb, ro, none⟩) xs'.length rc) (xs'.set (xs'.length - 1) y) :: .ob (HAll XSegO (xs'.set (xs'.length - 1) y)) :: .ob (TornO tv g1.torn) :: .ob (DskO dp d3) :: X :: F) Xi⟩
                exact ⟨_, ⟨rfl, rfl⟩, SL.into hS Xi⟩
            · have hG := hss ha hs
              subst hG
              (repeat (first | (with_reducible first | apply Q0 | refine Qa hS ?_ | refine Qb ?_ | refine Qc hS ?_ | refine Qd ?_) | ((with_reducible refine Qe hS ?_); clear hS; intro w hS; simp only [List.set] at hS) | ((with_reducible first | refine s_draw hS ?_ | refine Qf hS ?_); clear hS; intro w hS) | ((with_reducible first | refine s_new hS ?_ | refine Qg hS ?_); clear hS; intro b w hS)))
              refine s_ifp (fun _ => ?_) (fun h => absurd hs h)
              (exact ⟨_, ⟨rfl, rfl⟩, SL.into hS Xi⟩)
        · have hG := haa ha
          subst hG
          refine ⟨fun vs w => vs = [.int .i64 (d1.append x.file x.b).2] ∧ SL W (.ob (LogO lp dp g1) :: .ob (DskO dp (d1.append x.file x.b).1) :: X :: F) w, ?_, ?_⟩
          · (repeat (first | (with_reducible first | apply Q0 | refine Qa hS ?_ | refine Qb ?_ | refine Qc hS ?_ | refine Qd ?_) | ((with_reducible refine Qe hS ?_); clear hS; intro w hS; simp only [List.set] at hS) | ((with_reducible first | refine s_draw hS ?_ | refine Qf hS ?_); clear hS; intro w hS) | ((with_reducible first | refine s_new hS ?_ | refine Qg hS ?_); clear hS; intro b w hS)))
            refine s_ifp (fun h => absurd h ha) (fun _ => ⟨rfl, SL.into hS Xi⟩)
          · clear hS
            rintro v7 w ⟨hvs, hS⟩
            cases hvs
            (repeat (first | (with_reducible first | apply Q0 | refine Qa hS ?_ | refine Qb ?_ | refine Qc hS ?_ | refine Qd ?_) | ((with_reducible refine Qe hS ?_); clear hS; intro w hS; simp only [List.set] at hS) | ((with_reducible first | refine s_draw hS ?_ | refine Qf hS ?_); clear hS; intro w hS) | ((with_reducible first | refine s_new hS ?_ | refine Qg hS ?_); clear hS; intro b w hS)))
            refine s_ifp (fun _ => ?_) (fun h => absurd ha h)
            (exact ⟨_, ⟨rfl, rfl⟩, SL.into hS Xi⟩)
    · rw [appendG_m hpl hm]
      refine ⟨fun vs w => vs = [.int .i64 (mendG g d).2] ∧ SL W (.ob (LogO lp dp (mendG g d).1.1) :: .ob (DskO dp (mendG g d).1.2) :: X :: F) w, ?_, ?_⟩
      · (repeat (first | (with_reducible first | apply Q0 | refine Qa hS ?_ | refine Qb ?_ | refine Qc hS ?_ | refine Qd ?_) | ((with_reducible refine Qe hS ?_); clear hS; intro w hS; simp only [List.set] at hS) | ((with_reducible first | refine s_draw hS ?_ | refine Qf hS ?_); clear hS; intro w hS) | ((with_reducible first | refine s_new hS ?_ | refine Qg hS ?_); clear hS; intro b w hS)))
        refine s_ifp (fun h => absurd h hm) (fun _ => ⟨rfl, SL.into hS Xi⟩)
      · clear hS
        rintro v7 w ⟨hvs, hS⟩
        cases hvs
        refine ⟨fun vs w => vs = [.int .i64 (mendG g d).2] ∧ SL W (.ob (LogO lp dp (mendG g d).1.1) :: .ob (DskO dp (mendG g d).1.2) :: X :: F) w, ?_, ?_⟩
        · (repeat (first | (with_reducible first | apply Q0 | refine Qa hS ?_ | refine Qb ?_ | refine Qc hS ?_ | refine Qd ?_) | ((with_reducible refine Qe hS ?_); clear hS; intro w hS; simp only [List.set] at hS) | ((with_reducible first | refine s_draw hS ?_ | refine Qf hS ?_); clear hS; intro w hS) | ((with_reducible first | refine s_new hS ?_ | refine Qg hS ?_); clear hS; intro b w hS)))
          refine s_ifp (fun h => absurd h hm) (fun _ => ⟨rfl, hS⟩)
        · clear hS
          rintro v7 w ⟨hvs, hS⟩
          cases hvs
          (repeat (first | (with_reducible first | apply Q0 | refine Qa hS ?_ | refine Qb ?_ | refine Qc hS ?_ | refine Qd ?_) | ((with_reducible refine Qe hS ?_); clear hS; intro w hS; simp only [List.set] at hS) | ((with_reducible first | refine s_draw hS ?_ | refine Qf hS ?_); clear hS; intro w hS) | ((with_reducible first | refine s_new hS ?_ | refine Qg hS ?_); clear hS; intro b w hS)))
          refine s_ifp (fun _ => ?_) (fun h => absurd hm h)
          (exact ⟨_, ⟨rfl, rfl⟩, SL.into hS Xi⟩)
end Go.Proofs.YtmcglicbolhmfaaGreat
namespace Go.Proofs.YtmcglicbolhmfaaGreat
set_option linter.unusedVariables false
set_option maxRecDepth 100000
open Go.RowKit

theorem tearG_er {g : PLog} {d : DS} {p : List UInt8} {k e : Int} (hk : 0 ≤ k) (h : planG g d.off p = .error e) : tearG g d p k = ((g, d), e) := by
  unfold tearG; rw [if_neg (by omega), h]
theorem tearG_m {g : PLog} {d : DS} {p : List UInt8} {k : Int} {x : PWr} (hk : 0 ≤ k) (h : planG g d.off p = .ok x) (hm : (mendG g d).2 ≠ 0) : tearG g d p k = ((mendG g d).1, (mendG g d).2) := by
  unfold tearG; rw [if_neg (by omega), h]; simp only; rw [if_pos hm]
theorem tearG_a {g : PLog} {d : DS} {p : List UInt8} {k : Int} {x : PWr} (hk : 0 ≤ k) (h : planG g d.off p = .ok x) (hm : (mendG g d).2 = 0) (ha : ((mendG g d).1.2.append x.file (x.b.take (k.toNat % x.b.length))).2 ≠ 0) :
    tearG g d p k = (((mendG g d).1.1, ((mendG g d).1.2.append x.file (x.b.take (k.toNat % x.b.length))).1), ((mendG g d).1.2.append x.file (x.b.take (k.toNat % x.b.length))).2) := by
  unfold tearG; rw [if_neg (by omega), h]; simp only; rw [if_neg (by simp [hm]), if_pos ha]
theorem tearG_k {g : PLog} {d : DS} {p : List UInt8} {k : Int} {x : PWr} (hk : 0 ≤ k) (h : planG g d.off p = .ok x) (hm : (mendG g d).2 = 0) (ha : ((mendG g d).1.2.append x.file (x.b.take (k.toNat % x.b.length))).2 = 0) :
    tearG g d p k = (({ (mendG g d).1.1 with torn := some ⟨x.file, if x.fresh = true then 0 else lastSize g.segs, x.fresh⟩ }, ((mendG g d).1.2.append x.file (x.b.take (k.toNat % x.b.length))).1), 0) := by
  unfold tearG; rw [if_neg (by omega), h]; simp only; rw [if_neg (by simp [hm]), if_neg (by simp [ha]), (mendG_same g d).1]
end Go.Proofs.YtmcglicbolhmfaaGreat
namespace Go.Proofs.YtmcglicbolhmfaaGreat
set_option linter.unusedVariables false
set_option maxRecDepth 100000
open Go.RowKit

theorem ops_trimL (n : Int) : ∀ (L : List PSeg) (d : DS), (trimL L d n).1.2.ops ≤ d.ops + L.length
  | [], d => Nat.le_refl _
  | [s], d => Nat.le_add_right _ _
  | s :: t :: L, d => by
    rw [trimL]
    have h1 := ops_remove d s.file
    split
    · split
      · simp; omega
      · have := ops_trimL n (t :: L) (d.remove s.file).1
        simp at this ⊢; omega
    · simp
/-- wal.Log.files -/
theorem filesL_spec (lp dp : Nat) (g : PLog) (d : DS) {M N : Nat} (hb0 : 0 ≤ g.base) (hb1 : g.base ≤ 12288) (hok : d.Ok N) (hR : d.R.length ≤ 100000) :
    Spec Tryz.prog 31 [.pointer (some ⟨lp, 0, none⟩)] [.ob (LogO lp dp g), .ob (DskO dp d)] (fun v post => post = [.ob (OwnSl v 3 1 (idsG g.base d.R).length ((idsG g.base d.R).map (Value.int .i64))), .ob (LogO lp dp g), .ob (DskO dp d)]) := by
  intro W F w hS; apply vc31; unfold Vc31; (try simp only [app] at hS)
  obtain ⟨sv, tv, xs, hx, hS⟩ := LogO.iff.1 hS
  (repeat (first | (with_reducible first | apply Q0 | refine Qa hS ?_ | refine Qb ?_ | refine Qc hS ?_ | refine Qd ?_) | ((with_reducible refine Qe hS ?_); clear hS; intro w hS; simp only [List.set] at hS) | ((with_reducible first | refine s_draw hS ?_ | refine Qf hS ?_); clear hS; intro w hS) | ((with_reducible first | refine s_new hS ?_ | refine Qg hS ?_); clear hS; intro b w hS)))
  (apply s_call (filesD_spec dp d N hok hR) hS; exact Xp; clear hS)
  rintro fl post rfl w hS
  (try simp only [app] at hS)
  refine s_lenO hS (t := 3) (sz := 1) (n := d.R.length) (cells := d.R.map fun x => .int .i64 x.id) Xh ?_
  have hS : SL W (.ob (OwnSl (.slice none 0 0) 3 1 (idsG g.base (d.R.take 0)).length ((idsG g.base (d.R.take 0)).map (Value.int .i64))) :: _) w := OwnSl.nil hS
  refine ⟨fun vs w => ∃ (u : Value) (i : Nat), i ≤ d.R.length ∧ vs = [u, .int .i64 i] ∧ SL W (.ob (OwnSl u 3 1 (idsG g.base (d.R.take i)).length ((idsG g.base (d.R.take i)).map (Value.int .i64))) :: .pt lp (lcells sv tv dp g.base g.size) 58 :: RowX sv xs :: .ob (HAll XSegO xs) :: .ob (TornO tv g.torn) :: .ob (DskO dp d) :: .ob (OwnSl fl 3 1 d.R.length (d.R.map fun x => .int .i64 x.id)) :: F) w,
    fun vs _ => match vs with | [_, .int _ i] => (d.R.length - i).toNat | _ => 0, ⟨.slice none 0 0, 0, by omega, rfl, SL.into hS Xi⟩, ?_⟩
  clear hS
  rintro v3 v12 w ⟨u, i, hi, hvs, hS⟩
  cases hvs
  (repeat (first | (with_reducible first | apply Q0 | refine Qa hS ?_ | refine Qb ?_ | refine Qc hS ?_ | refine Qd ?_) | ((with_reducible refine Qe hS ?_); clear hS; intro w hS; simp only [List.set] at hS) | ((with_reducible first | refine s_draw hS ?_ | refine Qf hS ?_); clear hS; intro w hS) | ((with_reducible first | refine s_new hS ?_ | refine Qg hS ?_); clear hS; intro b w hS)))
  refine s_ifp (fun h => ?_) (fun h => ?_)
  · have hil : i < d.R.length := by omega
    have hu : (d.R.map fun x => Value.int .i64 x.id)[i]? = some (.int .i64 d.R[i].id) := by simp [hil]
    have hidl : (idsG g.base (d.R.take i)).length ≤ 100000 := by
      unfold idsG
      have := List.length_filter_le (fun f => decide (g.base ≤ f ∧ f < g.base + 4096)) ((d.R.take i).map PF.id)
      rw [List.length_map, List.length_take] at this
      omega
    have hstep : idsG g.base (d.R.take (i + 1)) = idsG g.base (d.R.take i) ++ if g.base ≤ d.R[i].id ∧ d.R[i].id < g.base + 4096 then [d.R[i].id] else [] := by
      unfold idsG
      rw [List.take_add_one, List.getElem?_eq_getElem hil, List.map_append, List.filter_append]
      congr 1
      simp only [Option.toList_some, List.map_cons, List.map_nil, List.filter_cons, List.filter_nil, decide_eq_true_eq]
    have hlast : ∀ {w : World} {u : Value}, (idsG g.base (d.R.take (i + 1)) = idsG g.base (d.R.take i)) → SL W (.ob (OwnSl u 3 1 (idsG g.base (d.R.take i)).length ((idsG g.base (d.R.take i)).map (Value.int .i64))) :: .pt lp (lcells sv tv dp g.base g.size) 58 :: RowX sv xs :: .ob (HAll XSegO xs) :: .ob (TornO tv g.torn) :: .ob (DskO dp d) :: .ob (OwnSl fl 3 1 d.R.length (d.R.map fun x => .int .i64 x.id)) :: F) w →
        (∃ (u' : Value) (i' : Nat), i' ≤ d.R.length ∧ [u, Value.int .i64 ((i + 1 : Nat) : Int)] = [u', .int .i64 i'] ∧ SL W (.ob (OwnSl u' 3 1 (idsG g.base (d.R.take i')).length ((idsG g.base (d.R.take i')).map (Value.int .i64))) :: .pt lp (lcells sv tv dp g.base g.size) 58 :: RowX sv xs :: .ob (HAll XSegO xs) :: .ob (TornO tv g.torn) :: .ob (DskO dp d) :: .ob (OwnSl fl 3 1 d.R.length (d.R.map fun x => .int .i64 x.id)) :: F) w) := fun e h => ⟨_, i + 1, by omega, rfl, by rw [e]; exact h⟩
    refine s_get1O hS (t := 3) Xh hil hu ?_
    (repeat (first | (with_reducible first | apply Q0 | refine Qa hS ?_ | refine Qb ?_ | refine Qc hS ?_ | refine Qd ?_) | ((with_reducible refine Qe hS ?_); clear hS; intro w hS; simp only [List.set] at hS) | ((with_reducible first | refine s_draw hS ?_ | refine Qf hS ?_); clear hS; intro w hS) | ((with_reducible first | refine s_new hS ?_ | refine Qg hS ?_); clear hS; intro b w hS)))
    refine s_ifp (fun h1 => ?_) (fun h1 => ?_)
    · (repeat (first | (with_reducible first | apply Q0 | refine Qa hS ?_ | refine Qb ?_ | refine Qc hS ?_ | refine Qd ?_) | ((with_reducible refine Qe hS ?_); clear hS; intro w hS; simp only [List.set] at hS) | ((with_reducible first | refine s_draw hS ?_ | refine Qf hS ?_); clear hS; intro w hS) | ((with_reducible first | refine s_new hS ?_ | refine Qg hS ?_); clear hS; intro b w hS)))
      refine s_ifp (fun h2 => ?_) (fun h2 => ?_)
      · rw [if_pos ⟨h1, h2⟩] at hstep
        (repeat (first | (with_reducible first | apply Q0 | refine Qa hS ?_ | refine Qb ?_ | refine Qc hS ?_ | refine Qd ?_) | ((with_reducible refine Qe hS ?_); clear hS; intro w hS; simp only [List.set] at hS) | ((with_reducible first | refine s_draw hS ?_ | refine Qf hS ?_); clear hS; intro w hS) | ((with_reducible first | refine s_new hS ?_ | refine Qg hS ?_); clear hS; intro b w hS)))
        refine s_app (m := 1) (cs := [.int .i64 d.R[i].id]) hS Xr (src_pt0 hS .hd rfl) rfl rfl (by simp [Value.oneCell']) (by omega) (by omega) ?_
        clear hS; intro v' w hS
        have e1 : (idsG g.base (d.R.take i)).length + 1 = (idsG g.base (d.R.take (i + 1))).length := by rw [hstep, List.length_append]; rfl
        have e2 : (idsG g.base (d.R.take i)).map (Value.int .i64) ++ [Value.int .i64 d.R[i].id] = (idsG g.base (d.R.take (i + 1))).map (Value.int .i64) := by rw [hstep, List.map_append]; rfl
        rw [e1, e2] at hS
        (repeat (first | (with_reducible first | apply Q0 | refine Qa hS ?_ | refine Qb ?_ | refine Qc hS ?_ | refine Qd ?_) | ((with_reducible refine Qe hS ?_); clear hS; intro w hS; simp only [List.set] at hS) | ((with_reducible first | refine s_draw hS ?_ | refine Qf hS ?_); clear hS; intro w hS) | ((with_reducible first | refine s_new hS ?_ | refine Qg hS ?_); clear hS; intro b w hS)))
        exact ⟨⟨v', i + 1, by omega, rfl, SL.into hS Xi⟩, by dsimp only; omega⟩
      · rw [if_neg (by omega), List.append_nil] at hstep
        (repeat (first | (with_reducible first | apply Q0 | refine Qa hS ?_ | refine Qb ?_ | refine Qc hS ?_ | refine Qd ?_) | ((with_reducible refine Qe hS ?_); clear hS; intro w hS; simp only [List.set] at hS) | ((with_reducible first | refine s_draw hS ?_ | refine Qf hS ?_); clear hS; intro w hS) | ((with_reducible first | refine s_new hS ?_ | refine Qg hS ?_); clear hS; intro b w hS)))
        exact ⟨hlast hstep hS, by dsimp only; omega⟩
    · rw [if_neg (by omega), List.append_nil] at hstep
      (repeat (first | (with_reducible first | apply Q0 | refine Qa hS ?_ | refine Qb ?_ | refine Qc hS ?_ | refine Qd ?_) | ((with_reducible refine Qe hS ?_); clear hS; intro w hS; simp only [List.set] at hS) | ((with_reducible first | refine s_draw hS ?_ | refine Qf hS ?_); clear hS; intro w hS) | ((with_reducible first | refine s_new hS ?_ | refine Qg hS ?_); clear hS; intro b w hS)))
      exact ⟨hlast hstep hS, by dsimp only; omega⟩
  · have hie : i = d.R.length := by omega
    subst hie
    rw [List.take_length] at hS
    have hS := (LogO.iff (g := g)).2 ⟨sv, tv, xs, hx, SL.into hS (t := .pt lp (lcells sv tv dp g.base g.size) 58 :: RowX sv xs :: .ob (HAll XSegO xs) :: .ob (TornO tv g.torn) :: .ob (OwnSl v3 3 1 (idsG g.base d.R).length ((idsG g.base d.R).map (Value.int .i64))) :: .ob (DskO dp d) :: F) Xi⟩
    exact ⟨_, rfl, SL.into hS Xi⟩
end Go.Proofs.YtmcglicbolhmfaaGreat
namespace Go.Proofs.YtmcglicbolhmfaaGreat
set_option linter.unusedVariables false
set_option maxRecDepth 100000
open Go.RowKit

theorem scanA_ok2 (f : Nat) : ∀ b : List UInt8, b.length < f → (∀ p ∈ (scanA b).1, p.length ≤ 1048576) ∧ (scanA b).1.length ≤ (scanA b).2 := by
  induction f with
  | zero => intro b h; omega
  | succ f ih =>
    intro b hb
    cases h : takeR b with
    | error e => rw [scanA_er h]; exact ⟨by simp, by simp⟩
    | ok x =>
      obtain ⟨p, n⟩ := x
      have h2 := takeR_len h
      obtain ⟨i1, i2⟩ := ih (b.drop n) (by rw [List.length_drop]; omega)
      rw [scanA_ok h]
      refine ⟨fun q hq => ?_, ?_⟩
      · rcases List.mem_cons.1 hq with rfl | hq
        · exact h2.2.2.1
        · exact i1 q hq
      · show (p :: (scanA (b.drop n)).1).length ≤ n + (scanA (b.drop n)).2
        rw [List.length_cons]; omega
theorem readS_ok {q : List UInt8} {f : Int} {l : List (List UInt8)} {n : Nat} (h : readS q = some (f, l, n)) : 1 ≤ f ∧ f ≤ 1099511627776 ∧ n ≤ q.length ∧ l.length ≤ q.length ∧ ∀ p ∈ l, p.length ≤ 1048576 := by
  obtain ⟨h1, h2⟩ := scanA_ok2 (q.length + 1) q (by omega)
  have h3 := scanA_le (q.length + 1) q (by omega)
  unfold readS at h
  split at h
  · cases h
  · rename_i hd l' hs
    rw [hs] at h1 h2
    cases hh : hdOf hd with
    | none => rw [hh] at h; cases h
    | some k =>
      rw [hh] at h
      cases h
      have hk : 1 ≤ f ∧ f ≤ 1099511627776 := by
        unfold hdOf at hh
        split at hh
        · unfold hdF at hh
          split at hh
          · split at hh
            · rename_i hc
              cases hh; exact ⟨hc.2.1, hc.2.2⟩
            · cases hh
          · cases hh
        · cases hh
      refine ⟨hk.1, hk.2, h3, ?_, fun p hp => h1 p (.tail _ hp)⟩
      rw [List.length_cons] at h2; omega
theorem loadG_ok {L : List PSeg} {R : List PF} {f : Int} {last : Bool} {M N : Nat} (hR : ∀ x ∈ R, x.b.length ≤ N) (hN : N ≤ M) (f0 : 0 ≤ f) (f1 : f ≤ 100000) (hL : ∀ s ∈ L, SegOk s M) : (∀ s ∈ (loadG L R f last).2, SegOk s M) ∧ (loadG L R f last).2.length ≤ L.length + 1 := by
  have hq : (((getK PF.id R f).map PF.b).getD []).length ≤ N := by
    cases hg : getK PF.id R f with
    | none => simp
    | some x => exact hR x (getK_mem hg).1
  unfold loadG
  generalize ((getK PF.id R f).map PF.b).getD [] = q at *
  simp only
  cases hr : readS q with
  | none => exact ⟨hL, by simp⟩
  | some y =>
    obtain ⟨k, l, n⟩ := y
    have := readS_ok hr
    simp only
    split
    · exact ⟨hL, by simp⟩
    · refine ⟨fun s hs => ?_, by simp⟩
      rcases List.mem_append.1 hs with hs | hs
      · exact hL s hs
      · rw [List.mem_singleton.1 hs]
        exact ⟨f0, f1, this.1, this.2.1, by show n ≤ M; omega, by show l.length ≤ M; omega, this.2.2.2.2⟩
/-- wal.Log.load -/
theorem loadL_spec (lp dp : Nat) (g : PLog) (d : DS) (f : Int) (last : Bool) {M N : Nat} (hg : g.Ok M) (hM : M ≤ 1000000000000) (hok : d.Ok N) (hN : N ≤ 10000000000) :
    Spec Tryz.prog 32 [.pointer (some ⟨lp, 0, none⟩), .int .i64 f, .bool last] [.ob (LogO lp dp g), .ob (DskO dp d)] (Gives (.tuple #[.bool (loadG g.segs d.R f last).1.1, .bool (loadG g.segs d.R f last).1.2]) [.ob (LogO lp dp { g with segs := (loadG g.segs d.R f last).2 }), .ob (DskO dp d)]) := by
  intro W F w hS; apply vc32; unfold Vc32; (try simp only [app] at hS)
  obtain ⟨sv, tv, xs, hx, hS⟩ := LogO.iff.1 hS
  obtain ⟨hxo, hxl, hh0, hh1⟩ := hg.xs hx
  have hhead : headG (xs.map XSeg.pl) = headG g.segs := by rw [hx]
  have hgl : g.segs.length = xs.length := by rw [← hx, List.length_map]
  (repeat (first | (with_reducible first | apply Q0 | refine Qa hS ?_ | refine Qb ?_ | refine Qc hS ?_ | refine Qd ?_) | ((with_reducible refine Qe hS ?_); clear hS; intro w hS; simp only [List.set] at hS) | ((with_reducible first | refine s_draw hS ?_ | refine Qf hS ?_); clear hS; intro w hS) | ((with_reducible first | refine s_new hS ?_ | refine Qg hS ?_); clear hS; intro b w hS)))
  (apply s_call (readD_spec dp d N hok (by omega) f) hS; exact Xp; clear hS)
  rintro r post hQ w hS
  have hq : (((getK PF.id d.R f).map PF.b).getD []).length ≤ N := by
    cases hg : getK PF.id d.R f with
    | none => simp
    | some x => exact hok.len x (getK_mem hg).1
  have hload : loadG g.segs d.R f last = match readS (((getK PF.id d.R f).map PF.b).getD []) with
    | none => ((false, last), g.segs)
    | some (first, l, n) => if (last = false ∧ (n ≠ (((getK PF.id d.R f).map PF.b).getD []).length ∨ l.length = 0)) ∨ (0 < g.segs.length ∧ first ≠ headG g.segs + 1) ∨ 1099511627776 < first + l.length - 1 then ((true, false), g.segs)
      else ((true, true), g.segs ++ [⟨f, first, n, l⟩]) := rfl
  have hrd : ∃ (X : Chunk) (a : Option Addr) (c : Nat) (bb : Bool), r = .tuple #[.slice a (((getK PF.id d.R f).map PF.b).getD []).length c, .bool bb] ∧ Rdb X (.slice a (((getK PF.id d.R f).map PF.b).getD []).length c) (((getK PF.id d.R f).map PF.b).getD []) ∧ SL W (X :: .ob (DskO dp d) :: .pt lp (lcells sv tv dp g.base g.size) 58 :: RowX sv xs :: .ob (HAll XSegO xs) :: .ob (TornO tv g.torn) :: F) w := by
    unfold ReadQ at hQ
    cases hg : getK PF.id d.R f with
    | none =>
      rw [hg] at hQ
      obtain ⟨rfl, rfl⟩ := hQ
      (try simp only [app] at hS)
      exact ⟨.mem Heap.emp, none, 0, false, rfl, Rdb.nil, SL.into hS.memNil Xi⟩
    | some x =>
      rw [hg] at hQ
      obtain ⟨u, rfl, rfl⟩ := hQ
      (try simp only [app] at hS)
      obtain ⟨a, c, rfl, _⟩ := OwnSl.at hS (v := u) (t := 5) (sz := 1) (n := x.b.length) (cells := x.b.map u8c) Xh
      exact ⟨.ob (OwnSl (.slice a x.b.length c) 5 1 x.b.length (x.b.map u8c)), a, c, true, rfl, Rdb.own, SL.into hS Xi⟩
  clear hS hQ
  obtain ⟨X, a, c, bb, rfl, hX, hS⟩ := hrd
  rw [hload]
  clear hload
  generalize ((getK PF.id d.R f).map PF.b).getD [] = q at *
  (repeat (first | (with_reducible first | apply Q0 | refine Qa hS ?_ | refine Qb ?_ | refine Qc hS ?_ | refine Qd ?_) | ((with_reducible refine Qe hS ?_); clear hS; intro w hS; simp only [List.set] at hS) | ((with_reducible first | refine s_draw hS ?_ | refine Qf hS ?_); clear hS; intro w hS) | ((with_reducible first | refine s_new hS ?_ | refine Qg hS ?_); clear hS; intro b w hS)))
  (apply s_call (segRead_spec X _ q hX (by omega)) hS; exact Xp; clear hS)
  rintro r post hQ w hS
  unfold ReadQ2 at hQ
  cases hr : readS q with
  | none =>
    rw [hr] at hQ
    obtain ⟨rfl, rfl⟩ := hQ
    (try simp only [app] at hS)
    (repeat (first | (with_reducible first | apply Q0 | refine Qa hS ?_ | refine Qb ?_ | refine Qc hS ?_ | refine Qd ?_) | ((with_reducible refine Qe hS ?_); clear hS; intro w hS; simp only [List.set] at hS) | ((with_reducible first | refine s_draw hS ?_ | refine Qf hS ?_); clear hS; intro w hS) | ((with_reducible first | refine s_new hS ?_ | refine Qg hS ?_); clear hS; intro b w hS)))
    refine s_ifp (fun _ => ?_) (fun h => absurd (by decide) h)
    have hS := (LogO.iff (g := g)).2 ⟨sv, tv, xs, hx, SL.into hS (t := .pt lp (lcells sv tv dp g.base g.size) 58 :: RowX sv xs :: .ob (HAll XSegO xs) :: .ob (TornO tv g.torn) :: .ob (DskO dp d) :: F) Xi⟩
    exact ⟨_, ⟨rfl, rfl⟩, SL.into hS Xi⟩
  | some y =>
    obtain ⟨first, l, n⟩ := y
    have hrk := readS_ok hr
    rw [hr] at hQ
    obtain ⟨u, es, he, rfl, rfl⟩ := hQ
    (try simp only [app] at hS)
    have hel : l.length = es.length := by rw [← he, byts_len]
    obtain ⟨ua, uc, rfl, _⟩ := OwnSo.at hS (v := u) .hd
    obtain ⟨r1, r2, r3, r4, r5⟩ := hrk
    simp only [hel, hgl]
    have hsOne : SegOk (XSeg.pl ⟨f, first, n, es, ua, uc⟩) M ∨ True := .inr trivial
    (repeat (first | (with_reducible first | apply Q0 | refine Qa hS ?_ | refine Qb ?_ | refine Qc hS ?_ | refine Qd ?_) | ((with_reducible refine Qe hS ?_); clear hS; intro w hS; simp only [List.set] at hS) | ((with_reducible first | refine s_draw hS ?_ | refine Qf hS ?_); clear hS; intro w hS) | ((with_reducible first | refine s_new hS ?_ | refine Qg hS ?_); clear hS; intro b w hS)))
    refine s_ifp (fun h => absurd rfl h) (fun _ => ?_)
    (repeat (first | (with_reducible first | apply Q0 | refine Qa hS ?_ | refine Qb ?_ | refine Qc hS ?_ | refine Qd ?_) | ((with_reducible refine Qe hS ?_); clear hS; intro w hS; simp only [List.set] at hS) | ((with_reducible first | refine s_draw hS ?_ | refine Qf hS ?_); clear hS; intro w hS) | ((with_reducible first | refine s_new hS ?_ | refine Qg hS ?_); clear hS; intro b w hS)))
    obtain ⟨sb, rfl⟩ : ∃ k, k = b := ⟨b, rfl⟩
    obtain ⟨I, hI⟩ : ∃ I : List Value → World → Prop, I = fun vs w => ∃ bad : Bool, vs = [.bool bad] ∧ (bad = true ↔ ((last = false ∧ (n ≠ q.length ∨ es.length = 0)) ∨ (0 < xs.length ∧ first ≠ headG g.segs + 1) ∨ 1099511627776 < first + es.length - 1)) ∧
      SL W (.pt sb [.int .i64 f, .int .i64 first, .int .i64 n, .slice ua es.length uc] 97 :: .ob (OwnSo (.slice ua es.length uc) 31 1 es.length (vals es)) :: .ob (HAll BEntO es) :: .ob (DskO dp d) :: .pt lp (lcells sv tv dp g.base g.size) 58 :: RowX sv xs :: .ob (HAll XSegO xs) :: .ob (TornO tv g.torn) :: F) w := ⟨_, rfl⟩
    refine ⟨I, ?_, ?_⟩
    · have hend : ∀ (w : World) (K : Value → World → Prop), ¬ (last = false ∧ (n ≠ q.length ∨ es.length = 0)) → SL W (.pt sb [.int .i64 f, .int .i64 first, .int .i64 n, .slice ua es.length uc] 97 :: .ob (OwnSo (.slice ua es.length uc) 31 1 es.length (vals es)) :: .ob (HAll BEntO es) :: .ob (DskO dp d) :: .pt lp (lcells sv tv dp g.base g.size) 58 :: RowX sv xs :: .ob (HAll XSegO xs) :: .ob (TornO tv g.torn) :: F) w →
          (∀ (bad : Bool) w, (bad = true ↔ ((last = false ∧ (n ≠ q.length ∨ es.length = 0)) ∨ (0 < xs.length ∧ first ≠ headG g.segs + 1) ∨ 1099511627776 < first + es.length - 1)) → SL W (.pt sb [.int .i64 f, .int .i64 first, .int .i64 n, .slice ua es.length uc] 97 :: .ob (OwnSo (.slice ua es.length uc) 31 1 es.length (vals es)) :: .ob (HAll BEntO es) :: .ob (DskO dp d) :: .pt lp (lcells sv tv dp g.base g.size) 58 :: RowX sv xs :: .ob (HAll XSegO xs) :: .ob (TornO tv g.torn) :: F) w → K (.bool bad) w) →
          (HNil (.pointer (some ⟨lp, 0, none⟩)) fun v54 => HFld 0 v54 fun v55 => HFld 0 v55 fun v56 => HLd v56 w fun v57 => HLenS v57 fun v58 => HBin .gtr v58 (.int .i64 0) fun v59 =>
            HIf v59
            (HNil (.pointer (some ⟨lp, 0, none⟩)) fun v63 => HFld 0 v63 fun v64 => HCall Tryz.prog 17 [v64] w fun v65 w_5 => HBin .add v65 (.int .i64 1) fun v66 => HBin .neq (.int .i64 first) v66 fun v67 =>
              HIf v67 (K (.bool true) w_5)
              (HLdN 4 (.pointer (some ⟨sb, 0, none⟩)) w_5 fun v71 => HCall Tryz.prog 46 [v71] w_5 fun v72 w_6 => HBin .sub v72 (.int .i64 1) fun v73 => HBin .gtr v73 (.int .i64 1099511627776) fun v74 => K v74 w_6))
            (HLdN 4 (.pointer (some ⟨sb, 0, none⟩)) w fun v71_1 => HCall Tryz.prog 46 [v71_1] w fun v72_1 w_7 => HBin .sub v72_1 (.int .i64 1) fun v73_1 => HBin .gtr v73_1 (.int .i64 1099511627776) fun v74_1 => K v74_1 w_7)) := by
        intro w K hn hS hK
        clear bb
        (repeat (first | (with_reducible first | apply Q0 | refine Qa hS ?_ | refine Qb ?_ | refine Qc hS ?_ | refine Qd ?_) | ((with_reducible refine Qe hS ?_); clear hS; intro w hS; simp only [List.set] at hS) | ((with_reducible first | refine s_draw hS ?_ | refine Qf hS ?_); clear hS; intro w hS) | ((with_reducible first | refine s_new hS ?_ | refine Qg hS ?_); clear hS; intro b w hS)))
        refine s_lenSo hS (v := sv) (t := 97) (sz := 4) (n := xs.length) (cells := (xs.map xcells).flatten) Xh ?_
        (repeat (first | (with_reducible first | apply Q0 | refine Qa hS ?_ | refine Qb ?_ | refine Qc hS ?_ | refine Qd ?_) | ((with_reducible refine Qe hS ?_); clear hS; intro w hS; simp only [List.set] at hS) | ((with_reducible first | refine s_draw hS ?_ | refine Qf hS ?_); clear hS; intro w hS) | ((with_reducible first | refine s_new hS ?_ | refine Qg hS ?_); clear hS; intro b w hS)))
        refine s_ifp (fun h1 => ?_) (fun h1 => ?_)
        · (repeat (first | (with_reducible first | apply Q0 | refine Qa hS ?_ | refine Qb ?_ | refine Qc hS ?_ | refine Qd ?_) | ((with_reducible refine Qe hS ?_); clear hS; intro w hS; simp only [List.set] at hS) | ((with_reducible first | refine s_draw hS ?_ | refine Qf hS ?_); clear hS; intro w hS) | ((with_reducible first | refine s_new hS ?_ | refine Qg hS ?_); clear hS; intro b w hS)))
          (apply s_call (headL_spec lp (lcells sv tv dp g.base g.size) 58 sv xs rfl hxo (by omega) (by omega)) hS; exact Xp; clear hS)
          (rintro v post ⟨rfl, rfl⟩ w hS; (try simp only [app] at hS); (repeat (first | (with_reducible first | apply Q0 | refine Qa hS ?_ | refine Qb ?_ | refine Qc hS ?_ | refine Qd ?_) | ((with_reducible refine Qe hS ?_); clear hS; intro w hS; simp only [List.set] at hS) | ((with_reducible first | refine s_draw hS ?_ | refine Qf hS ?_); clear hS; intro w hS) | ((with_reducible first | refine s_new hS ?_ | refine Qg hS ?_); clear hS; intro b w hS))))
          rw [hhead]
          refine s_ifp (fun h2 => ?_) (fun h2 => ?_)
          · refine hK true _ ⟨fun _ => .inr (.inl ⟨by omega, by omega⟩), fun _ => rfl⟩ (SL.into hS Xi)
          · (repeat (first | (with_reducible first | apply Q0 | refine Qa hS ?_ | refine Qb ?_ | refine Qc hS ?_ | refine Qd ?_) | ((with_reducible refine Qe hS ?_); clear hS; intro w hS; simp only [List.set] at hS) | ((with_reducible first | refine s_draw hS ?_ | refine Qf hS ?_); clear hS; intro w hS) | ((with_reducible first | refine s_new hS ?_ | refine Qg hS ?_); clear hS; intro b w hS)))
            (apply s_call (next39_spec f first n ua es.length uc (by omega) (by omega)) hS; exact Xp; clear hS)
            (rintro v post ⟨rfl, rfl⟩ w hS; (try simp only [app] at hS); (repeat (first | (with_reducible first | apply Q0 | refine Qa hS ?_ | refine Qb ?_ | refine Qc hS ?_ | refine Qd ?_) | ((with_reducible refine Qe hS ?_); clear hS; intro w hS; simp only [List.set] at hS) | ((with_reducible first | refine s_draw hS ?_ | refine Qf hS ?_); clear hS; intro w hS) | ((with_reducible first | refine s_new hS ?_ | refine Qg hS ?_); clear hS; intro b w hS))))
            refine hK _ _ ⟨fun h => .inr (.inr (by simpa using h)), fun h => ?_⟩ (SL.into hS Xi)
            rcases h with h | h | h
            · exact absurd h hn
            · omega
            · simpa using h
        · (repeat (first | (with_reducible first | apply Q0 | refine Qa hS ?_ | refine Qb ?_ | refine Qc hS ?_ | refine Qd ?_) | ((with_reducible refine Qe hS ?_); clear hS; intro w hS; simp only [List.set] at hS) | ((with_reducible first | refine s_draw hS ?_ | refine Qf hS ?_); clear hS; intro w hS) | ((with_reducible first | refine s_new hS ?_ | refine Qg hS ?_); clear hS; intro b w hS)))
          (apply s_call (next39_spec f first n ua es.length uc (by omega) (by omega)) hS; exact Xp; clear hS)
          (rintro v post ⟨rfl, rfl⟩ w hS; (try simp only [app] at hS); (repeat (first | (with_reducible first | apply Q0 | refine Qa hS ?_ | refine Qb ?_ | refine Qc hS ?_ | refine Qd ?_) | ((with_reducible refine Qe hS ?_); clear hS; intro w hS; simp only [List.set] at hS) | ((with_reducible first | refine s_draw hS ?_ | refine Qf hS ?_); clear hS; intro w hS) | ((with_reducible first | refine s_new hS ?_ | refine Qg hS ?_); clear hS; intro b w hS))))
          refine hK _ _ ⟨fun h => .inr (.inr (by simpa using h)), fun h => ?_⟩ (SL.into hS Xi)
          rcases h with h | h | h
          · exact absurd h hn
          · omega
          · simpa using h
      cases last with
      | false =>
        refine s_not ?_
        refine s_ift ?_
        (repeat (first | (with_reducible first | apply Q0 | refine Qa hS ?_ | refine Qb ?_ | refine Qc hS ?_ | refine Qd ?_) | ((with_reducible refine Qe hS ?_); clear hS; intro w hS; simp only [List.set] at hS) | ((with_reducible first | refine s_draw hS ?_ | refine Qf hS ?_); clear hS; intro w hS) | ((with_reducible first | refine s_new hS ?_ | refine Qg hS ?_); clear hS; intro b w hS)))
        refine s_ifp (fun h1 => ?_) (fun h1 => ?_)
        · rw [hI]; exact ⟨true, rfl, ⟨fun _ => .inl ⟨rfl, .inl (by omega)⟩, fun _ => rfl⟩, SL.into hS Xi⟩
        · (repeat (first | (with_reducible first | apply Q0 | refine Qa hS ?_ | refine Qb ?_ | refine Qc hS ?_ | refine Qd ?_) | ((with_reducible refine Qe hS ?_); clear hS; intro w hS; simp only [List.set] at hS) | ((with_reducible first | refine s_draw hS ?_ | refine Qf hS ?_); clear hS; intro w hS) | ((with_reducible first | refine s_new hS ?_ | refine Qg hS ?_); clear hS; intro b w hS)))
          refine s_ifp (fun h2 => ?_) (fun h2 => ?_)
          · rw [hI]; exact ⟨true, rfl, ⟨fun _ => .inl ⟨rfl, .inr (by omega)⟩, fun _ => rfl⟩, SL.into hS Xi⟩
          · exact hend w (fun v w => I [v] w) (by omega) (SL.into hS Xi) (fun bad w hb h => by rw [hI]; exact ⟨bad, rfl, hb, h⟩)
      | true =>
        refine s_not ?_
        refine s_iff ?_
        exact hend w (fun v w => I [v] w) (by simp) (SL.into hS Xi) (fun bad w hb h => by rw [hI]; exact ⟨bad, rfl, hb, h⟩)
    · clear hS
      rw [hI]
      rintro v75 w ⟨bad, hvs, hbad, hS⟩
      cases hvs
      cases bad with
      | true =>
        refine s_ift ?_
        rw [if_pos (hbad.1 rfl)]
        have hS := (LogO.iff (g := g)).2 ⟨sv, tv, xs, hx, SL.into hS (t := .pt lp (lcells sv tv dp g.base g.size) 58 :: RowX sv xs :: .ob (HAll XSegO xs) :: .ob (TornO tv g.torn) :: .ob (DskO dp d) :: F) Xi⟩
        exact ⟨_, ⟨rfl, rfl⟩, SL.into hS Xi⟩
      | false =>
        refine s_iff ?_
        rw [if_neg (fun h => by have := hbad.2 h; cases this)]
        (repeat (first | (with_reducible first | apply Q0 | refine Qa hS ?_ | refine Qb ?_ | refine Qc hS ?_ | refine Qd ?_) | ((with_reducible refine Qe hS ?_); clear hS; intro w hS; simp only [List.set] at hS) | ((with_reducible first | refine s_draw hS ?_ | refine Qf hS ?_); clear hS; intro w hS) | ((with_reducible first | refine s_new hS ?_ | refine Qg hS ?_); clear hS; intro b w hS)))
        refine s_appSo (t := 97) (sz := 4) (n := xs.length) (cells := (xs.map xcells).flatten) (m := 1) (cs := [.int .i64 f, .int .i64 first, .int .i64 n, .slice ua es.length uc]) hS Xr (src_pt0 hS .hd rfl) rfl rfl (by simp [Value.oneCell']) (by omega) (by omega) ?_
        clear hS; intro sv' w hS
        have hone := OwnSo.one hS (v := sv') .hd
        (repeat (first | (with_reducible first | apply Q0 | refine Qa hS ?_ | refine Qb ?_ | refine Qc hS ?_ | refine Qd ?_) | ((with_reducible refine Qe hS ?_); clear hS; intro w hS; simp only [List.set] at hS) | ((with_reducible first | refine s_draw hS ?_ | refine Qf hS ?_); clear hS; intro w hS) | ((with_reducible first | refine s_new hS ?_ | refine Qg hS ?_); clear hS; intro b w hS)))
        have hS := (XSegO.iff (x := ⟨f, first, n, es, ua, uc⟩)).2 (SL.into hS (t := .ob (OwnSo (.slice ua es.length uc) 31 1 es.length (vals es)) :: .ob (HAll BEntO es) :: .ob (HAll XSegO xs) :: .ob (DskO dp d) :: .pt lp (lcells sv' tv dp g.base g.size) 58 :: .ob (OwnSo sv' 97 4 (xs.length + 1) ((xs.map xcells).flatten ++ [.int .i64 f, .int .i64 first, .int .i64 n, .slice ua es.length uc])) :: .ob (TornO tv g.torn) :: F) Xi)
        have hS := HAll.snoc (hS.into (t := .ob (HAll XSegO xs) :: .ob (XSegO ⟨f, first, n, es, ua, uc⟩) :: .ob (DskO dp d) :: .pt lp (lcells sv' tv dp g.base g.size) 58 :: .ob (OwnSo sv' 97 4 (xs.length + 1) ((xs.map xcells).flatten ++ [.int .i64 f, .int .i64 first, .int .i64 n, .slice ua es.length uc])) :: .ob (TornO tv g.torn) :: F) Xi)
        have e1 : xs.length + 1 = (xs ++ [(⟨f, first, n, es, ua, uc⟩ : XSeg)]).length := by simp
        have e2 : (xs.map xcells).flatten ++ [.int .i64 f, .int .i64 first, .int .i64 n, .slice ua es.length uc] = ((xs ++ [(⟨f, first, n, es, ua, uc⟩ : XSeg)]).map xcells).flatten := by simp [xcells, XSeg.lv]
        rw [e1, e2] at hS
        have hx2 : (xs ++ [(⟨f, first, n, es, ua, uc⟩ : XSeg)]).map XSeg.pl = g.segs ++ [⟨f, first, n, l⟩] := by
          rw [List.map_append, hx]; simp [XSeg.pl, he]
        have hS := (LogO.iff (g := { g with segs := g.segs ++ [⟨f, first, n, l⟩] })).2 ⟨sv', tv, xs ++ [⟨f, first, n, es, ua, uc⟩], hx2, SL.into hS (t := .pt lp (lcells sv' tv dp g.base g.size) 58 :: RowX sv' (xs ++ [⟨f, first, n, es, ua, uc⟩]) :: .ob (HAll XSegO (xs ++ [⟨f, first, n, es, ua, uc⟩])) :: .ob (TornO tv g.torn) :: .ob (DskO dp d) :: F) Xi⟩
        exact ⟨_, ⟨rfl, rfl⟩, SL.into hS Xi⟩
end Go.Proofs.YtmcglicbolhmfaaGreat
namespace Go.Proofs.YtmcglicbolhmfaaGreat
set_option linter.unusedVariables false
set_option maxRecDepth 100000
open Go.RowKit

/-- wal.Log.begin -/
theorem beginL_spec (lp dp : Nat) (g : PLog) (d : DS) (iv : Value) (ids : List Int) (whole : Bool) {M N : Nat} (hg : g.Ok M) (hM : M ≤ 1000000000000) (hok : d.Ok N) (hN : N ≤ 10000000000) (hops : d.ops ≤ 100000) (hne : whole = true → ids ≠ [] → g.segs ≠ []) (hil : ids.length ≤ 100000) :
    Spec Tryz.prog 33 [.pointer (some ⟨lp, 0, none⟩), iv, .bool whole] [.ob (LogO lp dp g), .ob (DskO dp d), .ob (OwnSl iv 3 1 ids.length (ids.map (Value.int .i64)))]
      (Gives (.int .i64 (beginG g.segs d ids whole).2) [.ob (LogO lp dp g), .ob (DskO dp (beginG g.segs d ids whole).1), .ob (OwnSl iv 3 1 ids.length (ids.map (Value.int .i64)))]) := by
  intro W F w hS; apply vc33; unfold Vc33; (try simp only [app] at hS)
  obtain ⟨sv, tv, xs, hx, hS⟩ := LogO.iff.1 hS
  obtain ⟨hxo, hxl, _, _⟩ := hg.xs hx
  have hfin : ∀ {w : World} {d' : DS}, SL W (.pt lp (lcells sv tv dp g.base g.size) 58 :: RowX sv xs :: .ob (HAll XSegO xs) :: .ob (TornO tv g.torn) :: .ob (DskO dp d') :: .ob (OwnSl iv 3 1 ids.length (ids.map (Value.int .i64))) :: F) w → SL W (.ob (LogO lp dp g) :: .ob (DskO dp d') :: .ob (OwnSl iv 3 1 ids.length (ids.map (Value.int .i64))) :: F) w := fun h => (LogO.iff (g := g)).2 ⟨_, tv, _, hx, h⟩
  refine s_lenO hS (v := iv) (t := 3) (sz := 1) (n := ids.length) (cells := ids.map (Value.int .i64)) Xh ?_
  (repeat (first | (with_reducible first | apply Q0 | refine Qa hS ?_ | refine Qb ?_ | refine Qc hS ?_ | refine Qd ?_) | ((with_reducible refine Qe hS ?_); clear hS; intro w hS; simp only [List.set] at hS) | ((with_reducible first | refine s_draw hS ?_ | refine Qf hS ?_); clear hS; intro w hS) | ((with_reducible first | refine s_new hS ?_ | refine Qg hS ?_); clear hS; intro b w hS)))
  refine s_ifp (fun h => ?_) (fun h => ?_)
  · have : ids = [] := List.eq_nil_of_length_eq_zero (by omega)
    subst this
    have hS := hfin (SL.into hS Xi)
    exact ⟨_, ⟨rfl, rfl⟩, hS⟩
  · have hj : ids.length - 1 < ids.length := by omega
    have hgl : ids.getLast? = some (ids[ids.length - 1]'hj) := by rw [List.getLast?_eq_getElem?, List.getElem?_eq_getElem hj]
    have hne' : ids ≠ [] := fun e => by rw [e] at h; simp at h
    have hu : (ids.map (Value.int .i64))[ids.length - 1]? = some (.int .i64 (ids[ids.length - 1]'hj)) := by simp [hj]
    generalize (ids[ids.length - 1]'hj) = f at *
    refine s_lenO hS (v := iv) (t := 3) (sz := 1) (n := ids.length) (cells := ids.map (Value.int .i64)) Xh ?_
    (repeat (first | (with_reducible first | apply Q0 | refine Qa hS ?_ | refine Qb ?_ | refine Qc hS ?_ | refine Qd ?_) | ((with_reducible refine Qe hS ?_); clear hS; intro w hS; simp only [List.set] at hS) | ((with_reducible first | refine s_draw hS ?_ | refine Qf hS ?_); clear hS; intro w hS) | ((with_reducible first | refine s_new hS ?_ | refine Qg hS ?_); clear hS; intro b w hS)))
    have e : ((ids.length : Nat) : Int) - 1 = ((ids.length - 1 : Nat) : Int) := by omega
    rw [e]
    refine s_get1O hS (v := iv) (t := 3) Xh hj hu ?_
    cases whole with
    | false =>
      have hb : beginG g.segs d ids false = d.remove f := by unfold beginG; rw [hgl]; rfl
      rw [hb]
      refine s_not ?_
      refine s_ift ?_
      (repeat (first | (with_reducible first | apply Q0 | refine Qa hS ?_ | refine Qb ?_ | refine Qc hS ?_ | refine Qd ?_) | ((with_reducible refine Qe hS ?_); clear hS; intro w hS; simp only [List.set] at hS) | ((with_reducible first | refine s_draw hS ?_ | refine Qf hS ?_); clear hS; intro w hS) | ((with_reducible first | refine s_new hS ?_ | refine Qg hS ?_); clear hS; intro b w hS)))
      (apply s_call (removeD_spec dp d N hok hops f) hS; exact Xp; clear hS)
      (rintro v post ⟨rfl, rfl⟩ w hS; (try simp only [app] at hS); (repeat (first | (with_reducible first | apply Q0 | refine Qa hS ?_ | refine Qb ?_ | refine Qc hS ?_ | refine Qd ?_) | ((with_reducible refine Qe hS ?_); clear hS; intro w hS; simp only [List.set] at hS) | ((with_reducible first | refine s_draw hS ?_ | refine Qf hS ?_); clear hS; intro w hS) | ((with_reducible first | refine s_new hS ?_ | refine Qg hS ?_); clear hS; intro b w hS))))
      have hS := hfin (SL.into hS Xi)
      exact ⟨_, ⟨rfl, rfl⟩, hS⟩
    | true =>
      have hb : beginG g.segs d ids true = if lastSize g.segs < lenF d.R f then d.cut f (lastSize g.segs) else (d, 0) := by unfold beginG; rw [hgl]; rfl
      rw [hb]
      refine s_not ?_
      refine s_iff ?_
      have hn := hne rfl hne'
      have hle : 0 < xs.length := by
        rcases Nat.eq_zero_or_pos xs.length with h0 | h0
        · rw [← hx, List.eq_nil_of_length_eq_zero h0] at hn; exact absurd rfl hn
        · exact h0
      have hj2 : xs.length - 1 < xs.length := by omega
      have hlz : lastSize g.segs = ((xs[xs.length - 1]'hj2).size : Nat) := by
        unfold lastSize
        rw [← hx, List.getLast?_map, List.getLast?_eq_getElem?, List.getElem?_eq_getElem hj2]; rfl
      rw [hlz]
      (repeat (first | (with_reducible first | apply Q0 | refine Qa hS ?_ | refine Qb ?_ | refine Qc hS ?_ | refine Qd ?_) | ((with_reducible refine Qe hS ?_); clear hS; intro w hS; simp only [List.set] at hS) | ((with_reducible first | refine s_draw hS ?_ | refine Qf hS ?_); clear hS; intro w hS) | ((with_reducible first | refine s_new hS ?_ | refine Qg hS ?_); clear hS; intro b w hS)))
      refine s_lenSo hS (v := sv) (t := 97) (sz := 4) (n := xs.length) (cells := (xs.map xcells).flatten) Xh ?_
      (repeat (first | (with_reducible first | apply Q0 | refine Qa hS ?_ | refine Qb ?_ | refine Qc hS ?_ | refine Qd ?_) | ((with_reducible refine Qe hS ?_); clear hS; intro w hS; simp only [List.set] at hS) | ((with_reducible first | refine s_draw hS ?_ | refine Qf hS ?_); clear hS; intro w hS) | ((with_reducible first | refine s_new hS ?_ | refine Qg hS ?_); clear hS; intro b w hS)))
      have e : ((xs.length : Nat) : Int) - 1 = ((xs.length - 1 : Nat) : Int) := by omega
      rw [e]
      refine s_segF (i := 2) hS Xh hj2 (u := .int .i64 ((xs[xs.length - 1]'hj2).size : Nat)) rfl ?_
      generalize (xs[xs.length - 1]'hj2).size = z at *
      (repeat (first | (with_reducible first | apply Q0 | refine Qa hS ?_ | refine Qb ?_ | refine Qc hS ?_ | refine Qd ?_) | ((with_reducible refine Qe hS ?_); clear hS; intro w hS; simp only [List.set] at hS) | ((with_reducible first | refine s_draw hS ?_ | refine Qf hS ?_); clear hS; intro w hS) | ((with_reducible first | refine s_new hS ?_ | refine Qg hS ?_); clear hS; intro b w hS)))
      (apply s_call (lenD_spec dp d f) hS; exact Xp; clear hS)
      (rintro v post ⟨rfl, rfl⟩ w hS; (try simp only [app] at hS); (repeat (first | (with_reducible first | apply Q0 | refine Qa hS ?_ | refine Qb ?_ | refine Qc hS ?_ | refine Qd ?_) | ((with_reducible refine Qe hS ?_); clear hS; intro w hS; simp only [List.set] at hS) | ((with_reducible first | refine s_draw hS ?_ | refine Qf hS ?_); clear hS; intro w hS) | ((with_reducible first | refine s_new hS ?_ | refine Qg hS ?_); clear hS; intro b w hS))))
      refine s_ifp (fun h1 => ?_) (fun h1 => ?_)
      · rw [if_pos h1]
        (repeat (first | (with_reducible first | apply Q0 | refine Qa hS ?_ | refine Qb ?_ | refine Qc hS ?_ | refine Qd ?_) | ((with_reducible refine Qe hS ?_); clear hS; intro w hS; simp only [List.set] at hS) | ((with_reducible first | refine s_draw hS ?_ | refine Qf hS ?_); clear hS; intro w hS) | ((with_reducible first | refine s_new hS ?_ | refine Qg hS ?_); clear hS; intro b w hS)))
        (apply s_call (cutD_spec dp d N hok (by omega) hops f (z : Int)) hS; exact Xp; clear hS)
        (rintro v post ⟨rfl, rfl⟩ w hS; (try simp only [app] at hS); (repeat (first | (with_reducible first | apply Q0 | refine Qa hS ?_ | refine Qb ?_ | refine Qc hS ?_ | refine Qd ?_) | ((with_reducible refine Qe hS ?_); clear hS; intro w hS; simp only [List.set] at hS) | ((with_reducible first | refine s_draw hS ?_ | refine Qf hS ?_); clear hS; intro w hS) | ((with_reducible first | refine s_new hS ?_ | refine Qg hS ?_); clear hS; intro b w hS))))
        have hS := hfin (SL.into hS Xi)
        exact ⟨_, ⟨rfl, rfl⟩, hS⟩
      · rw [if_neg h1]
        have hS := hfin (SL.into hS Xi)
        exact ⟨_, ⟨rfl, rfl⟩, hS⟩
def OpenQ (dp : Nat) (y : DS × Except Int PLog) (r : Value) (post : List Chunk) : Prop := match y.2 with
  | .error e => e ≠ 0 ∧ r = .tuple #[.pointer none, .int .i64 e] ∧ post = [.ob (DskO dp y.1)]
  | .ok g => ∃ lp : Nat, r = .tuple #[.pointer (some ⟨lp, 0, none⟩), .int .i64 0] ∧ post = [.ob (LogO lp dp g), .ob (DskO dp y.1)]
theorem loadsG_ok {R : List PF} {M N : Nat} (hR : ∀ x ∈ R, x.b.length ≤ N) (hN : N ≤ M) : ∀ (ids : List Int) (prev : Option Int) (L : List PSeg) (wh : Bool) (k : Nat), (∀ f ∈ ids, 0 ≤ f ∧ f ≤ 100000) → (∀ s ∈ L, SegOk s M) → L.length ≤ k → ∀ {L' wh'}, loadsG R ids prev L wh = some (L', wh') → (∀ s ∈ L', SegOk s M) ∧ L'.length ≤ k + ids.length
  | [], prev, L, wh, k, _, hL, hk, L', wh', h => by
    cases h; exact ⟨hL, by simpa using hk⟩
  | f :: r, prev, L, wh, k, hf, hL, hk, L', wh', h => by
    rw [loadsG_cons] at h
    obtain ⟨f0, f1⟩ := hf f (.head _)
    obtain ⟨k1, k2⟩ := loadG_ok (last := r.isEmpty) hR hN f0 f1 hL
    split at h
    · cases h
    · split at h
      · cases h
      · have := loadsG_ok hR hN r _ _ _ (k + 1) (fun x hx => hf x (.tail _ hx)) k1 (by omega) h
        exact ⟨this.1, by simp at this ⊢; omega⟩
theorem idsG_mem {base : Int} {R : List PF} {f : Int} (h : f ∈ idsG base R) : base ≤ f ∧ f < base + 4096 := by
  unfold idsG at h
  have := (List.mem_filter.1 h).2
  simpa using this
theorem idsG_len (base : Int) (R : List PF) : (idsG base R).length ≤ R.length := by
  unfold idsG
  have := List.length_filter_le (fun f => decide (base ≤ f ∧ f < base + 4096)) (R.map PF.id)
  rwa [List.length_map] at this
theorem openG_gok {d d' : DS} {base size : Int} {N : Nat} (hok : d.Ok N) (hR : d.R.length ≤ 100000) {g : PLog} (h : openG d base size = (d', .ok g)) : g.Ok (N + 100000) ∧ d.off = false := by
  unfold openG at h
  split at h
  · cases h
  · rename_i hb
    split at h
    · cases h
    · rename_i ho
      split at h
      · cases h
      · rename_i L wh hl
        have hi : ∀ f ∈ idsG base d.R, 0 ≤ f ∧ f ≤ 100000 := fun f hf => by have := idsG_mem hf; omega
        obtain ⟨k1, k2⟩ := loadsG_ok (M := N + 100000) hok.len (by omega) _ _ [] _ 0 hi (by simp) (by simp) hl
        have := idsG_len base d.R
        have hL : (⟨L, base, size, none⟩ : PLog).Ok (N + 100000) := ⟨k1, by show 0 ≤ base; omega, by show base ≤ 12288; omega, by show 64 ≤ size; omega, by show size ≤ 65536; omega, by show L.length ≤ _; omega⟩
        split at h
        · cases h
        · cases h; exact ⟨hL, by simpa using ho⟩
/-- wal.Open -/
theorem openL_spec (dp : Nat) (d : DS) (base size : Int) {N : Nat} (hok : d.Ok N) (hN : N ≤ 1000000000) (hR : d.R.length ≤ 100000) (hops : d.ops ≤ 100000) :
    Spec Tryz.prog 12 [.pointer (some ⟨dp, 0, none⟩), .int .i64 base, .int .i64 size] [.ob (DskO dp d)] (OpenQ dp (openG d base size)) := by
  intro W F w hS; apply vc12; unfold Vc12; (try simp only [app] at hS)
  by_cases hbd : base < 0 ∨ 12288 < base ∨ size < 64 ∨ 65536 < size
  · have e : openG d base size = (d, .error 1) := by unfold openG; rw [if_pos hbd]
    rw [e]
    have hE : ∀ {w : World}, SL W (.ob (DskO dp d) :: F) w → ∃ post, OpenQ dp (d, .error 1) (.tuple #[.pointer none, .int .i64 1]) post ∧ SL W (app post F) w := fun h => ⟨_, ⟨by decide, rfl, rfl⟩, h⟩
    (repeat (first | (with_reducible first | apply Q0 | refine Qa hS ?_ | refine Qb ?_ | refine Qc hS ?_ | refine Qd ?_) | ((with_reducible refine Qe hS ?_); clear hS; intro w hS; simp only [List.set] at hS) | ((with_reducible first | refine s_draw hS ?_ | refine Qf hS ?_); clear hS; intro w hS) | ((with_reducible first | refine s_new hS ?_ | refine Qg hS ?_); clear hS; intro b w hS)))
    refine s_ifp (fun h => hE hS) (fun h1 => ?_)
    (repeat (first | (with_reducible first | apply Q0 | refine Qa hS ?_ | refine Qb ?_ | refine Qc hS ?_ | refine Qd ?_) | ((with_reducible refine Qe hS ?_); clear hS; intro w hS; simp only [List.set] at hS) | ((with_reducible first | refine s_draw hS ?_ | refine Qf hS ?_); clear hS; intro w hS) | ((with_reducible first | refine s_new hS ?_ | refine Qg hS ?_); clear hS; intro b w hS)))
    refine s_ifp (fun h => hE hS) (fun h2 => ?_)
    (repeat (first | (with_reducible first | apply Q0 | refine Qa hS ?_ | refine Qb ?_ | refine Qc hS ?_ | refine Qd ?_) | ((with_reducible refine Qe hS ?_); clear hS; intro w hS; simp only [List.set] at hS) | ((with_reducible first | refine s_draw hS ?_ | refine Qf hS ?_); clear hS; intro w hS) | ((with_reducible first | refine s_new hS ?_ | refine Qg hS ?_); clear hS; intro b w hS)))
    refine s_ifp (fun h => hE hS) (fun h3 => ?_)
    (repeat (first | (with_reducible first | apply Q0 | refine Qa hS ?_ | refine Qb ?_ | refine Qc hS ?_ | refine Qd ?_) | ((with_reducible refine Qe hS ?_); clear hS; intro w hS; simp only [List.set] at hS) | ((with_reducible first | refine s_draw hS ?_ | refine Qf hS ?_); clear hS; intro w hS) | ((with_reducible first | refine s_new hS ?_ | refine Qg hS ?_); clear hS; intro b w hS)))
    refine s_ifp (fun h => hE hS) (fun h4 => by omega)
  · (repeat (first | (with_reducible first | apply Q0 | refine Qa hS ?_ | refine Qb ?_ | refine Qc hS ?_ | refine Qd ?_) | ((with_reducible refine Qe hS ?_); clear hS; intro w hS; simp only [List.set] at hS) | ((with_reducible first | refine s_draw hS ?_ | refine Qf hS ?_); clear hS; intro w hS) | ((with_reducible first | refine s_new hS ?_ | refine Qg hS ?_); clear hS; intro b w hS)))
    refine s_ifp (fun h => by omega) (fun _ => ?_)
    (repeat (first | (with_reducible first | apply Q0 | refine Qa hS ?_ | refine Qb ?_ | refine Qc hS ?_ | refine Qd ?_) | ((with_reducible refine Qe hS ?_); clear hS; intro w hS; simp only [List.set] at hS) | ((with_reducible first | refine s_draw hS ?_ | refine Qf hS ?_); clear hS; intro w hS) | ((with_reducible first | refine s_new hS ?_ | refine Qg hS ?_); clear hS; intro b w hS)))
    refine s_ifp (fun h => by omega) (fun _ => ?_)
    (repeat (first | (with_reducible first | apply Q0 | refine Qa hS ?_ | refine Qb ?_ | refine Qc hS ?_ | refine Qd ?_) | ((with_reducible refine Qe hS ?_); clear hS; intro w hS; simp only [List.set] at hS) | ((with_reducible first | refine s_draw hS ?_ | refine Qf hS ?_); clear hS; intro w hS) | ((with_reducible first | refine s_new hS ?_ | refine Qg hS ?_); clear hS; intro b w hS)))
    refine s_ifp (fun h => by omega) (fun _ => ?_)
    (repeat (first | (with_reducible first | apply Q0 | refine Qa hS ?_ | refine Qb ?_ | refine Qc hS ?_ | refine Qd ?_) | ((with_reducible refine Qe hS ?_); clear hS; intro w hS; simp only [List.set] at hS) | ((with_reducible first | refine s_draw hS ?_ | refine Qf hS ?_); clear hS; intro w hS) | ((with_reducible first | refine s_new hS ?_ | refine Qg hS ?_); clear hS; intro b w hS)))
    refine s_ifp (fun h => by omega) (fun _ => ?_)
    (repeat (first | (with_reducible first | apply Q0 | refine Qa hS ?_ | refine Qb ?_ | refine Qc hS ?_ | refine Qd ?_) | ((with_reducible refine Qe hS ?_); clear hS; intro w hS; simp only [List.set] at hS) | ((with_reducible first | refine s_draw hS ?_ | refine Qf hS ?_); clear hS; intro w hS) | ((with_reducible first | refine s_new hS ?_ | refine Qg hS ?_); clear hS; intro b w hS)))
    (apply s_call (downD_spec dp d) hS; exact Xp; clear hS)
    (rintro v post ⟨rfl, rfl⟩ w hS; (try simp only [app] at hS); (repeat (first | (with_reducible first | apply Q0 | refine Qa hS ?_ | refine Qb ?_ | refine Qc hS ?_ | refine Qd ?_) | ((with_reducible refine Qe hS ?_); clear hS; intro w hS; simp only [List.set] at hS) | ((with_reducible first | refine s_draw hS ?_ | refine Qf hS ?_); clear hS; intro w hS) | ((with_reducible first | refine s_new hS ?_ | refine Qg hS ?_); clear hS; intro b w hS))))
    refine s_if (fun ho => ?_) (fun ho => ?_)
    · have e : openG d base size = (d, .error 8) := by unfold openG; rw [if_neg hbd, if_pos ho]
      rw [e]
      exact ⟨_, ⟨by decide, rfl, rfl⟩, hS⟩
    · have eo : openG d base size = match loadsG d.R (idsG base d.R) none [] true with
        | none => (d, .error 3)
        | some (L, whole) => if (beginG L d (idsG base d.R) whole).2 ≠ 0 then ((beginG L d (idsG base d.R) whole).1, .error (beginG L d (idsG base d.R) whole).2) else ((beginG L d (idsG base d.R) whole).1, .ok ⟨L, base, size, none⟩) := by
        unfold openG; rw [if_neg hbd, if_neg (by rw [ho]; decide)]; rfl
      rw [eo]
      have hi : ∀ f ∈ idsG base d.R, base ≤ f ∧ f < base + 4096 := fun f hf => idsG_mem hf
      have hil := idsG_len base d.R
      (repeat (first | (with_reducible first | apply Q0 | refine Qa hS ?_ | refine Qb ?_ | refine Qc hS ?_ | refine Qd ?_) | ((with_reducible refine Qe hS ?_); clear hS; intro w hS; simp only [List.set] at hS) | ((with_reducible first | refine s_draw hS ?_ | refine Qf hS ?_); clear hS; intro w hS) | ((with_reducible first | refine s_new hS ?_ | refine Qg hS ?_); clear hS; intro b w hS)))
      refine ⟨_, rfl, s_new hS ?_⟩
      clear hS; intro lp w hS
      have hS := (TornO_none (v := .pointer none)).2 ⟨rfl, hS⟩
      have hS := OwnSo.nil0 (a := none) (t := 97) (sz := 4) hS
      have hS := HAll.nil (A := XSegO) hS
      have hS := SL.into hS (t := .pt lp (lcells (.slice none 0 0) (.pointer none) dp base size) 58 :: .ob (OwnSo (.slice none 0 0) 97 4 0 []) :: .ob (HAll XSegO []) :: .ob (TornO (.pointer none) none) :: .ob (DskO dp d) :: F) Xi
      have hS := (LogO.iff (g := ⟨[], base, size, none⟩)).2 ⟨_, _, [], rfl, hS⟩
      (apply s_call (filesL_spec lp dp ⟨[], base, size, none⟩ d (M := 0) (N := N) (by show 0 ≤ base; omega) (by show base ≤ 12288; omega) hok hR) hS; exact Xp; clear hS)
      rintro iv post rfl w hS; (try simp only [app] at hS)
      generalize hids : idsG base d.R = ids at *
      refine s_lenO hS (v := iv) (t := 3) (sz := 1) (n := ids.length) (cells := ids.map (Value.int .i64)) Xh ?_
      refine ⟨fun vs w => ∃ (wh : Bool) (i : Nat) (L : List PSeg), i ≤ ids.length ∧ vs = [.bool wh, .int .i64 i] ∧ loadsG d.R ids none [] true = loadsG d.R (ids.drop i) (if i = 0 then none else ids[i - 1]?) L wh ∧ (∀ s ∈ L, SegOk s (N + 100000)) ∧ L.length ≤ i ∧ (wh = true → 0 < i → L ≠ []) ∧ SL W (.ob (LogO lp dp ⟨L, base, size, none⟩) :: .ob (DskO dp d) :: .ob (OwnSl iv 3 1 ids.length (ids.map (Value.int .i64))) :: F) w,
        fun vs _ => match vs with | [_, .int _ i] => (ids.length - i).toNat | _ => 0, ⟨true, 0, [], by omega, rfl, rfl, by simp, by simp, fun _ h => by omega, SL.into hS Xi⟩, ?_⟩
      clear hS
      rintro v10 v43 w ⟨wh, i, L, hi1, hvs, hld, hLok, hLl, hwh, hS⟩
      cases hvs
      have hLO : (⟨L, base, size, none⟩ : PLog).Ok (N + 100000) := ⟨hLok, by show 0 ≤ base; omega, by show base ≤ 12288; omega, by show 64 ≤ size; omega, by show size ≤ 65536; omega, by show L.length ≤ _; omega⟩
      (repeat (first | (with_reducible first | apply Q0 | refine Qa hS ?_ | refine Qb ?_ | refine Qc hS ?_ | refine Qd ?_) | ((with_reducible refine Qe hS ?_); clear hS; intro w hS; simp only [List.set] at hS) | ((with_reducible first | refine s_draw hS ?_ | refine Qf hS ?_); clear hS; intro w hS) | ((with_reducible first | refine s_new hS ?_ | refine Qg hS ?_); clear hS; intro b w hS)))
      refine s_ifp (fun h1 => ?_) (fun h1 => ?_)
      · have hj : i < ids.length := by omega
        have hu : (ids.map (Value.int .i64))[i]? = some (.int .i64 ids[i]) := by simp [hj]
        have hfi := hi _ (List.getElem_mem hj)
        rw [List.drop_eq_getElem_cons hj, loadsG_cons] at hld
        refine s_get1O hS (v := iv) (t := 3) Xh hj hu ?_
        (repeat (first | (with_reducible first | apply Q0 | refine Qa hS ?_ | refine Qb ?_ | refine Qc hS ?_ | refine Qd ?_) | ((with_reducible refine Qe hS ?_); clear hS; intro w hS; simp only [List.set] at hS) | ((with_reducible first | refine s_draw hS ?_ | refine Qf hS ?_); clear hS; intro w hS) | ((with_reducible first | refine s_new hS ?_ | refine Qg hS ?_); clear hS; intro b w hS)))
        refine s_lenO hS (v := iv) (t := 3) (sz := 1) (n := ids.length) (cells := ids.map (Value.int .i64)) Xh ?_
        (repeat (first | (with_reducible first | apply Q0 | refine Qa hS ?_ | refine Qb ?_ | refine Qc hS ?_ | refine Qd ?_) | ((with_reducible refine Qe hS ?_); clear hS; intro w hS; simp only [List.set] at hS) | ((with_reducible first | refine s_draw hS ?_ | refine Qf hS ?_); clear hS; intro w hS) | ((with_reducible first | refine s_new hS ?_ | refine Qg hS ?_); clear hS; intro b w hS)))
        have hlast : decide (((i : Nat) : Int) = ((ids.length : Nat) : Int) - 1) = (ids.drop (i + 1)).isEmpty := by
          rw [Bool.eq_iff_iff, decide_eq_true_iff, List.isEmpty_iff, List.drop_eq_nil_iff]
          omega
        rw [hlast]
        obtain ⟨k1, k2⟩ := loadG_ok (L := L) (f := ids[i]) (last := (ids.drop (i + 1)).isEmpty) (M := N + 100000) hok.len (by omega) (by omega) (by omega) hLok
        have hnn : (loadG L d.R ids[i] (ids.drop (i + 1)).isEmpty).1.1 = true → (loadG L d.R ids[i] (ids.drop (i + 1)).isEmpty).1.2 = true → (loadG L d.R ids[i] (ids.drop (i + 1)).isEmpty).2 ≠ [] := by
          unfold loadG
          simp only
          split
          · intro h; cases h
          · split
            · intro _ h; cases h
            · intro _ _; simp
        (apply s_call (loadL_spec lp dp ⟨L, base, size, none⟩ d ids[i] (ids.drop (i + 1)).isEmpty hLO (by omega) hok (by omega)) hS; exact Xp; clear hS)
        (rintro v post ⟨rfl, rfl⟩ w hS; (try simp only [app] at hS); (repeat (first | (with_reducible first | apply Q0 | refine Qa hS ?_ | refine Qb ?_ | refine Qc hS ?_ | refine Qd ?_) | ((with_reducible refine Qe hS ?_); clear hS; intro w hS; simp only [List.set] at hS) | ((with_reducible first | refine s_draw hS ?_ | refine Qf hS ?_); clear hS; intro w hS) | ((with_reducible first | refine s_new hS ?_ | refine Qg hS ?_); clear hS; intro b w hS))))
        generalize hLG : loadG L d.R ids[i] (ids.drop (i + 1)).isEmpty = y at *
        obtain ⟨⟨is, ok⟩, L2⟩ := y
        simp only at hS hld k1 k2 hnn ⊢
        cases ok with
        | false =>
          refine s_ift ?_
          rw [if_pos rfl] at hld
          rw [hld]
          exact ⟨_, ⟨by decide, rfl, rfl⟩, SL.into hS Xi⟩
        | true =>
          refine s_iff ?_
          rw [if_neg (by decide)] at hld
          have hnext : ∀ {w : World}, (¬ gapG (if i = 0 then none else ids[i - 1]?) ids[i] = true) → SL W (.ob (LogO lp dp ⟨L2, base, size, none⟩) :: .ob (DskO dp d) :: .ob (OwnSl iv 3 1 ids.length (ids.map (Value.int .i64))) :: F) w →
              ∃ (wh : Bool) (i' : Nat) (L : List PSeg), i' ≤ ids.length ∧ [Value.bool is, Value.int .i64 ((i + 1 : Nat) : Int)] = [.bool wh, .int .i64 i'] ∧ loadsG d.R ids none [] true = loadsG d.R (ids.drop i') (if i' = 0 then none else ids[i' - 1]?) L wh ∧ (∀ s ∈ L, SegOk s (N + 100000)) ∧ L.length ≤ i' ∧ (wh = true → 0 < i' → L ≠ []) ∧ SL W (.ob (LogO lp dp ⟨L, base, size, none⟩) :: .ob (DskO dp d) :: .ob (OwnSl iv 3 1 ids.length (ids.map (Value.int .i64))) :: F) w := by
            intro w hp hS
            refine ⟨is, i + 1, L2, by omega, rfl, ?_, k1, by omega, fun h _ => hnn h rfl, hS⟩
            rw [if_neg hp] at hld
            rw [hld, if_neg (by omega), Nat.add_sub_cancel, List.getElem?_eq_getElem hj]
          (repeat (first | (with_reducible first | apply Q0 | refine Qa hS ?_ | refine Qb ?_ | refine Qc hS ?_ | refine Qd ?_) | ((with_reducible refine Qe hS ?_); clear hS; intro w hS; simp only [List.set] at hS) | ((with_reducible first | refine s_draw hS ?_ | refine Qf hS ?_); clear hS; intro w hS) | ((with_reducible first | refine s_new hS ?_ | refine Qg hS ?_); clear hS; intro b w hS)))
          refine s_ifp (fun h2 => ?_) (fun h2 => ?_)
          · have hj0 : i - 1 < ids.length := by omega
            have hf0 := hi _ (List.getElem_mem hj0)
            (repeat (first | (with_reducible first | apply Q0 | refine Qa hS ?_ | refine Qb ?_ | refine Qc hS ?_ | refine Qd ?_) | ((with_reducible refine Qe hS ?_); clear hS; intro w hS; simp only [List.set] at hS) | ((with_reducible first | refine s_draw hS ?_ | refine Qf hS ?_); clear hS; intro w hS) | ((with_reducible first | refine s_new hS ?_ | refine Qg hS ?_); clear hS; intro b w hS)))
            have e : ((i : Nat) : Int) - 1 = ((i - 1 : Nat) : Int) := by omega
            rw [e]
            have hu0 : (ids.map (Value.int .i64))[i - 1]? = some (.int .i64 (ids[i - 1]'hj0)) := by simp [hj0]
            refine s_get1O hS (v := iv) (t := 3) Xh hj0 hu0 ?_
            have hpv : gapG (if i = 0 then none else ids[i - 1]?) ids[i] = decide (ids[i] ≠ (ids[i - 1]'hj0) + 1) := by
              rw [if_neg (by omega), List.getElem?_eq_getElem hj0]; rfl
            (repeat (first | (with_reducible first | apply Q0 | refine Qa hS ?_ | refine Qb ?_ | refine Qc hS ?_ | refine Qd ?_) | ((with_reducible refine Qe hS ?_); clear hS; intro w hS; simp only [List.set] at hS) | ((with_reducible first | refine s_draw hS ?_ | refine Qf hS ?_); clear hS; intro w hS) | ((with_reducible first | refine s_new hS ?_ | refine Qg hS ?_); clear hS; intro b w hS)))
            refine s_ifp (fun h3 => ?_) (fun h3 => ?_)
            · rw [if_pos (by rw [hpv]; simpa using h3)] at hld
              rw [hld]
              exact ⟨_, ⟨by decide, rfl, rfl⟩, SL.into hS Xi⟩
            · (repeat (first | (with_reducible first | apply Q0 | refine Qa hS ?_ | refine Qb ?_ | refine Qc hS ?_ | refine Qd ?_) | ((with_reducible refine Qe hS ?_); clear hS; intro w hS; simp only [List.set] at hS) | ((with_reducible first | refine s_draw hS ?_ | refine Qf hS ?_); clear hS; intro w hS) | ((with_reducible first | refine s_new hS ?_ | refine Qg hS ?_); clear hS; intro b w hS)))
              exact ⟨hnext (by rw [hpv]; simpa using h3) (SL.into hS Xi), by dsimp only; omega⟩
          · (repeat (first | (with_reducible first | apply Q0 | refine Qa hS ?_ | refine Qb ?_ | refine Qc hS ?_ | refine Qd ?_) | ((with_reducible refine Qe hS ?_); clear hS; intro w hS; simp only [List.set] at hS) | ((with_reducible first | refine s_draw hS ?_ | refine Qf hS ?_); clear hS; intro w hS) | ((with_reducible first | refine s_new hS ?_ | refine Qg hS ?_); clear hS; intro b w hS)))
            have hi0 : i = 0 := by omega
            exact ⟨hnext (by rw [if_pos hi0]; simp [gapG]) (SL.into hS Xi), by dsimp only; omega⟩
      · have hie : i = ids.length := by omega
        rw [hie, List.drop_length] at hld
        rw [hld]
        simp only [loadsG]
        (repeat (first | (with_reducible first | apply Q0 | refine Qa hS ?_ | refine Qb ?_ | refine Qc hS ?_ | refine Qd ?_) | ((with_reducible refine Qe hS ?_); clear hS; intro w hS; simp only [List.set] at hS) | ((with_reducible first | refine s_draw hS ?_ | refine Qf hS ?_); clear hS; intro w hS) | ((with_reducible first | refine s_new hS ?_ | refine Qg hS ?_); clear hS; intro b w hS)))
        have hbo := beginG_ok (L := L) (ids := ids) (wh := wh) hok
        (apply s_call (beginL_spec lp dp ⟨L, base, size, none⟩ d iv ids wh hLO (by omega) hok (by omega) hops (fun h hne => hwh h (by rw [hie]; exact List.length_pos_iff.2 hne)) (by omega)) hS; exact Xp; clear hS)
        (rintro v post ⟨rfl, rfl⟩ w hS; (try simp only [app] at hS); (repeat (first | (with_reducible first | apply Q0 | refine Qa hS ?_ | refine Qb ?_ | refine Qc hS ?_ | refine Qd ?_) | ((with_reducible refine Qe hS ?_); clear hS; intro w hS; simp only [List.set] at hS) | ((with_reducible first | refine s_draw hS ?_ | refine Qf hS ?_); clear hS; intro w hS) | ((with_reducible first | refine s_new hS ?_ | refine Qg hS ?_); clear hS; intro b w hS))))
        simp only at hS ⊢
        refine s_ifp (fun h2 => ?_) (fun h2 => ?_)
        · rw [if_pos h2]
          exact ⟨_, ⟨h2, rfl, rfl⟩, SL.into hS Xi⟩
        · rw [if_neg h2]
          exact ⟨_, ⟨lp, rfl, rfl⟩, SL.into hS Xi⟩
end Go.Proofs.YtmcglicbolhmfaaGreat
namespace Go.Proofs.YtmcglicbolhmfaaGreat
set_option linter.unusedVariables false
set_option maxRecDepth 100000
open Go.RowKit

section
variable (lp dp : Nat) (g : PLog) {M : Nat} (hg : g.Ok M) (hM : M ≤ 1000000000000)
include hg hM
theorem headO_spec : Spec Tryz.prog 17 [.pointer (some ⟨lp, 0, none⟩)] [.ob (LogO lp dp g)] (Gives (.int .i64 (headG g.segs)) [.ob (LogO lp dp g)]) := by
  intro W F w hS
  obtain ⟨sv, tv, xs, hx, hS⟩ := LogO.iff.1 hS
  obtain ⟨h1, h2, _, _⟩ := hg.xs hx
  refine s_call (headL_spec lp (lcells sv tv dp g.base g.size) 58 sv xs rfl h1 (by omega) (by omega)) hS Xp ?_
  rintro v post ⟨rfl, rfl⟩ w hS
  (try simp only [app] at hS)
  rw [hx]
  exact ⟨_, ⟨rfl, rfl⟩, LogO.iff.2 ⟨sv, tv, xs, hx, SL.into hS Xi⟩⟩
theorem lowO_spec : Spec Tryz.prog 16 [.pointer (some ⟨lp, 0, none⟩)] [.ob (LogO lp dp g)] (Gives (.int .i64 (lowG g.segs)) [.ob (LogO lp dp g)]) := by
  intro W F w hS
  obtain ⟨sv, tv, xs, hx, hS⟩ := LogO.iff.1 hS
  obtain ⟨h1, h2, _, _⟩ := hg.xs hx
  refine s_call (lowL_spec lp (lcells sv tv dp g.base g.size) 58 sv xs rfl (by omega)) hS Xp ?_
  rintro v post ⟨rfl, rfl⟩ w hS
  (try simp only [app] at hS)
  rw [hx]
  exact ⟨_, ⟨rfl, rfl⟩, LogO.iff.2 ⟨sv, tv, xs, hx, SL.into hS Xi⟩⟩
theorem segsO_spec : Spec Tryz.prog 20 [.pointer (some ⟨lp, 0, none⟩)] [.ob (LogO lp dp g)] (Gives (.int .i64 g.segs.length) [.ob (LogO lp dp g)]) := by
  intro W F w hS
  obtain ⟨sv, tv, xs, hx, hS⟩ := LogO.iff.1 hS
  have _h1 := hg
  have _h2 := hM
  refine s_call (segmentsL_spec lp (lcells sv tv dp g.base g.size) 58 sv xs rfl) hS Xp ?_
  rintro v post ⟨rfl, rfl⟩ w hS
  (try simp only [app] at hS)
  have e : xs.length = g.segs.length := by rw [← hx, List.length_map]
  rw [e]
  exact ⟨_, ⟨rfl, rfl⟩, LogO.iff.2 ⟨sv, tv, xs, hx, SL.into hS Xi⟩⟩
theorem readO_spec (n : Int) (hn : -9000000000000000000 ≤ n ∧ n ≤ 9000000000000000000) : Spec Tryz.prog 19 [.pointer (some ⟨lp, 0, none⟩), .int .i64 n] [.ob (LogO lp dp g)] (ReadLQ [.ob (LogO lp dp g)] (readG g.segs n)) := by
  intro W F w hS
  obtain ⟨sv, tv, xs, hx, hS⟩ := LogO.iff.1 hS
  obtain ⟨h1, h2, _, _⟩ := hg.xs hx
  refine s_call (readL_spec lp (lcells sv tv dp g.base g.size) 58 sv xs n rfl h1 (by omega) (by omega) hn) hS Xp ?_
  intro r post hQ w hS
  rw [hx] at hQ
  cases hr : readG g.segs n with
  | none =>
    rw [hr] at hQ
    obtain ⟨rfl, rfl⟩ := hQ
    (try simp only [app] at hS)
    exact ⟨_, ⟨rfl, rfl⟩, LogO.iff.2 ⟨sv, tv, xs, hx, SL.into hS Xi⟩⟩
  | some b =>
    rw [hr] at hQ
    obtain ⟨u, rfl, rfl⟩ := hQ
    (try simp only [app] at hS)
    have hS := (LogO.iff (g := g)).2 ⟨sv, tv, xs, hx, SL.into hS (t := .pt lp (lcells sv tv dp g.base g.size) 58 :: RowX sv xs :: .ob (HAll XSegO xs) :: .ob (TornO tv g.torn) :: .ob (OwnSl u 5 1 b.length (b.map u8c)) :: F) Xi⟩
    exact ⟨_, ⟨u, rfl, rfl⟩, SL.into hS Xi⟩
end
theorem Rdb.isSl {W w : World} {l : List Chunk} {X : Chunk} {v : Value} {b : List UInt8} (h : Rdb X v b) (hS : SL W l w) (m : Has X l) : ∃ a n c, v = .slice a n c := by
  obtain ⟨a, c, e, _⟩ := h.sl hS m; exact ⟨a, _, c, e⟩
theorem bytesB_spec (X Y : Chunk) (v1 v2 : Value) (b1 b2 : List UInt8) (h1 : Rdb X v1 b1) (h2 : Rdb Y v2 b2) :
    Spec Tryz.prog 41 [v1, v2] [X, Y] (Gives (.bool (decide (b1 = b2))) [X, Y]) := by
  intro W F w hS; apply vc41; unfold Vc41; (try simp only [app] at hS)
  refine s_bytesStr (h1.isSl hS Xh) (h1.src hS Xh) Tryz.underlying31 Tryz.underlying9 Tryz.underlying5 ?_
  refine s_bytesStr (h2.isSl hS Xh) (h2.src hS Xh) Tryz.underlying31 Tryz.underlying9 Tryz.underlying5 ?_
  (repeat (first | (with_reducible first | apply Q0 | refine Qa hS ?_ | refine Qb ?_ | refine Qc hS ?_ | refine Qd ?_) | ((with_reducible refine Qe hS ?_); clear hS; intro w hS; simp only [List.set] at hS) | ((with_reducible first | refine s_draw hS ?_ | refine Qf hS ?_); clear hS; intro w hS) | ((with_reducible first | refine s_new hS ?_ | refine Qg hS ?_); clear hS; intro b w hS)))
  have e : decide (bstr b1 = bstr b2) = decide (b1 = b2) := by congr 1; exact propext bstr_inj
  rw [e]
  (exact ⟨_, ⟨rfl, rfl⟩, SL.into hS Xi⟩)
theorem bytes1_spec (X : Chunk) (v1 v2 : Value) (b1 b2 : List UInt8) (h1 : Rdb X v1 b1) (h2 : Rdb X v2 b2) :
    Spec Tryz.prog 41 [v1, v2] [X] (Gives (.bool (decide (b1 = b2))) [X]) := by
  intro W F w hS; apply vc41; unfold Vc41; (try simp only [app] at hS)
  refine s_bytesStr (h1.isSl hS Xh) (h1.src hS Xh) Tryz.underlying31 Tryz.underlying9 Tryz.underlying5 ?_
  refine s_bytesStr (h2.isSl hS Xh) (h2.src hS Xh) Tryz.underlying31 Tryz.underlying9 Tryz.underlying5 ?_
  (repeat (first | (with_reducible first | apply Q0 | refine Qa hS ?_ | refine Qb ?_ | refine Qc hS ?_ | refine Qd ?_) | ((with_reducible refine Qe hS ?_); clear hS; intro w hS; simp only [List.set] at hS) | ((with_reducible first | refine s_draw hS ?_ | refine Qf hS ?_); clear hS; intro w hS) | ((with_reducible first | refine s_new hS ?_ | refine Qg hS ?_); clear hS; intro b w hS)))
  have e : decide (bstr b1 = bstr b2) = decide (b1 = b2) := by congr 1; exact propext bstr_inj
  rw [e]
  (exact ⟨_, ⟨rfl, rfl⟩, SL.into hS Xi⟩)
/-! Rows of rows of bytes, in memory that is not written any more. -/
def RdBs (H : Heap) (v : Value) (ls : List (List UInt8)) : Prop := ∃ vs : List Value, vs.length = ls.length ∧ RdSl H 1 v ls.length vs ∧ ∀ i (h : i < ls.length) (h' : i < vs.length), RdSl H 1 vs[i] ls[i].length (ls[i].map u8c)
theorem RdBs.mono {H H' : Heap} (hh : H.le H') {v : Value} {ls : List (List UInt8)} (h : RdBs H v ls) : RdBs H' v ls := by
  obtain ⟨vs, h1, h2, h3⟩ := h
  exact ⟨vs, h1, h2.mono hh, fun i a b => (h3 i a b).mono hh⟩
theorem s_lenRR {H : Heap} {v : Value} {ls : List (List UInt8)} {K : Value → Prop} (h : RdBs H v ls) (k : K (.int .i64 ls.length)) : HLenS v K := by
  obtain ⟨vs, _, h2, _⟩ := h
  exact s_lenR h2 k
theorem s_getRR {W w : World} {l : List Chunk} {H : Heap} {v : Value} {ls : List (List UInt8)} {j : Nat} {k : IntKind} {K : Value → Prop} (hS : SL W l w) (hm : Has (.mem H) l) (h : RdBs H v ls) (hj : j < ls.length)
    (hK : ∀ u, RdSl H 1 u ls[j].length (ls[j].map u8c) → K u) : HIdx 1 v (.int k (j : Int)) fun p => HLd p w K := by
  obtain ⟨vs, h1, h2, h3⟩ := h
  exact s_get1 hS hm h2 hj (List.getElem?_eq_getElem (by omega)) (hK _ (h3 j hj (by omega)))
/-- One element, read again behind a call. -/
theorem s_getRR2 {W w : World} {l : List Chunk} {H : Heap} {v : Value} {ls : List (List UInt8)} {j : Nat} {k : IntKind} {K : Value → Value → Prop} (hS : SL W l w) (hm : Has (.mem H) l) (h : RdBs H v ls) (hj : j < ls.length)
    (hK : ∀ p u, RdSl H 1 u ls[j].length (ls[j].map u8c) → (∀ w' l', SL W l' w' → ∀ H', H.le H' → Has (.mem H') l' → ∀ K' : Value → Prop, K' u → HLd p w' K') → K p u) : HIdx 1 v (.int k (j : Int)) fun p => HLd p w (K p) := by
  obtain ⟨vs, h1, h2, h3⟩ := h
  refine s_idxR h2 hj fun b o hb => ?_
  have hu : vs[j * 1 + 0]? = some (vs[j]'(by omega)) := by rw [Nat.mul_one, Nat.add_zero, List.getElem?_eq_getElem]
  have hc := hb 0 _ (by omega) hu
  refine s_ldm hS hm hc (hK _ _ (h3 j hj (by omega)) fun w' l' hS' H' hh hm' K' k' => s_ldm hS' hm' (Heap.cell_le hh hc) k')
end Go.Proofs.YtmcglicbolhmfaaGreat
namespace Go.Proofs.YtmcglicbolhmfaaGreat
set_option linter.unusedVariables false
set_option maxRecDepth 100000
open Go.RowKit

/-- qanatref04.Read -/
theorem rread_spec (X : Chunk) (v : Value) (q : List UInt8) (hq : Rdb X v q) (hN : q.length ≤ 10000000000) : Spec Tryz.prog 35 [v] [X] (ReadQ2 X q) := by
  intro W F w hS; apply vc35; unfold Vc35; (try simp only [app] at hS)
  (apply s_call (rscan_spec X v q hq hN) hS; exact Xp; clear hS)
  rintro r post ⟨u, es, he, rfl, rfl⟩ w hS; (try simp only [app] at hS)
  have hr := readS_es he
  have hno : ∀ {w : World}, readS q = none → SL W (X :: F) w → ∃ post, ReadQ2 X q (.tuple #[.int .i64 0, .slice none 0 0, .int .i64 0, .int .i64 3]) post ∧ SL W (app post F) w := fun h hS => ⟨[X], by unfold ReadQ2; rw [h]; exact ⟨rfl, rfl⟩, hS⟩
  (repeat (first | (with_reducible first | apply Q0 | refine Qa hS ?_ | refine Qb ?_ | refine Qc hS ?_ | refine Qd ?_) | ((with_reducible refine Qe hS ?_); clear hS; intro w hS; simp only [List.set] at hS) | ((with_reducible first | refine s_draw hS ?_ | refine Qf hS ?_); clear hS; intro w hS) | ((with_reducible first | refine s_new hS ?_ | refine Qg hS ?_); clear hS; intro b w hS)))
  refine s_lenO hS (v := u) (t := 31) (sz := 1) (n := es.length) (cells := vals es) Xh ?_
  (repeat (first | (with_reducible first | apply Q0 | refine Qa hS ?_ | refine Qb ?_ | refine Qc hS ?_ | refine Qd ?_) | ((with_reducible refine Qe hS ?_); clear hS; intro w hS; simp only [List.set] at hS) | ((with_reducible first | refine s_draw hS ?_ | refine Qf hS ?_); clear hS; intro w hS) | ((with_reducible first | refine s_new hS ?_ | refine Qg hS ?_); clear hS; intro b w hS)))
  refine s_ifp (fun h => ?_) (fun h => ?_)
  · have : es = [] := List.eq_nil_of_length_eq_zero (by omega)
    subst this
    exact hno hr (SL.into hS Xi)
  · obtain ⟨e, es, rfl⟩ : ∃ e es', es = e :: es' := by
      cases es with
      | nil => simp at h
      | cons e es => exact ⟨e, es, rfl⟩
    have hr : readS q = (hdOf e.2).map fun k => (k, byts es, (scanA q).2) := hr
    refine s_get1O (j := 0) hS (v := u) (t := 31) (n := (e :: es).length) (cells := vals (e :: es)) Xh (by simp) (u := e.1) rfl ?_
    have hS := HAll.take (t := 0) (x := e) (SL.into hS (t := .ob (HAll BEntO (e :: es)) :: .ob (OwnSl u 31 1 (e :: es).length (vals (e :: es))) :: X :: F) Xi) rfl
    have e3 : (e :: es).eraseIdx 0 = es := rfl
    rw [e3] at hS
    have hR : Rdb (.ob (BEntO e)) e.1 e.2 := Rdb.own
    have hel : e.2.length ≤ 1048576 := (scanA_ok2 (q.length + 1) q (by omega)).1 e.2 (by rw [← he]; simp [byts])
    (apply s_call (rdecode_spec (.ob (BEntO e)) e.1 e.2 hR (by omega)) hS; exact Xp; clear hS)
    intro r post hQ w hS
    unfold DecQ at hQ
    unfold hdOf at hr
    cases hd : decF e.2 with
    | error k =>
      rw [hd] at hQ hr
      obtain ⟨rfl, rfl⟩ := hQ
      (try simp only [app] at hS)
      (repeat (first | (with_reducible first | apply Q0 | refine Qa hS ?_ | refine Qb ?_ | refine Qc hS ?_ | refine Qd ?_) | ((with_reducible refine Qe hS ?_); clear hS; intro w hS; simp only [List.set] at hS) | ((with_reducible first | refine s_draw hS ?_ | refine Qf hS ?_); clear hS; intro w hS) | ((with_reducible first | refine s_new hS ?_ | refine Qg hS ?_); clear hS; intro b w hS)))
      have hk : k ≠ 0 := by
        intro hk
        rw [decF_eq] at hd
        split at hd
        · cases hd
        · rename_i h0
          cases hd; exact h0 hk
      refine s_ifp (fun _ => ?_) (fun h => absurd hk h)
      exact hno hr (SL.into hS Xi)
    | ok l =>
      rw [hd] at hQ hr
      obtain ⟨y, rfl, rfl⟩ := hQ
      (try simp only [app] at hS)
      (repeat (first | (with_reducible first | apply Q0 | refine Qa hS ?_ | refine Qb ?_ | refine Qc hS ?_ | refine Qd ?_) | ((with_reducible refine Qe hS ?_); clear hS; intro w hS; simp only [List.set] at hS) | ((with_reducible first | refine s_draw hS ?_ | refine Qf hS ?_); clear hS; intro w hS) | ((with_reducible first | refine s_new hS ?_ | refine Qg hS ?_); clear hS; intro b w hS)))
      refine s_ifp (fun h => absurd rfl h) (fun _ => ?_)
      refine s_lenO hS (v := y) (t := 105) (sz := 3) (n := l.length) (cells := (l.map fdcells).flatten) Xh ?_
      (repeat (first | (with_reducible first | apply Q0 | refine Qa hS ?_ | refine Qb ?_ | refine Qc hS ?_ | refine Qd ?_) | ((with_reducible refine Qe hS ?_); clear hS; intro w hS; simp only [List.set] at hS) | ((with_reducible first | refine s_draw hS ?_ | refine Qf hS ?_); clear hS; intro w hS) | ((with_reducible first | refine s_new hS ?_ | refine Qg hS ?_); clear hS; intro b w hS)))
      refine s_ifp (fun h1 => ?_) (fun h1 => ?_)
      · have : hdF l = none := by
          match l, h1 with
          | [], _ => rfl
          | [x], h1 => simp at h1
          | _ :: _ :: _, _ => rfl
        simp only [this, Option.map_none] at hr
        exact hno hr (SL.into hS Xi)
      · obtain ⟨x, rfl⟩ : ∃ x, l = [x] := List.length_eq_one_iff.1 (by omega)
        have hx : hdF [x] = if x.kind = 1 ∧ 1 ≤ x.n ∧ x.n ≤ 1099511627776 then some x.n else none := rfl
        simp only [hx] at hr
        refine s_getFO (j := 0) (i := 0) (x := x) (xs := [x]) hS (v := y) (t := 105) (sz := 3) (n := 1) Xh fdcells_len rfl (by omega) (u := .int .i64 x.kind) rfl ?_
        (repeat (first | (with_reducible first | apply Q0 | refine Qa hS ?_ | refine Qb ?_ | refine Qc hS ?_ | refine Qd ?_) | ((with_reducible refine Qe hS ?_); clear hS; intro w hS; simp only [List.set] at hS) | ((with_reducible first | refine s_draw hS ?_ | refine Qf hS ?_); clear hS; intro w hS) | ((with_reducible first | refine s_new hS ?_ | refine Qg hS ?_); clear hS; intro b w hS)))
        refine s_ifp (fun h2 => ?_) (fun h2 => ?_)
        · rw [if_neg (by omega)] at hr
          exact hno hr (SL.into hS Xi)
        · refine s_getFO (j := 0) (i := 1) (x := x) (xs := [x]) hS (v := y) (t := 105) (sz := 3) (n := 1) Xh fdcells_len rfl (by omega) (u := .int .i64 x.n) rfl ?_
          (repeat (first | (with_reducible first | apply Q0 | refine Qa hS ?_ | refine Qb ?_ | refine Qc hS ?_ | refine Qd ?_) | ((with_reducible refine Qe hS ?_); clear hS; intro w hS; simp only [List.set] at hS) | ((with_reducible first | refine s_draw hS ?_ | refine Qf hS ?_); clear hS; intro w hS) | ((with_reducible first | refine s_new hS ?_ | refine Qg hS ?_); clear hS; intro b w hS)))
          refine s_ifp (fun h3 => ?_) (fun h3 => ?_)
          · rw [if_neg (by omega)] at hr
            exact hno hr (SL.into hS Xi)
          · refine s_getFO (j := 0) (i := 1) (x := x) (xs := [x]) hS (v := y) (t := 105) (sz := 3) (n := 1) Xh fdcells_len rfl (by omega) (u := .int .i64 x.n) rfl ?_
            (repeat (first | (with_reducible first | apply Q0 | refine Qa hS ?_ | refine Qb ?_ | refine Qc hS ?_ | refine Qd ?_) | ((with_reducible refine Qe hS ?_); clear hS; intro w hS; simp only [List.set] at hS) | ((with_reducible first | refine s_draw hS ?_ | refine Qf hS ?_); clear hS; intro w hS) | ((with_reducible first | refine s_new hS ?_ | refine Qg hS ?_); clear hS; intro b w hS)))
            refine s_ifp (fun h4 => ?_) (fun h4 => ?_)
            · rw [if_neg (by omega)] at hr
              exact hno hr (SL.into hS Xi)
            · rw [if_pos ⟨by omega, by omega, by omega⟩] at hr
              (repeat (first | (with_reducible first | apply Q0 | refine Qa hS ?_ | refine Qb ?_ | refine Qc hS ?_ | refine Qd ?_) | ((with_reducible refine Qe hS ?_); clear hS; intro w hS; simp only [List.set] at hS) | ((with_reducible first | refine s_draw hS ?_ | refine Qf hS ?_); clear hS; intro w hS) | ((with_reducible first | refine s_new hS ?_ | refine Qg hS ?_); clear hS; intro b w hS)))
              refine s_getFO (j := 0) (i := 1) (x := x) (xs := [x]) hS (v := y) (t := 105) (sz := 3) (n := 1) Xh fdcells_len rfl (by omega) (u := .int .i64 x.n) rfl ?_
              have hS := OwnSo.of (SL.into hS (t := .ob (OwnSl u 31 1 (e :: es).length (vals (e :: es))) :: .ob (HAll BEntO es) :: X :: F) Xi)
              refine s_slSo (k := 1) hS (by simp) ?_
              clear hS; intro z hS
              have e1 : (e :: es).length - 1 = es.length := by simp
              have e2 : (vals (e :: es)).drop (1 * 1) = vals es := rfl
              rw [e1, e2] at hS
              refine ⟨[.ob (OwnSo z 31 1 es.length (vals es)), .ob (HAll BEntO es), X], ?_, SL.into hS Xi⟩
              unfold ReadQ2
              rw [hr]
              exact ⟨z, es, rfl, rfl, rfl⟩
/-- The log's files among a disk's. -/
def ownY (base : Int) (ys : List YF) : List YF := ys.filter fun y => decide (base ≤ y.1.id ∧ y.1.id < base + 4096)
theorem ownY_ids {base : Int} {ys : List YF} {R : List PF} (h : ys.map Prod.fst = R) : (ownY base ys).map (fun y => y.1.id) = idsG base R := by
  subst h
  unfold idsG ownY
  rw [List.map_map, List.filter_map]
  rfl
theorem ownY_mem {base : Int} {ys : List YF} {y : YF} (h : y ∈ ownY base ys) : y ∈ ys := (List.mem_filter.1 h).1
/-- qanatref04.own -/
theorem rown_spec (H : Heap) (xp : Nat) (s : DS) (fv : Value) (ys : List YF) (hrb : RdB H ys) (base : Int) (b0 : 0 ≤ base) (b1 : base ≤ 12288) (hyl : ys.length ≤ 100000) :
    Spec Tryz.prog 34 [.pointer (some ⟨xp, 0, none⟩), .int .i64 base] [.pt xp (rcells fv s) 28, .ob (FilesO fv ys)]
      (fun v post => post = [.ob (FilesO v (ownY base ys)), .pt xp (rcells fv s) 28, .ob (FilesO fv ys)]) := by
  intro W F w hS; apply vc34; unfold Vc34; (try simp only [app] at hS)
  have hS0 : SL W (.ob (FilesO (.slice none 0 0) (ownY base (ys.take 0))) :: .pt xp (rcells fv s) 28 :: .ob (FilesO fv ys) :: F) w := OwnSl.nil hS
  refine ⟨fun vs w => ∃ (u : Value) (i : Nat), i ≤ ys.length ∧ vs = [u, .int .i64 i] ∧ SL W (.ob (FilesO u (ownY base (ys.take i))) :: .pt xp (rcells fv s) 28 :: .ob (FilesO fv ys) :: F) w,
    fun vs _ => match vs with | [_, .int _ i] => (ys.length - i).toNat | _ => 0, ⟨_, 0, by omega, rfl, hS0⟩, ?_⟩
  clear hS hS0
  rintro v5 v6 w ⟨u, i, hi, hvs, hS⟩
  cases hvs
  (repeat (first | (with_reducible first | apply Q0 | refine Qa hS ?_ | refine Qb ?_ | refine Qc hS ?_ | refine Qd ?_) | ((with_reducible refine Qe hS ?_); clear hS; intro w hS; simp only [List.set] at hS) | ((with_reducible first | refine s_draw hS ?_ | refine Qf hS ?_); clear hS; intro w hS) | ((with_reducible first | refine s_new hS ?_ | refine Qg hS ?_); clear hS; intro b w hS)))
  refine s_lenO hS (v := fv) (t := 76) (sz := 3) (n := ys.length) (cells := (ys.map encRF).flatten) Xh ?_
  (repeat (first | (with_reducible first | apply Q0 | refine Qa hS ?_ | refine Qb ?_ | refine Qc hS ?_ | refine Qd ?_) | ((with_reducible refine Qe hS ?_); clear hS; intro w hS; simp only [List.set] at hS) | ((with_reducible first | refine s_draw hS ?_ | refine Qf hS ?_); clear hS; intro w hS) | ((with_reducible first | refine s_new hS ?_ | refine Qg hS ?_); clear hS; intro b w hS)))
  refine s_ifp (fun h => ?_) (fun h => ?_)
  · have hil : i < ys.length := by omega
    have hx : ys[i]? = some ys[i] := List.getElem?_eq_getElem hil
    have hstep : ownY base (ys.take (i + 1)) = ownY base (ys.take i) ++ if base ≤ ys[i].1.id ∧ ys[i].1.id < base + 4096 then [ys[i]] else [] := by
      unfold ownY
      rw [List.take_add_one, hx, List.filter_append]
      congr 1
      simp only [Option.toList_some, List.filter_cons, List.filter_nil, decide_eq_true_eq]
    have hol : (ownY base (ys.take i)).length ≤ 100000 := by
      unfold ownY
      have := List.length_filter_le (fun y : YF => decide (base ≤ y.1.id ∧ y.1.id < base + 4096)) (ys.take i)
      rw [List.length_take] at this; omega
    have hone := (hrb _ (List.getElem_mem hil)).one
    generalize ys[i] = y at *
    (repeat (first | (with_reducible first | apply Q0 | refine Qa hS ?_ | refine Qb ?_ | refine Qc hS ?_ | refine Qd ?_) | ((with_reducible refine Qe hS ?_); clear hS; intro w hS; simp only [List.set] at hS) | ((with_reducible first | refine s_draw hS ?_ | refine Qf hS ?_); clear hS; intro w hS) | ((with_reducible first | refine s_new hS ?_ | refine Qg hS ?_); clear hS; intro b w hS)))
    refine s_getFO (i := 0) hS (v := fv) (t := 76) Xh encRF_len hx hil (u := .int .i64 y.1.id) rfl ?_
    (repeat (first | (with_reducible first | apply Q0 | refine Qa hS ?_ | refine Qb ?_ | refine Qc hS ?_ | refine Qd ?_) | ((with_reducible refine Qe hS ?_); clear hS; intro w hS; simp only [List.set] at hS) | ((with_reducible first | refine s_draw hS ?_ | refine Qf hS ?_); clear hS; intro w hS) | ((with_reducible first | refine s_new hS ?_ | refine Qg hS ?_); clear hS; intro b w hS)))
    refine s_ifp (fun h1 => ?_) (fun h1 => ?_)
    · (repeat (first | (with_reducible first | apply Q0 | refine Qa hS ?_ | refine Qb ?_ | refine Qc hS ?_ | refine Qd ?_) | ((with_reducible refine Qe hS ?_); clear hS; intro w hS; simp only [List.set] at hS) | ((with_reducible first | refine s_draw hS ?_ | refine Qf hS ?_); clear hS; intro w hS) | ((with_reducible first | refine s_new hS ?_ | refine Qg hS ?_); clear hS; intro b w hS)))
      refine s_getFO (i := 0) hS (v := fv) (t := 76) Xh encRF_len hx hil (u := .int .i64 y.1.id) rfl ?_
      (repeat (first | (with_reducible first | apply Q0 | refine Qa hS ?_ | refine Qb ?_ | refine Qc hS ?_ | refine Qd ?_) | ((with_reducible refine Qe hS ?_); clear hS; intro w hS; simp only [List.set] at hS) | ((with_reducible first | refine s_draw hS ?_ | refine Qf hS ?_); clear hS; intro w hS) | ((with_reducible first | refine s_new hS ?_ | refine Qg hS ?_); clear hS; intro b w hS)))
      refine s_ifp (fun h2 => ?_) (fun h2 => ?_)
      · rw [if_pos ⟨by omega, h2⟩] at hstep
        (repeat (first | (with_reducible first | apply Q0 | refine Qa hS ?_ | refine Qb ?_ | refine Qc hS ?_ | refine Qd ?_) | ((with_reducible refine Qe hS ?_); clear hS; intro w hS; simp only [List.set] at hS) | ((with_reducible first | refine s_draw hS ?_ | refine Qf hS ?_); clear hS; intro w hS) | ((with_reducible first | refine s_new hS ?_ | refine Qg hS ?_); clear hS; intro b w hS)))
        refine s_getNO hS (v := fv) (t := 76) Xh encRF_len hx hil ?_
        refine s_bldS (cells := encRF y) hS rfl ?_
        clear hS; intro p w hS
        have h1c : ∀ v ∈ encRF y, v.oneCell' = true := by
          intro v hv
          simp only [encRF, List.mem_cons, List.not_mem_nil, or_false] at hv
          rcases hv with rfl | rfl | rfl
          · rfl
          · rfl
          · exact hone
        refine s_app (m := 1) (cs := encRF y) hS Xr (src_pt0 hS .hd rfl) rfl rfl h1c (by omega) (by omega) ?_
        clear hS; intro u' w hS
        (repeat (first | (with_reducible first | apply Q0 | refine Qa hS ?_ | refine Qb ?_ | refine Qc hS ?_ | refine Qd ?_) | ((with_reducible refine Qe hS ?_); clear hS; intro w hS; simp only [List.set] at hS) | ((with_reducible first | refine s_draw hS ?_ | refine Qf hS ?_); clear hS; intro w hS) | ((with_reducible first | refine s_new hS ?_ | refine Qg hS ?_); clear hS; intro b w hS)))
        have e1 : (ownY base (ys.take i)).length + 1 = (ownY base (ys.take (i + 1))).length := by rw [hstep, List.length_append]; rfl
        have e2 : ((ownY base (ys.take i)).map encRF).flatten ++ encRF y = ((ownY base (ys.take (i + 1))).map encRF).flatten := by rw [hstep]; simp
        rw [e1, e2] at hS
        exact ⟨⟨u', i + 1, by omega, rfl, SL.into hS Xi⟩, by dsimp only; omega⟩
      · rw [if_neg (by omega), List.append_nil] at hstep
        (repeat (first | (with_reducible first | apply Q0 | refine Qa hS ?_ | refine Qb ?_ | refine Qc hS ?_ | refine Qd ?_) | ((with_reducible refine Qe hS ?_); clear hS; intro w hS; simp only [List.set] at hS) | ((with_reducible first | refine s_draw hS ?_ | refine Qf hS ?_); clear hS; intro w hS) | ((with_reducible first | refine s_new hS ?_ | refine Qg hS ?_); clear hS; intro b w hS)))
        exact ⟨⟨_, i + 1, by omega, rfl, by rw [hstep]; exact hS⟩, by dsimp only; omega⟩
    · rw [if_neg (by omega), List.append_nil] at hstep
      (repeat (first | (with_reducible first | apply Q0 | refine Qa hS ?_ | refine Qb ?_ | refine Qc hS ?_ | refine Qd ?_) | ((with_reducible refine Qe hS ?_); clear hS; intro w hS; simp only [List.set] at hS) | ((with_reducible first | refine s_draw hS ?_ | refine Qf hS ?_); clear hS; intro w hS) | ((with_reducible first | refine s_new hS ?_ | refine Qg hS ?_); clear hS; intro b w hS)))
      exact ⟨⟨_, i + 1, by omega, rfl, by rw [hstep]; exact hS⟩, by dsimp only; omega⟩
  · obtain rfl : i = ys.length := by omega
    rw [List.take_length] at hS
    exact ⟨_, rfl, hS⟩
/-! The log as an object. -/
def tornI (t : Option PTorn) : Int := match t with
  | none => -1
  | some x => x.file
abbrev rlcells (sv : Value) (xp : Nat) (base size t : Int) : List Value := [.pointer (some ⟨xp, 0, none⟩), .int .i64 base, .int .i64 size, sv, .int .i64 t]
abbrev RowR (sv : Value) (xs : List XSeg) : Chunk := .ob (OwnSo sv 90 4 xs.length (xs.map xcells).flatten)
def RLogO (lp xp : Nat) (g : PLog) : HProp := HEx fun x : Value × List XSeg => HFact (x.2.map XSeg.pl = g.segs) [.pt lp (rlcells x.1 xp g.base g.size (tornI g.torn)) 85, RowR x.1 x.2, .ob (HAll XSegO x.2)]
theorem RLogO.iff {W w : World} {lp xp : Nat} {g : PLog} {l : List Chunk} : SL W (.ob (RLogO lp xp g) :: l) w ↔ ∃ sv xs, xs.map XSeg.pl = g.segs ∧ SL W (.pt lp (rlcells sv xp g.base g.size (tornI g.torn)) 85 :: RowR sv xs :: .ob (HAll XSegO xs) :: l) w := by
  unfold RLogO
  simp only [SL.ex, SL.fact, List.cons_append, List.nil_append]
  exact ⟨fun ⟨x, h1, h2⟩ => ⟨x.1, x.2, h1, h2⟩, fun ⟨a, b, h1, h2⟩ => ⟨(a, b), h1, h2⟩⟩
theorem RLogO.close {W w : World} {lp xp : Nat} {g : PLog} {l F : List Chunk} {sv : Value} {xs : List XSeg} (h : SL W l w) (hx : xs.map XSeg.pl = g.segs) (k : Into (.pt lp (rlcells sv xp g.base g.size (tornI g.torn)) 85 :: RowR sv xs :: .ob (HAll XSegO xs) :: F) l) : SL W (app [.ob (RLogO lp xp g)] F) w :=
  RLogO.iff.2 ⟨sv, xs, hx, h.into k⟩
theorem RLogO.closeN {W w : World} {lp xp : Nat} {L : List PSeg} {base size : Int} {l F : List Chunk} {sv : Value} {xs : List XSeg} (h : SL W l w) (hx : xs.map XSeg.pl = L) (k : Into (.pt lp (rlcells sv xp base size (-1)) 85 :: RowR sv xs :: .ob (HAll XSegO xs) :: F) l) : SL W (app [.ob (RLogO lp xp ⟨L, base, size, none⟩)] F) w :=
  RLogO.iff.2 ⟨sv, xs, hx, h.into k⟩
theorem RLogO.openN {W w : World} {lp xp : Nat} {L : List PSeg} {base size : Int} {F : List Chunk} (h : SL W (.ob (RLogO lp xp ⟨L, base, size, none⟩) :: F) w) : ∃ sv xs, xs.map XSeg.pl = L ∧ SL W (.pt lp (rlcells sv xp base size (-1)) 85 :: RowR sv xs :: .ob (HAll XSegO xs) :: F) w := RLogO.iff.1 h
section
variable {W w : World} {l : List Chunk}
theorem s_segRo {v : Value} {xs : List XSeg} {j : Nat} {k : IntKind} {K : Value → Prop} (h : SL W l w) (m : Has (RowR v xs) l) (hj : j < xs.length) (hK : K (.agg (xcells xs[j]).toArray)) : HIdx 4 v (.int k (j : Int)) fun p => HLdN 4 p w K := by
  refine s_idxSo h m hj fun b o hb => ⟨⟨b, o, none⟩, xcells xs[j], rfl, rfl, fun i u hu => ?_, hK⟩
  rw [Addr.add_lit]
  have hi : i < 4 := (List.getElem?_eq_some_iff.1 hu).1
  exact hb i u hi (flat_get xcells_len hj hu)
theorem s_segRF {v u : Value} {xs : List XSeg} {i j : Nat} {k : IntKind} {K : Value → Prop} (h : SL W l w) (m : Has (RowR v xs) l) (hj : j < xs.length) (hu : (xcells xs[j])[i]? = some u) (hK : K u) : HIdx 4 v (.int k (j : Int)) fun p => HFld i p fun q => HLd q w K := by
  refine s_idxSo h m hj fun b o hb => ?_
  refine s_fld ?_
  have hi : i < 4 := (List.getElem?_eq_some_iff.1 hu).1
  exact ⟨_, u, rfl, hb i u hi (flat_get xcells_len hj hu), hK⟩
end
theorem rlast_spec (lp xp : Nat) (sv : Value) (xs : List XSeg) (base size t : Int) (hl : xs.length ≤ 1000000000000000) : Spec Tryz.prog 37 [.pointer (some ⟨lp, 0, none⟩)] [.pt lp (rlcells sv xp base size t) 85, RowR sv xs]
    (Gives (.int .i64 ((xs.length : Int) - 1)) [.pt lp (rlcells sv xp base size t) 85, RowR sv xs]) := by
  intro W F w hS; apply vc37; unfold Vc37; (try simp only [app] at hS)
  (repeat (first | (with_reducible first | apply Q0 | refine Qa hS ?_ | refine Qb ?_ | refine Qc hS ?_ | refine Qd ?_) | ((with_reducible refine Qe hS ?_); clear hS; intro w hS; simp only [List.set] at hS) | ((with_reducible first | refine s_draw hS ?_ | refine Qf hS ?_); clear hS; intro w hS) | ((with_reducible first | refine s_new hS ?_ | refine Qg hS ?_); clear hS; intro b w hS)))
  refine s_lenSo hS (v := sv) (t := 90) (sz := 4) (n := xs.length) (cells := (xs.map xcells).flatten) Xh ?_
  (repeat (first | (with_reducible first | apply Q0 | refine Qa hS ?_ | refine Qb ?_ | refine Qc hS ?_ | refine Qd ?_) | ((with_reducible refine Qe hS ?_); clear hS; intro w hS; simp only [List.set] at hS) | ((with_reducible first | refine s_draw hS ?_ | refine Qf hS ?_); clear hS; intro w hS) | ((with_reducible first | refine s_new hS ?_ | refine Qg hS ?_); clear hS; intro b w hS)))
  exact ⟨_, ⟨rfl, rfl⟩, hS⟩
theorem rlow_spec (lp xp : Nat) (g : PLog) {M : Nat} (hg : g.Ok M) (hM : M ≤ 1000000000000) : Spec Tryz.prog 43 [.pointer (some ⟨lp, 0, none⟩)] [.ob (RLogO lp xp g)] (Gives (.int .i64 (lowG g.segs)) [.ob (RLogO lp xp g)]) := by
  intro W F w hS; apply vc43; unfold Vc43; (try simp only [app] at hS)
  obtain ⟨sv, xs, hx, hS⟩ := RLogO.iff.1 hS
  obtain ⟨h1, h2, _, _⟩ := hg.xs hx
  (repeat (first | (with_reducible first | apply Q0 | refine Qa hS ?_ | refine Qb ?_ | refine Qc hS ?_ | refine Qd ?_) | ((with_reducible refine Qe hS ?_); clear hS; intro w hS; simp only [List.set] at hS) | ((with_reducible first | refine s_draw hS ?_ | refine Qf hS ?_); clear hS; intro w hS) | ((with_reducible first | refine s_new hS ?_ | refine Qg hS ?_); clear hS; intro b w hS)))
  refine s_lenSo hS (v := sv) (t := 90) (sz := 4) (n := xs.length) (cells := (xs.map xcells).flatten) Xh ?_
  (repeat (first | (with_reducible first | apply Q0 | refine Qa hS ?_ | refine Qb ?_ | refine Qc hS ?_ | refine Qd ?_) | ((with_reducible refine Qe hS ?_); clear hS; intro w hS; simp only [List.set] at hS) | ((with_reducible first | refine s_draw hS ?_ | refine Qf hS ?_); clear hS; intro w hS) | ((with_reducible first | refine s_new hS ?_ | refine Qg hS ?_); clear hS; intro b w hS)))
  refine s_ifp (fun h0 => ?_) (fun h0 => ?_)
  · have : xs = [] := List.eq_nil_of_length_eq_zero (by omega)
    have e : lowG g.segs = 1 := by rw [← hx, this]; rfl
    rw [e]
    exact ⟨_, ⟨rfl, rfl⟩, RLogO.close hS hx Xi⟩
  · cases xs with
    | nil => simp at h0
    | cons x xs =>
      have e : lowG g.segs = x.first := by rw [← hx]; rfl
      rw [e]
      (repeat (first | (with_reducible first | apply Q0 | refine Qa hS ?_ | refine Qb ?_ | refine Qc hS ?_ | refine Qd ?_) | ((with_reducible refine Qe hS ?_); clear hS; intro w hS; simp only [List.set] at hS) | ((with_reducible first | refine s_draw hS ?_ | refine Qf hS ?_); clear hS; intro w hS) | ((with_reducible first | refine s_new hS ?_ | refine Qg hS ?_); clear hS; intro b w hS)))
      refine s_segRF (j := 0) (i := 1) hS Xh (by simp) (u := .int .i64 x.first) rfl ?_
      exact ⟨_, ⟨rfl, rfl⟩, RLogO.close hS hx Xi⟩
theorem rheadL_spec (lp xp : Nat) (g : PLog) {M : Nat} (hg : g.Ok M) (hM : M ≤ 1000000000000) : Spec Tryz.prog 44 [.pointer (some ⟨lp, 0, none⟩)] [.ob (RLogO lp xp g)] (Gives (.int .i64 (headG g.segs)) [.ob (RLogO lp xp g)]) := by
  intro W F w hS; apply vc44; unfold Vc44; (try simp only [app] at hS)
  obtain ⟨sv, xs, hx, hS⟩ := RLogO.iff.1 hS
  obtain ⟨h1, h2, _, _⟩ := hg.xs hx
  (repeat (first | (with_reducible first | apply Q0 | refine Qa hS ?_ | refine Qb ?_ | refine Qc hS ?_ | refine Qd ?_) | ((with_reducible refine Qe hS ?_); clear hS; intro w hS; simp only [List.set] at hS) | ((with_reducible first | refine s_draw hS ?_ | refine Qf hS ?_); clear hS; intro w hS) | ((with_reducible first | refine s_new hS ?_ | refine Qg hS ?_); clear hS; intro b w hS)))
  refine s_lenSo hS (v := sv) (t := 90) (sz := 4) (n := xs.length) (cells := (xs.map xcells).flatten) Xh ?_
  (repeat (first | (with_reducible first | apply Q0 | refine Qa hS ?_ | refine Qb ?_ | refine Qc hS ?_ | refine Qd ?_) | ((with_reducible refine Qe hS ?_); clear hS; intro w hS; simp only [List.set] at hS) | ((with_reducible first | refine s_draw hS ?_ | refine Qf hS ?_); clear hS; intro w hS) | ((with_reducible first | refine s_new hS ?_ | refine Qg hS ?_); clear hS; intro b w hS)))
  refine s_ifp (fun h0 => ?_) (fun h0 => ?_)
  · have : xs = [] := List.eq_nil_of_length_eq_zero (by omega)
    have e : headG g.segs = 0 := by rw [← hx, this]; rfl
    rw [e]
    exact ⟨_, ⟨rfl, rfl⟩, RLogO.close hS hx Xi⟩
  · (repeat (first | (with_reducible first | apply Q0 | refine Qa hS ?_ | refine Qb ?_ | refine Qc hS ?_ | refine Qd ?_) | ((with_reducible refine Qe hS ?_); clear hS; intro w hS; simp only [List.set] at hS) | ((with_reducible first | refine s_draw hS ?_ | refine Qf hS ?_); clear hS; intro w hS) | ((with_reducible first | refine s_new hS ?_ | refine Qg hS ?_); clear hS; intro b w hS)))
    have hj : xs.length - 1 < xs.length := by omega
    have hg2 : headG g.segs = (xs[xs.length - 1]'hj).first - 1 + ((xs[xs.length - 1]'hj).es.length : Nat) := by
      rw [← hx]
      unfold headG
      rw [List.getLast?_map, List.getLast?_eq_getElem?, List.getElem?_eq_getElem hj]
      show (xs[xs.length - 1]'hj).pl.next - 1 = _
      rw [xseg_next]; omega
    have hok := h1 _ (List.mem_map.2 ⟨_, List.getElem_mem hj, rfl⟩)
    have e : ((xs.length : Nat) : Int) - 1 = ((xs.length - 1 : Nat) : Int) := by omega
    have k1 := hok.n0
    have k2 := hok.n1
    have k3 : (xs[xs.length - 1]'hj).es.length ≤ M := by have := hok.ln; simpa [XSeg.pl, byts_len] using this
    have hseg : ∀ {w : World} {l : List Chunk} {K : Value → Prop}, SL W l w → Has (RowR sv xs) l → K (.agg #[.int .i64 (xs[xs.length - 1]'hj).file, .int .i64 (xs[xs.length - 1]'hj).first, .int .i64 ((xs[xs.length - 1]'hj).size : Nat), .slice (xs[xs.length - 1]'hj).a (xs[xs.length - 1]'hj).es.length (xs[xs.length - 1]'hj).c]) → HIdx 4 sv (.int .i64 ((xs.length - 1 : Nat) : Int)) fun p => HLdN 4 p w K := fun hS m hK => s_segRo hS m hj hK
    have hsegP : ∀ {w : World} {l : List Chunk} {K : Value → Prop}, SL W l w → Has (RowR sv xs) l → (∀ p, (∀ (w' : World) (l' : List Chunk) (K' : Value → Prop), SL W l' w' → Has (RowR sv xs) l' → K' (.agg #[.int .i64 (xs[xs.length - 1]'hj).file, .int .i64 (xs[xs.length - 1]'hj).first, .int .i64 ((xs[xs.length - 1]'hj).size : Nat), .slice (xs[xs.length - 1]'hj).a (xs[xs.length - 1]'hj).es.length (xs[xs.length - 1]'hj).c]) → HLdN 4 p w' K') → K p) → HIdx 4 sv (.int .i64 ((xs.length - 1 : Nat) : Int)) K := by
      intro w l K hS m hK
      obtain ⟨l2, r⟩ := m.rem
      rcases OwnSo.open (hS.perm r.perm) with ⟨_, h00, _⟩ | ⟨b, pre, cap, rest, hsv, hc, hl, hr, _⟩
      · omega
      · rw [hsv]
        refine s_idx hj (hK _ fun w' l' K' hS' m' hK' => ?_)
        obtain ⟨l3, r3⟩ := m'.rem
        rcases OwnSo.open (hS'.perm r3.perm) with ⟨_, h00, _⟩ | ⟨b', pre', cap', rest', hsv', hc', hl', hr', hS3⟩
        · omega
        · rw [hsv] at hsv'
          simp only [Value.slice.injEq, Option.some.injEq, Addr.mk.injEq, true_and, and_true] at hsv'
          obtain ⟨⟨rfl, hpl⟩, rfl⟩ := hsv'
          rw [hpl]
          refine ⟨_, _, rfl, rfl, fun i u hu => ?_, hK'⟩
          rw [Addr.add_lit]
          refine hS3.cell .hd ?_
          have hi : i < 4 := (List.getElem?_eq_some_iff.1 hu).1
          have := flat_get xcells_len hj (i := i) (u := u) hu
          rw [Nat.add_assoc, List.getElem?_append_right (by omega), Nat.add_sub_cancel_left, List.getElem?_append_left (List.getElem?_eq_some_iff.1 this).1]
          exact this
    rw [hg2]
    generalize xs[xs.length - 1]'hj = x at *
    refine ⟨?_, ?_⟩
    · (apply s_call (rlast_spec lp xp sv xs g.base g.size (tornI g.torn) (by omega)) hS; exact Xp; clear hS)
      (rintro v post ⟨rfl, rfl⟩ w hS; (try simp only [app] at hS); (repeat (first | (with_reducible first | apply Q0 | refine Qa hS ?_ | refine Qb ?_ | refine Qc hS ?_ | refine Qd ?_) | ((with_reducible refine Qe hS ?_); clear hS; intro w hS; simp only [List.set] at hS) | ((with_reducible first | refine s_draw hS ?_ | refine Qf hS ?_); clear hS; intro w hS) | ((with_reducible first | refine s_new hS ?_ | refine Qg hS ?_); clear hS; intro b w hS))))
      rw [e]
      refine hsegP hS Xh fun p hp => ?_
      refine hp _ _ _ hS Xh ?_
      (repeat (first | (with_reducible first | apply Q0 | refine Qa hS ?_ | refine Qb ?_ | refine Qc hS ?_ | refine Qd ?_) | ((with_reducible refine Qe hS ?_); clear hS; intro w hS; simp only [List.set] at hS) | ((with_reducible first | refine s_draw hS ?_ | refine Qf hS ?_); clear hS; intro w hS) | ((with_reducible first | refine s_new hS ?_ | refine Qg hS ?_); clear hS; intro b w hS)))
      refine hp _ _ _ hS Xh ?_
      (repeat (first | (with_reducible first | apply Q0 | refine Qa hS ?_ | refine Qb ?_ | refine Qc hS ?_ | refine Qd ?_) | ((with_reducible refine Qe hS ?_); clear hS; intro w hS; simp only [List.set] at hS) | ((with_reducible first | refine s_draw hS ?_ | refine Qf hS ?_); clear hS; intro w hS) | ((with_reducible first | refine s_new hS ?_ | refine Qg hS ?_); clear hS; intro b w hS)))
      exact ⟨_, ⟨rfl, rfl⟩, RLogO.close hS hx Xi⟩
    · (repeat (first | (with_reducible first | apply Q0 | refine Qa hS ?_ | refine Qb ?_ | refine Qc hS ?_ | refine Qd ?_) | ((with_reducible refine Qe hS ?_); clear hS; intro w hS; simp only [List.set] at hS) | ((with_reducible first | refine s_draw hS ?_ | refine Qf hS ?_); clear hS; intro w hS) | ((with_reducible first | refine s_new hS ?_ | refine Qg hS ?_); clear hS; intro b w hS)))
      (apply s_call (rlast_spec lp xp sv xs g.base g.size (tornI g.torn) (by omega)) hS; exact Xp; clear hS)
      (rintro v post ⟨rfl, rfl⟩ w hS; (try simp only [app] at hS); (repeat (first | (with_reducible first | apply Q0 | refine Qa hS ?_ | refine Qb ?_ | refine Qc hS ?_ | refine Qd ?_) | ((with_reducible refine Qe hS ?_); clear hS; intro w hS; simp only [List.set] at hS) | ((with_reducible first | refine s_draw hS ?_ | refine Qf hS ?_); clear hS; intro w hS) | ((with_reducible first | refine s_new hS ?_ | refine Qg hS ?_); clear hS; intro b w hS))))
      rw [e]
      refine hseg hS Xh ?_
      (repeat (first | (with_reducible first | apply Q0 | refine Qa hS ?_ | refine Qb ?_ | refine Qc hS ?_ | refine Qd ?_) | ((with_reducible refine Qe hS ?_); clear hS; intro w hS; simp only [List.set] at hS) | ((with_reducible first | refine s_draw hS ?_ | refine Qf hS ?_); clear hS; intro w hS) | ((with_reducible first | refine s_new hS ?_ | refine Qg hS ?_); clear hS; intro b w hS)))
      exact ⟨_, ⟨rfl, rfl⟩, RLogO.close hS hx Xi⟩
end Go.Proofs.YtmcglicbolhmfaaGreat
namespace Go.Proofs.YtmcglicbolhmfaaGreat
set_option linter.unusedVariables false
set_option maxRecDepth 100000
open Go.RowKit

theorem rreadL_spec (lp xp : Nat) (g : PLog) (n : Int) {M : Nat} (hg : GOk g M) (hM : M ≤ 1000000000000) (hn : -9000000000000000000 ≤ n ∧ n ≤ 9000000000000000000) :
    Spec Tryz.prog 45 [.pointer (some ⟨lp, 0, none⟩), .int .i64 n] [.ob (RLogO lp xp g)] (ReadLQ [.ob (RLogO lp xp g)] (readG g.segs n)) := by
  intro W F w hS; apply vc45; unfold Vc45; (try simp only [app] at hS)
  (apply s_call (rlow_spec lp xp g hg.ok hM) hS; exact Xp; clear hS)
  (rintro v post ⟨rfl, rfl⟩ w hS; (try simp only [app] at hS); (repeat (first | (with_reducible first | apply Q0 | refine Qa hS ?_ | refine Qb ?_ | refine Qc hS ?_ | refine Qd ?_) | ((with_reducible refine Qe hS ?_); clear hS; intro w hS; simp only [List.set] at hS) | ((with_reducible first | refine s_draw hS ?_ | refine Qf hS ?_); clear hS; intro w hS) | ((with_reducible first | refine s_new hS ?_ | refine Qg hS ?_); clear hS; intro b w hS))))
  refine s_ifp (fun h1 => ?_) (fun h1 => ?_)
  · rw [readG_low g.segs n hg.seq (fun s _ => by omega) h1]
    exact ⟨_, ⟨rfl, rfl⟩, hS⟩
  · (repeat (first | (with_reducible first | apply Q0 | refine Qa hS ?_ | refine Qb ?_ | refine Qc hS ?_ | refine Qd ?_) | ((with_reducible refine Qe hS ?_); clear hS; intro w hS; simp only [List.set] at hS) | ((with_reducible first | refine s_draw hS ?_ | refine Qf hS ?_); clear hS; intro w hS) | ((with_reducible first | refine s_new hS ?_ | refine Qg hS ?_); clear hS; intro b w hS)))
    (apply s_call (rheadL_spec lp xp g hg.ok hM) hS; exact Xp; clear hS)
    (rintro v post ⟨rfl, rfl⟩ w hS; (try simp only [app] at hS); (repeat (first | (with_reducible first | apply Q0 | refine Qa hS ?_ | refine Qb ?_ | refine Qc hS ?_ | refine Qd ?_) | ((with_reducible refine Qe hS ?_); clear hS; intro w hS; simp only [List.set] at hS) | ((with_reducible first | refine s_draw hS ?_ | refine Qf hS ?_); clear hS; intro w hS) | ((with_reducible first | refine s_new hS ?_ | refine Qg hS ?_); clear hS; intro b w hS))))
    refine s_ifp (fun h2 => ?_) (fun h2 => ?_)
    · rw [readG_high g.segs n hg.seq h2]
      exact ⟨_, ⟨rfl, rfl⟩, hS⟩
    · have hfr : findR g.segs n = readG g.segs n := findR_eq g.segs n hg.seq fun s hs => by
        cases hL : g.segs with
        | nil => rw [hL] at hs; cases hs
        | cons a r =>
          rw [hL] at hs h1
          cases hs
          have : ¬ n < s.first := h1
          omega
      rw [← hfr]
      obtain ⟨sv, xs, hx, hS⟩ := RLogO.iff.1 hS
      obtain ⟨hok, hl, _, _⟩ := hg.ok.xs hx
      have hseq : SeqG (xs.map XSeg.pl) := by rw [hx]; exact hg.seq
      have hhd0 : ∀ s, ((xs.drop 0).map XSeg.pl).head? = some s → s.first ≤ n := by
        intro s hs
        rw [List.drop_zero] at hs
        cases xs with
        | nil => cases hs
        | cons a r =>
          cases hs
          have : ¬ n < lowG g.segs := h1
          rw [← hx] at this
          have : ¬ n < a.pl.first := this
          omega
      rw [← hx]
      refine ⟨fun vs w => ∃ i : Nat, i ≤ xs.length ∧ vs = [.int .i64 i] ∧ findR (xs.map XSeg.pl) n = findR ((xs.drop i).map XSeg.pl) n ∧ (∀ s, ((xs.drop i).map XSeg.pl).head? = some s → s.first ≤ n) ∧ SL W (.pt lp (rlcells sv xp g.base g.size (tornI g.torn)) 85 :: RowR sv xs :: .ob (HAll XSegO xs) :: F) w,
        fun vs _ => match vs with | [.int _ i] => xs.length - i.toNat | _ => 0, ⟨0, by omega, rfl, rfl, hhd0, SL.into hS Xi⟩, ?_⟩
      clear hS hhd0
      rintro v6 w ⟨i, hi, hv, hr, hlo, hS⟩
      cases hv
      rw [hr]
      (repeat (first | (with_reducible first | apply Q0 | refine Qa hS ?_ | refine Qb ?_ | refine Qc hS ?_ | refine Qd ?_) | ((with_reducible refine Qe hS ?_); clear hS; intro w hS; simp only [List.set] at hS) | ((with_reducible first | refine s_draw hS ?_ | refine Qf hS ?_); clear hS; intro w hS) | ((with_reducible first | refine s_new hS ?_ | refine Qg hS ?_); clear hS; intro b w hS)))
      refine s_lenSo hS (v := sv) (t := 90) (sz := 4) (n := xs.length) (cells := (xs.map xcells).flatten) Xh ?_
      (repeat (first | (with_reducible first | apply Q0 | refine Qa hS ?_ | refine Qb ?_ | refine Qc hS ?_ | refine Qd ?_) | ((with_reducible refine Qe hS ?_); clear hS; intro w hS; simp only [List.set] at hS) | ((with_reducible first | refine s_draw hS ?_ | refine Qf hS ?_); clear hS; intro w hS) | ((with_reducible first | refine s_new hS ?_ | refine Qg hS ?_); clear hS; intro b w hS)))
      refine s_ifp (fun h0 => ?_) (fun h0 => ?_)
      · have hj : i < xs.length := by omega
        have hxj : xs[i]? = some xs[i] := List.getElem?_eq_getElem hj
        have hok := hok _ (List.mem_map.2 ⟨_, List.getElem_mem hj, rfl⟩)
        have hdr : (xs.drop i).map XSeg.pl = xs[i].pl :: (xs.drop (i + 1)).map XSeg.pl := by rw [List.drop_eq_getElem_cons hj]; rfl
        have hsd := hseq.drop i
        rw [← List.map_drop, hdr] at hsd
        rw [hdr] at hlo ⊢
        have hlo0 := hlo _ rfl
        have hstep : findR (xs[i].pl :: (xs.drop (i + 1)).map XSeg.pl) n = if n - xs[i].pl.first < xs[i].pl.l.length then xs[i].pl.l[(n - xs[i].pl.first).toNat]? else findR ((xs.drop (i + 1)).map XSeg.pl) n := rfl
        rw [hstep]
        have hnext : ¬ n - xs[i].pl.first < xs[i].pl.l.length → ∀ s, ((xs.drop (i + 1)).map XSeg.pl).head? = some s → s.first ≤ n := by
          intro h s hs
          cases hL : (xs.drop (i + 1)).map XSeg.pl with
          | nil => rw [hL] at hs; cases hs
          | cons a r =>
            rw [hL] at hs hsd
            cases hs
            have := hsd.1
            simp only [PSeg.next] at this
            omega
        have k1 := hok.n0
        have k2 := hok.n1
        (repeat (first | (with_reducible first | apply Q0 | refine Qa hS ?_ | refine Qb ?_ | refine Qc hS ?_ | refine Qd ?_) | ((with_reducible refine Qe hS ?_); clear hS; intro w hS; simp only [List.set] at hS) | ((with_reducible first | refine s_draw hS ?_ | refine Qf hS ?_); clear hS; intro w hS) | ((with_reducible first | refine s_new hS ?_ | refine Qg hS ?_); clear hS; intro b w hS)))
        refine s_segRF (i := 1) hS Xh hj (u := .int .i64 xs[i].first) rfl ?_
        have e1 : xs[i].pl.first = xs[i].first := rfl
        have e2 : xs[i].pl.l.length = xs[i].es.length := by simp [XSeg.pl, byts_len]
        have e3 : xs[i].pl.l = byts xs[i].es := rfl
        rw [e1] at k1 k2 hlo0
        (repeat (first | (with_reducible first | apply Q0 | refine Qa hS ?_ | refine Qb ?_ | refine Qc hS ?_ | refine Qd ?_) | ((with_reducible refine Qe hS ?_); clear hS; intro w hS; simp only [List.set] at hS) | ((with_reducible first | refine s_draw hS ?_ | refine Qf hS ?_); clear hS; intro w hS) | ((with_reducible first | refine s_new hS ?_ | refine Qg hS ?_); clear hS; intro b w hS)))
        refine s_segRF (i := 3) hS Xh hj (u := .slice xs[i].a xs[i].es.length xs[i].c) rfl ?_
        (repeat (first | (with_reducible first | apply Q0 | refine Qa hS ?_ | refine Qb ?_ | refine Qc hS ?_ | refine Qd ?_) | ((with_reducible refine Qe hS ?_); clear hS; intro w hS; simp only [List.set] at hS) | ((with_reducible first | refine s_draw hS ?_ | refine Qf hS ?_); clear hS; intro w hS) | ((with_reducible first | refine s_new hS ?_ | refine Qg hS ?_); clear hS; intro b w hS)))
        refine s_ifp (fun h3 => ?_) (fun h3 => ?_)
        · rw [if_pos (by rw [e1, e2]; exact h3)]
          obtain ⟨j, hjn⟩ := Int.eq_ofNat_of_zero_le (show 0 ≤ n - xs[i].first by omega)
          have hjl : j < xs[i].es.length := by omega
          (repeat (first | (with_reducible first | apply Q0 | refine Qa hS ?_ | refine Qb ?_ | refine Qc hS ?_ | refine Qd ?_) | ((with_reducible refine Qe hS ?_); clear hS; intro w hS; simp only [List.set] at hS) | ((with_reducible first | refine s_draw hS ?_ | refine Qf hS ?_); clear hS; intro w hS) | ((with_reducible first | refine s_new hS ?_ | refine Qg hS ?_); clear hS; intro b w hS)))
          have hS := OwnSl.full (n := 0) (sz := 1) rfl hS
          refine s_segRF (i := 3) hS Xh hj (u := .slice xs[i].a xs[i].es.length xs[i].c) rfl ?_
          rw [e1, hjn]
          have hS := HAll.take (SL.into hS (t := .ob (HAll XSegO xs) :: .ob (OwnSl (.slice (some ⟨b, 0, none⟩) 0 0) 5 1 0 []) :: .pt lp (rlcells sv xp g.base g.size (tornI g.torn)) 85 :: RowR sv xs :: F) Xi) hxj
          have hS := XSegO.iff.1 hS
          unfold XSeg.lv at hS
          refine s_idxSo (j := j) hS .hd hjl fun p o hb => ?_
          have hej : xs[i].es[j]? = some xs[i].es[j] := List.getElem?_eq_getElem hjl
          have hval : (vals xs[i].es)[j * 1 + 0]? = some xs[i].es[j].1 := by simp [vals, hjl]
          refine ⟨_, _, rfl, hb 0 _ (by omega) hval, ?_⟩
          have hS := HAll.take (SL.into hS (t := .ob (HAll BEntO xs[i].es) :: .ob (OwnSo (.slice xs[i].a xs[i].es.length xs[i].c) 31 1 xs[i].es.length (vals xs[i].es)) :: .ob (HAll XSegO (xs.eraseIdx i)) :: .ob (OwnSl (.slice (some ⟨b, 0, none⟩) 0 0) 5 1 0 []) :: .pt lp (rlcells sv xp g.base g.size (tornI g.torn)) 85 :: RowR sv xs :: F) Xi) hej
          have hbl : xs[i].es[j].2.length ≤ 1048576 := hok.bl _ (List.mem_map.2 ⟨_, List.getElem_mem hjl, rfl⟩)
          have hby : xs[i].pl.l[((j : Int)).toNat]? = some xs[i].es[j].2 := by rw [e3]; simp [byts, hjl]
          rw [hby]
          have hR : Rdb (.ob (BEntO xs[i].es[j])) xs[i].es[j].1 xs[i].es[j].2 := Rdb.own
          refine s_app (t := 5) (sz := 1) (n := 0) (cells := []) (m := xs[i].es[j].2.length) (cs := xs[i].es[j].2.map u8c) hS Xr (hR.src hS .hd) (by simp) rfl (u8c_one _) (by omega) (by omega) ?_
          clear hS; intro u w hS
          rw [Nat.zero_add, List.nil_append] at hS
          have hS := HAll.back (SL.into hS (t := .ob (BEntO xs[i].es[j]) :: .ob (HAll BEntO (xs[i].es.eraseIdx j)) :: .ob (OwnSo (.slice xs[i].a xs[i].es.length xs[i].c) 31 1 xs[i].es.length (vals xs[i].es)) :: .ob (OwnSl u 5 1 xs[i].es[j].2.length (xs[i].es[j].2.map u8c)) :: .ob (HAll XSegO (xs.eraseIdx i)) :: .pt lp (rlcells sv xp g.base g.size (tornI g.torn)) 85 :: RowR sv xs :: F) Xi) hej
          have hS := (XSegO.iff (x := xs[i])).2 (SL.into hS (t := .ob (OwnSo (.slice xs[i].a xs[i].es.length xs[i].c) 31 1 xs[i].es.length (vals xs[i].es)) :: .ob (HAll BEntO xs[i].es) :: .ob (OwnSl u 5 1 xs[i].es[j].2.length (xs[i].es[j].2.map u8c)) :: .ob (HAll XSegO (xs.eraseIdx i)) :: .pt lp (rlcells sv xp g.base g.size (tornI g.torn)) 85 :: RowR sv xs :: F) Xi)
          have hS := HAll.back (SL.into hS (t := .ob (XSegO xs[i]) :: .ob (HAll XSegO (xs.eraseIdx i)) :: .ob (OwnSl u 5 1 xs[i].es[j].2.length (xs[i].es[j].2.map u8c)) :: .pt lp (rlcells sv xp g.base g.size (tornI g.torn)) 85 :: RowR sv xs :: F) Xi) hxj
          have hS := RLogO.close (lp := lp) (xp := xp) (F := .ob (OwnSl u 5 1 xs[i].es[j].2.length (xs[i].es[j].2.map u8c)) :: F) hS hx Xi
          exact ⟨_, ⟨u, rfl, rfl⟩, SL.into hS Xi⟩
        · rw [if_neg (by rw [e1, e2]; exact h3)]
          (repeat (first | (with_reducible first | apply Q0 | refine Qa hS ?_ | refine Qb ?_ | refine Qc hS ?_ | refine Qd ?_) | ((with_reducible refine Qe hS ?_); clear hS; intro w hS; simp only [List.set] at hS) | ((with_reducible first | refine s_draw hS ?_ | refine Qf hS ?_); clear hS; intro w hS) | ((with_reducible first | refine s_new hS ?_ | refine Qg hS ?_); clear hS; intro b w hS)))
          exact ⟨⟨i + 1, by omega, rfl, rfl, hnext (by rw [e1, e2]; exact h3), SL.into hS Xi⟩, by simp only [Int.toNat_natCast]; omega⟩
      · have : xs.drop i = [] := List.drop_eq_nil_of_le (by omega)
        rw [this]
        exact ⟨_, ⟨rfl, rfl⟩, RLogO.close hS hx Xi⟩
end Go.Proofs.YtmcglicbolhmfaaGreat
