/-
  My own engine, part 9e: regions that draw their order: sound.
-/
import Derived.Test.YthjnknpgcmmapaaEngF
namespace Go.Proofs.Ythjnknpgcmmapaa
set_option linter.unusedVariables false
open Go.RowKit

section
variable {P : Program} {T : List Bool} {n : Nat} {ops : Array Oper}

def left (listed : Array Bool) (m : Nat) : Nat := ((List.range m).filter fun j => !listed.getD j false).length
theorem left_set {listed : Array Bool} {i : Nat} (hu : listed.getD i false = false) (hs : i < listed.size) : ∀ m, left listed m = left (listed.setIfInBounds i true) m + (if i < m then 1 else 0) := by
  intro m
  induction m with
  | zero => simp [left]
  | succ m ih =>
    unfold left at ih ⊢
    rw [List.range_succ, List.filter_append, List.filter_append, List.length_append, List.length_append, ih]
    by_cases hmi : m = i
    · subst hmi
      have e1 : (listed.setIfInBounds m true).getD m false = true := by simp [hs]
      rw [List.filter_cons, List.filter_cons, hu, e1]
      simp
    · rw [List.filter_cons, List.filter_cons, getD_set_ne false (fun e => hmi e.symm), List.filter_nil, List.filter_nil]
      by_cases him : i < m
      · have h2 : i < m + 1 := by omega
        simp only [him, h2, if_true]; omega
      · have h2 : ¬ i < m + 1 := by omega
        simp only [him, h2, if_false]; omega
theorem left_zero {listed : Array Bool} {m : Nat} (h : left listed m = 0) {j : Nat} (hj : j < m) : listed.getD j false = true := by
  have h0 := List.eq_nil_of_length_eq_zero h
  cases hb : listed.getD j false with
  | true => rfl
  | false =>
    have : j ∈ (List.range m).filter fun i => !listed.getD i false := List.mem_filter.2 ⟨List.mem_range.2 hj, by rw [hb]; rfl⟩
    rw [h0] at this; cases this
theorem left_pos {listed : Array Bool} {m k : Nat} (h : left listed m = k + 1) : ∃ j, j < m ∧ listed.getD j false = false := by
  unfold left at h
  cases hl : (List.range m).filter fun j => !listed.getD j false with
  | nil => rw [hl] at h; simp at h
  | cons j r =>
    have : j ∈ (List.range m).filter fun j => !listed.getD j false := by rw [hl]; simp
    obtain ⟨h1, h2⟩ := List.mem_filter.1 this
    exact ⟨j, List.mem_range.1 h1, by simpa using h2⟩

theorem any_of_DI (hT : Calls.Tab P T) (rf : RF P n ops.toList) {K : Env → World → Prop} {Q : Exit → Act → World → Prop} {a0 : Act} (hn : ∀ E' a' w', Agree [] n E' a' → Keep (dsts ops.toList) a0 a' → K E' w' → Q .normal a' w') :
    ∀ (f : Nat) (listed : Array Bool) (a : Act) (w : World) (done : Nat) (E : Env), DI P T n ops.toList K a0 listed a w done E → left listed ops.size = f → wpAny P .any ops Q f listed a w := by
  have hget : ∀ (i : Nat) (o : Oper), ops.toList[i]? = some o ↔ ops[i]? = some o := fun i o => by simp
  intro f
  induction f with
  | zero =>
    intro listed a w done E di hf
    have hsz : listed.size = ops.size := by simpa using di.size
    have hall : ∀ j, j < ops.size → listed.getD j false = true := fun j hj => left_zero hf hj
    refine ⟨?_, ?_⟩
    · cases hr : Region.ready .any ops listed with
      | nil => rfl
      | cons i r =>
        have hi : i ∈ Region.ready .any ops listed := by rw [hr]; simp
        obtain ⟨hun, oi, hoi, _⟩ := mem_ready.1 hi
        have hlt : i < ops.size := (Array.getElem?_eq_some_iff.1 hoi).1
        have := hall i hlt
        rw [getD_both hun] at this; cases this
    · obtain ⟨k, en, _, hx⟩ := di.next
      unfold Next at hx
      have hsub : subB (mkRS P ops.toList).cm done = true := subB_iff.2 fun c hc => by
        have hc' := cm_bit.1 hc
        obtain ⟨o, ho, _⟩ := chs_mem.1 hc'
        have hlt : c < ops.size := by have := (List.getElem?_eq_some_iff.1 ho).1; simpa using this
        exact (di.chain c hc').1 (hall c hlt)
      rw [hsub] at hx
      refine hn E a w (di.agree.same (fun t _ ht => ?_) (fun _ _ => rfl)) di.keep hx
      obtain ⟨j, o, ho, hl, _⟩ := Xs_mem.1 ht
      have hlt : j < ops.size := by have := (List.getElem?_eq_some_iff.1 ho).1; simpa using this
      rw [hall j hlt] at hl; cases hl
  | succ f ih =>
    intro listed a w done E di hf
    have hsz : listed.size = ops.size := by simpa using di.size
    refine ⟨fun h0 => ?_, fun i hi => ?_⟩
    · -- some operation is ready: the first that is not done
      exfalso
      obtain ⟨j0, hj0, hu0⟩ := left_pos hf
      have hmin : ∀ (m : Nat), m < ops.size → listed.getD m false = false → False := by
        intro m
        induction m using Nat.strongRecOn with
        | _ m ihm =>
          intro hm hu
          have hom : ops[m]? = some ops[m] := Array.getElem?_eq_getElem hm
          have : m ∈ Region.ready .any ops listed := mem_ready.2 ⟨getD_in (by omega) hu, _, hom, fun e he hb => by
            have hlt := rf.back m _ e ((hget m _).2 hom) (by simpa using he) hb
            cases hx : listed.getD e.on false with
            | true => rfl
            | false => exact (ihm e.on hlt (by omega) hx).elim⟩
          rw [h0] at this; cases this
      exact hmin j0 hj0 hu0
    · obtain ⟨hun, o, hoi, hdep⟩ := mem_ready.1 hi
      have hu : listed.getD i false = false := getD_both hun
      have hlt : i < ops.size := (Array.getElem?_eq_some_iff.1 hoi).1
      have ho : ops.toList[i]? = some o := (hget i o).2 hoi
      have hB : ∀ j, Bt ops.toList i j → listed.getD j false = true := fun j hj => by
        obtain ⟨e, h1, h2, h3⟩ := (Bt.iff rf ho).1 hj
        have := hdep e (by simpa using h1) h2
        rcases h3 with rfl | h3
        · exact this
        · exact di.closed e.on j this h3
      have hen : (mkRS P ops.toList).enabled done i = true := enabled_iff.2 fun c hb hc => (di.chain c hc).1 (hB c hb)
      have hleft : left (listed.setIfInBounds i true) ops.size = f := by
        have := left_set hu (by omega) ops.size
        rw [if_pos hlt] at this; omega
      have hgi : (listed.setIfInBounds i true).getD i false = true := by
        have : i < listed.size := by omega
        simp [this]
      have hmono : ∀ j, listed.getD j false = true → (listed.setIfInBounds i true).getD j false = true := fun j hj => by
        by_cases e : i = j
        · subst e; exact hgi
        · rw [getD_set_ne false e]; exact hj
      have hback : ∀ j, (listed.setIfInBounds i true).getD j false = false → listed.getD j false = false ∧ j ≠ i := fun j hj => by
        by_cases e : i = j
        · subst e; rw [hgi] at hj; cases hj
        · rw [getD_set_ne false e] at hj; exact ⟨hj, Ne.symm e⟩
      have hclosed : ∀ x y, (listed.setIfInBounds i true).getD x false = true → Bt ops.toList x y → (listed.setIfInBounds i true).getD y false = true := fun x y hx hb => by
        by_cases e : i = x
        · subst e; exact hmono y (hB y hb)
        · rw [getD_set_ne false e] at hx; exact hmono y (di.closed x y hx hb)
      have hlook : ∀ t ∈ looks ops.toList o, t ∉ Xs P ops.toList listed := fun t ht hx => by
        obtain ⟨j, oj, hj, hl, hfj, hd⟩ := Xs_mem.1 hx
        by_cases e : i = j
        · subst e; rw [ho] at hj; cases hj; exact rf.self i o t ho hfj hd ht
        · rcases rf.dep i j o oj t ho hj e hd ht with q | ⟨q, _⟩
          · rw [hB j q] at hl; cases hl
          · rw [hfj] at q; cases q
      have hoff : ∀ x ∈ opnds o.op, Off (Xs P ops.toList listed) x := fun x hx t ht => hlook t (looks_opnd hx ht)
      have hdin : ∀ t, o.dst = some t → t ∈ dsts ops.toList := fun t ht => List.mem_filterMap.2 ⟨o, List.mem_of_getElem? ho, ht⟩
      have hXsub : ∀ t, t ∉ Xs P ops.toList (listed.setIfInBounds i true) → o.dst ≠ some t → t ∉ Xs P ops.toList listed := fun t h1 h2 h3 => by
        obtain ⟨j, oj, hj, hl, hfj, hd⟩ := Xs_mem.1 h3
        by_cases e : i = j
        · subst e; rw [ho] at hj; cases hj; exact h2 hd
        · exact h1 (Xs_mem.2 ⟨j, oj, hj, by rw [getD_set_ne false e]; exact hl, hfj, hd⟩)
      by_cases hfl : isFlt P o.op = true
      · -- a quiet one
        obtain ⟨r, v, hp⟩ := di.pend i o ho hfl hu hen
        have hw := wanted_of hp.wants di.agree hlook
        have hnext : wpAny P .any ops Q f (listed.setIfInBounds i true) (a.put o.dst v) w := by
          refine ih _ _ w done E ⟨by simpa using di.size, hclosed, fun c hc => ?_, ?_, di.keep.trans (Keep.put a o.dst v _ hdin), fun j oj hj hfj hl he => ?_, di.next⟩ hleft
          · have hci : c ≠ i := fun e => by
              obtain ⟨oc, h1, h2⟩ := chs_mem.1 hc
              subst e; rw [ho] at h1; cases h1; rw [hfl] at h2; cases h2
            rw [getD_set_ne false (Ne.symm hci)]
            exact di.chain c hc
          · refine ⟨by cases o.dst <;> simp [Act.put, di.agree.size], by cases o.dst <;> exact di.agree.defers, fun t e ht he => ?_⟩
            by_cases hd : o.dst = some t
            · have hlt' := rf.low i o t ho hd
              have := hp.val t hd hlt'
              unfold valOf at this
              rw [he] at this
              simp at this
              rw [this, hd]
              simp [Act.put, di.agree.size, hlt']
            · have := di.agree.get t e (hXsub t ht hd) he
              cases hdd : o.dst with
              | none => exact this
              | some d =>
                have hne : d ≠ t := fun e => hd (by rw [hdd, e])
                simp [Act.put, Array.getElem?_setIfInBounds_ne hne, this]
          · exact di.pend j oj hj hfj (hback j hl).1 he
        unfold wpOp
        rw [hoi]
        show if Region.wanted o (yielded ops a.tmps) = true then _ else _
        rw [hw]
        cases r with
        | true =>
          rw [if_pos rfl]
          refine .inl (Does.upon (hp.run rfl w (fun _ => rfl) a.eval (fun _ => rfl) (fun x hx hh => di.agree.ev (hoff x hx) hh)) ?_)
          rintro u w' ⟨rfl, rfl⟩
          exact hnext
        | false =>
          rw [if_neg Bool.false_ne_true]
          rw [← hp.skip rfl]
          exact hnext
      · -- one of the chain
        have hfl' : isFlt P o.op = false := by simpa using hfl
        have hic : i ∈ (mkRS P ops.toList).chs := chs_mem.2 ⟨o, ho, hfl'⟩
        have hdi : done.testBit i = false := by
          cases hb : done.testBit i with
          | false => rfl
          | true => rw [(di.chain i hic).2 hb] at hu; cases hu
        obtain ⟨k, en, hen1, hx⟩ := di.next
        unfold Next at hx
        have hsub : subB (mkRS P ops.toList).cm done = false := by
          cases hb : subB (mkRS P ops.toList).cm done with
          | false => rfl
          | true => rw [subB_iff.1 hb i (cm_bit.2 hic)] at hdi; cases hdi
        rw [hsub] at hx
        have hx := andAll_mem hx i (by
          rw [fltr_eq, List.mem_filter]
          exact ⟨hic, by rw [hdi, hen]; rfl⟩)
        rw [ho] at hx
        -- what is known behind it
        have enter : ∀ (E3 : Env) (v : Value) (w3 : World), SameD o.dst E E3 → Agree (Xs P ops.toList listed) n E3 (a.put o.dst v) → (mkRS P ops.toList).go P T n K k (done ||| 2 ^ i) en E3 w3 →
            wpAny P .any ops Q f (listed.setIfInBounds i true) (a.put o.dst v) w3 := by
          intro E3 v w3 hs hA hg
          have hXeq : ∀ t, t ∉ Xs P ops.toList (listed.setIfInBounds i true) → t ∉ Xs P ops.toList listed := fun t h1 h3 => by
            obtain ⟨j, oj, hj, hl, hfj, hd⟩ := Xs_mem.1 h3
            have hji : i ≠ j := fun e => by subst e; rw [ho] at hj; cases hj; exact hfl hfj
            exact h1 (Xs_mem.2 ⟨j, oj, hj, by rw [getD_set_ne false hji]; exact hl, hfj, hd⟩)
          have hchain : ∀ c, c ∈ (mkRS P ops.toList).chs → ((listed.setIfInBounds i true).getD c false = true ↔ (done ||| 2 ^ i).testBit c = true) := fun c hc => by
            rw [Nat.testBit_or, Bool.or_eq_true, Nat.testBit_two_pow, decide_eq_true_eq]
            by_cases e : i = c
            · subst e; exact ⟨fun _ => .inr rfl, fun _ => hgi⟩
            · rw [getD_set_ne false e, di.chain c hc]
              exact ⟨.inl, fun h => h.elim id (fun h => absurd h e)⟩
          obtain ⟨E', di'⟩ := go_enter (n := n) hT rf (K := K) (a0 := a0) (was := fun j => (mkRS P ops.toList).enabled done j = true) (by simpa using di.size) hclosed hchain (hA.same hXeq (fun _ _ => rfl)) (di.keep.trans (Keep.put a o.dst v _ hdin))
            (fun j hj => enabled_iff.2 fun c hb hc => by rw [Nat.testBit_or, enabled_iff.1 hj c hb hc]; rfl)
            (fun j k hj hb => enabled_iff.2 fun c hc hm => enabled_iff.1 hj c (Bt.trans rf j hb hc) hm) hen1
            (fun j oj hj hfj hl => enabled_iff.2 fun c hb hc => by
              have hji : i ≠ j := fun e => by subst e; rw [ho] at hj; cases hj; exact hfl hfj
              rw [getD_set_ne false hji] at hl
              exact (di.chain c hc).1 (di.closed j c hl hb))
            (fun j oj hj hfj hl he => by
              obtain ⟨hl, hji⟩ := hback j hl
              obtain ⟨r, v, hp⟩ := di.pend j oj hj hfj hl he
              have hji' : j ≠ i := hji
              refine ⟨r, v, w, hp.mono (fun t ht => hs t (fun hd => ?_)) (fun d hd => hs d (fun hd' => ?_)) (fun _ => rfl)⟩
              · rcases rf.dep j i oj o t hj ho hji' hd ht with q | ⟨_, q⟩
                · rw [enabled_iff.1 he i q hic] at hdi; cases hdi
                · rw [hB j q] at hl; cases hl
              · exact rf.one i j o oj d ho hj (Ne.symm hji') hd hfj hd')
            hg
          exact ih _ _ w3 _ E' di' hleft
        obtain ⟨E2, h0, ⟨hwn, h⟩ | ⟨hwn, h⟩⟩ := guardP_wants hx
        · have hw := wanted_of hwn di.agree hlook
          unfold wpOp
          rw [hoi]
          show if Region.wanted o (yielded ops a.tmps) = true then _ else _
          rw [hw, if_pos rfl]
          refine .inl (stepP_sound hT (stepP_same h) (di.agree.same (fun t ht => ht) (fun t _ => h0 t (by simp))) hoff ?_)
          rintro E3 v w3 hA ⟨hs, hg⟩
          exact enter E3 v w3 (h0.weak.trans hs) hA hg
        · have hw := wanted_of hwn di.agree hlook
          unfold wpOp
          rw [hoi]
          show if Region.wanted o (yielded ops a.tmps) = true then _ else _
          rw [hw, if_neg Bool.false_ne_true]
          exact enter _ undef w (h0.weak.trans (SameD.put n E2 o.dst _)) ((di.agree.same (fun t ht => ht) (fun t _ => h0 t (by simp))).put o.dst .u) h

theorem drawP_sound (hT : Calls.Tab P T) (hm : P.follows .mixedOrders = true) {id : Nat} {K : Env → World → Prop} {Q : Exit → Act → World → Prop} {a : Act} {E : Env} {w : World}
    (hok : regOk P n ops.toList true = true) (hA : Agree [] n E a) (h : drawP P T n ops.toList K E w.drew) (hn : ∀ E' a' w', Agree [] n E' a' → Keep (dsts ops.toList) a a' → K E' w' → Q .normal a' w') :
    (Code.region id ops true).wp P Q a w := by
  have rf := regOk_facts hok
  refine wp_region_any hm ?_
  have hr : ∀ j, (Array.replicate ops.size false).getD j false = false := fun j => getD_replicate_false _ _
  unfold drawP at h
  obtain ⟨E', di⟩ := go_enter (n := n) hT rf (K := K) (a0 := a) (listed := Array.replicate ops.size false) (a := a) (was := fun _ => False) (by simp) (fun i j hi => by rw [hr] at hi; cases hi) (fun c _ => by rw [hr]; simp)
    (hA.same (fun t _ => by simp) (fun _ _ => rfl)) (.refl _ a) (fun _ h => h.elim) (fun _ _ h => h.elim) (fun j o ho hf => by simp) (fun j o ho hf hl => by rw [hr] at hl; cases hl) (fun j o ho hf hl he => he.elim) h
  refine any_of_DI hT rf hn ops.size _ a w.drew 0 E' di ?_
  unfold left
  rw [List.filter_eq_self.2 (fun i _ => by rw [hr]; rfl)]
  simp
end
end Go.Proofs.Ythjnknpgcmmapaa
