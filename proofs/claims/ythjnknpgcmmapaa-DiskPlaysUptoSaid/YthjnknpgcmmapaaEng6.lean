/-
  My own engine, part 6: append and calls; any operation.
-/
import Derived.Test.YthjnknpgcmmapaaEng5
namespace Go.Proofs.Ythjnknpgcmmapaa
set_option linter.unusedVariables false
open Go.RowKit

section
variable {P : Program} {w : World} {K : Value → World → Prop}

theorem srcCells_run {sz n : Nat} {y : Value} {cs : List Value} {w' : World} (h : srcCells w sz y n cs) (hw : ∀ a, w'.cell? a = w.cell? a) :
    (Builtin.firstCells sz n y).run P w' = .ok cs.toArray w' ∧ (Builtin.lenOf y).run P w' = .ok n w' := by
  unfold srcCells at h
  split at h
  · obtain ⟨rfl, h1, h2⟩ := h
    exact ⟨run_firstCells_some w' sz n _ _ _ cs h1 (fun j v hj => by rw [hw]; exact h2 j v hj), rfl⟩
  · obtain ⟨rfl, rfl⟩ := h
    exact ⟨run_firstCells_none w' sz n _ _, rfl⟩
  · rename_i s
    obtain ⟨rfl, rfl⟩ := h
    refine ⟨?_, rfl⟩
    have : (s.extract 0 s.size) = s := by simp
    simp only [Builtin.firstCells, this, Sem.run_pure, Result.ok.injEq, and_true]
    apply Array.ext'
    simp
  · cases h

theorem drew_cell (w : World) (a : Addr) : w.drew.cell? a = w.cell? a := rfl

theorem app_does {t u e ty : TypeId} {d : TypeDesc} {i : TypeInfo} {v : Value} {x y : Value} (ht : P.underlying t = some (.slice e)) (hu : P.underlying u = some d) (hd : ∀ k, d ≠ .int k)
    (hi : P.info? e = some i) (hv : i.zero = some v) (hn : tSize P e = some v.cells.size)
    (h : HApp v.cells.size (tBytes P e) v.cells.toList e x y w K) : Does P (do pure (.value (← Builtin.append_ #[t, u] ty #[x, y]))) w K := by
  obtain ⟨a, len, cap, n, cs, rfl, hsrc, hb, hlen, h1, h2⟩ := h
  have hb' : tBytes P e = i.bytes := by simp [tBytes, hi]
  rw [hb'] at hb
  obtain ⟨r1, r2⟩ := srcCells_run (P := P) hsrc (fun _ => rfl)
  have hz : (underlying u).run P w = .ok d w := run_underlying hu w
  have hzf : (match d with | .int _ => true | _ => false) = false := by
    cases d with
    | int k => exact absurd rfl (hd k)
    | _ => rfl
  by_cases hc : len + n ≤ cap
  · have hk := h1 hc
    cases a with
    | none =>
      refine .value ?_ hk
      simp only [Builtin.append_, List.getElem?_toArray, List.getElem?_cons_zero, List.getElem?_cons_succ, Sem.run_bind, run_underlying ht, Result.andThen_ok, run_sizeOf hn, hz, Sem.run_pure, Bool.false_eq_true, if_false, r2, hc, if_true, Bool.not_false, r1]
    | some p =>
      obtain ⟨w', hs, hk⟩ := stN_run (P := P) _ _ _ _ _ hk
      refine .value ?_ hk
      simp only [Builtin.append_, List.getElem?_toArray, List.getElem?_cons_zero, List.getElem?_cons_succ, Sem.run_bind, run_underlying ht, Result.andThen_ok, run_sizeOf hn, hz, Sem.run_pure, Bool.false_eq_true, if_false, r2, hc, if_true, Bool.not_false, r1, hs]
  · obtain ⟨old, ho, hk⟩ := h2 (by omega)
    have hk := hk (grownCap w (len + n) cap e) (grownCap_ge _ _ _ _) (by have := grownCap_le_maxLen w (len + n) cap e (by simp only [maxLen]; omega); simpa [maxLen] using this)
    obtain ⟨q1, _⟩ := srcCells_run (P := P) hsrc (drew_cell w)
    obtain ⟨q2, _⟩ := srcCells_run (P := P) (w' := w.drew) ho (drew_cell w)
    refine .value ?_ hk
    have hm : ¬ (((len + n : Nat) : Int) > IntKind.i64.max ∧ (False ∨ i.bytes = 0)) := by
      intro hh
      have : IntKind.i64.max = 9223372036854775807 := rfl
      omega
    have hfit := growslice_fits (bytes := i.bytes) (show cap < len + n by omega) hb
    have hfit' : ¬ (Builtin.nextslicecap (len + n) cap * i.bytes > 2 ^ 48) := by simpa using hfit
    have hzc : Builtin.zeroCells v.cells (grownCap w (len + n) cap e - (len + n)) = (zrow v.cells.toList (grownCap w (len + n) cap e - (len + n))).toArray := zrow_range v.cells _
    have hti : ∀ w, (typeInfo e).run P w = .ok i w := fun w => by simp [typeInfo, hi]
    have hrow : old.toArray ++ cs.toArray ++ (zrow v.cells.toList (grownCap w (len + n) cap e - (len + n))).toArray = (old ++ cs ++ zrow v.cells.toList (grownCap w (len + n) cap e - (len + n))).toArray := by simp
    simp only [Builtin.append_, List.getElem?_toArray, List.getElem?_cons_zero, List.getElem?_cons_succ, Sem.run_bind, run_underlying ht, Result.andThen_ok, run_sizeOf hn, hz, Sem.run_pure, Bool.false_eq_true, if_false, r2, hc, Bool.not_false, if_true, hti, hm, hfit',
      run_choose, Question.forced, run_askRoom]
    show ((Builtin.firstCells v.cells.size len _).run P w.drew).andThen _ = _
    rw [q2]
    simp only [Result.andThen_ok]
    show ((Builtin.firstCells v.cells.size n _).run P w.drew).andThen _ = _
    rw [q1]
    simp only [Result.andThen_ok, run_zeroValue hi hv]
    show ((newRow e (old.toArray ++ cs.toArray ++ Builtin.zeroCells v.cells (grownCap w (len + n) cap e - (len + n)))).run P w.drew).andThen _ = _
    rw [hzc, hrow]
    rfl

theorem call_does {T : List Bool} (hT : Calls.Tab P T) {f : FuncId} {first captured args : List Value} (hf : T.getD f false = true) (h : HCall P f (first ++ args ++ captured) w K) :
    Does P (do let d ← Deferred.ofValue (.func (.func f) first.toArray captured.toArray) args.toArray; invoke d.target d.args) w K := by
  obtain ⟨fn, h1, h2, h3⟩ := hT f hf
  refine .inr (.inr ⟨f, (first ++ args ++ captured).toArray, ?_, h⟩)
  have e1 : first.toArray ++ args.toArray ++ captured.toArray = (first ++ args ++ captured).toArray := by simp
  simp only [Deferred.ofValue, invoke, callFunc, pure_bind, Sem.run_bind, run_program, Result.andThen_ok, h1, h2, h3, Bool.false_eq_true, if_false, e1]
  rfl

def opnds : Op → List Operand
  | .alloc _ => []
  | .move x | .assign x | .box _ x | .load _ x | .nilCheck x | .unOp _ _ x | .convert _ _ x | .fieldAddr _ x _ | .field _ x _ | .extract x _ => [x]
  | .pick c a b => [c, a, b]
  | .build _ ps | .buildSlice _ _ ps => ps.toList.map (·.2)
  | .store _ a v | .binOp _ _ a v _ | .makeSlice _ a v | .indexAddr _ a v | .index _ a v | .lookup _ a v _ | .mapEntry _ a v => [a, v]
  | .makeFunc _ first captured => first.toList ++ captured.toList
  | .slice _ x l h m => x :: (l.toList ++ h.toList ++ m.toList)
  | .mapUpdate _ m k v | .entryStore _ m k v | .insert _ m k v => [m, k, v]
  | .call c => match c.callee with
    | .value f => f :: c.args.toList
    | _ => c.args.toList
  | _ => []

theorem partsAt_congr {pl : List (Nat × Nat)} {ev ρ : Operand → Value} : ∀ (ps : List (Nat × Operand)), (∀ x ∈ ps.map (·.2), ρ x = ev x) → partsAt pl ρ ps = partsAt pl ev ps
  | [], _ => rfl
  | (i, x) :: r, h => by
    simp only [partsAt]
    rw [partsAt_congr r (fun y hy => h y (by simp only [List.map_cons, List.mem_cons]; exact .inr hy)), h x (by simp)]

theorem map_congr' {ev ρ : Operand → Value} (xs : Array Operand) (h : ∀ x ∈ xs.toList, ρ x = ev x) : xs.map ρ = (xs.toList.map ev).toArray := by
  apply Array.ext'
  simp only [Array.toList_map]
  exact List.map_congr_left h

set_option maxHeartbeats 1000000 in
theorem opH_does {T : List Bool} (hT : Calls.Tab P T) {o : Oper} {ρ ev : Operand → Value} (hF : ∀ f, ρ (.func f) = .func (.func f) #[] #[]) (hρ : ∀ x ∈ opnds o.op, ρ x = ev x) (h : opH P T o.op o.type ev w K) : Does P (execOp ρ o) w K := by
  obtain ⟨dst, op, ty, pos, after, guard⟩ := o
  simp only at h hρ
  unfold execOp
  cases op with
  | move x => exact .inl ⟨_, _, rfl, by rw [hρ x (by simp [opnds])]; exact h⟩
  | assign x => exact .inl ⟨_, _, rfl, by rw [hρ x (by simp [opnds])]; exact h⟩
  | alloc e =>
    simp only [opH] at h
    split at h
    · rename_i z hz; exact alloc_does hz h
    · cases h
  | box e x =>
    simp only [opH] at h
    simp only [hρ x (by simp [opnds])]
    split at h
    · exact box_does (by rw [one_cells h.1]) h.2
    · obtain ⟨vs, hx, h⟩ := h
      exact box_does (by rw [hx]; rfl) h
    · cases h
  | build t ps =>
    simp only [opH] at h
    split at h
    · rename_i fields ht
      split at h
      · rename_i z hz
        split at h
        · rename_i pl hpl
          split at h
          · rename_i l hl
            obtain ⟨i, v, hi, hv, rfl⟩ := tZero_spec hz
            rw [← partsAt_congr ps.toList (by simpa [opnds] using hρ)] at hl
            exact build_does ht hi hv hpl hl h
          · cases h
        · cases h
      · cases h
    · cases h
  | buildSlice t len ps =>
    simp only [opH] at h
    split at h
    · rename_i e ht
      split at h
      · rename_i z hz
        split at h
        · rename_i n hn
          split at h
          · rename_i l hl
            split at h
            · rename_i hb1 hb2
              obtain ⟨i, v, hi, hv, rfl⟩ := tZero_spec hz
              rw [← partsAt_congr ps.toList (by simpa [opnds] using hρ)] at hl
              exact buildS_does ht hi hv hn (beq_iff.1 hb1) (Nat.le_of_ble_eq_true hb2) hl h
            · cases h
          · cases h
        · cases h
      · cases h
    · cases h
  | load t x =>
    simp only [opH] at h
    simp only [hρ x (by simp [opnds])]
    split at h
    · rename_i ht; exact load1_does ht h
    · rename_i n ht; exact loadN_does ht h
    · cases h
  | store t x v =>
    simp only [opH] at h
    simp only [hρ x (by simp [opnds]), hρ v (by simp [opnds])]
    split at h
    · rename_i ht
      split at h
      · rename_i hs; exact store1_does ht hs h
      · cases h
    · rename_i n ht; exact storeN_does ht h
    · cases h
  | nilCheck x =>
    obtain ⟨a, hx, hk⟩ := h
    refine .inl ⟨_, _, ?_, hk⟩
    simp only [hρ x (by simp [opnds]), hx]
    rfl
  | binOp op t x y u =>
    simp only [opH] at h
    simp only [hρ x (by simp [opnds]), hρ y (by simp [opnds])]
    split at h
    · exact bin_does h
    · exact bin_does h
    · split at h
      · rename_i hm; exact eqG_does hm h
      · cases h
    · split at h
      · rename_i hm; exact neqG_does hm h
      · cases h
    · rename_i d ht; exact eq_does ht h
    · rename_i d ht; exact neq_does ht h
    · cases h
  | unOp op t x =>
    cases op with
    | not => simp only [hρ x (by simp [opnds])]; exact not_does h
    | neg => simp only [hρ x (by simp [opnds])]; exact neg_does h
    | _ => cases h
  | convert s d x =>
    simp only [opH] at h
    simp only [hρ x (by simp [opnds])]
    split at h
    · rename_i e k hs hd; exact cvI_does hs hd h
    · rename_i hs hd; exact cvS_does hs hd h
    · exact h.does
    · exact h.does
    · exact HRq.does h
  | makeFunc fn first captured =>
    simp only [opH] at h
    split at h
    · refine .inl ⟨_, _, rfl, ?_⟩
      rw [map_congr' first (fun x hx => hρ x (by simp [opnds]; left; simpa using hx)), map_congr' captured (fun x hx => hρ x (by simp [opnds]; right; simpa using hx))]
      exact h
    · cases h
  | makeSlice t x y =>
    simp only [opH] at h
    simp only [hρ x (by simp [opnds]), hρ y (by simp [opnds])]
    split at h
    · rename_i e ht
      split at h
      · rename_i z hz
        split at h
        · rename_i n hn
          split at h
          · rename_i hb
            obtain ⟨i, v, hi, hv, rfl⟩ := tZero_spec hz
            refine mk_does ht hi hv (by rw [hn, beq_iff.1 hb]; simp) h
          · cases h
        · cases h
      · cases h
    · cases h
  | slice t x lo hi mx =>
    have e1 : lo.map ρ = lo.map ev := by cases lo with | none => rfl | some y => simp [hρ y (by simp [opnds])]
    have e2 : hi.map ρ = hi.map ev := by cases hi with | none => rfl | some y => simp [hρ y (by simp [opnds])]
    have e3 : mx.map ρ = mx.map ev := by cases mx with | none => rfl | some y => simp [hρ y (by simp [opnds])]
    simp only [opH] at h
    simp only [hρ x (by simp [opnds]), e1, e2, e3]
    split at h
    · rename_i e ht
      split at h
      · rename_i n hn
        split at h
        · cases h
        · rename_i hno
          refine sl_does ht hn ?_ h
          intro hm
          cases mx with
          | none => simp at hm
          | some m => cases hi with
            | none => exact absurd rfl (hno m rfl)
            | some y => rfl
      · cases h
    · rename_i ht
      split at h
      · exact slS_does ht h
      · cases h
    · cases h
  | fieldAddr s x f =>
    simp only [opH] at h
    simp only [hρ x (by simp [opnds])]
    split at h
    · rename_i off hf; exact fieldAddr_does hf h
    · cases h
  | indexAddr t x i =>
    simp only [opH] at h
    simp only [hρ x (by simp [opnds]), hρ i (by simp [opnds])]
    split at h
    · rename_i e ht
      split at h
      · rename_i n hn; exact idx_does ht hn h
      · cases h
    · rename_i len e ht
      split at h
      · rename_i n hn; exact idxA_does ht hn h
      · cases h
    · cases h
  | extract x i => simp only [hρ x (by simp [opnds])]; exact ext_does h
  | field t x f => simp only [hρ x (by simp [opnds])]; exact HRq.does h
  | index t x i => simp only [hρ x (by simp [opnds]), hρ i (by simp [opnds])]; exact HRq.does h
  | lookup t x i ok => simp only [hρ x (by simp [opnds]), hρ i (by simp [opnds])]; exact HRq.does h
  | mapUpdate t m k x =>
    simp only [hρ m (by simp [opnds]), hρ k (by simp [opnds]), hρ x (by simp [opnds])]
    obtain ⟨v, w', hr, hk⟩ := h
    simp only [Sem.run_bind, Sem.run_pure] at hr
    cases hm : (Instr.mapUpdate t (ev m) (ev k) (ev x)).run P w with
    | ok u w2 => rw [hm] at hr; cases hr; exact .inr (.inl ⟨w', by simp [hm], hk⟩)
    | halt e w2 => rw [hm] at hr; cases hr
  | insert t m k x =>
    simp only [hρ m (by simp [opnds]), hρ k (by simp [opnds]), hρ x (by simp [opnds])]
    obtain ⟨v, w', hr, hk⟩ := h
    simp only [Sem.run_bind, Sem.run_pure] at hr
    cases hm : (Instr.mapUpdate t (ev m) (ev k) (ev x)).run P w with
    | ok u w2 => rw [hm] at hr; cases hr; exact .inr (.inl ⟨w', by simp [hm], hk⟩)
    | halt e w2 => rw [hm] at hr; cases hr
  | mapEntry t m k => simp only [hρ m (by simp [opnds]), hρ k (by simp [opnds])]; exact HRun.does h
  | entryStore t m k x =>
    simp only [hρ m (by simp [opnds]), hρ k (by simp [opnds]), hρ x (by simp [opnds])]
    obtain ⟨v, w', hr, hk⟩ := h
    simp only [Sem.run_bind, Sem.run_pure] at hr
    cases hm : (Instr.entryStore t (ev m) (ev k) (ev x)).run P w with
    | ok u w2 => rw [hm] at hr; cases hr; exact .inr (.inl ⟨w', by simp [hm], hk⟩)
    | halt e w2 => rw [hm] at hr; cases hr
  | makeMap t r =>
    cases r with
    | none => exact .inl ⟨_, _, rfl, h⟩
    | some x => cases h
  | call c =>
    obtain ⟨callee, args, ats⟩ := c
    cases callee with
    | value g =>
      have ha : args.map ρ = (args.toList.map ev).toArray := map_congr' args (fun x hx => hρ x (by simp [opnds]; right; simpa using hx))
      cases g with
      | func f =>
        simp only [opH] at h
        split at h
        · rename_i hf
          have := call_does hT (first := []) (captured := []) hf (by simpa using h)
          simp only [resolve, ha, hF f]
          exact this
        · cases h
      | tmp t =>
        obtain ⟨f, first, captured, hg, hf, h⟩ := h
        have := call_does hT hf h
        have hg' : ρ (.tmp t) = ev (.tmp t) := hρ _ (by simp [opnds])
        simp only [resolve, ha, hg', hg]
        simpa using this
      | _ => cases h
    | invoke r m => cases h
    | builtin b =>
      have ha : args.map ρ = (args.toList.map ev).toArray := map_congr' args (fun x hx => hρ x (by simpa [opnds] using hx))
      have hb : (do let d ← resolve ρ ⟨.builtin b, args, ats⟩ ty; invoke d.target d.args) = builtin b ats ty (args.map fun | .const _ => true | _ => false) (args.toList.map ev).toArray := by
        simp only [resolve, ha]; rfl
      show Does P (do let d ← resolve ρ ⟨.builtin b, args, ats⟩ ty; invoke d.target d.args) w K
      rw [hb]
      cases b with
      | len =>
        simp only [opH] at h
        split at h
        · rename_i x t hx ht
          have hats : ats = #[t] := by apply Array.ext'; exact ht
          rw [hx]
          subst hats
          split at h
          · rename_i e hs; exact lenS_does hs h
          · rename_i hs; exact lenT_does hs h
          · exact HRq.does h
        · cases h
      | min =>
        simp only [opH] at h
        split at h
        · rename_i x y hx; rw [hx]; exact min_does h
        · cases h
      | max =>
        simp only [opH] at h
        split at h
        · rename_i x y hx; rw [hx]; exact max_does h
        · cases h
      | append =>
        simp only [opH] at h
        split at h
        · rename_i x y t u hx ht
          have hats : ats = #[t, u] := by apply Array.ext'; exact ht
          rw [hx]
          subst hats
          split at h
          · rename_i e hs
            split at h
            · rename_i z hz
              obtain ⟨i, v, hi, hv, rfl⟩ := tZero_spec hz
              split at h
              · rename_i n hn
                split at h
                · rename_i e' hb hu
                  have hb' := beq_iff.1 hb
                  simp at hb'; subst hb'
                  exact app_does hs hu (fun k hk => by cases hk) hi hv hn h
                · rename_i hb hu
                  have hb' := beq_iff.1 hb
                  simp at hb'; subst hb'
                  exact app_does hs hu (fun k hk => by cases hk) hi hv hn h
                · cases h
              · cases h
            · cases h
          · cases h
        · cases h
      | copy => exact h.does
      | delete => exact h.does
      | cap => exact HRq.does h
      | clear => exact h.does
      | _ => cases h
  | _ => cases h
end
end Go.Proofs.Ythjnknpgcmmapaa
