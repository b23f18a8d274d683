/-
  Texts of the proof, joined: Lib3B, Law06O.
-/
import Derived.Test.YtmcglicbolhmfaaGreatJ11
import Derived.Test.YtmcglicbolhmfaaGreatRows
import Derived.Deep.CondSized
namespace Go.Proofs.YtmcglicbolhmfaaGreat
set_option linter.unusedVariables false
open Go.RowKit Go.ChangeShapes Go.WideShapes Go.ChangeAt

def OpensB {α : Type} (P : Program) (t : TypeId) (T : GoT α) (ok : α → Prop) (sz : α → Nat) : Prop :=
  P.cellsOf t = T.n ∧ ∀ {H : Type} (enc : TypeId × Value → H) (w : World) (sp : Nat → Bool) (hd : Bool) (fuel : Nat) (cs : List Value) (x : DataW H × List MemPlace),
    DataW.trod enc P w 0 sp hd fuel t cs = some x → ∃ a, T.rd w Nob a cs ∧ ok a ∧ sz a ≤ Rows.uptoBulk x.1
theorem opensB_int {P : Program} {t : TypeId} {k : IntKind} (ht : P.underlying t = some (.int k)) (hc : P.cellsOf t = 1) : OpensB P t (tInt k) (inK k) (fun _ => 1) :=
  ⟨hc, fun enc w sp hd fuel cs x h => by
    obtain ⟨n, rfl, rfl, hw⟩ := DataW.trod_int ht h
    exact ⟨n, rfl, hw, by simp [Rows.uptoBulk]⟩⟩
theorem opensB_bool {P : Program} {t : TypeId} (ht : P.underlying t = some .bool) (hc : P.cellsOf t = 1) : OpensB P t tBool (fun _ => True) (fun _ => 1) :=
  ⟨hc, fun enc w sp hd fuel cs x h => by
    obtain ⟨n, rfl, rfl⟩ := DataW.trod_bool ht h
    exact ⟨n, rfl, trivial, by simp [Rows.uptoBulk]⟩⟩
theorem opensB_str {P : Program} {t : TypeId} (ht : P.underlying t = some .string) (hc : P.cellsOf t = 1) : OpensB P t tStr (fun _ => True) (fun s => s.size + 1) :=
  ⟨hc, fun enc w sp hd fuel cs x h => by
    obtain ⟨n, rfl, rfl, hw⟩ := DataW.trod_string ht h
    refine ⟨n, rfl, trivial, ?_⟩
    simp only [Rows.uptoBulk]
    have e : n.data.toList.length = n.size := by rw [Array.length_toList]; rfl
    omega⟩
theorem bulk_sum {α H : Type} {sz : α → Nat} : ∀ (ys : List α) (ds : List (DataW H)), ys.length = ds.length → (∀ i (h : i < ys.length) (h' : i < ds.length), sz ys[i] ≤ Rows.uptoBulk ds[i]) → (ys.map sz).sum ≤ Rows.uptoBulkAll ds
  | [], ds, _, _ => by simp
  | y :: ys, [], h, _ => by cases h
  | y :: ys, d :: ds, h, hx => by
    have h0 := hx 0 (by simp) (by simp)
    have ih := bulk_sum ys ds (by simpa using h) (fun i g g' => hx (i + 1) (by simpa using g) (by simpa using g'))
    simp only [List.map_cons, List.sum_cons, Rows.uptoBulkAll]
    simp only [List.getElem_cons_zero] at h0
    omega
theorem opensB_slice {α : Type} {P : Program} {t e : TypeId} {T : GoT α} {ok : α → Prop} {sz : α → Nat} (h : OpensB P e T ok sz) (ht : P.underlying t = some (.slice e)) (hc : P.cellsOf t = 1) (hpos : 0 < T.n) : OpensB P t (tSlice T) (fun xs => ∀ x ∈ xs, ok x) (fun xs => (xs.map sz).sum) := by
  refine ⟨hc, fun enc w sp hd fuel cs x hx => ?_⟩
  rcases Go.Deep.open_slice ht hx with ⟨rfl, rfl⟩ | ⟨a, len, cap, m, n, D, Pl, rfl, _, hl, hm, hmm, rfl, hel⟩
  · exact ⟨[], ⟨_, rfl, RdS.nil T w Nob⟩, List.forall_mem_nil _, Nat.zero_le _⟩
  · have hle : len ≤ m := by rw [hmm]; split <;> omega
    have hel' : ∀ i, i < len → ∃ y : α, ok y ∧ sz y ≤ Rows.uptoBulk (D i) ∧ ∃ cs', T.rd w Nob y cs' ∧ At w Nob a.block (a.off + i * T.n) cs' ∧ a = ⟨a.block, a.off, none⟩ := fun i hi => by
      obtain ⟨cs', h1, h2⟩ := hel i (by omega)
      obtain ⟨y, hy, hok, hsz⟩ := h.2 enc w sp hd n cs' _ h2
      obtain ⟨_, hlen, hcell⟩ := World.cells?_some h1
      have hsp : a.spot = none := by
        have h0 := hcell 0 (by rw [h.1]; exact hpos)
        rw [List.getElem?_eq_getElem (by rw [hlen, h.1]; exact hpos)] at h0
        cases hsp : a.spot with
        | none => rfl
        | some q =>
          exfalso
          by_cases hi0 : i * P.cellsOf e = 0
          · simp [Addr.add, hi0, World.cell?, hsp] at h0
            split at h0 <;> cases h0
          · have h00 := hel 0 (by omega)
            obtain ⟨cs0, h10, _⟩ := h00
            obtain ⟨_, hlen0, hcell0⟩ := World.cells?_some h10
            have h0' := hcell0 0 (by rw [h.1]; exact hpos)
            rw [List.getElem?_eq_getElem (by rw [hlen0, h.1]; exact hpos)] at h0'
            simp [Addr.add, World.cell?, hsp] at h0'
            split at h0' <;> cases h0'
      obtain ⟨ab, ao, asp⟩ := a
      simp only at hsp
      subst hsp
      refine ⟨y, hok, hsz, cs', hy, ⟨fun _ x => x, fun j u hu => ?_⟩, rfl⟩
      have hj := (List.getElem?_eq_some_iff.1 hu).1
      have := hcell j (by omega)
      rw [Addr.add_lit, Addr.add_lit, hu, h.1] at this
      exact this
    obtain ⟨ys, hyl, hy⟩ := choose_list len hel'
    subst hyl
    refine ⟨ys, ⟨_, rfl, some a, cap, rfl, hl, fun i hi => ?_⟩, fun x hx => ?_, ?_⟩
    · obtain ⟨_, _, cs', h1, h2, h3⟩ := hy i hi
      exact ⟨a.block, a.off, cs', congrArg some h3, h1, h2⟩
    · obtain ⟨i, hi, rfl⟩ := List.getElem_of_mem hx
      exact (hy i hi).1
    · have := bulk_sum (sz := sz) ys ((List.range ys.length).map D) (by simp) (fun i g g' => by simpa using (hy i g).2.1)
      simp only [Rows.uptoBulk]
      omega
def FieldsOpenB {α : Type} (P : Program) (fs : List Field) (o : Nat) (T : GoT α) (ok : α → Prop) (sz : α → Nat) : Prop :=
  ∀ {H : Type} (enc : TypeId × Value → H) (w : World) (sp : Nat → Bool) (hd : Bool) (n : Nat) (cs : List Value) (xs : List (DataW H × List MemPlace)), xs.length = fs.length →
    (∀ (i : Nat) (f : Field), fs[i]? = some f → DataW.trod enc P w 0 sp hd n f.type ((cs.drop f.offset).take (P.cellsOf f.type)) = xs[i]?) →
    cs.length = o + T.n → ∃ a, T.rd w Nob a (cs.drop o) ∧ ok a ∧ sz a ≤ Rows.uptoBulkAll (xs.map (·.1))
theorem fieldsB_nil (P : Program) (o : Nat) : FieldsOpenB P [] o tUnit (fun _ => True) (fun _ => 0) := fun enc w sp hd n cs xs _ _ hl => ⟨(), by
  show cs.drop o = []
  rw [List.drop_eq_nil_iff]; have : tUnit.n = 0 := rfl; omega, trivial, Nat.zero_le _⟩
theorem fieldsB_cons {α β : Type} {P : Program} {f : Field} {fs : List Field} {o : Nat} {S : GoT α} {T : GoT β} {ok1 : α → Prop} {ok2 : β → Prop} {sz1 : α → Nat} {sz2 : β → Nat} (h1 : OpensB P f.type S ok1 sz1) (ho : f.offset = o) (h2 : FieldsOpenB P fs (o + S.n) T ok2 sz2) :
    FieldsOpenB P (f :: fs) o (tPair S T) (fun x => ok1 x.1 ∧ ok2 x.2) (fun x => sz1 x.1 + sz2 x.2) := fun enc w sp hd n cs xs hl hx hc => by
  match xs, hl with
  | y :: ys, hl =>
    have hcn : (tPair S T).n = S.n + T.n := rfl
    have e0 := hx 0 f rfl
    rw [ho, h1.1] at e0
    obtain ⟨a, ha, hoka, hsa⟩ := h1.2 enc w sp hd n _ y e0
    obtain ⟨b, hb, hokb, hsb⟩ := h2 enc w sp hd n cs ys (by simpa using hl) (fun i g hg => by simpa using hx (i + 1) g (by simpa using hg)) (by omega)
    refine ⟨(a, b), ⟨_, _, ?_, ha, hb⟩, ⟨hoka, hokb⟩, ?_⟩
    · rw [← List.drop_drop]
      exact (List.take_append_drop _ _).symm
    · simp only [List.map_cons, Rows.uptoBulkAll]
      omega
theorem opensB_struct {α : Type} {P : Program} {t : TypeId} {fs : Array Field} {T : GoT α} {ok : α → Prop} {sz : α → Nat} (ht : P.underlying t = some (.struct fs)) (hc : P.cellsOf t = T.n) (h : FieldsOpenB P fs.toList 0 T ok sz) : OpensB P t T ok sz :=
  ⟨hc, fun enc w sp hd fuel cs x hx => by
    obtain ⟨xs, n, _, rfl, hl, hlen, hf⟩ := DataW.trod_struct ht hx
    obtain ⟨a, ha, hok, hs⟩ := h enc w sp hd n cs xs (by simpa using hlen) (fun i f hi => hf i f (by simpa using hi)) (by omega)
    refine ⟨a, by simpa using ha, hok, ?_⟩
    simp only [Rows.uptoBulk]
    omega⟩
theorem opensB_via {α β : Type} {P : Program} {t : TypeId} {T : GoT α} {ok : α → Prop} {sz : α → Nat} (f : β → α) (g : α → β) (hg : ∀ a, f (g a) = a) (h : OpensB P t T ok sz) : OpensB P t (T.via f) (fun b => ok (f b)) (fun b => sz (f b)) :=
  ⟨h.1, fun enc w sp hd fuel cs x hx => by
    obtain ⟨a, ha, hok, hs⟩ := h.2 enc w sp hd fuel cs x hx
    exact ⟨g a, by show T.rd w Nob (f (g a)) cs; rw [hg]; exact ha, by show ok (f (g a)); rw [hg]; exact hok, by show sz (f (g a)) ≤ _; rw [hg]; exact hs⟩⟩
theorem opensB_ok {α : Type} {P : Program} {t : TypeId} {T : GoT α} {ok ok' : α → Prop} {sz sz' : α → Nat} (h : OpensB P t T ok sz) (hi : ∀ a, ok a → ok' a) (hs : ∀ a, sz' a ≤ sz a) : OpensB P t T ok' sz' :=
  ⟨h.1, fun enc w sp hd fuel cs x hx => let ⟨a, ha, hok, hb⟩ := h.2 enc w sp hd fuel cs x hx; ⟨a, ha, hi a hok, Nat.le_trans (hs a) hb⟩⟩
theorem argB_one {α : Type} {P : Program} {t : TypeId} {T : GoT α} {ok : α → Prop} {sz : α → Nat} {H : Type} {enc : TypeId × Value → H} {W : World} {r : Reach} {b0 : Nat} {v : Value} {d : DataW H} {ps : List MemPlace} {sp : Nat → Bool} {hd : Bool}
    (h : OpensB P t T ok sz) (hf : isFlat (P.underlying t) = true) (hval : Value.okWide P W r b0 t v) (h0 : DataW.Trod enc P W 0 sp hd t v d ps) : ∃ a, T.rd W Nob a [v] ∧ ok a ∧ sz a ≤ Rows.uptoBulk d := by
  obtain ⟨fuel, hx⟩ := h0
  rw [flat_one hf hval] at hx
  exact h.2 enc W sp hd fuel [v] _ hx
theorem argB_agg {α : Type} {P : Program} {t : TypeId} {fs : Array Field} {T : GoT α} {ok : α → Prop} {sz : α → Nat} {H : Type} {enc : TypeId × Value → H} {W : World} {r : Reach} {b0 : Nat} {v : Value} {d : DataW H} {ps : List MemPlace} {sp : Nat → Bool} {hd : Bool}
    (h : OpensB P t T ok sz) (ht : P.underlying t = some (.struct fs)) (hval : Value.okWide P W r b0 t v) (h0 : DataW.Trod enc P W 0 sp hd t v d ps) : ∃ a cs, v = .agg cs ∧ T.rd W Nob a cs.toList ∧ ok a ∧ sz a ≤ Rows.uptoBulk d := by
  obtain ⟨fuel, hx⟩ := h0
  unfold Value.okWide at hval
  rw [ht] at hval
  obtain ⟨cs, rfl, _⟩ := hval
  obtain ⟨a, h1, h2, h3⟩ := h.2 enc W sp hd fuel _ _ hx
  exact ⟨a, cs, rfl, h1, h2, h3⟩
theorem uptoBound {H : Type} {l : List (DataW H)} (hk : Rows.uptoSmall H l = true) : Rows.uptoBulkAll l ≤ 1048576 := of_decide_eq_true hk
end Go.Proofs.YtmcglicbolhmfaaGreat
namespace Go.Proofs.YtmcglicbolhmfaaGreat
set_option linter.unusedVariables false
set_option maxRecDepth 100000
open Go.ChangeShapes Go.WideShapes Go.ChangeAt Go.RowKit

theorem openG_GOk {d d' : DS} {base size : Int} {N : Nat} (hok : d.Ok N) (hR : d.R.length ≤ 100000) {g : PLog} (h : openG d base size = (d', .ok g)) : GOk g (N + 100000) := by
  have hk := (openG_gok hok hR h).1
  unfold openG at h
  split at h
  · cases h
  · split at h
    · cases h
    · split at h
      · cases h
      · rename_i L wh hl
        obtain ⟨k1, k2⟩ := loadsG_seq _ _ [] _ trivial (by decide) hl
        split at h
        · cases h
        · cases h
          exact ⟨hk, k1, k2, fun x hx => by cases hx⟩
theorem updF_len3 {R : List PF} (f : Int) (g : PF → PF) : (updF R f g).length ≤ R.length + 1 := by
  unfold updF; split
  · exact putK_len R _
  · omega
theorem openG_rlen (d : DS) (base size : Int) : (openG d base size).1.R.length ≤ d.R.length + 1 := by
  have hb : ∀ L ids wh, (beginG L d ids wh).1.R.length ≤ d.R.length + 1 := by
    intro L ids wh
    unfold beginG
    split
    · simp
    · split
      · unfold DS.remove
        split
        · simp
        · split
          · show d.R.length ≤ _; omega
          · have := delK_len (key := PF.id) d.R ‹Int›
            show (delK PF.id d.R _).length ≤ _; omega
      · split
        · unfold DS.cut
          split
          · simp
          · split
            · simp
            · split
              · show d.R.length ≤ _; omega
              · exact updF_len3 _ _
        · simp
  unfold openG
  split
  · simp
  · split
    · simp
    · split
      · simp
      · split
        · exact hb _ _ _
        · exact hb _ _ _
theorem openG_ops (d : DS) (base size : Int) : (openG d base size).1.ops ≤ d.ops + 1 := by
  have hb : ∀ L ids wh, (beginG L d ids wh).1.ops ≤ d.ops + 1 := by
    intro L ids wh
    unfold beginG
    split
    · simp
    · split
      · exact ops_remove _ _
      · split
        · exact ops_cut _ _ _
        · simp
  unfold openG
  split
  · simp
  · split
    · simp
    · split
      · simp
      · split
        · exact hb _ _ _
        · exact hb _ _ _
/-- qanatlaw06.record -/
theorem record_spec (X : Chunk) (v : Value) (q : List UInt8) (hq : Rdb X v q) (hN : q.length ≤ 140737488355328) : Spec Tryz.prog 23 [v] [X] (fun r post => ∃ c : List UInt8, c.length ≤ q.length + 8 ∧ post = [.ob (OwnSl r 5 1 c.length (c.map u8c)), X]) := by
  intro W F w hS; apply vc23; unfold Vc23; (try simp only [app] at hS)
  (apply s_call (rrec_spec X v q hq hN) hS; exact Xp; clear hS)
  intro r post hQ w hS
  unfold PutQ at hQ
  split at hQ
  · obtain ⟨rfl, rfl⟩ := hQ
    (try simp only [app] at hS)
    (repeat (first | (with_reducible first | apply Q0 | refine Qa hS ?_ | refine Qb ?_ | refine Qc hS ?_ | refine Qd ?_) | ((with_reducible refine Qe hS ?_); clear hS; intro w hS; simp only [List.set] at hS) | ((with_reducible first | refine s_draw hS ?_ | refine Qf hS ?_); clear hS; intro w hS) | ((with_reducible first | refine s_new hS ?_ | refine Qg hS ?_); clear hS; intro b w hS)))
    have hS := OwnSl.nil (t := 5) (sz := 1) hS
    exact ⟨[.ob (OwnSl (.slice none 0 0) 5 1 0 []), X], ⟨[], by simp, rfl⟩, hS⟩
  · obtain ⟨u, rfl, rfl⟩ := hQ
    (try simp only [app] at hS)
    (repeat (first | (with_reducible first | apply Q0 | refine Qa hS ?_ | refine Qb ?_ | refine Qc hS ?_ | refine Qd ?_) | ((with_reducible refine Qe hS ?_); clear hS; intro w hS; simp only [List.set] at hS) | ((with_reducible first | refine s_draw hS ?_ | refine Qf hS ?_); clear hS; intro w hS) | ((with_reducible first | refine s_new hS ?_ | refine Qg hS ?_); clear hS; intro b w hS)))
    exact ⟨_, ⟨recB q, by rw [recB_len]; omega, rfl⟩, hS⟩
/-- qanatlaw06.segment -/
theorem segment_spec (M : Nat) (hM : M = 1048576) (H : Heap) (first : Int) (lv bv : Value) (ls : List (List UInt8)) (bs : List UInt8) (torn : Bool) (hl : RdBs H lv ls) (hb : RdSl H 1 bv bs.length (bs.map u8c)) (hls : ∀ p ∈ ls, p.length ≤ M) (hbs : bs.length ≤ M) :
    Spec Tryz.prog 8 [.int .i64 first, lv, .bool torn, bv] [.mem H] (fun r post => ∃ (c : List UInt8) (H' : Heap), H.le H' ∧ RdSl H' 1 r c.length (c.map u8c) ∧ c.length ≤ 8 * M ∧ post = [.mem H']) := by
  intro W F w hS; apply vc8; unfold Vc8; (try simp only [app] at hS)
  (apply s_call (rhead_spec first) hS; exact Xp; clear hS)
  intro r post hQ w hS
  unfold HeadQ at hQ
  split at hQ
  · obtain ⟨rfl, rfl⟩ := hQ
    (try simp only [app] at hS)
    (repeat (first | (with_reducible first | apply Q0 | refine Qa hS ?_ | refine Qb ?_ | refine Qc hS ?_ | refine Qd ?_) | ((with_reducible refine Qe hS ?_); clear hS; intro w hS; simp only [List.set] at hS) | ((with_reducible first | refine s_draw hS ?_ | refine Qf hS ?_); clear hS; intro w hS) | ((with_reducible first | refine s_new hS ?_ | refine Qg hS ?_); clear hS; intro b w hS)))
    refine s_ifp (fun _ => ?_) (fun h => absurd (by decide) h)
    exact ⟨_, ⟨bs, H, Heap.le_refl H, hb, by omega, rfl⟩, hS⟩
  · obtain ⟨u, rfl, rfl⟩ := hQ
    (try simp only [app] at hS)
    (repeat (first | (with_reducible first | apply Q0 | refine Qa hS ?_ | refine Qb ?_ | refine Qc hS ?_ | refine Qd ?_) | ((with_reducible refine Qe hS ?_); clear hS; intro w hS; simp only [List.set] at hS) | ((with_reducible first | refine s_draw hS ?_ | refine Qf hS ?_); clear hS; intro w hS) | ((with_reducible first | refine s_new hS ?_ | refine Qg hS ?_); clear hS; intro b w hS)))
    refine s_ifp (fun h => absurd rfl h) (fun _ => ?_)
    have hfin : ∀ {w : World} {u : Value} {c : List UInt8}, c.length ≤ 7 * M → SL W (.ob (OwnSl u 5 1 c.length (c.map u8c)) :: .mem H :: F) w →
        HIf (.bool torn) (HApp 1 1 [.int .u8 0] 5 u bv w fun v40 w_5 => ∃ post, (∃ (c : List UInt8) (H' : Heap), H.le H' ∧ RdSl H' 1 v40 c.length (c.map u8c) ∧ c.length ≤ 8 * M ∧ post = [.mem H']) ∧ SL W (app post F) w_5)
          (∃ post, (∃ (c : List UInt8) (H' : Heap), H.le H' ∧ RdSl H' 1 u c.length (c.map u8c) ∧ c.length ≤ 8 * M ∧ post = [.mem H']) ∧ SL W (app post F) w) := by
      intro w u c hc hS
      cases torn with
      | true =>
        refine s_ift ?_
        refine s_app (t := 5) (sz := 1) (n := c.length) (cells := c.map u8c) (m := bs.length) (cs := bs.map u8c) hS .hd (src_rd hS Xh hb) (by simp) rfl (u8c_one _) (by omega) (by omega) ?_
        clear hS; intro v40 w hS
        rw [← List.map_append, ← List.length_append] at hS
        obtain ⟨H', h1, h2, hS⟩ := s_freeze (H := H) (v := v40) (n := (c ++ bs).length) (sz := 1) (t := 5) (cells := (c ++ bs).map u8c) hS Xp
        exact ⟨[.mem H'], ⟨c ++ bs, H', h1, h2, by rw [List.length_append]; omega, rfl⟩, hS⟩
      | false =>
        refine s_iff ?_
        obtain ⟨H', h1, h2, hS⟩ := s_freeze (H := H) (v := u) (n := c.length) (sz := 1) (t := 5) (cells := c.map u8c) hS Xp
        exact ⟨[.mem H'], ⟨c, H', h1, h2, by omega, rfl⟩, hS⟩
    refine ⟨fun vs w => ∃ (i : Nat) (u : Value) (c : List UInt8), vs = [u, .int .i64 i] ∧ i ≤ 6 ∧ i ≤ ls.length ∧ c.length ≤ 19 + i * (M + 8) ∧ SL W (.ob (OwnSl u 5 1 c.length (c.map u8c)) :: .mem H :: F) w,
      fun vs _ => match vs with | [_, .int _ i] => (6 - i).toNat | _ => 0, ⟨0, u, _, rfl, by omega, by omega, by rw [recB_len, hdB_len]; omega, hS⟩, ?_⟩
    clear hS
    rintro v9 v11 w ⟨i, u, c, hvs, hi, hil, hc, hS⟩
    cases hvs
    have hm1 : i * (M + 8) ≤ 6 * (M + 8) := Nat.mul_le_mul_right _ hi
    have hm2 : (i + 1) * (M + 8) = i * (M + 8) + (M + 8) := by rw [Nat.add_mul, Nat.one_mul]
    refine s_lenRR hl ?_
    (repeat (first | (with_reducible first | apply Q0 | refine Qa hS ?_ | refine Qb ?_ | refine Qc hS ?_ | refine Qd ?_) | ((with_reducible refine Qe hS ?_); clear hS; intro w hS; simp only [List.set] at hS) | ((with_reducible first | refine s_draw hS ?_ | refine Qf hS ?_); clear hS; intro w hS) | ((with_reducible first | refine s_new hS ?_ | refine Qg hS ?_); clear hS; intro b w hS)))
    refine s_ifp (fun h => ?_) (fun h => hfin (by omega) hS)
    (repeat (first | (with_reducible first | apply Q0 | refine Qa hS ?_ | refine Qb ?_ | refine Qc hS ?_ | refine Qd ?_) | ((with_reducible refine Qe hS ?_); clear hS; intro w hS; simp only [List.set] at hS) | ((with_reducible first | refine s_draw hS ?_ | refine Qf hS ?_); clear hS; intro w hS) | ((with_reducible first | refine s_new hS ?_ | refine Qg hS ?_); clear hS; intro b w hS)))
    refine s_ifp (fun h2 => ?_) (fun h2 => hfin (by omega) hS)
    have hj : i < ls.length := by omega
    have hlen := hls _ (List.getElem_mem hj)
    refine s_getRR hS Xh hl hj ?_
    intro p hp
    (apply s_call (record_spec (.mem H) p ls[i] (Rdb.rd hp) (by omega)) hS; exact Xp; clear hS)
    rintro r post ⟨c2, hc2, rfl⟩ w hS; (try simp only [app] at hS)
    refine s_app (t := 5) (sz := 1) (x := v9) (n := c.length) (cells := c.map u8c) (m := c2.length) (cs := c2.map u8c) hS Xr (src_own hS Xh) (by simp) rfl (u8c_one _) (by omega) (by omega) ?_
    clear hS; intro v36 w hS
    rw [← List.map_append, ← List.length_append] at hS
    (repeat (first | (with_reducible first | apply Q0 | refine Qa hS ?_ | refine Qb ?_ | refine Qc hS ?_ | refine Qd ?_) | ((with_reducible refine Qe hS ?_); clear hS; intro w hS; simp only [List.set] at hS) | ((with_reducible first | refine s_draw hS ?_ | refine Qf hS ?_); clear hS; intro w hS) | ((with_reducible first | refine s_new hS ?_ | refine Qg hS ?_); clear hS; intro b w hS)))
    exact ⟨⟨i + 1, v36, c ++ c2, rfl, by omega, by omega, by rw [List.length_append, hm2]; omega, SL.into hS Xi⟩, by dsimp only; omega⟩

structure F6 where
  f : Int
  b : List Int
  n : Int
  l : List (List Int)
structure F6V where
  f : Int
  n : Int
  bv : Value
  lv : Value
def encF6 (x : F6V) : List Value := [.int .i64 x.f, x.bv, .int .i64 x.n, x.lv]
theorem encF6_len (x : F6V) : (encF6 x).length = 4 := rfl
structure F6Is (H : Heap) (x : F6V) (o : F6) : Prop where
  bv : RdSl H 1 x.bv (o.b.map toB).length ((o.b.map toB).map u8c)
  lv : RdBs H x.lv (toBs o.l)
theorem F6Is.mono {H H' : Heap} (hh : H.le H') {x : F6V} {o : F6} (h : F6Is H x o) : F6Is H' x o := ⟨h.bv.mono hh, h.lv.mono hh⟩
def RdF6 (H : Heap) (v : Value) (l : List F6) : Prop := ∃ xs : List F6V, xs.length = l.length ∧ RdSl H 4 v l.length (xs.map encF6).flatten ∧ ∀ i (h : i < l.length) (h' : i < xs.length), F6Is H xs[i] l[i]
theorem walOpens_spec (M : Nat) (hM : M = 1048576) (H : Heap) (base0 n0 : Int) (v : Value) (l : List F6) (hl : RdF6 H v l) (hlen : l.length ≤ M) (hok : ∀ o ∈ l, o.b.length ≤ M ∧ ∀ p ∈ toBs o.l, p.length ≤ M) :
    Spec Tryz.prog 3 [.int .i64 base0, .int .i64 n0, v] [.mem H] (fun v post => v = .bool true ∧ ∃ H' l, H.le H' ∧ post = .mem H' :: l) := by
  intro W F w hS; apply vc3; unfold Vc3; (try simp only [app] at hS)
  obtain ⟨xs, hxl, hxr, hxi⟩ := hl
  (apply s_call (newD_spec) hS; exact Xp; clear hS)
  rintro _ post ⟨dp, rfl, rfl⟩ w hS
  (try simp only [app] at hS)
  refine s_bld rfl ?_
  refine ⟨_, rfl, s_new hS ?_⟩
  clear hS; intro xp w hS
  (repeat (first | (with_reducible first | apply Q0 | refine Qa hS ?_ | refine Qb ?_ | refine Qc hS ?_ | refine Qd ?_) | ((with_reducible refine Qe hS ?_); clear hS; intro w hS; simp only [List.set] at hS) | ((with_reducible first | refine s_draw hS ?_ | refine Qf hS ?_); clear hS; intro w hS) | ((with_reducible first | refine s_new hS ?_ | refine Qg hS ?_); clear hS; intro b w hS)))
  (apply s_call (awake06_spec) hS; exact Xp; clear hS)
  (rintro v post ⟨rfl, rfl⟩ w hS; (try simp only [app] at hS); (repeat (first | (with_reducible first | apply Q0 | refine Qa hS ?_ | refine Qb ?_ | refine Qc hS ?_ | refine Qd ?_) | ((with_reducible refine Qe hS ?_); clear hS; intro w hS; simp only [List.set] at hS) | ((with_reducible first | refine s_draw hS ?_ | refine Qf hS ?_); clear hS; intro w hS) | ((with_reducible first | refine s_new hS ?_ | refine Qg hS ?_); clear hS; intro b w hS))))
  refine s_iff ?_
  (repeat (first | (with_reducible first | apply Q0 | refine Qa hS ?_ | refine Qb ?_ | refine Qc hS ?_ | refine Qd ?_) | ((with_reducible refine Qe hS ?_); clear hS; intro w hS; simp only [List.set] at hS) | ((with_reducible first | refine s_draw hS ?_ | refine Qf hS ?_); clear hS; intro w hS) | ((with_reducible first | refine s_new hS ?_ | refine Qg hS ?_); clear hS; intro b w hS)))
  refine s_iff ?_
  have hS := OwnSl.nil (t := 76) (sz := 3) hS
  have hS := (RDO.iff (H := H) (s := s00)).2 ⟨Value.slice none 0 0, [], ⟨rfl, fun y hy => by cases hy⟩, SL.into hS (t := .pt xp [.slice none 0 0, .int .i64 0, .bool false, .int .i64 0] 28 :: .ob (OwnSl (.slice none 0 0) 76 3 0 []) :: .ob (DskO dp s00) :: .mem H :: F) Xi⟩
  refine ⟨fun vs w => ∃ (H2 : Heap) (s : DS), vs = [] ∧ H.le H2 ∧ s.Ok (5 * (8 * M)) ∧ s.ops ≤ 5 ∧ s.R.length ≤ 5 ∧ SL W (.ob (DskO dp s) :: .ob (RDO H2 xp s) :: .mem H2 :: F) w, ?_, ?_⟩
  · refine ⟨fun vs w => ∃ (i : Nat) (next : Int) (H2 : Heap) (s : DS), vs = [.int .i64 next, .int .i64 i] ∧ 0 ≤ next ∧ next ≤ 1099511627780 + 6 * i ∧ i ≤ l.length ∧ i ≤ 5 ∧ H.le H2 ∧ s.Ok (i * (8 * M)) ∧ s.ops ≤ i ∧ s.R.length ≤ i ∧ SL W (.ob (DskO dp s) :: .ob (RDO H2 xp s) :: .mem H2 :: F) w,
      fun vs _ => match vs with | [_, .int _ i] => (l.length - i).toNat | _ => 0, ⟨0, 1, H, s00, rfl, by decide, by decide, by omega, by omega, Heap.le_refl H, s00_ok _, by decide, by decide, SL.into hS Xi⟩, ?_⟩
    clear hS
    rintro v9 v10 w ⟨i, next, H2, s, hvs, hn0, hn1, hi, hi5, h02, hs, hops, hRl, hS⟩
    cases hvs
    have hm1 : i * (8 * M) ≤ 5 * (8 * M) := Nat.mul_le_mul_right _ hi5
    have hm2 : (i + 1) * (8 * M) = i * (8 * M) + 8 * M := by rw [Nat.add_mul, Nat.one_mul]
    have hend : ∀ {w : World}, SL W (.ob (DskO dp s) :: .ob (RDO H2 xp s) :: .mem H2 :: F) w → ∃ (H2 : Heap) (s : DS), ([] : List Value) = [] ∧ H.le H2 ∧ s.Ok (5 * (8 * M)) ∧ s.ops ≤ 5 ∧ s.R.length ≤ 5 ∧ SL W (.ob (DskO dp s) :: .ob (RDO H2 xp s) :: .mem H2 :: F) w :=
      fun h => ⟨H2, s, rfl, h02, hs.mono hm1, by omega, by omega, h⟩
    refine s_lenR hxr ?_
    (repeat (first | (with_reducible first | apply Q0 | refine Qa hS ?_ | refine Qb ?_ | refine Qc hS ?_ | refine Qd ?_) | ((with_reducible refine Qe hS ?_); clear hS; intro w hS; simp only [List.set] at hS) | ((with_reducible first | refine s_draw hS ?_ | refine Qf hS ?_); clear hS; intro w hS) | ((with_reducible first | refine s_new hS ?_ | refine Qg hS ?_); clear hS; intro b w hS)))
    refine s_ifp (fun h => ?_) (fun h => hend hS)
    (repeat (first | (with_reducible first | apply Q0 | refine Qa hS ?_ | refine Qb ?_ | refine Qc hS ?_ | refine Qd ?_) | ((with_reducible refine Qe hS ?_); clear hS; intro w hS; simp only [List.set] at hS) | ((with_reducible first | refine s_draw hS ?_ | refine Qf hS ?_); clear hS; intro w hS) | ((with_reducible first | refine s_new hS ?_ | refine Qg hS ?_); clear hS; intro b w hS)))
    refine s_ifp (fun h8 => ?_) (fun h8 => hend hS)
    clear hend
    have hil : i < l.length := by omega
    have hix : i < xs.length := by omega
    obtain ⟨hokb, hokl⟩ := hok l[i] (List.getElem_mem hil)
    have hx : xs[i]? = some xs[i] := List.getElem?_eq_getElem hix
    have hxo := hxi i hil hix
    generalize xs[i] = x at *
    generalize l[i] = o at *
    (repeat (first | (with_reducible first | apply Q0 | refine Qa hS ?_ | refine Qb ?_ | refine Qc hS ?_ | refine Qd ?_) | ((with_reducible refine Qe hS ?_); clear hS; intro w hS; simp only [List.set] at hS) | ((with_reducible first | refine s_draw hS ?_ | refine Qf hS ?_); clear hS; intro w hS) | ((with_reducible first | refine s_new hS ?_ | refine Qg hS ?_); clear hS; intro b w hS)))
    refine ⟨fun vs w => ∃ f : Int, vs = [.int .i64 f] ∧ SL W (.ob (DskO dp s) :: .ob (RDO H2 xp s) :: .mem H2 :: F) w, ?_, ?_⟩
    · refine s_getF (i := 0) hS Xh encF6_len (hxr.mono h02) hx hil (u := .int .i64 x.f) rfl ?_
      (apply s_call (mod_spec x.f 6 (by decide) (by decide)) hS; exact Xp; clear hS)
      (rintro v post ⟨rfl, rfl⟩ w hS; (try simp only [app] at hS); (repeat (first | (with_reducible first | apply Q0 | refine Qa hS ?_ | refine Qb ?_ | refine Qc hS ?_ | refine Qd ?_) | ((with_reducible refine Qe hS ?_); clear hS; intro w hS; simp only [List.set] at hS) | ((with_reducible first | refine s_draw hS ?_ | refine Qf hS ?_); clear hS; intro w hS) | ((with_reducible first | refine s_new hS ?_ | refine Qg hS ?_); clear hS; intro b w hS))))
      refine s_ifp (fun h => ?_) (fun h => ⟨_, rfl, SL.into hS Xi⟩)
      refine s_getF (i := 0) hS Xh encF6_len (hxr.mono h02) hx hil (u := .int .i64 x.f) rfl ?_
      (apply s_call (mod_spec x.f 60 (by decide) (by decide)) hS; exact Xp; clear hS)
      (rintro v post ⟨rfl, rfl⟩ w hS; (try simp only [app] at hS); (repeat (first | (with_reducible first | apply Q0 | refine Qa hS ?_ | refine Qb ?_ | refine Qc hS ?_ | refine Qd ?_) | ((with_reducible refine Qe hS ?_); clear hS; intro w hS; simp only [List.set] at hS) | ((with_reducible first | refine s_draw hS ?_ | refine Qf hS ?_); clear hS; intro w hS) | ((with_reducible first | refine s_new hS ?_ | refine Qg hS ?_); clear hS; intro b w hS))))
      exact ⟨_, rfl, SL.into hS Xi⟩
    · clear hS
      rintro v11 w ⟨f, hvs, hS⟩
      cases hvs
      -- what is put behind both disks' file
      have hput : ∀ {w : World} {H3 : Heap} {bv : Value} {c : List UInt8} (K : World → Prop), H2.le H3 → RdSl H3 1 bv c.length (c.map u8c) → c.length ≤ 8 * M → SL W (.ob (DskO dp s) :: .ob (RDO H3 xp s) :: .mem H3 :: F) w →
          (∀ (w' : World) (H4 : Heap) (s' : DS), H3.le H4 → s'.Ok ((i + 1) * (8 * M)) → s'.ops ≤ i + 1 → s'.R.length ≤ i + 1 → SL W (.ob (DskO dp s') :: .ob (RDO H4 xp s') :: .mem H4 :: F) w' → K w') →
          HCall Tryz.prog 9 [.pointer (some ⟨dp, 0, none⟩), .int .i64 f, bv] w fun _ w_13 => HCall Tryz.prog 10 [.pointer (some ⟨xp, 0, none⟩), .int .i64 f, bv] w_13 fun _ w_14 => K w_14 := by
        intro w H3 bv c K h23 hbv hc hS hK
        (apply s_call (appendD_spec H3 dp s _ hs (by omega) f bv c hbv (by omega)) hS; exact Xp; clear hS)
        rintro v post ⟨rfl, rfl⟩ w hS; (try simp only [app] at hS)
        (apply s_call (rappend_spec H3 xp s _ hs (by omega) (by omega) f bv c hbv (by omega)) hS; exact Xp; clear hS)
        rintro v post ⟨rfl, H4, h34, rfl⟩ w hS; (try simp only [app] at hS)
        refine hK w H4 (s.append f c).1 h34 ((hs.append f c).mono (by rw [hm2]; omega)) (by have := ops_append s f c; omega) ?_ (SL.into hS Xi)
        unfold DS.append
        split
        · simp only; omega
        · have := putK_len (key := PF.id) s.R ⟨f, ((getK PF.id s.R f).getD (newF f)).safe, ((getK PF.id s.R f).getD (newF f)).b ++ c⟩
          show (appF s.R f c).length ≤ i + 1
          unfold appF; omega
      refine s_getF (i := 1) hS Xh encF6_len (hxr.mono h02) hx hil (u := x.bv) rfl ?_
      (repeat (first | (with_reducible first | apply Q0 | refine Qa hS ?_ | refine Qb ?_ | refine Qc hS ?_ | refine Qd ?_) | ((with_reducible refine Qe hS ?_); clear hS; intro w hS; simp only [List.set] at hS) | ((with_reducible first | refine s_draw hS ?_ | refine Qf hS ?_); clear hS; intro w hS) | ((with_reducible first | refine s_new hS ?_ | refine Qg hS ?_); clear hS; intro b w hS)))
      refine s_getF (i := 0) hS Xh encF6_len (hxr.mono h02) hx hil (u := .int .i64 x.f) rfl ?_
      (apply s_call (mod_spec x.f 5 (by decide) (by decide)) hS; exact Xp; clear hS)
      (rintro v post ⟨rfl, rfl⟩ w hS; (try simp only [app] at hS); (repeat (first | (with_reducible first | apply Q0 | refine Qa hS ?_ | refine Qb ?_ | refine Qc hS ?_ | refine Qd ?_) | ((with_reducible refine Qe hS ?_); clear hS; intro w hS; simp only [List.set] at hS) | ((with_reducible first | refine s_draw hS ?_ | refine Qf hS ?_); clear hS; intro w hS) | ((with_reducible first | refine s_new hS ?_ | refine Qg hS ?_); clear hS; intro b w hS))))
      refine s_ifp (fun h5 => ?_) (fun h5 => ?_)
      · refine ⟨fun vs w => ∃ next : Int, vs = [.int .i64 next] ∧ 0 ≤ next ∧ next ≤ 1099511627780 + 6 * i ∧ SL W (.ob (DskO dp s) :: .ob (RDO H2 xp s) :: .mem H2 :: F) w, ?_, ?_⟩
        · (repeat (first | (with_reducible first | apply Q0 | refine Qa hS ?_ | refine Qb ?_ | refine Qc hS ?_ | refine Qd ?_) | ((with_reducible refine Qe hS ?_); clear hS; intro w hS; simp only [List.set] at hS) | ((with_reducible first | refine s_draw hS ?_ | refine Qf hS ?_); clear hS; intro w hS) | ((with_reducible first | refine s_new hS ?_ | refine Qg hS ?_); clear hS; intro b w hS)))
          refine s_getF (i := 2) hS Xh encF6_len (hxr.mono h02) hx hil (u := .int .i64 x.n) rfl ?_
          refine s_rem (by decide) ?_
          (repeat (first | (with_reducible first | apply Q0 | refine Qa hS ?_ | refine Qb ?_ | refine Qc hS ?_ | refine Qd ?_) | ((with_reducible refine Qe hS ?_); clear hS; intro w hS; simp only [List.set] at hS) | ((with_reducible first | refine s_draw hS ?_ | refine Qf hS ?_); clear hS; intro w hS) | ((with_reducible first | refine s_new hS ?_ | refine Qg hS ?_); clear hS; intro b w hS)))
          refine s_ifp (fun h => ?_) (fun h => ⟨next, rfl, hn0, hn1, SL.into hS Xi⟩)
          refine s_getF (i := 2) hS Xh encF6_len (hxr.mono h02) hx hil (u := .int .i64 x.n) rfl ?_
          have hmd := md_lt x.n 1099511627776 (by decide)
          (apply s_call (big_spec x.n 1099511627776 (by decide) (by decide)) hS; exact Xp; clear hS)
          (rintro v post ⟨rfl, rfl⟩ w hS; (try simp only [app] at hS); (repeat (first | (with_reducible first | apply Q0 | refine Qa hS ?_ | refine Qb ?_ | refine Qc hS ?_ | refine Qd ?_) | ((with_reducible refine Qe hS ?_); clear hS; intro w hS; simp only [List.set] at hS) | ((with_reducible first | refine s_draw hS ?_ | refine Qf hS ?_); clear hS; intro w hS) | ((with_reducible first | refine s_new hS ?_ | refine Qg hS ?_); clear hS; intro b w hS))))
          exact ⟨_, rfl, by omega, by omega, SL.into hS Xi⟩
        · clear hS
          rintro v9 w ⟨nx, hvs, hx0, hx1, hS⟩
          cases hvs
          (repeat (first | (with_reducible first | apply Q0 | refine Qa hS ?_ | refine Qb ?_ | refine Qc hS ?_ | refine Qd ?_) | ((with_reducible refine Qe hS ?_); clear hS; intro w hS; simp only [List.set] at hS) | ((with_reducible first | refine s_draw hS ?_ | refine Qf hS ?_); clear hS; intro w hS) | ((with_reducible first | refine s_new hS ?_ | refine Qg hS ?_); clear hS; intro b w hS)))
          refine s_getF (i := 3) hS Xh encF6_len (hxr.mono h02) hx hil (u := x.lv) rfl ?_
          (repeat (first | (with_reducible first | apply Q0 | refine Qa hS ?_ | refine Qb ?_ | refine Qc hS ?_ | refine Qd ?_) | ((with_reducible refine Qe hS ?_); clear hS; intro w hS; simp only [List.set] at hS) | ((with_reducible first | refine s_draw hS ?_ | refine Qf hS ?_); clear hS; intro w hS) | ((with_reducible first | refine s_new hS ?_ | refine Qg hS ?_); clear hS; intro b w hS)))
          refine s_getF (i := 2) hS Xh encF6_len (hxr.mono h02) hx hil (u := .int .i64 x.n) rfl ?_
          refine s_rem (by decide) ?_
          (repeat (first | (with_reducible first | apply Q0 | refine Qa hS ?_ | refine Qb ?_ | refine Qc hS ?_ | refine Qd ?_) | ((with_reducible refine Qe hS ?_); clear hS; intro w hS; simp only [List.set] at hS) | ((with_reducible first | refine s_draw hS ?_ | refine Qf hS ?_); clear hS; intro w hS) | ((with_reducible first | refine s_new hS ?_ | refine Qg hS ?_); clear hS; intro b w hS)))
          (apply s_call (segment_spec M hM H2 nx x.lv x.bv (toBs o.l) (o.b.map toB) (decide (x.n.tmod 3 = 2)) (hxo.lv.mono h02) (hxo.bv.mono h02) hokl (by rw [List.length_map]; exact hokb)) hS; exact Xp; clear hS)
          rintro r post ⟨c, H3, h23, hr, hc, rfl⟩ w hS; (try simp only [app] at hS)
          refine s_getF (i := 3) hS Xh encF6_len (hxr.mono (Heap.le_trans h02 h23)) hx hil (u := x.lv) rfl ?_
          refine s_lenRR hxo.lv ?_
          (repeat (first | (with_reducible first | apply Q0 | refine Qa hS ?_ | refine Qb ?_ | refine Qc hS ?_ | refine Qd ?_) | ((with_reducible refine Qe hS ?_); clear hS; intro w hS; simp only [List.set] at hS) | ((with_reducible first | refine s_draw hS ?_ | refine Qf hS ?_); clear hS; intro w hS) | ((with_reducible first | refine s_new hS ?_ | refine Qg hS ?_); clear hS; intro b w hS)))
          refine hput (w := w) _ h23 hr hc (RDO.mono h23 (SL.into hS (t := .ob (RDO H2 xp s) :: .ob (DskO dp s) :: .mem H3 :: F) Xi) |>.into Xi) ?_
          clear hS
          intro w H4 s' h34 k1 k2 k3 hS
          (repeat (first | (with_reducible first | apply Q0 | refine Qa hS ?_ | refine Qb ?_ | refine Qc hS ?_ | refine Qd ?_) | ((with_reducible refine Qe hS ?_); clear hS; intro w hS; simp only [List.set] at hS) | ((with_reducible first | refine s_draw hS ?_ | refine Qf hS ?_); clear hS; intro w hS) | ((with_reducible first | refine s_new hS ?_ | refine Qg hS ?_); clear hS; intro b w hS)))
          exact ⟨⟨i + 1, _, H4, s', rfl, by omega, by omega, by omega, by omega, Heap.le_trans h02 (Heap.le_trans h23 h34), k1, k2, k3, hS⟩, by dsimp only; omega⟩
      · (repeat (first | (with_reducible first | apply Q0 | refine Qa hS ?_ | refine Qb ?_ | refine Qc hS ?_ | refine Qd ?_) | ((with_reducible refine Qe hS ?_); clear hS; intro w hS; simp only [List.set] at hS) | ((with_reducible first | refine s_draw hS ?_ | refine Qf hS ?_); clear hS; intro w hS) | ((with_reducible first | refine s_new hS ?_ | refine Qg hS ?_); clear hS; intro b w hS)))
        refine hput (w := w) _ (Heap.le_refl H2) (hxo.bv.mono h02) (by rw [List.length_map]; omega) (SL.into hS Xi) ?_
        clear hS
        intro w H4 s' h34 k1 k2 k3 hS
        (repeat (first | (with_reducible first | apply Q0 | refine Qa hS ?_ | refine Qb ?_ | refine Qc hS ?_ | refine Qd ?_) | ((with_reducible refine Qe hS ?_); clear hS; intro w hS; simp only [List.set] at hS) | ((with_reducible first | refine s_draw hS ?_ | refine Qf hS ?_); clear hS; intro w hS) | ((with_reducible first | refine s_new hS ?_ | refine Qg hS ?_); clear hS; intro b w hS)))
        exact ⟨⟨i + 1, next, H4, s', rfl, by omega, by omega, by omega, by omega, Heap.le_trans h02 h34, k1, k2, k3, hS⟩, by dsimp only; omega⟩
  · clear hS
    rintro w ⟨H2, s, -, h02, hs, hops, hRl, hS⟩
    refine ⟨fun vs w => ∃ base size : Int, vs = [.int .i64 base, .int .i64 size] ∧ SL W (.ob (DskO dp s) :: .ob (RDO H2 xp s) :: .mem H2 :: F) w, ?_, ?_⟩
    · (apply s_call (mod_spec n0 9 (by decide) (by decide)) hS; exact Xp; clear hS)
      (rintro v post ⟨rfl, rfl⟩ w hS; (try simp only [app] at hS); (repeat (first | (with_reducible first | apply Q0 | refine Qa hS ?_ | refine Qb ?_ | refine Qc hS ?_ | refine Qd ?_) | ((with_reducible refine Qe hS ?_); clear hS; intro w hS; simp only [List.set] at hS) | ((with_reducible first | refine s_draw hS ?_ | refine Qf hS ?_); clear hS; intro w hS) | ((with_reducible first | refine s_new hS ?_ | refine Qg hS ?_); clear hS; intro b w hS))))
      refine s_ifp (fun h => ?_) (fun h => ⟨base0, n0, rfl, SL.into hS Xi⟩)
      (apply s_call (size_spec6 n0) hS; exact Xp; clear hS)
      (rintro v post ⟨rfl, rfl⟩ w hS; (try simp only [app] at hS); (repeat (first | (with_reducible first | apply Q0 | refine Qa hS ?_ | refine Qb ?_ | refine Qc hS ?_ | refine Qd ?_) | ((with_reducible refine Qe hS ?_); clear hS; intro w hS; simp only [List.set] at hS) | ((with_reducible first | refine s_draw hS ?_ | refine Qf hS ?_); clear hS; intro w hS) | ((with_reducible first | refine s_new hS ?_ | refine Qg hS ?_); clear hS; intro b w hS))))
      exact ⟨40, szOf n0, rfl, SL.into hS Xi⟩
    · clear hS
      rintro v0 v1 w ⟨base, size, hvs, hS⟩
      cases hvs
      (apply s_call (openL_spec dp s base size hs (by omega) (by omega) (by omega)) hS; exact Xp; clear hS)
      intro r post hQ w hS
      have hrl := openG_rlen s base size
      have hd := openG_ok (base := base) (size := size) hs
      have hgo := fun {d' g} (h : openG s base size = (d', .ok g)) => openG_GOk hs (by omega) h
      have hR := ropen_spec H2 xp s base size hs (by omega) (by omega) (by omega)
      generalize openG s base size = y at *
      obtain ⟨s', y2⟩ := y
      have hrl : s'.R.length ≤ s.R.length + 1 := hrl
      cases y2 with
      | error e =>
        obtain ⟨he, rfl, rfl⟩ := hQ
        (try simp only [app] at hS)
        (repeat (first | (with_reducible first | apply Q0 | refine Qa hS ?_ | refine Qb ?_ | refine Qc hS ?_ | refine Qd ?_) | ((with_reducible refine Qe hS ?_); clear hS; intro w hS; simp only [List.set] at hS) | ((with_reducible first | refine s_draw hS ?_ | refine Qf hS ?_); clear hS; intro w hS) | ((with_reducible first | refine s_new hS ?_ | refine Qg hS ?_); clear hS; intro b w hS)))
        (apply s_call (hR) hS; exact Xp; clear hS)
        intro r post hQ w hS
        obtain ⟨he, rfl, H3, h23, rfl⟩ := hQ
        (try simp only [app] at hS)
        (repeat (first | (with_reducible first | apply Q0 | refine Qa hS ?_ | refine Qb ?_ | refine Qc hS ?_ | refine Qd ?_) | ((with_reducible refine Qe hS ?_); clear hS; intro w hS; simp only [List.set] at hS) | ((with_reducible first | refine s_draw hS ?_ | refine Qf hS ?_); clear hS; intro w hS) | ((with_reducible first | refine s_new hS ?_ | refine Qg hS ?_); clear hS; intro b w hS)))
        refine s_ifp (fun h => absurd rfl h) (fun _ => ?_)
        (repeat (first | (with_reducible first | apply Q0 | refine Qa hS ?_ | refine Qb ?_ | refine Qc hS ?_ | refine Qd ?_) | ((with_reducible refine Qe hS ?_); clear hS; intro w hS; simp only [List.set] at hS) | ((with_reducible first | refine s_draw hS ?_ | refine Qf hS ?_); clear hS; intro w hS) | ((with_reducible first | refine s_new hS ?_ | refine Qg hS ?_); clear hS; intro b w hS)))
        refine s_ifp (fun h => absurd rfl h) (fun _ => ?_)
        (repeat (first | (with_reducible first | apply Q0 | refine Qa hS ?_ | refine Qb ?_ | refine Qc hS ?_ | refine Qd ?_) | ((with_reducible refine Qe hS ?_); clear hS; intro w hS; simp only [List.set] at hS) | ((with_reducible first | refine s_draw hS ?_ | refine Qf hS ?_); clear hS; intro w hS) | ((with_reducible first | refine s_new hS ?_ | refine Qg hS ?_); clear hS; intro b w hS)))
        (apply s_call (disks_spec H3 dp xp s' _ hd (by omega) (by omega)) hS; exact Xp; clear hS)
        rintro v post ⟨rfl, H4, h34, rfl⟩ w hS; (try simp only [app] at hS)
        (repeat (first | (with_reducible first | apply Q0 | refine Qa hS ?_ | refine Qb ?_ | refine Qc hS ?_ | refine Qd ?_) | ((with_reducible refine Qe hS ?_); clear hS; intro w hS; simp only [List.set] at hS) | ((with_reducible first | refine s_draw hS ?_ | refine Qf hS ?_); clear hS; intro w hS) | ((with_reducible first | refine s_new hS ?_ | refine Qg hS ?_); clear hS; intro b w hS)))
        refine s_iff ?_
        (repeat (first | (with_reducible first | apply Q0 | refine Qa hS ?_ | refine Qb ?_ | refine Qc hS ?_ | refine Qd ?_) | ((with_reducible refine Qe hS ?_); clear hS; intro w hS; simp only [List.set] at hS) | ((with_reducible first | refine s_draw hS ?_ | refine Qf hS ?_); clear hS; intro w hS) | ((with_reducible first | refine s_new hS ?_ | refine Qg hS ?_); clear hS; intro b w hS)))
        refine s_ift ?_
        exact ⟨_, ⟨rfl, H4, [], Heap.le_trans h02 (Heap.le_trans h23 h34), rfl⟩, SL.into hS Xi⟩
      | ok g =>
        obtain ⟨lp, rfl, rfl⟩ := hQ
        have hgk := hgo rfl
        (try simp only [app] at hS)
        (repeat (first | (with_reducible first | apply Q0 | refine Qa hS ?_ | refine Qb ?_ | refine Qc hS ?_ | refine Qd ?_) | ((with_reducible refine Qe hS ?_); clear hS; intro w hS; simp only [List.set] at hS) | ((with_reducible first | refine s_draw hS ?_ | refine Qf hS ?_); clear hS; intro w hS) | ((with_reducible first | refine s_new hS ?_ | refine Qg hS ?_); clear hS; intro b w hS)))
        (apply s_call (hR) hS; exact Xp; clear hS)
        intro r post hQ w hS
        obtain ⟨rlp, H3, h23, rfl, rfl⟩ := hQ
        (try simp only [app] at hS)
        (repeat (first | (with_reducible first | apply Q0 | refine Qa hS ?_ | refine Qb ?_ | refine Qc hS ?_ | refine Qd ?_) | ((with_reducible refine Qe hS ?_); clear hS; intro w hS; simp only [List.set] at hS) | ((with_reducible first | refine s_draw hS ?_ | refine Qf hS ?_); clear hS; intro w hS) | ((with_reducible first | refine s_new hS ?_ | refine Qg hS ?_); clear hS; intro b w hS)))
        refine s_ifp (fun h => absurd rfl h) (fun _ => ?_)
        (repeat (first | (with_reducible first | apply Q0 | refine Qa hS ?_ | refine Qb ?_ | refine Qc hS ?_ | refine Qd ?_) | ((with_reducible refine Qe hS ?_); clear hS; intro w hS; simp only [List.set] at hS) | ((with_reducible first | refine s_draw hS ?_ | refine Qf hS ?_); clear hS; intro w hS) | ((with_reducible first | refine s_new hS ?_ | refine Qg hS ?_); clear hS; intro b w hS)))
        refine s_ifp (fun h => absurd rfl h) (fun _ => ?_)
        (repeat (first | (with_reducible first | apply Q0 | refine Qa hS ?_ | refine Qb ?_ | refine Qc hS ?_ | refine Qd ?_) | ((with_reducible refine Qe hS ?_); clear hS; intro w hS; simp only [List.set] at hS) | ((with_reducible first | refine s_draw hS ?_ | refine Qf hS ?_); clear hS; intro w hS) | ((with_reducible first | refine s_new hS ?_ | refine Qg hS ?_); clear hS; intro b w hS)))
        (apply s_call (disks_spec H3 dp xp s' _ hd (by omega) (by omega)) hS; exact Xp; clear hS)
        rintro v post ⟨rfl, H4, h34, rfl⟩ w hS; (try simp only [app] at hS)
        (repeat (first | (with_reducible first | apply Q0 | refine Qa hS ?_ | refine Qb ?_ | refine Qc hS ?_ | refine Qd ?_) | ((with_reducible refine Qe hS ?_); clear hS; intro w hS; simp only [List.set] at hS) | ((with_reducible first | refine s_draw hS ?_ | refine Qf hS ?_); clear hS; intro w hS) | ((with_reducible first | refine s_new hS ?_ | refine Qg hS ?_); clear hS; intro b w hS)))
        refine s_iff ?_
        (repeat (first | (with_reducible first | apply Q0 | refine Qa hS ?_ | refine Qb ?_ | refine Qc hS ?_ | refine Qd ?_) | ((with_reducible refine Qe hS ?_); clear hS; intro w hS; simp only [List.set] at hS) | ((with_reducible first | refine s_draw hS ?_ | refine Qf hS ?_); clear hS; intro w hS) | ((with_reducible first | refine s_new hS ?_ | refine Qg hS ?_); clear hS; intro b w hS)))
        refine s_iff ?_
        (repeat (first | (with_reducible first | apply Q0 | refine Qa hS ?_ | refine Qb ?_ | refine Qc hS ?_ | refine Qd ?_) | ((with_reducible refine Qe hS ?_); clear hS; intro w hS; simp only [List.set] at hS) | ((with_reducible first | refine s_draw hS ?_ | refine Qf hS ?_); clear hS; intro w hS) | ((with_reducible first | refine s_new hS ?_ | refine Qg hS ?_); clear hS; intro b w hS)))
        (apply s_call (logs_spec lp rlp dp xp g hgk (by omega)) hS; exact Xp; clear hS)
        (rintro v post ⟨rfl, rfl⟩ w hS; (try simp only [app] at hS); (repeat (first | (with_reducible first | apply Q0 | refine Qa hS ?_ | refine Qb ?_ | refine Qc hS ?_ | refine Qd ?_) | ((with_reducible refine Qe hS ?_); clear hS; intro w hS; simp only [List.set] at hS) | ((with_reducible first | refine s_draw hS ?_ | refine Qf hS ?_); clear hS; intro w hS) | ((with_reducible first | refine s_new hS ?_ | refine Qg hS ?_); clear hS; intro b w hS))))
        exact ⟨_, ⟨rfl, H4, [], Heap.le_trans h02 (Heap.le_trans h23 h34), rfl⟩, SL.into hS Xi⟩

/-! ### The argument -/
def okF6 (o : F6) : Prop := (∀ x ∈ o.b, inK .u8 x) ∧ ∀ x ∈ o.l, ∀ y ∈ x, inK .u8 y
def tF6 : GoT F6 := (tPair (tInt .i64) (tPair (tSlice (tInt .u8)) (tPair (tInt .i64) (tPair (tSlice (tSlice (tInt .u8))) tUnit)))).via fun o => (o.f, o.b, o.n, o.l, ())
theorem tF6_rd {w : World} {o : F6} {cs : List Value} (h : tF6.rd w Nob o cs) (ok : okF6 o) : ∃ x : F6V, cs = encF6 x ∧ F6Is (Heap.of w) x o := by
  obtain ⟨c1, c2, rfl, h1, c3, c4, rfl, h3, c5, c6, rfl, h5, c7, c8, rfl, h7, h8⟩ := h
  have h1' : c1 = [.int .i64 o.f] := h1
  obtain ⟨bv, h3', hbv⟩ : ∃ v, c3 = [v] ∧ RdS (tInt .u8) w Nob o.b v := h3
  have h5' : c5 = [.int .i64 o.n] := h5
  obtain ⟨lv, h7', hlv⟩ : ∃ v, c7 = [v] ∧ RdS (tSlice (tInt .u8)) w Nob o.l v := h7
  have h8' : c8 = [] := h8
  subst h1' h3' h5' h7' h8'
  exact ⟨⟨o.f, o.n, bv, lv⟩, rfl, hbv.ints.toB ok.1, hlv.bytes ok.2⟩
theorem RdF6.of {w : World} {l : List F6} {v : Value} (h : RdS tF6 w Nob l v) (ok : ∀ o ∈ l, okF6 o) : RdF6 (Heap.of w) v l := by
  obtain ⟨css, h1, h2, h3⟩ := RdS.cellsN h (by decide)
  have hex : ∀ i, ∃ x : F6V, ∀ (h : i < l.length) (h' : i < css.length), css[i] = encF6 x ∧ F6Is (Heap.of w) x l[i] := fun i => by
    by_cases hi : i < l.length
    · obtain ⟨x, e, hx⟩ := tF6_rd (h3 i hi (by omega)) (ok _ (List.getElem_mem hi))
      exact ⟨x, fun _ _ => ⟨e, hx⟩⟩
    · exact ⟨⟨0, 0, .slice none 0 0, .slice none 0 0⟩, fun h => absurd h hi⟩
  obtain ⟨f, hf⟩ := Classical.axiomOfChoice hex
  refine ⟨(List.range l.length).map f, by simp, ?_, fun i hi hi' => by simpa using (hf i hi (by omega)).2⟩
  have e : css = ((List.range l.length).map f).map encF6 := List.ext_getElem (by simp [h1]) fun i g1 g2 => by simpa using (hf i (by omega) g1).1
  rw [e] at h2
  exact h2
theorem sum_ones6 : ∀ l : List Int, (l.map fun _ => 1).sum = l.length
  | [] => rfl
  | x :: l => by rw [List.map_cons, List.sum_cons, sum_ones6 l, List.length_cons]; omega
def szF6 (o : F6) : Nat := 1 + o.b.length + (o.l.map fun x => x.length).sum
theorem f6Opens : OpensB Tryz.prog 34 tF6 okF6 szF6 :=
  opensB_ok (opensB_via (fun o : F6 => (o.f, o.b, o.n, o.l, ())) (fun x => ⟨x.1, x.2.1, x.2.2.1, x.2.2.2.1⟩) (fun _ => rfl)
    (opensB_struct Tryz.underlying34 (by kernel_rfl) (fieldsB_cons (opensB_int Tryz.underlying3 (by kernel_rfl)) rfl
      (fieldsB_cons (opensB_slice (opensB_int Tryz.underlying5 (by kernel_rfl)) Tryz.underlying31 (by kernel_rfl) (by decide)) rfl
      (fieldsB_cons (opensB_int Tryz.underlying2 (by kernel_rfl)) rfl
      (fieldsB_cons (opensB_slice (opensB_slice (opensB_int Tryz.underlying5 (by kernel_rfl)) Tryz.underlying31 (by kernel_rfl) (by decide)) Tryz.underlying32 (by kernel_rfl) (by decide)) rfl (fieldsB_nil _ _)))))))
    (fun o h => ⟨h.2.1, h.2.2.2.1⟩) (fun o => by unfold szF6; simp only [sum_ones6]; omega)
theorem sum_ge6 {α : Type} {f : α → Nat} : ∀ (l : List α) (x : α), x ∈ l → f x ≤ (l.map f).sum
  | y :: l, x, h => by
    rw [List.map_cons, List.sum_cons]
    rcases List.mem_cons.1 h with rfl | h
    · omega
    · have := sum_ge6 (f := f) l x h; omega
theorem sum_len6 {α : Type} {f : α → Nat} (h1 : ∀ x, 1 ≤ f x) : ∀ (l : List α), l.length ≤ (l.map f).sum
  | [] => Nat.zero_le _
  | y :: l => by
    rw [List.map_cons, List.sum_cons, List.length_cons]
    have := sum_len6 h1 l; have := h1 y; omega
theorem walOpens_law (base n : Int) (l : List F6) (ok : ∀ o ∈ l, okF6 o) (v : Value) (w : World) (hl : RdS tF6 w Nob l v) (hs : (l.map szF6).sum ≤ 1048576) :
    Calls Tryz.prog 3 #[.int .i64 base, .int .i64 n, v] w fun e w' => e = .returned (.bool true) ∧ Below w.heap.size w w' := by
  refine (law_of_spec (walOpens_spec 1048576 rfl (Heap.of w) base n v l (RdF6.of hl ok) (Nat.le_trans (sum_len6 (fun o => by unfold szF6; omega) l) hs) (fun o ho => ?_))).calls
  have h1 := Nat.le_trans (sum_ge6 (f := szF6) l o ho) hs
  refine ⟨by unfold szF6 at h1; omega, fun p hp => ?_⟩
  obtain ⟨x, hx, rfl⟩ := List.mem_map.1 hp
  have h2 := sum_ge6 (f := fun x : List Int => x.length) o.l x hx
  rw [List.length_map]
  unfold szF6 at h1; omega
end Go.Proofs.YtmcglicbolhmfaaGreat
