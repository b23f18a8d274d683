/-
  My own small library: structs as descriptors; a law's arguments opened by descriptors; and the frame of a law's row: from a walk that ends in 'true' and leaves old memory alone to the row's postcondition.
-/
import Derived.Test.YthjnknpgcmmapaaLib2
import Derived.ProofKit
import Derived.OpenShut
import Derived.SizedLaws
import Derived.Deep.Slices
import Derived.JoinedCond
namespace Go.Proofs.Ythjnknpgcmmapaa
set_option linter.unusedVariables false
open Go.RowKit Go.ChangeShapes Go.WideShapes Go.ChangeAt

/-! ### Structs -/
def tUnit : GoT Unit := .plain 0 (fun _ => []) (fun _ => rfl) (fun _ u hu => by cases hu)

def tPair {α β : Type} (S : GoT α) (T : GoT β) : GoT (α × β) where
  n := S.n + T.n
  rd := fun w M x cs => ∃ c1 c2, cs = c1 ++ c2 ∧ S.rd w M x.1 c1 ∧ T.rd w M x.2 c2
  len := fun ⟨c1, c2, h, h1, h2⟩ => by rw [h, List.length_append, S.len h1, T.len h2]
  one := fun ⟨c1, c2, h, h1, h2⟩ u hu => by
    subst h
    rcases List.mem_append.1 hu with hu | hu
    · exact S.one h1 u hu
    · exact T.one h2 u hu
  keep := fun ⟨c1, c2, h, h1, h2⟩ hf hM => ⟨c1, c2, h, S.keep h1 hf hM, T.keep h2 hf hM⟩

def GoT.via {α β : Type} (T : GoT α) (f : β → α) : GoT β where
  n := T.n
  rd := fun w M y cs => T.rd w M (f y) cs
  len := fun h => T.len h
  one := fun h => T.one h
  keep := fun h => T.keep h

/-! ### Arguments, opened by descriptors -/
def Small {H : Type} (P : Program) (t : TypeId) (d : DataW H) : Prop := (d.weights P t).all (· ≤ reachBytes) = true

def Opens {α : Type} (P : Program) (t : TypeId) (T : GoT α) (ok : α → Prop) : Prop :=
  P.cellsOf t = T.n ∧ ∀ {H : Type} (enc : TypeId × Value → H) (w : World) (sp : Nat → Bool) (hd : Bool) (fuel : Nat) (cs : List Value) (x : DataW H × List MemPlace),
    DataW.trod enc P w 0 sp hd fuel t cs = some x → Small P t x.1 → ∃ a, T.rd w Nob a cs ∧ ok a

def inK (k : IntKind) (n : Int) : Prop := (Lit.int k n).wf = true
theorem inK_i64 {n : Int} (h : inK .i64 n) : -9223372036854775808 ≤ n ∧ n ≤ 9223372036854775807 := by
  simpa [inK, Lit.wf, IntKind.min, IntKind.max, IntKind.signed, IntKind.bits] using h
theorem inK_u8 {n : Int} (h : inK .u8 n) : 0 ≤ n ∧ n ≤ 255 := by
  simpa [inK, Lit.wf, IntKind.min, IntKind.max, IntKind.signed, IntKind.bits] using h

theorem opens_int {P : Program} {t : TypeId} {k : IntKind} (ht : P.underlying t = some (.int k)) (hc : P.cellsOf t = 1) : Opens P t (tInt k) (inK k) :=
  ⟨hc, fun enc w sp hd fuel cs x h _ => by
    obtain ⟨n, rfl, rfl, hw⟩ := DataW.trod_int ht h
    exact ⟨n, rfl, hw⟩⟩
theorem opens_bool {P : Program} {t : TypeId} (ht : P.underlying t = some .bool) (hc : P.cellsOf t = 1) : Opens P t tBool (fun _ => True) :=
  ⟨hc, fun enc w sp hd fuel cs x h _ => by
    obtain ⟨n, rfl, rfl⟩ := DataW.trod_bool ht h
    exact ⟨n, rfl, trivial⟩⟩
def okStr (s : ByteArray) : Prop := s.size ≤ 140737488351232
theorem opens_str {P : Program} {t : TypeId} (ht : P.underlying t = some .string) (hc : P.cellsOf t = 1) : Opens P t tStr okStr :=
  ⟨hc, fun enc w sp hd fuel cs x h hs => by
    obtain ⟨n, rfl, rfl, hw⟩ := DataW.trod_string ht h
    refine ⟨n, rfl, ?_⟩
    simp [Small, DataW.weights, reachBytes] at hs
    exact (of_decide_eq_true hs : n.size ≤ 140737488351232)⟩

def okSlice {α : Type} (b : Nat) (ok : α → Prop) (xs : List α) : Prop := xs.length * b ≤ 140737488351232 ∧ ∀ x ∈ xs, ok x

theorem weightsAll_mem {H : Type} {P : Program} {e : TypeId} {n : Nat} : ∀ {l : List (DataW H)}, (DataW.weightsAll P e l).all (· ≤ n) = true → ∀ d ∈ l, (d.weights P e).all (· ≤ n) = true
  | [], _, _, h => by cases h
  | x :: r, h, d, hd => by
    simp only [DataW.weightsAll, List.all_append, Bool.and_eq_true] at h
    rcases List.mem_cons.1 hd with rfl | hd
    · exact h.1
    · exact weightsAll_mem h.2 d hd

theorem choose_list {α : Type} {p : Nat → α → Prop} : ∀ (n : Nat), (∀ i, i < n → ∃ y, p i y) → ∃ ys : List α, ys.length = n ∧ ∀ i (h : i < ys.length), p i ys[i]
  | 0, _ => ⟨[], rfl, fun i h => by simp at h⟩
  | n + 1, h => by
    obtain ⟨ys, hl, hy⟩ := choose_list n (fun i hi => h i (by omega))
    obtain ⟨y, hy'⟩ := h n (by omega)
    refine ⟨ys ++ [y], by simp [hl], fun i hi => ?_⟩
    by_cases hlt : i < ys.length
    · rw [List.getElem_append_left hlt]; exact hy i hlt
    · have : i = n := by simp at hi; omega
      subst this
      rw [List.getElem_append_right (by omega)]
      simpa [hl] using hy'

theorem opens_slice {α : Type} {P : Program} {t e : TypeId} {T : GoT α} {ok : α → Prop} {b : Nat} (h : Opens P e T ok) (ht : P.underlying t = some (.slice e)) (hc : P.cellsOf t = 1) (hb : P.bytesOf e = b) (hpos : 0 < T.n) : Opens P t (tSlice T) (okSlice b ok) := by
  refine ⟨hc, fun enc w sp hd fuel cs x hx hs => ?_⟩
  rcases Go.Deep.open_slice ht hx with ⟨rfl, rfl⟩ | ⟨a, len, cap, m, n, D, Pl, rfl, _, hl, hm, hmm, rfl, hel⟩
  · exact ⟨[], ⟨_, rfl, RdS.nil T w Nob⟩, by simp, fun x hx => by cases hx⟩
  · have hle : len ≤ m := by rw [hmm]; split <;> omega
    simp only [Small, DataW.weights, ht, hb, List.all_cons, List.all_append, Bool.and_eq_true, decide_eq_true_eq, List.length_map, List.length_range] at hs
    have hel' : ∀ i, i < len → ∃ y : α, ok y ∧ ∃ cs', T.rd w Nob y cs' ∧ At w Nob a.block (a.off + i * T.n) cs' ∧ a = ⟨a.block, a.off, none⟩ := fun i hi => by
      obtain ⟨cs', h1, h2⟩ := hel i (by omega)
      obtain ⟨y, hy, hok⟩ := h.2 enc w sp hd n cs' _ h2 (weightsAll_mem hs.2.1 _ (List.mem_map.2 ⟨i, by simpa using hi, rfl⟩))
      obtain ⟨_, hlen, hcell⟩ := World.cells?_some h1
      have hsp : a.spot = none := by
        have h0 := hcell 0 (by rw [h.1]; exact hpos)
        rw [List.getElem?_eq_getElem (by rw [hlen, h.1]; exact hpos)] at h0
        cases hsp : a.spot with
        | none => rfl
        | some q =>
          exfalso
          by_cases hi0 : i * P.cellsOf e = 0
          · simp [Addr.add, hi0, World.cell?, hsp] at h0
            split at h0 <;> cases h0
          · have h00 := hel 0 (by omega)
            obtain ⟨cs0, h10, _⟩ := h00
            obtain ⟨_, hlen0, hcell0⟩ := World.cells?_some h10
            have h0' := hcell0 0 (by rw [h.1]; exact hpos)
            rw [List.getElem?_eq_getElem (by rw [hlen0, h.1]; exact hpos)] at h0'
            simp [Addr.add, World.cell?, hsp] at h0'
            split at h0' <;> cases h0'
      obtain ⟨ab, ao, asp⟩ := a
      simp only at hsp
      subst hsp
      refine ⟨y, hok, cs', hy, ⟨fun _ x => x, fun j u hu => ?_⟩, rfl⟩
      have hj := (List.getElem?_eq_some_iff.1 hu).1
      have := hcell j (by omega)
      rw [Addr.add_lit, Addr.add_lit, hu, h.1] at this
      exact this
    obtain ⟨ys, hyl, hy⟩ := choose_list len hel'
    subst hyl
    refine ⟨ys, ⟨_, rfl, some a, cap, rfl, hl, fun i hi => ?_⟩, ?_, fun x hx => ?_⟩
    · obtain ⟨_, cs', h1, h2, h3⟩ := hy i hi
      exact ⟨a.block, a.off, cs', congrArg some h3, h1, h2⟩
    · have := hs.1
      simp only [reachBytes] at this
      rw [Nat.add_mul] at this
      omega
    · obtain ⟨i, hi, rfl⟩ := List.getElem_of_mem hx
      exact (hy i hi).1

/-! ### The fields of a struct -/
def FieldsOpen {α : Type} (P : Program) (fs : List Field) (o : Nat) (T : GoT α) (ok : α → Prop) : Prop :=
  ∀ {H : Type} (enc : TypeId × Value → H) (w : World) (sp : Nat → Bool) (hd : Bool) (n : Nat) (cs : List Value) (xs : List (DataW H × List MemPlace)), xs.length = fs.length →
    (∀ (i : Nat) (f : Field), fs[i]? = some f → DataW.trod enc P w 0 sp hd n f.type ((cs.drop f.offset).take (P.cellsOf f.type)) = xs[i]?) →
    (DataW.weightsEach P (fs.map (·.type)) (xs.map (·.1))).all (· ≤ reachBytes) = true → cs.length = o + T.n → ∃ a, T.rd w Nob a (cs.drop o) ∧ ok a

theorem fields_nil (P : Program) (o : Nat) : FieldsOpen P [] o tUnit (fun _ => True) := fun enc w sp hd n cs xs _ _ _ hl => ⟨(), by
  show cs.drop o = []
  rw [List.drop_eq_nil_iff]; have : tUnit.n = 0 := rfl; omega, trivial⟩

theorem fields_cons {α β : Type} {P : Program} {f : Field} {fs : List Field} {o : Nat} {S : GoT α} {T : GoT β} {ok1 : α → Prop} {ok2 : β → Prop} (h1 : Opens P f.type S ok1) (ho : f.offset = o) (h2 : FieldsOpen P fs (o + S.n) T ok2) :
    FieldsOpen P (f :: fs) o (tPair S T) (fun x => ok1 x.1 ∧ ok2 x.2) := fun enc w sp hd n cs xs hl hx hs hc => by
  match xs, hl with
  | y :: ys, hl =>
    have hcn : (tPair S T).n = S.n + T.n := rfl
    simp only [List.map_cons, DataW.weightsEach, List.all_append, Bool.and_eq_true] at hs
    have e0 := hx 0 f rfl
    rw [ho, h1.1] at e0
    obtain ⟨a, ha, hoka⟩ := h1.2 enc w sp hd n _ y e0 hs.1
    obtain ⟨b, hb, hokb⟩ := h2 enc w sp hd n cs ys (by simpa using hl) (fun i g hg => by simpa using hx (i + 1) g (by simpa using hg)) hs.2 (by omega)
    refine ⟨(a, b), ⟨_, _, ?_, ha, hb⟩, hoka, hokb⟩
    rw [← List.drop_drop]
    exact (List.take_append_drop _ _).symm

theorem opens_struct {α : Type} {P : Program} {t : TypeId} {fs : Array Field} {T : GoT α} {ok : α → Prop} (ht : P.underlying t = some (.struct fs)) (hc : P.cellsOf t = T.n) (h : FieldsOpen P fs.toList 0 T ok) : Opens P t T ok :=
  ⟨hc, fun enc w sp hd fuel cs x hx hs => by
    obtain ⟨xs, n, _, rfl, hl, hlen, hf⟩ := DataW.trod_struct ht hx
    simp only [Small, DataW.weights, ht] at hs
    obtain ⟨a, ha, hok⟩ := h enc w sp hd n cs xs (by simpa using hlen) (fun i f hi => hf i f (by simpa using hi)) hs (by omega)
    exact ⟨a, by simpa using ha, hok⟩⟩

theorem opens_via {α β : Type} {P : Program} {t : TypeId} {T : GoT α} {ok : α → Prop} (f : β → α) (g : α → β) (hg : ∀ a, f (g a) = a) (h : Opens P t T ok) : Opens P t (T.via f) (fun b => ok (f b)) :=
  ⟨h.1, fun enc w sp hd fuel cs x hx hs => by
    obtain ⟨a, ha, hok⟩ := h.2 enc w sp hd fuel cs x hx hs
    exact ⟨g a, by show T.rd w Nob (f (g a)) cs; rw [hg]; exact ha, by show ok (f (g a)); rw [hg]; exact hok⟩⟩

theorem opens_ok {α : Type} {P : Program} {t : TypeId} {T : GoT α} {ok ok' : α → Prop} (h : Opens P t T ok) (hi : ∀ a, ok a → ok' a) : Opens P t T ok' :=
  ⟨h.1, fun enc w sp hd fuel cs x hx hs => let ⟨a, ha, hok⟩ := h.2 enc w sp hd fuel cs x hx hs; ⟨a, ha, hi a hok⟩⟩

/-! ### A law's row -/
/-- What a law's walk shows. -/
def LawTrue (P : Program) (f : FuncId) (args : Array Value) (w : World) : Prop := Calls P f args w fun e w' => e = .returned (.bool true) ∧ Fr Nob w w'

theorem trodAll_below {H : Type} {enc : TypeId × Value → H} {P : Program} (hl : laidOutB P = true) {W W' : World} (hb : Below W.heap.size W W') : ∀ {ts : List TypeId} {vs : List Value} {ds : List (DataW H)} {ps : List MemPlace},
    (∀ t ∈ ts, P.readableRec t = true ∧ t < P.types.size) → DataW.TrodAll enc P W 0 (fun _ => true) true ts vs ds ps → (∀ x ∈ ps, x.block < W.heap.size) → DataW.TrodAll enc P W' 0 (fun b => decide (b < W.heap.size)) true ts vs ds ps
  | [], _, _, _, _, h, _ => by
    obtain ⟨rfl, rfl, rfl⟩ := trodAll_nil h
    exact trodAll_mk0
  | t :: ts, _, _, _, hr, h, hlt => by
    obtain ⟨v, vs1, d, ds1, a, b, rfl, rfl, rfl, h1, h2⟩ := trodAll_cons h
    exact ⟨a, b, Below.trod hl (hr t (by simp)).1 (hr t (by simp)).2 h1 hb (fun x hx => hlt x (by simp [hx])), trodAll_below hl hb (fun t ht => hr t (by simp [ht])) h2 (fun x hx => hlt x (by simp [hx])), rfl⟩

theorem law_post {H : Type} {enc : TypeId × Value → H} {P : Program} {f : Func} {s : ChangeSpec} {tb : TypeId} (hl : laidOutB P = true) (hr : ∀ t ∈ f.params.toList, P.readableRec t = true ∧ t < P.types.size)
    (hvars : s.vars = []) (hres : f.resultTypes = #[tb]) (hb : P.underlying tb = some .bool) (hfn : ∀ ds : List (DataW H), ds.length = f.params.size → (s.fn H ds).results = [.lit (.bool true)] ∧ (s.fn H ds).args = ds ∧ (s.fn H ds).vars = [])
    {W W' : World} {args : Array Value} {ds gs : List (DataW H)} {before : List MemPlace} (hW : DataW.Whole enc P f.params.toList s.vars false W args.toList ds gs before) (hbel : Below W.heap.size W W') :
    s.post enc P f false true false false W args (.bool true) W' := by
  have hlt := hW.lt
  have hW' := hW
  obtain ⟨p, q, hA, hV, rfl, hfz, _⟩ := hW
  rw [hvars] at hV
  obtain ⟨rfl, rfl⟩ := trodVars_none hV
  have hlen : ∀ {ts : List TypeId} {vs : List Value} {ds : List (DataW H)} {ps : List MemPlace} {w : World} {base : Nat} {sp : Nat → Bool} {hd : Bool}, DataW.TrodAll enc P w base sp hd ts vs ds ps → ds.length = ts.length := by
    intro ts
    induction ts with
    | nil => intro vs ds ps w base sp hd h; obtain ⟨rfl, rfl, rfl⟩ := trodAll_nil h; rfl
    | cons t ts ih => intro vs ds ps w base sp hd h; obtain ⟨v, vs1, d, ds1, a, b, rfl, rfl, rfl, _, h2⟩ := trodAll_cons h; simp [ih h2]
  obtain ⟨e1, e2, e3⟩ := hfn ds (by simpa using hlen hA)
  refine ⟨ds, [], p ++ [], [], p, [], hW', ?_, ?_, ?_, hbel.frame _, fun h => by cases h⟩
  · rw [List.append_nil, e1, hres]
    exact trodAll_mk1 (shut_bool hb true)
  · rw [List.append_nil, e2]
    exact trodAll_below hl hbel hr hA (fun x hx => hlt x (by simp [hx]))
  · rw [List.append_nil, e3, hvars]
    rfl

/-! ### One argument -/
def isFlat : Option TypeDesc → Bool
  | some .bool | some (.int _) | some .string | some (.slice _) => true
  | _ => false

theorem flat_one {P : Program} {w : World} {r : Reach} {b0 : Nat} {t : TypeId} {v : Value} (hf : isFlat (P.underlying t) = true) (hval : Value.okWide P w r b0 t v) : v.cells.toList = [v] := by
  unfold Value.okWide at hval
  cases hu : P.underlying t with
  | none => rw [hu] at hf; cases hf
  | some d =>
    rw [hu] at hf hval
    cases d <;> first | (cases hf; done) | (unfold Cell.okWide Cell.ok at hval; rw [hu] at hval; cases v <;> first | rfl | (exfalso; simp_all))

theorem arg_one {α : Type} {P : Program} {t : TypeId} {T : GoT α} {ok : α → Prop} {H : Type} {enc : TypeId × Value → H} {W : World} {r : Reach} {b0 : Nat} {v : Value} {d : DataW H} {ps : List MemPlace} {sp : Nat → Bool} {hd : Bool}
    (h : Opens P t T ok) (hf : isFlat (P.underlying t) = true) (hval : Value.okWide P W r b0 t v) (h0 : DataW.Trod enc P W 0 sp hd t v d ps) (hs : Small P t d) : ∃ a, T.rd W Nob a [v] ∧ ok a := by
  obtain ⟨fuel, hx⟩ := h0
  rw [flat_one hf hval] at hx
  exact h.2 enc W sp hd fuel [v] _ hx hs

theorem arg_agg {α : Type} {P : Program} {t : TypeId} {fs : Array Field} {T : GoT α} {ok : α → Prop} {H : Type} {enc : TypeId × Value → H} {W : World} {r : Reach} {b0 : Nat} {v : Value} {d : DataW H} {ps : List MemPlace} {sp : Nat → Bool} {hd : Bool}
    (h : Opens P t T ok) (ht : P.underlying t = some (.struct fs)) (hval : Value.okWide P W r b0 t v) (h0 : DataW.Trod enc P W 0 sp hd t v d ps) (hs : Small P t d) : ∃ a cs, v = .agg cs ∧ T.rd W Nob a cs.toList ∧ ok a := by
  obtain ⟨fuel, hx⟩ := h0
  unfold Value.okWide at hval
  rw [ht] at hval
  obtain ⟨cs, rfl, _⟩ := hval
  obtain ⟨a, h1, h2⟩ := h.2 enc W sp hd fuel _ _ hx hs
  exact ⟨a, cs, rfl, h1, h2⟩
end Go.Proofs.Ythjnknpgcmmapaa
