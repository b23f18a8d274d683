/-
  Texts of the proof, joined: Lib3, LawS, FldS3, Sl8, SegS, SegS2, R01S, R01S2, RefD, RefD2, RefD3, RefD4, WalM, WalP, WalP2, WalP3.
-/
import Derived.Test.YtmcglicbolhmfaaGreatJ7
import Derived.ProofKit
import Derived.OpenShut
import Derived.SizedLaws
import Derived.Deep.Slices
import Derived.JoinedCond
import Derived.Test.YtmcglicbolhmfaaGreatVcM
namespace Go.Proofs.YtmcglicbolhmfaaGreat
set_option linter.unusedVariables false
open Go.RowKit Go.ChangeShapes Go.WideShapes Go.ChangeAt

/-! ### Structs -/
def tUnit : GoT Unit := .plain 0 (fun _ => []) (fun _ => rfl) (fun _ u hu => by cases hu)

def tPair {α β : Type} (S : GoT α) (T : GoT β) : GoT (α × β) where
  n := S.n + T.n
  rd := fun w M x cs => ∃ c1 c2, cs = c1 ++ c2 ∧ S.rd w M x.1 c1 ∧ T.rd w M x.2 c2
  len := fun ⟨c1, c2, h, h1, h2⟩ => by rw [h, List.length_append, S.len h1, T.len h2]
  one := fun ⟨c1, c2, h, h1, h2⟩ u hu => by
    subst h
    rcases List.mem_append.1 hu with hu | hu
    · exact S.one h1 u hu
    · exact T.one h2 u hu
  keep := fun ⟨c1, c2, h, h1, h2⟩ hf hM => ⟨c1, c2, h, S.keep h1 hf hM, T.keep h2 hf hM⟩

def GoT.via {α β : Type} (T : GoT α) (f : β → α) : GoT β where
  n := T.n
  rd := fun w M y cs => T.rd w M (f y) cs
  len := fun h => T.len h
  one := fun h => T.one h
  keep := fun h => T.keep h

/-! ### Arguments, opened by descriptors -/
def Small {H : Type} (P : Program) (t : TypeId) (d : DataW H) : Prop := (d.weights P t).all (· ≤ reachBytes) = true

def Opens {α : Type} (P : Program) (t : TypeId) (T : GoT α) (ok : α → Prop) : Prop :=
  P.cellsOf t = T.n ∧ ∀ {H : Type} (enc : TypeId × Value → H) (w : World) (sp : Nat → Bool) (hd : Bool) (fuel : Nat) (cs : List Value) (x : DataW H × List MemPlace),
    DataW.trod enc P w 0 sp hd fuel t cs = some x → Small P t x.1 → ∃ a, T.rd w Nob a cs ∧ ok a

def inK (k : IntKind) (n : Int) : Prop := (Lit.int k n).wf = true
theorem inK_i64 {n : Int} (h : inK .i64 n) : -9223372036854775808 ≤ n ∧ n ≤ 9223372036854775807 := by
  simpa [inK, Lit.wf, IntKind.min, IntKind.max, IntKind.signed, IntKind.bits] using h
theorem inK_u8 {n : Int} (h : inK .u8 n) : 0 ≤ n ∧ n ≤ 255 := by
  simpa [inK, Lit.wf, IntKind.min, IntKind.max, IntKind.signed, IntKind.bits] using h

theorem opens_int {P : Program} {t : TypeId} {k : IntKind} (ht : P.underlying t = some (.int k)) (hc : P.cellsOf t = 1) : Opens P t (tInt k) (inK k) :=
  ⟨hc, fun enc w sp hd fuel cs x h _ => by
    obtain ⟨n, rfl, rfl, hw⟩ := DataW.trod_int ht h
    exact ⟨n, rfl, hw⟩⟩
theorem opens_bool {P : Program} {t : TypeId} (ht : P.underlying t = some .bool) (hc : P.cellsOf t = 1) : Opens P t tBool (fun _ => True) :=
  ⟨hc, fun enc w sp hd fuel cs x h _ => by
    obtain ⟨n, rfl, rfl⟩ := DataW.trod_bool ht h
    exact ⟨n, rfl, trivial⟩⟩
def okStr (s : ByteArray) : Prop := s.size ≤ 140737488351232
theorem opens_str {P : Program} {t : TypeId} (ht : P.underlying t = some .string) (hc : P.cellsOf t = 1) : Opens P t tStr okStr :=
  ⟨hc, fun enc w sp hd fuel cs x h hs => by
    obtain ⟨n, rfl, rfl, hw⟩ := DataW.trod_string ht h
    refine ⟨n, rfl, ?_⟩
    simp [Small, DataW.weights, reachBytes] at hs
    exact (of_decide_eq_true hs : n.size ≤ 140737488351232)⟩

def okSlice {α : Type} (b : Nat) (ok : α → Prop) (xs : List α) : Prop := xs.length * b ≤ 140737488351232 ∧ ∀ x ∈ xs, ok x

theorem weightsAll_mem {H : Type} {P : Program} {e : TypeId} {n : Nat} : ∀ {l : List (DataW H)}, (DataW.weightsAll P e l).all (· ≤ n) = true → ∀ d ∈ l, (d.weights P e).all (· ≤ n) = true
  | [], _, _, h => by cases h
  | x :: r, h, d, hd => by
    simp only [DataW.weightsAll, List.all_append, Bool.and_eq_true] at h
    rcases List.mem_cons.1 hd with rfl | hd
    · exact h.1
    · exact weightsAll_mem h.2 d hd

theorem choose_list {α : Type} {p : Nat → α → Prop} : ∀ (n : Nat), (∀ i, i < n → ∃ y, p i y) → ∃ ys : List α, ys.length = n ∧ ∀ i (h : i < ys.length), p i ys[i]
  | 0, _ => ⟨[], rfl, fun i h => by simp at h⟩
  | n + 1, h => by
    obtain ⟨ys, hl, hy⟩ := choose_list n (fun i hi => h i (by omega))
    obtain ⟨y, hy'⟩ := h n (by omega)
    refine ⟨ys ++ [y], by simp [hl], fun i hi => ?_⟩
    by_cases hlt : i < ys.length
    · rw [List.getElem_append_left hlt]; exact hy i hlt
    · have : i = n := by simp at hi; omega
      subst this
      rw [List.getElem_append_right (by omega)]
      simpa [hl] using hy'

theorem opens_slice {α : Type} {P : Program} {t e : TypeId} {T : GoT α} {ok : α → Prop} {b : Nat} (h : Opens P e T ok) (ht : P.underlying t = some (.slice e)) (hc : P.cellsOf t = 1) (hb : P.bytesOf e = b) (hpos : 0 < T.n) : Opens P t (tSlice T) (okSlice b ok) := by
  refine ⟨hc, fun enc w sp hd fuel cs x hx hs => ?_⟩
  rcases Go.Deep.open_slice ht hx with ⟨rfl, rfl⟩ | ⟨a, len, cap, m, n, D, Pl, rfl, _, hl, hm, hmm, rfl, hel⟩
  · exact ⟨[], ⟨_, rfl, RdS.nil T w Nob⟩, by simp, fun x hx => by cases hx⟩
  · have hle : len ≤ m := by rw [hmm]; split <;> omega
    simp only [Small, DataW.weights, ht, hb, List.all_cons, List.all_append, Bool.and_eq_true, decide_eq_true_eq, List.length_map, List.length_range] at hs
    have hel' : ∀ i, i < len → ∃ y : α, ok y ∧ ∃ cs', T.rd w Nob y cs' ∧ At w Nob a.block (a.off + i * T.n) cs' ∧ a = ⟨a.block, a.off, none⟩ := fun i hi => by
      obtain ⟨cs', h1, h2⟩ := hel i (by omega)
      obtain ⟨y, hy, hok⟩ := h.2 enc w sp hd n cs' _ h2 (weightsAll_mem hs.2.1 _ (List.mem_map.2 ⟨i, by simpa using hi, rfl⟩))
      obtain ⟨_, hlen, hcell⟩ := World.cells?_some h1
      have hsp : a.spot = none := by
        have h0 := hcell 0 (by rw [h.1]; exact hpos)
        rw [List.getElem?_eq_getElem (by rw [hlen, h.1]; exact hpos)] at h0
        cases hsp : a.spot with
        | none => rfl
        | some q =>
          exfalso
          by_cases hi0 : i * P.cellsOf e = 0
          · simp [Addr.add, hi0, World.cell?, hsp] at h0
            split at h0 <;> cases h0
          · have h00 := hel 0 (by omega)
            obtain ⟨cs0, h10, _⟩ := h00
            obtain ⟨_, hlen0, hcell0⟩ := World.cells?_some h10
            have h0' := hcell0 0 (by rw [h.1]; exact hpos)
            rw [List.getElem?_eq_getElem (by rw [hlen0, h.1]; exact hpos)] at h0'
            simp [Addr.add, World.cell?, hsp] at h0'
            split at h0' <;> cases h0'
      obtain ⟨ab, ao, asp⟩ := a
      simp only at hsp
      subst hsp
      refine ⟨y, hok, cs', hy, ⟨fun _ x => x, fun j u hu => ?_⟩, rfl⟩
      have hj := (List.getElem?_eq_some_iff.1 hu).1
      have := hcell j (by omega)
      rw [Addr.add_lit, Addr.add_lit, hu, h.1] at this
      exact this
    obtain ⟨ys, hyl, hy⟩ := choose_list len hel'
    subst hyl
    refine ⟨ys, ⟨_, rfl, some a, cap, rfl, hl, fun i hi => ?_⟩, ?_, fun x hx => ?_⟩
    · obtain ⟨_, cs', h1, h2, h3⟩ := hy i hi
      exact ⟨a.block, a.off, cs', congrArg some h3, h1, h2⟩
    · have := hs.1
      simp only [reachBytes] at this
      rw [Nat.add_mul] at this
      omega
    · obtain ⟨i, hi, rfl⟩ := List.getElem_of_mem hx
      exact (hy i hi).1

/-! ### The fields of a struct -/
def FieldsOpen {α : Type} (P : Program) (fs : List Field) (o : Nat) (T : GoT α) (ok : α → Prop) : Prop :=
  ∀ {H : Type} (enc : TypeId × Value → H) (w : World) (sp : Nat → Bool) (hd : Bool) (n : Nat) (cs : List Value) (xs : List (DataW H × List MemPlace)), xs.length = fs.length →
    (∀ (i : Nat) (f : Field), fs[i]? = some f → DataW.trod enc P w 0 sp hd n f.type ((cs.drop f.offset).take (P.cellsOf f.type)) = xs[i]?) →
    (DataW.weightsEach P (fs.map (·.type)) (xs.map (·.1))).all (· ≤ reachBytes) = true → cs.length = o + T.n → ∃ a, T.rd w Nob a (cs.drop o) ∧ ok a

theorem fields_nil (P : Program) (o : Nat) : FieldsOpen P [] o tUnit (fun _ => True) := fun enc w sp hd n cs xs _ _ _ hl => ⟨(), by
  show cs.drop o = []
  rw [List.drop_eq_nil_iff]; have : tUnit.n = 0 := rfl; omega, trivial⟩

theorem fields_cons {α β : Type} {P : Program} {f : Field} {fs : List Field} {o : Nat} {S : GoT α} {T : GoT β} {ok1 : α → Prop} {ok2 : β → Prop} (h1 : Opens P f.type S ok1) (ho : f.offset = o) (h2 : FieldsOpen P fs (o + S.n) T ok2) :
    FieldsOpen P (f :: fs) o (tPair S T) (fun x => ok1 x.1 ∧ ok2 x.2) := fun enc w sp hd n cs xs hl hx hs hc => by
  match xs, hl with
  | y :: ys, hl =>
    have hcn : (tPair S T).n = S.n + T.n := rfl
    simp only [List.map_cons, DataW.weightsEach, List.all_append, Bool.and_eq_true] at hs
    have e0 := hx 0 f rfl
    rw [ho, h1.1] at e0
    obtain ⟨a, ha, hoka⟩ := h1.2 enc w sp hd n _ y e0 hs.1
    obtain ⟨b, hb, hokb⟩ := h2 enc w sp hd n cs ys (by simpa using hl) (fun i g hg => by simpa using hx (i + 1) g (by simpa using hg)) hs.2 (by omega)
    refine ⟨(a, b), ⟨_, _, ?_, ha, hb⟩, hoka, hokb⟩
    rw [← List.drop_drop]
    exact (List.take_append_drop _ _).symm

theorem opens_struct {α : Type} {P : Program} {t : TypeId} {fs : Array Field} {T : GoT α} {ok : α → Prop} (ht : P.underlying t = some (.struct fs)) (hc : P.cellsOf t = T.n) (h : FieldsOpen P fs.toList 0 T ok) : Opens P t T ok :=
  ⟨hc, fun enc w sp hd fuel cs x hx hs => by
    obtain ⟨xs, n, _, rfl, hl, hlen, hf⟩ := DataW.trod_struct ht hx
    simp only [Small, DataW.weights, ht] at hs
    obtain ⟨a, ha, hok⟩ := h enc w sp hd n cs xs (by simpa using hlen) (fun i f hi => hf i f (by simpa using hi)) hs (by omega)
    exact ⟨a, by simpa using ha, hok⟩⟩

theorem opens_via {α β : Type} {P : Program} {t : TypeId} {T : GoT α} {ok : α → Prop} (f : β → α) (g : α → β) (hg : ∀ a, f (g a) = a) (h : Opens P t T ok) : Opens P t (T.via f) (fun b => ok (f b)) :=
  ⟨h.1, fun enc w sp hd fuel cs x hx hs => by
    obtain ⟨a, ha, hok⟩ := h.2 enc w sp hd fuel cs x hx hs
    exact ⟨g a, by show T.rd w Nob (f (g a)) cs; rw [hg]; exact ha, by show ok (f (g a)); rw [hg]; exact hok⟩⟩

theorem opens_ok {α : Type} {P : Program} {t : TypeId} {T : GoT α} {ok ok' : α → Prop} (h : Opens P t T ok) (hi : ∀ a, ok a → ok' a) : Opens P t T ok' :=
  ⟨h.1, fun enc w sp hd fuel cs x hx hs => let ⟨a, ha, hok⟩ := h.2 enc w sp hd fuel cs x hx hs; ⟨a, ha, hi a hok⟩⟩

/-! ### A law's row -/
/-- What a law's walk shows. -/
def LawTrue (P : Program) (f : FuncId) (args : Array Value) (w : World) : Prop := Calls P f args w fun e w' => e = .returned (.bool true) ∧ Fr Nob w w'

theorem trodAll_below {H : Type} {enc : TypeId × Value → H} {P : Program} (hl : laidOutB P = true) {W W' : World} (hb : Below W.heap.size W W') : ∀ {ts : List TypeId} {vs : List Value} {ds : List (DataW H)} {ps : List MemPlace},
    (∀ t ∈ ts, P.readableRec t = true ∧ t < P.types.size) → DataW.TrodAll enc P W 0 (fun _ => true) true ts vs ds ps → (∀ x ∈ ps, x.block < W.heap.size) → DataW.TrodAll enc P W' 0 (fun b => decide (b < W.heap.size)) true ts vs ds ps
  | [], _, _, _, _, h, _ => by
    obtain ⟨rfl, rfl, rfl⟩ := trodAll_nil h
    exact trodAll_mk0
  | t :: ts, _, _, _, hr, h, hlt => by
    obtain ⟨v, vs1, d, ds1, a, b, rfl, rfl, rfl, h1, h2⟩ := trodAll_cons h
    exact ⟨a, b, Below.trod hl (hr t (by simp)).1 (hr t (by simp)).2 h1 hb (fun x hx => hlt x (by simp [hx])), trodAll_below hl hb (fun t ht => hr t (by simp [ht])) h2 (fun x hx => hlt x (by simp [hx])), rfl⟩

theorem law_post {H : Type} {enc : TypeId × Value → H} {P : Program} {f : Func} {s : ChangeSpec} {tb : TypeId} (hl : laidOutB P = true) (hr : ∀ t ∈ f.params.toList, P.readableRec t = true ∧ t < P.types.size)
    (hvars : s.vars = []) (hres : f.resultTypes = #[tb]) (hb : P.underlying tb = some .bool) (hfn : ∀ ds : List (DataW H), ds.length = f.params.size → (s.fn H ds).results = [.lit (.bool true)] ∧ (s.fn H ds).args = ds ∧ (s.fn H ds).vars = [])
    {W W' : World} {args : Array Value} {ds gs : List (DataW H)} {before : List MemPlace} (hW : DataW.Whole enc P f.params.toList s.vars false W args.toList ds gs before) (hbel : Below W.heap.size W W') :
    s.post enc P f false true false false W args (.bool true) W' := by
  have hlt := hW.lt
  have hW' := hW
  obtain ⟨p, q, hA, hV, rfl, hfz, _⟩ := hW
  rw [hvars] at hV
  obtain ⟨rfl, rfl⟩ := trodVars_none hV
  have hlen : ∀ {ts : List TypeId} {vs : List Value} {ds : List (DataW H)} {ps : List MemPlace} {w : World} {base : Nat} {sp : Nat → Bool} {hd : Bool}, DataW.TrodAll enc P w base sp hd ts vs ds ps → ds.length = ts.length := by
    intro ts
    induction ts with
    | nil => intro vs ds ps w base sp hd h; obtain ⟨rfl, rfl, rfl⟩ := trodAll_nil h; rfl
    | cons t ts ih => intro vs ds ps w base sp hd h; obtain ⟨v, vs1, d, ds1, a, b, rfl, rfl, rfl, _, h2⟩ := trodAll_cons h; simp [ih h2]
  obtain ⟨e1, e2, e3⟩ := hfn ds (by simpa using hlen hA)
  refine ⟨ds, [], p ++ [], [], p, [], hW', ?_, ?_, ?_, hbel.frame _, fun h => by cases h⟩
  · rw [List.append_nil, e1, hres]
    exact trodAll_mk1 (shut_bool hb true)
  · rw [List.append_nil, e2]
    exact trodAll_below hl hbel hr hA (fun x hx => hlt x (by simp [hx]))
  · rw [List.append_nil, e3, hvars]
    rfl

/-! ### One argument -/
def isFlat : Option TypeDesc → Bool
  | some .bool | some (.int _) | some .string | some (.slice _) => true
  | _ => false

theorem flat_one {P : Program} {w : World} {r : Reach} {b0 : Nat} {t : TypeId} {v : Value} (hf : isFlat (P.underlying t) = true) (hval : Value.okWide P w r b0 t v) : v.cells.toList = [v] := by
  unfold Value.okWide at hval
  cases hu : P.underlying t with
  | none => rw [hu] at hf; cases hf
  | some d =>
    rw [hu] at hf hval
    cases d <;> first | (cases hf; done) | (unfold Cell.okWide Cell.ok at hval; rw [hu] at hval; cases v <;> first | rfl | (exfalso; simp_all))

theorem arg_one {α : Type} {P : Program} {t : TypeId} {T : GoT α} {ok : α → Prop} {H : Type} {enc : TypeId × Value → H} {W : World} {r : Reach} {b0 : Nat} {v : Value} {d : DataW H} {ps : List MemPlace} {sp : Nat → Bool} {hd : Bool}
    (h : Opens P t T ok) (hf : isFlat (P.underlying t) = true) (hval : Value.okWide P W r b0 t v) (h0 : DataW.Trod enc P W 0 sp hd t v d ps) (hs : Small P t d) : ∃ a, T.rd W Nob a [v] ∧ ok a := by
  obtain ⟨fuel, hx⟩ := h0
  rw [flat_one hf hval] at hx
  exact h.2 enc W sp hd fuel [v] _ hx hs

theorem arg_agg {α : Type} {P : Program} {t : TypeId} {fs : Array Field} {T : GoT α} {ok : α → Prop} {H : Type} {enc : TypeId × Value → H} {W : World} {r : Reach} {b0 : Nat} {v : Value} {d : DataW H} {ps : List MemPlace} {sp : Nat → Bool} {hd : Bool}
    (h : Opens P t T ok) (ht : P.underlying t = some (.struct fs)) (hval : Value.okWide P W r b0 t v) (h0 : DataW.Trod enc P W 0 sp hd t v d ps) (hs : Small P t d) : ∃ a cs, v = .agg cs ∧ T.rd W Nob a cs.toList ∧ ok a := by
  obtain ⟨fuel, hx⟩ := h0
  unfold Value.okWide at hval
  rw [ht] at hval
  obtain ⟨cs, rfl, _⟩ := hval
  obtain ⟨a, h1, h2⟩ := h.2 enc W sp hd fuel _ _ hx hs
  exact ⟨a, cs, rfl, h1, h2⟩
end Go.Proofs.YtmcglicbolhmfaaGreat
namespace Go.Proofs.YtmcglicbolhmfaaGreat
set_option linter.unusedVariables false
open Go.RowKit

/-- The law answers true, and what was there is as it was. -/
def LawS (P : Program) (f : FuncId) (args : List Value) (w : World) : Prop := HCall P f args w fun v w' => v = .bool true ∧ Below w.heap.size w w'
theorem law_of_spec {P : Program} {f : FuncId} {args : List Value} {w : World} (h : Spec P f args [.mem (Heap.of w)] fun v post => v = .bool true ∧ ∃ H l, (Heap.of w).le H ∧ post = .mem H :: l) : LawS P f args w := by
  refine (h w [] w (SL.init w)).mono ?_
  rintro v w' ⟨post, ⟨rfl, H, l, hH, rfl⟩, hS⟩
  exact ⟨rfl, hS.below (.hd) hH⟩
theorem LawS.calls {P : Program} {f : FuncId} {args : List Value} {w : World} (h : LawS P f args w) : Calls P f args.toArray w fun e w' => e = .returned (.bool true) ∧ Below w.heap.size w w' :=
  Calls.mono h fun e w' ⟨v, he, hv, hb⟩ => ⟨by rw [he, hv], hb⟩

/-- A slice argument of elements without memory behind them. -/
theorem RdS.flat {α : Type} {T : GoT α} {enc : α → List Value} {w : World} {xs : List α} {v : Value} (h : RdS T w Nob xs v) (he : ∀ {M x cs}, T.rd w M x cs → cs = enc x) (hn : ∀ x, (enc x).length = T.n) :
    RdSl (Heap.of w) T.n v xs.length (xs.map enc).flatten := by
  obtain ⟨a, cap, rfl, hc, hx⟩ := h.out
  have hlen : (xs.map enc).flatten.length = xs.length * T.n := by
    rw [flatten_length (n := T.n) _ (fun x hx => by obtain ⟨y, _, rfl⟩ := List.mem_map.1 hx; exact hn y), List.length_map]
  refine ⟨hlen, a, cap, rfl, hc, ?_⟩
  rcases Nat.eq_zero_or_pos xs.length with h0 | h0
  · exact .inl h0
  · right
    obtain ⟨b, off, _, rfl, _, _⟩ := hx 0 h0
    refine ⟨b, off, rfl, fun j u hu => ?_⟩
    have hj := (List.getElem?_eq_some_iff.1 hu).1
    rcases Nat.eq_zero_or_pos T.n with hz | hz
    · rw [hlen, hz] at hj; omega
    have hi : j / T.n < xs.length := by rw [hlen] at hj; exact (Nat.div_lt_iff_lt_mul hz).2 hj
    obtain ⟨b', off', cs, hab, hr, hat⟩ := hx (j / T.n) hi
    simp at hab
    obtain ⟨rfl, rfl⟩ := hab
    have hcs := he hr
    subst hcs
    have hmod : j % T.n < (enc xs[j / T.n]).length := by rw [hn]; exact Nat.mod_lt _ hz
    have hg := flatten_get (n := T.n) (xs.map enc) (fun x hx => by obtain ⟨y, _, rfl⟩ := List.mem_map.1 hx; exact hn y) (j / T.n) (j % T.n) (by simpa using hi) ((enc xs[j / T.n])[j % T.n]'hmod) (by simp [List.getElem?_eq_getElem hmod])
    have hdm : j / T.n * T.n + j % T.n = j := by rw [Nat.mul_comm]; exact Nat.div_add_mod j T.n
    rw [hdm] at hg
    rw [hu] at hg
    have hu' : u = (enc xs[j / T.n])[j % T.n] := Option.some.inj hg
    have := hat.2 (j % T.n) u (by rw [hu']; exact List.getElem?_eq_getElem hmod)
    rw [show off + j / T.n * T.n + j % T.n = off + j by omega] at this
    unfold World.cell? at this
    unfold Heap.cell Heap.of
    simp only at this ⊢
    split at this
    · rename_i c t f he'; rw [he']; simpa using this
    · cases this
/-- Element j of such a row. -/
theorem flat_get {α : Type} {enc : α → List Value} {n : Nat} {xs : List α} (hn : ∀ x, (enc x).length = n) {j i : Nat} (hj : j < xs.length) {u : Value} (hu : (enc xs[j])[i]? = some u) : ((xs.map enc).flatten)[j * n + i]? = some u :=
  flatten_get (n := n) (xs.map enc) (fun x hx => by obtain ⟨y, _, rfl⟩ := List.mem_map.1 hx; exact hn y) j i (by simpa using hj) u (by simpa using hu)
end Go.Proofs.YtmcglicbolhmfaaGreat
namespace Go.Proofs.YtmcglicbolhmfaaGreat
set_option linter.unusedVariables false
set_option maxRecDepth 100000
open Go.RowKit

/-- Through X, v can be read as n elements. -/
structure Rdn (X : Chunk) (sz : Nat) (v : Value) (n : Nat) (cs : List Value) : Prop where
  sl : ∀ {W w : World} {l : List Chunk}, SL W l w → Has X l → ∃ a c, v = .slice a n c ∧ n ≤ c
  src : ∀ {W w : World} {l : List Chunk}, SL W l w → Has X l → srcCells w sz v n cs
theorem Rdn.own {v : Value} {t : TypeId} {sz n : Nat} {cs : List Value} : Rdn (.ob (OwnSl v t sz n cs)) sz v n cs :=
  ⟨fun h m => by
    obtain ⟨l2, r⟩ := m.rem
    rcases OwnSl.open (h.perm r.perm) with ⟨⟨a', rfl⟩, rfl, _, _⟩ | ⟨b', cap', rest, rfl, hc, _⟩
    · exact ⟨a', 0, rfl, Nat.le_refl _⟩
    · exact ⟨_, _, rfl, hc⟩, fun h m => src_own h m⟩
theorem Rdn.rd {H : Heap} {v : Value} {sz n : Nat} {cs : List Value} (h : RdSl H sz v n cs) : Rdn (.mem H) sz v n cs :=
  ⟨fun _ _ => by obtain ⟨_, a, cap, e, hc, _⟩ := h; exact ⟨a, cap, e, hc⟩, fun hS m => src_rd hS m h⟩
theorem Rdn.pt {p n sz : Nat} {t : TypeId} {cs : List Value} (h : cs.length = n * sz) : Rdn (.pt p cs t) sz (.slice (some ⟨p, 0, none⟩) n n) n cs :=
  ⟨fun _ _ => ⟨_, _, rfl, Nat.le_refl _⟩, fun hS m => src_pt0 hS m h⟩
section
variable {W w : World} {l : List Chunk} {X : Chunk} {v : Value} {sz n : Nat} {cs : List Value}
theorem s_lenN {K : Value → Prop} (hS : SL W l w) (m : Has X l) (hb : Rdn X sz v n cs) (k : K (.int .i64 n)) : HLenS v K := by
  obtain ⟨a, c, rfl, _⟩ := hb.sl hS m
  exact s_lenS k
theorem s_getRow {α : Type} {enc : α → List Value} {xs : List α} {j : Nat} {kk : IntKind} {K : Value → Prop} (hS : SL W l w) (m : Has X l) (hb : Rdn X sz v n (xs.map enc).flatten) (he : ∀ x, (enc x).length = sz) (hsz : 0 < sz) (hx : xs.length = n) (hj : j < n)
    (hK : K (.agg (enc (xs[j]'(by omega))).toArray)) : HIdx sz v (.int kk (j : Int)) fun p => HLdN sz p w K := by
  obtain ⟨a, c, rfl, hc⟩ := hb.sl hS m
  have hs := hb.src hS m
  have hlen : (xs.map enc).flatten.length = n * sz := by
    rw [← hx]; clear hx hs hb hK hj hc
    induction xs with
    | nil => simp
    | cons x xs ih => simp [he, ih, Nat.add_mul]; omega
  cases a with
  | none =>
    have e : (xs.map enc).flatten = [] := hs.2
    have e2 : (enc (xs[j]'(by omega))).length = 0 := by
      rw [e] at hlen
      simp only [List.length_nil] at hlen
      rw [he]
      rcases Nat.eq_zero_or_pos sz with h | h
      · exact h
      · have : 0 < n * sz := Nat.mul_pos (by omega) h
        omega
    rw [he] at e2; omega
  | some p =>
    refine ⟨p, _, c, kk, j, rfl, rfl, hj, ?_⟩
    refine ⟨_, enc (xs[j]'(by omega)), rfl, he _, fun i u hu => ?_, hK⟩
    rw [addr_add2]
    refine hs.2.2 (j * sz + i) u ?_
    exact flat_get he (by omega) hu
end
def EncQ (X : Chunk) (l : List PFd) (u : Value) (post : List Chunk) : Prop := match encFs l with
  | .error e => u = .tuple #[.slice none 0 0, .int .i64 e] ∧ post = [X]
  | .ok b => ∃ v, u = .tuple #[v, .int .i64 0] ∧ post = [.ob (OwnSl v 5 1 b.length (b.map u8c)), X]
theorem EncQ.er {X : Chunk} {l : List PFd} {e : Int} (h : encFs l = .error e) : EncQ X l (.tuple #[.slice none 0 0, .int .i64 e]) [X] := by
  unfold EncQ; rw [h]; exact ⟨rfl, rfl⟩
theorem EncQ.ok {X : Chunk} {l : List PFd} {b : List UInt8} (h : encFs l = .ok b) (v : Value) : EncQ X l (.tuple #[v, .int .i64 0]) [.ob (OwnSl v 5 1 b.length (b.map u8c)), X] := by
  unfold EncQ; rw [h]; exact ⟨v, rfl, rfl⟩
theorem encF_len {x : PFd} (h : rightF x = true) : (encF x).length ≤ 5000 := by
  unfold encF
  unfold rightF at h
  by_cases h1 : x.kind = 1
  · rw [if_pos h1]; simp [numB_len]
  · rw [if_neg h1] at h ⊢
    by_cases h2 : x.kind = 2
    · rw [if_pos h2] at h
      have h3 : x.s.size ≤ 4096 := by
        rw [Bool.and_eq_true] at h
        exact of_decide_eq_true h.2
      have : x.s.data.toList.length = x.s.size := rfl
      simp only [List.length_cons, List.length_append, numB_len]; omega
    · rw [if_neg h2] at h; cases h
theorem encFl_len : ∀ {l : List PFd}, l.all rightF = true → (l.map encF).flatten.length ≤ l.length * 5000
  | [], _ => by simp
  | x :: l, h => by
    rw [List.all_cons, Bool.and_eq_true] at h
    have h1 := encF_len h.1
    have h2 := encFl_len h.2
    simp only [List.map_cons, List.flatten_cons, List.length_append, List.length_cons]; omega
/-- field.Encode -/
theorem encode_spec (X : Chunk) (v : Value) (xs : List PFd) (hx : Rdn X 3 v xs.length (xs.map fdcells).flatten) (hN : xs.length ≤ 140737488355328) : Spec Tryz.prog 87 [v] [X] (EncQ X xs) := by
  intro W F w hS; apply vc87; unfold Vc87; (try simp only [app] at hS)
  refine s_lenN hS .hd hx ?_
  (repeat (first | (with_reducible first | apply Q0 | refine Qa hS ?_ | refine Qb ?_ | refine Qc hS ?_ | refine Qd ?_) | ((with_reducible refine Qe hS ?_); clear hS; intro w hS; simp only [List.set] at hS) | ((with_reducible first | refine s_draw hS ?_ | refine Qf hS ?_); clear hS; intro w hS) | ((with_reducible first | refine s_new hS ?_ | refine Qg hS ?_); clear hS; intro b w hS)))
  refine s_ifp (fun h => ?_) (fun h => ?_)
  · exact ⟨_, .er (by unfold encFs; rw [if_pos (by omega)]), hS⟩
  · refine s_lenN hS .hd hx ?_
    refine s_cvI ?_
    rw [wrap_u64 (by omega) (by omega)]
    have hS := OwnSl.nil (t := 5) (sz := 1) hS
    have hS : SL W (.ob (OwnSl (.slice none 0 0) 5 1 ([] : List UInt8).length (([] : List UInt8).map u8c)) :: X :: F) w := hS
    (apply s_call (numB_spec [] (.slice none 0 0) xs.length 2 (by omega) (by simp)) hS; exact Xp; clear hS)
    rintro v13 post rfl w hS; (try simp only [app] at hS)
    rw [List.nil_append] at hS
    refine s_lenN hS Xh hx ?_
    have hb : ∀ i, i ≤ xs.length → (xs.take i).all rightF = true → (numB xs.length 2 ++ ((xs.take i).map encF).flatten).length ≤ 200000000 := fun i hi ha => by
      have := encFl_len ha
      rw [List.length_append, numB_len]
      rw [List.length_take] at this
      omega
    refine ⟨fun vs w => ∃ (i : Nat) (u : Value), i ≤ xs.length ∧ vs = [u, .int .i64 i] ∧ (xs.take i).all rightF = true ∧ SL W (.ob (OwnSl u 5 1 (numB xs.length 2 ++ ((xs.take i).map encF).flatten).length ((numB xs.length 2 ++ ((xs.take i).map encF).flatten).map u8c)) :: X :: F) w, fun vs _ => match vs with
      | [_, .int _ i] => xs.length - i.toNat
      | _ => 0, ⟨0, v13, by omega, rfl, rfl, (by simpa using hS)⟩, ?_⟩
    clear hS
    rintro u1 u2 w1 ⟨i, u, hi, hv, ha, hS⟩
    cases hv
    have hbi := hb i hi ha
    (repeat (first | (with_reducible first | apply Q0 | refine Qa hS ?_ | refine Qb ?_ | refine Qc hS ?_ | refine Qd ?_) | ((with_reducible refine Qe hS ?_); clear hS; intro w hS; simp only [List.set] at hS) | ((with_reducible first | refine s_draw hS ?_ | refine Qf hS ?_); clear hS; intro w hS) | ((with_reducible first | refine s_new hS ?_ | refine Qg hS ?_); clear hS; intro b w hS)))
    refine s_ifp (fun h => ?_) (fun h => ?_)
    · have hi : i < xs.length := by omega
      refine s_getRow hS Xh hx fdcells_len (by omega) rfl hi ?_
      have hxi : xs[i] ∈ xs := List.getElem_mem hi
      have htk : xs.take (i + 1) = xs.take i ++ [xs[i]] := by rw [List.take_add_one]; simp [hi]
      generalize xs[i] = x at *
      unfold fdcells
      (repeat (first | (with_reducible first | apply Q0 | refine Qa hS ?_ | refine Qb ?_ | refine Qc hS ?_ | refine Qd ?_) | ((with_reducible refine Qe hS ?_); clear hS; intro w hS; simp only [List.set] at hS) | ((with_reducible first | refine s_draw hS ?_ | refine Qf hS ?_); clear hS; intro w hS) | ((with_reducible first | refine s_new hS ?_ | refine Qg hS ?_); clear hS; intro b w hS)))
      (apply s_call (rightF_spec x) hS; exact Xp; clear hS)
      rintro v post ⟨rfl, rfl⟩ w hS; (try simp only [app] at hS)
      refine s_not ?_
      cases hr : rightF x with
      | false =>
        refine s_ift ?_
        refine ⟨[X], .er ?_, SL.into hS Xi⟩
        unfold encFs
        rw [if_neg (by omega), if_neg]
        intro h
        have := List.all_eq_true.1 h x hxi
        rw [hr] at this; cases this
      | true =>
        refine s_iff ?_
        have ha2 : (xs.take (i + 1)).all rightF = true := by rw [htk, List.all_append, ha]; simp [hr]
        have hb2 := hb (i + 1) (by omega) ha2
        have hen : ((xs.take (i + 1)).map encF).flatten = ((xs.take i).map encF).flatten ++ encF x := by rw [htk]; simp
        rw [hen] at hb2
        rw [List.length_append, List.length_append] at hb2
        have hk : x.kind = 1 ∨ x.kind = 2 := by
          unfold rightF at hr
          by_cases h1 : x.kind = 1
          · exact .inl h1
          · rw [if_neg h1] at hr
            by_cases h2 : x.kind = 2
            · exact .inr h2
            · rw [if_neg h2] at hr; cases hr
        generalize hc : numB xs.length 2 ++ ((xs.take i).map encF).flatten = c at *
        have hcl : c.length + (encF x).length ≤ 200000000 := by rw [← hc, List.length_append]; omega
        (repeat (first | (with_reducible first | apply Q0 | refine Qa hS ?_ | refine Qb ?_ | refine Qc hS ?_ | refine Qd ?_) | ((with_reducible refine Qe hS ?_); clear hS; intro w hS; simp only [List.set] at hS) | ((with_reducible first | refine s_draw hS ?_ | refine Qf hS ?_); clear hS; intro w hS) | ((with_reducible first | refine s_new hS ?_ | refine Qg hS ?_); clear hS; intro b w hS)))
        refine s_cvI ?_
        rw [wrap_u8]
        refine s_bldS (cells := [u8c (lowB x.kind)]) hS rfl ?_
        clear hS; intro p w hS
        refine s_app (m := 1) (cs := [u8c (lowB x.kind)]) hS Xr (src_pt0 hS .hd rfl) rfl rfl (by intro v hv; simp only [List.mem_singleton] at hv; subst hv; rfl) (by omega) (by omega) ?_
        clear hS; intro u' w hS
        (repeat (first | (with_reducible first | apply Q0 | refine Qa hS ?_ | refine Qb ?_ | refine Qc hS ?_ | refine Qd ?_) | ((with_reducible refine Qe hS ?_); clear hS; intro w hS; simp only [List.set] at hS) | ((with_reducible first | refine s_draw hS ?_ | refine Qf hS ?_); clear hS; intro w hS) | ((with_reducible first | refine s_new hS ?_ | refine Qg hS ?_); clear hS; intro b w hS)))
        have hS : SL W (.ob (OwnSl u' 5 1 (c ++ [lowB x.kind]).length ((c ++ [lowB x.kind]).map u8c)) :: .pt b [.int .i64 x.kind, .int .i64 x.n, .string x.s] 105 :: X :: F) w := by
          simp only [List.length_append, List.length_cons, List.length_nil, List.map_append, List.map_cons, List.map_nil]
          exact SL.into hS Xi
        refine s_ifp (fun h1 => ?_) (fun h1 => ?_)
        · (repeat (first | (with_reducible first | apply Q0 | refine Qa hS ?_ | refine Qb ?_ | refine Qc hS ?_ | refine Qd ?_) | ((with_reducible refine Qe hS ?_); clear hS; intro w hS; simp only [List.set] at hS) | ((with_reducible first | refine s_draw hS ?_ | refine Qf hS ?_); clear hS; intro w hS) | ((with_reducible first | refine s_new hS ?_ | refine Qg hS ?_); clear hS; intro b w hS)))
          refine s_cvI ?_
          have eu : IntKind.u64.wrap x.n = unsig x.n := rfl
          rw [eu]
          (apply s_call (numB_spec (c ++ [lowB x.kind]) u' (unsig x.n) 8 (by omega) (by simp; omega)) hS; exact Xp; clear hS)
          rintro v36 post rfl w hS; (try simp only [app] at hS)
          (repeat (first | (with_reducible first | apply Q0 | refine Qa hS ?_ | refine Qb ?_ | refine Qc hS ?_ | refine Qd ?_) | ((with_reducible refine Qe hS ?_); clear hS; intro w hS; simp only [List.set] at hS) | ((with_reducible first | refine s_draw hS ?_ | refine Qf hS ?_); clear hS; intro w hS) | ((with_reducible first | refine s_new hS ?_ | refine Qg hS ?_); clear hS; intro b w hS)))
          refine ⟨⟨i + 1, v36, by omega, rfl, ha2, ?_⟩, ?_⟩
          · have e : numB xs.length 2 ++ ((xs.take (i + 1)).map encF).flatten = c ++ [lowB x.kind] ++ numB (unsig x.n) 8 := by
              rw [hen, ← List.append_assoc, hc]
              have : encF x = lowB x.kind :: numB (unsig x.n) 8 := by unfold encF; rw [if_pos h1]
              rw [this]; simp
            rw [e]
            exact SL.into hS Xi
          · simp only [Int.toNat_natCast]; omega
        · have hsz : x.s.size ≤ 4096 := by
            unfold rightF at hr
            rw [if_neg h1, if_pos (by omega), Bool.and_eq_true] at hr
            exact of_decide_eq_true hr.2
          have hef : encF x = lowB x.kind :: (numB x.s.size 2 ++ x.s.data.toList) := by unfold encF; rw [if_neg h1]
          (repeat (first | (with_reducible first | apply Q0 | refine Qa hS ?_ | refine Qb ?_ | refine Qc hS ?_ | refine Qd ?_) | ((with_reducible refine Qe hS ?_); clear hS; intro w hS; simp only [List.set] at hS) | ((with_reducible first | refine s_draw hS ?_ | refine Qf hS ?_); clear hS; intro w hS) | ((with_reducible first | refine s_new hS ?_ | refine Qg hS ?_); clear hS; intro b w hS)))
          refine s_cvI ?_
          rw [wrap_u64 (by omega) (by omega)]
          (repeat (first | (with_reducible first | apply Q0 | refine Qa hS ?_ | refine Qb ?_ | refine Qc hS ?_ | refine Qd ?_) | ((with_reducible refine Qe hS ?_); clear hS; intro w hS; simp only [List.set] at hS) | ((with_reducible first | refine s_draw hS ?_ | refine Qf hS ?_); clear hS; intro w hS) | ((with_reducible first | refine s_new hS ?_ | refine Qg hS ?_); clear hS; intro b w hS)))
          (apply s_call (numB_spec (c ++ [lowB x.kind]) u' x.s.size 2 (by omega) (by simp; omega)) hS; exact Xp; clear hS)
          rintro v42 post rfl w hS; (try simp only [app] at hS)
          (repeat (first | (with_reducible first | apply Q0 | refine Qa hS ?_ | refine Qb ?_ | refine Qc hS ?_ | refine Qd ?_) | ((with_reducible refine Qe hS ?_); clear hS; intro w hS; simp only [List.set] at hS) | ((with_reducible first | refine s_draw hS ?_ | refine Qf hS ?_); clear hS; intro w hS) | ((with_reducible first | refine s_new hS ?_ | refine Qg hS ?_); clear hS; intro b w hS)))
          have hsl : x.s.data.toList.length = x.s.size := rfl
          have hel : (encF x).length = 1 + (2 + x.s.size) := by rw [hef]; simp only [List.length_cons, List.length_append, numB_len]; omega
          refine s_app (m := x.s.size) (cs := x.s.data.toList.map u8c) hS Xr src_str (by simp) rfl (u8c_one _) (by simp only [List.length_append, List.length_cons, List.length_nil, numB_len]; omega) (by simp only [List.length_append, List.length_cons, List.length_nil, numB_len]; omega) ?_
          clear hS; intro v45 w hS
          (repeat (first | (with_reducible first | apply Q0 | refine Qa hS ?_ | refine Qb ?_ | refine Qc hS ?_ | refine Qd ?_) | ((with_reducible refine Qe hS ?_); clear hS; intro w hS; simp only [List.set] at hS) | ((with_reducible first | refine s_draw hS ?_ | refine Qf hS ?_); clear hS; intro w hS) | ((with_reducible first | refine s_new hS ?_ | refine Qg hS ?_); clear hS; intro b w hS)))
          refine ⟨⟨i + 1, v45, by omega, rfl, ha2, ?_⟩, ?_⟩
          · have e : numB xs.length 2 ++ ((xs.take (i + 1)).map encF).flatten = (c ++ [lowB x.kind] ++ numB x.s.size 2) ++ x.s.data.toList := by
              rw [hen, ← List.append_assoc, hc, hef]; simp
            rw [e]
            generalize c ++ [lowB x.kind] ++ numB x.s.size 2 = A at *
            rw [List.length_append, List.map_append, hsl]
            exact SL.into hS Xi
          · simp only [Int.toNat_natCast]; omega
    · obtain rfl : i = xs.length := by omega
      rw [List.take_length] at hS ha
      exact ⟨_, .ok (by unfold encFs; rw [if_neg (by omega), if_pos ha]) u1, hS⟩
end Go.Proofs.YtmcglicbolhmfaaGreat
namespace Go.Proofs.YtmcglicbolhmfaaGreat
set_option linter.unusedVariables false
open Go.RowKit

/-- v is a slice of n elements of sz cells each, whose cells are 'cells'; its block is owned; something may lie in front. -/
def OwnSo (v : Value) (t : TypeId) (sz n : Nat) (cells : List Value) : HProp := HEx fun x : Option (Nat × List Value × Nat × List Value) => match x with
  | none => HFact ((∃ a, v = .slice a 0 0) ∧ n = 0 ∧ cells = []) []
  | some (b, pre, cap, rest) => HFact (v = .slice (some ⟨b, pre.length, none⟩) n cap ∧ n ≤ cap ∧ cells.length = n * sz ∧ rest.length = (cap - n) * sz) [.pt b (pre ++ (cells ++ rest)) t]

section
variable {W w : World} {l : List Chunk} {v : Value} {t : TypeId} {sz n : Nat} {cells : List Value}

theorem OwnSo.open (h : SL W (.ob (OwnSo v t sz n cells) :: l) w) :
    ((∃ a, v = .slice a 0 0) ∧ n = 0 ∧ cells = [] ∧ SL W l w) ∨ ∃ b pre cap rest, v = .slice (some ⟨b, pre.length, none⟩) n cap ∧ n ≤ cap ∧ cells.length = n * sz ∧ rest.length = (cap - n) * sz ∧ SL W (.pt b (pre ++ (cells ++ rest)) t :: l) w := by
  unfold OwnSo at h
  obtain ⟨x, h⟩ := SL.ex.1 h
  match x, h with
  | none, h =>
    obtain ⟨⟨h1, h2, h3⟩, h⟩ := SL.fact.1 h
    exact .inl ⟨h1, h2, h3, h⟩
  | some (b, pre, cap, rest), h =>
    obtain ⟨⟨h1, h2, h3, h4⟩, h⟩ := SL.fact.1 h
    exact .inr ⟨b, pre, cap, rest, h1, h2, h3, h4, h⟩
theorem OwnSo.nil0 {a : Option Addr} (h : SL W l w) : SL W (.ob (OwnSo (.slice a 0 0) t sz 0 []) :: l) w := by
  unfold OwnSo
  exact SL.ex.2 ⟨none, SL.fact.2 ⟨⟨⟨_, rfl⟩, rfl, rfl⟩, h⟩⟩
theorem OwnSo.mk {b cap o : Nat} {pre rest : List Value} (h1 : n ≤ cap) (h2 : cells.length = n * sz) (h3 : rest.length = (cap - n) * sz) (ho : pre.length = o) (h : SL W (.pt b (pre ++ (cells ++ rest)) t :: l) w) :
    SL W (.ob (OwnSo (.slice (some ⟨b, o, none⟩) n cap) t sz n cells) :: l) w := by
  subst ho
  unfold OwnSo
  exact SL.ex.2 ⟨some (b, pre, cap, rest), SL.fact.2 ⟨⟨rfl, h1, h2, h3⟩, h⟩⟩
theorem OwnSo.of (h : SL W (.ob (OwnSl v t sz n cells) :: l) w) : SL W (.ob (OwnSo v t sz n cells) :: l) w := by
  rcases OwnSl.open h with ⟨⟨a, rfl⟩, rfl, rfl, hS⟩ | ⟨b, cap, rest, rfl, hc, hl, hr, hS⟩
  · exact OwnSo.nil0 hS
  · exact OwnSo.mk (pre := []) hc hl hr rfl (by simpa using hS)
theorem OwnSo.at (h : SL W l w) (m : Has (.ob (OwnSo v t sz n cells)) l) : ∃ a cap, v = .slice a n cap ∧ n ≤ cap ∧ cells.length = n * sz := by
  obtain ⟨l2, r⟩ := m.rem
  rcases OwnSo.open (h.perm r.perm) with ⟨⟨a, rfl⟩, rfl, rfl, _⟩ | ⟨b, pre, cap, rest, rfl, hc, hl, _⟩
  · exact ⟨a, 0, rfl, Nat.le_refl _, by simp⟩
  · exact ⟨_, cap, rfl, hc, hl⟩
theorem OwnSo.one (h : SL W l w) (m : Has (.ob (OwnSo v t sz n cells)) l) : v.oneCell' = true := by
  obtain ⟨a, cap, rfl, _⟩ := OwnSo.at h m; rfl
theorem s_lenSo {K : Value → Prop} (h : SL W l w) (m : Has (.ob (OwnSo v t sz n cells)) l) (k : K (.int .i64 n)) : HLenS v K := by
  obtain ⟨a, cap, rfl, _⟩ := OwnSo.at h m
  exact s_lenS k
/-- One element's place, and what lies there. -/
theorem s_idxSo {j : Nat} {k : IntKind} {K : Value → Prop} (h : SL W l w) (m : Has (.ob (OwnSo v t sz n cells)) l) (hj : j < n)
    (hK : ∀ b o, (∀ i u, i < sz → cells[j * sz + i]? = some u → w.cell? ⟨b, o + i, none⟩ = some u) → K (.pointer (some ⟨b, o, none⟩))) : HIdx sz v (.int k (j : Int)) K := by
  obtain ⟨l2, r⟩ := m.rem
  rcases OwnSo.open (h.perm r.perm) with ⟨⟨a, rfl⟩, rfl, rfl, _⟩ | ⟨b, pre, cap, rest, rfl, hc, hl, hr, hS⟩
  · omega
  · refine s_idx hj (hK b (pre.length + j * sz) fun i u hi hu => hS.cell .hd ?_)
    rw [Nat.add_assoc, List.getElem?_append_right (by omega), Nat.add_sub_cancel_left, List.getElem?_append_left (List.getElem?_eq_some_iff.1 hu).1]
    exact hu
theorem src_so (h : SL W l w) (m : Has (.ob (OwnSo v t sz n cells)) l) : srcCells w sz v n cells := by
  obtain ⟨l2, r⟩ := m.rem
  rcases OwnSo.open (h.perm r.perm) with ⟨⟨a, rfl⟩, rfl, rfl, _⟩ | ⟨b, pre, cap, rest, rfl, hc, hl, hr, hS⟩
  · cases a with
    | none => exact ⟨rfl, rfl⟩
    | some p => exact ⟨rfl, by simp, fun j v e => by simp at e⟩
  · refine ⟨rfl, hl, fun j u e => ?_⟩
    rw [Addr.add_lit]
    refine hS.cell .hd ?_
    rw [List.getElem?_append_right (by omega), Nat.add_sub_cancel_left, List.getElem?_append_left (List.getElem?_eq_some_iff.1 e).1]
    exact e
/-- A row without its first elements. -/
theorem s_slSo {k : Nat} {kk : IntKind} {K : Value → Prop} (hS : SL W (.ob (OwnSo v t sz n cells) :: l) w) (hk : k ≤ n) (hK : ∀ u, SL W (.ob (OwnSo u t sz (n - k) (cells.drop (k * sz))) :: l) w → K u) : HSl sz v (some (.int kk (k : Int))) none none K := by
  rcases OwnSo.open hS with ⟨⟨a, rfl⟩, rfl, rfl, hS'⟩ | ⟨b, pre, cap, rest, rfl, hc, hl, hr, hS'⟩
  · obtain rfl : k = 0 := by omega
    refine ⟨a, 0, 0, 0, 0, 0, rfl, rfl, rfl, ⟨kk, rfl⟩, Nat.le_refl _, Nat.le_refl _, Nat.le_refl _, ?_⟩
    rw [if_pos rfl]
    exact hK _ (by simpa using OwnSo.nil0 (t := t) (sz := sz) (a := a) hS')
  · refine ⟨_, n, cap, k, n, cap, rfl, rfl, rfl, ⟨kk, rfl⟩, hk, hc, Nat.le_refl _, hK _ ?_⟩
    by_cases e : cap = k
    · obtain rfl : n = k := by omega
      rw [if_pos e, Nat.sub_self, show cap - n = 0 by omega, List.drop_eq_nil_of_le (by omega)]
      exact OwnSo.nil0 hS'.drop
    · rw [if_neg e]
      have hlt : k * sz ≤ cells.length := by rw [hl]; exact Nat.mul_le_mul_right _ hk
      have e1 : (some (⟨b, pre.length, none⟩ : Addr)).map (·.add (k * sz)) = some ⟨b, pre.length + k * sz, none⟩ := by simp [Addr.add_lit]
      rw [e1]
      refine OwnSo.mk (pre := pre ++ cells.take (k * sz)) (rest := rest) (by omega) (by rw [List.length_drop, hl, Nat.mul_sub_right_distrib]) (by rw [hr]; congr 1; omega) (by rw [List.length_append, List.length_take]; omega) ?_
      rw [List.append_assoc, ← List.append_assoc (cells.take (k * sz)), List.take_append_drop]
      exact hS'
/-- append onto a row that is owned, with something in front. -/
theorem s_appSo {x y : Value} {by_ m : Nat} {z cs : List Value} {F : List Chunk} {K : Value → World → Prop} (hS : SL W l w) (hr : Rem (.ob (OwnSo x t sz n cells)) l F) (hsrc : srcCells w sz y m cs)
    (hl : cs.length = m * sz) (hz : z.length = sz) (h1 : ∀ v ∈ cs, v.oneCell' = true) (hb : (n + m) * by_ ≤ 140737488355328) (hn : n + m ≤ 140737488355328)
    (h : ∀ v' w', SL W (.ob (OwnSo v' t sz (n + m) (cells ++ cs)) :: F) w' → K v' w') : HApp sz by_ z t x y w K := by
  rcases OwnSo.open (hS.perm hr.perm) with ⟨⟨a, rfl⟩, rfl, rfl, hS'⟩ | ⟨b, pre, cap, rest, rfl, hc, hlen, hrest, hS'⟩
  · refine ⟨a, 0, 0, m, cs, rfl, hsrc, hb, hn, fun h0 => ?_, fun h0 => ⟨[], (by cases a with | none => exact ⟨rfl, rfl⟩ | some p => exact ⟨rfl, by simp, fun j v e => by simp at e⟩), fun c hc1 hc2 => ?_⟩⟩
    · have hm : m = 0 := by omega
      subst hm
      have : cs = [] := List.eq_nil_of_length_eq_zero (by simpa using hl)
      subst this
      cases a with
      | none => exact h _ _ (OwnSo.nil0 hS')
      | some p => exact h _ _ (OwnSo.nil0 hS')
    · refine h _ _ ?_
      have := OwnSo.mk (sz := sz) (n := 0 + m) (cells := cs) (pre := []) (rest := zrow z (c - (0 + m))) (cap := c) hc1 (by simpa using hl) (by rw [zrow_length, hz]) rfl (SL.new (cs := [] ++ (cs ++ zrow z (c - (0 + m)))) (t := t) (hS'.drew))
      simpa using this
  · refine ⟨some ⟨b, pre.length, none⟩, n, cap, m, cs, rfl, hsrc, hb, hn, fun h0 => ?_, fun h0 => ?_⟩
    · have hfit : cs.length ≤ rest.length := by
        rw [hl, hrest]; exact Nat.mul_le_mul_right _ (by omega)
      show stN (Addr.add ⟨b, pre.length, none⟩ (n * sz)) 0 cs w _
      rw [Addr.add_lit]
      refine stN_sl (t := t) cs (pre.length + n * sz) 0 (pre ++ (cells ++ rest)) w (.pt b (pre ++ (cells ++ rest)) t :: F) _ hS' .hd (by simp [hlen]; omega) h1 (fun w' hS2 => h _ _ ?_)
      have e : over (pre ++ (cells ++ rest)) (pre.length + n * sz + 0) cs = pre ++ ((cells ++ cs) ++ rest.drop cs.length) := by
        rw [show pre.length + n * sz + 0 = (pre ++ cells).length by rw [List.length_append]; omega, ← List.append_assoc, over_own hfit]
        simp
      rw [e] at hS2
      exact OwnSo.mk (n := n + m) (cells := cells ++ cs) (rest := rest.drop cs.length) h0 (by simp [hlen, hl, Nat.add_mul]) (by
        rw [List.length_drop, hrest, hl, ← Nat.mul_sub_right_distrib]; congr 1; omega) rfl hS2
    · refine ⟨cells, ⟨rfl, hlen, fun j v e => ?_⟩, fun c hc1 hc2 => h _ _ ?_⟩
      · rw [Addr.add_lit]
        refine hS'.cell .hd ?_
        rw [List.getElem?_append_right (by omega), Nat.add_sub_cancel_left, List.getElem?_append_left (List.getElem?_eq_some_iff.1 e).1]; exact e
      · have := OwnSo.mk (sz := sz) (n := n + m) (cells := cells ++ cs) (pre := []) (rest := zrow z (c - (n + m))) (cap := c) hc1 (by simp [hlen, hl, Nat.add_mul]) (by rw [zrow_length, hz]) rfl (SL.new (cs := [] ++ ((cells ++ cs) ++ zrow z (c - (n + m)))) (t := t) (hS'.drop.drew))
        simpa using this
/-- The block of a row that is there. -/
theorem OwnSo.block (hS : SL W (.ob (OwnSo v t sz n cells) :: l) w) (hn : 0 < n) : ∃ b pre cap rest, v = .slice (some ⟨b, pre.length, none⟩) n cap ∧ n ≤ cap ∧ cells.length = n * sz ∧ rest.length = (cap - n) * sz ∧ SL W (.pt b (pre ++ (cells ++ rest)) t :: l) w := by
  rcases OwnSo.open hS with ⟨_, h0, _⟩ | h
  · omega
  · exact h
end
end Go.Proofs.YtmcglicbolhmfaaGreat
namespace Go.Proofs.YtmcglicbolhmfaaGreat
set_option linter.unusedVariables false
set_option maxRecDepth 100000
open Go.RowKit

/-- A row of bytes that somebody owns. -/
abbrev BEnt := Value × List UInt8
def BEntO (x : BEnt) : HProp := OwnSl x.1 5 1 x.2.length (x.2.map u8c)
def vals (es : List BEnt) : List Value := es.map Prod.fst
def byts (es : List BEnt) : List (List UInt8) := es.map Prod.snd
def ScanQ (X : Chunk) (q : List UInt8) (r : Value) (post : List Chunk) : Prop := ∃ (u : Value) (es : List BEnt), byts es = (scanA q).1 ∧ r = .tuple #[u, .int .i64 ((scanA q).2 : Nat)] ∧ post = [.ob (OwnSl u 31 1 es.length (vals es)), .ob (HAll BEntO es), X]
/-- rec.Scan -/
theorem scan_spec (X : Chunk) (v : Value) (q : List UInt8) (hq : Rdb X v q) (hN : q.length ≤ 10000000000) : Spec Tryz.prog 68 [v] [X] (ScanQ X q) := by
  intro W F w hS; apply vc68; unfold Vc68; (try simp only [app] at hS)
  have hS := OwnSl.nil (t := 31) (sz := 1) (HAll.nil (A := BEntO) hS)
  refine ⟨fun vs w => ∃ (u : Value) (es : List BEnt) (at_ : Nat), vs = [u, .int .i64 at_] ∧ at_ ≤ q.length ∧ es.length * 8 ≤ at_ ∧ byts es ++ (scanA (q.drop at_)).1 = (scanA q).1 ∧ at_ + (scanA (q.drop at_)).2 = (scanA q).2 ∧
      SL W (.ob (OwnSl u 31 1 es.length (vals es)) :: .ob (HAll BEntO es) :: X :: F) w, fun vs _ => match vs with
    | [_, .int _ i] => q.length - i.toNat
    | _ => 0, ⟨_, [], 0, rfl, Nat.zero_le _, Nat.le_refl _, rfl, by simp, hS⟩, ?_⟩
  clear hS
  rintro u1 u2 w1 ⟨u, es, i, hv, hi, h8, h1, h2, hS⟩
  cases hv
  refine s_slLoB hS Xh hq hi ?_
  intro v12 h12
  (apply s_call (take_spec X v12 (q.drop i) h12 (by rw [List.length_drop]; omega)) hS; exact Xp; clear hS)
  intro v13 post hQ w hS
  unfold TakeQ at hQ
  cases ht : takeR (q.drop i) with
  | error e =>
    rw [ht] at hQ
    obtain ⟨rfl, rfl⟩ := hQ
    (try simp only [app] at hS)
    (repeat (first | (with_reducible first | apply Q0 | refine Qa hS ?_ | refine Qb ?_ | refine Qc hS ?_ | refine Qd ?_) | ((with_reducible refine Qe hS ?_); clear hS; intro w hS; simp only [List.set] at hS) | ((with_reducible first | refine s_draw hS ?_ | refine Qf hS ?_); clear hS; intro w hS) | ((with_reducible first | refine s_new hS ?_ | refine Qg hS ?_); clear hS; intro b w hS)))
    have he := takeR_err ht
    rw [scanA_er ht] at h1 h2
    refine s_ifp (fun _ => ?_) (fun h => by omega)
    refine ⟨_, ⟨u1, es, by simpa using h1, ?_, rfl⟩, SL.into hS Xi⟩
    rw [← h2]; rfl
  | ok x =>
    obtain ⟨p, n⟩ := x
    rw [ht] at hQ
    obtain ⟨y, rfl, rfl⟩ := hQ
    (try simp only [app] at hS)
    (repeat (first | (with_reducible first | apply Q0 | refine Qa hS ?_ | refine Qb ?_ | refine Qc hS ?_ | refine Qd ?_) | ((with_reducible refine Qe hS ?_); clear hS; intro w hS; simp only [List.set] at hS) | ((with_reducible first | refine s_draw hS ?_ | refine Qf hS ?_); clear hS; intro w hS) | ((with_reducible first | refine s_new hS ?_ | refine Qg hS ?_); clear hS; intro b w hS)))
    have hl := takeR_len ht
    rw [scanA_ok ht] at h1 h2
    rw [List.length_drop] at hl
    refine s_ifp (fun h => absurd rfl h) (fun _ => ?_)
    have hone := hS.ownOne .hd
    obtain ⟨ay, cy, ey, _⟩ := OwnSl.at hS .hd
    subst ey
    refine s_bldS (cells := [.slice ay p.length cy]) hS rfl ?_
    clear hS; intro b w hS
    refine s_app (m := 1) (cs := [.slice ay p.length cy]) hS Xr (src_pt0 hS .hd rfl) rfl rfl (by intro v hv; simp only [List.mem_singleton] at hv; subst hv; rfl) (by omega) (by omega) ?_
    clear hS; intro u' w hS
    have hS := HAll.snoc (A := BEntO) (xs := es) (x := (.slice ay p.length cy, p)) (SL.into hS (t := .ob (HAll BEntO es) :: .ob (OwnSl (.slice ay p.length cy) 5 1 p.length (p.map u8c)) :: .ob (OwnSl u' 31 1 (es.length + 1) (vals es ++ [.slice ay p.length cy])) :: X :: F) Xi)
    refine s_addn (a := i) (b := n) (by omega) ?_
    refine ⟨⟨u', es ++ [(.slice ay p.length cy, p)], i + n, rfl, by omega, by simp; omega, ?_, ?_, ?_⟩, ?_⟩
    · rw [← h1, ← List.drop_drop]; simp [byts]
    · rw [← h2, ← List.drop_drop]; simp only; omega
    · rw [show (es ++ [((Value.slice ay p.length cy, p) : BEnt)]).length = es.length + 1 by simp, show vals (es ++ [((Value.slice ay p.length cy, p) : BEnt)]) = vals es ++ [.slice ay p.length cy] by simp [vals]]
      exact SL.into hS Xi
    · simp only [Int.toNat_natCast]; omega
end Go.Proofs.YtmcglicbolhmfaaGreat
namespace Go.Proofs.YtmcglicbolhmfaaGreat
set_option linter.unusedVariables false
set_option maxRecDepth 100000
open Go.RowKit

theorem encFs_hd {n : Nat} (h : n ≤ 1099511627776) : encFs [⟨1, n, ⟨#[]⟩⟩] = .ok (hdB n) := by
  have e : unsig (n : Int) = (n : Int) := by unfold unsig; omega
  unfold encFs
  rw [if_neg (by simp), if_pos (by simp [rightF])]
  show Except.ok (numB ((1 : Nat) : Int) 2 ++ (encF ⟨1, n, ⟨#[]⟩⟩ ++ [])) = _
  unfold encF
  rw [if_pos rfl, e]
  show Except.ok ([lowB ((1 : Int).fdiv (2 ^ (8 * 1))), lowB ((1 : Int).fdiv (2 ^ (8 * 0)))] ++ (lowB 1 :: numB n 8 ++ [])) = _
  rw [List.append_nil]
  rfl
def HeadQ (n : Int) (r : Value) (post : List Chunk) : Prop := if n < 1 ∨ 1099511627776 < n then r = .tuple #[.slice none 0 0, .int .i64 1] ∧ post = [] else ∃ u, r = .tuple #[u, .int .i64 0] ∧ post = [.ob (OwnSl u 5 1 (recB (hdB n.toNat)).length ((recB (hdB n.toNat)).map u8c))]
/-- seg.Head -/
theorem segHead_spec (n : Int) : Spec Tryz.prog 78 [.int .i64 n] [] (HeadQ n) := by
  intro W F w hS; apply vc78; unfold Vc78; (try simp only [app] at hS)
  unfold HeadQ
  (repeat (first | (with_reducible first | apply Q0 | refine Qa hS ?_ | refine Qb ?_ | refine Qc hS ?_ | refine Qd ?_) | ((with_reducible refine Qe hS ?_); clear hS; intro w hS; simp only [List.set] at hS) | ((with_reducible first | refine s_draw hS ?_ | refine Qf hS ?_); clear hS; intro w hS) | ((with_reducible first | refine s_new hS ?_ | refine Qg hS ?_); clear hS; intro b w hS)))
  refine s_ifp (fun h => ?_) (fun h => ?_)
  · exact ⟨[], by rw [if_pos (.inl h)]; exact ⟨rfl, rfl⟩, hS⟩
  · (repeat (first | (with_reducible first | apply Q0 | refine Qa hS ?_ | refine Qb ?_ | refine Qc hS ?_ | refine Qd ?_) | ((with_reducible refine Qe hS ?_); clear hS; intro w hS; simp only [List.set] at hS) | ((with_reducible first | refine s_draw hS ?_ | refine Qf hS ?_); clear hS; intro w hS) | ((with_reducible first | refine s_new hS ?_ | refine Qg hS ?_); clear hS; intro b w hS)))
    refine s_ifp (fun h2 => ?_) (fun h2 => ?_)
    · exact ⟨[], by rw [if_pos (.inr h2)]; exact ⟨rfl, rfl⟩, hS⟩
    · obtain ⟨k, rfl⟩ := Int.eq_ofNat_of_zero_le (show 0 ≤ n by omega)
      have hx := encFs_hd (n := k) (by omega)
      refine s_bld (cells := fdcells ⟨1, k, ⟨#[]⟩⟩) rfl ?_
      refine s_bldS (cells := fdcells ⟨1, k, ⟨#[]⟩⟩) hS rfl ?_
      clear hS; intro p w hS
      (apply s_call (encode_spec (.pt p (fdcells ⟨1, k, ⟨#[]⟩⟩) 105) _ [⟨1, k, ⟨#[]⟩⟩] (Rdn.pt rfl) (by simp)) hS; exact Xp; clear hS)
      intro v post hQ w hS
      unfold EncQ at hQ
      rw [hx] at hQ
      obtain ⟨u, rfl, rfl⟩ := hQ
      (try simp only [app] at hS)
      (repeat (first | (with_reducible first | apply Q0 | refine Qa hS ?_ | refine Qb ?_ | refine Qc hS ?_ | refine Qd ?_) | ((with_reducible refine Qe hS ?_); clear hS; intro w hS; simp only [List.set] at hS) | ((with_reducible first | refine s_draw hS ?_ | refine Qf hS ?_); clear hS; intro w hS) | ((with_reducible first | refine s_new hS ?_ | refine Qg hS ?_); clear hS; intro b w hS)))
      refine s_ifp (fun h => absurd rfl h) (fun _ => ?_)
      (apply s_call (put_spec (.ob (OwnSl u 5 1 (hdB k).length ((hdB k).map u8c))) u (hdB k) Rdb.own (by rw [hdB_len]; omega)) hS; exact Xp; clear hS)
      intro v post hQ w hS
      unfold PutQ at hQ
      rw [if_neg (by rw [hdB_len]; omega)] at hQ
      obtain ⟨y, rfl, rfl⟩ := hQ
      (try simp only [app] at hS)
      (repeat (first | (with_reducible first | apply Q0 | refine Qa hS ?_ | refine Qb ?_ | refine Qc hS ?_ | refine Qd ?_) | ((with_reducible refine Qe hS ?_); clear hS; intro w hS; simp only [List.set] at hS) | ((with_reducible first | refine s_draw hS ?_ | refine Qf hS ?_); clear hS; intro w hS) | ((with_reducible first | refine s_new hS ?_ | refine Qg hS ?_); clear hS; intro b w hS)))
      refine ⟨[.ob (OwnSl y 5 1 (recB (hdB k)).length ((recB (hdB k)).map u8c))], ?_, SL.into hS Xi⟩
      rw [if_neg (by omega)]
      exact ⟨y, rfl, rfl⟩
abbrev SRdX (rp : Nat) (lv : Value) (n f : Int) (es : List BEnt) : List Chunk := [.pt rp [lv, .int .i64 n, .int .i64 f] 128, .ob (OwnSl lv 31 1 es.length (vals es)), .ob (HAll BEntO es)]
def hdR (es : List BEnt) : Option Int := match es with
  | [] => none
  | e :: _ => hdOf e.2
/-- seg.reader.head -/
theorem segRdHead_spec (rp : Nat) (lv : Value) (n f : Int) (es : List BEnt) : Spec Tryz.prog 69 [.pointer (some ⟨rp, 0, none⟩)] (SRdX rp lv n f es) (Gives (.bool (hdR es).isSome) (SRdX rp lv n ((hdR es).getD f) es)) := by
  intro W F w hS; apply vc69; unfold Vc69; (try simp only [app] at hS)
  (repeat (first | (with_reducible first | apply Q0 | refine Qa hS ?_ | refine Qb ?_ | refine Qc hS ?_ | refine Qd ?_) | ((with_reducible refine Qe hS ?_); clear hS; intro w hS; simp only [List.set] at hS) | ((with_reducible first | refine s_draw hS ?_ | refine Qf hS ?_); clear hS; intro w hS) | ((with_reducible first | refine s_new hS ?_ | refine Qg hS ?_); clear hS; intro b w hS)))
  refine s_lenO hS (t := 31) (sz := 1) (n := es.length) (cells := vals es) Xh ?_
  (repeat (first | (with_reducible first | apply Q0 | refine Qa hS ?_ | refine Qb ?_ | refine Qc hS ?_ | refine Qd ?_) | ((with_reducible refine Qe hS ?_); clear hS; intro w hS; simp only [List.set] at hS) | ((with_reducible first | refine s_draw hS ?_ | refine Qf hS ?_); clear hS; intro w hS) | ((with_reducible first | refine s_new hS ?_ | refine Qg hS ?_); clear hS; intro b w hS)))
  refine s_ifp (fun h => ?_) (fun h => ?_)
  · have : es = [] := List.eq_nil_of_length_eq_zero (by omega)
    subst this
    exact ⟨_, ⟨rfl, rfl⟩, hS⟩
  · obtain ⟨e, es, rfl⟩ : ∃ e es', es = e :: es' := by
      cases es with
      | nil => simp at h
      | cons e es' => exact ⟨e, es', rfl⟩
    (repeat (first | (with_reducible first | apply Q0 | refine Qa hS ?_ | refine Qb ?_ | refine Qc hS ?_ | refine Qd ?_) | ((with_reducible refine Qe hS ?_); clear hS; intro w hS; simp only [List.set] at hS) | ((with_reducible first | refine s_draw hS ?_ | refine Qf hS ?_); clear hS; intro w hS) | ((with_reducible first | refine s_new hS ?_ | refine Qg hS ?_); clear hS; intro b w hS)))
    refine s_get1O (j := 0) hS (t := 31) (n := (e :: es).length) (cells := vals (e :: es)) Xh (by simp) (u := e.1) rfl ?_
    have hS := HAll.take (t := 0) (x := e) (SL.into hS (t := .ob (HAll BEntO (e :: es)) :: .pt rp [lv, .int .i64 n, .int .i64 f] 128 :: .ob (OwnSl lv 31 1 (e :: es).length (vals (e :: es))) :: F) Xi) rfl
    have hback : ∀ {w : World} {k : Int}, SL W (.ob (BEntO e) :: .ob (HAll BEntO ((e :: es).eraseIdx 0)) :: .pt rp [lv, .int .i64 n, .int .i64 k] 128 :: .ob (OwnSl lv 31 1 (e :: es).length (vals (e :: es))) :: F) w →
        SL W (.pt rp [lv, .int .i64 n, .int .i64 k] 128 :: .ob (OwnSl lv 31 1 (e :: es).length (vals (e :: es))) :: .ob (HAll BEntO (e :: es)) :: F) w := fun {w k} h => by
      have h2 : SL W (.ob (HAll BEntO (e :: es)) :: .pt rp [lv, .int .i64 n, .int .i64 k] 128 :: .ob (OwnSl lv 31 1 (e :: es).length (vals (e :: es))) :: F) w := HAll.put h (by simp)
      exact SL.into h2 Xi
    have hR : Rdb (.ob (BEntO e)) e.1 e.2 := Rdb.own
    (apply s_call (decode_spec (.ob (BEntO e)) e.1 e.2 hR) hS; exact Xp; clear hS)
    intro v post hQ w hS
    unfold DecQ at hQ
    have hh : hdR (e :: es) = hdOf e.2 := rfl
    rw [hh]
    unfold hdOf
    cases hd : decF e.2 with
    | error k =>
      rw [hd] at hQ
      obtain ⟨rfl, rfl⟩ := hQ
      (try simp only [app] at hS)
      (repeat (first | (with_reducible first | apply Q0 | refine Qa hS ?_ | refine Qb ?_ | refine Qc hS ?_ | refine Qd ?_) | ((with_reducible refine Qe hS ?_); clear hS; intro w hS; simp only [List.set] at hS) | ((with_reducible first | refine s_draw hS ?_ | refine Qf hS ?_); clear hS; intro w hS) | ((with_reducible first | refine s_new hS ?_ | refine Qg hS ?_); clear hS; intro b w hS)))
      have hk : k ≠ 0 := by
        intro hk
        rw [decF_eq] at hd
        split at hd
        · cases hd
        · rename_i h0
          cases hd; exact h0 hk
      refine s_ifp (fun _ => ?_) (fun h => absurd hk h)
      exact ⟨_, ⟨rfl, rfl⟩, hback hS⟩
    | ok l =>
      rw [hd] at hQ
      obtain ⟨y, rfl, rfl⟩ := hQ
      (try simp only [app] at hS)
      (repeat (first | (with_reducible first | apply Q0 | refine Qa hS ?_ | refine Qb ?_ | refine Qc hS ?_ | refine Qd ?_) | ((with_reducible refine Qe hS ?_); clear hS; intro w hS; simp only [List.set] at hS) | ((with_reducible first | refine s_draw hS ?_ | refine Qf hS ?_); clear hS; intro w hS) | ((with_reducible first | refine s_new hS ?_ | refine Qg hS ?_); clear hS; intro b w hS)))
      refine s_ifp (fun h => absurd rfl h) (fun _ => ?_)
      refine s_lenO hS (t := 105) (sz := 3) (n := l.length) (cells := (l.map fdcells).flatten) Xh ?_
      (repeat (first | (with_reducible first | apply Q0 | refine Qa hS ?_ | refine Qb ?_ | refine Qc hS ?_ | refine Qd ?_) | ((with_reducible refine Qe hS ?_); clear hS; intro w hS; simp only [List.set] at hS) | ((with_reducible first | refine s_draw hS ?_ | refine Qf hS ?_); clear hS; intro w hS) | ((with_reducible first | refine s_new hS ?_ | refine Qg hS ?_); clear hS; intro b w hS)))
      refine s_ifp (fun h1 => ?_) (fun h1 => ?_)
      · have : hdF l = none := by
          match l, h1 with
          | [], _ => rfl
          | [x], h1 => simp at h1
          | _ :: _ :: _, _ => rfl
        simp only [this]
        exact ⟨_, ⟨rfl, rfl⟩, hback (k := f) (SL.into hS Xi)⟩
      · obtain ⟨x, rfl⟩ : ∃ x, l = [x] := List.length_eq_one_iff.1 (by omega)
        have hx : hdF [x] = if x.kind = 1 ∧ 1 ≤ x.n ∧ x.n ≤ 1099511627776 then some x.n else none := rfl
        simp only [hx]
        refine s_getFO (j := 0) (i := 0) (x := x) (xs := [x]) hS (t := 105) (sz := 3) (n := 1) Xh fdcells_len rfl (by omega) (u := .int .i64 x.kind) rfl ?_
        (repeat (first | (with_reducible first | apply Q0 | refine Qa hS ?_ | refine Qb ?_ | refine Qc hS ?_ | refine Qd ?_) | ((with_reducible refine Qe hS ?_); clear hS; intro w hS; simp only [List.set] at hS) | ((with_reducible first | refine s_draw hS ?_ | refine Qf hS ?_); clear hS; intro w hS) | ((with_reducible first | refine s_new hS ?_ | refine Qg hS ?_); clear hS; intro b w hS)))
        refine s_ifp (fun h2 => ?_) (fun h2 => ?_)
        · rw [if_neg (by omega)]
          exact ⟨_, ⟨rfl, rfl⟩, hback (k := f) (SL.into hS Xi)⟩
        · refine s_getFO (j := 0) (i := 1) (x := x) (xs := [x]) hS (t := 105) (sz := 3) (n := 1) Xh fdcells_len rfl (by omega) (u := .int .i64 x.n) rfl ?_
          (repeat (first | (with_reducible first | apply Q0 | refine Qa hS ?_ | refine Qb ?_ | refine Qc hS ?_ | refine Qd ?_) | ((with_reducible refine Qe hS ?_); clear hS; intro w hS; simp only [List.set] at hS) | ((with_reducible first | refine s_draw hS ?_ | refine Qf hS ?_); clear hS; intro w hS) | ((with_reducible first | refine s_new hS ?_ | refine Qg hS ?_); clear hS; intro b w hS)))
          refine s_ifp (fun h3 => ?_) (fun h3 => ?_)
          · rw [if_neg (by omega)]
            exact ⟨_, ⟨rfl, rfl⟩, hback (k := f) (SL.into hS Xi)⟩
          · refine s_getFO (j := 0) (i := 1) (x := x) (xs := [x]) hS (t := 105) (sz := 3) (n := 1) Xh fdcells_len rfl (by omega) (u := .int .i64 x.n) rfl ?_
            (repeat (first | (with_reducible first | apply Q0 | refine Qa hS ?_ | refine Qb ?_ | refine Qc hS ?_ | refine Qd ?_) | ((with_reducible refine Qe hS ?_); clear hS; intro w hS; simp only [List.set] at hS) | ((with_reducible first | refine s_draw hS ?_ | refine Qf hS ?_); clear hS; intro w hS) | ((with_reducible first | refine s_new hS ?_ | refine Qg hS ?_); clear hS; intro b w hS)))
            refine s_ifp (fun h4 => ?_) (fun h4 => ?_)
            · rw [if_neg (by omega)]
              exact ⟨_, ⟨rfl, rfl⟩, hback (k := f) (SL.into hS Xi)⟩
            · rw [if_pos ⟨by omega, by omega, by omega⟩]
              refine s_getFO (j := 0) (i := 1) (x := x) (xs := [x]) hS (t := 105) (sz := 3) (n := 1) Xh fdcells_len rfl (by omega) (u := .int .i64 x.n) rfl ?_
              (repeat (first | (with_reducible first | apply Q0 | refine Qa hS ?_ | refine Qb ?_ | refine Qc hS ?_ | refine Qd ?_) | ((with_reducible refine Qe hS ?_); clear hS; intro w hS; simp only [List.set] at hS) | ((with_reducible first | refine s_draw hS ?_ | refine Qf hS ?_); clear hS; intro w hS) | ((with_reducible first | refine s_new hS ?_ | refine Qg hS ?_); clear hS; intro b w hS)))
              exact ⟨_, ⟨rfl, rfl⟩, hback (k := x.n) (SL.into hS Xi)⟩
def ReadQ2 (X : Chunk) (q : List UInt8) (r : Value) (post : List Chunk) : Prop := match readS q with
  | none => r = .tuple #[.int .i64 0, .slice none 0 0, .int .i64 0, .int .i64 3] ∧ post = [X]
  | some (f, l, n) => ∃ (u : Value) (es : List BEnt), byts es = l ∧ r = .tuple #[.int .i64 f, u, .int .i64 (n : Nat), .int .i64 0] ∧ post = [.ob (OwnSo u 31 1 es.length (vals es)), .ob (HAll BEntO es), X]
def readE (es : List BEnt) (n : Nat) : Option (Int × List (List UInt8) × Nat) := match es with
  | [] => none
  | e :: es' => (hdOf e.2).map fun k => (k, byts es', n)
theorem readS_es {q : List UInt8} {es : List BEnt} (he : byts es = (scanA q).1) : readS q = readE es (scanA q).2 := by
  unfold readS
  rw [← he]
  cases es with
  | nil => rfl
  | cons e es => rfl
/-- seg.Read -/
theorem segRead_spec (X : Chunk) (v : Value) (q : List UInt8) (hq : Rdb X v q) (hN : q.length ≤ 10000000000) : Spec Tryz.prog 53 [v] [X] (ReadQ2 X q) := by
  intro W F w hS; apply vc53; unfold Vc53; (try simp only [app] at hS)
  (apply s_call (scan_spec X v q hq hN) hS; exact Xp; clear hS)
  rintro r post ⟨u, es, he, rfl, rfl⟩ w hS; (try simp only [app] at hS)
  have hone := hS.ownOne .hd
  obtain ⟨au, cu, eu, _⟩ := OwnSl.at hS .hd
  subst eu
  (repeat (first | (with_reducible first | apply Q0 | refine Qa hS ?_ | refine Qb ?_ | refine Qc hS ?_ | refine Qd ?_) | ((with_reducible refine Qe hS ?_); clear hS; intro w hS; simp only [List.set] at hS) | ((with_reducible first | refine s_draw hS ?_ | refine Qf hS ?_); clear hS; intro w hS) | ((with_reducible first | refine s_new hS ?_ | refine Qg hS ?_); clear hS; intro b w hS)))
  refine ⟨_, rfl, s_new hS ?_⟩
  clear hS; intro rp w hS
  have hS : SL W (.pt rp [.slice au es.length cu, .int .i64 ((scanA q).2 : Nat), .int .i64 0] 128 :: .ob (OwnSl (.slice au es.length cu) 31 1 es.length (vals es)) :: .ob (HAll BEntO es) :: X :: F) w := hS
  (apply s_call (segRdHead_spec rp (.slice au es.length cu) ((scanA q).2 : Nat) 0 es) hS; exact Xp; clear hS)
  rintro v post ⟨rfl, rfl⟩ w hS; (try simp only [app] at hS)
  refine s_not ?_
  have hr := readS_es he
  cases hd : hdR es with
  | none =>
    refine s_ift ?_
    refine ⟨[X], ?_, SL.into hS Xi⟩
    unfold ReadQ2
    have : readS q = none := by
      rw [hr]
      cases es with
      | nil => rfl
      | cons e es => have hd : hdOf e.2 = none := hd; show (hdOf e.2).map _ = none; rw [hd]; rfl
    rw [this]; exact ⟨rfl, rfl⟩
  | some k =>
    refine s_iff ?_
    cases es with
    | nil => cases hd
    | cons e es =>
      have hd : hdOf e.2 = some k := hd
      have hr : readS q = some (k, byts es, (scanA q).2) := by
        rw [hr]; show (hdOf e.2).map _ = _; rw [hd]; rfl
      rw [show (hdR (e :: es)).getD 0 = k by show (hdOf e.2).getD 0 = k; rw [hd]; rfl] at hS
      (repeat (first | (with_reducible first | apply Q0 | refine Qa hS ?_ | refine Qb ?_ | refine Qc hS ?_ | refine Qd ?_) | ((with_reducible refine Qe hS ?_); clear hS; intro w hS; simp only [List.set] at hS) | ((with_reducible first | refine s_draw hS ?_ | refine Qf hS ?_); clear hS; intro w hS) | ((with_reducible first | refine s_new hS ?_ | refine Qg hS ?_); clear hS; intro b w hS)))
      have hS := HAll.take (t := 0) (x := e) (SL.into hS (t := .ob (HAll BEntO (e :: es)) :: .pt rp [.slice au (e :: es).length cu, .int .i64 ((scanA q).2 : Nat), .int .i64 k] 128 :: .ob (OwnSl (.slice au (e :: es).length cu) 31 1 (e :: es).length (vals (e :: es))) :: X :: F) Xi) rfl
      have hS := OwnSo.of (SL.into hS (t := .ob (OwnSl (.slice au (e :: es).length cu) 31 1 (e :: es).length (vals (e :: es))) :: .pt rp [.slice au (e :: es).length cu, .int .i64 ((scanA q).2 : Nat), .int .i64 k] 128 :: .ob (HAll BEntO ((e :: es).eraseIdx 0)) :: X :: F) Xi)
      refine s_slSo (k := 1) hS (by simp) ?_
      clear hS; intro y hS
      have e1 : (e :: es).length - 1 = es.length := by simp
      have e2 : (vals (e :: es)).drop (1 * 1) = vals es := rfl
      have e3 : (e :: es).eraseIdx 0 = es := rfl
      rw [e1, e2, e3] at hS
      (repeat (first | (with_reducible first | apply Q0 | refine Qa hS ?_ | refine Qb ?_ | refine Qc hS ?_ | refine Qd ?_) | ((with_reducible refine Qe hS ?_); clear hS; intro w hS; simp only [List.set] at hS) | ((with_reducible first | refine s_draw hS ?_ | refine Qf hS ?_); clear hS; intro w hS) | ((with_reducible first | refine s_new hS ?_ | refine Qg hS ?_); clear hS; intro b w hS)))
      refine ⟨[.ob (OwnSo y 31 1 es.length (vals es)), .ob (HAll BEntO es), X], ?_, SL.into hS Xi⟩
      unfold ReadQ2
      rw [hr]
      exact ⟨y, es, rfl, rfl, rfl⟩
end Go.Proofs.YtmcglicbolhmfaaGreat
namespace Go.Proofs.YtmcglicbolhmfaaGreat
set_option linter.unusedVariables false
set_option maxRecDepth 100000
open Go.RowKit

/-- qanatref01.More -/
theorem rmore_spec (X : Chunk) (s : Int) (v : Value) (b : List UInt8) (hb : Rdb X v b) (hN : b.length ≤ 140737488355328) : Spec Tryz.prog 66 [.int .u32 s, v] [X] (Gives (.int .u32 (moreC s b)) [X]) := by
  intro W F w hS; apply vc66; unfold Vc66; (try simp only [app] at hS)
  refine s_cpl32 ?_
  refine ⟨fun vs w => ∃ i : Nat, i ≤ b.length ∧ vs = [.int .u32 ((b.take i).foldl stepC (cpl32 s)), .int .i64 i] ∧ SL W (X :: F) w, fun vs _ => match vs with
    | [_, .int _ i] => b.length - i.toNat
    | _ => 0, ⟨0, by omega, rfl, hS⟩, ?_⟩
  clear hS
  rintro v1 v2 w1 ⟨i, hi, hv, hS⟩
  cases hv
  refine s_lenB hS .hd hb ?_
  (repeat (first | (with_reducible first | apply Q0 | refine Qa hS ?_ | refine Qb ?_ | refine Qc hS ?_ | refine Qd ?_) | ((with_reducible refine Qe hS ?_); clear hS; intro w hS; simp only [List.set] at hS) | ((with_reducible first | refine s_draw hS ?_ | refine Qf hS ?_); clear hS; intro w hS) | ((with_reducible first | refine s_new hS ?_ | refine Qg hS ?_); clear hS; intro b w hS)))
  refine s_ifp (fun h => ?_) (fun h => ?_)
  · have hi : i < b.length := by omega
    have hx := b[i].toNat_lt
    refine s_idxB hS .hd hb hi ?_
    refine s_cvI ?_
    rw [wrap_u32 (by omega) (by omega)]
    refine s_xor32 ?_
    refine ⟨fun vs w => ∃ k : Nat, k ≤ 8 ∧ vs = [.int .u32 (bitsC k (xor32 ((b.take i).foldl stepC (cpl32 s)) (b[i].toNat : Int))), .int .i64 k] ∧ SL W (X :: F) w, fun vs _ => match vs with
      | [_, .int _ k] => 8 - k.toNat
      | _ => 0, ⟨0, by omega, rfl, hS⟩, ?_⟩
    clear hS
    rintro u1 u2 w2 ⟨k, hk, hu, hS⟩
    cases hu
    (repeat (first | (with_reducible first | apply Q0 | refine Qa hS ?_ | refine Qb ?_ | refine Qc hS ?_ | refine Qd ?_) | ((with_reducible refine Qe hS ?_); clear hS; intro w hS; simp only [List.set] at hS) | ((with_reducible first | refine s_draw hS ?_ | refine Qf hS ?_); clear hS; intro w hS) | ((with_reducible first | refine s_new hS ?_ | refine Qg hS ?_); clear hS; intro b w hS)))
    refine s_ifp (fun h1 => ?_) (fun h1 => ?_)
    · have hbb : ∀ c, bitsC (k + 1) c = bitC (bitsC k c) := fun c => rfl
      refine s_and32 ?_
      refine s_eq ?_
      refine s_shr32 (n := 1) (by omega) ?_
      refine s_ifp (fun h2 => ?_) (fun h2 => ?_)
      · refine s_xor32 ?_
        (repeat (first | (with_reducible first | apply Q0 | refine Qa hS ?_ | refine Qb ?_ | refine Qc hS ?_ | refine Qd ?_) | ((with_reducible refine Qe hS ?_); clear hS; intro w hS; simp only [List.set] at hS) | ((with_reducible first | refine s_draw hS ?_ | refine Qf hS ?_); clear hS; intro w hS) | ((with_reducible first | refine s_new hS ?_ | refine Qg hS ?_); clear hS; intro b w hS)))
        refine ⟨⟨k + 1, by omega, ?_, hS⟩, ?_⟩
        · rw [hbb, bitC, if_pos h2]
        · simp only [Int.toNat_natCast]; omega
      · (repeat (first | (with_reducible first | apply Q0 | refine Qa hS ?_ | refine Qb ?_ | refine Qc hS ?_ | refine Qd ?_) | ((with_reducible refine Qe hS ?_); clear hS; intro w hS; simp only [List.set] at hS) | ((with_reducible first | refine s_draw hS ?_ | refine Qf hS ?_); clear hS; intro w hS) | ((with_reducible first | refine s_new hS ?_ | refine Qg hS ?_); clear hS; intro b w hS)))
        refine ⟨⟨k + 1, by omega, ?_, hS⟩, ?_⟩
        · rw [hbb, bitC, if_neg h2]
        · simp only [Int.toNat_natCast]; omega
    · obtain rfl : k = 8 := by omega
      (repeat (first | (with_reducible first | apply Q0 | refine Qa hS ?_ | refine Qb ?_ | refine Qc hS ?_ | refine Qd ?_) | ((with_reducible refine Qe hS ?_); clear hS; intro w hS; simp only [List.set] at hS) | ((with_reducible first | refine s_draw hS ?_ | refine Qf hS ?_); clear hS; intro w hS) | ((with_reducible first | refine s_new hS ?_ | refine Qg hS ?_); clear hS; intro b w hS)))
      refine ⟨⟨i + 1, by omega, ?_, hS⟩, ?_⟩
      · rw [show b.take (i + 1) = b.take i ++ [b[i]] by rw [List.take_add_one]; simp [hi], List.foldl_append]; rfl
      · simp only [Int.toNat_natCast]; omega
  · obtain rfl : i = b.length := by omega
    refine s_cpl32 ?_
    rw [List.take_length]
    exact ⟨_, ⟨rfl, rfl⟩, hS⟩
/-- qanatref01.Sum -/
theorem rsum_spec (X : Chunk) (v : Value) (b : List UInt8) (hb : Rdb X v b) (hN : b.length ≤ 140737488355328) : Spec Tryz.prog 67 [v] [X] (Gives (.int .u32 (moreC 0 b)) [X]) := by
  intro W F w hS; apply vc67; unfold Vc67; (try simp only [app] at hS)
  (apply s_call (rmore_spec X 0 v b hb hN) hS; exact Xp; clear hS)
  (rintro v post ⟨rfl, rfl⟩ w hS; (try simp only [app] at hS); (repeat (first | (with_reducible first | apply Q0 | refine Qa hS ?_ | refine Qb ?_ | refine Qc hS ?_ | refine Qd ?_) | ((with_reducible refine Qe hS ?_); clear hS; intro w hS; simp only [List.set] at hS) | ((with_reducible first | refine s_draw hS ?_ | refine Qf hS ?_); clear hS; intro w hS) | ((with_reducible first | refine s_new hS ?_ | refine Qg hS ?_); clear hS; intro b w hS))))
  exact ⟨_, ⟨rfl, rfl⟩, hS⟩
/-- qanatref01.big -/
theorem rbig_spec (x : Int) (n : Nat) (hn : n ≤ 8) : Spec Tryz.prog 64 [.int .u64 x, .int .i64 n] [] (fun u post => post = [.ob (OwnSl u 5 1 (numB x n).length ((numB x n).map u8c))]) := by
  intro W F w hS; apply vc64; unfold Vc64; (try simp only [app] at hS)
  (repeat (first | (with_reducible first | apply Q0 | refine Qa hS ?_ | refine Qb ?_ | refine Qc hS ?_ | refine Qd ?_) | ((with_reducible refine Qe hS ?_); clear hS; intro w hS; simp only [List.set] at hS) | ((with_reducible first | refine s_draw hS ?_ | refine Qf hS ?_); clear hS; intro w hS) | ((with_reducible first | refine s_new hS ?_ | refine Qg hS ?_); clear hS; intro b w hS)))
  have hS := OwnSl.nil (t := 5) (sz := 1) hS
  have hS : SL W (.ob (OwnSl (.slice none 0 0) 5 1 ([] : List UInt8).length (([] : List UInt8).map u8c)) :: F) w := hS
  refine ⟨fun vs w => ∃ (u : Value) (c : List UInt8) (k : Nat), vs = [u, .int .i64 ((k : Int) - 1)] ∧ k ≤ n ∧ c ++ numB x k = numB x n ∧ SL W (.ob (OwnSl u 5 1 c.length (c.map u8c)) :: F) w, fun vs _ => match vs with
    | [_, .int _ i] => (i + 1).toNat
    | _ => 0, ⟨_, [], n, rfl, Nat.le_refl _, rfl, hS⟩, ?_⟩
  clear hS
  rintro u1 u2 w1 ⟨u, c, k, hv, hk, hc, hS⟩
  cases hv
  (repeat (first | (with_reducible first | apply Q0 | refine Qa hS ?_ | refine Qb ?_ | refine Qc hS ?_ | refine Qd ?_) | ((with_reducible refine Qe hS ?_); clear hS; intro w hS; simp only [List.set] at hS) | ((with_reducible first | refine s_draw hS ?_ | refine Qf hS ?_); clear hS; intro w hS) | ((with_reducible first | refine s_new hS ?_ | refine Qg hS ?_); clear hS; intro b w hS)))
  refine s_ifp (fun h => ?_) (fun h => ?_)
  · obtain ⟨j, rfl⟩ : ∃ j, k = j + 1 := ⟨k - 1, by omega⟩
    have e0 : ((j + 1 : Nat) : Int) - 1 = (j : Int) := by omega
    rw [e0]
    refine s_mul (by omega) ?_
    have e1 : (8 : Int) * (j : Int) = ((8 * j : Nat) : Int) := by omega
    rw [e1]
    refine s_cvI ?_
    rw [wrap_u64 (by omega) (by omega)]
    refine s_shrU (by omega) ?_
    refine s_cvI ?_
    rw [wrap_u8]
    refine s_bldS (cells := [u8c (lowB (x.fdiv (2 ^ (8 * j))))]) hS rfl ?_
    clear hS; intro p w hS
    have hcl : c.length + (j + 1) = n := by
      have := congrArg List.length hc
      simpa [numB_len] using this
    refine s_app (m := 1) (cs := [u8c (lowB (x.fdiv (2 ^ (8 * j))))]) hS Xr (src_pt0 hS .hd rfl) rfl rfl (by intro v hv; simp only [List.mem_singleton] at hv; subst hv; rfl) (by omega) (by omega) ?_
    clear hS; intro u' w hS
    (repeat (first | (with_reducible first | apply Q0 | refine Qa hS ?_ | refine Qb ?_ | refine Qc hS ?_ | refine Qd ?_) | ((with_reducible refine Qe hS ?_); clear hS; intro w hS; simp only [List.set] at hS) | ((with_reducible first | refine s_draw hS ?_ | refine Qf hS ?_); clear hS; intro w hS) | ((with_reducible first | refine s_new hS ?_ | refine Qg hS ?_); clear hS; intro b w hS)))
    refine ⟨⟨u', c ++ [lowB (x.fdiv (2 ^ (8 * j)))], j, rfl, by omega, ?_, ?_⟩, ?_⟩
    · rw [← hc]; simp [numB]
    · simp only [List.length_append, List.length_cons, List.length_nil, List.map_append, List.map_cons, List.map_nil]
      exact SL.into hS Xi
    · show ((j : Int) - 1 + 1).toNat < ((j : Int) + 1).toNat
      omega
  · obtain rfl : k = 0 := by omega
    have e : c = numB x n := by simpa [numB] using hc
    rw [e] at hS
    exact ⟨_, rfl, hS⟩
theorem s_shl8 {x : Nat} {K : Value → Prop} (h : K (.int .u64 (((x * 256) % 18446744073709551616 : Nat) : Int))) : HBin .shl (.int .u64 (x : Int)) (.int .u64 8) K := by
  refine ⟨.int .u64 (((x * 256) % 18446744073709551616 : Nat) : Int), ?_, h⟩
  show (if (8 : Int) < 0 then none else some (Value.int .u64 (IntKind.u64.wrap ((x : Int) * 2 ^ (min (8 : Int).toNat IntKind.u64.bits))))) = _
  rw [if_neg (by omega)]
  congr 2
theorem s_or8 {x : Nat} {c : UInt8} {K : Value → Prop} (h : K (.int .u64 (((x * 256 + c.toNat) % 18446744073709551616 : Nat) : Int))) :
    HCvI .u64 (u8c c) fun y => HBin .or (.int .u64 (((x * 256) % 18446744073709551616 : Nat) : Int)) y K := by
  have hc := c.toNat_lt
  refine s_cvI ?_
  rw [wrap_u64 (by omega) (by omega)]
  refine ⟨_, or64 (by omega) (by omega), ?_⟩
  have e : (x * 256) % 18446744073709551616 = ((x * 256) % 18446744073709551616 / 256) <<< 8 := by rw [Nat.shiftLeft_eq]; omega
  have e2 : (x * 256) % 18446744073709551616 ||| c.toNat = (x * 256 + c.toNat) % 18446744073709551616 := by
    rw [e, ← Nat.shiftLeft_add_eq_or_of_lt (show c.toNat < 2 ^ 8 by omega), Nat.shiftLeft_eq]; omega
  rw [e2]; exact h
/-- qanatref01.number -/
theorem rnumber_spec (X : Chunk) (v : Value) (b : List UInt8) (hb : Rdb X v b) (hN : b.length ≤ 140737488355328) : Spec Tryz.prog 72 [v] [X] (Gives (.int .u64 (bigN b : Nat)) [X]) := by
  intro W F w hS; apply vc72; unfold Vc72; (try simp only [app] at hS)
  refine ⟨fun vs w => ∃ i : Nat, i ≤ b.length ∧ vs = [.int .u64 (bigN (b.take i) : Nat), .int .i64 i] ∧ SL W (X :: F) w, fun vs _ => match vs with
    | [_, .int _ i] => b.length - i.toNat
    | _ => 0, ⟨0, by omega, rfl, hS⟩, ?_⟩
  clear hS
  rintro v1 v2 w1 ⟨i, hi, hv, hS⟩
  cases hv
  refine s_lenB hS Xh hb ?_
  (repeat (first | (with_reducible first | apply Q0 | refine Qa hS ?_ | refine Qb ?_ | refine Qc hS ?_ | refine Qd ?_) | ((with_reducible refine Qe hS ?_); clear hS; intro w hS; simp only [List.set] at hS) | ((with_reducible first | refine s_draw hS ?_ | refine Qf hS ?_); clear hS; intro w hS) | ((with_reducible first | refine s_new hS ?_ | refine Qg hS ?_); clear hS; intro b w hS)))
  refine s_ifp (fun h => ?_) (fun h => ?_)
  · have hi : i < b.length := by omega
    refine s_shl8 ?_
    refine s_idxB hS Xh hb hi ?_
    refine s_or8 ?_
    (repeat (first | (with_reducible first | apply Q0 | refine Qa hS ?_ | refine Qb ?_ | refine Qc hS ?_ | refine Qd ?_) | ((with_reducible refine Qe hS ?_); clear hS; intro w hS; simp only [List.set] at hS) | ((with_reducible first | refine s_draw hS ?_ | refine Qf hS ?_); clear hS; intro w hS) | ((with_reducible first | refine s_new hS ?_ | refine Qg hS ?_); clear hS; intro b w hS)))
    refine ⟨⟨i + 1, by omega, ?_, hS⟩, ?_⟩
    · rw [bigN_take hi]
    · simp only [Int.toNat_natCast]; omega
  · have : b.take i = b := List.take_of_length_le (by omega)
    rw [this]
    exact ⟨_, ⟨rfl, rfl⟩, hS⟩
/-- qanatref01.Put -/
theorem rrec_spec (X : Chunk) (v : Value) (q : List UInt8) (hq : Rdb X v q) (hN : q.length ≤ 140737488355328) : Spec Tryz.prog 52 [v] [X] (PutQ X q) := by
  intro W F w hS; apply vc52; unfold Vc52; (try simp only [app] at hS)
  refine s_lenB hS .hd hq ?_
  (repeat (first | (with_reducible first | apply Q0 | refine Qa hS ?_ | refine Qb ?_ | refine Qc hS ?_ | refine Qd ?_) | ((with_reducible refine Qe hS ?_); clear hS; intro w hS; simp only [List.set] at hS) | ((with_reducible first | refine s_draw hS ?_ | refine Qf hS ?_); clear hS; intro w hS) | ((with_reducible first | refine s_new hS ?_ | refine Qg hS ?_); clear hS; intro b w hS)))
  refine s_ifp (fun h => ?_) (fun h => ?_)
  · exact ⟨_, .big (by omega), hS⟩
  · have hq1 : q.length ≤ 1048576 := by omega
    refine s_lenB hS .hd hq ?_
    refine s_cvI ?_
    rw [wrap_u64 (by omega) (by omega)]
    (apply s_call (rbig_spec q.length 4 (by omega)) hS; exact Xp; clear hS)
    rintro v12 post rfl w hS; (try simp only [app] at hS)
    rw [numB4] at hS
    have hr1 : Rdb (.ob (OwnSl v12 5 1 (four q.length).length ((four q.length).map u8c))) v12 (four q.length) := Rdb.own
    (apply s_call (rsum_spec _ v12 (four q.length) hr1 (by rw [four_len]; omega)) hS; exact Xp; clear hS)
    rintro v post ⟨rfl, rfl⟩ w hS; (try simp only [app] at hS)
    (apply s_call (rmore_spec X (moreC 0 (four q.length)) v q hq hN) hS; exact Xp; clear hS)
    rintro v post ⟨rfl, rfl⟩ w hS; (try simp only [app] at hS)
    have hs : moreC (moreC 0 (four q.length)) q = sumOf q := rfl
    have hrg := moreC_rng (moreC 0 (four q.length)) q
    rw [hs] at hrg ⊢
    refine s_cvI ?_
    rw [wrap_u64 (by omega) (by omega)]
    (apply s_call (rbig_spec (sumOf q) 4 (by omega)) hS; exact Xp; clear hS)
    rintro v20 post rfl w hS; (try simp only [app] at hS)
    rw [numB4] at hS
    refine s_app (t := 5) (sz := 1) (x := v12) (n := (four q.length).length) (cells := (four q.length).map u8c) (m := (four (sumOf q)).length) (cs := (four (sumOf q)).map u8c) hS Xr (src_own hS Xh) (by simp) rfl (u8c_one _) (by simp [four_len]) (by simp [four_len]) ?_
    clear hS; intro v21 w hS
    rw [← List.map_append, ← List.length_append] at hS
    refine s_app (t := 5) (sz := 1) (m := q.length) (cs := q.map u8c) hS .hd (hq.src hS Xh) (by simp) rfl (u8c_one _) (by simp only [List.length_append, four_len]; omega) (by simp only [List.length_append, four_len]; omega) ?_
    clear hS; intro v24 w hS
    rw [← List.map_append, ← List.length_append] at hS
    have e : four (q.length : Nat) ++ four (sumOf q) ++ q = recB q := rfl
    rw [e] at hS
    exact ⟨_, .ok hq1 v24, SL.into hS Xi⟩
/-- qanatref01.Take -/
theorem rtake_spec (X : Chunk) (v : Value) (q : List UInt8) (hq : Rdb X v q) (hN : q.length ≤ 140737488355328) : Spec Tryz.prog 71 [v] [X] (TakeQ X q) := by
  intro W F w hS; apply vc71; unfold Vc71; (try simp only [app] at hS)
  refine s_lenB hS .hd hq ?_
  (repeat (first | (with_reducible first | apply Q0 | refine Qa hS ?_ | refine Qb ?_ | refine Qc hS ?_ | refine Qd ?_) | ((with_reducible refine Qe hS ?_); clear hS; intro w hS; simp only [List.set] at hS) | ((with_reducible first | refine s_draw hS ?_ | refine Qf hS ?_); clear hS; intro w hS) | ((with_reducible first | refine s_new hS ?_ | refine Qg hS ?_); clear hS; intro b w hS)))
  refine s_ifp (fun h => ?_) (fun h => ?_)
  · exact ⟨_, .er (take_er1 (by omega)), hS⟩
  · have h8 : 8 ≤ q.length := by omega
    refine s_slHiB (hi := 4) hS .hd hq (by omega) ?_
    intro v11 h11
    (apply s_call (rnumber_spec X v11 (q.take 4) h11 (by rw [List.length_take]; omega)) hS; exact Xp; clear hS)
    rintro v post ⟨rfl, rfl⟩ w hS; (try simp only [app] at hS)
    rw [bigN_num4 (by omega)]
    have hlt := num4_lt q
    refine s_cv64 (by omega) ?_
    have hsm := fun (p : List UInt8) hp => sum_same (q := q) (p := p) h8 hp
    have te2 := take_er2 (q := q) h8
    have te3 := take_er3 (q := q) h8
    have te4 := take_er4 (q := q) h8
    have tok := take_ok (q := q) h8
    generalize num4 q = k at *
    (repeat (first | (with_reducible first | apply Q0 | refine Qa hS ?_ | refine Qb ?_ | refine Qc hS ?_ | refine Qd ?_) | ((with_reducible refine Qe hS ?_); clear hS; intro w hS; simp only [List.set] at hS) | ((with_reducible first | refine s_draw hS ?_ | refine Qf hS ?_); clear hS; intro w hS) | ((with_reducible first | refine s_new hS ?_ | refine Qg hS ?_); clear hS; intro b w hS)))
    refine s_ifp (fun h2 => ?_) (fun h2 => ?_)
    · exact ⟨_, .er (te2 (by omega)), hS⟩
    · refine s_lenB hS .hd hq ?_
      (repeat (first | (with_reducible first | apply Q0 | refine Qa hS ?_ | refine Qb ?_ | refine Qc hS ?_ | refine Qd ?_) | ((with_reducible refine Qe hS ?_); clear hS; intro w hS; simp only [List.set] at hS) | ((with_reducible first | refine s_draw hS ?_ | refine Qf hS ?_); clear hS; intro w hS) | ((with_reducible first | refine s_new hS ?_ | refine Qg hS ?_); clear hS; intro b w hS)))
      refine s_ifp (fun h3 => ?_) (fun h3 => ?_)
      · exact ⟨_, .er (te3 (by omega) (by omega)), hS⟩
      · refine s_addn (a := 8) (b := k) (by omega) ?_
        refine s_slB (lo := 8) (hi := 8 + k) hS .hd hq (by omega) (by omega) ?_
        intro v44 h44
        rw [show 8 + k - 8 = k by omega] at h44
        have hl44 : ((q.drop 8).take k).length = k := by rw [List.length_take, List.length_drop]; omega
        generalize hp : (q.drop 8).take k = p at *
        (repeat (first | (with_reducible first | apply Q0 | refine Qa hS ?_ | refine Qb ?_ | refine Qc hS ?_ | refine Qd ?_) | ((with_reducible refine Qe hS ?_); clear hS; intro w hS; simp only [List.set] at hS) | ((with_reducible first | refine s_draw hS ?_ | refine Qf hS ?_); clear hS; intro w hS) | ((with_reducible first | refine s_new hS ?_ | refine Qg hS ?_); clear hS; intro b w hS)))
        refine s_slHiB (hi := 4) hS .hd hq (by omega) ?_
        intro v26 h26
        refine s_slB (lo := 4) (hi := 8) hS Xh hq (by omega) (by omega) ?_
        intro v32 h32
        rw [show 8 - 4 = 4 from rfl] at h32
        (apply s_call (rsum_spec X v26 (q.take 4) h26 (by rw [List.length_take]; omega)) hS; exact Xp; clear hS)
        rintro v post ⟨rfl, rfl⟩ w hS; (try simp only [app] at hS)
        (apply s_call (rmore_spec X (moreC 0 (q.take 4)) v44 p h44 (by omega)) hS; exact Xp; clear hS)
        rintro v post ⟨rfl, rfl⟩ w hS; (try simp only [app] at hS)
        have hrg := moreC_rng (moreC 0 (q.take 4)) p
        refine s_cvI ?_
        rw [wrap_u64 (by omega) (by omega)]
        (apply s_call (rnumber_spec X v32 ((q.drop 4).take 4) h32 (by rw [List.length_take]; omega)) hS; exact Xp; clear hS)
        rintro v post ⟨rfl, rfl⟩ w hS; (try simp only [app] at hS)
        (repeat (first | (with_reducible first | apply Q0 | refine Qa hS ?_ | refine Qb ?_ | refine Qc hS ?_ | refine Qd ?_) | ((with_reducible refine Qe hS ?_); clear hS; intro w hS; simp only [List.set] at hS) | ((with_reducible first | refine s_draw hS ?_ | refine Qf hS ?_); clear hS; intro w hS) | ((with_reducible first | refine s_new hS ?_ | refine Qg hS ?_); clear hS; intro b w hS)))
        rw [show decide (moreC (moreC 0 (q.take 4)) p ≠ ((bigN ((q.drop 4).take 4) : Nat) : Int)) = decide (four (sumOf p) ≠ (q.drop 4).take 4) from hsm p hl44]
        refine s_ifp (fun h4 => ?_) (fun h4 => ?_)
        · exact ⟨_, .er (te4 (by omega) (by omega) h4), SL.into hS Xi⟩
        · (repeat (first | (with_reducible first | apply Q0 | refine Qa hS ?_ | refine Qb ?_ | refine Qc hS ?_ | refine Qd ?_) | ((with_reducible refine Qe hS ?_); clear hS; intro w hS; simp only [List.set] at hS) | ((with_reducible first | refine s_draw hS ?_ | refine Qf hS ?_); clear hS; intro w hS) | ((with_reducible first | refine s_new hS ?_ | refine Qg hS ?_); clear hS; intro b w hS)))
          have hS := OwnSl.full (n := 0) (sz := 1) rfl hS
          refine s_app (t := 5) (sz := 1) (n := 0) (m := k) (cs := p.map u8c) hS .hd (by have := h44.src hS Xh; rw [hl44] at this; exact this) (by simp [hl44]) rfl (u8c_one _) (by omega) (by omega) ?_
          clear hS; intro v37 w hS
          rw [Nat.zero_add, List.nil_append] at hS
          refine s_addn (a := 8) (b := k) (by omega) ?_
          have ht := tok (by omega) (by omega) (Classical.not_not.1 h4)
          rw [← hl44] at hS
          exact ⟨_, .ok ht v37, SL.into hS Xi⟩
/-- qanatref01.Scan -/
theorem rscan_spec (X : Chunk) (v : Value) (q : List UInt8) (hq : Rdb X v q) (hN : q.length ≤ 10000000000) : Spec Tryz.prog 57 [v] [X] (ScanQ X q) := by
  intro W F w hS; apply vc57; unfold Vc57; (try simp only [app] at hS)
  have hS := OwnSl.nil (t := 31) (sz := 1) (HAll.nil (A := BEntO) hS)
  refine ⟨fun vs w => ∃ (u : Value) (es : List BEnt) (at_ : Nat), vs = [u, .int .i64 at_] ∧ at_ ≤ q.length ∧ es.length * 8 ≤ at_ ∧ byts es ++ (scanA (q.drop at_)).1 = (scanA q).1 ∧ at_ + (scanA (q.drop at_)).2 = (scanA q).2 ∧
      SL W (.ob (OwnSl u 31 1 es.length (vals es)) :: .ob (HAll BEntO es) :: X :: F) w, fun vs _ => match vs with
    | [_, .int _ i] => q.length - i.toNat
    | _ => 0, ⟨_, [], 0, rfl, Nat.zero_le _, Nat.le_refl _, rfl, by simp, hS⟩, ?_⟩
  clear hS
  rintro u1 u2 w1 ⟨u, es, i, hv, hi, h8, h1, h2, hS⟩
  cases hv
  refine s_lenB hS Xh hq ?_
  (repeat (first | (with_reducible first | apply Q0 | refine Qa hS ?_ | refine Qb ?_ | refine Qc hS ?_ | refine Qd ?_) | ((with_reducible refine Qe hS ?_); clear hS; intro w hS; simp only [List.set] at hS) | ((with_reducible first | refine s_draw hS ?_ | refine Qf hS ?_); clear hS; intro w hS) | ((with_reducible first | refine s_new hS ?_ | refine Qg hS ?_); clear hS; intro b w hS)))
  refine s_ifp (fun h0 => ?_) (fun h0 => ?_)
  · refine s_slLoB hS Xh hq hi ?_
    intro v12 h12
    (apply s_call (rtake_spec X v12 (q.drop i) h12 (by rw [List.length_drop]; omega)) hS; exact Xp; clear hS)
    intro v13 post hQ w hS
    unfold TakeQ at hQ
    cases ht : takeR (q.drop i) with
    | error e =>
      rw [ht] at hQ
      obtain ⟨rfl, rfl⟩ := hQ
      (try simp only [app] at hS)
      (repeat (first | (with_reducible first | apply Q0 | refine Qa hS ?_ | refine Qb ?_ | refine Qc hS ?_ | refine Qd ?_) | ((with_reducible refine Qe hS ?_); clear hS; intro w hS; simp only [List.set] at hS) | ((with_reducible first | refine s_draw hS ?_ | refine Qf hS ?_); clear hS; intro w hS) | ((with_reducible first | refine s_new hS ?_ | refine Qg hS ?_); clear hS; intro b w hS)))
      have he := takeR_err ht
      rw [scanA_er ht] at h1 h2
      refine s_ifp (fun _ => ?_) (fun h => by omega)
      refine ⟨_, ⟨u1, es, by simpa using h1, ?_, rfl⟩, SL.into hS Xi⟩
      rw [← h2]; rfl
    | ok x =>
      obtain ⟨p, n⟩ := x
      rw [ht] at hQ
      obtain ⟨y, rfl, rfl⟩ := hQ
      (try simp only [app] at hS)
      (repeat (first | (with_reducible first | apply Q0 | refine Qa hS ?_ | refine Qb ?_ | refine Qc hS ?_ | refine Qd ?_) | ((with_reducible refine Qe hS ?_); clear hS; intro w hS; simp only [List.set] at hS) | ((with_reducible first | refine s_draw hS ?_ | refine Qf hS ?_); clear hS; intro w hS) | ((with_reducible first | refine s_new hS ?_ | refine Qg hS ?_); clear hS; intro b w hS)))
      have hl := takeR_len ht
      rw [scanA_ok ht] at h1 h2
      rw [List.length_drop] at hl
      refine s_ifp (fun h => absurd rfl h) (fun _ => ?_)
      have hone := hS.ownOne .hd
      obtain ⟨ay, cy, ey, _⟩ := OwnSl.at hS .hd
      subst ey
      refine s_bldS (cells := [.slice ay p.length cy]) hS rfl ?_
      clear hS; intro b w hS
      refine s_app (m := 1) (cs := [.slice ay p.length cy]) hS Xr (src_pt0 hS .hd rfl) rfl rfl (by intro v hv; simp only [List.mem_singleton] at hv; subst hv; rfl) (by omega) (by omega) ?_
      clear hS; intro u' w hS
      have hS := HAll.snoc (A := BEntO) (xs := es) (x := (.slice ay p.length cy, p)) (SL.into hS (t := .ob (HAll BEntO es) :: .ob (OwnSl (.slice ay p.length cy) 5 1 p.length (p.map u8c)) :: .ob (OwnSl u' 31 1 (es.length + 1) (vals es ++ [.slice ay p.length cy])) :: X :: F) Xi)
      refine s_addn (a := i) (b := n) (by omega) ?_
      refine ⟨⟨u', es ++ [(.slice ay p.length cy, p)], i + n, rfl, by omega, by simp; omega, ?_, ?_, ?_⟩, ?_⟩
      · rw [← h1, ← List.drop_drop]; simp [byts]
      · rw [← h2, ← List.drop_drop]; simp only; omega
      · rw [show (es ++ [((Value.slice ay p.length cy, p) : BEnt)]).length = es.length + 1 by simp, show vals (es ++ [((Value.slice ay p.length cy, p) : BEnt)]) = vals es ++ [.slice ay p.length cy] by simp [vals]]
        exact SL.into hS Xi
      · simp only [Int.toNat_natCast]; omega
  · have hd : q.drop i = [] := List.drop_eq_nil_of_le (by omega)
    rw [hd, scanA_er takeR_nil] at h1 h2
    refine ⟨_, ⟨u1, es, by simpa using h1, ?_, rfl⟩, SL.into hS Xi⟩
    rw [← h2]; rfl
end Go.Proofs.YtmcglicbolhmfaaGreat
namespace Go.Proofs.YtmcglicbolhmfaaGreat
set_option linter.unusedVariables false
set_option maxRecDepth 100000
open Go.RowKit

section
variable {W w : World} {l : List Chunk} {X : Chunk} {v : Value} {sz n : Nat}
/-- One field of one of a row of records. -/
theorem s_getRowF {α : Type} {enc : α → List Value} {xs : List α} {j i : Nat} {u : Value} {kk : IntKind} {K : Value → Prop} (hS : SL W l w) (m : Has X l) (hb : Rdn X sz v n (xs.map enc).flatten) (he : ∀ x, (enc x).length = sz) (hsz : 0 < sz) (hx : xs.length = n) (hj : j < n)
    (hu : (enc (xs[j]'(by omega)))[i]? = some u) (hK : K u) : HIdx sz v (.int kk (j : Int)) fun p => HFld i p fun q => HLd q w K := by
  obtain ⟨a, c, rfl, hc⟩ := hb.sl hS m
  have hs := hb.src hS m
  have hlen : (xs.map enc).flatten.length = n * sz := by rw [← hx]; exact flat_len he xs
  have hg := flat_get he (by omega) hu
  cases a with
  | none =>
    have e : (xs.map enc).flatten = [] := hs.2
    rw [e] at hg; simp at hg
  | some p =>
    refine ⟨p, _, c, kk, j, rfl, rfl, hj, ?_⟩
    refine ⟨_, rfl, ?_⟩
    refine ⟨_, u, rfl, ?_, hK⟩
    rw [addr_add2]
    exact hs.2.2 (j * sz + i) u hg
end
theorem num_spec (n : Int) : Spec Tryz.prog 51 [.int .i64 n] [] (Gives (.agg (fdcells ⟨1, n, ⟨#[]⟩⟩).toArray) []) := by
  intro W F w hS; apply vc51; unfold Vc51; (try simp only [app] at hS)
  (repeat (first | (with_reducible first | apply Q0 | refine Qa hS ?_ | refine Qb ?_ | refine Qc hS ?_ | refine Qd ?_) | ((with_reducible refine Qe hS ?_); clear hS; intro w hS; simp only [List.set] at hS) | ((with_reducible first | refine s_draw hS ?_ | refine Qf hS ?_); clear hS; intro w hS) | ((with_reducible first | refine s_new hS ?_ | refine Qg hS ?_); clear hS; intro b w hS)))
  exact ⟨_, ⟨rfl, rfl⟩, SL.into hS Xi⟩
theorem text_spec (s : ByteArray) : Spec Tryz.prog 73 [.string s] [] (Gives (.agg (fdcells ⟨2, 0, s⟩).toArray) []) := by
  intro W F w hS; apply vc73; unfold Vc73; (try simp only [app] at hS)
  (repeat (first | (with_reducible first | apply Q0 | refine Qa hS ?_ | refine Qb ?_ | refine Qc hS ?_ | refine Qd ?_) | ((with_reducible refine Qe hS ?_); clear hS; intro w hS; simp only [List.set] at hS) | ((with_reducible first | refine s_draw hS ?_ | refine Qf hS ?_); clear hS; intro w hS) | ((with_reducible first | refine s_new hS ?_ | refine Qg hS ?_); clear hS; intro b w hS)))
  exact ⟨_, ⟨rfl, rfl⟩, SL.into hS Xi⟩
theorem rrightF_spec (x : PFd) : Spec Tryz.prog 65 [.agg (fdcells x).toArray] [] (Gives (.bool (rightF x)) []) := by
  intro W F w hS; apply vc65; unfold Vc65; (try simp only [app] at hS)
  refine ⟨fdcells x, rfl, ?_⟩
  unfold fdcells
  (repeat (first | (with_reducible first | apply Q0 | refine Qa hS ?_ | refine Qb ?_ | refine Qc hS ?_ | refine Qd ?_) | ((with_reducible refine Qe hS ?_); clear hS; intro w hS; simp only [List.set] at hS) | ((with_reducible first | refine s_draw hS ?_ | refine Qf hS ?_); clear hS; intro w hS) | ((with_reducible first | refine s_new hS ?_ | refine Qg hS ?_); clear hS; intro b w hS)))
  unfold rightF
  refine s_ifp (fun h => ?_) (fun h => ?_)
  · rw [if_pos h]
    (repeat (first | (with_reducible first | apply Q0 | refine Qa hS ?_ | refine Qb ?_ | refine Qc hS ?_ | refine Qd ?_) | ((with_reducible refine Qe hS ?_); clear hS; intro w hS; simp only [List.set] at hS) | ((with_reducible first | refine s_draw hS ?_ | refine Qf hS ?_); clear hS; intro w hS) | ((with_reducible first | refine s_new hS ?_ | refine Qg hS ?_); clear hS; intro b w hS)))
    refine s_ifp (fun h1 => ?_) (fun h1 => ?_)
    · rw [decide_eq_true h1]
      exact ⟨_, ⟨rfl, rfl⟩, SL.into hS Xi⟩
    · (repeat (first | (with_reducible first | apply Q0 | refine Qa hS ?_ | refine Qb ?_ | refine Qc hS ?_ | refine Qd ?_) | ((with_reducible refine Qe hS ?_); clear hS; intro w hS; simp only [List.set] at hS) | ((with_reducible first | refine s_draw hS ?_ | refine Qf hS ?_); clear hS; intro w hS) | ((with_reducible first | refine s_new hS ?_ | refine Qg hS ?_); clear hS; intro b w hS)))
      refine s_ifp (fun h2 => by omega) (fun h2 => ?_)
      rw [decide_eq_false h1]
      exact ⟨_, ⟨rfl, rfl⟩, SL.into hS Xi⟩
  · rw [if_neg h]
    (repeat (first | (with_reducible first | apply Q0 | refine Qa hS ?_ | refine Qb ?_ | refine Qc hS ?_ | refine Qd ?_) | ((with_reducible refine Qe hS ?_); clear hS; intro w hS; simp only [List.set] at hS) | ((with_reducible first | refine s_draw hS ?_ | refine Qf hS ?_); clear hS; intro w hS) | ((with_reducible first | refine s_new hS ?_ | refine Qg hS ?_); clear hS; intro b w hS)))
    refine s_ifp (fun h2 => ?_) (fun h2 => ?_)
    · rw [if_pos h2]
      (repeat (first | (with_reducible first | apply Q0 | refine Qa hS ?_ | refine Qb ?_ | refine Qc hS ?_ | refine Qd ?_) | ((with_reducible refine Qe hS ?_); clear hS; intro w hS; simp only [List.set] at hS) | ((with_reducible first | refine s_draw hS ?_ | refine Qf hS ?_); clear hS; intro w hS) | ((with_reducible first | refine s_new hS ?_ | refine Qg hS ?_); clear hS; intro b w hS)))
      refine s_ifp (fun h3 => ?_) (fun h3 => ?_)
      · (repeat (first | (with_reducible first | apply Q0 | refine Qa hS ?_ | refine Qb ?_ | refine Qc hS ?_ | refine Qd ?_) | ((with_reducible refine Qe hS ?_); clear hS; intro w hS; simp only [List.set] at hS) | ((with_reducible first | refine s_draw hS ?_ | refine Qf hS ?_); clear hS; intro w hS) | ((with_reducible first | refine s_new hS ?_ | refine Qg hS ?_); clear hS; intro b w hS)))
        rw [decide_eq_true h3, Bool.true_and]
        have e : decide ((x.s.size : Int) ≤ 4096) = decide (x.s.size ≤ 4096) := by congr 1; exact propext ⟨fun _ => by omega, fun _ => by omega⟩
        rw [e]
        exact ⟨_, ⟨rfl, rfl⟩, SL.into hS Xi⟩
      · rw [decide_eq_false h3, Bool.false_and]
        exact ⟨_, ⟨rfl, rfl⟩, SL.into hS Xi⟩
    · rw [if_neg h2]
      exact ⟨_, ⟨rfl, rfl⟩, SL.into hS Xi⟩
/-- qanatref01.Encode -/
theorem rencode_spec (X : Chunk) (v : Value) (xs : List PFd) (hx : Rdn X 3 v xs.length (xs.map fdcells).flatten) (hN : xs.length ≤ 140737488355328) : Spec Tryz.prog 50 [v] [X] (EncQ X xs) := by
  intro W F w hS; apply vc50; unfold Vc50; (try simp only [app] at hS)
  refine s_lenN hS .hd hx ?_
  (repeat (first | (with_reducible first | apply Q0 | refine Qa hS ?_ | refine Qb ?_ | refine Qc hS ?_ | refine Qd ?_) | ((with_reducible refine Qe hS ?_); clear hS; intro w hS; simp only [List.set] at hS) | ((with_reducible first | refine s_draw hS ?_ | refine Qf hS ?_); clear hS; intro w hS) | ((with_reducible first | refine s_new hS ?_ | refine Qg hS ?_); clear hS; intro b w hS)))
  refine s_ifp (fun h => ?_) (fun h => ?_)
  · exact ⟨_, .er (by unfold encFs; rw [if_pos (by omega)]), hS⟩
  · refine s_lenN hS .hd hx ?_
    refine s_cvI ?_
    rw [wrap_u64 (by omega) (by omega)]
    (apply s_call (rbig_spec xs.length 2 (by omega)) hS; exact Xp; clear hS)
    rintro v13 post rfl w hS; (try simp only [app] at hS)
    have hb : ∀ i, i ≤ xs.length → (xs.take i).all rightF = true → (numB xs.length 2 ++ ((xs.take i).map encF).flatten).length ≤ 200000000 := fun i hi ha => by
      have := encFl_len ha
      rw [List.length_append, numB_len]
      rw [List.length_take] at this
      omega
    refine ⟨fun vs w => ∃ (i : Nat) (u : Value), i ≤ xs.length ∧ vs = [u, .int .i64 i] ∧ (xs.take i).all rightF = true ∧ SL W (.ob (OwnSl u 5 1 (numB xs.length 2 ++ ((xs.take i).map encF).flatten).length ((numB xs.length 2 ++ ((xs.take i).map encF).flatten).map u8c)) :: X :: F) w, fun vs _ => match vs with
      | [_, .int _ i] => xs.length - i.toNat
      | _ => 0, ⟨0, v13, by omega, rfl, rfl, (by simpa using hS)⟩, ?_⟩
    clear hS
    rintro u1 u2 w1 ⟨i, u, hi, hv, ha, hS⟩
    cases hv
    have hbi := hb i hi ha
    refine s_lenN hS Xh hx ?_
    (repeat (first | (with_reducible first | apply Q0 | refine Qa hS ?_ | refine Qb ?_ | refine Qc hS ?_ | refine Qd ?_) | ((with_reducible refine Qe hS ?_); clear hS; intro w hS; simp only [List.set] at hS) | ((with_reducible first | refine s_draw hS ?_ | refine Qf hS ?_); clear hS; intro w hS) | ((with_reducible first | refine s_new hS ?_ | refine Qg hS ?_); clear hS; intro b w hS)))
    refine s_ifp (fun h => ?_) (fun h => ?_)
    · have hi : i < xs.length := by omega
      refine s_getRow hS Xh hx fdcells_len (by omega) rfl hi ?_
      have hxi : xs[i] ∈ xs := List.getElem_mem hi
      have htk : xs.take (i + 1) = xs.take i ++ [xs[i]] := by rw [List.take_add_one]; simp [hi]
      (apply s_call (rrightF_spec xs[i]) hS; exact Xp; clear hS)
      rintro v post ⟨rfl, rfl⟩ w hS; (try simp only [app] at hS)
      refine s_not ?_
      cases hr : rightF xs[i] with
      | false =>
        refine s_ift ?_
        refine ⟨[X], .er ?_, SL.into hS Xi⟩
        unfold encFs
        rw [if_neg (by omega), if_neg]
        intro h
        have := List.all_eq_true.1 h xs[i] hxi
        rw [hr] at this; cases this
      | true =>
        refine s_iff ?_
        have ha2 : (xs.take (i + 1)).all rightF = true := by rw [htk, List.all_append, ha]; simp [hr]
        have hb2 := hb (i + 1) (by omega) ha2
        have hen : ((xs.take (i + 1)).map encF).flatten = ((xs.take i).map encF).flatten ++ encF xs[i] := by rw [htk, List.map_append, List.flatten_append]; simp only [List.map_cons, List.map_nil, List.flatten_cons, List.flatten_nil, List.append_nil]
        rw [hen] at hb2
        rw [List.length_append, List.length_append] at hb2
        have hk : xs[i].kind = 1 ∨ xs[i].kind = 2 := by
          unfold rightF at hr
          by_cases h1 : xs[i].kind = 1
          · exact .inl h1
          · rw [if_neg h1] at hr
            by_cases h2 : xs[i].kind = 2
            · exact .inr h2
            · rw [if_neg h2] at hr; cases hr
        generalize hc : numB xs.length 2 ++ ((xs.take i).map encF).flatten = c at *
        have hcl : c.length + (encF xs[i]).length ≤ 200000000 := by rw [← hc, List.length_append]; omega
        refine s_getRowF (i := 0) hS Xh hx fdcells_len (by omega) rfl hi (u := .int .i64 xs[i].kind) rfl ?_
        refine s_cvI ?_
        rw [wrap_u8]
        refine s_bldS (cells := [u8c (lowB xs[i].kind)]) hS rfl ?_
        clear hS; intro p w hS
        refine s_app (m := 1) (cs := [u8c (lowB xs[i].kind)]) hS Xr (src_pt0 hS .hd rfl) rfl rfl (by intro v hv; simp only [List.mem_singleton] at hv; subst hv; rfl) (by omega) (by omega) ?_
        clear hS; intro u' w hS
        have hS : SL W (.ob (OwnSl u' 5 1 (c ++ [lowB xs[i].kind]).length ((c ++ [lowB xs[i].kind]).map u8c)) :: X :: F) w := by
          simp only [List.length_append, List.length_cons, List.length_nil, List.map_append, List.map_cons, List.map_nil]
          exact SL.into hS Xi
        refine s_getRowF (i := 0) hS Xh hx fdcells_len (by omega) rfl hi (u := .int .i64 xs[i].kind) rfl ?_
        (repeat (first | (with_reducible first | apply Q0 | refine Qa hS ?_ | refine Qb ?_ | refine Qc hS ?_ | refine Qd ?_) | ((with_reducible refine Qe hS ?_); clear hS; intro w hS; simp only [List.set] at hS) | ((with_reducible first | refine s_draw hS ?_ | refine Qf hS ?_); clear hS; intro w hS) | ((with_reducible first | refine s_new hS ?_ | refine Qg hS ?_); clear hS; intro b w hS)))
        refine s_ifp (fun h1 => ?_) (fun h1 => ?_)
        · refine s_getRowF (i := 1) hS Xh hx fdcells_len (by omega) rfl hi (u := .int .i64 xs[i].n) rfl ?_
          refine s_cvI ?_
          have eu : IntKind.u64.wrap xs[i].n = unsig xs[i].n := rfl
          rw [eu]
          (apply s_call (rbig_spec (unsig xs[i].n) 8 (by omega)) hS; exact Xp; clear hS)
          rintro v47 post rfl w hS; (try simp only [app] at hS)
          refine s_app (t := 5) (sz := 1) (x := u') (n := (c ++ [lowB xs[i].kind]).length) (cells := (c ++ [lowB xs[i].kind]).map u8c) (m := (numB (unsig xs[i].n) 8).length) (cs := (numB (unsig xs[i].n) 8).map u8c) hS Xr (src_own hS Xh) (by simp) rfl (u8c_one _) (by rw [numB_len, List.length_append, List.length_singleton]; omega) (by rw [numB_len, List.length_append, List.length_singleton]; omega) ?_
          clear hS; intro v48 w hS
          rw [← List.map_append, ← List.length_append] at hS
          (repeat (first | (with_reducible first | apply Q0 | refine Qa hS ?_ | refine Qb ?_ | refine Qc hS ?_ | refine Qd ?_) | ((with_reducible refine Qe hS ?_); clear hS; intro w hS; simp only [List.set] at hS) | ((with_reducible first | refine s_draw hS ?_ | refine Qf hS ?_); clear hS; intro w hS) | ((with_reducible first | refine s_new hS ?_ | refine Qg hS ?_); clear hS; intro b w hS)))
          refine ⟨⟨i + 1, v48, by omega, rfl, ha2, ?_⟩, ?_⟩
          · have e : numB xs.length 2 ++ ((xs.take (i + 1)).map encF).flatten = c ++ [lowB xs[i].kind] ++ numB (unsig xs[i].n) 8 := by
              rw [hen, ← List.append_assoc, hc]
              have : encF xs[i] = lowB xs[i].kind :: numB (unsig xs[i].n) 8 := by unfold encF; rw [if_pos h1]
              rw [this]; simp
            rw [e]
            exact SL.into hS Xi
          · simp only [Int.toNat_natCast]; omega
        · have hsz : xs[i].s.size ≤ 4096 := by
            unfold rightF at hr
            rw [if_neg h1, if_pos (by omega), Bool.and_eq_true] at hr
            exact of_decide_eq_true hr.2
          have hef : encF xs[i] = lowB xs[i].kind :: (numB xs[i].s.size 2 ++ xs[i].s.data.toList) := by unfold encF; rw [if_neg h1]
          refine s_getRowF (i := 2) hS Xh hx fdcells_len (by omega) rfl hi (u := .string xs[i].s) rfl ?_
          (repeat (first | (with_reducible first | apply Q0 | refine Qa hS ?_ | refine Qb ?_ | refine Qc hS ?_ | refine Qd ?_) | ((with_reducible refine Qe hS ?_); clear hS; intro w hS; simp only [List.set] at hS) | ((with_reducible first | refine s_draw hS ?_ | refine Qf hS ?_); clear hS; intro w hS) | ((with_reducible first | refine s_new hS ?_ | refine Qg hS ?_); clear hS; intro b w hS)))
          refine s_cvI ?_
          rw [wrap_u64 (by omega) (by omega)]
          (apply s_call (rbig_spec xs[i].s.size 2 (by omega)) hS; exact Xp; clear hS)
          rintro v57 post rfl w hS; (try simp only [app] at hS)
          refine s_app (t := 5) (sz := 1) (x := u') (n := (c ++ [lowB xs[i].kind]).length) (cells := (c ++ [lowB xs[i].kind]).map u8c) (m := (numB xs[i].s.size 2).length) (cs := (numB xs[i].s.size 2).map u8c) hS Xr (src_own hS Xh) (by simp) rfl (u8c_one _) (by rw [numB_len, List.length_append, List.length_singleton]; omega) (by rw [numB_len, List.length_append, List.length_singleton]; omega) ?_
          clear hS; intro v58 w hS
          rw [← List.map_append, ← List.length_append] at hS
          refine s_getRowF (i := 2) hS Xh hx fdcells_len (by omega) rfl hi (u := .string xs[i].s) rfl ?_
          have hsl : xs[i].s.data.toList.length = xs[i].s.size := rfl
          have hel : (encF xs[i]).length = 1 + (2 + xs[i].s.size) := by rw [hef]; simp only [List.length_cons, List.length_append, numB_len]; omega
          refine s_app (m := xs[i].s.size) (cs := xs[i].s.data.toList.map u8c) hS Xr src_str (by simp) rfl (u8c_one _) (by simp only [List.length_append, List.length_cons, List.length_nil, numB_len]; omega) (by simp only [List.length_append, List.length_cons, List.length_nil, numB_len]; omega) ?_
          clear hS; intro v65 w hS
          (repeat (first | (with_reducible first | apply Q0 | refine Qa hS ?_ | refine Qb ?_ | refine Qc hS ?_ | refine Qd ?_) | ((with_reducible refine Qe hS ?_); clear hS; intro w hS; simp only [List.set] at hS) | ((with_reducible first | refine s_draw hS ?_ | refine Qf hS ?_); clear hS; intro w hS) | ((with_reducible first | refine s_new hS ?_ | refine Qg hS ?_); clear hS; intro b w hS)))
          refine ⟨⟨i + 1, v65, by omega, rfl, ha2, ?_⟩, ?_⟩
          · have e : numB xs.length 2 ++ ((xs.take (i + 1)).map encF).flatten = (c ++ [lowB xs[i].kind] ++ numB xs[i].s.size 2) ++ xs[i].s.data.toList := by
              rw [hen, ← List.append_assoc, hc, hef]; simp
            rw [e]
            generalize c ++ [lowB xs[i].kind] ++ numB xs[i].s.size 2 = A at *
            rw [List.length_append, List.map_append, hsl]
            exact SL.into hS Xi
          · simp only [Int.toNat_natCast]; omega
    · obtain rfl : i = xs.length := by omega
      rw [List.take_length] at hS ha
      exact ⟨_, .ok (by unfold encFs; rw [if_neg (by omega), if_pos ha]) u1, SL.into hS Xi⟩
/-- qanatref04.Head -/
theorem rhead_spec (n : Int) : Spec Tryz.prog 22 [.int .i64 n] [] (HeadQ n) := by
  intro W F w hS; apply vc22; unfold Vc22; (try simp only [app] at hS)
  (repeat (first | (with_reducible first | apply Q0 | refine Qa hS ?_ | refine Qb ?_ | refine Qc hS ?_ | refine Qd ?_) | ((with_reducible refine Qe hS ?_); clear hS; intro w hS; simp only [List.set] at hS) | ((with_reducible first | refine s_draw hS ?_ | refine Qf hS ?_); clear hS; intro w hS) | ((with_reducible first | refine s_new hS ?_ | refine Qg hS ?_); clear hS; intro b w hS)))
  unfold HeadQ
  refine s_ifp (fun h => ?_) (fun h => ?_)
  · refine ⟨[], ?_, hS⟩
    rw [if_pos (.inl (by omega))]
    exact ⟨rfl, rfl⟩
  · (repeat (first | (with_reducible first | apply Q0 | refine Qa hS ?_ | refine Qb ?_ | refine Qc hS ?_ | refine Qd ?_) | ((with_reducible refine Qe hS ?_); clear hS; intro w hS; simp only [List.set] at hS) | ((with_reducible first | refine s_draw hS ?_ | refine Qf hS ?_); clear hS; intro w hS) | ((with_reducible first | refine s_new hS ?_ | refine Qg hS ?_); clear hS; intro b w hS)))
    refine s_ifp (fun h2 => ?_) (fun h2 => ?_)
    · refine ⟨[], ?_, hS⟩
      rw [if_pos (.inr (by omega))]
      exact ⟨rfl, rfl⟩
    · simp only [if_neg (c := n < 1 ∨ 1099511627776 < n) (by omega)]
      (repeat (first | (with_reducible first | apply Q0 | refine Qa hS ?_ | refine Qb ?_ | refine Qc hS ?_ | refine Qd ?_) | ((with_reducible refine Qe hS ?_); clear hS; intro w hS; simp only [List.set] at hS) | ((with_reducible first | refine s_draw hS ?_ | refine Qf hS ?_); clear hS; intro w hS) | ((with_reducible first | refine s_new hS ?_ | refine Qg hS ?_); clear hS; intro b w hS)))
      obtain ⟨k, rfl⟩ : ∃ k : Nat, n = (k : Int) := ⟨n.toNat, by omega⟩
      (apply s_call (num_spec (k : Int)) hS; exact Xp; clear hS)
      rintro v post ⟨rfl, rfl⟩ w hS; (try simp only [app] at hS)
      refine s_bldS (cells := fdcells ⟨1, (k : Int), ⟨#[]⟩⟩) hS rfl ?_
      clear hS; intro b w hS
      (apply s_call (rencode_spec (.pt b (fdcells ⟨1, (k : Int), ⟨#[]⟩⟩) 105) (.slice (some ⟨b, 0, none⟩) 1 1) [⟨1, (k : Int), ⟨#[]⟩⟩] (Rdn.pt rfl) (by simp)) hS; exact Xp; clear hS)
      intro r post hQ w hS
      unfold EncQ at hQ
      rw [encFs_hd (by omega)] at hQ
      obtain ⟨u, rfl, rfl⟩ := hQ
      (try simp only [app] at hS)
      (repeat (first | (with_reducible first | apply Q0 | refine Qa hS ?_ | refine Qb ?_ | refine Qc hS ?_ | refine Qd ?_) | ((with_reducible refine Qe hS ?_); clear hS; intro w hS; simp only [List.set] at hS) | ((with_reducible first | refine s_draw hS ?_ | refine Qf hS ?_); clear hS; intro w hS) | ((with_reducible first | refine s_new hS ?_ | refine Qg hS ?_); clear hS; intro b w hS)))
      have hr1 : Rdb (.ob (OwnSl u 5 1 (hdB k).length ((hdB k).map u8c))) u (hdB k) := Rdb.own
      (apply s_call (rrec_spec _ u (hdB k) hr1 (by rw [hdB_len]; omega)) hS; exact Xp; clear hS)
      intro r post hQ w hS
      unfold PutQ at hQ
      rw [if_neg (by rw [hdB_len]; omega)] at hQ
      obtain ⟨y, rfl, rfl⟩ := hQ
      (try simp only [app] at hS)
      (repeat (first | (with_reducible first | apply Q0 | refine Qa hS ?_ | refine Qb ?_ | refine Qc hS ?_ | refine Qd ?_) | ((with_reducible refine Qe hS ?_); clear hS; intro w hS; simp only [List.set] at hS) | ((with_reducible first | refine s_draw hS ?_ | refine Qf hS ?_); clear hS; intro w hS) | ((with_reducible first | refine s_new hS ?_ | refine Qg hS ?_); clear hS; intro b w hS)))
      rw [Int.toNat_natCast]
      exact ⟨_, ⟨y, rfl, rfl⟩, SL.into hS Xi⟩
/-- qanatref01.Decode -/
theorem rdecode_spec (X : Chunk) (v : Value) (q : List UInt8) (hq : Rdb X v q) (hN : q.length ≤ 140737488355328) : Spec Tryz.prog 58 [v] [X] (DecQ X q) := by
  intro W F w hS; apply vc58; unfold Vc58; (try simp only [app] at hS)
  have hE : ∀ {e : Int} {w : World}, decF q = .error e → SL W (X :: F) w → ∃ post, DecQ X q (.tuple #[.slice none 0 0, .int .i64 e]) post ∧ SL W (app post F) w := fun h hS => ⟨[X], by unfold DecQ; rw [h]; exact ⟨rfl, rfl⟩, hS⟩
  refine s_lenB hS .hd hq ?_
  (repeat (first | (with_reducible first | apply Q0 | refine Qa hS ?_ | refine Qb ?_ | refine Qc hS ?_ | refine Qd ?_) | ((with_reducible refine Qe hS ?_); clear hS; intro w hS; simp only [List.set] at hS) | ((with_reducible first | refine s_draw hS ?_ | refine Qf hS ?_); clear hS; intro w hS) | ((with_reducible first | refine s_new hS ?_ | refine Qg hS ?_); clear hS; intro b w hS)))
  refine s_ifp (fun h => hE (decF_short (by omega)) hS) (fun h => ?_)
  have h2 : 2 ≤ q.length := by omega
  refine s_slHiB (hi := 2) hS .hd hq h2 ?_
  intro v14 h14
  (apply s_call (rnumber_spec X v14 (q.take 2) h14 (by rw [List.length_take]; omega)) hS; exact Xp; clear hS)
  rintro v post ⟨rfl, rfl⟩ w hS; (try simp only [app] at hS)
  have hlt : bigN (q.take 2) < 65536 := by
    have := bigN_lt 2 (q.take 2) (by rw [List.length_take]; omega)
    exact this
  refine s_cv64 (by omega) ?_
  (repeat (first | (with_reducible first | apply Q0 | refine Qa hS ?_ | refine Qb ?_ | refine Qc hS ?_ | refine Qd ?_) | ((with_reducible refine Qe hS ?_); clear hS; intro w hS; simp only [List.set] at hS) | ((with_reducible first | refine s_draw hS ?_ | refine Qf hS ?_); clear hS; intro w hS) | ((with_reducible first | refine s_new hS ?_ | refine Qg hS ?_); clear hS; intro b w hS)))
  refine s_ifp (fun h3 => hE (decF_big h2 (by omega)) hS) (fun h3 => ?_)
  have hdg := decF_go h2 (by omega)
  generalize hm : bigN (q.take 2) = m at *
  have hS := OwnSl.nil (t := 105) (sz := 3) hS
  refine ⟨fun vs w => ∃ (i at_ : Nat) (u : Value) (l : List PFd), vs = [.int .i64 at_, u, .int .i64 i] ∧ i ≤ m ∧ l.length = i ∧ at_ ≤ q.length ∧ decF q = decG l (m - i) ⟨q.drop at_, 0⟩ ∧ SL W (.ob (OwnSl u 105 3 l.length (l.map fdcells).flatten) :: X :: F) w,
    fun vs _ => match vs with | [_, _, .int _ i] => (m - i).toNat | _ => 0, ⟨0, 2, _, [], rfl, by omega, rfl, h2, hdg, hS⟩, ?_⟩
  clear hS hdg
  rintro v5 v6 v7 w ⟨i, at_, u, l, hvs, him, hli, hat, hdg, hS⟩
  cases hvs
  (repeat (first | (with_reducible first | apply Q0 | refine Qa hS ?_ | refine Qb ?_ | refine Qc hS ?_ | refine Qd ?_) | ((with_reducible refine Qe hS ?_); clear hS; intro w hS; simp only [List.set] at hS) | ((with_reducible first | refine s_draw hS ?_ | refine Qf hS ?_); clear hS; intro w hS) | ((with_reducible first | refine s_new hS ?_ | refine Qg hS ?_); clear hS; intro b w hS)))
  refine s_ifp (fun h4 => ?_) (fun h4 => ?_)
  · have him : i < m := by omega
    obtain ⟨r, hr⟩ : ∃ r, m - i = r + 1 := ⟨m - i - 1, by omega⟩
    have hr2 : m - (i + 1) = r := by omega
    rw [hr] at hdg
    refine s_lenB hS Xh hq ?_
    (repeat (first | (with_reducible first | apply Q0 | refine Qa hS ?_ | refine Qb ?_ | refine Qc hS ?_ | refine Qd ?_) | ((with_reducible refine Qe hS ?_); clear hS; intro w hS; simp only [List.set] at hS) | ((with_reducible first | refine s_draw hS ?_ | refine Qf hS ?_); clear hS; intro w hS) | ((with_reducible first | refine s_new hS ?_ | refine Qg hS ?_); clear hS; intro b w hS)))
    refine s_ifp (fun h5 => ?_) (fun h5 => ?_)
    · have : q.drop at_ = [] := List.drop_eq_nil_of_le (by omega)
      rw [this, decG_nil] at hdg
      exact hE hdg (SL.into hS Xi)
    · have hal : at_ < q.length := by omega
      rw [List.drop_eq_getElem_cons hal] at hdg
      have hx := q[at_].toNat_lt
      refine s_idxB hS Xh hq hal ?_
      refine s_cv64 (by omega) ?_
      (repeat (first | (with_reducible first | apply Q0 | refine Qa hS ?_ | refine Qb ?_ | refine Qc hS ?_ | refine Qd ?_) | ((with_reducible refine Qe hS ?_); clear hS; intro w hS; simp only [List.set] at hS) | ((with_reducible first | refine s_draw hS ?_ | refine Qf hS ?_); clear hS; intro w hS) | ((with_reducible first | refine s_new hS ?_ | refine Qg hS ?_); clear hS; intro b w hS)))
      refine s_ifp (fun h6 => ?_) (fun h6 => ?_)
      · rw [decG_one (by omega)] at hdg
        rw [List.length_drop] at hdg
        refine s_lenB hS Xh hq ?_
        (repeat (first | (with_reducible first | apply Q0 | refine Qa hS ?_ | refine Qb ?_ | refine Qc hS ?_ | refine Qd ?_) | ((with_reducible refine Qe hS ?_); clear hS; intro w hS; simp only [List.set] at hS) | ((with_reducible first | refine s_draw hS ?_ | refine Qf hS ?_); clear hS; intro w hS) | ((with_reducible first | refine s_new hS ?_ | refine Qg hS ?_); clear hS; intro b w hS)))
        refine s_ifp (fun h7 => ?_) (fun h7 => ?_)
        · rw [if_pos (by omega)] at hdg
          exact hE hdg (SL.into hS Xi)
        · rw [if_neg (by omega)] at hdg
          refine s_addn (a := at_ + 1) (b := 8) (by omega) ?_
          refine s_slB (lo := at_ + 1) (hi := at_ + 1 + 8) hS Xh hq (by omega) (by omega) ?_
          intro v48 h48
          rw [show at_ + 1 + 8 - (at_ + 1) = 8 by omega] at h48
          (apply s_call (rnumber_spec X v48 ((q.drop (at_ + 1)).take 8) h48 (by rw [List.length_take]; omega)) hS; exact Xp; clear hS)
          rintro v post ⟨rfl, rfl⟩ w hS; (try simp only [app] at hS)
          have hb8 : bigN ((q.drop (at_ + 1)).take 8) < 18446744073709551616 := bigN_lt 8 _ (by rw [List.length_take, List.length_drop]; omega)
          refine s_cvI ?_
          rw [sig_cv hb8]
          (apply s_call (num_spec (sig (bigN ((q.drop (at_ + 1)).take 8)))) hS; exact Xp; clear hS)
          rintro v post ⟨rfl, rfl⟩ w hS; (try simp only [app] at hS)
          refine s_bldS (cells := fdcells ⟨1, sig (bigN ((q.drop (at_ + 1)).take 8)), ⟨#[]⟩⟩) hS rfl ?_
          clear hS; intro p w hS
          refine s_app (m := 1) (cs := fdcells ⟨1, sig (bigN ((q.drop (at_ + 1)).take 8)), ⟨#[]⟩⟩) hS Xr (src_pt0 hS .hd rfl) rfl rfl (fd_one _) (by omega) (by omega) ?_
          clear hS; intro u' w hS
          refine s_addn (a := at_ + 1) (b := 8) (by omega) ?_
          (repeat (first | (with_reducible first | apply Q0 | refine Qa hS ?_ | refine Qb ?_ | refine Qc hS ?_ | refine Qd ?_) | ((with_reducible refine Qe hS ?_); clear hS; intro w hS; simp only [List.set] at hS) | ((with_reducible first | refine s_draw hS ?_ | refine Qf hS ?_); clear hS; intro w hS) | ((with_reducible first | refine s_new hS ?_ | refine Qg hS ?_); clear hS; intro b w hS)))
          refine ⟨⟨i + 1, at_ + 1 + 8, u', l ++ [⟨1, sig (bigN ((q.drop (at_ + 1)).take 8)), ⟨#[]⟩⟩], rfl, by omega, by simp; omega, by omega, ?_, ?_⟩, by dsimp only; omega⟩
          · rw [hdg, hr2, List.drop_drop]
          · rw [show (l ++ [(⟨1, sig (bigN ((q.drop (at_ + 1)).take 8)), ⟨#[]⟩⟩ : PFd)]).length = l.length + 1 by simp, show ((l ++ [(⟨1, sig (bigN ((q.drop (at_ + 1)).take 8)), ⟨#[]⟩⟩ : PFd)]).map fdcells).flatten = (l.map fdcells).flatten ++ fdcells ⟨1, sig (bigN ((q.drop (at_ + 1)).take 8)), ⟨#[]⟩⟩ by simp]
            exact SL.into hS Xi
      · (repeat (first | (with_reducible first | apply Q0 | refine Qa hS ?_ | refine Qb ?_ | refine Qc hS ?_ | refine Qd ?_) | ((with_reducible refine Qe hS ?_); clear hS; intro w hS; simp only [List.set] at hS) | ((with_reducible first | refine s_draw hS ?_ | refine Qf hS ?_); clear hS; intro w hS) | ((with_reducible first | refine s_new hS ?_ | refine Qg hS ?_); clear hS; intro b w hS)))
        refine s_ifp (fun h7 => ?_) (fun h7 => ?_)
        · rw [decG_two (by omega)] at hdg
          rw [List.length_drop] at hdg
          refine s_lenB hS Xh hq ?_
          (repeat (first | (with_reducible first | apply Q0 | refine Qa hS ?_ | refine Qb ?_ | refine Qc hS ?_ | refine Qd ?_) | ((with_reducible refine Qe hS ?_); clear hS; intro w hS; simp only [List.set] at hS) | ((with_reducible first | refine s_draw hS ?_ | refine Qf hS ?_); clear hS; intro w hS) | ((with_reducible first | refine s_new hS ?_ | refine Qg hS ?_); clear hS; intro b w hS)))
          refine s_ifp (fun h8 => ?_) (fun h8 => ?_)
          · rw [if_pos (by omega)] at hdg
            exact hE hdg (SL.into hS Xi)
          · rw [if_neg (by omega)] at hdg
            refine s_addn (a := at_ + 1) (b := 2) (by omega) ?_
            refine s_slB (lo := at_ + 1) (hi := at_ + 1 + 2) hS Xh hq (by omega) (by omega) ?_
            intro v67 h67
            rw [show at_ + 1 + 2 - (at_ + 1) = 2 by omega] at h67
            (apply s_call (rnumber_spec X v67 ((q.drop (at_ + 1)).take 2) h67 (by rw [List.length_take]; omega)) hS; exact Xp; clear hS)
            rintro v post ⟨rfl, rfl⟩ w hS; (try simp only [app] at hS)
            have hb2 : bigN ((q.drop (at_ + 1)).take 2) < 65536 := bigN_lt 2 _ (by rw [List.length_take, List.length_drop]; omega)
            generalize bigN ((q.drop (at_ + 1)).take 2) = z at *
            refine s_cv64 (by omega) ?_
            refine s_addn (a := at_ + 1) (b := 2) (by omega) ?_
            (repeat (first | (with_reducible first | apply Q0 | refine Qa hS ?_ | refine Qb ?_ | refine Qc hS ?_ | refine Qd ?_) | ((with_reducible refine Qe hS ?_); clear hS; intro w hS; simp only [List.set] at hS) | ((with_reducible first | refine s_draw hS ?_ | refine Qf hS ?_); clear hS; intro w hS) | ((with_reducible first | refine s_new hS ?_ | refine Qg hS ?_); clear hS; intro b w hS)))
            refine s_ifp (fun h9 => ?_) (fun h9 => ?_)
            · rw [if_pos (by omega)] at hdg
              exact hE hdg (SL.into hS Xi)
            · rw [if_neg (by omega)] at hdg
              refine s_lenB hS Xh hq ?_
              (repeat (first | (with_reducible first | apply Q0 | refine Qa hS ?_ | refine Qb ?_ | refine Qc hS ?_ | refine Qd ?_) | ((with_reducible refine Qe hS ?_); clear hS; intro w hS; simp only [List.set] at hS) | ((with_reducible first | refine s_draw hS ?_ | refine Qf hS ?_); clear hS; intro w hS) | ((with_reducible first | refine s_new hS ?_ | refine Qg hS ?_); clear hS; intro b w hS)))
              refine s_ifp (fun h10 => ?_) (fun h10 => ?_)
              · rw [if_pos (by omega)] at hdg
                exact hE hdg (SL.into hS Xi)
              · rw [if_neg (by omega)] at hdg
                refine s_addn (a := at_ + 1 + 2) (b := z) (by omega) ?_
                refine s_slB (lo := at_ + 1 + 2) (hi := at_ + 1 + 2 + z) hS Xh hq (by omega) (by omega) ?_
                intro v86 h86
                rw [show at_ + 1 + 2 + z - (at_ + 1 + 2) = z by omega] at h86
                obtain ⟨a86, c86, rfl, _⟩ := h86.sl hS Xh
                refine s_bytesStr (bs := (q.drop (at_ + 1 + 2)).take z) ⟨_, _, _, rfl⟩ (h86.src hS Xh) Tryz.underlying31 Tryz.underlying9 Tryz.underlying5 ?_
                (apply s_call (text_spec (bstr ((q.drop (at_ + 1 + 2)).take z))) hS; exact Xp; clear hS)
                rintro v post ⟨rfl, rfl⟩ w hS; (try simp only [app] at hS)
                refine s_bldS (cells := fdcells ⟨2, 0, bstr ((q.drop (at_ + 1 + 2)).take z)⟩) hS rfl ?_
                clear hS; intro p w hS
                refine s_app (m := 1) (cs := fdcells ⟨2, 0, bstr ((q.drop (at_ + 1 + 2)).take z)⟩) hS Xr (src_pt0 hS .hd rfl) rfl rfl (fd_one _) (by omega) (by omega) ?_
                clear hS; intro u' w hS
                refine s_addn (a := at_ + 1 + 2) (b := z) (by omega) ?_
                (repeat (first | (with_reducible first | apply Q0 | refine Qa hS ?_ | refine Qb ?_ | refine Qc hS ?_ | refine Qd ?_) | ((with_reducible refine Qe hS ?_); clear hS; intro w hS; simp only [List.set] at hS) | ((with_reducible first | refine s_draw hS ?_ | refine Qf hS ?_); clear hS; intro w hS) | ((with_reducible first | refine s_new hS ?_ | refine Qg hS ?_); clear hS; intro b w hS)))
                refine ⟨⟨i + 1, at_ + 1 + 2 + z, u', l ++ [⟨2, 0, bstr ((q.drop (at_ + 1 + 2)).take z)⟩], rfl, by omega, by simp; omega, by omega, ?_, ?_⟩, by dsimp only; omega⟩
                · rw [hdg, hr2, List.drop_drop, List.drop_drop]; rfl
                · rw [show (l ++ [(⟨2, 0, bstr ((q.drop (at_ + 1 + 2)).take z)⟩ : PFd)]).length = l.length + 1 by simp, show ((l ++ [(⟨2, 0, bstr ((q.drop (at_ + 1 + 2)).take z)⟩ : PFd)]).map fdcells).flatten = (l.map fdcells).flatten ++ fdcells ⟨2, 0, bstr ((q.drop (at_ + 1 + 2)).take z)⟩ by simp]
                  exact SL.into hS Xi
        · rw [decG_else (by omega) (by omega)] at hdg
          exact hE hdg (SL.into hS Xi)
  · have hmi : m - i = 0 := by omega
    rw [hmi, decG_zero, List.length_drop] at hdg
    refine s_lenB hS Xh hq ?_
    (repeat (first | (with_reducible first | apply Q0 | refine Qa hS ?_ | refine Qb ?_ | refine Qc hS ?_ | refine Qd ?_) | ((with_reducible refine Qe hS ?_); clear hS; intro w hS; simp only [List.set] at hS) | ((with_reducible first | refine s_draw hS ?_ | refine Qf hS ?_); clear hS; intro w hS) | ((with_reducible first | refine s_new hS ?_ | refine Qg hS ?_); clear hS; intro b w hS)))
    refine s_ifp (fun h5 => ?_) (fun h5 => ?_)
    · rw [if_pos (by omega)] at hdg
      exact hE hdg (SL.into hS Xi)
    · rw [if_neg (by omega)] at hdg
      refine ⟨[.ob (OwnSl v6 105 3 l.length (l.map fdcells).flatten), X], ?_, SL.into hS Xi⟩
      unfold DecQ
      rw [hdg]
      exact ⟨v6, rfl, rfl⟩
end Go.Proofs.YtmcglicbolhmfaaGreat
namespace Go.Proofs.YtmcglicbolhmfaaGreat
set_option linter.unusedVariables false
set_option maxRecDepth 100000
open Go.RowKit

section
variable {W w : World} {l : List Chunk}
/-- A cell of an owned row, by its place. -/
theorem s_ldO {b o n cap sz : Nat} {t : TypeId} {cells : List Value} {u : Value} {K : Value → Prop} (h : SL W l w) (m : Has (.ob (OwnSl (.slice (some ⟨b, 0, none⟩) n cap) t sz n cells)) l) (hn : 0 < n) (hu : cells[o]? = some u) (hK : K u) :
    HLd (.pointer (some ⟨b, o, none⟩)) w K := by
  obtain ⟨a, cap', e, _, h2⟩ := OwnSl.at h m
  cases e
  obtain ⟨b', e, h3⟩ := h2 0 hn
  cases e
  exact ⟨_, u, rfl, h3 o u hu, hK⟩
/-- A row's end, from an owned row. -/
theorem s_slLoO {v : Value} {t : TypeId} {sz n k : Nat} {kk : IntKind} {cells : List Value} {K : Value → Prop} (h : SL W l w) (m : Has (.ob (OwnSl v t sz n cells)) l) (hk : k ≤ n)
    (hK : ∀ u, (∀ w' l', SL W l' w' → Has (.ob (OwnSl v t sz n cells)) l' → srcCells w' sz u (n - k) (cells.drop (k * sz))) → K u) : HSl sz v (some (.int kk (k : Int))) none none K := by
  obtain ⟨a, cap, rfl, hl, hx⟩ := OwnSl.at h m
  have hcap : n ≤ cap := by
    obtain ⟨l2, r⟩ := m.rem
    rcases OwnSl.open (h.perm r.perm) with ⟨⟨a', e⟩, rfl, rfl, _⟩ | ⟨b, cap', rest, e, hc, _⟩
    · cases e; omega
    · cases e; exact hc
  refine ⟨a, n, cap, k, n, cap, rfl, rfl, rfl, ⟨kk, rfl⟩, hk, hcap, Nat.le_refl _, hK _ fun w' l' h' m' => ?_⟩
  have hs := src_own h' m'
  have hld : (cells.drop (k * sz)).length = (n - k) * sz := by rw [List.length_drop, hl, Nat.mul_sub_right_distrib]
  cases a with
  | none =>
    obtain ⟨e1, e2⟩ := hs
    subst e2
    have e : (if cap = k then (none : Option Addr) else Option.map (fun x : Addr => x.add (k * sz)) none) = none := by split <;> rfl
    rw [e]
    exact ⟨rfl, by simp⟩
  | some p =>
    obtain ⟨_, e2, e3⟩ := hs
    by_cases hc : cap = k
    · rw [if_pos hc]
      have hnk : n - k = 0 := by omega
      rw [hnk] at hld ⊢
      have : cells.drop (k * sz) = [] := List.eq_nil_of_length_eq_zero (by simpa using hld)
      rw [this]
      exact ⟨rfl, by simp, fun j v e => by simp at e⟩
    · rw [if_neg hc]
      refine ⟨rfl, hld, fun j v e => ?_⟩
      rw [List.getElem?_drop] at e
      have := e3 _ v e
      rwa [Addr.add_add] at *
end
theorem flat_set {α : Type} {enc : α → List Value} {n : Nat} (hn : ∀ x, (enc x).length = n) : ∀ (xs : List α) (j k : Nat) (hj : j < xs.length) (x : α) (v : Value), k < n → (enc xs[j]).set k v = enc x → ((xs.map enc).flatten).set (j * n + k) v = ((xs.set j x).map enc).flatten
  | y :: xs, 0, k, _, x, v, hk, h => by
    simp only [List.map_cons, List.flatten_cons, List.set_cons_zero, Nat.zero_mul, Nat.zero_add]
    rw [List.set_append_left _ _ (by rw [hn]; exact hk)]
    rw [show (enc y).set k v = enc x from h]
  | y :: xs, j + 1, k, hj, x, v, hk, h => by
    simp only [List.map_cons, List.flatten_cons, List.set_cons_succ]
    rw [List.set_append_right _ _ (by rw [hn, Nat.add_mul]; omega), hn, show (j + 1) * n + k - n = j * n + k by rw [Nat.add_mul]; omega, flat_set hn xs j k (by simpa using hj) x v hk (by simpa using h)]

abbrev YF := PF × Value
def idR (y : YF) : Int := y.1.id
theorem idR_fst (y : YF) : PF.id (Prod.fst y) = idR y := rfl
def encRF (y : YF) : List Value := [.int .i64 y.1.id, .int .i64 (y.1.safe : Int), y.2]
theorem encRF_len (y : YF) : (encRF y).length = 3 := rfl
def RdB (H : Heap) (ys : List YF) : Prop := ∀ y ∈ ys, RdSl H 1 y.2 y.1.b.length (y.1.b.map u8c)
theorem RdB.mono {H H' : Heap} (hh : H.le H') {ys : List YF} (h : RdB H ys) : RdB H' ys := fun y hy => (h y hy).mono hh
theorem RdB.set {H : Heap} {ys : List YF} (h : RdB H ys) {i : Nat} {y : YF} (hy : RdSl H 1 y.2 y.1.b.length (y.1.b.map u8c)) : RdB H (ys.set i y) := fun z hz => by
  rcases List.mem_or_eq_of_mem_set hz with hz | rfl
  · exact h z hz
  · exact hy
abbrev rcells (fv : Value) (s : DS) : List Value := [fv, .int .i64 s.arm, .bool s.off, .int .i64 (s.ops : Int)]
abbrev FilesO (fv : Value) (ys : List YF) : HProp := OwnSl fv 76 3 ys.length (ys.map encRF).flatten
/-- The reference's disk. -/
def RDO (H : Heap) (xp : Nat) (s : DS) : HProp := HEx fun x : Value × List YF => HFact (x.2.map Prod.fst = s.R ∧ RdB H x.2) [.pt xp (rcells x.1 s) 28, .ob (FilesO x.1 x.2)]
theorem RDO.iff {W w : World} {H : Heap} {xp : Nat} {s : DS} {l : List Chunk} : SL W (.ob (RDO H xp s) :: l) w ↔ ∃ fv ys, (ys.map Prod.fst = s.R ∧ RdB H ys) ∧ SL W (.pt xp (rcells fv s) 28 :: .ob (FilesO fv ys) :: l) w := by
  unfold RDO
  simp only [SL.ex, SL.fact, List.cons_append, List.nil_append]
  exact ⟨fun ⟨x, h1, h2⟩ => ⟨x.1, x.2, h1, h2⟩, fun ⟨fv, ys, h1, h2⟩ => ⟨(fv, ys), h1, h2⟩⟩
theorem RDO.mono {W w : World} {H H' : Heap} (hh : H.le H') {xp : Nat} {s : DS} {l : List Chunk} (h : SL W (.ob (RDO H xp s) :: l) w) : SL W (.ob (RDO H' xp s) :: l) w := by
  obtain ⟨fv, ys, ⟨h1, h2⟩, hS⟩ := RDO.iff.1 h
  exact RDO.iff.2 ⟨fv, ys, ⟨h1, h2.mono hh⟩, hS⟩
theorem encRF_at {ys : List YF} {j i o : Nat} (hj : j < ys.length) (ho : o = j * 3 + i) {u : Value} (hu : (encRF ys[j])[i]? = some u) : ((ys.map encRF).flatten)[o]? = some u := by
  subst ho; exact flat_at encRF_len ys j i _ u (List.getElem?_eq_getElem hj) hu

theorem at_spec (xp : Nat) (s : DS) (fv : Value) (ys : List YF) (hs : SortedK PF.id (ys.map Prod.fst)) (hn : ys.length ≤ 100000) (f : Int) :
    Spec Tryz.prog 28 [.pointer (some ⟨xp, 0, none⟩), .int .i64 f] [.pt xp (rcells fv s) 28, .ob (FilesO fv ys)]
      (Gives (.tuple #[.int .i64 (cntK idR ys f : Int), .bool (isK idR ys f)]) [.pt xp (rcells fv s) 28, .ob (FilesO fv ys)]) := by
  intro W F w hS; apply vc28; unfold Vc28; (try simp only [app] at hS)
  have hs : SortedK idR ys := (sorted_map idR_fst).1 hs
  refine ⟨fun us w => ∃ i : Nat, us = [.int .i64 i] ∧ i ≤ ys.length ∧ (∀ j (h : j < ys.length), j < i → idR ys[j] < f) ∧ SL W (.pt xp (rcells fv s) 28 :: .ob (FilesO fv ys) :: F) w,
    fun us _ => match us with | [.int _ i] => (ys.length - i).toNat | _ => 0, ⟨0, rfl, by omega, fun j h h0 => by omega, hS⟩, ?_⟩
  clear hS
  rintro v6 w ⟨i, hus, hi, hlt, hS⟩
  cases hus
  (repeat (first | (with_reducible first | apply Q0 | refine Qa hS ?_ | refine Qb ?_ | refine Qc hS ?_ | refine Qd ?_) | ((with_reducible refine Qe hS ?_); clear hS; intro w hS; simp only [List.set] at hS) | ((with_reducible first | refine s_draw hS ?_ | refine Qf hS ?_); clear hS; intro w hS) | ((with_reducible first | refine s_new hS ?_ | refine Qg hS ?_); clear hS; intro b w hS)))
  refine s_lenO hS (t := 76) (sz := 3) (n := ys.length) (cells := (ys.map encRF).flatten) Xh ?_
  (repeat (first | (with_reducible first | apply Q0 | refine Qa hS ?_ | refine Qb ?_ | refine Qc hS ?_ | refine Qd ?_) | ((with_reducible refine Qe hS ?_); clear hS; intro w hS; simp only [List.set] at hS) | ((with_reducible first | refine s_draw hS ?_ | refine Qf hS ?_); clear hS; intro w hS) | ((with_reducible first | refine s_new hS ?_ | refine Qg hS ?_); clear hS; intro b w hS)))
  refine s_ifp (fun h => ?_) (fun h => ?_)
  · have hil : i < ys.length := by omega
    obtain ⟨a, cap, rfl, _, hx⟩ := OwnSl.at hS (t := 76) (sz := 3) (n := ys.length) (cells := (ys.map encRF).flatten) Xh
    obtain ⟨b, rfl, _⟩ := hx i hil
    have hid : ((ys.map encRF).flatten)[0 + i * 3 + 0]? = some (.int .i64 ys[i].1.id) := encRF_at hil (i := 0) (by omega) rfl
    (repeat (first | (with_reducible first | apply Q0 | refine Qa hS ?_ | refine Qb ?_ | refine Qc hS ?_ | refine Qd ?_) | ((with_reducible refine Qe hS ?_); clear hS; intro w hS; simp only [List.set] at hS) | ((with_reducible first | refine s_draw hS ?_ | refine Qf hS ?_); clear hS; intro w hS) | ((with_reducible first | refine s_new hS ?_ | refine Qg hS ?_); clear hS; intro b w hS)))
    refine s_idx hil (s_fld ?_)
    refine s_ldO hS (t := 76) (sz := 3) (cells := (ys.map encRF).flatten) Xh (by omega) hid ?_
    (repeat (first | (with_reducible first | apply Q0 | refine Qa hS ?_ | refine Qb ?_ | refine Qc hS ?_ | refine Qd ?_) | ((with_reducible refine Qe hS ?_); clear hS; intro w hS; simp only [List.set] at hS) | ((with_reducible first | refine s_draw hS ?_ | refine Qf hS ?_); clear hS; intro w hS) | ((with_reducible first | refine s_new hS ?_ | refine Qg hS ?_); clear hS; intro b w hS)))
    refine s_ifp (fun h2 => ?_) (fun h2 => ?_)
    · (repeat (first | (with_reducible first | apply Q0 | refine Qa hS ?_ | refine Qb ?_ | refine Qc hS ?_ | refine Qd ?_) | ((with_reducible refine Qe hS ?_); clear hS; intro w hS; simp only [List.set] at hS) | ((with_reducible first | refine s_draw hS ?_ | refine Qf hS ?_); clear hS; intro w hS) | ((with_reducible first | refine s_new hS ?_ | refine Qg hS ?_); clear hS; intro b w hS)))
      refine ⟨⟨i + 1, by simp, by omega, fun j h3 h4 => ?_, SL.into hS Xi⟩, by dsimp only; omega⟩
      by_cases e : j = i
      · subst e; exact h2
      · exact hlt j h3 (by omega)
    · have hc : cntK idR ys f = i := cntK_eq hs f hi hlt fun _ => h2
      have hk : isK idR ys f = decide (ys[i].1.id = f) := by
        unfold isK; rw [hc, List.getElem?_eq_getElem hil]; rfl
      rw [hc, hk]
      (repeat (first | (with_reducible first | apply Q0 | refine Qa hS ?_ | refine Qb ?_ | refine Qc hS ?_ | refine Qd ?_) | ((with_reducible refine Qe hS ?_); clear hS; intro w hS; simp only [List.set] at hS) | ((with_reducible first | refine s_draw hS ?_ | refine Qf hS ?_); clear hS; intro w hS) | ((with_reducible first | refine s_new hS ?_ | refine Qg hS ?_); clear hS; intro b w hS)))
      refine s_ifp (fun _ => ?_) (fun h => absurd (by omega) h)
      (repeat (first | (with_reducible first | apply Q0 | refine Qa hS ?_ | refine Qb ?_ | refine Qc hS ?_ | refine Qd ?_) | ((with_reducible refine Qe hS ?_); clear hS; intro w hS; simp only [List.set] at hS) | ((with_reducible first | refine s_draw hS ?_ | refine Qf hS ?_); clear hS; intro w hS) | ((with_reducible first | refine s_new hS ?_ | refine Qg hS ?_); clear hS; intro b w hS)))
      refine s_idx hil (s_fld ?_)
      refine s_ldO hS (t := 76) (sz := 3) (cells := (ys.map encRF).flatten) Xh (by omega) hid ?_
      (repeat (first | (with_reducible first | apply Q0 | refine Qa hS ?_ | refine Qb ?_ | refine Qc hS ?_ | refine Qd ?_) | ((with_reducible refine Qe hS ?_); clear hS; intro w hS; simp only [List.set] at hS) | ((with_reducible first | refine s_draw hS ?_ | refine Qf hS ?_); clear hS; intro w hS) | ((with_reducible first | refine s_new hS ?_ | refine Qg hS ?_); clear hS; intro b w hS)))
      refine s_ldO hS (t := 76) (sz := 3) (cells := (ys.map encRF).flatten) Xh (by omega) hid ?_
      (repeat (first | (with_reducible first | apply Q0 | refine Qa hS ?_ | refine Qb ?_ | refine Qc hS ?_ | refine Qd ?_) | ((with_reducible refine Qe hS ?_); clear hS; intro w hS; simp only [List.set] at hS) | ((with_reducible first | refine s_draw hS ?_ | refine Qf hS ?_); clear hS; intro w hS) | ((with_reducible first | refine s_new hS ?_ | refine Qg hS ?_); clear hS; intro b w hS)))
      exact ⟨_, ⟨rfl, rfl⟩, SL.into hS Xi⟩
  · have hie : i = ys.length := by omega
    have hc : cntK idR ys f = i := cntK_eq hs f hi hlt fun h => by omega
    have hk : isK idR ys f = false := by
      unfold isK; rw [hc, List.getElem?_eq_none (by omega)]
    rw [hc, hk]
    (repeat (first | (with_reducible first | apply Q0 | refine Qa hS ?_ | refine Qb ?_ | refine Qc hS ?_ | refine Qd ?_) | ((with_reducible refine Qe hS ?_); clear hS; intro w hS; simp only [List.set] at hS) | ((with_reducible first | refine s_draw hS ?_ | refine Qf hS ?_); clear hS; intro w hS) | ((with_reducible first | refine s_new hS ?_ | refine Qg hS ?_); clear hS; intro b w hS)))
    refine s_lenO hS (t := 76) (sz := 3) (n := ys.length) (cells := (ys.map encRF).flatten) Xh ?_
    (repeat (first | (with_reducible first | apply Q0 | refine Qa hS ?_ | refine Qb ?_ | refine Qc hS ?_ | refine Qd ?_) | ((with_reducible refine Qe hS ?_); clear hS; intro w hS; simp only [List.set] at hS) | ((with_reducible first | refine s_draw hS ?_ | refine Qf hS ?_); clear hS; intro w hS) | ((with_reducible first | refine s_new hS ?_ | refine Qg hS ?_); clear hS; intro b w hS)))
    refine s_ifp (fun h => absurd h (by omega)) (fun _ => ?_)
    exact ⟨_, ⟨rfl, rfl⟩, SL.into hS Xi⟩
theorem isK_R {s : DS} {ys : List YF} (h : ys.map Prod.fst = s.R) (f : Int) : isK PF.id s.R f = isK idR ys f := by rw [← h]; exact isK_map idR_fst ys f
theorem cntK_R {s : DS} {ys : List YF} (h : ys.map Prod.fst = s.R) (f : Int) : cntK PF.id s.R f = cntK idR ys f := by rw [← h]; exact cntK_map idR_fst ys f
theorem getK_R {s : DS} {ys : List YF} (h : ys.map Prod.fst = s.R) (f : Int) : getK PF.id s.R f = (getK idR ys f).map Prod.fst := by rw [← h]; exact getK_map idR_fst ys f
theorem refused_spec (xp : Nat) (s : DS) (fv : Value) (ys : List YF) (he : ys.map Prod.fst = s.R) (hs : SortedK PF.id s.R) (hn : ys.length ≤ 100000) (f : Int) (needs : Bool) :
    Spec Tryz.prog 26 [.pointer (some ⟨xp, 0, none⟩), .int .i64 f, .bool needs] [.pt xp (rcells fv s) 28, .ob (FilesO fv ys)]
      (Gives (.int .i64 (if needs then s.find f else may s f)) [.pt xp (rcells fv s) 28, .ob (FilesO fv ys)]) := by
  intro W F w hS; apply vc26; unfold Vc26; (try simp only [app] at hS)
  have hs' : SortedK PF.id (ys.map Prod.fst) := by rw [he]; exact hs
  have hbad : may s f ≠ 0 → (if needs then s.find f else may s f) = may s f := fun h => by
    unfold DS.find; rw [if_pos h]; split <;> rfl
  have hgood : may s f = 0 → (if needs then s.find f else may s f) = if needs then (if isK idR ys f then 0 else 5) else 0 := fun h => by
    unfold DS.find; rw [if_neg (show ¬ may s f ≠ 0 by omega), isK_R he, h]
  generalize (if needs then s.find f else may s f) = r at *
  (repeat (first | (with_reducible first | apply Q0 | refine Qa hS ?_ | refine Qb ?_ | refine Qc hS ?_ | refine Qd ?_) | ((with_reducible refine Qe hS ?_); clear hS; intro w hS; simp only [List.set] at hS) | ((with_reducible first | refine s_draw hS ?_ | refine Qf hS ?_); clear hS; intro w hS) | ((with_reducible first | refine s_new hS ?_ | refine Qg hS ?_); clear hS; intro b w hS)))
  refine s_if (fun h => ?_) (fun h => ?_)
  · have hm : may s f = 8 := by unfold may; rw [if_pos h]
    rw [hbad (by omega), hm]
    (exact ⟨_, ⟨rfl, rfl⟩, SL.into hS Xi⟩)
  · (repeat (first | (with_reducible first | apply Q0 | refine Qa hS ?_ | refine Qb ?_ | refine Qc hS ?_ | refine Qd ?_) | ((with_reducible refine Qe hS ?_); clear hS; intro w hS; simp only [List.set] at hS) | ((with_reducible first | refine s_draw hS ?_ | refine Qf hS ?_); clear hS; intro w hS) | ((with_reducible first | refine s_new hS ?_ | refine Qg hS ?_); clear hS; intro b w hS)))
    refine s_ifp (fun h2 => ?_) (fun h2 => ?_)
    · have hm : may s f = 1 := by unfold may; rw [if_neg (by rw [h]; decide), if_pos (.inl h2)]
      rw [hbad (by omega), hm]
      (exact ⟨_, ⟨rfl, rfl⟩, SL.into hS Xi⟩)
    · (repeat (first | (with_reducible first | apply Q0 | refine Qa hS ?_ | refine Qb ?_ | refine Qc hS ?_ | refine Qd ?_) | ((with_reducible refine Qe hS ?_); clear hS; intro w hS; simp only [List.set] at hS) | ((with_reducible first | refine s_draw hS ?_ | refine Qf hS ?_); clear hS; intro w hS) | ((with_reducible first | refine s_new hS ?_ | refine Qg hS ?_); clear hS; intro b w hS)))
      refine s_ifp (fun h3 => ?_) (fun h3 => ?_)
      · have hm : may s f = 1 := by unfold may; rw [if_neg (by rw [h]; decide), if_pos (.inr h3)]
        rw [hbad (by omega), hm]
        (exact ⟨_, ⟨rfl, rfl⟩, SL.into hS Xi⟩)
      · have hm : may s f = 0 := by unfold may; rw [if_neg (by rw [h]; decide), if_neg (by omega)]
        rw [hgood hm]
        (apply s_call (at_spec xp s fv ys hs' hn f) hS; exact Xp; clear hS)
        (rintro v post ⟨rfl, rfl⟩ w hS; (try simp only [app] at hS); (repeat (first | (with_reducible first | apply Q0 | refine Qa hS ?_ | refine Qb ?_ | refine Qc hS ?_ | refine Qd ?_) | ((with_reducible refine Qe hS ?_); clear hS; intro w hS; simp only [List.set] at hS) | ((with_reducible first | refine s_draw hS ?_ | refine Qf hS ?_); clear hS; intro w hS) | ((with_reducible first | refine s_new hS ?_ | refine Qg hS ?_); clear hS; intro b w hS))))
        cases needs with
        | true =>
          refine s_ift ?_
          cases isK idR ys f with
          | true =>
            refine s_not (s_iff ?_)
            (exact ⟨_, ⟨rfl, rfl⟩, SL.into hS Xi⟩)
          | false =>
            refine s_not (s_ift ?_)
            (exact ⟨_, ⟨rfl, rfl⟩, SL.into hS Xi⟩)
        | false =>
          refine s_iff ?_
          (exact ⟨_, ⟨rfl, rfl⟩, SL.into hS Xi⟩)
theorem goes_spec (xp : Nat) (s : DS) (fv : Value) (h0 : s.off = false) (h1 : 0 ≤ s.arm) (h2 : s.arm ≤ 9223372036854775807) (h3 : s.ops ≤ 100000) :
    Spec Tryz.prog 27 [.pointer (some ⟨xp, 0, none⟩)] [.pt xp (rcells fv s) 28] (Gives (.bool s.cnt.off) [.pt xp (rcells fv s.cnt) 28]) := by
  intro W F w hS; apply vc27; unfold Vc27; (try simp only [app] at hS)
  (repeat (first | (with_reducible first | apply Q0 | refine Qa hS ?_ | refine Qb ?_ | refine Qc hS ?_ | refine Qd ?_) | ((with_reducible refine Qe hS ?_); clear hS; intro w hS; simp only [List.set] at hS) | ((with_reducible first | refine s_draw hS ?_ | refine Qf hS ?_); clear hS; intro w hS) | ((with_reducible first | refine s_new hS ?_ | refine Qg hS ?_); clear hS; intro b w hS)))
  refine s_ifp (fun h => ?_) (fun h => ?_)
  · (repeat (first | (with_reducible first | apply Q0 | refine Qa hS ?_ | refine Qb ?_ | refine Qc hS ?_ | refine Qd ?_) | ((with_reducible refine Qe hS ?_); clear hS; intro w hS; simp only [List.set] at hS) | ((with_reducible first | refine s_draw hS ?_ | refine Qf hS ?_); clear hS; intro w hS) | ((with_reducible first | refine s_new hS ?_ | refine Qg hS ?_); clear hS; intro b w hS)))
    refine s_ifp (fun h4 => ?_) (fun h4 => ?_)
    · (repeat (first | (with_reducible first | apply Q0 | refine Qa hS ?_ | refine Qb ?_ | refine Qc hS ?_ | refine Qd ?_) | ((with_reducible refine Qe hS ?_); clear hS; intro w hS; simp only [List.set] at hS) | ((with_reducible first | refine s_draw hS ?_ | refine Qf hS ?_); clear hS; intro w hS) | ((with_reducible first | refine s_new hS ?_ | refine Qg hS ?_); clear hS; intro b w hS)))
      have e : s.cnt.off = true := by simp [DS.cnt]; omega
      have hS : SL W (.pt xp (rcells fv s.cnt) 28 :: F) w := by
        unfold rcells; rw [e]
        simp only [DS.cnt, if_pos h]
        exact hS
      rw [e]
      (exact ⟨_, ⟨rfl, rfl⟩, SL.into hS Xi⟩)
    · (repeat (first | (with_reducible first | apply Q0 | refine Qa hS ?_ | refine Qb ?_ | refine Qc hS ?_ | refine Qd ?_) | ((with_reducible refine Qe hS ?_); clear hS; intro w hS; simp only [List.set] at hS) | ((with_reducible first | refine s_draw hS ?_ | refine Qf hS ?_); clear hS; intro w hS) | ((with_reducible first | refine s_new hS ?_ | refine Qg hS ?_); clear hS; intro b w hS)))
      have e : s.cnt.off = false := by simp [DS.cnt]; omega
      have hS : SL W (.pt xp (rcells fv s.cnt) 28 :: F) w := by
        unfold rcells; rw [e]
        rw [h0] at hS
        simp only [DS.cnt, if_pos h]
        exact hS
      rw [e, h0]
      (exact ⟨_, ⟨rfl, rfl⟩, SL.into hS Xi⟩)
  · (repeat (first | (with_reducible first | apply Q0 | refine Qa hS ?_ | refine Qb ?_ | refine Qc hS ?_ | refine Qd ?_) | ((with_reducible refine Qe hS ?_); clear hS; intro w hS; simp only [List.set] at hS) | ((with_reducible first | refine s_draw hS ?_ | refine Qf hS ?_); clear hS; intro w hS) | ((with_reducible first | refine s_new hS ?_ | refine Qg hS ?_); clear hS; intro b w hS)))
    have e : s.cnt.off = false := by simp [DS.cnt]; omega
    have hS : SL W (.pt xp (rcells fv s.cnt) 28 :: F) w := by
      unfold rcells; rw [e]
      rw [h0] at hS
      simp only [DS.cnt, if_neg h]
      exact hS
    rw [e, h0]
    (exact ⟨_, ⟨rfl, rfl⟩, SL.into hS Xi⟩)
theorem told_spec (g : Bool) : Spec Tryz.prog 29 [.bool g] [] (Gives (.int .i64 (if g then 8 else 0)) []) := by
  intro W F w hS; apply vc29; unfold Vc29; (try simp only [app] at hS)
  cases g with
  | true => (repeat (first | (with_reducible first | apply Q0 | refine Qa hS ?_ | refine Qb ?_ | refine Qc hS ?_ | refine Qd ?_) | ((with_reducible refine Qe hS ?_); clear hS; intro w hS; simp only [List.set] at hS) | ((with_reducible first | refine s_draw hS ?_ | refine Qf hS ?_); clear hS; intro w hS) | ((with_reducible first | refine s_new hS ?_ | refine Qg hS ?_); clear hS; intro b w hS))); (exact ⟨_, ⟨rfl, rfl⟩, SL.into hS Xi⟩)
  | false => (repeat (first | (with_reducible first | apply Q0 | refine Qa hS ?_ | refine Qb ?_ | refine Qc hS ?_ | refine Qd ?_) | ((with_reducible refine Qe hS ?_); clear hS; intro w hS; simp only [List.set] at hS) | ((with_reducible first | refine s_draw hS ?_ | refine Qf hS ?_); clear hS; intro w hS) | ((with_reducible first | refine s_new hS ?_ | refine Qg hS ?_); clear hS; intro b w hS))); (exact ⟨_, ⟨rfl, rfl⟩, SL.into hS Xi⟩)
end Go.Proofs.YtmcglicbolhmfaaGreat
namespace Go.Proofs.YtmcglicbolhmfaaGreat
set_option linter.unusedVariables false
set_option maxRecDepth 100000
open Go.RowKit

theorem FilesO.pt {W w : World} {l : List Chunk} {fv : Value} {ys : List YF} (h : SL W (.ob (FilesO fv ys) :: l) w) (hn : 0 < ys.length) : ∃ b cap rest, fv = .slice (some ⟨b, 0, none⟩) ys.length cap ∧ SL W (.pt b ((ys.map encRF).flatten ++ rest) 76 :: l) w ∧
    ∀ ys' w' l', ys'.length = ys.length → SL W (.pt b ((ys'.map encRF).flatten ++ rest) 76 :: l') w' → SL W (.ob (FilesO (.slice (some ⟨b, 0, none⟩) ys.length cap) ys') :: l') w' := by
  rcases OwnSl.open h with ⟨_, h0, _⟩ | ⟨b, cap, rest, rfl, hc, hl, hr, hS⟩
  · omega
  · refine ⟨b, cap, rest, rfl, hS, fun ys' w' l' hlen h' => ?_⟩
    unfold FilesO
    rw [hlen]
    exact OwnSl.mk hc (by rw [flat_len encRF_len, hlen]) hr h'
theorem encRF_pt {ys : List YF} {rest : List Value} {j i o : Nat} (hj : j < ys.length) (ho : o = j * 3 + i) {u : Value} (hu : (encRF ys[j])[i]? = some u) : ((ys.map encRF).flatten ++ rest)[o]? = some u := by
  have h := encRF_at hj ho hu
  rw [List.getElem?_append_left (List.getElem?_eq_some_iff.1 h).1]; exact h
theorem encRF_set {ys : List YF} {rest : List Value} {j i o : Nat} (hj : j < ys.length) (ho : o = j * 3 + i) (hi : i < 3) {v : Value} {y : YF} (hy : (encRF ys[j]).set i v = encRF y) : ((ys.map encRF).flatten ++ rest).set o v = ((ys.set j y).map encRF).flatten ++ rest := by
  subst ho
  rw [List.set_append_left _ _ (by rw [flat_len encRF_len]; omega), flat_set encRF_len ys j i hj y v hi hy]
/-- The list in which something is put behind a file's bytes. -/
structure AppI (R : List PF) (ys2 : List YF) (i : Nat) (f : Int) : Prop where
  lt : i < ys2.length
  at_ : ∀ h : i < ys2.length, ys2[i].1 = ⟨f, ((getK PF.id R f).getD (newF f)).safe, ((getK PF.id R f).getD (newF f)).b⟩
  put : ∀ y : YF, y.1.id = f → (ys2.set i y).map Prod.fst = putK PF.id R y.1
  len : ys2.length ≤ R.length + 1
theorem appI_old {R : List PF} {ys : List YF} (he : ys.map Prod.fst = R) {f : Int} (hk : isK idR ys f = true) : AppI R ys (cntK idR ys f) f := by
  obtain ⟨h1, h2⟩ := isK_true hk
  have hg : getK PF.id R f = some ys[cntK idR ys f].1 := by
    rw [← he, getK_map idR_fst]
    unfold getK; rw [if_pos hk, List.getElem?_eq_getElem h1]; rfl
  refine ⟨h1, fun _ => ?_, fun y hy => ?_, by rw [← he, List.length_map]; omega⟩
  · rw [hg]
    have h3 : ∀ p : PF, p.id = f → p = ⟨f, p.safe, p.b⟩ := by rintro ⟨a, b, c⟩ rfl; rfl
    exact h3 _ h2
  · have hi : isK PF.id R y.1.id = true := by rw [hy, ← he, isK_map idR_fst]; exact hk
    rw [putK_is hi, hy, ← he, cntK_map idR_fst, List.map_set]
theorem appI_new {R : List PF} {ys : List YF} (he : ys.map Prod.fst = R) {f : Int} (hk : isK idR ys f = false) (v : Value) : AppI R (ys.take (cntK idR ys f) ++ [(newF f, v)] ++ ys.drop (cntK idR ys f)) (cntK idR ys f) f := by
  have hle := cntK_le (key := idR) ys f
  have hg : getK PF.id R f = none := by
    rw [← he, getK_map idR_fst]
    unfold getK; rw [if_neg (by rw [hk]; decide)]; rfl
  have hl : (ys.take (cntK idR ys f)).length = cntK idR ys f := by rw [List.length_take]; omega
  refine ⟨by simp; omega, fun h => ?_, fun y hy => ?_, by rw [← he]; simp; omega⟩
  · rw [hg]
    rw [List.getElem_append_left (by simp; omega), List.getElem_append_right (by omega)]
    simp [hl]; rfl
  · have hi : isK PF.id R y.1.id = false := by rw [hy, ← he, isK_map idR_fst]; exact hk
    unfold putK
    rw [hi, hy, ← he, cntK_map idR_fst]
    rw [List.append_assoc, List.set_append_right _ _ (by omega), hl, Nat.sub_self]
    simp
theorem nilF_rd (H : Heap) (f : Int) : RdSl H 1 (.slice none 0 0) (newF f).b.length ((newF f).b.map u8c) := RdSl.nil H 1
theorem encRF_one {H : Heap} {ys : List YF} (hB : RdB H ys) : ∀ v ∈ (ys.map encRF).flatten, v.oneCell' = true := by
  intro v hv
  obtain ⟨l, hl, hv⟩ := List.mem_flatten.1 hv
  obtain ⟨y, hy, rfl⟩ := List.mem_map.1 hl
  simp only [encRF, List.mem_cons, List.not_mem_nil, or_false] at hv
  rcases hv with rfl | rfl | rfl
  · rfl
  · rfl
  · exact (hB y hy).one
theorem rappend_spec (H : Heap) (xp : Nat) (s : DS) (N : Nat) (hok : s.Ok N) (hops : s.ops ≤ 100000) (hR : s.R.length ≤ 90000) (f : Int) (bv : Value) (bs : List UInt8) (hb : RdSl H 1 bv bs.length (bs.map u8c)) (hN : N + bs.length ≤ 140737488355328) :
    Spec Tryz.prog 10 [.pointer (some ⟨xp, 0, none⟩), .int .i64 f, bv] [.ob (RDO H xp s), .mem H] (fun v post => v = .int .i64 (s.append f bs).2 ∧ ∃ H', H.le H' ∧ post = [.ob (RDO H' xp (s.append f bs).1), .mem H']) := by
  intro W F w hS; apply vc10; unfold Vc10; (try simp only [app] at hS)
  obtain ⟨fv, ys, ⟨he, hrb⟩, hS⟩ := RDO.iff.1 hS
  have hyl : ys.length = s.R.length := by rw [← he, List.length_map]
  (apply s_call (refused_spec xp s fv ys he hok.sorted (by omega) f false) hS; exact Xp; clear hS)
  rintro v post ⟨rfl, rfl⟩ w hS
  (try simp only [app] at hS)
  simp only [Bool.false_eq_true, if_false]
  unfold DS.append
  (repeat (first | (with_reducible first | apply Q0 | refine Qa hS ?_ | refine Qb ?_ | refine Qc hS ?_ | refine Qd ?_) | ((with_reducible refine Qe hS ?_); clear hS; intro w hS; simp only [List.set] at hS) | ((with_reducible first | refine s_draw hS ?_ | refine Qf hS ?_); clear hS; intro w hS) | ((with_reducible first | refine s_new hS ?_ | refine Qg hS ?_); clear hS; intro b w hS)))
  refine s_ifp (fun h => ?_) (fun h => ?_)
  · rw [if_pos h]
    exact ⟨_, ⟨rfl, H, Heap.le_refl H, rfl⟩, RDO.iff.2 ⟨fv, ys, ⟨he, hrb⟩, SL.into hS Xi⟩⟩
  · rw [if_neg h]
    have hm : may s f = 0 := by omega
    obtain ⟨h0, hf0, hf1⟩ := may_zero hm
    (apply s_call (goes_spec xp s fv h0 hok.arm0 hok.arm1 hops) hS; exact Xp; clear hS)
    (rintro v post ⟨rfl, rfl⟩ w hS; (try simp only [app] at hS); (repeat (first | (with_reducible first | apply Q0 | refine Qa hS ?_ | refine Qb ?_ | refine Qc hS ?_ | refine Qd ?_) | ((with_reducible refine Qe hS ?_); clear hS; intro w hS; simp only [List.set] at hS) | ((with_reducible first | refine s_draw hS ?_ | refine Qf hS ?_); clear hS; intro w hS) | ((with_reducible first | refine s_new hS ?_ | refine Qg hS ?_); clear hS; intro b w hS))))
    (apply s_call (at_spec xp s.cnt fv ys (by rw [he]; exact hok.sorted) (by omega) f) hS; exact Xp; clear hS)
    (rintro v post ⟨rfl, rfl⟩ w hS; (try simp only [app] at hS); (repeat (first | (with_reducible first | apply Q0 | refine Qa hS ?_ | refine Qb ?_ | refine Qc hS ?_ | refine Qd ?_) | ((with_reducible refine Qe hS ?_); clear hS; intro w hS; simp only [List.set] at hS) | ((with_reducible first | refine s_draw hS ?_ | refine Qf hS ?_); clear hS; intro w hS) | ((with_reducible first | refine s_new hS ?_ | refine Qg hS ?_); clear hS; intro b w hS))))
    have hcl := cntK_le (key := idR) ys f
    have hAo := appI_old he (f := f)
    have hAn := fun hk => appI_new he (f := f) hk (.slice none 0 0)
    generalize hci : cntK idR ys f = i at *
    refine ⟨fun us w => us = [] ∧ ∃ fv2 ys2, AppI s.R ys2 i f ∧ RdB H ys2 ∧ SL W (.pt xp (rcells fv2 s.cnt) 28 :: .ob (FilesO fv2 ys2) :: .mem H :: F) w, ?_, ?_⟩
    · cases hk : isK idR ys f with
      | true =>
        refine s_not (s_iff ?_)
        exact ⟨rfl, fv, ys, hAo hk, hrb, SL.into hS Xi⟩
      | false =>
        refine s_not (s_ift ?_)
        (repeat (first | (with_reducible first | apply Q0 | refine Qa hS ?_ | refine Qb ?_ | refine Qc hS ?_ | refine Qd ?_) | ((with_reducible refine Qe hS ?_); clear hS; intro w hS; simp only [List.set] at hS) | ((with_reducible first | refine s_draw hS ?_ | refine Qf hS ?_); clear hS; intro w hS) | ((with_reducible first | refine s_new hS ?_ | refine Qg hS ?_); clear hS; intro b w hS)))
        have hS := OwnSl.full (n := 0) (sz := 3) rfl hS
        refine s_slO hS (t := 76) (sz := 3) (n := ys.length) (cells := (ys.map encRF).flatten) Xh hcl ?_
        intro a cap hsrc
        have h1c := encRF_one hrb
        refine s_app (n := 0) (m := i) hS .hd (hsrc _ _ hS Xh) (by rw [List.length_take, flat_len encRF_len]; exact Nat.min_eq_left (Nat.mul_le_mul_right _ hcl)) rfl (fun v hv => h1c v (List.mem_of_mem_take hv)) (by omega) (by omega) ?_
        clear hS; intro v1 w hS
        rw [Nat.zero_add, List.nil_append, flat_take_n encRF_len] at hS
        refine s_bld rfl ?_
        refine s_bldS hS rfl ?_
        clear hS; intro b2 w hS
        refine s_app (n := i) (m := 1) (cells := ((ys.take i).map encRF).flatten) hS Xr (src_pt0 (cs := encRF (newF f, Value.slice none 0 0)) hS .hd rfl) rfl rfl (by simp [encRF, Value.oneCell']) (by omega) (by omega) ?_
        clear hS; intro v2 w hS
        (repeat (first | (with_reducible first | apply Q0 | refine Qa hS ?_ | refine Qb ?_ | refine Qc hS ?_ | refine Qd ?_) | ((with_reducible refine Qe hS ?_); clear hS; intro w hS; simp only [List.set] at hS) | ((with_reducible first | refine s_draw hS ?_ | refine Qf hS ?_); clear hS; intro w hS) | ((with_reducible first | refine s_new hS ?_ | refine Qg hS ?_); clear hS; intro b w hS)))
        refine s_slLoO hS (t := 76) (sz := 3) (n := ys.length) (cells := (ys.map encRF).flatten) Xh hcl ?_
        intro u hsrc2
        refine s_app (n := i + 1) (m := ys.length - i) (cells := ((ys.take i).map encRF).flatten ++ encRF (newF f, Value.slice none 0 0)) hS Xr (hsrc2 _ _ hS Xh) (by rw [List.length_drop, flat_len encRF_len, Nat.mul_sub_right_distrib]) rfl (fun v hv => h1c v (List.mem_of_mem_drop hv)) (by omega) (by omega) ?_
        clear hS; intro v3 w hS
        have hone := hS.ownOne .hd
        (repeat (first | (with_reducible first | apply Q0 | refine Qa hS ?_ | refine Qb ?_ | refine Qc hS ?_ | refine Qd ?_) | ((with_reducible refine Qe hS ?_); clear hS; intro w hS; simp only [List.set] at hS) | ((with_reducible first | refine s_draw hS ?_ | refine Qf hS ?_); clear hS; intro w hS) | ((with_reducible first | refine s_new hS ?_ | refine Qg hS ?_); clear hS; intro b w hS)))
        rw [flat_drop_n encRF_len] at hS
        have e1 : ((ys.take i).map encRF).flatten ++ encRF (newF f, Value.slice none 0 0) ++ ((ys.drop i).map encRF).flatten = ((ys.take i ++ [(newF f, Value.slice none 0 0)] ++ ys.drop i).map encRF).flatten := by simp
        have e2 : i + 1 + (ys.length - i) = (ys.take i ++ [(newF f, Value.slice none 0 0)] ++ ys.drop i).length := by simp; omega
        rw [e1, e2] at hS
        refine ⟨v3, ys.take i ++ [(newF f, Value.slice none 0 0)] ++ ys.drop i, hAn hk, fun y hy => ?_, SL.into hS Xi⟩
        rcases List.mem_append.1 hy with hy | hy
        · rcases List.mem_append.1 hy with hy | hy
          · exact hrb y (List.mem_of_mem_take hy)
          · rw [List.mem_singleton] at hy; subst hy; exact nilF_rd H f
        · exact hrb y (List.mem_of_mem_drop hy)
    · clear hS hAo hAn hci hcl
      rintro w ⟨-, fv2, ys2, hA, hB, hS⟩
      have hi := hA.lt
      have hat := hA.at_ hi
      have hold := hB _ (List.getElem_mem hi)
      have hgl := getK_len (f := f) hok.len
      have hlen2 := hA.len
      obtain ⟨b0, cap, rest, rfl, hS, hback⟩ := FilesO.pt (SL.into hS (t := .ob (FilesO fv2 ys2) :: .pt xp (rcells fv2 s.cnt) 28 :: .mem H :: F) Xi) (by omega)
      have hcell : ((ys2.map encRF).flatten ++ rest)[0 + i * 3 + 2]? = some ys2[i].2 := encRF_pt hi (i := 2) (by omega) rfl
      have hb1 : ys2[i].1.b.length ≤ N := by rw [hat]; exact hgl
      (repeat (first | (with_reducible first | apply Q0 | refine Qa hS ?_ | refine Qb ?_ | refine Qc hS ?_ | refine Qd ?_) | ((with_reducible refine Qe hS ?_); clear hS; intro w hS; simp only [List.set] at hS) | ((with_reducible first | refine s_draw hS ?_ | refine Qf hS ?_); clear hS; intro w hS) | ((with_reducible first | refine s_new hS ?_ | refine Qg hS ?_); clear hS; intro b w hS)))
      refine s_idx hi (s_fld (s_ld hS Xh hcell ?_))
      (repeat (first | (with_reducible first | apply Q0 | refine Qa hS ?_ | refine Qb ?_ | refine Qc hS ?_ | refine Qd ?_) | ((with_reducible refine Qe hS ?_); clear hS; intro w hS; simp only [List.set] at hS) | ((with_reducible first | refine s_draw hS ?_ | refine Qf hS ?_); clear hS; intro w hS) | ((with_reducible first | refine s_new hS ?_ | refine Qg hS ?_); clear hS; intro b w hS)))
      refine s_ld hS Xh hcell ?_
      (repeat (first | (with_reducible first | apply Q0 | refine Qa hS ?_ | refine Qb ?_ | refine Qc hS ?_ | refine Qd ?_) | ((with_reducible refine Qe hS ?_); clear hS; intro w hS; simp only [List.set] at hS) | ((with_reducible first | refine s_draw hS ?_ | refine Qf hS ?_); clear hS; intro w hS) | ((with_reducible first | refine s_new hS ?_ | refine Qg hS ?_); clear hS; intro b w hS)))
      have hS := OwnSl.full (n := 0) (sz := 1) rfl hS
      refine s_app (n := 0) (m := ys2[i].1.b.length) hS .hd (src_rd hS Xh hold) (by simp) rfl (u8c_one _) (by omega) (by omega) ?_
      clear hS; intro v1 w hS
      rw [Nat.zero_add, List.nil_append] at hS
      (repeat (first | (with_reducible first | apply Q0 | refine Qa hS ?_ | refine Qb ?_ | refine Qc hS ?_ | refine Qd ?_) | ((with_reducible refine Qe hS ?_); clear hS; intro w hS; simp only [List.set] at hS) | ((with_reducible first | refine s_draw hS ?_ | refine Qf hS ?_); clear hS; intro w hS) | ((with_reducible first | refine s_new hS ?_ | refine Qg hS ?_); clear hS; intro b w hS)))
      refine s_app (n := ys2[i].1.b.length) (m := bs.length) (cells := ys2[i].1.b.map u8c) hS Xr (src_rd hS Xh hb) (by simp) rfl (u8c_one _) (by omega) (by omega) ?_
      clear hS; intro v2 w hS
      have hone := hS.ownOne .hd
      (repeat (first | (with_reducible first | apply Q0 | refine Qa hS ?_ | refine Qb ?_ | refine Qc hS ?_ | refine Qd ?_) | ((with_reducible refine Qe hS ?_); clear hS; intro w hS; simp only [List.set] at hS) | ((with_reducible first | refine s_draw hS ?_ | refine Qf hS ?_); clear hS; intro w hS) | ((with_reducible first | refine s_new hS ?_ | refine Qg hS ?_); clear hS; intro b w hS)))
      refine s_idx hi (s_fld ?_)
      refine s_st hS Xu hcell hone ?_
      clear hS; intro w hS
      have e1 : ys2[i].1.b.map u8c ++ bs.map u8c = (ys2[i].1.b ++ bs).map u8c := by rw [List.map_append]
      have e2 : ys2[i].1.b.length + bs.length = (ys2[i].1.b ++ bs).length := by rw [List.length_append]
      rw [e1, e2] at hS
      rw [encRF_set (y := (⟨f, ys2[i].1.safe, ys2[i].1.b ++ bs⟩, v2)) hi (i := 2) (by omega) (by omega) (by
        rw [show ys2[i] = ((⟨f, ys2[i].1.safe, ys2[i].1.b⟩ : PF), ys2[i].2) from Prod.ext (by rw [hat]) rfl]; rfl)] at hS
      obtain ⟨H', h01, hR2, hS⟩ := s_freeze (H := H) (v := v2) (n := (ys2[i].1.b ++ bs).length) (sz := 1) (t := 5) (cells := (ys2[i].1.b ++ bs).map u8c) hS Xp
      (apply s_call (told_spec s.cnt.off) hS; exact Xp; clear hS)
      (rintro v post ⟨rfl, rfl⟩ w hS; (try simp only [app] at hS); (repeat (first | (with_reducible first | apply Q0 | refine Qa hS ?_ | refine Qb ?_ | refine Qc hS ?_ | refine Qd ?_) | ((with_reducible refine Qe hS ?_); clear hS; intro w hS; simp only [List.set] at hS) | ((with_reducible first | refine s_draw hS ?_ | refine Qf hS ?_); clear hS; intro w hS) | ((with_reducible first | refine s_new hS ?_ | refine Qg hS ?_); clear hS; intro b w hS))))
      refine ⟨_, ⟨by unfold DS.err; rfl, H', h01, rfl⟩, RDO.iff.2 ⟨Value.slice (some ⟨b0, 0, none⟩) ys2.length cap, ys2.set i (⟨f, ys2[i].1.safe, ys2[i].1.b ++ bs⟩, v2), ⟨?_, (hB.mono h01).set hR2⟩, ?_⟩⟩
      · show _ = appF s.R f bs
        rw [hA.put _ rfl]
        unfold appF
        simp only [hat]
      · have := hback (ys2.set i (⟨f, ys2[i].1.safe, ys2[i].1.b ++ bs⟩, v2)) w (.pt xp (rcells (.slice (some ⟨b0, 0, none⟩) ys2.length cap) s.cnt) 28 :: .mem H' :: F) (by simp) (SL.into hS Xi)
        exact SL.into this Xi
end Go.Proofs.YtmcglicbolhmfaaGreat
namespace Go.Proofs.YtmcglicbolhmfaaGreat
set_option linter.unusedVariables false
set_option maxRecDepth 100000
open Go.RowKit

theorem find_zero {s : DS} {f : Int} (h : s.find f = 0) : may s f = 0 ∧ isK PF.id s.R f = true := by
  unfold DS.find at h
  by_cases hm : may s f = 0
  · rw [if_neg (show ¬ may s f ≠ 0 from fun e => e hm)] at h
    refine ⟨hm, ?_⟩
    by_cases hk : isK PF.id s.R f = true
    · exact hk
    · rw [if_neg hk] at h; cases h
  · rw [if_pos hm] at h; exact absurd h hm
theorem getK_ys {R : List PF} {ys : List YF} (he : ys.map Prod.fst = R) {f : Int} (hk : isK idR ys f = true) : ∃ h : cntK idR ys f < ys.length, getK PF.id R f = some ys[cntK idR ys f].1 ∧ ys[cntK idR ys f].1.id = f := by
  obtain ⟨h1, h2⟩ := isK_true hk
  refine ⟨h1, ?_, h2⟩
  rw [← he, getK_map idR_fst]
  unfold getK; rw [if_pos hk, List.getElem?_eq_getElem h1]; rfl
theorem rcut_spec (H : Heap) (xp : Nat) (s : DS) (N : Nat) (hok : s.Ok N) (hN : N ≤ 140737488355328) (hops : s.ops ≤ 100000) (hR : s.R.length ≤ 100000) (f n : Int) :
    Spec Tryz.prog 38 [.pointer (some ⟨xp, 0, none⟩), .int .i64 f, .int .i64 n] [.ob (RDO H xp s), .mem H] (fun v post => v = .int .i64 (s.cut f n).2 ∧ ∃ H', H.le H' ∧ post = [.ob (RDO H' xp (s.cut f n).1), .mem H']) := by
  intro W F w hS; apply vc38; unfold Vc38; (try simp only [app] at hS)
  obtain ⟨fv, ys, ⟨he, hrb⟩, hS⟩ := RDO.iff.1 hS
  have hyl : ys.length = s.R.length := by rw [← he, List.length_map]
  (apply s_call (refused_spec xp s fv ys he hok.sorted (by omega) f true) hS; exact Xp; clear hS)
  rintro v post ⟨rfl, rfl⟩ w hS
  (try simp only [app] at hS)
  simp only [if_true]
  unfold DS.cut
  (repeat (first | (with_reducible first | apply Q0 | refine Qa hS ?_ | refine Qb ?_ | refine Qc hS ?_ | refine Qd ?_) | ((with_reducible refine Qe hS ?_); clear hS; intro w hS; simp only [List.set] at hS) | ((with_reducible first | refine s_draw hS ?_ | refine Qf hS ?_); clear hS; intro w hS) | ((with_reducible first | refine s_new hS ?_ | refine Qg hS ?_); clear hS; intro b w hS)))
  refine s_ifp (fun h => ?_) (fun h => ?_)
  · rw [if_pos h]
    exact ⟨_, ⟨rfl, H, Heap.le_refl H, rfl⟩, RDO.iff.2 ⟨fv, ys, ⟨he, hrb⟩, SL.into hS Xi⟩⟩
  · rw [if_neg h]
    obtain ⟨hm, hk⟩ := find_zero (s := s) (f := f) (by omega)
    rw [isK_R he] at hk
    obtain ⟨h0, hf0, hf1⟩ := may_zero hm
    (apply s_call (at_spec xp s fv ys (by rw [he]; exact hok.sorted) (by omega) f) hS; exact Xp; clear hS)
    (rintro v post ⟨rfl, rfl⟩ w hS; (try simp only [app] at hS); (repeat (first | (with_reducible first | apply Q0 | refine Qa hS ?_ | refine Qb ?_ | refine Qc hS ?_ | refine Qd ?_) | ((with_reducible refine Qe hS ?_); clear hS; intro w hS; simp only [List.set] at hS) | ((with_reducible first | refine s_draw hS ?_ | refine Qf hS ?_); clear hS; intro w hS) | ((with_reducible first | refine s_new hS ?_ | refine Qg hS ?_); clear hS; intro b w hS))))
    obtain ⟨hi, hg, hid⟩ := getK_ys he hk
    have hA := appI_old he hk
    generalize cntK idR ys f = i at *
    have hlenF : lenF s.R f = ys[i].1.b.length := by unfold lenF; rw [hg]
    have hold := hrb _ (List.getElem_mem hi)
    have hb1 : ys[i].1.b.length ≤ N := hok.len _ (by rw [← he]; exact List.mem_map.2 ⟨_, List.getElem_mem hi, rfl⟩)
    rw [hlenF]
    refine s_ifp (fun h3 => ?_) (fun h3 => ?_)
    · rw [if_pos (.inl h3)]
      exact ⟨_, ⟨rfl, H, Heap.le_refl H, rfl⟩, RDO.iff.2 ⟨fv, ys, ⟨he, hrb⟩, SL.into hS Xi⟩⟩
    · obtain ⟨b0, cap, rest, rfl, hS, hback⟩ := FilesO.pt (SL.into hS (t := .ob (FilesO fv ys) :: .pt xp (rcells fv s) 28 :: .mem H :: F) Xi) (by omega)
      have hcell : ((ys.map encRF).flatten ++ rest)[0 + i * 3 + 2]? = some ys[i].2 := encRF_pt hi (i := 2) (by omega) rfl
      (repeat (first | (with_reducible first | apply Q0 | refine Qa hS ?_ | refine Qb ?_ | refine Qc hS ?_ | refine Qd ?_) | ((with_reducible refine Qe hS ?_); clear hS; intro w hS; simp only [List.set] at hS) | ((with_reducible first | refine s_draw hS ?_ | refine Qf hS ?_); clear hS; intro w hS) | ((with_reducible first | refine s_new hS ?_ | refine Qg hS ?_); clear hS; intro b w hS)))
      refine s_idx hi (s_fld (s_ld hS Xh hcell ?_))
      refine s_lenR hold ?_
      (repeat (first | (with_reducible first | apply Q0 | refine Qa hS ?_ | refine Qb ?_ | refine Qc hS ?_ | refine Qd ?_) | ((with_reducible refine Qe hS ?_); clear hS; intro w hS; simp only [List.set] at hS) | ((with_reducible first | refine s_draw hS ?_ | refine Qf hS ?_); clear hS; intro w hS) | ((with_reducible first | refine s_new hS ?_ | refine Qg hS ?_); clear hS; intro b w hS)))
      refine s_ifp (fun h4 => ?_) (fun h4 => ?_)
      · rw [if_pos (.inr h4)]
        have := hback ys w (.pt xp (rcells (.slice (some ⟨b0, 0, none⟩) ys.length cap) s) 28 :: .mem H :: F) rfl (SL.into hS Xi)
        exact ⟨_, ⟨rfl, H, Heap.le_refl H, rfl⟩, RDO.iff.2 ⟨_, ys, ⟨he, hrb⟩, SL.into this Xi⟩⟩
      · rw [if_neg (by omega)]
        obtain ⟨k, rfl⟩ : ∃ k : Nat, n = (k : Int) := ⟨n.toNat, by omega⟩
        rw [Int.toNat_natCast]
        (apply s_call (goes_spec xp s (.slice (some ⟨b0, 0, none⟩) ys.length cap) h0 hok.arm0 hok.arm1 hops) hS; exact Xp; clear hS)
        (rintro v post ⟨rfl, rfl⟩ w hS; (try simp only [app] at hS); (repeat (first | (with_reducible first | apply Q0 | refine Qa hS ?_ | refine Qb ?_ | refine Qc hS ?_ | refine Qd ?_) | ((with_reducible refine Qe hS ?_); clear hS; intro w hS; simp only [List.set] at hS) | ((with_reducible first | refine s_draw hS ?_ | refine Qf hS ?_); clear hS; intro w hS) | ((with_reducible first | refine s_new hS ?_ | refine Qg hS ?_); clear hS; intro b w hS))))
        by_cases hc : s.cnt.off = true
        · rw [if_pos hc, hc]
          refine s_iff ?_
          (apply s_call (told_spec true) hS; exact Xp; clear hS)
          (rintro v post ⟨rfl, rfl⟩ w hS; (try simp only [app] at hS); (repeat (first | (with_reducible first | apply Q0 | refine Qa hS ?_ | refine Qb ?_ | refine Qc hS ?_ | refine Qd ?_) | ((with_reducible refine Qe hS ?_); clear hS; intro w hS; simp only [List.set] at hS) | ((with_reducible first | refine s_draw hS ?_ | refine Qf hS ?_); clear hS; intro w hS) | ((with_reducible first | refine s_new hS ?_ | refine Qg hS ?_); clear hS; intro b w hS))))
          have := hback ys w (.pt xp (rcells (.slice (some ⟨b0, 0, none⟩) ys.length cap) s.cnt) 28 :: .mem H :: F) rfl (SL.into hS Xi)
          exact ⟨_, ⟨rfl, H, Heap.le_refl H, rfl⟩, RDO.iff.2 ⟨_, ys, ⟨he, hrb⟩, SL.into this Xi⟩⟩
        · rw [if_neg hc, (by simpa using hc : s.cnt.off = false)]
          refine s_ift ?_
          (repeat (first | (with_reducible first | apply Q0 | refine Qa hS ?_ | refine Qb ?_ | refine Qc hS ?_ | refine Qd ?_) | ((with_reducible refine Qe hS ?_); clear hS; intro w hS; simp only [List.set] at hS) | ((with_reducible first | refine s_draw hS ?_ | refine Qf hS ?_); clear hS; intro w hS) | ((with_reducible first | refine s_new hS ?_ | refine Qg hS ?_); clear hS; intro b w hS)))
          refine s_idx hi (s_fld (s_ld hS Xh hcell ?_))
          refine s_slHi hold (k := k) (by omega) ?_
          intro v' hcut
          (repeat (first | (with_reducible first | apply Q0 | refine Qa hS ?_ | refine Qb ?_ | refine Qc hS ?_ | refine Qd ?_) | ((with_reducible refine Qe hS ?_); clear hS; intro w hS; simp only [List.set] at hS) | ((with_reducible first | refine s_draw hS ?_ | refine Qf hS ?_); clear hS; intro w hS) | ((with_reducible first | refine s_new hS ?_ | refine Qg hS ?_); clear hS; intro b w hS)))
          refine s_ld hS Xh hcell ?_
          (repeat (first | (with_reducible first | apply Q0 | refine Qa hS ?_ | refine Qb ?_ | refine Qc hS ?_ | refine Qd ?_) | ((with_reducible refine Qe hS ?_); clear hS; intro w hS; simp only [List.set] at hS) | ((with_reducible first | refine s_draw hS ?_ | refine Qf hS ?_); clear hS; intro w hS) | ((with_reducible first | refine s_new hS ?_ | refine Qg hS ?_); clear hS; intro b w hS)))
          have hS := OwnSl.full (n := 0) (sz := 1) rfl hS
          refine s_app (n := 0) (m := k) hS .hd (src_rd hS Xh hcut) (by rw [List.length_take, List.length_map]; omega) rfl (fun v hv => u8c_one _ v (List.mem_of_mem_take hv)) (by omega) (by omega) ?_
          clear hS; intro v2 w hS
          have hone := hS.ownOne .hd
          rw [Nat.zero_add, List.nil_append] at hS
          (repeat (first | (with_reducible first | apply Q0 | refine Qa hS ?_ | refine Qb ?_ | refine Qc hS ?_ | refine Qd ?_) | ((with_reducible refine Qe hS ?_); clear hS; intro w hS; simp only [List.set] at hS) | ((with_reducible first | refine s_draw hS ?_ | refine Qf hS ?_); clear hS; intro w hS) | ((with_reducible first | refine s_new hS ?_ | refine Qg hS ?_); clear hS; intro b w hS)))
          refine s_idx hi (s_fld ?_)
          refine s_st hS Xu hcell hone ?_
          clear hS; intro w hS
          rw [encRF_set (y := (⟨f, ys[i].1.safe, ys[i].1.b.take k⟩, v2)) hi (i := 2) (by omega) (by omega) (by rw [← hid]; rfl)] at hS
          have hi' : i < (ys.set i (⟨f, ys[i].1.safe, ys[i].1.b.take k⟩, v2)).length := by simpa using hi
          have hcell1 : (((ys.set i (⟨f, ys[i].1.safe, ys[i].1.b.take k⟩, v2)).map encRF).flatten ++ rest)[0 + i * 3 + 1]? = some (.int .i64 (ys[i].1.safe : Int)) := encRF_pt hi' (i := 1) (by omega) (by simp [encRF])
          (repeat (first | (with_reducible first | apply Q0 | refine Qa hS ?_ | refine Qb ?_ | refine Qc hS ?_ | refine Qd ?_) | ((with_reducible refine Qe hS ?_); clear hS; intro w hS; simp only [List.set] at hS) | ((with_reducible first | refine s_draw hS ?_ | refine Qf hS ?_); clear hS; intro w hS) | ((with_reducible first | refine s_new hS ?_ | refine Qg hS ?_); clear hS; intro b w hS)))
          refine s_idx hi (s_fld (s_ld hS Xh hcell1 ?_))
          (repeat (first | (with_reducible first | apply Q0 | refine Qa hS ?_ | refine Qb ?_ | refine Qc hS ?_ | refine Qd ?_) | ((with_reducible refine Qe hS ?_); clear hS; intro w hS; simp only [List.set] at hS) | ((with_reducible first | refine s_draw hS ?_ | refine Qf hS ?_); clear hS; intro w hS) | ((with_reducible first | refine s_new hS ?_ | refine Qg hS ?_); clear hS; intro b w hS)))
          refine s_idx hi (s_fld ?_)
          refine s_st hS Xu hcell1 rfl ?_
          clear hS; intro w hS
          have emin : min (ys[i].1.safe : Int) (k : Int) = ((min ys[i].1.safe k : Nat) : Int) := by omega
          rw [emin] at hS
          rw [encRF_set (y := (⟨f, min ys[i].1.safe k, ys[i].1.b.take k⟩, v2)) hi' (i := 1) (by omega) (by omega) (by simp [encRF]), List.set_set] at hS
          have e1 : (ys[i].1.b.map u8c).take (k * 1) = (ys[i].1.b.take k).map u8c := by rw [Nat.mul_one, List.map_take]
          have e2 : (ys[i].1.b.take k).length = k := by rw [List.length_take]; omega
          rw [e1] at hS
          obtain ⟨H', h01, hR2, hS⟩ := s_freeze (H := H) (v := v2) (n := k) (sz := 1) (t := 5) (cells := (ys[i].1.b.take k).map u8c) hS Xp
          (apply s_call (told_spec false) hS; exact Xp; clear hS)
          (rintro v post ⟨rfl, rfl⟩ w hS; (try simp only [app] at hS); (repeat (first | (with_reducible first | apply Q0 | refine Qa hS ?_ | refine Qb ?_ | refine Qc hS ?_ | refine Qd ?_) | ((with_reducible refine Qe hS ?_); clear hS; intro w hS; simp only [List.set] at hS) | ((with_reducible first | refine s_draw hS ?_ | refine Qf hS ?_); clear hS; intro w hS) | ((with_reducible first | refine s_new hS ?_ | refine Qg hS ?_); clear hS; intro b w hS))))
          refine ⟨_, ⟨rfl, H', h01, rfl⟩, RDO.iff.2 ⟨Value.slice (some ⟨b0, 0, none⟩) ys.length cap, ys.set i (⟨f, min ys[i].1.safe k, ys[i].1.b.take k⟩, v2), ⟨?_, (hrb.mono h01).set (by rw [e2]; exact hR2)⟩, ?_⟩⟩
          · show _ = updF s.R f _
            rw [hA.put _ rfl, updF_some hg]; rfl
          · have := hback (ys.set i (⟨f, min ys[i].1.safe k, ys[i].1.b.take k⟩, v2)) w (.pt xp (rcells (.slice (some ⟨b0, 0, none⟩) ys.length cap) s.cnt) 28 :: .mem H' :: F) (by simp) (SL.into hS Xi)
            exact SL.into this Xi
theorem rremove_spec (H : Heap) (xp : Nat) (s : DS) (N : Nat) (hok : s.Ok N) (hops : s.ops ≤ 100000) (hR : s.R.length ≤ 100000) (f : Int) :
    Spec Tryz.prog 36 [.pointer (some ⟨xp, 0, none⟩), .int .i64 f] [.ob (RDO H xp s), .mem H] (Gives (.int .i64 (s.remove f).2) [.ob (RDO H xp (s.remove f).1), .mem H]) := by
  intro W F w hS; apply vc36; unfold Vc36; (try simp only [app] at hS)
  obtain ⟨fv, ys, ⟨he, hrb⟩, hS⟩ := RDO.iff.1 hS
  have hyl : ys.length = s.R.length := by rw [← he, List.length_map]
  (apply s_call (refused_spec xp s fv ys he hok.sorted (by omega) f true) hS; exact Xp; clear hS)
  rintro v post ⟨rfl, rfl⟩ w hS
  (try simp only [app] at hS)
  simp only [if_true]
  unfold DS.remove
  (repeat (first | (with_reducible first | apply Q0 | refine Qa hS ?_ | refine Qb ?_ | refine Qc hS ?_ | refine Qd ?_) | ((with_reducible refine Qe hS ?_); clear hS; intro w hS; simp only [List.set] at hS) | ((with_reducible first | refine s_draw hS ?_ | refine Qf hS ?_); clear hS; intro w hS) | ((with_reducible first | refine s_new hS ?_ | refine Qg hS ?_); clear hS; intro b w hS)))
  refine s_ifp (fun h => ?_) (fun h => ?_)
  · rw [if_pos h]
    exact ⟨_, ⟨rfl, rfl⟩, RDO.iff.2 ⟨fv, ys, ⟨he, hrb⟩, SL.into hS Xi⟩⟩
  · rw [if_neg h]
    obtain ⟨hm, hk⟩ := find_zero (s := s) (f := f) (by omega)
    rw [isK_R he] at hk
    obtain ⟨h0, hf0, hf1⟩ := may_zero hm
    (apply s_call (goes_spec xp s fv h0 hok.arm0 hok.arm1 hops) hS; exact Xp; clear hS)
    (rintro v post ⟨rfl, rfl⟩ w hS; (try simp only [app] at hS); (repeat (first | (with_reducible first | apply Q0 | refine Qa hS ?_ | refine Qb ?_ | refine Qc hS ?_ | refine Qd ?_) | ((with_reducible refine Qe hS ?_); clear hS; intro w hS; simp only [List.set] at hS) | ((with_reducible first | refine s_draw hS ?_ | refine Qf hS ?_); clear hS; intro w hS) | ((with_reducible first | refine s_new hS ?_ | refine Qg hS ?_); clear hS; intro b w hS))))
    by_cases hc : s.cnt.off = true
    · rw [if_pos hc, hc]
      refine s_iff ?_
      (apply s_call (told_spec true) hS; exact Xp; clear hS)
      (rintro v post ⟨rfl, rfl⟩ w hS; (try simp only [app] at hS); (repeat (first | (with_reducible first | apply Q0 | refine Qa hS ?_ | refine Qb ?_ | refine Qc hS ?_ | refine Qd ?_) | ((with_reducible refine Qe hS ?_); clear hS; intro w hS; simp only [List.set] at hS) | ((with_reducible first | refine s_draw hS ?_ | refine Qf hS ?_); clear hS; intro w hS) | ((with_reducible first | refine s_new hS ?_ | refine Qg hS ?_); clear hS; intro b w hS))))
      exact ⟨_, ⟨rfl, rfl⟩, RDO.iff.2 ⟨fv, ys, ⟨he, hrb⟩, SL.into hS Xi⟩⟩
    · rw [if_neg hc, (by simpa using hc : s.cnt.off = false)]
      refine s_ift ?_
      (apply s_call (at_spec xp s.cnt fv ys (by rw [he]; exact hok.sorted) (by omega) f) hS; exact Xp; clear hS)
      (rintro v post ⟨rfl, rfl⟩ w hS; (try simp only [app] at hS); (repeat (first | (with_reducible first | apply Q0 | refine Qa hS ?_ | refine Qb ?_ | refine Qc hS ?_ | refine Qd ?_) | ((with_reducible refine Qe hS ?_); clear hS; intro w hS; simp only [List.set] at hS) | ((with_reducible first | refine s_draw hS ?_ | refine Qf hS ?_); clear hS; intro w hS) | ((with_reducible first | refine s_new hS ?_ | refine Qg hS ?_); clear hS; intro b w hS))))
      obtain ⟨hi, hg, hid⟩ := getK_ys he hk
      have hdel : delK idR ys f = ys.eraseIdx (cntK idR ys f) := by unfold delK; rw [if_pos hk]
      have hdelm := delK_map idR_fst ys f
      rw [he, hdel] at hdelm
      generalize cntK idR ys f = i at *
      have h1c := encRF_one hrb
      refine s_slO hS (t := 76) (sz := 3) (n := ys.length) (cells := (ys.map encRF).flatten) Xh (Nat.le_of_lt hi) ?_
      intro a cap hsrc
      (repeat (first | (with_reducible first | apply Q0 | refine Qa hS ?_ | refine Qb ?_ | refine Qc hS ?_ | refine Qd ?_) | ((with_reducible refine Qe hS ?_); clear hS; intro w hS; simp only [List.set] at hS) | ((with_reducible first | refine s_draw hS ?_ | refine Qf hS ?_); clear hS; intro w hS) | ((with_reducible first | refine s_new hS ?_ | refine Qg hS ?_); clear hS; intro b w hS)))
      refine s_slLoO hS (t := 76) (sz := 3) (n := ys.length) (cells := (ys.map encRF).flatten) Xh hi ?_
      intro u hsrc2
      (repeat (first | (with_reducible first | apply Q0 | refine Qa hS ?_ | refine Qb ?_ | refine Qc hS ?_ | refine Qd ?_) | ((with_reducible refine Qe hS ?_); clear hS; intro w hS; simp only [List.set] at hS) | ((with_reducible first | refine s_draw hS ?_ | refine Qf hS ?_); clear hS; intro w hS) | ((with_reducible first | refine s_new hS ?_ | refine Qg hS ?_); clear hS; intro b w hS)))
      have hS := OwnSl.full (n := 0) (sz := 3) rfl hS
      refine s_app (n := 0) (m := i) hS .hd (hsrc _ _ hS Xh) (by rw [List.length_take, flat_len encRF_len]; exact Nat.min_eq_left (Nat.mul_le_mul_right _ (Nat.le_of_lt hi))) rfl (fun v hv => h1c v (List.mem_of_mem_take hv)) (by omega) (by omega) ?_
      clear hS; intro v1 w hS
      rw [Nat.zero_add, List.nil_append, flat_take_n encRF_len] at hS
      (repeat (first | (with_reducible first | apply Q0 | refine Qa hS ?_ | refine Qb ?_ | refine Qc hS ?_ | refine Qd ?_) | ((with_reducible refine Qe hS ?_); clear hS; intro w hS; simp only [List.set] at hS) | ((with_reducible first | refine s_draw hS ?_ | refine Qf hS ?_); clear hS; intro w hS) | ((with_reducible first | refine s_new hS ?_ | refine Qg hS ?_); clear hS; intro b w hS)))
      refine s_app (n := i) (m := ys.length - (i + 1)) (cells := ((ys.take i).map encRF).flatten) hS Xr (hsrc2 _ _ hS Xh) (by rw [List.length_drop, flat_len encRF_len, Nat.mul_sub_right_distrib]) rfl (fun v hv => h1c v (List.mem_of_mem_drop hv)) (by omega) (by omega) ?_
      clear hS; intro v3 w hS
      have hone := hS.ownOne .hd
      (repeat (first | (with_reducible first | apply Q0 | refine Qa hS ?_ | refine Qb ?_ | refine Qc hS ?_ | refine Qd ?_) | ((with_reducible refine Qe hS ?_); clear hS; intro w hS; simp only [List.set] at hS) | ((with_reducible first | refine s_draw hS ?_ | refine Qf hS ?_); clear hS; intro w hS) | ((with_reducible first | refine s_new hS ?_ | refine Qg hS ?_); clear hS; intro b w hS)))
      rw [flat_drop_n encRF_len] at hS
      have e1 : ((ys.take i).map encRF).flatten ++ ((ys.drop (i + 1)).map encRF).flatten = ((ys.eraseIdx i).map encRF).flatten := by rw [List.eraseIdx_eq_take_drop_succ]; simp
      have e2 : i + (ys.length - (i + 1)) = (ys.eraseIdx i).length := by rw [List.length_eraseIdx, if_pos hi]; omega
      rw [e1, e2] at hS
      (apply s_call (told_spec false) hS; exact Xp; clear hS)
      (rintro v post ⟨rfl, rfl⟩ w hS; (try simp only [app] at hS); (repeat (first | (with_reducible first | apply Q0 | refine Qa hS ?_ | refine Qb ?_ | refine Qc hS ?_ | refine Qd ?_) | ((with_reducible refine Qe hS ?_); clear hS; intro w hS; simp only [List.set] at hS) | ((with_reducible first | refine s_draw hS ?_ | refine Qf hS ?_); clear hS; intro w hS) | ((with_reducible first | refine s_new hS ?_ | refine Qg hS ?_); clear hS; intro b w hS))))
      exact ⟨_, ⟨rfl, rfl⟩, RDO.iff.2 ⟨v3, ys.eraseIdx i, ⟨hdelm, fun y hy => hrb y (List.mem_of_mem_eraseIdx hy)⟩, SL.into hS Xi⟩⟩
end Go.Proofs.YtmcglicbolhmfaaGreat
namespace Go.Proofs.YtmcglicbolhmfaaGreat
set_option linter.unusedVariables false
set_option maxRecDepth 100000
open Go.RowKit

def crP (keep : List Int) (i : Nat) (R : List PF) : List PF := R.mapIdx fun j x => if j < i then crF keep j x else x
theorem crP_len (keep : List Int) (i : Nat) (R : List PF) : (crP keep i R).length = R.length := by simp [crP]
theorem crP_get {keep : List Int} {i : Nat} {R : List PF} {j : Nat} (h : j < R.length) : (crP keep i R)[j]'(by rw [crP_len]; exact h) = if j < i then crF keep j R[j] else R[j] := by simp [crP]
theorem crP_zero (keep : List Int) (R : List PF) : crP keep 0 R = R := by
  refine List.ext_getElem (crP_len _ _ _) fun j h1 h2 => ?_
  rw [crP_get h2, if_neg (by omega)]
theorem crP_succ {keep : List Int} {i : Nat} {R : List PF} (h : i < R.length) : crP keep (i + 1) R = (crP keep i R).set i (crF keep i R[i]) := by
  refine List.ext_getElem (by simp [crP]) fun j h1 h2 => ?_
  have hj : j < R.length := by rw [crP_len] at h1; exact h1
  rw [crP_get hj, List.getElem_set]
  by_cases e : i = j
  · subst e; rw [if_pos (by omega), if_pos rfl]
  · rw [if_neg e, crP_get hj]
    by_cases h3 : j < i
    · rw [if_pos h3, if_pos (by omega)]
    · rw [if_neg h3, if_neg (by omega)]
theorem crP_all {keep : List Int} {R : List PF} : crP keep R.length R = crashR R keep := by
  unfold crashR
  refine List.ext_getElem (by simp [crP]) fun j h1 h2 => ?_
  have hj : j < R.length := by simpa [crP] using h1
  rw [crP_get hj, if_pos hj]
  simp
end Go.Proofs.YtmcglicbolhmfaaGreat
namespace Go.Proofs.YtmcglicbolhmfaaGreat
set_option linter.unusedVariables false
open Go.RowKit

structure PSeg where
  file : Int
  first : Int
  size : Nat
  l : List (List UInt8)
structure PTorn where
  file : Int
  had : Int
  fresh : Bool
structure PLog where
  segs : List PSeg
  base : Int
  size : Int
  torn : Option PTorn
def PSeg.next (s : PSeg) : Int := s.first + s.l.length
def headG (L : List PSeg) : Int := match L.getLast? with
  | none => 0
  | some s => s.next - 1
def lowG (L : List PSeg) : Int := match L with
  | [] => 1
  | s :: _ => s.first
def readG : List PSeg → Int → Option (List UInt8)
  | [], _ => none
  | s :: r, n => if s.first ≤ n ∧ n < s.next then s.l[(n - s.first).toNat]? else readG r n
/-- What an Append would write, and where. -/
structure PWr where
  file : Int
  fresh : Bool
  b : List UInt8
def freshG (g : PLog) (f : Int) (p : List UInt8) : Except Int PWr :=
  if g.base + 4096 ≤ f then .error 7 else .ok ⟨f, true, recB (hdB (headG g.segs + 1).toNat) ++ recB p⟩
def planG (g : PLog) (off : Bool) (p : List UInt8) : Except Int PWr :=
  if 1048576 < p.length then .error 1
  else if off = true then .error 8
  else if 1099511627776 ≤ headG g.segs then .error 7
  else match g.segs.getLast? with
    | none => freshG g g.base p
    | some s => if s.l.length = 0 ∨ (s.size : Int) + (recB p).length ≤ g.size then .ok ⟨s.file, false, recB p⟩ else freshG g (s.file + 1) p
/-- What a Tear left is taken away. -/
def mendG (g : PLog) (d : DS) : (PLog × DS) × Int := match g.torn with
  | none => ((g, d), 0)
  | some x => (({ g with torn := if (if x.fresh = true then d.remove x.file else d.cut x.file x.had).2 = 0 then none else some x }, (if x.fresh = true then d.remove x.file else d.cut x.file x.had).1), (if x.fresh = true then d.remove x.file else d.cut x.file x.had).2)
/-- An entry is put behind the last segment's. -/
def putG (L : List PSeg) (x : PWr) (p : List UInt8) : List PSeg :=
  let L := if x.fresh = true then L ++ [⟨x.file, headG L + 1, 0, []⟩] else L
  L.dropLast ++ L.getLast?.toList.map fun s => { s with size := s.size + x.b.length, l := s.l ++ [p] }
def appendG (g : PLog) (d : DS) (p : List UInt8) : (PLog × DS) × (Int × Int) := match planG g d.off p with
  | .error e => ((g, d), (0, e))
  | .ok x =>
    let m := mendG g d
    if m.2 ≠ 0 then (m.1, (0, m.2)) else
    let a := m.1.2.append x.file x.b
    if a.2 ≠ 0 then ((m.1.1, a.1), (0, a.2)) else
    let s := a.1.sync x.file
    if s.2 ≠ 0 then ((m.1.1, s.1), (0, s.2)) else
    (({ m.1.1 with segs := putG m.1.1.segs x p }, s.1), (headG (putG m.1.1.segs x p), 0))
def lastSize (L : List PSeg) : Int := match L.getLast? with
  | none => 0
  | some s => s.size
def tearG (g : PLog) (d : DS) (p : List UInt8) (k : Int) : (PLog × DS) × Int :=
  if k < 0 then ((g, d), 1) else match planG g d.off p with
  | .error e => ((g, d), e)
  | .ok x =>
    let m := mendG g d
    if m.2 ≠ 0 then (m.1, m.2) else
    let a := m.1.2.append x.file (x.b.take (k.toNat % x.b.length))
    if a.2 ≠ 0 then ((m.1.1, a.1), a.2) else
    (({ m.1.1 with torn := some ⟨x.file, if x.fresh = true then 0 else lastSize m.1.1.segs, x.fresh⟩ }, a.1), 0)
def trimL : List PSeg → DS → Int → (List PSeg × DS) × Int
  | s :: t :: r, d, n => if s.next - 1 ≤ n then (if (d.remove s.file).2 ≠ 0 then ((s :: t :: r, (d.remove s.file).1), (d.remove s.file).2) else trimL (t :: r) (d.remove s.file).1 n) else ((s :: t :: r, d), 0)
  | L, d, _ => ((L, d), 0)
def trimG (g : PLog) (d : DS) (n : Int) : (PLog × DS) × Int :=
  if d.off = true then ((g, d), 8) else (({ g with segs := (trimL g.segs d n).1.1 }, (trimL g.segs d n).1.2), (trimL g.segs d n).2)
/-! Opening. -/
def idsG (base : Int) (R : List PF) : List Int := (R.map PF.id).filter fun f => decide (base ≤ f ∧ f < base + 4096)
/-- One file is read: whether it is a segment, whether it may be there, and what is had then. -/
def loadG (L : List PSeg) (R : List PF) (f : Int) (last : Bool) : (Bool × Bool) × List PSeg :=
  let b := ((getK PF.id R f).map PF.b).getD []
  match readS b with
  | none => ((false, last), L)
  | some (first, l, n) =>
    if (last = false ∧ (n ≠ b.length ∨ l.length = 0)) ∨ (0 < L.length ∧ first ≠ headG L + 1) ∨ 1099511627776 < first + l.length - 1 then ((true, false), L)
    else ((true, true), L ++ [⟨f, first, n, l⟩])
/-- All files are read, from the i-th on. -/
def loadsG (R : List PF) : List Int → Option Int → List PSeg → Bool → Option (List PSeg × Bool)
  | [], _, L, whole => some (L, whole)
  | f :: r, prev, L, whole =>
    let x := loadG L R f r.isEmpty
    if x.1.2 = false then none else if (match prev with | none => false | some g => decide (f ≠ g + 1)) = true then none else loadsG R r (some f) x.2 x.1.1
/-- The end of the last file is mended. -/
def beginG (L : List PSeg) (d : DS) (ids : List Int) (whole : Bool) : DS × Int := match ids.getLast? with
  | none => (d, 0)
  | some f => if whole = false then d.remove f else if lastSize L < lenF d.R f then d.cut f (lastSize L) else (d, 0)
def openG (d : DS) (base size : Int) : DS × Except Int PLog :=
  if base < 0 ∨ 12288 < base ∨ size < 64 ∨ 65536 < size then (d, .error 1)
  else if d.off = true then (d, .error 8)
  else match loadsG d.R (idsG base d.R) none [] true with
    | none => (d, .error 3)
    | some (L, whole) => if (beginG L d (idsG base d.R) whole).2 ≠ 0 then ((beginG L d (idsG base d.R) whole).1, .error (beginG L d (idsG base d.R) whole).2) else ((beginG L d (idsG base d.R) whole).1, .ok ⟨L, base, size, none⟩)
/-- What holds of a log: numbers that are not too large. -/
structure SegOk (s : PSeg) (N : Nat) : Prop where
  f0 : 0 ≤ s.file
  f1 : s.file ≤ 100000
  n0 : 1 ≤ s.first
  n1 : s.first ≤ 1099511627776
  sz : s.size ≤ N
  ln : s.l.length ≤ N
  bl : ∀ b ∈ s.l, b.length ≤ 1048576
structure PLog.Ok (g : PLog) (N : Nat) : Prop where
  segs : ∀ s ∈ g.segs, SegOk s N
  b0 : 0 ≤ g.base
  b1 : g.base ≤ 12288
  s0 : 64 ≤ g.size
  s1 : g.size ≤ 65536
  ln : g.segs.length ≤ N
theorem headG_ge {L : List PSeg} {N : Nat} (h : ∀ s ∈ L, SegOk s N) : 0 ≤ headG L ∧ headG L ≤ 1099511627776 + N := by
  unfold headG
  split
  · omega
  · rename_i s hs
    have := h s (List.mem_of_getLast? hs)
    have h1 := this.n0; have h2 := this.n1; have h3 := this.ln
    simp only [PSeg.next]
    omega
end Go.Proofs.YtmcglicbolhmfaaGreat
namespace Go.Proofs.YtmcglicbolhmfaaGreat
set_option linter.unusedVariables false
open Go.RowKit

/-! Files at an end of the row. -/
section
variable {A : List PF} {x : PF}
theorem cnt_end (hs : SortedK PF.id (A ++ [x])) : cntK PF.id (A ++ [x]) x.id = A.length := cntK_at hs (j := A.length) (by simp) (by simp)
theorem is_end (hs : SortedK PF.id (A ++ [x])) : isK PF.id (A ++ [x]) x.id = true := (isK_iff hs).2 ⟨x, by simp, rfl⟩
theorem get_end (hs : SortedK PF.id (A ++ [x])) : getK PF.id (A ++ [x]) x.id = some x := getK_of hs (by simp)
theorem put_end (hs : SortedK PF.id (A ++ [x])) {y : PF} (hy : y.id = x.id) : putK PF.id (A ++ [x]) y = A ++ [y] := by
  have h1 : isK PF.id (A ++ [x]) y.id = true := by rw [hy]; exact is_end hs
  rw [putK_is h1, hy, cnt_end hs]; simp
theorem upd_end (hs : SortedK PF.id (A ++ [x])) (g : PF → PF) : updF (A ++ [x]) x.id g = A ++ [{ g x with id := x.id }] := by
  unfold updF
  rw [get_end hs]
  exact put_end hs rfl
theorem del_end (hs : SortedK PF.id (A ++ [x])) : delK PF.id (A ++ [x]) x.id = A := by
  rw [delK, if_pos (is_end hs), cnt_end hs]; simp [List.eraseIdx_append_of_length_le]
theorem del_front (hs : SortedK PF.id (x :: A)) : delK PF.id (x :: A) x.id = A := by
  have h1 : isK PF.id (x :: A) x.id = true := (isK_iff hs).2 ⟨x, by simp, rfl⟩
  have h2 : cntK PF.id (x :: A) x.id = 0 := cntK_at hs (j := 0) (by simp) rfl
  rw [delK, if_pos h1, h2]; rfl
theorem app_end (hs : SortedK PF.id (A ++ [x])) (b : List UInt8) : appF (A ++ [x]) x.id b = A ++ [⟨x.id, x.safe, x.b ++ b⟩] := by
  unfold appF
  rw [get_end hs]
  exact put_end hs rfl
theorem app_new (hs : SortedK PF.id A) {f : Int} (h : ∀ y ∈ A, y.id < f) (b : List UInt8) : appF A f b = A ++ [⟨f, 0, b⟩] := by
  have h1 : getK PF.id A f = none := (getK_none hs).2 fun y hy => by have := h y hy; omega
  have h2 : isK PF.id A f = false := by
    cases e : isK PF.id A f with
    | false => rfl
    | true => obtain ⟨y, hy, e⟩ := (isK_iff hs).1 e; have := h y hy; omega
  have h3 : cntK PF.id A f = A.length := by
    unfold cntK
    rw [List.filter_eq_self.2 fun y hy => by simpa using h y hy]
  unfold appF
  rw [h1]
  unfold putK
  simp only [h2, h3]
  simp [newF]
end
/-- Files numbered one behind the other. -/
def Con (f : Int) (R : List PF) : Prop := ∀ i (h : i < R.length), R[i].id = f + i
theorem Con.sorted {f : Int} {R : List PF} (h : Con f R) : SortedK PF.id R := by
  unfold SortedK
  rw [List.pairwise_iff_getElem]
  intro i j hi hj hij
  rw [h i hi, h j hj]; omega
theorem Con.mem {f : Int} {R : List PF} (h : Con f R) {x : PF} (hx : x ∈ R) : f ≤ x.id ∧ x.id < f + R.length := by
  obtain ⟨i, hi, rfl⟩ := List.mem_iff_getElem.1 hx
  rw [h i hi]; omega
theorem Con.snoc {f : Int} {R : List PF} (h : Con f R) {x : PF} (hx : x.id = f + R.length) : Con f (R ++ [x]) := by
  intro i hi
  by_cases hl : i < R.length
  · rw [List.getElem_append_left hl]; exact h i hl
  · have : i = R.length := by simp at hi; omega
    subst this
    simp [hx]

/-! Segments. -/
def segB (s : PSeg) : List UInt8 := recsB (hdB s.first.toNat :: s.l)
def segF (s : PSeg) : PF := ⟨s.file, (segB s).length, segB s⟩
def Chain : Int → Int → List PSeg → Prop
  | _, _, [] => True
  | f, n, s :: r => s.file = f ∧ s.first = n ∧ s.size = (segB s).length ∧ (∀ p ∈ s.l, p.length ≤ 1048576) ∧ (r ≠ [] → s.l ≠ []) ∧ Chain (f + 1) (n + s.l.length) r
def entsG (L : List PSeg) : List (List UInt8) := (L.map PSeg.l).flatten
theorem entsG_cons (s : PSeg) (L : List PSeg) : entsG (s :: L) = s.l ++ entsG L := by simp [entsG]
theorem entsG_app (A B : List PSeg) : entsG (A ++ B) = entsG A ++ entsG B := by simp [entsG]
theorem Chain.app : ∀ {f n : Int} {A B : List PSeg}, Chain f n (A ++ B) ↔ Chain f n A ∧ (B ≠ [] → ∀ s ∈ A, s.l ≠ []) ∧ Chain (f + A.length) (n + (entsG A).length) B
  | f, n, [], B => by simp [Chain, entsG]
  | f, n, s :: A, B => by
    have ih := Chain.app (f := f + 1) (n := n + s.l.length) (A := A) (B := B)
    have e1 : f + 1 + (A.length : Int) = f + ((s :: A).length : Int) := by simp; omega
    have e2 : n + (s.l.length : Int) + ((entsG A).length : Int) = n + ((entsG (s :: A)).length : Int) := by rw [entsG_cons, List.length_append]; omega
    rw [e1, e2] at ih
    rw [List.cons_append]
    simp only [Chain, ih]
    constructor
    · rintro ⟨h1, h2, h3, h4, h5, h6, h7, h8⟩
      refine ⟨⟨h1, h2, h3, h4, fun hA => h5 (by simp [hA]), h6⟩, fun hB t ht => ?_, h8⟩
      rcases List.mem_cons.1 ht with rfl | ht
      · exact h5 (by simp [hB])
      · exact h7 hB t ht
    · rintro ⟨⟨h1, h2, h3, h4, h5, h6⟩, h7, h8⟩
      refine ⟨h1, h2, h3, h4, fun h => ?_, h6, fun hB t ht => h7 hB t (.tail _ ht), h8⟩
      by_cases hA : A = []
      · subst hA; exact h7 (by simpa using h) s (.head _)
      · exact h5 hA
theorem Chain.con : ∀ {f n : Int} {L : List PSeg}, Chain f n L → Con f (L.map segF)
  | f, n, [], _ => fun i h => by simp at h
  | f, n, s :: L, h => by
    obtain ⟨h1, _, _, _, _, h6⟩ := h
    have ih := h6.con
    intro i hi
    cases i with
    | zero => simpa [segF] using h1
    | succ i =>
      have := ih i (by simpa using hi)
      simp only [List.map_cons, List.getElem_cons_succ]
      rw [this]; push_cast; omega
theorem Chain.head {f n : Int} {L : List PSeg} (h : Chain f n L) (hL : L ≠ []) : headG L = n + (entsG L).length - 1 := by
  obtain ⟨A, s, rfl⟩ : ∃ A s, L = A ++ [s] := ⟨L.dropLast, L.getLast hL, (List.dropLast_concat_getLast hL).symm⟩
  obtain ⟨_, _, h3⟩ := Chain.app.1 h
  obtain ⟨_, h4, _⟩ := h3
  unfold headG
  rw [List.getLast?_concat, entsG_app]
  simp only [PSeg.next, h4, List.length_append]
  simp [entsG]; omega
theorem Chain.low {f n : Int} {L : List PSeg} (h : Chain f n L) (hL : L ≠ []) : lowG L = n := by
  cases L with
  | nil => exact absurd rfl hL
  | cons s L => exact h.2.1
theorem Chain.read : ∀ {f n : Int} {L : List PSeg}, Chain f n L → ∀ i, readG L i = if n ≤ i then (entsG L)[(i - n).toNat]? else none
  | f, n, [], _, i => by simp [readG, entsG]
  | f, n, s :: L, h, i => by
    obtain ⟨_, h2, _, _, _, h6⟩ := h
    have ih := h6.read i
    subst h2
    rw [readG, ih, entsG_cons]
    have hnx : s.next = s.first + s.l.length := rfl
    by_cases h1 : s.first ≤ i
    · rw [if_pos (c := s.first ≤ i) h1]
      by_cases h3 : i < s.next
      · rw [if_pos (c := s.first ≤ i ∧ i < s.next) ⟨h1, h3⟩, List.getElem?_append_left (by omega)]
      · rw [if_neg (c := s.first ≤ i ∧ i < s.next) (by omega), if_pos (by omega), List.getElem?_append_right (by omega)]
        congr 1; omega
    · rw [if_neg (c := s.first ≤ i ∧ i < s.next) (by omega), if_neg (by omega), if_neg h1]
theorem Chain.bl : ∀ {f n : Int} {L : List PSeg}, Chain f n L → ∀ s ∈ L, s.size = (segB s).length ∧ ∀ p ∈ s.l, p.length ≤ 1048576
  | f, n, [], _, s, hs => by cases hs
  | f, n, t :: L, h, s, hs => by
    obtain ⟨_, _, h3, h4, _, h6⟩ := h
    rcases List.mem_cons.1 hs with rfl | hs
    · exact ⟨h3, h4⟩
    · exact h6.bl s hs
theorem segB_len (s : PSeg) : (segB s).length = 19 + (recsB s.l).length := by
  unfold segB
  rw [recsB_cons, List.length_append, recB_len, hdB_len]
theorem hdB_le (n : Nat) : (hdB n).length ≤ 1048576 := by rw [hdB_len]; omega

/-! What is read of a beginning of records. -/
theorem scanA_cut2 : ∀ (ps : List (List UInt8)) (k : Nat), (∀ p ∈ ps, p.length ≤ 1048576) → ∃ j, j ≤ ps.length ∧ (∀ i, i ≤ ps.length → ((recsB (ps.take i)).length ≤ k ↔ i ≤ j)) ∧ scanA ((recsB ps).take k) = (ps.take j, (recsB (ps.take j)).length)
  | [], k, _ => ⟨0, Nat.le_refl _, fun i hi => by simp at hi; subst hi; simp [recsB], by
      rw [show (recsB []).take k = [] by simp [recsB], scanA_er takeR_nil]; rfl⟩
  | p :: ps, k, hp => by
    have hp0 := hp p (.head _)
    by_cases hk : k < (recB p).length
    · refine ⟨0, Nat.zero_le _, fun i hi => ?_, ?_⟩
      · cases i with
        | zero => simp [recsB]
        | succ i =>
          rw [List.take_succ_cons, recsB_cons, List.length_append]
          constructor <;> intro h <;> omega
      · obtain ⟨e, he, _⟩ := takeR_cut hp0 (k := k) (by rw [← recB_len]; exact hk)
        rw [recsB_cons, List.take_append_of_le_length (by omega), scanA_er he]; rfl
    · obtain ⟨j, h1, h2, h5⟩ := scanA_cut2 ps (k - (recB p).length) (fun q hq => hp q (.tail _ hq))
      refine ⟨j + 1, by simpa using h1, fun i hi => ?_, ?_⟩
      · cases i with
        | zero => simp [recsB]
        | succ i =>
          have := h2 i (by simpa using hi)
          rw [List.take_succ_cons, recsB_cons, List.length_append]
          constructor <;> intro h <;> omega
      · have e : (recsB (p :: ps)).take k = recB p ++ (recsB ps).take (k - (recB p).length) := by
          rw [recsB_cons, List.take_append, List.take_of_length_le (by omega)]
        rw [e, scanA_ok (takeR_rec hp0), ← recB_len, List.drop_left, h5, List.take_succ_cons, recsB_cons, List.length_append]
theorem readS_seg {n : Nat} {l : List (List UInt8)} (h1 : 1 ≤ n) (h2 : n ≤ 1099511627776) (hl : ∀ p ∈ l, p.length ≤ 1048576) : readS (recsB (hdB n :: l)) = some ((n : Int), l, (recsB (hdB n :: l)).length) := by
  have := scanA_recs (hdB n :: l) [] (fun p hp => by rcases List.mem_cons.1 hp with rfl | hp; exact hdB_le n; exact hl p hp) ⟨2, takeR_nil⟩
  rw [List.append_nil] at this
  unfold readS
  rw [this]
  simp only [hdOf_hd h1 h2, Option.map_some]
/-- A beginning of a segment's bytes. -/
theorem readS_cut {n : Nat} {l : List (List UInt8)} (k : Nat) (h1 : 1 ≤ n) (h2 : n ≤ 1099511627776) (hl : ∀ p ∈ l, p.length ≤ 1048576) :
    (readS ((recsB (hdB n :: l)).take k) = none ∧ k < (recsB [hdB n]).length) ∨ ∃ j, j ≤ l.length ∧ (∀ i, i ≤ l.length → ((recsB (hdB n :: l.take i)).length ≤ k ↔ i ≤ j)) ∧ readS ((recsB (hdB n :: l)).take k) = some ((n : Int), l.take j, (recsB (hdB n :: l.take j)).length) := by
  obtain ⟨j, h3, h4, h5⟩ := scanA_cut2 (hdB n :: l) k (fun p hp => by rcases List.mem_cons.1 hp with rfl | hp; exact hdB_le n; exact hl p hp)
  cases j with
  | zero =>
    left
    unfold readS
    rw [h5]
    refine ⟨rfl, ?_⟩
    have := h4 1 (by simp)
    rw [List.take_succ_cons, List.take_zero] at this
    omega
  | succ j =>
    right
    refine ⟨j, by simpa using h3, fun i hi => ?_, ?_⟩
    · have := h4 (i + 1) (by simpa using hi)
      rw [List.take_succ_cons] at this
      omega
    · unfold readS
      rw [h5, List.take_succ_cons]
      simp only [hdOf_hd h1 h2, Option.map_some]
end Go.Proofs.YtmcglicbolhmfaaGreat
namespace Go.Proofs.YtmcglicbolhmfaaGreat
set_option linter.unusedVariables false
open Go.RowKit

theorem loadG_seg {R : List PF} {L0 : List PSeg} {f n : Int} {s : PSeg} {last : Bool} {x : PF} (hx : getK PF.id R f = some x) (hb : x.b = segB s) (h1 : s.file = f) (h2 : s.first = n) (h3 : s.size = (segB s).length) (h4 : ∀ p ∈ s.l, p.length ≤ 1048576)
    (n1 : 1 ≤ n) (n2 : n + s.l.length ≤ 1099511627776) (hl : last = false → s.l ≠ []) (h0 : L0 = [] ∨ headG L0 + 1 = n) : loadG L0 R f last = ((true, true), L0 ++ [s]) := by
  unfold loadG
  rw [hx]
  simp only [Option.map_some, Option.getD_some, hb]
  have hr : readS (segB s) = some (s.first, s.l, (segB s).length) := by
    have := readS_seg (n := s.first.toNat) (l := s.l) (by omega) (by omega) h4
    unfold segB
    rw [this]
    congr 2; omega
  rw [hr]
  have hs : (⟨f, s.first, (segB s).length, s.l⟩ : PSeg) = s := by
    obtain ⟨a, b, c, d⟩ := s
    simp only at h1 h3
    simp [← h1, ← h3]
  simp only
  rw [if_neg, hs]
  rintro (⟨e1, e2⟩ | ⟨e1, e2⟩ | e)
  · rcases e2 with e2 | e2
    · exact e2 rfl
    · exact hl e1 (List.eq_nil_of_length_eq_zero e2)
  · rcases h0 with rfl | h0
    · simp at e1
    · omega
  · omega
def gapG (prev : Option Int) (f : Int) : Bool := match prev with
  | none => false
  | some g => decide (f ≠ g + 1)
theorem loadsG_cons (R : List PF) (f : Int) (r : List Int) (prev : Option Int) (L : List PSeg) (wh : Bool) : loadsG R (f :: r) prev L wh =
    if (loadG L R f r.isEmpty).1.2 = false then none else if gapG prev f = true then none else loadsG R r (some f) (loadG L R f r.isEmpty).2 (loadG L R f r.isEmpty).1.1 := rfl
theorem loads_chain (R : List PF) : ∀ (r : List PSeg) (f n : Int) (L0 : List PSeg) (prev : Option Int) (ids : List Int) (wh : Bool), Chain f n r → (∀ s ∈ r, ∃ x, getK PF.id R s.file = some x ∧ x.b = segB s) → (L0 = [] ∨ headG L0 + 1 = n) → (prev = none ∨ prev = some (f - 1)) → 1 ≤ n → n + (entsG r).length ≤ 1099511627776 → (ids ≠ [] → ∀ s ∈ r, s.l ≠ []) →
    loadsG R (r.map PSeg.file ++ ids) prev L0 wh = loadsG R ids (if r = [] then prev else some (f + r.length - 1)) (L0 ++ r) (if r = [] then wh else true)
  | [], f, n, L0, prev, ids, wh, _, _, _, _, _, _, _ => by simp
  | s :: r, f, n, L0, prev, ids, wh, hc, hg, h0, hp, n1, n2, hi => by
    obtain ⟨h1, h2, h3, h4, h5, h6⟩ := hc
    obtain ⟨x, hx, hb⟩ := hg s (.head _)
    rw [entsG_cons, List.length_append] at n2
    have hld : loadG L0 R s.file (r.map PSeg.file ++ ids).isEmpty = ((true, true), L0 ++ [s]) := by
      refine loadG_seg hx hb rfl h2 h3 h4 n1 (by omega) (fun hl => ?_) h0
      by_cases hr : r = []
      · subst hr
        refine hi (fun e => ?_) s (.head _)
        subst e; simp at hl
      · exact h5 hr
    rw [List.map_cons, List.cons_append, loadsG_cons]
    simp only [hld]
    rw [if_neg (by simp), if_neg ?_]
    · rw [loads_chain R r (f + 1) (n + s.l.length) (L0 ++ [s]) (some s.file) ids true h6 (fun t ht => hg t (.tail _ ht)) (.inr ?_) (.inr (by rw [h1]; congr 1; omega)) (by omega) (by omega) (fun hd t ht => hi hd t (.tail _ ht))]
      · rw [if_neg (by simp : ¬ (s :: r = [])), if_neg (by simp : ¬ (s :: r = [])), List.append_assoc]
        by_cases hr : r = []
        · subst hr; simp [h1]
        · rw [if_neg hr, if_neg hr]
          congr 2
          simp; omega
      · unfold headG
        rw [List.getLast?_concat]
        simp only [PSeg.next]; omega
    · rcases hp with rfl | rfl
      · simp [gapG]
      · simp [gapG, h1]
theorem idsG_con {R : List PF} {f base : Int} (h : Con f R) (h1 : base ≤ f) (h2 : f + R.length ≤ base + 4096) : idsG base R = R.map PF.id := by
  unfold idsG
  rw [List.filter_eq_self]
  intro a ha
  obtain ⟨x, hx, rfl⟩ := List.mem_map.1 ha
  have := h.mem hx
  simp only [decide_eq_true_eq]; omega
theorem get_chain {f n : Int} {L : List PSeg} {R : List PF} (hR : Con f R) (hs : ∀ s ∈ L, segF s ∈ R) : ∀ s ∈ L, ∃ x, getK PF.id R s.file = some x ∧ x.b = segB s := fun s h => ⟨segF s, getK_of hR.sorted (hs s h), rfl⟩
theorem map_file (L : List PSeg) : (L.map segF).map PF.id = L.map PSeg.file := by rw [List.map_map]; rfl
/-- Nothing was left on the way. -/
theorem open_chain {d : DS} {L : List PSeg} {f n base size : Int} (hc : Chain f n L) (hR : d.R = L.map segF) (hoff : d.off = false) (b0 : 0 ≤ base) (b1 : base ≤ 12288) (s0 : 64 ≤ size) (s1 : size ≤ 65536) (hf : base ≤ f) (hf2 : f + L.length ≤ base + 4096)
    (n1 : 1 ≤ n) (n2 : n + (entsG L).length ≤ 1099511627776) : openG d base size = (d, .ok ⟨L, base, size, none⟩) := by
  have hcon := hc.con
  have hids : idsG base d.R = L.map PSeg.file := by
    rw [hR, idsG_con hcon hf (by rw [List.length_map]; exact hf2), map_file]
  have hl := loads_chain d.R L f n [] none [] true hc (get_chain (f := f) (n := n) (by rw [hR]; exact hcon) (fun s hs => by rw [hR]; exact List.mem_map.2 ⟨s, hs, rfl⟩)) (.inl rfl) (.inl rfl) n1 n2 (fun h => absurd rfl h)
  rw [List.append_nil] at hl
  unfold openG
  rw [if_neg (by omega), if_neg (by simp [hoff]), hids, hl]
  simp only [loadsG, List.nil_append]
  have hb : beginG L d (L.map PSeg.file) (if L = [] then true else true) = (d, 0) := by
    unfold beginG
    rcases List.eq_nil_or_concat L with rfl | ⟨A, s, rfl⟩
    · rfl
    · simp only [List.concat_eq_append, List.map_append, List.map_cons, List.map_nil, List.getLast?_concat]
      rw [if_neg (by simp), if_neg]
      have hsz := (hc.bl s (by simp)).1
      have : getK PF.id d.R s.file = some (segF s) := by
        rw [hR]
        exact getK_of (x := segF s) hcon.sorted (by simp)
      unfold lenF lastSize
      rw [this, List.getLast?_concat]
      simp only [segF, hsz]; omega
  rw [hb]
  simp
/-- The last file was left as a beginning of what it should have had. -/
theorem open_tail {d : DS} {A : List PSeg} {l : List (List UInt8)} {f n base size : Int} {k : Nat} {x : PF} (hc : Chain f n A) (hA : ∀ s ∈ A, s.l ≠ []) (hl : ∀ p ∈ l, p.length ≤ 1048576) (hR : d.R = A.map segF ++ [x]) (hid : x.id = f + A.length) (hsafe : x.safe = x.b.length)
    (hb : x.b = (recsB (hdB (n + (entsG A).length).toNat :: l)).take k) (hoff : d.off = false) (harm : d.arm = 0) (b0 : 0 ≤ base) (b1 : base ≤ 12288) (s0 : 64 ≤ size) (s1 : size ≤ 65536) (hf : base ≤ f) (hf2 : f + A.length + 1 ≤ base + 4096)
    (n1 : 1 ≤ n) (n2 : n + (entsG A).length + l.length ≤ 1099511627776) :
    ∃ L j d', j ≤ l.length ∧ (∀ i, i ≤ l.length → (recsB (hdB (n + (entsG A).length).toNat :: l.take i)).length ≤ k → i ≤ j) ∧ (∀ i, i ≤ l.length → k < (recsB (hdB (n + (entsG A).length).toNat :: l.take i)).length → j < i ∨ j = 0) ∧
      openG d base size = (d', .ok ⟨L, base, size, none⟩) ∧ Chain f n L ∧ entsG L = entsG A ++ l.take j ∧ d'.R = L.map segF ∧ d'.off = false ∧ d'.arm = 0 ∧ d'.ops ≤ d.ops + 1 ∧ L.length ≤ A.length + 1 ∧ A.length ≤ L.length ∧ (A = [] → j = 0 → L = [] ∨ (L.length = 1 ∧ (recsB [hdB (n + (entsG A).length).toNat]).length ≤ k)) := by
  have hcon : Con f d.R := by rw [hR]; exact hc.con.snoc (by simpa using hid)
  have hsrt := hcon.sorted
  have hids : idsG base d.R = A.map PSeg.file ++ [x.id] := by
    rw [idsG_con hcon hf (by rw [hR]; simp; omega), hR, List.map_append, map_file]; rfl
  have hld := loads_chain d.R A f n [] none [x.id] true hc (get_chain (f := f) (n := n) hcon (fun s hs => by rw [hR]; exact List.mem_append_left _ (List.mem_map.2 ⟨s, hs, rfl⟩))) (.inl rfl) (.inl rfl) n1 (by omega) (fun _ => hA)
  have hget : getK PF.id d.R x.id = some x := by
    have := hsrt
    rw [hR] at this ⊢; exact get_end this
  have hprev : ∀ b : Bool, gapG (if A = [] then (none : Option Int) else some (f + A.length - 1)) x.id = false := by
    intro _
    unfold gapG
    split
    · rfl
    · rename_i g hg
      split at hg
      · cases hg
      · cases hg
        simp; omega
  have hdel : delK PF.id d.R x.id = A.map segF := by
    have := hsrt
    rw [hR] at this ⊢; exact del_end this
  have hmay : may d x.id = 0 := by
    unfold may
    rw [if_neg (by simp [hoff]), if_neg (by omega)]
  have hisk : isK PF.id d.R x.id = true := by
    have := hsrt
    rw [hR] at this ⊢; exact is_end this
  have hfind : d.find x.id = 0 := by
    unfold DS.find
    rw [if_neg (by simp [hmay]), if_pos hisk]
  have hcoff : d.cnt.off = false := by simp [DS.cnt, harm]
  have hcarm : d.cnt.arm = 0 := by simp [DS.cnt, harm]
  have hh : A ≠ [] → headG ([] ++ A) + 1 = n + (entsG A).length := fun h => by rw [List.nil_append, hc.head h]; omega
  have hnn : ((n + (entsG A).length).toNat : Int) = n + (entsG A).length := by omega
  have hbound : ¬ (base < 0 ∨ 12288 < base ∨ size < 64 ∨ 65536 < size) := by omega
  rcases readS_cut (n := (n + (entsG A).length).toNat) (l := l) k (by omega) (by omega) hl with ⟨h1, h2⟩ | ⟨j, h1, h2, h3⟩
  · have hload : loadG ([] ++ A) d.R x.id true = ((false, true), A) := by
      unfold loadG
      rw [hget]
      simp only [Option.map_some, Option.getD_some, hb, h1]
      rfl
    have hlast : loadsG d.R [x.id] (if A = [] then none else some (f + A.length - 1)) ([] ++ A) (if A = [] then true else true) = some (A, false) := by
      rw [loadsG_cons]
      simp only [List.isEmpty_nil, hload]
      rw [hprev true]
      rfl
    rw [hlast] at hld
    refine ⟨A, 0, { d.cnt with R := A.map segF }, Nat.zero_le _, fun i hi hk => ?_, fun i _ _ => .inr rfl, ?_, hc, by simp, rfl, hcoff, hcarm, by simp [DS.cnt], by omega, Nat.le_refl _, fun h _ => .inl h⟩
    · rw [recsB_cons, List.length_append] at hk
      rw [recsB_cons, List.length_append] at h2
      have : (recsB []).length = 0 := rfl
      omega
    · have hbeg : beginG A d (A.map PSeg.file ++ [x.id]) false = ({ d.cnt with R := A.map segF }, 0) := by
        unfold beginG
        rw [List.getLast?_concat]
        simp only [if_true, DS.remove]
        rw [if_neg (by simp [hfind]), if_neg (by simp [hcoff]), hdel]
      unfold openG
      rw [if_neg hbound, if_neg (by simp [hoff]), hids, hld]
      simp only [hbeg]
      rfl
  · let s : PSeg := ⟨x.id, n + (entsG A).length, (recsB (hdB (n + (entsG A).length).toNat :: l.take j)).length, l.take j⟩
    have hload : loadG ([] ++ A) d.R x.id true = ((true, true), A ++ [s]) := by
      unfold loadG
      rw [hget]
      simp only [Option.map_some, Option.getD_some, hb, h3]
      rw [if_neg, hnn]
      · rfl
      · rintro (⟨e1, e2⟩ | ⟨e1, e2⟩ | e)
        · cases e1
        · by_cases hA0 : A = []
          · subst hA0; simp at e1
          · have := hh hA0; omega
        · rw [List.length_take] at e; omega
    have hlast : loadsG d.R [x.id] (if A = [] then none else some (f + A.length - 1)) ([] ++ A) (if A = [] then true else true) = some (A ++ [s], true) := by
      rw [loadsG_cons]
      simp only [List.isEmpty_nil, hload]
      rw [hprev true]
      rfl
    rw [hlast] at hld
    have hsB : segB s = recsB (hdB (n + (entsG A).length).toNat :: l.take j) := rfl
    have hcs : Chain f n (A ++ [s]) := Chain.app.2 ⟨hc, fun _ => hA, hid, rfl, rfl, fun p hp => hl p (List.mem_of_mem_take hp), fun h => absurd rfl h, trivial⟩
    have hsz : lastSize (A ++ [s]) = (segB s).length := by unfold lastSize; rw [List.getLast?_concat]; rfl
    have hk0 : (segB s).length ≤ k := by
      have := (h2 j h1).2 (Nat.le_refl _)
      rw [hsB]; exact this
    have htk : (recsB (hdB (n + (entsG A).length).toNat :: l)).take (segB s).length = segB s := by
      have : recsB (hdB (n + (entsG A).length).toNat :: l) = segB s ++ recsB (l.drop j) := by
        rw [hsB, recsB_cons, recsB_cons, List.append_assoc, ← recsB_app, List.take_append_drop]
      rw [this, List.take_left]
    have hlen : (segB s).length ≤ (recsB (hdB (n + (entsG A).length).toNat :: l)).length := by
      rw [← htk, List.length_take]; omega
    have hxl : (segB s).length ≤ x.b.length := by rw [hb, List.length_take]; omega
    have hxt : x.b.take (segB s).length = segB s := by rw [hb, List.take_take, Nat.min_eq_left hk0, htk]
    have hlenF : lenF d.R x.id = x.b.length := by unfold lenF; rw [hget]
    have hres : ∃ d', beginG (A ++ [s]) d (A.map PSeg.file ++ [x.id]) true = (d', 0) ∧ d'.R = (A ++ [s]).map segF ∧ d'.off = false ∧ d'.arm = 0 ∧ d'.ops ≤ d.ops + 1 := by
      unfold beginG
      rw [List.getLast?_concat]
      simp only [hlenF, hsz]
      rw [if_neg (by simp)]
      by_cases hlt : ((segB s).length : Int) < x.b.length
      · rw [if_pos hlt]
        unfold DS.cut
        rw [if_neg (by simp [hfind]), if_neg (by rw [hlenF]; omega), if_neg (by simp [hcoff])]
        refine ⟨_, rfl, ?_, hcoff, hcarm, by simp [DS.cnt]⟩
        show updF d.R x.id (cutF (((segB s).length : Nat) : Int).toNat) = _
        rw [hR, upd_end (by rw [← hR]; exact hsrt), Int.toNat_natCast, List.map_append]
        congr 1
        simp only [cutF, hxt, hsafe, List.map_cons, List.map_nil, segF]
        rw [Nat.min_eq_right hxl]
      · rw [if_neg hlt]
        refine ⟨d, rfl, ?_, hoff, harm, by omega⟩
        rw [hR, List.map_append]
        congr 1
        have : x.b = segB s := by rw [← hxt, List.take_of_length_le (by omega)]
        obtain ⟨xi, xs, xb⟩ := x
        simp only at this hsafe
        simp only [List.map_cons, List.map_nil, segF]
        rw [hsafe, this]
    obtain ⟨d', hbeg, r1, r2, r3, r4⟩ := hres
    refine ⟨A ++ [s], j, d', h1, fun i hi hk => (h2 i hi).1 hk, fun i hi hk => .inl ?_, ?_, hcs, by rw [entsG_app]; simp [entsG, s], r1, r2, r3, r4, by simp, by simp, fun h _ => .inr ⟨by simp [h], ?_⟩⟩
    · rcases Nat.lt_or_ge j i with h | h
      · exact h
      · have := (h2 i hi).2 h; omega
    · unfold openG
      rw [if_neg hbound, if_neg (by simp [hoff]), hids, hld]
      simp only [hbeg]
      rfl
    · have := (h2 0 (Nat.zero_le _)).2 (Nat.zero_le _)
      rwa [List.take_zero] at this
end Go.Proofs.YtmcglicbolhmfaaGreat
namespace Go.Proofs.YtmcglicbolhmfaaGreat
set_option linter.unusedVariables false
open Go.RowKit

theorem Chain.len_le : ∀ {f n : Int} {L : List PSeg}, Chain f n L → L.length ≤ (entsG L).length + 1
  | f, n, [], _ => by simp
  | f, n, [s], _ => by simp
  | f, n, s :: t :: L, h => by
    obtain ⟨_, _, _, _, h5, h6⟩ := h
    have := h6.len_le
    have h0 : s.l.length ≠ 0 := fun e => h5 (by simp) (List.eq_nil_of_length_eq_zero e)
    rw [entsG_cons, List.length_append, List.length_cons]
    omega
/-- The log's files are just its segments. -/
structure LInv (g : PLog) (d : DS) (f n : Int) (es : List (List UInt8)) : Prop where
  chain : Chain f n g.segs
  ents : entsG g.segs = es
  files : d.R = g.segs.map segF
  nil : g.segs = [] → f = g.base ∧ n = 1
  base : g.base ≤ f
  b0 : 0 ≤ g.base
  b1 : g.base ≤ 12288
  s0 : 64 ≤ g.size
  s1 : g.size ≤ 65536
  n1 : 1 ≤ n
  fi : f + es.length + 2 ≤ g.base + 4096
  off : d.off = false
  torn : g.torn = none
theorem LInv.head {g : PLog} {d : DS} {f n : Int} {es : List (List UInt8)} (h : LInv g d f n es) : headG g.segs = n + es.length - 1 := by
  by_cases hL : g.segs = []
  · have := h.nil hL
    have e := h.ents
    rw [hL] at e ⊢
    rw [← e, this.2]; rfl
  · rw [h.chain.head hL, h.ents]
theorem LInv.segOk {g : PLog} {d : DS} {f n : Int} {es : List (List UInt8)} (h : LInv g d f n es) (hn : n + es.length ≤ 100000) (hl : es.length ≤ 60) (hb : ∀ p ∈ es, p.length ≤ 1000) : g.Ok 1000000 := by
  have hle := h.chain.len_le
  rw [h.ents] at hle
  have hb0 := h.b0
  have hb1 := h.b1
  have hfi := h.fi
  have hbs := h.base
  have hn1 := h.n1
  refine ⟨fun s hs => ?_, h.b0, h.b1, h.s0, h.s1, by omega⟩
  obtain ⟨A, B, e⟩ := List.append_of_mem hs
  have hc := h.chain
  rw [e] at hc
  obtain ⟨h1, h2, h3⟩ := Chain.app.1 hc
  obtain ⟨c1, c2, c3, c4, c5, c6⟩ := h3
  have hes : es = entsG A ++ (s.l ++ entsG B) := by rw [← h.ents, e, entsG_app, entsG_cons]
  have hll : (entsG A).length + (s.l.length + (entsG B).length) = es.length := by rw [hes, List.length_append, List.length_append]
  have hAl : A.length ≤ (entsG A).length + 1 := h1.len_le
  have hrec : ∀ l : List (List UInt8), (∀ p ∈ l, p.length ≤ 1000) → (recsB l).length ≤ l.length * 1008 := by
    intro l
    induction l with
    | nil => intro _; simp [recsB]
    | cons p l ih =>
      intro hp
      have h1 := ih fun q hq => hp q (.tail _ hq)
      have h2 := hp p (.head _)
      rw [recsB_cons, List.length_append, recB_len, List.length_cons]; omega
  have hr := hrec s.l fun p hp => hb p (by rw [hes]; simp [hp])
  have hsz := segB_len s
  refine ⟨by omega, by omega, by omega, by omega, by omega, by omega, fun b hbm => ?_⟩
  have := hb b (by rw [hes]; simp [hbm])
  omega
/-- What a write would be, where there is room. -/
structure PlanR (g : PLog) (f n : Int) (es : List (List UInt8)) (p : List UInt8) (x : PWr) (A : List PSeg) (l0 : List (List UInt8)) (pre : List UInt8) : Prop where
  chain : Chain f n A
  full : ∀ s ∈ A, s.l ≠ []
  file : x.file = f + A.length
  ents : entsG A ++ l0 = es
  bl : ∀ q ∈ l0, q.length ≤ 1048576
  all : pre ++ x.b = recsB (hdB (n + (entsG A).length).toNat :: (l0 ++ [p]))
  preq : l0 = [] ∨ pre = recsB (hdB (n + (entsG A).length).toNat :: l0)
  app : ∀ t, appF (g.segs.map segF) x.file t = A.map segF ++ [⟨x.file, pre.length, pre ++ t⟩]
  put : Chain f n (putG g.segs x p)
  putE : entsG (putG g.segs x p) = es ++ [p]
  putF : (putG g.segs x p).map segF = A.map segF ++ [⟨x.file, (pre ++ x.b).length, pre ++ x.b⟩]
  putN : putG g.segs x p ≠ []
  putA : ∀ s ∈ putG g.segs x p, s.l ≠ []
  pos : 0 < x.b.length
  len : x.b.length ≤ 27 + p.length
  fresh : x.fresh = true → g.segs = A ∧ pre = []
  old : x.fresh = false → g.segs.map segF = A.map segF ++ [⟨x.file, pre.length, pre⟩] ∧ lastSize g.segs = pre.length
theorem plan_ok {g : PLog} {d : DS} {f n : Int} {es : List (List UInt8)} (h : LInv g d f n es) {p : List UInt8} (hp : p.length ≤ 1048576) (hn : n + es.length ≤ 100000) : ∃ x A l0 pre, planG g false p = .ok x ∧ PlanR g f n es p x A l0 pre := by
  have hh := h.head
  have hc := h.chain
  have hle := hc.len_le
  rw [h.ents] at hle
  have hfi := h.fi
  have hn1 := h.n1
  have hsrt := hc.con.sorted
  have hfresh : ∀ F : Int, F = f + g.segs.length → (∀ s ∈ g.segs, s.l ≠ []) → ∃ x A l0 pre, freshG g F p = .ok x ∧ PlanR g f n es p x A l0 pre := by
    intro F hF hfull
    have e1 : (headG g.segs + 1).toNat = (n + (entsG g.segs).length).toNat := by rw [hh, h.ents]; congr 1; omega
    have hput : putG g.segs ⟨F, true, recB (hdB (headG g.segs + 1).toNat) ++ recB p⟩ p = g.segs ++ [⟨F, headG g.segs + 1, (recB (hdB (headG g.segs + 1).toNat) ++ recB p).length, [p]⟩] := by
      unfold putG
      simp
    have hall : recB (hdB (headG g.segs + 1).toNat) ++ recB p = recsB (hdB (n + (entsG g.segs).length).toNat :: [p]) := by rw [e1, recsB_cons, recsB_cons]; simp [recsB]
    refine ⟨⟨F, true, recB (hdB (headG g.segs + 1).toNat) ++ recB p⟩, g.segs, [], [], ?_, hc, hfull, hF, by rw [List.append_nil]; exact h.ents, by simp, ?_, .inl rfl, fun t => ?_, ?_, ?_, ?_, ?_, ?_, ?_, ?_, fun _ => ⟨rfl, rfl⟩, fun e => by cases e⟩
    · unfold freshG
      rw [if_neg (by omega)]
    · exact hall
    · refine app_new hsrt (fun y hy => ?_) t
      have := hc.con.mem hy
      rw [List.length_map] at this
      show y.id < F
      omega
    · rw [hput]
      refine Chain.app.2 ⟨hc, fun _ => hfull, hF, ?_, ?_, by simpa using hp, fun h => absurd rfl h, trivial⟩
      · show headG g.segs + 1 = _
        rw [hh, h.ents]; omega
      · show (recB (hdB (headG g.segs + 1).toNat) ++ recB p).length = (segB _).length
        unfold segB
        rw [hall, e1]
    · rw [hput, entsG_app, h.ents]; simp [entsG]
    · rw [hput, List.map_append, List.nil_append]
      congr 1
      simp only [List.map_cons, List.map_nil, segF, segB]
      rw [hall, e1]
    · rw [hput]; simp
    · rw [hput]
      intro s hs
      rcases List.mem_append.1 hs with hs | hs
      · exact hfull s hs
      · rw [List.mem_singleton.1 hs]; simp
    · show 0 < (recB (hdB (headG g.segs + 1).toNat) ++ recB p).length
      rw [List.length_append, recB_len]; omega
    · show (recB (hdB (headG g.segs + 1).toNat) ++ recB p).length ≤ _
      rw [List.length_append, recB_len, recB_len, hdB_len]; omega
  unfold planG
  rw [if_neg (by omega), if_neg (by simp), if_neg (by omega)]
  rcases List.eq_nil_or_concat g.segs with hL | ⟨A, s, hL⟩
  · have hnil := h.nil hL
    rw [hL]
    simp only [List.getLast?_nil]
    exact hfresh g.base (by rw [hL]; simp; omega) (by rw [hL]; simp)
  · rw [List.concat_eq_append] at hL
    have hLg : g.segs.getLast? = some s := by rw [hL, List.getLast?_concat]
    rw [hLg]
    simp only
    rw [hL] at hc
    obtain ⟨h1, h2, c1, c2, c3, c4, c5, c6⟩ := Chain.app.1 hc
    have hfA := h2 (by simp)
    by_cases hcond : s.l.length = 0 ∨ (s.size : Int) + (recB p).length ≤ g.size
    · rw [if_pos hcond]
      have hput : putG g.segs ⟨s.file, false, recB p⟩ p = A ++ [{ s with size := s.size + (recB p).length, l := s.l ++ [p] }] := by
        unfold putG
        rw [if_neg (by simp)]
        simp only [hL, List.dropLast_concat, List.getLast?_concat]
        rfl
      have hall : segB s ++ recB p = recsB (hdB (n + (entsG A).length).toNat :: (s.l ++ [p])) := by
        unfold segB
        rw [c2, ← List.cons_append, recsB_snoc]
      have hB2 : segB { s with size := s.size + (recB p).length, l := s.l ++ [p] } = segB s ++ recB p := by
        unfold segB
        rw [← List.cons_append, recsB_snoc]
      refine ⟨⟨s.file, false, recB p⟩, A, s.l, segB s, rfl, h1, hfA, c1, ?_, c4, hall, .inr (by unfold segB; rw [c2]), fun t => ?_, ?_, ?_, ?_, ?_, ?_, ?_, ?_, fun e => (by cases e), fun _ => ⟨?_, ?_⟩⟩
      · rw [← h.ents, hL, entsG_app]; simp [entsG]
      · rw [hL, List.map_append] at hsrt ⊢
        exact app_end (x := segF s) hsrt t
      · rw [hput]
        refine Chain.app.2 ⟨h1, fun _ => hfA, c1, c2, ?_, fun q hq => ?_, fun h => absurd rfl h, trivial⟩
        · rw [hB2, List.length_append, ← c3]
        · rcases List.mem_append.1 hq with hq | hq
          · exact c4 q hq
          · rw [List.mem_singleton.1 hq]; exact hp
      · rw [hput, entsG_app, ← h.ents, hL, entsG_app]; simp [entsG]
      · rw [hput, List.map_append]
        simp only [List.map_cons, List.map_nil, segF, hB2]
      · rw [hput]; simp
      · rw [hput]
        intro t ht
        rcases List.mem_append.1 ht with ht | ht
        · exact hfA t ht
        · rw [List.mem_singleton.1 ht]; simp
      · show 0 < (recB p).length
        rw [recB_len]; omega
      · show (recB p).length ≤ _
        rw [recB_len]; omega
      · rw [hL, List.map_append]; rfl
      · unfold lastSize; rw [hL, List.getLast?_concat]; show ((s.size : Nat) : Int) = _; rw [c3]
    · rw [if_neg hcond]
      refine hfresh (s.file + 1) (by rw [hL, c1]; simp; omega) (by
        intro t ht
        rw [hL] at ht
        rcases List.mem_append.1 ht with ht | ht
        · exact hfA t ht
        · rw [List.mem_singleton.1 ht]
          intro e
          exact hcond (.inl (by rw [e]; rfl)))
/-- The last file has something more, or less, than the log knows. -/
def Torn (d : DS) (f n : Int) (es : List (List UInt8)) (p : List UInt8) (whole : Bool) : Prop := ∃ A l0 pre k,
  Chain f n A ∧ (∀ s ∈ A, s.l ≠ []) ∧ entsG A ++ l0 = es ∧ (∀ q ∈ l0 ++ [p], q.length ≤ 1048576) ∧ (l0 = [] ∨ pre = (recsB (hdB (n + (entsG A).length).toNat :: l0)).length) ∧ pre ≤ k ∧ k ≤ (recsB (hdB (n + (entsG A).length).toNat :: (l0 ++ [p]))).length ∧
  (whole = false → k < (recsB (hdB (n + (entsG A).length).toNat :: (l0 ++ [p]))).length) ∧ d.R = A.map segF ++ [⟨f + A.length, pre, (recsB (hdB (n + (entsG A).length).toNat :: (l0 ++ [p]))).take k⟩]
theorem PlanR.torn {g : PLog} {f n : Int} {es : List (List UInt8)} {p : List UInt8} {x : PWr} {A : List PSeg} {l0 : List (List UInt8)} {pre : List UInt8} (h : PlanR g f n es p x A l0 pre) (hp : p.length ≤ 1048576) {d : DS} {m : Nat} {whole : Bool} (hm : m ≤ x.b.length) (hw : whole = false → m < x.b.length)
    (hR : d.R = appF (g.segs.map segF) x.file (x.b.take m)) : Torn d f n es p whole := by
  have hall := h.all
  have hl : (recsB (hdB (n + (entsG A).length).toNat :: (l0 ++ [p]))).length = pre.length + x.b.length := by rw [← hall, List.length_append]
  refine ⟨A, l0, pre.length, pre.length + m, h.chain, h.full, h.ents, fun q hq => ?_, ?_, by omega, by omega, fun e => by have := hw e; omega, ?_⟩
  · rcases List.mem_append.1 hq with hq | hq
    · exact h.bl q hq
    · rw [List.mem_singleton.1 hq]; exact hp
  · rcases h.preq with h1 | h1
    · exact .inl h1
    · exact .inr (by rw [h1])
  · rw [hR, h.app, ← hall, List.take_length_add_append, h.file]
theorem crashR_app (A B : List PF) (keep : List Int) : ∀ hA : (∀ x ∈ A, x.safe = x.b.length), crashR (A ++ B) keep = A ++ B.mapIdx fun i => crF keep (A.length + i) := by
  intro hA
  unfold crashR
  rw [List.mapIdx_append]
  congr 1
  · refine List.ext_getElem (by simp) fun i h1 h2 => ?_
    rw [List.getElem_mapIdx]
    have hx := hA A[i] (List.getElem_mem h2)
    have hm : moreF keep i A[i] = 0 := by
      have := moreF_le (keep := keep) (i := i) (x := A[i]) (by omega)
      omega
    unfold crF
    rw [hm, hx, Nat.add_zero, Nat.min_self, List.take_length, ← hx]
  · congr 1
    funext i
    rw [Nat.add_comm]
theorem segF_safe (A : List PSeg) : ∀ x ∈ A.map segF, x.safe = x.b.length := fun x hx => by
  obtain ⟨s, _, rfl⟩ := List.mem_map.1 hx; rfl
theorem crash_chain {L : List PSeg} (keep : List Int) : crashR (L.map segF) keep = L.map segF := by
  have := crashR_app (L.map segF) [] keep (segF_safe L)
  simpa using this
/-- Behind a crash, opened anew: what was there, and at most the entry that was on the way. -/
theorem torn_open {d : DS} {f n : Int} {es : List (List UInt8)} {p : List UInt8} {whole : Bool} (h : Torn d f n es p whole) (keep : List Int) {base size : Int} (b0 : 0 ≤ base) (b1 : base ≤ 12288) (s0 : 64 ≤ size) (s1 : size ≤ 65536) (hf : base ≤ f) (hf2 : f + es.length + 4 ≤ base + 4096)
    (n1 : 1 ≤ n) (n2 : n + es.length + 1 ≤ 100000) (hn : f = base ∧ n = 1) :
    ∃ g d' es', openG (d.crash keep) base size = (d', .ok g) ∧ LInv g d' f n es' ∧ d'.arm = 0 ∧ d'.ops ≤ d.ops + 1 ∧ g.base = base ∧ g.size = size ∧ (es' = es ∨ (whole = true ∧ es' = es ++ [p])) := by
  obtain ⟨A, l0, pre, k, hA, hfull, hents, hbl, hpre, hk1, hk2, hw, hR⟩ := h
  have hAl := hA.len_le
  have hl : (entsG A).length + l0.length = es.length := by rw [← hents, List.length_append]
  let T := recsB (hdB (n + (entsG A).length).toNat :: (l0 ++ [p]))
  have hTk : (T.take k).length = k := by rw [List.length_take]; exact Nat.min_eq_left hk2
  let y := crF keep (A.map segF).length ⟨f + A.length, pre, T.take k⟩
  have hcr : (d.crash keep).R = A.map segF ++ [y] := by
    show crashR d.R keep = _
    rw [hR, crashR_app _ _ _ (segF_safe A)]
    rfl
  have hsafe : pre ≤ (T.take k).length := by rw [hTk]; exact hk1
  have hy1 : y.b.length = pre + moreF keep (A.map segF).length ⟨f + A.length, pre, T.take k⟩ := crF_b (x := ⟨f + A.length, pre, T.take k⟩) hsafe
  have hy2 : y.safe = pre + moreF keep (A.map segF).length ⟨f + A.length, pre, T.take k⟩ := crF_safe (x := ⟨f + A.length, pre, T.take k⟩) hsafe
  have hml : pre + moreF keep (A.map segF).length ⟨f + A.length, pre, T.take k⟩ ≤ k := by
    have := moreF_le (keep := keep) (i := (A.map segF).length) (x := ⟨f + A.length, pre, T.take k⟩) hsafe
    simpa [hTk] using this
  have hyb : y.b = T.take (pre + moreF keep (A.map segF).length ⟨f + A.length, pre, T.take k⟩) := by
    show (T.take k).take _ = _
    rw [List.take_take, Nat.min_eq_left hml]
  generalize hm : pre + moreF keep (A.map segF).length ⟨f + A.length, pre, T.take k⟩ = m at *
  obtain ⟨L, j, d', j1, j2, j3, ho, hc, he, hR', ho', ha', hops, _, _, _⟩ := open_tail (d := d.crash keep) (A := A) (l := l0 ++ [p]) (f := f) (n := n) (base := base) (size := size) (k := m) (x := y) hA hfull hbl hcr rfl (by rw [hy1, hy2]) hyb rfl rfl b0 b1 s0 s1 hf (by omega) n1 (by simp; omega)
  have hj0 : l0.length ≤ j := by
    rcases hpre with rfl | hpre
    · simp
    · refine j2 l0.length (by simp) ?_
      rw [List.take_left, ← hpre]; omega
  have hj1 : j ≤ l0.length + 1 := by simpa using j1
  refine ⟨⟨L, base, size, none⟩, d', entsG L, ho, ⟨hc, rfl, hR', fun _ => hn, hf, b0, b1, s0, s1, n1, ?_, ho', rfl⟩, ha', hops, rfl, rfl, ?_⟩
  · show f + ((entsG L).length : Int) + 2 ≤ base + 4096
    rw [he, List.length_append, List.length_take]
    simp; omega
  · rw [he]
    rcases Nat.lt_or_ge l0.length j with hj | hj
    · right
      have : j = l0.length + 1 := by omega
      subst this
      refine ⟨?_, by rw [List.take_of_length_le (by simp), ← List.append_assoc, hents]⟩
      cases whole with
      | true => rfl
      | false =>
        have h1 := hw rfl
        rcases j3 (l0.length + 1) (by simp) (by rw [List.take_of_length_le (by simp)]; exact Nat.lt_of_le_of_lt hml h1) with h2 | h2 <;> omega
    · left
      have : j = l0.length := by omega
      subst this
      rw [List.take_left, hents]
end Go.Proofs.YtmcglicbolhmfaaGreat
