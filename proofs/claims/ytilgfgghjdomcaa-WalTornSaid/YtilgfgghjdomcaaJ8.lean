/-
  Texts of the proof, joined: Lib3, LawS, FldS3, Sl8, SegS, SegS2, WalS, WalS2, WalS3, WalS4, WalP, WalP2, WalP3, WalP4, WalM2, WalS5, WalS6, WalS7.
-/
import Derived.Test.YtilgfgghjdomcaaJ7
import Derived.ProofKit
import Derived.OpenShut
import Derived.SizedLaws
import Derived.Deep.Slices
import Derived.JoinedCond
import Derived.Test.YtilgfgghjdomcaaVcL
namespace Go.Proofs.Ytilgfgghjdomcaa
set_option linter.unusedVariables false
open Go.RowKit Go.ChangeShapes Go.WideShapes Go.ChangeAt

/-! ### Structs -/
def tUnit : GoT Unit := .plain 0 (fun _ => []) (fun _ => rfl) (fun _ u hu => by cases hu)

def tPair {α β : Type} (S : GoT α) (T : GoT β) : GoT (α × β) where
  n := S.n + T.n
  rd := fun w M x cs => ∃ c1 c2, cs = c1 ++ c2 ∧ S.rd w M x.1 c1 ∧ T.rd w M x.2 c2
  len := fun ⟨c1, c2, h, h1, h2⟩ => by rw [h, List.length_append, S.len h1, T.len h2]
  one := fun ⟨c1, c2, h, h1, h2⟩ u hu => by
    subst h
    rcases List.mem_append.1 hu with hu | hu
    · exact S.one h1 u hu
    · exact T.one h2 u hu
  keep := fun ⟨c1, c2, h, h1, h2⟩ hf hM => ⟨c1, c2, h, S.keep h1 hf hM, T.keep h2 hf hM⟩

def GoT.via {α β : Type} (T : GoT α) (f : β → α) : GoT β where
  n := T.n
  rd := fun w M y cs => T.rd w M (f y) cs
  len := fun h => T.len h
  one := fun h => T.one h
  keep := fun h => T.keep h

/-! ### Arguments, opened by descriptors -/
def Small {H : Type} (P : Program) (t : TypeId) (d : DataW H) : Prop := (d.weights P t).all (· ≤ reachBytes) = true

def Opens {α : Type} (P : Program) (t : TypeId) (T : GoT α) (ok : α → Prop) : Prop :=
  P.cellsOf t = T.n ∧ ∀ {H : Type} (enc : TypeId × Value → H) (w : World) (sp : Nat → Bool) (hd : Bool) (fuel : Nat) (cs : List Value) (x : DataW H × List MemPlace),
    DataW.trod enc P w 0 sp hd fuel t cs = some x → Small P t x.1 → ∃ a, T.rd w Nob a cs ∧ ok a

def inK (k : IntKind) (n : Int) : Prop := (Lit.int k n).wf = true
theorem inK_i64 {n : Int} (h : inK .i64 n) : -9223372036854775808 ≤ n ∧ n ≤ 9223372036854775807 := by
  simpa [inK, Lit.wf, IntKind.min, IntKind.max, IntKind.signed, IntKind.bits] using h
theorem inK_u8 {n : Int} (h : inK .u8 n) : 0 ≤ n ∧ n ≤ 255 := by
  simpa [inK, Lit.wf, IntKind.min, IntKind.max, IntKind.signed, IntKind.bits] using h

theorem opens_int {P : Program} {t : TypeId} {k : IntKind} (ht : P.underlying t = some (.int k)) (hc : P.cellsOf t = 1) : Opens P t (tInt k) (inK k) :=
  ⟨hc, fun enc w sp hd fuel cs x h _ => by
    obtain ⟨n, rfl, rfl, hw⟩ := DataW.trod_int ht h
    exact ⟨n, rfl, hw⟩⟩
theorem opens_bool {P : Program} {t : TypeId} (ht : P.underlying t = some .bool) (hc : P.cellsOf t = 1) : Opens P t tBool (fun _ => True) :=
  ⟨hc, fun enc w sp hd fuel cs x h _ => by
    obtain ⟨n, rfl, rfl⟩ := DataW.trod_bool ht h
    exact ⟨n, rfl, trivial⟩⟩
def okStr (s : ByteArray) : Prop := s.size ≤ 140737488351232
theorem opens_str {P : Program} {t : TypeId} (ht : P.underlying t = some .string) (hc : P.cellsOf t = 1) : Opens P t tStr okStr :=
  ⟨hc, fun enc w sp hd fuel cs x h hs => by
    obtain ⟨n, rfl, rfl, hw⟩ := DataW.trod_string ht h
    refine ⟨n, rfl, ?_⟩
    simp [Small, DataW.weights, reachBytes] at hs
    exact (of_decide_eq_true hs : n.size ≤ 140737488351232)⟩

def okSlice {α : Type} (b : Nat) (ok : α → Prop) (xs : List α) : Prop := xs.length * b ≤ 140737488351232 ∧ ∀ x ∈ xs, ok x

theorem weightsAll_mem {H : Type} {P : Program} {e : TypeId} {n : Nat} : ∀ {l : List (DataW H)}, (DataW.weightsAll P e l).all (· ≤ n) = true → ∀ d ∈ l, (d.weights P e).all (· ≤ n) = true
  | [], _, _, h => by cases h
  | x :: r, h, d, hd => by
    simp only [DataW.weightsAll, List.all_append, Bool.and_eq_true] at h
    rcases List.mem_cons.1 hd with rfl | hd
    · exact h.1
    · exact weightsAll_mem h.2 d hd

theorem choose_list {α : Type} {p : Nat → α → Prop} : ∀ (n : Nat), (∀ i, i < n → ∃ y, p i y) → ∃ ys : List α, ys.length = n ∧ ∀ i (h : i < ys.length), p i ys[i]
  | 0, _ => ⟨[], rfl, fun i h => by simp at h⟩
  | n + 1, h => by
    obtain ⟨ys, hl, hy⟩ := choose_list n (fun i hi => h i (by omega))
    obtain ⟨y, hy'⟩ := h n (by omega)
    refine ⟨ys ++ [y], by simp [hl], fun i hi => ?_⟩
    by_cases hlt : i < ys.length
    · rw [List.getElem_append_left hlt]; exact hy i hlt
    · have : i = n := by simp at hi; omega
      subst this
      rw [List.getElem_append_right (by omega)]
      simpa [hl] using hy'

theorem opens_slice {α : Type} {P : Program} {t e : TypeId} {T : GoT α} {ok : α → Prop} {b : Nat} (h : Opens P e T ok) (ht : P.underlying t = some (.slice e)) (hc : P.cellsOf t = 1) (hb : P.bytesOf e = b) (hpos : 0 < T.n) : Opens P t (tSlice T) (okSlice b ok) := by
  refine ⟨hc, fun enc w sp hd fuel cs x hx hs => ?_⟩
  rcases Go.Deep.open_slice ht hx with ⟨rfl, rfl⟩ | ⟨a, len, cap, m, n, D, Pl, rfl, _, hl, hm, hmm, rfl, hel⟩
  · exact ⟨[], ⟨_, rfl, RdS.nil T w Nob⟩, by simp, fun x hx => by cases hx⟩
  · have hle : len ≤ m := by rw [hmm]; split <;> omega
    simp only [Small, DataW.weights, ht, hb, List.all_cons, List.all_append, Bool.and_eq_true, decide_eq_true_eq, List.length_map, List.length_range] at hs
    have hel' : ∀ i, i < len → ∃ y : α, ok y ∧ ∃ cs', T.rd w Nob y cs' ∧ At w Nob a.block (a.off + i * T.n) cs' ∧ a = ⟨a.block, a.off, none⟩ := fun i hi => by
      obtain ⟨cs', h1, h2⟩ := hel i (by omega)
      obtain ⟨y, hy, hok⟩ := h.2 enc w sp hd n cs' _ h2 (weightsAll_mem hs.2.1 _ (List.mem_map.2 ⟨i, by simpa using hi, rfl⟩))
      obtain ⟨_, hlen, hcell⟩ := World.cells?_some h1
      have hsp : a.spot = none := by
        have h0 := hcell 0 (by rw [h.1]; exact hpos)
        rw [List.getElem?_eq_getElem (by rw [hlen, h.1]; exact hpos)] at h0
        cases hsp : a.spot with
        | none => rfl
        | some q =>
          exfalso
          by_cases hi0 : i * P.cellsOf e = 0
          · simp [Addr.add, hi0, World.cell?, hsp] at h0
            split at h0 <;> cases h0
          · have h00 := hel 0 (by omega)
            obtain ⟨cs0, h10, _⟩ := h00
            obtain ⟨_, hlen0, hcell0⟩ := World.cells?_some h10
            have h0' := hcell0 0 (by rw [h.1]; exact hpos)
            rw [List.getElem?_eq_getElem (by rw [hlen0, h.1]; exact hpos)] at h0'
            simp [Addr.add, World.cell?, hsp] at h0'
            split at h0' <;> cases h0'
      obtain ⟨ab, ao, asp⟩ := a
      simp only at hsp
      subst hsp
      refine ⟨y, hok, cs', hy, ⟨fun _ x => x, fun j u hu => ?_⟩, rfl⟩
      have hj := (List.getElem?_eq_some_iff.1 hu).1
      have := hcell j (by omega)
      rw [Addr.add_lit, Addr.add_lit, hu, h.1] at this
      exact this
    obtain ⟨ys, hyl, hy⟩ := choose_list len hel'
    subst hyl
    refine ⟨ys, ⟨_, rfl, some a, cap, rfl, hl, fun i hi => ?_⟩, ?_, fun x hx => ?_⟩
    · obtain ⟨_, cs', h1, h2, h3⟩ := hy i hi
      exact ⟨a.block, a.off, cs', congrArg some h3, h1, h2⟩
    · have := hs.1
      simp only [reachBytes] at this
      rw [Nat.add_mul] at this
      omega
    · obtain ⟨i, hi, rfl⟩ := List.getElem_of_mem hx
      exact (hy i hi).1

/-! ### The fields of a struct -/
def FieldsOpen {α : Type} (P : Program) (fs : List Field) (o : Nat) (T : GoT α) (ok : α → Prop) : Prop :=
  ∀ {H : Type} (enc : TypeId × Value → H) (w : World) (sp : Nat → Bool) (hd : Bool) (n : Nat) (cs : List Value) (xs : List (DataW H × List MemPlace)), xs.length = fs.length →
    (∀ (i : Nat) (f : Field), fs[i]? = some f → DataW.trod enc P w 0 sp hd n f.type ((cs.drop f.offset).take (P.cellsOf f.type)) = xs[i]?) →
    (DataW.weightsEach P (fs.map (·.type)) (xs.map (·.1))).all (· ≤ reachBytes) = true → cs.length = o + T.n → ∃ a, T.rd w Nob a (cs.drop o) ∧ ok a

theorem fields_nil (P : Program) (o : Nat) : FieldsOpen P [] o tUnit (fun _ => True) := fun enc w sp hd n cs xs _ _ _ hl => ⟨(), by
  show cs.drop o = []
  rw [List.drop_eq_nil_iff]; have : tUnit.n = 0 := rfl; omega, trivial⟩

theorem fields_cons {α β : Type} {P : Program} {f : Field} {fs : List Field} {o : Nat} {S : GoT α} {T : GoT β} {ok1 : α → Prop} {ok2 : β → Prop} (h1 : Opens P f.type S ok1) (ho : f.offset = o) (h2 : FieldsOpen P fs (o + S.n) T ok2) :
    FieldsOpen P (f :: fs) o (tPair S T) (fun x => ok1 x.1 ∧ ok2 x.2) := fun enc w sp hd n cs xs hl hx hs hc => by
  match xs, hl with
  | y :: ys, hl =>
    have hcn : (tPair S T).n = S.n + T.n := rfl
    simp only [List.map_cons, DataW.weightsEach, List.all_append, Bool.and_eq_true] at hs
    have e0 := hx 0 f rfl
    rw [ho, h1.1] at e0
    obtain ⟨a, ha, hoka⟩ := h1.2 enc w sp hd n _ y e0 hs.1
    obtain ⟨b, hb, hokb⟩ := h2 enc w sp hd n cs ys (by simpa using hl) (fun i g hg => by simpa using hx (i + 1) g (by simpa using hg)) hs.2 (by omega)
    refine ⟨(a, b), ⟨_, _, ?_, ha, hb⟩, hoka, hokb⟩
    rw [← List.drop_drop]
    exact (List.take_append_drop _ _).symm

theorem opens_struct {α : Type} {P : Program} {t : TypeId} {fs : Array Field} {T : GoT α} {ok : α → Prop} (ht : P.underlying t = some (.struct fs)) (hc : P.cellsOf t = T.n) (h : FieldsOpen P fs.toList 0 T ok) : Opens P t T ok :=
  ⟨hc, fun enc w sp hd fuel cs x hx hs => by
    obtain ⟨xs, n, _, rfl, hl, hlen, hf⟩ := DataW.trod_struct ht hx
    simp only [Small, DataW.weights, ht] at hs
    obtain ⟨a, ha, hok⟩ := h enc w sp hd n cs xs (by simpa using hlen) (fun i f hi => hf i f (by simpa using hi)) hs (by omega)
    exact ⟨a, by simpa using ha, hok⟩⟩

theorem opens_via {α β : Type} {P : Program} {t : TypeId} {T : GoT α} {ok : α → Prop} (f : β → α) (g : α → β) (hg : ∀ a, f (g a) = a) (h : Opens P t T ok) : Opens P t (T.via f) (fun b => ok (f b)) :=
  ⟨h.1, fun enc w sp hd fuel cs x hx hs => by
    obtain ⟨a, ha, hok⟩ := h.2 enc w sp hd fuel cs x hx hs
    exact ⟨g a, by show T.rd w Nob (f (g a)) cs; rw [hg]; exact ha, by show ok (f (g a)); rw [hg]; exact hok⟩⟩

theorem opens_ok {α : Type} {P : Program} {t : TypeId} {T : GoT α} {ok ok' : α → Prop} (h : Opens P t T ok) (hi : ∀ a, ok a → ok' a) : Opens P t T ok' :=
  ⟨h.1, fun enc w sp hd fuel cs x hx hs => let ⟨a, ha, hok⟩ := h.2 enc w sp hd fuel cs x hx hs; ⟨a, ha, hi a hok⟩⟩

/-! ### A law's row -/
/-- What a law's walk shows. -/
def LawTrue (P : Program) (f : FuncId) (args : Array Value) (w : World) : Prop := Calls P f args w fun e w' => e = .returned (.bool true) ∧ Fr Nob w w'

theorem trodAll_below {H : Type} {enc : TypeId × Value → H} {P : Program} (hl : laidOutB P = true) {W W' : World} (hb : Below W.heap.size W W') : ∀ {ts : List TypeId} {vs : List Value} {ds : List (DataW H)} {ps : List MemPlace},
    (∀ t ∈ ts, P.readableRec t = true ∧ t < P.types.size) → DataW.TrodAll enc P W 0 (fun _ => true) true ts vs ds ps → (∀ x ∈ ps, x.block < W.heap.size) → DataW.TrodAll enc P W' 0 (fun b => decide (b < W.heap.size)) true ts vs ds ps
  | [], _, _, _, _, h, _ => by
    obtain ⟨rfl, rfl, rfl⟩ := trodAll_nil h
    exact trodAll_mk0
  | t :: ts, _, _, _, hr, h, hlt => by
    obtain ⟨v, vs1, d, ds1, a, b, rfl, rfl, rfl, h1, h2⟩ := trodAll_cons h
    exact ⟨a, b, Below.trod hl (hr t (by simp)).1 (hr t (by simp)).2 h1 hb (fun x hx => hlt x (by simp [hx])), trodAll_below hl hb (fun t ht => hr t (by simp [ht])) h2 (fun x hx => hlt x (by simp [hx])), rfl⟩

theorem law_post {H : Type} {enc : TypeId × Value → H} {P : Program} {f : Func} {s : ChangeSpec} {tb : TypeId} (hl : laidOutB P = true) (hr : ∀ t ∈ f.params.toList, P.readableRec t = true ∧ t < P.types.size)
    (hvars : s.vars = []) (hres : f.resultTypes = #[tb]) (hb : P.underlying tb = some .bool) (hfn : ∀ ds : List (DataW H), ds.length = f.params.size → (s.fn H ds).results = [.lit (.bool true)] ∧ (s.fn H ds).args = ds ∧ (s.fn H ds).vars = [])
    {W W' : World} {args : Array Value} {ds gs : List (DataW H)} {before : List MemPlace} (hW : DataW.Whole enc P f.params.toList s.vars false W args.toList ds gs before) (hbel : Below W.heap.size W W') :
    s.post enc P f false true false false W args (.bool true) W' := by
  have hlt := hW.lt
  have hW' := hW
  obtain ⟨p, q, hA, hV, rfl, hfz, _⟩ := hW
  rw [hvars] at hV
  obtain ⟨rfl, rfl⟩ := trodVars_none hV
  have hlen : ∀ {ts : List TypeId} {vs : List Value} {ds : List (DataW H)} {ps : List MemPlace} {w : World} {base : Nat} {sp : Nat → Bool} {hd : Bool}, DataW.TrodAll enc P w base sp hd ts vs ds ps → ds.length = ts.length := by
    intro ts
    induction ts with
    | nil => intro vs ds ps w base sp hd h; obtain ⟨rfl, rfl, rfl⟩ := trodAll_nil h; rfl
    | cons t ts ih => intro vs ds ps w base sp hd h; obtain ⟨v, vs1, d, ds1, a, b, rfl, rfl, rfl, _, h2⟩ := trodAll_cons h; simp [ih h2]
  obtain ⟨e1, e2, e3⟩ := hfn ds (by simpa using hlen hA)
  refine ⟨ds, [], p ++ [], [], p, [], hW', ?_, ?_, ?_, hbel.frame _, fun h => by cases h⟩
  · rw [List.append_nil, e1, hres]
    exact trodAll_mk1 (shut_bool hb true)
  · rw [List.append_nil, e2]
    exact trodAll_below hl hbel hr hA (fun x hx => hlt x (by simp [hx]))
  · rw [List.append_nil, e3, hvars]
    rfl

/-! ### One argument -/
def isFlat : Option TypeDesc → Bool
  | some .bool | some (.int _) | some .string | some (.slice _) => true
  | _ => false

theorem flat_one {P : Program} {w : World} {r : Reach} {b0 : Nat} {t : TypeId} {v : Value} (hf : isFlat (P.underlying t) = true) (hval : Value.okWide P w r b0 t v) : v.cells.toList = [v] := by
  unfold Value.okWide at hval
  cases hu : P.underlying t with
  | none => rw [hu] at hf; cases hf
  | some d =>
    rw [hu] at hf hval
    cases d <;> first | (cases hf; done) | (unfold Cell.okWide Cell.ok at hval; rw [hu] at hval; cases v <;> first | rfl | (exfalso; simp_all))

theorem arg_one {α : Type} {P : Program} {t : TypeId} {T : GoT α} {ok : α → Prop} {H : Type} {enc : TypeId × Value → H} {W : World} {r : Reach} {b0 : Nat} {v : Value} {d : DataW H} {ps : List MemPlace} {sp : Nat → Bool} {hd : Bool}
    (h : Opens P t T ok) (hf : isFlat (P.underlying t) = true) (hval : Value.okWide P W r b0 t v) (h0 : DataW.Trod enc P W 0 sp hd t v d ps) (hs : Small P t d) : ∃ a, T.rd W Nob a [v] ∧ ok a := by
  obtain ⟨fuel, hx⟩ := h0
  rw [flat_one hf hval] at hx
  exact h.2 enc W sp hd fuel [v] _ hx hs

theorem arg_agg {α : Type} {P : Program} {t : TypeId} {fs : Array Field} {T : GoT α} {ok : α → Prop} {H : Type} {enc : TypeId × Value → H} {W : World} {r : Reach} {b0 : Nat} {v : Value} {d : DataW H} {ps : List MemPlace} {sp : Nat → Bool} {hd : Bool}
    (h : Opens P t T ok) (ht : P.underlying t = some (.struct fs)) (hval : Value.okWide P W r b0 t v) (h0 : DataW.Trod enc P W 0 sp hd t v d ps) (hs : Small P t d) : ∃ a cs, v = .agg cs ∧ T.rd W Nob a cs.toList ∧ ok a := by
  obtain ⟨fuel, hx⟩ := h0
  unfold Value.okWide at hval
  rw [ht] at hval
  obtain ⟨cs, rfl, _⟩ := hval
  obtain ⟨a, h1, h2⟩ := h.2 enc W sp hd fuel _ _ hx hs
  exact ⟨a, cs, rfl, h1, h2⟩
end Go.Proofs.Ytilgfgghjdomcaa
namespace Go.Proofs.Ytilgfgghjdomcaa
set_option linter.unusedVariables false
open Go.RowKit

/-- The law answers true, and what was there is as it was. -/
def LawS (P : Program) (f : FuncId) (args : List Value) (w : World) : Prop := HCall P f args w fun v w' => v = .bool true ∧ Below w.heap.size w w'
theorem law_of_spec {P : Program} {f : FuncId} {args : List Value} {w : World} (h : Spec P f args [.mem (Heap.of w)] fun v post => v = .bool true ∧ ∃ H l, (Heap.of w).le H ∧ post = .mem H :: l) : LawS P f args w := by
  refine (h w [] w (SL.init w)).mono ?_
  rintro v w' ⟨post, ⟨rfl, H, l, hH, rfl⟩, hS⟩
  exact ⟨rfl, hS.below (.hd) hH⟩
theorem LawS.calls {P : Program} {f : FuncId} {args : List Value} {w : World} (h : LawS P f args w) : Calls P f args.toArray w fun e w' => e = .returned (.bool true) ∧ Below w.heap.size w w' :=
  Calls.mono h fun e w' ⟨v, he, hv, hb⟩ => ⟨by rw [he, hv], hb⟩

/-- A slice argument of elements without memory behind them. -/
theorem RdS.flat {α : Type} {T : GoT α} {enc : α → List Value} {w : World} {xs : List α} {v : Value} (h : RdS T w Nob xs v) (he : ∀ {M x cs}, T.rd w M x cs → cs = enc x) (hn : ∀ x, (enc x).length = T.n) :
    RdSl (Heap.of w) T.n v xs.length (xs.map enc).flatten := by
  obtain ⟨a, cap, rfl, hc, hx⟩ := h.out
  have hlen : (xs.map enc).flatten.length = xs.length * T.n := by
    rw [flatten_length (n := T.n) _ (fun x hx => by obtain ⟨y, _, rfl⟩ := List.mem_map.1 hx; exact hn y), List.length_map]
  refine ⟨hlen, a, cap, rfl, hc, ?_⟩
  rcases Nat.eq_zero_or_pos xs.length with h0 | h0
  · exact .inl h0
  · right
    obtain ⟨b, off, _, rfl, _, _⟩ := hx 0 h0
    refine ⟨b, off, rfl, fun j u hu => ?_⟩
    have hj := (List.getElem?_eq_some_iff.1 hu).1
    rcases Nat.eq_zero_or_pos T.n with hz | hz
    · rw [hlen, hz] at hj; omega
    have hi : j / T.n < xs.length := by rw [hlen] at hj; exact (Nat.div_lt_iff_lt_mul hz).2 hj
    obtain ⟨b', off', cs, hab, hr, hat⟩ := hx (j / T.n) hi
    simp at hab
    obtain ⟨rfl, rfl⟩ := hab
    have hcs := he hr
    subst hcs
    have hmod : j % T.n < (enc xs[j / T.n]).length := by rw [hn]; exact Nat.mod_lt _ hz
    have hg := flatten_get (n := T.n) (xs.map enc) (fun x hx => by obtain ⟨y, _, rfl⟩ := List.mem_map.1 hx; exact hn y) (j / T.n) (j % T.n) (by simpa using hi) ((enc xs[j / T.n])[j % T.n]'hmod) (by simp [List.getElem?_eq_getElem hmod])
    have hdm : j / T.n * T.n + j % T.n = j := by rw [Nat.mul_comm]; exact Nat.div_add_mod j T.n
    rw [hdm] at hg
    rw [hu] at hg
    have hu' : u = (enc xs[j / T.n])[j % T.n] := Option.some.inj hg
    have := hat.2 (j % T.n) u (by rw [hu']; exact List.getElem?_eq_getElem hmod)
    rw [show off + j / T.n * T.n + j % T.n = off + j by omega] at this
    unfold World.cell? at this
    unfold Heap.cell Heap.of
    simp only at this ⊢
    split at this
    · rename_i c t f he'; rw [he']; simpa using this
    · cases this
/-- Element j of such a row. -/
theorem flat_get {α : Type} {enc : α → List Value} {n : Nat} {xs : List α} (hn : ∀ x, (enc x).length = n) {j i : Nat} (hj : j < xs.length) {u : Value} (hu : (enc xs[j])[i]? = some u) : ((xs.map enc).flatten)[j * n + i]? = some u :=
  flatten_get (n := n) (xs.map enc) (fun x hx => by obtain ⟨y, _, rfl⟩ := List.mem_map.1 hx; exact hn y) j i (by simpa using hj) u (by simpa using hu)
end Go.Proofs.Ytilgfgghjdomcaa
namespace Go.Proofs.Ytilgfgghjdomcaa
set_option linter.unusedVariables false
set_option maxRecDepth 100000
open Go.RowKit

/-- Through X, v can be read as n elements. -/
structure Rdn (X : Chunk) (sz : Nat) (v : Value) (n : Nat) (cs : List Value) : Prop where
  sl : ∀ {W w : World} {l : List Chunk}, SL W l w → Has X l → ∃ a c, v = .slice a n c ∧ n ≤ c
  src : ∀ {W w : World} {l : List Chunk}, SL W l w → Has X l → srcCells w sz v n cs
theorem Rdn.own {v : Value} {t : TypeId} {sz n : Nat} {cs : List Value} : Rdn (.ob (OwnSl v t sz n cs)) sz v n cs :=
  ⟨fun h m => by
    obtain ⟨l2, r⟩ := m.rem
    rcases OwnSl.open (h.perm r.perm) with ⟨⟨a', rfl⟩, rfl, _, _⟩ | ⟨b', cap', rest, rfl, hc, _⟩
    · exact ⟨a', 0, rfl, Nat.le_refl _⟩
    · exact ⟨_, _, rfl, hc⟩, fun h m => src_own h m⟩
theorem Rdn.rd {H : Heap} {v : Value} {sz n : Nat} {cs : List Value} (h : RdSl H sz v n cs) : Rdn (.mem H) sz v n cs :=
  ⟨fun _ _ => by obtain ⟨_, a, cap, e, hc, _⟩ := h; exact ⟨a, cap, e, hc⟩, fun hS m => src_rd hS m h⟩
theorem Rdn.pt {p n sz : Nat} {t : TypeId} {cs : List Value} (h : cs.length = n * sz) : Rdn (.pt p cs t) sz (.slice (some ⟨p, 0, none⟩) n n) n cs :=
  ⟨fun _ _ => ⟨_, _, rfl, Nat.le_refl _⟩, fun hS m => src_pt0 hS m h⟩
section
variable {W w : World} {l : List Chunk} {X : Chunk} {v : Value} {sz n : Nat} {cs : List Value}
theorem s_lenN {K : Value → Prop} (hS : SL W l w) (m : Has X l) (hb : Rdn X sz v n cs) (k : K (.int .i64 n)) : HLenS v K := by
  obtain ⟨a, c, rfl, _⟩ := hb.sl hS m
  exact s_lenS k
theorem s_getRow {α : Type} {enc : α → List Value} {xs : List α} {j : Nat} {kk : IntKind} {K : Value → Prop} (hS : SL W l w) (m : Has X l) (hb : Rdn X sz v n (xs.map enc).flatten) (he : ∀ x, (enc x).length = sz) (hsz : 0 < sz) (hx : xs.length = n) (hj : j < n)
    (hK : K (.agg (enc (xs[j]'(by omega))).toArray)) : HIdx sz v (.int kk (j : Int)) fun p => HLdN sz p w K := by
  obtain ⟨a, c, rfl, hc⟩ := hb.sl hS m
  have hs := hb.src hS m
  have hlen : (xs.map enc).flatten.length = n * sz := by
    rw [← hx]; clear hx hs hb hK hj hc
    induction xs with
    | nil => simp
    | cons x xs ih => simp [he, ih, Nat.add_mul]; omega
  cases a with
  | none =>
    have e : (xs.map enc).flatten = [] := hs.2
    have e2 : (enc (xs[j]'(by omega))).length = 0 := by
      rw [e] at hlen
      simp only [List.length_nil] at hlen
      rw [he]
      rcases Nat.eq_zero_or_pos sz with h | h
      · exact h
      · have : 0 < n * sz := Nat.mul_pos (by omega) h
        omega
    rw [he] at e2; omega
  | some p =>
    refine ⟨p, _, c, kk, j, rfl, rfl, hj, ?_⟩
    refine ⟨_, enc (xs[j]'(by omega)), rfl, he _, fun i u hu => ?_, hK⟩
    rw [addr_add2]
    refine hs.2.2 (j * sz + i) u ?_
    exact flat_get he (by omega) hu
end
def EncQ (X : Chunk) (l : List PFd) (u : Value) (post : List Chunk) : Prop := match encFs l with
  | .error e => u = .tuple #[.slice none 0 0, .int .i64 e] ∧ post = [X]
  | .ok b => ∃ v, u = .tuple #[v, .int .i64 0] ∧ post = [.ob (OwnSl v 5 1 b.length (b.map u8c)), X]
theorem EncQ.er {X : Chunk} {l : List PFd} {e : Int} (h : encFs l = .error e) : EncQ X l (.tuple #[.slice none 0 0, .int .i64 e]) [X] := by
  unfold EncQ; rw [h]; exact ⟨rfl, rfl⟩
theorem EncQ.ok {X : Chunk} {l : List PFd} {b : List UInt8} (h : encFs l = .ok b) (v : Value) : EncQ X l (.tuple #[v, .int .i64 0]) [.ob (OwnSl v 5 1 b.length (b.map u8c)), X] := by
  unfold EncQ; rw [h]; exact ⟨v, rfl, rfl⟩
theorem encF_len {x : PFd} (h : rightF x = true) : (encF x).length ≤ 5000 := by
  unfold encF
  unfold rightF at h
  by_cases h1 : x.kind = 1
  · rw [if_pos h1]; simp [numB_len]
  · rw [if_neg h1] at h ⊢
    by_cases h2 : x.kind = 2
    · rw [if_pos h2] at h
      have h3 : x.s.size ≤ 4096 := by
        rw [Bool.and_eq_true] at h
        exact of_decide_eq_true h.2
      have : x.s.data.toList.length = x.s.size := rfl
      simp only [List.length_cons, List.length_append, numB_len]; omega
    · rw [if_neg h2] at h; cases h
theorem encFl_len : ∀ {l : List PFd}, l.all rightF = true → (l.map encF).flatten.length ≤ l.length * 5000
  | [], _ => by simp
  | x :: l, h => by
    rw [List.all_cons, Bool.and_eq_true] at h
    have h1 := encF_len h.1
    have h2 := encFl_len h.2
    simp only [List.map_cons, List.flatten_cons, List.length_append, List.length_cons]; omega
/-- field.Encode -/
theorem encode_spec (X : Chunk) (v : Value) (xs : List PFd) (hx : Rdn X 3 v xs.length (xs.map fdcells).flatten) (hN : xs.length ≤ 140737488355328) : Spec Try.prog 61 [v] [X] (EncQ X xs) := by
  intro W F w hS; apply vc61; unfold Vc61; (try simp only [app] at hS)
  refine s_lenN hS .hd hx ?_
  (repeat (first | (with_reducible first | apply Q0 | refine Qa hS ?_ | refine Qb ?_ | refine Qc hS ?_ | refine Qd ?_) | ((with_reducible refine Qe hS ?_); clear hS; intro w hS; simp only [List.set] at hS) | ((with_reducible first | refine s_draw hS ?_ | refine Qf hS ?_); clear hS; intro w hS) | ((with_reducible first | refine s_new hS ?_ | refine Qg hS ?_); clear hS; intro b w hS)))
  refine s_ifp (fun h => ?_) (fun h => ?_)
  · exact ⟨_, .er (by unfold encFs; rw [if_pos (by omega)]), hS⟩
  · refine s_lenN hS .hd hx ?_
    refine s_cvI ?_
    rw [wrap_u64 (by omega) (by omega)]
    have hS := OwnSl.nil (t := 5) (sz := 1) hS
    have hS : SL W (.ob (OwnSl (.slice none 0 0) 5 1 ([] : List UInt8).length (([] : List UInt8).map u8c)) :: X :: F) w := hS
    (apply s_call (numB_spec [] (.slice none 0 0) xs.length 2 (by omega) (by simp)) hS; exact Xp; clear hS)
    rintro v13 post rfl w hS; (try simp only [app] at hS)
    rw [List.nil_append] at hS
    refine s_lenN hS Xh hx ?_
    have hb : ∀ i, i ≤ xs.length → (xs.take i).all rightF = true → (numB xs.length 2 ++ ((xs.take i).map encF).flatten).length ≤ 200000000 := fun i hi ha => by
      have := encFl_len ha
      rw [List.length_append, numB_len]
      rw [List.length_take] at this
      omega
    refine ⟨fun vs w => ∃ (i : Nat) (u : Value), i ≤ xs.length ∧ vs = [u, .int .i64 i] ∧ (xs.take i).all rightF = true ∧ SL W (.ob (OwnSl u 5 1 (numB xs.length 2 ++ ((xs.take i).map encF).flatten).length ((numB xs.length 2 ++ ((xs.take i).map encF).flatten).map u8c)) :: X :: F) w, fun vs _ => match vs with
      | [_, .int _ i] => xs.length - i.toNat
      | _ => 0, ⟨0, v13, by omega, rfl, rfl, (by simpa using hS)⟩, ?_⟩
    clear hS
    rintro u1 u2 w1 ⟨i, u, hi, hv, ha, hS⟩
    cases hv
    have hbi := hb i hi ha
    (repeat (first | (with_reducible first | apply Q0 | refine Qa hS ?_ | refine Qb ?_ | refine Qc hS ?_ | refine Qd ?_) | ((with_reducible refine Qe hS ?_); clear hS; intro w hS; simp only [List.set] at hS) | ((with_reducible first | refine s_draw hS ?_ | refine Qf hS ?_); clear hS; intro w hS) | ((with_reducible first | refine s_new hS ?_ | refine Qg hS ?_); clear hS; intro b w hS)))
    refine s_ifp (fun h => ?_) (fun h => ?_)
    · have hi : i < xs.length := by omega
      refine s_getRow hS Xh hx fdcells_len (by omega) rfl hi ?_
      have hxi : xs[i] ∈ xs := List.getElem_mem hi
      have htk : xs.take (i + 1) = xs.take i ++ [xs[i]] := by rw [List.take_add_one]; simp [hi]
      generalize xs[i] = x at *
      unfold fdcells
      (repeat (first | (with_reducible first | apply Q0 | refine Qa hS ?_ | refine Qb ?_ | refine Qc hS ?_ | refine Qd ?_) | ((with_reducible refine Qe hS ?_); clear hS; intro w hS; simp only [List.set] at hS) | ((with_reducible first | refine s_draw hS ?_ | refine Qf hS ?_); clear hS; intro w hS) | ((with_reducible first | refine s_new hS ?_ | refine Qg hS ?_); clear hS; intro b w hS)))
      (apply s_call (rightF_spec x) hS; exact Xp; clear hS)
      rintro v post ⟨rfl, rfl⟩ w hS; (try simp only [app] at hS)
      refine s_not ?_
      cases hr : rightF x with
      | false =>
        refine s_ift ?_
        refine ⟨[X], .er ?_, SL.into hS Xi⟩
        unfold encFs
        rw [if_neg (by omega), if_neg]
        intro h
        have := List.all_eq_true.1 h x hxi
        rw [hr] at this; cases this
      | true =>
        refine s_iff ?_
        have ha2 : (xs.take (i + 1)).all rightF = true := by rw [htk, List.all_append, ha]; simp [hr]
        have hb2 := hb (i + 1) (by omega) ha2
        have hen : ((xs.take (i + 1)).map encF).flatten = ((xs.take i).map encF).flatten ++ encF x := by rw [htk]; simp
        rw [hen] at hb2
        rw [List.length_append, List.length_append] at hb2
        have hk : x.kind = 1 ∨ x.kind = 2 := by
          unfold rightF at hr
          by_cases h1 : x.kind = 1
          · exact .inl h1
          · rw [if_neg h1] at hr
            by_cases h2 : x.kind = 2
            · exact .inr h2
            · rw [if_neg h2] at hr; cases hr
        generalize hc : numB xs.length 2 ++ ((xs.take i).map encF).flatten = c at *
        have hcl : c.length + (encF x).length ≤ 200000000 := by rw [← hc, List.length_append]; omega
        (repeat (first | (with_reducible first | apply Q0 | refine Qa hS ?_ | refine Qb ?_ | refine Qc hS ?_ | refine Qd ?_) | ((with_reducible refine Qe hS ?_); clear hS; intro w hS; simp only [List.set] at hS) | ((with_reducible first | refine s_draw hS ?_ | refine Qf hS ?_); clear hS; intro w hS) | ((with_reducible first | refine s_new hS ?_ | refine Qg hS ?_); clear hS; intro b w hS)))
        refine s_cvI ?_
        rw [wrap_u8]
        refine s_bldS (cells := [u8c (lowB x.kind)]) hS rfl ?_
        clear hS; intro p w hS
        refine s_app (m := 1) (cs := [u8c (lowB x.kind)]) hS Xr (src_pt0 hS .hd rfl) rfl rfl (by intro v hv; simp only [List.mem_singleton] at hv; subst hv; rfl) (by omega) (by omega) ?_
        clear hS; intro u' w hS
        (repeat (first | (with_reducible first | apply Q0 | refine Qa hS ?_ | refine Qb ?_ | refine Qc hS ?_ | refine Qd ?_) | ((with_reducible refine Qe hS ?_); clear hS; intro w hS; simp only [List.set] at hS) | ((with_reducible first | refine s_draw hS ?_ | refine Qf hS ?_); clear hS; intro w hS) | ((with_reducible first | refine s_new hS ?_ | refine Qg hS ?_); clear hS; intro b w hS)))
        have hS : SL W (.ob (OwnSl u' 5 1 (c ++ [lowB x.kind]).length ((c ++ [lowB x.kind]).map u8c)) :: .pt b [.int .i64 x.kind, .int .i64 x.n, .string x.s] 110 :: X :: F) w := by
          simp only [List.length_append, List.length_cons, List.length_nil, List.map_append, List.map_cons, List.map_nil]
          exact SL.into hS Xi
        refine s_ifp (fun h1 => ?_) (fun h1 => ?_)
        · (repeat (first | (with_reducible first | apply Q0 | refine Qa hS ?_ | refine Qb ?_ | refine Qc hS ?_ | refine Qd ?_) | ((with_reducible refine Qe hS ?_); clear hS; intro w hS; simp only [List.set] at hS) | ((with_reducible first | refine s_draw hS ?_ | refine Qf hS ?_); clear hS; intro w hS) | ((with_reducible first | refine s_new hS ?_ | refine Qg hS ?_); clear hS; intro b w hS)))
          refine s_cvI ?_
          have eu : IntKind.u64.wrap x.n = unsig x.n := rfl
          rw [eu]
          (apply s_call (numB_spec (c ++ [lowB x.kind]) u' (unsig x.n) 8 (by omega) (by simp; omega)) hS; exact Xp; clear hS)
          rintro v36 post rfl w hS; (try simp only [app] at hS)
          (repeat (first | (with_reducible first | apply Q0 | refine Qa hS ?_ | refine Qb ?_ | refine Qc hS ?_ | refine Qd ?_) | ((with_reducible refine Qe hS ?_); clear hS; intro w hS; simp only [List.set] at hS) | ((with_reducible first | refine s_draw hS ?_ | refine Qf hS ?_); clear hS; intro w hS) | ((with_reducible first | refine s_new hS ?_ | refine Qg hS ?_); clear hS; intro b w hS)))
          refine ⟨⟨i + 1, v36, by omega, rfl, ha2, ?_⟩, ?_⟩
          · have e : numB xs.length 2 ++ ((xs.take (i + 1)).map encF).flatten = c ++ [lowB x.kind] ++ numB (unsig x.n) 8 := by
              rw [hen, ← List.append_assoc, hc]
              have : encF x = lowB x.kind :: numB (unsig x.n) 8 := by unfold encF; rw [if_pos h1]
              rw [this]; simp
            rw [e]
            exact SL.into hS Xi
          · simp only [Int.toNat_natCast]; omega
        · have hsz : x.s.size ≤ 4096 := by
            unfold rightF at hr
            rw [if_neg h1, if_pos (by omega), Bool.and_eq_true] at hr
            exact of_decide_eq_true hr.2
          have hef : encF x = lowB x.kind :: (numB x.s.size 2 ++ x.s.data.toList) := by unfold encF; rw [if_neg h1]
          (repeat (first | (with_reducible first | apply Q0 | refine Qa hS ?_ | refine Qb ?_ | refine Qc hS ?_ | refine Qd ?_) | ((with_reducible refine Qe hS ?_); clear hS; intro w hS; simp only [List.set] at hS) | ((with_reducible first | refine s_draw hS ?_ | refine Qf hS ?_); clear hS; intro w hS) | ((with_reducible first | refine s_new hS ?_ | refine Qg hS ?_); clear hS; intro b w hS)))
          refine s_cvI ?_
          rw [wrap_u64 (by omega) (by omega)]
          (repeat (first | (with_reducible first | apply Q0 | refine Qa hS ?_ | refine Qb ?_ | refine Qc hS ?_ | refine Qd ?_) | ((with_reducible refine Qe hS ?_); clear hS; intro w hS; simp only [List.set] at hS) | ((with_reducible first | refine s_draw hS ?_ | refine Qf hS ?_); clear hS; intro w hS) | ((with_reducible first | refine s_new hS ?_ | refine Qg hS ?_); clear hS; intro b w hS)))
          (apply s_call (numB_spec (c ++ [lowB x.kind]) u' x.s.size 2 (by omega) (by simp; omega)) hS; exact Xp; clear hS)
          rintro v42 post rfl w hS; (try simp only [app] at hS)
          (repeat (first | (with_reducible first | apply Q0 | refine Qa hS ?_ | refine Qb ?_ | refine Qc hS ?_ | refine Qd ?_) | ((with_reducible refine Qe hS ?_); clear hS; intro w hS; simp only [List.set] at hS) | ((with_reducible first | refine s_draw hS ?_ | refine Qf hS ?_); clear hS; intro w hS) | ((with_reducible first | refine s_new hS ?_ | refine Qg hS ?_); clear hS; intro b w hS)))
          have hsl : x.s.data.toList.length = x.s.size := rfl
          have hel : (encF x).length = 1 + (2 + x.s.size) := by rw [hef]; simp only [List.length_cons, List.length_append, numB_len]; omega
          refine s_app (m := x.s.size) (cs := x.s.data.toList.map u8c) hS Xr src_str (by simp) rfl (u8c_one _) (by simp only [List.length_append, List.length_cons, List.length_nil, numB_len]; omega) (by simp only [List.length_append, List.length_cons, List.length_nil, numB_len]; omega) ?_
          clear hS; intro v45 w hS
          (repeat (first | (with_reducible first | apply Q0 | refine Qa hS ?_ | refine Qb ?_ | refine Qc hS ?_ | refine Qd ?_) | ((with_reducible refine Qe hS ?_); clear hS; intro w hS; simp only [List.set] at hS) | ((with_reducible first | refine s_draw hS ?_ | refine Qf hS ?_); clear hS; intro w hS) | ((with_reducible first | refine s_new hS ?_ | refine Qg hS ?_); clear hS; intro b w hS)))
          refine ⟨⟨i + 1, v45, by omega, rfl, ha2, ?_⟩, ?_⟩
          · have e : numB xs.length 2 ++ ((xs.take (i + 1)).map encF).flatten = (c ++ [lowB x.kind] ++ numB x.s.size 2) ++ x.s.data.toList := by
              rw [hen, ← List.append_assoc, hc, hef]; simp
            rw [e]
            generalize c ++ [lowB x.kind] ++ numB x.s.size 2 = A at *
            rw [List.length_append, List.map_append, hsl]
            exact SL.into hS Xi
          · simp only [Int.toNat_natCast]; omega
    · obtain rfl : i = xs.length := by omega
      rw [List.take_length] at hS ha
      exact ⟨_, .ok (by unfold encFs; rw [if_neg (by omega), if_pos ha]) u1, hS⟩
end Go.Proofs.Ytilgfgghjdomcaa
namespace Go.Proofs.Ytilgfgghjdomcaa
set_option linter.unusedVariables false
open Go.RowKit

/-- v is a slice of n elements of sz cells each, whose cells are 'cells'; its block is owned; something may lie in front. -/
def OwnSo (v : Value) (t : TypeId) (sz n : Nat) (cells : List Value) : HProp := HEx fun x : Option (Nat × List Value × Nat × List Value) => match x with
  | none => HFact ((∃ a, v = .slice a 0 0) ∧ n = 0 ∧ cells = []) []
  | some (b, pre, cap, rest) => HFact (v = .slice (some ⟨b, pre.length, none⟩) n cap ∧ n ≤ cap ∧ cells.length = n * sz ∧ rest.length = (cap - n) * sz) [.pt b (pre ++ (cells ++ rest)) t]

section
variable {W w : World} {l : List Chunk} {v : Value} {t : TypeId} {sz n : Nat} {cells : List Value}

theorem OwnSo.open (h : SL W (.ob (OwnSo v t sz n cells) :: l) w) :
    ((∃ a, v = .slice a 0 0) ∧ n = 0 ∧ cells = [] ∧ SL W l w) ∨ ∃ b pre cap rest, v = .slice (some ⟨b, pre.length, none⟩) n cap ∧ n ≤ cap ∧ cells.length = n * sz ∧ rest.length = (cap - n) * sz ∧ SL W (.pt b (pre ++ (cells ++ rest)) t :: l) w := by
  unfold OwnSo at h
  obtain ⟨x, h⟩ := SL.ex.1 h
  match x, h with
  | none, h =>
    obtain ⟨⟨h1, h2, h3⟩, h⟩ := SL.fact.1 h
    exact .inl ⟨h1, h2, h3, h⟩
  | some (b, pre, cap, rest), h =>
    obtain ⟨⟨h1, h2, h3, h4⟩, h⟩ := SL.fact.1 h
    exact .inr ⟨b, pre, cap, rest, h1, h2, h3, h4, h⟩
theorem OwnSo.nil0 {a : Option Addr} (h : SL W l w) : SL W (.ob (OwnSo (.slice a 0 0) t sz 0 []) :: l) w := by
  unfold OwnSo
  exact SL.ex.2 ⟨none, SL.fact.2 ⟨⟨⟨_, rfl⟩, rfl, rfl⟩, h⟩⟩
theorem OwnSo.mk {b cap o : Nat} {pre rest : List Value} (h1 : n ≤ cap) (h2 : cells.length = n * sz) (h3 : rest.length = (cap - n) * sz) (ho : pre.length = o) (h : SL W (.pt b (pre ++ (cells ++ rest)) t :: l) w) :
    SL W (.ob (OwnSo (.slice (some ⟨b, o, none⟩) n cap) t sz n cells) :: l) w := by
  subst ho
  unfold OwnSo
  exact SL.ex.2 ⟨some (b, pre, cap, rest), SL.fact.2 ⟨⟨rfl, h1, h2, h3⟩, h⟩⟩
theorem OwnSo.of (h : SL W (.ob (OwnSl v t sz n cells) :: l) w) : SL W (.ob (OwnSo v t sz n cells) :: l) w := by
  rcases OwnSl.open h with ⟨⟨a, rfl⟩, rfl, rfl, hS⟩ | ⟨b, cap, rest, rfl, hc, hl, hr, hS⟩
  · exact OwnSo.nil0 hS
  · exact OwnSo.mk (pre := []) hc hl hr rfl (by simpa using hS)
theorem OwnSo.at (h : SL W l w) (m : Has (.ob (OwnSo v t sz n cells)) l) : ∃ a cap, v = .slice a n cap ∧ n ≤ cap ∧ cells.length = n * sz := by
  obtain ⟨l2, r⟩ := m.rem
  rcases OwnSo.open (h.perm r.perm) with ⟨⟨a, rfl⟩, rfl, rfl, _⟩ | ⟨b, pre, cap, rest, rfl, hc, hl, _⟩
  · exact ⟨a, 0, rfl, Nat.le_refl _, by simp⟩
  · exact ⟨_, cap, rfl, hc, hl⟩
theorem OwnSo.one (h : SL W l w) (m : Has (.ob (OwnSo v t sz n cells)) l) : v.oneCell' = true := by
  obtain ⟨a, cap, rfl, _⟩ := OwnSo.at h m; rfl
theorem s_lenSo {K : Value → Prop} (h : SL W l w) (m : Has (.ob (OwnSo v t sz n cells)) l) (k : K (.int .i64 n)) : HLenS v K := by
  obtain ⟨a, cap, rfl, _⟩ := OwnSo.at h m
  exact s_lenS k
/-- One element's place, and what lies there. -/
theorem s_idxSo {j : Nat} {k : IntKind} {K : Value → Prop} (h : SL W l w) (m : Has (.ob (OwnSo v t sz n cells)) l) (hj : j < n)
    (hK : ∀ b o, (∀ i u, i < sz → cells[j * sz + i]? = some u → w.cell? ⟨b, o + i, none⟩ = some u) → K (.pointer (some ⟨b, o, none⟩))) : HIdx sz v (.int k (j : Int)) K := by
  obtain ⟨l2, r⟩ := m.rem
  rcases OwnSo.open (h.perm r.perm) with ⟨⟨a, rfl⟩, rfl, rfl, _⟩ | ⟨b, pre, cap, rest, rfl, hc, hl, hr, hS⟩
  · omega
  · refine s_idx hj (hK b (pre.length + j * sz) fun i u hi hu => hS.cell .hd ?_)
    rw [Nat.add_assoc, List.getElem?_append_right (by omega), Nat.add_sub_cancel_left, List.getElem?_append_left (List.getElem?_eq_some_iff.1 hu).1]
    exact hu
theorem src_so (h : SL W l w) (m : Has (.ob (OwnSo v t sz n cells)) l) : srcCells w sz v n cells := by
  obtain ⟨l2, r⟩ := m.rem
  rcases OwnSo.open (h.perm r.perm) with ⟨⟨a, rfl⟩, rfl, rfl, _⟩ | ⟨b, pre, cap, rest, rfl, hc, hl, hr, hS⟩
  · cases a with
    | none => exact ⟨rfl, rfl⟩
    | some p => exact ⟨rfl, by simp, fun j v e => by simp at e⟩
  · refine ⟨rfl, hl, fun j u e => ?_⟩
    rw [Addr.add_lit]
    refine hS.cell .hd ?_
    rw [List.getElem?_append_right (by omega), Nat.add_sub_cancel_left, List.getElem?_append_left (List.getElem?_eq_some_iff.1 e).1]
    exact e
/-- A row without its first elements. -/
theorem s_slSo {k : Nat} {kk : IntKind} {K : Value → Prop} (hS : SL W (.ob (OwnSo v t sz n cells) :: l) w) (hk : k ≤ n) (hK : ∀ u, SL W (.ob (OwnSo u t sz (n - k) (cells.drop (k * sz))) :: l) w → K u) : HSl sz v (some (.int kk (k : Int))) none none K := by
  rcases OwnSo.open hS with ⟨⟨a, rfl⟩, rfl, rfl, hS'⟩ | ⟨b, pre, cap, rest, rfl, hc, hl, hr, hS'⟩
  · obtain rfl : k = 0 := by omega
    refine ⟨a, 0, 0, 0, 0, 0, rfl, rfl, rfl, ⟨kk, rfl⟩, Nat.le_refl _, Nat.le_refl _, Nat.le_refl _, ?_⟩
    rw [if_pos rfl]
    exact hK _ (by simpa using OwnSo.nil0 (t := t) (sz := sz) (a := a) hS')
  · refine ⟨_, n, cap, k, n, cap, rfl, rfl, rfl, ⟨kk, rfl⟩, hk, hc, Nat.le_refl _, hK _ ?_⟩
    by_cases e : cap = k
    · obtain rfl : n = k := by omega
      rw [if_pos e, Nat.sub_self, show cap - n = 0 by omega, List.drop_eq_nil_of_le (by omega)]
      exact OwnSo.nil0 hS'.drop
    · rw [if_neg e]
      have hlt : k * sz ≤ cells.length := by rw [hl]; exact Nat.mul_le_mul_right _ hk
      have e1 : (some (⟨b, pre.length, none⟩ : Addr)).map (·.add (k * sz)) = some ⟨b, pre.length + k * sz, none⟩ := by simp [Addr.add_lit]
      rw [e1]
      refine OwnSo.mk (pre := pre ++ cells.take (k * sz)) (rest := rest) (by omega) (by rw [List.length_drop, hl, Nat.mul_sub_right_distrib]) (by rw [hr]; congr 1; omega) (by rw [List.length_append, List.length_take]; omega) ?_
      rw [List.append_assoc, ← List.append_assoc (cells.take (k * sz)), List.take_append_drop]
      exact hS'
/-- append onto a row that is owned, with something in front. -/
theorem s_appSo {x y : Value} {by_ m : Nat} {z cs : List Value} {F : List Chunk} {K : Value → World → Prop} (hS : SL W l w) (hr : Rem (.ob (OwnSo x t sz n cells)) l F) (hsrc : srcCells w sz y m cs)
    (hl : cs.length = m * sz) (hz : z.length = sz) (h1 : ∀ v ∈ cs, v.oneCell' = true) (hb : (n + m) * by_ ≤ 140737488355328) (hn : n + m ≤ 140737488355328)
    (h : ∀ v' w', SL W (.ob (OwnSo v' t sz (n + m) (cells ++ cs)) :: F) w' → K v' w') : HApp sz by_ z t x y w K := by
  rcases OwnSo.open (hS.perm hr.perm) with ⟨⟨a, rfl⟩, rfl, rfl, hS'⟩ | ⟨b, pre, cap, rest, rfl, hc, hlen, hrest, hS'⟩
  · refine ⟨a, 0, 0, m, cs, rfl, hsrc, hb, hn, fun h0 => ?_, fun h0 => ⟨[], (by cases a with | none => exact ⟨rfl, rfl⟩ | some p => exact ⟨rfl, by simp, fun j v e => by simp at e⟩), fun c hc1 hc2 => ?_⟩⟩
    · have hm : m = 0 := by omega
      subst hm
      have : cs = [] := List.eq_nil_of_length_eq_zero (by simpa using hl)
      subst this
      cases a with
      | none => exact h _ _ (OwnSo.nil0 hS')
      | some p => exact h _ _ (OwnSo.nil0 hS')
    · refine h _ _ ?_
      have := OwnSo.mk (sz := sz) (n := 0 + m) (cells := cs) (pre := []) (rest := zrow z (c - (0 + m))) (cap := c) hc1 (by simpa using hl) (by rw [zrow_length, hz]) rfl (SL.new (cs := [] ++ (cs ++ zrow z (c - (0 + m)))) (t := t) (hS'.drew))
      simpa using this
  · refine ⟨some ⟨b, pre.length, none⟩, n, cap, m, cs, rfl, hsrc, hb, hn, fun h0 => ?_, fun h0 => ?_⟩
    · have hfit : cs.length ≤ rest.length := by
        rw [hl, hrest]; exact Nat.mul_le_mul_right _ (by omega)
      show stN (Addr.add ⟨b, pre.length, none⟩ (n * sz)) 0 cs w _
      rw [Addr.add_lit]
      refine stN_sl (t := t) cs (pre.length + n * sz) 0 (pre ++ (cells ++ rest)) w (.pt b (pre ++ (cells ++ rest)) t :: F) _ hS' .hd (by simp [hlen]; omega) h1 (fun w' hS2 => h _ _ ?_)
      have e : over (pre ++ (cells ++ rest)) (pre.length + n * sz + 0) cs = pre ++ ((cells ++ cs) ++ rest.drop cs.length) := by
        rw [show pre.length + n * sz + 0 = (pre ++ cells).length by rw [List.length_append]; omega, ← List.append_assoc, over_own hfit]
        simp
      rw [e] at hS2
      exact OwnSo.mk (n := n + m) (cells := cells ++ cs) (rest := rest.drop cs.length) h0 (by simp [hlen, hl, Nat.add_mul]) (by
        rw [List.length_drop, hrest, hl, ← Nat.mul_sub_right_distrib]; congr 1; omega) rfl hS2
    · refine ⟨cells, ⟨rfl, hlen, fun j v e => ?_⟩, fun c hc1 hc2 => h _ _ ?_⟩
      · rw [Addr.add_lit]
        refine hS'.cell .hd ?_
        rw [List.getElem?_append_right (by omega), Nat.add_sub_cancel_left, List.getElem?_append_left (List.getElem?_eq_some_iff.1 e).1]; exact e
      · have := OwnSo.mk (sz := sz) (n := n + m) (cells := cells ++ cs) (pre := []) (rest := zrow z (c - (n + m))) (cap := c) hc1 (by simp [hlen, hl, Nat.add_mul]) (by rw [zrow_length, hz]) rfl (SL.new (cs := [] ++ ((cells ++ cs) ++ zrow z (c - (n + m)))) (t := t) (hS'.drop.drew))
        simpa using this
/-- The block of a row that is there. -/
theorem OwnSo.block (hS : SL W (.ob (OwnSo v t sz n cells) :: l) w) (hn : 0 < n) : ∃ b pre cap rest, v = .slice (some ⟨b, pre.length, none⟩) n cap ∧ n ≤ cap ∧ cells.length = n * sz ∧ rest.length = (cap - n) * sz ∧ SL W (.pt b (pre ++ (cells ++ rest)) t :: l) w := by
  rcases OwnSo.open hS with ⟨_, h0, _⟩ | h
  · omega
  · exact h
end
end Go.Proofs.Ytilgfgghjdomcaa
namespace Go.Proofs.Ytilgfgghjdomcaa
set_option linter.unusedVariables false
set_option maxRecDepth 100000
open Go.RowKit

/-- A row of bytes that somebody owns. -/
abbrev BEnt := Value × List UInt8
def BEntO (x : BEnt) : HProp := OwnSl x.1 5 1 x.2.length (x.2.map u8c)
def vals (es : List BEnt) : List Value := es.map Prod.fst
def byts (es : List BEnt) : List (List UInt8) := es.map Prod.snd
def ScanQ (X : Chunk) (q : List UInt8) (r : Value) (post : List Chunk) : Prop := ∃ (u : Value) (es : List BEnt), byts es = (scanA q).1 ∧ r = .tuple #[u, .int .i64 ((scanA q).2 : Nat)] ∧ post = [.ob (OwnSl u 23 1 es.length (vals es)), .ob (HAll BEntO es), X]
/-- rec.Scan -/
theorem scan_spec (X : Chunk) (v : Value) (q : List UInt8) (hq : Rdb X v q) (hN : q.length ≤ 10000000000) : Spec Try.prog 49 [v] [X] (ScanQ X q) := by
  intro W F w hS; apply vc49; unfold Vc49; (try simp only [app] at hS)
  have hS := OwnSl.nil (t := 23) (sz := 1) (HAll.nil (A := BEntO) hS)
  refine ⟨fun vs w => ∃ (u : Value) (es : List BEnt) (at_ : Nat), vs = [u, .int .i64 at_] ∧ at_ ≤ q.length ∧ es.length * 8 ≤ at_ ∧ byts es ++ (scanA (q.drop at_)).1 = (scanA q).1 ∧ at_ + (scanA (q.drop at_)).2 = (scanA q).2 ∧
      SL W (.ob (OwnSl u 23 1 es.length (vals es)) :: .ob (HAll BEntO es) :: X :: F) w, fun vs _ => match vs with
    | [_, .int _ i] => q.length - i.toNat
    | _ => 0, ⟨_, [], 0, rfl, Nat.zero_le _, Nat.le_refl _, rfl, by simp, hS⟩, ?_⟩
  clear hS
  rintro u1 u2 w1 ⟨u, es, i, hv, hi, h8, h1, h2, hS⟩
  cases hv
  refine s_slLoB hS Xh hq hi ?_
  intro v12 h12
  (apply s_call (take_spec X v12 (q.drop i) h12 (by rw [List.length_drop]; omega)) hS; exact Xp; clear hS)
  intro v13 post hQ w hS
  unfold TakeQ at hQ
  cases ht : takeR (q.drop i) with
  | error e =>
    rw [ht] at hQ
    obtain ⟨rfl, rfl⟩ := hQ
    (try simp only [app] at hS)
    (repeat (first | (with_reducible first | apply Q0 | refine Qa hS ?_ | refine Qb ?_ | refine Qc hS ?_ | refine Qd ?_) | ((with_reducible refine Qe hS ?_); clear hS; intro w hS; simp only [List.set] at hS) | ((with_reducible first | refine s_draw hS ?_ | refine Qf hS ?_); clear hS; intro w hS) | ((with_reducible first | refine s_new hS ?_ | refine Qg hS ?_); clear hS; intro b w hS)))
    have he := takeR_err ht
    rw [scanA_er ht] at h1 h2
    refine s_ifp (fun _ => ?_) (fun h => by omega)
    refine ⟨_, ⟨u1, es, by simpa using h1, ?_, rfl⟩, SL.into hS Xi⟩
    rw [← h2]; rfl
  | ok x =>
    obtain ⟨p, n⟩ := x
    rw [ht] at hQ
    obtain ⟨y, rfl, rfl⟩ := hQ
    (try simp only [app] at hS)
    (repeat (first | (with_reducible first | apply Q0 | refine Qa hS ?_ | refine Qb ?_ | refine Qc hS ?_ | refine Qd ?_) | ((with_reducible refine Qe hS ?_); clear hS; intro w hS; simp only [List.set] at hS) | ((with_reducible first | refine s_draw hS ?_ | refine Qf hS ?_); clear hS; intro w hS) | ((with_reducible first | refine s_new hS ?_ | refine Qg hS ?_); clear hS; intro b w hS)))
    have hl := takeR_len ht
    rw [scanA_ok ht] at h1 h2
    rw [List.length_drop] at hl
    refine s_ifp (fun h => absurd rfl h) (fun _ => ?_)
    have hone := hS.ownOne .hd
    obtain ⟨ay, cy, ey, _⟩ := OwnSl.at hS .hd
    subst ey
    refine s_bldS (cells := [.slice ay p.length cy]) hS rfl ?_
    clear hS; intro b w hS
    refine s_app (m := 1) (cs := [.slice ay p.length cy]) hS Xr (src_pt0 hS .hd rfl) rfl rfl (by intro v hv; simp only [List.mem_singleton] at hv; subst hv; rfl) (by omega) (by omega) ?_
    clear hS; intro u' w hS
    have hS := HAll.snoc (A := BEntO) (xs := es) (x := (.slice ay p.length cy, p)) (SL.into hS (t := .ob (HAll BEntO es) :: .ob (OwnSl (.slice ay p.length cy) 5 1 p.length (p.map u8c)) :: .ob (OwnSl u' 23 1 (es.length + 1) (vals es ++ [.slice ay p.length cy])) :: X :: F) Xi)
    refine s_addn (a := i) (b := n) (by omega) ?_
    refine ⟨⟨u', es ++ [(.slice ay p.length cy, p)], i + n, rfl, by omega, by simp; omega, ?_, ?_, ?_⟩, ?_⟩
    · rw [← h1, ← List.drop_drop]; simp [byts]
    · rw [← h2, ← List.drop_drop]; simp only; omega
    · rw [show (es ++ [((Value.slice ay p.length cy, p) : BEnt)]).length = es.length + 1 by simp, show vals (es ++ [((Value.slice ay p.length cy, p) : BEnt)]) = vals es ++ [.slice ay p.length cy] by simp [vals]]
      exact SL.into hS Xi
    · simp only [Int.toNat_natCast]; omega
end Go.Proofs.Ytilgfgghjdomcaa
namespace Go.Proofs.Ytilgfgghjdomcaa
set_option linter.unusedVariables false
set_option maxRecDepth 100000
open Go.RowKit

theorem encFs_hd {n : Nat} (h : n ≤ 1099511627776) : encFs [⟨1, n, ⟨#[]⟩⟩] = .ok (hdB n) := by
  have e : unsig (n : Int) = (n : Int) := by unfold unsig; omega
  unfold encFs
  rw [if_neg (by simp), if_pos (by simp [rightF])]
  show Except.ok (numB ((1 : Nat) : Int) 2 ++ (encF ⟨1, n, ⟨#[]⟩⟩ ++ [])) = _
  unfold encF
  rw [if_pos rfl, e]
  show Except.ok ([lowB ((1 : Int).fdiv (2 ^ (8 * 1))), lowB ((1 : Int).fdiv (2 ^ (8 * 0)))] ++ (lowB 1 :: numB n 8 ++ [])) = _
  rw [List.append_nil]
  rfl
def HeadQ (n : Int) (r : Value) (post : List Chunk) : Prop := if n < 1 ∨ 1099511627776 < n then r = .tuple #[.slice none 0 0, .int .i64 1] ∧ post = [] else ∃ u, r = .tuple #[u, .int .i64 0] ∧ post = [.ob (OwnSl u 5 1 (recB (hdB n.toNat)).length ((recB (hdB n.toNat)).map u8c))]
/-- seg.Head -/
theorem segHead_spec (n : Int) : Spec Try.prog 52 [.int .i64 n] [] (HeadQ n) := by
  intro W F w hS; apply vc52; unfold Vc52; (try simp only [app] at hS)
  unfold HeadQ
  (repeat (first | (with_reducible first | apply Q0 | refine Qa hS ?_ | refine Qb ?_ | refine Qc hS ?_ | refine Qd ?_) | ((with_reducible refine Qe hS ?_); clear hS; intro w hS; simp only [List.set] at hS) | ((with_reducible first | refine s_draw hS ?_ | refine Qf hS ?_); clear hS; intro w hS) | ((with_reducible first | refine s_new hS ?_ | refine Qg hS ?_); clear hS; intro b w hS)))
  refine s_ifp (fun h => ?_) (fun h => ?_)
  · exact ⟨[], by rw [if_pos (.inl h)]; exact ⟨rfl, rfl⟩, hS⟩
  · (repeat (first | (with_reducible first | apply Q0 | refine Qa hS ?_ | refine Qb ?_ | refine Qc hS ?_ | refine Qd ?_) | ((with_reducible refine Qe hS ?_); clear hS; intro w hS; simp only [List.set] at hS) | ((with_reducible first | refine s_draw hS ?_ | refine Qf hS ?_); clear hS; intro w hS) | ((with_reducible first | refine s_new hS ?_ | refine Qg hS ?_); clear hS; intro b w hS)))
    refine s_ifp (fun h2 => ?_) (fun h2 => ?_)
    · exact ⟨[], by rw [if_pos (.inr h2)]; exact ⟨rfl, rfl⟩, hS⟩
    · obtain ⟨k, rfl⟩ := Int.eq_ofNat_of_zero_le (show 0 ≤ n by omega)
      have hx := encFs_hd (n := k) (by omega)
      refine s_bld (cells := fdcells ⟨1, k, ⟨#[]⟩⟩) rfl ?_
      refine s_bldS (cells := fdcells ⟨1, k, ⟨#[]⟩⟩) hS rfl ?_
      clear hS; intro p w hS
      (apply s_call (encode_spec (.pt p (fdcells ⟨1, k, ⟨#[]⟩⟩) 110) _ [⟨1, k, ⟨#[]⟩⟩] (Rdn.pt rfl) (by simp)) hS; exact Xp; clear hS)
      intro v post hQ w hS
      unfold EncQ at hQ
      rw [hx] at hQ
      obtain ⟨u, rfl, rfl⟩ := hQ
      (try simp only [app] at hS)
      (repeat (first | (with_reducible first | apply Q0 | refine Qa hS ?_ | refine Qb ?_ | refine Qc hS ?_ | refine Qd ?_) | ((with_reducible refine Qe hS ?_); clear hS; intro w hS; simp only [List.set] at hS) | ((with_reducible first | refine s_draw hS ?_ | refine Qf hS ?_); clear hS; intro w hS) | ((with_reducible first | refine s_new hS ?_ | refine Qg hS ?_); clear hS; intro b w hS)))
      refine s_ifp (fun h => absurd rfl h) (fun _ => ?_)
      (apply s_call (put_spec (.ob (OwnSl u 5 1 (hdB k).length ((hdB k).map u8c))) u (hdB k) Rdb.own (by rw [hdB_len]; omega)) hS; exact Xp; clear hS)
      intro v post hQ w hS
      unfold PutQ at hQ
      rw [if_neg (by rw [hdB_len]; omega)] at hQ
      obtain ⟨y, rfl, rfl⟩ := hQ
      (try simp only [app] at hS)
      (repeat (first | (with_reducible first | apply Q0 | refine Qa hS ?_ | refine Qb ?_ | refine Qc hS ?_ | refine Qd ?_) | ((with_reducible refine Qe hS ?_); clear hS; intro w hS; simp only [List.set] at hS) | ((with_reducible first | refine s_draw hS ?_ | refine Qf hS ?_); clear hS; intro w hS) | ((with_reducible first | refine s_new hS ?_ | refine Qg hS ?_); clear hS; intro b w hS)))
      refine ⟨[.ob (OwnSl y 5 1 (recB (hdB k)).length ((recB (hdB k)).map u8c))], ?_, SL.into hS Xi⟩
      rw [if_neg (by omega)]
      exact ⟨y, rfl, rfl⟩
abbrev SRdX (rp : Nat) (lv : Value) (n f : Int) (es : List BEnt) : List Chunk := [.pt rp [lv, .int .i64 n, .int .i64 f] 98, .ob (OwnSl lv 23 1 es.length (vals es)), .ob (HAll BEntO es)]
def hdR (es : List BEnt) : Option Int := match es with
  | [] => none
  | e :: _ => hdOf e.2
/-- seg.reader.head -/
theorem segRdHead_spec (rp : Nat) (lv : Value) (n f : Int) (es : List BEnt) : Spec Try.prog 50 [.pointer (some ⟨rp, 0, none⟩)] (SRdX rp lv n f es) (Gives (.bool (hdR es).isSome) (SRdX rp lv n ((hdR es).getD f) es)) := by
  intro W F w hS; apply vc50; unfold Vc50; (try simp only [app] at hS)
  (repeat (first | (with_reducible first | apply Q0 | refine Qa hS ?_ | refine Qb ?_ | refine Qc hS ?_ | refine Qd ?_) | ((with_reducible refine Qe hS ?_); clear hS; intro w hS; simp only [List.set] at hS) | ((with_reducible first | refine s_draw hS ?_ | refine Qf hS ?_); clear hS; intro w hS) | ((with_reducible first | refine s_new hS ?_ | refine Qg hS ?_); clear hS; intro b w hS)))
  refine s_lenO hS (t := 23) (sz := 1) (n := es.length) (cells := vals es) Xh ?_
  (repeat (first | (with_reducible first | apply Q0 | refine Qa hS ?_ | refine Qb ?_ | refine Qc hS ?_ | refine Qd ?_) | ((with_reducible refine Qe hS ?_); clear hS; intro w hS; simp only [List.set] at hS) | ((with_reducible first | refine s_draw hS ?_ | refine Qf hS ?_); clear hS; intro w hS) | ((with_reducible first | refine s_new hS ?_ | refine Qg hS ?_); clear hS; intro b w hS)))
  refine s_ifp (fun h => ?_) (fun h => ?_)
  · have : es = [] := List.eq_nil_of_length_eq_zero (by omega)
    subst this
    exact ⟨_, ⟨rfl, rfl⟩, hS⟩
  · obtain ⟨e, es, rfl⟩ : ∃ e es', es = e :: es' := by
      cases es with
      | nil => simp at h
      | cons e es' => exact ⟨e, es', rfl⟩
    (repeat (first | (with_reducible first | apply Q0 | refine Qa hS ?_ | refine Qb ?_ | refine Qc hS ?_ | refine Qd ?_) | ((with_reducible refine Qe hS ?_); clear hS; intro w hS; simp only [List.set] at hS) | ((with_reducible first | refine s_draw hS ?_ | refine Qf hS ?_); clear hS; intro w hS) | ((with_reducible first | refine s_new hS ?_ | refine Qg hS ?_); clear hS; intro b w hS)))
    refine s_get1O (j := 0) hS (t := 23) (n := (e :: es).length) (cells := vals (e :: es)) Xh (by simp) (u := e.1) rfl ?_
    have hS := HAll.take (t := 0) (x := e) (SL.into hS (t := .ob (HAll BEntO (e :: es)) :: .pt rp [lv, .int .i64 n, .int .i64 f] 98 :: .ob (OwnSl lv 23 1 (e :: es).length (vals (e :: es))) :: F) Xi) rfl
    have hback : ∀ {w : World} {k : Int}, SL W (.ob (BEntO e) :: .ob (HAll BEntO ((e :: es).eraseIdx 0)) :: .pt rp [lv, .int .i64 n, .int .i64 k] 98 :: .ob (OwnSl lv 23 1 (e :: es).length (vals (e :: es))) :: F) w →
        SL W (.pt rp [lv, .int .i64 n, .int .i64 k] 98 :: .ob (OwnSl lv 23 1 (e :: es).length (vals (e :: es))) :: .ob (HAll BEntO (e :: es)) :: F) w := fun {w k} h => by
      have h2 : SL W (.ob (HAll BEntO (e :: es)) :: .pt rp [lv, .int .i64 n, .int .i64 k] 98 :: .ob (OwnSl lv 23 1 (e :: es).length (vals (e :: es))) :: F) w := HAll.put h (by simp)
      exact SL.into h2 Xi
    have hR : Rdb (.ob (BEntO e)) e.1 e.2 := Rdb.own
    (apply s_call (decode_spec (.ob (BEntO e)) e.1 e.2 hR) hS; exact Xp; clear hS)
    intro v post hQ w hS
    unfold DecQ at hQ
    have hh : hdR (e :: es) = hdOf e.2 := rfl
    rw [hh]
    unfold hdOf
    cases hd : decF e.2 with
    | error k =>
      rw [hd] at hQ
      obtain ⟨rfl, rfl⟩ := hQ
      (try simp only [app] at hS)
      (repeat (first | (with_reducible first | apply Q0 | refine Qa hS ?_ | refine Qb ?_ | refine Qc hS ?_ | refine Qd ?_) | ((with_reducible refine Qe hS ?_); clear hS; intro w hS; simp only [List.set] at hS) | ((with_reducible first | refine s_draw hS ?_ | refine Qf hS ?_); clear hS; intro w hS) | ((with_reducible first | refine s_new hS ?_ | refine Qg hS ?_); clear hS; intro b w hS)))
      have hk : k ≠ 0 := by
        intro hk
        rw [decF_eq] at hd
        split at hd
        · cases hd
        · rename_i h0
          cases hd; exact h0 hk
      refine s_ifp (fun _ => ?_) (fun h => absurd hk h)
      exact ⟨_, ⟨rfl, rfl⟩, hback hS⟩
    | ok l =>
      rw [hd] at hQ
      obtain ⟨y, rfl, rfl⟩ := hQ
      (try simp only [app] at hS)
      (repeat (first | (with_reducible first | apply Q0 | refine Qa hS ?_ | refine Qb ?_ | refine Qc hS ?_ | refine Qd ?_) | ((with_reducible refine Qe hS ?_); clear hS; intro w hS; simp only [List.set] at hS) | ((with_reducible first | refine s_draw hS ?_ | refine Qf hS ?_); clear hS; intro w hS) | ((with_reducible first | refine s_new hS ?_ | refine Qg hS ?_); clear hS; intro b w hS)))
      refine s_ifp (fun h => absurd rfl h) (fun _ => ?_)
      refine s_lenO hS (t := 110) (sz := 3) (n := l.length) (cells := (l.map fdcells).flatten) Xh ?_
      (repeat (first | (with_reducible first | apply Q0 | refine Qa hS ?_ | refine Qb ?_ | refine Qc hS ?_ | refine Qd ?_) | ((with_reducible refine Qe hS ?_); clear hS; intro w hS; simp only [List.set] at hS) | ((with_reducible first | refine s_draw hS ?_ | refine Qf hS ?_); clear hS; intro w hS) | ((with_reducible first | refine s_new hS ?_ | refine Qg hS ?_); clear hS; intro b w hS)))
      refine s_ifp (fun h1 => ?_) (fun h1 => ?_)
      · have : hdF l = none := by
          match l, h1 with
          | [], _ => rfl
          | [x], h1 => simp at h1
          | _ :: _ :: _, _ => rfl
        simp only [this]
        exact ⟨_, ⟨rfl, rfl⟩, hback (k := f) (SL.into hS Xi)⟩
      · obtain ⟨x, rfl⟩ : ∃ x, l = [x] := List.length_eq_one_iff.1 (by omega)
        have hx : hdF [x] = if x.kind = 1 ∧ 1 ≤ x.n ∧ x.n ≤ 1099511627776 then some x.n else none := rfl
        simp only [hx]
        refine s_getFO (j := 0) (i := 0) (x := x) (xs := [x]) hS (t := 110) (sz := 3) (n := 1) Xh fdcells_len rfl (by omega) (u := .int .i64 x.kind) rfl ?_
        (repeat (first | (with_reducible first | apply Q0 | refine Qa hS ?_ | refine Qb ?_ | refine Qc hS ?_ | refine Qd ?_) | ((with_reducible refine Qe hS ?_); clear hS; intro w hS; simp only [List.set] at hS) | ((with_reducible first | refine s_draw hS ?_ | refine Qf hS ?_); clear hS; intro w hS) | ((with_reducible first | refine s_new hS ?_ | refine Qg hS ?_); clear hS; intro b w hS)))
        refine s_ifp (fun h2 => ?_) (fun h2 => ?_)
        · rw [if_neg (by omega)]
          exact ⟨_, ⟨rfl, rfl⟩, hback (k := f) (SL.into hS Xi)⟩
        · refine s_getFO (j := 0) (i := 1) (x := x) (xs := [x]) hS (t := 110) (sz := 3) (n := 1) Xh fdcells_len rfl (by omega) (u := .int .i64 x.n) rfl ?_
          (repeat (first | (with_reducible first | apply Q0 | refine Qa hS ?_ | refine Qb ?_ | refine Qc hS ?_ | refine Qd ?_) | ((with_reducible refine Qe hS ?_); clear hS; intro w hS; simp only [List.set] at hS) | ((with_reducible first | refine s_draw hS ?_ | refine Qf hS ?_); clear hS; intro w hS) | ((with_reducible first | refine s_new hS ?_ | refine Qg hS ?_); clear hS; intro b w hS)))
          refine s_ifp (fun h3 => ?_) (fun h3 => ?_)
          · rw [if_neg (by omega)]
            exact ⟨_, ⟨rfl, rfl⟩, hback (k := f) (SL.into hS Xi)⟩
          · refine s_getFO (j := 0) (i := 1) (x := x) (xs := [x]) hS (t := 110) (sz := 3) (n := 1) Xh fdcells_len rfl (by omega) (u := .int .i64 x.n) rfl ?_
            (repeat (first | (with_reducible first | apply Q0 | refine Qa hS ?_ | refine Qb ?_ | refine Qc hS ?_ | refine Qd ?_) | ((with_reducible refine Qe hS ?_); clear hS; intro w hS; simp only [List.set] at hS) | ((with_reducible first | refine s_draw hS ?_ | refine Qf hS ?_); clear hS; intro w hS) | ((with_reducible first | refine s_new hS ?_ | refine Qg hS ?_); clear hS; intro b w hS)))
            refine s_ifp (fun h4 => ?_) (fun h4 => ?_)
            · rw [if_neg (by omega)]
              exact ⟨_, ⟨rfl, rfl⟩, hback (k := f) (SL.into hS Xi)⟩
            · rw [if_pos ⟨by omega, by omega, by omega⟩]
              refine s_getFO (j := 0) (i := 1) (x := x) (xs := [x]) hS (t := 110) (sz := 3) (n := 1) Xh fdcells_len rfl (by omega) (u := .int .i64 x.n) rfl ?_
              (repeat (first | (with_reducible first | apply Q0 | refine Qa hS ?_ | refine Qb ?_ | refine Qc hS ?_ | refine Qd ?_) | ((with_reducible refine Qe hS ?_); clear hS; intro w hS; simp only [List.set] at hS) | ((with_reducible first | refine s_draw hS ?_ | refine Qf hS ?_); clear hS; intro w hS) | ((with_reducible first | refine s_new hS ?_ | refine Qg hS ?_); clear hS; intro b w hS)))
              exact ⟨_, ⟨rfl, rfl⟩, hback (k := x.n) (SL.into hS Xi)⟩
def ReadQ2 (X : Chunk) (q : List UInt8) (r : Value) (post : List Chunk) : Prop := match readS q with
  | none => r = .tuple #[.int .i64 0, .slice none 0 0, .int .i64 0, .int .i64 3] ∧ post = [X]
  | some (f, l, n) => ∃ (u : Value) (es : List BEnt), byts es = l ∧ r = .tuple #[.int .i64 f, u, .int .i64 (n : Nat), .int .i64 0] ∧ post = [.ob (OwnSo u 23 1 es.length (vals es)), .ob (HAll BEntO es), X]
def readE (es : List BEnt) (n : Nat) : Option (Int × List (List UInt8) × Nat) := match es with
  | [] => none
  | e :: es' => (hdOf e.2).map fun k => (k, byts es', n)
theorem readS_es {q : List UInt8} {es : List BEnt} (he : byts es = (scanA q).1) : readS q = readE es (scanA q).2 := by
  unfold readS
  rw [← he]
  cases es with
  | nil => rfl
  | cons e es => rfl
/-- seg.Read -/
theorem segRead_spec (X : Chunk) (v : Value) (q : List UInt8) (hq : Rdb X v q) (hN : q.length ≤ 10000000000) : Spec Try.prog 41 [v] [X] (ReadQ2 X q) := by
  intro W F w hS; apply vc41; unfold Vc41; (try simp only [app] at hS)
  (apply s_call (scan_spec X v q hq hN) hS; exact Xp; clear hS)
  rintro r post ⟨u, es, he, rfl, rfl⟩ w hS; (try simp only [app] at hS)
  have hone := hS.ownOne .hd
  obtain ⟨au, cu, eu, _⟩ := OwnSl.at hS .hd
  subst eu
  (repeat (first | (with_reducible first | apply Q0 | refine Qa hS ?_ | refine Qb ?_ | refine Qc hS ?_ | refine Qd ?_) | ((with_reducible refine Qe hS ?_); clear hS; intro w hS; simp only [List.set] at hS) | ((with_reducible first | refine s_draw hS ?_ | refine Qf hS ?_); clear hS; intro w hS) | ((with_reducible first | refine s_new hS ?_ | refine Qg hS ?_); clear hS; intro b w hS)))
  refine ⟨_, rfl, s_new hS ?_⟩
  clear hS; intro rp w hS
  have hS : SL W (.pt rp [.slice au es.length cu, .int .i64 ((scanA q).2 : Nat), .int .i64 0] 98 :: .ob (OwnSl (.slice au es.length cu) 23 1 es.length (vals es)) :: .ob (HAll BEntO es) :: X :: F) w := hS
  (apply s_call (segRdHead_spec rp (.slice au es.length cu) ((scanA q).2 : Nat) 0 es) hS; exact Xp; clear hS)
  rintro v post ⟨rfl, rfl⟩ w hS; (try simp only [app] at hS)
  refine s_not ?_
  have hr := readS_es he
  cases hd : hdR es with
  | none =>
    refine s_ift ?_
    refine ⟨[X], ?_, SL.into hS Xi⟩
    unfold ReadQ2
    have : readS q = none := by
      rw [hr]
      cases es with
      | nil => rfl
      | cons e es => have hd : hdOf e.2 = none := hd; show (hdOf e.2).map _ = none; rw [hd]; rfl
    rw [this]; exact ⟨rfl, rfl⟩
  | some k =>
    refine s_iff ?_
    cases es with
    | nil => cases hd
    | cons e es =>
      have hd : hdOf e.2 = some k := hd
      have hr : readS q = some (k, byts es, (scanA q).2) := by
        rw [hr]; show (hdOf e.2).map _ = _; rw [hd]; rfl
      rw [show (hdR (e :: es)).getD 0 = k by show (hdOf e.2).getD 0 = k; rw [hd]; rfl] at hS
      (repeat (first | (with_reducible first | apply Q0 | refine Qa hS ?_ | refine Qb ?_ | refine Qc hS ?_ | refine Qd ?_) | ((with_reducible refine Qe hS ?_); clear hS; intro w hS; simp only [List.set] at hS) | ((with_reducible first | refine s_draw hS ?_ | refine Qf hS ?_); clear hS; intro w hS) | ((with_reducible first | refine s_new hS ?_ | refine Qg hS ?_); clear hS; intro b w hS)))
      have hS := HAll.take (t := 0) (x := e) (SL.into hS (t := .ob (HAll BEntO (e :: es)) :: .pt rp [.slice au (e :: es).length cu, .int .i64 ((scanA q).2 : Nat), .int .i64 k] 98 :: .ob (OwnSl (.slice au (e :: es).length cu) 23 1 (e :: es).length (vals (e :: es))) :: X :: F) Xi) rfl
      have hS := OwnSo.of (SL.into hS (t := .ob (OwnSl (.slice au (e :: es).length cu) 23 1 (e :: es).length (vals (e :: es))) :: .pt rp [.slice au (e :: es).length cu, .int .i64 ((scanA q).2 : Nat), .int .i64 k] 98 :: .ob (HAll BEntO ((e :: es).eraseIdx 0)) :: X :: F) Xi)
      refine s_slSo (k := 1) hS (by simp) ?_
      clear hS; intro y hS
      have e1 : (e :: es).length - 1 = es.length := by simp
      have e2 : (vals (e :: es)).drop (1 * 1) = vals es := rfl
      have e3 : (e :: es).eraseIdx 0 = es := rfl
      rw [e1, e2, e3] at hS
      (repeat (first | (with_reducible first | apply Q0 | refine Qa hS ?_ | refine Qb ?_ | refine Qc hS ?_ | refine Qd ?_) | ((with_reducible refine Qe hS ?_); clear hS; intro w hS; simp only [List.set] at hS) | ((with_reducible first | refine s_draw hS ?_ | refine Qf hS ?_); clear hS; intro w hS) | ((with_reducible first | refine s_new hS ?_ | refine Qg hS ?_); clear hS; intro b w hS)))
      refine ⟨[.ob (OwnSo y 23 1 es.length (vals es)), .ob (HAll BEntO es), X], ?_, SL.into hS Xi⟩
      unfold ReadQ2
      rw [hr]
      exact ⟨y, es, rfl, rfl, rfl⟩
end Go.Proofs.Ytilgfgghjdomcaa
namespace Go.Proofs.Ytilgfgghjdomcaa
set_option linter.unusedVariables false
set_option maxRecDepth 100000
open Go.RowKit

/-- A segment, as it lies there. -/
structure XSeg where
  file : Int
  first : Int
  size : Nat
  es : List BEnt
  a : Option Addr
  c : Nat
def XSeg.lv (x : XSeg) : Value := .slice x.a x.es.length x.c
def XSeg.pl (x : XSeg) : PSeg := ⟨x.file, x.first, x.size, byts x.es⟩
def xcells (x : XSeg) : List Value := [.int .i64 x.file, .int .i64 x.first, .int .i64 x.size, x.lv]
theorem xcells_len (x : XSeg) : (xcells x).length = 4 := rfl
theorem byts_len (es : List BEnt) : (byts es).length = es.length := by simp [byts]
def XSegO (x : XSeg) : HProp := HFact True [.ob (OwnSo x.lv 23 1 x.es.length (vals x.es)), .ob (HAll BEntO x.es)]
theorem XSegO.iff {W w : World} {x : XSeg} {l : List Chunk} : SL W (.ob (XSegO x) :: l) w ↔ SL W (.ob (OwnSo x.lv 23 1 x.es.length (vals x.es)) :: .ob (HAll BEntO x.es) :: l) w := by
  unfold XSegO
  simp only [SL.fact, List.cons_append, List.nil_append, true_and]
def TornO (v : Value) (t : Option PTorn) : HProp := match t with
  | none => HFact (v = .pointer none) []
  | some x => HEx fun b : Nat => HFact (v = .pointer (some ⟨b, 0, none⟩)) [.pt b [.int .i64 x.file, .int .i64 x.had, .bool x.fresh] 87]
theorem TornO_none {W w : World} {v : Value} {l : List Chunk} : SL W (.ob (TornO v none) :: l) w ↔ v = .pointer none ∧ SL W l w := by
  unfold TornO
  simp only [SL.fact, List.nil_append]
theorem TornO_some {W w : World} {v : Value} {x : PTorn} {l : List Chunk} : SL W (.ob (TornO v (some x)) :: l) w ↔ ∃ b : Nat, v = .pointer (some ⟨b, 0, none⟩) ∧ SL W (.pt b [.int .i64 x.file, .int .i64 x.had, .bool x.fresh] 87 :: l) w := by
  unfold TornO
  simp only [SL.ex, SL.fact, List.cons_append, List.nil_append]
theorem TornO_one {W w : World} {v : Value} {t : Option PTorn} {l : List Chunk} (h : SL W (.ob (TornO v t) :: l) w) : v.oneCell' = true := by
  cases t with
  | none => rw [(TornO_none.1 h).1]; rfl
  | some x => obtain ⟨b, rfl, _⟩ := TornO_some.1 h; rfl
abbrev lcells (sv tv : Value) (dp : Nat) (base size : Int) : List Value := [sv, .pointer (some ⟨dp, 0, none⟩), .int .i64 base, .int .i64 size, tv]
abbrev RowX (sv : Value) (xs : List XSeg) : Chunk := .ob (OwnSo sv 71 4 xs.length (xs.map xcells).flatten)
abbrev LogX (lp dp : Nat) (base size : Int) (t : Option PTorn) (sv tv : Value) (xs : List XSeg) : List Chunk := [.pt lp (lcells sv tv dp base size) 46, RowX sv xs, .ob (HAll XSegO xs), .ob (TornO tv t)]
/-- A log. -/
def LogO (lp dp : Nat) (g : PLog) : HProp := HEx fun x : Value × Value × List XSeg => HFact (x.2.2.map XSeg.pl = g.segs) (LogX lp dp g.base g.size g.torn x.1 x.2.1 x.2.2)
theorem LogO.iff {W w : World} {lp dp : Nat} {g : PLog} {l : List Chunk} : SL W (.ob (LogO lp dp g) :: l) w ↔ ∃ sv tv xs, xs.map XSeg.pl = g.segs ∧ SL W (.pt lp (lcells sv tv dp g.base g.size) 46 :: RowX sv xs :: .ob (HAll XSegO xs) :: .ob (TornO tv g.torn) :: l) w := by
  unfold LogO LogX
  simp only [SL.ex, SL.fact, List.cons_append, List.nil_append]
  exact ⟨fun ⟨x, h1, h2⟩ => ⟨x.1, x.2.1, x.2.2, h1, h2⟩, fun ⟨a, b, c, h1, h2⟩ => ⟨(a, b, c), h1, h2⟩⟩
section
variable {W w : World} {l : List Chunk}
/-- One segment's cells. -/
theorem s_segSo {v : Value} {xs : List XSeg} {j : Nat} {k : IntKind} {K : Value → Prop} (h : SL W l w) (m : Has (RowX v xs) l) (hj : j < xs.length) (hK : K (.agg (xcells xs[j]).toArray)) : HIdx 4 v (.int k (j : Int)) fun p => HLdN 4 p w K := by
  refine s_idxSo h m hj fun b o hb => ⟨⟨b, o, none⟩, xcells xs[j], rfl, rfl, fun i u hu => ?_, hK⟩
  rw [Addr.add_lit]
  have hi : i < 4 := (List.getElem?_eq_some_iff.1 hu).1
  exact hb i u hi (flat_get xcells_len hj hu)
theorem s_segF {v u : Value} {xs : List XSeg} {i j : Nat} {k : IntKind} {K : Value → Prop} (h : SL W l w) (m : Has (RowX v xs) l) (hj : j < xs.length) (hu : (xcells xs[j])[i]? = some u) (hK : K u) : HIdx 4 v (.int k (j : Int)) fun p => HFld i p fun q => HLd q w K := by
  refine s_idxSo h m hj fun b o hb => ?_
  refine s_fld ?_
  have hi : i < 4 := (List.getElem?_eq_some_iff.1 hu).1
  exact ⟨_, u, rfl, hb i u hi (flat_get xcells_len hj hu), hK⟩
end
theorem flatX_len (xs : List XSeg) : (xs.map xcells).flatten.length = xs.length * 4 := by
  induction xs with
  | nil => rfl
  | cons x xs ih => simp [ih, xcells_len]; omega
/-- wal.segment.next -/
theorem next39_spec (f n s : Int) (a : Option Addr) (k c : Nat) (h : -1000000000000000 ≤ n ∧ n ≤ 1000000000000000) (hk : k ≤ 1000000000000000) : Spec Try.prog 39 [.agg #[.int .i64 f, .int .i64 n, .int .i64 s, .slice a k c]] [] (Gives (.int .i64 (n + k)) []) := by
  intro W F w hS; apply vc39; unfold Vc39; (try simp only [app] at hS)
  refine ⟨[.int .i64 f, .int .i64 n, .int .i64 s, .slice a k c], rfl, ?_⟩
  (repeat (first | (with_reducible first | apply Q0 | refine Qa hS ?_ | refine Qb ?_ | refine Qc hS ?_ | refine Qd ?_) | ((with_reducible refine Qe hS ?_); clear hS; intro w hS; simp only [List.set] at hS) | ((with_reducible first | refine s_draw hS ?_ | refine Qf hS ?_); clear hS; intro w hS) | ((with_reducible first | refine s_new hS ?_ | refine Qg hS ?_); clear hS; intro b w hS)))
  (exact ⟨_, ⟨rfl, rfl⟩, SL.into hS Xi⟩)
theorem nextX_spec (x : XSeg) {N : Nat} (h : SegOk x.pl N) (hN : N ≤ 1000000000000000) : Spec Try.prog 39 [.agg (xcells x).toArray] [] (Gives (.int .i64 x.pl.next) []) := by
  have h1 := h.n0; have h2 := h.n1; have h3 := h.ln
  have e : x.pl.next = x.first + x.es.length := by simp [PSeg.next, XSeg.pl, byts_len]
  rw [e]
  have h3 : x.es.length ≤ N := by simpa [XSeg.pl, byts_len] using h3
  exact next39_spec x.file x.first x.size x.a x.es.length x.c (by simp only [XSeg.pl] at h1 h2; omega) (by omega)
abbrev AtSegs (cs : List Value) (sv : Value) : Prop := cs[0]? = some sv
/-- wal.reader.Head -/
theorem headL_spec (lp : Nat) (cs : List Value) (t : TypeId) (sv : Value) (xs : List XSeg) (hcs : cs[0]? = some sv) {N : Nat} (h : ∀ s ∈ xs.map XSeg.pl, SegOk s N) (hN : N ≤ 1000000000000000) (hl : xs.length ≤ 1000000000000000) :
    Spec Try.prog 16 [.pointer (some ⟨lp, 0, none⟩)] [.pt lp cs t, RowX sv xs] (Gives (.int .i64 (headG (xs.map XSeg.pl))) [.pt lp cs t, RowX sv xs]) := by
  intro W F w hS; apply vc16; unfold Vc16; (try simp only [app] at hS)
  (repeat (first | (with_reducible first | apply Q0 | refine Qa hS ?_ | refine Qb ?_ | refine Qc hS ?_ | refine Qd ?_) | ((with_reducible refine Qe hS ?_); clear hS; intro w hS; simp only [List.set] at hS) | ((with_reducible first | refine s_draw hS ?_ | refine Qf hS ?_); clear hS; intro w hS) | ((with_reducible first | refine s_new hS ?_ | refine Qg hS ?_); clear hS; intro b w hS)))
  refine s_ld hS .hd hcs ?_
  refine s_lenSo hS Xh ?_
  (repeat (first | (with_reducible first | apply Q0 | refine Qa hS ?_ | refine Qb ?_ | refine Qc hS ?_ | refine Qd ?_) | ((with_reducible refine Qe hS ?_); clear hS; intro w hS; simp only [List.set] at hS) | ((with_reducible first | refine s_draw hS ?_ | refine Qf hS ?_); clear hS; intro w hS) | ((with_reducible first | refine s_new hS ?_ | refine Qg hS ?_); clear hS; intro b w hS)))
  have hh := headG_ge h
  refine s_ifp (fun h0 => ?_) (fun h0 => ?_)
  · have : xs = [] := List.eq_nil_of_length_eq_zero (by omega)
    subst this
    (exact ⟨_, ⟨rfl, rfl⟩, SL.into hS Xi⟩)
  · (repeat (first | (with_reducible first | apply Q0 | refine Qa hS ?_ | refine Qb ?_ | refine Qc hS ?_ | refine Qd ?_) | ((with_reducible refine Qe hS ?_); clear hS; intro w hS; simp only [List.set] at hS) | ((with_reducible first | refine s_draw hS ?_ | refine Qf hS ?_); clear hS; intro w hS) | ((with_reducible first | refine s_new hS ?_ | refine Qg hS ?_); clear hS; intro b w hS)))
    refine s_ld hS .hd hcs ?_
    (repeat (first | (with_reducible first | apply Q0 | refine Qa hS ?_ | refine Qb ?_ | refine Qc hS ?_ | refine Qd ?_) | ((with_reducible refine Qe hS ?_); clear hS; intro w hS; simp only [List.set] at hS) | ((with_reducible first | refine s_draw hS ?_ | refine Qf hS ?_); clear hS; intro w hS) | ((with_reducible first | refine s_new hS ?_ | refine Qg hS ?_); clear hS; intro b w hS)))
    refine s_ld hS .hd hcs ?_
    refine s_lenSo hS Xh ?_
    (repeat (first | (with_reducible first | apply Q0 | refine Qa hS ?_ | refine Qb ?_ | refine Qc hS ?_ | refine Qd ?_) | ((with_reducible refine Qe hS ?_); clear hS; intro w hS; simp only [List.set] at hS) | ((with_reducible first | refine s_draw hS ?_ | refine Qf hS ?_); clear hS; intro w hS) | ((with_reducible first | refine s_new hS ?_ | refine Qg hS ?_); clear hS; intro b w hS)))
    have e : ((xs.length : Nat) : Int) - 1 = ((xs.length - 1 : Nat) : Int) := by omega
    rw [e]
    have hj : xs.length - 1 < xs.length := by omega
    refine s_segSo hS Xh hj ?_
    have hm : (xs[xs.length - 1]'hj).pl ∈ xs.map XSeg.pl := List.mem_map.2 ⟨_, List.getElem_mem hj, rfl⟩
    have hg : headG (xs.map XSeg.pl) = (xs[xs.length - 1]'hj).pl.next - 1 := by
      unfold headG
      rw [List.getLast?_map, List.getLast?_eq_getElem?, List.getElem?_eq_getElem hj]; rfl
    have hok := h _ hm
    rw [hg] at hh ⊢
    (apply s_call (nextX_spec _ hok hN) hS; exact Xp; clear hS)
    (rintro v post ⟨rfl, rfl⟩ w hS; (try simp only [app] at hS); (repeat (first | (with_reducible first | apply Q0 | refine Qa hS ?_ | refine Qb ?_ | refine Qc hS ?_ | refine Qd ?_) | ((with_reducible refine Qe hS ?_); clear hS; intro w hS; simp only [List.set] at hS) | ((with_reducible first | refine s_draw hS ?_ | refine Qf hS ?_); clear hS; intro w hS) | ((with_reducible first | refine s_new hS ?_ | refine Qg hS ?_); clear hS; intro b w hS))))
    exact ⟨_, ⟨rfl, rfl⟩, SL.into hS Xi⟩
/-- wal.reader.Low -/
theorem lowL_spec (lp : Nat) (cs : List Value) (t : TypeId) (sv : Value) (xs : List XSeg) (hcs : cs[0]? = some sv) (hl : xs.length ≤ 1000000000000000) :
    Spec Try.prog 22 [.pointer (some ⟨lp, 0, none⟩)] [.pt lp cs t, RowX sv xs] (Gives (.int .i64 (lowG (xs.map XSeg.pl))) [.pt lp cs t, RowX sv xs]) := by
  intro W F w hS; apply vc22; unfold Vc22; (try simp only [app] at hS)
  (repeat (first | (with_reducible first | apply Q0 | refine Qa hS ?_ | refine Qb ?_ | refine Qc hS ?_ | refine Qd ?_) | ((with_reducible refine Qe hS ?_); clear hS; intro w hS; simp only [List.set] at hS) | ((with_reducible first | refine s_draw hS ?_ | refine Qf hS ?_); clear hS; intro w hS) | ((with_reducible first | refine s_new hS ?_ | refine Qg hS ?_); clear hS; intro b w hS)))
  refine s_ld hS .hd hcs ?_
  refine s_lenSo hS Xh ?_
  (repeat (first | (with_reducible first | apply Q0 | refine Qa hS ?_ | refine Qb ?_ | refine Qc hS ?_ | refine Qd ?_) | ((with_reducible refine Qe hS ?_); clear hS; intro w hS; simp only [List.set] at hS) | ((with_reducible first | refine s_draw hS ?_ | refine Qf hS ?_); clear hS; intro w hS) | ((with_reducible first | refine s_new hS ?_ | refine Qg hS ?_); clear hS; intro b w hS)))
  refine s_ifp (fun h0 => ?_) (fun h0 => ?_)
  · have : xs = [] := List.eq_nil_of_length_eq_zero (by omega)
    subst this
    (exact ⟨_, ⟨rfl, rfl⟩, SL.into hS Xi⟩)
  · cases xs with
    | nil => simp at h0
    | cons x xs =>
      (repeat (first | (with_reducible first | apply Q0 | refine Qa hS ?_ | refine Qb ?_ | refine Qc hS ?_ | refine Qd ?_) | ((with_reducible refine Qe hS ?_); clear hS; intro w hS; simp only [List.set] at hS) | ((with_reducible first | refine s_draw hS ?_ | refine Qf hS ?_); clear hS; intro w hS) | ((with_reducible first | refine s_new hS ?_ | refine Qg hS ?_); clear hS; intro b w hS)))
      refine s_ld hS .hd hcs ?_
      refine s_segF (j := 0) (i := 1) hS Xh (by simp) (u := .int .i64 x.first) rfl ?_
      exact ⟨_, ⟨rfl, rfl⟩, hS⟩
/-- wal.reader.Segments -/
theorem segmentsL_spec (lp : Nat) (cs : List Value) (t : TypeId) (sv : Value) (xs : List XSeg) (hcs : cs[0]? = some sv) :
    Spec Try.prog 20 [.pointer (some ⟨lp, 0, none⟩)] [.pt lp cs t, RowX sv xs] (Gives (.int .i64 xs.length) [.pt lp cs t, RowX sv xs]) := by
  intro W F w hS; apply vc20; unfold Vc20; (try simp only [app] at hS)
  (repeat (first | (with_reducible first | apply Q0 | refine Qa hS ?_ | refine Qb ?_ | refine Qc hS ?_ | refine Qd ?_) | ((with_reducible refine Qe hS ?_); clear hS; intro w hS; simp only [List.set] at hS) | ((with_reducible first | refine s_draw hS ?_ | refine Qf hS ?_); clear hS; intro w hS) | ((with_reducible first | refine s_new hS ?_ | refine Qg hS ?_); clear hS; intro b w hS)))
  refine s_ld hS .hd hcs ?_
  refine s_lenSo hS Xh ?_
  (exact ⟨_, ⟨rfl, rfl⟩, SL.into hS Xi⟩)
end Go.Proofs.Ytilgfgghjdomcaa
namespace Go.Proofs.Ytilgfgghjdomcaa
set_option linter.unusedVariables false
set_option maxRecDepth 100000
open Go.RowKit

theorem HAll.back {W w : World} {l : List Chunk} {α : Type} {A : α → HProp} {xs : List α} {t : Nat} {x : α} (h : SL W (.ob (A x) :: .ob (HAll A (xs.eraseIdx t)) :: l) w) (hx : xs[t]? = some x) : SL W (.ob (HAll A xs) :: l) w := by
  obtain ⟨ht, e⟩ := List.getElem?_eq_some_iff.1 hx
  have := HAll.put h ht
  rwa [← e, List.set_getElem_self] at this
theorem xseg_next (x : XSeg) : x.pl.next = x.first + x.es.length := by simp [PSeg.next, XSeg.pl, byts_len]
theorem readG_at (xs : List XSeg) (i : Nat) (n : Int) : readG ((xs.drop i).map XSeg.pl) n = match xs[i]? with
  | none => none
  | some x => if x.first ≤ n ∧ n < x.pl.next then (byts x.es)[(n - x.first).toNat]? else readG ((xs.drop (i + 1)).map XSeg.pl) n := by
  cases h : xs[i]? with
  | none =>
    have : xs.drop i = [] := List.drop_eq_nil_of_le (by rw [List.getElem?_eq_none_iff] at h; exact h)
    rw [this]; rfl
  | some x =>
    obtain ⟨hi, e⟩ := List.getElem?_eq_some_iff.1 h
    rw [List.drop_eq_getElem_cons hi, e]; rfl
def ReadLQ (pre : List Chunk) (o : Option (List UInt8)) (r : Value) (post : List Chunk) : Prop := match o with
  | none => r = .tuple #[.slice none 0 0, .int .i64 5] ∧ post = pre
  | some b => ∃ u, r = .tuple #[u, .int .i64 0] ∧ post = .ob (OwnSl u 5 1 b.length (b.map u8c)) :: pre
/-- wal.reader.Read -/
theorem readL_spec (lp : Nat) (cs : List Value) (t : TypeId) (sv : Value) (xs : List XSeg) (n : Int) (hcs : cs[0]? = some sv) {N : Nat} (h : ∀ s ∈ xs.map XSeg.pl, SegOk s N) (hN : N ≤ 1000000000000000) (hl : xs.length ≤ 1000000000000000) (hn : -9000000000000000000 ≤ n ∧ n ≤ 9000000000000000000) :
    Spec Try.prog 17 [.pointer (some ⟨lp, 0, none⟩), .int .i64 n] [.pt lp cs t, RowX sv xs, .ob (HAll XSegO xs)] (ReadLQ [.pt lp cs t, RowX sv xs, .ob (HAll XSegO xs)] (readG (xs.map XSeg.pl) n)) := by
  intro W F w hS; apply vc17; unfold Vc17; (try simp only [app] at hS)
  (repeat (first | (with_reducible first | apply Q0 | refine Qa hS ?_ | refine Qb ?_ | refine Qc hS ?_ | refine Qd ?_) | ((with_reducible refine Qe hS ?_); clear hS; intro w hS; simp only [List.set] at hS) | ((with_reducible first | refine s_draw hS ?_ | refine Qf hS ?_); clear hS; intro w hS) | ((with_reducible first | refine s_new hS ?_ | refine Qg hS ?_); clear hS; intro b w hS)))
  refine s_ld hS .hd hcs ?_
  refine s_lenSo hS Xh ?_
  refine ⟨fun vs w => ∃ i : Nat, i ≤ xs.length ∧ vs = [.int .i64 i] ∧ readG (xs.map XSeg.pl) n = readG ((xs.drop i).map XSeg.pl) n ∧ SL W (.pt lp cs t :: RowX sv xs :: .ob (HAll XSegO xs) :: F) w, fun vs _ => match vs with
    | [.int _ i] => xs.length - i.toNat
    | _ => 0, ⟨0, by omega, rfl, rfl, hS⟩, ?_⟩
  clear hS
  rintro v1 w1 ⟨i, hi, hv, hr, hS⟩
  cases hv
  rw [readG_at] at hr
  (repeat (first | (with_reducible first | apply Q0 | refine Qa hS ?_ | refine Qb ?_ | refine Qc hS ?_ | refine Qd ?_) | ((with_reducible refine Qe hS ?_); clear hS; intro w hS; simp only [List.set] at hS) | ((with_reducible first | refine s_draw hS ?_ | refine Qf hS ?_); clear hS; intro w hS) | ((with_reducible first | refine s_new hS ?_ | refine Qg hS ?_); clear hS; intro b w hS)))
  refine s_ifp (fun h0 => ?_) (fun h0 => ?_)
  · have hj : i < xs.length := by omega
    have hx : xs[i]? = some xs[i] := List.getElem?_eq_getElem hj
    refine s_segSo hS Xh hj ?_
    have hok := h _ (List.mem_map.2 ⟨_, List.getElem_mem hj, rfl⟩)
    rw [hx] at hr
    simp only at hr
    generalize xs[i] = x at *
    have hnx := xseg_next x
    unfold xcells XSeg.lv
    (repeat (first | (with_reducible first | apply Q0 | refine Qa hS ?_ | refine Qb ?_ | refine Qc hS ?_ | refine Qd ?_) | ((with_reducible refine Qe hS ?_); clear hS; intro w hS; simp only [List.set] at hS) | ((with_reducible first | refine s_draw hS ?_ | refine Qf hS ?_); clear hS; intro w hS) | ((with_reducible first | refine s_new hS ?_ | refine Qg hS ?_); clear hS; intro b w hS)))
    refine s_ifp (fun h1 => ?_) (fun h1 => ?_)
    · (repeat (first | (with_reducible first | apply Q0 | refine Qa hS ?_ | refine Qb ?_ | refine Qc hS ?_ | refine Qd ?_) | ((with_reducible refine Qe hS ?_); clear hS; intro w hS; simp only [List.set] at hS) | ((with_reducible first | refine s_draw hS ?_ | refine Qf hS ?_); clear hS; intro w hS) | ((with_reducible first | refine s_new hS ?_ | refine Qg hS ?_); clear hS; intro b w hS)))
      (apply s_call (nextX_spec x hok hN) hS; exact Xp; clear hS)
      (rintro v post ⟨rfl, rfl⟩ w hS; (try simp only [app] at hS); (repeat (first | (with_reducible first | apply Q0 | refine Qa hS ?_ | refine Qb ?_ | refine Qc hS ?_ | refine Qd ?_) | ((with_reducible refine Qe hS ?_); clear hS; intro w hS; simp only [List.set] at hS) | ((with_reducible first | refine s_draw hS ?_ | refine Qf hS ?_); clear hS; intro w hS) | ((with_reducible first | refine s_new hS ?_ | refine Qg hS ?_); clear hS; intro b w hS))))
      refine s_ifp (fun h2 => ?_) (fun h2 => ?_)
      · rw [if_pos ⟨h1, h2⟩] at hr
        have hh1 := hok.n0
        have hh2 := hok.n1
        simp only [XSeg.pl] at hh1 hh2
        (repeat (first | (with_reducible first | apply Q0 | refine Qa hS ?_ | refine Qb ?_ | refine Qc hS ?_ | refine Qd ?_) | ((with_reducible refine Qe hS ?_); clear hS; intro w hS; simp only [List.set] at hS) | ((with_reducible first | refine s_draw hS ?_ | refine Qf hS ?_); clear hS; intro w hS) | ((with_reducible first | refine s_new hS ?_ | refine Qg hS ?_); clear hS; intro b w hS)))
        obtain ⟨j, hjn⟩ := Int.eq_ofNat_of_zero_le (show 0 ≤ n - x.first by omega)
        have hjl : j < x.es.length := by omega
        rw [hjn] at hr ⊢
        have hS := HAll.take (SL.into hS (t := .ob (HAll XSegO xs) :: .pt lp cs t :: RowX sv xs :: F) Xi) hx
        have hS := XSegO.iff.1 hS
        unfold XSeg.lv at hS
        refine s_idxSo (j := j) hS .hd hjl fun b o hb => ?_
        have hej : x.es[j]? = some x.es[j] := List.getElem?_eq_getElem hjl
        have hval : (vals x.es)[j * 1 + 0]? = some x.es[j].1 := by simp [vals, hjl]
        refine ⟨_, _, rfl, hb 0 _ (by omega) hval, ?_⟩
        have hS := HAll.take (SL.into hS (t := .ob (HAll BEntO x.es) :: .ob (OwnSo (.slice x.a x.es.length x.c) 23 1 x.es.length (vals x.es)) :: .ob (HAll XSegO (xs.eraseIdx i)) :: .pt lp cs t :: RowX sv xs :: F) Xi) hej
        have hbl : x.es[j].2.length ≤ 1048576 := hok.bl _ (List.mem_map.2 ⟨_, List.getElem_mem hjl, rfl⟩)
        have hby : (byts x.es)[((j : Int)).toNat]? = some x.es[j].2 := by simp [byts, hjl]
        rw [hby] at hr
        rw [hr]
        generalize x.es[j] = e at *
        have hR : Rdb (.ob (BEntO e)) e.1 e.2 := Rdb.own
        obtain ⟨ea, ec, ee, _⟩ := hR.sl hS .hd
        have hR2 := hR
        rw [ee] at hR2 ⊢
        refine s_clone (cs := e.2.map u8c) hS (fun w' c hS' => hR2.src hS' (.tl .hd)) (by simp) (u8c_one _) (by omega) ?_
        clear hS; intro u w hS _
        (repeat (first | (with_reducible first | apply Q0 | refine Qa hS ?_ | refine Qb ?_ | refine Qc hS ?_ | refine Qd ?_) | ((with_reducible refine Qe hS ?_); clear hS; intro w hS; simp only [List.set] at hS) | ((with_reducible first | refine s_draw hS ?_ | refine Qf hS ?_); clear hS; intro w hS) | ((with_reducible first | refine s_new hS ?_ | refine Qg hS ?_); clear hS; intro b w hS)))
        have hS := HAll.back (SL.into hS (t := .ob (BEntO e) :: .ob (HAll BEntO (x.es.eraseIdx j)) :: .ob (OwnSo (.slice x.a x.es.length x.c) 23 1 x.es.length (vals x.es)) :: .ob (OwnSl u 5 1 e.2.length (e.2.map u8c)) :: .ob (HAll XSegO (xs.eraseIdx i)) :: .pt lp cs t :: RowX sv xs :: F) Xi) hej
        have hS := (XSegO.iff (x := x)).2 (SL.into hS (t := .ob (OwnSo (.slice x.a x.es.length x.c) 23 1 x.es.length (vals x.es)) :: .ob (HAll BEntO x.es) :: .ob (OwnSl u 5 1 e.2.length (e.2.map u8c)) :: .ob (HAll XSegO (xs.eraseIdx i)) :: .pt lp cs t :: RowX sv xs :: F) Xi)
        have hS := HAll.back (SL.into hS (t := .ob (XSegO x) :: .ob (HAll XSegO (xs.eraseIdx i)) :: .ob (OwnSl u 5 1 e.2.length (e.2.map u8c)) :: .pt lp cs t :: RowX sv xs :: F) Xi) hx
        exact ⟨.ob (OwnSl u 5 1 e.2.length (e.2.map u8c)) :: [.pt lp cs t, RowX sv xs, .ob (HAll XSegO xs)], ⟨u, rfl, rfl⟩, SL.into hS Xi⟩
      · rw [if_neg (by omega)] at hr
        (repeat (first | (with_reducible first | apply Q0 | refine Qa hS ?_ | refine Qb ?_ | refine Qc hS ?_ | refine Qd ?_) | ((with_reducible refine Qe hS ?_); clear hS; intro w hS; simp only [List.set] at hS) | ((with_reducible first | refine s_draw hS ?_ | refine Qf hS ?_); clear hS; intro w hS) | ((with_reducible first | refine s_new hS ?_ | refine Qg hS ?_); clear hS; intro b w hS)))
        refine ⟨⟨i + 1, by omega, rfl, hr, SL.into hS Xi⟩, ?_⟩
        simp only [Int.toNat_natCast]; omega
    · rw [if_neg (by omega)] at hr
      (repeat (first | (with_reducible first | apply Q0 | refine Qa hS ?_ | refine Qb ?_ | refine Qc hS ?_ | refine Qd ?_) | ((with_reducible refine Qe hS ?_); clear hS; intro w hS; simp only [List.set] at hS) | ((with_reducible first | refine s_draw hS ?_ | refine Qf hS ?_); clear hS; intro w hS) | ((with_reducible first | refine s_new hS ?_ | refine Qg hS ?_); clear hS; intro b w hS)))
      refine ⟨⟨i + 1, by omega, rfl, hr, SL.into hS Xi⟩, ?_⟩
      simp only [Int.toNat_natCast]; omega
  · have hx : xs[i]? = none := List.getElem?_eq_none (by omega)
    rw [hx] at hr
    rw [hr]
    exact ⟨_, ⟨rfl, rfl⟩, hS⟩
end Go.Proofs.Ytilgfgghjdomcaa
namespace Go.Proofs.Ytilgfgghjdomcaa
set_option linter.unusedVariables false
set_option maxRecDepth 100000
open Go.RowKit

theorem mendG_some (segs : List PSeg) (base size : Int) (x : PTorn) (d : DS) : mendG ⟨segs, base, size, some x⟩ d =
    ((⟨segs, base, size, if (if x.fresh = true then d.remove x.file else d.cut x.file x.had).2 = 0 then none else some x⟩, (if x.fresh = true then d.remove x.file else d.cut x.file x.had).1), (if x.fresh = true then d.remove x.file else d.cut x.file x.had).2) := rfl
/-- wal.Log.mend -/
theorem mendL_spec (lp dp : Nat) (g : PLog) (d : DS) (N : Nat) (hok : d.Ok N) (hN : N ≤ 140737488355328) (hops : d.ops ≤ 100000) :
    Spec Try.prog 44 [.pointer (some ⟨lp, 0, none⟩)] [.ob (LogO lp dp g), .ob (DskO dp d)] (Gives (.int .i64 (mendG g d).2) [.ob (LogO lp dp (mendG g d).1.1), .ob (DskO dp (mendG g d).1.2)]) := by
  intro W F w hS; apply vc44; unfold Vc44; (try simp only [app] at hS)
  obtain ⟨sv, tv, xs, hx, hS⟩ := LogO.iff.1 hS
  obtain ⟨segs, base, size, torn⟩ := g
  simp only at hx hS
  cases torn with
  | none =>
    rw [show mendG ⟨segs, base, size, none⟩ d = ((⟨segs, base, size, none⟩, d), 0) from rfl]
    obtain ⟨rfl, hS⟩ := TornO_none.1 (SL.into hS (t := .ob (TornO tv none) :: .pt lp (lcells sv tv dp base size) 46 :: RowX sv xs :: .ob (HAll XSegO xs) :: .ob (DskO dp d) :: F) Xi)
    (repeat (first | (with_reducible first | apply Q0 | refine Qa hS ?_ | refine Qb ?_ | refine Qc hS ?_ | refine Qd ?_) | ((with_reducible refine Qe hS ?_); clear hS; intro w hS; simp only [List.set] at hS) | ((with_reducible first | refine s_draw hS ?_ | refine Qf hS ?_); clear hS; intro w hS) | ((with_reducible first | refine s_new hS ?_ | refine Qg hS ?_); clear hS; intro b w hS)))
    refine s_ift ?_
    (repeat (first | (with_reducible first | apply Q0 | refine Qa hS ?_ | refine Qb ?_ | refine Qc hS ?_ | refine Qd ?_) | ((with_reducible refine Qe hS ?_); clear hS; intro w hS; simp only [List.set] at hS) | ((with_reducible first | refine s_draw hS ?_ | refine Qf hS ?_); clear hS; intro w hS) | ((with_reducible first | refine s_new hS ?_ | refine Qg hS ?_); clear hS; intro b w hS)))
    have hS := (TornO_none (v := .pointer none)).2 ⟨rfl, hS⟩
    exact ⟨_, ⟨rfl, rfl⟩, LogO.iff.2 ⟨sv, .pointer none, xs, hx, SL.into hS Xi⟩⟩
  | some x =>
    obtain ⟨tb, rfl, hS⟩ := TornO_some.1 (SL.into hS (t := .ob (TornO tv (some x)) :: .pt lp (lcells sv tv dp base size) 46 :: RowX sv xs :: .ob (HAll XSegO xs) :: .ob (DskO dp d) :: F) Xi)
    rw [mendG_some]
    (repeat (first | (with_reducible first | apply Q0 | refine Qa hS ?_ | refine Qb ?_ | refine Qc hS ?_ | refine Qd ?_) | ((with_reducible refine Qe hS ?_); clear hS; intro w hS; simp only [List.set] at hS) | ((with_reducible first | refine s_draw hS ?_ | refine Qf hS ?_); clear hS; intro w hS) | ((with_reducible first | refine s_new hS ?_ | refine Qg hS ?_); clear hS; intro b w hS)))
    refine s_iff ?_
    (repeat (first | (with_reducible first | apply Q0 | refine Qa hS ?_ | refine Qb ?_ | refine Qc hS ?_ | refine Qd ?_) | ((with_reducible refine Qe hS ?_); clear hS; intro w hS; simp only [List.set] at hS) | ((with_reducible first | refine s_draw hS ?_ | refine Qf hS ?_); clear hS; intro w hS) | ((with_reducible first | refine s_new hS ?_ | refine Qg hS ?_); clear hS; intro b w hS)))
    refine s_if (fun hf => ?_) (fun hf => ?_)
    · simp only [if_pos hf]
      (repeat (first | (with_reducible first | apply Q0 | refine Qa hS ?_ | refine Qb ?_ | refine Qc hS ?_ | refine Qd ?_) | ((with_reducible refine Qe hS ?_); clear hS; intro w hS; simp only [List.set] at hS) | ((with_reducible first | refine s_draw hS ?_ | refine Qf hS ?_); clear hS; intro w hS) | ((with_reducible first | refine s_new hS ?_ | refine Qg hS ?_); clear hS; intro b w hS)))
      (apply s_call (removeD_spec dp d N hok hops x.file) hS; exact Xp; clear hS)
      (rintro v post ⟨rfl, rfl⟩ w hS; (try simp only [app] at hS); (repeat (first | (with_reducible first | apply Q0 | refine Qa hS ?_ | refine Qb ?_ | refine Qc hS ?_ | refine Qd ?_) | ((with_reducible refine Qe hS ?_); clear hS; intro w hS; simp only [List.set] at hS) | ((with_reducible first | refine s_draw hS ?_ | refine Qf hS ?_); clear hS; intro w hS) | ((with_reducible first | refine s_new hS ?_ | refine Qg hS ?_); clear hS; intro b w hS))))
      refine s_ifp (fun h => ?_) (fun h => ?_)
      · rw [if_pos h]
        (repeat (first | (with_reducible first | apply Q0 | refine Qa hS ?_ | refine Qb ?_ | refine Qc hS ?_ | refine Qd ?_) | ((with_reducible refine Qe hS ?_); clear hS; intro w hS; simp only [List.set] at hS) | ((with_reducible first | refine s_draw hS ?_ | refine Qf hS ?_); clear hS; intro w hS) | ((with_reducible first | refine s_new hS ?_ | refine Qg hS ?_); clear hS; intro b w hS)))
        have hS := (TornO_none (v := .pointer none)).2 ⟨rfl, hS⟩
        exact ⟨_, ⟨rfl, rfl⟩, LogO.iff.2 ⟨sv, .pointer none, xs, hx, SL.into hS Xi⟩⟩
      · rw [if_neg h]
        have hS := (TornO_some (v := .pointer (some ⟨tb, 0, none⟩)) (x := x)).2 ⟨tb, rfl, SL.into hS (t := .pt tb [.int .i64 x.file, .int .i64 x.had, .bool x.fresh] 87 :: .pt lp (lcells sv (.pointer (some ⟨tb, 0, none⟩)) dp base size) 46 :: RowX sv xs :: .ob (HAll XSegO xs) :: .ob (DskO dp (d.remove x.file).1) :: F) Xi⟩
        exact ⟨_, ⟨rfl, rfl⟩, LogO.iff.2 ⟨sv, _, xs, hx, SL.into hS Xi⟩⟩
    · have hf : ¬ x.fresh = true := by rw [hf]; decide
      simp only [if_neg hf]
      (repeat (first | (with_reducible first | apply Q0 | refine Qa hS ?_ | refine Qb ?_ | refine Qc hS ?_ | refine Qd ?_) | ((with_reducible refine Qe hS ?_); clear hS; intro w hS; simp only [List.set] at hS) | ((with_reducible first | refine s_draw hS ?_ | refine Qf hS ?_); clear hS; intro w hS) | ((with_reducible first | refine s_new hS ?_ | refine Qg hS ?_); clear hS; intro b w hS)))
      (apply s_call (cutD_spec dp d N hok hN hops x.file x.had) hS; exact Xp; clear hS)
      (rintro v post ⟨rfl, rfl⟩ w hS; (try simp only [app] at hS); (repeat (first | (with_reducible first | apply Q0 | refine Qa hS ?_ | refine Qb ?_ | refine Qc hS ?_ | refine Qd ?_) | ((with_reducible refine Qe hS ?_); clear hS; intro w hS; simp only [List.set] at hS) | ((with_reducible first | refine s_draw hS ?_ | refine Qf hS ?_); clear hS; intro w hS) | ((with_reducible first | refine s_new hS ?_ | refine Qg hS ?_); clear hS; intro b w hS))))
      refine s_ifp (fun h => ?_) (fun h => ?_)
      · rw [if_pos h]
        (repeat (first | (with_reducible first | apply Q0 | refine Qa hS ?_ | refine Qb ?_ | refine Qc hS ?_ | refine Qd ?_) | ((with_reducible refine Qe hS ?_); clear hS; intro w hS; simp only [List.set] at hS) | ((with_reducible first | refine s_draw hS ?_ | refine Qf hS ?_); clear hS; intro w hS) | ((with_reducible first | refine s_new hS ?_ | refine Qg hS ?_); clear hS; intro b w hS)))
        have hS := (TornO_none (v := .pointer none)).2 ⟨rfl, hS⟩
        exact ⟨_, ⟨rfl, rfl⟩, LogO.iff.2 ⟨sv, .pointer none, xs, hx, SL.into hS Xi⟩⟩
      · rw [if_neg h]
        have hS := (TornO_some (v := .pointer (some ⟨tb, 0, none⟩)) (x := x)).2 ⟨tb, rfl, SL.into hS (t := .pt tb [.int .i64 x.file, .int .i64 x.had, .bool x.fresh] 87 :: .pt lp (lcells sv (.pointer (some ⟨tb, 0, none⟩)) dp base size) 46 :: RowX sv xs :: .ob (HAll XSegO xs) :: .ob (DskO dp (d.cut x.file x.had).1) :: F) Xi⟩
        exact ⟨_, ⟨rfl, rfl⟩, LogO.iff.2 ⟨sv, _, xs, hx, SL.into hS Xi⟩⟩
end Go.Proofs.Ytilgfgghjdomcaa
namespace Go.Proofs.Ytilgfgghjdomcaa
set_option linter.unusedVariables false
set_option maxRecDepth 100000
open Go.RowKit

def wrcells (x : PWr) (u : Value) : List Value := [.int .i64 x.file, .bool x.fresh, u]
def PlanQ (lp dp : Nat) (g : PLog) (d : DS) (X : Chunk) (p : List UInt8) (y : Except Int PWr) (r : Value) (post : List Chunk) : Prop := match y with
  | .error e => (∃ z, r = .tuple #[.agg #[.int .i64 0, .bool false, .slice none 0 0], .int .i64 z] ∧ z = e ∧ z ≠ 0) ∧ post = [.ob (LogO lp dp g), .ob (DskO dp d), X]
  | .ok x => ∃ a c, r = .tuple #[.agg #[.int .i64 x.file, .bool x.fresh, .slice a x.b.length c], .int .i64 0] ∧ post = [.ob (OwnSl (.slice a x.b.length c) 5 1 x.b.length (x.b.map u8c)), .ob (LogO lp dp g), .ob (DskO dp d), X]
theorem PLog.Ok.xs {g : PLog} {N : Nat} (h : g.Ok N) {xs : List XSeg} (hx : xs.map XSeg.pl = g.segs) : (∀ s ∈ xs.map XSeg.pl, SegOk s N) ∧ xs.length ≤ N ∧ 0 ≤ headG g.segs ∧ headG g.segs ≤ 1099511627776 + N := by
  refine ⟨by rw [hx]; exact h.segs, ?_, headG_ge h.segs⟩
  have := h.ln
  rw [← hx, List.length_map] at this; exact this
/-- wal.Log.plan -/
theorem planL_spec (X : Chunk) (lp dp : Nat) (g : PLog) (d : DS) (v : Value) (p : List UInt8) (hv : Rdb X v p) (hp : p.length ≤ 140737488355328) {M : Nat} (hg : g.Ok M) (hM : M ≤ 1000000000000000) :
    Spec Try.prog 43 [.pointer (some ⟨lp, 0, none⟩), v] [.ob (LogO lp dp g), .ob (DskO dp d), X] (PlanQ lp dp g d X p (planG g d.off p)) := by
  intro W F w hS; apply vc43; unfold Vc43; (try simp only [app] at hS)
  obtain ⟨sv, tv, xs, hx, hS⟩ := LogO.iff.1 hS
  obtain ⟨hok, hl, hh0, hh1⟩ := hg.xs hx
  have hb0 := hg.b0
  have hb1 := hg.b1
  have hs1 := hg.s1
  have hs0 := hg.s0
  have hhead : headG (xs.map XSeg.pl) = headG g.segs := by rw [hx]
  (repeat (first | (with_reducible first | apply Q0 | refine Qa hS ?_ | refine Qb ?_ | refine Qc hS ?_ | refine Qd ?_) | ((with_reducible refine Qe hS ?_); clear hS; intro w hS; simp only [List.set] at hS) | ((with_reducible first | refine s_draw hS ?_ | refine Qf hS ?_); clear hS; intro w hS) | ((with_reducible first | refine s_new hS ?_ | refine Qg hS ?_); clear hS; intro b w hS)))
  (apply s_call (put_spec X v p hv hp) hS; exact Xp; clear hS)
  rintro r post hQ w hS
  unfold PutQ at hQ
  by_cases hbig : 1048576 < p.length
  · rw [if_pos hbig] at hQ
    obtain ⟨rfl, rfl⟩ := hQ
    have hpl : planG g d.off p = .error 1 := by unfold planG; rw [if_pos hbig]
    rw [hpl]
    (try simp only [app] at hS)
    (repeat (first | (with_reducible first | apply Q0 | refine Qa hS ?_ | refine Qb ?_ | refine Qc hS ?_ | refine Qd ?_) | ((with_reducible refine Qe hS ?_); clear hS; intro w hS; simp only [List.set] at hS) | ((with_reducible first | refine s_draw hS ?_ | refine Qf hS ?_); clear hS; intro w hS) | ((with_reducible first | refine s_new hS ?_ | refine Qg hS ?_); clear hS; intro b w hS)))
    refine s_ifp (fun _ => ?_) (fun h => absurd (by decide) h)
    (repeat (first | (with_reducible first | apply Q0 | refine Qa hS ?_ | refine Qb ?_ | refine Qc hS ?_ | refine Qd ?_) | ((with_reducible refine Qe hS ?_); clear hS; intro w hS; simp only [List.set] at hS) | ((with_reducible first | refine s_draw hS ?_ | refine Qf hS ?_); clear hS; intro w hS) | ((with_reducible first | refine s_new hS ?_ | refine Qg hS ?_); clear hS; intro b w hS)))
    exact ⟨_, ⟨⟨1, rfl, rfl, by decide⟩, rfl⟩, SL.into (LogO.iff.2 ⟨sv, tv, xs, hx, SL.into hS (t := .pt lp (lcells sv tv dp g.base g.size) 46 :: RowX sv xs :: .ob (HAll XSegO xs) :: .ob (TornO tv g.torn) :: .ob (DskO dp d) :: X :: F) Xi⟩) Xi⟩
  · rw [if_neg hbig] at hQ
    obtain ⟨u, rfl, rfl⟩ := hQ
    (try simp only [app] at hS)
    have hu := hS.ownOne .hd
    obtain ⟨au, cu, eu, _⟩ := OwnSl.at hS .hd
    subst eu
    (repeat (first | (with_reducible first | apply Q0 | refine Qa hS ?_ | refine Qb ?_ | refine Qc hS ?_ | refine Qd ?_) | ((with_reducible refine Qe hS ?_); clear hS; intro w hS; simp only [List.set] at hS) | ((with_reducible first | refine s_draw hS ?_ | refine Qf hS ?_); clear hS; intro w hS) | ((with_reducible first | refine s_new hS ?_ | refine Qg hS ?_); clear hS; intro b w hS)))
    refine s_ifp (fun h => absurd rfl h) (fun _ => ?_)
    (repeat (first | (with_reducible first | apply Q0 | refine Qa hS ?_ | refine Qb ?_ | refine Qc hS ?_ | refine Qd ?_) | ((with_reducible refine Qe hS ?_); clear hS; intro w hS; simp only [List.set] at hS) | ((with_reducible first | refine s_draw hS ?_ | refine Qf hS ?_); clear hS; intro w hS) | ((with_reducible first | refine s_new hS ?_ | refine Qg hS ?_); clear hS; intro b w hS)))
    (apply s_call (downD_spec dp d) hS; exact Xp; clear hS)
    (rintro v post ⟨rfl, rfl⟩ w hS; (try simp only [app] at hS); (repeat (first | (with_reducible first | apply Q0 | refine Qa hS ?_ | refine Qb ?_ | refine Qc hS ?_ | refine Qd ?_) | ((with_reducible refine Qe hS ?_); clear hS; intro w hS; simp only [List.set] at hS) | ((with_reducible first | refine s_draw hS ?_ | refine Qf hS ?_); clear hS; intro w hS) | ((with_reducible first | refine s_new hS ?_ | refine Qg hS ?_); clear hS; intro b w hS))))
    have hfin : ∀ {w : World} {l : List Chunk}, SL W (.pt lp (lcells sv tv dp g.base g.size) 46 :: RowX sv xs :: .ob (HAll XSegO xs) :: .ob (TornO tv g.torn) :: l) w → SL W (.ob (LogO lp dp g) :: l) w := fun h => LogO.iff.2 ⟨sv, tv, xs, hx, h⟩
    refine s_if (fun ho => ?_) (fun ho => ?_)
    · have hpl : planG g d.off p = .error 8 := by unfold planG; rw [if_neg hbig, if_pos ho]
      rw [hpl]
      (repeat (first | (with_reducible first | apply Q0 | refine Qa hS ?_ | refine Qb ?_ | refine Qc hS ?_ | refine Qd ?_) | ((with_reducible refine Qe hS ?_); clear hS; intro w hS; simp only [List.set] at hS) | ((with_reducible first | refine s_draw hS ?_ | refine Qf hS ?_); clear hS; intro w hS) | ((with_reducible first | refine s_new hS ?_ | refine Qg hS ?_); clear hS; intro b w hS)))
      exact ⟨_, ⟨⟨8, rfl, rfl, by decide⟩, rfl⟩, SL.into (hfin (SL.into hS (t := .pt lp (lcells sv tv dp g.base g.size) 46 :: RowX sv xs :: .ob (HAll XSegO xs) :: .ob (TornO tv g.torn) :: .ob (DskO dp d) :: X :: F) Xi)) Xi⟩
    · (repeat (first | (with_reducible first | apply Q0 | refine Qa hS ?_ | refine Qb ?_ | refine Qc hS ?_ | refine Qd ?_) | ((with_reducible refine Qe hS ?_); clear hS; intro w hS; simp only [List.set] at hS) | ((with_reducible first | refine s_draw hS ?_ | refine Qf hS ?_); clear hS; intro w hS) | ((with_reducible first | refine s_new hS ?_ | refine Qg hS ?_); clear hS; intro b w hS)))
      (apply s_call (headL_spec lp (lcells sv tv dp g.base g.size) 46 sv xs rfl hok hM (by omega)) hS; exact Xp; clear hS)
      (rintro v post ⟨rfl, rfl⟩ w hS; (try simp only [app] at hS); (repeat (first | (with_reducible first | apply Q0 | refine Qa hS ?_ | refine Qb ?_ | refine Qc hS ?_ | refine Qd ?_) | ((with_reducible refine Qe hS ?_); clear hS; intro w hS; simp only [List.set] at hS) | ((with_reducible first | refine s_draw hS ?_ | refine Qf hS ?_); clear hS; intro w hS) | ((with_reducible first | refine s_new hS ?_ | refine Qg hS ?_); clear hS; intro b w hS))))
      rw [hhead]
      refine s_ifp (fun h1 => ?_) (fun h1 => ?_)
      · have hpl : planG g d.off p = .error 7 := by unfold planG; rw [if_neg hbig, if_neg (by rw [ho]; decide), if_pos h1]
        rw [hpl]
        (repeat (first | (with_reducible first | apply Q0 | refine Qa hS ?_ | refine Qb ?_ | refine Qc hS ?_ | refine Qd ?_) | ((with_reducible refine Qe hS ?_); clear hS; intro w hS; simp only [List.set] at hS) | ((with_reducible first | refine s_draw hS ?_ | refine Qf hS ?_); clear hS; intro w hS) | ((with_reducible first | refine s_new hS ?_ | refine Qg hS ?_); clear hS; intro b w hS)))
        exact ⟨_, ⟨⟨7, rfl, rfl, by decide⟩, rfl⟩, SL.into (hfin (SL.into hS (t := .pt lp (lcells sv tv dp g.base g.size) 46 :: RowX sv xs :: .ob (HAll XSegO xs) :: .ob (TornO tv g.torn) :: .ob (DskO dp d) :: X :: F) Xi)) Xi⟩
      · (repeat (first | (with_reducible first | apply Q0 | refine Qa hS ?_ | refine Qb ?_ | refine Qc hS ?_ | refine Qd ?_) | ((with_reducible refine Qe hS ?_); clear hS; intro w hS; simp only [List.set] at hS) | ((with_reducible first | refine s_draw hS ?_ | refine Qf hS ?_); clear hS; intro w hS) | ((with_reducible first | refine s_new hS ?_ | refine Qg hS ?_); clear hS; intro b w hS)))
        refine ⟨fun vs w => ∃ f : Int, vs = [.int .i64 f] ∧ planG g d.off p = freshG g f p ∧ -1000000 ≤ f ∧ f ≤ 1000000 ∧ SL W (.pt b [.int .i64 0, .bool false, .slice none 0 0] 65 :: .pt lp (lcells sv tv dp g.base g.size) 46 :: RowX sv xs :: .ob (HAll XSegO xs) :: .ob (TornO tv g.torn) :: .ob (DskO dp d) :: .ob (OwnSl (.slice au (recB p).length cu) 5 1 (recB p).length ((recB p).map u8c)) :: X :: F) w, ?_, ?_⟩
        · (repeat (first | (with_reducible first | apply Q0 | refine Qa hS ?_ | refine Qb ?_ | refine Qc hS ?_ | refine Qd ?_) | ((with_reducible refine Qe hS ?_); clear hS; intro w hS; simp only [List.set] at hS) | ((with_reducible first | refine s_draw hS ?_ | refine Qf hS ?_); clear hS; intro w hS) | ((with_reducible first | refine s_new hS ?_ | refine Qg hS ?_); clear hS; intro b w hS)))
          refine s_lenSo hS Xh ?_
          (repeat (first | (with_reducible first | apply Q0 | refine Qa hS ?_ | refine Qb ?_ | refine Qc hS ?_ | refine Qd ?_) | ((with_reducible refine Qe hS ?_); clear hS; intro w hS; simp only [List.set] at hS) | ((with_reducible first | refine s_draw hS ?_ | refine Qf hS ?_); clear hS; intro w hS) | ((with_reducible first | refine s_new hS ?_ | refine Qg hS ?_); clear hS; intro b w hS)))
          refine s_ifp (fun h2 => ?_) (fun h2 => ?_)
          · (repeat (first | (with_reducible first | apply Q0 | refine Qa hS ?_ | refine Qb ?_ | refine Qc hS ?_ | refine Qd ?_) | ((with_reducible refine Qe hS ?_); clear hS; intro w hS; simp only [List.set] at hS) | ((with_reducible first | refine s_draw hS ?_ | refine Qf hS ?_); clear hS; intro w hS) | ((with_reducible first | refine s_new hS ?_ | refine Qg hS ?_); clear hS; intro b w hS)))
            have e : ((xs.length : Nat) : Int) - 1 = ((xs.length - 1 : Nat) : Int) := by omega
            rw [e]
            have hj : xs.length - 1 < xs.length := by omega
            refine s_segSo hS Xh hj ?_
            have hm : (xs[xs.length - 1]'hj).pl ∈ xs.map XSeg.pl := List.mem_map.2 ⟨_, List.getElem_mem hj, rfl⟩
            have hlast : g.segs.getLast? = some (xs[xs.length - 1]'hj).pl := by
              rw [← hx, List.getLast?_map, List.getLast?_eq_getElem?, List.getElem?_eq_getElem hj]; rfl
            have hsk := hok _ hm
            generalize xs[xs.length - 1]'hj = x at *
            have hpl0 : planG g d.off p = if x.pl.l.length = 0 ∨ (x.pl.size : Int) + (recB p).length ≤ g.size then .ok ⟨x.pl.file, false, recB p⟩ else freshG g (x.pl.file + 1) p := by
              unfold planG; rw [if_neg hbig, if_neg (by rw [ho]; decide), if_neg (by omega), hlast]
            have hxl : x.pl.l.length = x.es.length := by simp [XSeg.pl, byts_len]
            have hxz : x.pl.size = x.size := rfl
            have hxf : x.pl.file = x.file := rfl
            have k1 := hsk.f0
            have k2 := hsk.f1
            have k3 := hsk.sz
            rw [hxl, hxz, hxf] at hpl0
            rw [hxf] at k1 k2
            rw [hxz] at k3
            have hrl := recB_len p
            unfold xcells XSeg.lv
            (repeat (first | (with_reducible first | apply Q0 | refine Qa hS ?_ | refine Qb ?_ | refine Qc hS ?_ | refine Qd ?_) | ((with_reducible refine Qe hS ?_); clear hS; intro w hS; simp only [List.set] at hS) | ((with_reducible first | refine s_draw hS ?_ | refine Qf hS ?_); clear hS; intro w hS) | ((with_reducible first | refine s_new hS ?_ | refine Qg hS ?_); clear hS; intro b w hS)))
            refine s_ifp (fun h3 => ?_) (fun h3 => ?_)
            · rw [if_pos (.inl (by omega))] at hpl0
              rw [hpl0]
              (repeat (first | (with_reducible first | apply Q0 | refine Qa hS ?_ | refine Qb ?_ | refine Qc hS ?_ | refine Qd ?_) | ((with_reducible refine Qe hS ?_); clear hS; intro w hS; simp only [List.set] at hS) | ((with_reducible first | refine s_draw hS ?_ | refine Qf hS ?_); clear hS; intro w hS) | ((with_reducible first | refine s_new hS ?_ | refine Qg hS ?_); clear hS; intro b w hS)))
              exact ⟨_, ⟨au, cu, rfl, rfl⟩, SL.into (hfin (SL.into hS (t := .pt lp (lcells sv tv dp g.base g.size) 46 :: RowX sv xs :: .ob (HAll XSegO xs) :: .ob (TornO tv g.torn) :: .ob (OwnSl (.slice au (recB p).length cu) 5 1 (recB p).length ((recB p).map u8c)) :: .ob (DskO dp d) :: X :: F) Xi)) Xi⟩
            · (repeat (first | (with_reducible first | apply Q0 | refine Qa hS ?_ | refine Qb ?_ | refine Qc hS ?_ | refine Qd ?_) | ((with_reducible refine Qe hS ?_); clear hS; intro w hS; simp only [List.set] at hS) | ((with_reducible first | refine s_draw hS ?_ | refine Qf hS ?_); clear hS; intro w hS) | ((with_reducible first | refine s_new hS ?_ | refine Qg hS ?_); clear hS; intro b w hS)))
              refine s_ifp (fun h4 => ?_) (fun h4 => ?_)
              · rw [if_pos (.inr (by omega))] at hpl0
                rw [hpl0]
                (repeat (first | (with_reducible first | apply Q0 | refine Qa hS ?_ | refine Qb ?_ | refine Qc hS ?_ | refine Qd ?_) | ((with_reducible refine Qe hS ?_); clear hS; intro w hS; simp only [List.set] at hS) | ((with_reducible first | refine s_draw hS ?_ | refine Qf hS ?_); clear hS; intro w hS) | ((with_reducible first | refine s_new hS ?_ | refine Qg hS ?_); clear hS; intro b w hS)))
                exact ⟨_, ⟨au, cu, rfl, rfl⟩, SL.into (hfin (SL.into hS (t := .pt lp (lcells sv tv dp g.base g.size) 46 :: RowX sv xs :: .ob (HAll XSegO xs) :: .ob (TornO tv g.torn) :: .ob (OwnSl (.slice au (recB p).length cu) 5 1 (recB p).length ((recB p).map u8c)) :: .ob (DskO dp d) :: X :: F) Xi)) Xi⟩
              · rw [if_neg (by omega)] at hpl0
                (repeat (first | (with_reducible first | apply Q0 | refine Qa hS ?_ | refine Qb ?_ | refine Qc hS ?_ | refine Qd ?_) | ((with_reducible refine Qe hS ?_); clear hS; intro w hS; simp only [List.set] at hS) | ((with_reducible first | refine s_draw hS ?_ | refine Qf hS ?_); clear hS; intro w hS) | ((with_reducible first | refine s_new hS ?_ | refine Qg hS ?_); clear hS; intro b w hS)))
                exact ⟨x.file + 1, rfl, hpl0, by omega, by omega, SL.into hS Xi⟩
          · have hpl0 : planG g d.off p = freshG g g.base p := by
              have hnil : g.segs = [] := by
                rw [← hx]
                have : xs = [] := List.eq_nil_of_length_eq_zero (by omega)
                rw [this]; rfl
              unfold planG; rw [if_neg hbig, if_neg (by rw [ho]; decide), if_neg (by omega), hnil]; rfl
            exact ⟨g.base, rfl, hpl0, by omega, by omega, SL.into hS Xi⟩
        · clear hS
          rintro v8 w ⟨f, hvs, hpl0, f0, f1, hS⟩
          cases hvs
          rw [hpl0]
          unfold freshG
          (repeat (first | (with_reducible first | apply Q0 | refine Qa hS ?_ | refine Qb ?_ | refine Qc hS ?_ | refine Qd ?_) | ((with_reducible refine Qe hS ?_); clear hS; intro w hS; simp only [List.set] at hS) | ((with_reducible first | refine s_draw hS ?_ | refine Qf hS ?_); clear hS; intro w hS) | ((with_reducible first | refine s_new hS ?_ | refine Qg hS ?_); clear hS; intro b w hS)))
          refine s_ifp (fun h2 => ?_) (fun h2 => ?_)
          · rw [if_pos h2]
            (repeat (first | (with_reducible first | apply Q0 | refine Qa hS ?_ | refine Qb ?_ | refine Qc hS ?_ | refine Qd ?_) | ((with_reducible refine Qe hS ?_); clear hS; intro w hS; simp only [List.set] at hS) | ((with_reducible first | refine s_draw hS ?_ | refine Qf hS ?_); clear hS; intro w hS) | ((with_reducible first | refine s_new hS ?_ | refine Qg hS ?_); clear hS; intro b w hS)))
            exact ⟨_, ⟨⟨7, rfl, rfl, by decide⟩, rfl⟩, SL.into (hfin (SL.into hS (t := .pt lp (lcells sv tv dp g.base g.size) 46 :: RowX sv xs :: .ob (HAll XSegO xs) :: .ob (TornO tv g.torn) :: .ob (DskO dp d) :: X :: F) Xi)) Xi⟩
          · rw [if_neg h2]
            (repeat (first | (with_reducible first | apply Q0 | refine Qa hS ?_ | refine Qb ?_ | refine Qc hS ?_ | refine Qd ?_) | ((with_reducible refine Qe hS ?_); clear hS; intro w hS; simp only [List.set] at hS) | ((with_reducible first | refine s_draw hS ?_ | refine Qf hS ?_); clear hS; intro w hS) | ((with_reducible first | refine s_new hS ?_ | refine Qg hS ?_); clear hS; intro b w hS)))
            (apply s_call (headL_spec lp (lcells sv tv dp g.base g.size) 46 sv xs rfl hok hM (by omega)) hS; exact Xp; clear hS)
            (rintro v post ⟨rfl, rfl⟩ w hS; (try simp only [app] at hS); (repeat (first | (with_reducible first | apply Q0 | refine Qa hS ?_ | refine Qb ?_ | refine Qc hS ?_ | refine Qd ?_) | ((with_reducible refine Qe hS ?_); clear hS; intro w hS; simp only [List.set] at hS) | ((with_reducible first | refine s_draw hS ?_ | refine Qf hS ?_); clear hS; intro w hS) | ((with_reducible first | refine s_new hS ?_ | refine Qg hS ?_); clear hS; intro b w hS))))
            rw [hhead]
            (apply s_call (segHead_spec (headG g.segs + 1)) hS; exact Xp; clear hS)
            rintro r post hQ w hS
            unfold HeadQ at hQ
            rw [if_neg (by omega)] at hQ
            obtain ⟨y, rfl, rfl⟩ := hQ
            (try simp only [app] at hS)
            have hy := hS.ownOne .hd
            obtain ⟨ay, cy, ey, _⟩ := OwnSl.at hS .hd
            subst ey
            (repeat (first | (with_reducible first | apply Q0 | refine Qa hS ?_ | refine Qb ?_ | refine Qc hS ?_ | refine Qd ?_) | ((with_reducible refine Qe hS ?_); clear hS; intro w hS; simp only [List.set] at hS) | ((with_reducible first | refine s_draw hS ?_ | refine Qf hS ?_); clear hS; intro w hS) | ((with_reducible first | refine s_new hS ?_ | refine Qg hS ?_); clear hS; intro b w hS)))
            refine s_call (F := _) (concat_spec _ 2 _ [_, _] [recB (hdB (headG g.segs + 1).toNat), recB p] [.ob (OwnSl (.slice ay (recB (hdB (headG g.segs + 1).toNat)).length cy) 5 1 (recB (hdB (headG g.segs + 1).toNat)).length ((recB (hdB (headG g.segs + 1).toNat)).map u8c)), .ob (OwnSl (.slice au (recB p).length cu) 5 1 (recB p).length ((recB p).map u8c))] rfl rfl ?_ ?_ (by omega)) hS Xp ?_
            · intro i hi
              match i, hi with
              | 0, _ => exact ⟨_, .hd, Rdb.own⟩
              | 1, _ => exact ⟨_, .tl .hd, Rdb.own⟩
            · have := recB_len p
              have := recB_len (hdB (headG g.segs + 1).toNat)
              have := hdB_len (headG g.segs + 1).toNat
              simp; omega
            · clear hS
              rintro c post rfl w hS; (try simp only [app] at hS)
              have e2 : [recB (hdB (headG g.segs + 1).toNat), recB p].flatten = recB (hdB (headG g.segs + 1).toNat) ++ recB p := by simp
              rw [e2] at hS
              have hc := hS.ownOne .hd
              obtain ⟨ac, cc, ec, _⟩ := OwnSl.at hS .hd
              subst ec
              (repeat (first | (with_reducible first | apply Q0 | refine Qa hS ?_ | refine Qb ?_ | refine Qc hS ?_ | refine Qd ?_) | ((with_reducible refine Qe hS ?_); clear hS; intro w hS; simp only [List.set] at hS) | ((with_reducible first | refine s_draw hS ?_ | refine Qf hS ?_); clear hS; intro w hS) | ((with_reducible first | refine s_new hS ?_ | refine Qg hS ?_); clear hS; intro b w hS)))
              have e3 : (recB (hdB (headG g.segs + 1).toNat)).length + (recB p).length = (recB (hdB (headG g.segs + 1).toNat) ++ recB p).length := by rw [List.length_append]
              rw [e3]
              exact ⟨_, ⟨ac, cc, rfl, rfl⟩, SL.into (hfin (SL.into hS (t := .pt lp (lcells sv tv dp g.base g.size) 46 :: RowX sv xs :: .ob (HAll XSegO xs) :: .ob (TornO tv g.torn) :: .ob (OwnSl (.slice ac (recB (hdB (headG g.segs + 1).toNat) ++ recB p).length cc) 5 1 (recB (hdB (headG g.segs + 1).toNat) ++ recB p).length ((recB (hdB (headG g.segs + 1).toNat) ++ recB p).map u8c)) :: .ob (DskO dp d) :: X :: F) Xi)) Xi⟩
end Go.Proofs.Ytilgfgghjdomcaa
namespace Go.Proofs.Ytilgfgghjdomcaa
set_option linter.unusedVariables false
open Go.RowKit

/-! Files at an end of the row. -/
section
variable {A : List PF} {x : PF}
theorem cnt_end (hs : SortedK PF.id (A ++ [x])) : cntK PF.id (A ++ [x]) x.id = A.length := cntK_at hs (j := A.length) (by simp) (by simp)
theorem is_end (hs : SortedK PF.id (A ++ [x])) : isK PF.id (A ++ [x]) x.id = true := (isK_iff hs).2 ⟨x, by simp, rfl⟩
theorem get_end (hs : SortedK PF.id (A ++ [x])) : getK PF.id (A ++ [x]) x.id = some x := getK_of hs (by simp)
theorem put_end (hs : SortedK PF.id (A ++ [x])) {y : PF} (hy : y.id = x.id) : putK PF.id (A ++ [x]) y = A ++ [y] := by
  have h1 : isK PF.id (A ++ [x]) y.id = true := by rw [hy]; exact is_end hs
  rw [putK_is h1, hy, cnt_end hs]; simp
theorem upd_end (hs : SortedK PF.id (A ++ [x])) (g : PF → PF) : updF (A ++ [x]) x.id g = A ++ [{ g x with id := x.id }] := by
  unfold updF
  rw [get_end hs]
  exact put_end hs rfl
theorem del_end (hs : SortedK PF.id (A ++ [x])) : delK PF.id (A ++ [x]) x.id = A := by
  rw [delK, if_pos (is_end hs), cnt_end hs]; simp [List.eraseIdx_append_of_length_le]
theorem del_front (hs : SortedK PF.id (x :: A)) : delK PF.id (x :: A) x.id = A := by
  have h1 : isK PF.id (x :: A) x.id = true := (isK_iff hs).2 ⟨x, by simp, rfl⟩
  have h2 : cntK PF.id (x :: A) x.id = 0 := cntK_at hs (j := 0) (by simp) rfl
  rw [delK, if_pos h1, h2]; rfl
theorem app_end (hs : SortedK PF.id (A ++ [x])) (b : List UInt8) : appF (A ++ [x]) x.id b = A ++ [⟨x.id, x.safe, x.b ++ b⟩] := by
  unfold appF
  rw [get_end hs]
  exact put_end hs rfl
theorem app_new (hs : SortedK PF.id A) {f : Int} (h : ∀ y ∈ A, y.id < f) (b : List UInt8) : appF A f b = A ++ [⟨f, 0, b⟩] := by
  have h1 : getK PF.id A f = none := (getK_none hs).2 fun y hy => by have := h y hy; omega
  have h2 : isK PF.id A f = false := by
    cases e : isK PF.id A f with
    | false => rfl
    | true => obtain ⟨y, hy, e⟩ := (isK_iff hs).1 e; have := h y hy; omega
  have h3 : cntK PF.id A f = A.length := by
    unfold cntK
    rw [List.filter_eq_self.2 fun y hy => by simpa using h y hy]
  unfold appF
  rw [h1]
  unfold putK
  simp only [h2, h3]
  simp [newF]
end
/-- Files numbered one behind the other. -/
def Con (f : Int) (R : List PF) : Prop := ∀ i (h : i < R.length), R[i].id = f + i
theorem Con.sorted {f : Int} {R : List PF} (h : Con f R) : SortedK PF.id R := by
  unfold SortedK
  rw [List.pairwise_iff_getElem]
  intro i j hi hj hij
  rw [h i hi, h j hj]; omega
theorem Con.mem {f : Int} {R : List PF} (h : Con f R) {x : PF} (hx : x ∈ R) : f ≤ x.id ∧ x.id < f + R.length := by
  obtain ⟨i, hi, rfl⟩ := List.mem_iff_getElem.1 hx
  rw [h i hi]; omega
theorem Con.snoc {f : Int} {R : List PF} (h : Con f R) {x : PF} (hx : x.id = f + R.length) : Con f (R ++ [x]) := by
  intro i hi
  by_cases hl : i < R.length
  · rw [List.getElem_append_left hl]; exact h i hl
  · have : i = R.length := by simp at hi; omega
    subst this
    simp [hx]

/-! Segments. -/
def segB (s : PSeg) : List UInt8 := recsB (hdB s.first.toNat :: s.l)
def segF (s : PSeg) : PF := ⟨s.file, (segB s).length, segB s⟩
def Chain : Int → Int → List PSeg → Prop
  | _, _, [] => True
  | f, n, s :: r => s.file = f ∧ s.first = n ∧ s.size = (segB s).length ∧ (∀ p ∈ s.l, p.length ≤ 1048576) ∧ (r ≠ [] → s.l ≠ []) ∧ Chain (f + 1) (n + s.l.length) r
def entsG (L : List PSeg) : List (List UInt8) := (L.map PSeg.l).flatten
theorem entsG_cons (s : PSeg) (L : List PSeg) : entsG (s :: L) = s.l ++ entsG L := by simp [entsG]
theorem entsG_app (A B : List PSeg) : entsG (A ++ B) = entsG A ++ entsG B := by simp [entsG]
theorem Chain.app : ∀ {f n : Int} {A B : List PSeg}, Chain f n (A ++ B) ↔ Chain f n A ∧ (B ≠ [] → ∀ s ∈ A, s.l ≠ []) ∧ Chain (f + A.length) (n + (entsG A).length) B
  | f, n, [], B => by simp [Chain, entsG]
  | f, n, s :: A, B => by
    have ih := Chain.app (f := f + 1) (n := n + s.l.length) (A := A) (B := B)
    have e1 : f + 1 + (A.length : Int) = f + ((s :: A).length : Int) := by simp; omega
    have e2 : n + (s.l.length : Int) + ((entsG A).length : Int) = n + ((entsG (s :: A)).length : Int) := by rw [entsG_cons, List.length_append]; omega
    rw [e1, e2] at ih
    rw [List.cons_append]
    simp only [Chain, ih]
    constructor
    · rintro ⟨h1, h2, h3, h4, h5, h6, h7, h8⟩
      refine ⟨⟨h1, h2, h3, h4, fun hA => h5 (by simp [hA]), h6⟩, fun hB t ht => ?_, h8⟩
      rcases List.mem_cons.1 ht with rfl | ht
      · exact h5 (by simp [hB])
      · exact h7 hB t ht
    · rintro ⟨⟨h1, h2, h3, h4, h5, h6⟩, h7, h8⟩
      refine ⟨h1, h2, h3, h4, fun h => ?_, h6, fun hB t ht => h7 hB t (.tail _ ht), h8⟩
      by_cases hA : A = []
      · subst hA; exact h7 (by simpa using h) s (.head _)
      · exact h5 hA
theorem Chain.con : ∀ {f n : Int} {L : List PSeg}, Chain f n L → Con f (L.map segF)
  | f, n, [], _ => fun i h => by simp at h
  | f, n, s :: L, h => by
    obtain ⟨h1, _, _, _, _, h6⟩ := h
    have ih := h6.con
    intro i hi
    cases i with
    | zero => simpa [segF] using h1
    | succ i =>
      have := ih i (by simpa using hi)
      simp only [List.map_cons, List.getElem_cons_succ]
      rw [this]; push_cast; omega
theorem Chain.head {f n : Int} {L : List PSeg} (h : Chain f n L) (hL : L ≠ []) : headG L = n + (entsG L).length - 1 := by
  obtain ⟨A, s, rfl⟩ : ∃ A s, L = A ++ [s] := ⟨L.dropLast, L.getLast hL, (List.dropLast_concat_getLast hL).symm⟩
  obtain ⟨_, _, h3⟩ := Chain.app.1 h
  obtain ⟨_, h4, _⟩ := h3
  unfold headG
  rw [List.getLast?_concat, entsG_app]
  simp only [PSeg.next, h4, List.length_append]
  simp [entsG]; omega
theorem Chain.low {f n : Int} {L : List PSeg} (h : Chain f n L) (hL : L ≠ []) : lowG L = n := by
  cases L with
  | nil => exact absurd rfl hL
  | cons s L => exact h.2.1
theorem Chain.read : ∀ {f n : Int} {L : List PSeg}, Chain f n L → ∀ i, readG L i = if n ≤ i then (entsG L)[(i - n).toNat]? else none
  | f, n, [], _, i => by simp [readG, entsG]
  | f, n, s :: L, h, i => by
    obtain ⟨_, h2, _, _, _, h6⟩ := h
    have ih := h6.read i
    subst h2
    rw [readG, ih, entsG_cons]
    have hnx : s.next = s.first + s.l.length := rfl
    by_cases h1 : s.first ≤ i
    · rw [if_pos (c := s.first ≤ i) h1]
      by_cases h3 : i < s.next
      · rw [if_pos (c := s.first ≤ i ∧ i < s.next) ⟨h1, h3⟩, List.getElem?_append_left (by omega)]
      · rw [if_neg (c := s.first ≤ i ∧ i < s.next) (by omega), if_pos (by omega), List.getElem?_append_right (by omega)]
        congr 1; omega
    · rw [if_neg (c := s.first ≤ i ∧ i < s.next) (by omega), if_neg (by omega), if_neg h1]
theorem Chain.bl : ∀ {f n : Int} {L : List PSeg}, Chain f n L → ∀ s ∈ L, s.size = (segB s).length ∧ ∀ p ∈ s.l, p.length ≤ 1048576
  | f, n, [], _, s, hs => by cases hs
  | f, n, t :: L, h, s, hs => by
    obtain ⟨_, _, h3, h4, _, h6⟩ := h
    rcases List.mem_cons.1 hs with rfl | hs
    · exact ⟨h3, h4⟩
    · exact h6.bl s hs
theorem segB_len (s : PSeg) : (segB s).length = 19 + (recsB s.l).length := by
  unfold segB
  rw [recsB_cons, List.length_append, recB_len, hdB_len]
theorem hdB_le (n : Nat) : (hdB n).length ≤ 1048576 := by rw [hdB_len]; omega

/-! What is read of a beginning of records. -/
theorem scanA_cut2 : ∀ (ps : List (List UInt8)) (k : Nat), (∀ p ∈ ps, p.length ≤ 1048576) → ∃ j, j ≤ ps.length ∧ (∀ i, i ≤ ps.length → ((recsB (ps.take i)).length ≤ k ↔ i ≤ j)) ∧ scanA ((recsB ps).take k) = (ps.take j, (recsB (ps.take j)).length)
  | [], k, _ => ⟨0, Nat.le_refl _, fun i hi => by simp at hi; subst hi; simp [recsB], by
      rw [show (recsB []).take k = [] by simp [recsB], scanA_er takeR_nil]; rfl⟩
  | p :: ps, k, hp => by
    have hp0 := hp p (.head _)
    by_cases hk : k < (recB p).length
    · refine ⟨0, Nat.zero_le _, fun i hi => ?_, ?_⟩
      · cases i with
        | zero => simp [recsB]
        | succ i =>
          rw [List.take_succ_cons, recsB_cons, List.length_append]
          constructor <;> intro h <;> omega
      · obtain ⟨e, he, _⟩ := takeR_cut hp0 (k := k) (by rw [← recB_len]; exact hk)
        rw [recsB_cons, List.take_append_of_le_length (by omega), scanA_er he]; rfl
    · obtain ⟨j, h1, h2, h5⟩ := scanA_cut2 ps (k - (recB p).length) (fun q hq => hp q (.tail _ hq))
      refine ⟨j + 1, by simpa using h1, fun i hi => ?_, ?_⟩
      · cases i with
        | zero => simp [recsB]
        | succ i =>
          have := h2 i (by simpa using hi)
          rw [List.take_succ_cons, recsB_cons, List.length_append]
          constructor <;> intro h <;> omega
      · have e : (recsB (p :: ps)).take k = recB p ++ (recsB ps).take (k - (recB p).length) := by
          rw [recsB_cons, List.take_append, List.take_of_length_le (by omega)]
        rw [e, scanA_ok (takeR_rec hp0), ← recB_len, List.drop_left, h5, List.take_succ_cons, recsB_cons, List.length_append]
theorem readS_seg {n : Nat} {l : List (List UInt8)} (h1 : 1 ≤ n) (h2 : n ≤ 1099511627776) (hl : ∀ p ∈ l, p.length ≤ 1048576) : readS (recsB (hdB n :: l)) = some ((n : Int), l, (recsB (hdB n :: l)).length) := by
  have := scanA_recs (hdB n :: l) [] (fun p hp => by rcases List.mem_cons.1 hp with rfl | hp; exact hdB_le n; exact hl p hp) ⟨2, takeR_nil⟩
  rw [List.append_nil] at this
  unfold readS
  rw [this]
  simp only [hdOf_hd h1 h2, Option.map_some]
/-- A beginning of a segment's bytes. -/
theorem readS_cut {n : Nat} {l : List (List UInt8)} (k : Nat) (h1 : 1 ≤ n) (h2 : n ≤ 1099511627776) (hl : ∀ p ∈ l, p.length ≤ 1048576) :
    (readS ((recsB (hdB n :: l)).take k) = none ∧ k < (recsB [hdB n]).length) ∨ ∃ j, j ≤ l.length ∧ (∀ i, i ≤ l.length → ((recsB (hdB n :: l.take i)).length ≤ k ↔ i ≤ j)) ∧ readS ((recsB (hdB n :: l)).take k) = some ((n : Int), l.take j, (recsB (hdB n :: l.take j)).length) := by
  obtain ⟨j, h3, h4, h5⟩ := scanA_cut2 (hdB n :: l) k (fun p hp => by rcases List.mem_cons.1 hp with rfl | hp; exact hdB_le n; exact hl p hp)
  cases j with
  | zero =>
    left
    unfold readS
    rw [h5]
    refine ⟨rfl, ?_⟩
    have := h4 1 (by simp)
    rw [List.take_succ_cons, List.take_zero] at this
    omega
  | succ j =>
    right
    refine ⟨j, by simpa using h3, fun i hi => ?_, ?_⟩
    · have := h4 (i + 1) (by simpa using hi)
      rw [List.take_succ_cons] at this
      omega
    · unfold readS
      rw [h5, List.take_succ_cons]
      simp only [hdOf_hd h1 h2, Option.map_some]
end Go.Proofs.Ytilgfgghjdomcaa
namespace Go.Proofs.Ytilgfgghjdomcaa
set_option linter.unusedVariables false
open Go.RowKit

theorem loadG_seg {R : List PF} {L0 : List PSeg} {f n : Int} {s : PSeg} {last : Bool} {x : PF} (hx : getK PF.id R f = some x) (hb : x.b = segB s) (h1 : s.file = f) (h2 : s.first = n) (h3 : s.size = (segB s).length) (h4 : ∀ p ∈ s.l, p.length ≤ 1048576)
    (n1 : 1 ≤ n) (n2 : n + s.l.length ≤ 1099511627776) (hl : last = false → s.l ≠ []) (h0 : L0 = [] ∨ headG L0 + 1 = n) : loadG L0 R f last = ((true, true), L0 ++ [s]) := by
  unfold loadG
  rw [hx]
  simp only [Option.map_some, Option.getD_some, hb]
  have hr : readS (segB s) = some (s.first, s.l, (segB s).length) := by
    have := readS_seg (n := s.first.toNat) (l := s.l) (by omega) (by omega) h4
    unfold segB
    rw [this]
    congr 2; omega
  rw [hr]
  have hs : (⟨f, s.first, (segB s).length, s.l⟩ : PSeg) = s := by
    obtain ⟨a, b, c, d⟩ := s
    simp only at h1 h3
    simp [← h1, ← h3]
  simp only
  rw [if_neg, hs]
  rintro (⟨e1, e2⟩ | ⟨e1, e2⟩ | e)
  · rcases e2 with e2 | e2
    · exact e2 rfl
    · exact hl e1 (List.eq_nil_of_length_eq_zero e2)
  · rcases h0 with rfl | h0
    · simp at e1
    · omega
  · omega
def gapG (prev : Option Int) (f : Int) : Bool := match prev with
  | none => false
  | some g => decide (f ≠ g + 1)
theorem loadsG_cons (R : List PF) (f : Int) (r : List Int) (prev : Option Int) (L : List PSeg) (wh : Bool) : loadsG R (f :: r) prev L wh =
    if (loadG L R f r.isEmpty).1.2 = false then none else if gapG prev f = true then none else loadsG R r (some f) (loadG L R f r.isEmpty).2 (loadG L R f r.isEmpty).1.1 := rfl
theorem loads_chain (R : List PF) : ∀ (r : List PSeg) (f n : Int) (L0 : List PSeg) (prev : Option Int) (ids : List Int) (wh : Bool), Chain f n r → (∀ s ∈ r, ∃ x, getK PF.id R s.file = some x ∧ x.b = segB s) → (L0 = [] ∨ headG L0 + 1 = n) → (prev = none ∨ prev = some (f - 1)) → 1 ≤ n → n + (entsG r).length ≤ 1099511627776 → (ids ≠ [] → ∀ s ∈ r, s.l ≠ []) →
    loadsG R (r.map PSeg.file ++ ids) prev L0 wh = loadsG R ids (if r = [] then prev else some (f + r.length - 1)) (L0 ++ r) (if r = [] then wh else true)
  | [], f, n, L0, prev, ids, wh, _, _, _, _, _, _, _ => by simp
  | s :: r, f, n, L0, prev, ids, wh, hc, hg, h0, hp, n1, n2, hi => by
    obtain ⟨h1, h2, h3, h4, h5, h6⟩ := hc
    obtain ⟨x, hx, hb⟩ := hg s (.head _)
    rw [entsG_cons, List.length_append] at n2
    have hld : loadG L0 R s.file (r.map PSeg.file ++ ids).isEmpty = ((true, true), L0 ++ [s]) := by
      refine loadG_seg hx hb rfl h2 h3 h4 n1 (by omega) (fun hl => ?_) h0
      by_cases hr : r = []
      · subst hr
        refine hi (fun e => ?_) s (.head _)
        subst e; simp at hl
      · exact h5 hr
    rw [List.map_cons, List.cons_append, loadsG_cons]
    simp only [hld]
    rw [if_neg (by simp), if_neg ?_]
    · rw [loads_chain R r (f + 1) (n + s.l.length) (L0 ++ [s]) (some s.file) ids true h6 (fun t ht => hg t (.tail _ ht)) (.inr ?_) (.inr (by rw [h1]; congr 1; omega)) (by omega) (by omega) (fun hd t ht => hi hd t (.tail _ ht))]
      · rw [if_neg (by simp : ¬ (s :: r = [])), if_neg (by simp : ¬ (s :: r = [])), List.append_assoc]
        by_cases hr : r = []
        · subst hr; simp [h1]
        · rw [if_neg hr, if_neg hr]
          congr 2
          simp; omega
      · unfold headG
        rw [List.getLast?_concat]
        simp only [PSeg.next]; omega
    · rcases hp with rfl | rfl
      · simp [gapG]
      · simp [gapG, h1]
theorem idsG_con {R : List PF} {f base : Int} (h : Con f R) (h1 : base ≤ f) (h2 : f + R.length ≤ base + 4096) : idsG base R = R.map PF.id := by
  unfold idsG
  rw [List.filter_eq_self]
  intro a ha
  obtain ⟨x, hx, rfl⟩ := List.mem_map.1 ha
  have := h.mem hx
  simp only [decide_eq_true_eq]; omega
theorem get_chain {f n : Int} {L : List PSeg} {R : List PF} (hR : Con f R) (hs : ∀ s ∈ L, segF s ∈ R) : ∀ s ∈ L, ∃ x, getK PF.id R s.file = some x ∧ x.b = segB s := fun s h => ⟨segF s, getK_of hR.sorted (hs s h), rfl⟩
theorem map_file (L : List PSeg) : (L.map segF).map PF.id = L.map PSeg.file := by rw [List.map_map]; rfl
/-- Nothing was left on the way. -/
theorem open_chain {d : DS} {L : List PSeg} {f n base size : Int} (hc : Chain f n L) (hR : d.R = L.map segF) (hoff : d.off = false) (b0 : 0 ≤ base) (b1 : base ≤ 12288) (s0 : 64 ≤ size) (s1 : size ≤ 65536) (hf : base ≤ f) (hf2 : f + L.length ≤ base + 4096)
    (n1 : 1 ≤ n) (n2 : n + (entsG L).length ≤ 1099511627776) : openG d base size = (d, .ok ⟨L, base, size, none⟩) := by
  have hcon := hc.con
  have hids : idsG base d.R = L.map PSeg.file := by
    rw [hR, idsG_con hcon hf (by rw [List.length_map]; exact hf2), map_file]
  have hl := loads_chain d.R L f n [] none [] true hc (get_chain (f := f) (n := n) (by rw [hR]; exact hcon) (fun s hs => by rw [hR]; exact List.mem_map.2 ⟨s, hs, rfl⟩)) (.inl rfl) (.inl rfl) n1 n2 (fun h => absurd rfl h)
  rw [List.append_nil] at hl
  unfold openG
  rw [if_neg (by omega), if_neg (by simp [hoff]), hids, hl]
  simp only [loadsG, List.nil_append]
  have hb : beginG L d (L.map PSeg.file) (if L = [] then true else true) = (d, 0) := by
    unfold beginG
    rcases List.eq_nil_or_concat L with rfl | ⟨A, s, rfl⟩
    · rfl
    · simp only [List.concat_eq_append, List.map_append, List.map_cons, List.map_nil, List.getLast?_concat]
      rw [if_neg (by simp), if_neg]
      have hsz := (hc.bl s (by simp)).1
      have : getK PF.id d.R s.file = some (segF s) := by
        rw [hR]
        exact getK_of (x := segF s) hcon.sorted (by simp)
      unfold lenF lastSize
      rw [this, List.getLast?_concat]
      simp only [segF, hsz]; omega
  rw [hb]
  simp
/-- The last file was left as a beginning of what it should have had. -/
theorem open_tail {d : DS} {A : List PSeg} {l : List (List UInt8)} {f n base size : Int} {k : Nat} {x : PF} (hc : Chain f n A) (hA : ∀ s ∈ A, s.l ≠ []) (hl : ∀ p ∈ l, p.length ≤ 1048576) (hR : d.R = A.map segF ++ [x]) (hid : x.id = f + A.length) (hsafe : x.safe = x.b.length)
    (hb : x.b = (recsB (hdB (n + (entsG A).length).toNat :: l)).take k) (hoff : d.off = false) (harm : d.arm = 0) (b0 : 0 ≤ base) (b1 : base ≤ 12288) (s0 : 64 ≤ size) (s1 : size ≤ 65536) (hf : base ≤ f) (hf2 : f + A.length + 1 ≤ base + 4096)
    (n1 : 1 ≤ n) (n2 : n + (entsG A).length + l.length ≤ 1099511627776) :
    ∃ L j d', j ≤ l.length ∧ (∀ i, i ≤ l.length → (recsB (hdB (n + (entsG A).length).toNat :: l.take i)).length ≤ k → i ≤ j) ∧ (∀ i, i ≤ l.length → k < (recsB (hdB (n + (entsG A).length).toNat :: l.take i)).length → j < i ∨ j = 0) ∧
      openG d base size = (d', .ok ⟨L, base, size, none⟩) ∧ Chain f n L ∧ entsG L = entsG A ++ l.take j ∧ d'.R = L.map segF ∧ d'.off = false ∧ d'.arm = 0 ∧ d'.ops ≤ d.ops + 1 ∧ L.length ≤ A.length + 1 ∧ A.length ≤ L.length ∧ (A = [] → j = 0 → L = [] ∨ (L.length = 1 ∧ (recsB [hdB (n + (entsG A).length).toNat]).length ≤ k)) := by
  have hcon : Con f d.R := by rw [hR]; exact hc.con.snoc (by simpa using hid)
  have hsrt := hcon.sorted
  have hids : idsG base d.R = A.map PSeg.file ++ [x.id] := by
    rw [idsG_con hcon hf (by rw [hR]; simp; omega), hR, List.map_append, map_file]; rfl
  have hld := loads_chain d.R A f n [] none [x.id] true hc (get_chain (f := f) (n := n) hcon (fun s hs => by rw [hR]; exact List.mem_append_left _ (List.mem_map.2 ⟨s, hs, rfl⟩))) (.inl rfl) (.inl rfl) n1 (by omega) (fun _ => hA)
  have hget : getK PF.id d.R x.id = some x := by
    have := hsrt
    rw [hR] at this ⊢; exact get_end this
  have hprev : ∀ b : Bool, gapG (if A = [] then (none : Option Int) else some (f + A.length - 1)) x.id = false := by
    intro _
    unfold gapG
    split
    · rfl
    · rename_i g hg
      split at hg
      · cases hg
      · cases hg
        simp; omega
  have hdel : delK PF.id d.R x.id = A.map segF := by
    have := hsrt
    rw [hR] at this ⊢; exact del_end this
  have hmay : may d x.id = 0 := by
    unfold may
    rw [if_neg (by simp [hoff]), if_neg (by omega)]
  have hisk : isK PF.id d.R x.id = true := by
    have := hsrt
    rw [hR] at this ⊢; exact is_end this
  have hfind : d.find x.id = 0 := by
    unfold DS.find
    rw [if_neg (by simp [hmay]), if_pos hisk]
  have hcoff : d.cnt.off = false := by simp [DS.cnt, harm]
  have hcarm : d.cnt.arm = 0 := by simp [DS.cnt, harm]
  have hh : A ≠ [] → headG ([] ++ A) + 1 = n + (entsG A).length := fun h => by rw [List.nil_append, hc.head h]; omega
  have hnn : ((n + (entsG A).length).toNat : Int) = n + (entsG A).length := by omega
  have hbound : ¬ (base < 0 ∨ 12288 < base ∨ size < 64 ∨ 65536 < size) := by omega
  rcases readS_cut (n := (n + (entsG A).length).toNat) (l := l) k (by omega) (by omega) hl with ⟨h1, h2⟩ | ⟨j, h1, h2, h3⟩
  · have hload : loadG ([] ++ A) d.R x.id true = ((false, true), A) := by
      unfold loadG
      rw [hget]
      simp only [Option.map_some, Option.getD_some, hb, h1]
      rfl
    have hlast : loadsG d.R [x.id] (if A = [] then none else some (f + A.length - 1)) ([] ++ A) (if A = [] then true else true) = some (A, false) := by
      rw [loadsG_cons]
      simp only [List.isEmpty_nil, hload]
      rw [hprev true]
      rfl
    rw [hlast] at hld
    refine ⟨A, 0, { d.cnt with R := A.map segF }, Nat.zero_le _, fun i hi hk => ?_, fun i _ _ => .inr rfl, ?_, hc, by simp, rfl, hcoff, hcarm, by simp [DS.cnt], by omega, Nat.le_refl _, fun h _ => .inl h⟩
    · rw [recsB_cons, List.length_append] at hk
      rw [recsB_cons, List.length_append] at h2
      have : (recsB []).length = 0 := rfl
      omega
    · have hbeg : beginG A d (A.map PSeg.file ++ [x.id]) false = ({ d.cnt with R := A.map segF }, 0) := by
        unfold beginG
        rw [List.getLast?_concat]
        simp only [if_true, DS.remove]
        rw [if_neg (by simp [hfind]), if_neg (by simp [hcoff]), hdel]
      unfold openG
      rw [if_neg hbound, if_neg (by simp [hoff]), hids, hld]
      simp only [hbeg]
      rfl
  · let s : PSeg := ⟨x.id, n + (entsG A).length, (recsB (hdB (n + (entsG A).length).toNat :: l.take j)).length, l.take j⟩
    have hload : loadG ([] ++ A) d.R x.id true = ((true, true), A ++ [s]) := by
      unfold loadG
      rw [hget]
      simp only [Option.map_some, Option.getD_some, hb, h3]
      rw [if_neg, hnn]
      · rfl
      · rintro (⟨e1, e2⟩ | ⟨e1, e2⟩ | e)
        · cases e1
        · by_cases hA0 : A = []
          · subst hA0; simp at e1
          · have := hh hA0; omega
        · rw [List.length_take] at e; omega
    have hlast : loadsG d.R [x.id] (if A = [] then none else some (f + A.length - 1)) ([] ++ A) (if A = [] then true else true) = some (A ++ [s], true) := by
      rw [loadsG_cons]
      simp only [List.isEmpty_nil, hload]
      rw [hprev true]
      rfl
    rw [hlast] at hld
    have hsB : segB s = recsB (hdB (n + (entsG A).length).toNat :: l.take j) := rfl
    have hcs : Chain f n (A ++ [s]) := Chain.app.2 ⟨hc, fun _ => hA, hid, rfl, rfl, fun p hp => hl p (List.mem_of_mem_take hp), fun h => absurd rfl h, trivial⟩
    have hsz : lastSize (A ++ [s]) = (segB s).length := by unfold lastSize; rw [List.getLast?_concat]; rfl
    have hk0 : (segB s).length ≤ k := by
      have := (h2 j h1).2 (Nat.le_refl _)
      rw [hsB]; exact this
    have htk : (recsB (hdB (n + (entsG A).length).toNat :: l)).take (segB s).length = segB s := by
      have : recsB (hdB (n + (entsG A).length).toNat :: l) = segB s ++ recsB (l.drop j) := by
        rw [hsB, recsB_cons, recsB_cons, List.append_assoc, ← recsB_app, List.take_append_drop]
      rw [this, List.take_left]
    have hlen : (segB s).length ≤ (recsB (hdB (n + (entsG A).length).toNat :: l)).length := by
      rw [← htk, List.length_take]; omega
    have hxl : (segB s).length ≤ x.b.length := by rw [hb, List.length_take]; omega
    have hxt : x.b.take (segB s).length = segB s := by rw [hb, List.take_take, Nat.min_eq_left hk0, htk]
    have hlenF : lenF d.R x.id = x.b.length := by unfold lenF; rw [hget]
    have hres : ∃ d', beginG (A ++ [s]) d (A.map PSeg.file ++ [x.id]) true = (d', 0) ∧ d'.R = (A ++ [s]).map segF ∧ d'.off = false ∧ d'.arm = 0 ∧ d'.ops ≤ d.ops + 1 := by
      unfold beginG
      rw [List.getLast?_concat]
      simp only [hlenF, hsz]
      rw [if_neg (by simp)]
      by_cases hlt : ((segB s).length : Int) < x.b.length
      · rw [if_pos hlt]
        unfold DS.cut
        rw [if_neg (by simp [hfind]), if_neg (by rw [hlenF]; omega), if_neg (by simp [hcoff])]
        refine ⟨_, rfl, ?_, hcoff, hcarm, by simp [DS.cnt]⟩
        show updF d.R x.id (cutF (((segB s).length : Nat) : Int).toNat) = _
        rw [hR, upd_end (by rw [← hR]; exact hsrt), Int.toNat_natCast, List.map_append]
        congr 1
        simp only [cutF, hxt, hsafe, List.map_cons, List.map_nil, segF]
        rw [Nat.min_eq_right hxl]
      · rw [if_neg hlt]
        refine ⟨d, rfl, ?_, hoff, harm, by omega⟩
        rw [hR, List.map_append]
        congr 1
        have : x.b = segB s := by rw [← hxt, List.take_of_length_le (by omega)]
        obtain ⟨xi, xs, xb⟩ := x
        simp only at this hsafe
        simp only [List.map_cons, List.map_nil, segF]
        rw [hsafe, this]
    obtain ⟨d', hbeg, r1, r2, r3, r4⟩ := hres
    refine ⟨A ++ [s], j, d', h1, fun i hi hk => (h2 i hi).1 hk, fun i hi hk => .inl ?_, ?_, hcs, by rw [entsG_app]; simp [entsG, s], r1, r2, r3, r4, by simp, by simp, fun h _ => .inr ⟨by simp [h], ?_⟩⟩
    · rcases Nat.lt_or_ge j i with h | h
      · exact h
      · have := (h2 i hi).2 h; omega
    · unfold openG
      rw [if_neg hbound, if_neg (by simp [hoff]), hids, hld]
      simp only [hbeg]
      rfl
    · have := (h2 0 (Nat.zero_le _)).2 (Nat.zero_le _)
      rwa [List.take_zero] at this
end Go.Proofs.Ytilgfgghjdomcaa
namespace Go.Proofs.Ytilgfgghjdomcaa
set_option linter.unusedVariables false
open Go.RowKit

theorem Chain.len_le : ∀ {f n : Int} {L : List PSeg}, Chain f n L → L.length ≤ (entsG L).length + 1
  | f, n, [], _ => by simp
  | f, n, [s], _ => by simp
  | f, n, s :: t :: L, h => by
    obtain ⟨_, _, _, _, h5, h6⟩ := h
    have := h6.len_le
    have h0 : s.l.length ≠ 0 := fun e => h5 (by simp) (List.eq_nil_of_length_eq_zero e)
    rw [entsG_cons, List.length_append, List.length_cons]
    omega
/-- The log's files are just its segments. -/
structure LInv (g : PLog) (d : DS) (f n : Int) (es : List (List UInt8)) : Prop where
  chain : Chain f n g.segs
  ents : entsG g.segs = es
  files : d.R = g.segs.map segF
  nil : g.segs = [] → f = g.base ∧ n = 1
  base : g.base ≤ f
  b0 : 0 ≤ g.base
  b1 : g.base ≤ 12288
  s0 : 64 ≤ g.size
  s1 : g.size ≤ 65536
  n1 : 1 ≤ n
  fi : f + es.length + 2 ≤ g.base + 4096
  off : d.off = false
  torn : g.torn = none
theorem LInv.head {g : PLog} {d : DS} {f n : Int} {es : List (List UInt8)} (h : LInv g d f n es) : headG g.segs = n + es.length - 1 := by
  by_cases hL : g.segs = []
  · have := h.nil hL
    have e := h.ents
    rw [hL] at e ⊢
    rw [← e, this.2]; rfl
  · rw [h.chain.head hL, h.ents]
theorem LInv.segOk {g : PLog} {d : DS} {f n : Int} {es : List (List UInt8)} (h : LInv g d f n es) (hn : n + es.length ≤ 100000) (hl : es.length ≤ 60) (hb : ∀ p ∈ es, p.length ≤ 1000) : g.Ok 1000000 := by
  have hle := h.chain.len_le
  rw [h.ents] at hle
  have hb0 := h.b0
  have hb1 := h.b1
  have hfi := h.fi
  have hbs := h.base
  have hn1 := h.n1
  refine ⟨fun s hs => ?_, h.b0, h.b1, h.s0, h.s1, by omega⟩
  obtain ⟨A, B, e⟩ := List.append_of_mem hs
  have hc := h.chain
  rw [e] at hc
  obtain ⟨h1, h2, h3⟩ := Chain.app.1 hc
  obtain ⟨c1, c2, c3, c4, c5, c6⟩ := h3
  have hes : es = entsG A ++ (s.l ++ entsG B) := by rw [← h.ents, e, entsG_app, entsG_cons]
  have hll : (entsG A).length + (s.l.length + (entsG B).length) = es.length := by rw [hes, List.length_append, List.length_append]
  have hAl : A.length ≤ (entsG A).length + 1 := h1.len_le
  have hrec : ∀ l : List (List UInt8), (∀ p ∈ l, p.length ≤ 1000) → (recsB l).length ≤ l.length * 1008 := by
    intro l
    induction l with
    | nil => intro _; simp [recsB]
    | cons p l ih =>
      intro hp
      have h1 := ih fun q hq => hp q (.tail _ hq)
      have h2 := hp p (.head _)
      rw [recsB_cons, List.length_append, recB_len, List.length_cons]; omega
  have hr := hrec s.l fun p hp => hb p (by rw [hes]; simp [hp])
  have hsz := segB_len s
  refine ⟨by omega, by omega, by omega, by omega, by omega, by omega, fun b hbm => ?_⟩
  have := hb b (by rw [hes]; simp [hbm])
  omega
/-- What a write would be, where there is room. -/
structure PlanR (g : PLog) (f n : Int) (es : List (List UInt8)) (p : List UInt8) (x : PWr) (A : List PSeg) (l0 : List (List UInt8)) (pre : List UInt8) : Prop where
  chain : Chain f n A
  full : ∀ s ∈ A, s.l ≠ []
  file : x.file = f + A.length
  ents : entsG A ++ l0 = es
  bl : ∀ q ∈ l0, q.length ≤ 1048576
  all : pre ++ x.b = recsB (hdB (n + (entsG A).length).toNat :: (l0 ++ [p]))
  preq : l0 = [] ∨ pre = recsB (hdB (n + (entsG A).length).toNat :: l0)
  app : ∀ t, appF (g.segs.map segF) x.file t = A.map segF ++ [⟨x.file, pre.length, pre ++ t⟩]
  put : Chain f n (putG g.segs x p)
  putE : entsG (putG g.segs x p) = es ++ [p]
  putF : (putG g.segs x p).map segF = A.map segF ++ [⟨x.file, (pre ++ x.b).length, pre ++ x.b⟩]
  putN : putG g.segs x p ≠ []
  putA : ∀ s ∈ putG g.segs x p, s.l ≠ []
  pos : 0 < x.b.length
  len : x.b.length ≤ 27 + p.length
  fresh : x.fresh = true → g.segs = A ∧ pre = []
  old : x.fresh = false → g.segs.map segF = A.map segF ++ [⟨x.file, pre.length, pre⟩] ∧ lastSize g.segs = pre.length
theorem plan_ok {g : PLog} {d : DS} {f n : Int} {es : List (List UInt8)} (h : LInv g d f n es) {p : List UInt8} (hp : p.length ≤ 1048576) (hn : n + es.length ≤ 100000) : ∃ x A l0 pre, planG g false p = .ok x ∧ PlanR g f n es p x A l0 pre := by
  have hh := h.head
  have hc := h.chain
  have hle := hc.len_le
  rw [h.ents] at hle
  have hfi := h.fi
  have hn1 := h.n1
  have hsrt := hc.con.sorted
  have hfresh : ∀ F : Int, F = f + g.segs.length → (∀ s ∈ g.segs, s.l ≠ []) → ∃ x A l0 pre, freshG g F p = .ok x ∧ PlanR g f n es p x A l0 pre := by
    intro F hF hfull
    have e1 : (headG g.segs + 1).toNat = (n + (entsG g.segs).length).toNat := by rw [hh, h.ents]; congr 1; omega
    have hput : putG g.segs ⟨F, true, recB (hdB (headG g.segs + 1).toNat) ++ recB p⟩ p = g.segs ++ [⟨F, headG g.segs + 1, (recB (hdB (headG g.segs + 1).toNat) ++ recB p).length, [p]⟩] := by
      unfold putG
      simp
    have hall : recB (hdB (headG g.segs + 1).toNat) ++ recB p = recsB (hdB (n + (entsG g.segs).length).toNat :: [p]) := by rw [e1, recsB_cons, recsB_cons]; simp [recsB]
    refine ⟨⟨F, true, recB (hdB (headG g.segs + 1).toNat) ++ recB p⟩, g.segs, [], [], ?_, hc, hfull, hF, by rw [List.append_nil]; exact h.ents, by simp, ?_, .inl rfl, fun t => ?_, ?_, ?_, ?_, ?_, ?_, ?_, ?_, fun _ => ⟨rfl, rfl⟩, fun e => by cases e⟩
    · unfold freshG
      rw [if_neg (by omega)]
    · exact hall
    · refine app_new hsrt (fun y hy => ?_) t
      have := hc.con.mem hy
      rw [List.length_map] at this
      show y.id < F
      omega
    · rw [hput]
      refine Chain.app.2 ⟨hc, fun _ => hfull, hF, ?_, ?_, by simpa using hp, fun h => absurd rfl h, trivial⟩
      · show headG g.segs + 1 = _
        rw [hh, h.ents]; omega
      · show (recB (hdB (headG g.segs + 1).toNat) ++ recB p).length = (segB _).length
        unfold segB
        rw [hall, e1]
    · rw [hput, entsG_app, h.ents]; simp [entsG]
    · rw [hput, List.map_append, List.nil_append]
      congr 1
      simp only [List.map_cons, List.map_nil, segF, segB]
      rw [hall, e1]
    · rw [hput]; simp
    · rw [hput]
      intro s hs
      rcases List.mem_append.1 hs with hs | hs
      · exact hfull s hs
      · rw [List.mem_singleton.1 hs]; simp
    · show 0 < (recB (hdB (headG g.segs + 1).toNat) ++ recB p).length
      rw [List.length_append, recB_len]; omega
    · show (recB (hdB (headG g.segs + 1).toNat) ++ recB p).length ≤ _
      rw [List.length_append, recB_len, recB_len, hdB_len]; omega
  unfold planG
  rw [if_neg (by omega), if_neg (by simp), if_neg (by omega)]
  rcases List.eq_nil_or_concat g.segs with hL | ⟨A, s, hL⟩
  · have hnil := h.nil hL
    rw [hL]
    simp only [List.getLast?_nil]
    exact hfresh g.base (by rw [hL]; simp; omega) (by rw [hL]; simp)
  · rw [List.concat_eq_append] at hL
    have hLg : g.segs.getLast? = some s := by rw [hL, List.getLast?_concat]
    rw [hLg]
    simp only
    rw [hL] at hc
    obtain ⟨h1, h2, c1, c2, c3, c4, c5, c6⟩ := Chain.app.1 hc
    have hfA := h2 (by simp)
    by_cases hcond : s.l.length = 0 ∨ (s.size : Int) + (recB p).length ≤ g.size
    · rw [if_pos hcond]
      have hput : putG g.segs ⟨s.file, false, recB p⟩ p = A ++ [{ s with size := s.size + (recB p).length, l := s.l ++ [p] }] := by
        unfold putG
        rw [if_neg (by simp)]
        simp only [hL, List.dropLast_concat, List.getLast?_concat]
        rfl
      have hall : segB s ++ recB p = recsB (hdB (n + (entsG A).length).toNat :: (s.l ++ [p])) := by
        unfold segB
        rw [c2, ← List.cons_append, recsB_snoc]
      have hB2 : segB { s with size := s.size + (recB p).length, l := s.l ++ [p] } = segB s ++ recB p := by
        unfold segB
        rw [← List.cons_append, recsB_snoc]
      refine ⟨⟨s.file, false, recB p⟩, A, s.l, segB s, rfl, h1, hfA, c1, ?_, c4, hall, .inr (by unfold segB; rw [c2]), fun t => ?_, ?_, ?_, ?_, ?_, ?_, ?_, ?_, fun e => (by cases e), fun _ => ⟨?_, ?_⟩⟩
      · rw [← h.ents, hL, entsG_app]; simp [entsG]
      · rw [hL, List.map_append] at hsrt ⊢
        exact app_end (x := segF s) hsrt t
      · rw [hput]
        refine Chain.app.2 ⟨h1, fun _ => hfA, c1, c2, ?_, fun q hq => ?_, fun h => absurd rfl h, trivial⟩
        · rw [hB2, List.length_append, ← c3]
        · rcases List.mem_append.1 hq with hq | hq
          · exact c4 q hq
          · rw [List.mem_singleton.1 hq]; exact hp
      · rw [hput, entsG_app, ← h.ents, hL, entsG_app]; simp [entsG]
      · rw [hput, List.map_append]
        simp only [List.map_cons, List.map_nil, segF, hB2]
      · rw [hput]; simp
      · rw [hput]
        intro t ht
        rcases List.mem_append.1 ht with ht | ht
        · exact hfA t ht
        · rw [List.mem_singleton.1 ht]; simp
      · show 0 < (recB p).length
        rw [recB_len]; omega
      · show (recB p).length ≤ _
        rw [recB_len]; omega
      · rw [hL, List.map_append]; rfl
      · unfold lastSize; rw [hL, List.getLast?_concat]; show ((s.size : Nat) : Int) = _; rw [c3]
    · rw [if_neg hcond]
      refine hfresh (s.file + 1) (by rw [hL, c1]; simp; omega) (by
        intro t ht
        rw [hL] at ht
        rcases List.mem_append.1 ht with ht | ht
        · exact hfA t ht
        · rw [List.mem_singleton.1 ht]
          intro e
          exact hcond (.inl (by rw [e]; rfl)))
/-- The last file has something more, or less, than the log knows. -/
def Torn (d : DS) (f n : Int) (es : List (List UInt8)) (p : List UInt8) (whole : Bool) : Prop := ∃ A l0 pre k,
  Chain f n A ∧ (∀ s ∈ A, s.l ≠ []) ∧ entsG A ++ l0 = es ∧ (∀ q ∈ l0 ++ [p], q.length ≤ 1048576) ∧ (l0 = [] ∨ pre = (recsB (hdB (n + (entsG A).length).toNat :: l0)).length) ∧ pre ≤ k ∧ k ≤ (recsB (hdB (n + (entsG A).length).toNat :: (l0 ++ [p]))).length ∧
  (whole = false → k < (recsB (hdB (n + (entsG A).length).toNat :: (l0 ++ [p]))).length) ∧ d.R = A.map segF ++ [⟨f + A.length, pre, (recsB (hdB (n + (entsG A).length).toNat :: (l0 ++ [p]))).take k⟩]
theorem PlanR.torn {g : PLog} {f n : Int} {es : List (List UInt8)} {p : List UInt8} {x : PWr} {A : List PSeg} {l0 : List (List UInt8)} {pre : List UInt8} (h : PlanR g f n es p x A l0 pre) (hp : p.length ≤ 1048576) {d : DS} {m : Nat} {whole : Bool} (hm : m ≤ x.b.length) (hw : whole = false → m < x.b.length)
    (hR : d.R = appF (g.segs.map segF) x.file (x.b.take m)) : Torn d f n es p whole := by
  have hall := h.all
  have hl : (recsB (hdB (n + (entsG A).length).toNat :: (l0 ++ [p]))).length = pre.length + x.b.length := by rw [← hall, List.length_append]
  refine ⟨A, l0, pre.length, pre.length + m, h.chain, h.full, h.ents, fun q hq => ?_, ?_, by omega, by omega, fun e => by have := hw e; omega, ?_⟩
  · rcases List.mem_append.1 hq with hq | hq
    · exact h.bl q hq
    · rw [List.mem_singleton.1 hq]; exact hp
  · rcases h.preq with h1 | h1
    · exact .inl h1
    · exact .inr (by rw [h1])
  · rw [hR, h.app, ← hall, List.take_length_add_append, h.file]
theorem crashR_app (A B : List PF) (keep : List Int) : ∀ hA : (∀ x ∈ A, x.safe = x.b.length), crashR (A ++ B) keep = A ++ B.mapIdx fun i => crF keep (A.length + i) := by
  intro hA
  unfold crashR
  rw [List.mapIdx_append]
  congr 1
  · refine List.ext_getElem (by simp) fun i h1 h2 => ?_
    rw [List.getElem_mapIdx]
    have hx := hA A[i] (List.getElem_mem h2)
    have hm : moreF keep i A[i] = 0 := by
      have := moreF_le (keep := keep) (i := i) (x := A[i]) (by omega)
      omega
    unfold crF
    rw [hm, hx, Nat.add_zero, Nat.min_self, List.take_length, ← hx]
  · congr 1
    funext i
    rw [Nat.add_comm]
theorem segF_safe (A : List PSeg) : ∀ x ∈ A.map segF, x.safe = x.b.length := fun x hx => by
  obtain ⟨s, _, rfl⟩ := List.mem_map.1 hx; rfl
theorem crash_chain {L : List PSeg} (keep : List Int) : crashR (L.map segF) keep = L.map segF := by
  have := crashR_app (L.map segF) [] keep (segF_safe L)
  simpa using this
/-- Behind a crash, opened anew: what was there, and at most the entry that was on the way. -/
theorem torn_open {d : DS} {f n : Int} {es : List (List UInt8)} {p : List UInt8} {whole : Bool} (h : Torn d f n es p whole) (keep : List Int) {base size : Int} (b0 : 0 ≤ base) (b1 : base ≤ 12288) (s0 : 64 ≤ size) (s1 : size ≤ 65536) (hf : base ≤ f) (hf2 : f + es.length + 4 ≤ base + 4096)
    (n1 : 1 ≤ n) (n2 : n + es.length + 1 ≤ 100000) (hn : f = base ∧ n = 1) :
    ∃ g d' es', openG (d.crash keep) base size = (d', .ok g) ∧ LInv g d' f n es' ∧ d'.arm = 0 ∧ d'.ops ≤ d.ops + 1 ∧ g.base = base ∧ g.size = size ∧ (es' = es ∨ (whole = true ∧ es' = es ++ [p])) := by
  obtain ⟨A, l0, pre, k, hA, hfull, hents, hbl, hpre, hk1, hk2, hw, hR⟩ := h
  have hAl := hA.len_le
  have hl : (entsG A).length + l0.length = es.length := by rw [← hents, List.length_append]
  let T := recsB (hdB (n + (entsG A).length).toNat :: (l0 ++ [p]))
  have hTk : (T.take k).length = k := by rw [List.length_take]; exact Nat.min_eq_left hk2
  let y := crF keep (A.map segF).length ⟨f + A.length, pre, T.take k⟩
  have hcr : (d.crash keep).R = A.map segF ++ [y] := by
    show crashR d.R keep = _
    rw [hR, crashR_app _ _ _ (segF_safe A)]
    rfl
  have hsafe : pre ≤ (T.take k).length := by rw [hTk]; exact hk1
  have hy1 : y.b.length = pre + moreF keep (A.map segF).length ⟨f + A.length, pre, T.take k⟩ := crF_b (x := ⟨f + A.length, pre, T.take k⟩) hsafe
  have hy2 : y.safe = pre + moreF keep (A.map segF).length ⟨f + A.length, pre, T.take k⟩ := crF_safe (x := ⟨f + A.length, pre, T.take k⟩) hsafe
  have hml : pre + moreF keep (A.map segF).length ⟨f + A.length, pre, T.take k⟩ ≤ k := by
    have := moreF_le (keep := keep) (i := (A.map segF).length) (x := ⟨f + A.length, pre, T.take k⟩) hsafe
    simpa [hTk] using this
  have hyb : y.b = T.take (pre + moreF keep (A.map segF).length ⟨f + A.length, pre, T.take k⟩) := by
    show (T.take k).take _ = _
    rw [List.take_take, Nat.min_eq_left hml]
  generalize hm : pre + moreF keep (A.map segF).length ⟨f + A.length, pre, T.take k⟩ = m at *
  obtain ⟨L, j, d', j1, j2, j3, ho, hc, he, hR', ho', ha', hops, _, _, _⟩ := open_tail (d := d.crash keep) (A := A) (l := l0 ++ [p]) (f := f) (n := n) (base := base) (size := size) (k := m) (x := y) hA hfull hbl hcr rfl (by rw [hy1, hy2]) hyb rfl rfl b0 b1 s0 s1 hf (by omega) n1 (by simp; omega)
  have hj0 : l0.length ≤ j := by
    rcases hpre with rfl | hpre
    · simp
    · refine j2 l0.length (by simp) ?_
      rw [List.take_left, ← hpre]; omega
  have hj1 : j ≤ l0.length + 1 := by simpa using j1
  refine ⟨⟨L, base, size, none⟩, d', entsG L, ho, ⟨hc, rfl, hR', fun _ => hn, hf, b0, b1, s0, s1, n1, ?_, ho', rfl⟩, ha', hops, rfl, rfl, ?_⟩
  · show f + ((entsG L).length : Int) + 2 ≤ base + 4096
    rw [he, List.length_append, List.length_take]
    simp; omega
  · rw [he]
    rcases Nat.lt_or_ge l0.length j with hj | hj
    · right
      have : j = l0.length + 1 := by omega
      subst this
      refine ⟨?_, by rw [List.take_of_length_le (by simp), ← List.append_assoc, hents]⟩
      cases whole with
      | true => rfl
      | false =>
        have h1 := hw rfl
        rcases j3 (l0.length + 1) (by simp) (by rw [List.take_of_length_le (by simp)]; exact Nat.lt_of_le_of_lt hml h1) with h2 | h2 <;> omega
    · left
      have : j = l0.length := by omega
      subst this
      rw [List.take_left, hents]
end Go.Proofs.Ytilgfgghjdomcaa
namespace Go.Proofs.Ytilgfgghjdomcaa
set_option linter.unusedVariables false
open Go.RowKit

theorem LInv.withD {g : PLog} {d d' : DS} {f n : Int} {es : List (List UInt8)} (h : LInv g d f n es) (hR : d'.R = d.R) (ho : d'.off = false) : LInv g d' f n es :=
  ⟨h.chain, h.ents, by rw [hR]; exact h.files, h.nil, h.base, h.b0, h.b1, h.s0, h.s1, h.n1, h.fi, ho, h.torn⟩
theorem PlanR.may {g : PLog} {d : DS} {f n : Int} {es : List (List UInt8)} {p : List UInt8} {x : PWr} {A : List PSeg} {l0 : List (List UInt8)} {pre : List UInt8} (h : PlanR g f n es p x A l0 pre) (hi : LInv g d f n es) {d' : DS} (ho : d'.off = false) : may d' x.file = 0 ∧ 0 ≤ x.file ∧ x.file < 16384 := by
  have h1 := h.chain.len_le
  have h2 : (entsG A).length + l0.length = es.length := by rw [← h.ents, List.length_append]
  have := hi.fi
  have := hi.base
  have := hi.b0
  have := hi.b1
  have h3 := h.file
  refine ⟨?_, by omega, by omega⟩
  unfold Go.Proofs.Ytilgfgghjdomcaa.may
  rw [if_neg (by simp [ho]), if_neg (by omega)]
theorem appendG_eq {g : PLog} {d a s : DS} {p : List UInt8} {x : PWr} {e1 e2 : Int} (hp : planG g d.off p = .ok x) (hm : mendG g d = ((g, d), 0)) (ha : d.append x.file x.b = (a, e1)) (hs : a.sync x.file = (s, e2)) :
    appendG g d p = if e1 ≠ 0 then ((g, a), (0, e1)) else if e2 ≠ 0 then ((g, s), (0, e2)) else (({ g with segs := putG g.segs x p }, s), (headG (putG g.segs x p), 0)) := by
  unfold appendG
  rw [hp]
  simp only [hm]
  rw [if_neg (by decide), ha]
  simp only [hs]
theorem tearG_eq {g : PLog} {d a : DS} {p : List UInt8} {k : Int} {x : PWr} (hk : 0 ≤ k) (hp : planG g d.off p = .ok x) (hm : mendG g d = ((g, d), 0)) (ha : d.append x.file (x.b.take (k.toNat % x.b.length)) = (a, 0)) :
    tearG g d p k = (({ g with torn := some ⟨x.file, if x.fresh = true then 0 else lastSize g.segs, x.fresh⟩ }, a), 0) := by
  unfold tearG
  rw [if_neg (by omega), hp]
  simp only [hm]
  rw [if_neg (by decide), ha]
  simp only
  rw [if_neg (by decide)]
theorem append_eq {d : DS} {f : Int} {b : List UInt8} (hm : may d f = 0) : d.append f b = ({ d.cnt with R := appF d.R f b }, d.cnt.err) := by
  unfold DS.append
  rw [if_neg (by simp [hm])]
/-- Power goes at none, or at one, of the two operations. -/
theorem append_live {g : PLog} {d : DS} {f n : Int} {es : List (List UInt8)} (h : LInv g d f n es) {p : List UInt8} (hp : p.length ≤ 1048576) (hn : n + es.length ≤ 100000) (hfi : f + es.length + 3 ≤ g.base + 4096) (ha : 0 ≤ d.arm) :
    (∃ g' d', appendG g d p = ((g', d'), (n + es.length, 0)) ∧ LInv g' d' f n (es ++ [p]) ∧ d'.ops = d.ops + 2 ∧ 0 ≤ d'.arm ∧ (d.arm = 0 → d'.arm = 0) ∧ g'.base = g.base ∧ g'.size = g.size ∧ (∀ s ∈ g'.segs, s.l ≠ []) ∧ d.arm ≠ 1 ∧ d.arm ≠ 2) ∨
    (∃ d', appendG g d p = ((g, d'), (0, 8)) ∧ Torn d' f n es p true ∧ d'.off = true ∧ d'.ops ≤ d.ops + 2 ∧ d.arm ≠ 0) := by
  obtain ⟨x, A, l0, pre, hpl, hr⟩ := plan_ok h hp hn
  have hoff := h.off
  have hm : mendG g d = ((g, d), 0) := by unfold mendG; rw [h.torn]
  obtain ⟨hmay, f0, f1⟩ := hr.may h hoff
  have happ := append_eq (b := x.b) hmay
  by_cases h1 : d.arm = 1
  · right
    have e : d.cnt.off = true := by simp [DS.cnt, h1]
    refine ⟨{ d.cnt with R := appF d.R x.file x.b }, ?_, hr.torn hp (m := x.b.length) (Nat.le_refl _) (fun e => by cases e) (by rw [List.take_length, h.files]), e, by simp [DS.cnt], by omega⟩
    have e2 : d.cnt.err = 8 := by unfold DS.err; rw [e]; rfl
    rw [appendG_eq (by rw [hoff]; exact hpl) hm happ rfl, e2]
    rfl
  · have e : d.cnt.off = false := by simp [DS.cnt, h1]
    have e2 : d.cnt.err = 0 := by unfold DS.err; rw [e]; rfl
    have hap := hr.app x.b
    rw [← h.files] at hap
    let d1 : DS := { d.cnt with R := appF d.R x.file x.b }
    have hcon : Con f (A.map segF ++ [⟨x.file, pre.length, pre ++ x.b⟩]) := hr.chain.con.snoc (by rw [List.length_map]; exact hr.file)
    have hR1 : d1.R = A.map segF ++ [⟨x.file, pre.length, pre ++ x.b⟩] := hap
    have hfind : d1.find x.file = 0 := by
      unfold DS.find
      rw [if_neg (by rw [(hr.may h (d' := d1) e).1]; simp)]
      have hs := hcon.sorted
      rw [hR1, if_pos (is_end (x := ⟨x.file, pre.length, pre ++ x.b⟩) hs)]
    rw [e2] at happ
    by_cases h2 : d.arm = 2
    · right
      have e3 : d1.cnt.off = true := by simp [DS.cnt, d1, h2]
      have hsy : d1.sync x.file = (d1.cnt, 8) := by
        unfold DS.sync
        rw [if_neg (by simp [hfind]), if_pos e3]
      rw [appendG_eq (by rw [hoff]; exact hpl) hm happ hsy]
      refine ⟨d1.cnt, rfl, hr.torn hp (m := x.b.length) (Nat.le_refl _) (fun e => by cases e) (by rw [List.take_length, ← h.files]; rfl), e3, by simp [DS.cnt, d1], by omega⟩
    · left
      have harm1 : d1.arm = if 0 < d.arm then d.arm - 1 else d.arm := rfl
      have e3 : d1.cnt.off = false := decide_eq_false (by rw [harm1]; split <;> omega)
      have harm2 : 0 ≤ d1.arm := by rw [harm1]; split <;> omega
      have hsy : d1.sync x.file = ({ d1.cnt with R := updF d1.R x.file fun y => { y with safe := y.b.length } }, 0) := by
        unfold DS.sync
        rw [if_neg (by simp [hfind]), if_neg (by simp [e3])]
      rw [appendG_eq (by rw [hoff]; exact hpl) hm happ hsy]
      have hc2 := hr.put
      have hup : updF d1.R x.file (fun y => { y with safe := y.b.length }) = (putG g.segs x p).map segF := by
        rw [hR1, upd_end (x := ⟨x.file, pre.length, pre ++ x.b⟩) hcon.sorted, hr.putF]
      refine ⟨{ g with segs := putG g.segs x p }, { d1.cnt with R := updF d1.R x.file fun y => { y with safe := y.b.length } }, ?_, ⟨hc2, hr.putE, hup, fun e => absurd e hr.putN, h.base, h.b0, h.b1, h.s0, h.s1, h.n1, ?_, e3, h.torn⟩, by simp [DS.cnt, d1], ?_, fun h0 => by simp [DS.cnt, d1, h0], rfl, rfl, hr.putA, h1, h2⟩
      · have : headG (putG g.segs x p) = n + es.length := by
          rw [hc2.head hr.putN, hr.putE, List.length_append]
          simp; omega
        rw [if_neg (by decide), if_neg (by decide), this]
      · show f + ((es ++ [p]).length : Int) + 2 ≤ g.base + 4096
        rw [List.length_append]
        simp; omega
      · show 0 ≤ if 0 < d1.arm then d1.arm - 1 else d1.arm
        split <;> omega
/-- Where power is off nothing is done. -/
theorem append_dead {g : PLog} {d : DS} {p : List UInt8} (hp : p.length ≤ 1048576) (ho : d.off = true) : appendG g d p = ((g, d), (0, 8)) := by
  unfold appendG planG
  rw [if_neg (by omega), if_pos ho]
theorem Torn.withD {d d' : DS} {f n : Int} {es : List (List UInt8)} {p : List UInt8} {whole : Bool} (h : Torn d f n es p whole) (hR : d'.R = d.R) : Torn d' f n es p whole := by
  obtain ⟨A, l0, pre, k, h⟩ := h
  exact ⟨A, l0, pre, k, by rw [hR]; exact h⟩
/-- A write that breaks off. -/
theorem tear_live {g : PLog} {d : DS} {f n : Int} {es : List (List UInt8)} (h : LInv g d f n es) {p : List UInt8} (hp : p.length ≤ 1048576) (hn : n + es.length ≤ 100000) (ha : d.arm = 0) {k : Int} (hk : 0 ≤ k) :
    ∃ g' d', tearG g d p k = ((g', d'), 0) ∧ Torn d' f n es p false ∧ d'.off = false ∧ d'.arm = 0 ∧ d'.ops = d.ops + 1 ∧ g'.segs = g.segs ∧ g'.base = g.base ∧ g'.size = g.size ∧
      (∃ g2 d2, mendG g' d' = ((g2, d2), 0) ∧ LInv g2 d2 f n es ∧ d2.arm = 0 ∧ d2.ops = d'.ops + 1 ∧ g2.segs = g'.segs ∧ g2.base = g.base ∧ g2.size = g.size) := by
  obtain ⟨x, A, l0, pre, hpl, hr⟩ := plan_ok h hp hn
  have hoff := h.off
  have hm : mendG g d = ((g, d), 0) := by unfold mendG; rw [h.torn]
  obtain ⟨hmay, f0, f1⟩ := hr.may h hoff
  have e : d.cnt.off = false := by simp [DS.cnt, ha]
  have e2 : d.cnt.err = 0 := by unfold DS.err; rw [e]; rfl
  let t := x.b.take (k.toNat % x.b.length)
  let d1 : DS := { d.cnt with R := appF d.R x.file t }
  have hlt : k.toNat % x.b.length < x.b.length := Nat.mod_lt _ hr.pos
  have hap := hr.app t
  rw [← h.files] at hap
  have hcon : Con f (A.map segF ++ [⟨x.file, pre.length, pre ++ t⟩]) := hr.chain.con.snoc (by rw [List.length_map]; exact hr.file)
  have hR1 : d1.R = A.map segF ++ [⟨x.file, pre.length, pre ++ t⟩] := hap
  have harm1 : d1.arm = 0 := by simp [DS.cnt, d1, ha]
  have hc1off : d1.cnt.off = false := by simp [DS.cnt, d1, ha]
  have hfind : d1.find x.file = 0 := by
    unfold DS.find
    rw [if_neg (by rw [(hr.may h (d' := d1) e).1]; simp)]
    have hs := hcon.sorted
    rw [hR1, if_pos (is_end (x := ⟨x.file, pre.length, pre ++ t⟩) hs)]
  refine ⟨{ g with torn := some ⟨x.file, if x.fresh = true then 0 else lastSize g.segs, x.fresh⟩ }, d1, ?_, hr.torn hp (m := k.toNat % x.b.length) (by omega) (fun _ => hlt) (by rw [← h.files]), e, harm1, by simp [DS.cnt, d1], rfl, rfl, rfl, ?_⟩
  · exact tearG_eq hk (by rw [hoff]; exact hpl) hm (by rw [append_eq hmay, e2])
  · unfold mendG
    simp only
    cases hfr : x.fresh with
    | true =>
      obtain ⟨hA, hpre⟩ := hr.fresh hfr
      have hrem : d1.remove x.file = ({ d1.cnt with R := A.map segF }, 0) := by
        unfold DS.remove
        rw [if_neg (by simp [hfind]), if_neg (by simp [hc1off])]
        rw [hR1, del_end (x := ⟨x.file, pre.length, pre ++ t⟩) hcon.sorted]
      simp only [if_true, hrem]
      refine ⟨_, _, rfl, ⟨h.chain, h.ents, by show A.map segF = _; rw [hA], h.nil, h.base, h.b0, h.b1, h.s0, h.s1, h.n1, h.fi, hc1off, rfl⟩, by simp [DS.cnt, harm1], by simp [DS.cnt], rfl, rfl, rfl⟩
    | false =>
      obtain ⟨hA, hsz⟩ := hr.old hfr
      have hlen : lenF d1.R x.file = (pre ++ t).length := by
        unfold lenF
        rw [hR1, get_end (x := ⟨x.file, pre.length, pre ++ t⟩) hcon.sorted]
      have hcut : d1.cut x.file (pre.length : Nat) = ({ d1.cnt with R := g.segs.map segF }, 0) := by
        unfold DS.cut
        rw [if_neg (by simp [hfind]), if_neg (by rw [hlen, List.length_append]; omega), if_neg (by simp [hc1off])]
        rw [hR1, upd_end (x := ⟨x.file, pre.length, pre ++ t⟩) hcon.sorted, hA, Int.toNat_natCast]
        simp only [cutF, List.take_left, Nat.min_self]
      simp only [Bool.false_eq_true, if_false, hsz, hcut, if_true]
      refine ⟨_, _, rfl, ⟨h.chain, h.ents, rfl, h.nil, h.base, h.b0, h.b1, h.s0, h.s1, h.n1, h.fi, hc1off, rfl⟩, by simp [DS.cnt, harm1], by simp [DS.cnt], rfl, rfl, rfl⟩
theorem append_mend {g g1 : PLog} {d d1 : DS} {p : List UInt8} (hm : mendG g d = ((g1, d1), 0)) (hs : g1.segs = g.segs) (hb : g1.base = g.base) (hz : g1.size = g.size) (ho : d.off = false) (ho1 : d1.off = false) (ht : g1.torn = none) {x : PWr} (hx : planG g1 false p = .ok x) : appendG g d p = appendG g1 d1 p := by
  have hp : planG g false p = planG g1 false p := by
    unfold planG freshG
    rw [hs, hb, hz]
  have hm1 : mendG g1 d1 = ((g1, d1), 0) := by unfold mendG; rw [ht]
  unfold appendG
  rw [ho, ho1, hp, hx]
  simp only [hm, hm1]
/-- Segments taken away from the front. -/
theorem trim_chain (k : Int) : ∀ (L : List PSeg) (f n : Int) (d : DS), Chain f n L → d.R = L.map segF → d.off = false → d.arm = 0 → 0 ≤ f → f + L.length ≤ 16384 →
    ∃ d' i, trimL L d k = ((L.drop i, d'), 0) ∧ (i < L.length ∨ i = 0) ∧ d'.R = (L.drop i).map segF ∧ d'.off = false ∧ d'.arm = 0 ∧ (i = 0 ∨ n + (entsG (L.take i)).length ≤ k + 1) ∧ d'.ops ≤ d.ops + L.length
  | [], f, n, d, _, hR, ho, ha, _, _ => ⟨d, 0, rfl, .inr rfl, hR, ho, ha, .inl rfl, by simp⟩
  | [s], f, n, d, _, hR, ho, ha, _, _ => ⟨d, 0, rfl, .inr rfl, hR, ho, ha, .inl rfl, by simp⟩
  | s :: t :: L, f, n, d, hc, hR, ho, ha, h0, h1 => by
    have hsrt := hc.con.sorted
    obtain ⟨c1, c2, c3, c4, c5, c6⟩ := hc
    rw [trimL]
    by_cases hk : s.next - 1 ≤ k
    · rw [if_pos hk]
      have hfind : d.find s.file = 0 := by
        unfold DS.find
        have hm : may d s.file = 0 := by
          unfold may
          rw [if_neg (by simp [ho]), if_neg (by simp at h1; omega)]
        rw [if_neg (by simp [hm]), hR, if_pos]
        exact (isK_iff hsrt).2 ⟨segF s, by simp, rfl⟩
      have hrem : d.remove s.file = ({ d.cnt with R := (t :: L).map segF }, 0) := by
        unfold DS.remove
        rw [if_neg (by simp [hfind]), if_neg (by simp [DS.cnt, ha])]
        have : delK PF.id d.R s.file = (t :: L).map segF := by rw [hR]; exact del_front (x := segF s) hsrt
        rw [this]
      rw [hrem]
      obtain ⟨d', i, r1, r2, r3, r4, r5, r6, r7⟩ := trim_chain k (t :: L) (f + 1) (n + s.l.length) { d.cnt with R := (t :: L).map segF } c6 rfl (by simp [DS.cnt, ha]) (by simp [DS.cnt, ha]) (by omega) (by simp at h1 ⊢; omega)
      refine ⟨d', i + 1, by rw [if_neg (by simp)]; exact r1, ?_, r3, r4, r5, .inr ?_, ?_⟩
      · rcases r2 with r2 | r2
        · exact .inl (by simp at r2 ⊢; omega)
        · exact .inl (by simp; omega)
      · rw [List.take_succ_cons, entsG_cons, List.length_append]
        rcases r6 with r6 | r6
        · subst r6
          simp only [PSeg.next, c2] at hk
          simp [entsG]; omega
        · omega
      · simp only [DS.cnt, List.length_cons] at r7 ⊢; omega
    · rw [if_neg hk]
      exact ⟨d, 0, rfl, .inr rfl, hR, ho, ha, .inl rfl, by omega⟩
theorem trim_live {g : PLog} {d : DS} {f n : Int} {es : List (List UInt8)} (h : LInv g d f n es) (ha : d.arm = 0) (k : Int) (hf2 : f + es.length + 1 ≤ 16384) :
    ∃ (g' : PLog) (d' : DS) (f' : Int) (i : Nat), trimG g d k = ((g', d'), 0) ∧ LInv g' d' f' (n + i) (es.drop i) ∧ i ≤ es.length ∧ g'.segs.length ≤ g.segs.length ∧ (g.segs ≠ [] → g'.segs ≠ []) ∧ (i = 0 ∨ n + i ≤ k + 1) ∧ d'.arm = 0 ∧ d'.ops ≤ d.ops + g.segs.length ∧ g'.base = g.base ∧ g'.size = g.size := by
  have hle := h.chain.len_le
  rw [h.ents] at hle
  have hb := h.base
  have hb0 := h.b0
  obtain ⟨d', i, r1, r2, r3, r4, r5, r6, r7⟩ := trim_chain k g.segs f n d h.chain h.files h.off ha (by omega) (by omega)
  have hce := h.chain
  rw [← List.take_append_drop i g.segs] at hce
  obtain ⟨k1, k2, k3⟩ := Chain.app.1 hce
  have hee : entsG (g.segs.take i) ++ entsG (g.segs.drop i) = es := by rw [← entsG_app, List.take_append_drop, h.ents]
  have hel : (entsG (g.segs.take i)).length + (entsG (g.segs.drop i)).length = es.length := by rw [← hee, List.length_append]
  have hil : (g.segs.take i).length = i := by
    rw [List.length_take]
    rcases r2 with r2 | r2 <;> omega
  have hne : g.segs ≠ [] → g.segs.drop i ≠ [] := fun hn e => by
    have := congrArg List.length e
    rw [List.length_drop] at this
    simp at this
    rcases r2 with r2 | r2
    · omega
    · subst r2; exact hn (List.eq_nil_of_length_eq_zero (by omega))
  have hi : i ≤ (entsG (g.segs.take i)).length := by
    by_cases hd : g.segs.drop i = []
    · rcases r2 with r2 | r2
      · have := congrArg List.length hd
        rw [List.length_drop] at this; simp at this; omega
      · omega
    · have hA := k2 hd
      have gen : ∀ A : List PSeg, (∀ s ∈ A, s.l ≠ []) → A.length ≤ (entsG A).length := by
        intro A
        induction A with
        | nil => intro _; simp
        | cons a A ih =>
          intro hA
          have h0 : a.l.length ≠ 0 := fun e => hA a (.head _) (List.eq_nil_of_length_eq_zero e)
          have := ih fun s hs => hA s (.tail _ hs)
          rw [entsG_cons, List.length_append, List.length_cons]; omega
      have := gen _ hA
      rw [hil] at this; exact this
  have hdrop : es.drop (entsG (g.segs.take i)).length = entsG (g.segs.drop i) := by rw [← hee, List.drop_left]
  refine ⟨{ g with segs := g.segs.drop i }, d', f + (g.segs.take i).length, (entsG (g.segs.take i)).length, ?_, ⟨k3, hdrop.symm, r3, fun e => ?_, by show g.base ≤ _; omega, h.b0, h.b1, h.s0, h.s1, by have := h.n1; omega, ?_, r4, h.torn⟩, by omega, by simp, hne, ?_, r5, r7, rfl, rfl⟩
  · unfold trimG
    rw [if_neg (by simp [h.off]), r1]
  · have : g.segs = [] := Classical.byContradiction fun hn => hne hn e
    have h2 := h.nil this
    rw [this]
    simp [entsG, h2]
  · have := h.fi
    have e : (es.drop (entsG (g.segs.take i)).length).length = es.length - (entsG (g.segs.take i)).length := List.length_drop
    show f + ((g.segs.take i).length : Int) + ((es.drop (entsG (g.segs.take i)).length).length : Int) + 2 ≤ g.base + 4096
    rw [e]; omega
  · rcases r6 with r6 | r6
    · subst r6
      left; simp [entsG]
    · exact .inr r6
/-! What holds of the files. -/
theorem planG_len {g : PLog} {off : Bool} {p : List UInt8} {x : PWr} (h : planG g off p = .ok x) : x.b.length ≤ 27 + p.length := by
  have hf : ∀ F, freshG g F p = .ok x → x.b.length ≤ 27 + p.length := fun F h => by
    unfold freshG at h
    split at h
    · cases h
    · cases h
      simp only [List.length_append, recB_len, hdB_len]; omega
  unfold planG at h
  split at h
  · cases h
  · split at h
    · cases h
    · split at h
      · cases h
      · split at h
        · exact hf _ h
        · split at h
          · cases h
            simp only [recB_len]; omega
          · exact hf _ h
theorem mendG_ok {g : PLog} {d : DS} {N : Nat} (h : d.Ok N) : (mendG g d).1.2.Ok N := by
  unfold mendG
  split
  · exact h
  · simp only
    split
    · exact h.remove _
    · exact h.cut _ _
theorem appendG_ok {g : PLog} {d : DS} {N : Nat} (h : d.Ok N) (p : List UInt8) : (appendG g d p).1.2.Ok (N + (27 + p.length)) := by
  unfold appendG
  split
  · exact h.mono (by omega)
  · rename_i x hx
    have hl := planG_len hx
    have hm := mendG_ok (g := g) h
    simp only
    split
    · exact hm.mono (by omega)
    · have ha := (hm.append x.file x.b).mono (M := N + (27 + p.length)) (by omega)
      split
      · exact ha
      · have hs := ha.sync x.file
        split
        · exact hs
        · exact hs
theorem tearG_ok {g : PLog} {d : DS} {N : Nat} (h : d.Ok N) (p : List UInt8) (k : Int) : (tearG g d p k).1.2.Ok (N + (27 + p.length)) := by
  unfold tearG
  split
  · exact h.mono (by omega)
  · split
    · exact h.mono (by omega)
    · rename_i x hx
      have hl := planG_len hx
      have hm := mendG_ok (g := g) h
      simp only
      split
      · exact hm.mono (by omega)
      · have ha := (hm.append x.file (x.b.take (k.toNat % x.b.length))).mono (M := N + (27 + p.length)) (by rw [List.length_take]; omega)
        split
        · exact ha
        · exact ha
theorem trimL_ok {N : Nat} (k : Int) : ∀ (L : List PSeg) (d : DS), d.Ok N → (trimL L d k).1.2.Ok N
  | [], d, h => h
  | [s], d, h => h
  | s :: t :: L, d, h => by
    rw [trimL]
    split
    · split
      · exact h.remove _
      · exact trimL_ok k (t :: L) _ (h.remove _)
    · exact h
theorem trimG_ok {g : PLog} {d : DS} {N : Nat} (h : d.Ok N) (k : Int) : (trimG g d k).1.2.Ok N := by
  unfold trimG
  split
  · exact h
  · exact trimL_ok k g.segs d h
theorem beginG_ok {L : List PSeg} {d : DS} {ids : List Int} {wh : Bool} {N : Nat} (h : d.Ok N) : (beginG L d ids wh).1.Ok N := by
  unfold beginG
  split
  · exact h
  · split
    · exact h.remove _
    · split
      · exact h.cut _ _
      · exact h
theorem openG_ok {d : DS} {base size : Int} {N : Nat} (h : d.Ok N) : (openG d base size).1.Ok N := by
  unfold openG
  split
  · exact h
  · split
    · exact h
    · split
      · exact h
      · split
        · exact beginG_ok h
        · exact beginG_ok h
end Go.Proofs.Ytilgfgghjdomcaa
namespace Go.Proofs.Ytilgfgghjdomcaa
set_option linter.unusedVariables false
open Go.RowKit

theorem SegOk.mono {s : PSeg} {N M : Nat} (h : SegOk s N) (hm : N ≤ M) : SegOk s M := ⟨h.f0, h.f1, h.n0, h.n1, Nat.le_trans h.sz hm, Nat.le_trans h.ln hm, h.bl⟩
theorem PLog.Ok.mono {g : PLog} {N M : Nat} (h : g.Ok N) (hm : N ≤ M) : g.Ok M := ⟨fun s hs => (h.segs s hs).mono hm, h.b0, h.b1, h.s0, h.s1, Nat.le_trans h.ln hm⟩
theorem PLog.Ok.congr {g g' : PLog} {N : Nat} (h : g.Ok N) (h1 : g'.segs = g.segs) (h2 : g'.base = g.base) (h3 : g'.size = g.size) : g'.Ok N :=
  ⟨by rw [h1]; exact h.segs, by rw [h2]; exact h.b0, by rw [h2]; exact h.b1, by rw [h3]; exact h.s0, by rw [h3]; exact h.s1, by rw [h1]; exact h.ln⟩
theorem mendG_same (g : PLog) (d : DS) : (mendG g d).1.1.segs = g.segs ∧ (mendG g d).1.1.base = g.base ∧ (mendG g d).1.1.size = g.size := by
  unfold mendG; split <;> exact ⟨rfl, rfl, rfl⟩
theorem mendG_gok {g : PLog} {d : DS} {N : Nat} (h : g.Ok N) : (mendG g d).1.1.Ok N := let ⟨a, b, c⟩ := mendG_same g d; h.congr a b c
/-- What a plan is. -/
structure WrOk (g : PLog) (p : List UInt8) (x : PWr) : Prop where
  pl : p.length ≤ 1048576
  hd : headG g.segs < 1099511627776
  old : x.fresh = false → ∃ s, g.segs.getLast? = some s ∧ x.file = s.file
  f0 : x.fresh = true → 0 ≤ x.file ∧ x.file ≤ 100000
  bl : x.b.length ≤ 27 + p.length
  pos : 8 ≤ x.b.length
theorem planG_wr {g : PLog} {N : Nat} (h : g.Ok N) {off : Bool} {p : List UInt8} {x : PWr} (hx : planG g off p = .ok x) : WrOk g p x := by
  have hb := planG_len hx
  have h0 := h.b0
  have h1 := h.b1
  have hp : p.length ≤ 1048576 := by
    unfold planG at hx
    split at hx
    · cases hx
    · omega
  have hfr : ∀ F, 0 ≤ F → headG g.segs < 1099511627776 → freshG g F p = .ok x → WrOk g p x := fun F hF hd hx => by
    unfold freshG at hx
    split at hx
    · cases hx
    · cases hx
      exact ⟨hp, hd, fun e => (by cases e), fun _ => ⟨hF, by show F ≤ 100000; omega⟩, hb, by show 8 ≤ (recB _ ++ recB p).length; rw [List.length_append, recB_len]; omega⟩
  unfold planG at hx
  rw [if_neg (by omega)] at hx
  split at hx
  · cases hx
  · split at hx
    · cases hx
    · rename_i hd
      have hd : headG g.segs < 1099511627776 := by omega
      split at hx
      · exact hfr _ h0 hd hx
      · rename_i s hs
        split at hx
        · cases hx
          exact ⟨hp, hd, fun _ => ⟨s, hs, rfl⟩, fun e => (by cases e), hb, by show 8 ≤ (recB p).length; rw [recB_len]; omega⟩
        · have := (h.segs s (List.mem_of_getLast? hs)).f0
          exact hfr _ (by omega) hd hx
/-- The segments with one more where a new file is begun. -/
def moreG (L : List PSeg) (x : PWr) : List PSeg := if x.fresh = true then L ++ [⟨x.file, headG L + 1, 0, []⟩] else L
def addE (s : PSeg) (n : Nat) (p : List UInt8) : PSeg := { s with size := s.size + n, l := s.l ++ [p] }
theorem putG_eq (L : List PSeg) (x : PWr) (p : List UInt8) {A : List PSeg} {s : PSeg} (h : moreG L x = A ++ [s]) : putG L x p = A ++ [addE s x.b.length p] := by
  unfold putG
  have : (if x.fresh = true then L ++ [⟨x.file, headG L + 1, 0, []⟩] else L) = A ++ [s] := h
  rw [this]
  simp only [List.dropLast_concat, List.getLast?_concat]
  rfl
theorem moreG_last {g : PLog} {p : List UInt8} {x : PWr} (h : WrOk g p x) : ∃ A s, moreG g.segs x = A ++ [s] := by
  unfold moreG
  cases hf : x.fresh with
  | true => exact ⟨_, _, rfl⟩
  | false =>
    obtain ⟨s, hs, _⟩ := h.old hf
    obtain ⟨A, hA⟩ := List.getLast?_eq_some_iff.1 hs
    exact ⟨A, s, by rw [if_neg (by decide)]; exact hA⟩
theorem moreG_ok {g : PLog} {N : Nat} (hg : g.Ok N) {p : List UInt8} {x : PWr} (h : WrOk g p x) : ∀ s ∈ moreG g.segs x, SegOk s N := by
  intro s hs
  unfold moreG at hs
  split at hs
  · rename_i hf
    rcases List.mem_append.1 hs with hs | hs
    · exact hg.segs s hs
    · rw [List.mem_singleton.1 hs]
      have := headG_ge hg.segs
      have := h.hd
      exact ⟨(h.f0 hf).1, (h.f0 hf).2, by show 1 ≤ headG g.segs + 1; omega, by show headG g.segs + 1 ≤ _; omega, Nat.zero_le _, Nat.zero_le _, fun b hb => by cases hb⟩
  · exact hg.segs s hs
theorem moreG_len (L : List PSeg) (x : PWr) : (moreG L x).length ≤ L.length + 1 := by
  unfold moreG; split <;> simp
theorem putG_ok {g : PLog} {N : Nat} (hg : g.Ok N) {p : List UInt8} {x : PWr} (h : WrOk g p x) : (∀ s ∈ putG g.segs x p, SegOk s (N + (28 + p.length))) ∧ (putG g.segs x p).length ≤ N + 1 := by
  obtain ⟨A, s, hA⟩ := moreG_last h
  have hok := moreG_ok hg h
  have hl := moreG_len g.segs x
  have hn := hg.ln
  rw [putG_eq _ _ _ hA]
  rw [hA] at hok hl
  refine ⟨fun t ht => ?_, by simp at hl ⊢; omega⟩
  rcases List.mem_append.1 ht with ht | ht
  · exact (hok t (List.mem_append_left _ ht)).mono (by omega)
  · rw [List.mem_singleton.1 ht]
    have hs := hok s (by simp)
    have := hs.sz
    have := hs.ln
    have := h.bl
    refine ⟨hs.f0, hs.f1, hs.n0, hs.n1, by show s.size + x.b.length ≤ _; omega, by show (s.l ++ [p]).length ≤ _; simp; omega, fun b hb => ?_⟩
    rcases List.mem_append.1 hb with hb | hb
    · exact hs.bl b hb
    · rw [List.mem_singleton.1 hb]; exact h.pl
theorem appendG_gok {g : PLog} {d : DS} {N : Nat} (h : g.Ok N) (p : List UInt8) : (appendG g d p).1.1.Ok (N + (28 + p.length)) := by
  unfold appendG
  split
  · exact h.mono (by omega)
  · rename_i x hx
    have hw := planG_wr h hx
    have hm := mendG_gok (d := d) h
    obtain ⟨m1, _, _⟩ := mendG_same g d
    simp only
    split
    · exact hm.mono (by omega)
    · split
      · exact hm.mono (by omega)
      · split
        · exact hm.mono (by omega)
        · rw [m1]
          obtain ⟨k1, k2⟩ := putG_ok h hw
          exact ⟨k1, hm.b0, hm.b1, hm.s0, hm.s1, by show (putG g.segs x p).length ≤ _; omega⟩
theorem tearG_gok {g : PLog} {d : DS} {N : Nat} (h : g.Ok N) (p : List UInt8) (k : Int) : (tearG g d p k).1.1.Ok N := by
  unfold tearG
  split
  · exact h
  · split
    · exact h
    · have hm := mendG_gok (d := d) h
      simp only
      split
      · exact hm
      · split
        · exact hm
        · exact hm.congr rfl rfl rfl
theorem trimL_sub (n : Int) : ∀ (L : List PSeg) (d : DS), (∀ s ∈ (trimL L d n).1.1, s ∈ L) ∧ (trimL L d n).1.1.length ≤ L.length
  | [], d => ⟨fun s hs => hs, Nat.le_refl _⟩
  | [t], d => ⟨fun s hs => hs, Nat.le_refl _⟩
  | t :: u :: L, d => by
    rw [trimL]
    split
    · split
      · exact ⟨fun s hs => hs, Nat.le_refl _⟩
      · obtain ⟨h1, h2⟩ := trimL_sub n (u :: L) (d.remove t.file).1
        exact ⟨fun s hs => .tail _ (h1 s hs), by simp at h2 ⊢; omega⟩
    · exact ⟨fun s hs => hs, Nat.le_refl _⟩
theorem trimG_gok {g : PLog} {d : DS} {N : Nat} (h : g.Ok N) (n : Int) : (trimG g d n).1.1.Ok N := by
  unfold trimG
  split
  · exact h
  · obtain ⟨h1, h2⟩ := trimL_sub n g.segs d
    exact ⟨fun s hs => h.segs s (h1 s hs), h.b0, h.b1, h.s0, h.s1, Nat.le_trans h2 h.ln⟩
end Go.Proofs.Ytilgfgghjdomcaa
namespace Go.Proofs.Ytilgfgghjdomcaa
set_option linter.unusedVariables false
set_option maxRecDepth 100000
open Go.RowKit

def ReadyQ (lp dp : Nat) (g : PLog) (d : DS) (X : Chunk) (y : Except Int PWr) (r : Value) (post : List Chunk) : Prop := match y with
  | .error e => e ≠ 0 ∧ r = .tuple #[.agg #[.int .i64 0, .bool false, .slice none 0 0], .int .i64 e] ∧ post = [.ob (LogO lp dp g), .ob (DskO dp d), X]
  | .ok x => ∃ a c, r = .tuple #[.agg #[.int .i64 x.file, .bool x.fresh, .slice a x.b.length c], .int .i64 (mendG g d).2] ∧ post = [.ob (OwnSl (.slice a x.b.length c) 5 1 x.b.length (x.b.map u8c)), .ob (LogO lp dp (mendG g d).1.1), .ob (DskO dp (mendG g d).1.2), X]
/-- wal.Log.ready -/
theorem readyL_spec (X : Chunk) (lp dp : Nat) (g : PLog) (d : DS) (v : Value) (p : List UInt8) (hv : Rdb X v p) (hp : p.length ≤ 140737488355328) {M N : Nat} (hg : g.Ok M) (hM : M ≤ 1000000000000000) (hok : d.Ok N) (hN : N ≤ 140737488355328) (hops : d.ops ≤ 100000) :
    Spec Try.prog 30 [.pointer (some ⟨lp, 0, none⟩), v] [.ob (LogO lp dp g), .ob (DskO dp d), X] (ReadyQ lp dp g d X (planG g d.off p)) := by
  intro W F w hS; apply vc30; unfold Vc30; (try simp only [app] at hS)
  (repeat (first | (with_reducible first | apply Q0 | refine Qa hS ?_ | refine Qb ?_ | refine Qc hS ?_ | refine Qd ?_) | ((with_reducible refine Qe hS ?_); clear hS; intro w hS; simp only [List.set] at hS) | ((with_reducible first | refine s_draw hS ?_ | refine Qf hS ?_); clear hS; intro w hS) | ((with_reducible first | refine s_new hS ?_ | refine Qg hS ?_); clear hS; intro b w hS)))
  (apply s_call (planL_spec X lp dp g d v p hv hp hg hM) hS; exact Xp; clear hS)
  rintro r post hQ w hS
  cases hpl : planG g d.off p with
  | error e =>
    rw [hpl] at hQ
    obtain ⟨⟨z, rfl, rfl, hz⟩, rfl⟩ := hQ
    (try simp only [app] at hS)
    (repeat (first | (with_reducible first | apply Q0 | refine Qa hS ?_ | refine Qb ?_ | refine Qc hS ?_ | refine Qd ?_) | ((with_reducible refine Qe hS ?_); clear hS; intro w hS; simp only [List.set] at hS) | ((with_reducible first | refine s_draw hS ?_ | refine Qf hS ?_); clear hS; intro w hS) | ((with_reducible first | refine s_new hS ?_ | refine Qg hS ?_); clear hS; intro b w hS)))
    refine s_ifp (fun h => absurd h hz) (fun _ => ?_)
    (repeat (first | (with_reducible first | apply Q0 | refine Qa hS ?_ | refine Qb ?_ | refine Qc hS ?_ | refine Qd ?_) | ((with_reducible refine Qe hS ?_); clear hS; intro w hS; simp only [List.set] at hS) | ((with_reducible first | refine s_draw hS ?_ | refine Qf hS ?_); clear hS; intro w hS) | ((with_reducible first | refine s_new hS ?_ | refine Qg hS ?_); clear hS; intro b w hS)))
    exact ⟨_, ⟨hz, rfl, rfl⟩, SL.into hS Xi⟩
  | ok x =>
    rw [hpl] at hQ
    obtain ⟨a, c, rfl, rfl⟩ := hQ
    (try simp only [app] at hS)
    (repeat (first | (with_reducible first | apply Q0 | refine Qa hS ?_ | refine Qb ?_ | refine Qc hS ?_ | refine Qd ?_) | ((with_reducible refine Qe hS ?_); clear hS; intro w hS; simp only [List.set] at hS) | ((with_reducible first | refine s_draw hS ?_ | refine Qf hS ?_); clear hS; intro w hS) | ((with_reducible first | refine s_new hS ?_ | refine Qg hS ?_); clear hS; intro b w hS)))
    refine s_ifp (fun _ => ?_) (fun h => absurd rfl h)
    (repeat (first | (with_reducible first | apply Q0 | refine Qa hS ?_ | refine Qb ?_ | refine Qc hS ?_ | refine Qd ?_) | ((with_reducible refine Qe hS ?_); clear hS; intro w hS; simp only [List.set] at hS) | ((with_reducible first | refine s_draw hS ?_ | refine Qf hS ?_); clear hS; intro w hS) | ((with_reducible first | refine s_new hS ?_ | refine Qg hS ?_); clear hS; intro b w hS)))
    (apply s_call (mendL_spec lp dp g d N hok hN hops) hS; exact Xp; clear hS)
    (rintro v post ⟨rfl, rfl⟩ w hS; (try simp only [app] at hS); (repeat (first | (with_reducible first | apply Q0 | refine Qa hS ?_ | refine Qb ?_ | refine Qc hS ?_ | refine Qd ?_) | ((with_reducible refine Qe hS ?_); clear hS; intro w hS; simp only [List.set] at hS) | ((with_reducible first | refine s_draw hS ?_ | refine Qf hS ?_); clear hS; intro w hS) | ((with_reducible first | refine s_new hS ?_ | refine Qg hS ?_); clear hS; intro b w hS))))
    exact ⟨_, ⟨a, c, rfl, rfl⟩, SL.into hS Xi⟩
/-- One segment's cells, in their block. -/
theorem RowX.at {W w : World} {l : List Chunk} {v : Value} {xs : List XSeg} {j : Nat} (h : SL W (RowX v xs :: l) w) (hj : j < xs.length) :
    ∃ b o cap A B, v = .slice (some ⟨b, o, none⟩) xs.length cap ∧ A.length = o + j * 4 ∧ SL W (.pt b (A ++ (xcells xs[j] ++ B)) 71 :: l) w ∧
      ∀ y w' l', SL W (.pt b (A ++ (xcells y ++ B)) 71 :: l') w' → SL W (RowX v (xs.set j y) :: l') w' := by
  obtain ⟨b, pre, cap, rest, rfl, hc, hl, hr, hS⟩ := OwnSo.block h (by omega)
  have e : (xs.map xcells).flatten = ((xs.take j).map xcells).flatten ++ (xcells xs[j] ++ ((xs.drop (j + 1)).map xcells).flatten) := by
    have hsp : xs = xs.take j ++ xs[j] :: xs.drop (j + 1) := by rw [← List.drop_eq_getElem_cons hj, List.take_append_drop]
    have e := congrArg (fun l => (List.map xcells l).flatten) hsp
    simp only [List.map_append, List.map_cons, List.flatten_append, List.flatten_cons] at e
    exact e
  have el : ((xs.take j).map xcells).flatten.length = j * 4 := by rw [flatX_len, List.length_take]; omega
  refine ⟨b, pre.length, cap, pre ++ ((xs.take j).map xcells).flatten, ((xs.drop (j + 1)).map xcells).flatten ++ rest, rfl, by rw [List.length_append, el], ?_, fun y w' l' h' => ?_⟩
  · rw [e] at hS
    simp only [List.append_assoc] at hS ⊢
    exact hS
  · have e2 : ((xs.set j y).map xcells).flatten = ((xs.take j).map xcells).flatten ++ (xcells y ++ ((xs.drop (j + 1)).map xcells).flatten) := by
      rw [List.set_eq_take_append_cons_drop, if_pos hj]
      simp only [List.map_append, List.map_cons, List.flatten_append, List.flatten_cons]
    have := OwnSo.mk (b := b) (t := 71) (sz := 4) (n := xs.length) (cells := ((xs.set j y).map xcells).flatten) (pre := pre) (rest := rest) (cap := cap) hc (by rw [flatX_len, List.length_set]) hr rfl (by rw [e2]; simp only [List.append_assoc] at h' ⊢; exact h')
    show SL W (.ob (OwnSo _ 71 4 (xs.set j y).length _) :: l') w'
    rw [List.length_set]
    exact this
theorem pt_get {A B : List Value} {cs : List Value} {i : Nat} {u : Value} (h : cs[i]? = some u) : (A ++ (cs ++ B))[A.length + i]? = some u := by
  rw [List.getElem?_append_right (by omega), Nat.add_sub_cancel_left, List.getElem?_append_left (List.getElem?_eq_some_iff.1 h).1]; exact h
theorem pt_set {A B : List Value} {cs : List Value} {i : Nat} {u : Value} (h : i < cs.length) : (A ++ (cs ++ B)).set (A.length + i) u = A ++ (cs.set i u ++ B) := by
  rw [List.set_append_right _ _ (by omega), Nat.add_sub_cancel_left, List.set_append_left _ _ h]
end Go.Proofs.Ytilgfgghjdomcaa
namespace Go.Proofs.Ytilgfgghjdomcaa
set_option linter.unusedVariables false
set_option maxRecDepth 100000
open Go.RowKit

theorem appendG_er {g : PLog} {d : DS} {p : List UInt8} {e : Int} (h : planG g d.off p = .error e) : appendG g d p = ((g, d), (0, e)) := by
  unfold appendG; rw [h]
theorem appendG_m {g : PLog} {d : DS} {p : List UInt8} {x : PWr} (h : planG g d.off p = .ok x) (hm : (mendG g d).2 ≠ 0) : appendG g d p = ((mendG g d).1, (0, (mendG g d).2)) := by
  unfold appendG; rw [h]; simp only; rw [if_pos hm]
theorem appendG_a {g : PLog} {d : DS} {p : List UInt8} {x : PWr} (h : planG g d.off p = .ok x) (hm : (mendG g d).2 = 0) (ha : ((mendG g d).1.2.append x.file x.b).2 ≠ 0) :
    appendG g d p = (((mendG g d).1.1, ((mendG g d).1.2.append x.file x.b).1), (0, ((mendG g d).1.2.append x.file x.b).2)) := by
  unfold appendG; rw [h]; simp only; rw [if_neg (by simp [hm]), if_pos ha]
theorem appendG_s {g : PLog} {d : DS} {p : List UInt8} {x : PWr} (h : planG g d.off p = .ok x) (hm : (mendG g d).2 = 0) (ha : ((mendG g d).1.2.append x.file x.b).2 = 0) (hs : (((mendG g d).1.2.append x.file x.b).1.sync x.file).2 ≠ 0) :
    appendG g d p = (((mendG g d).1.1, (((mendG g d).1.2.append x.file x.b).1.sync x.file).1), (0, (((mendG g d).1.2.append x.file x.b).1.sync x.file).2)) := by
  unfold appendG; rw [h]; simp only; rw [if_neg (by simp [hm]), if_neg (by simp [ha]), if_pos hs]
theorem appendG_k {g : PLog} {d : DS} {p : List UInt8} {x : PWr} (h : planG g d.off p = .ok x) (hm : (mendG g d).2 = 0) (ha : ((mendG g d).1.2.append x.file x.b).2 = 0) (hs : (((mendG g d).1.2.append x.file x.b).1.sync x.file).2 = 0) :
    appendG g d p = (({ (mendG g d).1.1 with segs := putG g.segs x p }, (((mendG g d).1.2.append x.file x.b).1.sync x.file).1), (headG (putG g.segs x p), 0)) := by
  unfold appendG; rw [h]; simp only; rw [if_neg (by simp [hm]), if_neg (by simp [ha]), if_neg (by simp [hs]), (mendG_same g d).1]
theorem ops_append (s : DS) (f : Int) (b : List UInt8) : (s.append f b).1.ops ≤ s.ops + 1 := by
  unfold DS.append; split <;> simp [DS.cnt]
theorem ops_sync (s : DS) (f : Int) : (s.sync f).1.ops ≤ s.ops + 1 := by
  unfold DS.sync; split
  · simp
  · split <;> simp [DS.cnt]
theorem ops_cut (s : DS) (f n : Int) : (s.cut f n).1.ops ≤ s.ops + 1 := by
  unfold DS.cut; split
  · simp
  · split
    · simp
    · split <;> simp [DS.cnt]
theorem ops_remove (s : DS) (f : Int) : (s.remove f).1.ops ≤ s.ops + 1 := by
  unfold DS.remove; split
  · simp
  · split <;> simp [DS.cnt]
theorem ops_mend (g : PLog) (d : DS) : (mendG g d).1.2.ops ≤ d.ops + 1 := by
  unfold mendG; split
  · simp
  · simp only
    split
    · exact ops_remove _ _
    · exact ops_cut _ _ _
/-- wal.Log.Append -/
theorem appendL_spec (X : Chunk) (lp dp : Nat) (g : PLog) (d : DS) (v : Value) (p : List UInt8) (hv : Rdb X v p) (hp : p.length ≤ 140737488355328) {M N : Nat} (hg : g.Ok M) (hM : M ≤ 1000000000000) (hok : d.Ok N) (hN : N ≤ 140737480000000) (hops : d.ops ≤ 90000) :
    Spec Try.prog 11 [.pointer (some ⟨lp, 0, none⟩), v] [.ob (LogO lp dp g), .ob (DskO dp d), X] (Gives (.tuple #[.int .i64 (appendG g d p).2.1, .int .i64 (appendG g d p).2.2]) [.ob (LogO lp dp (appendG g d p).1.1), .ob (DskO dp (appendG g d p).1.2), X]) := by
  intro W F w hS; apply vc11; unfold Vc11; (try simp only [app] at hS)
  obtain ⟨va, vc, rfl, hvc⟩ := hv.sl hS Xh
  (repeat (first | (with_reducible first | apply Q0 | refine Qa hS ?_ | refine Qb ?_ | refine Qc hS ?_ | refine Qd ?_) | ((with_reducible refine Qe hS ?_); clear hS; intro w hS; simp only [List.set] at hS) | ((with_reducible first | refine s_draw hS ?_ | refine Qf hS ?_); clear hS; intro w hS) | ((with_reducible first | refine s_new hS ?_ | refine Qg hS ?_); clear hS; intro b w hS)))
  (apply s_call (readyL_spec X lp dp g d _ p hv hp hg (by omega) hok (by omega) (by omega)) hS; exact Xp; clear hS)
  rintro r post hQ w hS
  cases hpl : planG g d.off p with
  | error e =>
    rw [hpl] at hQ
    obtain ⟨hz, rfl, rfl⟩ := hQ
    rw [appendG_er hpl]
    (try simp only [app] at hS)
    (repeat (first | (with_reducible first | apply Q0 | refine Qa hS ?_ | refine Qb ?_ | refine Qc hS ?_ | refine Qd ?_) | ((with_reducible refine Qe hS ?_); clear hS; intro w hS; simp only [List.set] at hS) | ((with_reducible first | refine s_draw hS ?_ | refine Qf hS ?_); clear hS; intro w hS) | ((with_reducible first | refine s_new hS ?_ | refine Qg hS ?_); clear hS; intro b w hS)))
    refine ⟨fun vs w => vs = [.int .i64 e] ∧ SL W (.ob (LogO lp dp g) :: .ob (DskO dp d) :: X :: F) w, ?_, ?_⟩
    · (repeat (first | (with_reducible first | apply Q0 | refine Qa hS ?_ | refine Qb ?_ | refine Qc hS ?_ | refine Qd ?_) | ((with_reducible refine Qe hS ?_); clear hS; intro w hS; simp only [List.set] at hS) | ((with_reducible first | refine s_draw hS ?_ | refine Qf hS ?_); clear hS; intro w hS) | ((with_reducible first | refine s_new hS ?_ | refine Qg hS ?_); clear hS; intro b w hS)))
      refine s_ifp (fun h => absurd h hz) (fun _ => ⟨rfl, SL.into hS Xi⟩)
    · clear hS
      rintro v7 w ⟨hvs, hS⟩
      cases hvs
      refine ⟨fun vs w => vs = [.int .i64 e] ∧ SL W (.ob (LogO lp dp g) :: .ob (DskO dp d) :: X :: F) w, ?_, ?_⟩
      · (repeat (first | (with_reducible first | apply Q0 | refine Qa hS ?_ | refine Qb ?_ | refine Qc hS ?_ | refine Qd ?_) | ((with_reducible refine Qe hS ?_); clear hS; intro w hS; simp only [List.set] at hS) | ((with_reducible first | refine s_draw hS ?_ | refine Qf hS ?_); clear hS; intro w hS) | ((with_reducible first | refine s_new hS ?_ | refine Qg hS ?_); clear hS; intro b w hS)))
        refine s_ifp (fun h => absurd h hz) (fun _ => ⟨rfl, hS⟩)
      · clear hS
        rintro v7 w ⟨hvs, hS⟩
        cases hvs
        (repeat (first | (with_reducible first | apply Q0 | refine Qa hS ?_ | refine Qb ?_ | refine Qc hS ?_ | refine Qd ?_) | ((with_reducible refine Qe hS ?_); clear hS; intro w hS; simp only [List.set] at hS) | ((with_reducible first | refine s_draw hS ?_ | refine Qf hS ?_); clear hS; intro w hS) | ((with_reducible first | refine s_new hS ?_ | refine Qg hS ?_); clear hS; intro b w hS)))
        refine s_ifp (fun _ => ?_) (fun h => absurd hz h)
        (exact ⟨_, ⟨rfl, rfl⟩, SL.into hS Xi⟩)
  | ok x =>
    rw [hpl] at hQ
    obtain ⟨a, c, rfl, rfl⟩ := hQ
    have hw := planG_wr hg hpl
    have hmok := mendG_ok (g := g) hok
    have hmg := mendG_gok (d := d) hg
    have hms := mendG_same g d
    have hmo := ops_mend g d
    have hbl := hw.bl
    have hpp := hw.pl
    (try simp only [app] at hS)
    (repeat (first | (with_reducible first | apply Q0 | refine Qa hS ?_ | refine Qb ?_ | refine Qc hS ?_ | refine Qd ?_) | ((with_reducible refine Qe hS ?_); clear hS; intro w hS; simp only [List.set] at hS) | ((with_reducible first | refine s_draw hS ?_ | refine Qf hS ?_); clear hS; intro w hS) | ((with_reducible first | refine s_new hS ?_ | refine Qg hS ?_); clear hS; intro b w hS)))
    obtain ⟨wb, rfl⟩ : ∃ k, k = b := ⟨b, rfl⟩
    by_cases hm : (mendG g d).2 = 0
    · -- the end is mended
      have haok := hmok.append x.file x.b
      have hao := ops_append (mendG g d).1.2 x.file x.b
      have hsok := haok.sync x.file
      have hkk := appendG_k hpl hm
      have haa := appendG_a hpl hm
      have hss := appendG_s hpl hm
      generalize appendG g d p = G at *
      generalize mendG g d = m at *
      obtain ⟨⟨g1, d1⟩, me⟩ := m
      simp only at *
      subst hm
      refine ⟨fun vs w => vs = [.int .i64 (d1.append x.file x.b).2] ∧ SL W (.pt wb [.int .i64 x.file, .bool x.fresh, .slice a x.b.length c] 65 :: .ob (OwnSl (.slice a x.b.length c) 5 1 x.b.length (x.b.map u8c)) :: .ob (LogO lp dp g1) :: .ob (DskO dp (d1.append x.file x.b).1) :: X :: F) w, ?_, ?_⟩
      · (repeat (first | (with_reducible first | apply Q0 | refine Qa hS ?_ | refine Qb ?_ | refine Qc hS ?_ | refine Qd ?_) | ((with_reducible refine Qe hS ?_); clear hS; intro w hS; simp only [List.set] at hS) | ((with_reducible first | refine s_draw hS ?_ | refine Qf hS ?_); clear hS; intro w hS) | ((with_reducible first | refine s_new hS ?_ | refine Qg hS ?_); clear hS; intro b w hS)))
        refine s_ifp (fun _ => ?_) (fun h => absurd rfl h)
        obtain ⟨sv, tv, xs, hx, hS⟩ := LogO.iff.1 (SL.into hS (t := .ob (LogO lp dp g1) :: .pt wb [.int .i64 x.file, .bool x.fresh, .slice a x.b.length c] 65 :: .ob (OwnSl (.slice a x.b.length c) 5 1 x.b.length (x.b.map u8c)) :: .ob (DskO dp d1) :: X :: F) Xi)
        (repeat (first | (with_reducible first | apply Q0 | refine Qa hS ?_ | refine Qb ?_ | refine Qc hS ?_ | refine Qd ?_) | ((with_reducible refine Qe hS ?_); clear hS; intro w hS; simp only [List.set] at hS) | ((with_reducible first | refine s_draw hS ?_ | refine Qf hS ?_); clear hS; intro w hS) | ((with_reducible first | refine s_new hS ?_ | refine Qg hS ?_); clear hS; intro b w hS)))
        (apply s_call (appendD_gen (.ob (OwnSl (.slice a x.b.length c) 5 1 x.b.length (x.b.map u8c))) dp d1 N hmok (by omega) x.file _ x.b (fun hS h => src_own hS h) (by omega)) hS; exact Xp; clear hS)
        (rintro v post ⟨rfl, rfl⟩ w hS; (try simp only [app] at hS); (repeat (first | (with_reducible first | apply Q0 | refine Qa hS ?_ | refine Qb ?_ | refine Qc hS ?_ | refine Qd ?_) | ((with_reducible refine Qe hS ?_); clear hS; intro w hS; simp only [List.set] at hS) | ((with_reducible first | refine s_draw hS ?_ | refine Qf hS ?_); clear hS; intro w hS) | ((with_reducible first | refine s_new hS ?_ | refine Qg hS ?_); clear hS; intro b w hS))))
        have hS := LogO.iff.2 ⟨sv, tv, xs, hx, SL.into hS (t := .pt lp (lcells sv tv dp g1.base g1.size) 46 :: RowX sv xs :: .ob (HAll XSegO xs) :: .ob (TornO tv g1.torn) :: .pt wb [.int .i64 x.file, .bool x.fresh, .slice a x.b.length c] 65 :: .ob (OwnSl (.slice a x.b.length c) 5 1 x.b.length (x.b.map u8c)) :: .ob (DskO dp (d1.append x.file x.b).1) :: X :: F) Xi⟩
        exact SL.into hS Xi
      · clear hS
        rintro v7 w ⟨hvs, hS⟩
        cases hvs
        by_cases ha : (d1.append x.file x.b).2 = 0
        · rw [ha]
          refine ⟨fun vs w => vs = [.int .i64 ((d1.append x.file x.b).1.sync x.file).2] ∧ SL W (.pt wb [.int .i64 x.file, .bool x.fresh, .slice a x.b.length c] 65 :: .ob (OwnSl (.slice a x.b.length c) 5 1 x.b.length (x.b.map u8c)) :: .ob (LogO lp dp g1) :: .ob (DskO dp ((d1.append x.file x.b).1.sync x.file).1) :: X :: F) w, ?_, ?_⟩
          · (repeat (first | (with_reducible first | apply Q0 | refine Qa hS ?_ | refine Qb ?_ | refine Qc hS ?_ | refine Qd ?_) | ((with_reducible refine Qe hS ?_); clear hS; intro w hS; simp only [List.set] at hS) | ((with_reducible first | refine s_draw hS ?_ | refine Qf hS ?_); clear hS; intro w hS) | ((with_reducible first | refine s_new hS ?_ | refine Qg hS ?_); clear hS; intro b w hS)))
            refine s_ifp (fun _ => ?_) (fun h => absurd rfl h)
            obtain ⟨sv, tv, xs, hx, hS⟩ := LogO.iff.1 (SL.into hS (t := .ob (LogO lp dp g1) :: .pt wb [.int .i64 x.file, .bool x.fresh, .slice a x.b.length c] 65 :: .ob (OwnSl (.slice a x.b.length c) 5 1 x.b.length (x.b.map u8c)) :: .ob (DskO dp (d1.append x.file x.b).1) :: X :: F) Xi)
            (repeat (first | (with_reducible first | apply Q0 | refine Qa hS ?_ | refine Qb ?_ | refine Qc hS ?_ | refine Qd ?_) | ((with_reducible refine Qe hS ?_); clear hS; intro w hS; simp only [List.set] at hS) | ((with_reducible first | refine s_draw hS ?_ | refine Qf hS ?_); clear hS; intro w hS) | ((with_reducible first | refine s_new hS ?_ | refine Qg hS ?_); clear hS; intro b w hS)))
            (apply s_call (syncD_spec dp (d1.append x.file x.b).1 _ haok (by omega) x.file) hS; exact Xp; clear hS)
            (rintro v post ⟨rfl, rfl⟩ w hS; (try simp only [app] at hS); (repeat (first | (with_reducible first | apply Q0 | refine Qa hS ?_ | refine Qb ?_ | refine Qc hS ?_ | refine Qd ?_) | ((with_reducible refine Qe hS ?_); clear hS; intro w hS; simp only [List.set] at hS) | ((with_reducible first | refine s_draw hS ?_ | refine Qf hS ?_); clear hS; intro w hS) | ((with_reducible first | refine s_new hS ?_ | refine Qg hS ?_); clear hS; intro b w hS))))
            have hS := LogO.iff.2 ⟨sv, tv, xs, hx, SL.into hS (t := .pt lp (lcells sv tv dp g1.base g1.size) 46 :: RowX sv xs :: .ob (HAll XSegO xs) :: .ob (TornO tv g1.torn) :: .pt wb [.int .i64 x.file, .bool x.fresh, .slice a x.b.length c] 65 :: .ob (OwnSl (.slice a x.b.length c) 5 1 x.b.length (x.b.map u8c)) :: .ob (DskO dp ((d1.append x.file x.b).1.sync x.file).1) :: X :: F) Xi⟩
            exact SL.into hS Xi
          · clear hS
            rintro v7 w ⟨hvs, hS⟩
            cases hvs
            by_cases hs : ((d1.append x.file x.b).1.sync x.file).2 = 0
            · rw [hs]
              have hG := hkk ha hs
              subst hG
              clear hkk haa hss hao
              generalize ((d1.append x.file x.b).1.sync x.file).1 = d3 at *
              (repeat (first | (with_reducible first | apply Q0 | refine Qa hS ?_ | refine Qb ?_ | refine Qc hS ?_ | refine Qd ?_) | ((with_reducible refine Qe hS ?_); clear hS; intro w hS; simp only [List.set] at hS) | ((with_reducible first | refine s_draw hS ?_ | refine Qf hS ?_); clear hS; intro w hS) | ((with_reducible first | refine s_new hS ?_ | refine Qg hS ?_); clear hS; intro b w hS)))
              refine s_ifp (fun h => absurd rfl h) (fun _ => ?_)
              obtain ⟨sv, tv, xs, hx, hS⟩ := LogO.iff.1 (SL.into hS (t := .ob (LogO lp dp g1) :: .pt wb [.int .i64 x.file, .bool x.fresh, .slice a x.b.length c] 65 :: .ob (DskO dp d3) :: X :: F) Xi)
              obtain ⟨hxo, hxl, _, _⟩ := hmg.xs hx
              have hhead : headG (xs.map XSeg.pl) = headG g.segs := by rw [hx, hms.1]
              have hgd := hw.hd
              have hge := headG_ge hg.segs
              have hmok2 := moreG_ok hg hw
              refine ⟨fun vs w => vs = [] ∧ ∃ sv' xs', xs'.map XSeg.pl = moreG g.segs x ∧ xs'.length ≤ xs.length + 1 ∧ SL W (.pt lp (lcells sv' tv dp g1.base g1.size) 46 :: RowX sv' xs' :: .ob (HAll XSegO xs') :: .ob (TornO tv g1.torn) :: .pt wb [.int .i64 x.file, .bool x.fresh, .slice a x.b.length c] 65 :: .ob (DskO dp d3) :: X :: F) w, ?_, ?_⟩
              · (repeat (first | (with_reducible first | apply Q0 | refine Qa hS ?_ | refine Qb ?_ | refine Qc hS ?_ | refine Qd ?_) | ((with_reducible refine Qe hS ?_); clear hS; intro w hS; simp only [List.set] at hS) | ((with_reducible first | refine s_draw hS ?_ | refine Qf hS ?_); clear hS; intro w hS) | ((with_reducible first | refine s_new hS ?_ | refine Qg hS ?_); clear hS; intro b w hS)))
                unfold moreG
                refine s_if (fun hf => ?_) (fun hf => ?_)
                · rw [if_pos hf]
                  (repeat (first | (with_reducible first | apply Q0 | refine Qa hS ?_ | refine Qb ?_ | refine Qc hS ?_ | refine Qd ?_) | ((with_reducible refine Qe hS ?_); clear hS; intro w hS; simp only [List.set] at hS) | ((with_reducible first | refine s_draw hS ?_ | refine Qf hS ?_); clear hS; intro w hS) | ((with_reducible first | refine s_new hS ?_ | refine Qg hS ?_); clear hS; intro b w hS)))
                  (apply s_call (headL_spec lp (lcells sv tv dp g1.base g1.size) 46 sv xs rfl hxo (by omega) (by omega)) hS; exact Xp; clear hS)
                  (rintro v post ⟨rfl, rfl⟩ w hS; (try simp only [app] at hS); (repeat (first | (with_reducible first | apply Q0 | refine Qa hS ?_ | refine Qb ?_ | refine Qc hS ?_ | refine Qd ?_) | ((with_reducible refine Qe hS ?_); clear hS; intro w hS; simp only [List.set] at hS) | ((with_reducible first | refine s_draw hS ?_ | refine Qf hS ?_); clear hS; intro w hS) | ((with_reducible first | refine s_new hS ?_ | refine Qg hS ?_); clear hS; intro b w hS))))
                  rw [hhead] at hS
                  have hone := OwnSo.one hS (v := sv) (t := 71) (sz := 4) (n := xs.length) (cells := (xs.map xcells).flatten) Xh
                  refine s_appSo (m := 1) (cs := [.int .i64 x.file, .int .i64 (headG g.segs + 1), .int .i64 0, .slice none 0 0]) hS Xr (src_pt0 hS .hd rfl) rfl rfl (by simp [Value.oneCell']) (by omega) (by omega) ?_
                  clear hS; intro sv' w hS
                  have hone := OwnSo.one hS (v := sv') .hd
                  (repeat (first | (with_reducible first | apply Q0 | refine Qa hS ?_ | refine Qb ?_ | refine Qc hS ?_ | refine Qd ?_) | ((with_reducible refine Qe hS ?_); clear hS; intro w hS; simp only [List.set] at hS) | ((with_reducible first | refine s_draw hS ?_ | refine Qf hS ?_); clear hS; intro w hS) | ((with_reducible first | refine s_new hS ?_ | refine Qg hS ?_); clear hS; intro b w hS)))
                  have hS := OwnSo.nil0 (a := none) (t := 23) (sz := 1) hS
                  have hS := HAll.nil (A := BEntO) (SL.into hS (t := .ob (OwnSo (.slice none 0 0) 23 1 0 []) :: .ob (HAll XSegO xs) :: .pt lp (lcells sv' tv dp g1.base g1.size) 46 :: .ob (OwnSo sv' 71 4 (xs.length + 1) ((xs.map xcells).flatten ++ [.int .i64 x.file, .int .i64 (headG g.segs + 1), .int .i64 0, .slice none 0 0])) :: .ob (TornO tv g1.torn) :: .pt wb [.int .i64 x.file, .bool x.fresh, .slice a x.b.length c] 65 :: .ob (DskO dp d3) :: X :: F) Xi)
                  have hS := (XSegO.iff (x := ⟨x.file, headG g.segs + 1, 0, [], none, 0⟩)).2 (SL.into hS (t := .ob (OwnSo (.slice none 0 0) 23 1 0 []) :: .ob (HAll BEntO []) :: .ob (HAll XSegO xs) :: .pt lp (lcells sv' tv dp g1.base g1.size) 46 :: .ob (OwnSo sv' 71 4 (xs.length + 1) ((xs.map xcells).flatten ++ [.int .i64 x.file, .int .i64 (headG g.segs + 1), .int .i64 0, .slice none 0 0])) :: .ob (TornO tv g1.torn) :: .pt wb [.int .i64 x.file, .bool x.fresh, .slice a x.b.length c] 65 :: .ob (DskO dp d3) :: X :: F) Xi)
                  have hS := HAll.snoc (SL.into hS (t := .ob (HAll XSegO xs) :: .ob (XSegO ⟨x.file, headG g.segs + 1, 0, [], none, 0⟩) :: .pt lp (lcells sv' tv dp g1.base g1.size) 46 :: .ob (OwnSo sv' 71 4 (xs.length + 1) ((xs.map xcells).flatten ++ [.int .i64 x.file, .int .i64 (headG g.segs + 1), .int .i64 0, .slice none 0 0])) :: .ob (TornO tv g1.torn) :: .pt wb [.int .i64 x.file, .bool x.fresh, .slice a x.b.length c] 65 :: .ob (DskO dp d3) :: X :: F) Xi)
                  have e1 : xs.length + 1 = (xs ++ [(⟨x.file, headG g.segs + 1, 0, [], none, 0⟩ : XSeg)]).length := by simp
                  have e2 : (xs.map xcells).flatten ++ [.int .i64 x.file, .int .i64 (headG g.segs + 1), .int .i64 0, .slice none 0 0] = ((xs ++ [(⟨x.file, headG g.segs + 1, 0, [], none, 0⟩ : XSeg)]).map xcells).flatten := by simp [xcells, XSeg.lv]
                  rw [e1, e2] at hS
                  refine ⟨sv', xs ++ [⟨x.file, headG g.segs + 1, 0, [], none, 0⟩], ?_, by simp, SL.into hS Xi⟩
                  rw [List.map_append, hx, hms.1]; rfl
                · rw [if_neg (by rw [hf]; decide)]
                  exact ⟨rfl, sv, xs, by rw [hx, hms.1], by omega, SL.into hS Xi⟩
              · clear hS hxo hhead
                rintro w ⟨-, sv', xs', hx', hl', hS⟩
                obtain ⟨A, s, hA⟩ := moreG_last hw
                rw [putG_eq _ _ _ hA]
                have hle : 0 < xs'.length := by
                  have := congrArg List.length hx'
                  rw [hA] at this; simp at this; omega
                have hj : xs'.length - 1 < xs'.length := by omega
                have hsp : xs' = xs'.take (xs'.length - 1) ++ [xs'[xs'.length - 1]] := by
                  conv => lhs; rw [← List.take_append_drop (xs'.length - 1) xs']
                  rw [List.drop_eq_getElem_cons hj, List.drop_eq_nil_of_le (by omega)]
                have hAs : A = (xs'.take (xs'.length - 1)).map XSeg.pl ∧ s = (xs'[xs'.length - 1]).pl := by
                  rw [hsp, List.map_append] at hx'
                  rw [hA] at hx'
                  have := List.append_inj' hx' rfl
                  exact ⟨this.1.symm, by simpa using this.2.symm⟩
                obtain ⟨hA1, hs1⟩ := hAs
                subst hA1 hs1
                have hso := hmok2 (xs'[xs'.length - 1]).pl (by rw [hA]; simp)
                have z1 := hso.sz
                have z2 := hso.ln
                have hS := HAll.take (t := xs'.length - 1) (SL.into hS (t := .ob (HAll XSegO xs') :: RowX sv' xs' :: .pt lp (lcells sv' tv dp g1.base g1.size) 46 :: .ob (TornO tv g1.torn) :: .pt wb [.int .i64 x.file, .bool x.fresh, .slice a x.b.length c] 65 :: .ob (DskO dp d3) :: X :: F) Xi) (List.getElem?_eq_getElem hj)
                have hS := XSegO.iff.1 hS
                obtain ⟨rb, ro, rc, AA, BB, rfl, hAA, hS, hback⟩ := RowX.at (SL.into hS (t := RowX sv' xs' :: .ob (OwnSo (xs'[xs'.length - 1]).lv 23 1 (xs'[xs'.length - 1]).es.length (vals (xs'[xs'.length - 1]).es)) :: .ob (HAll BEntO (xs'[xs'.length - 1]).es) :: .ob (HAll XSegO (xs'.eraseIdx (xs'.length - 1))) :: .pt lp (lcells sv' tv dp g1.base g1.size) 46 :: .ob (TornO tv g1.torn) :: .pt wb [.int .i64 x.file, .bool x.fresh, .slice a x.b.length c] 65 :: .ob (DskO dp d3) :: X :: F) Xi) hj
                generalize hx0 : xs'[xs'.length - 1] = x0 at *
                have z1 : x0.size ≤ M := z1
                have z2 : x0.es.length ≤ M := by simpa [XSeg.pl, byts_len] using z2
                (repeat (first | (with_reducible first | apply Q0 | refine Qa hS ?_ | refine Qb ?_ | refine Qc hS ?_ | refine Qd ?_) | ((with_reducible refine Qe hS ?_); clear hS; intro w hS; simp only [List.set] at hS) | ((with_reducible first | refine s_draw hS ?_ | refine Qf hS ?_); clear hS; intro w hS) | ((with_reducible first | refine s_new hS ?_ | refine Qg hS ?_); clear hS; intro b w hS)))
                have e : ((xs'.length : Nat) : Int) - 1 = ((xs'.length - 1 : Nat) : Int) := by omega
                rw [e]
                refine s_idx hj ?_
                rw [← hAA]
                (repeat (first | (with_reducible first | apply Q0 | refine Qa hS ?_ | refine Qb ?_ | refine Qc hS ?_ | refine Qd ?_) | ((with_reducible refine Qe hS ?_); clear hS; intro w hS; simp only [List.set] at hS) | ((with_reducible first | refine s_draw hS ?_ | refine Qf hS ?_); clear hS; intro w hS) | ((with_reducible first | refine s_new hS ?_ | refine Qg hS ?_); clear hS; intro b w hS)))
                refine s_ld hS Xh (pt_get (i := 2) (u := .int .i64 x0.size) rfl) ?_
                (repeat (first | (with_reducible first | apply Q0 | refine Qa hS ?_ | refine Qb ?_ | refine Qc hS ?_ | refine Qd ?_) | ((with_reducible refine Qe hS ?_); clear hS; intro w hS; simp only [List.set] at hS) | ((with_reducible first | refine s_draw hS ?_ | refine Qf hS ?_); clear hS; intro w hS) | ((with_reducible first | refine s_new hS ?_ | refine Qg hS ?_); clear hS; intro b w hS)))
                refine s_st hS Xu (pt_get (i := 2) (u := .int .i64 x0.size) rfl) rfl ?_
                clear hS; intro w hS
                rw [pt_set (by rw [xcells_len]; decide)] at hS
                have e5 : (xcells x0).set 2 (.int .i64 ((x0.size + x.b.length : Nat) : Int)) = [.int .i64 x0.file, .int .i64 x0.first, .int .i64 ((x0.size + x.b.length : Nat) : Int), x0.lv] := rfl
                rw [e5] at hS
                (repeat (first | (with_reducible first | apply Q0 | refine Qa hS ?_ | refine Qb ?_ | refine Qc hS ?_ | refine Qd ?_) | ((with_reducible refine Qe hS ?_); clear hS; intro w hS; simp only [List.set] at hS) | ((with_reducible first | refine s_draw hS ?_ | refine Qf hS ?_); clear hS; intro w hS) | ((with_reducible first | refine s_new hS ?_ | refine Qg hS ?_); clear hS; intro b w hS)))
                refine s_ld hS Xh (pt_get (i := 3) (u := x0.lv) rfl) ?_
                refine s_clone (cs := p.map u8c) hS (fun w' c hS' => hv.src hS' (.tl Xh)) (by simp) (u8c_one _) (by omega) ?_
                clear hS; intro u w hS _
                have hu := hS.ownOne .hd
                obtain ⟨ua, uc, eu, _⟩ := OwnSl.at hS .hd
                subst eu
                refine s_ld hS Xh (pt_get (i := 3) (u := x0.lv) rfl) ?_
                (repeat (first | (with_reducible first | apply Q0 | refine Qa hS ?_ | refine Qb ?_ | refine Qc hS ?_ | refine Qd ?_) | ((with_reducible refine Qe hS ?_); clear hS; intro w hS; simp only [List.set] at hS) | ((with_reducible first | refine s_draw hS ?_ | refine Qf hS ?_); clear hS; intro w hS) | ((with_reducible first | refine s_new hS ?_ | refine Qg hS ?_); clear hS; intro b w hS)))
                refine s_ld hS Xh (pt_get (i := 3) (u := x0.lv) rfl) ?_
                (repeat (first | (with_reducible first | apply Q0 | refine Qa hS ?_ | refine Qb ?_ | refine Qc hS ?_ | refine Qd ?_) | ((with_reducible refine Qe hS ?_); clear hS; intro w hS; simp only [List.set] at hS) | ((with_reducible first | refine s_draw hS ?_ | refine Qf hS ?_); clear hS; intro w hS) | ((with_reducible first | refine s_new hS ?_ | refine Qg hS ?_); clear hS; intro b w hS)))
                refine s_appSo (t := 23) (sz := 1) (n := x0.es.length) (cells := vals x0.es) (m := 1) (cs := [.slice ua p.length uc]) hS Xr (src_pt0 hS .hd rfl) rfl rfl (by simp [Value.oneCell']) (by omega) (by omega) ?_
                clear hS; intro v' w hS
                have hone := OwnSo.one hS (v := v') .hd
                obtain ⟨a', c', ev, _⟩ := OwnSo.at hS (v := v') .hd
                subst ev
                (repeat (first | (with_reducible first | apply Q0 | refine Qa hS ?_ | refine Qb ?_ | refine Qc hS ?_ | refine Qd ?_) | ((with_reducible refine Qe hS ?_); clear hS; intro w hS; simp only [List.set] at hS) | ((with_reducible first | refine s_draw hS ?_ | refine Qf hS ?_); clear hS; intro w hS) | ((with_reducible first | refine s_new hS ?_ | refine Qg hS ?_); clear hS; intro b w hS)))
                refine s_st hS Xu (pt_get (i := 3) (u := x0.lv) rfl) hone ?_
                clear hS; intro w hS
                rw [pt_set (by show 3 < 4; decide)] at hS
                have e6 : ([.int .i64 x0.file, .int .i64 x0.first, .int .i64 ((x0.size + x.b.length : Nat) : Int), x0.lv] : List Value).set 3 (.slice a' (x0.es.length + 1) c') = xcells ⟨x0.file, x0.first, x0.size + x.b.length, x0.es ++ [(.slice ua p.length uc, p)], a', c'⟩ := by
                  simp [xcells, XSeg.lv]
                rw [e6] at hS
                let y : XSeg := ⟨x0.file, x0.first, x0.size + x.b.length, x0.es ++ [(.slice ua p.length uc, p)], a', c'⟩
                have hx2 : (xs'.set (xs'.length - 1) y).map XSeg.pl = (xs'.take (xs'.length - 1)).map XSeg.pl ++ [addE x0.pl x.b.length p] := by
                  rw [List.set_eq_take_append_cons_drop, if_pos hj, List.drop_eq_nil_of_le (by omega), List.map_append]
                  congr 1
                  simp [y, XSeg.pl, addE, byts]
                have hpk := (putG_ok hg hw).1
                rw [putG_eq _ _ _ hA, ← hx2] at hpk
                have hS := hback y w _ (SL.into hS (t := .pt rb (AA ++ (xcells y ++ BB)) 71 :: .ob (OwnSo (.slice a' (x0.es.length + 1) c') 23 1 (x0.es.length + 1) (vals x0.es ++ [.slice ua p.length uc])) :: .ob (OwnSl (.slice ua p.length uc) 5 1 p.length (p.map u8c)) :: .ob (HAll BEntO x0.es) :: .ob (HAll XSegO (xs'.eraseIdx (xs'.length - 1))) :: .pt lp (lcells (.slice (some ⟨rb, ro, none⟩) xs'.length rc) tv dp g1.base g1.size) 46 :: .ob (TornO tv g1.torn) :: .ob (DskO dp d3) :: X :: F) Xi)
                have hS := SL.into hS (t := .ob (OwnSl (.slice ua p.length uc) 5 1 p.length (p.map u8c)) :: .ob (HAll BEntO x0.es) :: .ob (OwnSo (.slice a' (x0.es.length + 1) c') 23 1 (x0.es.length + 1) (vals x0.es ++ [.slice ua p.length uc])) :: .ob (HAll XSegO (xs'.eraseIdx (xs'.length - 1))) :: RowX (.slice (some ⟨rb, ro, none⟩) xs'.length rc) (xs'.set (xs'.length - 1) y) :: .pt lp (lcells (.slice (some ⟨rb, ro, none⟩) xs'.length rc) tv dp g1.base g1.size) 46 :: .ob (TornO tv g1.torn) :: .ob (DskO dp d3) :: X :: F) Xi
                have hS : SL W (.ob (BEntO (.slice ua p.length uc, p)) :: .ob (HAll BEntO x0.es) :: .ob (OwnSo (.slice a' (x0.es.length + 1) c') 23 1 (x0.es.length + 1) (vals x0.es ++ [.slice ua p.length uc])) :: .ob (HAll XSegO (xs'.eraseIdx (xs'.length - 1))) :: RowX (.slice (some ⟨rb, ro, none⟩) xs'.length rc) (xs'.set (xs'.length - 1) y) :: .pt lp (lcells (.slice (some ⟨rb, ro, none⟩) xs'.length rc) tv dp g1.base g1.size) 46 :: .ob (TornO tv g1.torn) :: .ob (DskO dp d3) :: X :: F) w := hS
                have hS := HAll.snoc (hS.perm (.swap _ _ _))
                have e7 : x0.es.length + 1 = y.es.length := by simp [y]
                have e8 : vals x0.es ++ [.slice ua p.length uc] = vals y.es := by simp [y, vals]
                rw [e7, e8] at hS
                have hS := (XSegO.iff (x := y)).2 (SL.into hS (t := .ob (OwnSo (.slice a' y.es.length c') 23 1 y.es.length (vals y.es)) :: .ob (HAll BEntO (x0.es ++ [(.slice ua p.length uc, p)])) :: .ob (HAll XSegO (xs'.eraseIdx (xs'.length - 1))) :: RowX (.slice (some ⟨rb, ro, none⟩) xs'.length rc) (xs'.set (xs'.length - 1) y) :: .pt lp (lcells (.slice (some ⟨rb, ro, none⟩) xs'.length rc) tv dp g1.base g1.size) 46 :: .ob (TornO tv g1.torn) :: .ob (DskO dp d3) :: X :: F) Xi)
                have hS := HAll.put hS hj
                (repeat (first | (with_reducible first | apply Q0 | refine Qa hS ?_ | refine Qb ?_ | refine Qc hS ?_ | refine Qd ?_) | ((with_reducible refine Qe hS ?_); clear hS; intro w hS; simp only [List.set] at hS) | ((with_reducible first | refine s_draw hS ?_ | refine Qf hS ?_); clear hS; intro w hS) | ((with_reducible first | refine s_new hS ?_ | refine Qg hS ?_); clear hS; intro b w hS)))
                (apply s_call (headL_spec lp (lcells (.slice (some ⟨rb, ro, none⟩) xs'.length rc) tv dp g1.base g1.size) 46 (.slice (some ⟨rb, ro, none⟩) xs'.length rc) (xs'.set (xs'.length - 1) y) rfl hpk (by omega) (by rw [List.length_set]; omega)) hS; exact Xp; clear hS)
                (rintro v post ⟨rfl, rfl⟩ w hS; (try simp only [app] at hS); (repeat (first | (with_reducible first | apply Q0 | refine Qa hS ?_ | refine Qb ?_ | refine Qc hS ?_ | refine Qd ?_) | ((with_reducible refine Qe hS ?_); clear hS; intro w hS; simp only [List.set] at hS) | ((with_reducible first | refine s_draw hS ?_ | refine Qf hS ?_); clear hS; intro w hS) | ((with_reducible first | refine s_new hS ?_ | refine Qg hS ?_); clear hS; intro b w hS))))
                rw [hx2]
                have hS := (LogO.iff (g := { segs := (xs'.take (xs'.length - 1)).map XSeg.pl ++ [addE x0.pl x.b.length p], base := g1.base, size := g1.size, torn := g1.torn })).2 ⟨_, tv, xs'.set (xs'.length - 1) y, hx2, SL.into hS (t := .pt lp (lcells (.slice (some ⟨rb, ro, none⟩) xs'.length rc) tv dp g1.base g1.size) 46 :: RowX (.slice (some ⟨rb, ro, none⟩) xs'.length rc) (xs'.set (xs'.length - 1) y) :: .ob (HAll XSegO (xs'.set (xs'.length - 1) y)) :: .ob (TornO tv g1.torn) :: .ob (DskO dp d3) :: X :: F) Xi⟩
                exact ⟨_, ⟨rfl, rfl⟩, SL.into hS Xi⟩
            · have hG := hss ha hs
              subst hG
              (repeat (first | (with_reducible first | apply Q0 | refine Qa hS ?_ | refine Qb ?_ | refine Qc hS ?_ | refine Qd ?_) | ((with_reducible refine Qe hS ?_); clear hS; intro w hS; simp only [List.set] at hS) | ((with_reducible first | refine s_draw hS ?_ | refine Qf hS ?_); clear hS; intro w hS) | ((with_reducible first | refine s_new hS ?_ | refine Qg hS ?_); clear hS; intro b w hS)))
              refine s_ifp (fun _ => ?_) (fun h => absurd hs h)
              (exact ⟨_, ⟨rfl, rfl⟩, SL.into hS Xi⟩)
        · have hG := haa ha
          subst hG
          refine ⟨fun vs w => vs = [.int .i64 (d1.append x.file x.b).2] ∧ SL W (.ob (LogO lp dp g1) :: .ob (DskO dp (d1.append x.file x.b).1) :: X :: F) w, ?_, ?_⟩
          · (repeat (first | (with_reducible first | apply Q0 | refine Qa hS ?_ | refine Qb ?_ | refine Qc hS ?_ | refine Qd ?_) | ((with_reducible refine Qe hS ?_); clear hS; intro w hS; simp only [List.set] at hS) | ((with_reducible first | refine s_draw hS ?_ | refine Qf hS ?_); clear hS; intro w hS) | ((with_reducible first | refine s_new hS ?_ | refine Qg hS ?_); clear hS; intro b w hS)))
            refine s_ifp (fun h => absurd h ha) (fun _ => ⟨rfl, SL.into hS Xi⟩)
          · clear hS
            rintro v7 w ⟨hvs, hS⟩
            cases hvs
            (repeat (first | (with_reducible first | apply Q0 | refine Qa hS ?_ | refine Qb ?_ | refine Qc hS ?_ | refine Qd ?_) | ((with_reducible refine Qe hS ?_); clear hS; intro w hS; simp only [List.set] at hS) | ((with_reducible first | refine s_draw hS ?_ | refine Qf hS ?_); clear hS; intro w hS) | ((with_reducible first | refine s_new hS ?_ | refine Qg hS ?_); clear hS; intro b w hS)))
            refine s_ifp (fun _ => ?_) (fun h => absurd ha h)
            (exact ⟨_, ⟨rfl, rfl⟩, SL.into hS Xi⟩)
    · rw [appendG_m hpl hm]
      refine ⟨fun vs w => vs = [.int .i64 (mendG g d).2] ∧ SL W (.ob (LogO lp dp (mendG g d).1.1) :: .ob (DskO dp (mendG g d).1.2) :: X :: F) w, ?_, ?_⟩
      · (repeat (first | (with_reducible first | apply Q0 | refine Qa hS ?_ | refine Qb ?_ | refine Qc hS ?_ | refine Qd ?_) | ((with_reducible refine Qe hS ?_); clear hS; intro w hS; simp only [List.set] at hS) | ((with_reducible first | refine s_draw hS ?_ | refine Qf hS ?_); clear hS; intro w hS) | ((with_reducible first | refine s_new hS ?_ | refine Qg hS ?_); clear hS; intro b w hS)))
        refine s_ifp (fun h => absurd h hm) (fun _ => ⟨rfl, SL.into hS Xi⟩)
      · clear hS
        rintro v7 w ⟨hvs, hS⟩
        cases hvs
        refine ⟨fun vs w => vs = [.int .i64 (mendG g d).2] ∧ SL W (.ob (LogO lp dp (mendG g d).1.1) :: .ob (DskO dp (mendG g d).1.2) :: X :: F) w, ?_, ?_⟩
        · (repeat (first | (with_reducible first | apply Q0 | refine Qa hS ?_ | refine Qb ?_ | refine Qc hS ?_ | refine Qd ?_) | ((with_reducible refine Qe hS ?_); clear hS; intro w hS; simp only [List.set] at hS) | ((with_reducible first | refine s_draw hS ?_ | refine Qf hS ?_); clear hS; intro w hS) | ((with_reducible first | refine s_new hS ?_ | refine Qg hS ?_); clear hS; intro b w hS)))
          refine s_ifp (fun h => absurd h hm) (fun _ => ⟨rfl, hS⟩)
        · clear hS
          rintro v7 w ⟨hvs, hS⟩
          cases hvs
          (repeat (first | (with_reducible first | apply Q0 | refine Qa hS ?_ | refine Qb ?_ | refine Qc hS ?_ | refine Qd ?_) | ((with_reducible refine Qe hS ?_); clear hS; intro w hS; simp only [List.set] at hS) | ((with_reducible first | refine s_draw hS ?_ | refine Qf hS ?_); clear hS; intro w hS) | ((with_reducible first | refine s_new hS ?_ | refine Qg hS ?_); clear hS; intro b w hS)))
          refine s_ifp (fun _ => ?_) (fun h => absurd hm h)
          (exact ⟨_, ⟨rfl, rfl⟩, SL.into hS Xi⟩)
end Go.Proofs.Ytilgfgghjdomcaa
namespace Go.Proofs.Ytilgfgghjdomcaa
set_option linter.unusedVariables false
set_option maxRecDepth 100000
open Go.RowKit

theorem tearG_er {g : PLog} {d : DS} {p : List UInt8} {k e : Int} (hk : 0 ≤ k) (h : planG g d.off p = .error e) : tearG g d p k = ((g, d), e) := by
  unfold tearG; rw [if_neg (by omega), h]
theorem tearG_m {g : PLog} {d : DS} {p : List UInt8} {k : Int} {x : PWr} (hk : 0 ≤ k) (h : planG g d.off p = .ok x) (hm : (mendG g d).2 ≠ 0) : tearG g d p k = ((mendG g d).1, (mendG g d).2) := by
  unfold tearG; rw [if_neg (by omega), h]; simp only; rw [if_pos hm]
theorem tearG_a {g : PLog} {d : DS} {p : List UInt8} {k : Int} {x : PWr} (hk : 0 ≤ k) (h : planG g d.off p = .ok x) (hm : (mendG g d).2 = 0) (ha : ((mendG g d).1.2.append x.file (x.b.take (k.toNat % x.b.length))).2 ≠ 0) :
    tearG g d p k = (((mendG g d).1.1, ((mendG g d).1.2.append x.file (x.b.take (k.toNat % x.b.length))).1), ((mendG g d).1.2.append x.file (x.b.take (k.toNat % x.b.length))).2) := by
  unfold tearG; rw [if_neg (by omega), h]; simp only; rw [if_neg (by simp [hm]), if_pos ha]
theorem tearG_k {g : PLog} {d : DS} {p : List UInt8} {k : Int} {x : PWr} (hk : 0 ≤ k) (h : planG g d.off p = .ok x) (hm : (mendG g d).2 = 0) (ha : ((mendG g d).1.2.append x.file (x.b.take (k.toNat % x.b.length))).2 = 0) :
    tearG g d p k = (({ (mendG g d).1.1 with torn := some ⟨x.file, if x.fresh = true then 0 else lastSize g.segs, x.fresh⟩ }, ((mendG g d).1.2.append x.file (x.b.take (k.toNat % x.b.length))).1), 0) := by
  unfold tearG; rw [if_neg (by omega), h]; simp only; rw [if_neg (by simp [hm]), if_neg (by simp [ha]), (mendG_same g d).1]
/-- wal.Log.Tear -/
theorem tearL_spec (X : Chunk) (lp dp : Nat) (g : PLog) (d : DS) (v : Value) (p : List UInt8) (k : Int) (hv : Rdb X v p) (hp : p.length ≤ 140737488355328) {M N : Nat} (hg : g.Ok M) (hM : M ≤ 1000000000000) (hok : d.Ok N) (hN : N ≤ 140737480000000) (hops : d.ops ≤ 90000) :
    Spec Try.prog 25 [.pointer (some ⟨lp, 0, none⟩), v, .int .i64 k] [.ob (LogO lp dp g), .ob (DskO dp d), X] (Gives (.int .i64 (tearG g d p k).2) [.ob (LogO lp dp (tearG g d p k).1.1), .ob (DskO dp (tearG g d p k).1.2), X]) := by
  intro W F w hS; apply vc25; unfold Vc25; (try simp only [app] at hS)
  obtain ⟨va, vc, rfl, hvc⟩ := hv.sl hS Xh
  (repeat (first | (with_reducible first | apply Q0 | refine Qa hS ?_ | refine Qb ?_ | refine Qc hS ?_ | refine Qd ?_) | ((with_reducible refine Qe hS ?_); clear hS; intro w hS; simp only [List.set] at hS) | ((with_reducible first | refine s_draw hS ?_ | refine Qf hS ?_); clear hS; intro w hS) | ((with_reducible first | refine s_new hS ?_ | refine Qg hS ?_); clear hS; intro b w hS)))
  refine s_ifp (fun hk => ?_) (fun hk => ?_)
  · have : tearG g d p k = ((g, d), 1) := by unfold tearG; rw [if_pos hk]
    rw [this]
    (exact ⟨_, ⟨rfl, rfl⟩, SL.into hS Xi⟩)
  have hk : 0 ≤ k := by omega
  (repeat (first | (with_reducible first | apply Q0 | refine Qa hS ?_ | refine Qb ?_ | refine Qc hS ?_ | refine Qd ?_) | ((with_reducible refine Qe hS ?_); clear hS; intro w hS; simp only [List.set] at hS) | ((with_reducible first | refine s_draw hS ?_ | refine Qf hS ?_); clear hS; intro w hS) | ((with_reducible first | refine s_new hS ?_ | refine Qg hS ?_); clear hS; intro b w hS)))
  (apply s_call (readyL_spec X lp dp g d _ p hv hp hg (by omega) hok (by omega) (by omega)) hS; exact Xp; clear hS)
  rintro r post hQ w hS
  cases hpl : planG g d.off p with
  | error e =>
    rw [hpl] at hQ
    obtain ⟨hz, rfl, rfl⟩ := hQ
    rw [tearG_er hk hpl]
    (try simp only [app] at hS)
    (repeat (first | (with_reducible first | apply Q0 | refine Qa hS ?_ | refine Qb ?_ | refine Qc hS ?_ | refine Qd ?_) | ((with_reducible refine Qe hS ?_); clear hS; intro w hS; simp only [List.set] at hS) | ((with_reducible first | refine s_draw hS ?_ | refine Qf hS ?_); clear hS; intro w hS) | ((with_reducible first | refine s_new hS ?_ | refine Qg hS ?_); clear hS; intro b w hS)))
    refine ⟨fun vs w => vs = [.int .i64 e] ∧ SL W (.ob (LogO lp dp g) :: .ob (DskO dp d) :: X :: F) w, ?_, ?_⟩
    · (repeat (first | (with_reducible first | apply Q0 | refine Qa hS ?_ | refine Qb ?_ | refine Qc hS ?_ | refine Qd ?_) | ((with_reducible refine Qe hS ?_); clear hS; intro w hS; simp only [List.set] at hS) | ((with_reducible first | refine s_draw hS ?_ | refine Qf hS ?_); clear hS; intro w hS) | ((with_reducible first | refine s_new hS ?_ | refine Qg hS ?_); clear hS; intro b w hS)))
      refine s_ifp (fun h => absurd h hz) (fun _ => ⟨rfl, SL.into hS Xi⟩)
    · clear hS
      rintro v7 w ⟨hvs, hS⟩
      cases hvs
      (repeat (first | (with_reducible first | apply Q0 | refine Qa hS ?_ | refine Qb ?_ | refine Qc hS ?_ | refine Qd ?_) | ((with_reducible refine Qe hS ?_); clear hS; intro w hS; simp only [List.set] at hS) | ((with_reducible first | refine s_draw hS ?_ | refine Qf hS ?_); clear hS; intro w hS) | ((with_reducible first | refine s_new hS ?_ | refine Qg hS ?_); clear hS; intro b w hS)))
      refine s_ifp (fun _ => ?_) (fun h => absurd hz h)
      (exact ⟨_, ⟨rfl, rfl⟩, SL.into hS Xi⟩)
  | ok x =>
    rw [hpl] at hQ
    obtain ⟨a, c, rfl, rfl⟩ := hQ
    have hw := planG_wr hg hpl
    have hmok := mendG_ok (g := g) hok
    have hmg := mendG_gok (d := d) hg
    have hms := mendG_same g d
    have hmo := ops_mend g d
    have hbl := hw.bl
    have hpp := hw.pl
    have hpos := hw.pos
    (try simp only [app] at hS)
    (repeat (first | (with_reducible first | apply Q0 | refine Qa hS ?_ | refine Qb ?_ | refine Qc hS ?_ | refine Qd ?_) | ((with_reducible refine Qe hS ?_); clear hS; intro w hS; simp only [List.set] at hS) | ((with_reducible first | refine s_draw hS ?_ | refine Qf hS ?_); clear hS; intro w hS) | ((with_reducible first | refine s_new hS ?_ | refine Qg hS ?_); clear hS; intro b w hS)))
    obtain ⟨wb, rfl⟩ : ∃ k, k = b := ⟨b, rfl⟩
    by_cases hm : (mendG g d).2 = 0
    · have hkk := tearG_k hk hpl hm
      have haa := tearG_a hk hpl hm
      generalize tearG g d p k = G at *
      generalize mendG g d = m at *
      obtain ⟨⟨g1, d1⟩, me⟩ := m
      simp only at *
      subst hm
      obtain ⟨kn, rfl⟩ := Int.eq_ofNat_of_zero_le hk
      simp only [Int.toNat_natCast] at haa hkk
      generalize hq : kn % x.b.length = q at *
      have hql : q ≤ x.b.length := by
        have := Nat.mod_lt kn (show 0 < x.b.length by omega); omega
      refine ⟨fun vs w => vs = [.int .i64 (d1.append x.file (x.b.take q)).2] ∧ SL W (.pt wb [.int .i64 x.file, .bool x.fresh, .slice a x.b.length c] 65 :: .ob (OwnSl (.slice a x.b.length c) 5 1 x.b.length (x.b.map u8c)) :: .ob (LogO lp dp g1) :: .ob (DskO dp (d1.append x.file (x.b.take q)).1) :: X :: F) w, ?_, ?_⟩
      · (repeat (first | (with_reducible first | apply Q0 | refine Qa hS ?_ | refine Qb ?_ | refine Qc hS ?_ | refine Qd ?_) | ((with_reducible refine Qe hS ?_); clear hS; intro w hS; simp only [List.set] at hS) | ((with_reducible first | refine s_draw hS ?_ | refine Qf hS ?_); clear hS; intro w hS) | ((with_reducible first | refine s_new hS ?_ | refine Qg hS ?_); clear hS; intro b w hS)))
        refine s_ifp (fun _ => ?_) (fun h => absurd rfl h)
        obtain ⟨sv, tv, xs, hx, hS⟩ := LogO.iff.1 (SL.into hS (t := .ob (LogO lp dp g1) :: .pt wb [.int .i64 x.file, .bool x.fresh, .slice a x.b.length c] 65 :: .ob (OwnSl (.slice a x.b.length c) 5 1 x.b.length (x.b.map u8c)) :: .ob (DskO dp d1) :: X :: F) Xi)
        (repeat (first | (with_reducible first | apply Q0 | refine Qa hS ?_ | refine Qb ?_ | refine Qc hS ?_ | refine Qd ?_) | ((with_reducible refine Qe hS ?_); clear hS; intro w hS; simp only [List.set] at hS) | ((with_reducible first | refine s_draw hS ?_ | refine Qf hS ?_); clear hS; intro w hS) | ((with_reducible first | refine s_new hS ?_ | refine Qg hS ?_); clear hS; intro b w hS)))
        rw [hq]
        have hrd : Rdb (.ob (OwnSl (.slice a x.b.length c) 5 1 x.b.length (x.b.map u8c))) (.slice a x.b.length c) x.b := Rdb.own
        refine s_slHiB hS Xh hrd hql ?_
        intro u hu
        (apply s_call (appendD_gen (.ob (OwnSl (.slice a x.b.length c) 5 1 x.b.length (x.b.map u8c))) dp d1 N hmok (by omega) x.file u (x.b.take q) (fun hS h => hu.src hS h) (by rw [List.length_take]; omega)) hS; exact Xp; clear hS)
        (rintro v post ⟨rfl, rfl⟩ w hS; (try simp only [app] at hS); (repeat (first | (with_reducible first | apply Q0 | refine Qa hS ?_ | refine Qb ?_ | refine Qc hS ?_ | refine Qd ?_) | ((with_reducible refine Qe hS ?_); clear hS; intro w hS; simp only [List.set] at hS) | ((with_reducible first | refine s_draw hS ?_ | refine Qf hS ?_); clear hS; intro w hS) | ((with_reducible first | refine s_new hS ?_ | refine Qg hS ?_); clear hS; intro b w hS))))
        have hS := LogO.iff.2 ⟨sv, tv, xs, hx, SL.into hS (t := .pt lp (lcells sv tv dp g1.base g1.size) 46 :: RowX sv xs :: .ob (HAll XSegO xs) :: .ob (TornO tv g1.torn) :: .pt wb [.int .i64 x.file, .bool x.fresh, .slice a x.b.length c] 65 :: .ob (OwnSl (.slice a x.b.length c) 5 1 x.b.length (x.b.map u8c)) :: .ob (DskO dp (d1.append x.file (x.b.take q)).1) :: X :: F) Xi⟩
        exact SL.into hS Xi
      · clear hS
        rintro v7 w ⟨hvs, hS⟩
        cases hvs
        by_cases ha : (d1.append x.file (x.b.take q)).2 = 0
        · rw [ha]
          have hG := hkk ha
          subst hG
          (repeat (first | (with_reducible first | apply Q0 | refine Qa hS ?_ | refine Qb ?_ | refine Qc hS ?_ | refine Qd ?_) | ((with_reducible refine Qe hS ?_); clear hS; intro w hS; simp only [List.set] at hS) | ((with_reducible first | refine s_draw hS ?_ | refine Qf hS ?_); clear hS; intro w hS) | ((with_reducible first | refine s_new hS ?_ | refine Qg hS ?_); clear hS; intro b w hS)))
          refine s_ifp (fun h => absurd rfl h) (fun _ => ?_)
          obtain ⟨sv, tv, xs, hx, hS⟩ := LogO.iff.1 (SL.into hS (t := .ob (LogO lp dp g1) :: .pt wb [.int .i64 x.file, .bool x.fresh, .slice a x.b.length c] 65 :: .ob (DskO dp (d1.append x.file (x.b.take q)).1) :: X :: F) Xi)
          (repeat (first | (with_reducible first | apply Q0 | refine Qa hS ?_ | refine Qb ?_ | refine Qc hS ?_ | refine Qd ?_) | ((with_reducible refine Qe hS ?_); clear hS; intro w hS; simp only [List.set] at hS) | ((with_reducible first | refine s_draw hS ?_ | refine Qf hS ?_); clear hS; intro w hS) | ((with_reducible first | refine s_new hS ?_ | refine Qg hS ?_); clear hS; intro b w hS)))
          refine ⟨_, rfl, s_new hS ?_⟩
          clear hS; intro tb w hS
          have htv := TornO_one (SL.into hS (t := .ob (TornO tv g1.torn) :: F) Xi)
          (repeat (first | (with_reducible first | apply Q0 | refine Qa hS ?_ | refine Qb ?_ | refine Qc hS ?_ | refine Qd ?_) | ((with_reducible refine Qe hS ?_); clear hS; intro w hS; simp only [List.set] at hS) | ((with_reducible first | refine s_draw hS ?_ | refine Qf hS ?_); clear hS; intro w hS) | ((with_reducible first | refine s_new hS ?_ | refine Qg hS ?_); clear hS; intro b w hS)))
          cases hf : x.fresh with
          | true =>
            rw [hf] at hS
            refine s_iff ?_
            simp only [if_true]
            have hS := (TornO_some (v := .pointer (some ⟨tb, 0, none⟩)) (x := ⟨x.file, 0, true⟩)).2 ⟨tb, rfl, SL.into hS (t := .pt tb [.int .i64 x.file, .int .i64 0, .bool true] 87 :: .pt lp (lcells sv (.pointer (some ⟨tb, 0, none⟩)) dp g1.base g1.size) 46 :: RowX sv xs :: .ob (HAll XSegO xs) :: .ob (DskO dp (d1.append x.file (x.b.take q)).1) :: X :: F) Xi⟩
            have hS := (LogO.iff (g := { segs := g1.segs, base := g1.base, size := g1.size, torn := some ⟨x.file, 0, true⟩ })).2 ⟨sv, _, xs, hx, SL.into hS (t := .pt lp (lcells sv (.pointer (some ⟨tb, 0, none⟩)) dp g1.base g1.size) 46 :: RowX sv xs :: .ob (HAll XSegO xs) :: .ob (TornO (.pointer (some ⟨tb, 0, none⟩)) (some ⟨x.file, 0, true⟩)) :: .ob (DskO dp (d1.append x.file (x.b.take q)).1) :: X :: F) Xi⟩
            exact ⟨_, ⟨rfl, rfl⟩, SL.into hS Xi⟩
          | false =>
            rw [hf] at hS
            refine s_ift ?_
            simp only [Bool.false_eq_true, if_false]
            obtain ⟨_, hxl, _, _⟩ := hmg.xs hx
            obtain ⟨s, hls, hsf⟩ := hw.old hf
            rw [← hms.1, ← hx] at hls
            have hle : 0 < xs.length := by
              rcases Nat.eq_zero_or_pos xs.length with h0 | h0
              · rw [List.eq_nil_of_length_eq_zero h0] at hls; simp at hls
              · exact h0
            have hj : xs.length - 1 < xs.length := by omega
            have hsx : s = (xs[xs.length - 1]'hj).pl := by
              rw [List.getLast?_map, List.getLast?_eq_getElem?, List.getElem?_eq_getElem hj] at hls
              exact (Option.some.inj hls).symm
            have hlz : lastSize g.segs = ((xs[xs.length - 1]'hj).size : Nat) := by
              unfold lastSize
              rw [← hms.1, ← hx, hls, hsx]; rfl
            rw [hlz]
            (repeat (first | (with_reducible first | apply Q0 | refine Qa hS ?_ | refine Qb ?_ | refine Qc hS ?_ | refine Qd ?_) | ((with_reducible refine Qe hS ?_); clear hS; intro w hS; simp only [List.set] at hS) | ((with_reducible first | refine s_draw hS ?_ | refine Qf hS ?_); clear hS; intro w hS) | ((with_reducible first | refine s_new hS ?_ | refine Qg hS ?_); clear hS; intro b w hS)))
            refine s_lenSo hS (v := sv) (t := 71) (sz := 4) (n := xs.length) (cells := (xs.map xcells).flatten) Xh ?_
            (repeat (first | (with_reducible first | apply Q0 | refine Qa hS ?_ | refine Qb ?_ | refine Qc hS ?_ | refine Qd ?_) | ((with_reducible refine Qe hS ?_); clear hS; intro w hS; simp only [List.set] at hS) | ((with_reducible first | refine s_draw hS ?_ | refine Qf hS ?_); clear hS; intro w hS) | ((with_reducible first | refine s_new hS ?_ | refine Qg hS ?_); clear hS; intro b w hS)))
            have e : ((xs.length : Nat) : Int) - 1 = ((xs.length - 1 : Nat) : Int) := by omega
            rw [e]
            refine s_segF (i := 2) hS Xh hj (u := .int .i64 ((xs[xs.length - 1]'hj).size : Nat)) rfl ?_
            generalize (xs[xs.length - 1]'hj).size = z at *
            (repeat (first | (with_reducible first | apply Q0 | refine Qa hS ?_ | refine Qb ?_ | refine Qc hS ?_ | refine Qd ?_) | ((with_reducible refine Qe hS ?_); clear hS; intro w hS; simp only [List.set] at hS) | ((with_reducible first | refine s_draw hS ?_ | refine Qf hS ?_); clear hS; intro w hS) | ((with_reducible first | refine s_new hS ?_ | refine Qg hS ?_); clear hS; intro b w hS)))
            have hS := (TornO_some (v := .pointer (some ⟨tb, 0, none⟩)) (x := ⟨x.file, (z : Int), false⟩)).2 ⟨tb, rfl, SL.into hS (t := .pt tb [.int .i64 x.file, .int .i64 (z : Int), .bool false] 87 :: .pt lp (lcells sv (.pointer (some ⟨tb, 0, none⟩)) dp g1.base g1.size) 46 :: RowX sv xs :: .ob (HAll XSegO xs) :: .ob (DskO dp (d1.append x.file (x.b.take q)).1) :: X :: F) Xi⟩
            have hS := (LogO.iff (g := { segs := g1.segs, base := g1.base, size := g1.size, torn := some ⟨x.file, (z : Int), false⟩ })).2 ⟨sv, _, xs, hx, SL.into hS (t := .pt lp (lcells sv (.pointer (some ⟨tb, 0, none⟩)) dp g1.base g1.size) 46 :: RowX sv xs :: .ob (HAll XSegO xs) :: .ob (TornO (.pointer (some ⟨tb, 0, none⟩)) (some ⟨x.file, (z : Int), false⟩)) :: .ob (DskO dp (d1.append x.file (x.b.take q)).1) :: X :: F) Xi⟩
            exact ⟨_, ⟨rfl, rfl⟩, SL.into hS Xi⟩
        · have hG := haa ha
          subst hG
          (repeat (first | (with_reducible first | apply Q0 | refine Qa hS ?_ | refine Qb ?_ | refine Qc hS ?_ | refine Qd ?_) | ((with_reducible refine Qe hS ?_); clear hS; intro w hS; simp only [List.set] at hS) | ((with_reducible first | refine s_draw hS ?_ | refine Qf hS ?_); clear hS; intro w hS) | ((with_reducible first | refine s_new hS ?_ | refine Qg hS ?_); clear hS; intro b w hS)))
          refine s_ifp (fun _ => ?_) (fun h => absurd ha h)
          (exact ⟨_, ⟨rfl, rfl⟩, SL.into hS Xi⟩)
    · rw [tearG_m hk hpl hm]
      refine ⟨fun vs w => vs = [.int .i64 (mendG g d).2] ∧ SL W (.ob (LogO lp dp (mendG g d).1.1) :: .ob (DskO dp (mendG g d).1.2) :: X :: F) w, ?_, ?_⟩
      · (repeat (first | (with_reducible first | apply Q0 | refine Qa hS ?_ | refine Qb ?_ | refine Qc hS ?_ | refine Qd ?_) | ((with_reducible refine Qe hS ?_); clear hS; intro w hS; simp only [List.set] at hS) | ((with_reducible first | refine s_draw hS ?_ | refine Qf hS ?_); clear hS; intro w hS) | ((with_reducible first | refine s_new hS ?_ | refine Qg hS ?_); clear hS; intro b w hS)))
        refine s_ifp (fun h => absurd h hm) (fun _ => ⟨rfl, SL.into hS Xi⟩)
      · clear hS
        rintro v7 w ⟨hvs, hS⟩
        cases hvs
        (repeat (first | (with_reducible first | apply Q0 | refine Qa hS ?_ | refine Qb ?_ | refine Qc hS ?_ | refine Qd ?_) | ((with_reducible refine Qe hS ?_); clear hS; intro w hS; simp only [List.set] at hS) | ((with_reducible first | refine s_draw hS ?_ | refine Qf hS ?_); clear hS; intro w hS) | ((with_reducible first | refine s_new hS ?_ | refine Qg hS ?_); clear hS; intro b w hS)))
        refine s_ifp (fun _ => ?_) (fun h => absurd hm h)
        (exact ⟨_, ⟨rfl, rfl⟩, SL.into hS Xi⟩)
end Go.Proofs.Ytilgfgghjdomcaa
