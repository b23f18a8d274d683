/-
  My own library: maps as pieces of memory. 'MapO key val b m': block b is a map with the entries m (keys of one kind, each once), in the order of their coming.
-/
import Derived.Test.YthjnknpgcmmapaaSl3
import Derived.MapKept
namespace Go.Proofs.Ythjnknpgcmmapaa
set_option linter.unusedVariables false
open Go.RowKit

/-- What a key is as a value. -/
structure KeyOk {κ : Type} (d : TypeDesc) (key : κ → Value) : Prop where
  is : ∀ k, MapKept.IsKey d (key k)
  inj : ∀ {a b}, key a = key b → a = b
theorem keyOkI (k : IntKind) : KeyOk (.int k) (Value.int k) := ⟨fun _ => rfl, fun h => by cases h; rfl⟩
theorem keyOkS : KeyOk .string Value.string := ⟨fun _ => trivial, fun h => by cases h; rfl⟩

section
variable {κ α : Type} [DecidableEq κ]
def mget : List (κ × α) → κ → Option α
  | [], _ => none
  | p :: m, k => if p.1 = k then some p.2 else mget m k
def mset : List (κ × α) → κ → α → List (κ × α)
  | [], k, v => [(k, v)]
  | p :: m, k, v => if p.1 = k then (k, v) :: m else p :: mset m k v
def mdel : List (κ × α) → κ → List (κ × α)
  | [], _ => []
  | p :: m, k => if p.1 = k then m else p :: mdel m k
def kv (e : MapEntry) : Value × Value := (e.key, e.val)
def kw (key : κ → Value) (val : α → Value) (p : κ × α) : Value × Value := (key p.1, val p.2)

theorem find_rel {d : TypeDesc} {key : κ → Value} {val : α → Value} (ok : KeyOk d key) (k : κ) : ∀ (es : List MapEntry) (m : List (κ × α)) (i : Nat), es.map kv = m.map (kw key val) →
    (Instr.findNow d (key k) es i = some none ∧ mget m k = none ∧ (∀ v, mset m k v = m ++ [(k, v)]) ∧ mdel m k = m ∧ ∀ x ∈ es, x.key ≠ key k) ∨
    ∃ j e a, Instr.findNow d (key k) es i = some (some (i + j, val a)) ∧ es[j]? = some e ∧ e.key = key k ∧ mget m k = some a ∧
      (∀ v, (es.modify j fun e => { e with key := key k, val := val v }).map kv = (mset m k v).map (kw key val)) ∧ (es.eraseIdx j).map kv = (mdel m k).map (kw key val)
  | [], [], _, _ => .inl ⟨rfl, rfl, fun _ => rfl, rfl, by simp⟩
  | [], _ :: _, _, h => by simp at h
  | _ :: _, [], _, h => by simp at h
  | e :: es, p :: m, i, h => by
    simp only [List.map_cons, List.cons.injEq] at h
    obtain ⟨h1, h2⟩ := h
    obtain ⟨x, y⟩ := p
    simp only [kv, kw, Prod.mk.injEq] at h1
    obtain ⟨h1k, h1v⟩ := h1
    obtain ⟨r, hr, hiff⟩ := MapKept.sameNow_of_keys (ok.is k) (ok.is x)
    by_cases hx : x = k
    · subst hx
      obtain rfl : r = true := hiff.2 rfl
      refine .inr ⟨0, e, y, by simp [Instr.findNow, h1k, hr, h1v], rfl, h1k, by simp [mget], ?_, ?_⟩
      · intro v; simp [mset, kv, kw]; exact h2
      · simp [mdel, h2]
    · have hr' : r = false := by
        cases r with
        | false => rfl
        | true => exact absurd (ok.inj (hiff.1 rfl)).symm hx
      subst hr'
      rcases find_rel ok k es m (i + 1) h2 with ⟨a1, a2, a3, a4, a5⟩ | ⟨j, e', a, a1, a2, a3, a4, a5, a6⟩
      · refine .inl ⟨by simp [Instr.findNow, h1k, hr, a1], by simp [mget, hx, a2], fun v => by simp [mset, hx, a3], by simp [mdel, hx, a4], ?_⟩
        intro z hz
        rcases List.mem_cons.1 hz with rfl | hz
        · rw [h1k]; exact fun q => hx (ok.inj q)
        · exact a5 z hz
      · refine .inr ⟨j + 1, e', a, by simp [Instr.findNow, h1k, hr, a1]; omega, by simpa using a2, a3, by simp [mget, hx, a4], ?_, ?_⟩
        · intro v; simp [mset, hx, kv, kw, h1k, h1v]; exact a5 v
        · simp [mdel, hx, kv, kw, h1k, h1v]; exact a6
end

/-- Block b is a map with just these entries. -/
def MapO {κ α : Type} (key : κ → Value) (val : α → Value) (b : Nat) (m : List (κ × α)) : HProp :=
  HEx fun x : List MapEntry × Nat => HFact (x.1.map kv = m.map (kw key val) ∧ MapKept.Stamped x.1.toArray x.2) [.mp b x.1 x.2]

section
variable {W w : World} {l l' : List Chunk} {κ α : Type} [DecidableEq κ] {key : κ → Value} {val : α → Value} {b : Nat} {m : List (κ × α)}

omit [DecidableEq κ] in
theorem MapO.of {es : List MapEntry} {c : Nat} (h1 : es.map kv = m.map (kw key val)) (h2 : MapKept.Stamped es.toArray c) : (Chunk.ob (MapO key val b m)).holds (Heap.one b (.map es.toArray c)) :=
  ⟨(es, c), ⟨h1, h2⟩, ⟨Heap.one b (.map es.toArray c), Heap.emp, fun x => .inr ⟨rfl, rfl⟩, rfl, rfl⟩⟩
omit [DecidableEq κ] in
theorem star_one {c : Chunk} {k : Heap} (h : star [c] k) : c.holds k := by
  obtain ⟨h1, h2, s, a, r⟩ := h
  obtain rfl : h2 = Heap.emp := r
  have : k = h1 := funext fun b => by
    rcases s b with ⟨x, y⟩ | ⟨x, y⟩
    · rw [x, y]; rfl
    · exact y
  rw [this]; exact a
omit [DecidableEq κ] in
theorem MapO.out {k : Heap} (h : (Chunk.ob (MapO key val b m)).holds k) : ∃ (es : List MapEntry) (c : Nat), es.map kv = m.map (kw key val) ∧ MapKept.Stamped es.toArray c ∧ k = Heap.one b (.map es.toArray c) := by
  obtain ⟨⟨es, c⟩, ⟨h1, h2⟩, h3⟩ := h
  exact ⟨es, c, h1, h2, star_one h3⟩
omit [DecidableEq κ] in
theorem SL.mapAt (h : SL W l w) (hm : Has (.ob (MapO key val b m)) l) : ∃ (es : List MapEntry) (c : Nat), es.map kv = m.map (kw key val) ∧ MapKept.Stamped es.toArray c ∧ w.heap[b]? = some (.map es.toArray c) := by
  obtain ⟨k, s, x⟩ := h.out
  obtain ⟨h1, hh, le⟩ := hm.heap s
  obtain ⟨es, c, e1, e2, rfl⟩ := MapO.out hh
  exact ⟨es, c, e1, e2, x b _ (le b _ (by simp [Heap.one]))⟩
omit [DecidableEq κ] in
theorem SL.mapPut {m' : List (κ × α)} {es : List MapEntry} {c : Nat} {o : Obj} (h : SL W l w) (u : Upd (.ob (MapO key val b m)) (.ob (MapO key val b m')) l l') (hb : w.heap[b]? = some o) (h1 : es.map kv = m'.map (kw key val)) (h2 : MapKept.Stamped es.toArray c) :
    SL W l' { w with heap := w.heap.setIfInBounds b (.map es.toArray c) } :=
  h.upd (b := b) (o' := .map es.toArray c) u (fun k hk => by obtain ⟨es, c, _, _, rfl⟩ := MapO.out hk; exact ⟨_, rfl⟩) (MapO.of h1 h2) (MapKept.heap_set hb).1 (MapKept.heap_set hb).2 rfl rfl rfl
omit [DecidableEq κ] in
theorem SL.mapNew (h : SL W l w) : SL W (.ob (MapO key val w.heap.size []) :: l) (w.alloc (.map #[] 0)) := h.alloc (MapO.of (es := []) rfl (MapKept.stamped_empty 0))
variable {P : Program} {t kt et : TypeId} {d : TypeDesc} {z : Value} {k : κ}

theorem s_mapOk {K : Value → Prop} (hS : SL W l w) (hm : Has (.ob (MapO key val b m)) l) (ok : KeyOk d key) (ht : P.underlying t = some (.map kt et)) (hd : P.underlying kt = some d) (hz : ∀ w, (zeroValue et).run P w = .ok z w)
    (h : K (.tuple #[((mget m k).map val).getD z, .bool (mget m k).isSome])) : HRq P (Instr.lookup t (.map (some b)) (key k) true) w K := by
  obtain ⟨es, c, e1, e2, hb⟩ := hS.mapAt hm
  rcases find_rel ok k es m 0 e1 with ⟨a1, a2, _, _, _⟩ | ⟨j, e, a, a1, _, _, a4, _, _⟩
  · refine ⟨_, ?_, h⟩
    simp [Instr.lookup, run_underlying ht, MapKept.run_getObj_map hb, MapKept.run_checkKey hd (ok.is k), MapKept.run_findKey hd a1, hz, Result.andThen, a2]
  · refine ⟨_, ?_, h⟩
    simp [Instr.lookup, run_underlying ht, MapKept.run_getObj_map hb, MapKept.run_checkKey hd (ok.is k), MapKept.run_findKey hd a1, Result.andThen, a4]
theorem s_mapGet {K : Value → Prop} (hS : SL W l w) (hm : Has (.ob (MapO key val b m)) l) (ok : KeyOk d key) (ht : P.underlying t = some (.map kt et)) (hd : P.underlying kt = some d) (hz : ∀ w, (zeroValue et).run P w = .ok z w)
    (h : K (((mget m k).map val).getD z)) : HRq P (Instr.lookup t (.map (some b)) (key k) false) w K := by
  obtain ⟨es, c, e1, e2, hb⟩ := hS.mapAt hm
  rcases find_rel ok k es m 0 e1 with ⟨a1, a2, _, _, _⟩ | ⟨j, e, a, a1, _, _, a4, _, _⟩
  · refine ⟨_, ?_, h⟩
    simp [Instr.lookup, run_underlying ht, MapKept.run_getObj_map hb, MapKept.run_checkKey hd (ok.is k), MapKept.run_findKey hd a1, hz, Result.andThen, a2]
  · refine ⟨_, ?_, h⟩
    simp [Instr.lookup, run_underlying ht, MapKept.run_getObj_map hb, MapKept.run_checkKey hd (ok.is k), MapKept.run_findKey hd a1, Result.andThen, a4]
theorem s_mapSet {v : α} {K : Value → World → Prop} (hS : SL W l w) (u : Upd (.ob (MapO key val b m)) (.ob (MapO key val b (mset m k v))) l l') (ok : KeyOk d key) (ht : P.underlying t = some (.map kt et)) (hd : P.underlying kt = some d)
    (h : ∀ u w', SL W l' w' → K u w') : HRun P (do Instr.mapUpdate t (.map (some b)) (key k) (val v); pure undef) w K := by
  obtain ⟨es, c, e1, e2, hb⟩ := hS.mapAt u.has
  have hks : ∀ x ∈ es, ∃ p ∈ m, x.key = key p.1 := fun x hx => by
    have : kv x ∈ es.map kv := List.mem_map.2 ⟨x, hx, rfl⟩
    rw [e1] at this
    obtain ⟨p, hp, hq⟩ := List.mem_map.1 this
    exact ⟨p, hp, (Prod.mk.inj hq).1.symm⟩
  rcases find_rel ok k es m 0 e1 with ⟨a1, _, a3, _, a5⟩ | ⟨j, e, a, a1, a2, a3, _, a5, _⟩
  · refine ⟨undef, { w with heap := w.heap.setIfInBounds b (.map (es ++ [({ key := key k, val := val v, born := c } : MapEntry)]).toArray (c + 1)) }, ?_, h _ _ (hS.mapPut u hb (by rw [a3]; simp [e1, kv, kw]) ?_)⟩
    · simp [Instr.mapUpdate, run_underlying ht, MapKept.run_getObj_map hb, MapKept.run_checkKey hd (ok.is k), MapKept.run_findKey hd a1, MapKept.run_setObj_map _ hb, Result.andThen]
    · have := MapKept.stamped_push e2 (key := key k) (val := val v) (by simpa using a5)
      simpa using this
  · refine ⟨undef, { w with heap := w.heap.setIfInBounds b (.map (es.modify j fun e => { e with key := key k, val := val v }).toArray c) }, ?_, h _ _ (hS.mapPut u hb (a5 v) ?_)⟩
    · have hj : es.toArray[j]? = some e := by simpa using a2
      simp [Instr.mapUpdate, run_underlying ht, MapKept.run_getObj_map hb, MapKept.run_checkKey hd (ok.is k), MapKept.run_findKey hd a1, hj, a2, a3, MapKept.run_keyThatStays (ok.is k), MapKept.run_setObj_map _ hb, Result.andThen]
    · have hkey : ∀ e', es.toArray[j]? = some e' → ({ e' with key := key k, val := val v } : MapEntry).key = e'.key := fun e' he' => by
        have : es[j]? = some e' := by simpa using he'
        rw [a2] at this; cases this; exact a3.symm
      have := MapKept.stamped_modify e2 j (fun e => { e with key := key k, val := val v }) (fun _ _ => rfl) (fun e' _ he' => hkey e' he')
      simpa using this
theorem s_mapDel {ty kt' : TypeId} {K : Value → World → Prop} (hS : SL W l w) (u : Upd (.ob (MapO key val b m)) (.ob (MapO key val b (mdel m k))) l l') (ok : KeyOk d key) (ht : P.underlying t = some (.map kt et)) (hd : P.underlying kt = some d)
    (h : ∀ u w', SL W l' w' → K u w') : HRun P (Builtin.delete_ #[t, kt'] ty #[.map (some b), key k]) w K := by
  obtain ⟨es, c, e1, e2, hb⟩ := hS.mapAt u.has
  rcases find_rel ok k es m 0 e1 with ⟨a1, _, _, a4, _⟩ | ⟨j, e, a, a1, a2, _, _, _, a6⟩
  · refine ⟨.tuple #[], { w with heap := w.heap.setIfInBounds b (.map es.toArray c) }, ?_, h _ _ (hS.mapPut u hb (by rw [a4]; exact e1) e2)⟩
    simp [Builtin.delete_, run_underlying ht, MapKept.run_getObj_map hb, MapKept.run_checkKey hd (ok.is k), MapKept.run_findKey hd a1, MapKept.run_setObj_map _ hb, Result.andThen]
  · have hlt : j < es.length := (List.getElem?_eq_some_iff.1 a2).1
    have hse : es.toArray.eraseIdxIfInBounds j = (es.eraseIdx j).toArray := by simp [Array.eraseIdxIfInBounds, hlt]
    refine ⟨.tuple #[], { w with heap := w.heap.setIfInBounds b (.map (es.eraseIdx j).toArray c) }, ?_, h _ _ (hS.mapPut u hb a6 ?_)⟩
    · simp [Builtin.delete_, run_underlying ht, MapKept.run_getObj_map hb, MapKept.run_checkKey hd (ok.is k), MapKept.run_findKey hd a1, hse, MapKept.run_setObj_map _ hb, Result.andThen]
    · have := MapKept.stamped_erase e2 j
      rwa [hse] at this
omit [DecidableEq κ] in
theorem s_mapLen {ty : TypeId} {K : Value → Prop} (hS : SL W l w) (hm : Has (.ob (MapO key val b m)) l) (ht : P.underlying t = some (.map kt et)) (h : K (.int .i64 m.length)) : HRq P (Builtin.len_ #[t] ty #[.map (some b)]) w K := by
  obtain ⟨es, c, e1, e2, hb⟩ := hS.mapAt hm
  refine ⟨_, ?_, h⟩
  have : es.length = m.length := by simpa using congrArg List.length e1
  simp [Builtin.len_, run_underlying ht, MapKept.run_getObj_map hb, Result.andThen, goInt, this]
end
end Go.Proofs.Ythjnknpgcmmapaa
