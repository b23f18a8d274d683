/-
  My own engine, part 2: what each operation asks, and that this is sound.
-/
import Derived.Test.YthjnknpgcmmapaaEng1
namespace Go.Proofs.Ythjnknpgcmmapaa
set_option linter.unusedVariables false
open Go.RowKit

def HCallV (P : Program) (T : List Bool) (g : Value) (args : List Value) (w : World) (K : Value → World → Prop) : Prop :=
  ∃ f first captured, g = .func (.func f) first captured ∧ T.getD f false = true ∧ HCall P f (first.toList ++ args ++ captured.toList) w K
def HCvI (k : IntKind) (x : Value) (K : Value → Prop) : Prop := ∃ j n, x = .int j n ∧ K (.int k (k.wrap n))
def HCvS (x : Value) (K : Value → Prop) : Prop := ∃ s, x = .string s ∧ K (.string s)
def HNot (x : Value) (K : Value → Prop) : Prop := ∃ b, x = .bool b ∧ K (.bool !b)
def HNeg (x : Value) (K : Value → Prop) : Prop := ∃ k n, x = .int k n ∧ K (.int k (k.wrap (0 - n)))
def bnd : Option Value → Nat → Nat → Prop
  | none, d, l => l = d
  | some v, _, l => ∃ k, v = .int k (((l : Nat) : Int))
def HSl (sz : Nat) (x : Value) (lo hi mx : Option Value) (K : Value → Prop) : Prop :=
  ∃ a len cap l h m, x = .slice a len cap ∧ bnd mx cap m ∧ bnd hi len h ∧ bnd lo 0 l ∧ l ≤ h ∧ h ≤ m ∧ m ≤ cap ∧
    K (.slice (if m = l then a else a.map (·.add (l * sz))) (h - l) (m - l))
def HSlS (x : Value) (lo hi : Option Value) (K : Value → Prop) : Prop :=
  ∃ s l h, x = .string s ∧ bnd hi s.size h ∧ bnd lo 0 l ∧ l ≤ h ∧ h ≤ s.size ∧ K (.string (s.extract l h))
def HMin (x y : Value) (K : Value → Prop) : Prop := ∃ k a b, x = .int k a ∧ y = .int k b ∧ K (.int k (if b < a then b else a))
def HMax (x y : Value) (K : Value → Prop) : Prop := ∃ k a b, x = .int k a ∧ y = .int k b ∧ K (.int k (if b > a then b else a))
def zrow (z : List Value) (n : Nat) : List Value := (List.replicate n z).flatten
def HMk (z : List Value) (bytes : Nat) (e : TypeId) (x y : Value) (w : World) (K : Value → World → Prop) : Prop :=
  ∃ (n c : Nat) (kl kc : IntKind), x = .int kl (((n : Nat) : Int)) ∧ y = .int kc (((c : Nat) : Int)) ∧ n ≤ c ∧ bytes * c ≤ 281474976710656 ∧ c < 9223372036854775808 ∧
    K (.slice (some ⟨w.heap.size, 0, none⟩) n c) (w.alloc (.cells (zrow z c).toArray e))
/-- A row with parts laid into it, each at its place. -/
def fillL : List Value → List (Nat × Nat × Value) → Option (List Value)
  | cells, [] => some cells
  | cells, (off, size, v) :: r =>
    if v.cells.size = size ∧ off + size ≤ cells.length then fillL (cells.take off ++ v.cells.toList ++ cells.drop (off + size)) r else none
def HBld (z : List Value) (ps : List (Nat × Nat × Value)) (K : Value → Prop) : Prop := ∃ cells, fillL z ps = some cells ∧ K (.agg cells.toArray)
def HBldS (z : List Value) (ps : List (Nat × Nat × Value)) (e : TypeId) (len : Nat) (w : World) (K : Value → World → Prop) : Prop :=
  ∃ cells, fillL z ps = some cells ∧ K (.slice (some ⟨w.heap.size, 0, none⟩) len len) (w.alloc (.cells cells.toArray e))
/-- The cells that are put behind: of n elements, out of a slice or a string. -/
def srcCells (w : World) (sz : Nat) (y : Value) (n : Nat) (cs : List Value) : Prop :=
  match y with
  | .slice (some b) len _ => n = len ∧ cs.length = n * sz ∧ ∀ j v, cs[j]? = some v → w.cell? (b.add j) = some v
  | .slice none len _ => n = len ∧ cs = []
  | .string s => n = s.size ∧ cs = s.data.toList.map fun b => .int .u8 b.toNat
  | _ => False
def HApp (sz bytes : Nat) (z : List Value) (e : TypeId) (x y : Value) (w : World) (K : Value → World → Prop) : Prop :=
  ∃ a len cap n cs, x = .slice a len cap ∧ srcCells w sz y n cs ∧ (len + n) * bytes ≤ 140737488355328 ∧ len + n ≤ 140737488355328 ∧
    (len + n ≤ cap → match a with
      | some p => stN (p.add (len * sz)) 0 cs w fun w' => K (.slice (some p) (len + n) cap) w'
      | none => K (.slice none (len + n) cap) w) ∧
    (cap < len + n → ∃ old, srcCells w sz x len old ∧ ∀ c, len + n ≤ c → c ≤ 9223372036854775807 →
      K (.slice (some ⟨w.heap.size, 0, none⟩) (len + n) c) (w.drew.alloc (.cells (old ++ cs ++ zrow z (c - (len + n))).toArray e)))

def fieldPl (P : Program) : List Field → Option (List (Nat × Nat))
  | [] => some []
  | f :: r => match tSize P f.type with
    | some n => match fieldPl P r with
      | some l => some ((f.offset, n) :: l)
      | none => none
    | none => none
def partsAt (pl : List (Nat × Nat)) (ev : Operand → Value) : List (Nat × Operand) → Option (List (Nat × Nat × Value))
  | [] => some []
  | (i, x) :: r => match pl[i]? with
    | some (off, n) => match partsAt pl ev r with
      | some l => some ((off, n, ev x) :: l)
      | none => none
    | none => none

def fldOff (P : Program) (s : TypeId) (f : Nat) : Option Nat := match P.underlying s with
  | some (.struct fields) => match fields[f]? with
    | some d => match tSize P d.type with
      | some (_ + 1) => some d.offset
      | _ => none
    | none => none
  | _ => none

def opH (P : Program) (T : List Bool) (o : Op) (ty : TypeId) (ev : Operand → Value) (w : World) (K : Value → World → Prop) : Prop :=
  match o with
  | .move x => K (ev x) w
  | .assign x => K (ev x) w
  | .alloc e => match tZero P e with
    | some z => HNew z e w K
    | none => False
  | .box e x => match tk P e with
    | .one => (ev x).oneCell' = true ∧ HNew [ev x] e w K
    | .agg _ => ∃ vs : List Value, ev x = .agg vs.toArray ∧ HNew vs e w K
    | .bad => False
  | .build t ps => match P.underlying t with
    | some (.struct fields) => match tZero P t with
      | some z => match fieldPl P fields.toList with
        | some pl => match partsAt pl ev ps.toList with
          | some l => HBld z l fun v => K v w
          | none => False
        | none => False
      | none => False
    | _ => False
  | .buildSlice t len ps => match P.underlying t with
    | some (.slice e) => match tZero P e with
      | some z => match tSize P e with
        | some n => match partsAt ((List.range len).map fun i => (i * n, n)) ev ps.toList with
          | some l => match Nat.beq n z.length, Nat.ble (len * n) 16777216 with
            | true, true => HBldS (zrow z len) l e len w K
            | _, _ => False
          | none => False
        | none => False
      | none => False
    | _ => False
  | .load t x => match tk P t with
    | .one => HLd (ev x) w fun v => K v w
    | .agg n => HLdN n (ev x) w fun v => K v w
    | .bad => False
  | .store t x v => match tk P t with
    | .one => match tSize P t with
      | some 1 => HSt (ev x) (ev v) w fun w' => K undef w'
      | _ => False
    | .agg n => HStN n (ev x) (ev v) w fun w' => K undef w'
    | .bad => False
  | .nilCheck x => HNil (ev x) fun v => K v w
  | .binOp op t x y _ => match op, P.underlying t with
    | _, some (.int _) => HBin op (ev x) (ev y) fun v => K v w
    | _, some .string => HBin op (ev x) (ev y) fun v => K v w
    | .eql, some (.struct _) => match P.eqGuardType P.depth t with
      | false => HEqG P t false (ev x) (ev y) w fun v => K v w
      | true => False
    | .neq, some (.struct _) => match P.eqGuardType P.depth t with
      | false => HEqG P t true (ev x) (ev y) w fun v => K v w
      | true => False
    | .eql, some d => HEq d false (ev x) (ev y) fun v => K v w
    | .neq, some d => HEq d true (ev x) (ev y) fun v => K v w
    | _, _ => False
  | .unOp .not _ x => HNot (ev x) fun v => K v w
  | .unOp .neg _ x => HNeg (ev x) fun v => K v w
  | .convert s d x => match P.underlying s, P.underlying d with
    | some _, some (.int k) => HCvI k (ev x) fun v => K v w
    | some .string, some .string => HCvS (ev x) fun v => K v w
    | some .string, some (.slice _) => HRun P (convert s d (ev x)) w K
    | some (.slice _), some (.slice _) => HRun P (convert s d (ev x)) w K
    | _, _ => HRq P (convert s d (ev x)) w fun v => K v w
  | .makeFunc fn first captured => match fn with
    | .func f => K (.func (.func f) (first.toList.map ev).toArray (captured.toList.map ev).toArray) w
    | _ => False
  | .makeSlice t x y => match P.underlying t with
    | some (.slice e) => match tZero P e with
      | some z => match tSize P e with
        | some n => match Nat.beq n z.length with
          | true => HMk z (tBytes P e) e (ev x) (ev y) w K
          | false => False
        | none => False
      | none => False
    | _ => False
  | .slice t x lo hi mx => match P.underlying t with
    | some (.slice e) => match tSize P e with
      | some n => match mx, hi with
        | some _, none => False
        | _, _ => HSl n (ev x) (lo.map ev) (hi.map ev) (mx.map ev) fun v => K v w
      | none => False
    | some .string => match mx with
      | none => HSlS (ev x) (lo.map ev) (hi.map ev) fun v => K v w
      | some _ => False
    | _ => False
  | .fieldAddr s x f => match fldOff P s f with
    | some off => HFld off (ev x) fun v => K v w
    | none => False
  | .indexAddr t x i => match P.underlying t with
    | some (.slice e) => match tSize P e with
      | some n => HIdx n (ev x) (ev i) fun v => K v w
      | none => False
    | some (.array len e) => match tSize P e with
      | some n => HIdxA n len (ev x) (ev i) fun v => K v w
      | none => False
    | _ => False
  | .extract x i => HExt i (ev x) fun v => K v w
  | .field t x f => HRq P (Instr.field t (ev x) f) w fun v => K v w
  | .index t x i => HRq P (Instr.index t (ev x) (ev i)) w fun v => K v w
  | .lookup t x i ok => HRq P (Instr.lookup t (ev x) (ev i) ok) w fun v => K v w
  | .mapUpdate t m k x => HRun P (do Instr.mapUpdate t (ev m) (ev k) (ev x); pure undef) w K
  | .insert t m k x => HRun P (do Instr.mapUpdate t (ev m) (ev k) (ev x); pure undef) w K
  | .mapEntry t m k => HRun P (Instr.mapEntry t (ev m) (ev k)) w K
  | .entryStore t m s x => HRun P (do Instr.entryStore t (ev m) (ev s) (ev x); pure undef) w K
  | .makeMap t none => K (.map (some w.heap.size)) (w.alloc (.map #[] 0))
  | .call c => match c.callee with
    | .value (.func f) => match T.getD f false with
      | true => HCall P f (c.args.toList.map ev) w K
      | false => False
    | .value (.tmp t) => HCallV P T (ev (.tmp t)) (c.args.toList.map ev) w K
    | .builtin .len => match c.args.toList, c.argTypes.toList with
      | [x], [t] => match P.underlying t with
        | some (.slice _) => HLenS (ev x) fun v => K v w
        | some .string => HLenT (ev x) fun v => K v w
        | _ => HRq P (Builtin.len_ #[t] ty #[ev x]) w fun v => K v w
      | _, _ => False
    | .builtin .min => match c.args.toList with
      | [x, y] => HMin (ev x) (ev y) fun v => K v w
      | _ => False
    | .builtin .max => match c.args.toList with
      | [x, y] => HMax (ev x) (ev y) fun v => K v w
      | _ => False
    | .builtin .append => match c.args.toList, c.argTypes.toList with
      | [x, y], [t, u] => match P.underlying t with
        | some (.slice e) => match tZero P e with
          | some z => match tSize P e with
            | some n => match Nat.beq n z.length, P.underlying u with
              | true, some (.slice _) => HApp n (tBytes P e) z e (ev x) (ev y) w K
              | true, some .string => HApp n (tBytes P e) z e (ev x) (ev y) w K
              | _, _ => False
            | none => False
          | none => False
        | _ => False
      | _, _ => False
    | .builtin .copy => HRun P (Builtin.copy_ c.argTypes ty (c.args.toList.map ev).toArray) w K
    | .builtin .delete => HRun P (Builtin.delete_ c.argTypes ty (c.args.toList.map ev).toArray) w K
    | .builtin .cap => HRq P (Builtin.cap_ c.argTypes ty (c.args.toList.map ev).toArray) w fun v => K v w
    | .builtin .clear => HRun P (Builtin.clear_ c.argTypes ty (c.args.toList.map ev).toArray) w K
    | _ => False
  | _ => False
end Go.Proofs.Ythjnknpgcmmapaa
