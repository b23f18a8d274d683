/-
  My own engine, part 8: regions that draw their order (what they ask).
-/
import Derived.Test.YthjnknpgcmmapaaEng7
namespace Go.Proofs.Ythjnknpgcmmapaa
set_option linter.unusedVariables false
open Go.RowKit

/-- Leaves the memory alone. -/
def isFlt (P : Program) : Op → Bool
  | .move _ | .pick .. | .build .. | .nilCheck _ | .unOp .. | .makeFunc .. | .fieldAddr .. | .indexAddr .. | .extract .. | .field .. | .index .. | .lookup .. | .slice .. | .load .. | .binOp .. => true
  | .convert s d _ => match P.underlying s, P.underlying d with
    | some _, some (.int _) => true
    | some .string, some .string => true
    | some .string, some (.slice _) => false
    | some (.slice _), some (.slice _) => false
    | _, _ => true
  | .call c => match c.callee with
    | .builtin .len => true
    | .builtin .min => true
    | .builtin .max => true
    | .builtin .cap => true
    | _ => false
  | _ => false
/-- What it answers may hang on the memory. -/
def isRd (P : Program) : Op → Bool
  | .field .. | .index .. | .lookup .. | .load .. => true
  | .binOp _ t _ _ _ => match P.underlying t with
    | some (.struct _) => true
    | _ => false
  | .convert s d _ => match P.underlying s, P.underlying d with
    | some _, some (.int _) => false
    | some .string, some .string => false
    | _, _ => true
  | .call c => match c.callee with
    | .builtin .len => match c.argTypes.toList with
      | [t] => match P.underlying t with
        | some (.slice _) => false
        | some .string => false
        | _ => true
      | _ => true
    | .builtin .cap => true
    | _ => false
  | _ => false

def befOf (acc : List Nat) : List Edge → Nat
  | [] => 0
  | e :: r => match Region.binds .any e with
    | true => befOf acc r ||| 2 ^ e.on ||| acc.getD e.on 0
    | false => befOf acc r
def befs : List Oper → List Nat → List Nat
  | [], acc => acc
  | o :: r, acc => befs r (acc ++ [befOf acc o.after.toList])
def idxs (f : Oper → Bool) : List Oper → Nat → List Nat
  | [], _ => []
  | o :: r, k => match f o with
    | true => k :: idxs f r (k + 1)
    | false => idxs f r (k + 1)
def fltr (f : Nat → Bool) : List Nat → List Nat
  | [] => []
  | j :: r => match f j with
    | true => j :: fltr f r
    | false => fltr f r
def maskOf : List Nat → Nat
  | [] => 0
  | j :: r => 2 ^ j ||| maskOf r
def anyN (f : Nat → Bool) : List Nat → Bool
  | [] => false
  | j :: r => match f j with
    | true => true
    | false => anyN f r
def subB (a b : Nat) : Bool := Nat.beq (Nat.land a b) a

structure RS where
  ops : List Oper
  B : List Nat
  chs : List Nat
  flts : List Nat
  cm : Nat
def mkRS (P : Program) (ops : List Oper) : RS :=
  let chs := idxs (fun o => !isFlt P o.op) ops 0
  { ops, B := befs ops [], chs, flts := idxs (fun o => isFlt P o.op) ops 0, cm := maskOf chs }

/-- Such of the row as may run: behind all the chain's operations that they wait for. -/
def RS.enabled (R : RS) (done j : Nat) : Bool := subB (Nat.land (R.B.getD j 0) R.cm) done
/-- Done for sure: one that is done has waited for it. -/
def RS.needed (R : RS) (done j : Nat) : Bool := anyN (fun c => match Nat.testBit done c with
  | true => Nat.testBit (R.B.getD c 0) j
  | false => false) R.chs

def reP (P : Program) (T : List Bool) (o : Oper) (E : Env) (w : World) (R : Prop) : Prop := match o.dst with
  | some d => match E.get d with
    | some e => opH P T o.op o.type E.ev w fun v _ => v = e.val ∧ R
    | none => False
  | none => False
def reAll (P : Program) (T : List Bool) (ops : List Oper) (E : Env) (w : World) (R : Prop) : List Nat → Prop
  | [] => R
  | j :: r => match ops[j]? with
    | some o => guardP ops o.guard E (fun _ => reP P T o E w (reAll P T ops E w R r)) (fun _ => reAll P T ops E w R r)
    | none => False
def fltAll (P : Program) (T : List Bool) (n : Nat) (ops : List Oper) (w : World) (K : Env → Prop) : List Nat → Env → Prop
  | [], E => K E
  | j :: r, E => match ops[j]? with
    | some o => guardP ops o.guard E (fun E' => stepP P T n o E' w fun E'' _ => fltAll P T n ops w K r E'') (fun E' => fltAll P T n ops w K r (E'.put n o.dst .u))
    | none => False
def andAll (F : Nat → Prop) : List Nat → Prop
  | [] => False
  | [c] => F c
  | c :: r => F c ∧ andAll F r

def RS.go (R : RS) (P : Program) (T : List Bool) (n : Nat) (K : Env → World → Prop) : Nat → Nat → Nat → Env → World → Prop
  | 0, _, _, _, _ => False
  | k + 1, done, en, E, w =>
    reAll P T R.ops E w
      (fltAll P T n R.ops w (fun E' =>
          match subB R.cm done with
          | true => K E' w
          | false => andAll (fun c => match R.ops[c]? with
              | some o => guardP R.ops o.guard E' (fun E2 => stepP P T n o E2 w fun E3 w3 => RS.go R P T n K k (done ||| 2 ^ c) (en ||| maskOf (fltr (fun j => R.enabled done j) R.flts)) E3 w3)
                  (fun E2 => RS.go R P T n K k (done ||| 2 ^ c) (en ||| maskOf (fltr (fun j => R.enabled done j) R.flts)) (E2.put n o.dst .u) w)
              | none => False)
            (fltr (fun c => !Nat.testBit done c && R.enabled done c) R.chs))
        (fltr (fun j => !Nat.testBit en j && R.enabled done j) R.flts) E)
      (fltr (fun j => Nat.testBit en j && !R.needed done j && (match R.ops[j]? with | some o => isRd P o.op | none => false)) R.flts)
def lenL {α : Type} : List α → Nat
  | [] => 0
  | _ :: r => lenL r + 1
def drawP (P : Program) (T : List Bool) (n : Nat) (ops : List Oper) (K : Env → World → Prop) (E : Env) (w : World) : Prop :=
  (mkRS P ops).go P T n K (lenL (mkRS P ops).chs + 1) 0 0 E w

/-- A region's form fits the way that it is walked. -/
def looks (ops : List Oper) (o : Oper) : List Nat :=
  ((opnds o.op).filterMap fun x => match x with | .tmp t => some t | _ => none) ++ (match o.guard with | some (j, _) => ((ops[j]?).bind (·.dst)).toList | none => [])
def regOk (P : Program) (n : Nat) (ops : List Oper) (draw : Bool) : Bool := match draw with
  | false => true
  | true =>
    let R := mkRS P ops
    (List.range ops.length).all fun i => match ops[i]? with
      | some oi => (oi.dst.toList.all fun d => decide (d < n)) && (oi.after.toList.all fun e => !Region.binds .any e || decide (e.on < i)) &&
        (isFlt P oi.op == false || !((oi.dst.toList).any fun d => (looks ops oi).contains d)) &&
        (List.range ops.length).all fun j => match ops[j]? with
          | some oj => match oj.dst with
            | some d => i == j || ((!isFlt P oj.op || oi.dst != some d) &&
                (!(looks ops oi).contains d || (R.B.getD i 0).testBit j || (!isFlt P oj.op && (R.B.getD j 0).testBit i)))
            | none => true
          | none => true
      | none => true
end Go.Proofs.Ythjnknpgcmmapaa
