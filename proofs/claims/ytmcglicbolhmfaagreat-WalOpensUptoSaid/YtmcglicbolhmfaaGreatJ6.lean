/-
  Texts of the proof, joined: Sl6, BStr, FldS, FldS2.
-/
import Derived.Test.YtmcglicbolhmfaaGreatJ5
import Derived.Laws.BytesString
namespace Go.Proofs.YtmcglicbolhmfaaGreat
set_option linter.unusedVariables false
open Go.RowKit
section
variable {W w : World} {l : List Chunk} {P : Program}
theorem s_strAt {t : TypeId} {s : ByteArray} {j : Nat} {k : IntKind} {K : Value → Prop} (ht : P.underlying t = some .string) (hj : j < s.size) (h : K (.int .u8 (s[j]).toNat)) : HRq P (Instr.index t (.string s) (.int k (j : Int))) w K := by
  refine ⟨_, ?_, h⟩
  have : s[j]? = some s[j] := by simp [hj]
  simp [Instr.index, asIntOf, run_underlying ht, Result.andThen, this]
theorem s_byteStr {src dst e : TypeId} {b : Nat} {n : Int} {cap : Nat} {t : TypeId} {K : Value → Prop} (hS : SL W l w) (hm : Has (.pt b [.int .u8 n] t) l) (h1 : P.underlying src = some (.slice e)) (h2 : P.underlying dst = some .string) (h3 : P.underlying e = some (.int .u8))
    (h : K (.string ⟨#[UInt8.ofNat n.toNat]⟩)) : HRq P (convert src dst (.slice (some ⟨b, 0, none⟩) 1 cap)) w K := by
  refine ⟨_, ?_, h⟩
  have hc : w.cell? ⟨b, 0, none⟩ = some (.int .u8 n) := hS.cell hm rfl
  have hl : (loadCells ⟨b, 0, none⟩ 1).run P w = .ok ([n].map (Value.int .u8)).toArray w := by
    refine run_loadCells_list (P := P) (w := w) ⟨b, 0, none⟩ [.int .u8 n] (fun j v hj => ?_)
    match j, hj with
    | 0, hj =>
      simp at hj; subst hj
      rw [Addr.add_lit]; exact hc
  have := run_bytesToString (P := P) w ⟨b, 0, none⟩ 1 cap [n] hl
  simp [convert, run_underlying h1, run_underlying h2, run_underlying h3, Result.andThen, this]
  rfl
theorem s_addT {a b : ByteArray} {K : Value → Prop} (hr : a.size + b.size ≤ 1000000) (h : K (.string (a ++ b))) : HBin .add (.string a) (.string b) K := by
  refine ⟨_, ?_, h⟩
  have hm : IntKind.i64.max = 9223372036854775807 := by decide
  simp only [binVal]
  rw [if_neg (by rw [hm]; omega)]
end
end Go.Proofs.YtmcglicbolhmfaaGreat
namespace Go.Proofs.YtmcglicbolhmfaaGreat
set_option linter.unusedVariables false
set_option maxRecDepth 100000
open Go.RowKit

def bstr (bs : List UInt8) : ByteArray := ⟨bs.toArray⟩
theorem bstr_inj {a b : List UInt8} : bstr a = bstr b ↔ a = b := by
  constructor
  · intro h
    have := congrArg ByteArray.data h
    exact List.toArray_inj this
  · rintro rfl; rfl
theorem bstr_add (a b : List UInt8) : bstr a ++ bstr b = bstr (a ++ b) := by
  apply ByteArray.ext
  simp [bstr, ByteArray.data_append]
theorem bstr_size (a : List UInt8) : (bstr a).size = a.length := by simp [bstr, ByteArray.size]
theorem fold_push : ∀ (bs : List UInt8) (s : ByteArray), (bs.map fun b => (b.toNat : Int)).foldl (fun r n => r.push (UInt8.ofNat n.toNat)) s = ⟨s.data ++ bs.toArray⟩
  | [], s => by cases s; simp
  | b :: bs, s => by
    simp only [List.map_cons, List.foldl_cons]
    rw [fold_push bs]
    cases s; simp [ByteArray.push]
section
variable {W w : World} {l : List Chunk} {P : Program}
theorem s_bytesStr {src dst e : TypeId} {v : Value} {bs : List UInt8} {K : Value → Prop} (hv : ∃ a n c, v = .slice a n c) (hsrc : srcCells w 1 v bs.length (bs.map u8c)) (h1 : P.underlying src = some (.slice e)) (h2 : P.underlying dst = some .string) (h3 : P.underlying e = some (.int .u8))
    (h : K (.string (bstr bs))) : HRq P (convert src dst v) w K := by
  refine ⟨_, ?_, h⟩
  obtain ⟨a, n, c, rfl⟩ := hv
  rw [run_convert_bytes_string w src dst e a n c h1 h3 h2]
  cases a with
  | none =>
    obtain ⟨e1, e2⟩ := hsrc
    have : bs = [] := by simpa using e2
    subst this
    rfl
  | some p =>
    obtain ⟨e1, e2, e3⟩ := hsrc
    subst e1
    have hl : (loadCells p bs.length).run P w = .ok ((bs.map fun b => (b.toNat : Int)).map (Value.int .u8)).toArray w := by
      have h4 := run_loadCells_list (P := P) (w := w) p (bs.map u8c) e3
      rw [List.length_map] at h4
      rw [h4, List.map_map]; rfl
    rw [run_bytesToString w p bs.length c _ hl, fold_push]
    simp [bstr]
theorem s_addT' {a b : ByteArray} {K : Value → Prop} (hr : a.size + b.size ≤ 9223372036854775807) (h : K (.string (a ++ b))) : HBin .add (.string a) (.string b) K := by
  refine ⟨_, ?_, h⟩
  have hm : IntKind.i64.max = 9223372036854775807 := by decide
  simp only [binVal]
  rw [if_neg (by rw [hm]; omega)]
theorem RdSl.isSl {H : Heap} {sz n : Nat} {v : Value} {cells : List Value} (h : RdSl H sz v n cells) : ∃ a n c, v = .slice a n c := by
  obtain ⟨_, a, cap, rfl, _, _⟩ := h; exact ⟨_, _, _, rfl⟩
end
theorem litB {W w : World} {l : List Chunk} {H : Heap} {b : Nat} {bs : List UInt8} (h : SL W (.mem H :: .pt b (bs.map u8c) 5 :: l) w) : ∃ H', H.le H' ∧ RdSl H' 1 (.slice (some ⟨b, 0, none⟩) bs.length bs.length) bs.length (bs.map u8c) ∧ SL W (.mem H' :: l) w :=
  OwnSl.freeze (sz := 1) (h.perm (.swap _ _ _) |> fun h => (OwnSl.full (sz := 1) (by simp) h).perm (.swap _ _ _))
theorem SL.mark {W w : World} {l l' : List Chunk} {b n : Nat} {cs : List Value} {t : TypeId} (h : SL W l w) (u : Upd (.pt b cs t) (.pt b cs t) l l') (hn : cs.length = n) : SL W l' (w.freeze { block := b, off := n } 1) := by
  obtain ⟨f, hf, e⟩ := h.blk u.has
  obtain ⟨x, y⟩ := f
  refine h.upd (b := b) (o' := .cells cs.toArray t (if x == y then (n, n + 1) else (min x n, max y (n + 1)))) u ?_ ⟨_, ?_, rfl⟩ ?_ ?_ rfl rfl rfl
  · rintro k ⟨f, _, rfl⟩; exact ⟨_, rfl⟩
  · rcases hf with hf | hf
    · simp only at hf; subst hf; rw [if_pos (by simp)]; right; simp only; omega
    · simp only at hf
      split
      · right; simp only; omega
      · right; simp only; omega
  · show (w.heap.modify b _)[b]? = _
    rw [Array.getElem?_modify]
    simp [e]
  · intro z hz
    show (w.heap.modify b _)[z]? = _
    rw [Array.getElem?_modify, if_neg (by omega)]
theorem s_cvSame {W w : World} {l l' : List Chunk} {b n c : Nat} {cs : List Value} {tt t e : TypeId} {P : Program} {K : Value → World → Prop} (hS : SL W l w) (u : Upd (.pt b cs tt) (.pt b cs tt) l l') (h1 : P.underlying t = some (.slice e)) (h2 : P.underlying e = some (.int .u8))
    (h : ∀ w', SL W l' w' → K (.slice (some ⟨b, 0, none⟩) n c) w') : HRun P (convert t t (.slice (some ⟨b, 0, none⟩) n c)) w K := by
  obtain ⟨f, hf, eb⟩ := hS.blk u.has
  have hsh : w.shape? b = some (tt, cs.length) := by simp [World.shape?, eb]
  refine ⟨_, _, ?_, h _ (hS.mark u rfl)⟩
  simp [convert, run_underlying h1, run_underlying h2, Result.andThen, markStringish, hsh]
end Go.Proofs.YtmcglicbolhmfaaGreat
namespace Go.Proofs.YtmcglicbolhmfaaGreat
set_option linter.unusedVariables false
set_option maxRecDepth 100000
open Go.RowKit

/-- A reader of fields. -/
abbrev FRdX (rp : Nat) (r : FRd) (v : Value) : Chunk := .pt rp [v, .int .i64 r.e] 152
theorem nextF_len (n : Nat) (r : FRd) : (nextF n r).1.length ≤ n ∧ (nextF n r).1.length ≤ r.b.length ∧ (nextF n r).2.b.length ≤ r.b.length := by
  unfold nextF
  split
  · simp
  · split
    · simp
    · simp only [List.length_take, List.length_drop]; omega
def NextQ (X : Chunk) (rp n : Nat) (r : FRd) (u : Value) (post : List Chunk) : Prop := ∃ v', Rdb X u (nextF n r).1 ∧ Rdb X v' (nextF n r).2.b ∧ post = [FRdX rp (nextF n r).2 v', X]
/-- field.reader.next -/
theorem next_spec (X : Chunk) (rp n : Nat) (v : Value) (r : FRd) (hv : Rdb X v r.b) : Spec Tryz.prog 108 [.pointer (some ⟨rp, 0, none⟩), .int .i64 n] [FRdX rp r v, X] (NextQ X rp n r) := by
  intro W F w hS; apply vc108; unfold Vc108; (try simp only [app] at hS)
  have hone := hv.one hS Xh
  refine ⟨fun vs w => vs = [] ∧ ∃ e, e = (if r.e = 0 ∧ r.b.length < n then 2 else r.e) ∧ SL W (.pt rp [v, .int .i64 e] 152 :: X :: F) w, ?_, ?_⟩
  · (repeat (first | (with_reducible first | apply Q0 | refine Qa hS ?_ | refine Qb ?_ | refine Qc hS ?_ | refine Qd ?_) | ((with_reducible refine Qe hS ?_); clear hS; intro w hS; simp only [List.set] at hS) | ((with_reducible first | refine s_draw hS ?_ | refine Qf hS ?_); clear hS; intro w hS) | ((with_reducible first | refine s_new hS ?_ | refine Qg hS ?_); clear hS; intro b w hS)))
    refine s_ifp (fun h => ?_) (fun h => ?_)
    · (repeat (first | (with_reducible first | apply Q0 | refine Qa hS ?_ | refine Qb ?_ | refine Qc hS ?_ | refine Qd ?_) | ((with_reducible refine Qe hS ?_); clear hS; intro w hS; simp only [List.set] at hS) | ((with_reducible first | refine s_draw hS ?_ | refine Qf hS ?_); clear hS; intro w hS) | ((with_reducible first | refine s_new hS ?_ | refine Qg hS ?_); clear hS; intro b w hS)))
      refine s_lenB hS Xh hv ?_
      (repeat (first | (with_reducible first | apply Q0 | refine Qa hS ?_ | refine Qb ?_ | refine Qc hS ?_ | refine Qd ?_) | ((with_reducible refine Qe hS ?_); clear hS; intro w hS; simp only [List.set] at hS) | ((with_reducible first | refine s_draw hS ?_ | refine Qf hS ?_); clear hS; intro w hS) | ((with_reducible first | refine s_new hS ?_ | refine Qg hS ?_); clear hS; intro b w hS)))
      refine s_ifp (fun h2 => ?_) (fun h2 => ?_)
      · (repeat (first | (with_reducible first | apply Q0 | refine Qa hS ?_ | refine Qb ?_ | refine Qc hS ?_ | refine Qd ?_) | ((with_reducible refine Qe hS ?_); clear hS; intro w hS; simp only [List.set] at hS) | ((with_reducible first | refine s_draw hS ?_ | refine Qf hS ?_); clear hS; intro w hS) | ((with_reducible first | refine s_new hS ?_ | refine Qg hS ?_); clear hS; intro b w hS)))
        exact ⟨2, by rw [if_pos ⟨h, by omega⟩], hS⟩
      · refine ⟨rfl, _, rfl, ?_⟩
        rw [if_neg (by omega)]; exact hS
    · refine ⟨rfl, _, rfl, ?_⟩
      rw [if_neg (by omega)]; exact hS
  · rintro w ⟨_, e, he, hS⟩
    (repeat (first | (with_reducible first | apply Q0 | refine Qa hS ?_ | refine Qb ?_ | refine Qc hS ?_ | refine Qd ?_) | ((with_reducible refine Qe hS ?_); clear hS; intro w hS; simp only [List.set] at hS) | ((with_reducible first | refine s_draw hS ?_ | refine Qf hS ?_); clear hS; intro w hS) | ((with_reducible first | refine s_new hS ?_ | refine Qg hS ?_); clear hS; intro b w hS)))
    by_cases h1 : r.e = 0
    · by_cases h2 : r.b.length < n
      · rw [if_pos ⟨h1, h2⟩] at he
        subst he
        refine s_ifp (fun _ => ?_) (fun h => absurd (by decide) h)
        have e1 : nextF n r = ([], { r with e := 2 }) := by unfold nextF; rw [if_neg (by simp [h1]), if_pos h2]
        refine ⟨_, ⟨v, ?_, ?_, rfl⟩, ?_⟩
        · rw [e1]; exact Rdb.nil
        · rw [e1]; exact hv
        · rw [e1]; exact hS
      · rw [if_neg (by omega), h1] at he
        subst he
        refine s_ifp (fun h => absurd rfl h) (fun _ => ?_)
        have e1 : nextF n r = (r.b.take n, { r with b := r.b.drop n }) := by unfold nextF; rw [if_neg (by simp [h1]), if_neg h2]
        (repeat (first | (with_reducible first | apply Q0 | refine Qa hS ?_ | refine Qb ?_ | refine Qc hS ?_ | refine Qd ?_) | ((with_reducible refine Qe hS ?_); clear hS; intro w hS; simp only [List.set] at hS) | ((with_reducible first | refine s_draw hS ?_ | refine Qf hS ?_); clear hS; intro w hS) | ((with_reducible first | refine s_new hS ?_ | refine Qg hS ?_); clear hS; intro b w hS)))
        refine s_slHiB hS Xh hv (by omega) ?_
        intro u hu
        (repeat (first | (with_reducible first | apply Q0 | refine Qa hS ?_ | refine Qb ?_ | refine Qc hS ?_ | refine Qd ?_) | ((with_reducible refine Qe hS ?_); clear hS; intro w hS; simp only [List.set] at hS) | ((with_reducible first | refine s_draw hS ?_ | refine Qf hS ?_); clear hS; intro w hS) | ((with_reducible first | refine s_new hS ?_ | refine Qg hS ?_); clear hS; intro b w hS)))
        refine s_slLoB hS Xh hv (by omega) ?_
        intro v' hv'
        have hone' := hv'.one hS Xh
        (repeat (first | (with_reducible first | apply Q0 | refine Qa hS ?_ | refine Qb ?_ | refine Qc hS ?_ | refine Qd ?_) | ((with_reducible refine Qe hS ?_); clear hS; intro w hS; simp only [List.set] at hS) | ((with_reducible first | refine s_draw hS ?_ | refine Qf hS ?_); clear hS; intro w hS) | ((with_reducible first | refine s_new hS ?_ | refine Qg hS ?_); clear hS; intro b w hS)))
        refine ⟨_, ⟨v', ?_, ?_, rfl⟩, ?_⟩
        · rw [e1]; exact hu
        · rw [e1]; exact hv'
        · rw [e1]; simp only [h1]; exact hS
    · rw [if_neg (by omega)] at he
      subst he
      refine s_ifp (fun _ => ?_) (fun h => absurd h1 h)
      have e1 : nextF n r = ([], r) := by unfold nextF; rw [if_pos h1]
      refine ⟨_, ⟨v, ?_, ?_, rfl⟩, ?_⟩
      · rw [e1]; exact Rdb.nil
      · rw [e1]; exact hv
      · rw [e1]; exact hS
theorem or64 {a b : Nat} (ha : a < 18446744073709551616) (hb : b < 18446744073709551616) : binVal .or (.int .u64 (a : Int)) (.int .u64 (b : Int)) = some (.int .u64 ((a ||| b : Nat) : Int)) := by
  have h : (a ||| b) < 18446744073709551616 := Nat.or_lt_two_pow (n := 64) ha hb
  simp only [binVal, if_true]
  congr 2
  have e1 : (BitVec.ofInt IntKind.u64.bits (a : Int)) = BitVec.ofNat 64 a := BitVec.ofInt_natCast 64 a
  have e2 : (BitVec.ofInt IntKind.u64.bits (b : Int)) = BitVec.ofNat 64 b := BitVec.ofInt_natCast 64 b
  rw [e1, e2]
  have e3 : (BitVec.ofNat 64 a ||| BitVec.ofNat 64 b).toNat = a ||| b := by
    rw [BitVec.toNat_or, BitVec.toNat_ofNat, BitVec.toNat_ofNat, Nat.mod_eq_of_lt (by omega), Nat.mod_eq_of_lt (by omega)]
  show IntKind.u64.wrap (((BitVec.ofNat 64 a ||| BitVec.ofNat 64 b).toNat : Nat) : Int) = _
  rw [e3, wrap_u64 (by omega) (by omega)]
/-- x<<8 | c -/
theorem s_shlOr {x : Nat} {c : UInt8} {K : Value → Prop} (h : K (.int .u64 (((x * 256 + c.toNat) % 18446744073709551616 : Nat) : Int))) :
    HBin .shl (.int .u64 (x : Int)) (.int .u64 8) fun v => HCvI .u64 (u8c c) fun y => HBin .or v y K := by
  have hc := c.toNat_lt
  refine ⟨.int .u64 (((x * 256) % 18446744073709551616 : Nat) : Int), ?_, ?_⟩
  · show (if (8 : Int) < 0 then none else some (Value.int .u64 (IntKind.u64.wrap ((x : Int) * 2 ^ (min (8 : Int).toNat IntKind.u64.bits))))) = _
    rw [if_neg (by omega)]
    congr 2
  · refine s_cvI ?_
    rw [wrap_u64 (by omega) (by omega)]
    refine ⟨_, or64 (by omega) (by omega), ?_⟩
    have e : (x * 256) % 18446744073709551616 = ((x * 256) % 18446744073709551616 / 256) <<< 8 := by rw [Nat.shiftLeft_eq]; omega
    have e2 : (x * 256) % 18446744073709551616 ||| c.toNat = (x * 256 + c.toNat) % 18446744073709551616 := by
      rw [e, ← Nat.shiftLeft_add_eq_or_of_lt (show c.toNat < 2 ^ 8 by omega), Nat.shiftLeft_eq]; omega
    rw [e2]; exact h
theorem bigN_take {b : List UInt8} {i : Nat} (h : i < b.length) : bigN (b.take (i + 1)) = (bigN (b.take i) * 256 + b[i].toNat) % 18446744073709551616 := by
  rw [show b.take (i + 1) = b.take i ++ [b[i]] by rw [List.take_add_one]; simp [h]]
  exact bigN_step _ _ _ rfl
def NumQ (X : Chunk) (rp n : Nat) (r : FRd) (u : Value) (post : List Chunk) : Prop := ∃ v', u = .int .u64 ((numF n r).1 : Nat) ∧ Rdb X v' (numF n r).2.b ∧ post = [FRdX rp (numF n r).2 v', X]
/-- field.reader.number -/
theorem numF_spec (X : Chunk) (rp n : Nat) (v : Value) (r : FRd) (hv : Rdb X v r.b) (hn : n ≤ 1000) : Spec Tryz.prog 107 [.pointer (some ⟨rp, 0, none⟩), .int .i64 n] [FRdX rp r v, X] (NumQ X rp n r) := by
  intro W F w hS; apply vc107; unfold Vc107; (try simp only [app] at hS)
  (apply s_call (next_spec X rp n v r hv) hS; exact Xp; clear hS)
  rintro u post ⟨v', hu, hv', rfl⟩ w hS; (try simp only [app] at hS)
  have hl := nextF_len n r
  refine s_lenB hS Xh hu ?_
  refine ⟨fun vs w => ∃ i : Nat, i ≤ (nextF n r).1.length ∧ vs = [.int .u64 (bigN ((nextF n r).1.take i) : Nat), .int .i64 i] ∧ SL W (FRdX rp (nextF n r).2 v' :: X :: F) w, fun vs _ => match vs with
    | [_, .int _ i] => (nextF n r).1.length - i.toNat
    | _ => 0, ⟨0, by omega, rfl, hS⟩, ?_⟩
  rintro v1 v2 w1 ⟨i, hi, hv, hS⟩
  cases hv
  (repeat (first | (with_reducible first | apply Q0 | refine Qa hS ?_ | refine Qb ?_ | refine Qc hS ?_ | refine Qd ?_) | ((with_reducible refine Qe hS ?_); clear hS; intro w hS; simp only [List.set] at hS) | ((with_reducible first | refine s_draw hS ?_ | refine Qf hS ?_); clear hS; intro w hS) | ((with_reducible first | refine s_new hS ?_ | refine Qg hS ?_); clear hS; intro b w hS)))
  refine s_ifp (fun h => ?_) (fun h => ?_)
  · have hi : i < (nextF n r).1.length := by omega
    refine s_idxB hS Xh hu hi ?_
    refine s_shlOr ?_
    (repeat (first | (with_reducible first | apply Q0 | refine Qa hS ?_ | refine Qb ?_ | refine Qc hS ?_ | refine Qd ?_) | ((with_reducible refine Qe hS ?_); clear hS; intro w hS; simp only [List.set] at hS) | ((with_reducible first | refine s_draw hS ?_ | refine Qf hS ?_); clear hS; intro w hS) | ((with_reducible first | refine s_new hS ?_ | refine Qg hS ?_); clear hS; intro b w hS)))
    refine ⟨⟨i + 1, by omega, ?_, hS⟩, ?_⟩
    · rw [bigN_take hi]
    · simp only [Int.toNat_natCast]; omega
  · have : (nextF n r).1.take i = (nextF n r).1 := List.take_of_length_le (by omega)
    rw [this]
    exact ⟨_, ⟨v', rfl, hv', rfl⟩, hS⟩
theorem bigN_lt : ∀ (n : Nat) (b : List UInt8), b.length = n → bigN b < 256 ^ n
  | 0, b, h => by
    have : b = [] := List.eq_nil_of_length_eq_zero h
    subst this; decide
  | n + 1, b, h => by
    have h1 := bigN_lt n (b.take n) (by rw [List.length_take]; omega)
    have h2 := bigN_take (b := b) (i := n) (by omega)
    rw [List.take_of_length_le (by omega)] at h2
    have hc := (b[n]'(by omega)).toNat_lt
    have h3 := Nat.mod_le (bigN (b.take n) * 256 + (b[n]'(by omega)).toNat) 18446744073709551616
    rw [h2, Nat.pow_succ]
    omega
theorem numF_lt (n : Nat) (r : FRd) : (numF n r).1 < 256 ^ n := by
  have h1 := bigN_lt _ _ (rfl : (nextF n r).1.length = _)
  have h2 := (nextF_len n r).1
  exact Nat.lt_of_lt_of_le h1 (Nat.pow_le_pow_right (by omega) h2)
def MostQ (X : Chunk) (rp m : Nat) (r : FRd) (u : Value) (post : List Chunk) : Prop := ∃ v', u = .int .i64 ((mostF m r).1 : Nat) ∧ Rdb X v' (mostF m r).2.b ∧ post = [FRdX rp (mostF m r).2 v', X]
/-- field.reader.most -/
theorem most_spec (X : Chunk) (rp m : Nat) (v : Value) (r : FRd) (hv : Rdb X v r.b) (hm : m ≤ 100000) : Spec Tryz.prog 90 [.pointer (some ⟨rp, 0, none⟩), .int .i64 m] [FRdX rp r v, X] (MostQ X rp m r) := by
  intro W F w hS; apply vc90; unfold Vc90; (try simp only [app] at hS)
  (apply s_call (numF_spec X rp 2 v r hv (by omega)) hS; exact Xp; clear hS)
  rintro u post ⟨v', rfl, hv', rfl⟩ w hS; (try simp only [app] at hS)
  have hlt := numF_lt 2 r
  refine s_cv64 (by omega) ?_
  (repeat (first | (with_reducible first | apply Q0 | refine Qa hS ?_ | refine Qb ?_ | refine Qc hS ?_ | refine Qd ?_) | ((with_reducible refine Qe hS ?_); clear hS; intro w hS; simp only [List.set] at hS) | ((with_reducible first | refine s_draw hS ?_ | refine Qf hS ?_); clear hS; intro w hS) | ((with_reducible first | refine s_new hS ?_ | refine Qg hS ?_); clear hS; intro b w hS)))
  refine s_ifp (fun h => ?_) (fun h => ?_)
  · (repeat (first | (with_reducible first | apply Q0 | refine Qa hS ?_ | refine Qb ?_ | refine Qc hS ?_ | refine Qd ?_) | ((with_reducible refine Qe hS ?_); clear hS; intro w hS; simp only [List.set] at hS) | ((with_reducible first | refine s_draw hS ?_ | refine Qf hS ?_); clear hS; intro w hS) | ((with_reducible first | refine s_new hS ?_ | refine Qg hS ?_); clear hS; intro b w hS)))
    have e : mostF m r = (0, { (numF 2 r).2 with e := 3 }) := by unfold mostF; rw [if_pos (by omega)]
    refine ⟨_, ⟨v', ?_, ?_, rfl⟩, ?_⟩
    · rw [e]; rfl
    · rw [e]; exact hv'
    · rw [e]; exact hS
  · have e : mostF m r = numF 2 r := by unfold mostF; rw [if_neg (by omega)]
    refine ⟨_, ⟨v', ?_, ?_, rfl⟩, ?_⟩
    · rw [e]
    · rw [e]; exact hv'
    · rw [e]; exact hS
theorem mostF_le (m : Nat) (r : FRd) : (mostF m r).1 ≤ m := by
  unfold mostF
  split
  · exact Nat.zero_le _
  · rename_i h; exact Nat.not_lt.1 h
theorem numF_blen (n : Nat) (r : FRd) : (numF n r).2.b.length ≤ r.b.length := (nextF_len n r).2.2
theorem mostF_blen (m : Nat) (r : FRd) : (mostF m r).2.b.length ≤ r.b.length := by
  unfold mostF
  split <;> exact numF_blen 2 r
theorem sig_cv {n : Nat} (h : n < 18446744073709551616) : IntKind.i64.wrap (n : Int) = sig n := by
  rw [IntKind.wrap_i64, sig]
  split <;> omega
def FldQ (X : Chunk) (rp : Nat) (r : FRd) (u : Value) (post : List Chunk) : Prop := ∃ v', u = .agg (fdcells (fieldF r).1).toArray ∧ Rdb X v' (fieldF r).2.b ∧ post = [FRdX rp (fieldF r).2 v', X]
/-- field.reader.field -/
theorem field_spec (X : Chunk) (rp : Nat) (v : Value) (r : FRd) (hv : Rdb X v r.b) : Spec Tryz.prog 91 [.pointer (some ⟨rp, 0, none⟩)] [FRdX rp r v, X] (FldQ X rp r) := by
  intro W F w hS; apply vc91; unfold Vc91; (try simp only [app] at hS)
  (repeat (first | (with_reducible first | apply Q0 | refine Qa hS ?_ | refine Qb ?_ | refine Qc hS ?_ | refine Qd ?_) | ((with_reducible refine Qe hS ?_); clear hS; intro w hS; simp only [List.set] at hS) | ((with_reducible first | refine s_draw hS ?_ | refine Qf hS ?_); clear hS; intro w hS) | ((with_reducible first | refine s_new hS ?_ | refine Qg hS ?_); clear hS; intro b w hS)))
  (apply s_call (numF_spec X rp 1 v r hv (by omega)) hS; exact Xp; clear hS)
  rintro u post ⟨v1, rfl, hv1, rfl⟩ w hS; (try simp only [app] at hS)
  have hlt := numF_lt 1 r
  refine s_cv64 (by omega) ?_
  (repeat (first | (with_reducible first | apply Q0 | refine Qa hS ?_ | refine Qb ?_ | refine Qc hS ?_ | refine Qd ?_) | ((with_reducible refine Qe hS ?_); clear hS; intro w hS; simp only [List.set] at hS) | ((with_reducible first | refine s_draw hS ?_ | refine Qf hS ?_); clear hS; intro w hS) | ((with_reducible first | refine s_new hS ?_ | refine Qg hS ?_); clear hS; intro b w hS)))
  refine s_ifp (fun h => ?_) (fun h => ?_)
  · (apply s_call (numF_spec X rp 8 v1 (numF 1 r).2 hv1 (by omega)) hS; exact Xp; clear hS)
    rintro u post ⟨v2, rfl, hv2, rfl⟩ w hS; (try simp only [app] at hS)
    have hlt8 := numF_lt 8 (numF 1 r).2
    refine s_cvI ?_
    rw [sig_cv (by omega), h]
    have e : fieldF r = (⟨1, sig (numF 8 (numF 1 r).2).1, ⟨#[]⟩⟩, (numF 8 (numF 1 r).2).2) := by
      unfold fieldF; rw [if_pos (by omega)]
    (repeat (first | (with_reducible first | apply Q0 | refine Qa hS ?_ | refine Qb ?_ | refine Qc hS ?_ | refine Qd ?_) | ((with_reducible refine Qe hS ?_); clear hS; intro w hS; simp only [List.set] at hS) | ((with_reducible first | refine s_draw hS ?_ | refine Qf hS ?_); clear hS; intro w hS) | ((with_reducible first | refine s_new hS ?_ | refine Qg hS ?_); clear hS; intro b w hS)))
    refine ⟨[FRdX rp (fieldF r).2 v2, X], ⟨v2, ?_, ?_, rfl⟩, ?_⟩
    · rw [e]; rfl
    · rw [e]; exact hv2
    · rw [e]; exact SL.into hS Xi
  · (repeat (first | (with_reducible first | apply Q0 | refine Qa hS ?_ | refine Qb ?_ | refine Qc hS ?_ | refine Qd ?_) | ((with_reducible refine Qe hS ?_); clear hS; intro w hS; simp only [List.set] at hS) | ((with_reducible first | refine s_draw hS ?_ | refine Qf hS ?_); clear hS; intro w hS) | ((with_reducible first | refine s_new hS ?_ | refine Qg hS ?_); clear hS; intro b w hS)))
    refine s_ifp (fun h2 => ?_) (fun h2 => ?_)
    · (apply s_call (most_spec X rp 4096 v1 (numF 1 r).2 hv1 (by omega)) hS; exact Xp; clear hS)
      rintro u post ⟨v2, rfl, hv2, rfl⟩ w hS; (try simp only [app] at hS)
      (apply s_call (next_spec X rp (mostF 4096 (numF 1 r).2).1 v2 (mostF 4096 (numF 1 r).2).2 hv2) hS; exact Xp; clear hS)
      rintro u post ⟨v3, hu, hv3, rfl⟩ w hS; (try simp only [app] at hS)
      obtain ⟨au, cu, eu, _⟩ := hu.sl hS Xh
      refine s_bytesStr ⟨_, _, _, eu⟩ (hu.src hS Xh) Tryz.underlying31 Tryz.underlying9 Tryz.underlying5 ?_
      rw [h2]
      have e : fieldF r = (⟨2, 0, bstr (nextF (mostF 4096 (numF 1 r).2).1 (mostF 4096 (numF 1 r).2).2).1⟩, (nextF (mostF 4096 (numF 1 r).2).1 (mostF 4096 (numF 1 r).2).2).2) := by
        unfold fieldF bstr; rw [if_neg (by omega), if_pos (by omega)]
      (repeat (first | (with_reducible first | apply Q0 | refine Qa hS ?_ | refine Qb ?_ | refine Qc hS ?_ | refine Qd ?_) | ((with_reducible refine Qe hS ?_); clear hS; intro w hS; simp only [List.set] at hS) | ((with_reducible first | refine s_draw hS ?_ | refine Qf hS ?_); clear hS; intro w hS) | ((with_reducible first | refine s_new hS ?_ | refine Qg hS ?_); clear hS; intro b w hS)))
      refine ⟨[FRdX rp (fieldF r).2 v3, X], ⟨v3, ?_, ?_, rfl⟩, ?_⟩
      · rw [e]; rfl
      · rw [e]; exact hv3
      · rw [e]; exact SL.into hS Xi
    · (repeat (first | (with_reducible first | apply Q0 | refine Qa hS ?_ | refine Qb ?_ | refine Qc hS ?_ | refine Qd ?_) | ((with_reducible refine Qe hS ?_); clear hS; intro w hS; simp only [List.set] at hS) | ((with_reducible first | refine s_draw hS ?_ | refine Qf hS ?_); clear hS; intro w hS) | ((with_reducible first | refine s_new hS ?_ | refine Qg hS ?_); clear hS; intro b w hS)))
      have e : fieldF r = (fd0, if (numF 1 r).2.e = 0 then { (numF 1 r).2 with e := 3 } else (numF 1 r).2) := by
        unfold fieldF; rw [if_neg (by omega), if_neg (by omega)]
      refine s_ifp (fun h3 => ?_) (fun h3 => ?_)
      · rw [if_pos h3] at e
        (repeat (first | (with_reducible first | apply Q0 | refine Qa hS ?_ | refine Qb ?_ | refine Qc hS ?_ | refine Qd ?_) | ((with_reducible refine Qe hS ?_); clear hS; intro w hS; simp only [List.set] at hS) | ((with_reducible first | refine s_draw hS ?_ | refine Qf hS ?_); clear hS; intro w hS) | ((with_reducible first | refine s_new hS ?_ | refine Qg hS ?_); clear hS; intro b w hS)))
        refine ⟨[FRdX rp (fieldF r).2 v1, X], ⟨v1, ?_, ?_, rfl⟩, ?_⟩
        · rw [e]; rfl
        · rw [e]; exact hv1
        · rw [e]; exact SL.into hS Xi
      · rw [if_neg h3] at e
        (repeat (first | (with_reducible first | apply Q0 | refine Qa hS ?_ | refine Qb ?_ | refine Qc hS ?_ | refine Qd ?_) | ((with_reducible refine Qe hS ?_); clear hS; intro w hS; simp only [List.set] at hS) | ((with_reducible first | refine s_draw hS ?_ | refine Qf hS ?_); clear hS; intro w hS) | ((with_reducible first | refine s_new hS ?_ | refine Qg hS ?_); clear hS; intro b w hS)))
        refine ⟨[FRdX rp (fieldF r).2 v1, X], ⟨v1, ?_, ?_, rfl⟩, ?_⟩
        · rw [e]; rfl
        · rw [e]; exact hv1
        · rw [e]; exact SL.into hS Xi
end Go.Proofs.YtmcglicbolhmfaaGreat
namespace Go.Proofs.YtmcglicbolhmfaaGreat
set_option linter.unusedVariables false
set_option maxRecDepth 100000
open Go.RowKit

theorem fdcells_len (x : PFd) : (fdcells x).length = 3 := rfl
theorem fdcells_flat (l : List PFd) : ((l.map fdcells).flatten).length = l.length * 3 := by
  induction l with
  | nil => rfl
  | cons x l ih => simp [fdcells, ih]; omega
theorem fieldsF_len : ∀ (i : Nat) (r : FRd), (fieldsF i r).1.length ≤ i
  | 0, r => Nat.le_refl _
  | i + 1, r => by
    unfold fieldsF
    split
    · have := fieldsF_len i (fieldF r).2
      simp only [List.length_cons]; omega
    · exact Nat.zero_le _
/-- The fault that is told. -/
def decE (r : FRd) : Int := if r.e = 0 then if 0 < r.b.length then 3 else 0 else r.e
theorem decF_eq (b : List UInt8) : decF b = if decE (fieldsF (mostF 32767 ⟨b, 0⟩).1 (mostF 32767 ⟨b, 0⟩).2).2 = 0 then .ok (fieldsF (mostF 32767 ⟨b, 0⟩).1 (mostF 32767 ⟨b, 0⟩).2).1 else .error (decE (fieldsF (mostF 32767 ⟨b, 0⟩).1 (mostF 32767 ⟨b, 0⟩).2).2) := rfl
def DecQ (X : Chunk) (b : List UInt8) (u : Value) (post : List Chunk) : Prop := match decF b with
  | .error e => u = .tuple #[.slice none 0 0, .int .i64 e] ∧ post = [X]
  | .ok l => ∃ v, u = .tuple #[v, .int .i64 0] ∧ post = [.ob (OwnSl v 105 3 l.length (l.map fdcells).flatten), X]
theorem fd_one (x : PFd) : ∀ v ∈ fdcells x, v.oneCell' = true := fun v hv => by
  simp only [fdcells, List.mem_cons, List.not_mem_nil, or_false] at hv
  rcases hv with rfl | rfl | rfl <;> rfl
/-- field.Decode -/
theorem decode_spec (X : Chunk) (v : Value) (b : List UInt8) (hv : Rdb X v b) : Spec Tryz.prog 81 [v] [X] (DecQ X b) := by
  intro W F w hS; apply vc81; unfold Vc81; (try simp only [app] at hS)
  obtain ⟨a0, c0, rfl, _⟩ := hv.sl hS .hd
  refine s_bld rfl ?_
  refine ⟨_, rfl, s_new hS ?_⟩
  clear hS; intro rp w hS
  generalize hm : mostF 32767 ⟨b, 0⟩ = m
  refine ⟨fun vs w => ∃ u v', vs = [u] ∧ Rdb X v' (fieldsF m.1 m.2).2.b ∧ SL W (.ob (OwnSl u 105 3 (fieldsF m.1 m.2).1.length ((fieldsF m.1 m.2).1.map fdcells).flatten) :: FRdX rp (fieldsF m.1 m.2).2 v' :: X :: F) w, ?_, ?_⟩
  · have hS : SL W (FRdX rp ⟨b, 0⟩ (.slice a0 b.length c0) :: X :: F) w := hS
    (apply s_call (most_spec X rp 32767 _ ⟨b, 0⟩ hv (by omega)) hS; exact Xp; clear hS)
    rintro u post ⟨v1, rfl, hv1, rfl⟩ w hS; (try simp only [app] at hS)
    rw [hm] at hS hv1 ⊢
    have hle : m.1 ≤ 32767 := by rw [← hm]; exact mostF_le _ _
    have hS := OwnSl.nil (t := 105) (sz := 3) hS
    refine ⟨fun vs w => ∃ (u v' : Value) (xs : List PFd) (i : Nat) (r : FRd), vs = [u, .int .i64 i] ∧ xs.length + i = m.1 ∧ fieldsF m.1 m.2 = (xs ++ (fieldsF i r).1, (fieldsF i r).2) ∧ Rdb X v' r.b ∧ SL W (.ob (OwnSl u 105 3 xs.length (xs.map fdcells).flatten) :: FRdX rp r v' :: X :: F) w, fun vs _ => match vs with
      | [_, .int _ i] => i.toNat
      | _ => 0, ⟨_, v1, [], m.1, m.2, rfl, by simp, by simp, hv1, hS⟩, ?_⟩
    rintro u1 u2 w1 ⟨u, v', xs, i, r, hv, hx, hf, hr, hS⟩
    cases hv
    (repeat (first | (with_reducible first | apply Q0 | refine Qa hS ?_ | refine Qb ?_ | refine Qc hS ?_ | refine Qd ?_) | ((with_reducible refine Qe hS ?_); clear hS; intro w hS; simp only [List.set] at hS) | ((with_reducible first | refine s_draw hS ?_ | refine Qf hS ?_); clear hS; intro w hS) | ((with_reducible first | refine s_new hS ?_ | refine Qg hS ?_); clear hS; intro b w hS)))
    refine s_ifp (fun h => ?_) (fun h => ?_)
    · (repeat (first | (with_reducible first | apply Q0 | refine Qa hS ?_ | refine Qb ?_ | refine Qc hS ?_ | refine Qd ?_) | ((with_reducible refine Qe hS ?_); clear hS; intro w hS; simp only [List.set] at hS) | ((with_reducible first | refine s_draw hS ?_ | refine Qf hS ?_); clear hS; intro w hS) | ((with_reducible first | refine s_new hS ?_ | refine Qg hS ?_); clear hS; intro b w hS)))
      obtain ⟨j, rfl⟩ : ∃ j, i = j + 1 := ⟨i - 1, by omega⟩
      refine s_ifp (fun h2 => ?_) (fun h2 => ?_)
      · (apply s_call (field_spec X rp v' r hr) hS; exact Xp; clear hS)
        rintro u5 post ⟨v2, rfl, hv2, rfl⟩ w hS; (try simp only [app] at hS)
        refine s_bldS (cells := fdcells (fieldF r).1) hS rfl ?_
        clear hS; intro p w hS
        refine s_app (m := 1) (cs := fdcells (fieldF r).1) hS Xr (src_pt0 hS .hd rfl) rfl rfl (fd_one _) (by omega) (by omega) ?_
        clear hS; intro u' w hS
        (repeat (first | (with_reducible first | apply Q0 | refine Qa hS ?_ | refine Qb ?_ | refine Qc hS ?_ | refine Qd ?_) | ((with_reducible refine Qe hS ?_); clear hS; intro w hS; simp only [List.set] at hS) | ((with_reducible first | refine s_draw hS ?_ | refine Qf hS ?_); clear hS; intro w hS) | ((with_reducible first | refine s_new hS ?_ | refine Qg hS ?_); clear hS; intro b w hS)))
        have e : ((j + 1 : Nat) : Int) - 1 = (j : Int) := by omega
        rw [e]
        refine ⟨⟨u', v2, xs ++ [(fieldF r).1], j, (fieldF r).2, rfl, by simp; omega, ?_, hv2, ?_⟩, ?_⟩
        · rw [hf]
          have : fieldsF (j + 1) r = ((fieldF r).1 :: (fieldsF j (fieldF r).2).1, (fieldsF j (fieldF r).2).2) := by
            show (if r.e = 0 then _ else _) = _
            rw [if_pos h2]
          rw [this]; simp
        · simp only [List.length_append, List.length_cons, List.length_nil, List.map_append, List.map_cons, List.map_nil, List.flatten_append, List.flatten_cons, List.flatten_nil, List.append_nil]
          exact SL.into hS Xi
        · simp only [Int.toNat_natCast]; omega
      · have : fieldsF (j + 1) r = ([], r) := by
          show (if r.e = 0 then _ else _) = _
          rw [if_neg h2]
        rw [this, List.append_nil] at hf
        refine ⟨u1, v', rfl, ?_, ?_⟩
        · rw [hf]; exact hr
        · rw [hf]; exact hS
    · obtain rfl : i = 0 := by omega
      have : fieldsF 0 r = ([], r) := rfl
      rw [this, List.append_nil] at hf
      refine ⟨u1, v', rfl, ?_, ?_⟩
      · rw [hf]; exact hr
      · rw [hf]; exact hS
  · rintro u5 w ⟨u, v', hu, hv', hS⟩
    obtain rfl : u5 = u := (List.cons.inj hu).1
    have hd := decF_eq b
    rw [hm] at hd
    generalize (fieldsF m.1 m.2).2 = r at *
    generalize (fieldsF m.1 m.2).1 = xs at *
    refine ⟨fun vs w => vs = [] ∧ SL W (.ob (OwnSl u5 105 3 xs.length (xs.map fdcells).flatten) :: .pt rp [v', .int .i64 (decE r)] 152 :: X :: F) w, ?_, ?_⟩
    · (repeat (first | (with_reducible first | apply Q0 | refine Qa hS ?_ | refine Qb ?_ | refine Qc hS ?_ | refine Qd ?_) | ((with_reducible refine Qe hS ?_); clear hS; intro w hS; simp only [List.set] at hS) | ((with_reducible first | refine s_draw hS ?_ | refine Qf hS ?_); clear hS; intro w hS) | ((with_reducible first | refine s_new hS ?_ | refine Qg hS ?_); clear hS; intro b w hS)))
      refine s_ifp (fun h => ?_) (fun h => ?_)
      · (repeat (first | (with_reducible first | apply Q0 | refine Qa hS ?_ | refine Qb ?_ | refine Qc hS ?_ | refine Qd ?_) | ((with_reducible refine Qe hS ?_); clear hS; intro w hS; simp only [List.set] at hS) | ((with_reducible first | refine s_draw hS ?_ | refine Qf hS ?_); clear hS; intro w hS) | ((with_reducible first | refine s_new hS ?_ | refine Qg hS ?_); clear hS; intro b w hS)))
        refine s_lenB hS Xh hv' ?_
        (repeat (first | (with_reducible first | apply Q0 | refine Qa hS ?_ | refine Qb ?_ | refine Qc hS ?_ | refine Qd ?_) | ((with_reducible refine Qe hS ?_); clear hS; intro w hS; simp only [List.set] at hS) | ((with_reducible first | refine s_draw hS ?_ | refine Qf hS ?_); clear hS; intro w hS) | ((with_reducible first | refine s_new hS ?_ | refine Qg hS ?_); clear hS; intro b w hS)))
        refine s_ifp (fun h2 => ?_) (fun h2 => ?_)
        · (repeat (first | (with_reducible first | apply Q0 | refine Qa hS ?_ | refine Qb ?_ | refine Qc hS ?_ | refine Qd ?_) | ((with_reducible refine Qe hS ?_); clear hS; intro w hS; simp only [List.set] at hS) | ((with_reducible first | refine s_draw hS ?_ | refine Qf hS ?_); clear hS; intro w hS) | ((with_reducible first | refine s_new hS ?_ | refine Qg hS ?_); clear hS; intro b w hS)))
          have e : decE r = 3 := by unfold decE; rw [if_pos h, if_pos (by omega)]
          rw [e]; exact hS
        · have e : decE r = r.e := by unfold decE; rw [if_pos h, if_neg (by omega), h]
          rw [e]; exact ⟨rfl, hS⟩
      · have e : decE r = r.e := by unfold decE; rw [if_neg h]
        rw [e]; exact ⟨rfl, hS⟩
    · rintro w ⟨_, hS⟩
      (repeat (first | (with_reducible first | apply Q0 | refine Qa hS ?_ | refine Qb ?_ | refine Qc hS ?_ | refine Qd ?_) | ((with_reducible refine Qe hS ?_); clear hS; intro w hS; simp only [List.set] at hS) | ((with_reducible first | refine s_draw hS ?_ | refine Qf hS ?_); clear hS; intro w hS) | ((with_reducible first | refine s_new hS ?_ | refine Qg hS ?_); clear hS; intro b w hS)))
      refine s_ifp (fun h => ?_) (fun h => ?_)
      · (repeat (first | (with_reducible first | apply Q0 | refine Qa hS ?_ | refine Qb ?_ | refine Qc hS ?_ | refine Qd ?_) | ((with_reducible refine Qe hS ?_); clear hS; intro w hS; simp only [List.set] at hS) | ((with_reducible first | refine s_draw hS ?_ | refine Qf hS ?_); clear hS; intro w hS) | ((with_reducible first | refine s_new hS ?_ | refine Qg hS ?_); clear hS; intro b w hS)))
        rw [if_neg h] at hd
        refine ⟨[X], ?_, SL.into hS Xi⟩
        unfold DecQ; rw [hd]; exact ⟨rfl, rfl⟩
      · have h : decE r = 0 := by omega
        rw [if_pos h] at hd
        refine ⟨[.ob (OwnSl u5 105 3 xs.length (xs.map fdcells).flatten), X], ?_, SL.into hS Xi⟩
        unfold DecQ; rw [hd]; exact ⟨u5, rfl, rfl⟩
theorem s_shrU {a : Int} {n : Nat} {k : IntKind} (hn : n ≤ 64) {K : Value → Prop} (h : K (.int .u64 (a.fdiv (2 ^ n)))) : HBin .shr (.int .u64 a) (.int k (n : Int)) K := by
  refine ⟨.int .u64 (a.fdiv (2 ^ n)), ?_, h⟩
  have h1 : ¬ ((n : Int) < 0) := by omega
  simp only [binVal, h1, if_false]
  rw [show min (n : Int).toNat IntKind.u64.bits = n by simp only [IntKind.bits]; omega]
/-- field.number -/
theorem numB_spec (b : List UInt8) (v : Value) (x : Int) (n : Nat) (hn : n ≤ 8) (hb : b.length ≤ 140737488355000) : Spec Tryz.prog 105 [v, .int .u64 x, .int .i64 n] [.ob (OwnSl v 5 1 b.length (b.map u8c))] (fun u post => post = [.ob (OwnSl u 5 1 (b ++ numB x n).length ((b ++ numB x n).map u8c))]) := by
  intro W F w hS; apply vc105; unfold Vc105; (try simp only [app] at hS)
  (repeat (first | (with_reducible first | apply Q0 | refine Qa hS ?_ | refine Qb ?_ | refine Qc hS ?_ | refine Qd ?_) | ((with_reducible refine Qe hS ?_); clear hS; intro w hS; simp only [List.set] at hS) | ((with_reducible first | refine s_draw hS ?_ | refine Qf hS ?_); clear hS; intro w hS) | ((with_reducible first | refine s_new hS ?_ | refine Qg hS ?_); clear hS; intro b w hS)))
  refine ⟨fun vs w => ∃ (u : Value) (c : List UInt8) (k : Nat), vs = [u, .int .i64 ((k : Int) - 1)] ∧ k ≤ n ∧ c ++ numB x k = b ++ numB x n ∧ SL W (.ob (OwnSl u 5 1 c.length (c.map u8c)) :: F) w, fun vs _ => match vs with
    | [_, .int _ i] => (i + 1).toNat
    | _ => 0, ⟨v, b, n, rfl, Nat.le_refl _, rfl, hS⟩, ?_⟩
  rintro u1 u2 w1 ⟨u, c, k, hv, hk, hc, hS⟩
  cases hv
  (repeat (first | (with_reducible first | apply Q0 | refine Qa hS ?_ | refine Qb ?_ | refine Qc hS ?_ | refine Qd ?_) | ((with_reducible refine Qe hS ?_); clear hS; intro w hS; simp only [List.set] at hS) | ((with_reducible first | refine s_draw hS ?_ | refine Qf hS ?_); clear hS; intro w hS) | ((with_reducible first | refine s_new hS ?_ | refine Qg hS ?_); clear hS; intro b w hS)))
  refine s_ifp (fun h => ?_) (fun h => ?_)
  · obtain ⟨j, rfl⟩ : ∃ j, k = j + 1 := ⟨k - 1, by omega⟩
    have e0 : ((j + 1 : Nat) : Int) - 1 = (j : Int) := by omega
    rw [e0]
    refine s_mul (by omega) ?_
    have e1 : (8 : Int) * (j : Int) = ((8 * j : Nat) : Int) := by omega
    rw [e1]
    refine s_shrU (by omega) ?_
    refine s_cvI ?_
    rw [wrap_u8]
    refine s_bldS (cells := [u8c (lowB (x.fdiv (2 ^ (8 * j))))]) hS rfl ?_
    clear hS; intro p w hS
    have hcl : c.length + (j + 1) = b.length + n := by
      have := congrArg List.length hc
      simpa [numB_len] using this
    refine s_app (m := 1) (cs := [u8c (lowB (x.fdiv (2 ^ (8 * j))))]) hS Xr (src_pt0 hS .hd rfl) rfl rfl (by intro v hv; simp only [List.mem_singleton] at hv; subst hv; rfl) (by omega) (by omega) ?_
    clear hS; intro u' w hS
    (repeat (first | (with_reducible first | apply Q0 | refine Qa hS ?_ | refine Qb ?_ | refine Qc hS ?_ | refine Qd ?_) | ((with_reducible refine Qe hS ?_); clear hS; intro w hS; simp only [List.set] at hS) | ((with_reducible first | refine s_draw hS ?_ | refine Qf hS ?_); clear hS; intro w hS) | ((with_reducible first | refine s_new hS ?_ | refine Qg hS ?_); clear hS; intro b w hS)))
    refine ⟨⟨u', c ++ [lowB (x.fdiv (2 ^ (8 * j)))], j, rfl, by omega, ?_, ?_⟩, ?_⟩
    · rw [← hc]; simp [numB]
    · simp only [List.length_append, List.length_cons, List.length_nil, List.map_append, List.map_cons, List.map_nil]
      exact SL.into hS Xi
    · show ((j : Int) - 1 + 1).toNat < ((j : Int) + 1).toNat
      omega
  · obtain rfl : k = 0 := by omega
    have e : c = b ++ numB x n := by simpa [numB] using hc
    rw [e] at hS
    exact ⟨_, rfl, hS⟩
/-- field.right -/
theorem rightF_spec (x : PFd) : Spec Tryz.prog 106 [.agg (fdcells x).toArray] [] (Gives (.bool (rightF x)) []) := by
  intro W F w hS; apply vc106; unfold Vc106; (try simp only [app] at hS)
  refine ⟨fdcells x, rfl, ?_⟩
  unfold fdcells
  (repeat (first | (with_reducible first | apply Q0 | refine Qa hS ?_ | refine Qb ?_ | refine Qc hS ?_ | refine Qd ?_) | ((with_reducible refine Qe hS ?_); clear hS; intro w hS; simp only [List.set] at hS) | ((with_reducible first | refine s_draw hS ?_ | refine Qf hS ?_); clear hS; intro w hS) | ((with_reducible first | refine s_new hS ?_ | refine Qg hS ?_); clear hS; intro b w hS)))
  unfold rightF
  refine s_ifp (fun h => ?_) (fun h => ?_)
  · rw [if_pos h]
    (repeat (first | (with_reducible first | apply Q0 | refine Qa hS ?_ | refine Qb ?_ | refine Qc hS ?_ | refine Qd ?_) | ((with_reducible refine Qe hS ?_); clear hS; intro w hS; simp only [List.set] at hS) | ((with_reducible first | refine s_draw hS ?_ | refine Qf hS ?_); clear hS; intro w hS) | ((with_reducible first | refine s_new hS ?_ | refine Qg hS ?_); clear hS; intro b w hS)))
    have e : decide (x.s = ({ data := #[] } : ByteArray)) = decide (x.s = ⟨#[]⟩) := rfl
    exact ⟨_, ⟨rfl, rfl⟩, SL.into hS Xi⟩
  · rw [if_neg h]
    (repeat (first | (with_reducible first | apply Q0 | refine Qa hS ?_ | refine Qb ?_ | refine Qc hS ?_ | refine Qd ?_) | ((with_reducible refine Qe hS ?_); clear hS; intro w hS; simp only [List.set] at hS) | ((with_reducible first | refine s_draw hS ?_ | refine Qf hS ?_); clear hS; intro w hS) | ((with_reducible first | refine s_new hS ?_ | refine Qg hS ?_); clear hS; intro b w hS)))
    refine s_ifp (fun h2 => ?_) (fun h2 => ?_)
    · rw [if_pos h2]
      (repeat (first | (with_reducible first | apply Q0 | refine Qa hS ?_ | refine Qb ?_ | refine Qc hS ?_ | refine Qd ?_) | ((with_reducible refine Qe hS ?_); clear hS; intro w hS; simp only [List.set] at hS) | ((with_reducible first | refine s_draw hS ?_ | refine Qf hS ?_); clear hS; intro w hS) | ((with_reducible first | refine s_new hS ?_ | refine Qg hS ?_); clear hS; intro b w hS)))
      refine s_ifp (fun h3 => ?_) (fun h3 => ?_)
      · (repeat (first | (with_reducible first | apply Q0 | refine Qa hS ?_ | refine Qb ?_ | refine Qc hS ?_ | refine Qd ?_) | ((with_reducible refine Qe hS ?_); clear hS; intro w hS; simp only [List.set] at hS) | ((with_reducible first | refine s_draw hS ?_ | refine Qf hS ?_); clear hS; intro w hS) | ((with_reducible first | refine s_new hS ?_ | refine Qg hS ?_); clear hS; intro b w hS)))
        rw [decide_eq_true h3, Bool.true_and]
        have e : decide ((x.s.size : Int) ≤ 4096) = decide (x.s.size ≤ 4096) := by congr 1; exact propext ⟨fun _ => by omega, fun _ => by omega⟩
        rw [e]
        exact ⟨_, ⟨rfl, rfl⟩, SL.into hS Xi⟩
      · rw [decide_eq_false h3, Bool.false_and]
        exact ⟨_, ⟨rfl, rfl⟩, SL.into hS Xi⟩
    · rw [if_neg h2]
      exact ⟨_, ⟨rfl, rfl⟩, SL.into hS Xi⟩
end Go.Proofs.YtmcglicbolhmfaaGreat
