/-
  My own library: a row that is shortened in place (slices.Delete), cleared, searched by a closure; arrays; worlds that have only grown.
-/
import Derived.Test.YthjnknpgcmmapaaSl5
import Derived.Lib.SliceRun
namespace Go.Proofs.Ythjnknpgcmmapaa
set_option linter.unusedVariables false
open Go.RowKit

theorem zrow_mod {z : List Value} {n i : Nat} (h : i < n * z.length) : (zrow z n)[i]? = z[i % z.length]? := by
  induction n generalizing i with
  | zero => omega
  | succ n ih =>
    have e : zrow z (n + 1) = z ++ zrow z n := by simp [zrow, List.replicate_succ]
    rw [e]
    rw [Nat.add_mul] at h
    by_cases hi : i < z.length
    · rw [List.getElem?_append_left hi, Nat.mod_eq_of_lt hi]
    · rw [List.getElem?_append_right (by omega), ih (by omega)]
      congr 1
      conv => rhs; rw [show i = (i - z.length) + z.length by omega]
      rw [Nat.add_mod_right]
theorem clr_rows (A B z rest : List Value) (h : B.length = z.length) : (A ++ (B ++ rest)).take A.length ++ z ++ (A ++ (B ++ rest)).drop (A.length + z.length) = A ++ (z ++ rest) := by
  rw [List.take_left, List.drop_length_add_append, ← h, List.drop_left, List.append_assoc]
theorem zeroCells_row (zv : Array Value) (z : List Value) (hz : zv.toList = z) (n : Nat) : (Builtin.zeroCells zv n).toList = zrow z n := by
  subst hz
  refine List.ext_getElem? fun i => ?_
  by_cases hi : i < n * zv.size
  · have h0 : 0 < zv.size := by
      rcases Nat.eq_zero_or_pos zv.size with h | h
      · rw [h] at hi; omega
      · exact h
    rw [zrow_mod (by simpa using hi)]
    have hm : i % zv.size < zv.size := Nat.mod_lt _ h0
    simp [Builtin.zeroCells, hi, hm, getElem!_pos]
  · have h1 : (Builtin.zeroCells zv n).toList.length ≤ i := by simp [Builtin.zeroCells]; omega
    have h2 : (zrow zv.toList n).length ≤ i := by rw [zrow_length]; simp; omega
    rw [List.getElem?_eq_none h1, List.getElem?_eq_none h2]

section
variable {W w : World} {l l' : List Chunk} {P : Program}
theorem SL.storeN {b : Nat} {t : TypeId} : ∀ (vs : List Value) (o : Nat) (cs : List Value) (w : World) (l l' : List Chunk), SL W l w → Upd (.pt b cs t) (.pt b (over cs o vs) t) l l' → o + vs.length ≤ cs.length → SL W l' (w.setCells b o vs)
  | [], o, cs, w, l, l', hS, u, hl => by
    simp only [over] at u
    have : l = l' := by
      clear hS
      generalize hc : Chunk.pt b cs t = c at u
      revert hc
      induction u with
      | hd => intro; rfl
      | tl _ ih => intro hc; rw [ih hc]
    rw [← this]; exact hS
  | v :: r, o, cs, w, l, l', hS, u, hl => by
    simp only [List.length_cons] at hl
    have hc : cs[o]? = some (cs[o]'(by omega)) := List.getElem?_eq_getElem (by omega)
    obtain ⟨l2, p, q⟩ := u.other (.pt b (cs.set o v) t)
    rw [World.setCells]
    exact SL.storeN r (o + 1) _ _ l2 l' (hS.store p hc) (by simpa [over] using q) (by simp; omega)
theorem SL.storeN' {b o : Nat} {t : TypeId} {cs vs : List Value} (hS : SL W l w) (u : Upd (.pt b cs t) (.pt b (cs.take o ++ vs ++ cs.drop (o + vs.length)) t) l l') (hl : o + vs.length ≤ cs.length) : SL W l' (w.setCells b o vs) :=
  SL.storeN vs o cs w l l' hS (by rw [over_all _ _ _ hl]; exact u) hl
/-- 'clear' of a row's part. -/
theorem s_clear {b o n c : Nat} {cs z : List Value} {tt t e ty : TypeId} {zv : Value} {K : Value → World → Prop} (hS : SL W l w) (u : Upd (.pt b cs tt) (.pt b (cs.take o ++ zrow z n ++ cs.drop (o + n * z.length)) tt) l l')
    (ht : P.underlying t = some (.slice e)) (hv : ∀ w, (zeroValue e).run P w = .ok zv w) (hz : zv.cells.toList = z) (h1 : ∀ v ∈ z, v.oneCell' = true) (hn : 0 < n) (ho : o + n * z.length ≤ cs.length)
    (h : ∀ u w', SL W l' w' → K u w') : HRun P (Builtin.clear_ #[t] ty #[.slice (some ⟨b, o, none⟩) n c]) w K := by
  have hzc := zeroCells_row zv.cells z hz n
  have hlen : (zrow z n).length = n * z.length := zrow_length _ _
  have hat : ∀ j, j < n * z.length → ∃ v, cs[o + j]? = some v := fun j hj => ⟨_, List.getElem?_eq_getElem (by omega)⟩
  have hst := run_storeCells_cells (P := P) b o (zrow z n) 0 w (fun j hj => by obtain ⟨v, hv⟩ := hat j (by omega); rw [Nat.add_zero, hS.cell u.has hv]; rfl) (fun j hj => by obtain ⟨v, hv⟩ := hat j (by omega); rw [Nat.add_zero]; exact hS.frozen u.has hv)
    (by
      intro v hv'
      obtain ⟨l0, hl0, hv0⟩ := List.mem_flatten.1 hv'
      rw [List.eq_of_mem_replicate hl0] at hv0
      exact h1 v hv0)
  simp only [Nat.add_zero] at hst
  obtain ⟨m, rfl⟩ : ∃ m, n = m + 1 := ⟨n - 1, by omega⟩
  refine ⟨_, _, by simp [Builtin.clear_, run_underlying ht, hv, hzc, hst]; exact ⟨rfl, rfl⟩, h _ _ (SL.storeN' hS (by rw [hlen]; exact u) (by rw [hlen]; exact ho))⟩
theorem s_idxA {b o sz n j : Nat} {k : IntKind} {K : Value → Prop} (hj : j < n) (h : K (.pointer (some ⟨b, o + j * sz, none⟩))) : HIdxA sz n (.pointer (some ⟨b, o, none⟩)) (.int k (j : Int)) K :=
  ⟨_, k, j, rfl, rfl, hj, by rw [Addr.add_lit]; exact h⟩
/-- One element of an array value. -/
theorem s_aggAt {t e : TypeId} {len j : Nat} {vs : List Value} {v : Value} {k : IntKind} {K : Value → Prop} (ht : P.underlying t = some (.array len e)) (ha : ∀ w, (isAgg e).run P w = .ok false w) (hs : ∀ w, (sizeOf e).run P w = .ok 1 w) (hj : j < len) (hv : vs[j]? = some v) (h : K v) :
    HRq P (Instr.index t (.agg vs.toArray) (.int k (j : Int))) w K := by
  refine ⟨_, ?_, h⟩
  simp [Instr.index, asIntOf, run_underlying ht, Result.andThen, hj, hs, part, ha, hv]

/-- What slices.Delete(v, i, j) asks. -/
def VcDel (P : Program) (sz by_ : Nat) (z : List Value) (et st : TypeId) (v0 : Value) (v1 : Value) (v2 : Value) (w : World) (R : Value → World → Prop) : Prop :=
  HLenS v0 fun v12 =>
  HSl sz v0 (some v1) (some v2) (some v12) fun v13 =>
  HBin .eql v1 v2 fun v16 =>
  HIf v16
  (R v0 w)
  (HLenS v0 fun v19 =>
  HDraw w fun w_1 =>
  HSl sz v0 none (some v1) none fun v22 =>
  HSl sz v0 (some v2) none none fun v25 =>
  HApp sz by_ z et v22 v25 w_1 fun v26 w_2 =>
  HLenS v26 fun v29 =>
  HSl sz v26 (some v29) (some v19) none fun v31 =>
  HRun P (Builtin.clear_ #[st] 0 [v31].toArray) w_2 fun u w_3 =>
  R v26 w_3)
/-- slices.Delete(v, i, i + 1). -/
theorem del_gen {f : FuncId} {sz by_ : Nat} {z : List Value} {et st : TypeId} {zv : Value} (vc : ∀ v0 v1 v2 w R, VcDel P sz by_ z et st v0 v1 v2 w R → HCall P f [v0, v1, v2] w R)
    (ht : P.underlying st = some (.slice et)) (hv : ∀ w, (zeroValue et).run P w = .ok zv w) (hz : zv.cells.toList = z) (hzl : z.length = sz) (h1 : ∀ v ∈ z, v.oneCell' = true)
    (v : Value) (n i : Nat) (cells : List Value) (hi : i < n) (hc1 : ∀ v ∈ cells, v.oneCell' = true) (hb : n * by_ ≤ 140737488355328) (hn : n ≤ 140737488355328) :
    Spec P f [v, .int .i64 (i : Int), .int .i64 ((i + 1 : Nat) : Int)] [.ob (OwnSl v et sz n cells)] (fun u post => post = [.ob (OwnSl u et sz (n - 1) (cells.take (i * sz) ++ cells.drop ((i + 1) * sz)))]) := by
  intro W F w hS; apply vc; unfold VcDel; (try simp only [app] at hS)
  rcases OwnSl.open hS with ⟨⟨a, rfl⟩, rfl, rfl, _⟩ | ⟨b, cap, rest, rfl, hcap, hlen, hrest, hS⟩
  · omega
  have hszi : (i + 1) * sz ≤ n * sz := Nat.mul_le_mul_right _ (by omega)
  have hsz1 : (i + 1) * sz = i * sz + sz := by rw [Nat.add_mul, Nat.one_mul]
  refine s_lenS ?_
  refine ⟨_, n, cap, i, i + 1, n, rfl, ⟨_, rfl⟩, ⟨_, rfl⟩, ⟨_, rfl⟩, by omega, by omega, by omega, ?_⟩
  (repeat (first | (with_reducible first | apply Z0 | apply Z1 | apply Z2 | apply Z3 | apply Z4 | apply Z5 | apply Z6 | apply Z7 | apply Z8 | apply Z9 | apply Za | apply Zb | apply Zc | apply Zd | apply Ze | apply Zf | apply Zg | apply Zh | apply Zi | apply Zj | apply Zk | apply Zl | apply Zm | apply Zn | apply Zo | apply Zp | apply Zq | apply Zr) | ((with_reducible apply s_ld hS); (focus (repeat (first | exact Has.hd | apply Has.tl)); done); (focus rfl)) | ((with_reducible first | apply s_add1 | apply s_addn | apply s_add | apply s_remn | apply s_sub); (focus omega)) | ((with_reducible apply s_st hS); (focus (repeat (first | exact Upd.hd | apply Upd.tl)); done); (focus rfl); (focus (first | rfl | assumption)); clear hS; intro w hS; simp only [List.set] at hS) | ((with_reducible refine s_draw hS ?_); clear hS; intro w hS) | ((with_reducible refine s_new hS ?_); clear hS; intro b w hS) | ((with_reducible apply s_stN0 hS); (focus (repeat (first | exact Upd.hd | apply Upd.tl)); done); (focus rfl); (focus rfl); (focus (simp [Value.oneCell']; done)); clear hS; intro w hS) | ((with_reducible apply s_ldN0 hS); (focus (repeat (first | exact Has.hd | apply Has.tl)); done); (focus rfl)) | ((with_reducible apply s_bld); (focus (simp [fillL, Value.cells]; rfl))) | ((with_reducible apply s_bldS hS); (focus (simp [fillL, Value.cells, zrow]; rfl)); clear hS; intro b w hS) | (with_reducible first | apply Zs | apply Zt | apply Zu)))
  refine s_ifp (fun h => by omega) (fun _ => ?_)
  (repeat (first | (with_reducible first | apply Z0 | apply Z1 | apply Z2 | apply Z3 | apply Z4 | apply Z5 | apply Z6 | apply Z7 | apply Z8 | apply Z9 | apply Za | apply Zb | apply Zc | apply Zd | apply Ze | apply Zf | apply Zg | apply Zh | apply Zi | apply Zj | apply Zk | apply Zl | apply Zm | apply Zn | apply Zo | apply Zp | apply Zq | apply Zr) | ((with_reducible apply s_ld hS); (focus (repeat (first | exact Has.hd | apply Has.tl)); done); (focus rfl)) | ((with_reducible first | apply s_add1 | apply s_addn | apply s_add | apply s_remn | apply s_sub); (focus omega)) | ((with_reducible apply s_st hS); (focus (repeat (first | exact Upd.hd | apply Upd.tl)); done); (focus rfl); (focus (first | rfl | assumption)); clear hS; intro w hS; simp only [List.set] at hS) | ((with_reducible refine s_draw hS ?_); clear hS; intro w hS) | ((with_reducible refine s_new hS ?_); clear hS; intro b w hS) | ((with_reducible apply s_stN0 hS); (focus (repeat (first | exact Upd.hd | apply Upd.tl)); done); (focus rfl); (focus rfl); (focus (simp [Value.oneCell']; done)); clear hS; intro w hS) | ((with_reducible apply s_ldN0 hS); (focus (repeat (first | exact Has.hd | apply Has.tl)); done); (focus rfl)) | ((with_reducible apply s_bld); (focus (simp [fillL, Value.cells]; rfl))) | ((with_reducible apply s_bldS hS); (focus (simp [fillL, Value.cells, zrow]; rfl)); clear hS; intro b w hS) | (with_reducible first | apply Zs | apply Zt | apply Zu)))
  refine ⟨_, n, cap, 0, i, cap, rfl, rfl, ⟨_, rfl⟩, rfl, by omega, by omega, by omega, ?_⟩
  rw [if_neg (show ¬ cap = 0 by omega)]
  refine ⟨_, n, cap, i + 1, n, cap, rfl, rfl, rfl, ⟨_, rfl⟩, by omega, by omega, by omega, ?_⟩
  simp only [Option.map_some, Addr.add_lit, Nat.zero_mul, Nat.add_zero, Nat.sub_zero]
  have hdl : (cells.drop ((i + 1) * sz)).length = (n - (i + 1)) * sz := by rw [List.length_drop, hlen, Nat.mul_sub_right_distrib]
  have hsum : i * sz + ((n - (i + 1)) * sz) = (n - 1) * sz := by rw [← Nat.add_mul]; congr 1; omega
  have hsum2 : (n - 1) * sz + sz = n * sz := by rw [show n * sz = (n - 1 + 1) * sz by congr 1; omega, Nat.add_mul, Nat.one_mul]
  refine ⟨some ⟨b, 0, none⟩, i, cap, n - (i + 1), cells.drop ((i + 1) * sz), rfl, ?_, ?_, by omega, fun hfit => ?_, fun h => by omega⟩
  · have hgen : ∀ a : Option Addr, (n - (i + 1) = 0 ∨ a = some ⟨b, 0 + (i + 1) * sz, none⟩) → srcCells w sz (.slice a (n - (i + 1)) (cap - (i + 1))) (n - (i + 1)) (cells.drop ((i + 1) * sz)) := by
      intro a ha
      rcases ha with h0 | rfl
      · rw [h0] at hdl ⊢
        have : cells.drop ((i + 1) * sz) = [] := List.eq_nil_of_length_eq_zero (by simpa using hdl)
        rw [this]
        cases a with
        | none => exact ⟨rfl, rfl⟩
        | some p => exact ⟨rfl, by simp, fun j v e => by simp at e⟩
      · refine src_pt hS (Has.hd) hdl fun j u hu => ?_
        rw [List.getElem?_drop] at hu
        rw [Nat.zero_add, List.getElem?_append_left (List.getElem?_eq_some_iff.1 hu).1]; exact hu
    refine hgen _ ?_
    by_cases hcc : cap = i + 1
    · left; omega
    · right; rw [if_neg hcc]
  · exact Nat.le_trans (Nat.mul_le_mul_right _ (by omega)) hb
  · show stN (Addr.add ⟨b, 0, none⟩ (i * sz)) 0 _ w _
    rw [Addr.add_lit, Nat.zero_add]
    have hfit2 : i * sz + (cells.drop ((i + 1) * sz)).length ≤ (cells ++ rest).length := by rw [List.length_append, hdl, hsum, hlen]; omega
    refine stN_sl (t := et) (cells.drop ((i + 1) * sz)) (i * sz) 0 (cells ++ rest) w _ (.pt b (cells.take (i * sz) ++ cells.drop ((i + 1) * sz) ++ (cells.drop ((n - 1) * sz) ++ rest)) et :: F) hS ?_ (by omega) (fun v hv => hc1 v (List.mem_of_mem_drop hv)) ?_
    · rw [over_all _ _ _ (by omega), Nat.add_zero, hdl, hsum, List.take_append_of_le_length (by omega), List.drop_append_of_le_length (by omega)]
      exact Upd.hd
    · intro w' hS
      refine s_lenS ?_
      refine ⟨some ⟨b, 0, none⟩, i + (n - (i + 1)), cap, i + (n - (i + 1)), n, cap, rfl, rfl, ⟨_, rfl⟩, ⟨_, rfl⟩, by omega, by omega, by omega, ?_⟩
      have en : i + (n - (i + 1)) = n - 1 := by omega
      rw [en, if_neg (show ¬ cap = n - 1 by omega)]
      simp only [Option.map_some, Addr.add_lit, Nat.zero_add]
      rw [show n - (n - 1) = 1 by omega]
      have hA : (cells.take (i * sz) ++ cells.drop ((i + 1) * sz)).length = (n - 1) * sz := by rw [List.length_append, hdl, List.length_take, hlen]; omega
      have hB : (cells.drop ((n - 1) * sz)).length = sz := by rw [List.length_drop, hlen]; omega
      have hle : (n - 1) * sz + 1 * z.length ≤ (cells.take (i * sz) ++ cells.drop ((i + 1) * sz) ++ (cells.drop ((n - 1) * sz) ++ rest)).length := by
        rw [List.length_append (bs := cells.drop ((n - 1) * sz) ++ rest), List.length_append (bs := rest), hA, hB, hzl]; omega
      refine s_clear (tt := et) (n := 1) (l' := .pt b (cells.take (i * sz) ++ cells.drop ((i + 1) * sz) ++ (z ++ rest)) et :: F) hS ?_ ht hv hz h1 (by omega) hle ?_
      · have e1 : zrow z 1 = z := by simp [zrow]
        have e2 := clr_rows (cells.take (i * sz) ++ cells.drop ((i + 1) * sz)) (cells.drop ((n - 1) * sz)) z rest (by rw [hB, hzl])
        rw [hA] at e2
        rw [e1, Nat.one_mul, e2]
        exact Upd.hd
      · intro u w hS
        exact ⟨_, rfl, OwnSl.mk (n := n - 1) (cap := cap) (rest := z ++ rest) (by omega) hA (by rw [List.length_append, hzl, hrest, show cap - (n - 1) = (cap - n) + 1 by omega, Nat.add_mul, Nat.one_mul]; omega) hS⟩

/-- What slices.IndexFunc(v, g) asks. -/
def VcIdxF (P : Program) (T : List Bool) (sz : Nat) (v0 : Value) (v1 : Value) (w : World) (R : Value → World → Prop) : Prop :=
  HLenS v0 fun v7 =>
  ∃ (I : List Value → World → Prop) (μ : List Value → World → Nat), I [(.int .i64 0)] w ∧
  ∀ (v8 : Value) w_1, I [v8] w_1 →
  HBin .lss v8 v7 fun v9 =>
  HIf v9
  (HIdx sz v0 v8 fun v14 =>
  HLdN sz v14 w_1 fun v15 =>
  HCallV P T v1 [v15] w_1 fun v16 w_2 =>
  HIf v16
  (R v8 w_2)
  (HBin .add v8 (.int .i64 1) fun v18 =>
  I [v18] w_2 ∧ μ [v18] w_2 < μ [v8] w_1))
  (R (.int .i64 (-1)) w_1)
def idxI : Option Nat → Int
  | some i => (i : Int)
  | none => -1
theorem idxf_gen {T : List Bool} {f g : FuncId} {sz : Nat} {α : Type} {enc : α → List Value} (hn : ∀ x, (enc x).length = sz) (hT : T.getD g false = true) {cap : Array Value} {pre : List Chunk} {q : α → Bool} {t : TypeId}
    (vc : ∀ v0 v1 w R, VcIdxF P T sz v0 v1 w R → HCall P f [v0, v1] w R) (one : ∀ x, Spec P g ([agg (enc x)] ++ cap.toList) pre (Gives (.bool (q x)) pre))
    (v : Value) (xs : List α) (hl : xs.length ≤ 9223372036854775806) :
    Spec P f [v, .func (.func g) #[] cap] (pre ++ [.ob (OwnSl v t sz xs.length (xs.map enc).flatten)]) (Gives (.int .i64 (idxI (xs.findIdx? q))) (pre ++ [.ob (OwnSl v t sz xs.length (xs.map enc).flatten)])) := by
  intro W F w hS; apply vc; unfold VcIdxF
  have e0 : app (pre ++ [.ob (OwnSl v t sz xs.length (xs.map enc).flatten)]) F = pre ++ (.ob (OwnSl v t sz xs.length (xs.map enc).flatten) :: F) := by rw [app_eq]; simp
  have hm : Has (.ob (OwnSl v t sz xs.length (xs.map enc).flatten)) (app (pre ++ [.ob (OwnSl v t sz xs.length (xs.map enc).flatten)]) F) := by
    rw [e0]
    clear hS one e0
    induction pre with
    | nil => exact .hd
    | cons c r ih => exact .tl ih
  refine s_lenO hS hm ?_
  refine ⟨fun vs w => ∃ k : Nat, vs = [.int .i64 k] ∧ k ≤ xs.length ∧ (∀ j (h : j < xs.length), j < k → q xs[j] = false) ∧ SL W (app (pre ++ [.ob (OwnSl v t sz xs.length (xs.map enc).flatten)]) F) w, fun vs _ => match vs with | [.int _ k] => (xs.length - k).toNat | _ => 0, ⟨0, rfl, by omega, fun j h hj => by omega, hS⟩, ?_⟩
  clear hS
  rintro v8 w ⟨k, hv, hk, hq, hS⟩
  cases hv
  (repeat (first | (with_reducible first | apply Z0 | apply Z1 | apply Z2 | apply Z3 | apply Z4 | apply Z5 | apply Z6 | apply Z7 | apply Z8 | apply Z9 | apply Za | apply Zb | apply Zc | apply Zd | apply Ze | apply Zf | apply Zg | apply Zh | apply Zi | apply Zj | apply Zk | apply Zl | apply Zm | apply Zn | apply Zo | apply Zp | apply Zq | apply Zr) | ((with_reducible apply s_ld hS); (focus (repeat (first | exact Has.hd | apply Has.tl)); done); (focus rfl)) | ((with_reducible first | apply s_add1 | apply s_addn | apply s_add | apply s_remn | apply s_sub); (focus omega)) | ((with_reducible apply s_st hS); (focus (repeat (first | exact Upd.hd | apply Upd.tl)); done); (focus rfl); (focus (first | rfl | assumption)); clear hS; intro w hS; simp only [List.set] at hS) | ((with_reducible refine s_draw hS ?_); clear hS; intro w hS) | ((with_reducible refine s_new hS ?_); clear hS; intro b w hS) | ((with_reducible apply s_stN0 hS); (focus (repeat (first | exact Upd.hd | apply Upd.tl)); done); (focus rfl); (focus rfl); (focus (simp [Value.oneCell']; done)); clear hS; intro w hS) | ((with_reducible apply s_ldN0 hS); (focus (repeat (first | exact Has.hd | apply Has.tl)); done); (focus rfl)) | ((with_reducible apply s_bld); (focus (simp [fillL, Value.cells]; rfl))) | ((with_reducible apply s_bldS hS); (focus (simp [fillL, Value.cells, zrow]; rfl)); clear hS; intro b w hS) | (with_reducible first | apply Zs | apply Zt | apply Zu)))
  refine s_ifp (fun h => ?_) (fun h => ?_)
  · have hkl : k < xs.length := by omega
    refine s_getNO hS hm hn (x := xs[k]) (by simp [hkl]) hkl ?_
    refine ⟨g, #[], cap, rfl, hT, ?_⟩
    refine HCall.mono (one xs[k] W (.ob (OwnSl v t sz xs.length (xs.map enc).flatten) :: F) w (by rw [app_eq, ← e0]; exact hS)) ?_
    clear hS
    rintro u w ⟨post, ⟨rfl, rfl⟩, hS⟩
    rw [app_eq, ← e0] at hS
    cases hqx : q xs[k] with
    | true =>
      refine s_ift ?_
      have e : xs.findIdx? q = some k := List.findIdx?_eq_some_iff_getElem.2 ⟨hkl, hqx, fun j hj => by rw [hq j (by omega) hj]; decide⟩
      rw [e]
      exact ⟨_, ⟨rfl, rfl⟩, hS⟩
    | false =>
      refine s_iff ?_
      (repeat (first | (with_reducible first | apply Z0 | apply Z1 | apply Z2 | apply Z3 | apply Z4 | apply Z5 | apply Z6 | apply Z7 | apply Z8 | apply Z9 | apply Za | apply Zb | apply Zc | apply Zd | apply Ze | apply Zf | apply Zg | apply Zh | apply Zi | apply Zj | apply Zk | apply Zl | apply Zm | apply Zn | apply Zo | apply Zp | apply Zq | apply Zr) | ((with_reducible apply s_ld hS); (focus (repeat (first | exact Has.hd | apply Has.tl)); done); (focus rfl)) | ((with_reducible first | apply s_add1 | apply s_addn | apply s_add | apply s_remn | apply s_sub); (focus omega)) | ((with_reducible apply s_st hS); (focus (repeat (first | exact Upd.hd | apply Upd.tl)); done); (focus rfl); (focus (first | rfl | assumption)); clear hS; intro w hS; simp only [List.set] at hS) | ((with_reducible refine s_draw hS ?_); clear hS; intro w hS) | ((with_reducible refine s_new hS ?_); clear hS; intro b w hS) | ((with_reducible apply s_stN0 hS); (focus (repeat (first | exact Upd.hd | apply Upd.tl)); done); (focus rfl); (focus rfl); (focus (simp [Value.oneCell']; done)); clear hS; intro w hS) | ((with_reducible apply s_ldN0 hS); (focus (repeat (first | exact Has.hd | apply Has.tl)); done); (focus rfl)) | ((with_reducible apply s_bld); (focus (simp [fillL, Value.cells]; rfl))) | ((with_reducible apply s_bldS hS); (focus (simp [fillL, Value.cells, zrow]; rfl)); clear hS; intro b w hS) | (with_reducible first | apply Zs | apply Zt | apply Zu)))
      refine ⟨⟨k + 1, rfl, by omega, fun j h hj => ?_, hS⟩, by dsimp only; omega⟩
      rcases Nat.lt_or_ge j k with hjk | hjk
      · exact hq j h hjk
      · obtain rfl : j = k := by omega
        exact hqx
  · have e : xs.findIdx? q = none := List.findIdx?_eq_none_iff.2 fun x hx => by
      obtain ⟨j, hj, rfl⟩ := List.mem_iff_getElem.1 hx
      exact hq j hj (by omega)
    rw [e]
    exact ⟨_, ⟨rfl, rfl⟩, hS⟩
end
theorem litG {W w : World} {l : List Chunk} {H : Heap} {b n : Nat} {t : TypeId} {cells : List Value} (h : SL W (.mem H :: .pt b cells t :: l) w) (hn : cells.length = n) : ∃ H', H.le H' ∧ RdSl H' 1 (.slice (some ⟨b, 0, none⟩) n n) n cells ∧ SL W (.mem H' :: l) w :=
  OwnSl.freeze (sz := 1) (h.perm (.swap _ _ _) |> fun h => (OwnSl.full (sz := 1) (by omega) h).perm (.swap _ _ _))
end Go.Proofs.Ythjnknpgcmmapaa
