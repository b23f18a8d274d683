/-
  My own library: two lists of one-cell things held against each other, wherever they lie; copies, and what is written over.
-/
import Derived.Test.YthjnknpgcmmapaaSl7
import Derived.Test.YthjnknpgcmmapaaVcG
namespace Go.Proofs.Ythjnknpgcmmapaa
set_option linter.unusedVariables false
set_option maxRecDepth 100000
open Go.RowKit

/-- v's n cells may be read where the piece X is. -/
def Rd1 (X : Chunk) (v : Value) (n : Nat) (cells : List Value) : Prop :=
  ∃ a cap, v = .slice a n cap ∧ ∀ {W w : World} {l : List Chunk}, SL W l w → Has X l → ∀ j u, j < n → cells[j]? = some u → ∃ b o, a = some ⟨b, o, none⟩ ∧ w.cell? ⟨b, o + j, none⟩ = some u
theorem RdSl.rd1 {H : Heap} {v : Value} {n : Nat} {cells : List Value} (h : RdSl H 1 v n cells) : Rd1 (.mem H) v n cells := by
  obtain ⟨_, a, cap, rfl, _, h4⟩ := h
  refine ⟨a, cap, rfl, fun hS hm j u hj hu => ?_⟩
  rcases h4 with rfl | ⟨b, o, rfl, h6⟩
  · omega
  · exact ⟨b, o, rfl, hS.mcell hm (h6 j u hu)⟩
theorem pt_rd1 {b n cap : Nat} {cs cells : List Value} {t : TypeId} (hc : ∀ (j : Nat) (u : Value), cells[j]? = some u → cs[j]? = some u) : Rd1 (.pt b cs t) (.slice (some ⟨b, 0, none⟩) n cap) n cells :=
  ⟨_, cap, rfl, fun hS hm j u hj hu => ⟨b, 0, rfl, by rw [Nat.zero_add]; exact hS.cell hm (hc j u hu)⟩⟩
section
variable {W w : World} {l : List Chunk}
theorem s_lenX {X : Chunk} {v : Value} {n : Nat} {cells : List Value} {K : Value → Prop} (h : Rd1 X v n cells) (k : K (.int .i64 n)) : HLenS v K := by
  obtain ⟨a, cap, rfl, _⟩ := h
  exact s_lenS k
theorem s_getX {X : Chunk} {v u : Value} {n j : Nat} {k : IntKind} {cells : List Value} {K : Value → Prop} (hS : SL W l w) (hm : Has X l) (h : Rd1 X v n cells) (hj : j < n) (hu : cells[j]? = some u) (hK : K u) :
    HIdx 1 v (.int k (j : Int)) fun p => HLd p w K := by
  obtain ⟨a, cap, rfl, h2⟩ := h
  obtain ⟨b, o, rfl, h3⟩ := h2 hS hm j u hj hu
  refine s_idx hj ⟨_, u, rfl, ?_, hK⟩
  rw [Nat.mul_one]; exact h3
end
/-- What Same asks, at elements of one cell. -/
def VcSame1 (P : Program) (T : List Bool) (v0 : Value) (v1 : Value) (v2 : Value) (w : World) (R : Value → World → Prop) : Prop :=
  HLenS v0 fun v9 =>
  HLenS v1 fun v11 =>
  HBin .neq v9 v11 fun v12 =>
  HIf v12
  (R (.bool false) w)
  (∃ (I : List Value → World → Prop) (μ : List Value → World → Nat), I [(.int .i64 0)] w ∧
  ∀ (v7 : Value) w_1, I [v7] w_1 →
  HLenS v0 fun v15 =>
  HBin .lss v7 v15 fun v16 =>
  HIf v16
  (HDraw w_1 fun w_2 =>
  HIdx 1 v0 v7 fun v22 =>
  HLd v22 w_2 fun v23 =>
  HIdx 1 v1 v7 fun v26 =>
  HLd v26 w_2 fun v27 =>
  HCallV P T v2 [v23, v27] w_2 fun v28 w_3 =>
  HNot v28 fun v29 =>
  HIf v29
  (R (.bool false) w_3)
  (HBin .add v7 (.int .i64 1) fun v18 =>
  I [v18] w_3 ∧ μ [v18] w_3 < μ [v7] w_1))
  (R (.bool true) w_1))
theorem same1_gen {P : Program} {T : List Bool} {f g : FuncId} {α : Type} [DecidableEq α] {val : α → Value} (hT : T.getD g false = true)
    (vc : ∀ v0 v1 v2 w R, VcSame1 P T v0 v1 v2 w R → HCall P f [v0, v1, v2] w R) (one : ∀ a b, Spec P g [val a, val b] [] (Gives (.bool (decide (a = b))) []))
    (pre : List Chunk) (X Y : Chunk) (hX : ∀ F, Has X (app pre F)) (hY : ∀ F, Has Y (app pre F)) (u v : Value) (A B : List α) (hu : Rd1 X u A.length (A.map val)) (hv : Rd1 Y v B.length (B.map val)) (hA : A.length ≤ 9223372036854775806) :
    Spec P f [u, v, .func (.func g) #[] #[]] pre (Gives (.bool (decide (A = B))) pre) := by
  intro W F w hS; apply vc; unfold VcSame1
  refine s_lenX hu (s_lenX hv ?_)
  (repeat (first | (with_reducible refine s_nil ?_) | (with_reducible refine s_ext20 ?_) | (with_reducible refine s_ext21 ?_) | (with_reducible refine s_ext30 ?_) | (with_reducible refine s_ext31 ?_) | (with_reducible refine s_ext32 ?_) | (with_reducible refine s_ext40 ?_) | (with_reducible refine s_ext41 ?_) | (with_reducible refine s_ext42 ?_) | (with_reducible refine s_ext43 ?_) | (with_reducible refine s_fld ?_) | (with_reducible refine s_lenS ?_) | (with_reducible refine s_lenT ?_) | (with_reducible refine s_eq ?_) | (with_reducible refine s_ne ?_) | (with_reducible refine s_lt ?_) | (with_reducible refine s_le ?_) | (with_reducible refine s_gt ?_) | (with_reducible refine s_ge ?_) | (with_reducible refine s_eqs ?_) | (with_reducible refine s_nes ?_) | (with_reducible refine s_eqb ?_) | (with_reducible refine s_neb ?_) | (with_reducible refine s_eqp ?_) | (with_reducible refine s_nep ?_) | (with_reducible refine s_not ?_) | (with_reducible refine s_min ?_) | (with_reducible refine s_max ?_) | ((with_reducible apply s_ld hS); (focus (first | exact .hd | exact .tl .hd | exact .tl (.tl .hd) | exact .tl (.tl (.tl .hd)) | exact .tl (.tl (.tl (.tl .hd))) | exact .tl (.tl (.tl (.tl (.tl .hd)))) | exact .tl (.tl (.tl (.tl (.tl (.tl .hd))))) | exact .tl (.tl (.tl (.tl (.tl (.tl (.tl .hd)))))))); (focus rfl)) | ((with_reducible apply s_add1); (focus omega)) | ((with_reducible apply s_addn); (focus omega)) | ((with_reducible apply s_add); (focus omega)) | ((with_reducible apply s_remn); (focus omega)) | ((with_reducible apply s_sub); (focus omega)) | ((with_reducible apply s_st hS); (focus (repeat (first | exact Upd.hd | apply Upd.tl))); (focus rfl); (focus (first | rfl | assumption)); clear hS; intro w hS; simp only [List.set] at hS) | ((with_reducible refine s_draw hS ?_); clear hS; intro w hS) | ((with_reducible refine s_new hS ?_); clear hS; intro b w hS) | ((with_reducible apply s_stN0 hS); (focus (repeat (first | exact Upd.hd | apply Upd.tl))); (focus rfl); (focus rfl); (focus (simp [Value.oneCell']; done)); clear hS; intro w hS) | ((with_reducible apply s_ldN0 hS); (focus (first | exact .hd | exact .tl .hd | exact .tl (.tl .hd) | exact .tl (.tl (.tl .hd)) | exact .tl (.tl (.tl (.tl .hd))) | exact .tl (.tl (.tl (.tl (.tl .hd)))) | exact .tl (.tl (.tl (.tl (.tl (.tl .hd))))) | exact .tl (.tl (.tl (.tl (.tl (.tl (.tl .hd)))))))); (focus rfl)) | ((with_reducible apply s_bld); (focus (simp [fillL, Value.cells]; rfl))) | ((with_reducible apply s_bldS hS); (focus (simp [fillL, Value.cells, zrow]; rfl)); clear hS; intro b w hS) | (with_reducible refine s_ift ?_) | (with_reducible refine s_iff ?_) | (with_reducible refine s_same ?_)))
  refine s_ifp (fun h => ?_) (fun h => ?_)
  · have : A ≠ B := fun e => by subst e; exact h rfl
    simp only [this, decide_false]
    exact ⟨_, ⟨rfl, rfl⟩, hS⟩
  · have hl : A.length = B.length := by omega
    refine ⟨fun vs w => ∃ k : Nat, vs = [.int .i64 k] ∧ k ≤ A.length ∧ A.take k = B.take k ∧ SL W (app pre F) w, fun vs _ => match vs with | [.int _ k] => (A.length - k).toNat | _ => 0, ⟨0, rfl, by omega, rfl, hS⟩, ?_⟩
    clear hS
    rintro v7 w ⟨k, hv7, hk, htk, hS⟩
    cases hv7
    refine s_lenX hu ?_
    (repeat (first | (with_reducible refine s_nil ?_) | (with_reducible refine s_ext20 ?_) | (with_reducible refine s_ext21 ?_) | (with_reducible refine s_ext30 ?_) | (with_reducible refine s_ext31 ?_) | (with_reducible refine s_ext32 ?_) | (with_reducible refine s_ext40 ?_) | (with_reducible refine s_ext41 ?_) | (with_reducible refine s_ext42 ?_) | (with_reducible refine s_ext43 ?_) | (with_reducible refine s_fld ?_) | (with_reducible refine s_lenS ?_) | (with_reducible refine s_lenT ?_) | (with_reducible refine s_eq ?_) | (with_reducible refine s_ne ?_) | (with_reducible refine s_lt ?_) | (with_reducible refine s_le ?_) | (with_reducible refine s_gt ?_) | (with_reducible refine s_ge ?_) | (with_reducible refine s_eqs ?_) | (with_reducible refine s_nes ?_) | (with_reducible refine s_eqb ?_) | (with_reducible refine s_neb ?_) | (with_reducible refine s_eqp ?_) | (with_reducible refine s_nep ?_) | (with_reducible refine s_not ?_) | (with_reducible refine s_min ?_) | (with_reducible refine s_max ?_) | ((with_reducible apply s_ld hS); (focus (first | exact .hd | exact .tl .hd | exact .tl (.tl .hd) | exact .tl (.tl (.tl .hd)) | exact .tl (.tl (.tl (.tl .hd))) | exact .tl (.tl (.tl (.tl (.tl .hd)))) | exact .tl (.tl (.tl (.tl (.tl (.tl .hd))))) | exact .tl (.tl (.tl (.tl (.tl (.tl (.tl .hd)))))))); (focus rfl)) | ((with_reducible apply s_add1); (focus omega)) | ((with_reducible apply s_addn); (focus omega)) | ((with_reducible apply s_add); (focus omega)) | ((with_reducible apply s_remn); (focus omega)) | ((with_reducible apply s_sub); (focus omega)) | ((with_reducible apply s_st hS); (focus (repeat (first | exact Upd.hd | apply Upd.tl))); (focus rfl); (focus (first | rfl | assumption)); clear hS; intro w hS; simp only [List.set] at hS) | ((with_reducible refine s_draw hS ?_); clear hS; intro w hS) | ((with_reducible refine s_new hS ?_); clear hS; intro b w hS) | ((with_reducible apply s_stN0 hS); (focus (repeat (first | exact Upd.hd | apply Upd.tl))); (focus rfl); (focus rfl); (focus (simp [Value.oneCell']; done)); clear hS; intro w hS) | ((with_reducible apply s_ldN0 hS); (focus (first | exact .hd | exact .tl .hd | exact .tl (.tl .hd) | exact .tl (.tl (.tl .hd)) | exact .tl (.tl (.tl (.tl .hd))) | exact .tl (.tl (.tl (.tl (.tl .hd)))) | exact .tl (.tl (.tl (.tl (.tl (.tl .hd))))) | exact .tl (.tl (.tl (.tl (.tl (.tl (.tl .hd)))))))); (focus rfl)) | ((with_reducible apply s_bld); (focus (simp [fillL, Value.cells]; rfl))) | ((with_reducible apply s_bldS hS); (focus (simp [fillL, Value.cells, zrow]; rfl)); clear hS; intro b w hS) | (with_reducible refine s_ift ?_) | (with_reducible refine s_iff ?_) | (with_reducible refine s_same ?_)))
    refine s_ifp (fun h => ?_) (fun h => ?_)
    · have hk1 : k < A.length := by omega
      have hk2 : k < B.length := by omega
      refine s_draw hS ?_
      clear hS; intro w hS
      refine s_getX hS (hX F) hu hk1 (u := val A[k]) (by simp [hk1]) ?_
      refine s_getX hS (hY F) hv hk2 (u := val B[k]) (by simp [hk2]) ?_
      refine s_callv (args' := [val A[k], val B[k]]) hT (one A[k] B[k]) rfl hS .nil ?_
      clear hS
      rintro v post ⟨rfl, rfl⟩ w hS
      have hS : SL W (app pre F) w := hS
      (repeat (first | (with_reducible refine s_nil ?_) | (with_reducible refine s_ext20 ?_) | (with_reducible refine s_ext21 ?_) | (with_reducible refine s_ext30 ?_) | (with_reducible refine s_ext31 ?_) | (with_reducible refine s_ext32 ?_) | (with_reducible refine s_ext40 ?_) | (with_reducible refine s_ext41 ?_) | (with_reducible refine s_ext42 ?_) | (with_reducible refine s_ext43 ?_) | (with_reducible refine s_fld ?_) | (with_reducible refine s_lenS ?_) | (with_reducible refine s_lenT ?_) | (with_reducible refine s_eq ?_) | (with_reducible refine s_ne ?_) | (with_reducible refine s_lt ?_) | (with_reducible refine s_le ?_) | (with_reducible refine s_gt ?_) | (with_reducible refine s_ge ?_) | (with_reducible refine s_eqs ?_) | (with_reducible refine s_nes ?_) | (with_reducible refine s_eqb ?_) | (with_reducible refine s_neb ?_) | (with_reducible refine s_eqp ?_) | (with_reducible refine s_nep ?_) | (with_reducible refine s_not ?_) | (with_reducible refine s_min ?_) | (with_reducible refine s_max ?_) | ((with_reducible apply s_ld hS); (focus (first | exact .hd | exact .tl .hd | exact .tl (.tl .hd) | exact .tl (.tl (.tl .hd)) | exact .tl (.tl (.tl (.tl .hd))) | exact .tl (.tl (.tl (.tl (.tl .hd)))) | exact .tl (.tl (.tl (.tl (.tl (.tl .hd))))) | exact .tl (.tl (.tl (.tl (.tl (.tl (.tl .hd)))))))); (focus rfl)) | ((with_reducible apply s_add1); (focus omega)) | ((with_reducible apply s_addn); (focus omega)) | ((with_reducible apply s_add); (focus omega)) | ((with_reducible apply s_remn); (focus omega)) | ((with_reducible apply s_sub); (focus omega)) | ((with_reducible apply s_st hS); (focus (repeat (first | exact Upd.hd | apply Upd.tl))); (focus rfl); (focus (first | rfl | assumption)); clear hS; intro w hS; simp only [List.set] at hS) | ((with_reducible refine s_draw hS ?_); clear hS; intro w hS) | ((with_reducible refine s_new hS ?_); clear hS; intro b w hS) | ((with_reducible apply s_stN0 hS); (focus (repeat (first | exact Upd.hd | apply Upd.tl))); (focus rfl); (focus rfl); (focus (simp [Value.oneCell']; done)); clear hS; intro w hS) | ((with_reducible apply s_ldN0 hS); (focus (first | exact .hd | exact .tl .hd | exact .tl (.tl .hd) | exact .tl (.tl (.tl .hd)) | exact .tl (.tl (.tl (.tl .hd))) | exact .tl (.tl (.tl (.tl (.tl .hd)))) | exact .tl (.tl (.tl (.tl (.tl (.tl .hd))))) | exact .tl (.tl (.tl (.tl (.tl (.tl (.tl .hd)))))))); (focus rfl)) | ((with_reducible apply s_bld); (focus (simp [fillL, Value.cells]; rfl))) | ((with_reducible apply s_bldS hS); (focus (simp [fillL, Value.cells, zrow]; rfl)); clear hS; intro b w hS) | (with_reducible refine s_ift ?_) | (with_reducible refine s_iff ?_) | (with_reducible refine s_same ?_)))
      refine s_ifn (fun he => ?_) (fun he => ?_)
      · have : A ≠ B := fun e => by subst e; simp at he
        simp only [this, decide_false]
        exact ⟨_, ⟨rfl, rfl⟩, hS⟩
      · have he' := of_decide_eq_true he
        (repeat (first | (with_reducible refine s_nil ?_) | (with_reducible refine s_ext20 ?_) | (with_reducible refine s_ext21 ?_) | (with_reducible refine s_ext30 ?_) | (with_reducible refine s_ext31 ?_) | (with_reducible refine s_ext32 ?_) | (with_reducible refine s_ext40 ?_) | (with_reducible refine s_ext41 ?_) | (with_reducible refine s_ext42 ?_) | (with_reducible refine s_ext43 ?_) | (with_reducible refine s_fld ?_) | (with_reducible refine s_lenS ?_) | (with_reducible refine s_lenT ?_) | (with_reducible refine s_eq ?_) | (with_reducible refine s_ne ?_) | (with_reducible refine s_lt ?_) | (with_reducible refine s_le ?_) | (with_reducible refine s_gt ?_) | (with_reducible refine s_ge ?_) | (with_reducible refine s_eqs ?_) | (with_reducible refine s_nes ?_) | (with_reducible refine s_eqb ?_) | (with_reducible refine s_neb ?_) | (with_reducible refine s_eqp ?_) | (with_reducible refine s_nep ?_) | (with_reducible refine s_not ?_) | (with_reducible refine s_min ?_) | (with_reducible refine s_max ?_) | ((with_reducible apply s_ld hS); (focus (first | exact .hd | exact .tl .hd | exact .tl (.tl .hd) | exact .tl (.tl (.tl .hd)) | exact .tl (.tl (.tl (.tl .hd))) | exact .tl (.tl (.tl (.tl (.tl .hd)))) | exact .tl (.tl (.tl (.tl (.tl (.tl .hd))))) | exact .tl (.tl (.tl (.tl (.tl (.tl (.tl .hd)))))))); (focus rfl)) | ((with_reducible apply s_add1); (focus omega)) | ((with_reducible apply s_addn); (focus omega)) | ((with_reducible apply s_add); (focus omega)) | ((with_reducible apply s_remn); (focus omega)) | ((with_reducible apply s_sub); (focus omega)) | ((with_reducible apply s_st hS); (focus (repeat (first | exact Upd.hd | apply Upd.tl))); (focus rfl); (focus (first | rfl | assumption)); clear hS; intro w hS; simp only [List.set] at hS) | ((with_reducible refine s_draw hS ?_); clear hS; intro w hS) | ((with_reducible refine s_new hS ?_); clear hS; intro b w hS) | ((with_reducible apply s_stN0 hS); (focus (repeat (first | exact Upd.hd | apply Upd.tl))); (focus rfl); (focus rfl); (focus (simp [Value.oneCell']; done)); clear hS; intro w hS) | ((with_reducible apply s_ldN0 hS); (focus (first | exact .hd | exact .tl .hd | exact .tl (.tl .hd) | exact .tl (.tl (.tl .hd)) | exact .tl (.tl (.tl (.tl .hd))) | exact .tl (.tl (.tl (.tl (.tl .hd)))) | exact .tl (.tl (.tl (.tl (.tl (.tl .hd))))) | exact .tl (.tl (.tl (.tl (.tl (.tl (.tl .hd)))))))); (focus rfl)) | ((with_reducible apply s_bld); (focus (simp [fillL, Value.cells]; rfl))) | ((with_reducible apply s_bldS hS); (focus (simp [fillL, Value.cells, zrow]; rfl)); clear hS; intro b w hS) | (with_reducible refine s_ift ?_) | (with_reducible refine s_iff ?_) | (with_reducible refine s_same ?_)))
        refine ⟨⟨k + 1, by simp, by omega, ?_, hS⟩, by dsimp only; omega⟩
        rw [List.take_succ_eq_append_getElem hk1, List.take_succ_eq_append_getElem hk2, htk, he']
    · have : k = A.length := by omega
      subst this
      have : A = B := by rw [List.take_length, hl, List.take_length] at htk; exact htk
      simp only [this, decide_true]
      exact ⟨_, ⟨rfl, rfl⟩, hS⟩
/-- What Spoil asks. -/
def VcSpoil (z : Value) (v0 : Value) (w : World) (R : Value → World → Prop) : Prop :=
  ∃ (I : List Value → World → Prop) (μ : List Value → World → Nat), I [(.int .i64 0)] w ∧
  ∀ (v3 : Value) w_1, I [v3] w_1 →
  HLenS v0 fun v6 =>
  HBin .lss v3 v6 fun v7 =>
  HIf v7
  (HIdx 1 v0 v3 fun v13 =>
  HSt v13 z w_1 fun w_2 =>
  HBin .add v3 (.int .i64 1) fun v9 =>
  I [v9] w_2 ∧ μ [v9] w_2 < μ [v3] w_1)
  (R (.tuple #[]) w_1)
theorem spoil_pt {P : Program} {f : FuncId} {z : Value} (vc : ∀ v0 w R, VcSpoil z v0 w R → HCall P f [v0] w R) (hz : z.oneCell' = true) (b n cap : Nat) (cs : List Value) (t : TypeId) (hn : n ≤ cs.length) (hb : n ≤ 9223372036854775806) :
    Spec P f [.slice (some ⟨b, 0, none⟩) n cap] [.pt b cs t] (Gives (.tuple #[]) []) := by
  intro W F w hS; apply vc; unfold VcSpoil; (try simp only [app] at hS)
  refine ⟨fun vs w => ∃ (k : Nat) (ds : List Value), vs = [.int .i64 k] ∧ k ≤ n ∧ ds.length = cs.length ∧ SL W (.pt b ds t :: F) w, fun vs _ => match vs with | [.int _ k] => (n - k).toNat | _ => 0, ⟨0, cs, rfl, by omega, rfl, hS⟩, ?_⟩
  clear hS
  rintro v3 w ⟨k, ds, hv, hk, hl, hS⟩
  cases hv
  (repeat (first | (with_reducible refine s_nil ?_) | (with_reducible refine s_ext20 ?_) | (with_reducible refine s_ext21 ?_) | (with_reducible refine s_ext30 ?_) | (with_reducible refine s_ext31 ?_) | (with_reducible refine s_ext32 ?_) | (with_reducible refine s_ext40 ?_) | (with_reducible refine s_ext41 ?_) | (with_reducible refine s_ext42 ?_) | (with_reducible refine s_ext43 ?_) | (with_reducible refine s_fld ?_) | (with_reducible refine s_lenS ?_) | (with_reducible refine s_lenT ?_) | (with_reducible refine s_eq ?_) | (with_reducible refine s_ne ?_) | (with_reducible refine s_lt ?_) | (with_reducible refine s_le ?_) | (with_reducible refine s_gt ?_) | (with_reducible refine s_ge ?_) | (with_reducible refine s_eqs ?_) | (with_reducible refine s_nes ?_) | (with_reducible refine s_eqb ?_) | (with_reducible refine s_neb ?_) | (with_reducible refine s_eqp ?_) | (with_reducible refine s_nep ?_) | (with_reducible refine s_not ?_) | (with_reducible refine s_min ?_) | (with_reducible refine s_max ?_) | ((with_reducible apply s_ld hS); (focus (first | exact .hd | exact .tl .hd | exact .tl (.tl .hd) | exact .tl (.tl (.tl .hd)) | exact .tl (.tl (.tl (.tl .hd))) | exact .tl (.tl (.tl (.tl (.tl .hd)))) | exact .tl (.tl (.tl (.tl (.tl (.tl .hd))))) | exact .tl (.tl (.tl (.tl (.tl (.tl (.tl .hd)))))))); (focus rfl)) | ((with_reducible apply s_add1); (focus omega)) | ((with_reducible apply s_addn); (focus omega)) | ((with_reducible apply s_add); (focus omega)) | ((with_reducible apply s_remn); (focus omega)) | ((with_reducible apply s_sub); (focus omega)) | ((with_reducible apply s_st hS); (focus (repeat (first | exact Upd.hd | apply Upd.tl))); (focus rfl); (focus (first | rfl | assumption)); clear hS; intro w hS; simp only [List.set] at hS) | ((with_reducible refine s_draw hS ?_); clear hS; intro w hS) | ((with_reducible refine s_new hS ?_); clear hS; intro b w hS) | ((with_reducible apply s_stN0 hS); (focus (repeat (first | exact Upd.hd | apply Upd.tl))); (focus rfl); (focus rfl); (focus (simp [Value.oneCell']; done)); clear hS; intro w hS) | ((with_reducible apply s_ldN0 hS); (focus (first | exact .hd | exact .tl .hd | exact .tl (.tl .hd) | exact .tl (.tl (.tl .hd)) | exact .tl (.tl (.tl (.tl .hd))) | exact .tl (.tl (.tl (.tl (.tl .hd)))) | exact .tl (.tl (.tl (.tl (.tl (.tl .hd))))) | exact .tl (.tl (.tl (.tl (.tl (.tl (.tl .hd)))))))); (focus rfl)) | ((with_reducible apply s_bld); (focus (simp [fillL, Value.cells]; rfl))) | ((with_reducible apply s_bldS hS); (focus (simp [fillL, Value.cells, zrow]; rfl)); clear hS; intro b w hS) | (with_reducible refine s_ift ?_) | (with_reducible refine s_iff ?_) | (with_reducible refine s_same ?_)))
  refine s_ifp (fun h => ?_) (fun h => ?_)
  · have hk1 : k < n := by omega
    refine s_idx hk1 (s_st hS .hd (u := ds[k]'(by omega)) (by rw [Nat.zero_add, Nat.mul_one]; exact List.getElem?_eq_getElem (by omega)) hz ?_)
    clear hS; intro w hS
    (repeat (first | (with_reducible refine s_nil ?_) | (with_reducible refine s_ext20 ?_) | (with_reducible refine s_ext21 ?_) | (with_reducible refine s_ext30 ?_) | (with_reducible refine s_ext31 ?_) | (with_reducible refine s_ext32 ?_) | (with_reducible refine s_ext40 ?_) | (with_reducible refine s_ext41 ?_) | (with_reducible refine s_ext42 ?_) | (with_reducible refine s_ext43 ?_) | (with_reducible refine s_fld ?_) | (with_reducible refine s_lenS ?_) | (with_reducible refine s_lenT ?_) | (with_reducible refine s_eq ?_) | (with_reducible refine s_ne ?_) | (with_reducible refine s_lt ?_) | (with_reducible refine s_le ?_) | (with_reducible refine s_gt ?_) | (with_reducible refine s_ge ?_) | (with_reducible refine s_eqs ?_) | (with_reducible refine s_nes ?_) | (with_reducible refine s_eqb ?_) | (with_reducible refine s_neb ?_) | (with_reducible refine s_eqp ?_) | (with_reducible refine s_nep ?_) | (with_reducible refine s_not ?_) | (with_reducible refine s_min ?_) | (with_reducible refine s_max ?_) | ((with_reducible apply s_ld hS); (focus (first | exact .hd | exact .tl .hd | exact .tl (.tl .hd) | exact .tl (.tl (.tl .hd)) | exact .tl (.tl (.tl (.tl .hd))) | exact .tl (.tl (.tl (.tl (.tl .hd)))) | exact .tl (.tl (.tl (.tl (.tl (.tl .hd))))) | exact .tl (.tl (.tl (.tl (.tl (.tl (.tl .hd)))))))); (focus rfl)) | ((with_reducible apply s_add1); (focus omega)) | ((with_reducible apply s_addn); (focus omega)) | ((with_reducible apply s_add); (focus omega)) | ((with_reducible apply s_remn); (focus omega)) | ((with_reducible apply s_sub); (focus omega)) | ((with_reducible apply s_st hS); (focus (repeat (first | exact Upd.hd | apply Upd.tl))); (focus rfl); (focus (first | rfl | assumption)); clear hS; intro w hS; simp only [List.set] at hS) | ((with_reducible refine s_draw hS ?_); clear hS; intro w hS) | ((with_reducible refine s_new hS ?_); clear hS; intro b w hS) | ((with_reducible apply s_stN0 hS); (focus (repeat (first | exact Upd.hd | apply Upd.tl))); (focus rfl); (focus rfl); (focus (simp [Value.oneCell']; done)); clear hS; intro w hS) | ((with_reducible apply s_ldN0 hS); (focus (first | exact .hd | exact .tl .hd | exact .tl (.tl .hd) | exact .tl (.tl (.tl .hd)) | exact .tl (.tl (.tl (.tl .hd))) | exact .tl (.tl (.tl (.tl (.tl .hd)))) | exact .tl (.tl (.tl (.tl (.tl (.tl .hd))))) | exact .tl (.tl (.tl (.tl (.tl (.tl (.tl .hd)))))))); (focus rfl)) | ((with_reducible apply s_bld); (focus (simp [fillL, Value.cells]; rfl))) | ((with_reducible apply s_bldS hS); (focus (simp [fillL, Value.cells, zrow]; rfl)); clear hS; intro b w hS) | (with_reducible refine s_ift ?_) | (with_reducible refine s_iff ?_) | (with_reducible refine s_same ?_)))
    exact ⟨⟨k + 1, _, by simp, by omega, by rw [List.length_set]; exact hl, hS⟩, by dsimp only; omega⟩
  · exact ⟨_, ⟨rfl, rfl⟩, SL.into hS (by ((try simp only [app]); repeat (first | (with_reducible exact Into.refl) | ((with_reducible apply Into.cons); (focus ((repeat (first | (with_reducible exact Rem.hd) | (with_reducible apply Rem.tl))); done))) | (with_reducible apply Into.drop))))⟩
theorem spoil_nil {P : Program} {f : FuncId} {z : Value} (vc : ∀ v0 w R, VcSpoil z v0 w R → HCall P f [v0] w R) (a : Option Addr) (cap : Nat) :
    Spec P f [.slice a 0 cap] [] (Gives (.tuple #[]) []) := by
  intro W F w hS; apply vc; unfold VcSpoil; (try simp only [app] at hS)
  refine ⟨fun vs w => vs = [.int .i64 0] ∧ SL W F w, fun vs _ => 0, ⟨rfl, hS⟩, ?_⟩
  clear hS
  rintro v3 w ⟨hv, hS⟩
  cases hv
  (repeat (first | (with_reducible refine s_nil ?_) | (with_reducible refine s_ext20 ?_) | (with_reducible refine s_ext21 ?_) | (with_reducible refine s_ext30 ?_) | (with_reducible refine s_ext31 ?_) | (with_reducible refine s_ext32 ?_) | (with_reducible refine s_ext40 ?_) | (with_reducible refine s_ext41 ?_) | (with_reducible refine s_ext42 ?_) | (with_reducible refine s_ext43 ?_) | (with_reducible refine s_fld ?_) | (with_reducible refine s_lenS ?_) | (with_reducible refine s_lenT ?_) | (with_reducible refine s_eq ?_) | (with_reducible refine s_ne ?_) | (with_reducible refine s_lt ?_) | (with_reducible refine s_le ?_) | (with_reducible refine s_gt ?_) | (with_reducible refine s_ge ?_) | (with_reducible refine s_eqs ?_) | (with_reducible refine s_nes ?_) | (with_reducible refine s_eqb ?_) | (with_reducible refine s_neb ?_) | (with_reducible refine s_eqp ?_) | (with_reducible refine s_nep ?_) | (with_reducible refine s_not ?_) | (with_reducible refine s_min ?_) | (with_reducible refine s_max ?_) | ((with_reducible apply s_ld hS); (focus (first | exact .hd | exact .tl .hd | exact .tl (.tl .hd) | exact .tl (.tl (.tl .hd)) | exact .tl (.tl (.tl (.tl .hd))) | exact .tl (.tl (.tl (.tl (.tl .hd)))) | exact .tl (.tl (.tl (.tl (.tl (.tl .hd))))) | exact .tl (.tl (.tl (.tl (.tl (.tl (.tl .hd)))))))); (focus rfl)) | ((with_reducible apply s_add1); (focus omega)) | ((with_reducible apply s_addn); (focus omega)) | ((with_reducible apply s_add); (focus omega)) | ((with_reducible apply s_remn); (focus omega)) | ((with_reducible apply s_sub); (focus omega)) | ((with_reducible apply s_st hS); (focus (repeat (first | exact Upd.hd | apply Upd.tl))); (focus rfl); (focus (first | rfl | assumption)); clear hS; intro w hS; simp only [List.set] at hS) | ((with_reducible refine s_draw hS ?_); clear hS; intro w hS) | ((with_reducible refine s_new hS ?_); clear hS; intro b w hS) | ((with_reducible apply s_stN0 hS); (focus (repeat (first | exact Upd.hd | apply Upd.tl))); (focus rfl); (focus rfl); (focus (simp [Value.oneCell']; done)); clear hS; intro w hS) | ((with_reducible apply s_ldN0 hS); (focus (first | exact .hd | exact .tl .hd | exact .tl (.tl .hd) | exact .tl (.tl (.tl .hd)) | exact .tl (.tl (.tl (.tl .hd))) | exact .tl (.tl (.tl (.tl (.tl .hd)))) | exact .tl (.tl (.tl (.tl (.tl (.tl .hd))))) | exact .tl (.tl (.tl (.tl (.tl (.tl (.tl .hd)))))))); (focus rfl)) | ((with_reducible apply s_bld); (focus (simp [fillL, Value.cells]; rfl))) | ((with_reducible apply s_bldS hS); (focus (simp [fillL, Value.cells, zrow]; rfl)); clear hS; intro b w hS) | (with_reducible refine s_ift ?_) | (with_reducible refine s_iff ?_) | (with_reducible refine s_same ?_)))
  refine s_ifp (fun h => absurd h (by decide)) (fun h => ?_)
  exact ⟨_, ⟨rfl, rfl⟩, hS⟩
theorem spoil_own {P : Program} {f : FuncId} {z : Value} (vc : ∀ v0 w R, VcSpoil z v0 w R → HCall P f [v0] w R) (hz : z.oneCell' = true) (v : Value) (n : Nat) (cells : List Value) (t : TypeId) (hb : n ≤ 9223372036854775806) :
    Spec P f [v] [.ob (OwnSl v t 1 n cells)] (Gives (.tuple #[]) []) := by
  intro W F w hS
  (try simp only [app] at hS)
  rcases OwnSl.open hS with ⟨⟨a, rfl⟩, rfl, rfl, hS'⟩ | ⟨b, cap, rest, rfl, hc, hl, hr, hS'⟩
  · exact spoil_nil vc a 0 W F w hS'
  · exact spoil_pt vc hz b n cap (cells ++ rest) t (by rw [List.length_append]; omega) hb W F w hS'
theorem one_int (a b : Int) : Spec Try.prog 53 [.int .i64 a, .int .i64 b] [] (Gives (.bool (decide (a = b))) []) := by
  intro W F w hS; apply vc53; unfold Vc53; (try simp only [app] at hS)
  (repeat (first | (with_reducible refine s_nil ?_) | (with_reducible refine s_ext20 ?_) | (with_reducible refine s_ext21 ?_) | (with_reducible refine s_ext30 ?_) | (with_reducible refine s_ext31 ?_) | (with_reducible refine s_ext32 ?_) | (with_reducible refine s_ext40 ?_) | (with_reducible refine s_ext41 ?_) | (with_reducible refine s_ext42 ?_) | (with_reducible refine s_ext43 ?_) | (with_reducible refine s_fld ?_) | (with_reducible refine s_lenS ?_) | (with_reducible refine s_lenT ?_) | (with_reducible refine s_eq ?_) | (with_reducible refine s_ne ?_) | (with_reducible refine s_lt ?_) | (with_reducible refine s_le ?_) | (with_reducible refine s_gt ?_) | (with_reducible refine s_ge ?_) | (with_reducible refine s_eqs ?_) | (with_reducible refine s_nes ?_) | (with_reducible refine s_eqb ?_) | (with_reducible refine s_neb ?_) | (with_reducible refine s_eqp ?_) | (with_reducible refine s_nep ?_) | (with_reducible refine s_not ?_) | (with_reducible refine s_min ?_) | (with_reducible refine s_max ?_) | ((with_reducible apply s_ld hS); (focus (first | exact .hd | exact .tl .hd | exact .tl (.tl .hd) | exact .tl (.tl (.tl .hd)) | exact .tl (.tl (.tl (.tl .hd))) | exact .tl (.tl (.tl (.tl (.tl .hd)))) | exact .tl (.tl (.tl (.tl (.tl (.tl .hd))))) | exact .tl (.tl (.tl (.tl (.tl (.tl (.tl .hd)))))))); (focus rfl)) | ((with_reducible apply s_add1); (focus omega)) | ((with_reducible apply s_addn); (focus omega)) | ((with_reducible apply s_add); (focus omega)) | ((with_reducible apply s_remn); (focus omega)) | ((with_reducible apply s_sub); (focus omega)) | ((with_reducible apply s_st hS); (focus (repeat (first | exact Upd.hd | apply Upd.tl))); (focus rfl); (focus (first | rfl | assumption)); clear hS; intro w hS; simp only [List.set] at hS) | ((with_reducible refine s_draw hS ?_); clear hS; intro w hS) | ((with_reducible refine s_new hS ?_); clear hS; intro b w hS) | ((with_reducible apply s_stN0 hS); (focus (repeat (first | exact Upd.hd | apply Upd.tl))); (focus rfl); (focus rfl); (focus (simp [Value.oneCell']; done)); clear hS; intro w hS) | ((with_reducible apply s_ldN0 hS); (focus (first | exact .hd | exact .tl .hd | exact .tl (.tl .hd) | exact .tl (.tl (.tl .hd)) | exact .tl (.tl (.tl (.tl .hd))) | exact .tl (.tl (.tl (.tl (.tl .hd)))) | exact .tl (.tl (.tl (.tl (.tl (.tl .hd))))) | exact .tl (.tl (.tl (.tl (.tl (.tl (.tl .hd)))))))); (focus rfl)) | ((with_reducible apply s_bld); (focus (simp [fillL, Value.cells]; rfl))) | ((with_reducible apply s_bldS hS); (focus (simp [fillL, Value.cells, zrow]; rfl)); clear hS; intro b w hS) | (with_reducible refine s_ift ?_) | (with_reducible refine s_iff ?_) | (with_reducible refine s_same ?_)))
  (refine ⟨_, ⟨rfl, rfl⟩, SL.into hS ?_⟩; (focus ((try simp only [app]); repeat (first | (with_reducible exact Into.refl) | ((with_reducible apply Into.cons); (focus ((repeat (first | (with_reducible exact Rem.hd) | (with_reducible apply Rem.tl))); done))) | (with_reducible apply Into.drop)))))
theorem plain_int (H : Heap) (u v : Value) (A B : List Int) (hu : RdSl H 1 u A.length (A.map (Value.int .i64))) (hv : RdSl H 1 v B.length (B.map (Value.int .i64))) (hn : A.length ≤ 9223372036854775806) :
    Spec Try.prog 22 [u, v] [.mem H] (Gives (.bool (decide (A = B))) [.mem H]) := by
  intro W F w hS; apply vc22; unfold Vc22; (try simp only [app] at hS)
  (apply s_call (same1_gen rfl (fun v0 v1 v2 w R h => vc52 v0 v1 v2 w R h) one_int [.mem H] (.mem H) (.mem H) (fun _ => .hd) (fun _ => .hd) u v A B hu.rd1 hv.rd1 hn) hS; (focus (repeat (first | (with_reducible exact Pick.nil) | ((with_reducible apply Pick.cons); (focus ((repeat (first | (with_reducible exact Rem.hd) | (with_reducible apply Rem.tl))); done)))))); clear hS)
  rintro v post ⟨rfl, rfl⟩ w hS
  (try simp only [app] at hS)
  (refine ⟨_, ⟨rfl, rfl⟩, SL.into hS ?_⟩; (focus ((try simp only [app]); repeat (first | (with_reducible exact Into.refl) | ((with_reducible apply Into.cons); (focus ((repeat (first | (with_reducible exact Rem.hd) | (with_reducible apply Rem.tl))); done))) | (with_reducible apply Into.drop)))))
end Go.Proofs.Ythjnknpgcmmapaa
