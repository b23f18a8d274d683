/-
  DiskPlays.
-/
import Derived.Test.YthjnknpgcmmapaaLaw04P
import Derived.Test.YthjnknpgcmmapaaBytesT
import Derived.Test.YthjnknpgcmmapaaCellsN
import Derived.Test.YthjnknpgcmmapaaLib3B
namespace Go.Proofs.Ythjnknpgcmmapaa
set_option linter.unusedVariables false
set_option maxRecDepth 100000
open Go.ChangeShapes Go.WideShapes Go.ChangeAt Go.RowKit

structure Op4 where
  kind : Int
  f : Int
  n : Int
  b : List Int
  keep : List Int
structure Op4V where
  kind : Int
  f : Int
  n : Int
  bv : Value
  kv : Value
def encOp4 (x : Op4V) : List Value := [.int .i64 x.kind, .int .i64 x.f, .int .i64 x.n, x.bv, x.kv]
theorem encOp4_len (x : Op4V) : (encOp4 x).length = 5 := rfl
structure Op4Is (H : Heap) (x : Op4V) (o : Op4) : Prop where
  n : x.n = o.n
  bv : RdSl H 1 x.bv o.b.length (o.b.map (Value.int .u8))
  kv : RdSl H 1 x.kv o.keep.length (o.keep.map (Value.int .i64))
theorem Op4Is.mono {H H' : Heap} (hh : H.le H') {x : Op4V} {o : Op4} (h : Op4Is H x o) : Op4Is H' x o := ⟨h.n, h.bv.mono hh, h.kv.mono hh⟩
def RdOp4 (H : Heap) (v : Value) (l : List Op4) : Prop := ∃ xs : List Op4V, xs.length = l.length ∧ RdSl H 5 v l.length (xs.map encOp4).flatten ∧ ∀ i (h : i < l.length) (h' : i < xs.length), Op4Is H xs[i] l[i]
def okOp4 (o : Op4) : Prop := inK .i64 o.n ∧ ∀ x ∈ o.b, inK .u8 x
theorem diskPlays_spec (M : Nat) (hM : M = 1048576) (H : Heap) (v : Value) (l : List Op4) (hl : RdOp4 H v l) (hlen : l.length ≤ 1048576) (hok : ∀ o ∈ l, okOp4 o ∧ o.b.length ≤ M) :
    Spec Try.prog 7 [v] [.mem H] (fun v post => v = .bool true ∧ ∃ H' l, H.le H' ∧ post = .mem H' :: l) := by
  intro W F w hS; apply vc7; unfold Vc7; (try simp only [app] at hS)
  obtain ⟨xs, hxl, hxr, hxi⟩ := hl
  (apply s_call (newD_spec) hS; (focus (repeat (first | (with_reducible exact Pick.nil) | ((with_reducible apply Pick.cons); (focus ((repeat (first | (with_reducible exact Rem.hd) | (with_reducible apply Rem.tl))); done)))))); clear hS)
  rintro _ post ⟨dp, rfl, rfl⟩ w hS
  (try simp only [app] at hS)
  refine s_bld rfl ?_
  refine ⟨_, rfl, s_new hS ?_⟩
  clear hS; intro xp w hS
  (repeat (first | (with_reducible refine s_nil ?_) | (with_reducible refine s_ext20 ?_) | (with_reducible refine s_ext21 ?_) | (with_reducible refine s_ext30 ?_) | (with_reducible refine s_ext31 ?_) | (with_reducible refine s_ext32 ?_) | (with_reducible refine s_ext40 ?_) | (with_reducible refine s_ext41 ?_) | (with_reducible refine s_ext42 ?_) | (with_reducible refine s_ext43 ?_) | (with_reducible refine s_fld ?_) | (with_reducible refine s_lenS ?_) | (with_reducible refine s_lenT ?_) | (with_reducible refine s_eq ?_) | (with_reducible refine s_ne ?_) | (with_reducible refine s_lt ?_) | (with_reducible refine s_le ?_) | (with_reducible refine s_gt ?_) | (with_reducible refine s_ge ?_) | (with_reducible refine s_eqs ?_) | (with_reducible refine s_nes ?_) | (with_reducible refine s_eqb ?_) | (with_reducible refine s_neb ?_) | (with_reducible refine s_eqp ?_) | (with_reducible refine s_nep ?_) | (with_reducible refine s_not ?_) | (with_reducible refine s_min ?_) | (with_reducible refine s_max ?_) | ((with_reducible apply s_ld hS); (focus (first | exact .hd | exact .tl .hd | exact .tl (.tl .hd) | exact .tl (.tl (.tl .hd)) | exact .tl (.tl (.tl (.tl .hd))) | exact .tl (.tl (.tl (.tl (.tl .hd)))) | exact .tl (.tl (.tl (.tl (.tl (.tl .hd))))) | exact .tl (.tl (.tl (.tl (.tl (.tl (.tl .hd)))))))); (focus rfl)) | ((with_reducible apply s_add1); (focus omega)) | ((with_reducible apply s_addn); (focus omega)) | ((with_reducible apply s_add); (focus omega)) | ((with_reducible apply s_remn); (focus omega)) | ((with_reducible apply s_sub); (focus omega)) | ((with_reducible apply s_st hS); (focus (repeat (first | exact Upd.hd | apply Upd.tl))); (focus rfl); (focus (first | rfl | assumption)); clear hS; intro w hS; simp only [List.set] at hS) | ((with_reducible refine s_draw hS ?_); clear hS; intro w hS) | ((with_reducible refine s_new hS ?_); clear hS; intro b w hS) | ((with_reducible apply s_stN0 hS); (focus (repeat (first | exact Upd.hd | apply Upd.tl))); (focus rfl); (focus rfl); (focus (simp [Value.oneCell']; done)); clear hS; intro w hS) | ((with_reducible apply s_ldN0 hS); (focus (first | exact .hd | exact .tl .hd | exact .tl (.tl .hd) | exact .tl (.tl (.tl .hd)) | exact .tl (.tl (.tl (.tl .hd))) | exact .tl (.tl (.tl (.tl (.tl .hd)))) | exact .tl (.tl (.tl (.tl (.tl (.tl .hd))))) | exact .tl (.tl (.tl (.tl (.tl (.tl (.tl .hd)))))))); (focus rfl)) | ((with_reducible apply s_bld); (focus (simp [fillL, Value.cells]; rfl))) | ((with_reducible apply s_bldS hS); (focus (simp [fillL, Value.cells, zrow]; rfl)); clear hS; intro b w hS) | (with_reducible refine s_ift ?_) | (with_reducible refine s_iff ?_) | (with_reducible refine s_same ?_)))
  refine s_iff ?_
  have hS := OwnSl.nil (t := 97) (sz := 3) hS
  have hS := (RDO.iff (H := H) (s := s00)).2 ⟨Value.slice none 0 0, [], ⟨rfl, fun y hy => by cases hy⟩, SL.into hS (t := .pt xp [.slice none 0 0, .int .i64 0, .bool false, .int .i64 0] 52 :: .ob (OwnSl (.slice none 0 0) 97 3 0 []) :: .ob (DskO dp s00) :: .mem H :: F) (by ((try simp only [app]); repeat (first | (with_reducible exact Into.refl) | ((with_reducible apply Into.cons); (focus ((repeat (first | (with_reducible exact Rem.hd) | (with_reducible apply Rem.tl))); done))) | (with_reducible apply Into.drop))))⟩
  refine ⟨fun us w => ∃ (i : Nat) (H2 : Heap) (s : DS), us = [.int .i64 i] ∧ i ≤ l.length ∧ i ≤ 60 ∧ H.le H2 ∧ s.Ok (i * M) ∧ s.ops ≤ i ∧ s.R.length ≤ i ∧ SL W (.ob (DskO dp s) :: .ob (RDO H2 xp s) :: .mem H2 :: F) w,
    fun us _ => match us with | [.int _ i] => (l.length - i).toNat | _ => 0, ⟨0, H, s00, rfl, by omega, by omega, Heap.le_refl H, s00_ok _, by simp [s00], by simp [s00], SL.into hS (by ((try simp only [app]); repeat (first | (with_reducible exact Into.refl) | ((with_reducible apply Into.cons); (focus ((repeat (first | (with_reducible exact Rem.hd) | (with_reducible apply Rem.tl))); done))) | (with_reducible apply Into.drop))))⟩, ?_⟩
  clear hS
  rintro v5 w ⟨i, H2, s, hus, hi, hi60, h02, hok2, hops, hRl, hS⟩
  cases hus
  have hN : i * M ≤ 60 * M := Nat.mul_le_mul_right _ hi60
  have hN1 : (i + 1) * M = i * M + M := by rw [Nat.add_mul, Nat.one_mul]
  have hg1 : getK PF.id s.R (-1) = none := (getK_none hok2.sorted).2 fun x hx e => by have := hok2.ids x hx; omega
  have hg2 : getK PF.id s.R 16384 = none := (getK_none hok2.sorted).2 fun x hx e => by have := hok2.ids x hx; omega
  have hg3 : getK PF.id s.R (-5) = none := (getK_none hok2.sorted).2 fun x hx e => by have := hok2.ids x hx; omega
  have hend : ∀ w, SL W (.ob (DskO dp s) :: .ob (RDO H2 xp s) :: .mem H2 :: F) w → HCall Try.prog 17 [.pointer (some ⟨dp, 0, none⟩), .int .i64 (-1)] w fun v39 w_6 =>
      HExt 0 v39 fun v40 => HExt 1 v39 fun v41 => HCall Try.prog 20 [] w_6 fun v42 w_7 =>
      HIf v42
      (HNot v41 fun v45 => HIf v45
        (HCall Try.prog 30 [.pointer (some ⟨dp, 0, none⟩), .int .i64 16384] w_7 fun v49 w_8 => HBin .eql v49 (.int .i64 (-1)) fun v50 => HIf v50
          (HCall Try.prog 25 [.pointer (some ⟨dp, 0, none⟩), .int .i64 (-5)] w_8 fun v54 w_9 => HBin .eql v54 (.int .i64 (-1)) fun v55 =>
            ∃ post, (v55 = .bool true ∧ ∃ H' l, H.le H' ∧ post = .mem H' :: l) ∧ SL W (app post F) w_9)
          (∃ post, ((.bool false : Value) = .bool true ∧ ∃ H' l, H.le H' ∧ post = .mem H' :: l) ∧ SL W (app post F) w_8))
        (∃ post, ((.bool false : Value) = .bool true ∧ ∃ H' l, H.le H' ∧ post = .mem H' :: l) ∧ SL W (app post F) w_7))
      (∃ post, ((.bool false : Value) = .bool true ∧ ∃ H' l, H.le H' ∧ post = .mem H' :: l) ∧ SL W (app post F) w_7) := fun w hS => by
    (apply s_call (readD_spec dp s _ hok2 (by omega) (-1)) hS; (focus (repeat (first | (with_reducible exact Pick.nil) | ((with_reducible apply Pick.cons); (focus ((repeat (first | (with_reducible exact Rem.hd) | (with_reducible apply Rem.tl))); done)))))); clear hS)
    rintro v post hq w hS
    unfold ReadQ at hq
    rw [hg1] at hq
    obtain ⟨rfl, rfl⟩ := hq
    (try simp only [app] at hS)
    (repeat (first | (with_reducible refine s_nil ?_) | (with_reducible refine s_ext20 ?_) | (with_reducible refine s_ext21 ?_) | (with_reducible refine s_ext30 ?_) | (with_reducible refine s_ext31 ?_) | (with_reducible refine s_ext32 ?_) | (with_reducible refine s_ext40 ?_) | (with_reducible refine s_ext41 ?_) | (with_reducible refine s_ext42 ?_) | (with_reducible refine s_ext43 ?_) | (with_reducible refine s_fld ?_) | (with_reducible refine s_lenS ?_) | (with_reducible refine s_lenT ?_) | (with_reducible refine s_eq ?_) | (with_reducible refine s_ne ?_) | (with_reducible refine s_lt ?_) | (with_reducible refine s_le ?_) | (with_reducible refine s_gt ?_) | (with_reducible refine s_ge ?_) | (with_reducible refine s_eqs ?_) | (with_reducible refine s_nes ?_) | (with_reducible refine s_eqb ?_) | (with_reducible refine s_neb ?_) | (with_reducible refine s_eqp ?_) | (with_reducible refine s_nep ?_) | (with_reducible refine s_not ?_) | (with_reducible refine s_min ?_) | (with_reducible refine s_max ?_) | ((with_reducible apply s_ld hS); (focus (first | exact .hd | exact .tl .hd | exact .tl (.tl .hd) | exact .tl (.tl (.tl .hd)) | exact .tl (.tl (.tl (.tl .hd))) | exact .tl (.tl (.tl (.tl (.tl .hd)))) | exact .tl (.tl (.tl (.tl (.tl (.tl .hd))))) | exact .tl (.tl (.tl (.tl (.tl (.tl (.tl .hd)))))))); (focus rfl)) | ((with_reducible apply s_add1); (focus omega)) | ((with_reducible apply s_addn); (focus omega)) | ((with_reducible apply s_add); (focus omega)) | ((with_reducible apply s_remn); (focus omega)) | ((with_reducible apply s_sub); (focus omega)) | ((with_reducible apply s_st hS); (focus (repeat (first | exact Upd.hd | apply Upd.tl))); (focus rfl); (focus (first | rfl | assumption)); clear hS; intro w hS; simp only [List.set] at hS) | ((with_reducible refine s_draw hS ?_); clear hS; intro w hS) | ((with_reducible refine s_new hS ?_); clear hS; intro b w hS) | ((with_reducible apply s_stN0 hS); (focus (repeat (first | exact Upd.hd | apply Upd.tl))); (focus rfl); (focus rfl); (focus (simp [Value.oneCell']; done)); clear hS; intro w hS) | ((with_reducible apply s_ldN0 hS); (focus (first | exact .hd | exact .tl .hd | exact .tl (.tl .hd) | exact .tl (.tl (.tl .hd)) | exact .tl (.tl (.tl (.tl .hd))) | exact .tl (.tl (.tl (.tl (.tl .hd)))) | exact .tl (.tl (.tl (.tl (.tl (.tl .hd))))) | exact .tl (.tl (.tl (.tl (.tl (.tl (.tl .hd)))))))); (focus rfl)) | ((with_reducible apply s_bld); (focus (simp [fillL, Value.cells]; rfl))) | ((with_reducible apply s_bldS hS); (focus (simp [fillL, Value.cells, zrow]; rfl)); clear hS; intro b w hS) | (with_reducible refine s_ift ?_) | (with_reducible refine s_iff ?_) | (with_reducible refine s_same ?_)))
    (apply s_call (awake04_spec H2) hS; (focus (repeat (first | (with_reducible exact Pick.nil) | ((with_reducible apply Pick.cons); (focus ((repeat (first | (with_reducible exact Rem.hd) | (with_reducible apply Rem.tl))); done)))))); clear hS)
    rintro _ post ⟨rfl, H3, h23, rfl⟩ w hS
    (try simp only [app] at hS)
    refine s_ift ?_
    refine s_not (s_ift ?_)
    (apply s_call (lenD_spec dp s 16384) hS; (focus (repeat (first | (with_reducible exact Pick.nil) | ((with_reducible apply Pick.cons); (focus ((repeat (first | (with_reducible exact Rem.hd) | (with_reducible apply Rem.tl))); done)))))); clear hS)
    (rintro v post ⟨rfl, rfl⟩ w hS; (try simp only [app] at hS); (repeat (first | (with_reducible refine s_nil ?_) | (with_reducible refine s_ext20 ?_) | (with_reducible refine s_ext21 ?_) | (with_reducible refine s_ext30 ?_) | (with_reducible refine s_ext31 ?_) | (with_reducible refine s_ext32 ?_) | (with_reducible refine s_ext40 ?_) | (with_reducible refine s_ext41 ?_) | (with_reducible refine s_ext42 ?_) | (with_reducible refine s_ext43 ?_) | (with_reducible refine s_fld ?_) | (with_reducible refine s_lenS ?_) | (with_reducible refine s_lenT ?_) | (with_reducible refine s_eq ?_) | (with_reducible refine s_ne ?_) | (with_reducible refine s_lt ?_) | (with_reducible refine s_le ?_) | (with_reducible refine s_gt ?_) | (with_reducible refine s_ge ?_) | (with_reducible refine s_eqs ?_) | (with_reducible refine s_nes ?_) | (with_reducible refine s_eqb ?_) | (with_reducible refine s_neb ?_) | (with_reducible refine s_eqp ?_) | (with_reducible refine s_nep ?_) | (with_reducible refine s_not ?_) | (with_reducible refine s_min ?_) | (with_reducible refine s_max ?_) | ((with_reducible apply s_ld hS); (focus (first | exact .hd | exact .tl .hd | exact .tl (.tl .hd) | exact .tl (.tl (.tl .hd)) | exact .tl (.tl (.tl (.tl .hd))) | exact .tl (.tl (.tl (.tl (.tl .hd)))) | exact .tl (.tl (.tl (.tl (.tl (.tl .hd))))) | exact .tl (.tl (.tl (.tl (.tl (.tl (.tl .hd)))))))); (focus rfl)) | ((with_reducible apply s_add1); (focus omega)) | ((with_reducible apply s_addn); (focus omega)) | ((with_reducible apply s_add); (focus omega)) | ((with_reducible apply s_remn); (focus omega)) | ((with_reducible apply s_sub); (focus omega)) | ((with_reducible apply s_st hS); (focus (repeat (first | exact Upd.hd | apply Upd.tl))); (focus rfl); (focus (first | rfl | assumption)); clear hS; intro w hS; simp only [List.set] at hS) | ((with_reducible refine s_draw hS ?_); clear hS; intro w hS) | ((with_reducible refine s_new hS ?_); clear hS; intro b w hS) | ((with_reducible apply s_stN0 hS); (focus (repeat (first | exact Upd.hd | apply Upd.tl))); (focus rfl); (focus rfl); (focus (simp [Value.oneCell']; done)); clear hS; intro w hS) | ((with_reducible apply s_ldN0 hS); (focus (first | exact .hd | exact .tl .hd | exact .tl (.tl .hd) | exact .tl (.tl (.tl .hd)) | exact .tl (.tl (.tl (.tl .hd))) | exact .tl (.tl (.tl (.tl (.tl .hd)))) | exact .tl (.tl (.tl (.tl (.tl (.tl .hd))))) | exact .tl (.tl (.tl (.tl (.tl (.tl (.tl .hd)))))))); (focus rfl)) | ((with_reducible apply s_bld); (focus (simp [fillL, Value.cells]; rfl))) | ((with_reducible apply s_bldS hS); (focus (simp [fillL, Value.cells, zrow]; rfl)); clear hS; intro b w hS) | (with_reducible refine s_ift ?_) | (with_reducible refine s_iff ?_) | (with_reducible refine s_same ?_))))
    have e1 : lenF s.R 16384 = -1 := by unfold lenF; rw [hg2]
    rw [e1]
    refine s_ifp (fun _ => ?_) (fun h => absurd rfl h)
    (apply s_call (syncedD_spec dp s (-5)) hS; (focus (repeat (first | (with_reducible exact Pick.nil) | ((with_reducible apply Pick.cons); (focus ((repeat (first | (with_reducible exact Rem.hd) | (with_reducible apply Rem.tl))); done)))))); clear hS)
    (rintro v post ⟨rfl, rfl⟩ w hS; (try simp only [app] at hS); (repeat (first | (with_reducible refine s_nil ?_) | (with_reducible refine s_ext20 ?_) | (with_reducible refine s_ext21 ?_) | (with_reducible refine s_ext30 ?_) | (with_reducible refine s_ext31 ?_) | (with_reducible refine s_ext32 ?_) | (with_reducible refine s_ext40 ?_) | (with_reducible refine s_ext41 ?_) | (with_reducible refine s_ext42 ?_) | (with_reducible refine s_ext43 ?_) | (with_reducible refine s_fld ?_) | (with_reducible refine s_lenS ?_) | (with_reducible refine s_lenT ?_) | (with_reducible refine s_eq ?_) | (with_reducible refine s_ne ?_) | (with_reducible refine s_lt ?_) | (with_reducible refine s_le ?_) | (with_reducible refine s_gt ?_) | (with_reducible refine s_ge ?_) | (with_reducible refine s_eqs ?_) | (with_reducible refine s_nes ?_) | (with_reducible refine s_eqb ?_) | (with_reducible refine s_neb ?_) | (with_reducible refine s_eqp ?_) | (with_reducible refine s_nep ?_) | (with_reducible refine s_not ?_) | (with_reducible refine s_min ?_) | (with_reducible refine s_max ?_) | ((with_reducible apply s_ld hS); (focus (first | exact .hd | exact .tl .hd | exact .tl (.tl .hd) | exact .tl (.tl (.tl .hd)) | exact .tl (.tl (.tl (.tl .hd))) | exact .tl (.tl (.tl (.tl (.tl .hd)))) | exact .tl (.tl (.tl (.tl (.tl (.tl .hd))))) | exact .tl (.tl (.tl (.tl (.tl (.tl (.tl .hd)))))))); (focus rfl)) | ((with_reducible apply s_add1); (focus omega)) | ((with_reducible apply s_addn); (focus omega)) | ((with_reducible apply s_add); (focus omega)) | ((with_reducible apply s_remn); (focus omega)) | ((with_reducible apply s_sub); (focus omega)) | ((with_reducible apply s_st hS); (focus (repeat (first | exact Upd.hd | apply Upd.tl))); (focus rfl); (focus (first | rfl | assumption)); clear hS; intro w hS; simp only [List.set] at hS) | ((with_reducible refine s_draw hS ?_); clear hS; intro w hS) | ((with_reducible refine s_new hS ?_); clear hS; intro b w hS) | ((with_reducible apply s_stN0 hS); (focus (repeat (first | exact Upd.hd | apply Upd.tl))); (focus rfl); (focus rfl); (focus (simp [Value.oneCell']; done)); clear hS; intro w hS) | ((with_reducible apply s_ldN0 hS); (focus (first | exact .hd | exact .tl .hd | exact .tl (.tl .hd) | exact .tl (.tl (.tl .hd)) | exact .tl (.tl (.tl (.tl .hd))) | exact .tl (.tl (.tl (.tl (.tl .hd)))) | exact .tl (.tl (.tl (.tl (.tl (.tl .hd))))) | exact .tl (.tl (.tl (.tl (.tl (.tl (.tl .hd)))))))); (focus rfl)) | ((with_reducible apply s_bld); (focus (simp [fillL, Value.cells]; rfl))) | ((with_reducible apply s_bldS hS); (focus (simp [fillL, Value.cells, zrow]; rfl)); clear hS; intro b w hS) | (with_reducible refine s_ift ?_) | (with_reducible refine s_iff ?_) | (with_reducible refine s_same ?_))))
    have e2 : safeF s.R (-5) = -1 := by unfold safeF; rw [hg3]
    rw [e2]
    exact ⟨_, ⟨rfl, H3, [], Heap.le_trans h02 h23, rfl⟩, SL.into hS (by ((try simp only [app]); repeat (first | (with_reducible exact Into.refl) | ((with_reducible apply Into.cons); (focus ((repeat (first | (with_reducible exact Rem.hd) | (with_reducible apply Rem.tl))); done))) | (with_reducible apply Into.drop))))⟩
  refine s_lenR hxr ?_
  (repeat (first | (with_reducible refine s_nil ?_) | (with_reducible refine s_ext20 ?_) | (with_reducible refine s_ext21 ?_) | (with_reducible refine s_ext30 ?_) | (with_reducible refine s_ext31 ?_) | (with_reducible refine s_ext32 ?_) | (with_reducible refine s_ext40 ?_) | (with_reducible refine s_ext41 ?_) | (with_reducible refine s_ext42 ?_) | (with_reducible refine s_ext43 ?_) | (with_reducible refine s_fld ?_) | (with_reducible refine s_lenS ?_) | (with_reducible refine s_lenT ?_) | (with_reducible refine s_eq ?_) | (with_reducible refine s_ne ?_) | (with_reducible refine s_lt ?_) | (with_reducible refine s_le ?_) | (with_reducible refine s_gt ?_) | (with_reducible refine s_ge ?_) | (with_reducible refine s_eqs ?_) | (with_reducible refine s_nes ?_) | (with_reducible refine s_eqb ?_) | (with_reducible refine s_neb ?_) | (with_reducible refine s_eqp ?_) | (with_reducible refine s_nep ?_) | (with_reducible refine s_not ?_) | (with_reducible refine s_min ?_) | (with_reducible refine s_max ?_) | ((with_reducible apply s_ld hS); (focus (first | exact .hd | exact .tl .hd | exact .tl (.tl .hd) | exact .tl (.tl (.tl .hd)) | exact .tl (.tl (.tl (.tl .hd))) | exact .tl (.tl (.tl (.tl (.tl .hd)))) | exact .tl (.tl (.tl (.tl (.tl (.tl .hd))))) | exact .tl (.tl (.tl (.tl (.tl (.tl (.tl .hd)))))))); (focus rfl)) | ((with_reducible apply s_add1); (focus omega)) | ((with_reducible apply s_addn); (focus omega)) | ((with_reducible apply s_add); (focus omega)) | ((with_reducible apply s_remn); (focus omega)) | ((with_reducible apply s_sub); (focus omega)) | ((with_reducible apply s_st hS); (focus (repeat (first | exact Upd.hd | apply Upd.tl))); (focus rfl); (focus (first | rfl | assumption)); clear hS; intro w hS; simp only [List.set] at hS) | ((with_reducible refine s_draw hS ?_); clear hS; intro w hS) | ((with_reducible refine s_new hS ?_); clear hS; intro b w hS) | ((with_reducible apply s_stN0 hS); (focus (repeat (first | exact Upd.hd | apply Upd.tl))); (focus rfl); (focus rfl); (focus (simp [Value.oneCell']; done)); clear hS; intro w hS) | ((with_reducible apply s_ldN0 hS); (focus (first | exact .hd | exact .tl .hd | exact .tl (.tl .hd) | exact .tl (.tl (.tl .hd)) | exact .tl (.tl (.tl (.tl .hd))) | exact .tl (.tl (.tl (.tl (.tl .hd)))) | exact .tl (.tl (.tl (.tl (.tl (.tl .hd))))) | exact .tl (.tl (.tl (.tl (.tl (.tl (.tl .hd)))))))); (focus rfl)) | ((with_reducible apply s_bld); (focus (simp [fillL, Value.cells]; rfl))) | ((with_reducible apply s_bldS hS); (focus (simp [fillL, Value.cells, zrow]; rfl)); clear hS; intro b w hS) | (with_reducible refine s_ift ?_) | (with_reducible refine s_iff ?_) | (with_reducible refine s_same ?_)))
  refine s_ifp (fun h => ?_) (fun h => hend w hS)
  (repeat (first | (with_reducible refine s_nil ?_) | (with_reducible refine s_ext20 ?_) | (with_reducible refine s_ext21 ?_) | (with_reducible refine s_ext30 ?_) | (with_reducible refine s_ext31 ?_) | (with_reducible refine s_ext32 ?_) | (with_reducible refine s_ext40 ?_) | (with_reducible refine s_ext41 ?_) | (with_reducible refine s_ext42 ?_) | (with_reducible refine s_ext43 ?_) | (with_reducible refine s_fld ?_) | (with_reducible refine s_lenS ?_) | (with_reducible refine s_lenT ?_) | (with_reducible refine s_eq ?_) | (with_reducible refine s_ne ?_) | (with_reducible refine s_lt ?_) | (with_reducible refine s_le ?_) | (with_reducible refine s_gt ?_) | (with_reducible refine s_ge ?_) | (with_reducible refine s_eqs ?_) | (with_reducible refine s_nes ?_) | (with_reducible refine s_eqb ?_) | (with_reducible refine s_neb ?_) | (with_reducible refine s_eqp ?_) | (with_reducible refine s_nep ?_) | (with_reducible refine s_not ?_) | (with_reducible refine s_min ?_) | (with_reducible refine s_max ?_) | ((with_reducible apply s_ld hS); (focus (first | exact .hd | exact .tl .hd | exact .tl (.tl .hd) | exact .tl (.tl (.tl .hd)) | exact .tl (.tl (.tl (.tl .hd))) | exact .tl (.tl (.tl (.tl (.tl .hd)))) | exact .tl (.tl (.tl (.tl (.tl (.tl .hd))))) | exact .tl (.tl (.tl (.tl (.tl (.tl (.tl .hd)))))))); (focus rfl)) | ((with_reducible apply s_add1); (focus omega)) | ((with_reducible apply s_addn); (focus omega)) | ((with_reducible apply s_add); (focus omega)) | ((with_reducible apply s_remn); (focus omega)) | ((with_reducible apply s_sub); (focus omega)) | ((with_reducible apply s_st hS); (focus (repeat (first | exact Upd.hd | apply Upd.tl))); (focus rfl); (focus (first | rfl | assumption)); clear hS; intro w hS; simp only [List.set] at hS) | ((with_reducible refine s_draw hS ?_); clear hS; intro w hS) | ((with_reducible refine s_new hS ?_); clear hS; intro b w hS) | ((with_reducible apply s_stN0 hS); (focus (repeat (first | exact Upd.hd | apply Upd.tl))); (focus rfl); (focus rfl); (focus (simp [Value.oneCell']; done)); clear hS; intro w hS) | ((with_reducible apply s_ldN0 hS); (focus (first | exact .hd | exact .tl .hd | exact .tl (.tl .hd) | exact .tl (.tl (.tl .hd)) | exact .tl (.tl (.tl (.tl .hd))) | exact .tl (.tl (.tl (.tl (.tl .hd)))) | exact .tl (.tl (.tl (.tl (.tl (.tl .hd))))) | exact .tl (.tl (.tl (.tl (.tl (.tl (.tl .hd)))))))); (focus rfl)) | ((with_reducible apply s_bld); (focus (simp [fillL, Value.cells]; rfl))) | ((with_reducible apply s_bldS hS); (focus (simp [fillL, Value.cells, zrow]; rfl)); clear hS; intro b w hS) | (with_reducible refine s_ift ?_) | (with_reducible refine s_iff ?_) | (with_reducible refine s_same ?_)))
  refine s_ifp (fun h8 => ?_) (fun h8 => hend w hS)
  clear hend
  have hil : i < l.length := by omega
  have hix : i < xs.length := by omega
  obtain ⟨hokn, hbl⟩ := hok l[i] (List.getElem_mem hil)
  have hx := (hxi i hil hix).mono h02
  refine s_getN hS (by (first | exact .hd | exact .tl .hd | exact .tl (.tl .hd) | exact .tl (.tl (.tl .hd)) | exact .tl (.tl (.tl (.tl .hd))) | exact .tl (.tl (.tl (.tl (.tl .hd)))) | exact .tl (.tl (.tl (.tl (.tl (.tl .hd))))) | exact .tl (.tl (.tl (.tl (.tl (.tl (.tl .hd)))))))) encOp4_len (hxr.mono h02) (x := xs[i]) (by simp [hix]) hil ?_
  have hb := hx.bv.toB hokn.2
  have hn := (inK_i64 hokn.1).2
  rw [← hx.n] at hn
  have hbl2 : (l[i].b.map toB).length ≤ M := by rw [List.length_map]; exact hbl
  have hD := do_spec H2 dp xp s (i * M) hok2 (by omega) (by omega) xs[i].kind xs[i].f xs[i].n hn xs[i].bv xs[i].kv (l[i].b.map toB) l[i].keep hb hx.kv (by omega)
  unfold encOp4
  (apply s_call (hD) hS; (focus (repeat (first | (with_reducible exact Pick.nil) | ((with_reducible apply Pick.cons); (focus ((repeat (first | (with_reducible exact Rem.hd) | (with_reducible apply Rem.tl))); done)))))); clear hS)
  rintro _ post ⟨rfl, s', H3, hnx, h23, rfl⟩ w hS
  (try simp only [app] at hS)
  refine s_not (s_iff ?_)
  have hops' := hnx.ops
  have hRl' := hnx.len
  have hok3 : s'.Ok ((i + 1) * M) := hnx.ok.mono (by rw [hN1]; omega)
  (apply s_call (alike_spec H3 dp xp s' ((i + 1) * M) hok3 (by rw [hN1]; omega) (by omega)) hS; (focus (repeat (first | (with_reducible exact Pick.nil) | ((with_reducible apply Pick.cons); (focus ((repeat (first | (with_reducible exact Rem.hd) | (with_reducible apply Rem.tl))); done)))))); clear hS)
  rintro _ post ⟨rfl, H4, h34, rfl⟩ w hS
  (try simp only [app] at hS)
  refine s_not (s_iff ?_)
  (repeat (first | (with_reducible refine s_nil ?_) | (with_reducible refine s_ext20 ?_) | (with_reducible refine s_ext21 ?_) | (with_reducible refine s_ext30 ?_) | (with_reducible refine s_ext31 ?_) | (with_reducible refine s_ext32 ?_) | (with_reducible refine s_ext40 ?_) | (with_reducible refine s_ext41 ?_) | (with_reducible refine s_ext42 ?_) | (with_reducible refine s_ext43 ?_) | (with_reducible refine s_fld ?_) | (with_reducible refine s_lenS ?_) | (with_reducible refine s_lenT ?_) | (with_reducible refine s_eq ?_) | (with_reducible refine s_ne ?_) | (with_reducible refine s_lt ?_) | (with_reducible refine s_le ?_) | (with_reducible refine s_gt ?_) | (with_reducible refine s_ge ?_) | (with_reducible refine s_eqs ?_) | (with_reducible refine s_nes ?_) | (with_reducible refine s_eqb ?_) | (with_reducible refine s_neb ?_) | (with_reducible refine s_eqp ?_) | (with_reducible refine s_nep ?_) | (with_reducible refine s_not ?_) | (with_reducible refine s_min ?_) | (with_reducible refine s_max ?_) | ((with_reducible apply s_ld hS); (focus (first | exact .hd | exact .tl .hd | exact .tl (.tl .hd) | exact .tl (.tl (.tl .hd)) | exact .tl (.tl (.tl (.tl .hd))) | exact .tl (.tl (.tl (.tl (.tl .hd)))) | exact .tl (.tl (.tl (.tl (.tl (.tl .hd))))) | exact .tl (.tl (.tl (.tl (.tl (.tl (.tl .hd)))))))); (focus rfl)) | ((with_reducible apply s_add1); (focus omega)) | ((with_reducible apply s_addn); (focus omega)) | ((with_reducible apply s_add); (focus omega)) | ((with_reducible apply s_remn); (focus omega)) | ((with_reducible apply s_sub); (focus omega)) | ((with_reducible apply s_st hS); (focus (repeat (first | exact Upd.hd | apply Upd.tl))); (focus rfl); (focus (first | rfl | assumption)); clear hS; intro w hS; simp only [List.set] at hS) | ((with_reducible refine s_draw hS ?_); clear hS; intro w hS) | ((with_reducible refine s_new hS ?_); clear hS; intro b w hS) | ((with_reducible apply s_stN0 hS); (focus (repeat (first | exact Upd.hd | apply Upd.tl))); (focus rfl); (focus rfl); (focus (simp [Value.oneCell']; done)); clear hS; intro w hS) | ((with_reducible apply s_ldN0 hS); (focus (first | exact .hd | exact .tl .hd | exact .tl (.tl .hd) | exact .tl (.tl (.tl .hd)) | exact .tl (.tl (.tl (.tl .hd))) | exact .tl (.tl (.tl (.tl (.tl .hd)))) | exact .tl (.tl (.tl (.tl (.tl (.tl .hd))))) | exact .tl (.tl (.tl (.tl (.tl (.tl (.tl .hd)))))))); (focus rfl)) | ((with_reducible apply s_bld); (focus (simp [fillL, Value.cells]; rfl))) | ((with_reducible apply s_bldS hS); (focus (simp [fillL, Value.cells, zrow]; rfl)); clear hS; intro b w hS) | (with_reducible refine s_ift ?_) | (with_reducible refine s_iff ?_) | (with_reducible refine s_same ?_)))
  exact ⟨⟨i + 1, H4, s', by simp, by omega, by omega, Heap.le_trans h02 (Heap.le_trans h23 h34), hok3, by omega, by omega, SL.into hS (by ((try simp only [app]); repeat (first | (with_reducible exact Into.refl) | ((with_reducible apply Into.cons); (focus ((repeat (first | (with_reducible exact Rem.hd) | (with_reducible apply Rem.tl))); done))) | (with_reducible apply Into.drop))))⟩, by dsimp only; omega⟩

/-! ### The argument -/
def tOp4 : GoT Op4 := (tPair (tInt .i64) (tPair (tInt .i64) (tPair (tInt .i64) (tPair (tSlice (tInt .u8)) (tPair (tSlice (tInt .i64)) tUnit))))).via fun o => (o.kind, o.f, o.n, o.b, o.keep, ())
theorem tOp4_rd {w : World} {o : Op4} {cs : List Value} (h : tOp4.rd w Nob o cs) : ∃ x : Op4V, cs = encOp4 x ∧ Op4Is (Heap.of w) x o := by
  obtain ⟨c1, c2, rfl, h1, c3, c4, rfl, h3, c5, c6, rfl, h5, c7, c8, rfl, h7, c9, c10, rfl, h9, h10⟩ := h
  have h1' : c1 = [.int .i64 o.kind] := h1
  have h3' : c3 = [.int .i64 o.f] := h3
  have h5' : c5 = [.int .i64 o.n] := h5
  obtain ⟨bv, h7', hbv⟩ : ∃ v, c7 = [v] ∧ RdS (tInt .u8) w Nob o.b v := h7
  obtain ⟨kv, h9', hkv⟩ : ∃ v, c9 = [v] ∧ RdS (tInt .i64) w Nob o.keep v := h9
  have h10' : c10 = [] := h10
  subst h1' h3' h5' h7' h9' h10'
  exact ⟨⟨o.kind, o.f, o.n, bv, kv⟩, rfl, rfl, hbv.ints, hkv.ints⟩
theorem RdOp4.of {w : World} {l : List Op4} {v : Value} (h : RdS tOp4 w Nob l v) : RdOp4 (Heap.of w) v l := by
  obtain ⟨css, h1, h2, h3⟩ := RdS.cellsN h (by decide)
  have hex : ∀ i, ∃ x : Op4V, ∀ (h : i < l.length) (h' : i < css.length), css[i] = encOp4 x ∧ Op4Is (Heap.of w) x l[i] := fun i => by
    by_cases hi : i < l.length
    · obtain ⟨x, e, hx⟩ := tOp4_rd (h3 i hi (by omega))
      exact ⟨x, fun _ _ => ⟨e, hx⟩⟩
    · exact ⟨⟨0, 0, 0, .slice none 0 0, .slice none 0 0⟩, fun h => absurd h hi⟩
  obtain ⟨f, hf⟩ := Classical.axiomOfChoice hex
  refine ⟨(List.range l.length).map f, by simp, ?_, fun i hi hi' => by simpa using (hf i hi (by omega)).2⟩
  have e : css = ((List.range l.length).map f).map encOp4 := List.ext_getElem (by simp [h1]) fun i g1 g2 => by simpa using (hf i (by omega) g1).1
  rw [e] at h2
  exact h2
theorem sum_ones4 : ∀ l : List Int, (l.map fun _ => 1).sum = l.length
  | [] => rfl
  | x :: l => by rw [List.map_cons, List.sum_cons, sum_ones4 l, List.length_cons]; omega
theorem op4Opens : OpensB Try.prog 55 tOp4 okOp4 (fun o => 1 + o.b.length) :=
  opensB_ok (opensB_via (fun o : Op4 => (o.kind, o.f, o.n, o.b, o.keep, ())) (fun x => ⟨x.1, x.2.1, x.2.2.1, x.2.2.2.1, x.2.2.2.2.1⟩) (fun _ => rfl)
    (opensB_struct Try.underlying55 (by kernel_rfl) (fieldsB_cons (opensB_int Try.underlying3 (by kernel_rfl)) rfl (fieldsB_cons (opensB_int Try.underlying3 (by kernel_rfl)) rfl (fieldsB_cons (opensB_int Try.underlying3 (by kernel_rfl)) rfl
      (fieldsB_cons (opensB_slice (opensB_int Try.underlying5 (by kernel_rfl)) Try.underlying22 (by kernel_rfl) (by decide)) rfl
      (fieldsB_cons (opensB_slice (opensB_int Try.underlying3 (by kernel_rfl)) Try.underlying32 (by kernel_rfl) (by decide)) rfl (fieldsB_nil _ _))))))))
    (fun o h => ⟨h.2.2.1, h.2.2.2.1⟩) (fun o => by simp only [sum_ones4]; omega)
theorem sum_ge {α : Type} {f : α → Nat} : ∀ (l : List α) (x : α), x ∈ l → f x ≤ (l.map f).sum
  | y :: l, x, h => by
    rw [List.map_cons, List.sum_cons]
    rcases List.mem_cons.1 h with rfl | h
    · omega
    · have := sum_ge (f := f) l x h; omega
theorem sum_len {α : Type} {f : α → Nat} (h1 : ∀ x, 1 ≤ f x) : ∀ (l : List α), l.length ≤ (l.map f).sum
  | [] => Nat.zero_le _
  | y :: l => by
    rw [List.map_cons, List.sum_cons, List.length_cons]
    have := sum_len h1 l; have := h1 y; omega
theorem diskPlays_law (l : List Op4) (ok : ∀ o ∈ l, okOp4 o) (v : Value) (w : World) (hl : RdS tOp4 w Nob l v) (hs : (l.map fun o => 1 + o.b.length).sum ≤ 1048576) :
    Calls Try.prog 7 #[v] w fun e w' => e = .returned (.bool true) ∧ Below w.heap.size w w' :=
  (law_of_spec (diskPlays_spec 1048576 rfl (Heap.of w) v l (RdOp4.of hl) (Nat.le_trans (sum_len (fun o => by omega) l) hs) (fun o ho => ⟨ok o ho, by have := sum_ge (f := fun o : Op4 => 1 + o.b.length) l o ho; omega⟩))).calls
end Go.Proofs.Ythjnknpgcmmapaa
