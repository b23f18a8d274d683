/-
  Texts of the proof, joined: RLogS3, Law06, Law06D.
-/
import Derived.Test.YtmcglicbolhmfaaGreatJ9
namespace Go.Proofs.YtmcglicbolhmfaaGreat
set_option linter.unusedVariables false
set_option maxRecDepth 100000
open Go.RowKit

def ROpenQ (H : Heap) (xp : Nat) (y : DS × Except Int PLog) (r : Value) (post : List Chunk) : Prop := match y.2 with
  | .error e => e ≠ 0 ∧ r = .tuple #[.pointer none, .int .i64 e] ∧ ∃ H', H.le H' ∧ post = [.ob (RDO H' xp y.1), .mem H']
  | .ok g => ∃ (lp : Nat) (H' : Heap), H.le H' ∧ r = .tuple #[.pointer (some ⟨lp, 0, none⟩), .int .i64 0] ∧ post = [.ob (RLogO lp xp g), .ob (RDO H' xp y.1), .mem H']
/-- The row's cells behind the first so many segments, all whole, or the last one none. -/
structure RAt (R : List PF) (ids : List Int) (i : Nat) (L : List PSeg) (wh : Bool) (next : Int) (M : Nat) : Prop where
  le : i ≤ ids.length
  eq : loadsG R ids none [] true = loadsG R (ids.drop i) (if i = 0 then none else ids[i - 1]?) L wh
  len : (wh = true ∧ L.length = i) ∨ (wh = false ∧ i = ids.length ∧ L.length + 1 = i)
  next : 0 < i → wh = true → next = headG L + 1
  ok : ∀ s ∈ L, SegOk s M
/-- qanatref04.Open -/
theorem ropen_spec (H : Heap) (xp : Nat) (s : DS) (base size : Int) {N : Nat} (hok : s.Ok N) (hN : N ≤ 1000000000) (hR : s.R.length ≤ 100000) (hops : s.ops ≤ 100000) :
    Spec Tryz.prog 13 [.pointer (some ⟨xp, 0, none⟩), .int .i64 base, .int .i64 size] [.ob (RDO H xp s), .mem H] (ROpenQ H xp (openG s base size)) := by
  intro W F w hS; apply vc13; unfold Vc13; (try simp only [app] at hS)
  have hE : ∀ {w : World} {e : Int}, openG s base size = (s, .error e) → e ≠ 0 → SL W (.ob (RDO H xp s) :: .mem H :: F) w → ∃ post, ROpenQ H xp (openG s base size) (.tuple #[.pointer none, .int .i64 e]) post ∧ SL W (app post F) w := fun h he hS => ⟨[.ob (RDO H xp s), .mem H], by rw [h]; exact ⟨he, rfl, H, Heap.le_refl H, rfl⟩, hS⟩
  by_cases hbd : base < 0 ∨ 12288 < base ∨ size < 64 ∨ 65536 < size
  · have e : openG s base size = (s, .error 1) := by unfold openG; rw [if_pos hbd]
    (repeat (first | (with_reducible first | apply Q0 | refine Qa hS ?_ | refine Qb ?_ | refine Qc hS ?_ | refine Qd ?_) | ((with_reducible refine Qe hS ?_); clear hS; intro w hS; simp only [List.set] at hS) | ((with_reducible first | refine s_draw hS ?_ | refine Qf hS ?_); clear hS; intro w hS) | ((with_reducible first | refine s_new hS ?_ | refine Qg hS ?_); clear hS; intro b w hS)))
    refine s_ifp (fun h => hE e (by decide) hS) (fun h1 => ?_)
    (repeat (first | (with_reducible first | apply Q0 | refine Qa hS ?_ | refine Qb ?_ | refine Qc hS ?_ | refine Qd ?_) | ((with_reducible refine Qe hS ?_); clear hS; intro w hS; simp only [List.set] at hS) | ((with_reducible first | refine s_draw hS ?_ | refine Qf hS ?_); clear hS; intro w hS) | ((with_reducible first | refine s_new hS ?_ | refine Qg hS ?_); clear hS; intro b w hS)))
    refine s_ifp (fun h => hE e (by decide) hS) (fun h2 => ?_)
    (repeat (first | (with_reducible first | apply Q0 | refine Qa hS ?_ | refine Qb ?_ | refine Qc hS ?_ | refine Qd ?_) | ((with_reducible refine Qe hS ?_); clear hS; intro w hS; simp only [List.set] at hS) | ((with_reducible first | refine s_draw hS ?_ | refine Qf hS ?_); clear hS; intro w hS) | ((with_reducible first | refine s_new hS ?_ | refine Qg hS ?_); clear hS; intro b w hS)))
    refine s_ifp (fun h => hE e (by decide) hS) (fun h3 => ?_)
    (repeat (first | (with_reducible first | apply Q0 | refine Qa hS ?_ | refine Qb ?_ | refine Qc hS ?_ | refine Qd ?_) | ((with_reducible refine Qe hS ?_); clear hS; intro w hS; simp only [List.set] at hS) | ((with_reducible first | refine s_draw hS ?_ | refine Qf hS ?_); clear hS; intro w hS) | ((with_reducible first | refine s_new hS ?_ | refine Qg hS ?_); clear hS; intro b w hS)))
    refine s_ifp (fun h => hE e (by decide) hS) (fun h4 => by omega)
  · (repeat (first | (with_reducible first | apply Q0 | refine Qa hS ?_ | refine Qb ?_ | refine Qc hS ?_ | refine Qd ?_) | ((with_reducible refine Qe hS ?_); clear hS; intro w hS; simp only [List.set] at hS) | ((with_reducible first | refine s_draw hS ?_ | refine Qf hS ?_); clear hS; intro w hS) | ((with_reducible first | refine s_new hS ?_ | refine Qg hS ?_); clear hS; intro b w hS)))
    refine s_ifp (fun h => by omega) (fun _ => ?_)
    (repeat (first | (with_reducible first | apply Q0 | refine Qa hS ?_ | refine Qb ?_ | refine Qc hS ?_ | refine Qd ?_) | ((with_reducible refine Qe hS ?_); clear hS; intro w hS; simp only [List.set] at hS) | ((with_reducible first | refine s_draw hS ?_ | refine Qf hS ?_); clear hS; intro w hS) | ((with_reducible first | refine s_new hS ?_ | refine Qg hS ?_); clear hS; intro b w hS)))
    refine s_ifp (fun h => by omega) (fun _ => ?_)
    (repeat (first | (with_reducible first | apply Q0 | refine Qa hS ?_ | refine Qb ?_ | refine Qc hS ?_ | refine Qd ?_) | ((with_reducible refine Qe hS ?_); clear hS; intro w hS; simp only [List.set] at hS) | ((with_reducible first | refine s_draw hS ?_ | refine Qf hS ?_); clear hS; intro w hS) | ((with_reducible first | refine s_new hS ?_ | refine Qg hS ?_); clear hS; intro b w hS)))
    refine s_ifp (fun h => by omega) (fun _ => ?_)
    (repeat (first | (with_reducible first | apply Q0 | refine Qa hS ?_ | refine Qb ?_ | refine Qc hS ?_ | refine Qd ?_) | ((with_reducible refine Qe hS ?_); clear hS; intro w hS; simp only [List.set] at hS) | ((with_reducible first | refine s_draw hS ?_ | refine Qf hS ?_); clear hS; intro w hS) | ((with_reducible first | refine s_new hS ?_ | refine Qg hS ?_); clear hS; intro b w hS)))
    refine s_ifp (fun h => by omega) (fun _ => ?_)
    obtain ⟨fv, ys, ⟨he, hrb⟩, hS⟩ := RDO.iff.1 hS
    have hyl : ys.length = s.R.length := by rw [← he, List.length_map]
    have hcl : ∀ {w : World} {l F' : List Chunk}, SL W l w → Pick [.pt xp (rcells fv s) 28, .ob (FilesO fv ys)] l F' → SL W (.ob (RDO H xp s) :: F') w := fun h k => RDO.iff.2 ⟨fv, ys, ⟨he, hrb⟩, h.pick k⟩
    (repeat (first | (with_reducible first | apply Q0 | refine Qa hS ?_ | refine Qb ?_ | refine Qc hS ?_ | refine Qd ?_) | ((with_reducible refine Qe hS ?_); clear hS; intro w hS; simp only [List.set] at hS) | ((with_reducible first | refine s_draw hS ?_ | refine Qf hS ?_); clear hS; intro w hS) | ((with_reducible first | refine s_new hS ?_ | refine Qg hS ?_); clear hS; intro b w hS)))
    refine s_if (fun ho => ?_) (fun ho => ?_)
    · have e : openG s base size = (s, .error 8) := by unfold openG; rw [if_neg hbd, if_pos ho]
      exact hE e (by decide) (SL.into (hcl hS Xp) Xi)
    · have eo : openG s base size = match loadsG s.R (idsG base s.R) none [] true with
        | none => (s, .error 3)
        | some (L, whole) => if (beginG L s (idsG base s.R) whole).2 ≠ 0 then ((beginG L s (idsG base s.R) whole).1, .error (beginG L s (idsG base s.R) whole).2) else ((beginG L s (idsG base s.R) whole).1, .ok ⟨L, base, size, none⟩) := by
        unfold openG; rw [if_neg hbd, if_neg (by rw [ho]; decide)]; rfl
      have hi : ∀ f ∈ idsG base s.R, base ≤ f ∧ f < base + 4096 := fun f hf => idsG_mem hf
      have hil := idsG_len base s.R
      have hids := ownY_ids (base := base) he
      (repeat (first | (with_reducible first | apply Q0 | refine Qa hS ?_ | refine Qb ?_ | refine Qc hS ?_ | refine Qd ?_) | ((with_reducible refine Qe hS ?_); clear hS; intro w hS; simp only [List.set] at hS) | ((with_reducible first | refine s_draw hS ?_ | refine Qf hS ?_); clear hS; intro w hS) | ((with_reducible first | refine s_new hS ?_ | refine Qg hS ?_); clear hS; intro b w hS)))
      refine ⟨_, rfl, s_new hS ?_⟩
      clear hS; intro lp w hS
      (apply s_call (rown_spec H xp s fv ys hrb base (by omega) (by omega) (by omega)) hS; exact Xp; clear hS)
      rintro ov post rfl w hS; (try simp only [app] at hS)
      have hS := OwnSo.nil0 (a := none) (t := 90) (sz := 4) hS
      have hS := HAll.nil (A := XSegO) hS
      have hS := SL.into hS (t := .pt lp (rlcells (.slice none 0 0) xp base size (-1)) 85 :: .ob (OwnSo (.slice none 0 0) 90 4 0 []) :: .ob (HAll XSegO []) :: .ob (FilesO ov (ownY base ys)) :: .pt xp (rcells fv s) 28 :: .ob (FilesO fv ys) :: .mem H :: F) Xi
      have hS := (RLogO.iff (g := ⟨[], base, size, none⟩)).2 ⟨_, [], rfl, hS⟩
      have hzm : ∀ y ∈ ownY base ys, y ∈ ys := fun y hy => ownY_mem hy
      generalize hzs : ownY base ys = zs at *
      generalize hidd : idsG base s.R = ids at *
      have hzl : zs.length = ids.length := by rw [← hids, List.length_map]
      have hget : ∀ j (h : j < zs.length) (h' : j < ids.length), ids[j] = zs[j].1.id := fun j h h' => by
        have : ids[j]? = some zs[j].1.id := by rw [← hids, List.getElem?_map, List.getElem?_eq_getElem h]; rfl
        rw [List.getElem?_eq_getElem h'] at this
        exact Option.some.inj this
      have hgK : ∀ j (h : j < zs.length), getK PF.id s.R zs[j].1.id = some zs[j].1 := fun j h => getK_of hok.sorted (by rw [← he]; exact List.mem_map.2 ⟨_, hzm _ (List.getElem_mem h), rfl⟩)
      have hE3 : ∀ {w : World} {l F' : List Chunk}, loadsG s.R ids none [] true = none → SL W (.ob (RDO H xp s) :: .mem H :: F) w → ∃ post, ROpenQ H xp (openG s base size) (.tuple #[.pointer none, .int .i64 3]) post ∧ SL W (app post F) w := fun h hS => hE (by rw [eo, h]) (by decide) hS
      have hRA0 : RAt s.R ids 0 [] true 0 (N + 100000) := ⟨Nat.zero_le _, rfl, .inl ⟨rfl, rfl⟩, fun h => by omega, by simp⟩
      refine ⟨fun vs w => ∃ (i : Nat) (next : Int) (L : List PSeg) (wh : Bool), vs = [.int .i64 next, .int .i64 i] ∧ RAt s.R ids i L wh next (N + 100000) ∧ SL W (.ob (RLogO lp xp ⟨L, base, size, none⟩) :: .ob (FilesO ov zs) :: .pt xp (rcells fv s) 28 :: .ob (FilesO fv ys) :: .mem H :: F) w,
        fun vs _ => match vs with | [_, .int _ i] => (ids.length - i).toNat | _ => 0, ⟨0, 0, [], true, rfl, hRA0, SL.into hS Xi⟩, ?_⟩
      clear hS hRA0
      rintro v10 v11 w ⟨i, next, L, wh, hvs, hA, hS⟩
      cases hvs
      have hile := hA.le
      have hLl : L.length ≤ 100000 := by rcases hA.len with ⟨_, h⟩ | ⟨_, _, h⟩ <;> omega
      have hLO : (⟨L, base, size, none⟩ : PLog).Ok (N + 100000) := ⟨hA.ok, by show 0 ≤ base; omega, by show base ≤ 12288; omega, by show 64 ≤ size; omega, by show size ≤ 65536; omega, by show L.length ≤ _; omega⟩
      refine s_lenO hS (v := ov) (t := 76) (sz := 3) (n := zs.length) (cells := (zs.map encRF).flatten) Xh ?_
      (repeat (first | (with_reducible first | apply Q0 | refine Qa hS ?_ | refine Qb ?_ | refine Qc hS ?_ | refine Qd ?_) | ((with_reducible refine Qe hS ?_); clear hS; intro w hS; simp only [List.set] at hS) | ((with_reducible first | refine s_draw hS ?_ | refine Qf hS ?_); clear hS; intro w hS) | ((with_reducible first | refine s_new hS ?_ | refine Qg hS ?_); clear hS; intro b w hS)))
      refine s_ifp (fun h1 => ?_) (fun h1 => ?_)
      · have hiz : i < zs.length := by omega
        have hii : i < ids.length := by omega
        have hwh : wh = true ∧ L.length = i := by
          rcases hA.len with h | ⟨_, h, _⟩
          · exact h
          · omega
        obtain ⟨rfl, hLi⟩ := hwh
        have hx : zs[i]? = some zs[i] := List.getElem?_eq_getElem hiz
        have hid := hget i hiz hii
        have hgk := hgK i hiz
        have hyB := hrb _ (hzm _ (List.getElem_mem hiz))
        have hyN : zs[i].1.b.length ≤ N := hok.len _ (by rw [← he]; exact List.mem_map.2 ⟨_, hzm _ (List.getElem_mem hiz), rfl⟩)
        have hfi := hi _ (List.getElem_mem hii)
        have heq := hA.eq
        rw [List.drop_eq_getElem_cons hii, loadsG_cons, hid] at heq
        rw [hid] at hfi
        have hgap : 0 < i → ∀ h : i - 1 < zs.length, gapG (if i = 0 then none else ids[i - 1]?) zs[i].1.id = decide (zs[i].1.id ≠ zs[i - 1].1.id + 1) := fun h0 h => by
          rw [if_neg (by omega), List.getElem?_eq_getElem (show i - 1 < ids.length by omega), hget (i - 1) h (by omega)]; rfl
        have hgap0 : i = 0 → gapG (if i = 0 then none else ids[i - 1]?) zs[i].1.id = false := fun h => by rw [if_pos h]; rfl
        have hlast : (ids.drop (i + 1)).isEmpty = decide (i + 1 = ids.length) := by
          rw [Bool.eq_iff_iff, decide_eq_true_iff, List.isEmpty_iff, List.drop_eq_nil_iff]
          omega
        rw [hlast] at heq
        have hload : loadG L s.R zs[i].1.id (decide (i + 1 = ids.length)) = match readS zs[i].1.b with
          | none => ((false, decide (i + 1 = ids.length)), L)
          | some (first, l, n) => if ((decide (i + 1 = ids.length) = false ∧ (n ≠ zs[i].1.b.length ∨ l.length = 0)) ∨ (0 < L.length ∧ first ≠ headG L + 1) ∨ 1099511627776 < first + l.length - 1) then ((true, false), L)
            else ((true, true), L ++ [⟨zs[i].1.id, first, n, l⟩]) := by
          unfold loadG
          rw [hgk]; rfl
        have hlok := loadG_ok (L := L) (f := zs[i].1.id) (last := decide (i + 1 = ids.length)) (M := N + 100000) hok.len (by omega) (by omega) (by omega) hA.ok
        have hpid : ∀ h : i - 1 < zs.length, (zs[i - 1]?) = some zs[i - 1] := fun h => List.getElem?_eq_getElem h
        have hpr : ∀ h : i - 1 < zs.length, base ≤ zs[i - 1].1.id ∧ zs[i - 1].1.id < base + 4096 := fun h => by
          have := hi _ (List.getElem_mem (show i - 1 < ids.length by omega))
          rwa [hget (i - 1) h (by omega)] at this
        refine s_getNO hS (v := ov) (t := 76) Xh encRF_len hx hiz ?_
        generalize zs[i] = y at *
        obtain ⟨yf, yv⟩ := y
        simp only at *
        obtain ⟨_, ya, yc, rfl, _, _⟩ := id hyB
        refine s_new hS ?_
        clear hS; intro fb w hS
        refine s_stN0 (vs := [.int .i64 yf.id, .int .i64 (yf.safe : Int), .slice ya yf.b.length yc]) hS Xu rfl rfl (by simp [Value.oneCell']) ?_
        clear hS; intro w hS
        by_cases hg : gapG (if i = 0 then none else ids[i - 1]?) yf.id = true
        · -- a file lacks
          have hno : loadsG s.R ids none [] true = none := by
            rw [heq]
            split
            · rfl
            · first | rfl | rw [if_pos hg]
          refine ⟨fun vs w => False, ?_, fun w h => h.elim⟩
          (repeat (first | (with_reducible first | apply Q0 | refine Qa hS ?_ | refine Qb ?_ | refine Qc hS ?_ | refine Qd ?_) | ((with_reducible refine Qe hS ?_); clear hS; intro w hS; simp only [List.set] at hS) | ((with_reducible first | refine s_draw hS ?_ | refine Qf hS ?_); clear hS; intro w hS) | ((with_reducible first | refine s_new hS ?_ | refine Qg hS ?_); clear hS; intro b w hS)))
          refine s_ifp (fun h2 => ?_) (fun h2 => ?_)
          · have hj0 : i - 1 < zs.length := by omega
            (repeat (first | (with_reducible first | apply Q0 | refine Qa hS ?_ | refine Qb ?_ | refine Qc hS ?_ | refine Qd ?_) | ((with_reducible refine Qe hS ?_); clear hS; intro w hS; simp only [List.set] at hS) | ((with_reducible first | refine s_draw hS ?_ | refine Qf hS ?_); clear hS; intro w hS) | ((with_reducible first | refine s_new hS ?_ | refine Qg hS ?_); clear hS; intro b w hS)))
            have e : ((i : Nat) : Int) - 1 = ((i - 1 : Nat) : Int) := by omega
            rw [e]
            have hp2 := hpr hj0
            refine s_getFO (i := 0) hS (v := ov) (t := 76) Xh encRF_len (hpid hj0) hj0 (u := .int .i64 zs[i - 1].1.id) rfl ?_
            (repeat (first | (with_reducible first | apply Q0 | refine Qa hS ?_ | refine Qb ?_ | refine Qc hS ?_ | refine Qd ?_) | ((with_reducible refine Qe hS ?_); clear hS; intro w hS; simp only [List.set] at hS) | ((with_reducible first | refine s_draw hS ?_ | refine Qf hS ?_); clear hS; intro w hS) | ((with_reducible first | refine s_new hS ?_ | refine Qg hS ?_); clear hS; intro b w hS)))
            have hgv := hgap (by omega) hj0
            rw [hg] at hgv
            refine s_ifp (fun h3 => ?_) (fun h3 => absurd (of_decide_eq_true hgv.symm) h3)
            exact hE3 (l := []) (F' := []) hno (SL.into (hcl hS Xp) Xi)
          · rw [hgap0 (by omega)] at hg; cases hg
        · rw [if_neg hg] at heq
          refine ⟨fun vs w => vs = [] ∧ SL W (.pt fb [.int .i64 yf.id, .int .i64 (yf.safe : Int), .slice ya yf.b.length yc] 76 :: .ob (RLogO lp xp ⟨L, base, size, none⟩) :: .ob (FilesO ov zs) :: .pt xp (rcells fv s) 28 :: .ob (FilesO fv ys) :: .mem H :: F) w, ?_, ?_⟩
          · (repeat (first | (with_reducible first | apply Q0 | refine Qa hS ?_ | refine Qb ?_ | refine Qc hS ?_ | refine Qd ?_) | ((with_reducible refine Qe hS ?_); clear hS; intro w hS; simp only [List.set] at hS) | ((with_reducible first | refine s_draw hS ?_ | refine Qf hS ?_); clear hS; intro w hS) | ((with_reducible first | refine s_new hS ?_ | refine Qg hS ?_); clear hS; intro b w hS)))
            refine s_ifp (fun h2 => ?_) (fun h2 => ⟨rfl, SL.into hS Xi⟩)
            have hj0 : i - 1 < zs.length := by omega
            (repeat (first | (with_reducible first | apply Q0 | refine Qa hS ?_ | refine Qb ?_ | refine Qc hS ?_ | refine Qd ?_) | ((with_reducible refine Qe hS ?_); clear hS; intro w hS; simp only [List.set] at hS) | ((with_reducible first | refine s_draw hS ?_ | refine Qf hS ?_); clear hS; intro w hS) | ((with_reducible first | refine s_new hS ?_ | refine Qg hS ?_); clear hS; intro b w hS)))
            have e : ((i : Nat) : Int) - 1 = ((i - 1 : Nat) : Int) := by omega
            rw [e]
            have hp2 := hpr hj0
            refine s_getFO (i := 0) hS (v := ov) (t := 76) Xh encRF_len (hpid hj0) hj0 (u := .int .i64 zs[i - 1].1.id) rfl ?_
            (repeat (first | (with_reducible first | apply Q0 | refine Qa hS ?_ | refine Qb ?_ | refine Qc hS ?_ | refine Qd ?_) | ((with_reducible refine Qe hS ?_); clear hS; intro w hS; simp only [List.set] at hS) | ((with_reducible first | refine s_draw hS ?_ | refine Qf hS ?_); clear hS; intro w hS) | ((with_reducible first | refine s_new hS ?_ | refine Qg hS ?_); clear hS; intro b w hS)))
            have hgv := hgap (by omega) hj0
            refine s_ifp (fun h3 => absurd (by rw [hgv]; exact decide_eq_true h3) hg) (fun h3 => ?_)
            exact ⟨rfl, SL.into hS Xi⟩
          · clear hS
            rintro w ⟨-, hS⟩
            (repeat (first | (with_reducible first | apply Q0 | refine Qa hS ?_ | refine Qb ?_ | refine Qc hS ?_ | refine Qd ?_) | ((with_reducible refine Qe hS ?_); clear hS; intro w hS; simp only [List.set] at hS) | ((with_reducible first | refine s_draw hS ?_ | refine Qf hS ?_); clear hS; intro w hS) | ((with_reducible first | refine s_new hS ?_ | refine Qg hS ?_); clear hS; intro b w hS)))
            have hyr : Rdb (.mem H) (.slice ya yf.b.length yc) yf.b := Rdb.rd hyB
            (apply s_call (rread_spec (.mem H) _ yf.b hyr (by omega)) hS; exact Xp; clear hS)
            rintro r post hQ w hS
            unfold ReadQ2 at hQ
            cases hr : readS yf.b with
            | none =>
              rw [hr] at hQ hload
              obtain ⟨rfl, rfl⟩ := hQ
              simp only at hload
              rw [hload] at heq
              (try simp only [app] at hS)
              (repeat (first | (with_reducible first | apply Q0 | refine Qa hS ?_ | refine Qb ?_ | refine Qc hS ?_ | refine Qd ?_) | ((with_reducible refine Qe hS ?_); clear hS; intro w hS; simp only [List.set] at hS) | ((with_reducible first | refine s_draw hS ?_ | refine Qf hS ?_); clear hS; intro w hS) | ((with_reducible first | refine s_new hS ?_ | refine Qg hS ?_); clear hS; intro b w hS)))
              refine ⟨fun vs w => vs = [.bool false] ∧ SL W (.pt fb [.int .i64 yf.id, .int .i64 (yf.safe : Int), .slice ya yf.b.length yc] 76 :: .ob (RLogO lp xp ⟨L, base, size, none⟩) :: .ob (FilesO ov zs) :: .pt xp (rcells fv s) 28 :: .ob (FilesO fv ys) :: .mem H :: F) w, ?_, ?_⟩
              · (repeat (first | (with_reducible first | apply Q0 | refine Qa hS ?_ | refine Qb ?_ | refine Qc hS ?_ | refine Qd ?_) | ((with_reducible refine Qe hS ?_); clear hS; intro w hS; simp only [List.set] at hS) | ((with_reducible first | refine s_draw hS ?_ | refine Qf hS ?_); clear hS; intro w hS) | ((with_reducible first | refine s_new hS ?_ | refine Qg hS ?_); clear hS; intro b w hS)))
                refine s_ifp (fun h => absurd h (by decide)) (fun _ => ⟨rfl, SL.into hS Xi⟩)
              · clear hS
                rintro v17 w ⟨hvs, hS⟩
                cases hvs
                refine ⟨fun vs w => vs = [.bool (decide (i + 1 ≠ ids.length))] ∧ SL W (.pt fb [.int .i64 yf.id, .int .i64 (yf.safe : Int), .slice ya yf.b.length yc] 76 :: .ob (RLogO lp xp ⟨L, base, size, none⟩) :: .ob (FilesO ov zs) :: .pt xp (rcells fv s) 28 :: .ob (FilesO fv ys) :: .mem H :: F) w, ?_, ?_⟩
                · refine s_lenO hS (v := ov) (t := 76) (sz := 3) (n := zs.length) (cells := (zs.map encRF).flatten) Xh ?_
                  (repeat (first | (with_reducible first | apply Q0 | refine Qa hS ?_ | refine Qb ?_ | refine Qc hS ?_ | refine Qd ?_) | ((with_reducible refine Qe hS ?_); clear hS; intro w hS; simp only [List.set] at hS) | ((with_reducible first | refine s_draw hS ?_ | refine Qf hS ?_); clear hS; intro w hS) | ((with_reducible first | refine s_new hS ?_ | refine Qg hS ?_); clear hS; intro b w hS)))
                  refine s_ifp (fun h => ?_) (fun h => ?_)
                  · rw [decide_eq_true (show i + 1 ≠ ids.length by omega)]
                    refine s_not ?_
                    refine s_ift ?_
                    exact ⟨rfl, SL.into hS Xi⟩
                  · rw [decide_eq_false (show ¬ i + 1 ≠ ids.length by omega)]
                    (repeat (first | (with_reducible first | apply Q0 | refine Qa hS ?_ | refine Qb ?_ | refine Qc hS ?_ | refine Qd ?_) | ((with_reducible refine Qe hS ?_); clear hS; intro w hS; simp only [List.set] at hS) | ((with_reducible first | refine s_draw hS ?_ | refine Qf hS ?_); clear hS; intro w hS) | ((with_reducible first | refine s_new hS ?_ | refine Qg hS ?_); clear hS; intro b w hS)))
                    refine s_ifp (fun h => absurd h (by decide)) (fun _ => ⟨rfl, SL.into hS Xi⟩)
                · clear hS
                  rintro v114 w ⟨hvs, hS⟩
                  cases hvs
                  refine s_ifp (fun hb => ?_) (fun hb => ?_)
                  · rw [decide_eq_false (show ¬ i + 1 = ids.length from hb), if_pos rfl] at heq
                    exact hE3 (l := []) (F' := []) heq (SL.into (hcl hS Xp) Xi)
                  · have hb' : i + 1 = ids.length := Classical.not_not.1 hb
                    rw [decide_eq_true hb', if_neg (by simp)] at heq
                    (repeat (first | (with_reducible first | apply Q0 | refine Qa hS ?_ | refine Qb ?_ | refine Qc hS ?_ | refine Qd ?_) | ((with_reducible refine Qe hS ?_); clear hS; intro w hS; simp only [List.set] at hS) | ((with_reducible first | refine s_draw hS ?_ | refine Qf hS ?_); clear hS; intro w hS) | ((with_reducible first | refine s_new hS ?_ | refine Qg hS ?_); clear hS; intro b w hS)))
                    refine s_ifp (fun _ => ?_) (fun h => absurd (by decide) h)
                    (repeat (first | (with_reducible first | apply Q0 | refine Qa hS ?_ | refine Qb ?_ | refine Qc hS ?_ | refine Qd ?_) | ((with_reducible refine Qe hS ?_); clear hS; intro w hS; simp only [List.set] at hS) | ((with_reducible first | refine s_draw hS ?_ | refine Qf hS ?_); clear hS; intro w hS) | ((with_reducible first | refine s_new hS ?_ | refine Qg hS ?_); clear hS; intro b w hS)))
                    refine ⟨⟨i + 1, next, L, false, rfl, ⟨by omega, ?_, .inr ⟨rfl, hb', by omega⟩, fun _ h => (by cases h), hA.ok⟩, SL.into hS Xi⟩, by dsimp only; omega⟩
                    rw [heq, if_neg (by omega), Nat.add_sub_cancel, List.getElem?_eq_getElem hii, hid]
            | some q =>
              obtain ⟨first, l, n⟩ := q
              have hrk := readS_ok hr
              obtain ⟨r1, r2, r3, r4, r5⟩ := hrk
              rw [hr] at hQ hload
              obtain ⟨u, es, hes, rfl, rfl⟩ := hQ
              simp only at hload
              (try simp only [app] at hS)
              have hel : l.length = es.length := by rw [← hes, byts_len]
              obtain ⟨ua, uc, rfl, _⟩ := OwnSo.at hS (v := u) .hd
              (repeat (first | (with_reducible first | apply Q0 | refine Qa hS ?_ | refine Qb ?_ | refine Qc hS ?_ | refine Qd ?_) | ((with_reducible refine Qe hS ?_); clear hS; intro w hS; simp only [List.set] at hS) | ((with_reducible first | refine s_draw hS ?_ | refine Qf hS ?_); clear hS; intro w hS) | ((with_reducible first | refine s_new hS ?_ | refine Qg hS ?_); clear hS; intro b w hS)))
              refine ⟨fun vs w => vs = [.bool (decide (n = yf.b.length ∧ 0 < es.length))] ∧ SL W (.pt fb [.int .i64 yf.id, .int .i64 (yf.safe : Int), .slice ya yf.b.length yc] 76 :: .ob (OwnSo (.slice ua es.length uc) 31 1 es.length (vals es)) :: .ob (HAll BEntO es) :: .ob (RLogO lp xp ⟨L, base, size, none⟩) :: .ob (FilesO ov zs) :: .pt xp (rcells fv s) 28 :: .ob (FilesO fv ys) :: .mem H :: F) w, ?_, ?_⟩
              · (repeat (first | (with_reducible first | apply Q0 | refine Qa hS ?_ | refine Qb ?_ | refine Qc hS ?_ | refine Qd ?_) | ((with_reducible refine Qe hS ?_); clear hS; intro w hS; simp only [List.set] at hS) | ((with_reducible first | refine s_draw hS ?_ | refine Qf hS ?_); clear hS; intro w hS) | ((with_reducible first | refine s_new hS ?_ | refine Qg hS ?_); clear hS; intro b w hS)))
                refine s_ifp (fun _ => ?_) (fun h => absurd rfl h)
                (repeat (first | (with_reducible first | apply Q0 | refine Qa hS ?_ | refine Qb ?_ | refine Qc hS ?_ | refine Qd ?_) | ((with_reducible refine Qe hS ?_); clear hS; intro w hS; simp only [List.set] at hS) | ((with_reducible first | refine s_draw hS ?_ | refine Qf hS ?_); clear hS; intro w hS) | ((with_reducible first | refine s_new hS ?_ | refine Qg hS ?_); clear hS; intro b w hS)))
                refine s_ifp (fun h => ?_) (fun h => ?_)
                · (repeat (first | (with_reducible first | apply Q0 | refine Qa hS ?_ | refine Qb ?_ | refine Qc hS ?_ | refine Qd ?_) | ((with_reducible refine Qe hS ?_); clear hS; intro w hS; simp only [List.set] at hS) | ((with_reducible first | refine s_draw hS ?_ | refine Qf hS ?_); clear hS; intro w hS) | ((with_reducible first | refine s_new hS ?_ | refine Qg hS ?_); clear hS; intro b w hS)))
                  refine ⟨?_, SL.into hS Xi⟩
                  congr 2
                  rw [Bool.eq_iff_iff, decide_eq_true_iff, decide_eq_true_iff]; omega
                · refine ⟨?_, SL.into hS Xi⟩
                  rw [decide_eq_false (show ¬ (n = yf.b.length ∧ 0 < es.length) by omega)]
              · clear hS
                rintro v17 w ⟨hvs, hS⟩
                cases hvs
                refine ⟨fun vs w => vs = [.bool (decide ((i + 1 ≠ ids.length ∧ ¬ (n = yf.b.length ∧ 0 < es.length)) ∨ (0 < i ∧ first ≠ next)))] ∧ SL W (.pt fb [.int .i64 yf.id, .int .i64 (yf.safe : Int), .slice ya yf.b.length yc] 76 :: .ob (OwnSo (.slice ua es.length uc) 31 1 es.length (vals es)) :: .ob (HAll BEntO es) :: .ob (RLogO lp xp ⟨L, base, size, none⟩) :: .ob (FilesO ov zs) :: .pt xp (rcells fv s) 28 :: .ob (FilesO fv ys) :: .mem H :: F) w, ?_, ?_⟩
                · have hq2 : ∀ b : Bool, (b = decide ((i + 1 ≠ ids.length ∧ ¬ (n = yf.b.length ∧ 0 < es.length)) ∨ (0 < i ∧ first ≠ next))) → [Value.bool b] = [.bool (decide ((i + 1 ≠ ids.length ∧ ¬ (n = yf.b.length ∧ 0 < es.length)) ∨ (0 < i ∧ first ≠ next)))] := fun b h => by rw [h]
                  refine s_lenO hS (v := ov) (t := 76) (sz := 3) (n := zs.length) (cells := (zs.map encRF).flatten) Xh ?_
                  (repeat (first | (with_reducible first | apply Q0 | refine Qa hS ?_ | refine Qb ?_ | refine Qc hS ?_ | refine Qd ?_) | ((with_reducible refine Qe hS ?_); clear hS; intro w hS; simp only [List.set] at hS) | ((with_reducible first | refine s_draw hS ?_ | refine Qf hS ?_); clear hS; intro w hS) | ((with_reducible first | refine s_new hS ?_ | refine Qg hS ?_); clear hS; intro b w hS)))
                  refine s_ifp (fun h => ?_) (fun h => ?_)
                  · refine s_not ?_
                    by_cases hw : n = yf.b.length ∧ 0 < es.length
                    · rw [decide_eq_true hw]
                      refine s_iff ?_
                      (repeat (first | (with_reducible first | apply Q0 | refine Qa hS ?_ | refine Qb ?_ | refine Qc hS ?_ | refine Qd ?_) | ((with_reducible refine Qe hS ?_); clear hS; intro w hS; simp only [List.set] at hS) | ((with_reducible first | refine s_draw hS ?_ | refine Qf hS ?_); clear hS; intro w hS) | ((with_reducible first | refine s_new hS ?_ | refine Qg hS ?_); clear hS; intro b w hS)))
                      refine s_ifp (fun _ => ?_) (fun h => absurd rfl h)
                      (repeat (first | (with_reducible first | apply Q0 | refine Qa hS ?_ | refine Qb ?_ | refine Qc hS ?_ | refine Qd ?_) | ((with_reducible refine Qe hS ?_); clear hS; intro w hS; simp only [List.set] at hS) | ((with_reducible first | refine s_draw hS ?_ | refine Qf hS ?_); clear hS; intro w hS) | ((with_reducible first | refine s_new hS ?_ | refine Qg hS ?_); clear hS; intro b w hS)))
                      refine s_ifp (fun h2 => ?_) (fun h2 => ?_)
                      · (repeat (first | (with_reducible first | apply Q0 | refine Qa hS ?_ | refine Qb ?_ | refine Qc hS ?_ | refine Qd ?_) | ((with_reducible refine Qe hS ?_); clear hS; intro w hS; simp only [List.set] at hS) | ((with_reducible first | refine s_draw hS ?_ | refine Qf hS ?_); clear hS; intro w hS) | ((with_reducible first | refine s_new hS ?_ | refine Qg hS ?_); clear hS; intro b w hS)))
                        refine ⟨hq2 _ ?_, SL.into hS Xi⟩
                        rw [Bool.eq_iff_iff, decide_eq_true_iff, decide_eq_true_iff]
                        constructor
                        · intro h; exact .inr ⟨by omega, h⟩
                        · rintro (⟨_, h⟩ | ⟨_, h⟩)
                          · exact absurd hw h
                          · exact h
                      · refine ⟨hq2 _ ?_, SL.into hS Xi⟩
                        refine (decide_eq_false ?_).symm
                        rintro (⟨_, h⟩ | ⟨h, _⟩)
                        · exact absurd hw h
                        · omega
                    · rw [decide_eq_false hw]
                      refine s_ift ?_
                      exact ⟨hq2 _ (decide_eq_true (.inl ⟨by omega, hw⟩)).symm, SL.into hS Xi⟩
                  · (repeat (first | (with_reducible first | apply Q0 | refine Qa hS ?_ | refine Qb ?_ | refine Qc hS ?_ | refine Qd ?_) | ((with_reducible refine Qe hS ?_); clear hS; intro w hS; simp only [List.set] at hS) | ((with_reducible first | refine s_draw hS ?_ | refine Qf hS ?_); clear hS; intro w hS) | ((with_reducible first | refine s_new hS ?_ | refine Qg hS ?_); clear hS; intro b w hS)))
                    refine s_ifp (fun _ => ?_) (fun h => absurd rfl h)
                    (repeat (first | (with_reducible first | apply Q0 | refine Qa hS ?_ | refine Qb ?_ | refine Qc hS ?_ | refine Qd ?_) | ((with_reducible refine Qe hS ?_); clear hS; intro w hS; simp only [List.set] at hS) | ((with_reducible first | refine s_draw hS ?_ | refine Qf hS ?_); clear hS; intro w hS) | ((with_reducible first | refine s_new hS ?_ | refine Qg hS ?_); clear hS; intro b w hS)))
                    refine s_ifp (fun h2 => ?_) (fun h2 => ?_)
                    · (repeat (first | (with_reducible first | apply Q0 | refine Qa hS ?_ | refine Qb ?_ | refine Qc hS ?_ | refine Qd ?_) | ((with_reducible refine Qe hS ?_); clear hS; intro w hS; simp only [List.set] at hS) | ((with_reducible first | refine s_draw hS ?_ | refine Qf hS ?_); clear hS; intro w hS) | ((with_reducible first | refine s_new hS ?_ | refine Qg hS ?_); clear hS; intro b w hS)))
                      refine ⟨hq2 _ ?_, SL.into hS Xi⟩
                      rw [Bool.eq_iff_iff, decide_eq_true_iff, decide_eq_true_iff]
                      constructor
                      · intro h; exact .inr ⟨by omega, h⟩
                      · rintro (⟨h, _⟩ | ⟨_, h⟩)
                        · omega
                        · exact h
                    · refine ⟨hq2 _ ?_, SL.into hS Xi⟩
                      refine (decide_eq_false ?_).symm
                      rintro (⟨h, _⟩ | ⟨h, _⟩) <;> omega
                · clear hS
                  rintro v114 w ⟨hvs, hS⟩
                  cases hvs
                  have hnx : 0 < i → next = headG L + 1 := fun h => hA.next h rfl
                  refine s_ifp (fun hb => ?_) (fun hb => ?_)
                  · rw [hload, if_pos (c := (decide (i + 1 = ids.length) = false ∧ (n ≠ yf.b.length ∨ l.length = 0)) ∨ (0 < L.length ∧ first ≠ headG L + 1) ∨ 1099511627776 < first + l.length - 1) (by
                      rcases hb with ⟨h1, h2⟩ | ⟨h1, h2⟩
                      · exact .inl ⟨decide_eq_false h1, by rw [hel]; omega⟩
                      · exact .inr (.inl ⟨by omega, by rw [← hnx h1]; exact h2⟩)), if_pos rfl] at heq
                    exact hE3 (l := []) (F' := []) heq (SL.into (hcl hS Xp) Xi)
                  · (repeat (first | (with_reducible first | apply Q0 | refine Qa hS ?_ | refine Qb ?_ | refine Qc hS ?_ | refine Qd ?_) | ((with_reducible refine Qe hS ?_); clear hS; intro w hS; simp only [List.set] at hS) | ((with_reducible first | refine s_draw hS ?_ | refine Qf hS ?_); clear hS; intro w hS) | ((with_reducible first | refine s_new hS ?_ | refine Qg hS ?_); clear hS; intro b w hS)))
                    refine s_ifp (fun h => absurd rfl h) (fun _ => ?_)
                    (repeat (first | (with_reducible first | apply Q0 | refine Qa hS ?_ | refine Qb ?_ | refine Qc hS ?_ | refine Qd ?_) | ((with_reducible refine Qe hS ?_); clear hS; intro w hS; simp only [List.set] at hS) | ((with_reducible first | refine s_draw hS ?_ | refine Qf hS ?_); clear hS; intro w hS) | ((with_reducible first | refine s_new hS ?_ | refine Qg hS ?_); clear hS; intro b w hS)))
                    refine s_ifp (fun hmx => ?_) (fun hmx => ?_)
                    · rw [hload, if_pos (c := (decide (i + 1 = ids.length) = false ∧ (n ≠ yf.b.length ∨ l.length = 0)) ∨ (0 < L.length ∧ first ≠ headG L + 1) ∨ 1099511627776 < first + l.length - 1) (.inr (.inr (by rw [hel]; omega))), if_pos rfl] at heq
                      exact hE3 (l := []) (F' := []) heq (SL.into (hcl hS Xp) Xi)
                    · have hcond : ¬ ((decide (i + 1 = ids.length) = false ∧ (n ≠ yf.b.length ∨ l.length = 0)) ∨ (0 < L.length ∧ first ≠ headG L + 1) ∨ 1099511627776 < first + l.length - 1) := by
                        rintro (⟨h1, h2⟩ | ⟨h1, h2⟩ | h)
                        · exact hb (.inl ⟨of_decide_eq_false h1, by rw [hel] at h2; omega⟩)
                        · exact hb (.inr ⟨by omega, by rw [hnx (by omega)]; exact h2⟩)
                        · rw [hel] at h; omega
                      rw [hload, if_neg hcond, if_neg (by simp)] at heq
                      rw [hload, if_neg hcond] at hlok
                      simp only at heq hlok
                      obtain ⟨sv, xs, hx2, hS⟩ := RLogO.openN (SL.into hS (t := .ob (RLogO lp xp ⟨L, base, size, none⟩) :: .pt fb [.int .i64 yf.id, .int .i64 (yf.safe : Int), .slice ya yf.b.length yc] 76 :: .ob (OwnSo (.slice ua es.length uc) 31 1 es.length (vals es)) :: .ob (HAll BEntO es) :: .ob (FilesO ov zs) :: .pt xp (rcells fv s) 28 :: .ob (FilesO fv ys) :: .mem H :: F) Xi)
                      have hxl : xs.length = L.length := by
                        have := congrArg List.length hx2
                        rwa [List.length_map] at this
                      (repeat (first | (with_reducible first | apply Q0 | refine Qa hS ?_ | refine Qb ?_ | refine Qc hS ?_ | refine Qd ?_) | ((with_reducible refine Qe hS ?_); clear hS; intro w hS; simp only [List.set] at hS) | ((with_reducible first | refine s_draw hS ?_ | refine Qf hS ?_); clear hS; intro w hS) | ((with_reducible first | refine s_new hS ?_ | refine Qg hS ?_); clear hS; intro b w hS)))
                      have hone0 := OwnSo.one hS (v := sv) (t := 90) (sz := 4) (n := xs.length) (cells := (xs.map xcells).flatten) Xh
                      refine s_appSo (t := 90) (sz := 4) (n := xs.length) (cells := (xs.map xcells).flatten) (m := 1) (cs := [.int .i64 yf.id, .int .i64 first, .int .i64 n, .slice ua es.length uc]) hS Xr (src_pt0 hS .hd rfl) rfl rfl (by simp [Value.oneCell']) (by omega) (by omega) ?_
                      clear hS; intro sv' w hS
                      have hone := OwnSo.one hS (v := sv') .hd
                      (repeat (first | (with_reducible first | apply Q0 | refine Qa hS ?_ | refine Qb ?_ | refine Qc hS ?_ | refine Qd ?_) | ((with_reducible refine Qe hS ?_); clear hS; intro w hS; simp only [List.set] at hS) | ((with_reducible first | refine s_draw hS ?_ | refine Qf hS ?_); clear hS; intro w hS) | ((with_reducible first | refine s_new hS ?_ | refine Qg hS ?_); clear hS; intro b w hS)))
                      have hS := (XSegO.iff (x := ⟨yf.id, first, n, es, ua, uc⟩)).2 (SL.into hS (t := .ob (OwnSo (.slice ua es.length uc) 31 1 es.length (vals es)) :: .ob (HAll BEntO es) :: .ob (HAll XSegO xs) :: .pt lp (rlcells sv' xp base size (-1)) 85 :: .ob (OwnSo sv' 90 4 (xs.length + 1) ((xs.map xcells).flatten ++ [.int .i64 yf.id, .int .i64 first, .int .i64 n, .slice ua es.length uc])) :: .ob (FilesO ov zs) :: .pt xp (rcells fv s) 28 :: .ob (FilesO fv ys) :: .mem H :: F) Xi)
                      have hS := HAll.snoc (hS.into (t := .ob (HAll XSegO xs) :: .ob (XSegO ⟨yf.id, first, n, es, ua, uc⟩) :: .pt lp (rlcells sv' xp base size (-1)) 85 :: .ob (OwnSo sv' 90 4 (xs.length + 1) ((xs.map xcells).flatten ++ [.int .i64 yf.id, .int .i64 first, .int .i64 n, .slice ua es.length uc])) :: .ob (FilesO ov zs) :: .pt xp (rcells fv s) 28 :: .ob (FilesO fv ys) :: .mem H :: F) Xi)
                      have e1 : xs.length + 1 = (xs ++ [(⟨yf.id, first, n, es, ua, uc⟩ : XSeg)]).length := by simp
                      have e2 : (xs.map xcells).flatten ++ [.int .i64 yf.id, .int .i64 first, .int .i64 n, .slice ua es.length uc] = ((xs ++ [(⟨yf.id, first, n, es, ua, uc⟩ : XSeg)]).map xcells).flatten := by simp [xcells, XSeg.lv]
                      rw [e1, e2] at hS
                      have hx3 : (xs ++ [(⟨yf.id, first, n, es, ua, uc⟩ : XSeg)]).map XSeg.pl = L ++ [⟨yf.id, first, n, l⟩] := by
                        have : xs.map XSeg.pl = L := hx2
                        rw [List.map_append, this]; simp [XSeg.pl, hes]
                      have hS := RLogO.closeN (L := L ++ [⟨yf.id, first, n, l⟩]) (base := base) (size := size) (lp := lp) (xp := xp) (F := .ob (FilesO ov zs) :: .pt xp (rcells fv s) 28 :: .ob (FilesO fv ys) :: .mem H :: F) hS hx3 Xi
                      have hnew : headG (L ++ [⟨yf.id, first, n, l⟩]) + 1 = first + es.length := by
                        rw [headG_snoc]; simp only [PSeg.next, hel]; omega
                      refine ⟨⟨i + 1, first + es.length, L ++ [⟨yf.id, first, n, l⟩], true, rfl, ⟨by omega, ?_, .inl ⟨rfl, by simp; omega⟩, fun _ _ => hnew.symm, hlok.1⟩, SL.into hS Xi⟩, by dsimp only; omega⟩
                      rw [heq, if_neg (by omega), Nat.add_sub_cancel, List.getElem?_eq_getElem hii, hid]
      · have hie : i = ids.length := by omega
        have heq := hA.eq
        rw [hie, List.drop_length] at heq
        simp only [loadsG] at heq
        rw [heq] at eo
        simp only at eo
        refine s_lenO hS (v := ov) (t := 76) (sz := 3) (n := zs.length) (cells := (zs.map encRF).flatten) Xh ?_
        (repeat (first | (with_reducible first | apply Q0 | refine Qa hS ?_ | refine Qb ?_ | refine Qc hS ?_ | refine Qd ?_) | ((with_reducible refine Qe hS ?_); clear hS; intro w hS; simp only [List.set] at hS) | ((with_reducible first | refine s_draw hS ?_ | refine Qf hS ?_); clear hS; intro w hS) | ((with_reducible first | refine s_new hS ?_ | refine Qg hS ?_); clear hS; intro b w hS)))
        refine s_ifp (fun h2 => ?_) (fun h2 => ?_)
        · have hnil : ids = [] := List.eq_nil_of_length_eq_zero (by omega)
          have hb : beginG L s ids wh = (s, 0) := by rw [hnil]; rfl
          rw [hb, if_neg (by simp)] at eo
          rw [eo]
          have hS := hcl hS Xp
          exact ⟨_, ⟨lp, H, Heap.le_refl H, rfl, rfl⟩, SL.into hS Xi⟩
        · have hj : ids.length - 1 < ids.length := by omega
          have hjz : zs.length - 1 < zs.length := by omega
          have hx : zs[zs.length - 1]? = some zs[zs.length - 1] := List.getElem?_eq_getElem hjz
          have hgl : ids.getLast? = some zs[zs.length - 1].1.id := by
            rw [List.getLast?_eq_getElem?, ← hzl, List.getElem?_eq_getElem (by omega), hget _ hjz]
          have hgk := hgK _ hjz
          have hyB := hrb _ (hzm _ (List.getElem_mem hjz))
          refine s_lenO hS (v := ov) (t := 76) (sz := 3) (n := zs.length) (cells := (zs.map encRF).flatten) Xh ?_
          (repeat (first | (with_reducible first | apply Q0 | refine Qa hS ?_ | refine Qb ?_ | refine Qc hS ?_ | refine Qd ?_) | ((with_reducible refine Qe hS ?_); clear hS; intro w hS; simp only [List.set] at hS) | ((with_reducible first | refine s_draw hS ?_ | refine Qf hS ?_); clear hS; intro w hS) | ((with_reducible first | refine s_new hS ?_ | refine Qg hS ?_); clear hS; intro b w hS)))
          have e : ((zs.length : Nat) : Int) - 1 = ((zs.length - 1 : Nat) : Int) := by omega
          rw [e]
          refine s_getNO hS (v := ov) (t := 76) Xh encRF_len hx hjz ?_
          generalize zs[zs.length - 1] = y at *
          obtain ⟨yf, yv⟩ := y
          simp only at *
          obtain ⟨_, ya, yc, rfl, _, _⟩ := id hyB
          refine s_new hS ?_
          clear hS; intro fb w hS
          refine s_stN0 (vs := [.int .i64 yf.id, .int .i64 (yf.safe : Int), .slice ya yf.b.length yc]) hS Xu rfl rfl (by simp [Value.oneCell']) ?_
          clear hS; intro w hS
          obtain ⟨sv, xs, hx2, hS⟩ := RLogO.openN (SL.into hS (t := .ob (RLogO lp xp ⟨L, base, size, none⟩) :: .pt fb [.int .i64 yf.id, .int .i64 (yf.safe : Int), .slice ya yf.b.length yc] 76 :: .ob (FilesO ov zs) :: .pt xp (rcells fv s) 28 :: .ob (FilesO fv ys) :: .mem H :: F) Xi)
          have hx2 : xs.map XSeg.pl = L := hx2
          have hxl : xs.length = L.length := by rw [← hx2, List.length_map]
          (repeat (first | (with_reducible first | apply Q0 | refine Qa hS ?_ | refine Qb ?_ | refine Qc hS ?_ | refine Qd ?_) | ((with_reducible refine Qe hS ?_); clear hS; intro w hS; simp only [List.set] at hS) | ((with_reducible first | refine s_draw hS ?_ | refine Qf hS ?_); clear hS; intro w hS) | ((with_reducible first | refine s_new hS ?_ | refine Qg hS ?_); clear hS; intro b w hS)))
          refine s_lenSo hS (v := sv) (t := 90) (sz := 4) (n := xs.length) (cells := (xs.map xcells).flatten) Xh ?_
          refine s_lenO hS (v := ov) (t := 76) (sz := 3) (n := zs.length) (cells := (zs.map encRF).flatten) Xh ?_
          (repeat (first | (with_reducible first | apply Q0 | refine Qa hS ?_ | refine Qb ?_ | refine Qc hS ?_ | refine Qd ?_) | ((with_reducible refine Qe hS ?_); clear hS; intro w hS; simp only [List.set] at hS) | ((with_reducible first | refine s_draw hS ?_ | refine Qf hS ?_); clear hS; intro w hS) | ((with_reducible first | refine s_new hS ?_ | refine Qg hS ?_); clear hS; intro b w hS)))
          refine s_ifp (fun h3 => ?_) (fun h3 => ?_)
          · have hwf : wh = false := by rcases hA.len with ⟨_, h⟩ | ⟨h, _⟩; omega; exact h
            have hb : beginG L s ids wh = s.remove yf.id := by
              unfold beginG; rw [hgl, hwf]; rfl
            rw [hb] at eo
            rw [eo]
            (repeat (first | (with_reducible first | apply Q0 | refine Qa hS ?_ | refine Qb ?_ | refine Qc hS ?_ | refine Qd ?_) | ((with_reducible refine Qe hS ?_); clear hS; intro w hS; simp only [List.set] at hS) | ((with_reducible first | refine s_draw hS ?_ | refine Qf hS ?_); clear hS; intro w hS) | ((with_reducible first | refine s_new hS ?_ | refine Qg hS ?_); clear hS; intro b w hS)))
            have hS := hcl hS Xp
            (apply s_call (rremove_spec H xp s N hok hops hR yf.id) hS; exact Xp; clear hS)
            rintro v post ⟨rfl, rfl⟩ w hS; (try simp only [app] at hS)
            (repeat (first | (with_reducible first | apply Q0 | refine Qa hS ?_ | refine Qb ?_ | refine Qc hS ?_ | refine Qd ?_) | ((with_reducible refine Qe hS ?_); clear hS; intro w hS; simp only [List.set] at hS) | ((with_reducible first | refine s_draw hS ?_ | refine Qf hS ?_); clear hS; intro w hS) | ((with_reducible first | refine s_new hS ?_ | refine Qg hS ?_); clear hS; intro b w hS)))
            refine s_ifp (fun h4 => ?_) (fun h4 => ?_)
            · rw [if_pos h4]
              exact ⟨_, ⟨h4, rfl, H, Heap.le_refl H, rfl⟩, SL.into hS Xi⟩
            · rw [if_neg h4]
              have hS := RLogO.closeN (L := L) (base := base) (size := size) (lp := lp) (xp := xp) (F := .ob (RDO H xp (s.remove yf.id).1) :: .mem H :: F) hS hx2 Xi
              exact ⟨_, ⟨lp, H, Heap.le_refl H, rfl, rfl⟩, SL.into hS Xi⟩
          · have hwt : wh = true := by rcases hA.len with ⟨h, _⟩ | ⟨_, _, h⟩; exact h; omega
            have hlenF : lenF s.R yf.id = yf.b.length := by unfold lenF; rw [hgk]
            have hb : beginG L s ids wh = if lastSize L < (yf.b.length : Int) then s.cut yf.id (lastSize L) else (s, 0) := by
              unfold beginG; rw [hgl, hwt]
              simp only [hlenF]
              rw [if_neg (by decide)]
            rw [hb] at eo
            have hjx : xs.length - 1 < xs.length := by omega
            have hlz : lastSize L = ((xs[xs.length - 1]'hjx).size : Nat) := by
              unfold lastSize
              rw [← hx2, List.getLast?_map, List.getLast?_eq_getElem?, List.getElem?_eq_getElem hjx]; rfl
            rw [hlz] at eo
            have ex : ((xs.length : Nat) : Int) - 1 = ((xs.length - 1 : Nat) : Int) := by omega
            (repeat (first | (with_reducible first | apply Q0 | refine Qa hS ?_ | refine Qb ?_ | refine Qc hS ?_ | refine Qd ?_) | ((with_reducible refine Qe hS ?_); clear hS; intro w hS; simp only [List.set] at hS) | ((with_reducible first | refine s_draw hS ?_ | refine Qf hS ?_); clear hS; intro w hS) | ((with_reducible first | refine s_new hS ?_ | refine Qg hS ?_); clear hS; intro b w hS)))
            (apply s_call (rlast_spec lp xp sv xs base size (-1) (by omega)) hS; exact Xp; clear hS)
            (rintro v post ⟨rfl, rfl⟩ w hS; (try simp only [app] at hS); (repeat (first | (with_reducible first | apply Q0 | refine Qa hS ?_ | refine Qb ?_ | refine Qc hS ?_ | refine Qd ?_) | ((with_reducible refine Qe hS ?_); clear hS; intro w hS; simp only [List.set] at hS) | ((with_reducible first | refine s_draw hS ?_ | refine Qf hS ?_); clear hS; intro w hS) | ((with_reducible first | refine s_new hS ?_ | refine Qg hS ?_); clear hS; intro b w hS))))
            rw [ex]
            refine s_segRF (i := 2) hS Xh hjx (u := .int .i64 ((xs[xs.length - 1]'hjx).size : Nat)) rfl ?_
            generalize hz : (xs[xs.length - 1]'hjx).size = z at *
            (repeat (first | (with_reducible first | apply Q0 | refine Qa hS ?_ | refine Qb ?_ | refine Qc hS ?_ | refine Qd ?_) | ((with_reducible refine Qe hS ?_); clear hS; intro w hS; simp only [List.set] at hS) | ((with_reducible first | refine s_draw hS ?_ | refine Qf hS ?_); clear hS; intro w hS) | ((with_reducible first | refine s_new hS ?_ | refine Qg hS ?_); clear hS; intro b w hS)))
            refine s_ifp (fun h4 => ?_) (fun h4 => ?_)
            · rw [if_pos h4] at eo
              rw [eo]
              (repeat (first | (with_reducible first | apply Q0 | refine Qa hS ?_ | refine Qb ?_ | refine Qc hS ?_ | refine Qd ?_) | ((with_reducible refine Qe hS ?_); clear hS; intro w hS; simp only [List.set] at hS) | ((with_reducible first | refine s_draw hS ?_ | refine Qf hS ?_); clear hS; intro w hS) | ((with_reducible first | refine s_new hS ?_ | refine Qg hS ?_); clear hS; intro b w hS)))
              (apply s_call (rlast_spec lp xp sv xs base size (-1) (by omega)) hS; exact Xp; clear hS)
              (rintro v post ⟨rfl, rfl⟩ w hS; (try simp only [app] at hS); (repeat (first | (with_reducible first | apply Q0 | refine Qa hS ?_ | refine Qb ?_ | refine Qc hS ?_ | refine Qd ?_) | ((with_reducible refine Qe hS ?_); clear hS; intro w hS; simp only [List.set] at hS) | ((with_reducible first | refine s_draw hS ?_ | refine Qf hS ?_); clear hS; intro w hS) | ((with_reducible first | refine s_new hS ?_ | refine Qg hS ?_); clear hS; intro b w hS))))
              rw [ex]
              refine s_segRF (i := 2) hS Xh hjx (u := .int .i64 (z : Int)) (by show some (Value.int .i64 ((xs[xs.length - 1]'hjx).size : Nat)) = _; rw [hz]) ?_
              have hS := hcl hS Xp
              (apply s_call (rcut_spec H xp s N hok (by omega) hops hR yf.id (z : Int)) hS; exact Xp; clear hS)
              rintro v post ⟨rfl, H', hH, rfl⟩ w hS; (try simp only [app] at hS)
              (repeat (first | (with_reducible first | apply Q0 | refine Qa hS ?_ | refine Qb ?_ | refine Qc hS ?_ | refine Qd ?_) | ((with_reducible refine Qe hS ?_); clear hS; intro w hS; simp only [List.set] at hS) | ((with_reducible first | refine s_draw hS ?_ | refine Qf hS ?_); clear hS; intro w hS) | ((with_reducible first | refine s_new hS ?_ | refine Qg hS ?_); clear hS; intro b w hS)))
              refine s_ifp (fun h5 => ?_) (fun h5 => ?_)
              · rw [if_pos h5]
                exact ⟨_, ⟨h5, rfl, H', hH, rfl⟩, SL.into hS Xi⟩
              · rw [if_neg h5]
                have hS := RLogO.closeN (L := L) (base := base) (size := size) (lp := lp) (xp := xp) (F := .ob (RDO H' xp (s.cut yf.id (z : Int)).1) :: .mem H' :: F) hS hx2 Xi
                exact ⟨_, ⟨lp, H', hH, rfl, rfl⟩, SL.into hS Xi⟩
            · rw [if_neg h4, if_neg (by simp)] at eo
              rw [eo]
              have hS := hcl hS Xp
              have hS := RLogO.closeN (L := L) (base := base) (size := size) (lp := lp) (xp := xp) (F := .ob (RDO H xp s) :: .mem H :: F) hS hx2 Xi
              exact ⟨_, ⟨lp, H, Heap.le_refl H, rfl, rfl⟩, SL.into hS Xi⟩
end Go.Proofs.YtmcglicbolhmfaaGreat
namespace Go.Proofs.YtmcglicbolhmfaaGreat
set_option linter.unusedVariables false
set_option maxRecDepth 100000
open Go.RowKit

def szOf (n : Int) : Int := ([64, 65, 100, 200, 1000, 65536] : List Int).getD (md n 6) 64
theorem szOf_le (n : Int) : 64 ≤ szOf n ∧ szOf n ≤ 65536 := by
  unfold szOf
  have h := md_lt n 6 (by decide)
  generalize md n 6 = k at *
  match k, h with
  | 0, _ => decide
  | 1, _ => decide
  | 2, _ => decide
  | 3, _ => decide
  | 4, _ => decide
  | 5, _ => decide
theorem size_spec6 (n : Int) : Spec Tryz.prog 11 [.int .i64 n] [] (Gives (.int .i64 (szOf n)) []) := by
  intro W F w hS; apply vc11; unfold Vc11; (try simp only [app] at hS)
  (repeat (first | (with_reducible first | apply Q0 | refine Qa hS ?_ | refine Qb ?_ | refine Qc hS ?_ | refine Qd ?_) | ((with_reducible refine Qe hS ?_); clear hS; intro w hS; simp only [List.set] at hS) | ((with_reducible first | refine s_draw hS ?_ | refine Qf hS ?_); clear hS; intro w hS) | ((with_reducible first | refine s_new hS ?_ | refine Qg hS ?_); clear hS; intro b w hS)))
  (apply s_call (mod_spec n 6 (by decide) (by decide)) hS; exact Xp; clear hS)
  (rintro v post ⟨rfl, rfl⟩ w hS; (try simp only [app] at hS); (repeat (first | (with_reducible first | apply Q0 | refine Qa hS ?_ | refine Qb ?_ | refine Qc hS ?_ | refine Qd ?_) | ((with_reducible refine Qe hS ?_); clear hS; intro w hS; simp only [List.set] at hS) | ((with_reducible first | refine s_draw hS ?_ | refine Qf hS ?_); clear hS; intro w hS) | ((with_reducible first | refine s_new hS ?_ | refine Qg hS ?_); clear hS; intro b w hS))))
  have h := md_lt n 6 (by decide)
  have hu : (([64, 65, 100, 200, 1000, 65536] : List Int).map (Value.int .i64))[md n 6]? = some (.int .i64 (szOf n)) := by
    unfold szOf
    rw [List.getElem?_map, List.getD_eq_getElem?_getD, List.getElem?_eq_getElem (by simpa using h)]; rfl
  refine s_idx h ?_
  rw [Nat.zero_add, Nat.mul_one]
  refine s_ld hS Xh hu ?_
  exact ⟨_, ⟨rfl, rfl⟩, SL.into hS Xi⟩
theorem open00 {base size : Int} (b0 : 0 ≤ base) (b1 : base ≤ 12288) (s0 : 64 ≤ size) (s1 : size ≤ 65536) : openG s00 base size = (s00, .ok ⟨[], base, size, none⟩) :=
  open_chain (L := []) (f := base) (n := 1) trivial rfl rfl b0 b1 s0 s1 (Int.le_refl _) (by simp; omega) (by decide) (by simp [entsG])
theorem linv00 {base size : Int} (b0 : 0 ≤ base) (b1 : base ≤ 12288) (s0 : 64 ≤ size) (s1 : size ≤ 65536) : LInv ⟨[], base, size, none⟩ s00 base 1 [] :=
  ⟨trivial, rfl, rfl, fun _ => ⟨rfl, rfl⟩, Int.le_refl _, b0, b1, s0, s1, by decide, by show base + ((0 : Nat) : Int) + 2 ≤ base + 4096; omega, rfl, rfl⟩
theorem ok00 {base size : Int} (b0 : 0 ≤ base) (b1 : base ≤ 12288) (s0 : 64 ≤ size) (s1 : size ≤ 65536) : (⟨[], base, size, none⟩ : PLog).Ok 0 := ⟨by simp, b0, b1, s0, s1, Nat.le_refl _⟩
theorem full_len {L : List PSeg} (h : ∀ s ∈ L, s.l ≠ []) : L.length ≤ (entsG L).length := by
  induction L with
  | nil => simp
  | cons a A ih =>
    have h0 : a.l.length ≠ 0 := fun e => h a (.head _) (List.eq_nil_of_length_eq_zero e)
    have := ih fun s hs => h s (.tail _ hs)
    rw [entsG_cons, List.length_append, List.length_cons]; omega
theorem awake06_spec : Spec Tryz.prog 5 [] [] (Gives (.bool true) []) := by
  intro W F w hS; apply vc5; unfold Vc5; (try simp only [app] at hS)
  (apply s_call (newD_spec) hS; exact Xp; clear hS)
  rintro v post ⟨dp, rfl, rfl⟩ w hS
  (try simp only [app] at hS)
  (apply s_call (openL_spec dp s00 16 64 (s00_ok 0) (by decide) (by decide) (by decide)) hS; exact Xp; clear hS)
  rintro r post hQ w hS
  rw [open00 (by decide) (by decide) (by decide) (by decide)] at hQ
  obtain ⟨lp, rfl, rfl⟩ := hQ
  (try simp only [app] at hS)
  have hi := linv00 (base := 16) (size := 64) (by decide) (by decide) (by decide) (by decide)
  have hok := ok00 (base := 16) (size := 64) (by decide) (by decide) (by decide) (by decide)
  (repeat (first | (with_reducible first | apply Q0 | refine Qa hS ?_ | refine Qb ?_ | refine Qc hS ?_ | refine Qd ?_) | ((with_reducible refine Qe hS ?_); clear hS; intro w hS; simp only [List.set] at hS) | ((with_reducible first | refine s_draw hS ?_ | refine Qf hS ?_); clear hS; intro w hS) | ((with_reducible first | refine s_new hS ?_ | refine Qg hS ?_); clear hS; intro b w hS)))
  refine s_iff ?_
  (repeat (first | (with_reducible first | apply Q0 | refine Qa hS ?_ | refine Qb ?_ | refine Qc hS ?_ | refine Qd ?_) | ((with_reducible refine Qe hS ?_); clear hS; intro w hS; simp only [List.set] at hS) | ((with_reducible first | refine s_draw hS ?_ | refine Qf hS ?_); clear hS; intro w hS) | ((with_reducible first | refine s_new hS ?_ | refine Qg hS ?_); clear hS; intro b w hS)))
  refine s_iff ?_
  (repeat (first | (with_reducible first | apply Q0 | refine Qa hS ?_ | refine Qb ?_ | refine Qc hS ?_ | refine Qd ?_) | ((with_reducible refine Qe hS ?_); clear hS; intro w hS; simp only [List.set] at hS) | ((with_reducible first | refine s_draw hS ?_ | refine Qf hS ?_); clear hS; intro w hS) | ((with_reducible first | refine s_new hS ?_ | refine Qg hS ?_); clear hS; intro b w hS)))
  refine s_ifp (fun h => absurd rfl h) (fun _ => ?_)
  (repeat (first | (with_reducible first | apply Q0 | refine Qa hS ?_ | refine Qb ?_ | refine Qc hS ?_ | refine Qd ?_) | ((with_reducible refine Qe hS ?_); clear hS; intro w hS; simp only [List.set] at hS) | ((with_reducible first | refine s_draw hS ?_ | refine Qf hS ?_); clear hS; intro w hS) | ((with_reducible first | refine s_new hS ?_ | refine Qg hS ?_); clear hS; intro b w hS)))
  (apply s_call (lowO_spec lp dp _ hok (by decide)) hS; exact Xp; clear hS)
  (rintro v post ⟨rfl, rfl⟩ w hS; (try simp only [app] at hS); (repeat (first | (with_reducible first | apply Q0 | refine Qa hS ?_ | refine Qb ?_ | refine Qc hS ?_ | refine Qd ?_) | ((with_reducible refine Qe hS ?_); clear hS; intro w hS; simp only [List.set] at hS) | ((with_reducible first | refine s_draw hS ?_ | refine Qf hS ?_); clear hS; intro w hS) | ((with_reducible first | refine s_new hS ?_ | refine Qg hS ?_); clear hS; intro b w hS))))
  refine s_ifp (fun h => absurd rfl h) (fun _ => ?_)
  (repeat (first | (with_reducible first | apply Q0 | refine Qa hS ?_ | refine Qb ?_ | refine Qc hS ?_ | refine Qd ?_) | ((with_reducible refine Qe hS ?_); clear hS; intro w hS; simp only [List.set] at hS) | ((with_reducible first | refine s_draw hS ?_ | refine Qf hS ?_); clear hS; intro w hS) | ((with_reducible first | refine s_new hS ?_ | refine Qg hS ?_); clear hS; intro b w hS)))
  (apply s_call (headO_spec lp dp _ hok (by decide)) hS; exact Xp; clear hS)
  (rintro v post ⟨rfl, rfl⟩ w hS; (try simp only [app] at hS); (repeat (first | (with_reducible first | apply Q0 | refine Qa hS ?_ | refine Qb ?_ | refine Qc hS ?_ | refine Qd ?_) | ((with_reducible refine Qe hS ?_); clear hS; intro w hS; simp only [List.set] at hS) | ((with_reducible first | refine s_draw hS ?_ | refine Qf hS ?_); clear hS; intro w hS) | ((with_reducible first | refine s_new hS ?_ | refine Qg hS ?_); clear hS; intro b w hS))))
  refine s_ifp (fun h => absurd rfl h) (fun _ => ?_)
  (repeat (first | (with_reducible first | apply Q0 | refine Qa hS ?_ | refine Qb ?_ | refine Qc hS ?_ | refine Qd ?_) | ((with_reducible refine Qe hS ?_); clear hS; intro w hS; simp only [List.set] at hS) | ((with_reducible first | refine s_draw hS ?_ | refine Qf hS ?_); clear hS; intro w hS) | ((with_reducible first | refine s_new hS ?_ | refine Qg hS ?_); clear hS; intro b w hS)))
  refine s_cvSame hS Xu Tryz.underlying31 Tryz.underlying5 ?_
  clear hS; intro w hS
  have hS := OwnSl.full (n := 1) (sz := 1) (cells := ([97] : List UInt8).map u8c) (b := b) (t := 5) rfl (SL.into hS (t := .pt b [.int .u8 97] 5 :: .ob (LogO lp dp ⟨[], 16, 64, none⟩) :: .ob (DskO dp s00) :: F) Xi)
  have hrb : Rdb (.ob (OwnSl (.slice (some ⟨b, 0, none⟩) 1 1) 5 1 1 (([97] : List UInt8).map u8c))) (.slice (some ⟨b, 0, none⟩) 1 1) [97] := Rdb.own (b := [97])
  (apply s_call (appendL_spec (.ob (OwnSl (.slice (some ⟨b, 0, none⟩) 1 1) 5 1 1 (([97] : List UInt8).map u8c))) lp dp ⟨[], 16, 64, none⟩ s00 _ [97] hrb (by decide) hok (by decide) (s00_ok 0) (by decide) (by decide)) hS; exact Xp; clear hS)
  (rintro v post ⟨rfl, rfl⟩ w hS; (try simp only [app] at hS); (repeat (first | (with_reducible first | apply Q0 | refine Qa hS ?_ | refine Qb ?_ | refine Qc hS ?_ | refine Qd ?_) | ((with_reducible refine Qe hS ?_); clear hS; intro w hS; simp only [List.set] at hS) | ((with_reducible first | refine s_draw hS ?_ | refine Qf hS ?_); clear hS; intro w hS) | ((with_reducible first | refine s_new hS ?_ | refine Qg hS ?_); clear hS; intro b w hS))))
  have hgo := appendG_gok (d := s00) hok [97]
  rcases append_live hi (p := [97]) (by decide) (by decide) (by decide) (by decide) with ⟨g, d, e, hi2, ho, _, _, _, _, hne, _, _⟩ | ⟨d, _, _, _, _, h0⟩
  · rw [e] at hS hgo ⊢
    simp only at hS hgo ⊢
    (apply s_call (readO_spec lp dp g hgo (by decide) 1 (by decide)) hS; exact Xp; clear hS)
    rintro r post hQ w hS
    rw [hi2.chain.read, hi2.ents] at hQ
    obtain ⟨u, rfl, rfl⟩ := hQ
    (try simp only [app] at hS)
    (repeat (first | (with_reducible first | apply Q0 | refine Qa hS ?_ | refine Qb ?_ | refine Qc hS ?_ | refine Qd ?_) | ((with_reducible refine Qe hS ?_); clear hS; intro w hS; simp only [List.set] at hS) | ((with_reducible first | refine s_draw hS ?_ | refine Qf hS ?_); clear hS; intro w hS) | ((with_reducible first | refine s_new hS ?_ | refine Qg hS ?_); clear hS; intro b w hS)))
    refine s_ifp (fun _ => ?_) (fun h => absurd rfl h)
    (repeat (first | (with_reducible first | apply Q0 | refine Qa hS ?_ | refine Qb ?_ | refine Qc hS ?_ | refine Qd ?_) | ((with_reducible refine Qe hS ?_); clear hS; intro w hS; simp only [List.set] at hS) | ((with_reducible first | refine s_draw hS ?_ | refine Qf hS ?_); clear hS; intro w hS) | ((with_reducible first | refine s_new hS ?_ | refine Qg hS ?_); clear hS; intro b w hS)))
    refine s_ifp (fun _ => ?_) (fun h => absurd rfl h)
    (repeat (first | (with_reducible first | apply Q0 | refine Qa hS ?_ | refine Qb ?_ | refine Qc hS ?_ | refine Qd ?_) | ((with_reducible refine Qe hS ?_); clear hS; intro w hS; simp only [List.set] at hS) | ((with_reducible first | refine s_draw hS ?_ | refine Qf hS ?_); clear hS; intro w hS) | ((with_reducible first | refine s_new hS ?_ | refine Qg hS ?_); clear hS; intro b w hS)))
    refine s_ifp (fun _ => ?_) (fun h => absurd rfl h)
    have hrd : Rdb (.ob (OwnSl u 5 1 ([97] : List UInt8).length (([97] : List UInt8).map u8c))) u [97] := Rdb.own
    refine s_bytesStr (bs := [97]) (hrd.isSl hS Xh) (hrd.src hS Xh) Tryz.underlying31 Tryz.underlying9 Tryz.underlying5 ?_
    (repeat (first | (with_reducible first | apply Q0 | refine Qa hS ?_ | refine Qb ?_ | refine Qc hS ?_ | refine Qd ?_) | ((with_reducible refine Qe hS ?_); clear hS; intro w hS; simp only [List.set] at hS) | ((with_reducible first | refine s_draw hS ?_ | refine Qf hS ?_); clear hS; intro w hS) | ((with_reducible first | refine s_new hS ?_ | refine Qg hS ?_); clear hS; intro b w hS)))
    refine s_ifp (fun _ => ?_) (fun h => absurd rfl h)
    (repeat (first | (with_reducible first | apply Q0 | refine Qa hS ?_ | refine Qb ?_ | refine Qc hS ?_ | refine Qd ?_) | ((with_reducible refine Qe hS ?_); clear hS; intro w hS; simp only [List.set] at hS) | ((with_reducible first | refine s_draw hS ?_ | refine Qf hS ?_); clear hS; intro w hS) | ((with_reducible first | refine s_new hS ?_ | refine Qg hS ?_); clear hS; intro b w hS)))
    (apply s_call (segsO_spec lp dp g hgo (by decide)) hS; exact Xp; clear hS)
    (rintro v post ⟨rfl, rfl⟩ w hS; (try simp only [app] at hS); (repeat (first | (with_reducible first | apply Q0 | refine Qa hS ?_ | refine Qb ?_ | refine Qc hS ?_ | refine Qd ?_) | ((with_reducible refine Qe hS ?_); clear hS; intro w hS; simp only [List.set] at hS) | ((with_reducible first | refine s_draw hS ?_ | refine Qf hS ?_); clear hS; intro w hS) | ((with_reducible first | refine s_new hS ?_ | refine Qg hS ?_); clear hS; intro b w hS))))
    have hl1 := full_len hne
    have hl2 : g.segs ≠ [] := fun e => by have := hi2.ents; rw [e] at this; cases this
    have hl3 := List.length_pos_iff.2 hl2
    rw [hi2.ents] at hl1
    have hl4 : g.segs.length = 1 := by simp at hl1; omega
    rw [hl4]
    refine s_ifp (fun _ => ?_) (fun h => absurd rfl h)
    (repeat (first | (with_reducible first | apply Q0 | refine Qa hS ?_ | refine Qb ?_ | refine Qc hS ?_ | refine Qd ?_) | ((with_reducible refine Qe hS ?_); clear hS; intro w hS; simp only [List.set] at hS) | ((with_reducible first | refine s_draw hS ?_ | refine Qf hS ?_); clear hS; intro w hS) | ((with_reducible first | refine s_new hS ?_ | refine Qg hS ?_); clear hS; intro b w hS)))
    (apply s_call (opsD_spec dp d) hS; exact Xp; clear hS)
    (rintro v post ⟨rfl, rfl⟩ w hS; (try simp only [app] at hS); (repeat (first | (with_reducible first | apply Q0 | refine Qa hS ?_ | refine Qb ?_ | refine Qc hS ?_ | refine Qd ?_) | ((with_reducible refine Qe hS ?_); clear hS; intro w hS; simp only [List.set] at hS) | ((with_reducible first | refine s_draw hS ?_ | refine Qf hS ?_); clear hS; intro w hS) | ((with_reducible first | refine s_new hS ?_ | refine Qg hS ?_); clear hS; intro b w hS))))
    rw [ho]
    exact ⟨_, ⟨rfl, rfl⟩, SL.into hS Xi⟩
  · exact absurd rfl h0
end Go.Proofs.YtmcglicbolhmfaaGreat
namespace Go.Proofs.YtmcglicbolhmfaaGreat
set_option linter.unusedVariables false
set_option maxRecDepth 100000
open Go.RowKit

theorem disks_spec (H : Heap) (dp xp : Nat) (s : DS) (N : Nat) (hok : s.Ok N) (hN : N ≤ 140737488355328) (hR : s.R.length ≤ 100000) :
    Spec Tryz.prog 14 [.pointer (some ⟨dp, 0, none⟩), .pointer (some ⟨xp, 0, none⟩)] [.ob (DskO dp s), .ob (RDO H xp s), .mem H] (fun v post => v = .bool true ∧ ∃ H', H.le H' ∧ post = [.ob (DskO dp s), .ob (RDO H' xp s), .mem H']) := by
  intro W F w hS; apply vc14; unfold Vc14; (try simp only [app] at hS)
  (apply s_call (filesD_spec dp s N hok hR) hS; exact Xp; clear hS)
  rintro fl post rfl w hS
  (try simp only [app] at hS)
  obtain ⟨fv, ys, ⟨he, hrb⟩, hS⟩ := RDO.iff.1 (SL.into hS (t := .ob (RDO H xp s) :: .ob (DskO dp s) :: .ob (OwnSl fl 3 1 s.R.length (s.R.map fun x => .int .i64 x.id)) :: .mem H :: F) Xi)
  have hyl : ys.length = s.R.length := by rw [← he, List.length_map]
  (repeat (first | (with_reducible first | apply Q0 | refine Qa hS ?_ | refine Qb ?_ | refine Qc hS ?_ | refine Qd ?_) | ((with_reducible refine Qe hS ?_); clear hS; intro w hS; simp only [List.set] at hS) | ((with_reducible first | refine s_draw hS ?_ | refine Qf hS ?_); clear hS; intro w hS) | ((with_reducible first | refine s_new hS ?_ | refine Qg hS ?_); clear hS; intro b w hS)))
  refine s_lenO hS (v := fl) (t := 3) (sz := 1) (n := s.R.length) (cells := s.R.map fun x => .int .i64 x.id) Xh ?_
  (repeat (first | (with_reducible first | apply Q0 | refine Qa hS ?_ | refine Qb ?_ | refine Qc hS ?_ | refine Qd ?_) | ((with_reducible refine Qe hS ?_); clear hS; intro w hS; simp only [List.set] at hS) | ((with_reducible first | refine s_draw hS ?_ | refine Qf hS ?_); clear hS; intro w hS) | ((with_reducible first | refine s_new hS ?_ | refine Qg hS ?_); clear hS; intro b w hS)))
  refine s_lenO hS (v := fv) (t := 76) (sz := 3) (n := ys.length) (cells := (ys.map encRF).flatten) Xh ?_
  (repeat (first | (with_reducible first | apply Q0 | refine Qa hS ?_ | refine Qb ?_ | refine Qc hS ?_ | refine Qd ?_) | ((with_reducible refine Qe hS ?_); clear hS; intro w hS; simp only [List.set] at hS) | ((with_reducible first | refine s_draw hS ?_ | refine Qf hS ?_); clear hS; intro w hS) | ((with_reducible first | refine s_new hS ?_ | refine Qg hS ?_); clear hS; intro b w hS)))
  refine s_ifp (fun h => absurd (by omega) h) (fun _ => ?_)
  (repeat (first | (with_reducible first | apply Q0 | refine Qa hS ?_ | refine Qb ?_ | refine Qc hS ?_ | refine Qd ?_) | ((with_reducible refine Qe hS ?_); clear hS; intro w hS; simp only [List.set] at hS) | ((with_reducible first | refine s_draw hS ?_ | refine Qf hS ?_); clear hS; intro w hS) | ((with_reducible first | refine s_new hS ?_ | refine Qg hS ?_); clear hS; intro b w hS)))
  (apply s_call (downD_spec dp s) hS; exact Xp; clear hS)
  (rintro v post ⟨rfl, rfl⟩ w hS; (try simp only [app] at hS); (repeat (first | (with_reducible first | apply Q0 | refine Qa hS ?_ | refine Qb ?_ | refine Qc hS ?_ | refine Qd ?_) | ((with_reducible refine Qe hS ?_); clear hS; intro w hS; simp only [List.set] at hS) | ((with_reducible first | refine s_draw hS ?_ | refine Qf hS ?_); clear hS; intro w hS) | ((with_reducible first | refine s_new hS ?_ | refine Qg hS ?_); clear hS; intro b w hS))))
  refine s_ifp (fun h => absurd rfl h) (fun _ => ?_)
  (repeat (first | (with_reducible first | apply Q0 | refine Qa hS ?_ | refine Qb ?_ | refine Qc hS ?_ | refine Qd ?_) | ((with_reducible refine Qe hS ?_); clear hS; intro w hS; simp only [List.set] at hS) | ((with_reducible first | refine s_draw hS ?_ | refine Qf hS ?_); clear hS; intro w hS) | ((with_reducible first | refine s_new hS ?_ | refine Qg hS ?_); clear hS; intro b w hS)))
  (apply s_call (opsD_spec dp s) hS; exact Xp; clear hS)
  (rintro v post ⟨rfl, rfl⟩ w hS; (try simp only [app] at hS); (repeat (first | (with_reducible first | apply Q0 | refine Qa hS ?_ | refine Qb ?_ | refine Qc hS ?_ | refine Qd ?_) | ((with_reducible refine Qe hS ?_); clear hS; intro w hS; simp only [List.set] at hS) | ((with_reducible first | refine s_draw hS ?_ | refine Qf hS ?_); clear hS; intro w hS) | ((with_reducible first | refine s_new hS ?_ | refine Qg hS ?_); clear hS; intro b w hS))))
  refine s_ifp (fun h => absurd rfl h) (fun _ => ?_)
  refine ⟨fun us w => ∃ (i : Nat) (H2 : Heap), us = [.int .i64 i] ∧ i ≤ s.R.length ∧ H.le H2 ∧ SL W (.ob (DskO dp s) :: .pt xp (rcells fv s) 28 :: .ob (FilesO fv ys) :: .ob (OwnSl fl 3 1 s.R.length (s.R.map fun x => .int .i64 x.id)) :: .mem H2 :: F) w,
    fun us _ => match us with | [.int _ i] => (s.R.length - i).toNat | _ => 0, ⟨0, H, rfl, by omega, Heap.le_refl H, SL.into hS Xi⟩, ?_⟩
  clear hS
  rintro v6 w ⟨i, H2, hus, hi, h02, hS⟩
  cases hus
  refine s_lenO hS (v := fl) (t := 3) (sz := 1) (n := s.R.length) (cells := s.R.map fun x => .int .i64 x.id) Xh ?_
  (repeat (first | (with_reducible first | apply Q0 | refine Qa hS ?_ | refine Qb ?_ | refine Qc hS ?_ | refine Qd ?_) | ((with_reducible refine Qe hS ?_); clear hS; intro w hS; simp only [List.set] at hS) | ((with_reducible first | refine s_draw hS ?_ | refine Qf hS ?_); clear hS; intro w hS) | ((with_reducible first | refine s_new hS ?_ | refine Qg hS ?_); clear hS; intro b w hS)))
  refine s_ifp (fun h => ?_) (fun h => ?_)
  · have hil : i < s.R.length := by omega
    have hiy : i < ys.length := by omega
    have hg : getK PF.id s.R s.R[i].id = some s.R[i] := getK_of hok.sorted (List.getElem_mem hil)
    have hy1 : ys[i].1 = s.R[i] := by
      have h1 : (ys.map Prod.fst)[i]? = s.R[i]? := by rw [he]
      rw [List.getElem?_map, List.getElem?_eq_getElem hiy, List.getElem?_eq_getElem hil] at h1
      simpa using h1
    have hx : ys[i]? = some ys[i] := List.getElem?_eq_getElem hiy
    have hold := (hrb _ (List.getElem_mem hiy)).mono h02
    have hu : (s.R.map fun x => Value.int .i64 x.id)[i]? = some (.int .i64 s.R[i].id) := by simp [hil]
    have hye : encRF ys[i] = [.int .i64 s.R[i].id, .int .i64 (s.R[i].safe : Int), ys[i].2] := by unfold encRF; rw [hy1]
    rw [hy1] at hold
    generalize ys[i] = y at *
    generalize s.R[i] = f at *
    refine s_get1O hS (v := fl) (t := 3) Xh hil hu ?_
    (apply s_call (readD_spec dp s N hok hN f.id) hS; exact Xp; clear hS)
    rintro v post hq w hS
    unfold ReadQ at hq
    rw [hg] at hq
    obtain ⟨u, rfl, rfl⟩ := hq
    (try simp only [app] at hS)
    obtain ⟨H3, h23, hR3, hS⟩ := s_freeze (H := H2) (v := u) (n := f.b.length) (sz := 1) (t := 5) (cells := f.b.map u8c) hS Xp
    (repeat (first | (with_reducible first | apply Q0 | refine Qa hS ?_ | refine Qb ?_ | refine Qc hS ?_ | refine Qd ?_) | ((with_reducible refine Qe hS ?_); clear hS; intro w hS; simp only [List.set] at hS) | ((with_reducible first | refine s_draw hS ?_ | refine Qf hS ?_); clear hS; intro w hS) | ((with_reducible first | refine s_new hS ?_ | refine Qg hS ?_); clear hS; intro b w hS)))
    refine s_iff ?_
    (repeat (first | (with_reducible first | apply Q0 | refine Qa hS ?_ | refine Qb ?_ | refine Qc hS ?_ | refine Qd ?_) | ((with_reducible refine Qe hS ?_); clear hS; intro w hS; simp only [List.set] at hS) | ((with_reducible first | refine s_draw hS ?_ | refine Qf hS ?_); clear hS; intro w hS) | ((with_reducible first | refine s_new hS ?_ | refine Qg hS ?_); clear hS; intro b w hS)))
    refine s_get1O hS (v := fl) (t := 3) Xh hil hu ?_
    (repeat (first | (with_reducible first | apply Q0 | refine Qa hS ?_ | refine Qb ?_ | refine Qc hS ?_ | refine Qd ?_) | ((with_reducible refine Qe hS ?_); clear hS; intro w hS; simp only [List.set] at hS) | ((with_reducible first | refine s_draw hS ?_ | refine Qf hS ?_); clear hS; intro w hS) | ((with_reducible first | refine s_new hS ?_ | refine Qg hS ?_); clear hS; intro b w hS)))
    refine s_getFO (i := 0) hS (v := fv) (t := 76) Xh encRF_len hx hiy (u := .int .i64 f.id) (by rw [hye]; rfl) ?_
    (repeat (first | (with_reducible first | apply Q0 | refine Qa hS ?_ | refine Qb ?_ | refine Qc hS ?_ | refine Qd ?_) | ((with_reducible refine Qe hS ?_); clear hS; intro w hS; simp only [List.set] at hS) | ((with_reducible first | refine s_draw hS ?_ | refine Qf hS ?_); clear hS; intro w hS) | ((with_reducible first | refine s_new hS ?_ | refine Qg hS ?_); clear hS; intro b w hS)))
    refine s_ifp (fun h => absurd rfl h) (fun _ => ?_)
    (repeat (first | (with_reducible first | apply Q0 | refine Qa hS ?_ | refine Qb ?_ | refine Qc hS ?_ | refine Qd ?_) | ((with_reducible refine Qe hS ?_); clear hS; intro w hS; simp only [List.set] at hS) | ((with_reducible first | refine s_draw hS ?_ | refine Qf hS ?_); clear hS; intro w hS) | ((with_reducible first | refine s_new hS ?_ | refine Qg hS ?_); clear hS; intro b w hS)))
    refine s_getFO (i := 2) hS (v := fv) (t := 76) Xh encRF_len hx hiy (u := y.2) (by rw [hye]; rfl) ?_
    (apply s_call (bytes1_spec (.mem H3) u y.2 f.b f.b (Rdb.rd hR3) (Rdb.rd (hold.mono h23))) hS; exact Xp; clear hS)
    (rintro v post ⟨rfl, rfl⟩ w hS; (try simp only [app] at hS); (repeat (first | (with_reducible first | apply Q0 | refine Qa hS ?_ | refine Qb ?_ | refine Qc hS ?_ | refine Qd ?_) | ((with_reducible refine Qe hS ?_); clear hS; intro w hS; simp only [List.set] at hS) | ((with_reducible first | refine s_draw hS ?_ | refine Qf hS ?_); clear hS; intro w hS) | ((with_reducible first | refine s_new hS ?_ | refine Qg hS ?_); clear hS; intro b w hS))))
    rw [decide_eq_true rfl]
    refine s_iff ?_
    (repeat (first | (with_reducible first | apply Q0 | refine Qa hS ?_ | refine Qb ?_ | refine Qc hS ?_ | refine Qd ?_) | ((with_reducible refine Qe hS ?_); clear hS; intro w hS; simp only [List.set] at hS) | ((with_reducible first | refine s_draw hS ?_ | refine Qf hS ?_); clear hS; intro w hS) | ((with_reducible first | refine s_new hS ?_ | refine Qg hS ?_); clear hS; intro b w hS)))
    refine s_get1O hS (v := fl) (t := 3) Xh hil hu ?_
    (repeat (first | (with_reducible first | apply Q0 | refine Qa hS ?_ | refine Qb ?_ | refine Qc hS ?_ | refine Qd ?_) | ((with_reducible refine Qe hS ?_); clear hS; intro w hS; simp only [List.set] at hS) | ((with_reducible first | refine s_draw hS ?_ | refine Qf hS ?_); clear hS; intro w hS) | ((with_reducible first | refine s_new hS ?_ | refine Qg hS ?_); clear hS; intro b w hS)))
    obtain ⟨fa, fc, rfl, _, hfx⟩ := OwnSl.at hS (v := fv) (t := 76) (sz := 3) (n := ys.length) (cells := (ys.map encRF).flatten) Xh
    obtain ⟨fb, rfl, _⟩ := hfx i hiy
    have hcell : ((ys.map encRF).flatten)[0 + i * 3 + 1]? = some (.int .i64 (f.safe : Int)) := by
      have := flat_at encRF_len ys i 1 y (.int .i64 (f.safe : Int)) hx (by rw [hye]; rfl)
      rwa [Nat.zero_add]
    refine s_idx hiy (s_fld ?_)
    refine s_ldO hS (t := 76) (sz := 3) (cells := (ys.map encRF).flatten) Xh (by omega) hcell ?_
    (apply s_call (syncedD_spec dp s f.id) hS; exact Xp; clear hS)
    (rintro v post ⟨rfl, rfl⟩ w hS; (try simp only [app] at hS); (repeat (first | (with_reducible first | apply Q0 | refine Qa hS ?_ | refine Qb ?_ | refine Qc hS ?_ | refine Qd ?_) | ((with_reducible refine Qe hS ?_); clear hS; intro w hS; simp only [List.set] at hS) | ((with_reducible first | refine s_draw hS ?_ | refine Qf hS ?_); clear hS; intro w hS) | ((with_reducible first | refine s_new hS ?_ | refine Qg hS ?_); clear hS; intro b w hS))))
    have hl2 : safeF s.R f.id = f.safe := by unfold safeF; rw [hg]
    rw [hl2]
    refine s_ldO hS (t := 76) (sz := 3) (cells := (ys.map encRF).flatten) Xh (by omega) hcell ?_
    (repeat (first | (with_reducible first | apply Q0 | refine Qa hS ?_ | refine Qb ?_ | refine Qc hS ?_ | refine Qd ?_) | ((with_reducible refine Qe hS ?_); clear hS; intro w hS; simp only [List.set] at hS) | ((with_reducible first | refine s_draw hS ?_ | refine Qf hS ?_); clear hS; intro w hS) | ((with_reducible first | refine s_new hS ?_ | refine Qg hS ?_); clear hS; intro b w hS)))
    refine s_ifp (fun h => absurd rfl h) (fun _ => ?_)
    (repeat (first | (with_reducible first | apply Q0 | refine Qa hS ?_ | refine Qb ?_ | refine Qc hS ?_ | refine Qd ?_) | ((with_reducible refine Qe hS ?_); clear hS; intro w hS; simp only [List.set] at hS) | ((with_reducible first | refine s_draw hS ?_ | refine Qf hS ?_); clear hS; intro w hS) | ((with_reducible first | refine s_new hS ?_ | refine Qg hS ?_); clear hS; intro b w hS)))
    exact ⟨⟨i + 1, H3, by simp, by omega, Heap.le_trans h02 h23, SL.into hS Xi⟩, by dsimp only; omega⟩
  · have hS := (RDO.iff (H := H2) (xp := xp) (s := s)).2 ⟨fv, ys, ⟨he, hrb.mono h02⟩, SL.into hS (t := .pt xp (rcells fv s) 28 :: .ob (FilesO fv ys) :: .ob (DskO dp s) :: .mem H2 :: F) Xi⟩
    exact ⟨_, ⟨rfl, H2, h02, rfl⟩, SL.into hS Xi⟩
/-- Both logs tell the same. -/
theorem logs_spec (lp rlp dp xp : Nat) (g : PLog) {M : Nat} (hg : GOk g M) (hM : M ≤ 1000000000000) :
    Spec Tryz.prog 15 [.pointer (some ⟨lp, 0, none⟩), .pointer (some ⟨rlp, 0, none⟩)] [.ob (LogO lp dp g), .ob (RLogO rlp xp g)] (Gives (.bool true) [.ob (LogO lp dp g), .ob (RLogO rlp xp g)]) := by
  intro W F w hS; apply vc15; unfold Vc15; (try simp only [app] at hS)
  (repeat (first | (with_reducible first | apply Q0 | refine Qa hS ?_ | refine Qb ?_ | refine Qc hS ?_ | refine Qd ?_) | ((with_reducible refine Qe hS ?_); clear hS; intro w hS; simp only [List.set] at hS) | ((with_reducible first | refine s_draw hS ?_ | refine Qf hS ?_); clear hS; intro w hS) | ((with_reducible first | refine s_new hS ?_ | refine Qg hS ?_); clear hS; intro b w hS)))
  (apply s_call (lowO_spec lp dp g hg.ok hM) hS; exact Xp; clear hS)
  (rintro v post ⟨rfl, rfl⟩ w hS; (try simp only [app] at hS); (repeat (first | (with_reducible first | apply Q0 | refine Qa hS ?_ | refine Qb ?_ | refine Qc hS ?_ | refine Qd ?_) | ((with_reducible refine Qe hS ?_); clear hS; intro w hS; simp only [List.set] at hS) | ((with_reducible first | refine s_draw hS ?_ | refine Qf hS ?_); clear hS; intro w hS) | ((with_reducible first | refine s_new hS ?_ | refine Qg hS ?_); clear hS; intro b w hS))))
  (apply s_call (rlow_spec rlp xp g hg.ok hM) hS; exact Xp; clear hS)
  (rintro v post ⟨rfl, rfl⟩ w hS; (try simp only [app] at hS); (repeat (first | (with_reducible first | apply Q0 | refine Qa hS ?_ | refine Qb ?_ | refine Qc hS ?_ | refine Qd ?_) | ((with_reducible refine Qe hS ?_); clear hS; intro w hS; simp only [List.set] at hS) | ((with_reducible first | refine s_draw hS ?_ | refine Qf hS ?_); clear hS; intro w hS) | ((with_reducible first | refine s_new hS ?_ | refine Qg hS ?_); clear hS; intro b w hS))))
  refine s_ifp (fun h => absurd rfl h) (fun _ => ?_)
  (repeat (first | (with_reducible first | apply Q0 | refine Qa hS ?_ | refine Qb ?_ | refine Qc hS ?_ | refine Qd ?_) | ((with_reducible refine Qe hS ?_); clear hS; intro w hS; simp only [List.set] at hS) | ((with_reducible first | refine s_draw hS ?_ | refine Qf hS ?_); clear hS; intro w hS) | ((with_reducible first | refine s_new hS ?_ | refine Qg hS ?_); clear hS; intro b w hS)))
  (apply s_call (headO_spec lp dp g hg.ok hM) hS; exact Xp; clear hS)
  (rintro v post ⟨rfl, rfl⟩ w hS; (try simp only [app] at hS); (repeat (first | (with_reducible first | apply Q0 | refine Qa hS ?_ | refine Qb ?_ | refine Qc hS ?_ | refine Qd ?_) | ((with_reducible refine Qe hS ?_); clear hS; intro w hS; simp only [List.set] at hS) | ((with_reducible first | refine s_draw hS ?_ | refine Qf hS ?_); clear hS; intro w hS) | ((with_reducible first | refine s_new hS ?_ | refine Qg hS ?_); clear hS; intro b w hS))))
  (apply s_call (rheadL_spec rlp xp g hg.ok hM) hS; exact Xp; clear hS)
  (rintro v post ⟨rfl, rfl⟩ w hS; (try simp only [app] at hS); (repeat (first | (with_reducible first | apply Q0 | refine Qa hS ?_ | refine Qb ?_ | refine Qc hS ?_ | refine Qd ?_) | ((with_reducible refine Qe hS ?_); clear hS; intro w hS; simp only [List.set] at hS) | ((with_reducible first | refine s_draw hS ?_ | refine Qf hS ?_); clear hS; intro w hS) | ((with_reducible first | refine s_new hS ?_ | refine Qg hS ?_); clear hS; intro b w hS))))
  refine s_ifp (fun h => absurd rfl h) (fun _ => ?_)
  obtain ⟨sv, xs, hx, hS⟩ := RLogO.iff.1 (SL.into hS (t := .ob (RLogO rlp xp g) :: .ob (LogO lp dp g) :: F) Xi)
  have hxl : xs.length = g.segs.length := by rw [← hx, List.length_map]
  (repeat (first | (with_reducible first | apply Q0 | refine Qa hS ?_ | refine Qb ?_ | refine Qc hS ?_ | refine Qd ?_) | ((with_reducible refine Qe hS ?_); clear hS; intro w hS; simp only [List.set] at hS) | ((with_reducible first | refine s_draw hS ?_ | refine Qf hS ?_); clear hS; intro w hS) | ((with_reducible first | refine s_new hS ?_ | refine Qg hS ?_); clear hS; intro b w hS)))
  refine s_lenSo hS (v := sv) (t := 90) (sz := 4) (n := xs.length) (cells := (xs.map xcells).flatten) Xh ?_
  (apply s_call (segsO_spec lp dp g hg.ok hM) hS; exact Xp; clear hS)
  (rintro v post ⟨rfl, rfl⟩ w hS; (try simp only [app] at hS); (repeat (first | (with_reducible first | apply Q0 | refine Qa hS ?_ | refine Qb ?_ | refine Qc hS ?_ | refine Qd ?_) | ((with_reducible refine Qe hS ?_); clear hS; intro w hS; simp only [List.set] at hS) | ((with_reducible first | refine s_draw hS ?_ | refine Qf hS ?_); clear hS; intro w hS) | ((with_reducible first | refine s_new hS ?_ | refine Qg hS ?_); clear hS; intro b w hS))))
  rw [hxl]
  refine s_ifp (fun h => absurd rfl h) (fun _ => ?_)
  have hS := RLogO.close (lp := rlp) (xp := xp) (F := .ob (LogO lp dp g) :: F) hS hx Xi
  (try simp only [app] at hS)
  have hh := headG_ge hg.ok.segs
  have hlo : 1 ≤ lowG g.segs ∧ lowG g.segs ≤ 1099511627776 := by
    cases hL : g.segs with
    | nil => exact ⟨by decide, by decide⟩
    | cons a r =>
      have := hg.ok.segs a (by rw [hL]; simp)
      exact ⟨this.n0, this.n1⟩
  (repeat (first | (with_reducible first | apply Q0 | refine Qa hS ?_ | refine Qb ?_ | refine Qc hS ?_ | refine Qd ?_) | ((with_reducible refine Qe hS ?_); clear hS; intro w hS; simp only [List.set] at hS) | ((with_reducible first | refine s_draw hS ?_ | refine Qf hS ?_); clear hS; intro w hS) | ((with_reducible first | refine s_new hS ?_ | refine Qg hS ?_); clear hS; intro b w hS)))
  (apply s_call (rlow_spec rlp xp g hg.ok hM) hS; exact Xp; clear hS)
  (rintro v post ⟨rfl, rfl⟩ w hS; (try simp only [app] at hS); (repeat (first | (with_reducible first | apply Q0 | refine Qa hS ?_ | refine Qb ?_ | refine Qc hS ?_ | refine Qd ?_) | ((with_reducible refine Qe hS ?_); clear hS; intro w hS; simp only [List.set] at hS) | ((with_reducible first | refine s_draw hS ?_ | refine Qf hS ?_); clear hS; intro w hS) | ((with_reducible first | refine s_new hS ?_ | refine Qg hS ?_); clear hS; intro b w hS))))
  refine ⟨fun vs w => ∃ i : Int, vs = [.int .i64 i] ∧ -1 ≤ i ∧ i ≤ headG g.segs + 1099511627780 ∧ SL W (.ob (RLogO rlp xp g) :: .ob (LogO lp dp g) :: F) w, fun vs _ => match vs with | [.int _ i] => (headG g.segs + 2 - i).toNat | _ => 0, ⟨_, rfl, by omega, by omega, SL.into hS Xi⟩, ?_⟩
  clear hS
  rintro v5 w ⟨i, hvs, hi, hi2, hS⟩
  cases hvs
  (apply s_call (rheadL_spec rlp xp g hg.ok hM) hS; exact Xp; clear hS)
  (rintro v post ⟨rfl, rfl⟩ w hS; (try simp only [app] at hS); (repeat (first | (with_reducible first | apply Q0 | refine Qa hS ?_ | refine Qb ?_ | refine Qc hS ?_ | refine Qd ?_) | ((with_reducible refine Qe hS ?_); clear hS; intro w hS; simp only [List.set] at hS) | ((with_reducible first | refine s_draw hS ?_ | refine Qf hS ?_); clear hS; intro w hS) | ((with_reducible first | refine s_new hS ?_ | refine Qg hS ?_); clear hS; intro b w hS))))
  refine s_ifp (fun h => ?_) (fun h => ?_)
  · (repeat (first | (with_reducible first | apply Q0 | refine Qa hS ?_ | refine Qb ?_ | refine Qc hS ?_ | refine Qd ?_) | ((with_reducible refine Qe hS ?_); clear hS; intro w hS; simp only [List.set] at hS) | ((with_reducible first | refine s_draw hS ?_ | refine Qf hS ?_); clear hS; intro w hS) | ((with_reducible first | refine s_new hS ?_ | refine Qg hS ?_); clear hS; intro b w hS)))
    (apply s_call (readO_spec lp dp g hg.ok hM i (by omega)) hS; exact Xp; clear hS)
    intro r post hQ w hS
    have hnext : ∀ {w : World}, SL W (.ob (RLogO rlp xp g) :: .ob (LogO lp dp g) :: F) w → HBin .add (.int .i64 i) (.int .i64 1) fun v47 => (∃ i : Int, [v47] = [.int .i64 i] ∧ -1 ≤ i ∧ i ≤ headG g.segs + 1099511627780 ∧ SL W (.ob (RLogO rlp xp g) :: .ob (LogO lp dp g) :: F) w) ∧ (match ([v47] : List Value) with | [.int _ i] => (headG g.segs + 2 - i).toNat | _ => 0) < (match ([.int .i64 i] : List Value) with | [.int _ i] => (headG g.segs + 2 - i).toNat | _ => 0) := by
      intro w hS
      refine s_add (by omega) ?_
      refine ⟨⟨i + 1, rfl, by omega, by omega, hS⟩, ?_⟩
      exact (Int.toNat_lt_toNat (show 0 < headG g.segs + 2 - i by omega)).2 (by omega)
    cases hr : readG g.segs i with
    | none =>
      rw [hr] at hQ
      obtain ⟨rfl, rfl⟩ := hQ
      (try simp only [app] at hS)
      (repeat (first | (with_reducible first | apply Q0 | refine Qa hS ?_ | refine Qb ?_ | refine Qc hS ?_ | refine Qd ?_) | ((with_reducible refine Qe hS ?_); clear hS; intro w hS; simp only [List.set] at hS) | ((with_reducible first | refine s_draw hS ?_ | refine Qf hS ?_); clear hS; intro w hS) | ((with_reducible first | refine s_new hS ?_ | refine Qg hS ?_); clear hS; intro b w hS)))
      (apply s_call (rreadL_spec rlp xp g i hg hM (by omega)) hS; exact Xp; clear hS)
      intro r post hQ w hS
      rw [hr] at hQ
      obtain ⟨rfl, rfl⟩ := hQ
      (try simp only [app] at hS)
      (repeat (first | (with_reducible first | apply Q0 | refine Qa hS ?_ | refine Qb ?_ | refine Qc hS ?_ | refine Qd ?_) | ((with_reducible refine Qe hS ?_); clear hS; intro w hS; simp only [List.set] at hS) | ((with_reducible first | refine s_draw hS ?_ | refine Qf hS ?_); clear hS; intro w hS) | ((with_reducible first | refine s_new hS ?_ | refine Qg hS ?_); clear hS; intro b w hS)))
      refine s_ifp (fun h => absurd rfl h) (fun _ => ?_)
      (repeat (first | (with_reducible first | apply Q0 | refine Qa hS ?_ | refine Qb ?_ | refine Qc hS ?_ | refine Qd ?_) | ((with_reducible refine Qe hS ?_); clear hS; intro w hS; simp only [List.set] at hS) | ((with_reducible first | refine s_draw hS ?_ | refine Qf hS ?_); clear hS; intro w hS) | ((with_reducible first | refine s_new hS ?_ | refine Qg hS ?_); clear hS; intro b w hS)))
      (apply s_call (bytes1_spec (.ob (LogO lp dp g)) (.slice none 0 0) (.slice none 0 0) [] [] Rdb.nil Rdb.nil) hS; exact Xp; clear hS)
      (rintro v post ⟨rfl, rfl⟩ w hS; (try simp only [app] at hS); (repeat (first | (with_reducible first | apply Q0 | refine Qa hS ?_ | refine Qb ?_ | refine Qc hS ?_ | refine Qd ?_) | ((with_reducible refine Qe hS ?_); clear hS; intro w hS; simp only [List.set] at hS) | ((with_reducible first | refine s_draw hS ?_ | refine Qf hS ?_); clear hS; intro w hS) | ((with_reducible first | refine s_new hS ?_ | refine Qg hS ?_); clear hS; intro b w hS))))
      rw [decide_eq_true rfl]
      refine s_iff ?_
      exact hnext (SL.into hS Xi)
    | some q =>
      rw [hr] at hQ
      obtain ⟨u, rfl, rfl⟩ := hQ
      (try simp only [app] at hS)
      (repeat (first | (with_reducible first | apply Q0 | refine Qa hS ?_ | refine Qb ?_ | refine Qc hS ?_ | refine Qd ?_) | ((with_reducible refine Qe hS ?_); clear hS; intro w hS; simp only [List.set] at hS) | ((with_reducible first | refine s_draw hS ?_ | refine Qf hS ?_); clear hS; intro w hS) | ((with_reducible first | refine s_new hS ?_ | refine Qg hS ?_); clear hS; intro b w hS)))
      (apply s_call (rreadL_spec rlp xp g i hg hM (by omega)) hS; exact Xp; clear hS)
      intro r post hQ w hS
      rw [hr] at hQ
      obtain ⟨u2, rfl, rfl⟩ := hQ
      (try simp only [app] at hS)
      (repeat (first | (with_reducible first | apply Q0 | refine Qa hS ?_ | refine Qb ?_ | refine Qc hS ?_ | refine Qd ?_) | ((with_reducible refine Qe hS ?_); clear hS; intro w hS; simp only [List.set] at hS) | ((with_reducible first | refine s_draw hS ?_ | refine Qf hS ?_); clear hS; intro w hS) | ((with_reducible first | refine s_new hS ?_ | refine Qg hS ?_); clear hS; intro b w hS)))
      refine s_ifp (fun h => absurd rfl h) (fun _ => ?_)
      (repeat (first | (with_reducible first | apply Q0 | refine Qa hS ?_ | refine Qb ?_ | refine Qc hS ?_ | refine Qd ?_) | ((with_reducible refine Qe hS ?_); clear hS; intro w hS; simp only [List.set] at hS) | ((with_reducible first | refine s_draw hS ?_ | refine Qf hS ?_); clear hS; intro w hS) | ((with_reducible first | refine s_new hS ?_ | refine Qg hS ?_); clear hS; intro b w hS)))
      (apply s_call (bytesB_spec (.ob (OwnSl u 5 1 q.length (q.map u8c))) (.ob (OwnSl u2 5 1 q.length (q.map u8c))) u u2 q q Rdb.own Rdb.own) hS; exact Xp; clear hS)
      (rintro v post ⟨rfl, rfl⟩ w hS; (try simp only [app] at hS); (repeat (first | (with_reducible first | apply Q0 | refine Qa hS ?_ | refine Qb ?_ | refine Qc hS ?_ | refine Qd ?_) | ((with_reducible refine Qe hS ?_); clear hS; intro w hS; simp only [List.set] at hS) | ((with_reducible first | refine s_draw hS ?_ | refine Qf hS ?_); clear hS; intro w hS) | ((with_reducible first | refine s_new hS ?_ | refine Qg hS ?_); clear hS; intro b w hS))))
      rw [decide_eq_true rfl]
      refine s_iff ?_
      exact hnext (SL.into hS Xi)
  · exact ⟨_, ⟨rfl, rfl⟩, SL.into hS Xi⟩
end Go.Proofs.YtmcglicbolhmfaaGreat
