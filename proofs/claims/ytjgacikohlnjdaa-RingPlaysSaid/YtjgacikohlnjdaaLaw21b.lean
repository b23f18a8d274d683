/-
  The statement RingPlays, walked.
-/
import Derived.Test.YtjgacikohlnjdaaLaw21
import Derived.Test.YtjgacikohlnjdaaRefGate
import Derived.Deep.DeepCutAuto
import Derived.Deep.CutBlock
import Derived.Test.YtjgacikohlnjdaaLib6
namespace Go.Proofs.Ytjgacikohlnjdaa
set_option linter.unusedVariables false
open Go.RowKit
attribute [local go_sem ↓] Go.wp_at_zero Go.wp_at_succ

/-- An op of layer 21's statements. -/
structure Op21 where
  kind : Int
  s : ByteArray
def tOp21 : GoT Op21 := (tPair (tInt .i64) (tPair tStr tUnit)).via fun o => (o.kind, o.s, ())
theorem tOp21_rd {w : World} {M : MS} {o : Op21} {cs : List Value} (h : tOp21.rd w M o cs) : cs = [.int .i64 o.kind, .string o.s] := by
  obtain ⟨c1, c2, rfl, h1, c3, c4, rfl, h3, h4⟩ := h
  have h1' : c1 = [.int .i64 o.kind] := h1
  have h3' : c3 = [.string o.s] := h3
  have h4' : c4 = [] := h4
  subst h1' h3' h4'
  rfl

set_option maxRecDepth 100000 in
set_option maxHeartbeats 2000000 in
theorem ringPlays_any (n : Int) (l : List Op21) (v : Value) (w : World) (hl : RdS tOp21 w Nob l v) (hlen : l.length ≤ 140737488351232) : LawTrue Try.prog 4 #[.int .i64 n, v] w := by
  unfold LawTrue
  obtain ⟨a, cap, rfl, hcap, hx⟩ := hl.out
  have HX : Hid (∀ i (h : i < l.length), ∃ b off, a = some ⟨b, off, none⟩ ∧ w.cell? ⟨b, off + i * 2, none⟩ = some (.int .i64 l[i].kind) ∧ w.cell? ⟨b, off + i * 2 + 1, none⟩ = some (.string l[i].s)) := fun i h => by
    obtain ⟨b, off, cs, ha, hr, hat⟩ := hx i h
    have := tOp21_rd hr
    subst this
    exact ⟨b, off, ha, hat.2 0 _ rfl, hat.2 1 _ rfl⟩
  clear hx hl
  have b9 := md_lt n 9 (by omega)
  have b64 := md_lt n 64 (by omega)
  have gl : (l.length : Int) ≤ 140737488351232 := by omega
  go_enter Try.func4, Try.ntmps4
  go_upto_if 21 with (go_at_call 12; refine (mod_any _ _ _ (by omega) (by omega)).mono ?_; rintro e w' ⟨rfl, rfl⟩)
  go_cut [5] (fun s5 wx => ∃ c : Nat, 1 ≤ c ∧ c ≤ 64 ∧ s5 = .int .i64 c ∧ w = wx)
  case first =>
    go_wp2_with (go_at_call 12; refine (mod_any _ _ _ (by omega) (by omega)).mono ?_; rintro e w' ⟨rfl, rfl⟩)
    · go_meet
      exact ⟨1 + md n 64, by omega, by omega, by go_num, rfl⟩
    · go_meet
      exact ⟨1 + md n 9, by omega, by omega, by go_num, rfl⟩
  case rest =>
    obtain ⟨c, hc1, hc2, rfl, rfl⟩ := hcut
    clear b9 b64
    go_wp2_with fail
    refine (ring_new c w hc1 hc2).mono ?_
    rintro e w1 ⟨rfl, h1, f1⟩
    go_wp2_with fail
    go_loopw [8, 9] (fun x i wr => ∃ (k : Nat) (L : List ByteArray), k ≤ l.length ∧ i = .int .i64 k ∧ L.length ≤ c ∧ Ring wr (w.heap.size + 1) w.heap.size c L ∧ RdS tStr wr (RingM (w.heap.size + 1) w.heap.size) L x ∧ Fr Nob w wr) (fun _ i _ => l.length - (intOf i).toNat)
    case atStart => exact ⟨0, [], by omega, rfl, by simp, h1, RdS.nil _ _ _, f1⟩
    case round =>
      obtain ⟨k, L, hk, rfl, hLc, hR, hX, hF⟩ := hrel
      clear h1 f1
      by_cases hlt : k < l.length ∧ k < 200
      · obtain ⟨hlt, h200⟩ := hlt
        have gl1 : (k : Int) < l.length := by omega
        have gl2 : (k : Int) < 200 := by omega
        obtain ⟨b, off, rfl, e0, e1⟩ := HX.out k hlt
        have k0 := hF.cell e0 (fun x => x)
        have k1 := hF.cell e1 (fun x => x)
        clear e0 e1
        generalize l[k].kind = kind at *
        generalize l[k].s = s at *
        have m7 := md_lt kind 7 (by omega)
        have hwo : RingM (w.heap.size + 1) w.heap.size wr.heap.size → False := fun h => by have := hR.lt; rcases h with h | h <;> omega
        go_upto_block 2 with (go_at_call 12; refine (mod_any kind 7 _ (by omega) (by omega)).mono ?_; rintro e w2 ⟨rfl, rfl⟩)
        go_cut [8] (fun x wx => ∃ L' : List ByteArray, L'.length ≤ c ∧ Ring wx (w.heap.size + 1) w.heap.size c L' ∧ RdS tStr wx (RingM (w.heap.size + 1) w.heap.size) L' x ∧ Fr (RingM (w.heap.size + 1) w.heap.size) wr wx)
        case first =>
          by_cases m4 : md kind 7 < 4
          · have m4' : (md kind 7 : Int) < 4 := by omega
            by_cases hp : L.length < c
            · have hp' : (L.length : Int) < c := by omega
              go_wp2_with fail
              refine (ring_push_yes (hR.keep ((Fr.refl Nob wr).alloc _) (fun x => x) (fun x => x)) s hp).mono ?_
              rintro e w3 ⟨rfl, h3, f3⟩
              have k2 : w3.cell? ⟨wr.heap.size, 1, none⟩ = some (.string s) := f3.cell (by simp [World.cell?_alloc_new]) hwo
              have f3' : Fr (RingM (w.heap.size + 1) w.heap.size) wr w3 := ((Fr.refl _ wr).alloc _).trans f3
              have hX3 := hX.keep f3' (fun _ _ x => x)
              obtain ⟨ax, cx, rfl, _, _⟩ := hX.out
              have hsz3 : wr.heap.size < w3.heap.size := World.block_lt_of_cell? w3 _ k2
              go_wp2_with fail
              refine wp_region_rg 6 (Fr Nob) (fun w' => w'.cell? ⟨wr.heap.size, 1, none⟩ = some (.string s)) [(8, .slice ax L.length cx), (10, .pointer (some ⟨wr.heap.size, 0, none⟩))] FrN.refl FrN.trans (by kernel_rfl) (by kernel_rfl) (by rfl) ⟨rfl, rfl, trivial⟩
                (fun w' h => h.cell (w := w3.drew) k2 (fun x => x)) ?_
              have hRlt := hR.lt
              have HR3 := Lib.hid h3
              clear hX hR hF HX f3 h3
              apply hd_step (fun v w' => ∃ g, v = .slice (some ⟨g, 0, none⟩) 0 0 ∧ w3.heap.size ≤ g ∧ Blk w' g 9 []) (fun v wa wb ⟨g, h1, h2, h3⟩ hg => ⟨g, h1, h2, h3.keep hg (fun x => x)⟩)
              · intro a wx hz hg hS hfa K Q hK
                have hsz := hg.size
                clear hz hg hfa
                go_simp
                exact hK _ _ ((Fr.refl _ _).alloc _) ⟨_, rfl, hsz, Blk.newL rfl rfl⟩
              apply hd_pure FrN.refl
              · intro a wx hz hg hS hfa K Q hK
                clear hz hg
                simp [facts, lookP, insOf, Oper.looksAt, Op.operands] at hfa
                go_simp
                exact hK
              apply hd_step (fun v w' => ∃ ao cap, v = .slice ao L.length cap ∧ OwnS tStr 9 w' w3.heap.size (RingM (w.heap.size + 1) w.heap.size) L v) (fun v wa wb ⟨ao, cap, h1, h2⟩ hg => ⟨ao, cap, h1, h2.grow hg⟩)
              · intro a wx hz hg hS hfa K Q hK
                simp [facts, lookP, insOf, Oper.looksAt, Op.operands, Call.operands] at hfa
                obtain ⟨⟨g, e97, hg97, b97⟩, e98⟩ := hfa
                simp only [Region.wanted, if_true]
                refine wp_append_lit tStr (.tmp 97) (.tmp 98) 31 31 9 16 rfl Try.styStr Try.underlying31 w3.heap.size (RingM (w.heap.size + 1) w.heap.size) L g _ (by simpa [Act.eval] using e97) (by simpa [Act.eval] using e98) hg97 b97 (fun k hk => by rcases hk with h | h <;> omega) (hX3.grow (w' := wx) hg.of_drew) (by omega) (by omega) hg.size ?_
                intro ao cap1 w5 hown hfr
                exact hK _ _ hfr ⟨ao, cap1, rfl, hown⟩
              repeat (
                apply hd_pure FrN.refl
                · intro a wx hz hg hS hfa K Q hK
                  clear hz hg
                  simp [facts, lookP, insOf, Oper.looksAt, Op.operands] at hfa
                  go_simp
                  exact hK)
              apply hd_step (fun v w' => ∃ g, v = .slice (some ⟨g, 0, none⟩) 1 1 ∧ Blk w' g 9 [.string s]) (fun v wa wb ⟨g, h1, h3⟩ hg => ⟨g, h1, h3.keep hg (fun x => x)⟩)
              · intro a wx hz hg hS hfa K Q hK
                clear hz hg
                simp [facts, lookP, insOf, Oper.looksAt, Op.operands] at hfa
                go_simp
                exact hK _ _ ((Fr.refl _ _).alloc _) ⟨_, rfl, Blk.newL rfl rfl⟩
              apply hd_nil
              intro w5 hw5
              simp only [Done, List.nil_append, List.cons_append, forall_eq]
              intro v0 _ v2 ⟨ao, cap, hv2, ho2⟩ v5 ⟨g, hv5, b5⟩
              subst hv2 hv5
              simp only [List.drop_succ_cons, List.drop_zero, Act.put, List.setIfInBounds_toArray, List.set_cons_succ, List.set_cons_zero]
              refine wpList_append_flat flat_str rfl (.tmp 99) (.tmp 102) 31 31 9 16 rfl Try.styStr Try.underlying31 w3.heap.size (RingM (w.heap.size + 1) w.heap.size) Nob L [s] _ _ rfl rfl ho2 (RdS.one (Nat.le_refl _) b5 rfl (fun x => x)) (by simp; omega) (by simp; omega) hw5.size (L ++ [s]) rfl (L.length + 1) (by simp) _ rfl ?_
              intro ao2 cap2 w6 hap2
              have f6 : Fr Nob w3 w6 := hap2.fr hw5.of_drew (fun k hk hlt => by have := (ho2.lt k hk).1; omega)
              have HO := Lib.hid hap2
              clear hap2 ho2 b5
              go_wp2
              go_meet
              exact ⟨L ++ [s], by simp; omega, HR3.out.keep f6 (fun x => x) (fun x => x), HO.out.own.to_rd (fun k hk hm => by have := (HO.out.own.lt k hk).1; rcases hm with h | h <;> omega), f3'.trans' f6 (fun _ _ x => x.elim)⟩
            · have hp' : ¬ (L.length : Int) < c := by omega
              obtain ⟨ax, cx, rfl, _, _⟩ := hX.out
              go_wp2_with fail
              refine (ring_push_no (hR.keep ((Fr.refl Nob wr).alloc _) (fun x => x) (fun x => x)) s (by omega)).mono ?_
              rintro e w3 ⟨rfl, h3, f3⟩
              have f3' : Fr (RingM (w.heap.size + 1) w.heap.size) wr w3 := ((Fr.refl _ wr).alloc _).trans f3
              have HX3 := Lib.hid (hX.keep f3' (fun _ _ x => x))
              clear hX hF HX
              go_wp2
              go_meet
              exact ⟨L, hLc, h3, HX3.out, f3'⟩
          · have m4' : ¬ (md kind 7 : Int) < 4 := by omega
            have hR1 := hR.keep ((Fr.refl Nob wr).alloc (Obj.cells #[Value.int IntKind.i64 kind, Value.string s] 33)) (fun x => x) (fun x => x)
            have hX1 := hX.keep ((Fr.refl (RingM (w.heap.size + 1) w.heap.size) wr).alloc (Obj.cells #[Value.int IntKind.i64 kind, Value.string s] 33)) (fun _ _ x => x)
            have f1' := (Fr.refl (RingM (w.heap.size + 1) w.heap.size) wr).alloc (Obj.cells #[Value.int IntKind.i64 kind, Value.string s] 33)
            clear hX hR hF HX
            by_cases m6 : md kind 7 < 6
            · have m6' : (md kind 7 : Int) < 6 := by omega
              cases L with
              | nil =>
                obtain ⟨ax, cx, rfl, _, _⟩ := hX1.out
                simp only [List.length_nil] at *
                go_wp2_with fail
                refine (ring_pop_no hR1).mono ?_
                rintro e w3 ⟨rfl, rfl⟩
                have HX1 := Lib.hid hX1
                clear hX1
                go_wp2
                go_meet
                exact ⟨[], by simp, hR1, HX1.out, f1'⟩
              | cons t L =>
                go_wp2_with fail
                refine (ring_pop_yes hR1).mono ?_
                rintro e w3 ⟨rfl, h3, f3⟩
                have hX3 := hX1.keep f3 (fun _ _ x => x)
                obtain ⟨bx, ox, cx, rfl, hcx, hx0⟩ := hX3.pos (by simp)
                obtain ⟨cs, hr, hat⟩ := hx0 0 (by simp)
                have hr' : cs = [.string t] := hr
                subst hr'
                have k2 : w3.cell? ⟨bx, ox, none⟩ = some (.string t) := by simpa using hat.2 0 _ rfl
                have HX3 := Lib.hid hX3
                have H3 := Lib.hid h3
                clear hx0 hX3 hX1 hat hr h3
                simp only [List.length_cons] at hcx hLc
                have hc' : (((L.length + 1 : Nat) : Int)) ≤ cx := by omega
                have hp1 : (1 : Int) ≤ ((L.length + 1 : Nat) : Int) := by omega
                have hp0 : (0 : Int) < ((L.length + 1 : Nat) : Int) := by omega
                have f3' := f1'.trans f3
                go_wp2
                · have hL0 : L.length = 0 := by omega
                  go_meet
                  have e : cx - 1 = 0 := by omega
                  have t := HX3.out.tail ⟨bx, ox, none⟩ (fun h => by omega)
                  rw [e] at t
                  exact ⟨L, by omega, H3.out, t, f3'⟩
                · go_meet
                  exact ⟨L, by omega, H3.out, HX3.out.tail ⟨bx, ox + 1, none⟩ (fun h => rfl), f3'⟩
            · have m6' : ¬ (md kind 7 : Int) < 6 := by omega
              cases L with
              | nil =>
                obtain ⟨ax, cx, rfl, _, _⟩ := hX1.out
                simp only [List.length_nil] at *
                go_wp2_with fail
                refine (ring_peek_no hR1).mono ?_
                rintro e w3 ⟨rfl, rfl⟩
                have HX1 := Lib.hid hX1
                clear hX1
                go_wp2
                go_meet
                exact ⟨[], by simp, hR1, HX1.out, f1'⟩
              | cons t L =>
                go_wp2_with fail
                refine (ring_peek_yes hR1).mono ?_
                rintro e w3 ⟨rfl, m, rfl⟩
                obtain ⟨bx, ox, cx, rfl, hcx, hx0⟩ := hX1.pos (by simp)
                obtain ⟨cs, hr, hat⟩ := hx0 0 (by simp)
                have hr' : cs = [.string t] := hr
                subst hr'
                have k2 : (wr.alloc (Obj.cells #[Value.int IntKind.i64 kind, Value.string s] 33)).cell? ⟨bx, ox, none⟩ = some (.string t) := by simpa using hat.2 0 _ rfl
                have HX1 := Lib.hid hX1
                clear hx0 hX1 hat hr
                simp only [List.length_cons] at hcx hLc
                have hp0 : (0 : Int) < ((L.length + 1 : Nat) : Int) := by omega
                go_wp2
                go_meet
                exact ⟨t :: L, by simp; omega, hR1.drewN m, HX1.out.keep ((Fr.refl Nob _).drewN m |>.mono (fun _ _ x => x.elim)) (fun _ _ x => x), f1'.drewN m⟩
        case rest =>
          obtain ⟨L', hL', h4, hX4, f4⟩ := hcut
          obtain ⟨ax, cx, rfl, _, _⟩ := hX4.out
          go_wp2_with fail
          refine (ring_len h4).mono ?_
          rintro e w5 ⟨rfl, rfl⟩
          go_wp2_with fail
          refine (ring_all h4).mono ?_
          rintro e w5 ⟨v5, rfl, hv5, f5⟩
          have hX5 := hX4.grow f5
          have h5 := h4.keep f5 (fun x => x) (fun x => x)
          go_wp2_with fail
          refine (plainStr_any hv5 hX5 (by omega)).mono ?_
          rintro e w6 ⟨rfl, f6⟩
          have e6 : decide (L' = L') = true := by simp
          rw [e6]
          have h6 := h5.keep (f6.fr Nob) (fun x => x) (fun x => x)
          have hX6 := hX5.grow (f6.fr Nob)
          go_wp2_with fail
          refine (ring_cap h6).mono ?_
          rintro e w7 ⟨rfl, rfl⟩
          go_wp2
          go_roundw
          case rel =>
            refine ⟨k + 1, L', by omega, by go_num, hL', h6, hX6, ?_⟩
            exact ((hF.trans' f4 (fun i hi h => by rcases h with h | h <;> omega)).trans f5).trans (f6.fr _)
          case measure => simp [intOf]; omega
      · have hlt' : ¬ ((k : Int) < l.length ∧ (k : Int) < 200) := by omega
        by_cases h1 : k < l.length
        · have h2 : ¬ (k : Int) < 200 := by omega
          have h1' : (k : Int) < l.length := by omega
          go_wp2_with fail
          refine (awake21 wr).mono ?_
          rintro e w2 ⟨rfl, f2⟩
          go_wp2
          go_ret
          exact ⟨rfl, hF.trans f2⟩
        · have h2 : ¬ (k : Int) < l.length := by omega
          go_wp2_with fail
          refine (awake21 wr).mono ?_
          rintro e w2 ⟨rfl, f2⟩
          go_wp2
          go_ret
          exact ⟨rfl, hF.trans f2⟩
end Go.Proofs.Ytjgacikohlnjdaa
