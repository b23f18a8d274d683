/-
  The statement AuditTables holds: for all transactions, asks, rows and numbers the Go function returns true, and the lists read as before.
  No condition beyond the row's own.
-/
import Derived.Test.YthjnknpgcmmapaaLawAud
import Derived.Test.YthjnknpgcmmapaaOwn
namespace Go.Proofs.Ythjnknpgcmmapaa
set_option linter.unusedVariables false
open Go.ChangeShapes Go.WideShapes Go.ChangeAt Go.RowKit

set_option maxRecDepth 100000 in
theorem auditTables_lifted (os : Os) (started : os.Started) (H : Type) (enc : TypeId × Value → H) :
    ReturnsInHanded {} Try.checked os 9 .any (Rows.auditTablesSpec.pre6 enc Try.prog Try.f9 Rows.auditTablesRow.domain false) (Rows.auditTablesSpec.post enc Try.prog Try.f9 false true false false) := by
  refine returnsInHanded_of_change_sized (C := Try.checked) Try.own started (by kernel_rfl) Try.func9
    (ChangeSpec.witness6 (enc := enc) (C := Try.checked) false ⟨#[], #[.slice none 0 0, .slice none 0 0, .int .i64 0, .int .i64 0, .int .i64 0, .slice none 0 0, .int .i64 0], []⟩ 12 (by kernel_rfl) (by kernel_rfl) (by kernel_rfl) (by kernel_rfl)) ?_
  intro W base args ds gs before hval0 hW _ hsz _
  have hval : ∀ (j : Nat) t v, Try.f9.params[j]? = some t → args[j]? = some v → Value.okWide Try.prog W .any base t v := hval0
  have hW' : DataW.Whole enc Try.prog Try.f9.params.toList Rows.auditTablesSpec.vars false W args.toList ds gs before := hW
  obtain ⟨p, q, hA0, _, _, _, _⟩ := hW
  have hA : DataW.TrodAll enc Try.prog W 0 (fun _ => true) true Try.f9.params.toList args.toList ds p := hA0
  have hsz' : (DataW.weightsEach Try.prog (Try.f9.params.toList ++ Rows.auditTablesSpec.plain.varTypes Try.prog) (ds ++ gs)).all (· ≤ reachBytes) = true := hsz
  rw [Try.params9] at hA hval hsz'
  clear hval0 hA0 hsz
  obtain ⟨v0, vs0, d0, ds0, p0, q0, hargs0, rfl, rfl, h0, r0⟩ := trodAll_cons hA
  obtain ⟨v1, vs1, d1, ds1, p1, q1, hargs1, rfl, rfl, h1, r1⟩ := trodAll_cons r0
  obtain ⟨v2, vs2, d2, ds2, p2, q2, hargs2, rfl, rfl, h2, r2⟩ := trodAll_cons r1
  obtain ⟨v3, vs3, d3, ds3, p3, q3, hargs3, rfl, rfl, h3, r3⟩ := trodAll_cons r2
  obtain ⟨v4, vs4, d4, ds4, p4, q4, hargs4, rfl, rfl, h4, r4⟩ := trodAll_cons r3
  obtain ⟨v5, vs5, d5, ds5, p5, q5, hargs5, rfl, rfl, h5, r5⟩ := trodAll_cons r4
  obtain ⟨v6, vs6, d6, ds6, p6, q6, hargs6, rfl, rfl, h6, r6⟩ := trodAll_cons r5
  obtain ⟨rfl, rfl, rfl⟩ := trodAll_nil r6
  obtain rfl : args = #[v0, v1, v2, v3, v4, v5, v6] := by cases args; simp_all
  simp only [List.cons_append, List.nil_append, DataW.weightsEach, List.all_append, Bool.and_eq_true] at hsz'
  obtain ⟨l, hr0, ok0⟩ := arg_one (opens_slice (b := 72) txnOpens Try.underlying63 (by kernel_rfl) (by kernel_rfl) (by decide)) (by rw [Try.underlying63]; rfl) (hval 0 63 v0 rfl rfl) h0 hsz'.1
  obtain ⟨v'0, hv'0, hr0⟩ := hr0
  obtain rfl : v0 = v'0 := by simpa using hv'0
  obtain ⟨a, hr1, ok1⟩ := arg_one (opens_slice (b := 48) askOpens Try.underlying59 (by kernel_rfl) (by kernel_rfl) (by decide)) (by rw [Try.underlying59]; rfl) (hval 1 59 v1 rfl rfl) h1 hsz'.2.1
  obtain ⟨v'1, hv'1, hr1⟩ := hr1
  obtain rfl : v1 = v'1 := by simpa using hv'1
  obtain ⟨late, hr2, ok2⟩ := arg_one (opens_int (k := .i64) Try.underlying3 (by kernel_rfl)) (by rw [Try.underlying3]; rfl) (hval 2 3 v2 rfl rfl) h2 hsz'.2.2.1
  obtain rfl : v2 = .int .i64 late := by have h : [v2] = [.int .i64 late] := hr2; simpa using h
  obtain ⟨lsn, hr3, ok3⟩ := arg_one (opens_int (k := .i64) Try.underlying3 (by kernel_rfl)) (by rw [Try.underlying3]; rfl) (hval 3 3 v3 rfl rfl) h3 hsz'.2.2.2.1
  obtain rfl : v3 = .int .i64 lsn := by have h : [v3] = [.int .i64 lsn] := hr3; simpa using h
  obtain ⟨t, hr4, ok4⟩ := arg_one (opens_int (k := .i64) Try.underlying3 (by kernel_rfl)) (by rw [Try.underlying3]; rfl) (hval 4 3 v4 rfl rfl) h4 hsz'.2.2.2.2.1
  obtain rfl : v4 = .int .i64 t := by have h : [v4] = [.int .i64 t] := hr4; simpa using h
  obtain ⟨rows, hr5, ok5⟩ := arg_one (opens_slice (b := 24) rowOpens Try.underlying64 (by kernel_rfl) (by kernel_rfl) (by decide)) (by rw [Try.underlying64]; rfl) (hval 5 64 v5 rfl rfl) h5 hsz'.2.2.2.2.2.1
  obtain ⟨v'5, hv'5, hr5⟩ := hr5
  obtain rfl : v5 = v'5 := by simpa using hv'5
  obtain ⟨at_, hr6, ok6⟩ := arg_one (opens_int (k := .i64) Try.underlying3 (by kernel_rfl)) (by rw [Try.underlying3]; rfl) (hval 6 3 v6 rfl rfl) h6 hsz'.2.2.2.2.2.2.1
  obtain rfl : v6 = .int .i64 at_ := by have h : [v6] = [.int .i64 at_] := hr6; simpa using h
  refine (auditTables_law l a late lsn t rows at_ ok0.2 v0 v1 v5 W hr0 hr1 hr5 (by have := ok0.1; omega) (by have := ok1.1; omega) (by have := ok5.1; omega)).mono fun e W' ⟨he, hf⟩ => ⟨_, he, ?_⟩
  exact law_post (P := Try.prog) Try.laidOut (of_decide_eq_true (by kernel_rfl)) rfl rfl Try.underlying4 (fun ds hds => by match ds, hds with | [d0, d1, d2, d3, d4, d5, d6], _ => exact ⟨rfl, rfl, rfl⟩) hW' hf

theorem auditTables_holds : Rows.AuditTablesSaid :=
  OpenClaim.holds_of_wide 9 Try.f9 rfl rfl rfl rfl rfl rfl rfl ⟨rfl, rfl, rfl, rfl, rfl⟩ rfl rfl rfl rfl rfl (by kernel_rfl) Try.func9 (by kernel_rfl)
    (of_decide_eq_true (by kernel_rfl)) (by unfold Func.isWrapper; first | (rw [if_pos (by decide +kernel)]; kernel_rfl) | (rw [if_neg (by decide +kernel)]; exact ⟨rfl, rfl⟩))
    (fun os started H enc _ => auditTables_lifted os started H enc)

end Go.Proofs.Ythjnknpgcmmapaa
