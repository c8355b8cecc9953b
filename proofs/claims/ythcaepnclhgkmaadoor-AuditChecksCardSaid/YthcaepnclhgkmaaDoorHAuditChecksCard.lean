/- AuditChecks answers true for all arguments: Check and CheckNotes agree with the reference for any rules and logs. The tied card; no further conditions. -/
import Derived.Test.YthcaepnclhgkmaaDoorAuC
import Derived.Test.YthcaepnclhgkmaaDoorAuFit
import Derived.Test.YthcaepnclhgkmaaDoorTie
import Derived.Test.YthcaepnclhgkmaaDoorCards
import Derived.SevenTiedAt
set_option linter.unusedSimpArgs false
set_option linter.unusedVariables false
namespace Go.Proofs.YthcaepnclhgkmaaDoor
open Go Go.Abs Go.RowKit

theorem auditChecks_all (xs : List T) (h : FitAll Tryd.prog 20 Tryd.f8.params.toList xs) : ans Tryd.prog pol 8 xs = some (.sc (.bool true)) := by
  have hp : Tryd.f8.params.toList = [22, 23, 24, 25, 5, 55, 30] := by kernel_rfl
  rw [hp] at h
  obtain ⟨x0, r0, rfl, f0, h⟩ := fitAll_cons h
  obtain ⟨x1, r1, rfl, f1, h⟩ := fitAll_cons h
  obtain ⟨x2, r2, rfl, f2, h⟩ := fitAll_cons h
  obtain ⟨x3, r3, rfl, f3, h⟩ := fitAll_cons h
  obtain ⟨x4, r4, rfl, f4, h⟩ := fitAll_cons h
  obtain ⟨x5, r5, rfl, f5, h⟩ := fitAll_cons h
  obtain ⟨x6, r6, rfl, f6, h⟩ := fitAll_cons h
  obtain rfl := fitAll_nil h
  obtain ⟨l0, rfl, k0, e0⟩ := fit_leaf (l := .sl 4 55) (by kernel_rfl) (by kernel_rfl) f0
  obtain ⟨l1, rfl, k1, e1⟩ := fit_leaf (l := .sl 4 30) (by kernel_rfl) (by kernel_rfl) f1
  obtain ⟨l2, rfl, k2, e2⟩ := fit_leaf (l := .sl 3 70) (by kernel_rfl) (by kernel_rfl) f2
  obtain ⟨l3, rfl, k3, e3⟩ := fit_leaf (l := .sl 5 72) (by kernel_rfl) (by kernel_rfl) f3
  obtain ⟨n4, rfl, w4⟩ := fit_leaf (l := .int .u8) (by kernel_rfl) (by kernel_rfl) f4
  obtain ⟨c5, rfl, g5⟩ := fit_agg (ls := [.int .i64, .int .i64, .int .i64, .bool]) (by kernel_rfl) (by kernel_rfl) f5
  obtain ⟨y5_0, q5_0, rfl, v5_0, g5⟩ := leafs_cons g5
  obtain ⟨y5_1, q5_1, rfl, v5_1, g5⟩ := leafs_cons g5
  obtain ⟨y5_2, q5_2, rfl, v5_2, g5⟩ := leafs_cons g5
  obtain ⟨y5_3, q5_3, rfl, v5_3, g5⟩ := leafs_cons g5
  obtain rfl := leafs_nil g5
  obtain ⟨n5_0, rfl, w5_0⟩ := v5_0
  obtain ⟨n5_1, rfl, w5_1⟩ := v5_1
  obtain ⟨n5_2, rfl, w5_2⟩ := v5_2
  obtain ⟨b5_3, rfl⟩ := v5_3
  obtain ⟨c6, rfl, g6⟩ := fit_agg (ls := [.int .i64, .int .i64, .int .i64, .int .i64]) (by kernel_rfl) (by kernel_rfl) f6
  obtain ⟨y6_0, q6_0, rfl, v6_0, g6⟩ := leafs_cons g6
  obtain ⟨y6_1, q6_1, rfl, v6_1, g6⟩ := leafs_cons g6
  obtain ⟨y6_2, q6_2, rfl, v6_2, g6⟩ := leafs_cons g6
  obtain ⟨y6_3, q6_3, rfl, v6_3, g6⟩ := leafs_cons g6
  obtain rfl := leafs_nil g6
  obtain ⟨n6_0, rfl, w6_0⟩ := v6_0
  obtain ⟨n6_1, rfl, w6_1⟩ := v6_1
  obtain ⟨n6_2, rfl, w6_2⟩ := v6_2
  obtain ⟨n6_3, rfl, w6_3⟩ := v6_3
  exact by
    obtain ⟨rs, rfl⟩ := rulesF e0
    obtain ⟨log, rfl⟩ := notesF e1
    obtain ⟨w, rfl, hw⟩ := wishF e2
    obtain ⟨m, rfl, hm⟩ := moveF e3
    simp only [List.length_map] at k2 k3
    exact auditChecks_ans rs log w m n4 ⟨n5_0, n5_1, n5_2, b5_3⟩ ⟨n6_0, n6_1, n6_2, n6_3⟩ (wf_u8 w4) (len_lt k2.1) (len_lt k3.1) hw hm

set_option maxRecDepth 100000 in
theorem auditChecks_lifted (os : Os) (started : os.Started) (H : Type) (enc : TypeId × Value → H) :
    ReturnsInHanded {} Tryd.checked os 8 .any (fun w args => (Rows.auditChecksSpec.pre enc Tryd.prog Tryd.f8 [] false w args ∧ laidMetH Tryd.prog laidL w) ∧ sizedMet enc Tryd.prog Tryd.f8 (OpenSpec.ofChange Rows.auditChecksSpec) false w args)
      (Rows.auditChecksSpec.post enc Tryd.prog Tryd.f8 false true false false) := by
  refine returnsInHanded_of_change_and (C := Tryd.checked) (X := fun w _ => laidMetH Tryd.prog laidL w) (fun _ _ _ hh h => h.of_heap hh) own started (by kernel_rfl) Tryd.func8
    (ChangeSpec.witness_shaped (enc := enc) (C := Tryd.checked) (os := os) (X := fun w _ => laidMetH Tryd.prog laidL w) false (World.doorLaid Tryd.prog 4000 os) #[.slice none 0 0, .slice none 0 0, .slice none 0 0, .slice none 0 0, .int .u8 0, .agg #[.int .i64 0, .int .i64 0, .int .i64 0, .bool false], .agg #[.int .i64 0, .int .i64 0, .int .i64 0, .int .i64 0]] 8 rfl (World.shaped_of_RefB (by kernel_rfl) (by kernel_rfl)) (by kernel_rfl) (by kernel_rfl) (by kernel_rfl) (door_met os _)) ?_
  intro W base args ds gs before hval hW _ hwt hL _
  refine law_calls_at (P := Tryd.prog) (d := 20) sound laidOut (by kernel_rfl) (tb := 4) (by kernel_rfl) (by kernel_rfl) rfl (fun ds hds => ?_) auditChecks_all hval hW hwt (glob_ok hL)
  have hn : Tryd.f8.params.size = 7 := by kernel_rfl
  rw [hn] at hds
  match ds, hds with
  | [d0, d1, d2, d3, d4, d5, d6], _ => rfl

theorem auditChecks_row : Rows.AuditChecksSaid :=
  OpenClaim.holds_of_wide 8 Tryd.f8 rfl rfl rfl rfl rfl rfl rfl ⟨rfl, rfl, rfl, rfl, rfl⟩ rfl rfl rfl rfl rfl (by kernel_rfl) Tryd.func8 (by kernel_rfl)
    (of_decide_eq_true (by kernel_rfl)) (by unfold Func.isWrapper; first | (rw [if_pos (by decide +kernel)]; kernel_rfl) | (rw [if_neg (by decide +kernel)]; exact ⟨rfl, rfl⟩))
    (fun os started H enc _ => auditChecks_lifted os started H enc)

theorem auditChecksCard_holds : Rows.AuditChecksCardSaid :=
  Claim7.holds_tied_plain_at .later [] [.data, .data, .data, .data] true (true, "4873fb7bdc8967dd71caf1409d2d5d19ea96ab8e8d3cd2da7f34038e9d9447a9") false
    auditChecks_row (fun _ h => by cases h) (by kernel_rfl) (fun _ h => by cases h) auditChecks_row_tie rfl ⟨rfl, rfl⟩ (by kernel_rfl) rfl
    (fun f fn hf hfn => by
      obtain rfl : f = 8 := Option.some.inj ((show Tryd.prog.funcNamed "isochron/isochronlaw44.AuditChecks" = some 8 by kernel_rfl).symm.trans hf) |>.symm
      obtain rfl : fn = Tryd.f8 := (Option.some.inj (Tryd.func8.symm.trans hfn)).symm
      exact ⟨by kernel_rfl, fun j t ht => by
        have hp : Tryd.f8.params = #[22, 23, 24, 25, 5, 55, 30] := by kernel_rfl
        rw [hp] at ht
        have hm : t ∈ ([22, 23, 24, 25, 5, 55, 30] : List TypeId) := by simpa using Array.mem_of_getElem? ht
        have hall : (([22, 23, 24, 25, 5, 55, 30] : List TypeId).all fun u => !Tryd.prog.wantsStandIn u) = true := by kernel_rfl
        exact (show Tryd.prog.wantsStandIn t = false by simpa using List.all_eq_true.1 hall t hm)⟩)
    (by kernel_rfl)

end Go.Proofs.YthcaepnclhgkmaaDoor
