/- AuditDelays answers true for all arguments: Delays agrees with the reference for any log and stream, and Say writes any fault. The tied card; no further conditions. -/
import Derived.Test.YthcaepnclhgkmaaDoorDeD
import Derived.Test.YthcaepnclhgkmaaDoorAuFit
import Derived.Test.YthcaepnclhgkmaaDoorTie
import Derived.Test.YthcaepnclhgkmaaDoorCards
import Derived.SevenTiedAt
set_option linter.unusedSimpArgs false
set_option linter.unusedVariables false
namespace Go.Proofs.YthcaepnclhgkmaaDoor
open Go Go.Abs Go.RowKit

theorem auditDelays_all (xs : List T) (h : FitAll Tryd.prog 20 Tryd.f4.params.toList xs) : ans Tryd.prog pol 4 xs = some (.sc (.bool true)) := by
  have hp : Tryd.f4.params.toList = [23, 25, 3, 34] := by kernel_rfl
  rw [hp] at h
  obtain ⟨x0, r0, rfl, f0, h⟩ := fitAll_cons h
  obtain ⟨x1, r1, rfl, f1, h⟩ := fitAll_cons h
  obtain ⟨x2, r2, rfl, f2, h⟩ := fitAll_cons h
  obtain ⟨x3, r3, rfl, f3, h⟩ := fitAll_cons h
  obtain rfl := fitAll_nil h
  obtain ⟨l0, rfl, k0, e0⟩ := fit_leaf (l := .sl 4 30) (by kernel_rfl) (by kernel_rfl) f0
  obtain ⟨l1, rfl, k1, e1⟩ := fit_leaf (l := .sl 5 72) (by kernel_rfl) (by kernel_rfl) f1
  obtain ⟨n2, rfl, w2⟩ := fit_leaf (l := .int .i64) (by kernel_rfl) (by kernel_rfl) f2
  obtain ⟨c3, rfl, g3⟩ := fit_agg (ls := [.int .i64, .int .i64, .int .i64, .int .i64]) (by kernel_rfl) (by kernel_rfl) f3
  obtain ⟨y3_0, q3_0, rfl, v3_0, g3⟩ := leafs_cons g3
  obtain ⟨y3_1, q3_1, rfl, v3_1, g3⟩ := leafs_cons g3
  obtain ⟨y3_2, q3_2, rfl, v3_2, g3⟩ := leafs_cons g3
  obtain ⟨y3_3, q3_3, rfl, v3_3, g3⟩ := leafs_cons g3
  obtain rfl := leafs_nil g3
  obtain ⟨n3_0, rfl, w3_0⟩ := v3_0
  obtain ⟨n3_1, rfl, w3_1⟩ := v3_1
  obtain ⟨n3_2, rfl, w3_2⟩ := v3_2
  obtain ⟨n3_3, rfl, w3_3⟩ := v3_3
  exact by
    obtain ⟨log, rfl⟩ := notesF e0
    obtain ⟨m, rfl, hm⟩ := moveF e1
    have i1 := wf_i64 w3_1
    have i2 := wf_i64 w3_2
    have i3 := wf_i64 w3_3
    exact auditDelays_ans log m n2 n3_0 n3_1 n3_2 n3_3 hm ⟨i1.1, by omega⟩ ⟨i2.1, by omega⟩ ⟨i3.1, by omega⟩

set_option maxRecDepth 100000 in
theorem auditDelays_lifted (os : Os) (started : os.Started) (H : Type) (enc : TypeId × Value → H) :
    ReturnsInHanded {} Tryd.checked os 4 .any (fun w args => (Rows.auditDelaysSpec.pre enc Tryd.prog Tryd.f4 [] false w args ∧ laidMetH Tryd.prog laidL w) ∧ sizedMet enc Tryd.prog Tryd.f4 (OpenSpec.ofChange Rows.auditDelaysSpec) false w args)
      (Rows.auditDelaysSpec.post enc Tryd.prog Tryd.f4 false true false false) := by
  refine returnsInHanded_of_change_and (C := Tryd.checked) (X := fun w _ => laidMetH Tryd.prog laidL w) (fun _ _ _ hh h => h.of_heap hh) own started (by kernel_rfl) Tryd.func4
    (ChangeSpec.witness_shaped (enc := enc) (C := Tryd.checked) (os := os) (X := fun w _ => laidMetH Tryd.prog laidL w) false (World.doorLaid Tryd.prog 4000 os) #[.slice none 0 0, .slice none 0 0, .int .i64 0, .agg #[.int .i64 0, .int .i64 0, .int .i64 0, .int .i64 0]] 8 rfl (World.shaped_of_RefB (by kernel_rfl) (by kernel_rfl)) (by kernel_rfl) (by kernel_rfl) (by kernel_rfl) (door_met os _)) ?_
  intro W base args ds gs before hval hW _ hwt hL _
  refine law_calls_at (P := Tryd.prog) (d := 20) sound laidOut (by kernel_rfl) (tb := 4) (by kernel_rfl) (by kernel_rfl) rfl (fun ds hds => ?_) auditDelays_all hval hW hwt (glob_ok hL)
  have hn : Tryd.f4.params.size = 4 := by kernel_rfl
  rw [hn] at hds
  match ds, hds with
  | [d0, d1, d2, d3], _ => rfl

theorem auditDelays_row : Rows.AuditDelaysSaid :=
  OpenClaim.holds_of_wide 4 Tryd.f4 rfl rfl rfl rfl rfl rfl rfl ⟨rfl, rfl, rfl, rfl, rfl⟩ rfl rfl rfl rfl rfl (by kernel_rfl) Tryd.func4 (by kernel_rfl)
    (of_decide_eq_true (by kernel_rfl)) (by unfold Func.isWrapper; first | (rw [if_pos (by decide +kernel)]; kernel_rfl) | (rw [if_neg (by decide +kernel)]; exact ⟨rfl, rfl⟩))
    (fun os started H enc _ => auditDelays_lifted os started H enc)

theorem auditDelaysCard_holds : Rows.AuditDelaysCardSaid :=
  Claim7.holds_tied_plain_at .later [] [.data, .data, .data, .data] true (true, "4873fb7bdc8967dd71caf1409d2d5d19ea96ab8e8d3cd2da7f34038e9d9447a9") false
    auditDelays_row (fun _ h => by cases h) (by kernel_rfl) (fun _ h => by cases h) auditDelays_row_tie rfl ⟨rfl, rfl⟩ (by kernel_rfl) rfl
    (fun f fn hf hfn => by
      obtain rfl : f = 4 := Option.some.inj ((show Tryd.prog.funcNamed "isochron/isochronlaw44.AuditDelays" = some 4 by kernel_rfl).symm.trans hf) |>.symm
      obtain rfl : fn = Tryd.f4 := (Option.some.inj (Tryd.func4.symm.trans hfn)).symm
      exact ⟨by kernel_rfl, fun j t ht => by
        have hp : Tryd.f4.params = #[23, 25, 3, 34] := by kernel_rfl
        rw [hp] at ht
        have hm : t ∈ ([23, 25, 3, 34] : List TypeId) := by simpa using Array.mem_of_getElem? ht
        have hall : (([23, 25, 3, 34] : List TypeId).all fun u => !Tryd.prog.wantsStandIn u) = true := by kernel_rfl
        exact (show Tryd.prog.wantsStandIn t = false by simpa using List.all_eq_true.1 hall t hm)⟩)
    (by kernel_rfl)

end Go.Proofs.YthcaepnclhgkmaaDoor
