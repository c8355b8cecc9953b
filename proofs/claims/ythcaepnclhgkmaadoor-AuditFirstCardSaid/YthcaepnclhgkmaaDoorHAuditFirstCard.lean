/- AuditFirst answers true for all arguments: notes after the first fault of a note do not change it, and the log before it has no fault of a note. The tied card; no further conditions. -/
import Derived.Test.YthcaepnclhgkmaaDoorAuO
import Derived.Test.YthcaepnclhgkmaaDoorAuFit
import Derived.Test.YthcaepnclhgkmaaDoorTie
import Derived.Test.YthcaepnclhgkmaaDoorCards
import Derived.SevenTiedAt
set_option linter.unusedSimpArgs false
set_option linter.unusedVariables false
namespace Go.Proofs.YthcaepnclhgkmaaDoor
open Go Go.Abs Go.RowKit

theorem auditFirst_all (xs : List T) (h : FitAll Tryd.prog 20 Tryd.f6.params.toList xs) : ans Tryd.prog pol 6 xs = some (.sc (.bool true)) := by
  have hp : Tryd.f6.params.toList = [24, 25, 25] := by kernel_rfl
  rw [hp] at h
  obtain ⟨x0, r0, rfl, f0, h⟩ := fitAll_cons h
  obtain ⟨x1, r1, rfl, f1, h⟩ := fitAll_cons h
  obtain ⟨x2, r2, rfl, f2, h⟩ := fitAll_cons h
  obtain rfl := fitAll_nil h
  obtain ⟨l0, rfl, k0, e0⟩ := fit_leaf (l := .sl 3 70) (by kernel_rfl) (by kernel_rfl) f0
  obtain ⟨l1, rfl, k1, e1⟩ := fit_leaf (l := .sl 5 72) (by kernel_rfl) (by kernel_rfl) f1
  obtain ⟨l2, rfl, k2, e2⟩ := fit_leaf (l := .sl 5 72) (by kernel_rfl) (by kernel_rfl) f2
  exact by
    obtain ⟨w, rfl, hw⟩ := wishF e0
    obtain ⟨m, rfl, hm⟩ := moveF e1
    obtain ⟨more, rfl, hmo⟩ := moveF e2
    simp only [List.length_map] at k0
    exact auditFirst_ans w m more (len_lt k0.1) hw hm hmo

set_option maxRecDepth 100000 in
theorem auditFirst_lifted (os : Os) (started : os.Started) (H : Type) (enc : TypeId × Value → H) :
    ReturnsInHanded {} Tryd.checked os 6 .any (fun w args => (Rows.auditFirstSpec.pre enc Tryd.prog Tryd.f6 [] false w args ∧ laidMetH Tryd.prog laidL w) ∧ sizedMet enc Tryd.prog Tryd.f6 (OpenSpec.ofChange Rows.auditFirstSpec) false w args)
      (Rows.auditFirstSpec.post enc Tryd.prog Tryd.f6 false true false false) := by
  refine returnsInHanded_of_change_and (C := Tryd.checked) (X := fun w _ => laidMetH Tryd.prog laidL w) (fun _ _ _ hh h => h.of_heap hh) own started (by kernel_rfl) Tryd.func6
    (ChangeSpec.witness_shaped (enc := enc) (C := Tryd.checked) (os := os) (X := fun w _ => laidMetH Tryd.prog laidL w) false (World.doorLaid Tryd.prog 4000 os) #[.slice none 0 0, .slice none 0 0, .slice none 0 0] 8 rfl (World.shaped_of_RefB (by kernel_rfl) (by kernel_rfl)) (by kernel_rfl) (by kernel_rfl) (by kernel_rfl) (door_met os _)) ?_
  intro W base args ds gs before hval hW _ hwt hL _
  refine law_calls_at (P := Tryd.prog) (d := 20) sound laidOut (by kernel_rfl) (tb := 4) (by kernel_rfl) (by kernel_rfl) rfl (fun ds hds => ?_) auditFirst_all hval hW hwt (glob_ok hL)
  have hn : Tryd.f6.params.size = 3 := by kernel_rfl
  rw [hn] at hds
  match ds, hds with
  | [d0, d1, d2], _ => rfl

theorem auditFirst_row : Rows.AuditFirstSaid :=
  OpenClaim.holds_of_wide 6 Tryd.f6 rfl rfl rfl rfl rfl rfl rfl ⟨rfl, rfl, rfl, rfl, rfl⟩ rfl rfl rfl rfl rfl (by kernel_rfl) Tryd.func6 (by kernel_rfl)
    (of_decide_eq_true (by kernel_rfl)) (by unfold Func.isWrapper; first | (rw [if_pos (by decide +kernel)]; kernel_rfl) | (rw [if_neg (by decide +kernel)]; exact ⟨rfl, rfl⟩))
    (fun os started H enc _ => auditFirst_lifted os started H enc)

theorem auditFirstCard_holds : Rows.AuditFirstCardSaid :=
  Claim7.holds_tied_plain_at .later [] [.data, .data, .data, .data] true (true, "4873fb7bdc8967dd71caf1409d2d5d19ea96ab8e8d3cd2da7f34038e9d9447a9") false
    auditFirst_row (fun _ h => by cases h) (by kernel_rfl) (fun _ h => by cases h) auditFirst_row_tie rfl ⟨rfl, rfl⟩ (by kernel_rfl) rfl
    (fun f fn hf hfn => by
      obtain rfl : f = 6 := Option.some.inj ((show Tryd.prog.funcNamed "isochron/isochronlaw44.AuditFirst" = some 6 by kernel_rfl).symm.trans hf) |>.symm
      obtain rfl : fn = Tryd.f6 := (Option.some.inj (Tryd.func6.symm.trans hfn)).symm
      exact ⟨by kernel_rfl, fun j t ht => by
        have hp : Tryd.f6.params = #[24, 25, 25] := by kernel_rfl
        rw [hp] at ht
        have hm : t ∈ ([24, 25, 25] : List TypeId) := by simpa using Array.mem_of_getElem? ht
        have hall : (([24, 25, 25] : List TypeId).all fun u => !Tryd.prog.wantsStandIn u) = true := by kernel_rfl
        exact (show Tryd.prog.wantsStandIn t = false by simpa using List.all_eq_true.1 hall t hm)⟩)
    (by kernel_rfl)

end Go.Proofs.YthcaepnclhgkmaaDoor
