/- AuditSound answers true for all arguments: a log without a fault is exactly once, in time, in order and complete. The tied card; no further conditions. -/
import Derived.Test.YthcaepnclhgkmaaDoorAuW
import Derived.Test.YthcaepnclhgkmaaDoorAuFit
import Derived.Test.YthcaepnclhgkmaaDoorTie
import Derived.Test.YthcaepnclhgkmaaDoorCards
import Derived.SevenTiedAt
set_option linter.unusedSimpArgs false
set_option linter.unusedVariables false
namespace Go.Proofs.YthcaepnclhgkmaaDoor
open Go Go.Abs Go.RowKit

theorem auditSound_all (xs : List T) (h : FitAll Tryd.prog 20 Tryd.f5.params.toList xs) : ans Tryd.prog pol 5 xs = some (.sc (.bool true)) := by
  have hp : Tryd.f5.params.toList = [24, 25, 53] := by kernel_rfl
  rw [hp] at h
  obtain ⟨x0, r0, rfl, f0, h⟩ := fitAll_cons h
  obtain ⟨x1, r1, rfl, f1, h⟩ := fitAll_cons h
  obtain ⟨x2, r2, rfl, f2, h⟩ := fitAll_cons h
  obtain rfl := fitAll_nil h
  obtain ⟨l0, rfl, k0, e0⟩ := fit_leaf (l := .sl 3 70) (by kernel_rfl) (by kernel_rfl) f0
  obtain ⟨l1, rfl, k1, e1⟩ := fit_leaf (l := .sl 5 72) (by kernel_rfl) (by kernel_rfl) f1
  obtain ⟨n2, rfl, w2⟩ := fit_leaf (l := .int .u16) (by kernel_rfl) (by kernel_rfl) f2
  exact by
    obtain ⟨w, rfl, hw⟩ := wishF e0
    obtain ⟨m, rfl, hm⟩ := moveF e1
    simp only [List.length_map] at k0 k1
    obtain ⟨v, rfl⟩ := Int.eq_ofNat_of_zero_le (wf_u16 w2).1
    exact auditSound_ans w m v (by have := (wf_u16 w2).2; omega) (len_lt k0.1) hw (len_lt k1.1) hm

set_option maxRecDepth 100000 in
theorem auditSound_lifted (os : Os) (started : os.Started) (H : Type) (enc : TypeId × Value → H) :
    ReturnsInHanded {} Tryd.checked os 5 .any (fun w args => (Rows.auditSoundSpec.pre enc Tryd.prog Tryd.f5 [] false w args ∧ laidMetH Tryd.prog laidL w) ∧ sizedMet enc Tryd.prog Tryd.f5 (OpenSpec.ofChange Rows.auditSoundSpec) false w args)
      (Rows.auditSoundSpec.post enc Tryd.prog Tryd.f5 false true false false) := by
  refine returnsInHanded_of_change_and (C := Tryd.checked) (X := fun w _ => laidMetH Tryd.prog laidL w) (fun _ _ _ hh h => h.of_heap hh) own started (by kernel_rfl) Tryd.func5
    (ChangeSpec.witness_shaped (enc := enc) (C := Tryd.checked) (os := os) (X := fun w _ => laidMetH Tryd.prog laidL w) false (World.doorLaid Tryd.prog 4000 os) #[.slice none 0 0, .slice none 0 0, .int .u16 0] 8 rfl (World.shaped_of_RefB (by kernel_rfl) (by kernel_rfl)) (by kernel_rfl) (by kernel_rfl) (by kernel_rfl) (door_met os _)) ?_
  intro W base args ds gs before hval hW _ hwt hL _
  refine law_calls_at (P := Tryd.prog) (d := 20) sound laidOut (by kernel_rfl) (tb := 4) (by kernel_rfl) (by kernel_rfl) rfl (fun ds hds => ?_) auditSound_all hval hW hwt (glob_ok hL)
  have hn : Tryd.f5.params.size = 3 := by kernel_rfl
  rw [hn] at hds
  match ds, hds with
  | [d0, d1, d2], _ => rfl

theorem auditSound_row : Rows.AuditSoundSaid :=
  OpenClaim.holds_of_wide 5 Tryd.f5 rfl rfl rfl rfl rfl rfl rfl ⟨rfl, rfl, rfl, rfl, rfl⟩ rfl rfl rfl rfl rfl (by kernel_rfl) Tryd.func5 (by kernel_rfl)
    (of_decide_eq_true (by kernel_rfl)) (by unfold Func.isWrapper; first | (rw [if_pos (by decide +kernel)]; kernel_rfl) | (rw [if_neg (by decide +kernel)]; exact ⟨rfl, rfl⟩))
    (fun os started H enc _ => auditSound_lifted os started H enc)

theorem auditSoundCard_holds : Rows.AuditSoundCardSaid :=
  Claim7.holds_tied_plain_at .later [] [.data, .data, .data, .data] true (true, "4873fb7bdc8967dd71caf1409d2d5d19ea96ab8e8d3cd2da7f34038e9d9447a9") false
    auditSound_row (fun _ h => by cases h) (by kernel_rfl) (fun _ h => by cases h) auditSound_row_tie rfl ⟨rfl, rfl⟩ (by kernel_rfl) rfl
    (fun f fn hf hfn => by
      obtain rfl : f = 5 := Option.some.inj ((show Tryd.prog.funcNamed "isochron/isochronlaw44.AuditSound" = some 5 by kernel_rfl).symm.trans hf) |>.symm
      obtain rfl : fn = Tryd.f5 := (Option.some.inj (Tryd.func5.symm.trans hfn)).symm
      exact ⟨by kernel_rfl, fun j t ht => by
        have hp : Tryd.f5.params = #[24, 25, 53] := by kernel_rfl
        rw [hp] at ht
        have hm : t ∈ ([24, 25, 53] : List TypeId) := by simpa using Array.mem_of_getElem? ht
        have hall : (([24, 25, 53] : List TypeId).all fun u => !Tryd.prog.wantsStandIn u) = true := by kernel_rfl
        exact (show Tryd.prog.wantsStandIn t = false by simpa using List.all_eq_true.1 hall t hm)⟩)
    (by kernel_rfl)

end Go.Proofs.YthcaepnclhgkmaaDoor
