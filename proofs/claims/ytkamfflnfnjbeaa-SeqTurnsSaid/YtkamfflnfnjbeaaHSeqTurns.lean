/- SeqTurns answers true for all arguments: After and Delta are inverse, and differences add up. No conditions. -/
import Derived.Test.YtkamfflnfnjbeaaLawDeltas
import Derived.Test.YtkamfflnfnjbeaaAbsFit
set_option linter.unusedSimpArgs false
set_option linter.unusedVariables false
namespace Go.Proofs.Ytkamfflnfnjbeaa
open Go Go.Abs Go.RowKit

theorem seqTurns_all (xs : List T) (h : FitAll Try.prog 20 Try.f6.params.toList xs) : ans Try.prog pol 6 xs = some (.sc (.bool true)) := by
  have hp : Try.f6.params.toList = [22, 22, 21, 21] := by kernel_rfl
  rw [hp] at h
  obtain ⟨x0, r0, rfl, f0, h⟩ := fitAll_cons h
  obtain ⟨x1, r1, rfl, f1, h⟩ := fitAll_cons h
  obtain ⟨x2, r2, rfl, f2, h⟩ := fitAll_cons h
  obtain ⟨x3, r3, rfl, f3, h⟩ := fitAll_cons h
  obtain rfl := fitAll_nil h
  obtain ⟨n0, rfl, w0⟩ := fit_leaf (l := .int .u16) (by kernel_rfl) (by kernel_rfl) f0
  obtain ⟨n1, rfl, w1⟩ := fit_leaf (l := .int .u16) (by kernel_rfl) (by kernel_rfl) f1
  obtain ⟨n2, rfl, w2⟩ := fit_leaf (l := .int .i32) (by kernel_rfl) (by kernel_rfl) f2
  obtain ⟨n3, rfl, w3⟩ := fit_leaf (l := .int .i32) (by kernel_rfl) (by kernel_rfl) f3
  exact seqTurns_ans n0 n1 n2 n3 (wf_u16 w0) (wf_u16 w1) (wf_i32 w2) (wf_i32 w3)

set_option maxRecDepth 100000 in
theorem seqTurns_lifted (os : Os) (started : os.Started) (H : Type) (enc : TypeId × Value → H) :
    ReturnsInHanded {} Try.checked os 6 .any (Rows.seqTurnsSpec.pre6 enc Try.prog Try.f6 Rows.seqTurnsRow.domain false) (Rows.seqTurnsSpec.post enc Try.prog Try.f6 false true false false) := by
  refine returnsInHanded_of_change (C := Try.checked) own started (by kernel_rfl) Try.func6
    (ChangeSpec.witness6 (enc := enc) (C := Try.checked) false ⟨#[], #[.int .u16 0, .int .u16 0, .int .i32 0, .int .i32 0], []⟩ 8 (by kernel_rfl) (by kernel_rfl) (by kernel_rfl) (by kernel_rfl)) ?_
  intro W base args ds gs before hval hW _ _
  refine law_calls (P := Try.prog) (d := 20) sound (fun _ => rfl) laidOut (by kernel_rfl) (tb := 4) (by kernel_rfl) (by kernel_rfl) rfl (fun ds hds => ?_) seqTurns_all hval hW
  have hn : Try.f6.params.size = 4 := by kernel_rfl
  rw [hn] at hds
  match ds, hds with
  | [d0, d1, d2, d3], _ => rfl

theorem seqTurns_holds : Rows.SeqTurnsSaid :=
  OpenClaim.holds_of_wide 6 Try.f6 rfl rfl rfl rfl rfl rfl rfl ⟨rfl, rfl, rfl, rfl, rfl⟩ rfl rfl rfl rfl rfl (by kernel_rfl) Try.func6 (by kernel_rfl)
    (of_decide_eq_true (by kernel_rfl)) (by unfold Func.isWrapper; first | (rw [if_pos (by decide +kernel)]; kernel_rfl) | (rw [if_neg (by decide +kernel)]; exact ⟨rfl, rfl⟩))
    (fun os started H enc _ => seqTurns_lifted os started H enc)

end Go.Proofs.Ytkamfflnfnjbeaa
