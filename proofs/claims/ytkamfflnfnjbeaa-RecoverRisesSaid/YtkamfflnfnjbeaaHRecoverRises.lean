/- RecoverRises answers true for all arguments: with the Length 1 only repetitions can be compared; after Reset any number is accepted. No conditions. -/
import Derived.Test.YtkamfflnfnjbeaaRecI
import Derived.Test.YtkamfflnfnjbeaaAbsWf
set_option linter.unusedSimpArgs false
set_option linter.unusedVariables false
namespace Go.Proofs.Ytkamfflnfnjbeaa
open Go Go.Abs Go.RowKit

theorem i16s_one {x : T} (f : FitE Try.prog 90 x) : ∃ a, x = I16 a ∧ (fun a : Int => -32768 ≤ a ∧ a < 32768) a := by
  obtain ⟨n0, rfl, w0⟩ := fit_leaf (l := .int .i16) (by kernel_rfl) (by kernel_rfl) f
  exact ⟨n0, rfl, wf_i16 w0⟩
theorem i16s {xs : List T} (h : ∀ y ∈ xs, FitE Try.prog 90 y) : ∃ l, xs = List.map I16 l ∧ ∀ a ∈ l, (fun a : Int => -32768 ≤ a ∧ a < 32768) a := list_enc' (fun y hy => i16s_one (h y hy))
theorem recoverRises_all (xs : List T) (h : FitAll Try.prog 20 Try.f13.params.toList xs) : ans Try.prog pol 13 xs = some (.sc (.bool true)) := by
  have hp : Try.f13.params.toList = [22, 95, 5, 22, 22] := by kernel_rfl
  rw [hp] at h
  obtain ⟨x0, r0, rfl, f0, h⟩ := fitAll_cons h
  obtain ⟨x1, r1, rfl, f1, h⟩ := fitAll_cons h
  obtain ⟨x2, r2, rfl, f2, h⟩ := fitAll_cons h
  obtain ⟨x3, r3, rfl, f3, h⟩ := fitAll_cons h
  obtain ⟨x4, r4, rfl, f4, h⟩ := fitAll_cons h
  obtain rfl := fitAll_nil h
  obtain ⟨n0, rfl, w0⟩ := fit_leaf (l := .int .u16) (by kernel_rfl) (by kernel_rfl) f0
  obtain ⟨l1, rfl, k1, e1⟩ := fit_leaf (l := .sl 1 90) (by kernel_rfl) (by kernel_rfl) f1
  obtain ⟨n2, rfl, w2⟩ := fit_leaf (l := .int .u8) (by kernel_rfl) (by kernel_rfl) f2
  obtain ⟨n3, rfl, w3⟩ := fit_leaf (l := .int .u16) (by kernel_rfl) (by kernel_rfl) f3
  obtain ⟨n4, rfl, w4⟩ := fit_leaf (l := .int .u16) (by kernel_rfl) (by kernel_rfl) f4
  exact by
    obtain ⟨l, rfl, hl⟩ := i16s e1
    exact recoverRises_ans n0 l n2 n3 n4 (wf_u16 w0) hl (wf_u8 w2) (wf_u16 w3) (wf_u16 w4)

set_option maxRecDepth 100000 in
theorem recoverRises_lifted (os : Os) (started : os.Started) (H : Type) (enc : TypeId × Value → H) :
    ReturnsInHanded {} Try.checked os 13 .any (Rows.recoverRisesSpec.pre6 enc Try.prog Try.f13 Rows.recoverRisesRow.domain false) (Rows.recoverRisesSpec.post enc Try.prog Try.f13 false true false false) := by
  refine returnsInHanded_of_change (C := Try.checked) own started (by kernel_rfl) Try.func13
    (ChangeSpec.witness6 (enc := enc) (C := Try.checked) false ⟨#[], #[.int .u16 0, .slice none 0 0, .int .u8 0, .int .u16 0, .int .u16 0], []⟩ 8 (by kernel_rfl) (by kernel_rfl) (by kernel_rfl) (by kernel_rfl)) ?_
  intro W base args ds gs before hval hW _ _
  refine law_calls (P := Try.prog) (d := 20) sound (fun _ => rfl) laidOut (by kernel_rfl) (tb := 4) (by kernel_rfl) (by kernel_rfl) rfl (fun ds hds => ?_) recoverRises_all hval hW
  have hn : Try.f13.params.size = 5 := by kernel_rfl
  rw [hn] at hds
  match ds, hds with
  | [d0, d1, d2, d3, d4], _ => rfl

theorem recoverRises_holds : Rows.RecoverRisesSaid :=
  OpenClaim.holds_of_wide 13 Try.f13 rfl rfl rfl rfl rfl rfl rfl ⟨rfl, rfl, rfl, rfl, rfl⟩ rfl rfl rfl rfl rfl (by kernel_rfl) Try.func13 (by kernel_rfl)
    (of_decide_eq_true (by kernel_rfl)) (by unfold Func.isWrapper; first | (rw [if_pos (by decide +kernel)]; kernel_rfl) | (rw [if_neg (by decide +kernel)]; exact ⟨rfl, rfl⟩))
    (fun os started H enc _ => recoverRises_lifted os started H enc)

end Go.Proofs.Ytkamfflnfnjbeaa
