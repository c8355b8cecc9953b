/- RecoverMerges answers true for all arguments: of two copies of a sequence every frame is accepted exactly once. No conditions. -/
import Derived.Test.YtkamfflnfnjbeaaRecJ
set_option linter.unusedSimpArgs false
set_option linter.unusedVariables false
namespace Go.Proofs.Ytkamfflnfnjbeaa
open Go Go.Abs Go.RowKit

theorem u8s_one {x : T} (f : FitE Try.prog 5 x) : ∃ a, x = U8 a ∧ (fun a : Int => 0 ≤ a ∧ a < 256) a := by
  obtain ⟨n0, rfl, w0⟩ := fit_leaf (l := .int .u8) (by kernel_rfl) (by kernel_rfl) f
  exact ⟨n0, rfl, wf_u8 w0⟩
theorem u8s {xs : List T} (h : ∀ y ∈ xs, FitE Try.prog 5 y) : ∃ l, xs = List.map U8 l ∧ ∀ a ∈ l, (fun a : Int => 0 ≤ a ∧ a < 256) a := list_enc' (fun y hy => u8s_one (h y hy))
theorem recoverMerges_all (xs : List T) (h : FitAll Try.prog 20 Try.f12.params.toList xs) : ans Try.prog pol 12 xs = some (.sc (.bool true)) := by
  have hp : Try.f12.params.toList = [5, 5, 22, 45] := by kernel_rfl
  rw [hp] at h
  obtain ⟨x0, r0, rfl, f0, h⟩ := fitAll_cons h
  obtain ⟨x1, r1, rfl, f1, h⟩ := fitAll_cons h
  obtain ⟨x2, r2, rfl, f2, h⟩ := fitAll_cons h
  obtain ⟨x3, r3, rfl, f3, h⟩ := fitAll_cons h
  obtain rfl := fitAll_nil h
  obtain ⟨n0, rfl, w0⟩ := fit_leaf (l := .int .u8) (by kernel_rfl) (by kernel_rfl) f0
  obtain ⟨n1, rfl, w1⟩ := fit_leaf (l := .int .u8) (by kernel_rfl) (by kernel_rfl) f1
  obtain ⟨n2, rfl, w2⟩ := fit_leaf (l := .int .u16) (by kernel_rfl) (by kernel_rfl) f2
  obtain ⟨l3, rfl, k3, e3⟩ := fit_leaf (l := .sl 1 5) (by kernel_rfl) (by kernel_rfl) f3
  exact by
    obtain ⟨l, rfl, hl⟩ := u8s e3
    exact recoverMerges_ans n0 n1 n2 l (wf_u8 w0) (wf_u8 w1) (wf_u16 w2) hl

set_option maxRecDepth 100000 in
theorem recoverMerges_lifted (os : Os) (started : os.Started) (H : Type) (enc : TypeId × Value → H) :
    ReturnsInHanded {} Try.checked os 12 .any (Rows.recoverMergesSpec.pre6 enc Try.prog Try.f12 Rows.recoverMergesRow.domain false) (Rows.recoverMergesSpec.post enc Try.prog Try.f12 false true false false) := by
  refine returnsInHanded_of_change (C := Try.checked) own started (by kernel_rfl) Try.func12
    (ChangeSpec.witness6 (enc := enc) (C := Try.checked) false ⟨#[], #[.int .u8 0, .int .u8 0, .int .u16 0, .slice none 0 0], []⟩ 8 (by kernel_rfl) (by kernel_rfl) (by kernel_rfl) (by kernel_rfl)) ?_
  intro W base args ds gs before hval hW _ _
  refine law_calls (P := Try.prog) (d := 20) sound (fun _ => rfl) laidOut (by kernel_rfl) (tb := 4) (by kernel_rfl) (by kernel_rfl) rfl (fun ds hds => ?_) recoverMerges_all hval hW
  have hn : Try.f12.params.size = 4 := by kernel_rfl
  rw [hn] at hds
  match ds, hds with
  | [d0, d1, d2, d3], _ => rfl

theorem recoverMerges_holds : Rows.RecoverMergesSaid :=
  OpenClaim.holds_of_wide 12 Try.f12 rfl rfl rfl rfl rfl rfl rfl ⟨rfl, rfl, rfl, rfl, rfl⟩ rfl rfl rfl rfl rfl (by kernel_rfl) Try.func12 (by kernel_rfl)
    (of_decide_eq_true (by kernel_rfl)) (by unfold Func.isWrapper; first | (rw [if_pos (by decide +kernel)]; kernel_rfl) | (rw [if_neg (by decide +kernel)]; exact ⟨rfl, rfl⟩))
    (fun os started H enc _ => recoverMerges_lifted os started H enc)

end Go.Proofs.Ytkamfflnfnjbeaa
