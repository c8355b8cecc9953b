/- ElectVectors answers true for all arguments: Elect and Roles agree with the reference. No conditions. -/
import Derived.Test.YtboknhdkadcaeaaElV
import Derived.Test.YtboknhdkadcaeaaElFit2
set_option linter.unusedSimpArgs false
set_option linter.unusedVariables false
namespace Go.Proofs.Ytboknhdkadcaeaa
open Go Go.Abs Go.RowKit

theorem electVectors_all (xs : List T) (h : FitAll Try.prog 20 Try.f4.params.toList xs) : ans Try.prog pol 4 xs = some (.sc (.bool true)) := by
  have hp : Try.f4.params.toList = [29, 46, 3] := by kernel_rfl
  rw [hp] at h
  obtain ⟨x0, r0, rfl, f0, h⟩ := fitAll_cons h
  obtain ⟨x1, r1, rfl, f1, h⟩ := fitAll_cons h
  obtain ⟨x2, r2, rfl, f2, h⟩ := fitAll_cons h
  obtain rfl := fitAll_nil h
  obtain ⟨c0, rfl, g0⟩ := fit_agg (ls := [.int .u8, .sl 1 5, .sl 2 72, .bool]) (by kernel_rfl) (by kernel_rfl) f0
  obtain ⟨y0_0, q0_0, rfl, v0_0, g0⟩ := leafs_cons g0
  obtain ⟨y0_1, q0_1, rfl, v0_1, g0⟩ := leafs_cons g0
  obtain ⟨y0_2, q0_2, rfl, v0_2, g0⟩ := leafs_cons g0
  obtain ⟨y0_3, q0_3, rfl, v0_3, g0⟩ := leafs_cons g0
  obtain rfl := leafs_nil g0
  obtain ⟨n0_0, rfl, w0_0⟩ := v0_0
  obtain ⟨l0_1, rfl, k0_1, e0_1⟩ := v0_1
  obtain ⟨l0_2, rfl, k0_2, e0_2⟩ := v0_2
  obtain ⟨b0_3, rfl⟩ := v0_3
  obtain ⟨l1, rfl, k1, e1⟩ := fit_leaf (l := .sl 5 86) (by kernel_rfl) (by kernel_rfl) f1
  obtain ⟨n2, rfl, w2⟩ := fit_leaf (l := .int .i64) (by kernel_rfl) (by kernel_rfl) f2
  exact by
    obtain ⟨rk, rfl, hrk⟩ := u8s e0_1
    obtain ⟨ls, rfl, hls⟩ := pairs e0_2
    obtain ⟨wl, rfl, hwl⟩ := wilds e1
    exact electVectors_ans n0_0 rk ls b0_3 (wf_u8 w0_0) hrk hls (len_lt (by simpa using k0_1)) (len_lt (by simpa using k0_2)) wl hwl (len_lt (by simpa using k1)) n2

set_option maxRecDepth 100000 in
theorem electVectors_lifted (os : Os) (started : os.Started) (H : Type) (enc : TypeId × Value → H) :
    ReturnsInHanded {} Try.checked os 4 .any (Rows.electVectorsSpec.pre6 enc Try.prog Try.f4 Rows.electVectorsRow.domain false) (Rows.electVectorsSpec.post enc Try.prog Try.f4 false true false false) := by
  refine returnsInHanded_of_change (C := Try.checked) own started (by kernel_rfl) Try.func4
    (ChangeSpec.witness6 (enc := enc) (C := Try.checked) false ⟨#[], #[.agg #[.int .u8 0, .slice none 0 0, .slice none 0 0, .bool false], .slice none 0 0, .int .i64 0], []⟩ 8 (by kernel_rfl) (by kernel_rfl) (by kernel_rfl) (by kernel_rfl)) ?_
  intro W base args ds gs before hval hW _ _
  refine law_calls (P := Try.prog) (d := 20) sound (fun _ => rfl) laidOut (by kernel_rfl) (tb := 4) (by kernel_rfl) (by kernel_rfl) rfl (fun ds hds => ?_) electVectors_all hval hW
  have hn : Try.f4.params.size = 3 := by kernel_rfl
  rw [hn] at hds
  match ds, hds with
  | [d0, d1, d2], _ => rfl

theorem electVectors_holds : Rows.ElectVectorsSaid :=
  OpenClaim.holds_of_wide 4 Try.f4 rfl rfl rfl rfl rfl rfl rfl ⟨rfl, rfl, rfl, rfl, rfl⟩ rfl rfl rfl rfl rfl (by kernel_rfl) Try.func4 (by kernel_rfl)
    (of_decide_eq_true (by kernel_rfl)) (by unfold Func.isWrapper; first | (rw [if_pos (by decide +kernel)]; kernel_rfl) | (rw [if_neg (by decide +kernel)]; exact ⟨rfl, rfl⟩))
    (fun os started H enc _ => electVectors_lifted os started H enc)

end Go.Proofs.Ytboknhdkadcaeaa
