/- ElectTree answers true for all arguments: following Sender reaches the grandmaster in Steps links. No conditions. -/
import Derived.Test.YtboknhdkadcaeaaElN
import Derived.Test.YtboknhdkadcaeaaElFit
set_option linter.unusedSimpArgs false
set_option linter.unusedVariables false
namespace Go.Proofs.Ytboknhdkadcaeaa
open Go Go.Abs Go.RowKit

theorem electTree_all (xs : List T) (h : FitAll Try.prog 20 Try.f6.params.toList xs) : ans Try.prog pol 6 xs = some (.sc (.bool true)) := by
  have hp : Try.f6.params.toList = [29] := by kernel_rfl
  rw [hp] at h
  obtain ⟨x0, r0, rfl, f0, h⟩ := fitAll_cons h
  obtain rfl := fitAll_nil h
  obtain ⟨c0, rfl, g0⟩ := fit_agg (ls := [.int .u8, .sl 1 5, .sl 2 72, .bool]) (by kernel_rfl) (by kernel_rfl) f0
  obtain ⟨y0_0, q0_0, rfl, v0_0, g0⟩ := leafs_cons g0
  obtain ⟨y0_1, q0_1, rfl, v0_1, g0⟩ := leafs_cons g0
  obtain ⟨y0_2, q0_2, rfl, v0_2, g0⟩ := leafs_cons g0
  obtain ⟨y0_3, q0_3, rfl, v0_3, g0⟩ := leafs_cons g0
  obtain rfl := leafs_nil g0
  obtain ⟨n0_0, rfl, w0_0⟩ := v0_0
  obtain ⟨l0_1, rfl, k0_1, e0_1⟩ := v0_1
  obtain ⟨l0_2, rfl, k0_2, e0_2⟩ := v0_2
  obtain ⟨b0_3, rfl⟩ := v0_3
  exact by
    obtain ⟨rk, rfl, hrk⟩ := u8s e0_1
    obtain ⟨ls, rfl, hls⟩ := pairs e0_2
    exact electTree_ans n0_0 rk ls b0_3 (wf_u8 w0_0) hrk hls (len_lt (by simpa using k0_1)) (len_lt (by simpa using k0_2))

set_option maxRecDepth 100000 in
theorem electTree_lifted (os : Os) (started : os.Started) (H : Type) (enc : TypeId × Value → H) :
    ReturnsInHanded {} Try.checked os 6 .any (Rows.electTreeSpec.pre6 enc Try.prog Try.f6 Rows.electTreeRow.domain false) (Rows.electTreeSpec.post enc Try.prog Try.f6 false true false false) := by
  refine returnsInHanded_of_change (C := Try.checked) own started (by kernel_rfl) Try.func6
    (ChangeSpec.witness6 (enc := enc) (C := Try.checked) false ⟨#[], #[.agg #[.int .u8 0, .slice none 0 0, .slice none 0 0, .bool false]], []⟩ 8 (by kernel_rfl) (by kernel_rfl) (by kernel_rfl) (by kernel_rfl)) ?_
  intro W base args ds gs before hval hW _ _
  refine law_calls (P := Try.prog) (d := 20) sound (fun _ => rfl) laidOut (by kernel_rfl) (tb := 4) (by kernel_rfl) (by kernel_rfl) rfl (fun ds hds => ?_) electTree_all hval hW
  have hn : Try.f6.params.size = 1 := by kernel_rfl
  rw [hn] at hds
  match ds, hds with
  | [d0], _ => rfl

theorem electTree_holds : Rows.ElectTreeSaid :=
  OpenClaim.holds_of_wide 6 Try.f6 rfl rfl rfl rfl rfl rfl rfl ⟨rfl, rfl, rfl, rfl, rfl⟩ rfl rfl rfl rfl rfl (by kernel_rfl) Try.func6 (by kernel_rfl)
    (of_decide_eq_true (by kernel_rfl)) (by unfold Func.isWrapper; first | (rw [if_pos (by decide +kernel)]; kernel_rfl) | (rw [if_neg (by decide +kernel)]; exact ⟨rfl, rfl⟩))
    (fun os started H enc _ => electTree_lifted os started H enc)

end Go.Proofs.Ytboknhdkadcaeaa
