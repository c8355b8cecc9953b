/- ElectRounds answers true for all arguments: Round agrees with the reference. No conditions. -/
import Derived.Test.YtboknhdkadcaeaaElJ
import Derived.Test.YtboknhdkadcaeaaElFit2
set_option linter.unusedSimpArgs false
set_option linter.unusedVariables false
namespace Go.Proofs.Ytboknhdkadcaeaa
open Go Go.Abs Go.RowKit

theorem electRounds_all (xs : List T) (h : FitAll Try.prog 20 Try.f10.params.toList xs) : ans Try.prog pol 10 xs = some (.sc (.bool true)) := by
  have hp : Try.f10.params.toList = [25, 47, 29, 46, 5, 33] := by kernel_rfl
  rw [hp] at h
  obtain ⟨x0, r0, rfl, f0, h⟩ := fitAll_cons h
  obtain ⟨x1, r1, rfl, f1, h⟩ := fitAll_cons h
  obtain ⟨x2, r2, rfl, f2, h⟩ := fitAll_cons h
  obtain ⟨x3, r3, rfl, f3, h⟩ := fitAll_cons h
  obtain ⟨x4, r4, rfl, f4, h⟩ := fitAll_cons h
  obtain ⟨x5, r5, rfl, f5, h⟩ := fitAll_cons h
  obtain rfl := fitAll_nil h
  obtain ⟨c0, rfl, g0⟩ := fit_agg (ls := [.sl 6 31, .sl 2 62]) (by kernel_rfl) (by kernel_rfl) f0
  obtain ⟨y0_0, q0_0, rfl, v0_0, g0⟩ := leafs_cons g0
  obtain ⟨y0_1, q0_1, rfl, v0_1, g0⟩ := leafs_cons g0
  obtain rfl := leafs_nil g0
  obtain ⟨l0_0, rfl, k0_0, e0_0⟩ := v0_0
  obtain ⟨l0_1, rfl, k0_1, e0_1⟩ := v0_1
  obtain ⟨l1, rfl, k1, e1⟩ := fit_leaf (l := .sl 9 33) (by kernel_rfl) (by kernel_rfl) f1
  obtain ⟨c2, rfl, g2⟩ := fit_agg (ls := [.int .u8, .sl 1 5, .sl 2 72, .bool]) (by kernel_rfl) (by kernel_rfl) f2
  obtain ⟨y2_0, q2_0, rfl, v2_0, g2⟩ := leafs_cons g2
  obtain ⟨y2_1, q2_1, rfl, v2_1, g2⟩ := leafs_cons g2
  obtain ⟨y2_2, q2_2, rfl, v2_2, g2⟩ := leafs_cons g2
  obtain ⟨y2_3, q2_3, rfl, v2_3, g2⟩ := leafs_cons g2
  obtain rfl := leafs_nil g2
  obtain ⟨n2_0, rfl, w2_0⟩ := v2_0
  obtain ⟨l2_1, rfl, k2_1, e2_1⟩ := v2_1
  obtain ⟨l2_2, rfl, k2_2, e2_2⟩ := v2_2
  obtain ⟨b2_3, rfl⟩ := v2_3
  obtain ⟨l3, rfl, k3, e3⟩ := fit_leaf (l := .sl 5 86) (by kernel_rfl) (by kernel_rfl) f3
  obtain ⟨n4, rfl, w4⟩ := fit_leaf (l := .int .u8) (by kernel_rfl) (by kernel_rfl) f4
  obtain ⟨c5, rfl, g5⟩ := fit_agg (ls := [.int .i64, .int .i64, .int .i64, .int .i64, .int .i64, .int .i64, .int .i64, .int .i64, .int .i64]) (by kernel_rfl) (by kernel_rfl) f5
  obtain ⟨y5_0, q5_0, rfl, v5_0, g5⟩ := leafs_cons g5
  obtain ⟨y5_1, q5_1, rfl, v5_1, g5⟩ := leafs_cons g5
  obtain ⟨y5_2, q5_2, rfl, v5_2, g5⟩ := leafs_cons g5
  obtain ⟨y5_3, q5_3, rfl, v5_3, g5⟩ := leafs_cons g5
  obtain ⟨y5_4, q5_4, rfl, v5_4, g5⟩ := leafs_cons g5
  obtain ⟨y5_5, q5_5, rfl, v5_5, g5⟩ := leafs_cons g5
  obtain ⟨y5_6, q5_6, rfl, v5_6, g5⟩ := leafs_cons g5
  obtain ⟨y5_7, q5_7, rfl, v5_7, g5⟩ := leafs_cons g5
  obtain ⟨y5_8, q5_8, rfl, v5_8, g5⟩ := leafs_cons g5
  obtain rfl := leafs_nil g5
  obtain ⟨n5_0, rfl, w5_0⟩ := v5_0
  obtain ⟨n5_1, rfl, w5_1⟩ := v5_1
  obtain ⟨n5_2, rfl, w5_2⟩ := v5_2
  obtain ⟨n5_3, rfl, w5_3⟩ := v5_3
  obtain ⟨n5_4, rfl, w5_4⟩ := v5_4
  obtain ⟨n5_5, rfl, w5_5⟩ := v5_5
  obtain ⟨n5_6, rfl, w5_6⟩ := v5_6
  obtain ⟨n5_7, rfl, w5_7⟩ := v5_7
  obtain ⟨n5_8, rfl, w5_8⟩ := v5_8
  exact by
    obtain ⟨ms, rfl⟩ := masters e0_0
    obtain ⟨lk, rfl⟩ := links e0_1
    obtain ⟨v0, rfl⟩ := vectors e1
    obtain ⟨rk, rfl, hrk⟩ := u8s e2_1
    obtain ⟨ls, rfl, hls⟩ := pairs e2_2
    obtain ⟨wl, rfl, hwl⟩ := wilds e3
    exact electRounds_ans ms lk v0 n2_0 rk ls b2_3 (wf_u8 w2_0) hrk hls (len_lt (by simpa using k2_1)) (len_lt (by simpa using k2_2)) wl hwl (len_lt (by simpa using k3)) n4 (wf_u8 w4) ⟨⟨n5_0, n5_1, n5_2, n5_3, n5_4, n5_5⟩, n5_6, n5_7, n5_8⟩

set_option maxRecDepth 100000 in
theorem electRounds_lifted (os : Os) (started : os.Started) (H : Type) (enc : TypeId × Value → H) :
    ReturnsInHanded {} Try.checked os 10 .any (Rows.electRoundsSpec.pre6 enc Try.prog Try.f10 Rows.electRoundsRow.domain false) (Rows.electRoundsSpec.post enc Try.prog Try.f10 false true false false) := by
  refine returnsInHanded_of_change (C := Try.checked) own started (by kernel_rfl) Try.func10
    (ChangeSpec.witness6 (enc := enc) (C := Try.checked) false ⟨#[], #[.agg #[.slice none 0 0, .slice none 0 0], .slice none 0 0, .agg #[.int .u8 0, .slice none 0 0, .slice none 0 0, .bool false], .slice none 0 0, .int .u8 0, .agg #[.int .i64 0, .int .i64 0, .int .i64 0, .int .i64 0, .int .i64 0, .int .i64 0, .int .i64 0, .int .i64 0, .int .i64 0]], []⟩ 8 (by kernel_rfl) (by kernel_rfl) (by kernel_rfl) (by kernel_rfl)) ?_
  intro W base args ds gs before hval hW _ _
  refine law_calls (P := Try.prog) (d := 20) sound (fun _ => rfl) laidOut (by kernel_rfl) (tb := 4) (by kernel_rfl) (by kernel_rfl) rfl (fun ds hds => ?_) electRounds_all hval hW
  have hn : Try.f10.params.size = 6 := by kernel_rfl
  rw [hn] at hds
  match ds, hds with
  | [d0, d1, d2, d3, d4, d5], _ => rfl

theorem electRounds_holds : Rows.ElectRoundsSaid :=
  OpenClaim.holds_of_wide 10 Try.f10 rfl rfl rfl rfl rfl rfl rfl ⟨rfl, rfl, rfl, rfl, rfl⟩ rfl rfl rfl rfl rfl (by kernel_rfl) Try.func10 (by kernel_rfl)
    (of_decide_eq_true (by kernel_rfl)) (by unfold Func.isWrapper; first | (rw [if_pos (by decide +kernel)]; kernel_rfl) | (rw [if_neg (by decide +kernel)]; exact ⟨rfl, rfl⟩))
    (fun os started H enc _ => electRounds_lifted os started H enc)

end Go.Proofs.Ytboknhdkadcaeaa
