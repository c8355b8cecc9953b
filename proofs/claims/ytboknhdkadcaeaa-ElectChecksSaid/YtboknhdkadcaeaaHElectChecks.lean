/- ElectChecks answers true for all arguments: Check, Own and Compare agree with the reference. No conditions. -/
import Derived.Test.YtboknhdkadcaeaaElD
import Derived.Test.YtboknhdkadcaeaaElFit
set_option linter.unusedSimpArgs false
set_option linter.unusedVariables false
namespace Go.Proofs.Ytboknhdkadcaeaa
open Go Go.Abs Go.RowKit

theorem electChecks_all (xs : List T) (h : FitAll Try.prog 20 Try.f3.params.toList xs) : ans Try.prog pol 3 xs = some (.sc (.bool true)) := by
  have hp : Try.f3.params.toList = [25, 29, 3, 33, 33] := by kernel_rfl
  rw [hp] at h
  obtain ⟨x0, r0, rfl, f0, h⟩ := fitAll_cons h
  obtain ⟨x1, r1, rfl, f1, h⟩ := fitAll_cons h
  obtain ⟨x2, r2, rfl, f2, h⟩ := fitAll_cons h
  obtain ⟨x3, r3, rfl, f3, h⟩ := fitAll_cons h
  obtain ⟨x4, r4, rfl, f4, h⟩ := fitAll_cons h
  obtain rfl := fitAll_nil h
  obtain ⟨c0, rfl, g0⟩ := fit_agg (ls := [.sl 6 31, .sl 2 62]) (by kernel_rfl) (by kernel_rfl) f0
  obtain ⟨y0_0, q0_0, rfl, v0_0, g0⟩ := leafs_cons g0
  obtain ⟨y0_1, q0_1, rfl, v0_1, g0⟩ := leafs_cons g0
  obtain rfl := leafs_nil g0
  obtain ⟨l0_0, rfl, k0_0, e0_0⟩ := v0_0
  obtain ⟨l0_1, rfl, k0_1, e0_1⟩ := v0_1
  obtain ⟨c1, rfl, g1⟩ := fit_agg (ls := [.int .u8, .sl 1 5, .sl 2 72, .bool]) (by kernel_rfl) (by kernel_rfl) f1
  obtain ⟨y1_0, q1_0, rfl, v1_0, g1⟩ := leafs_cons g1
  obtain ⟨y1_1, q1_1, rfl, v1_1, g1⟩ := leafs_cons g1
  obtain ⟨y1_2, q1_2, rfl, v1_2, g1⟩ := leafs_cons g1
  obtain ⟨y1_3, q1_3, rfl, v1_3, g1⟩ := leafs_cons g1
  obtain rfl := leafs_nil g1
  obtain ⟨n1_0, rfl, w1_0⟩ := v1_0
  obtain ⟨l1_1, rfl, k1_1, e1_1⟩ := v1_1
  obtain ⟨l1_2, rfl, k1_2, e1_2⟩ := v1_2
  obtain ⟨b1_3, rfl⟩ := v1_3
  obtain ⟨n2, rfl, w2⟩ := fit_leaf (l := .int .i64) (by kernel_rfl) (by kernel_rfl) f2
  obtain ⟨c3, rfl, g3⟩ := fit_agg (ls := [.int .i64, .int .i64, .int .i64, .int .i64, .int .i64, .int .i64, .int .i64, .int .i64, .int .i64]) (by kernel_rfl) (by kernel_rfl) f3
  obtain ⟨y3_0, q3_0, rfl, v3_0, g3⟩ := leafs_cons g3
  obtain ⟨y3_1, q3_1, rfl, v3_1, g3⟩ := leafs_cons g3
  obtain ⟨y3_2, q3_2, rfl, v3_2, g3⟩ := leafs_cons g3
  obtain ⟨y3_3, q3_3, rfl, v3_3, g3⟩ := leafs_cons g3
  obtain ⟨y3_4, q3_4, rfl, v3_4, g3⟩ := leafs_cons g3
  obtain ⟨y3_5, q3_5, rfl, v3_5, g3⟩ := leafs_cons g3
  obtain ⟨y3_6, q3_6, rfl, v3_6, g3⟩ := leafs_cons g3
  obtain ⟨y3_7, q3_7, rfl, v3_7, g3⟩ := leafs_cons g3
  obtain ⟨y3_8, q3_8, rfl, v3_8, g3⟩ := leafs_cons g3
  obtain rfl := leafs_nil g3
  obtain ⟨n3_0, rfl, w3_0⟩ := v3_0
  obtain ⟨n3_1, rfl, w3_1⟩ := v3_1
  obtain ⟨n3_2, rfl, w3_2⟩ := v3_2
  obtain ⟨n3_3, rfl, w3_3⟩ := v3_3
  obtain ⟨n3_4, rfl, w3_4⟩ := v3_4
  obtain ⟨n3_5, rfl, w3_5⟩ := v3_5
  obtain ⟨n3_6, rfl, w3_6⟩ := v3_6
  obtain ⟨n3_7, rfl, w3_7⟩ := v3_7
  obtain ⟨n3_8, rfl, w3_8⟩ := v3_8
  obtain ⟨c4, rfl, g4⟩ := fit_agg (ls := [.int .i64, .int .i64, .int .i64, .int .i64, .int .i64, .int .i64, .int .i64, .int .i64, .int .i64]) (by kernel_rfl) (by kernel_rfl) f4
  obtain ⟨y4_0, q4_0, rfl, v4_0, g4⟩ := leafs_cons g4
  obtain ⟨y4_1, q4_1, rfl, v4_1, g4⟩ := leafs_cons g4
  obtain ⟨y4_2, q4_2, rfl, v4_2, g4⟩ := leafs_cons g4
  obtain ⟨y4_3, q4_3, rfl, v4_3, g4⟩ := leafs_cons g4
  obtain ⟨y4_4, q4_4, rfl, v4_4, g4⟩ := leafs_cons g4
  obtain ⟨y4_5, q4_5, rfl, v4_5, g4⟩ := leafs_cons g4
  obtain ⟨y4_6, q4_6, rfl, v4_6, g4⟩ := leafs_cons g4
  obtain ⟨y4_7, q4_7, rfl, v4_7, g4⟩ := leafs_cons g4
  obtain ⟨y4_8, q4_8, rfl, v4_8, g4⟩ := leafs_cons g4
  obtain rfl := leafs_nil g4
  obtain ⟨n4_0, rfl, w4_0⟩ := v4_0
  obtain ⟨n4_1, rfl, w4_1⟩ := v4_1
  obtain ⟨n4_2, rfl, w4_2⟩ := v4_2
  obtain ⟨n4_3, rfl, w4_3⟩ := v4_3
  obtain ⟨n4_4, rfl, w4_4⟩ := v4_4
  obtain ⟨n4_5, rfl, w4_5⟩ := v4_5
  obtain ⟨n4_6, rfl, w4_6⟩ := v4_6
  obtain ⟨n4_7, rfl, w4_7⟩ := v4_7
  obtain ⟨n4_8, rfl, w4_8⟩ := v4_8
  exact by
    obtain ⟨ms, rfl⟩ := masters e0_0
    obtain ⟨lk, rfl⟩ := links e0_1
    obtain ⟨rk, rfl, hrk⟩ := u8s e1_1
    obtain ⟨ls, rfl, hls⟩ := pairs e1_2
    exact electChecks_ans ms lk n1_0 rk ls b1_3 (wf_u8 w1_0) hrk hls (len_lt (by simpa using k1_1)) (len_lt (by simpa using k1_2)) n2 n3_0 n3_1 n3_2 n3_3 n3_4 n3_5 n3_6 n3_7 n3_8 n4_0 n4_1 n4_2 n4_3 n4_4 n4_5 n4_6 n4_7 n4_8

set_option maxRecDepth 100000 in
theorem electChecks_lifted (os : Os) (started : os.Started) (H : Type) (enc : TypeId × Value → H) :
    ReturnsInHanded {} Try.checked os 3 .any (Rows.electChecksSpec.pre6 enc Try.prog Try.f3 Rows.electChecksRow.domain false) (Rows.electChecksSpec.post enc Try.prog Try.f3 false true false false) := by
  refine returnsInHanded_of_change (C := Try.checked) own started (by kernel_rfl) Try.func3
    (ChangeSpec.witness6 (enc := enc) (C := Try.checked) false ⟨#[], #[.agg #[.slice none 0 0, .slice none 0 0], .agg #[.int .u8 0, .slice none 0 0, .slice none 0 0, .bool false], .int .i64 0, .agg #[.int .i64 0, .int .i64 0, .int .i64 0, .int .i64 0, .int .i64 0, .int .i64 0, .int .i64 0, .int .i64 0, .int .i64 0], .agg #[.int .i64 0, .int .i64 0, .int .i64 0, .int .i64 0, .int .i64 0, .int .i64 0, .int .i64 0, .int .i64 0, .int .i64 0]], []⟩ 8 (by kernel_rfl) (by kernel_rfl) (by kernel_rfl) (by kernel_rfl)) ?_
  intro W base args ds gs before hval hW _ _
  refine law_calls (P := Try.prog) (d := 20) sound (fun _ => rfl) laidOut (by kernel_rfl) (tb := 4) (by kernel_rfl) (by kernel_rfl) rfl (fun ds hds => ?_) electChecks_all hval hW
  have hn : Try.f3.params.size = 5 := by kernel_rfl
  rw [hn] at hds
  match ds, hds with
  | [d0, d1, d2, d3, d4], _ => rfl

theorem electChecks_holds : Rows.ElectChecksSaid :=
  OpenClaim.holds_of_wide 3 Try.f3 rfl rfl rfl rfl rfl rfl rfl ⟨rfl, rfl, rfl, rfl, rfl⟩ rfl rfl rfl rfl rfl (by kernel_rfl) Try.func3 (by kernel_rfl)
    (of_decide_eq_true (by kernel_rfl)) (by unfold Func.isWrapper; first | (rw [if_pos (by decide +kernel)]; kernel_rfl) | (rw [if_neg (by decide +kernel)]; exact ⟨rfl, rfl⟩))
    (fun os started H enc _ => electChecks_lifted os started H enc)

end Go.Proofs.Ytboknhdkadcaeaa
