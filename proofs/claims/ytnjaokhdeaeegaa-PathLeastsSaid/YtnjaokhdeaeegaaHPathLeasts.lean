/- PathLeasts answers true for all arguments: Least finds the least of the defined routes, or the defined error. No conditions. -/
import Derived.Test.YtnjaokhdeaeegaaL18
namespace Go.Proofs.Ytnjaokhdeaeegaa
open Go Go.Abs Go.RowKit

theorem pathLeasts_all (xs : List T) (h : FitAll Try.prog 20 Try.f3.params.toList xs) : ans Try.prog pol 3 xs = some (.sc (.bool true)) := by
  have hp : Try.f3.params.toList = [25, 3, 3, 28, 3] := by kernel_rfl
  rw [hp] at h
  obtain ⟨x0, r0, rfl, f0, h⟩ := q1R h
  obtain ⟨x1, r1, rfl, f1, h⟩ := q1R h
  obtain ⟨x2, r2, rfl, f2, h⟩ := q1R h
  obtain ⟨x3, r3, rfl, f3, h⟩ := q1R h
  obtain ⟨x4, r4, rfl, f4, h⟩ := q1R h
  obtain rfl := q8V h
  obtain ⟨c0, rfl, g0⟩ := q3i (ls := [.int .i64, .sl 1 4, .sl 4 94]) (by kernel_rfl) (by kernel_rfl) f0
  obtain ⟨y0_0, q0_0, rfl, v0_0, g0⟩ := q0S g0
  obtain ⟨y0_1, q0_1, rfl, v0_1, g0⟩ := q0S g0
  obtain ⟨y0_2, q0_2, rfl, v0_2, g0⟩ := q0S g0
  obtain rfl := q2o g0
  obtain ⟨n0_0, rfl, w0_0⟩ := v0_0
  obtain ⟨l0_1, rfl, k0_1, e0_1⟩ := v0_1
  obtain ⟨l0_2, rfl, k0_2, e0_2⟩ := v0_2
  obtain ⟨n1, rfl, w1⟩ := q1Q (l := .int .i64) (by kernel_rfl) (by kernel_rfl) f1
  obtain ⟨n2, rfl, w2⟩ := q1Q (l := .int .i64) (by kernel_rfl) (by kernel_rfl) f2
  obtain ⟨c3, rfl, g3⟩ := q3i (ls := [.sl 1 3, .sl 1 3]) (by kernel_rfl) (by kernel_rfl) f3
  obtain ⟨y3_0, q3_0, rfl, v3_0, g3⟩ := q0S g3
  obtain ⟨y3_1, q3_1, rfl, v3_1, g3⟩ := q0S g3
  obtain rfl := q2o g3
  obtain ⟨l3_0, rfl, k3_0, e3_0⟩ := v3_0
  obtain ⟨l3_1, rfl, k3_1, e3_1⟩ := v3_1
  obtain ⟨n4, rfl, w4⟩ := q1Q (l := .int .i64) (by kernel_rfl) (by kernel_rfl) f4
  exact by
    obtain ⟨a1, rfl⟩ := bools e0_1
    obtain ⟨a2, rfl⟩ := links e0_2
    obtain ⟨a3, rfl⟩ := ints e3_0
    obtain ⟨a4, rfl⟩ := ints e3_1
    rw [List.length_map] at k0_1 k0_2 k3_0 k3_1
    exact qiR false false false false ⟨n0_0, a1, a2⟩ n1 n2 a3 a4 n4 (q2N k0_1.1) (q2N k0_2.1) (q2N k3_0.1) (q2N k3_1.1)

set_option maxRecDepth 100000 in
theorem pathLeasts_lifted (os : Os) (started : os.Started) (H : Type) (enc : TypeId × Value → H) :
    ReturnsInHanded {} Try.checked os 3 .any (Rows.pathLeastsSpec.pre6 enc Try.prog Try.f3 Rows.pathLeastsRow.domain false) (Rows.pathLeastsSpec.post enc Try.prog Try.f3 false true false false) := by
  refine returnsInHanded_of_change_sized (C := Try.checked) own started (by kernel_rfl) Try.func3
    (ChangeSpec.witness6 (enc := enc) (C := Try.checked) false ⟨#[], #[.agg #[.int .i64 0, .slice none 0 0, .slice none 0 0], .int .i64 0, .int .i64 0, .agg #[.slice none 0 0, .slice none 0 0], .int .i64 0], []⟩ 8 (by kernel_rfl) (by kernel_rfl) (by kernel_rfl) (by kernel_rfl)) ?_
  intro W base args ds gs before hval hW _ hwt _
  refine q8T (P := Try.prog) (d := 20) sound (fun _ => rfl) laidOut (by kernel_rfl) (tb := 4) (by kernel_rfl) (by kernel_rfl) rfl (fun ds hds => ?_) pathLeasts_all hval hW hwt
  have hn : Try.f3.params.size = 5 := by kernel_rfl
  rw [hn] at hds
  match ds, hds with
  | [d0, d1, d2, d3, d4], _ => rfl

theorem pathLeasts_holds : Rows.PathLeastsSaid :=
  OpenClaim.holds_of_wide 3 Try.f3 rfl rfl rfl rfl rfl rfl rfl ⟨rfl, rfl, rfl, rfl, rfl⟩ rfl rfl rfl rfl rfl (by kernel_rfl) Try.func3 (by kernel_rfl)
    (of_decide_eq_true (by kernel_rfl)) (by unfold Func.isWrapper; first | (rw [if_pos (by decide +kernel)]; kernel_rfl) | (rw [if_neg (by decide +kernel)]; exact ⟨rfl, rfl⟩))
    (fun os started H enc _ => pathLeasts_lifted os started H enc)

end Go.Proofs.Ytnjaokhdeaeegaa
