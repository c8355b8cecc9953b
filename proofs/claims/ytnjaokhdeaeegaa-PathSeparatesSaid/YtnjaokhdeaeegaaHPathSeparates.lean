/- PathSeparates answers true for all arguments: Cost and Separate answer as defined, or the defined error. No conditions. -/
import Derived.Test.YtnjaokhdeaeegaaS18
namespace Go.Proofs.Ytnjaokhdeaeegaa
open Go Go.Abs Go.RowKit

theorem pathSeparates_all (xs : List T) (h : FitAll Try.prog 20 Try.f5.params.toList xs) : ans Try.prog pol 5 xs = some (.sc (.bool true)) := by
  have hp : Try.f5.params.toList = [25, 3, 3, 31] := by kernel_rfl
  rw [hp] at h
  obtain ⟨x0, r0, rfl, f0, h⟩ := q2p h
  obtain ⟨x1, r1, rfl, f1, h⟩ := q2p h
  obtain ⟨x2, r2, rfl, f2, h⟩ := q2p h
  obtain ⟨x3, r3, rfl, f3, h⟩ := q2p h
  obtain rfl := q8Z h
  obtain ⟨c0, rfl, g0⟩ := q5s (ls := [.int .i64, .sl 1 4, .sl 4 94]) (by kernel_rfl) (by kernel_rfl) f0
  obtain ⟨y0_0, q0_0, rfl, v0_0, g0⟩ := q14 g0
  obtain ⟨y0_1, q0_1, rfl, v0_1, g0⟩ := q14 g0
  obtain ⟨y0_2, q0_2, rfl, v0_2, g0⟩ := q14 g0
  obtain rfl := q3e g0
  obtain ⟨n0_0, rfl, w0_0⟩ := v0_0
  obtain ⟨l0_1, rfl, k0_1, e0_1⟩ := v0_1
  obtain ⟨l0_2, rfl, k0_2, e0_2⟩ := v0_2
  obtain ⟨n1, rfl, w1⟩ := q1S (l := .int .i64) (by kernel_rfl) (by kernel_rfl) f1
  obtain ⟨n2, rfl, w2⟩ := q1S (l := .int .i64) (by kernel_rfl) (by kernel_rfl) f2
  obtain ⟨l3, rfl, k3, e3⟩ := q1S (l := .sl 1 3) (by kernel_rfl) (by kernel_rfl) f3
  exact by
    obtain ⟨a1, rfl⟩ := bools e0_1
    obtain ⟨a2, rfl⟩ := links e0_2
    obtain ⟨a3, rfl⟩ := ints e3
    rw [List.length_map] at k3
    exact qiJ false false false ⟨n0_0, a1, a2⟩ n1 n2 a3 (qiK k3.1)

set_option maxRecDepth 100000 in
theorem pathSeparates_lifted (os : Os) (started : os.Started) (H : Type) (enc : TypeId × Value → H) :
    ReturnsInHanded {} Try.checked os 5 .any (Rows.pathSeparatesSpec.pre6 enc Try.prog Try.f5 Rows.pathSeparatesRow.domain false) (Rows.pathSeparatesSpec.post enc Try.prog Try.f5 false true false false) := by
  refine returnsInHanded_of_change_sized (C := Try.checked) own started (by kernel_rfl) Try.func5
    (ChangeSpec.witness6 (enc := enc) (C := Try.checked) false ⟨#[], #[.agg #[.int .i64 0, .slice none 0 0, .slice none 0 0], .int .i64 0, .int .i64 0, .slice none 0 0], []⟩ 8 (by kernel_rfl) (by kernel_rfl) (by kernel_rfl) (by kernel_rfl)) ?_
  intro W base args ds gs before hval hW _ hwt _
  refine q8X (P := Try.prog) (d := 20) sound (fun _ => rfl) laidOut (by kernel_rfl) (tb := 4) (by kernel_rfl) (by kernel_rfl) rfl (fun ds hds => ?_) pathSeparates_all hval hW hwt
  have hn : Try.f5.params.size = 4 := by kernel_rfl
  rw [hn] at hds
  match ds, hds with
  | [d0, d1, d2, d3], _ => rfl

theorem pathSeparates_holds : Rows.PathSeparatesSaid :=
  OpenClaim.holds_of_wide 5 Try.f5 rfl rfl rfl rfl rfl rfl rfl ⟨rfl, rfl, rfl, rfl, rfl⟩ rfl rfl rfl rfl rfl (by kernel_rfl) Try.func5 (by kernel_rfl)
    (of_decide_eq_true (by kernel_rfl)) (by unfold Func.isWrapper; first | (rw [if_pos (by decide +kernel)]; kernel_rfl) | (rw [if_neg (by decide +kernel)]; exact ⟨rfl, rfl⟩))
    (fun os started H enc _ => pathSeparates_lifted os started H enc)

end Go.Proofs.Ytnjaokhdeaeegaa
