/- PathTwo answers true for all arguments: a pair of routes apart, or a cut. No conditions. -/
import Derived.Test.YtnjaokhdeaeegaaT18
namespace Go.Proofs.Ytnjaokhdeaeegaa
open Go Go.Abs Go.RowKit

theorem pathTwo_all (xs : List T) (h : FitAll Try.prog 20 Try.f7.params.toList xs) : ans Try.prog pol 7 xs = some (.sc (.bool true)) := by
  have hp : Try.f7.params.toList = [61, 5, 5] := by kernel_rfl
  rw [hp] at h
  obtain ⟨x0, r0, rfl, f0, h⟩ := q3o h
  obtain ⟨x1, r1, rfl, f1, h⟩ := q3o h
  obtain ⟨x2, r2, rfl, f2, h⟩ := q3o h
  obtain rfl := q9x h
  obtain ⟨c0, rfl, g0⟩ := q5C (ls := [.int .u8, .int .u8, .sl 1 5, .sl 1 5, .sl 1 5, .sl 1 5]) (by kernel_rfl) (by kernel_rfl) f0
  obtain ⟨y0_0, q0_0, rfl, v0_0, g0⟩ := q0O g0
  obtain ⟨y0_1, q0_1, rfl, v0_1, g0⟩ := q0O g0
  obtain ⟨y0_2, q0_2, rfl, v0_2, g0⟩ := q0O g0
  obtain ⟨y0_3, q0_3, rfl, v0_3, g0⟩ := q0O g0
  obtain ⟨y0_4, q0_4, rfl, v0_4, g0⟩ := q0O g0
  obtain ⟨y0_5, q0_5, rfl, v0_5, g0⟩ := q0O g0
  obtain rfl := q3m g0
  obtain ⟨n0_0, rfl, w0_0⟩ := v0_0
  obtain ⟨n0_1, rfl, w0_1⟩ := v0_1
  obtain ⟨l0_2, rfl, k0_2, e0_2⟩ := v0_2
  obtain ⟨l0_3, rfl, k0_3, e0_3⟩ := v0_3
  obtain ⟨l0_4, rfl, k0_4, e0_4⟩ := v0_4
  obtain ⟨l0_5, rfl, k0_5, e0_5⟩ := v0_5
  obtain ⟨n1, rfl, w1⟩ := q3n (l := .int .u8) (by kernel_rfl) (by kernel_rfl) f1
  obtain ⟨n2, rfl, w2⟩ := q3n (l := .int .u8) (by kernel_rfl) (by kernel_rfl) f2
  exact by
    obtain ⟨a2, rfl, h2⟩ := u8s e0_2
    obtain ⟨a3, rfl, h3⟩ := u8s e0_3
    obtain ⟨a4, rfl, h4⟩ := u8s e0_4
    obtain ⟨a5, rfl, h5⟩ := u8s e0_5
    exact qjw false false false false ⟨n0_0, n0_1, a2, a3, a4, a5⟩ ⟨wf_u8 w0_0, wf_u8 w0_1, ⟨h2, q2R (by simpa using (k0_2).1)⟩, ⟨h3, q2R (by simpa using (k0_3).1)⟩, ⟨h4, q2R (by simpa using (k0_4).1)⟩, ⟨h5, q2R (by simpa using (k0_5).1)⟩⟩ n1 n2 (wf_u8 w1) (wf_u8 w2)

set_option maxRecDepth 100000 in
theorem pathTwo_lifted (os : Os) (started : os.Started) (H : Type) (enc : TypeId × Value → H) :
    ReturnsInHanded {} Try.checked os 7 .any (Rows.pathTwoSpec.pre6 enc Try.prog Try.f7 Rows.pathTwoRow.domain false) (Rows.pathTwoSpec.post enc Try.prog Try.f7 false true false false) := by
  refine returnsInHanded_of_change_sized (C := Try.checked) own started (by kernel_rfl) Try.func7
    (ChangeSpec.witness6 (enc := enc) (C := Try.checked) false ⟨#[], #[.agg #[.int .u8 0, .int .u8 0, .slice none 0 0, .slice none 0 0, .slice none 0 0, .slice none 0 0], .int .u8 0, .int .u8 0], []⟩ 8 (by kernel_rfl) (by kernel_rfl) (by kernel_rfl) (by kernel_rfl)) ?_
  intro W base args ds gs before hval hW _ hwt _
  refine q9v (P := Try.prog) (d := 20) sound (fun _ => rfl) laidOut (by kernel_rfl) (tb := 4) (by kernel_rfl) (by kernel_rfl) rfl (fun ds hds => ?_) pathTwo_all hval hW hwt
  have hn : Try.f7.params.size = 3 := by kernel_rfl
  rw [hn] at hds
  match ds, hds with
  | [d0, d1, d2], _ => rfl

theorem pathTwo_holds : Rows.PathTwoSaid :=
  OpenClaim.holds_of_wide 7 Try.f7 rfl rfl rfl rfl rfl rfl rfl ⟨rfl, rfl, rfl, rfl, rfl⟩ rfl rfl rfl rfl rfl (by kernel_rfl) Try.func7 (by kernel_rfl)
    (of_decide_eq_true (by kernel_rfl)) (by unfold Func.isWrapper; first | (rw [if_pos (by decide +kernel)]; kernel_rfl) | (rw [if_neg (by decide +kernel)]; exact ⟨rfl, rfl⟩))
    (fun os started H enc _ => pathTwo_lifted os started H enc)

end Go.Proofs.Ytnjaokhdeaeegaa
