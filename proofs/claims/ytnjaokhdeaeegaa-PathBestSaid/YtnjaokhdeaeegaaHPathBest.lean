/- PathBest answers true for all arguments: no route is cheaper than the least one, and the least one avoids what it should. No conditions. -/
import Derived.Test.YtnjaokhdeaeegaaB18
namespace Go.Proofs.Ytnjaokhdeaeegaa
open Go Go.Abs Go.RowKit

theorem pathBest_all (xs : List T) (h : FitAll Try.prog 20 Try.f6.params.toList xs) : ans Try.prog pol 6 xs = some (.sc (.bool true)) := by
  have hp : Try.f6.params.toList = [61, 5, 5, 59, 59] := by kernel_rfl
  rw [hp] at h
  obtain ⟨x0, r0, rfl, f0, h⟩ := q1Y h
  obtain ⟨x1, r1, rfl, f1, h⟩ := q1Y h
  obtain ⟨x2, r2, rfl, f2, h⟩ := q1Y h
  obtain ⟨x3, r3, rfl, f3, h⟩ := q1Y h
  obtain ⟨x4, r4, rfl, f4, h⟩ := q1Y h
  obtain rfl := q9E h
  obtain ⟨c0, rfl, g0⟩ := q5E (ls := [.int .u8, .int .u8, .sl 1 5, .sl 1 5, .sl 1 5, .sl 1 5]) (by kernel_rfl) (by kernel_rfl) f0
  obtain ⟨y0_0, q0_0, rfl, v0_0, g0⟩ := q0P g0
  obtain ⟨y0_1, q0_1, rfl, v0_1, g0⟩ := q0P g0
  obtain ⟨y0_2, q0_2, rfl, v0_2, g0⟩ := q0P g0
  obtain ⟨y0_3, q0_3, rfl, v0_3, g0⟩ := q0P g0
  obtain ⟨y0_4, q0_4, rfl, v0_4, g0⟩ := q0P g0
  obtain ⟨y0_5, q0_5, rfl, v0_5, g0⟩ := q0P g0
  obtain rfl := q3r g0
  obtain ⟨n0_0, rfl, w0_0⟩ := v0_0
  obtain ⟨n0_1, rfl, w0_1⟩ := v0_1
  obtain ⟨l0_2, rfl, k0_2, e0_2⟩ := v0_2
  obtain ⟨l0_3, rfl, k0_3, e0_3⟩ := v0_3
  obtain ⟨l0_4, rfl, k0_4, e0_4⟩ := v0_4
  obtain ⟨l0_5, rfl, k0_5, e0_5⟩ := v0_5
  obtain ⟨n1, rfl, w1⟩ := q1X (l := .int .u8) (by kernel_rfl) (by kernel_rfl) f1
  obtain ⟨n2, rfl, w2⟩ := q1X (l := .int .u8) (by kernel_rfl) (by kernel_rfl) f2
  obtain ⟨l3, rfl, k3, e3⟩ := q1X (l := .sl 1 5) (by kernel_rfl) (by kernel_rfl) f3
  obtain ⟨l4, rfl, k4, e4⟩ := q1X (l := .sl 1 5) (by kernel_rfl) (by kernel_rfl) f4
  exact by
    obtain ⟨a2, rfl, h2⟩ := u8s e0_2
    obtain ⟨a3, rfl, h3⟩ := u8s e0_3
    obtain ⟨a4, rfl, h4⟩ := u8s e0_4
    obtain ⟨a5, rfl, h5⟩ := u8s e0_5
    obtain ⟨vN, rfl, hN⟩ := u8s e3
    obtain ⟨vL, rfl, hL⟩ := u8s e4
    exact qjE false false false false ⟨n0_0, n0_1, a2, a3, a4, a5⟩ ⟨wf_u8 w0_0, wf_u8 w0_1, ⟨h2, q1P (by simpa using (k0_2).1)⟩, ⟨h3, q1P (by simpa using (k0_3).1)⟩, ⟨h4, q1P (by simpa using (k0_4).1)⟩, ⟨h5, q1P (by simpa using (k0_5).1)⟩⟩ n1 n2 (wf_u8 w1) (wf_u8 w2) false false vN vL hN hL (q1P (by simpa using k3.1)) (q1P (by simpa using k4.1))

set_option maxRecDepth 100000 in
theorem pathBest_lifted (os : Os) (started : os.Started) (H : Type) (enc : TypeId × Value → H) :
    ReturnsInHanded {} Try.checked os 6 .any (Rows.pathBestSpec.pre6 enc Try.prog Try.f6 Rows.pathBestRow.domain false) (Rows.pathBestSpec.post enc Try.prog Try.f6 false true false false) := by
  refine returnsInHanded_of_change_sized (C := Try.checked) own started (by kernel_rfl) Try.func6
    (ChangeSpec.witness6 (enc := enc) (C := Try.checked) false ⟨#[], #[.agg #[.int .u8 0, .int .u8 0, .slice none 0 0, .slice none 0 0, .slice none 0 0, .slice none 0 0], .int .u8 0, .int .u8 0, .slice none 0 0, .slice none 0 0], []⟩ 8 (by kernel_rfl) (by kernel_rfl) (by kernel_rfl) (by kernel_rfl)) ?_
  intro W base args ds gs before hval hW _ hwt _
  refine q9C (P := Try.prog) (d := 20) sound (fun _ => rfl) laidOut (by kernel_rfl) (tb := 4) (by kernel_rfl) (by kernel_rfl) rfl (fun ds hds => ?_) pathBest_all hval hW hwt
  have hn : Try.f6.params.size = 5 := by kernel_rfl
  rw [hn] at hds
  match ds, hds with
  | [d0, d1, d2, d3, d4], _ => rfl

theorem pathBest_holds : Rows.PathBestSaid :=
  OpenClaim.holds_of_wide 6 Try.f6 rfl rfl rfl rfl rfl rfl rfl ⟨rfl, rfl, rfl, rfl, rfl⟩ rfl rfl rfl rfl rfl (by kernel_rfl) Try.func6 (by kernel_rfl)
    (of_decide_eq_true (by kernel_rfl)) (by unfold Func.isWrapper; first | (rw [if_pos (by decide +kernel)]; kernel_rfl) | (rw [if_neg (by decide +kernel)]; exact ⟨rfl, rfl⟩))
    (fun os started H enc _ => pathBest_lifted os started H enc)

end Go.Proofs.Ytnjaokhdeaeegaa
