/- TreeTells answers true for all arguments: Roles and Goal return the defined roles for every network. No conditions. -/
import Derived.Test.YtbibdnlbpjnieaaGreatT28
namespace Go.Proofs.YtbibdnlbpjnieaaGreat
open Go Go.Abs Go.RowKit

theorem treeTells_all (xs : List T) (h : FitAll Tryz.prog 20 Tryz.f4.params.toList xs) : ans Tryz.prog pol 4 xs = some (.sc (.bool true)) := by
  have hp : Tryz.f4.params.toList = [31] := by kernel_rfl
  rw [hp] at h
  obtain ⟨x0, r0, rfl, f0, h⟩ := q99 h
  obtain rfl := q98 h
  obtain ⟨c0, rfl, g0⟩ := q2m (ls := [.int .i64, .sl 1 4, .sl 4 70, .sl 1 3, .sl 1 4, .sl 5 65]) (by kernel_rfl) (by kernel_rfl) f0
  obtain ⟨y0_0, q0_0, rfl, v0_0, g0⟩ := q0j g0
  obtain ⟨y0_1, q0_1, rfl, v0_1, g0⟩ := q0j g0
  obtain ⟨y0_2, q0_2, rfl, v0_2, g0⟩ := q0j g0
  obtain ⟨y0_3, q0_3, rfl, v0_3, g0⟩ := q0j g0
  obtain ⟨y0_4, q0_4, rfl, v0_4, g0⟩ := q0j g0
  obtain ⟨y0_5, q0_5, rfl, v0_5, g0⟩ := q0j g0
  obtain rfl := q1T g0
  obtain ⟨n0_0, rfl, w0_0⟩ := v0_0
  obtain ⟨l0_1, rfl, k0_1, e0_1⟩ := v0_1
  obtain ⟨l0_2, rfl, k0_2, e0_2⟩ := v0_2
  obtain ⟨l0_3, rfl, k0_3, e0_3⟩ := v0_3
  obtain ⟨l0_4, rfl, k0_4, e0_4⟩ := v0_4
  obtain ⟨l0_5, rfl, k0_5, e0_5⟩ := v0_5
  exact by
    obtain ⟨a1, rfl⟩ := bools e0_1
    obtain ⟨a2, rfl⟩ := links e0_2
    obtain ⟨a3, rfl⟩ := ints e0_3
    obtain ⟨a4, rfl⟩ := bools e0_4
    obtain ⟨a5, rfl, h5⟩ := bridges e0_5
    exact qid ⟨false, false, false, false, false⟩ ⟨⟨n0_0, a1, a2⟩, a3, a4, a5⟩ h5

set_option maxRecDepth 100000 in
theorem treeTells_lifted (os : Os) (started : os.Started) (H : Type) (enc : TypeId × Value → H) :
    ReturnsInHanded {} Tryz.checked os 4 .any (Rows.treeTellsSpec.pre6 enc Tryz.prog Tryz.f4 Rows.treeTellsRow.domain false) (Rows.treeTellsSpec.post enc Tryz.prog Tryz.f4 false true false false) := by
  refine returnsInHanded_of_change_sized (C := Tryz.checked) own started (by kernel_rfl) Tryz.func4
    (ChangeSpec.witness6 (enc := enc) (C := Tryz.checked) false ⟨#[], #[.agg #[.int .i64 0, .slice none 0 0, .slice none 0 0, .slice none 0 0, .slice none 0 0, .slice none 0 0]], []⟩ 8 (by kernel_rfl) (by kernel_rfl) (by kernel_rfl) (by kernel_rfl)) ?_
  intro W base args ds gs before hval hW _ hwt _
  refine q96 (P := Tryz.prog) (d := 20) sound (fun _ => rfl) laidOut (by kernel_rfl) (tb := 4) (by kernel_rfl) (by kernel_rfl) rfl (fun ds hds => ?_) treeTells_all hval hW hwt
  have hn : Tryz.f4.params.size = 1 := by kernel_rfl
  rw [hn] at hds
  match ds, hds with
  | [d0], _ => rfl

theorem treeTells_holds : Rows.TreeTellsSaid :=
  OpenClaim.holds_of_wide 4 Tryz.f4 rfl rfl rfl rfl rfl rfl rfl ⟨rfl, rfl, rfl, rfl, rfl⟩ rfl rfl rfl rfl rfl (by kernel_rfl) Tryz.func4 (by kernel_rfl)
    (of_decide_eq_true (by kernel_rfl)) (by unfold Func.isWrapper; first | (rw [if_pos (by decide +kernel)]; kernel_rfl) | (rw [if_neg (by decide +kernel)]; exact ⟨rfl, rfl⟩))
    (fun os started H enc _ => treeTells_lifted os started H enc)

end Go.Proofs.YtbibdnlbpjnieaaGreat
