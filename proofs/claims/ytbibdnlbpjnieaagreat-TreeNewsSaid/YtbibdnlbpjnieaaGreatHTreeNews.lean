/- TreeNews answers true for all arguments: New returns the defined network for every topology and priorities, or the defined error. No conditions. -/
import Derived.Test.YtbibdnlbpjnieaaGreatN26
namespace Go.Proofs.YtbibdnlbpjnieaaGreat
open Go Go.Abs Go.RowKit

theorem treeNews_all (xs : List T) (h : FitAll Tryz.prog 20 Tryz.f3.params.toList xs) : ans Tryz.prog pol 3 xs = some (.sc (.bool true)) := by
  have hp : Tryz.f3.params.toList = [25, 26] := by kernel_rfl
  rw [hp] at h
  obtain ⟨x0, r0, rfl, f0, h⟩ := fitAll_cons h
  obtain ⟨x1, r1, rfl, f1, h⟩ := fitAll_cons h
  obtain rfl := fitAll_nil h
  obtain ⟨c0, rfl, g0⟩ := fit_agg (ls := [.int .i64, .sl 1 4, .sl 4 70]) (by kernel_rfl) (by kernel_rfl) f0
  obtain ⟨y0_0, q0_0, rfl, v0_0, g0⟩ := leafs_cons g0
  obtain ⟨y0_1, q0_1, rfl, v0_1, g0⟩ := leafs_cons g0
  obtain ⟨y0_2, q0_2, rfl, v0_2, g0⟩ := leafs_cons g0
  obtain rfl := leafs_nil g0
  obtain ⟨n0_0, rfl, w0_0⟩ := v0_0
  obtain ⟨l0_1, rfl, k0_1, e0_1⟩ := v0_1
  obtain ⟨l0_2, rfl, k0_2, e0_2⟩ := v0_2
  obtain ⟨l1, rfl, k1, e1⟩ := fit_leaf (l := .sl 1 3) (by kernel_rfl) (by kernel_rfl) f1
  exact by
    obtain ⟨a1, rfl⟩ := bools e0_1
    obtain ⟨a2, rfl⟩ := links e0_2
    obtain ⟨pr, rfl⟩ := ints e1
    exact news_ans false false false ⟨n0_0, a1, a2⟩ pr

set_option maxRecDepth 100000 in
theorem treeNews_lifted (os : Os) (started : os.Started) (H : Type) (enc : TypeId × Value → H) :
    ReturnsInHanded {} Tryz.checked os 3 .any (Rows.treeNewsSpec.pre6 enc Tryz.prog Tryz.f3 Rows.treeNewsRow.domain false) (Rows.treeNewsSpec.post enc Tryz.prog Tryz.f3 false true false false) := by
  refine returnsInHanded_of_change_sized (C := Tryz.checked) own started (by kernel_rfl) Tryz.func3
    (ChangeSpec.witness6 (enc := enc) (C := Tryz.checked) false ⟨#[], #[.agg #[.int .i64 0, .slice none 0 0, .slice none 0 0], .slice none 0 0], []⟩ 8 (by kernel_rfl) (by kernel_rfl) (by kernel_rfl) (by kernel_rfl)) ?_
  intro W base args ds gs before hval hW _ hwt _
  refine law_calls (P := Tryz.prog) (d := 20) sound (fun _ => rfl) laidOut (by kernel_rfl) (tb := 4) (by kernel_rfl) (by kernel_rfl) rfl (fun ds hds => ?_) treeNews_all hval hW hwt
  have hn : Tryz.f3.params.size = 2 := by kernel_rfl
  rw [hn] at hds
  match ds, hds with
  | [d0, d1], _ => rfl

theorem treeNews_holds : Rows.TreeNewsSaid :=
  OpenClaim.holds_of_wide 3 Tryz.f3 rfl rfl rfl rfl rfl rfl rfl ⟨rfl, rfl, rfl, rfl, rfl⟩ rfl rfl rfl rfl rfl (by kernel_rfl) Tryz.func3 (by kernel_rfl)
    (of_decide_eq_true (by kernel_rfl)) (by unfold Func.isWrapper; first | (rw [if_pos (by decide +kernel)]; kernel_rfl) | (rw [if_neg (by decide +kernel)]; exact ⟨rfl, rfl⟩))
    (fun os started H enc _ => treeNews_lifted os started H enc)

end Go.Proofs.YtbibdnlbpjnieaaGreat
