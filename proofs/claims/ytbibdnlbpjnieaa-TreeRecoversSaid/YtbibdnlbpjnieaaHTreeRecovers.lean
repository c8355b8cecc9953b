/- TreeRecovers answers true for all arguments: with a link cut and restored, after MaxAge + Nodes + 2 more rounds the roles are the goal again. No conditions. -/
import Derived.Test.YtbibdnlbpjnieaaR29
namespace Go.Proofs.Ytbibdnlbpjnieaa
open Go Go.Abs Go.RowKit

theorem treeRecovers_all (xs : List T) (h : FitAll Try.prog 20 Try.f4.params.toList xs) : ans Try.prog pol 4 xs = some (.sc (.bool true)) := by
  have hp : Try.f4.params.toList = [24, 22, 25, 5, 5] := by kernel_rfl
  rw [hp] at h
  obtain ⟨x0, r0, rfl, f0, h⟩ := fitAll_cons h
  obtain ⟨x1, r1, rfl, f1, h⟩ := fitAll_cons h
  obtain ⟨x2, r2, rfl, f2, h⟩ := fitAll_cons h
  obtain ⟨x3, r3, rfl, f3, h⟩ := fitAll_cons h
  obtain ⟨x4, r4, rfl, f4, h⟩ := fitAll_cons h
  obtain rfl := fitAll_nil h
  obtain ⟨c0, rfl, g0⟩ := fit_agg (ls := [.int .u8, .int .u8, .sl 1 5, .sl 1 5, .sl 1 5, .sl 1 5]) (by kernel_rfl) (by kernel_rfl) f0
  obtain ⟨y0_0, q0_0, rfl, v0_0, g0⟩ := leafs_cons g0
  obtain ⟨y0_1, q0_1, rfl, v0_1, g0⟩ := leafs_cons g0
  obtain ⟨y0_2, q0_2, rfl, v0_2, g0⟩ := leafs_cons g0
  obtain ⟨y0_3, q0_3, rfl, v0_3, g0⟩ := leafs_cons g0
  obtain ⟨y0_4, q0_4, rfl, v0_4, g0⟩ := leafs_cons g0
  obtain ⟨y0_5, q0_5, rfl, v0_5, g0⟩ := leafs_cons g0
  obtain rfl := leafs_nil g0
  obtain ⟨n0_0, rfl, w0_0⟩ := v0_0
  obtain ⟨n0_1, rfl, w0_1⟩ := v0_1
  obtain ⟨l0_2, rfl, k0_2, e0_2⟩ := v0_2
  obtain ⟨l0_3, rfl, k0_3, e0_3⟩ := v0_3
  obtain ⟨l0_4, rfl, k0_4, e0_4⟩ := v0_4
  obtain ⟨l0_5, rfl, k0_5, e0_5⟩ := v0_5
  obtain ⟨l1, rfl, k1, e1⟩ := fit_leaf (l := .sl 1 5) (by kernel_rfl) (by kernel_rfl) f1
  obtain ⟨l2, rfl, k2, e2⟩ := fit_leaf (l := .sl 9 69) (by kernel_rfl) (by kernel_rfl) f2
  obtain ⟨n3, rfl, w3⟩ := fit_leaf (l := .int .u8) (by kernel_rfl) (by kernel_rfl) f3
  obtain ⟨n4, rfl, w4⟩ := fit_leaf (l := .int .u8) (by kernel_rfl) (by kernel_rfl) f4
  exact by
    obtain ⟨a2, rfl, h2⟩ := u8s e0_2
    obtain ⟨a3, rfl, h3⟩ := u8s e0_3
    obtain ⟨a4, rfl, h4⟩ := u8s e0_4
    obtain ⟨a5, rfl, h5⟩ := u8s e0_5
    obtain ⟨pr, rfl, hpr⟩ := u8s e1
    obtain ⟨gh, rfl, hgh⟩ := ghosts e2
    exact rec_ans false false false false false false ⟨n0_0, n0_1, a2, a3, a4, a5⟩ ⟨wf_u8 w0_0, wf_u8 w0_1, ⟨h2, len_lt (by simpa using (k0_2).1)⟩, ⟨h3, len_lt (by simpa using (k0_3).1)⟩, ⟨h4, len_lt (by simpa using (k0_4).1)⟩, ⟨h5, len_lt (by simpa using (k0_5).1)⟩⟩ pr gh n3 n4 ⟨hpr, len_lt (by simpa using (k1).1)⟩ ⟨hgh, len_lt (by simpa using (k2).1)⟩ (wf_u8 w3) (wf_u8 w4)

set_option maxRecDepth 100000 in
theorem treeRecovers_lifted (os : Os) (started : os.Started) (H : Type) (enc : TypeId × Value → H) :
    ReturnsInHanded {} Try.checked os 4 .any (Rows.treeRecoversSpec.pre6 enc Try.prog Try.f4 Rows.treeRecoversRow.domain false) (Rows.treeRecoversSpec.post enc Try.prog Try.f4 false true false false) := by
  refine returnsInHanded_of_change_sized (C := Try.checked) own started (by kernel_rfl) Try.func4
    (ChangeSpec.witness6 (enc := enc) (C := Try.checked) false ⟨#[], #[.agg #[.int .u8 0, .int .u8 0, .slice none 0 0, .slice none 0 0, .slice none 0 0, .slice none 0 0], .slice none 0 0, .slice none 0 0, .int .u8 0, .int .u8 0], []⟩ 8 (by kernel_rfl) (by kernel_rfl) (by kernel_rfl) (by kernel_rfl)) ?_
  intro W base args ds gs before hval hW _ hwt _
  refine law_calls (P := Try.prog) (d := 20) sound (fun _ => rfl) laidOut (by kernel_rfl) (tb := 4) (by kernel_rfl) (by kernel_rfl) rfl (fun ds hds => ?_) treeRecovers_all hval hW hwt
  have hn : Try.f4.params.size = 5 := by kernel_rfl
  rw [hn] at hds
  match ds, hds with
  | [d0, d1, d2, d3, d4], _ => rfl

theorem treeRecovers_holds : Rows.TreeRecoversSaid :=
  OpenClaim.holds_of_wide 4 Try.f4 rfl rfl rfl rfl rfl rfl rfl ⟨rfl, rfl, rfl, rfl, rfl⟩ rfl rfl rfl rfl rfl (by kernel_rfl) Try.func4 (by kernel_rfl)
    (of_decide_eq_true (by kernel_rfl)) (by unfold Func.isWrapper; first | (rw [if_pos (by decide +kernel)]; kernel_rfl) | (rw [if_neg (by decide +kernel)]; exact ⟨rfl, rfl⟩))
    (fun os started H enc _ => treeRecovers_lifted os started H enc)

end Go.Proofs.Ytbibdnlbpjnieaa
