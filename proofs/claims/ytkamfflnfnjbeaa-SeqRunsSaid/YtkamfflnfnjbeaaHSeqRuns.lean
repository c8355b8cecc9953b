/- SeqRuns answers true for all arguments: the numbers of each stream are consecutive, whatever other streams do. No conditions. -/
import Derived.Test.YtkamfflnfnjbeaaSeqR
import Derived.Test.YtkamfflnfnjbeaaAbsWf
set_option linter.unusedSimpArgs false
set_option linter.unusedVariables false
namespace Go.Proofs.Ytkamfflnfnjbeaa
open Go Go.Abs Go.RowKit

theorem draftsF_one {x : T} (f : FitE Try.prog 102 x) : ∃ a, x = encD a ∧ (fun c : Cnt => (0 ≤ c.1 ∧ c.1 < 65536) ∧ 0 ≤ c.2 ∧ c.2 < 65536) a := by
  obtain ⟨c, rfl, g⟩ := fit_agg (ls := [.int .u16, .int .u16]) (by kernel_rfl) (by kernel_rfl) f
  obtain ⟨y0, q0, rfl, v0, g⟩ := leafs_cons g
  obtain ⟨y1, q1, rfl, v1, g⟩ := leafs_cons g
  obtain rfl := leafs_nil g
  obtain ⟨n0, rfl, w0⟩ := v0
  obtain ⟨n1, rfl, w1⟩ := v1
  exact ⟨(n0, n1), rfl, ⟨wf_u16 w0, wf_u16 w1⟩⟩
theorem draftsF {xs : List T} (h : ∀ y ∈ xs, FitE Try.prog 102 y) : ∃ l, xs = List.map encD l ∧ ∀ a ∈ l, (fun c : Cnt => (0 ≤ c.1 ∧ c.1 < 65536) ∧ 0 ≤ c.2 ∧ c.2 < 65536) a := list_enc' (fun y hy => draftsF_one (h y hy))
theorem u8sF_one {x : T} (f : FitE Try.prog 5 x) : ∃ a, x = encU a ∧ (fun u : Int => 0 ≤ u ∧ u < 256) a := by
  obtain ⟨n0, rfl, w0⟩ := fit_leaf (l := .int .u8) (by kernel_rfl) (by kernel_rfl) f
  exact ⟨n0, rfl, wf_u8 w0⟩
theorem u8sF {xs : List T} (h : ∀ y ∈ xs, FitE Try.prog 5 y) : ∃ l, xs = List.map encU l ∧ ∀ a ∈ l, (fun u : Int => 0 ≤ u ∧ u < 256) a := list_enc' (fun y hy => u8sF_one (h y hy))
theorem seqRuns_all (xs : List T) (h : FitAll Try.prog 20 Try.f5.params.toList xs) : ans Try.prog pol 5 xs = some (.sc (.bool true)) := by
  have hp : Try.f5.params.toList = [44, 45] := by kernel_rfl
  rw [hp] at h
  obtain ⟨x0, r0, rfl, f0, h⟩ := fitAll_cons h
  obtain ⟨x1, r1, rfl, f1, h⟩ := fitAll_cons h
  obtain rfl := fitAll_nil h
  obtain ⟨l0, rfl, k0, e0⟩ := fit_leaf (l := .sl 2 102) (by kernel_rfl) (by kernel_rfl) f0
  obtain ⟨l1, rfl, k1, e1⟩ := fit_leaf (l := .sl 1 5) (by kernel_rfl) (by kernel_rfl) f1
  exact by
    obtain ⟨l, rfl, hl⟩ := draftsF e0
    obtain ⟨u, rfl, hu⟩ := u8sF e1
    simp only [List.length_map] at k0
    exact seqRuns_ans l (Nat.lt_of_le_of_lt k0 (by decide)) hl u hu

set_option maxRecDepth 100000 in
theorem seqRuns_lifted (os : Os) (started : os.Started) (H : Type) (enc : TypeId × Value → H) :
    ReturnsInHanded {} Try.checked os 5 .any (Rows.seqRunsSpec.pre6 enc Try.prog Try.f5 Rows.seqRunsRow.domain false) (Rows.seqRunsSpec.post enc Try.prog Try.f5 false true false false) := by
  refine returnsInHanded_of_change (C := Try.checked) own started (by kernel_rfl) Try.func5
    (ChangeSpec.witness6 (enc := enc) (C := Try.checked) false ⟨#[], #[.slice none 0 0, .slice none 0 0], []⟩ 8 (by kernel_rfl) (by kernel_rfl) (by kernel_rfl) (by kernel_rfl)) ?_
  intro W base args ds gs before hval hW _ _
  refine law_calls (P := Try.prog) (d := 20) sound (fun _ => rfl) laidOut (by kernel_rfl) (tb := 4) (by kernel_rfl) (by kernel_rfl) rfl (fun ds hds => ?_) seqRuns_all hval hW
  have hn : Try.f5.params.size = 2 := by kernel_rfl
  rw [hn] at hds
  match ds, hds with
  | [d0, d1], _ => rfl

theorem seqRuns_holds : Rows.SeqRunsSaid :=
  OpenClaim.holds_of_wide 5 Try.f5 rfl rfl rfl rfl rfl rfl rfl ⟨rfl, rfl, rfl, rfl, rfl⟩ rfl rfl rfl rfl rfl (by kernel_rfl) Try.func5 (by kernel_rfl)
    (of_decide_eq_true (by kernel_rfl)) (by unfold Func.isWrapper; first | (rw [if_pos (by decide +kernel)]; kernel_rfl) | (rw [if_neg (by decide +kernel)]; exact ⟨rfl, rfl⟩))
    (fun os started H enc _ => seqRuns_lifted os started H enc)

end Go.Proofs.Ytkamfflnfnjbeaa
