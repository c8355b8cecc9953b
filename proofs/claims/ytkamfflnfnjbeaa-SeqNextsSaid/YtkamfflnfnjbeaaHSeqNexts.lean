/- SeqNexts answers true for all arguments: Check and Next agree with the reference for any list and stream. No conditions. -/
import Derived.Test.YtkamfflnfnjbeaaSeqU
import Derived.Test.YtkamfflnfnjbeaaAbsWf
set_option linter.unusedSimpArgs false
set_option linter.unusedVariables false
namespace Go.Proofs.Ytkamfflnfnjbeaa
open Go Go.Abs Go.RowKit

theorem draftsF_one {x : T} (f : FitE Try.prog 102 x) : ∃ a, x = encD a ∧ (fun c : Cnt => (0 ≤ c.1 ∧ c.1 < 65536) ∧ 0 ≤ c.2 ∧ c.2 < 65536) a := by
  obtain ⟨c, rfl, g⟩ := fit_agg (ls := [.int .u16, .int .u16]) (by kernel_rfl) (by kernel_rfl) f
  obtain ⟨y0, q0, rfl, v0, g⟩ := leafs_cons g
  obtain ⟨y1, q1, rfl, v1, g⟩ := leafs_cons g
  obtain rfl := leafs_nil g
  obtain ⟨n0, rfl, w0⟩ := v0
  obtain ⟨n1, rfl, w1⟩ := v1
  exact ⟨(n0, n1), rfl, ⟨wf_u16 w0, wf_u16 w1⟩⟩
theorem draftsF {xs : List T} (h : ∀ y ∈ xs, FitE Try.prog 102 y) : ∃ l, xs = List.map encD l ∧ ∀ a ∈ l, (fun c : Cnt => (0 ≤ c.1 ∧ c.1 < 65536) ∧ 0 ≤ c.2 ∧ c.2 < 65536) a := list_enc' (fun y hy => draftsF_one (h y hy))
theorem cntsF_one {x : T} (f : FitE Try.prog 50 x) : ∃ a, x = encC a := by
  obtain ⟨c, rfl, g⟩ := fit_agg (ls := [.int .i64, .int .i64]) (by kernel_rfl) (by kernel_rfl) f
  obtain ⟨y0, q0, rfl, v0, g⟩ := leafs_cons g
  obtain ⟨y1, q1, rfl, v1, g⟩ := leafs_cons g
  obtain rfl := leafs_nil g
  obtain ⟨n0, rfl, w0⟩ := v0
  obtain ⟨n1, rfl, w1⟩ := v1
  exact ⟨(n0, n1), rfl⟩
theorem cntsF {xs : List T} (h : ∀ y ∈ xs, FitE Try.prog 50 y) : ∃ l, xs = List.map encC l := list_enc (fun y hy => cntsF_one (h y hy))
theorem seqNexts_all (xs : List T) (h : FitAll Try.prog 20 Try.f8.params.toList xs) : ans Try.prog pol 8 xs = some (.sc (.bool true)) := by
  have hp : Try.f8.params.toList = [46, 44, 5, 50, 3] := by kernel_rfl
  rw [hp] at h
  obtain ⟨x0, r0, rfl, f0, h⟩ := fitAll_cons h
  obtain ⟨x1, r1, rfl, f1, h⟩ := fitAll_cons h
  obtain ⟨x2, r2, rfl, f2, h⟩ := fitAll_cons h
  obtain ⟨x3, r3, rfl, f3, h⟩ := fitAll_cons h
  obtain ⟨x4, r4, rfl, f4, h⟩ := fitAll_cons h
  obtain rfl := fitAll_nil h
  obtain ⟨l0, rfl, k0, e0⟩ := fit_leaf (l := .sl 2 50) (by kernel_rfl) (by kernel_rfl) f0
  obtain ⟨l1, rfl, k1, e1⟩ := fit_leaf (l := .sl 2 102) (by kernel_rfl) (by kernel_rfl) f1
  obtain ⟨n2, rfl, w2⟩ := fit_leaf (l := .int .u8) (by kernel_rfl) (by kernel_rfl) f2
  obtain ⟨c3, rfl, g3⟩ := fit_agg (ls := [.int .i64, .int .i64]) (by kernel_rfl) (by kernel_rfl) f3
  obtain ⟨y3_0, q3_0, rfl, v3_0, g3⟩ := leafs_cons g3
  obtain ⟨y3_1, q3_1, rfl, v3_1, g3⟩ := leafs_cons g3
  obtain rfl := leafs_nil g3
  obtain ⟨n3_0, rfl, w3_0⟩ := v3_0
  obtain ⟨n3_1, rfl, w3_1⟩ := v3_1
  obtain ⟨n4, rfl, w4⟩ := fit_leaf (l := .int .i64) (by kernel_rfl) (by kernel_rfl) f4
  exact by
    obtain ⟨l, rfl⟩ := cntsF e0
    obtain ⟨d, rfl, hd⟩ := draftsF e1
    simp only [List.length_map] at k1
    exact seqNexts_ans l d (Nat.lt_of_le_of_lt k1.1 (by decide)) hd n2 (wf_u8 w2) (n3_0, n3_1) n4

set_option maxRecDepth 100000 in
theorem seqNexts_lifted (os : Os) (started : os.Started) (H : Type) (enc : TypeId × Value → H) :
    ReturnsInHanded {} Try.checked os 8 .any (Rows.seqNextsSpec.pre6 enc Try.prog Try.f8 Rows.seqNextsRow.domain false) (Rows.seqNextsSpec.post enc Try.prog Try.f8 false true false false) := by
  refine returnsInHanded_of_change_sized (C := Try.checked) own started (by kernel_rfl) Try.func8
    (ChangeSpec.witness6 (enc := enc) (C := Try.checked) false ⟨#[], #[.slice none 0 0, .slice none 0 0, .int .u8 0, .agg #[.int .i64 0, .int .i64 0], .int .i64 0], []⟩ 8 (by kernel_rfl) (by kernel_rfl) (by kernel_rfl) (by kernel_rfl)) ?_
  intro W base args ds gs before hval hW _ hwt _
  refine law_calls (P := Try.prog) (d := 20) sound (fun _ => rfl) laidOut (by kernel_rfl) (tb := 4) (by kernel_rfl) (by kernel_rfl) rfl (fun ds hds => ?_) seqNexts_all hval hW hwt
  have hn : Try.f8.params.size = 5 := by kernel_rfl
  rw [hn] at hds
  match ds, hds with
  | [d0, d1, d2, d3, d4], _ => rfl

theorem seqNexts_holds : Rows.SeqNextsSaid :=
  OpenClaim.holds_of_wide 8 Try.f8 rfl rfl rfl rfl rfl rfl rfl ⟨rfl, rfl, rfl, rfl, rfl⟩ rfl rfl rfl rfl rfl (by kernel_rfl) Try.func8 (by kernel_rfl)
    (of_decide_eq_true (by kernel_rfl)) (by unfold Func.isWrapper; first | (rw [if_pos (by decide +kernel)]; kernel_rfl) | (rw [if_neg (by decide +kernel)]; exact ⟨rfl, rfl⟩))
    (fun os started H enc _ => seqNexts_lifted os started H enc)

end Go.Proofs.Ytkamfflnfnjbeaa
