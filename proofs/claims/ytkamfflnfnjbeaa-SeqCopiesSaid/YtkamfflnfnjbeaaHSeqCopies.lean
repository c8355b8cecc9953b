/- SeqCopies answers true for all arguments: Copies returns one copy for each route, or the documented error. No conditions. -/
import Derived.Test.YtkamfflnfnjbeaaSeqT
import Derived.Test.YtkamfflnfnjbeaaAbsWf
set_option linter.unusedSimpArgs false
set_option linter.unusedVariables false
namespace Go.Proofs.Ytkamfflnfnjbeaa
open Go Go.Abs Go.RowKit

theorem intsF_one {x : T} (f : FitE Try.prog 3 x) : ∃ a, x = J6 a := by
  obtain ⟨n0, rfl, w0⟩ := fit_leaf (l := .int .i64) (by kernel_rfl) (by kernel_rfl) f
  exact ⟨n0, rfl⟩
theorem intsF {xs : List T} (h : ∀ y ∈ xs, FitE Try.prog 3 y) : ∃ l, xs = List.map J6 l := list_enc (fun y hy => intsF_one (h y hy))
theorem bytes3 : Try.prog.bytesOf 3 = 8 := by kernel_rfl
theorem routesF_one {x : T} (f : FitE Try.prog 38 x) : ∃ a, x = encR a ∧ (a.length < 9223372036854775808 ∧ a.length * 8 ≤ reachBytes) := by
  obtain ⟨l, rfl, k, e⟩ := fit_leaf (l := .sl 1 3) (by kernel_rfl) (by kernel_rfl) f
  obtain ⟨r, rfl⟩ := intsF e
  rw [bytes3, List.length_map] at k
  exact ⟨r, rfl, Nat.lt_of_le_of_lt k.1 (by decide), k.2⟩
theorem routesF {xs : List T} (h : ∀ y ∈ xs, FitE Try.prog 38 y) : ∃ l, xs = List.map encR l ∧ ∀ a ∈ l, a.length < 9223372036854775808 ∧ a.length * 8 ≤ reachBytes := list_enc' (fun y hy => routesF_one (h y hy))
theorem seqCopies_all (xs : List T) (h : FitAll Try.prog 20 Try.f4.params.toList xs) : ans Try.prog pol 4 xs = some (.sc (.bool true)) := by
  have hp : Try.f4.params.toList = [31, 32, 22, 22] := by kernel_rfl
  rw [hp] at h
  obtain ⟨x0, r0, rfl, f0, h⟩ := fitAll_cons h
  obtain ⟨x1, r1, rfl, f1, h⟩ := fitAll_cons h
  obtain ⟨x2, r2, rfl, f2, h⟩ := fitAll_cons h
  obtain ⟨x3, r3, rfl, f3, h⟩ := fitAll_cons h
  obtain rfl := fitAll_nil h
  obtain ⟨c0, rfl, g0⟩ := fit_agg (ls := [.int .i64, .int .i64, .int .i64, .int .i64, .int .i64]) (by kernel_rfl) (by kernel_rfl) f0
  obtain ⟨y0_0, q0_0, rfl, v0_0, g0⟩ := leafs_cons g0
  obtain ⟨y0_1, q0_1, rfl, v0_1, g0⟩ := leafs_cons g0
  obtain ⟨y0_2, q0_2, rfl, v0_2, g0⟩ := leafs_cons g0
  obtain ⟨y0_3, q0_3, rfl, v0_3, g0⟩ := leafs_cons g0
  obtain ⟨y0_4, q0_4, rfl, v0_4, g0⟩ := leafs_cons g0
  obtain rfl := leafs_nil g0
  obtain ⟨n0_0, rfl, w0_0⟩ := v0_0
  obtain ⟨n0_1, rfl, w0_1⟩ := v0_1
  obtain ⟨n0_2, rfl, w0_2⟩ := v0_2
  obtain ⟨n0_3, rfl, w0_3⟩ := v0_3
  obtain ⟨n0_4, rfl, w0_4⟩ := v0_4
  obtain ⟨l1, rfl, k1, e1⟩ := fit_leaf (l := .sl 1 38) (by kernel_rfl) (by kernel_rfl) f1
  obtain ⟨n2, rfl, w2⟩ := fit_leaf (l := .int .u16) (by kernel_rfl) (by kernel_rfl) f2
  obtain ⟨n3, rfl, w3⟩ := fit_leaf (l := .int .u16) (by kernel_rfl) (by kernel_rfl) f3
  exact by
    obtain ⟨rs, rfl, hrs⟩ := routesF e1
    exact seqCopies_ans ⟨n0_0, n0_1, n0_2, n0_3, n0_4⟩ rs n2 n3 (wf_u16 w2) (wf_u16 w3) hrs

set_option maxRecDepth 100000 in
theorem seqCopies_lifted (os : Os) (started : os.Started) (H : Type) (enc : TypeId × Value → H) :
    ReturnsInHanded {} Try.checked os 4 .any (Rows.seqCopiesSpec.pre6 enc Try.prog Try.f4 Rows.seqCopiesRow.domain false) (Rows.seqCopiesSpec.post enc Try.prog Try.f4 false true false false) := by
  refine returnsInHanded_of_change_sized (C := Try.checked) own started (by kernel_rfl) Try.func4
    (ChangeSpec.witness6 (enc := enc) (C := Try.checked) false ⟨#[], #[.agg #[.int .i64 0, .int .i64 0, .int .i64 0, .int .i64 0, .int .i64 0], .slice none 0 0, .int .u16 0, .int .u16 0], []⟩ 8 (by kernel_rfl) (by kernel_rfl) (by kernel_rfl) (by kernel_rfl)) ?_
  intro W base args ds gs before hval hW _ hwt _
  refine law_calls (P := Try.prog) (d := 20) sound (fun _ => rfl) laidOut (by kernel_rfl) (tb := 4) (by kernel_rfl) (by kernel_rfl) rfl (fun ds hds => ?_) seqCopies_all hval hW hwt
  have hn : Try.f4.params.size = 4 := by kernel_rfl
  rw [hn] at hds
  match ds, hds with
  | [d0, d1, d2, d3], _ => rfl

theorem seqCopies_holds : Rows.SeqCopiesSaid :=
  OpenClaim.holds_of_wide 4 Try.f4 rfl rfl rfl rfl rfl rfl rfl ⟨rfl, rfl, rfl, rfl, rfl⟩ rfl rfl rfl rfl rfl (by kernel_rfl) Try.func4 (by kernel_rfl)
    (of_decide_eq_true (by kernel_rfl)) (by unfold Func.isWrapper; first | (rw [if_pos (by decide +kernel)]; kernel_rfl) | (rw [if_neg (by decide +kernel)]; exact ⟨rfl, rfl⟩))
    (fun os started H enc _ => seqCopies_lifted os started H enc)

end Go.Proofs.Ytkamfflnfnjbeaa
