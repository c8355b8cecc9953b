/- RecoverOnce answers true for all arguments: a frame is accepted if and only if it is within the history and has not been accepted before. No conditions. -/
import Derived.Test.YtkamfflnfnjbeaaRecH
import Derived.Test.YtkamfflnfnjbeaaAbsWf
set_option linter.unusedSimpArgs false
set_option linter.unusedVariables false
namespace Go.Proofs.Ytkamfflnfnjbeaa
open Go Go.Abs Go.RowKit

theorem moves_one {x : T} (f : FitE Try.prog 92 x) : ∃ a, x = encX a ∧ (fun x : Int × Int => (-32768 ≤ x.1 ∧ x.1 < 32768) ∧ -32768 ≤ x.2 ∧ x.2 < 32768) a := by
  obtain ⟨c, rfl, g⟩ := fit_agg (ls := [.int .i16, .int .i16]) (by kernel_rfl) (by kernel_rfl) f
  obtain ⟨y0, q0, rfl, v0, g⟩ := leafs_cons g
  obtain ⟨y1, q1, rfl, v1, g⟩ := leafs_cons g
  obtain rfl := leafs_nil g
  obtain ⟨n0, rfl, w0⟩ := v0
  obtain ⟨n1, rfl, w1⟩ := v1
  exact ⟨(n0, n1), rfl, ⟨wf_i16 w0, wf_i16 w1⟩⟩
theorem moves {xs : List T} (h : ∀ y ∈ xs, FitE Try.prog 92 y) : ∃ l, xs = List.map encX l ∧ ∀ a ∈ l, (fun x : Int × Int => (-32768 ≤ x.1 ∧ x.1 < 32768) ∧ -32768 ≤ x.2 ∧ x.2 < 32768) a := list_enc' (fun y hy => moves_one (h y hy))
theorem recoverOnce_all (xs : List T) (h : FitAll Try.prog 20 Try.f11.params.toList xs) : ans Try.prog pol 11 xs = some (.sc (.bool true)) := by
  have hp : Try.f11.params.toList = [5, 21, 88] := by kernel_rfl
  rw [hp] at h
  obtain ⟨x0, r0, rfl, f0, h⟩ := fitAll_cons h
  obtain ⟨x1, r1, rfl, f1, h⟩ := fitAll_cons h
  obtain ⟨x2, r2, rfl, f2, h⟩ := fitAll_cons h
  obtain rfl := fitAll_nil h
  obtain ⟨n0, rfl, w0⟩ := fit_leaf (l := .int .u8) (by kernel_rfl) (by kernel_rfl) f0
  obtain ⟨n1, rfl, w1⟩ := fit_leaf (l := .int .i32) (by kernel_rfl) (by kernel_rfl) f1
  obtain ⟨l2, rfl, k2, e2⟩ := fit_leaf (l := .sl 2 92) (by kernel_rfl) (by kernel_rfl) f2
  exact by
    obtain ⟨l, rfl, hl⟩ := moves e2
    exact recoverOnce_ans n0 n1 l (wf_u8 w0) (wf_i32 w1) hl

set_option maxRecDepth 100000 in
theorem recoverOnce_lifted (os : Os) (started : os.Started) (H : Type) (enc : TypeId × Value → H) :
    ReturnsInHanded {} Try.checked os 11 .any (Rows.recoverOnceSpec.pre6 enc Try.prog Try.f11 Rows.recoverOnceRow.domain false) (Rows.recoverOnceSpec.post enc Try.prog Try.f11 false true false false) := by
  refine returnsInHanded_of_change (C := Try.checked) own started (by kernel_rfl) Try.func11
    (ChangeSpec.witness6 (enc := enc) (C := Try.checked) false ⟨#[], #[.int .u8 0, .int .i32 0, .slice none 0 0], []⟩ 8 (by kernel_rfl) (by kernel_rfl) (by kernel_rfl) (by kernel_rfl)) ?_
  intro W base args ds gs before hval hW _ _
  refine law_calls (P := Try.prog) (d := 20) sound (fun _ => rfl) laidOut (by kernel_rfl) (tb := 4) (by kernel_rfl) (by kernel_rfl) rfl (fun ds hds => ?_) recoverOnce_all hval hW
  have hn : Try.f11.params.size = 3 := by kernel_rfl
  rw [hn] at hds
  match ds, hds with
  | [d0, d1, d2], _ => rfl

theorem recoverOnce_holds : Rows.RecoverOnceSaid :=
  OpenClaim.holds_of_wide 11 Try.f11 rfl rfl rfl rfl rfl rfl rfl ⟨rfl, rfl, rfl, rfl, rfl⟩ rfl rfl rfl rfl rfl (by kernel_rfl) Try.func11 (by kernel_rfl)
    (of_decide_eq_true (by kernel_rfl)) (by unfold Func.isWrapper; first | (rw [if_pos (by decide +kernel)]; kernel_rfl) | (rw [if_neg (by decide +kernel)]; exact ⟨rfl, rfl⟩))
    (fun os started H enc _ => recoverOnce_lifted os started H enc)

end Go.Proofs.Ytkamfflnfnjbeaa
