/- The policy of the evaluator for this program, and that the program keeps to what the evaluator asks. -/
import Derived.Test.YthcaepnclhgkmaaDoorAbsP3
import Derived.Test.YthcaepnclhgkmaaDoorRows
import Derived.Test.YthcaepnclhgkmaaDoorAbsGlob
set_option linter.unusedSimpArgs false
namespace Go.Proofs.YthcaepnclhgkmaaDoor
open Go Go.Abs Go.RowKit
set_option linter.unusedVariables false

def polMut : Nat → List Nat := fun f => match f with  | _ => []
def polGrow : Nat → List Nat := fun f => match f with | 7 => [2] | 10 => [3] | 11 => [3] | 16 => [7] | 17 => [5] | 21 => [7, 8] | _ => []
def polInl (g : Nat) : Bool := g == 53 || false
def polSite (f t : Nat) : Bool := (f == 8 && t == 32) || (f == 8 && t == 34) || (f == 6 && t == 88)
def polFrz : List (Nat × Nat) := [(8, 64), (8, 92)]
def polLive : Nat → Nat → Option (List Nat) := fun f b => match f, b with
  | 3, 0 => some [67, 68]
  | 4, 0 => some [2, 7, 32, 33]
  | 4, 2 => some [2, 7, 10, 32, 33, 37, 38]
  | 5, 0 => some [7, 8, 9, 93, 94, 95]
  | 5, 2 => some [7, 8, 9, 12, 13, 14, 15, 16, 93, 94, 95, 116, 117, 118]
  | 7, 0 => some [1, 2, 74]
  | 7, 2 => some [1, 5, 7, 9, 10, 11, 12, 111, 112]
  | 8, 0 => some [1, 16, 18, 64, 65]
  | 8, 2 => some [92, 93]
  | 10, 0 => some [0, 3, 4]
  | 11, 0 => some [0, 3, 4, 5]
  | 12, 0 => some [1, 2, 6, 10, 55, 56, 57]
  | 13, 0 => some [0, 3]
  | 14, 0 => some [0, 3]
  | 15, 0 => some [0, 1, 2, 6, 7]
  | 15, 2 => some [0, 1, 2, 6, 9]
  | 16, 0 => some [1, 7, 8, 25, 26, 27]
  | 17, 0 => some [0, 1, 5, 6]
  | 18, 0 => some [0, 1, 12, 13]
  | 19, 0 => some [4, 29, 30]
  | 21, 0 => some [1, 13, 14, 15]
  | 21, 2 => some [1, 6, 7, 8, 13, 14, 15, 19, 20, 21]
  | 21, 4 => some [1, 6, 8, 13, 14, 15, 56, 57, 58]
  | 26, 0 => some [3, 9, 10, 11]
  | 29, 0 => some [3, 9, 10, 11]
  | 30, 0 => some [0, 4, 5, 6, 13, 14, 15]
  | 30, 2 => some [0, 4, 5, 6, 7, 8, 13, 14, 15, 20, 21]
  | 31, 0 => some [0, 2, 6, 9, 10, 11]
  | 32, 0 => some [1, 2, 7, 8, 10, 11]
  | 33, 0 => some [0, 1, 4, 6]
  | 34, 0 => some [0, 1, 2, 3, 4, 11]
  | 53, 0 => some [0, 1, 4]
  | 54, 0 => some [0, 1, 3, 4, 10, 11, 12, 13, 14, 15, 16]
  | 54, 2 => some [0, 1, 3, 4, 10, 11, 12, 13, 17]
  | _, _ => none
def polCrit : Nat → Nat → List (Nat × Nat) := fun f r => match f, r with
  | 3, 3 => [(7, 10)]
  | 3, 4 => [(1, 4)]
  | 4, 3 => [(2, 10)]
  | 6, 3 => [(1, 4)]
  | 6, 8 => [(3, 11), (3, 17), (8, 17), (11, 17), (13, 17)]
  | 6, 10 => [(0, 3), (0, 9), (6, 9)]
  | 6, 12 => [(3, 9), (3, 14), (7, 14), (9, 14), (10, 14)]
  | 6, 13 => [(3, 11), (3, 16), (8, 16), (11, 16), (12, 16)]
  | 11, 7 => [(4, 16), (11, 16)]
  | 16, 14 => [(2, 4)]
  | 20, 4 => [(4, 8), (4, 13), (9, 13)]
  | 31, 4 => [(8, 10)]
  | 37, 2 => [(3, 12), (6, 12)]
  | 37, 5 => [(2, 7)]
  | 40, 1 => [(4, 6), (4, 8), (5, 8), (6, 8), (7, 8)]
  | 40, 3 => [(4, 6), (6, 9)]
  | 40, 5 => [(4, 6), (6, 7)]
  | 43, 1 => [(4, 11), (6, 11), (7, 11)]
  | 44, 1 => [(4, 10), (8, 10)]
  | 45, 1 => [(4, 10), (8, 10)]
  | 46, 1 => [(4, 10), (8, 10)]
  | 47, 1 => [(5, 12), (6, 12), (10, 12), (12, 16), (12, 20), (12, 22), (12, 23)]
  | 48, 1 => [(5, 12), (6, 12), (10, 12), (12, 16), (12, 20), (12, 22), (12, 23)]
  | 49, 4 => [(7, 9)]
  | _, _ => []
def globT : Nat → Option T := fun g => match g with
  | 2 => some (.ip [.sc (.int .u8 0), .sc (.int .u8 1), .sc (.int .u8 28), .sc (.int .u8 2), .sc (.int .u8 29), .sc (.int .u8 14), .sc (.int .u8 24), .sc (.int .u8 3), .sc (.int .u8 30), .sc (.int .u8 22), .sc (.int .u8 20), .sc (.int .u8 15), .sc (.int .u8 25), .sc (.int .u8 17), .sc (.int .u8 4), .sc (.int .u8 8), .sc (.int .u8 31), .sc (.int .u8 27), .sc (.int .u8 13), .sc (.int .u8 23), .sc (.int .u8 21), .sc (.int .u8 19), .sc (.int .u8 16), .sc (.int .u8 7), .sc (.int .u8 26), .sc (.int .u8 12), .sc (.int .u8 18), .sc (.int .u8 6), .sc (.int .u8 11), .sc (.int .u8 5), .sc (.int .u8 10), .sc (.int .u8 9)])
  | 3 => some (.ip [.sc (.int .u8 0), .sc (.int .u8 1), .sc (.int .u8 56), .sc (.int .u8 2), .sc (.int .u8 57), .sc (.int .u8 49), .sc (.int .u8 28), .sc (.int .u8 3), .sc (.int .u8 61), .sc (.int .u8 58), .sc (.int .u8 42), .sc (.int .u8 50), .sc (.int .u8 38), .sc (.int .u8 29), .sc (.int .u8 17), .sc (.int .u8 4), .sc (.int .u8 62), .sc (.int .u8 47), .sc (.int .u8 59), .sc (.int .u8 36), .sc (.int .u8 45), .sc (.int .u8 43), .sc (.int .u8 51), .sc (.int .u8 22), .sc (.int .u8 53), .sc (.int .u8 39), .sc (.int .u8 33), .sc (.int .u8 30), .sc (.int .u8 24), .sc (.int .u8 18), .sc (.int .u8 12), .sc (.int .u8 5), .sc (.int .u8 63), .sc (.int .u8 55), .sc (.int .u8 48), .sc (.int .u8 27), .sc (.int .u8 60), .sc (.int .u8 41), .sc (.int .u8 37), .sc (.int .u8 16), .sc (.int .u8 46), .sc (.int .u8 35), .sc (.int .u8 44), .sc (.int .u8 21), .sc (.int .u8 52), .sc (.int .u8 32), .sc (.int .u8 23), .sc (.int .u8 11), .sc (.int .u8 54), .sc (.int .u8 26), .sc (.int .u8 40), .sc (.int .u8 15), .sc (.int .u8 34), .sc (.int .u8 20), .sc (.int .u8 31), .sc (.int .u8 10), .sc (.int .u8 25), .sc (.int .u8 14), .sc (.int .u8 19), .sc (.int .u8 9), .sc (.int .u8 13), .sc (.int .u8 8), .sc (.int .u8 7), .sc (.int .u8 6)])
  | 1 => some (.ip [.sc (.int .u64 1), .sc (.int .u64 10), .sc (.int .u64 100), .sc (.int .u64 1000), .sc (.int .u64 10000), .sc (.int .u64 100000), .sc (.int .u64 1000000), .sc (.int .u64 10000000), .sc (.int .u64 100000000), .sc (.int .u64 1000000000), .sc (.int .u64 10000000000), .sc (.int .u64 100000000000), .sc (.int .u64 1000000000000), .sc (.int .u64 10000000000000), .sc (.int .u64 100000000000000), .sc (.int .u64 1000000000000000), .sc (.int .u64 10000000000000000), .sc (.int .u64 100000000000000000), .sc (.int .u64 1000000000000000000), .sc (.int .u64 10000000000000000000)])
  | 0 => some (.ip [.sc (.string ⟨#[111, 107]⟩), .sc (.string ⟨#[117, 110, 107, 110, 111, 119, 110]⟩), .sc (.string ⟨#[97, 103, 97, 105, 110]⟩), .sc (.string ⟨#[117, 110, 115, 101, 110, 116]⟩), .sc (.string ⟨#[116, 119, 105, 99, 101]⟩), .sc (.string ⟨#[101, 97, 114, 108, 121]⟩), .sc (.string ⟨#[108, 97, 116, 101]⟩), .sc (.string ⟨#[111, 114, 100, 101, 114]⟩), .sc (.string ⟨#[108, 111, 115, 116]⟩)])
  | _ => none
def polPrim (f : Nat) : Bool := f == 27 || f == 28 || false
def pol0 : Pol := { isMut := fun f t => (polMut f).contains t, grow := fun f t => (polGrow f).contains t, inl := fun f g d => polInl f || polSite g d, frz := fun g d => polFrz.contains (g, d), live := polLive, crit := polCrit, glob := globT }
def pol : Pol := { pol0 with prim := polPrim }

def progOkB (P : Program) (pol : Pol) : Bool := (List.range P.funcs.size).all fun f => match P.funcs[f]? with
  | some fn => match fn.body with
    | some c => codeOk pol regionOk f c && fn.name != "runtime.NumGoroutine"
    | none => true
  | none => true

theorem progOk_of {P : Program} {pol : Pol} (h : progOkB P pol = true) : ProgOk P pol regionOk := by
  refine ⟨fun f fn c hf hc => ?_⟩
  have hlt : f < P.funcs.size := (Array.getElem?_eq_some_iff.1 hf).1
  have := List.all_eq_true.1 h f (by simp [hlt])
  simp only [hf, hc, Bool.and_eq_true, bne_iff_ne] at this
  exact this

theorem pol_inl (g f t : Nat) (h1 : polInl g = false) (h2 : polSite f t = false) : pol.inl g f t = false := by show (polInl g || polSite f t) = false; rw [h1, h2]; rfl
theorem pol_inlT (g f t : Nat) (h1 : polInl g = true) : pol.inl g f t = true := by show (polInl g || polSite f t) = true; rw [h1]; rfl
theorem pol_inlS (g f t : Nat) (h1 : polSite f t = true) : pol.inl g f t = true := by show (polInl g || polSite f t) = true; rw [h1]; cases polInl g <;> rfl

theorem pol_prim (g : Nat) (h : polPrim g = false) : pol.prim g = false := h
theorem pol_primT (g : Nat) (h : polPrim g = true) : pol.prim g = true := h
theorem sound0 : Sound Tryd.prog pol0 := ⟨by kernel_rfl, progOk_of (by kernel_rfl), prim_no (fun _ => rfl)⟩
theorem prim27 (a : Option Addr) (cap : Nat) : ∃ r, ans Tryd.prog pol0 27 [.sc (.slice a 0 cap)] = some r ∧ (r = .sc (.slice none 0 0) ∨ ∃ c k, r = .sl c k []) := by
  cases a with
  | none => cases cap with
    | zero => exact ⟨.sc (.slice none 0 0), ans_of_run (n := 10) 3 (by kernel_rfl), .inl rfl⟩
    | succ cap => exact ⟨.sc (.slice none 0 0), ans_of_run (n := 10) 3 (by kernel_rfl), .inl rfl⟩
  | some a => exact ⟨.sl true 4 [], ans_of_run (n := 10) 3 (by kernel_rfl), .inr ⟨true, _, rfl⟩⟩
theorem prim28 (a : Option Addr) (cap : Nat) : ∃ r, ans Tryd.prog pol0 28 [.sc (.slice a 0 cap)] = some r ∧ (r = .sc (.slice none 0 0) ∨ ∃ c k, r = .sl c k []) := by
  cases a with
  | none => cases cap with
    | zero => exact ⟨.sc (.slice none 0 0), ans_of_run (n := 10) 3 (by kernel_rfl), .inl rfl⟩
    | succ cap => exact ⟨.sc (.slice none 0 0), ans_of_run (n := 10) 3 (by kernel_rfl), .inl rfl⟩
  | some a => exact ⟨.sl true 4 [], ans_of_run (n := 10) 3 (by kernel_rfl), .inr ⟨true, _, rfl⟩⟩
theorem sound : Sound Tryd.prog pol := ⟨sound0.mix, progOk_of (by kernel_rfl), prim_of sound0 rfl (fun f hf a cap => by
  simp only [pol, polPrim, Bool.or_eq_true, beq_iff_eq, Bool.false_eq_true, or_false] at hf
  rcases hf with rfl | rfl
  · exact prim27 a cap
  · exact prim28 a cap)⟩
theorem laidOut : laidOutB Tryd.prog = true := by kernel_rfl
theorem own : ownKnob Tryd.prog.godebug = none := by kernel_rfl

def lds2 : List (DataW Unit) := [.lit (.int .u8 0), .lit (.int .u8 1), .lit (.int .u8 28), .lit (.int .u8 2), .lit (.int .u8 29), .lit (.int .u8 14), .lit (.int .u8 24), .lit (.int .u8 3), .lit (.int .u8 30), .lit (.int .u8 22), .lit (.int .u8 20), .lit (.int .u8 15), .lit (.int .u8 25), .lit (.int .u8 17), .lit (.int .u8 4), .lit (.int .u8 8), .lit (.int .u8 31), .lit (.int .u8 27), .lit (.int .u8 13), .lit (.int .u8 23), .lit (.int .u8 21), .lit (.int .u8 19), .lit (.int .u8 16), .lit (.int .u8 7), .lit (.int .u8 26), .lit (.int .u8 12), .lit (.int .u8 18), .lit (.int .u8 6), .lit (.int .u8 11), .lit (.int .u8 5), .lit (.int .u8 10), .lit (.int .u8 9)]
def lds3 : List (DataW Unit) := [.lit (.int .u8 0), .lit (.int .u8 1), .lit (.int .u8 56), .lit (.int .u8 2), .lit (.int .u8 57), .lit (.int .u8 49), .lit (.int .u8 28), .lit (.int .u8 3), .lit (.int .u8 61), .lit (.int .u8 58), .lit (.int .u8 42), .lit (.int .u8 50), .lit (.int .u8 38), .lit (.int .u8 29), .lit (.int .u8 17), .lit (.int .u8 4), .lit (.int .u8 62), .lit (.int .u8 47), .lit (.int .u8 59), .lit (.int .u8 36), .lit (.int .u8 45), .lit (.int .u8 43), .lit (.int .u8 51), .lit (.int .u8 22), .lit (.int .u8 53), .lit (.int .u8 39), .lit (.int .u8 33), .lit (.int .u8 30), .lit (.int .u8 24), .lit (.int .u8 18), .lit (.int .u8 12), .lit (.int .u8 5), .lit (.int .u8 63), .lit (.int .u8 55), .lit (.int .u8 48), .lit (.int .u8 27), .lit (.int .u8 60), .lit (.int .u8 41), .lit (.int .u8 37), .lit (.int .u8 16), .lit (.int .u8 46), .lit (.int .u8 35), .lit (.int .u8 44), .lit (.int .u8 21), .lit (.int .u8 52), .lit (.int .u8 32), .lit (.int .u8 23), .lit (.int .u8 11), .lit (.int .u8 54), .lit (.int .u8 26), .lit (.int .u8 40), .lit (.int .u8 15), .lit (.int .u8 34), .lit (.int .u8 20), .lit (.int .u8 31), .lit (.int .u8 10), .lit (.int .u8 25), .lit (.int .u8 14), .lit (.int .u8 19), .lit (.int .u8 9), .lit (.int .u8 13), .lit (.int .u8 8), .lit (.int .u8 7), .lit (.int .u8 6)]
def lds1 : List (DataW Unit) := [.lit (.int .u64 1), .lit (.int .u64 10), .lit (.int .u64 100), .lit (.int .u64 1000), .lit (.int .u64 10000), .lit (.int .u64 100000), .lit (.int .u64 1000000), .lit (.int .u64 10000000), .lit (.int .u64 100000000), .lit (.int .u64 1000000000), .lit (.int .u64 10000000000), .lit (.int .u64 100000000000), .lit (.int .u64 1000000000000), .lit (.int .u64 10000000000000), .lit (.int .u64 100000000000000), .lit (.int .u64 1000000000000000), .lit (.int .u64 10000000000000000), .lit (.int .u64 100000000000000000), .lit (.int .u64 1000000000000000000), .lit (.int .u64 10000000000000000000)]
def lds0 : List (DataW Unit) := [.lit (.string [111, 107]), .lit (.string [117, 110, 107, 110, 111, 119, 110]), .lit (.string [97, 103, 97, 105, 110]), .lit (.string [117, 110, 115, 101, 110, 116]), .lit (.string [116, 119, 105, 99, 101]), .lit (.string [101, 97, 114, 108, 121]), .lit (.string [108, 97, 116, 101]), .lit (.string [111, 114, 100, 101, 114]), .lit (.string [108, 111, 115, 116])]
def laidL : List (String × DataW Unit) := [("math/bits.deBruijn32tab", Rows.laid_math_bits_deBruijn32tab), ("math/bits.deBruijn64tab", Rows.laid_math_bits_deBruijn64tab), ("internal/strconv.uint64pow10", Rows.laid_internal_strconv_uint64pow10), ("isochron/audit.words", Rows.laid_isochron_audit_words)]
theorem globs_laid : ∀ g x, pol.glob g = some x → LaidArr Tryd.prog laidL g x := by
  intro g x h
  have h : globT g = some x := h
  unfold globT at h
  split at h
  · cases h
    exact ⟨ "math/bits.deBruijn32tab", 122, 32, 5, lds2, _, List.mem_of_getElem? (show laidL[0]? = some ("math/bits.deBruijn32tab", .agg lds2) from rfl), by kernel_rfl, by kernel_rfl, by kernel_rfl, by kernel_rfl, by kernel_rfl, (show mapO litCell lds2 = some _ by kernel_rfl), rfl⟩
  · cases h
    exact ⟨ "math/bits.deBruijn64tab", 123, 64, 5, lds3, _, List.mem_of_getElem? (show laidL[1]? = some ("math/bits.deBruijn64tab", .agg lds3) from rfl), by kernel_rfl, by kernel_rfl, by kernel_rfl, by kernel_rfl, by kernel_rfl, (show mapO litCell lds3 = some _ by kernel_rfl), rfl⟩
  · cases h
    exact ⟨ "internal/strconv.uint64pow10", 115, 20, 108, lds1, _, List.mem_of_getElem? (show laidL[2]? = some ("internal/strconv.uint64pow10", .agg lds1) from rfl), by kernel_rfl, by kernel_rfl, by kernel_rfl, by kernel_rfl, by kernel_rfl, (show mapO litCell lds1 = some _ by kernel_rfl), rfl⟩
  · cases h
    exact ⟨ "isochron/audit.words", 92, 9, 9, lds0, _, List.mem_of_getElem? (show laidL[3]? = some ("isochron/audit.words", .agg lds0) from rfl), by kernel_rfl, by kernel_rfl, by kernel_rfl, by kernel_rfl, by kernel_rfl, (show mapO litCell lds0 = some _ by kernel_rfl), rfl⟩
  · cases h
theorem glob_ok {W : World} (h : laidMetH Tryd.prog laidL W) : GlobOk pol (lowD W) W := glob_of_laid (by kernel_rfl) h globs_laid
theorem door_met (os : Os) (args : Array Value) : laidMetH Tryd.prog laidL ((World.doorLaid Tryd.prog 4000 os).forCall (fun _ _ => 0) ⟨#[], args, []⟩).memory :=
  laidMetH_of_parts3 (fuel := 8) (laidMet_of_run' 8 (by kernel_rfl) (by kernel_rfl)) (by kernel_rfl) (by kernel_rfl)
end Go.Proofs.YthcaepnclhgkmaaDoor
