/- A number in decimal: the library's proved contract as one answer of the evaluator's oracle. -/
import Derived.Test.YthcaepnclhgkmaaDoorAbsGlob
import Derived.Shelf.Strconv.Itoa3
set_option linter.unusedVariables false
set_option linter.unusedSimpArgs false
namespace Go.Abs
open Go Go.RowKit

/-- The decimal digits of u, the first ahead, for a kernel that counts. -/
def decC : Nat → Nat → List UInt8
  | 0, _ => [48]
  | k + 1, u => if u < 10 then [UInt8.ofNat (48 + u)] else decC k (u / 10) ++ [UInt8.ofNat (48 + u % 10)]
theorem decC_eq : ∀ (k u : Nat), u < 10 ^ k → decC k u = Lib.decDigits u := by
  intro k
  induction k with
  | zero =>
    intro u h
    have : u = 0 := by simpa using h
    subst this
    rw [Lib.decDigits]
    rfl
  | succ k ih =>
    intro u h
    rw [decC, Lib.decDigits]
    by_cases hu : u < 10
    · rw [if_pos hu, dif_pos hu]
    · rw [if_neg hu, dif_neg hu, ih (u / 10) (by rw [Nat.pow_succ] at h; omega)]
def itoaC (n : Int) : List UInt8 := if n < 0 then 45 :: decC 25 n.natAbs else decC 25 n.toNat
theorem itoaC_eq {n : Int} (h0 : -9223372036854775808 ≤ n) (h1 : n ≤ 9223372036854775807) : itoaC n = Lib.itoa n := by
  unfold itoaC Lib.itoa
  rw [decC_eq 25 _ (by omega), decC_eq 25 _ (by omega)]
/-- The decimal text of a number. -/
def itoaT (n : Int) : T := .sc (.string ⟨(itoaC n).toArray⟩)
def tabT (l : List Int) : T := .ip (l.map fun z => .sc (.int .u64 z))

theorem tab_of {P : Program} {pol : Pol} {D : Dom} {w : World} {g : Nat} {l : List Int} {nm : String} (hgl : GlobOk pol D w) (hg : pol.glob g = some (tabT l)) (hn : P.globalNamed nm = some g) : Lib.TabIs P w nm .u64 l := by
  obtain ⟨hd, cs, ty, fr, hc, hsz⟩ := hgl.row g _ hg
  have hv : w.var? P nm = some cs := by simp [World.var?, hn, hc]
  have key : cs = (l.map fun z => Value.int IntKind.u64 z).toArray := by
    have hr := hgl.rep g _ hg
    rw [tabT] at hr
    generalize hT : (l.map fun z => T.sc (.int .u64 z)) = ts at hr hsz
    have hlen : ts.length = l.length := by rw [← hT, List.length_map]
    cases hr with
    | ip b off cs' hD c h1 h2 =>
      apply Array.ext
      · simp; omega
      · intro j hj hj2
        have hjt : j < ts.length := by omega
        obtain ⟨q1, _⟩ := h1 j hjt
        rw [Nat.zero_add, World.var?_cell hn hv j] at q1
        have hjl : j < l.length := by omega
        have htj : ts[j]? = some (.sc (.int .u64 (l[j]'hjl))) := by subst hT; simp [hjl]
        have q2 := h2 j _ htj
        obtain ⟨q3, _⟩ := q2.sc_eq
        rw [q3] at q1
        have : cs[j]? = some cs[j] := by simp
        rw [this] at q1
        simpa using q1
  show w.var? P nm = _
  rw [hv, key]

theorem itoa_sim {P : Program} {pol : Pol} {f : FuncId} {g : Nat} (hc : Callable P f) (hg : pol.glob g = some (tabT Lib.pow10Tab)) (hn : P.globalNamed "internal/strconv.uint64pow10" = some g)
    (hcalls : ∀ (n : Int), -9223372036854775808 ≤ n → n ≤ 9223372036854775807 → ∀ w : World, Lib.TabIs P w "internal/strconv.uint64pow10" .u64 Lib.pow10Tab →
      Calls P f #[.int .i64 n] w fun e w' => e = .returned (.string ⟨(Lib.itoa n).toArray⟩) ∧ ∃ k os, w' = Sort.grow (w.drewN k) os)
    {n : Int} (h0 : -9223372036854775808 ≤ n) (h1 : n ≤ 9223372036854775807) : PureSim P pol f [.sc (.int .i64 n)] (itoaT n) := by
  refine ⟨hc, fun w D args hd hgl hsz hrep => ?_⟩
  have hlt : 0 < args.size := by rw [hsz]; simp
  have hv := hrep 0 args[0] _ (by simp [hlt]) rfl
  obtain ⟨hv, _⟩ := hv.sc_eq
  have hargs : args = #[.int .i64 n] := by
    apply Array.ext
    · simpa using hsz
    · intro j hj hj2
      have : j = 0 := by simp at hj2; omega
      subst this
      simpa using hv
  subst hargs
  refine (callsIn_wide.2 (hcalls n h0 h1 w (tab_of hgl hg hn))).mono fun e w' he => ?_
  obtain ⟨rfl, k, os, rfl⟩ := he
  rw [itoaT, itoaC_eq h0 h1]
  refine ⟨_, rfl, ⟨?_, fun b hb => ?_, rfl, rfl⟩, .sc _ rfl⟩
  · show w.heap.size ≤ (w.heap ++ os).size
    simp
  · show (w.heap ++ os)[b]? = w.heap[b]?
    rw [Array.getElem?_append_left hb]

def orcItoa (f0 f : FuncId) (ts : List T) : Option T :=
  if f == f0 then match ts with
    | [.sc (.int .i64 n)] => if -9223372036854775808 ≤ n ∧ n ≤ 9223372036854775807 then some (itoaT n) else none
    | _ => none
  else none

theorem orc_itoa {P : Program} {pol : Pol} {f0 : FuncId} (ho : pol.orc = orcItoa f0) (h : ∀ n : Int, -9223372036854775808 ≤ n → n ≤ 9223372036854775807 → PureSim P pol f0 [.sc (.int .i64 n)] (itoaT n)) : KOk P pol pol.orc := by
  intro f ts r hr
  rw [ho] at hr
  unfold orcItoa at hr
  split at hr
  · rename_i hf
    have hf : f = f0 := by simpa using hf
    subst hf
    split at hr
    · split at hr
      · rename_i hn
        cases hr
        exact h _ hn.1 hn.2
      · exact (by cases hr)
    · exact (by cases hr)
  · exact (by cases hr)
end Go.Abs
