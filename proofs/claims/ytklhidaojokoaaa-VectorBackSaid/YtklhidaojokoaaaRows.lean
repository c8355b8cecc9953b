/-
  No cell of these rows narrows 'for every input' (looked for: loops, veiled, ifaces, maps, wideKeys, modest, calm, conditions, laid).
  DERIVED. THE GIVEN ROWS OF THIS SEAT. 8 by the template 'for every input the law returns true; each argument reads behind the call as it read before'; 0 by the template 'total and deterministic' (their statements: YtklhidaojokoaaaTotals.lean).
  GIVEN WITH THE SEED: the statements are not yours to turn. If you find one false, say at which input.
  Laid BY PROGRAM, IN A SANDBOX (cutbox-rows.mjs): the forced cells as the released guide's own fill.sh prints them over the translation db22328fa8e318d3… (all of the seat's roots in one cut). By AI agents, Wed Nov 11 2026. No macro, syntax, notation, axiom, sorry.
-/
import Derived.Test.YtklhidaojokoaaaChecked
import GoSem.Claim
import GoSem.ClaimJoined
import GoSem.ClaimMapViews
import Derived.JoinedTies
import Derived.KernelRfl
namespace Go.Proofs.Ytklhidaojokoaaa
/- THE CELL 'sum', in the pinned program and in every row, IS THE sha256 OF THE DUMP (.gsa) THAT YtklhidaojokoaaaProg.lean LOADS. Nothing in Lean hashes anything: it is a label: what it is worth is what the hold of that sum in a sandbox is worth. -/
noncomputable def Try.pinned : Pinned := { name := "ytklhidaojokoaaa", sum := "db22328fa8e318d341574819f9022433f541e1203f3aea298b35dbeb6104a5a5", checked := Try.checked }
namespace Rows
def none {H : Type} : Left H := { results := [], args := [] }

/-- 'isochronlaw18.VectorChecks': WHATEVER THE INPUT: true; the input reads as it did. -/
def vectorChecksSpec : ChangeSpec := { name := "vectorChecks", fn := fun _ => fun
  | [d1, d2, d3] => { results := [.lit (.bool true)], args := [d1, d2, d3] }
  | _ => none }
def vectorChecksRow : OpenClaim := { program := "ytklhidaojokoaaa", sum := "db22328fa8e318d341574819f9022433f541e1203f3aea298b35dbeb6104a5a5", func := "isochron/isochronlaw18.VectorChecks", spec := "vectorChecks", unfollowed := true, recurses := true, apart := false }
def VectorChecksSaid : Prop := vectorChecksRow.holds Try.pinned (OpenSpec.ofChange vectorChecksSpec)

/-- ITS FALSE NEIGHBOUR: 'it returns false'. Refute it at one input. -/
def vectorChecksWrong : ChangeSpec := { name := "vectorChecks", fn := fun _ => fun
  | [d1, d2, d3] => { results := [.lit (.bool false)], args := [d1, d2, d3] }
  | _ => none }
def VectorChecksWrongFalsely : Prop := vectorChecksRow.holds Try.pinned (OpenSpec.ofChange vectorChecksWrong)

/-- 'isochronlaw18.VectorExtends': WHATEVER THE INPUT: true; the input reads as it did. -/
def vectorExtendsSpec : ChangeSpec := { name := "vectorExtends", fn := fun _ => fun
  | [d1, d2, d3, d4] => { results := [.lit (.bool true)], args := [d1, d2, d3, d4] }
  | _ => none }
def vectorExtendsRow : OpenClaim := { program := "ytklhidaojokoaaa", sum := "db22328fa8e318d341574819f9022433f541e1203f3aea298b35dbeb6104a5a5", func := "isochron/isochronlaw18.VectorExtends", spec := "vectorExtends", unfollowed := true, recurses := true, apart := false }
def VectorExtendsSaid : Prop := vectorExtendsRow.holds Try.pinned (OpenSpec.ofChange vectorExtendsSpec)

/-- ITS FALSE NEIGHBOUR: 'it returns false'. Refute it at one input. -/
def vectorExtendsWrong : ChangeSpec := { name := "vectorExtends", fn := fun _ => fun
  | [d1, d2, d3, d4] => { results := [.lit (.bool false)], args := [d1, d2, d3, d4] }
  | _ => none }
def VectorExtendsWrongFalsely : Prop := vectorExtendsRow.holds Try.pinned (OpenSpec.ofChange vectorExtendsWrong)

/-- 'isochronlaw18.VectorCodes': WHATEVER THE INPUT: true; the input reads as it did. -/
def vectorCodesSpec : ChangeSpec := { name := "vectorCodes", fn := fun _ => fun
  | [d1, d2] => { results := [.lit (.bool true)], args := [d1, d2] }
  | _ => none }
def vectorCodesRow : OpenClaim := { program := "ytklhidaojokoaaa", sum := "db22328fa8e318d341574819f9022433f541e1203f3aea298b35dbeb6104a5a5", func := "isochron/isochronlaw18.VectorCodes", spec := "vectorCodes", unfollowed := true, recurses := true, apart := false }
def VectorCodesSaid : Prop := vectorCodesRow.holds Try.pinned (OpenSpec.ofChange vectorCodesSpec)

/-- ITS FALSE NEIGHBOUR: 'it returns false'. Refute it at one input. -/
def vectorCodesWrong : ChangeSpec := { name := "vectorCodes", fn := fun _ => fun
  | [d1, d2] => { results := [.lit (.bool false)], args := [d1, d2] }
  | _ => none }
def VectorCodesWrongFalsely : Prop := vectorCodesRow.holds Try.pinned (OpenSpec.ofChange vectorCodesWrong)

/-- 'isochronlaw18.VectorOrders': WHATEVER THE INPUT: true; the input reads as it did. -/
def vectorOrdersSpec : ChangeSpec := { name := "vectorOrders", fn := fun _ => fun
  | [d1, d2, d3] => { results := [.lit (.bool true)], args := [d1, d2, d3] }
  | _ => none }
def vectorOrdersRow : OpenClaim := { program := "ytklhidaojokoaaa", sum := "db22328fa8e318d341574819f9022433f541e1203f3aea298b35dbeb6104a5a5", func := "isochron/isochronlaw18.VectorOrders", spec := "vectorOrders", unfollowed := true, recurses := true, apart := false }
def VectorOrdersSaid : Prop := vectorOrdersRow.holds Try.pinned (OpenSpec.ofChange vectorOrdersSpec)

/-- ITS FALSE NEIGHBOUR: 'it returns false'. Refute it at one input. -/
def vectorOrdersWrong : ChangeSpec := { name := "vectorOrders", fn := fun _ => fun
  | [d1, d2, d3] => { results := [.lit (.bool false)], args := [d1, d2, d3] }
  | _ => none }
def VectorOrdersWrongFalsely : Prop := vectorOrdersRow.holds Try.pinned (OpenSpec.ofChange vectorOrdersWrong)

/-- 'isochronlaw18.VectorGrows': WHATEVER THE INPUT: true; the input reads as it did. -/
def vectorGrowsSpec : ChangeSpec := { name := "vectorGrows", fn := fun _ => fun
  | [d1, d2, d3, d4, d5] => { results := [.lit (.bool true)], args := [d1, d2, d3, d4, d5] }
  | _ => none }
def vectorGrowsRow : OpenClaim := { program := "ytklhidaojokoaaa", sum := "db22328fa8e318d341574819f9022433f541e1203f3aea298b35dbeb6104a5a5", func := "isochron/isochronlaw18.VectorGrows", spec := "vectorGrows", unfollowed := true, recurses := true, apart := false }
def VectorGrowsSaid : Prop := vectorGrowsRow.holds Try.pinned (OpenSpec.ofChange vectorGrowsSpec)

/-- ITS FALSE NEIGHBOUR: 'it returns false'. Refute it at one input. -/
def vectorGrowsWrong : ChangeSpec := { name := "vectorGrows", fn := fun _ => fun
  | [d1, d2, d3, d4, d5] => { results := [.lit (.bool false)], args := [d1, d2, d3, d4, d5] }
  | _ => none }
def VectorGrowsWrongFalsely : Prop := vectorGrowsRow.holds Try.pinned (OpenSpec.ofChange vectorGrowsWrong)

/-- 'isochronlaw18.VectorBack': WHATEVER THE INPUT: true; the input reads as it did. -/
def vectorBackSpec : ChangeSpec := { name := "vectorBack", fn := fun _ => fun
  | [d1, d2, d3, d4] => { results := [.lit (.bool true)], args := [d1, d2, d3, d4] }
  | _ => none }
def vectorBackRow : OpenClaim := { program := "ytklhidaojokoaaa", sum := "db22328fa8e318d341574819f9022433f541e1203f3aea298b35dbeb6104a5a5", func := "isochron/isochronlaw18.VectorBack", spec := "vectorBack", unfollowed := true, recurses := true, apart := false }
def VectorBackSaid : Prop := vectorBackRow.holds Try.pinned (OpenSpec.ofChange vectorBackSpec)

/-- ITS FALSE NEIGHBOUR: 'it returns false'. Refute it at one input. -/
def vectorBackWrong : ChangeSpec := { name := "vectorBack", fn := fun _ => fun
  | [d1, d2, d3, d4] => { results := [.lit (.bool false)], args := [d1, d2, d3, d4] }
  | _ => none }
def VectorBackWrongFalsely : Prop := vectorBackRow.holds Try.pinned (OpenSpec.ofChange vectorBackWrong)

/-- 'isochronlaw18.VectorBests': WHATEVER THE INPUT: true; the input reads as it did. -/
def vectorBestsSpec : ChangeSpec := { name := "vectorBests", fn := fun _ => fun
  | [d] => { results := [.lit (.bool true)], args := [d] }
  | _ => none }
def vectorBestsRow : OpenClaim := { program := "ytklhidaojokoaaa", sum := "db22328fa8e318d341574819f9022433f541e1203f3aea298b35dbeb6104a5a5", func := "isochron/isochronlaw18.VectorBests", spec := "vectorBests", unfollowed := true, recurses := true, apart := false }
def VectorBestsSaid : Prop := vectorBestsRow.holds Try.pinned (OpenSpec.ofChange vectorBestsSpec)

/-- ITS FALSE NEIGHBOUR: 'it returns false'. Refute it at one input. -/
def vectorBestsWrong : ChangeSpec := { name := "vectorBests", fn := fun _ => fun
  | [d] => { results := [.lit (.bool false)], args := [d] }
  | _ => none }
def VectorBestsWrongFalsely : Prop := vectorBestsRow.holds Try.pinned (OpenSpec.ofChange vectorBestsWrong)

/-- 'isochronlaw18.VectorKnown': WHATEVER THE INPUT: true; the input reads as it did. -/
def vectorKnownSpec : ChangeSpec := { name := "vectorKnown", fn := fun _ => fun
  | [] => { results := [.lit (.bool true)], args := [] }
  | _ => none }
def vectorKnownRow : OpenClaim := { program := "ytklhidaojokoaaa", sum := "db22328fa8e318d341574819f9022433f541e1203f3aea298b35dbeb6104a5a5", func := "isochron/isochronlaw18.VectorKnown", spec := "vectorKnown", unfollowed := true, recurses := true, apart := false }
def VectorKnownSaid : Prop := vectorKnownRow.holds Try.pinned (OpenSpec.ofChange vectorKnownSpec)

/-- ITS FALSE NEIGHBOUR: 'it returns false'. Refute it at one input. -/
def vectorKnownWrong : ChangeSpec := { name := "vectorKnown", fn := fun _ => fun
  | [] => { results := [.lit (.bool false)], args := [] }
  | _ => none }
def VectorKnownWrongFalsely : Prop := vectorKnownRow.holds Try.pinned (OpenSpec.ofChange vectorKnownWrong)

/- THE SECOND FORM. 'bulk': how many values and letters a reading holds, each counted each time it is reached (what is shared counts as often as it is met; a slice's spare places count too). A statement '..UptoSaid' is the law's where the arguments, and the package variables that the reading takes, are together of bulk at most 1048576: NARROWER than '..Said'. Prove '..Said' where nothing that the law and all that it calls make is longer than what came in: it says more and counts as full. Else prove '..UptoSaid'. A law counts once. -/
mutual
def uptoBulk {H : Type} : DataW H → Nat
  | .lit (.string bytes) => bytes.length + 1
  | .lit _ => 1
  | .nil => 1
  | .ptr d => uptoBulk d + 1
  | .slice elems spare => uptoBulkAll elems + uptoBulkAll spare + 1
  | .agg parts => uptoBulkAll parts + 1
  | .iface _ d => uptoBulk d + 1
  | .map entries => uptoBulkEntries entries + 1
  | .held _ => 1
def uptoBulkAll {H : Type} : List (DataW H) → Nat
  | [] => 0
  | d :: r => uptoBulk d + uptoBulkAll r
def uptoBulkEntries {H : Type} : List (Lit × DataW H) → Nat
  | [] => 0
  | x :: r => uptoBulkEntry x + uptoBulkEntries r
def uptoBulkEntry {H : Type} : Lit × DataW H → Nat
  | (.string bytes, d) => bytes.length + uptoBulk d + 1
  | (_, d) => uptoBulk d + 1
 end
def uptoSmall : (H : Type) → List (DataW H) → Bool := fun _ ds => decide (uptoBulkAll ds ≤ 1048576)
def OpenSpec.upto (s : _root_.Go.ChangeSpec) : _root_.Go.OpenSpec := { _root_.Go.OpenSpec.ofChange s with cond := some uptoSmall }

/-- 'isochronlaw18.VectorChecks', WHERE WHAT IT READS IS OF BULK AT MOST 1048576: true; the input reads as it did. -/
def vectorChecksUptoRow : OpenClaim := { program := "ytklhidaojokoaaa", sum := "db22328fa8e318d341574819f9022433f541e1203f3aea298b35dbeb6104a5a5", func := "isochron/isochronlaw18.VectorChecks", spec := "vectorChecks", unfollowed := true, recurses := true, apart := false, narrowed := true }
def VectorChecksUptoSaid : Prop := vectorChecksUptoRow.holds Try.pinned (OpenSpec.upto vectorChecksSpec)

/-- 'isochronlaw18.VectorExtends', WHERE WHAT IT READS IS OF BULK AT MOST 1048576: true; the input reads as it did. -/
def vectorExtendsUptoRow : OpenClaim := { program := "ytklhidaojokoaaa", sum := "db22328fa8e318d341574819f9022433f541e1203f3aea298b35dbeb6104a5a5", func := "isochron/isochronlaw18.VectorExtends", spec := "vectorExtends", unfollowed := true, recurses := true, apart := false, narrowed := true }
def VectorExtendsUptoSaid : Prop := vectorExtendsUptoRow.holds Try.pinned (OpenSpec.upto vectorExtendsSpec)

/-- 'isochronlaw18.VectorCodes', WHERE WHAT IT READS IS OF BULK AT MOST 1048576: true; the input reads as it did. -/
def vectorCodesUptoRow : OpenClaim := { program := "ytklhidaojokoaaa", sum := "db22328fa8e318d341574819f9022433f541e1203f3aea298b35dbeb6104a5a5", func := "isochron/isochronlaw18.VectorCodes", spec := "vectorCodes", unfollowed := true, recurses := true, apart := false, narrowed := true }
def VectorCodesUptoSaid : Prop := vectorCodesUptoRow.holds Try.pinned (OpenSpec.upto vectorCodesSpec)

/-- 'isochronlaw18.VectorOrders', WHERE WHAT IT READS IS OF BULK AT MOST 1048576: true; the input reads as it did. -/
def vectorOrdersUptoRow : OpenClaim := { program := "ytklhidaojokoaaa", sum := "db22328fa8e318d341574819f9022433f541e1203f3aea298b35dbeb6104a5a5", func := "isochron/isochronlaw18.VectorOrders", spec := "vectorOrders", unfollowed := true, recurses := true, apart := false, narrowed := true }
def VectorOrdersUptoSaid : Prop := vectorOrdersUptoRow.holds Try.pinned (OpenSpec.upto vectorOrdersSpec)

/-- 'isochronlaw18.VectorGrows', WHERE WHAT IT READS IS OF BULK AT MOST 1048576: true; the input reads as it did. -/
def vectorGrowsUptoRow : OpenClaim := { program := "ytklhidaojokoaaa", sum := "db22328fa8e318d341574819f9022433f541e1203f3aea298b35dbeb6104a5a5", func := "isochron/isochronlaw18.VectorGrows", spec := "vectorGrows", unfollowed := true, recurses := true, apart := false, narrowed := true }
def VectorGrowsUptoSaid : Prop := vectorGrowsUptoRow.holds Try.pinned (OpenSpec.upto vectorGrowsSpec)

/-- 'isochronlaw18.VectorBack', WHERE WHAT IT READS IS OF BULK AT MOST 1048576: true; the input reads as it did. -/
def vectorBackUptoRow : OpenClaim := { program := "ytklhidaojokoaaa", sum := "db22328fa8e318d341574819f9022433f541e1203f3aea298b35dbeb6104a5a5", func := "isochron/isochronlaw18.VectorBack", spec := "vectorBack", unfollowed := true, recurses := true, apart := false, narrowed := true }
def VectorBackUptoSaid : Prop := vectorBackUptoRow.holds Try.pinned (OpenSpec.upto vectorBackSpec)

/-- 'isochronlaw18.VectorBests', WHERE WHAT IT READS IS OF BULK AT MOST 1048576: true; the input reads as it did. -/
def vectorBestsUptoRow : OpenClaim := { program := "ytklhidaojokoaaa", sum := "db22328fa8e318d341574819f9022433f541e1203f3aea298b35dbeb6104a5a5", func := "isochron/isochronlaw18.VectorBests", spec := "vectorBests", unfollowed := true, recurses := true, apart := false, narrowed := true }
def VectorBestsUptoSaid : Prop := vectorBestsUptoRow.holds Try.pinned (OpenSpec.upto vectorBestsSpec)

/-- 'isochronlaw18.VectorKnown', WHERE WHAT IT READS IS OF BULK AT MOST 1048576: true; the input reads as it did. -/
def vectorKnownUptoRow : OpenClaim := { program := "ytklhidaojokoaaa", sum := "db22328fa8e318d341574819f9022433f541e1203f3aea298b35dbeb6104a5a5", func := "isochron/isochronlaw18.VectorKnown", spec := "vectorKnown", unfollowed := true, recurses := true, apart := false, narrowed := true }
def VectorKnownUptoSaid : Prop := vectorKnownUptoRow.holds Try.pinned (OpenSpec.upto vectorKnownSpec)

end Rows
end Go.Proofs.Ytklhidaojokoaaa
