/-
  No cell of these rows narrows 'for every input' (looked for: loops, veiled, ifaces, maps, wideKeys, modest, calm, conditions, laid).
  DERIVED. THE GIVEN ROWS OF THIS SEAT. 4 by the template 'for every input the law returns true; each argument reads behind the call as it read before'; 0 by the template 'total and deterministic' (their statements: YtbibdnlbpjnieaaTotals.lean).
  GIVEN WITH THE SEED: the statements are not yours to turn. If you find one false, say at which input.
  Laid BY PROGRAM, IN A SANDBOX (cutbox-rows.mjs): the forced cells as the released guide's own fill.sh prints them over the translation fea8f23ffb9355da… (all of the seat's roots in one cut). By AI agents, Wed Nov 11 2026. No macro, syntax, notation, axiom, sorry.
-/
import Derived.Test.YtbibdnlbpjnieaaChecked
import GoSem.Claim
import GoSem.ClaimJoined
import GoSem.ClaimMapViews
import Derived.JoinedTies
import Derived.KernelRfl
namespace Go.Proofs.Ytbibdnlbpjnieaa
/- THE CELL 'sum', in the pinned program and in every row, IS THE sha256 OF THE DUMP (.gsa) THAT YtbibdnlbpjnieaaProg.lean LOADS. Nothing in Lean hashes anything: it is a label: what it is worth is what the hold of that sum in a sandbox is worth. -/
noncomputable def Try.pinned : Pinned := { name := "ytbibdnlbpjnieaa", sum := "fea8f23ffb9355da3cb40539c7345687a2142bf8031df83ab3e5cad8ef096a75", checked := Try.checked }
namespace Rows
def none {H : Type} : Left H := { results := [], args := [] }

/-- 'isochronlaw20.TreeConverges': WHATEVER THE INPUT: true; the input reads as it did. -/
def treeConvergesSpec : ChangeSpec := { name := "treeConverges", fn := fun _ => fun
  | [d1, d2, d3, d4] => { results := [.lit (.bool true)], args := [d1, d2, d3, d4] }
  | _ => none }
def treeConvergesRow : OpenClaim := { program := "ytbibdnlbpjnieaa", sum := "fea8f23ffb9355da3cb40539c7345687a2142bf8031df83ab3e5cad8ef096a75", func := "isochron/isochronlaw20.TreeConverges", spec := "treeConverges", unfollowed := true, recurses := true, apart := false }
def TreeConvergesSaid : Prop := treeConvergesRow.holds Try.pinned (OpenSpec.ofChange treeConvergesSpec)

/-- ITS FALSE NEIGHBOUR: 'it returns false'. Refute it at one input. -/
def treeConvergesWrong : ChangeSpec := { name := "treeConverges", fn := fun _ => fun
  | [d1, d2, d3, d4] => { results := [.lit (.bool false)], args := [d1, d2, d3, d4] }
  | _ => none }
def TreeConvergesWrongFalsely : Prop := treeConvergesRow.holds Try.pinned (OpenSpec.ofChange treeConvergesWrong)

/-- 'isochronlaw20.TreeRecovers': WHATEVER THE INPUT: true; the input reads as it did. -/
def treeRecoversSpec : ChangeSpec := { name := "treeRecovers", fn := fun _ => fun
  | [d1, d2, d3, d4, d5] => { results := [.lit (.bool true)], args := [d1, d2, d3, d4, d5] }
  | _ => none }
def treeRecoversRow : OpenClaim := { program := "ytbibdnlbpjnieaa", sum := "fea8f23ffb9355da3cb40539c7345687a2142bf8031df83ab3e5cad8ef096a75", func := "isochron/isochronlaw20.TreeRecovers", spec := "treeRecovers", unfollowed := true, recurses := true, apart := false }
def TreeRecoversSaid : Prop := treeRecoversRow.holds Try.pinned (OpenSpec.ofChange treeRecoversSpec)

/-- ITS FALSE NEIGHBOUR: 'it returns false'. Refute it at one input. -/
def treeRecoversWrong : ChangeSpec := { name := "treeRecovers", fn := fun _ => fun
  | [d1, d2, d3, d4, d5] => { results := [.lit (.bool false)], args := [d1, d2, d3, d4, d5] }
  | _ => none }
def TreeRecoversWrongFalsely : Prop := treeRecoversRow.holds Try.pinned (OpenSpec.ofChange treeRecoversWrong)

/-- 'isochronlaw20.TreeKnown': WHATEVER THE INPUT: true; the input reads as it did. -/
def treeKnownSpec : ChangeSpec := { name := "treeKnown", fn := fun _ => fun
  | [] => { results := [.lit (.bool true)], args := [] }
  | _ => none }
def treeKnownRow : OpenClaim := { program := "ytbibdnlbpjnieaa", sum := "fea8f23ffb9355da3cb40539c7345687a2142bf8031df83ab3e5cad8ef096a75", func := "isochron/isochronlaw20.TreeKnown", spec := "treeKnown", unfollowed := true, recurses := true, apart := false }
def TreeKnownSaid : Prop := treeKnownRow.holds Try.pinned (OpenSpec.ofChange treeKnownSpec)

/-- ITS FALSE NEIGHBOUR: 'it returns false'. Refute it at one input. -/
def treeKnownWrong : ChangeSpec := { name := "treeKnown", fn := fun _ => fun
  | [] => { results := [.lit (.bool false)], args := [] }
  | _ => none }
def TreeKnownWrongFalsely : Prop := treeKnownRow.holds Try.pinned (OpenSpec.ofChange treeKnownWrong)

/-- 'isochronlaw20.TreeShapes': WHATEVER THE INPUT: true; the input reads as it did. -/
def treeShapesSpec : ChangeSpec := { name := "treeShapes", fn := fun _ => fun
  | [d1, d2, d3] => { results := [.lit (.bool true)], args := [d1, d2, d3] }
  | _ => none }
def treeShapesRow : OpenClaim := { program := "ytbibdnlbpjnieaa", sum := "fea8f23ffb9355da3cb40539c7345687a2142bf8031df83ab3e5cad8ef096a75", func := "isochron/isochronlaw20.TreeShapes", spec := "treeShapes", unfollowed := true, recurses := true, apart := false }
def TreeShapesSaid : Prop := treeShapesRow.holds Try.pinned (OpenSpec.ofChange treeShapesSpec)

/-- ITS FALSE NEIGHBOUR: 'it returns false'. Refute it at one input. -/
def treeShapesWrong : ChangeSpec := { name := "treeShapes", fn := fun _ => fun
  | [d1, d2, d3] => { results := [.lit (.bool false)], args := [d1, d2, d3] }
  | _ => none }
def TreeShapesWrongFalsely : Prop := treeShapesRow.holds Try.pinned (OpenSpec.ofChange treeShapesWrong)

/- THE SECOND FORM. 'bulk': how many values and letters a reading holds, each counted each time it is reached (what is shared counts as often as it is met; a slice's spare places count too). A statement '..UptoSaid' is the law's where the arguments, and the package variables that the reading takes, are together of bulk at most 1048576: NARROWER than '..Said'. Prove '..Said' where nothing that the law and all that it calls make is longer than what came in: it says more and counts as full. Else prove '..UptoSaid'. A law counts once. -/
mutual
def uptoBulk {H : Type} : DataW H → Nat
  | .lit (.string bytes) => bytes.length + 1
  | .lit _ => 1
  | .nil => 1
  | .ptr d => uptoBulk d + 1
  | .slice elems spare => uptoBulkAll elems + uptoBulkAll spare + 1
  | .agg parts => uptoBulkAll parts + 1
  | .iface _ d => uptoBulk d + 1
  | .map entries => uptoBulkEntries entries + 1
  | .held _ => 1
def uptoBulkAll {H : Type} : List (DataW H) → Nat
  | [] => 0
  | d :: r => uptoBulk d + uptoBulkAll r
def uptoBulkEntries {H : Type} : List (Lit × DataW H) → Nat
  | [] => 0
  | x :: r => uptoBulkEntry x + uptoBulkEntries r
def uptoBulkEntry {H : Type} : Lit × DataW H → Nat
  | (.string bytes, d) => bytes.length + uptoBulk d + 1
  | (_, d) => uptoBulk d + 1
 end
def uptoSmall : (H : Type) → List (DataW H) → Bool := fun _ ds => decide (uptoBulkAll ds ≤ 1048576)
def OpenSpec.upto (s : _root_.Go.ChangeSpec) : _root_.Go.OpenSpec := { _root_.Go.OpenSpec.ofChange s with cond := some uptoSmall }

/-- 'isochronlaw20.TreeConverges', WHERE WHAT IT READS IS OF BULK AT MOST 1048576: true; the input reads as it did. -/
def treeConvergesUptoRow : OpenClaim := { program := "ytbibdnlbpjnieaa", sum := "fea8f23ffb9355da3cb40539c7345687a2142bf8031df83ab3e5cad8ef096a75", func := "isochron/isochronlaw20.TreeConverges", spec := "treeConverges", unfollowed := true, recurses := true, apart := false, narrowed := true }
def TreeConvergesUptoSaid : Prop := treeConvergesUptoRow.holds Try.pinned (OpenSpec.upto treeConvergesSpec)

/-- 'isochronlaw20.TreeRecovers', WHERE WHAT IT READS IS OF BULK AT MOST 1048576: true; the input reads as it did. -/
def treeRecoversUptoRow : OpenClaim := { program := "ytbibdnlbpjnieaa", sum := "fea8f23ffb9355da3cb40539c7345687a2142bf8031df83ab3e5cad8ef096a75", func := "isochron/isochronlaw20.TreeRecovers", spec := "treeRecovers", unfollowed := true, recurses := true, apart := false, narrowed := true }
def TreeRecoversUptoSaid : Prop := treeRecoversUptoRow.holds Try.pinned (OpenSpec.upto treeRecoversSpec)

/-- 'isochronlaw20.TreeKnown', WHERE WHAT IT READS IS OF BULK AT MOST 1048576: true; the input reads as it did. -/
def treeKnownUptoRow : OpenClaim := { program := "ytbibdnlbpjnieaa", sum := "fea8f23ffb9355da3cb40539c7345687a2142bf8031df83ab3e5cad8ef096a75", func := "isochron/isochronlaw20.TreeKnown", spec := "treeKnown", unfollowed := true, recurses := true, apart := false, narrowed := true }
def TreeKnownUptoSaid : Prop := treeKnownUptoRow.holds Try.pinned (OpenSpec.upto treeKnownSpec)

/-- 'isochronlaw20.TreeShapes', WHERE WHAT IT READS IS OF BULK AT MOST 1048576: true; the input reads as it did. -/
def treeShapesUptoRow : OpenClaim := { program := "ytbibdnlbpjnieaa", sum := "fea8f23ffb9355da3cb40539c7345687a2142bf8031df83ab3e5cad8ef096a75", func := "isochron/isochronlaw20.TreeShapes", spec := "treeShapes", unfollowed := true, recurses := true, apart := false, narrowed := true }
def TreeShapesUptoSaid : Prop := treeShapesUptoRow.holds Try.pinned (OpenSpec.upto treeShapesSpec)

end Rows
end Go.Proofs.Ytbibdnlbpjnieaa
