/-
  No cell of these rows narrows 'for every input' (looked for: loops, veiled, ifaces, maps, wideKeys, modest, calm, conditions, laid).
  DERIVED. THE GIVEN ROWS OF THIS SEAT. 7 by the template 'for every input the law returns true; each argument reads behind the call as it read before'; 0 by the template 'total and deterministic' (their statements: YtnjaokhdeaeegaaTotals.lean).
  GIVEN WITH THE SEED: the statements are not yours to turn. If you find one false, say at which input.
  Laid BY PROGRAM, IN A SANDBOX (cutbox-rows.mjs): the forced cells as the released guide's own fill.sh prints them over the translation e802dbed42e13922… (all of the seat's roots in one cut). By AI agents, Wed Nov 11 2026. No macro, syntax, notation, axiom, sorry.
-/
import Derived.Test.YtnjaokhdeaeegaaChecked
import GoSem.Claim
import GoSem.ClaimJoined
import GoSem.ClaimMapViews
import Derived.JoinedTies
import Derived.KernelRfl
namespace Go.Proofs.Ytnjaokhdeaeegaa
/- THE CELL 'sum', in the pinned program and in every row, IS THE sha256 OF THE DUMP (.gsa) THAT YtnjaokhdeaeegaaProg.lean LOADS. Nothing in Lean hashes anything: it is a label: what it is worth is what the hold of that sum in a sandbox is worth. -/
noncomputable def Try.pinned : Pinned := { name := "ytnjaokhdeaeegaa", sum := "e802dbed42e139222818c38793e7338b779e420b38a2dc37b66d09668f54fec7", checked := Try.checked }
namespace Rows
def none {H : Type} : Left H := { results := [], args := [] }

/-- 'isochronlaw17.PathLeasts': WHATEVER THE INPUT: true; the input reads as it did. -/
def pathLeastsSpec : ChangeSpec := { name := "pathLeasts", fn := fun _ => fun
  | [d1, d2, d3, d4, d5] => { results := [.lit (.bool true)], args := [d1, d2, d3, d4, d5] }
  | _ => none }
def pathLeastsRow : OpenClaim := { program := "ytnjaokhdeaeegaa", sum := "e802dbed42e139222818c38793e7338b779e420b38a2dc37b66d09668f54fec7", func := "isochron/isochronlaw17.PathLeasts", spec := "pathLeasts", unfollowed := true, recurses := true, apart := false }
def PathLeastsSaid : Prop := pathLeastsRow.holds Try.pinned (OpenSpec.ofChange pathLeastsSpec)

/-- ITS FALSE NEIGHBOUR: 'it returns false'. Refute it at one input. -/
def pathLeastsWrong : ChangeSpec := { name := "pathLeasts", fn := fun _ => fun
  | [d1, d2, d3, d4, d5] => { results := [.lit (.bool false)], args := [d1, d2, d3, d4, d5] }
  | _ => none }
def PathLeastsWrongFalsely : Prop := pathLeastsRow.holds Try.pinned (OpenSpec.ofChange pathLeastsWrong)

/-- 'isochronlaw17.PathPairs': WHATEVER THE INPUT: true; the input reads as it did. -/
def pathPairsSpec : ChangeSpec := { name := "pathPairs", fn := fun _ => fun
  | [d1, d2, d3] => { results := [.lit (.bool true)], args := [d1, d2, d3] }
  | _ => none }
def pathPairsRow : OpenClaim := { program := "ytnjaokhdeaeegaa", sum := "e802dbed42e139222818c38793e7338b779e420b38a2dc37b66d09668f54fec7", func := "isochron/isochronlaw17.PathPairs", spec := "pathPairs", unfollowed := true, recurses := true, apart := false }
def PathPairsSaid : Prop := pathPairsRow.holds Try.pinned (OpenSpec.ofChange pathPairsSpec)

/-- ITS FALSE NEIGHBOUR: 'it returns false'. Refute it at one input. -/
def pathPairsWrong : ChangeSpec := { name := "pathPairs", fn := fun _ => fun
  | [d1, d2, d3] => { results := [.lit (.bool false)], args := [d1, d2, d3] }
  | _ => none }
def PathPairsWrongFalsely : Prop := pathPairsRow.holds Try.pinned (OpenSpec.ofChange pathPairsWrong)

/-- 'isochronlaw17.PathSeparates': WHATEVER THE INPUT: true; the input reads as it did. -/
def pathSeparatesSpec : ChangeSpec := { name := "pathSeparates", fn := fun _ => fun
  | [d1, d2, d3, d4] => { results := [.lit (.bool true)], args := [d1, d2, d3, d4] }
  | _ => none }
def pathSeparatesRow : OpenClaim := { program := "ytnjaokhdeaeegaa", sum := "e802dbed42e139222818c38793e7338b779e420b38a2dc37b66d09668f54fec7", func := "isochron/isochronlaw17.PathSeparates", spec := "pathSeparates", unfollowed := true, recurses := true, apart := false }
def PathSeparatesSaid : Prop := pathSeparatesRow.holds Try.pinned (OpenSpec.ofChange pathSeparatesSpec)

/-- ITS FALSE NEIGHBOUR: 'it returns false'. Refute it at one input. -/
def pathSeparatesWrong : ChangeSpec := { name := "pathSeparates", fn := fun _ => fun
  | [d1, d2, d3, d4] => { results := [.lit (.bool false)], args := [d1, d2, d3, d4] }
  | _ => none }
def PathSeparatesWrongFalsely : Prop := pathSeparatesRow.holds Try.pinned (OpenSpec.ofChange pathSeparatesWrong)

/-- 'isochronlaw17.PathBest': WHATEVER THE INPUT: true; the input reads as it did. -/
def pathBestSpec : ChangeSpec := { name := "pathBest", fn := fun _ => fun
  | [d1, d2, d3, d4, d5] => { results := [.lit (.bool true)], args := [d1, d2, d3, d4, d5] }
  | _ => none }
def pathBestRow : OpenClaim := { program := "ytnjaokhdeaeegaa", sum := "e802dbed42e139222818c38793e7338b779e420b38a2dc37b66d09668f54fec7", func := "isochron/isochronlaw17.PathBest", spec := "pathBest", unfollowed := true, recurses := true, apart := false }
def PathBestSaid : Prop := pathBestRow.holds Try.pinned (OpenSpec.ofChange pathBestSpec)

/-- ITS FALSE NEIGHBOUR: 'it returns false'. Refute it at one input. -/
def pathBestWrong : ChangeSpec := { name := "pathBest", fn := fun _ => fun
  | [d1, d2, d3, d4, d5] => { results := [.lit (.bool false)], args := [d1, d2, d3, d4, d5] }
  | _ => none }
def PathBestWrongFalsely : Prop := pathBestRow.holds Try.pinned (OpenSpec.ofChange pathBestWrong)

/-- 'isochronlaw17.PathTwo': WHATEVER THE INPUT: true; the input reads as it did. -/
def pathTwoSpec : ChangeSpec := { name := "pathTwo", fn := fun _ => fun
  | [d1, d2, d3] => { results := [.lit (.bool true)], args := [d1, d2, d3] }
  | _ => none }
def pathTwoRow : OpenClaim := { program := "ytnjaokhdeaeegaa", sum := "e802dbed42e139222818c38793e7338b779e420b38a2dc37b66d09668f54fec7", func := "isochron/isochronlaw17.PathTwo", spec := "pathTwo", unfollowed := true, recurses := true, apart := false }
def PathTwoSaid : Prop := pathTwoRow.holds Try.pinned (OpenSpec.ofChange pathTwoSpec)

/-- ITS FALSE NEIGHBOUR: 'it returns false'. Refute it at one input. -/
def pathTwoWrong : ChangeSpec := { name := "pathTwo", fn := fun _ => fun
  | [d1, d2, d3] => { results := [.lit (.bool false)], args := [d1, d2, d3] }
  | _ => none }
def PathTwoWrongFalsely : Prop := pathTwoRow.holds Try.pinned (OpenSpec.ofChange pathTwoWrong)

/-- 'isochronlaw17.PathCuts': WHATEVER THE INPUT: true; the input reads as it did. -/
def pathCutsSpec : ChangeSpec := { name := "pathCuts", fn := fun _ => fun
  | [d1, d2, d3] => { results := [.lit (.bool true)], args := [d1, d2, d3] }
  | _ => none }
def pathCutsRow : OpenClaim := { program := "ytnjaokhdeaeegaa", sum := "e802dbed42e139222818c38793e7338b779e420b38a2dc37b66d09668f54fec7", func := "isochron/isochronlaw17.PathCuts", spec := "pathCuts", unfollowed := true, recurses := true, apart := false }
def PathCutsSaid : Prop := pathCutsRow.holds Try.pinned (OpenSpec.ofChange pathCutsSpec)

/-- ITS FALSE NEIGHBOUR: 'it returns false'. Refute it at one input. -/
def pathCutsWrong : ChangeSpec := { name := "pathCuts", fn := fun _ => fun
  | [d1, d2, d3] => { results := [.lit (.bool false)], args := [d1, d2, d3] }
  | _ => none }
def PathCutsWrongFalsely : Prop := pathCutsRow.holds Try.pinned (OpenSpec.ofChange pathCutsWrong)

/-- 'isochronlaw17.PathKnown': WHATEVER THE INPUT: true; the input reads as it did. -/
def pathKnownSpec : ChangeSpec := { name := "pathKnown", fn := fun _ => fun
  | [] => { results := [.lit (.bool true)], args := [] }
  | _ => none }
def pathKnownRow : OpenClaim := { program := "ytnjaokhdeaeegaa", sum := "e802dbed42e139222818c38793e7338b779e420b38a2dc37b66d09668f54fec7", func := "isochron/isochronlaw17.PathKnown", spec := "pathKnown", unfollowed := true, recurses := true, apart := false }
def PathKnownSaid : Prop := pathKnownRow.holds Try.pinned (OpenSpec.ofChange pathKnownSpec)

/-- ITS FALSE NEIGHBOUR: 'it returns false'. Refute it at one input. -/
def pathKnownWrong : ChangeSpec := { name := "pathKnown", fn := fun _ => fun
  | [] => { results := [.lit (.bool false)], args := [] }
  | _ => none }
def PathKnownWrongFalsely : Prop := pathKnownRow.holds Try.pinned (OpenSpec.ofChange pathKnownWrong)

/- THE SECOND FORM. 'bulk': how many values and letters a reading holds, each counted each time it is reached (what is shared counts as often as it is met; a slice's spare places count too). A statement '..UptoSaid' is the law's where the arguments, and the package variables that the reading takes, are together of bulk at most 1048576: NARROWER than '..Said'. Prove '..Said' where nothing that the law and all that it calls make is longer than what came in: it says more and counts as full. Else prove '..UptoSaid'. A law counts once. -/
mutual
def uptoBulk {H : Type} : DataW H → Nat
  | .lit (.string bytes) => bytes.length + 1
  | .lit _ => 1
  | .nil => 1
  | .ptr d => uptoBulk d + 1
  | .slice elems spare => uptoBulkAll elems + uptoBulkAll spare + 1
  | .agg parts => uptoBulkAll parts + 1
  | .iface _ d => uptoBulk d + 1
  | .map entries => uptoBulkEntries entries + 1
  | .held _ => 1
def uptoBulkAll {H : Type} : List (DataW H) → Nat
  | [] => 0
  | d :: r => uptoBulk d + uptoBulkAll r
def uptoBulkEntries {H : Type} : List (Lit × DataW H) → Nat
  | [] => 0
  | x :: r => uptoBulkEntry x + uptoBulkEntries r
def uptoBulkEntry {H : Type} : Lit × DataW H → Nat
  | (.string bytes, d) => bytes.length + uptoBulk d + 1
  | (_, d) => uptoBulk d + 1
 end
def uptoSmall : (H : Type) → List (DataW H) → Bool := fun _ ds => decide (uptoBulkAll ds ≤ 1048576)
def OpenSpec.upto (s : _root_.Go.ChangeSpec) : _root_.Go.OpenSpec := { _root_.Go.OpenSpec.ofChange s with cond := some uptoSmall }

/-- 'isochronlaw17.PathLeasts', WHERE WHAT IT READS IS OF BULK AT MOST 1048576: true; the input reads as it did. -/
def pathLeastsUptoRow : OpenClaim := { program := "ytnjaokhdeaeegaa", sum := "e802dbed42e139222818c38793e7338b779e420b38a2dc37b66d09668f54fec7", func := "isochron/isochronlaw17.PathLeasts", spec := "pathLeasts", unfollowed := true, recurses := true, apart := false, narrowed := true }
def PathLeastsUptoSaid : Prop := pathLeastsUptoRow.holds Try.pinned (OpenSpec.upto pathLeastsSpec)

/-- 'isochronlaw17.PathPairs', WHERE WHAT IT READS IS OF BULK AT MOST 1048576: true; the input reads as it did. -/
def pathPairsUptoRow : OpenClaim := { program := "ytnjaokhdeaeegaa", sum := "e802dbed42e139222818c38793e7338b779e420b38a2dc37b66d09668f54fec7", func := "isochron/isochronlaw17.PathPairs", spec := "pathPairs", unfollowed := true, recurses := true, apart := false, narrowed := true }
def PathPairsUptoSaid : Prop := pathPairsUptoRow.holds Try.pinned (OpenSpec.upto pathPairsSpec)

/-- 'isochronlaw17.PathSeparates', WHERE WHAT IT READS IS OF BULK AT MOST 1048576: true; the input reads as it did. -/
def pathSeparatesUptoRow : OpenClaim := { program := "ytnjaokhdeaeegaa", sum := "e802dbed42e139222818c38793e7338b779e420b38a2dc37b66d09668f54fec7", func := "isochron/isochronlaw17.PathSeparates", spec := "pathSeparates", unfollowed := true, recurses := true, apart := false, narrowed := true }
def PathSeparatesUptoSaid : Prop := pathSeparatesUptoRow.holds Try.pinned (OpenSpec.upto pathSeparatesSpec)

/-- 'isochronlaw17.PathBest', WHERE WHAT IT READS IS OF BULK AT MOST 1048576: true; the input reads as it did. -/
def pathBestUptoRow : OpenClaim := { program := "ytnjaokhdeaeegaa", sum := "e802dbed42e139222818c38793e7338b779e420b38a2dc37b66d09668f54fec7", func := "isochron/isochronlaw17.PathBest", spec := "pathBest", unfollowed := true, recurses := true, apart := false, narrowed := true }
def PathBestUptoSaid : Prop := pathBestUptoRow.holds Try.pinned (OpenSpec.upto pathBestSpec)

/-- 'isochronlaw17.PathTwo', WHERE WHAT IT READS IS OF BULK AT MOST 1048576: true; the input reads as it did. -/
def pathTwoUptoRow : OpenClaim := { program := "ytnjaokhdeaeegaa", sum := "e802dbed42e139222818c38793e7338b779e420b38a2dc37b66d09668f54fec7", func := "isochron/isochronlaw17.PathTwo", spec := "pathTwo", unfollowed := true, recurses := true, apart := false, narrowed := true }
def PathTwoUptoSaid : Prop := pathTwoUptoRow.holds Try.pinned (OpenSpec.upto pathTwoSpec)

/-- 'isochronlaw17.PathCuts', WHERE WHAT IT READS IS OF BULK AT MOST 1048576: true; the input reads as it did. -/
def pathCutsUptoRow : OpenClaim := { program := "ytnjaokhdeaeegaa", sum := "e802dbed42e139222818c38793e7338b779e420b38a2dc37b66d09668f54fec7", func := "isochron/isochronlaw17.PathCuts", spec := "pathCuts", unfollowed := true, recurses := true, apart := false, narrowed := true }
def PathCutsUptoSaid : Prop := pathCutsUptoRow.holds Try.pinned (OpenSpec.upto pathCutsSpec)

/-- 'isochronlaw17.PathKnown', WHERE WHAT IT READS IS OF BULK AT MOST 1048576: true; the input reads as it did. -/
def pathKnownUptoRow : OpenClaim := { program := "ytnjaokhdeaeegaa", sum := "e802dbed42e139222818c38793e7338b779e420b38a2dc37b66d09668f54fec7", func := "isochron/isochronlaw17.PathKnown", spec := "pathKnown", unfollowed := true, recurses := true, apart := false, narrowed := true }
def PathKnownUptoSaid : Prop := pathKnownUptoRow.holds Try.pinned (OpenSpec.upto pathKnownSpec)

end Rows
end Go.Proofs.Ytnjaokhdeaeegaa
