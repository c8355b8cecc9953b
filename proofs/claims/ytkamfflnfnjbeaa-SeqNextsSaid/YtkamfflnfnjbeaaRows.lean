/-
  No cell of these rows narrows 'for every input' (looked for: loops, veiled, ifaces, maps, wideKeys, modest, calm, conditions, laid).
  DERIVED. THE GIVEN ROWS OF THIS SEAT. 12 by the template 'for every input the law returns true; each argument reads behind the call as it read before'; 0 by the template 'total and deterministic' (their statements: YtkamfflnfnjbeaaTotals.lean).
  GIVEN WITH THE SEED: the statements are not yours to turn. If you find one false, say at which input.
  Laid BY PROGRAM, IN A SANDBOX (cutbox-rows.mjs): the forced cells as the released guide's own fill.sh prints them over the translation e329b524ed22ac8f… (all of the seat's roots in one cut). By AI agents, Wed Nov 11 2026. No macro, syntax, notation, axiom, sorry.
-/
import Derived.Test.YtkamfflnfnjbeaaChecked
import GoSem.Claim
import GoSem.ClaimJoined
import GoSem.ClaimMapViews
import Derived.JoinedTies
import Derived.KernelRfl
namespace Go.Proofs.Ytkamfflnfnjbeaa
/- THE CELL 'sum', in the pinned program and in every row, IS THE sha256 OF THE DUMP (.gsa) THAT YtkamfflnfnjbeaaProg.lean LOADS. Nothing in Lean hashes anything: it is a label: what it is worth is what the hold of that sum in a sandbox is worth. -/
noncomputable def Try.pinned : Pinned := { name := "ytkamfflnfnjbeaa", sum := "e329b524ed22ac8f66190e4b400913cb6be3eee5bdd1de97346482d0198785f8", checked := Try.checked }
namespace Rows
def none {H : Type} : Left H := { results := [], args := [] }

/-- 'isochronlaw39.SeqDeltas': WHATEVER THE INPUT: true; the input reads as it did. -/
def seqDeltasSpec : ChangeSpec := { name := "seqDeltas", fn := fun _ => fun
  | [d1, d2, d3, d4] => { results := [.lit (.bool true)], args := [d1, d2, d3, d4] }
  | _ => none }
def seqDeltasRow : OpenClaim := { program := "ytkamfflnfnjbeaa", sum := "e329b524ed22ac8f66190e4b400913cb6be3eee5bdd1de97346482d0198785f8", func := "isochron/isochronlaw39.SeqDeltas", spec := "seqDeltas", unfollowed := true, recurses := true, apart := false }
def SeqDeltasSaid : Prop := seqDeltasRow.holds Try.pinned (OpenSpec.ofChange seqDeltasSpec)

/-- ITS FALSE NEIGHBOUR: 'it returns false'. Refute it at one input. -/
def seqDeltasWrong : ChangeSpec := { name := "seqDeltas", fn := fun _ => fun
  | [d1, d2, d3, d4] => { results := [.lit (.bool false)], args := [d1, d2, d3, d4] }
  | _ => none }
def SeqDeltasWrongFalsely : Prop := seqDeltasRow.holds Try.pinned (OpenSpec.ofChange seqDeltasWrong)

/-- 'isochronlaw39.SeqCopies': WHATEVER THE INPUT: true; the input reads as it did. -/
def seqCopiesSpec : ChangeSpec := { name := "seqCopies", fn := fun _ => fun
  | [d1, d2, d3, d4] => { results := [.lit (.bool true)], args := [d1, d2, d3, d4] }
  | _ => none }
def seqCopiesRow : OpenClaim := { program := "ytkamfflnfnjbeaa", sum := "e329b524ed22ac8f66190e4b400913cb6be3eee5bdd1de97346482d0198785f8", func := "isochron/isochronlaw39.SeqCopies", spec := "seqCopies", unfollowed := true, recurses := true, apart := false }
def SeqCopiesSaid : Prop := seqCopiesRow.holds Try.pinned (OpenSpec.ofChange seqCopiesSpec)

/-- ITS FALSE NEIGHBOUR: 'it returns false'. Refute it at one input. -/
def seqCopiesWrong : ChangeSpec := { name := "seqCopies", fn := fun _ => fun
  | [d1, d2, d3, d4] => { results := [.lit (.bool false)], args := [d1, d2, d3, d4] }
  | _ => none }
def SeqCopiesWrongFalsely : Prop := seqCopiesRow.holds Try.pinned (OpenSpec.ofChange seqCopiesWrong)

/-- 'isochronlaw39.SeqRuns': WHATEVER THE INPUT: true; the input reads as it did. -/
def seqRunsSpec : ChangeSpec := { name := "seqRuns", fn := fun _ => fun
  | [d1, d2] => { results := [.lit (.bool true)], args := [d1, d2] }
  | _ => none }
def seqRunsRow : OpenClaim := { program := "ytkamfflnfnjbeaa", sum := "e329b524ed22ac8f66190e4b400913cb6be3eee5bdd1de97346482d0198785f8", func := "isochron/isochronlaw39.SeqRuns", spec := "seqRuns", unfollowed := true, recurses := true, apart := false }
def SeqRunsSaid : Prop := seqRunsRow.holds Try.pinned (OpenSpec.ofChange seqRunsSpec)

/-- ITS FALSE NEIGHBOUR: 'it returns false'. Refute it at one input. -/
def seqRunsWrong : ChangeSpec := { name := "seqRuns", fn := fun _ => fun
  | [d1, d2] => { results := [.lit (.bool false)], args := [d1, d2] }
  | _ => none }
def SeqRunsWrongFalsely : Prop := seqRunsRow.holds Try.pinned (OpenSpec.ofChange seqRunsWrong)

/-- 'isochronlaw39.SeqTurns': WHATEVER THE INPUT: true; the input reads as it did. -/
def seqTurnsSpec : ChangeSpec := { name := "seqTurns", fn := fun _ => fun
  | [d1, d2, d3, d4] => { results := [.lit (.bool true)], args := [d1, d2, d3, d4] }
  | _ => none }
def seqTurnsRow : OpenClaim := { program := "ytkamfflnfnjbeaa", sum := "e329b524ed22ac8f66190e4b400913cb6be3eee5bdd1de97346482d0198785f8", func := "isochron/isochronlaw39.SeqTurns", spec := "seqTurns", unfollowed := true, recurses := true, apart := false }
def SeqTurnsSaid : Prop := seqTurnsRow.holds Try.pinned (OpenSpec.ofChange seqTurnsSpec)

/-- ITS FALSE NEIGHBOUR: 'it returns false'. Refute it at one input. -/
def seqTurnsWrong : ChangeSpec := { name := "seqTurns", fn := fun _ => fun
  | [d1, d2, d3, d4] => { results := [.lit (.bool false)], args := [d1, d2, d3, d4] }
  | _ => none }
def SeqTurnsWrongFalsely : Prop := seqTurnsRow.holds Try.pinned (OpenSpec.ofChange seqTurnsWrong)

/-- 'isochronlaw39.SeqKnown': WHATEVER THE INPUT: true; the input reads as it did. -/
def seqKnownSpec : ChangeSpec := { name := "seqKnown", fn := fun _ => fun
  | [] => { results := [.lit (.bool true)], args := [] }
  | _ => none }
def seqKnownRow : OpenClaim := { program := "ytkamfflnfnjbeaa", sum := "e329b524ed22ac8f66190e4b400913cb6be3eee5bdd1de97346482d0198785f8", func := "isochron/isochronlaw39.SeqKnown", spec := "seqKnown", unfollowed := true, recurses := true, apart := false }
def SeqKnownSaid : Prop := seqKnownRow.holds Try.pinned (OpenSpec.ofChange seqKnownSpec)

/-- ITS FALSE NEIGHBOUR: 'it returns false'. Refute it at one input. -/
def seqKnownWrong : ChangeSpec := { name := "seqKnown", fn := fun _ => fun
  | [] => { results := [.lit (.bool false)], args := [] }
  | _ => none }
def SeqKnownWrongFalsely : Prop := seqKnownRow.holds Try.pinned (OpenSpec.ofChange seqKnownWrong)

/-- 'isochronlaw39.SeqNexts': WHATEVER THE INPUT: true; the input reads as it did. -/
def seqNextsSpec : ChangeSpec := { name := "seqNexts", fn := fun _ => fun
  | [d1, d2, d3, d4, d5] => { results := [.lit (.bool true)], args := [d1, d2, d3, d4, d5] }
  | _ => none }
def seqNextsRow : OpenClaim := { program := "ytkamfflnfnjbeaa", sum := "e329b524ed22ac8f66190e4b400913cb6be3eee5bdd1de97346482d0198785f8", func := "isochron/isochronlaw39.SeqNexts", spec := "seqNexts", unfollowed := true, recurses := true, apart := false }
def SeqNextsSaid : Prop := seqNextsRow.holds Try.pinned (OpenSpec.ofChange seqNextsSpec)

/-- ITS FALSE NEIGHBOUR: 'it returns false'. Refute it at one input. -/
def seqNextsWrong : ChangeSpec := { name := "seqNexts", fn := fun _ => fun
  | [d1, d2, d3, d4, d5] => { results := [.lit (.bool false)], args := [d1, d2, d3, d4, d5] }
  | _ => none }
def SeqNextsWrongFalsely : Prop := seqNextsRow.holds Try.pinned (OpenSpec.ofChange seqNextsWrong)

/-- 'isochronlaw40.RecoverChecks': WHATEVER THE INPUT: true; the input reads as it did. -/
def recoverChecksSpec : ChangeSpec := { name := "recoverChecks", fn := fun _ => fun
  | [d1, d2, d3, d4] => { results := [.lit (.bool true)], args := [d1, d2, d3, d4] }
  | _ => none }
def recoverChecksRow : OpenClaim := { program := "ytkamfflnfnjbeaa", sum := "e329b524ed22ac8f66190e4b400913cb6be3eee5bdd1de97346482d0198785f8", func := "isochron/isochronlaw40.RecoverChecks", spec := "recoverChecks", unfollowed := true, recurses := true, apart := false }
def RecoverChecksSaid : Prop := recoverChecksRow.holds Try.pinned (OpenSpec.ofChange recoverChecksSpec)

/-- ITS FALSE NEIGHBOUR: 'it returns false'. Refute it at one input. -/
def recoverChecksWrong : ChangeSpec := { name := "recoverChecks", fn := fun _ => fun
  | [d1, d2, d3, d4] => { results := [.lit (.bool false)], args := [d1, d2, d3, d4] }
  | _ => none }
def RecoverChecksWrongFalsely : Prop := recoverChecksRow.holds Try.pinned (OpenSpec.ofChange recoverChecksWrong)

/-- 'isochronlaw40.RecoverSteps': WHATEVER THE INPUT: true; the input reads as it did. -/
def recoverStepsSpec : ChangeSpec := { name := "recoverSteps", fn := fun _ => fun
  | [d1, d2, d3, d4, d5] => { results := [.lit (.bool true)], args := [d1, d2, d3, d4, d5] }
  | _ => none }
def recoverStepsRow : OpenClaim := { program := "ytkamfflnfnjbeaa", sum := "e329b524ed22ac8f66190e4b400913cb6be3eee5bdd1de97346482d0198785f8", func := "isochron/isochronlaw40.RecoverSteps", spec := "recoverSteps", unfollowed := true, recurses := true, apart := false }
def RecoverStepsSaid : Prop := recoverStepsRow.holds Try.pinned (OpenSpec.ofChange recoverStepsSpec)

/-- ITS FALSE NEIGHBOUR: 'it returns false'. Refute it at one input. -/
def recoverStepsWrong : ChangeSpec := { name := "recoverSteps", fn := fun _ => fun
  | [d1, d2, d3, d4, d5] => { results := [.lit (.bool false)], args := [d1, d2, d3, d4, d5] }
  | _ => none }
def RecoverStepsWrongFalsely : Prop := recoverStepsRow.holds Try.pinned (OpenSpec.ofChange recoverStepsWrong)

/-- 'isochronlaw40.RecoverOnce': WHATEVER THE INPUT: true; the input reads as it did. -/
def recoverOnceSpec : ChangeSpec := { name := "recoverOnce", fn := fun _ => fun
  | [d1, d2, d3] => { results := [.lit (.bool true)], args := [d1, d2, d3] }
  | _ => none }
def recoverOnceRow : OpenClaim := { program := "ytkamfflnfnjbeaa", sum := "e329b524ed22ac8f66190e4b400913cb6be3eee5bdd1de97346482d0198785f8", func := "isochron/isochronlaw40.RecoverOnce", spec := "recoverOnce", unfollowed := true, recurses := true, apart := false }
def RecoverOnceSaid : Prop := recoverOnceRow.holds Try.pinned (OpenSpec.ofChange recoverOnceSpec)

/-- ITS FALSE NEIGHBOUR: 'it returns false'. Refute it at one input. -/
def recoverOnceWrong : ChangeSpec := { name := "recoverOnce", fn := fun _ => fun
  | [d1, d2, d3] => { results := [.lit (.bool false)], args := [d1, d2, d3] }
  | _ => none }
def RecoverOnceWrongFalsely : Prop := recoverOnceRow.holds Try.pinned (OpenSpec.ofChange recoverOnceWrong)

/-- 'isochronlaw40.RecoverMerges': WHATEVER THE INPUT: true; the input reads as it did. -/
def recoverMergesSpec : ChangeSpec := { name := "recoverMerges", fn := fun _ => fun
  | [d1, d2, d3, d4] => { results := [.lit (.bool true)], args := [d1, d2, d3, d4] }
  | _ => none }
def recoverMergesRow : OpenClaim := { program := "ytkamfflnfnjbeaa", sum := "e329b524ed22ac8f66190e4b400913cb6be3eee5bdd1de97346482d0198785f8", func := "isochron/isochronlaw40.RecoverMerges", spec := "recoverMerges", unfollowed := true, recurses := true, apart := false }
def RecoverMergesSaid : Prop := recoverMergesRow.holds Try.pinned (OpenSpec.ofChange recoverMergesSpec)

/-- ITS FALSE NEIGHBOUR: 'it returns false'. Refute it at one input. -/
def recoverMergesWrong : ChangeSpec := { name := "recoverMerges", fn := fun _ => fun
  | [d1, d2, d3, d4] => { results := [.lit (.bool false)], args := [d1, d2, d3, d4] }
  | _ => none }
def RecoverMergesWrongFalsely : Prop := recoverMergesRow.holds Try.pinned (OpenSpec.ofChange recoverMergesWrong)

/-- 'isochronlaw40.RecoverRises': WHATEVER THE INPUT: true; the input reads as it did. -/
def recoverRisesSpec : ChangeSpec := { name := "recoverRises", fn := fun _ => fun
  | [d1, d2, d3, d4, d5] => { results := [.lit (.bool true)], args := [d1, d2, d3, d4, d5] }
  | _ => none }
def recoverRisesRow : OpenClaim := { program := "ytkamfflnfnjbeaa", sum := "e329b524ed22ac8f66190e4b400913cb6be3eee5bdd1de97346482d0198785f8", func := "isochron/isochronlaw40.RecoverRises", spec := "recoverRises", unfollowed := true, recurses := true, apart := false }
def RecoverRisesSaid : Prop := recoverRisesRow.holds Try.pinned (OpenSpec.ofChange recoverRisesSpec)

/-- ITS FALSE NEIGHBOUR: 'it returns false'. Refute it at one input. -/
def recoverRisesWrong : ChangeSpec := { name := "recoverRises", fn := fun _ => fun
  | [d1, d2, d3, d4, d5] => { results := [.lit (.bool false)], args := [d1, d2, d3, d4, d5] }
  | _ => none }
def RecoverRisesWrongFalsely : Prop := recoverRisesRow.holds Try.pinned (OpenSpec.ofChange recoverRisesWrong)

/-- 'isochronlaw40.RecoverKnown': WHATEVER THE INPUT: true; the input reads as it did. -/
def recoverKnownSpec : ChangeSpec := { name := "recoverKnown", fn := fun _ => fun
  | [] => { results := [.lit (.bool true)], args := [] }
  | _ => none }
def recoverKnownRow : OpenClaim := { program := "ytkamfflnfnjbeaa", sum := "e329b524ed22ac8f66190e4b400913cb6be3eee5bdd1de97346482d0198785f8", func := "isochron/isochronlaw40.RecoverKnown", spec := "recoverKnown", unfollowed := true, recurses := true, apart := false }
def RecoverKnownSaid : Prop := recoverKnownRow.holds Try.pinned (OpenSpec.ofChange recoverKnownSpec)

/-- ITS FALSE NEIGHBOUR: 'it returns false'. Refute it at one input. -/
def recoverKnownWrong : ChangeSpec := { name := "recoverKnown", fn := fun _ => fun
  | [] => { results := [.lit (.bool false)], args := [] }
  | _ => none }
def RecoverKnownWrongFalsely : Prop := recoverKnownRow.holds Try.pinned (OpenSpec.ofChange recoverKnownWrong)

/- THE SECOND FORM. 'bulk': how many values and letters a reading holds, each counted each time it is reached (what is shared counts as often as it is met; a slice's spare places count too). A statement '..UptoSaid' is the law's where the arguments, and the package variables that the reading takes, are together of bulk at most 1048576: NARROWER than '..Said'. Prove '..Said' where nothing that the law and all that it calls make is longer than what came in: it says more and counts as full. Else prove '..UptoSaid'. A law counts once. -/
mutual
def uptoBulk {H : Type} : DataW H → Nat
  | .lit (.string bytes) => bytes.length + 1
  | .lit _ => 1
  | .nil => 1
  | .ptr d => uptoBulk d + 1
  | .slice elems spare => uptoBulkAll elems + uptoBulkAll spare + 1
  | .agg parts => uptoBulkAll parts + 1
  | .iface _ d => uptoBulk d + 1
  | .map entries => uptoBulkEntries entries + 1
  | .held _ => 1
def uptoBulkAll {H : Type} : List (DataW H) → Nat
  | [] => 0
  | d :: r => uptoBulk d + uptoBulkAll r
def uptoBulkEntries {H : Type} : List (Lit × DataW H) → Nat
  | [] => 0
  | x :: r => uptoBulkEntry x + uptoBulkEntries r
def uptoBulkEntry {H : Type} : Lit × DataW H → Nat
  | (.string bytes, d) => bytes.length + uptoBulk d + 1
  | (_, d) => uptoBulk d + 1
 end
def uptoSmall : (H : Type) → List (DataW H) → Bool := fun _ ds => decide (uptoBulkAll ds ≤ 1048576)
def OpenSpec.upto (s : _root_.Go.ChangeSpec) : _root_.Go.OpenSpec := { _root_.Go.OpenSpec.ofChange s with cond := some uptoSmall }

/-- 'isochronlaw39.SeqDeltas', WHERE WHAT IT READS IS OF BULK AT MOST 1048576: true; the input reads as it did. -/
def seqDeltasUptoRow : OpenClaim := { program := "ytkamfflnfnjbeaa", sum := "e329b524ed22ac8f66190e4b400913cb6be3eee5bdd1de97346482d0198785f8", func := "isochron/isochronlaw39.SeqDeltas", spec := "seqDeltas", unfollowed := true, recurses := true, apart := false, narrowed := true }
def SeqDeltasUptoSaid : Prop := seqDeltasUptoRow.holds Try.pinned (OpenSpec.upto seqDeltasSpec)

/-- 'isochronlaw39.SeqCopies', WHERE WHAT IT READS IS OF BULK AT MOST 1048576: true; the input reads as it did. -/
def seqCopiesUptoRow : OpenClaim := { program := "ytkamfflnfnjbeaa", sum := "e329b524ed22ac8f66190e4b400913cb6be3eee5bdd1de97346482d0198785f8", func := "isochron/isochronlaw39.SeqCopies", spec := "seqCopies", unfollowed := true, recurses := true, apart := false, narrowed := true }
def SeqCopiesUptoSaid : Prop := seqCopiesUptoRow.holds Try.pinned (OpenSpec.upto seqCopiesSpec)

/-- 'isochronlaw39.SeqRuns', WHERE WHAT IT READS IS OF BULK AT MOST 1048576: true; the input reads as it did. -/
def seqRunsUptoRow : OpenClaim := { program := "ytkamfflnfnjbeaa", sum := "e329b524ed22ac8f66190e4b400913cb6be3eee5bdd1de97346482d0198785f8", func := "isochron/isochronlaw39.SeqRuns", spec := "seqRuns", unfollowed := true, recurses := true, apart := false, narrowed := true }
def SeqRunsUptoSaid : Prop := seqRunsUptoRow.holds Try.pinned (OpenSpec.upto seqRunsSpec)

/-- 'isochronlaw39.SeqTurns', WHERE WHAT IT READS IS OF BULK AT MOST 1048576: true; the input reads as it did. -/
def seqTurnsUptoRow : OpenClaim := { program := "ytkamfflnfnjbeaa", sum := "e329b524ed22ac8f66190e4b400913cb6be3eee5bdd1de97346482d0198785f8", func := "isochron/isochronlaw39.SeqTurns", spec := "seqTurns", unfollowed := true, recurses := true, apart := false, narrowed := true }
def SeqTurnsUptoSaid : Prop := seqTurnsUptoRow.holds Try.pinned (OpenSpec.upto seqTurnsSpec)

/-- 'isochronlaw39.SeqKnown', WHERE WHAT IT READS IS OF BULK AT MOST 1048576: true; the input reads as it did. -/
def seqKnownUptoRow : OpenClaim := { program := "ytkamfflnfnjbeaa", sum := "e329b524ed22ac8f66190e4b400913cb6be3eee5bdd1de97346482d0198785f8", func := "isochron/isochronlaw39.SeqKnown", spec := "seqKnown", unfollowed := true, recurses := true, apart := false, narrowed := true }
def SeqKnownUptoSaid : Prop := seqKnownUptoRow.holds Try.pinned (OpenSpec.upto seqKnownSpec)

/-- 'isochronlaw39.SeqNexts', WHERE WHAT IT READS IS OF BULK AT MOST 1048576: true; the input reads as it did. -/
def seqNextsUptoRow : OpenClaim := { program := "ytkamfflnfnjbeaa", sum := "e329b524ed22ac8f66190e4b400913cb6be3eee5bdd1de97346482d0198785f8", func := "isochron/isochronlaw39.SeqNexts", spec := "seqNexts", unfollowed := true, recurses := true, apart := false, narrowed := true }
def SeqNextsUptoSaid : Prop := seqNextsUptoRow.holds Try.pinned (OpenSpec.upto seqNextsSpec)

/-- 'isochronlaw40.RecoverChecks', WHERE WHAT IT READS IS OF BULK AT MOST 1048576: true; the input reads as it did. -/
def recoverChecksUptoRow : OpenClaim := { program := "ytkamfflnfnjbeaa", sum := "e329b524ed22ac8f66190e4b400913cb6be3eee5bdd1de97346482d0198785f8", func := "isochron/isochronlaw40.RecoverChecks", spec := "recoverChecks", unfollowed := true, recurses := true, apart := false, narrowed := true }
def RecoverChecksUptoSaid : Prop := recoverChecksUptoRow.holds Try.pinned (OpenSpec.upto recoverChecksSpec)

/-- 'isochronlaw40.RecoverSteps', WHERE WHAT IT READS IS OF BULK AT MOST 1048576: true; the input reads as it did. -/
def recoverStepsUptoRow : OpenClaim := { program := "ytkamfflnfnjbeaa", sum := "e329b524ed22ac8f66190e4b400913cb6be3eee5bdd1de97346482d0198785f8", func := "isochron/isochronlaw40.RecoverSteps", spec := "recoverSteps", unfollowed := true, recurses := true, apart := false, narrowed := true }
def RecoverStepsUptoSaid : Prop := recoverStepsUptoRow.holds Try.pinned (OpenSpec.upto recoverStepsSpec)

/-- 'isochronlaw40.RecoverOnce', WHERE WHAT IT READS IS OF BULK AT MOST 1048576: true; the input reads as it did. -/
def recoverOnceUptoRow : OpenClaim := { program := "ytkamfflnfnjbeaa", sum := "e329b524ed22ac8f66190e4b400913cb6be3eee5bdd1de97346482d0198785f8", func := "isochron/isochronlaw40.RecoverOnce", spec := "recoverOnce", unfollowed := true, recurses := true, apart := false, narrowed := true }
def RecoverOnceUptoSaid : Prop := recoverOnceUptoRow.holds Try.pinned (OpenSpec.upto recoverOnceSpec)

/-- 'isochronlaw40.RecoverMerges', WHERE WHAT IT READS IS OF BULK AT MOST 1048576: true; the input reads as it did. -/
def recoverMergesUptoRow : OpenClaim := { program := "ytkamfflnfnjbeaa", sum := "e329b524ed22ac8f66190e4b400913cb6be3eee5bdd1de97346482d0198785f8", func := "isochron/isochronlaw40.RecoverMerges", spec := "recoverMerges", unfollowed := true, recurses := true, apart := false, narrowed := true }
def RecoverMergesUptoSaid : Prop := recoverMergesUptoRow.holds Try.pinned (OpenSpec.upto recoverMergesSpec)

/-- 'isochronlaw40.RecoverRises', WHERE WHAT IT READS IS OF BULK AT MOST 1048576: true; the input reads as it did. -/
def recoverRisesUptoRow : OpenClaim := { program := "ytkamfflnfnjbeaa", sum := "e329b524ed22ac8f66190e4b400913cb6be3eee5bdd1de97346482d0198785f8", func := "isochron/isochronlaw40.RecoverRises", spec := "recoverRises", unfollowed := true, recurses := true, apart := false, narrowed := true }
def RecoverRisesUptoSaid : Prop := recoverRisesUptoRow.holds Try.pinned (OpenSpec.upto recoverRisesSpec)

/-- 'isochronlaw40.RecoverKnown', WHERE WHAT IT READS IS OF BULK AT MOST 1048576: true; the input reads as it did. -/
def recoverKnownUptoRow : OpenClaim := { program := "ytkamfflnfnjbeaa", sum := "e329b524ed22ac8f66190e4b400913cb6be3eee5bdd1de97346482d0198785f8", func := "isochron/isochronlaw40.RecoverKnown", spec := "recoverKnown", unfollowed := true, recurses := true, apart := false, narrowed := true }
def RecoverKnownUptoSaid : Prop := recoverKnownUptoRow.holds Try.pinned (OpenSpec.upto recoverKnownSpec)

end Rows
end Go.Proofs.Ytkamfflnfnjbeaa
