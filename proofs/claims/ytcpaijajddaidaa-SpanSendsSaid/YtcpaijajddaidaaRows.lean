/-
  No cell of these rows narrows 'for every input' (looked for: loops, veiled, ifaces, maps, wideKeys, modest, calm, conditions, laid).
  DERIVED. THE GIVEN ROWS OF THIS SEAT. 8 by the template 'for every input the law returns true; each argument reads behind the call as it read before'; 0 by the template 'total and deterministic' (their statements: YtcpaijajddaidaaTotals.lean).
  GIVEN WITH THE SEED: the statements are not yours to turn. If you find one false, say at which input.
  Laid BY PROGRAM, IN A SANDBOX (cutbox-rows.mjs): the forced cells as the released guide's own fill.sh prints them over the translation 5681bcd4c50e8a25… (all of the seat's roots in one cut). By AI agents, Wed Nov 11 2026. No macro, syntax, notation, axiom, sorry.
-/
import Derived.Test.YtcpaijajddaidaaChecked
import GoSem.Claim
import GoSem.ClaimJoined
import GoSem.ClaimMapViews
import Derived.JoinedTies
import Derived.KernelRfl
namespace Go.Proofs.Ytcpaijajddaidaa
/- THE CELL 'sum', in the pinned program and in every row, IS THE sha256 OF THE DUMP (.gsa) THAT YtcpaijajddaidaaProg.lean LOADS. Nothing in Lean hashes anything: it is a label: what it is worth is what the hold of that sum in a sandbox is worth. -/
noncomputable def Try.pinned : Pinned := { name := "ytcpaijajddaidaa", sum := "5681bcd4c50e8a252b749a16b328b2a66b97a45ff9635a1eb07262ffd5c21542", checked := Try.checked }
namespace Rows
def none {H : Type} : Left H := { results := [], args := [] }

/-- 'isochronlaw19.SpanChecks': WHATEVER THE INPUT: true; the input reads as it did. -/
def spanChecksSpec : ChangeSpec := { name := "spanChecks", fn := fun _ => fun
  | [d] => { results := [.lit (.bool true)], args := [d] }
  | _ => none }
def spanChecksRow : OpenClaim := { program := "ytcpaijajddaidaa", sum := "5681bcd4c50e8a252b749a16b328b2a66b97a45ff9635a1eb07262ffd5c21542", func := "isochron/isochronlaw19.SpanChecks", spec := "spanChecks", unfollowed := true, recurses := true, apart := false }
def SpanChecksSaid : Prop := spanChecksRow.holds Try.pinned (OpenSpec.ofChange spanChecksSpec)

/-- ITS FALSE NEIGHBOUR: 'it returns false'. Refute it at one input. -/
def spanChecksWrong : ChangeSpec := { name := "spanChecks", fn := fun _ => fun
  | [d] => { results := [.lit (.bool false)], args := [d] }
  | _ => none }
def SpanChecksWrongFalsely : Prop := spanChecksRow.holds Try.pinned (OpenSpec.ofChange spanChecksWrong)

/-- 'isochronlaw19.SpanSends': WHATEVER THE INPUT: true; the input reads as it did. -/
def spanSendsSpec : ChangeSpec := { name := "spanSends", fn := fun _ => fun
  | [d] => { results := [.lit (.bool true)], args := [d] }
  | _ => none }
def spanSendsRow : OpenClaim := { program := "ytcpaijajddaidaa", sum := "5681bcd4c50e8a252b749a16b328b2a66b97a45ff9635a1eb07262ffd5c21542", func := "isochron/isochronlaw19.SpanSends", spec := "spanSends", unfollowed := true, recurses := true, apart := false }
def SpanSendsSaid : Prop := spanSendsRow.holds Try.pinned (OpenSpec.ofChange spanSendsSpec)

/-- ITS FALSE NEIGHBOUR: 'it returns false'. Refute it at one input. -/
def spanSendsWrong : ChangeSpec := { name := "spanSends", fn := fun _ => fun
  | [d] => { results := [.lit (.bool false)], args := [d] }
  | _ => none }
def SpanSendsWrongFalsely : Prop := spanSendsRow.holds Try.pinned (OpenSpec.ofChange spanSendsWrong)

/-- 'isochronlaw19.SpanKnown': WHATEVER THE INPUT: true; the input reads as it did. -/
def spanKnownSpec : ChangeSpec := { name := "spanKnown", fn := fun _ => fun
  | [] => { results := [.lit (.bool true)], args := [] }
  | _ => none }
def spanKnownRow : OpenClaim := { program := "ytcpaijajddaidaa", sum := "5681bcd4c50e8a252b749a16b328b2a66b97a45ff9635a1eb07262ffd5c21542", func := "isochron/isochronlaw19.SpanKnown", spec := "spanKnown", unfollowed := true, recurses := true, apart := false }
def SpanKnownSaid : Prop := spanKnownRow.holds Try.pinned (OpenSpec.ofChange spanKnownSpec)

/-- ITS FALSE NEIGHBOUR: 'it returns false'. Refute it at one input. -/
def spanKnownWrong : ChangeSpec := { name := "spanKnown", fn := fun _ => fun
  | [] => { results := [.lit (.bool false)], args := [] }
  | _ => none }
def SpanKnownWrongFalsely : Prop := spanKnownRow.holds Try.pinned (OpenSpec.ofChange spanKnownWrong)

/-- 'isochronlaw19.SpanHears': WHATEVER THE INPUT: true; the input reads as it did. -/
def spanHearsSpec : ChangeSpec := { name := "spanHears", fn := fun _ => fun
  | [d1, d2, d3] => { results := [.lit (.bool true)], args := [d1, d2, d3] }
  | _ => none }
def spanHearsRow : OpenClaim := { program := "ytcpaijajddaidaa", sum := "5681bcd4c50e8a252b749a16b328b2a66b97a45ff9635a1eb07262ffd5c21542", func := "isochron/isochronlaw19.SpanHears", spec := "spanHears", unfollowed := true, recurses := true, apart := false }
def SpanHearsSaid : Prop := spanHearsRow.holds Try.pinned (OpenSpec.ofChange spanHearsSpec)

/-- ITS FALSE NEIGHBOUR: 'it returns false'. Refute it at one input. -/
def spanHearsWrong : ChangeSpec := { name := "spanHears", fn := fun _ => fun
  | [d1, d2, d3] => { results := [.lit (.bool false)], args := [d1, d2, d3] }
  | _ => none }
def SpanHearsWrongFalsely : Prop := spanHearsRow.holds Try.pinned (OpenSpec.ofChange spanHearsWrong)

/-- 'isochronlaw19.SpanRoots': WHATEVER THE INPUT: true; the input reads as it did. -/
def spanRootsSpec : ChangeSpec := { name := "spanRoots", fn := fun _ => fun
  | [d1, d2] => { results := [.lit (.bool true)], args := [d1, d2] }
  | _ => none }
def spanRootsRow : OpenClaim := { program := "ytcpaijajddaidaa", sum := "5681bcd4c50e8a252b749a16b328b2a66b97a45ff9635a1eb07262ffd5c21542", func := "isochron/isochronlaw19.SpanRoots", spec := "spanRoots", unfollowed := true, recurses := true, apart := false }
def SpanRootsSaid : Prop := spanRootsRow.holds Try.pinned (OpenSpec.ofChange spanRootsSpec)

/-- ITS FALSE NEIGHBOUR: 'it returns false'. Refute it at one input. -/
def spanRootsWrong : ChangeSpec := { name := "spanRoots", fn := fun _ => fun
  | [d1, d2] => { results := [.lit (.bool false)], args := [d1, d2] }
  | _ => none }
def SpanRootsWrongFalsely : Prop := spanRootsRow.holds Try.pinned (OpenSpec.ofChange spanRootsWrong)

/-- 'isochronlaw19.SpanClaims': WHATEVER THE INPUT: true; the input reads as it did. -/
def spanClaimsSpec : ChangeSpec := { name := "spanClaims", fn := fun _ => fun
  | [d1, d2] => { results := [.lit (.bool true)], args := [d1, d2] }
  | _ => none }
def spanClaimsRow : OpenClaim := { program := "ytcpaijajddaidaa", sum := "5681bcd4c50e8a252b749a16b328b2a66b97a45ff9635a1eb07262ffd5c21542", func := "isochron/isochronlaw19.SpanClaims", spec := "spanClaims", unfollowed := true, recurses := true, apart := false }
def SpanClaimsSaid : Prop := spanClaimsRow.holds Try.pinned (OpenSpec.ofChange spanClaimsSpec)

/-- ITS FALSE NEIGHBOUR: 'it returns false'. Refute it at one input. -/
def spanClaimsWrong : ChangeSpec := { name := "spanClaims", fn := fun _ => fun
  | [d1, d2] => { results := [.lit (.bool false)], args := [d1, d2] }
  | _ => none }
def SpanClaimsWrongFalsely : Prop := spanClaimsRow.holds Try.pinned (OpenSpec.ofChange spanClaimsWrong)

/-- 'isochronlaw19.SpanForgets': WHATEVER THE INPUT: true; the input reads as it did. -/
def spanForgetsSpec : ChangeSpec := { name := "spanForgets", fn := fun _ => fun
  | [d1, d2] => { results := [.lit (.bool true)], args := [d1, d2] }
  | _ => none }
def spanForgetsRow : OpenClaim := { program := "ytcpaijajddaidaa", sum := "5681bcd4c50e8a252b749a16b328b2a66b97a45ff9635a1eb07262ffd5c21542", func := "isochron/isochronlaw19.SpanForgets", spec := "spanForgets", unfollowed := true, recurses := true, apart := false }
def SpanForgetsSaid : Prop := spanForgetsRow.holds Try.pinned (OpenSpec.ofChange spanForgetsSpec)

/-- ITS FALSE NEIGHBOUR: 'it returns false'. Refute it at one input. -/
def spanForgetsWrong : ChangeSpec := { name := "spanForgets", fn := fun _ => fun
  | [d1, d2] => { results := [.lit (.bool false)], args := [d1, d2] }
  | _ => none }
def SpanForgetsWrongFalsely : Prop := spanForgetsRow.holds Try.pinned (OpenSpec.ofChange spanForgetsWrong)

/-- 'isochronlaw19.SpanKeeps': WHATEVER THE INPUT: true; the input reads as it did. -/
def spanKeepsSpec : ChangeSpec := { name := "spanKeeps", fn := fun _ => fun
  | [d1, d2, d3, d4] => { results := [.lit (.bool true)], args := [d1, d2, d3, d4] }
  | _ => none }
def spanKeepsRow : OpenClaim := { program := "ytcpaijajddaidaa", sum := "5681bcd4c50e8a252b749a16b328b2a66b97a45ff9635a1eb07262ffd5c21542", func := "isochron/isochronlaw19.SpanKeeps", spec := "spanKeeps", unfollowed := true, recurses := true, apart := false }
def SpanKeepsSaid : Prop := spanKeepsRow.holds Try.pinned (OpenSpec.ofChange spanKeepsSpec)

/-- ITS FALSE NEIGHBOUR: 'it returns false'. Refute it at one input. -/
def spanKeepsWrong : ChangeSpec := { name := "spanKeeps", fn := fun _ => fun
  | [d1, d2, d3, d4] => { results := [.lit (.bool false)], args := [d1, d2, d3, d4] }
  | _ => none }
def SpanKeepsWrongFalsely : Prop := spanKeepsRow.holds Try.pinned (OpenSpec.ofChange spanKeepsWrong)

/- THE SECOND FORM. 'bulk': how many values and letters a reading holds, each counted each time it is reached (what is shared counts as often as it is met; a slice's spare places count too). A statement '..UptoSaid' is the law's where the arguments, and the package variables that the reading takes, are together of bulk at most 1048576: NARROWER than '..Said'. Prove '..Said' where nothing that the law and all that it calls make is longer than what came in: it says more and counts as full. Else prove '..UptoSaid'. A law counts once. -/
mutual
def uptoBulk {H : Type} : DataW H → Nat
  | .lit (.string bytes) => bytes.length + 1
  | .lit _ => 1
  | .nil => 1
  | .ptr d => uptoBulk d + 1
  | .slice elems spare => uptoBulkAll elems + uptoBulkAll spare + 1
  | .agg parts => uptoBulkAll parts + 1
  | .iface _ d => uptoBulk d + 1
  | .map entries => uptoBulkEntries entries + 1
  | .held _ => 1
def uptoBulkAll {H : Type} : List (DataW H) → Nat
  | [] => 0
  | d :: r => uptoBulk d + uptoBulkAll r
def uptoBulkEntries {H : Type} : List (Lit × DataW H) → Nat
  | [] => 0
  | x :: r => uptoBulkEntry x + uptoBulkEntries r
def uptoBulkEntry {H : Type} : Lit × DataW H → Nat
  | (.string bytes, d) => bytes.length + uptoBulk d + 1
  | (_, d) => uptoBulk d + 1
 end
def uptoSmall : (H : Type) → List (DataW H) → Bool := fun _ ds => decide (uptoBulkAll ds ≤ 1048576)
def OpenSpec.upto (s : _root_.Go.ChangeSpec) : _root_.Go.OpenSpec := { _root_.Go.OpenSpec.ofChange s with cond := some uptoSmall }

/-- 'isochronlaw19.SpanChecks', WHERE WHAT IT READS IS OF BULK AT MOST 1048576: true; the input reads as it did. -/
def spanChecksUptoRow : OpenClaim := { program := "ytcpaijajddaidaa", sum := "5681bcd4c50e8a252b749a16b328b2a66b97a45ff9635a1eb07262ffd5c21542", func := "isochron/isochronlaw19.SpanChecks", spec := "spanChecks", unfollowed := true, recurses := true, apart := false, narrowed := true }
def SpanChecksUptoSaid : Prop := spanChecksUptoRow.holds Try.pinned (OpenSpec.upto spanChecksSpec)

/-- 'isochronlaw19.SpanSends', WHERE WHAT IT READS IS OF BULK AT MOST 1048576: true; the input reads as it did. -/
def spanSendsUptoRow : OpenClaim := { program := "ytcpaijajddaidaa", sum := "5681bcd4c50e8a252b749a16b328b2a66b97a45ff9635a1eb07262ffd5c21542", func := "isochron/isochronlaw19.SpanSends", spec := "spanSends", unfollowed := true, recurses := true, apart := false, narrowed := true }
def SpanSendsUptoSaid : Prop := spanSendsUptoRow.holds Try.pinned (OpenSpec.upto spanSendsSpec)

/-- 'isochronlaw19.SpanKnown', WHERE WHAT IT READS IS OF BULK AT MOST 1048576: true; the input reads as it did. -/
def spanKnownUptoRow : OpenClaim := { program := "ytcpaijajddaidaa", sum := "5681bcd4c50e8a252b749a16b328b2a66b97a45ff9635a1eb07262ffd5c21542", func := "isochron/isochronlaw19.SpanKnown", spec := "spanKnown", unfollowed := true, recurses := true, apart := false, narrowed := true }
def SpanKnownUptoSaid : Prop := spanKnownUptoRow.holds Try.pinned (OpenSpec.upto spanKnownSpec)

/-- 'isochronlaw19.SpanHears', WHERE WHAT IT READS IS OF BULK AT MOST 1048576: true; the input reads as it did. -/
def spanHearsUptoRow : OpenClaim := { program := "ytcpaijajddaidaa", sum := "5681bcd4c50e8a252b749a16b328b2a66b97a45ff9635a1eb07262ffd5c21542", func := "isochron/isochronlaw19.SpanHears", spec := "spanHears", unfollowed := true, recurses := true, apart := false, narrowed := true }
def SpanHearsUptoSaid : Prop := spanHearsUptoRow.holds Try.pinned (OpenSpec.upto spanHearsSpec)

/-- 'isochronlaw19.SpanRoots', WHERE WHAT IT READS IS OF BULK AT MOST 1048576: true; the input reads as it did. -/
def spanRootsUptoRow : OpenClaim := { program := "ytcpaijajddaidaa", sum := "5681bcd4c50e8a252b749a16b328b2a66b97a45ff9635a1eb07262ffd5c21542", func := "isochron/isochronlaw19.SpanRoots", spec := "spanRoots", unfollowed := true, recurses := true, apart := false, narrowed := true }
def SpanRootsUptoSaid : Prop := spanRootsUptoRow.holds Try.pinned (OpenSpec.upto spanRootsSpec)

/-- 'isochronlaw19.SpanClaims', WHERE WHAT IT READS IS OF BULK AT MOST 1048576: true; the input reads as it did. -/
def spanClaimsUptoRow : OpenClaim := { program := "ytcpaijajddaidaa", sum := "5681bcd4c50e8a252b749a16b328b2a66b97a45ff9635a1eb07262ffd5c21542", func := "isochron/isochronlaw19.SpanClaims", spec := "spanClaims", unfollowed := true, recurses := true, apart := false, narrowed := true }
def SpanClaimsUptoSaid : Prop := spanClaimsUptoRow.holds Try.pinned (OpenSpec.upto spanClaimsSpec)

/-- 'isochronlaw19.SpanForgets', WHERE WHAT IT READS IS OF BULK AT MOST 1048576: true; the input reads as it did. -/
def spanForgetsUptoRow : OpenClaim := { program := "ytcpaijajddaidaa", sum := "5681bcd4c50e8a252b749a16b328b2a66b97a45ff9635a1eb07262ffd5c21542", func := "isochron/isochronlaw19.SpanForgets", spec := "spanForgets", unfollowed := true, recurses := true, apart := false, narrowed := true }
def SpanForgetsUptoSaid : Prop := spanForgetsUptoRow.holds Try.pinned (OpenSpec.upto spanForgetsSpec)

/-- 'isochronlaw19.SpanKeeps', WHERE WHAT IT READS IS OF BULK AT MOST 1048576: true; the input reads as it did. -/
def spanKeepsUptoRow : OpenClaim := { program := "ytcpaijajddaidaa", sum := "5681bcd4c50e8a252b749a16b328b2a66b97a45ff9635a1eb07262ffd5c21542", func := "isochron/isochronlaw19.SpanKeeps", spec := "spanKeeps", unfollowed := true, recurses := true, apart := false, narrowed := true }
def SpanKeepsUptoSaid : Prop := spanKeepsUptoRow.holds Try.pinned (OpenSpec.upto spanKeepsSpec)

end Rows
end Go.Proofs.Ytcpaijajddaidaa
