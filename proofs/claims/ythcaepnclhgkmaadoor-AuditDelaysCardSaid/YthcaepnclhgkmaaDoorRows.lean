/-
  NARROWER THAN 'FOR EVERY INPUT', by the rows' own cells (each row's printed sentence says how): AuditFinds: laid · AuditDelays: laid · AuditSound: laid · AuditFirst: laid · AuditKnown: laid · AuditChecks: laid.
  DERIVED. THE GIVEN ROWS OF THIS SEAT. 6 by the template 'for every input the law returns true; each argument reads behind the call as it read before'; 0 by the template 'total and deterministic' (their statements: YthcaepnclhgkmaaDoorTotals.lean).
  GIVEN WITH THE SEED: the statements are not yours to turn. If you find one false, say at which input.
  Laid BY PROGRAM, IN A SANDBOX (cutbox-rows.mjs): the forced cells as the released guide's own fill.sh prints them over the translation 4a3944ac9f745f8a… (all of the seat's roots in one cut). By AI agents, Wed Nov 11 2026. No macro, syntax, notation, axiom, sorry.
-/
import Derived.Test.YthcaepnclhgkmaaDoorChecked
import GoSem.Claim
import GoSem.ClaimJoined
import GoSem.ClaimMapViews
import Derived.JoinedTies
import Derived.KernelRfl
namespace Go.Proofs.YthcaepnclhgkmaaDoor
/- THE CELL 'sum', in the pinned program and in every row, IS THE sha256 OF THE DUMP (.gsa) THAT YthcaepnclhgkmaaDoorProg.lean LOADS. Nothing in Lean hashes anything: it is a label: what it is worth is what the hold of that sum in a sandbox is worth. -/
noncomputable def Tryd.pinned : Pinned := { name := "ythcaepnclhgkmaadoor", sum := "4a3944ac9f745f8ab4d07f3edc49819b6cf383dbf823ca0ab7f3018bb573acf4", checked := Tryd.checked }
namespace Rows
def none {H : Type} : Left H := { results := [], args := [] }

/- WHAT THE LISTED PACKAGE-LEVEL VARIABLES READ AS WHEN THE CALL BEGINS. Each datum BY PROGRAM (the guide's laid-datum.mjs) off the statement by which the dump's own 'gosem.cut.vars' lays the variable. In a bare row this is a premise. The card (YthcaepnclhgkmaaDoorCards.lean) ties it to the program's text. -/
def laid_math_bits_deBruijn32tab {H : Type} : DataW H := .agg [.lit (.int .u8 0), .lit (.int .u8 1), .lit (.int .u8 28), .lit (.int .u8 2), .lit (.int .u8 29), .lit (.int .u8 14), .lit (.int .u8 24), .lit (.int .u8 3), .lit (.int .u8 30), .lit (.int .u8 22), .lit (.int .u8 20), .lit (.int .u8 15), .lit (.int .u8 25), .lit (.int .u8 17), .lit (.int .u8 4), .lit (.int .u8 8), .lit (.int .u8 31), .lit (.int .u8 27), .lit (.int .u8 13), .lit (.int .u8 23), .lit (.int .u8 21), .lit (.int .u8 19), .lit (.int .u8 16), .lit (.int .u8 7), .lit (.int .u8 26), .lit (.int .u8 12), .lit (.int .u8 18), .lit (.int .u8 6), .lit (.int .u8 11), .lit (.int .u8 5), .lit (.int .u8 10), .lit (.int .u8 9)]
def laid_math_bits_deBruijn64tab {H : Type} : DataW H := .agg [.lit (.int .u8 0), .lit (.int .u8 1), .lit (.int .u8 56), .lit (.int .u8 2), .lit (.int .u8 57), .lit (.int .u8 49), .lit (.int .u8 28), .lit (.int .u8 3), .lit (.int .u8 61), .lit (.int .u8 58), .lit (.int .u8 42), .lit (.int .u8 50), .lit (.int .u8 38), .lit (.int .u8 29), .lit (.int .u8 17), .lit (.int .u8 4), .lit (.int .u8 62), .lit (.int .u8 47), .lit (.int .u8 59), .lit (.int .u8 36), .lit (.int .u8 45), .lit (.int .u8 43), .lit (.int .u8 51), .lit (.int .u8 22), .lit (.int .u8 53), .lit (.int .u8 39), .lit (.int .u8 33), .lit (.int .u8 30), .lit (.int .u8 24), .lit (.int .u8 18), .lit (.int .u8 12), .lit (.int .u8 5), .lit (.int .u8 63), .lit (.int .u8 55), .lit (.int .u8 48), .lit (.int .u8 27), .lit (.int .u8 60), .lit (.int .u8 41), .lit (.int .u8 37), .lit (.int .u8 16), .lit (.int .u8 46), .lit (.int .u8 35), .lit (.int .u8 44), .lit (.int .u8 21), .lit (.int .u8 52), .lit (.int .u8 32), .lit (.int .u8 23), .lit (.int .u8 11), .lit (.int .u8 54), .lit (.int .u8 26), .lit (.int .u8 40), .lit (.int .u8 15), .lit (.int .u8 34), .lit (.int .u8 20), .lit (.int .u8 31), .lit (.int .u8 10), .lit (.int .u8 25), .lit (.int .u8 14), .lit (.int .u8 19), .lit (.int .u8 9), .lit (.int .u8 13), .lit (.int .u8 8), .lit (.int .u8 7), .lit (.int .u8 6)]
def laid_internal_strconv_uint64pow10 {H : Type} : DataW H := .agg [.lit (.int .u64 1), .lit (.int .u64 10), .lit (.int .u64 100), .lit (.int .u64 1000), .lit (.int .u64 10000), .lit (.int .u64 100000), .lit (.int .u64 1000000), .lit (.int .u64 10000000), .lit (.int .u64 100000000), .lit (.int .u64 1000000000), .lit (.int .u64 10000000000), .lit (.int .u64 100000000000), .lit (.int .u64 1000000000000), .lit (.int .u64 10000000000000), .lit (.int .u64 100000000000000), .lit (.int .u64 1000000000000000), .lit (.int .u64 10000000000000000), .lit (.int .u64 100000000000000000), .lit (.int .u64 1000000000000000000), .lit (.int .u64 10000000000000000000)]
def laid_isochron_audit_words {H : Type} : DataW H := .agg [.lit (.string [111, 107]), .lit (.string [117, 110, 107, 110, 111, 119, 110]), .lit (.string [97, 103, 97, 105, 110]), .lit (.string [117, 110, 115, 101, 110, 116]), .lit (.string [116, 119, 105, 99, 101]), .lit (.string [101, 97, 114, 108, 121]), .lit (.string [108, 97, 116, 101]), .lit (.string [111, 114, 100, 101, 114]), .lit (.string [108, 111, 115, 116])]

/-- 'isochronlaw44.AuditFinds': WHATEVER THE INPUT: true; the input reads as it did. -/
def auditFindsSpec : ChangeSpec := { name := "auditFinds", fn := fun _ => fun
  | [d1, d2, d3, d4, d5] => { results := [.lit (.bool true)], args := [d1, d2, d3, d4, d5] }
  | _ => none }
def auditFindsRow : OpenClaim := { program := "ythcaepnclhgkmaadoor", sum := "4a3944ac9f745f8ab4d07f3edc49819b6cf383dbf823ca0ab7f3018bb573acf4", func := "isochron/isochronlaw44.AuditFinds", spec := "auditFinds", unfollowed := true, recurses := true, named := ["isochron/audit.words", "internal/strconv.uint64pow10", "math/bits.deBruijn32tab", "math/bits.deBruijn64tab"], plainKeys := false, apart := false, laid := [("math/bits.deBruijn32tab", laid_math_bits_deBruijn32tab), ("math/bits.deBruijn64tab", laid_math_bits_deBruijn64tab), ("internal/strconv.uint64pow10", laid_internal_strconv_uint64pow10), ("isochron/audit.words", laid_isochron_audit_words)] }
def AuditFindsSaid : Prop := auditFindsRow.holds Tryd.pinned (OpenSpec.ofChange auditFindsSpec)

/-- ITS FALSE NEIGHBOUR: 'it returns false'. Refute it at one input. -/
def auditFindsWrong : ChangeSpec := { name := "auditFinds", fn := fun _ => fun
  | [d1, d2, d3, d4, d5] => { results := [.lit (.bool false)], args := [d1, d2, d3, d4, d5] }
  | _ => none }
def AuditFindsWrongFalsely : Prop := auditFindsRow.holds Tryd.pinned (OpenSpec.ofChange auditFindsWrong)

/-- 'isochronlaw44.AuditDelays': WHATEVER THE INPUT: true; the input reads as it did. -/
def auditDelaysSpec : ChangeSpec := { name := "auditDelays", fn := fun _ => fun
  | [d1, d2, d3, d4] => { results := [.lit (.bool true)], args := [d1, d2, d3, d4] }
  | _ => none }
def auditDelaysRow : OpenClaim := { program := "ythcaepnclhgkmaadoor", sum := "4a3944ac9f745f8ab4d07f3edc49819b6cf383dbf823ca0ab7f3018bb573acf4", func := "isochron/isochronlaw44.AuditDelays", spec := "auditDelays", unfollowed := true, recurses := true, named := ["isochron/audit.words", "internal/strconv.uint64pow10", "math/bits.deBruijn32tab", "math/bits.deBruijn64tab"], plainKeys := false, apart := false, laid := [("math/bits.deBruijn32tab", laid_math_bits_deBruijn32tab), ("math/bits.deBruijn64tab", laid_math_bits_deBruijn64tab), ("internal/strconv.uint64pow10", laid_internal_strconv_uint64pow10), ("isochron/audit.words", laid_isochron_audit_words)] }
def AuditDelaysSaid : Prop := auditDelaysRow.holds Tryd.pinned (OpenSpec.ofChange auditDelaysSpec)

/-- ITS FALSE NEIGHBOUR: 'it returns false'. Refute it at one input. -/
def auditDelaysWrong : ChangeSpec := { name := "auditDelays", fn := fun _ => fun
  | [d1, d2, d3, d4] => { results := [.lit (.bool false)], args := [d1, d2, d3, d4] }
  | _ => none }
def AuditDelaysWrongFalsely : Prop := auditDelaysRow.holds Tryd.pinned (OpenSpec.ofChange auditDelaysWrong)

/-- 'isochronlaw44.AuditSound': WHATEVER THE INPUT: true; the input reads as it did. -/
def auditSoundSpec : ChangeSpec := { name := "auditSound", fn := fun _ => fun
  | [d1, d2, d3] => { results := [.lit (.bool true)], args := [d1, d2, d3] }
  | _ => none }
def auditSoundRow : OpenClaim := { program := "ythcaepnclhgkmaadoor", sum := "4a3944ac9f745f8ab4d07f3edc49819b6cf383dbf823ca0ab7f3018bb573acf4", func := "isochron/isochronlaw44.AuditSound", spec := "auditSound", unfollowed := true, recurses := true, named := ["isochron/audit.words", "internal/strconv.uint64pow10", "math/bits.deBruijn32tab", "math/bits.deBruijn64tab"], plainKeys := false, apart := false, laid := [("math/bits.deBruijn32tab", laid_math_bits_deBruijn32tab), ("math/bits.deBruijn64tab", laid_math_bits_deBruijn64tab), ("internal/strconv.uint64pow10", laid_internal_strconv_uint64pow10), ("isochron/audit.words", laid_isochron_audit_words)] }
def AuditSoundSaid : Prop := auditSoundRow.holds Tryd.pinned (OpenSpec.ofChange auditSoundSpec)

/-- ITS FALSE NEIGHBOUR: 'it returns false'. Refute it at one input. -/
def auditSoundWrong : ChangeSpec := { name := "auditSound", fn := fun _ => fun
  | [d1, d2, d3] => { results := [.lit (.bool false)], args := [d1, d2, d3] }
  | _ => none }
def AuditSoundWrongFalsely : Prop := auditSoundRow.holds Tryd.pinned (OpenSpec.ofChange auditSoundWrong)

/-- 'isochronlaw44.AuditFirst': WHATEVER THE INPUT: true; the input reads as it did. -/
def auditFirstSpec : ChangeSpec := { name := "auditFirst", fn := fun _ => fun
  | [d1, d2, d3] => { results := [.lit (.bool true)], args := [d1, d2, d3] }
  | _ => none }
def auditFirstRow : OpenClaim := { program := "ythcaepnclhgkmaadoor", sum := "4a3944ac9f745f8ab4d07f3edc49819b6cf383dbf823ca0ab7f3018bb573acf4", func := "isochron/isochronlaw44.AuditFirst", spec := "auditFirst", unfollowed := true, recurses := true, named := ["isochron/audit.words", "internal/strconv.uint64pow10", "math/bits.deBruijn32tab", "math/bits.deBruijn64tab"], plainKeys := false, apart := false, laid := [("math/bits.deBruijn32tab", laid_math_bits_deBruijn32tab), ("math/bits.deBruijn64tab", laid_math_bits_deBruijn64tab), ("internal/strconv.uint64pow10", laid_internal_strconv_uint64pow10), ("isochron/audit.words", laid_isochron_audit_words)] }
def AuditFirstSaid : Prop := auditFirstRow.holds Tryd.pinned (OpenSpec.ofChange auditFirstSpec)

/-- ITS FALSE NEIGHBOUR: 'it returns false'. Refute it at one input. -/
def auditFirstWrong : ChangeSpec := { name := "auditFirst", fn := fun _ => fun
  | [d1, d2, d3] => { results := [.lit (.bool false)], args := [d1, d2, d3] }
  | _ => none }
def AuditFirstWrongFalsely : Prop := auditFirstRow.holds Tryd.pinned (OpenSpec.ofChange auditFirstWrong)

/-- 'isochronlaw44.AuditKnown': WHATEVER THE INPUT: true; the input reads as it did. -/
def auditKnownSpec : ChangeSpec := { name := "auditKnown", fn := fun _ => fun
  | [] => { results := [.lit (.bool true)], args := [] }
  | _ => none }
def auditKnownRow : OpenClaim := { program := "ythcaepnclhgkmaadoor", sum := "4a3944ac9f745f8ab4d07f3edc49819b6cf383dbf823ca0ab7f3018bb573acf4", func := "isochron/isochronlaw44.AuditKnown", spec := "auditKnown", unfollowed := true, recurses := true, named := ["isochron/audit.words", "internal/strconv.uint64pow10", "math/bits.deBruijn32tab", "math/bits.deBruijn64tab"], plainKeys := false, apart := false, laid := [("math/bits.deBruijn32tab", laid_math_bits_deBruijn32tab), ("math/bits.deBruijn64tab", laid_math_bits_deBruijn64tab), ("internal/strconv.uint64pow10", laid_internal_strconv_uint64pow10), ("isochron/audit.words", laid_isochron_audit_words)] }
def AuditKnownSaid : Prop := auditKnownRow.holds Tryd.pinned (OpenSpec.ofChange auditKnownSpec)

/-- ITS FALSE NEIGHBOUR: 'it returns false'. Refute it at one input. -/
def auditKnownWrong : ChangeSpec := { name := "auditKnown", fn := fun _ => fun
  | [] => { results := [.lit (.bool false)], args := [] }
  | _ => none }
def AuditKnownWrongFalsely : Prop := auditKnownRow.holds Tryd.pinned (OpenSpec.ofChange auditKnownWrong)

/-- 'isochronlaw44.AuditChecks': WHATEVER THE INPUT: true; the input reads as it did. -/
def auditChecksSpec : ChangeSpec := { name := "auditChecks", fn := fun _ => fun
  | [d1, d2, d3, d4, d5, d6, d7] => { results := [.lit (.bool true)], args := [d1, d2, d3, d4, d5, d6, d7] }
  | _ => none }
def auditChecksRow : OpenClaim := { program := "ythcaepnclhgkmaadoor", sum := "4a3944ac9f745f8ab4d07f3edc49819b6cf383dbf823ca0ab7f3018bb573acf4", func := "isochron/isochronlaw44.AuditChecks", spec := "auditChecks", unfollowed := true, recurses := true, named := ["isochron/audit.words", "internal/strconv.uint64pow10", "math/bits.deBruijn32tab", "math/bits.deBruijn64tab"], plainKeys := false, apart := false, laid := [("math/bits.deBruijn32tab", laid_math_bits_deBruijn32tab), ("math/bits.deBruijn64tab", laid_math_bits_deBruijn64tab), ("internal/strconv.uint64pow10", laid_internal_strconv_uint64pow10), ("isochron/audit.words", laid_isochron_audit_words)] }
def AuditChecksSaid : Prop := auditChecksRow.holds Tryd.pinned (OpenSpec.ofChange auditChecksSpec)

/-- ITS FALSE NEIGHBOUR: 'it returns false'. Refute it at one input. -/
def auditChecksWrong : ChangeSpec := { name := "auditChecks", fn := fun _ => fun
  | [d1, d2, d3, d4, d5, d6, d7] => { results := [.lit (.bool false)], args := [d1, d2, d3, d4, d5, d6, d7] }
  | _ => none }
def AuditChecksWrongFalsely : Prop := auditChecksRow.holds Tryd.pinned (OpenSpec.ofChange auditChecksWrong)

/- THE SECOND FORM. 'bulk': how many values and letters a reading holds, each counted each time it is reached (what is shared counts as often as it is met; a slice's spare places count too). A statement '..UptoSaid' is the law's where the arguments, and the package variables that the reading takes, are together of bulk at most 1048576: NARROWER than '..Said'. Prove '..Said' where nothing that the law and all that it calls make is longer than what came in: it says more and counts as full. Else prove '..UptoSaid'. A law counts once. -/
mutual
def uptoBulk {H : Type} : DataW H → Nat
  | .lit (.string bytes) => bytes.length + 1
  | .lit _ => 1
  | .nil => 1
  | .ptr d => uptoBulk d + 1
  | .slice elems spare => uptoBulkAll elems + uptoBulkAll spare + 1
  | .agg parts => uptoBulkAll parts + 1
  | .iface _ d => uptoBulk d + 1
  | .map entries => uptoBulkEntries entries + 1
  | .held _ => 1
def uptoBulkAll {H : Type} : List (DataW H) → Nat
  | [] => 0
  | d :: r => uptoBulk d + uptoBulkAll r
def uptoBulkEntries {H : Type} : List (Lit × DataW H) → Nat
  | [] => 0
  | x :: r => uptoBulkEntry x + uptoBulkEntries r
def uptoBulkEntry {H : Type} : Lit × DataW H → Nat
  | (.string bytes, d) => bytes.length + uptoBulk d + 1
  | (_, d) => uptoBulk d + 1
 end
def uptoSmall : (H : Type) → List (DataW H) → Bool := fun _ ds => decide (uptoBulkAll ds ≤ 1048576)
def OpenSpec.upto (s : _root_.Go.ChangeSpec) : _root_.Go.OpenSpec := { _root_.Go.OpenSpec.ofChange s with cond := some uptoSmall }

/-- 'isochronlaw44.AuditFinds', WHERE WHAT IT READS IS OF BULK AT MOST 1048576: true; the input reads as it did. -/
def auditFindsUptoRow : OpenClaim := { program := "ythcaepnclhgkmaadoor", sum := "4a3944ac9f745f8ab4d07f3edc49819b6cf383dbf823ca0ab7f3018bb573acf4", func := "isochron/isochronlaw44.AuditFinds", spec := "auditFinds", unfollowed := true, recurses := true, named := ["isochron/audit.words", "internal/strconv.uint64pow10", "math/bits.deBruijn32tab", "math/bits.deBruijn64tab"], plainKeys := false, apart := false, laid := [("math/bits.deBruijn32tab", laid_math_bits_deBruijn32tab), ("math/bits.deBruijn64tab", laid_math_bits_deBruijn64tab), ("internal/strconv.uint64pow10", laid_internal_strconv_uint64pow10), ("isochron/audit.words", laid_isochron_audit_words)], narrowed := true }
def AuditFindsUptoSaid : Prop := auditFindsUptoRow.holds Tryd.pinned (OpenSpec.upto auditFindsSpec)

/-- 'isochronlaw44.AuditDelays', WHERE WHAT IT READS IS OF BULK AT MOST 1048576: true; the input reads as it did. -/
def auditDelaysUptoRow : OpenClaim := { program := "ythcaepnclhgkmaadoor", sum := "4a3944ac9f745f8ab4d07f3edc49819b6cf383dbf823ca0ab7f3018bb573acf4", func := "isochron/isochronlaw44.AuditDelays", spec := "auditDelays", unfollowed := true, recurses := true, named := ["isochron/audit.words", "internal/strconv.uint64pow10", "math/bits.deBruijn32tab", "math/bits.deBruijn64tab"], plainKeys := false, apart := false, laid := [("math/bits.deBruijn32tab", laid_math_bits_deBruijn32tab), ("math/bits.deBruijn64tab", laid_math_bits_deBruijn64tab), ("internal/strconv.uint64pow10", laid_internal_strconv_uint64pow10), ("isochron/audit.words", laid_isochron_audit_words)], narrowed := true }
def AuditDelaysUptoSaid : Prop := auditDelaysUptoRow.holds Tryd.pinned (OpenSpec.upto auditDelaysSpec)

/-- 'isochronlaw44.AuditSound', WHERE WHAT IT READS IS OF BULK AT MOST 1048576: true; the input reads as it did. -/
def auditSoundUptoRow : OpenClaim := { program := "ythcaepnclhgkmaadoor", sum := "4a3944ac9f745f8ab4d07f3edc49819b6cf383dbf823ca0ab7f3018bb573acf4", func := "isochron/isochronlaw44.AuditSound", spec := "auditSound", unfollowed := true, recurses := true, named := ["isochron/audit.words", "internal/strconv.uint64pow10", "math/bits.deBruijn32tab", "math/bits.deBruijn64tab"], plainKeys := false, apart := false, laid := [("math/bits.deBruijn32tab", laid_math_bits_deBruijn32tab), ("math/bits.deBruijn64tab", laid_math_bits_deBruijn64tab), ("internal/strconv.uint64pow10", laid_internal_strconv_uint64pow10), ("isochron/audit.words", laid_isochron_audit_words)], narrowed := true }
def AuditSoundUptoSaid : Prop := auditSoundUptoRow.holds Tryd.pinned (OpenSpec.upto auditSoundSpec)

/-- 'isochronlaw44.AuditFirst', WHERE WHAT IT READS IS OF BULK AT MOST 1048576: true; the input reads as it did. -/
def auditFirstUptoRow : OpenClaim := { program := "ythcaepnclhgkmaadoor", sum := "4a3944ac9f745f8ab4d07f3edc49819b6cf383dbf823ca0ab7f3018bb573acf4", func := "isochron/isochronlaw44.AuditFirst", spec := "auditFirst", unfollowed := true, recurses := true, named := ["isochron/audit.words", "internal/strconv.uint64pow10", "math/bits.deBruijn32tab", "math/bits.deBruijn64tab"], plainKeys := false, apart := false, laid := [("math/bits.deBruijn32tab", laid_math_bits_deBruijn32tab), ("math/bits.deBruijn64tab", laid_math_bits_deBruijn64tab), ("internal/strconv.uint64pow10", laid_internal_strconv_uint64pow10), ("isochron/audit.words", laid_isochron_audit_words)], narrowed := true }
def AuditFirstUptoSaid : Prop := auditFirstUptoRow.holds Tryd.pinned (OpenSpec.upto auditFirstSpec)

/-- 'isochronlaw44.AuditKnown', WHERE WHAT IT READS IS OF BULK AT MOST 1048576: true; the input reads as it did. -/
def auditKnownUptoRow : OpenClaim := { program := "ythcaepnclhgkmaadoor", sum := "4a3944ac9f745f8ab4d07f3edc49819b6cf383dbf823ca0ab7f3018bb573acf4", func := "isochron/isochronlaw44.AuditKnown", spec := "auditKnown", unfollowed := true, recurses := true, named := ["isochron/audit.words", "internal/strconv.uint64pow10", "math/bits.deBruijn32tab", "math/bits.deBruijn64tab"], plainKeys := false, apart := false, laid := [("math/bits.deBruijn32tab", laid_math_bits_deBruijn32tab), ("math/bits.deBruijn64tab", laid_math_bits_deBruijn64tab), ("internal/strconv.uint64pow10", laid_internal_strconv_uint64pow10), ("isochron/audit.words", laid_isochron_audit_words)], narrowed := true }
def AuditKnownUptoSaid : Prop := auditKnownUptoRow.holds Tryd.pinned (OpenSpec.upto auditKnownSpec)

/-- 'isochronlaw44.AuditChecks', WHERE WHAT IT READS IS OF BULK AT MOST 1048576: true; the input reads as it did. -/
def auditChecksUptoRow : OpenClaim := { program := "ythcaepnclhgkmaadoor", sum := "4a3944ac9f745f8ab4d07f3edc49819b6cf383dbf823ca0ab7f3018bb573acf4", func := "isochron/isochronlaw44.AuditChecks", spec := "auditChecks", unfollowed := true, recurses := true, named := ["isochron/audit.words", "internal/strconv.uint64pow10", "math/bits.deBruijn32tab", "math/bits.deBruijn64tab"], plainKeys := false, apart := false, laid := [("math/bits.deBruijn32tab", laid_math_bits_deBruijn32tab), ("math/bits.deBruijn64tab", laid_math_bits_deBruijn64tab), ("internal/strconv.uint64pow10", laid_internal_strconv_uint64pow10), ("isochron/audit.words", laid_isochron_audit_words)], narrowed := true }
def AuditChecksUptoSaid : Prop := auditChecksUptoRow.holds Tryd.pinned (OpenSpec.upto auditChecksSpec)

end Rows
end Go.Proofs.YthcaepnclhgkmaaDoor
