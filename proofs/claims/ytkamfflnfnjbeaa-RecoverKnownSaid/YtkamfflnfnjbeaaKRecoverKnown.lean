/- RecoverKnown runs to true. -/
import Derived.Test.YtkamfflnfnjbeaaPol
set_option linter.unusedSimpArgs false
set_option linter.unusedVariables false
namespace Go.Proofs.Ytkamfflnfnjbeaa
open Go Go.Abs

theorem recoverKnown_ans : ans Try.prog pol 14 [] = some (.sc (.bool true)) := ans_of_run (n := 200) 14 (by kernel_rfl)

end Go.Proofs.Ytkamfflnfnjbeaa
