/- The examples of chapter 39 hold. -/
import Derived.Test.YtkamfflnfnjbeaaPol
set_option linter.unusedSimpArgs false
set_option linter.unusedVariables false
namespace Go.Proofs.Ytkamfflnfnjbeaa
open Go Go.Abs

theorem works39_ans : ans Try.prog pol 15 [] = some (.sc (.bool true)) := ans_of_run (n := 100) 12 (by kernel_rfl)

end Go.Proofs.Ytkamfflnfnjbeaa
