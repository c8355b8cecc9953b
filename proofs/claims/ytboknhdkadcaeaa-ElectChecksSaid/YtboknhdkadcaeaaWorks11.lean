/- The examples of chapter 11 run to true. -/
import Derived.Test.YtboknhdkadcaeaaPol
set_option linter.unusedSimpArgs false
set_option linter.unusedVariables false
namespace Go.Proofs.Ytboknhdkadcaeaa
open Go Go.Abs

theorem works_ans : ans Try.prog pol 11 [] = some (.sc (.bool true)) := ans_of_run (n := 60) 10 (by kernel_rfl)

end Go.Proofs.Ytboknhdkadcaeaa
