/- The examples of chapter 19 run to true. -/
import Derived.Test.YtcpaijajddaidaaPol
set_option linter.unusedSimpArgs false
set_option linter.unusedVariables false
namespace Go.Proofs.Ytcpaijajddaidaa
open Go Go.Abs

theorem wakes_ans : ans Try.prog pol 11 [] = some (.sc (.bool true)) := ans_of_run (n := 60) 10 (by kernel_rfl)

end Go.Proofs.Ytcpaijajddaidaa
