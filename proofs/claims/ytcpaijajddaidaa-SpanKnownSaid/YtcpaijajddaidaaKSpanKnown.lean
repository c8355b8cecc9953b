/- SpanKnown runs to true. -/
import Derived.Test.YtcpaijajddaidaaPol
set_option linter.unusedSimpArgs false
set_option linter.unusedVariables false
namespace Go.Proofs.Ytcpaijajddaidaa
open Go Go.Abs

theorem spanKnown_ans : ans Try.prog pol 5 [] = some (.sc (.bool true)) := ans_of_run (n := 200) 14 (by kernel_rfl)

end Go.Proofs.Ytcpaijajddaidaa
