/- The closed calls of chapter 18. -/
import Derived.Test.YtklhidaojokoaaaPol
set_option linter.unusedSimpArgs false
set_option linter.unusedVariables false
namespace Go.Proofs.Ytklhidaojokoaaa
open Go Go.Abs

theorem wakes_ans : ans Try.prog pol 11 [] = some (.sc (.bool true)) := ans_of_run (n := 100) 12 (by kernel_rfl)
theorem vectorKnown_ans : ans Try.prog pol 10 [] = some (.sc (.bool true)) := ans_of_run (n := 100) 12 (by kernel_rfl)

end Go.Proofs.Ytklhidaojokoaaa
