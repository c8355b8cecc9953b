/- The examples of chapter 44 hold. -/
import Derived.Test.YthcaepnclhgkmaaDoorPol
namespace Go.Proofs.YthcaepnclhgkmaaDoor
open Go Go.Abs

theorem works44_ans : ans Tryd.prog pol 9 [] = some (.sc (.bool true)) := ans_of_run (n := 100) 12 (by kernel_rfl)

end Go.Proofs.YthcaepnclhgkmaaDoor
