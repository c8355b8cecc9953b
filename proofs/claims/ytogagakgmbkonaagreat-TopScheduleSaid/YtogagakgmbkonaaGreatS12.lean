/- Part 12 of the proof of TopSchedule. -/
import Derived.Test.YtogagakgmbkonaaGreatS11
set_option linter.all false
set_option maxRecDepth 100000
set_option maxHeartbeats 4000000
namespace Go.Abs
open Go
end Go.Abs
