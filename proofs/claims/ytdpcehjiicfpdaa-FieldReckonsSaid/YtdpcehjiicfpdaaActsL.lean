/- The three fields of the curves. -/
import Derived.Test.YtdpcehjiicfpdaaFK
import Derived.Test.YtdpcehjiicfpdaaActs
import Derived.Test.YtdpcehjiicfpdaaProg
set_option autoImplicit false
set_option linter.all false
set_option maxHeartbeats 0
namespace Go.Proofs.Ytdpcehjiicfpdaa
open Go Go.SE
end Go.Proofs.Ytdpcehjiicfpdaa
