import Derived.Test.YtlglmooknlmomaaDoorC18
set_option linter.all false
section
namespace Go.Proofs.YtlglmooknlmomaaDoor
open Go.RowKit
theorem grewOf {X w : World} (h1 : X.heap = w.heap ∨ ∃ o, X.heap = w.heap.push o) (h2 : X.os = w.os) (h3 : X.tape = w.tape) (h4 : X.output = w.output) : Grew X w := ⟨h1, h2, h3, h4⟩
end Go.Proofs.YtlglmooknlmomaaDoor
end
