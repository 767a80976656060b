/- Points as data; the walks over point.Check, point.Size, point.Put. -/
import Derived.Test.YtjhhknkhgilecaaPtC
import Derived.Test.YtjhhknkhgilecaaLio2
import Derived.Test.YtjhhknkhgilecaaSl
import Derived.Test.YtjhhknkhgilecaaArr
namespace Go.Proofs.Ytjhhknkhgilecaa.Pt
open Go.RowKit Lt
set_option linter.unusedVariables false
set_option linter.unusedSimpArgs false
end Go.Proofs.Ytjhhknkhgilecaa.Pt
