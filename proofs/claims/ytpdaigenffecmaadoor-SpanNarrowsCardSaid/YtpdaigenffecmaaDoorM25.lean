/-
  The walk of the reference's Sqrt.
-/
import Derived.Test.YtpdaigenffecmaaDoorM13
import Derived.Test.YtpdaigenffecmaaDoorM24
set_option linter.all false
namespace Go.Proofs.YtpdaigenffecmaaDoor
open Go.RowKit


end Go.Proofs.YtpdaigenffecmaaDoor
