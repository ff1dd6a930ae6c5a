/-
  VecNarrows: runs of its code.
-/
import Derived.Test.YtpdaigenffecmaaM43
set_option linter.all false
namespace Go.Proofs.Ytpdaigenffecmaa
open Go.RowKit Go.Shelf

set_option maxRecDepth 100000 in
theorem oNv_run_fttt : runA Try.prog (tab Try.prog (oNvF false true true true) [(23, 2), (25, 6)] (oNvL false true true true) []) 6 3 oNvA = some (.v (.one (.bool true))) := by
  kernel_rfl
set_option maxRecDepth 100000 in
theorem oNv_run_fttf : runA Try.prog (tab Try.prog (oNvF false true true false) [(23, 2), (25, 6)] (oNvL false true true false) []) 6 3 oNvA = some (.v (.one (.bool true))) := by
  kernel_rfl
set_option maxRecDepth 100000 in
theorem oNv_run_ftft : runA Try.prog (tab Try.prog (oNvF false true false true) [(23, 2), (25, 6)] (oNvL false true false true) []) 6 3 oNvA = some (.v (.one (.bool true))) := by
  kernel_rfl
set_option maxRecDepth 100000 in
theorem oNv_run_ftff : runA Try.prog (tab Try.prog (oNvF false true false false) [(23, 2), (25, 6)] (oNvL false true false false) []) 6 3 oNvA = some (.v (.one (.bool true))) := by
  kernel_rfl

end Go.Proofs.Ytpdaigenffecmaa
