/-
  VecNarrows: runs of its code.
-/
import Derived.Test.YtpdaigenffecmaaM43
set_option linter.all false
namespace Go.Proofs.Ytpdaigenffecmaa
open Go.RowKit Go.Shelf

set_option maxRecDepth 100000 in
theorem oNv_run_tttt : runA Try.prog (tab Try.prog (oNvF true true true true) [(23, 2), (25, 6)] (oNvL true true true true) []) 6 3 oNvA = some (.v (.one (.bool true))) := by
  kernel_rfl
set_option maxRecDepth 100000 in
theorem oNv_run_tttf : runA Try.prog (tab Try.prog (oNvF true true true false) [(23, 2), (25, 6)] (oNvL true true true false) []) 6 3 oNvA = some (.v (.one (.bool true))) := by
  kernel_rfl
set_option maxRecDepth 100000 in
theorem oNv_run_ttft : runA Try.prog (tab Try.prog (oNvF true true false true) [(23, 2), (25, 6)] (oNvL true true false true) []) 6 3 oNvA = some (.v (.one (.bool true))) := by
  kernel_rfl
set_option maxRecDepth 100000 in
theorem oNv_run_ttff : runA Try.prog (tab Try.prog (oNvF true true false false) [(23, 2), (25, 6)] (oNvL true true false false) []) 6 3 oNvA = some (.v (.one (.bool true))) := by
  kernel_rfl

end Go.Proofs.Ytpdaigenffecmaa
