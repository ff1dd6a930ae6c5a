/-
  VecNarrows: runs of its code.
-/
import Derived.Test.YtpdaigenffecmaaM43
set_option linter.all false
namespace Go.Proofs.Ytpdaigenffecmaa
open Go.RowKit Go.Shelf

set_option maxRecDepth 100000 in
theorem oNv_run_tftt : runA Try.prog (tab Try.prog (oNvF true false true true) [(23, 2), (25, 6)] (oNvL true false true true) []) 6 3 oNvA = some (.v (.one (.bool true))) := by
  kernel_rfl
set_option maxRecDepth 100000 in
theorem oNv_run_tftf : runA Try.prog (tab Try.prog (oNvF true false true false) [(23, 2), (25, 6)] (oNvL true false true false) []) 6 3 oNvA = some (.v (.one (.bool true))) := by
  kernel_rfl
set_option maxRecDepth 100000 in
theorem oNv_run_tfft : runA Try.prog (tab Try.prog (oNvF true false false true) [(23, 2), (25, 6)] (oNvL true false false true) []) 6 3 oNvA = some (.v (.one (.bool true))) := by
  kernel_rfl
set_option maxRecDepth 100000 in
theorem oNv_run_tfff : runA Try.prog (tab Try.prog (oNvF true false false false) [(23, 2), (25, 6)] (oNvL true false false false) []) 6 3 oNvA = some (.v (.one (.bool true))) := by
  kernel_rfl

end Go.Proofs.Ytpdaigenffecmaa
