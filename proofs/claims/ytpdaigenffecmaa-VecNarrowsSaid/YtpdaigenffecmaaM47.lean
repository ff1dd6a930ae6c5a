/-
  VecNarrows: runs of its code.
-/
import Derived.Test.YtpdaigenffecmaaM43
set_option linter.all false
namespace Go.Proofs.Ytpdaigenffecmaa
open Go.RowKit Go.Shelf

set_option maxRecDepth 100000 in
theorem oNv_run_fftt : runA Try.prog (tab Try.prog (oNvF false false true true) [(23, 2), (25, 6)] (oNvL false false true true) []) 6 3 oNvA = some (.v (.one (.bool true))) := by
  kernel_rfl
set_option maxRecDepth 100000 in
theorem oNv_run_fftf : runA Try.prog (tab Try.prog (oNvF false false true false) [(23, 2), (25, 6)] (oNvL false false true false) []) 6 3 oNvA = some (.v (.one (.bool true))) := by
  kernel_rfl
set_option maxRecDepth 100000 in
theorem oNv_run_ffft : runA Try.prog (tab Try.prog (oNvF false false false true) [(23, 2), (25, 6)] (oNvL false false false true) []) 6 3 oNvA = some (.v (.one (.bool true))) := by
  kernel_rfl
set_option maxRecDepth 100000 in
theorem oNv_run_ffff : runA Try.prog (tab Try.prog (oNvF false false false false) [(23, 2), (25, 6)] (oNvL false false false false) []) 6 3 oNvA = some (.v (.one (.bool true))) := by
  kernel_rfl

end Go.Proofs.Ytpdaigenffecmaa
