import PyProof.Rows.All
import Wide.All
import OpenK.AllK
import Wide.FinOn
import PySem.Challenge.RW_mobileair_k15_errors_and_limits
set_option Elab.async false
open PySem PySem.W PyProof.Rows
set_option maxRecDepth 100000 in
set_option maxHeartbeats 0 in
theorem PySem.Challenge.cw_mobileair_k15_errors_and_limits_holds : PySem.Challenge.rw_mobileair_k15_errors_and_limits.Holds := by
  open_z
