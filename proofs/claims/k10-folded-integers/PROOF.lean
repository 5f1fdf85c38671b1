import PyProof.Rows.All
import Wide.All
import OpenK.AllK
import Wide.FinOn
import PySem.Challenge.RW_schemabridge_k10_folded_integers
open PySem PySem.W PyProof.Rows
set_option Elab.async false
set_option maxRecDepth 100000 in
set_option maxHeartbeats 8000000 in
theorem PySem.Challenge.cw_schemabridge_k10_folded_integers_holds : PySem.Challenge.rw_schemabridge_k10_folded_integers.Holds := by
  open_k
