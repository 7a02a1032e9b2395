/- The duals of the program's shorter spaces are the reference's longer ones, reckoned. -/
import Derived.Test.YtaopplbahakpgaaPureFnExactGreedySpacesb
namespace Go.Proofs.Ytaopplbahakpgaa.PureFnExactGreedySpaces
open Go.RowKit Go.Proofs.Ytaopplbahakpgaa.PFnExactGreedySpaces Go.Proofs.YtaopplbahakpgaaW.PrintWords Go.Proofs.YtaopplbahakpgaaW.PrintLast Go.Proofs.YtaopplbahakpgaaW.PrintMore
set_option linter.unusedVariables false
set_option linter.unusedSimpArgs false
set_option maxRecDepth 1000000
theorem K_1_1 : kerB 1 L_1_0 L_1_1 = true := by decide +kernel
theorem K_2_2 : kerB 2 L_2_0 L_2_2 = true := by decide +kernel
theorem K_3_2 : kerB 3 L_3_1 L_3_2 = true := by decide +kernel
theorem K_3_3 : kerB 3 L_3_0 L_3_3 = true := by decide +kernel
theorem K_4_3 : kerB 4 L_4_1 L_4_3 = true := by decide +kernel
theorem K_4_4 : kerB 4 L_4_0 L_4_4 = true := by decide +kernel
theorem K_5_3 : kerB 5 L_5_2 L_5_3 = true := by decide +kernel
theorem K_5_4 : kerB 5 L_5_1 L_5_4 = true := by decide +kernel
theorem K_5_5 : kerB 5 L_5_0 L_5_5 = true := by decide +kernel
theorem K_6_5 : kerB 6 L_6_1 L_6_5 = true := by decide +kernel
theorem K_6_6 : kerB 6 L_6_0 L_6_6 = true := by decide +kernel
theorem K_7_6 : kerB 7 L_7_1 L_7_6 = true := by decide +kernel
theorem K_7_7 : kerB 7 L_7_0 L_7_7 = true := by decide +kernel
theorem K_8_7 : kerB 8 L_8_1 L_8_7 = true := by decide +kernel
theorem K_8_8 : kerB 8 L_8_0 L_8_8 = true := by decide +kernel
theorem K_9_9 : kerB 9 L_9_0 L_9_9 = true := by decide +kernel
theorem K_10_10 : kerB 10 L_10_0 L_10_10 = true := by decide +kernel
end Go.Proofs.Ytaopplbahakpgaa.PureFnExactGreedySpaces
