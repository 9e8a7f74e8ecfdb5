/- The law of no machine: the known run is evaluated. -/
import Derived.Test.YtfgdjpgdabjpmaaStMachineNone
namespace Go.Proofs.Ytfgdjpgdabjpmaa.Pure
open Go.RowKit Go.Proofs.YtfgdjpgdabjpmaaW.PrintWords Go.Proofs.YtfgdjpgdabjpmaaW.PrintLast Go.Proofs.YtfgdjpgdabjpmaaW.PrintMore Go.Proofs.Ytfgdjpgdabjpmaa.PMachineNone
set_option linter.unusedVariables false
set_option linter.unusedSimpArgs false
theorem works_true : pleatlaw10_works.f 60 = some true := by decide +kernel
theorem MachineNone : St.MachineNone := by
  intro n hn
  refine ⟨60, ?_⟩
  unfold pleatlaw10_MachineNone.f
  rw [works_true]
  rfl
end Go.Proofs.Ytfgdjpgdabjpmaa.Pure
