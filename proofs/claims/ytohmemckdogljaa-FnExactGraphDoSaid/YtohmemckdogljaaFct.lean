/- Facts of the translation that each row asks (whether calls may enter, how it was made), each reckoned apart: one after the other they keep within a build's memory. -/
import Derived.Test.YtohmemckdogljaaRows
import Derived.ProofKit
import Derived.KernelRfl
namespace Go.Proofs.Ytohmemckdogljaa.Fc
theorem mayEnter : Try.prog.mayEnter = true := by kernel_rfl
theorem liftsFinal : Try.prog.liftsFinal = false := by kernel_rfl
theorem make : Try.prog.make = some Rows.fnGraphUnionRow.make := by kernel_rfl
end Go.Proofs.Ytohmemckdogljaa.Fc
