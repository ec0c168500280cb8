/- Texts of one proof, merged: PA300, PA301, PA302. -/
import Derived.Test.YtaicamjpcnhjcaaMMachCodes4
import Derived.Test.YtaicamjpcnhjcaaRows
import Derived.JoinedOf
import Derived.KernelRfl
namespace Go.Proofs.Ytaicamjpcnhjcaa.PA
theorem enters : Try.prog.mayEnter = true := by kernel_rfl
end Go.Proofs.Ytaicamjpcnhjcaa.PA
namespace Go.Proofs.Ytaicamjpcnhjcaa.PA
theorem lifts : (Rows.stackCodesRow.lifted == Try.prog.liftsFinal) = true := by kernel_rfl
end Go.Proofs.Ytaicamjpcnhjcaa.PA
namespace Go.Proofs.Ytaicamjpcnhjcaa.PA
theorem makes : (Try.prog.make == some Rows.stackCodesRow.make) = true := by kernel_rfl
end Go.Proofs.Ytaicamjpcnhjcaa.PA
