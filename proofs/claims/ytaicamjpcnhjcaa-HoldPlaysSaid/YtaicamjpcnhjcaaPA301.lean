/- Closed facts of the translation that every row asks for. -/
import Derived.Test.YtaicamjpcnhjcaaRows
import Derived.JoinedOf
import Derived.KernelRfl
namespace Go.Proofs.Ytaicamjpcnhjcaa.PA
theorem lifts : (Rows.stackCodesRow.lifted == Try.prog.liftsFinal) = true := by kernel_rfl
end Go.Proofs.Ytaicamjpcnhjcaa.PA
