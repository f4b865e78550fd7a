/- The law CmdDraws, plainly: its walk says all. -/
import Derived.Test.YtcadgbeablpnmaaCmdDrawsW
namespace Go.Proofs.Ytcadgbeablpnmaa.Plain
open Go.Proofs.Ytcadgbeablpnmaa.PCmd
theorem CmdDraws (l0 : List S25) {p : Prop} (_ : p) : ∃ k, temperalaw20_CmdDraws.f k l0 = some true := ⟨0, rfl⟩
end Go.Proofs.Ytcadgbeablpnmaa.Plain
