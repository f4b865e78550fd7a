/- The law CmdBack, plainly: its walk says all. -/
import Derived.Test.YtcadgbeablpnmaaCmdBackW
namespace Go.Proofs.Ytcadgbeablpnmaa.Plain
open Go.Proofs.Ytcadgbeablpnmaa.PCmd
theorem CmdBack (op h a b c d : Int) (l6 : List Int) (l7 : List S60) {p : Prop} (_ : p) : ∃ k, temperalaw20_CmdBack.f k op h a b c d l6 l7 = some true := ⟨0, rfl⟩
end Go.Proofs.Ytcadgbeablpnmaa.Plain
