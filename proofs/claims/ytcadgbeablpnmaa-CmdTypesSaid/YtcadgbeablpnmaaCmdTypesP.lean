/- The law CmdTypes, plainly: its walk says all. -/
import Derived.Test.YtcadgbeablpnmaaCmdTypesW
namespace Go.Proofs.Ytcadgbeablpnmaa.Plain
open Go.Proofs.Ytcadgbeablpnmaa.PCmd
theorem CmdTypes (kind op h a b c d : Int) (l6 : List Int) (l7 : List S60) {p q : Prop} (_ : p) (_ : q) : ∃ k, temperalaw20_CmdTypes.f k kind op h a b c d l6 l7 = some true := ⟨0, rfl⟩
end Go.Proofs.Ytcadgbeablpnmaa.Plain
