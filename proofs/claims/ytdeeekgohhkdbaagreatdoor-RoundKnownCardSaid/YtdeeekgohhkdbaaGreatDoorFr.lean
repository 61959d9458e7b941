/- The frame of a law. -/
import Derived.Test.YtdeeekgohhkdbaaGreatDoorG1
import Derived.ProofKit
import Derived.SizedLaws
import Derived.OpenShut
import Derived.ShutString
import Derived.ChangeOld
import Derived.Below
import Derived.Carry
import Derived.WideShapes
namespace Go.Proofs.YtdeeekgohhkdbaaGreatDoor
open Go.RowKit
section
variable {P:Program} {W:World} {H:Type} {enc:TypeId × Value->H}
end
end Go.Proofs.YtdeeekgohhkdbaaGreatDoor
