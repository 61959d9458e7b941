/- Plain: plans without faults: what judge says of them, and the other way about. -/
import Derived.Test.YtdeeekgohhkdbaaGreatDoorSk
import Derived.Test.YtdeeekgohhkdbaaGreatDoorOd
namespace Go.Proofs.YtdeeekgohhkdbaaGreatDoor
end Go.Proofs.YtdeeekgohhkdbaaGreatDoor
namespace Go.Proofs.YtdeeekgohhkdbaaGreatDoor
end Go.Proofs.YtdeeekgohhkdbaaGreatDoor
