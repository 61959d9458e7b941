/- Contracts: sorting and compacting ints, by the library's contracts. -/
import Derived.Shelf.Sort.Plain
import Derived.Shelf.Slices.CompactI
import Derived.Test.YtdeeekgohhkdbaaGreatDoorR10
import Derived.Test.YtdeeekgohhkdbaaGreatDoorT
namespace Go.Proofs.YtdeeekgohhkdbaaGreatDoor
open Go.RowKit
end Go.Proofs.YtdeeekgohhkdbaaGreatDoor
