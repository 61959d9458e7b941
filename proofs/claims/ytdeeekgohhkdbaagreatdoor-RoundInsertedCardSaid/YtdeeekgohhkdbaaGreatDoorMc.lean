/- Contracts: the program's search of the best programme. -/
import Derived.Test.YtdeeekgohhkdbaaGreatDoorMa
import Derived.Test.YtdeeekgohhkdbaaGreatDoorSe
namespace Go.Proofs.YtdeeekgohhkdbaaGreatDoor
open Go.RowKit
/- cells -/
structure Fc (p:TRoProgramme) (now left na:List Int) (so:Int):Prop where
 al:na.length=p.Assets.length
 nw:na.take now.length=now
 ll:left.length=p.Budgets.length
 lb:∀ i,i<left.length->0<=left.getD i 0/\left.getD i 0<=10000000
 so:0<=so/\so<=now.length*5760000000
end Go.Proofs.YtdeeekgohhkdbaaGreatDoor
