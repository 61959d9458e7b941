/- Plain: blocks 344 to 515, checked by the kernel. Plain: blocks 516 to 686, checked by the kernel. -/
import Derived.Test.YtkojpnkknehhmaaGreatDoorZb
set_option maxRecDepth 100000
namespace Go.Proofs.YtkojpnkknehhmaaGreatDoor
open Go.RowKit
namespace Sun
theorem z344:YP 344 60=true:=by decide +kernel
theorem z404:YP 404 60=true:=by decide +kernel
theorem z464:YP 464 52=true:=by decide +kernel
end Sun
end Go.Proofs.YtkojpnkknehhmaaGreatDoor
set_option maxRecDepth 100000
namespace Go.Proofs.YtkojpnkknehhmaaGreatDoor
open Go.RowKit
namespace Sun
theorem z516:YP 516 60=true:=by decide +kernel
theorem z576:YP 576 60=true:=by decide +kernel
theorem z636:YP 636 51=true:=by decide +kernel
end Sun
end Go.Proofs.YtkojpnkknehhmaaGreatDoor
