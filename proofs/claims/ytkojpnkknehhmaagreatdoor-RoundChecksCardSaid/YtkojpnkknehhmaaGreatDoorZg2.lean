/- Plain: blocks 344 to 515, checked by the kernel. -/
import Derived.Test.YtkojpnkknehhmaaGreatDoorZb
set_option maxRecDepth 100000
namespace Go.Proofs.YtkojpnkknehhmaaGreatDoor
open Go.RowKit
namespace Sun
theorem z344:YL 344 60=true:=by decide +kernel
theorem z404:YL 404 60=true:=by decide +kernel
theorem z464:YL 464 52=true:=by decide +kernel
end Sun
end Go.Proofs.YtkojpnkknehhmaaGreatDoor
