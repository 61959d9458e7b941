/- Plain: blocks 516 to 686, checked by the kernel. -/
import Derived.Test.YtkojpnkknehhmaaGreatDoorZb
set_option maxRecDepth 100000
namespace Go.Proofs.YtkojpnkknehhmaaGreatDoor
open Go.RowKit
namespace Sun
theorem z516:YL 516 60=true:=by decide +kernel
theorem z576:YL 576 60=true:=by decide +kernel
theorem z636:YL 636 51=true:=by decide +kernel
end Sun
end Go.Proofs.YtkojpnkknehhmaaGreatDoor
