/- Plain: blocks 0 to 171, checked by the kernel. -/
import Derived.Test.YtkojpnkknehhmaaGreatDoorZb
set_option maxRecDepth 100000
namespace Go.Proofs.YtkojpnkknehhmaaGreatDoor
open Go.RowKit
namespace Sun
theorem z0:YL 0 60=true:=by decide +kernel
theorem z60:YL 60 60=true:=by decide +kernel
theorem z120:YL 120 52=true:=by decide +kernel
end Sun
end Go.Proofs.YtkojpnkknehhmaaGreatDoor
