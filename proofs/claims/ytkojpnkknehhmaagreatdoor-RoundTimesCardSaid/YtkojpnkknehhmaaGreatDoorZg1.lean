/- Plain: blocks 0 to 171, checked by the kernel. Plain: blocks 172 to 343, checked by the kernel. -/
import Derived.Test.YtkojpnkknehhmaaGreatDoorZb
set_option maxRecDepth 100000
namespace Go.Proofs.YtkojpnkknehhmaaGreatDoor
open Go.RowKit
namespace Sun
theorem z0:YP 0 60=true:=by decide +kernel
theorem z60:YP 60 60=true:=by decide +kernel
theorem z120:YP 120 52=true:=by decide +kernel
end Sun
end Go.Proofs.YtkojpnkknehhmaaGreatDoor
set_option maxRecDepth 100000
namespace Go.Proofs.YtkojpnkknehhmaaGreatDoor
open Go.RowKit
namespace Sun
theorem z172:YP 172 60=true:=by decide +kernel
theorem z232:YP 232 60=true:=by decide +kernel
theorem z292:YP 292 52=true:=by decide +kernel
end Sun
end Go.Proofs.YtkojpnkknehhmaaGreatDoor
