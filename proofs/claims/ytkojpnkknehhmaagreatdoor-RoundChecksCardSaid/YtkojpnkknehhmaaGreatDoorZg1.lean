/- Plain: blocks 172 to 343, checked by the kernel. -/
import Derived.Test.YtkojpnkknehhmaaGreatDoorZb
set_option maxRecDepth 100000
namespace Go.Proofs.YtkojpnkknehhmaaGreatDoor
open Go.RowKit
namespace Sun
theorem z172:YL 172 60=true:=by decide +kernel
theorem z232:YL 232 60=true:=by decide +kernel
theorem z292:YL 292 52=true:=by decide +kernel
end Sun
end Go.Proofs.YtkojpnkknehhmaaGreatDoor
