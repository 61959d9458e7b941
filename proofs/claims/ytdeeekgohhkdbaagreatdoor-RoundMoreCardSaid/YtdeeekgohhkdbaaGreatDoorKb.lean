/- Plain: what a plan without faults keeps. -/
import Derived.Test.YtdeeekgohhkdbaaGreatDoorKa
import Derived.Test.YtdeeekgohhkdbaaGreatDoorQd
namespace Go.Proofs.YtdeeekgohhkdbaaGreatDoor
structure KeepJ (t:TRoTask) (r:TTour) (n:Int):Prop where
 job:0 ≤ n ∧ n < t.Jobs.length
 lift:(jobAt t n).Height ≤ r.RoLorry.Lift
 span:spanR t n = (spanE t (jobAt t n),true,0)
 way:travelR t r.last n = (wayE t r.last n,0)
 arr:arriveE (depE t) r n ≤ startE (depE t) r n
 frm:(spanE t (jobAt t n)).From ≤ startE (depE t) r n
 til:endE (depE t) r n ≤ (spanE t (jobAt t n)).Until
 clo:(jobAt t n).Closure ≥ 0 → (jobAt t n).Closure < t.Closures.length ∧ (cloAt t (jobAt t n).Closure).From ≤ startE (depE t) r n ∧ endE (depE t) r n ≤ (cloAt t (jobAt t n).Closure).Until
 day:(jobAt t n).Daylight = true → lightB t (startE (depE t) r n) (endE (depE t) r n) = true
end Go.Proofs.YtdeeekgohhkdbaaGreatDoor
