/- Plain: the timetable of a round without faults. -/
import Derived.Test.YtdeeekgohhkdbaaGreatDoorQd
import Derived.Test.YtdeeekgohhkdbaaGreatDoorSm
namespace Go.Proofs.YtdeeekgohhkdbaaGreatDoor
theorem GR {L:List Int} (h:L.Nodup):k9 L=false:=by
 unfold k9;have hp:(qW L).Perm L:=by unfold qW;exact List.mergeSort_perm L _
 have hn:(qW L).Nodup:=hp.nodup_iff.2 h;have ha:(qW L).Pairwise (·<·):=by
  have h1:=Yi L;have:=h1.and hn;exact this.imp fun⟨g1,g2⟩=>by omega
 have e:Go.Lib.compact (qW L)=qW L:=N9 (Uu (Yi L)) ha fun x=>Uv
 rw[e,vB,decide_eq_false (by omega)]
end Go.Proofs.YtdeeekgohhkdbaaGreatDoor
