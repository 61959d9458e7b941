/- Plain: the timetable of a round without faults. -/
import Derived.Test.YtdeeekgohhkdbaaGreatDoorQd
import Derived.Test.YtdeeekgohhkdbaaGreatDoorSm
namespace Go.Proofs.YtdeeekgohhkdbaaGreatDoor
theorem dup_no {L:List Int} (h:L.Nodup):dupB L = false:=by
 unfold dupB
 have hp:(sortL L).Perm L:=by unfold sortL; exact List.mergeSort_perm L _
 have hn:(sortL L).Nodup:=hp.nodup_iff.2 h
 have ha:(sortL L).Pairwise (· < ·):=by
  have h1:=sortL_asc L
  have:=h1.and hn
  exact this.imp fun ⟨g1,g2⟩ => by omega
 have e:Go.Lib.compact (sortL L) = sortL L:=asc_ext (comp_asc (sortL_asc L)) ha fun x => comp_mem
 rw [e,sortL_len,decide_eq_false (by omega)]
theorem visit_stops {d:TDepot} {r:TTour} {n:Int} (h:visitB d r n = true):(visitT d r n).stops = r.stops ++ [stopE d r n]:=by
 have e:visitT d r n = doneE d r n:=if_pos h
 rw [e]; rfl
end Go.Proofs.YtdeeekgohhkdbaaGreatDoor
