/- Plain: the timetable of a round without faults. -/
import Derived.Test.YtdeeekgohhkdbaaGreatDoorQd
import Derived.Test.YtdeeekgohhkdbaaGreatDoorSm
namespace Go.Proofs.YtdeeekgohhkdbaaGreatDoor
theorem never_no {a b:TRoSpan} (h:neverB (bothE a b) = false):maxE a.From b.From ≤ minE a.Until b.Until ∧ bothE a b = ⟨maxE a.From b.From,minE a.Until b.Until⟩:=by
 unfold bothE at *
 by_cases hc:maxE a.From b.From > minE a.Until b.Until
 ·rw [if_pos hc] at h; exact absurd h (by decide)
 ·rw [if_neg hc]; exact ⟨by omega,rfl⟩
theorem max_ge (a b:Int):a ≤ maxE a b ∧ b ≤ maxE a b:=by unfold maxE; split <;> omega
theorem min_le (a b:Int):minE a b ≤ a ∧ minE a b ≤ b:=by unfold minE; split <;> omega
theorem both_never {a b:TRoSpan} (h:neverB (bothE a b) = false) (ha:neverB a = true):False:=by
 obtain ⟨h1,_⟩:=never_no h
 unfold neverB at ha
 rw [Bool.and_eq_true,Bool.and_true,beq_iff_eq,beq_iff_eq] at ha
 have:=max_ge a.From b.From
 have:=min_le a.Until b.Until
 omega
end Go.Proofs.YtdeeekgohhkdbaaGreatDoor
