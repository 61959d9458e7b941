/- Plain: the timetable of a round without faults. -/
import Derived.Test.YtdeeekgohhkdbaaGreatDoorQd
import Derived.Test.YtdeeekgohhkdbaaGreatDoorSm
namespace Go.Proofs.YtdeeekgohhkdbaaGreatDoor
theorem table_run {d:TDepot}:∀ (L:List Int) (r:TTour),canL d r L = true → tableF d r L = ((runJ d r L).stops,backE d (runJ d r L)):=by
 intro L
 induction L with
 | nil => intro r _; rfl
 | cons n L ih =>
  intro r h
  unfold canL at h
  rw [Bool.and_eq_true] at h
  unfold tableF
  rw [if_pos (can_iff.1 h.1).2,ih _ h.2]
  rfl
theorem new_nodup:∀ (L D:List Int),newL D L = true → L.Nodup ∧ ∀ x ∈ L,x ∉ D:=by
 intro L
 induction L with
 | nil => intro D _; exact ⟨List.nodup_nil,fun x hx => (by cases hx)⟩
 | cons n L ih =>
  intro D h
  unfold newL at h
  rw [Bool.and_eq_true] at h
  obtain ⟨h1,h2⟩:=ih _ h.2
  refine ⟨List.nodup_cons.2 ⟨fun hn => h2 n hn (List.mem_append.2 (.inr (List.mem_singleton.2 rfl))),h1⟩,fun x hx => ?_⟩
  rcases List.mem_cons.1 hx with rfl | hx
  ·simpa using h.1
  ·exact fun hd => h2 x hx (List.mem_append.2 (.inl hd))
theorem dup_no {L:List Int} (h:L.Nodup):dupB L = false:=by
 unfold dupB
 have hp:(sortL L).Perm L:=by unfold sortL; exact List.mergeSort_perm L _
 have hn:(sortL L).Nodup:=hp.nodup_iff.2 h
 have ha:(sortL L).Pairwise (· < ·):=by
  have h1:=sortL_asc L
  have:=h1.and hn
  exact this.imp fun ⟨g1,g2⟩ => by omega
 have e:Go.Lib.compact (sortL L) = sortL L:=asc_ext (comp_asc (sortL_asc L)) ha fun x => comp_mem
 rw [e,sortL_len,decide_eq_false (by omega)]
theorem run_take {d:TDepot} {r:TTour} {L:List Int} {k:Nat} (h:k < L.length):runJ d r (L.take (k + 1)) = visitT d (runJ d r (L.take k)) L[k]:=by
 unfold runJ
 rw [List.take_add_one,List.getElem?_eq_getElem h,List.foldl_append]; rfl
theorem can_at {d:TDepot}:∀ (L:List Int) (r:TTour) (k:Nat) (h:k < L.length),canL d r L = true → canJ d (runJ d r (L.take k)) L[k] = true:=by
 intro L
 induction L with
 | nil => intro r k h; exact absurd h (Nat.not_lt_zero _)
 | cons n L ih =>
  intro r k h hc
  unfold canL at hc
  rw [Bool.and_eq_true] at hc
  cases k with
  | zero => exact hc.1
  | succ k => exact ih (visitT d r n) k (by rw [List.length_cons] at h; omega) hc.2
theorem visit_stops {d:TDepot} {r:TTour} {n:Int} (h:visitB d r n = true):(visitT d r n).stops = r.stops ++ [stopE d r n]:=by
 have e:visitT d r n = doneE d r n:=if_pos h
 rw [e]; rfl
theorem stops_run {d:TDepot}:∀ (L:List Int) (r:TTour),canL d r L = true → ∃ S:List TRoStop,(runJ d r L).stops = r.stops ++ S ∧ S.length = L.length ∧ ∀ (k:Nat) (h:k < L.length),S[k]? = some (stopE d (runJ d r (L.take k)) L[k]):=by
 intro L
 induction L with
 | nil => intro r _; exact ⟨[],by rw [List.append_nil]; rfl,rfl,fun k h => absurd h (Nat.not_lt_zero _)⟩
 | cons n L ih =>
  intro r h
  unfold canL at h
  rw [Bool.and_eq_true] at h
  obtain ⟨S,s1,s2,s3⟩:=ih _ h.2
  have e:(runJ d r (n :: L)).stops = _:=s1
  rw [visit_stops (can_iff.1 h.1).2,List.append_assoc] at e
  refine ⟨stopE d r n :: S,e,by rw [List.length_cons,s2,List.length_cons],fun k hk => ?_⟩
  cases k with
  | zero => rfl
  | succ k => exact s3 k (by rw [List.length_cons] at hk; omega)
theorem never_no {a b:TRoSpan} (h:neverB (bothE a b) = false):maxE a.From b.From ≤ minE a.Until b.Until ∧ bothE a b = ⟨maxE a.From b.From,minE a.Until b.Until⟩:=by
 unfold bothE at *
 by_cases hc:maxE a.From b.From > minE a.Until b.Until
 ·rw [if_pos hc] at h; exact absurd h (by decide)
 ·rw [if_neg hc]; exact ⟨by omega,rfl⟩
theorem max_ge (a b:Int):a ≤ maxE a b ∧ b ≤ maxE a b:=by unfold maxE; split <;> omega
theorem min_le (a b:Int):minE a b ≤ a ∧ minE a b ≤ b:=by unfold minE; split <;> omega
theorem both_never {a b:TRoSpan} (h:neverB (bothE a b) = false) (ha:neverB a = true):False:=by
 obtain ⟨h1,_⟩:=never_no h
 unfold neverB at ha
 rw [Bool.and_eq_true,Bool.and_true,beq_iff_eq,beq_iff_eq] at ha
 have:=max_ge a.From b.From
 have:=min_le a.Until b.Until
 omega
theorem span_law {t:TRoTask} {x:TRoJob} (h:neverB (spanE t x) = false):(x.Closure ≥ 0 → (cloAt t x.Closure).From ≤ (spanE t x).From ∧ (spanE t x).Until ≤ (cloAt t x.Closure).Until) ∧
  (x.Daylight = true → (lightE t).From ≤ (spanE t x).From ∧ (spanE t x).Until ≤ (lightE t).Until ∧ neverB (lightE t) = false):=by
 have neverR:∀ {a b:TRoSpan},neverB (bothE a b) = false → neverB b = false:=fun {a b} h => by
  cases hb:neverB b with
  | false => rfl
  | true =>
   exfalso
   obtain ⟨h1,_⟩:=never_no h
   unfold neverB at hb
   rw [Bool.and_eq_true,Bool.and_true,beq_iff_eq,beq_iff_eq] at hb
   have:=max_ge a.From b.From
   have:=min_le a.Until b.Until
   omega
 have neverL:∀ {a b:TRoSpan},neverB (bothE a b) = false → neverB a = false:=fun {a b} h => by
  cases ha:neverB a with
  | false => rfl
  | true => exact (both_never h ha).elim
 unfold spanE at *
 by_cases hd:x.Daylight = true
 ·rw [if_pos hd] at h ⊢
  obtain ⟨g1,g2⟩:=never_no h
  have m1:=max_ge (if x.Closure ≥ 0 then bothE ⟨0,172800⟩ (cloAt t x.Closure) else ⟨0,172800⟩:TRoSpan).From (lightE t).From
  have m2:=min_le (if x.Closure ≥ 0 then bothE ⟨0,172800⟩ (cloAt t x.Closure) else ⟨0,172800⟩:TRoSpan).Until (lightE t).Until
  rw [g2]
  refine ⟨fun hc => ?_,fun _ => ⟨m1.2,m2.2,neverR h⟩⟩
  rw [if_pos hc] at m1 m2 h ⊢
  obtain ⟨q1,q2⟩:=never_no (neverL h)
  rw [q2] at m1 m2 ⊢
  have n1:=max_ge (⟨0,172800⟩:TRoSpan).From (cloAt t x.Closure).From
  have n2:=min_le (⟨0,172800⟩:TRoSpan).Until (cloAt t x.Closure).Until
  exact ⟨Int.le_trans n1.2 m1.1,Int.le_trans m2.1 n2.2⟩
 ·rw [if_neg hd] at h ⊢
  refine ⟨fun hc => ?_,fun h' => absurd h' hd⟩
  rw [if_pos hc] at h ⊢
  obtain ⟨q1,q2⟩:=never_no h
  have n1:=max_ge (⟨0,172800⟩:TRoSpan).From (cloAt t x.Closure).From
  have n2:=min_le (⟨0,172800⟩:TRoSpan).Until (cloAt t x.Closure).Until
  rw [q2]
  exact ⟨n1.2,n2.2⟩
end Go.Proofs.YtdeeekgohhkdbaaGreatDoor
