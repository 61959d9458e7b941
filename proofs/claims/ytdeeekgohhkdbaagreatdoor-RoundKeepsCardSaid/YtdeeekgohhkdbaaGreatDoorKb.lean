/- Plain: what a plan without faults keeps. -/
import Derived.Test.YtdeeekgohhkdbaaGreatDoorKa
import Derived.Test.YtdeeekgohhkdbaaGreatDoorQd
namespace Go.Proofs.YtdeeekgohhkdbaaGreatDoor
theorem again_kind (w:TEncl) (h:THalf) (lat:TEncl):0 ≤ (againR w h lat).1 ∧ (againR w h lat).1 ≤ 3:=by
 unfold againR
 split
 ·exact ⟨by simp,by simp⟩
 split
 ·exact ⟨by simp,by simp⟩
 split
 ·exact ⟨by simp,by simp⟩
 split
 ·exact ⟨by simp,by simp⟩
 ·exact ⟨by simp,by simp⟩
theorem pass_kind (h:THalf):∀ (m:Nat) (kd:Int) (w:TEncl),0 ≤ kd ∧ kd ≤ 3 → 0 ≤ (passF h m kd w).1 ∧ (passF h m kd w).1 ≤ 3:=by
 intro m
 induction m with
 | zero => intro kd w hk; exact hk
 | succ m ih =>
  intro kd w _
  have ha:=again_kind w h ⟨h.c.Lat,h.c.Lat⟩
  rw [passF_s]
  split
  ·exact ha
  ·exact ih _ _ ha
theorem told_kind {h:THalf} (hc:cityB h.c = false) (hd:outB h.day 0 40000 = false):(0 ≤ (toldR h).1 ∧ (toldR h).1 ≤ 3) ∧ (toldR h).2.2 = 0:=by
 have hk:0 ≤ (passR h).1 ∧ (passR h).1 ≤ 3:=pass_kind h 3 0 _ ⟨by decide,by decide⟩
 unfold toldR
 rw [if_neg (by rw [hc]; simp),if_neg (by rw [hd]; simp)]
 split
 ·exact ⟨hk,rfl⟩
 ·exact ⟨hk,rfl⟩
theorem light_law {t:TRoTask} (hv:TaskV t) (hn:neverB (lightE t) = false) {a b:Int} (ha:(lightE t).From ≤ a) (hb:b ≤ (lightE t).Until):lightB t a b = true:=by
 obtain ⟨k1,z1⟩:=told_kind (h:=⟨t.City,t.Day,true⟩) hv.city hv.day
 obtain ⟨k2,z2⟩:=told_kind (h:=⟨t.City,t.Day,false⟩) hv.city hv.day
 unfold lightE at hn ha hb
 unfold lightB
 generalize toldR ⟨t.City,t.Day,true⟩ = r at *
 generalize toldR ⟨t.City,t.Day,false⟩ = s at *
 rw [if_neg (by simp [z1]),if_neg (by simp [z2])]
 by_cases hc:r.1 = 1 ∨ r.1 = 3 ∨ s.1 = 1 ∨ s.1 = 3
 ·rw [if_pos hc] at hn; exact absurd hn (by decide)
 rw [if_neg hc] at ha hb
 have h1:r.1 = 2 ∨ r.1 = 0:=by omega
 have h2:s.1 = 2 ∨ s.1 = 0:=by omega
 have e1:(decide (r.1 = 2) || decide (r.1 = 0) && decide (a ≥ r.2.1.Hi)) = true:=by
  rcases h1 with h1 | h1
  ·rw [h1]; rfl
  ·have ha:(if r.1 = 2 then 0 else r.2.1.Hi) ≤ a:=ha
   rw [if_neg (by omega)] at ha
   rw [decide_eq_true h1,decide_eq_true (show a ≥ r.2.1.Hi from ha)]; simp
 have e2:(decide (s.1 = 2) || decide (s.1 = 0) && decide (b ≤ s.2.1.Lo)) = true:=by
  rcases h2 with h2 | h2
  ·rw [h2]; rfl
  ·have hb:b ≤ (if s.1 = 2 then 172800 else s.2.1.Lo):=hb
   rw [if_neg (by omega)] at hb
   rw [decide_eq_true h2,decide_eq_true hb]; simp
 rw [e1,e2]; rfl
def markV (J:Nat) (D:List Int):List AV:=(List.range J).map fun (j:Nat) => AV.bool (decide ((j:Int) ∈ D))
theorem mark_len (J:Nat) (D:List Int):(markV J D).length = J:=by unfold markV; rw [List.length_map,List.length_range]
theorem mark_norm (J:Nat) (D:List Int):AV.normL (markV J D) = markV J D:=by
 unfold markV
 rw [normL_eq,List.map_map]; rfl
theorem mark_nil (J:Nat):AV.normL (List.replicate (J:Int).toNat [AV.bool false]).flatten = markV J []:=by
 rw [normL_eq]
 unfold markV
 rw [Int.toNat_natCast]
 refine List.ext_getElem? fun j => ?_
 have e:(List.replicate J [AV.bool false]).flatten = List.replicate J (AV.bool false):=by
  induction J with
  | zero => rfl
  | succ J ih => rw [List.replicate_succ,List.flatten_cons,ih]; rfl
 rw [e,List.getElem?_map,List.getElem?_map,List.getElem?_replicate]
 by_cases h:j < J
 ·rw [if_pos h,List.getElem?_range h]; simp; rfl
 ·rw [if_neg h,List.getElem?_eq_none (by simpa using h)]; rfl
theorem und4':Tryz.prog.underlying 4 = some .bool:=by kernel_rfl
theorem mark_at {J:Nat} {D:List Int} {n:Int} (h0:0 ≤ n) (h:n < J):Option.map AV.norm (partA Tryz.prog 4 (markV J D) (0 + n.toNat * 1)) = some (.bool (decide (n ∈ D))):=by
 have e:0 + n.toNat * 1 = n.toNat:=by omega
 unfold partA
 rw [und4',e]
 unfold markV
 simp only [List.getElem?_map,List.getElem?_range (show n.toNat < J by omega)]
 show some (AV.bool (decide (((n.toNat:Nat):Int) ∈ D))) = _
 rw [show ((n.toNat:Nat):Int) = n by omega]
theorem mark_set {J:Nat} {D:List Int} {n:Int} (h0:0 ≤ n) (h:n < J):setCells (markV J D) (0 + n.toNat * 1) [AV.bool true] = markV J (D ++ [n]):=by
 have e:0 + n.toNat * 1 = n.toNat:=by omega
 rw [e]
 have hs:setCells (markV J D) n.toNat [AV.bool true] = (markV J D).set n.toNat (.bool true):=by
  unfold setCells
  rw [List.set_eq_take_append_cons_drop,if_pos (by rw [mark_len]; omega)]; rfl
 rw [hs]
 refine List.ext_getElem? fun j => ?_
 rw [List.getElem?_set,mark_len]
 unfold markV
 rw [List.getElem?_map,List.getElem?_map]
 by_cases hj:n.toNat = j
 ·subst hj
  rw [if_pos rfl,if_pos (by omega),List.getElem?_range (by omega)]
  simp; omega
 ·rw [if_neg hj]
  by_cases hl:j < J
  ·rw [List.getElem?_range hl]
   simp
   omega
  ·rw [List.getElem?_eq_none (by simpa using hl)]; rfl
theorem run_lor {d:TDepot}:∀ (L:List Int) (r:TTour),(runJ d r L).RoLorry = r.RoLorry:=by
 intro L
 induction L with
 | nil => intro r; rfl
 | cons n L ih =>
  intro r
  have:(runJ d (visitT d r n) L).RoLorry = _:=ih _
  show (runJ d (visitT d r n) L).RoLorry = _
  rw [this]
  unfold visitT
  split <;> rfl
theorem can_take {d:TDepot}:∀ (L:List Int) (r:TTour) (j:Nat),canL d r L = true → canL d r (L.take j) = true:=by
 intro L
 induction L with
 | nil => intro r j h; rw [List.take_nil]; exact h
 | cons n L ih =>
  intro r j h
  cases j with
  | zero => rfl
  | succ j =>
   unfold canL at h
   rw [Bool.and_eq_true] at h
   rw [List.take_succ_cons]
   unfold canL
   rw [h.1,ih _ _ h.2]; rfl
structure KeepJ (t:TRoTask) (r:TTour) (n:Int):Prop where
 job:0 ≤ n ∧ n < t.Jobs.length
 lift:(jobAt t n).Height ≤ r.RoLorry.Lift
 span:spanR t n = (spanE t (jobAt t n),true,0)
 way:travelR t r.last n = (wayE t r.last n,0)
 arr:arriveE (depE t) r n ≤ startE (depE t) r n
 frm:(spanE t (jobAt t n)).From ≤ startE (depE t) r n
 til:endE (depE t) r n ≤ (spanE t (jobAt t n)).Until
 clo:(jobAt t n).Closure ≥ 0 → (jobAt t n).Closure < t.Closures.length ∧ (cloAt t (jobAt t n).Closure).From ≤ startE (depE t) r n ∧ endE (depE t) r n ≤ (cloAt t (jobAt t n).Closure).Until
 day:(jobAt t n).Daylight = true → lightB t (startE (depE t) r n) (endE (depE t) r n) = true
theorem none_ok {t:TRoTask} (hv:TaskV t) {lo n:Int} (h0:lo ≤ n) (h:n < t.Jobs.length):noneB t lo n = false:=by
 have hjl:=hv.jl
 unfold noneB
 rw [i64 (by omega)]
 exact outB_false.2 ⟨h0,by omega⟩
theorem way_in {t:TRoTask} (he:(taskE t).2.2 = 0) {a b:Int} (ha:-1 ≤ a ∧ a < t.Jobs.length) (hb:-1 ≤ b ∧ b < t.Jobs.length):travelR t a b = (wayE t a b,0):=by
 have hv:=task_ok he
 unfold travelR
 rw [if_neg (by simp [he]),if_neg (by simp [none_ok hv ha.1 ha.2,none_ok hv hb.1 hb.2])]
theorem keep_job {t:TRoTask} (he:(taskE t).2.2 = 0) {r:TTour} {m:Nat} (hr:TourV t r m) {n:Int} (hn:0 ≤ n ∧ n < t.Jobs.length) (hc:canJ (depE t) r n = true):KeepJ t r n:=by
 have hv:=task_ok he
 obtain ⟨c1,c2⟩:=can_iff.1 hc
 have c2':=c2
 unfold visitB at c2'
 rw [Bool.and_eq_true,Bool.not_eq_true',Bool.not_eq_true',decide_eq_false_iff_not,spanAt_eq hn.1 hn.2] at c2'
 obtain ⟨g1,g2⟩:=c2'
 obtain ⟨l1,l2⟩:=span_law g1
 have m1:=max_ge (arriveE (depE t) r n) (spanAt (depE t) n).From
 rw [spanAt_eq hn.1 hn.2] at m1
 have es:startE (depE t) r n = maxE (arriveE (depE t) r n) (spanE t (jobAt t n)).From:=by unfold startE; rw [spanAt_eq hn.1 hn.2]
 rw [← es] at m1
 have hj:=(job_get hn.1 hn.2).2
 obtain ⟨_,p2,_⟩:=job_ok (hv.job _ hj)
 refine ⟨hn,c1,?_,way_in he hr.last ⟨by omega,hn.2⟩,m1.1,m1.2,by omega,fun h => ⟨by omega,?_,?_⟩,fun h => ?_⟩
 ·unfold spanR
  rw [if_neg (by simp [he]),if_neg (by simp [none_ok hv hn.1 hn.2]),if_neg (by simp [g1])]
 ·have:=(l1 h).1; omega
 ·have:=(l1 h).2; omega
 ·obtain ⟨q1,q2,q3⟩:=l2 h
  exact light_law hv q3 (by omega) (by omega)
theorem tour_at {t:TRoTask} (hv:TaskV t) {i:Nat} (hi:i < t.Lorries.length) {D L:List Int} (hg:GoodR (depE t) i D L) (hL:L.length ≤ 6) (hx:∀ x ∈ L,0 ≤ x ∧ x < t.Jobs.length) (j:Nat):TourV t (runJ (depE t) (leaveE (depE t) i) (L.take j)) (0 + (L.take j).length):=by
 refine run_ok hv (L.take j) _ 0 (leave_ok hv hi) ?_ (fun x h => hx x (List.mem_of_mem_take h)) (can_take L _ j hg.can)
 rw [List.length_take]; omega
theorem times_good {t:TRoTask} (he:(taskE t).2.2 = 0) {i:Nat} (hi:i < t.Lorries.length) {D L:List Int} (hg:GoodR (depE t) i D L) (hx:∀ x ∈ L,0 ≤ x ∧ x < t.Jobs.length) :
  tableR t i L = ((runJ (depE t) (leaveE (depE t) i) L).stops,backE (depE t) (runJ (depE t) (leaveE (depE t) i) L),0):=by
 have hv:=task_ok he
 have hll:=hv.ll
 unfold tableR
 have h1:L.any (noneB t 0) = false:=by
  rw [List.any_eq_false]
  intro x h
  rw [none_ok hv (hx x h).1 (hx x h).2]; simp
 rw [if_neg (by simp [he]),if_neg (by rw [h1]; simp),if_neg (by rw [outB_false.2 ⟨by omega,by omega⟩]; simp),if_neg (by rw [dup_no (new_nodup L D hg.new).1]; simp),table_run L _ hg.can]
end Go.Proofs.YtdeeekgohhkdbaaGreatDoor
