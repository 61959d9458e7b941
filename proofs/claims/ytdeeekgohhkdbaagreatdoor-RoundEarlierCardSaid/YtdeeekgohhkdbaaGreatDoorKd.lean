/- Plain: a task that is wider than another: what goes there goes here, too. -/
import Derived.Test.YtdeeekgohhkdbaaGreatDoorKb
namespace Go.Proofs.YtdeeekgohhkdbaaGreatDoor
theorem visit_nums {t:TRoTask} (hv:TaskV t) {r:TTour} {m:Nat} (hr:TourV t r m) {n:Int} (h0:0 ≤ n) (hn:n < t.Jobs.length) :
  arriveE (depE t) r n = r.now + wayE t r.last n ∧ startE (depE t) r n = maxE (r.now + wayE t r.last n) (spanE t (jobAt t n)).From ∧ endE (depE t) r n = startE (depE t) r n + (jobAt t n).Seconds:=by
 obtain ⟨p1,_,_,p4,p5,p6,p7⟩:=job_ok (hv.job _ (job_get h0 hn).2)
 obtain ⟨w1,w2,w3⟩:=way_ok hv hr.last.2 hn
 have hs:=span_in t (jobAt t n)
 have hnow:=hr.now
 have ea:arriveE (depE t) r n = r.now + wayE t r.last n:=i64 (by show _ ≤ r.now + wayE t r.last n ∧ r.now + wayE t r.last n < _; omega)
 have es:startE (depE t) r n = maxE (r.now + wayE t r.last n) (spanE t (jobAt t n)).From:=by unfold startE; rw [ea,spanAt_eq h0 hn]
 refine ⟨ea,es,i64 ?_⟩
 rw [es]
 show _ ≤ maxE (r.now + wayE t r.last n) (spanE t (jobAt t n)).From + (jobAt t n).Seconds ∧ maxE (r.now + wayE t r.last n) (spanE t (jobAt t n)).From + (jobAt t n).Seconds < _
 unfold maxE
 split <;> omega
structure WideT (t m:TRoTask):Prop where
 x:m.X = t.X
 y:m.Y = t.Y
 pace:m.Pace = t.Pace
 kinds:m.Kinds = t.Kinds
 jl:t.Jobs.length ≤ m.Jobs.length
 job:∀ n:Int,0 ≤ n → n < t.Jobs.length → jobAt m n = jobAt t n
 span:∀ n:Int,0 ≤ n → n < t.Jobs.length → neverB (spanE t (jobAt t n)) = false → neverB (spanE m (jobAt t n)) = false ∧ (spanE m (jobAt t n)).From ≤ (spanE t (jobAt t n)).From ∧ (spanE t (jobAt t n)).Until ≤ (spanE m (jobAt t n)).Until
theorem WideT.at {t m:TRoTask} (w:WideT t m) {k:Int} (hk:k < t.Jobs.length):atX m k = atX t k ∧ atY m k = atY t k:=by
 by_cases h:k ≥ 0
 ·rw [atX_pos h,atX_pos h,atY_pos h,atY_pos h,w.job k h hk]; exact ⟨rfl,rfl⟩
 ·rw [atX_neg h,atX_neg h,atY_neg h,atY_neg h,w.x,w.y]; exact ⟨rfl,rfl⟩
theorem WideT.way {t m:TRoTask} (w:WideT t m) {a b:Int} (ha:a < t.Jobs.length) (hb:b < t.Jobs.length):wayE m a b = wayE t a b:=by
 unfold wayE
 rw [(w.at ha).1,(w.at ha).2,(w.at hb).1,(w.at hb).2,w.pace]
structure WideR (r s:TTour):Prop where
 now:s.now ≤ r.now
 last:s.last = r.last
 room:r.room ≤ s.room
 value:s.value = r.value
 lift:r.RoLorry.Lift ≤ s.RoLorry.Lift
 till:r.RoLorry.Until ≤ s.RoLorry.Until
theorem max_le {a b c d:Int} (h:a ≤ c) (h':b ≤ d):maxE a b ≤ maxE c d:=by unfold maxE; split <;> split <;> omega
theorem wide_nums {t m:TRoTask} (hv:TaskV t) (hm:TaskV m) (w:WideT t m) {r s:TTour} {a b:Nat} (hr:TourV t r a) (hs:TourV m s b) (hn':s.now ≤ r.now) (hl':s.last = r.last) {n:Int} (h0:0 ≤ n) (hn:n < t.Jobs.length) (hb:visitB (depE t) r n = true) :
  arriveE (depE m) s n ≤ arriveE (depE t) r n ∧ startE (depE m) s n ≤ startE (depE t) r n ∧ endE (depE m) s n ≤ endE (depE t) r n ∧ visitB (depE m) s n = true:=by
 have hn2:n < m.Jobs.length:=by have:=w.jl; omega
 obtain ⟨a1,a2,a3⟩:=visit_nums hv hr h0 hn
 obtain ⟨b1,b2,b3⟩:=visit_nums hm hs h0 hn2
 rw [hl',w.way hr.last.2 hn] at b1 b2
 rw [w.job n h0 hn] at b2 b3
 unfold visitB at hb
 rw [Bool.and_eq_true,Bool.not_eq_true',Bool.not_eq_true',decide_eq_false_iff_not,spanAt_eq h0 hn] at hb
 obtain ⟨g1,g2,g3⟩:=w.span n h0 hn hb.1
 have hmx:maxE (s.now + wayE t r.last n) (spanE m (jobAt t n)).From ≤ maxE (r.now + wayE t r.last n) (spanE t (jobAt t n)).From:=max_le (by omega) g2
 have he:endE (depE m) s n ≤ endE (depE t) r n:=by rw [a3,b3,a2,b2]; omega
 refine ⟨by rw [a1,b1]; omega,by rw [a2,b2]; exact hmx,he,?_⟩
 unfold visitB
 rw [Bool.and_eq_true,Bool.not_eq_true',Bool.not_eq_true',decide_eq_false_iff_not,spanAt_eq h0 hn2,w.job n h0 hn]
 exact ⟨g1,by omega⟩
theorem wide_back {t m:TRoTask} (hv:TaskV t) (hm:TaskV m) (w:WideT t m) {r s:TTour} {a b:Nat} (hr:TourV t r a) (hs:TourV m s b) (hn:s.now ≤ r.now) (hl:s.last = r.last):backE (depE m) s ≤ backE (depE t) r:=by
 have hjl:=w.jl
 rw [(back_ok hv hr).1,(back_ok hm hs).1,hl,w.way hr.last.2 (show (-1:Int) < t.Jobs.length by omega)]
 omega
structure WideL (t m:TRoTask):Prop where
 ll:t.Lorries.length ≤ m.Lorries.length
 lor:∀ i:Nat,i < t.Lorries.length → (lorAt m i).From ≤ (lorAt t i).From ∧ (lorAt t i).Room ≤ (lorAt m i).Room ∧ (lorAt t i).Lift ≤ (lorAt m i).Lift ∧ (lorAt t i).Until ≤ (lorAt m i).Until
end Go.Proofs.YtdeeekgohhkdbaaGreatDoor
