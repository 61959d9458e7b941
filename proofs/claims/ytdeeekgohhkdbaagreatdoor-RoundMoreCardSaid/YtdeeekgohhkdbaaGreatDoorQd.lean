/- Plain: plans without faults: what judge says of them, and the other way about. Plain: ways, loads and times of tours, without bounds. Plain: what the search finds has no fault, and is the best. Plain: the best plan is worth what the search says, and no plan is worth more. -/
import Derived.Test.YtdeeekgohhkdbaaGreatDoorSj
import Derived.Test.YtdeeekgohhkdbaaGreatDoorSk
import Derived.Test.YtdeeekgohhkdbaaGreatDoorOd
namespace Go.Proofs.YtdeeekgohhkdbaaGreatDoor
def canJ (d:TDepot) (r:TTour) (n:Int):Bool:=decide ((jobAt d.RoTask n).Height ≤ r.RoLorry.Lift) && visitB d r n
def runJ (d:TDepot) (r:TTour) (L:List Int):TTour:=L.foldl (visitT d) r
def canL (d:TDepot):TTour → List Int → Bool
 | _,[] => true
 | r,n :: L => canJ d r n && canL d (visitT d r n) L
def newL:List Int → List Int → Bool
 | _,[] => true
 | D,n :: L => !decide (n ∈ D) && newL (D ++ [n]) L
theorem addF_ge (b:Bool) (l:List TRoFault) (e i n:Int):l.length ≤ (addF b l e i n).length:=by
 cases b
 ·rw [addF_f rfl]; omega
 ·rw [addF_t rfl,List.length_append]; exact Nat.le_add_right _ _
theorem step_ok {d:TDepot} {i:Int} {s:JSt} {n:Int} (hc:s.closed = -1) (h1:n ∉ s.done) (h2:canJ d s.tour n = true):stepJ d i s n = ⟨-1,s.faults,visitT d s.tour n,s.done ++ [n]⟩:=by
 unfold canJ at h2
 rw [Bool.and_eq_true,decide_eq_true_eq] at h2
 obtain ⟨g1,g2⟩:=h2
 have e1:closedJ d s.tour s.closed n = -1:=by rw [closedJ_c (by rw [g2]; rfl),hc]
 have e2:twiceJ i s n = s.faults:=addF_f (decide_eq_false h1) ..
 have e3:liftJ d i s n = s.faults:=by unfold liftJ; rw [addF_f (decide_eq_false (by omega)),e2]
 have e4:tourJ d s.tour (-1) n = visitT d s.tour n:=if_neg (by omega)
 have e5:putD s.done n = s.done ++ [n]:=if_neg h1
 unfold stepJ
 rw [e1,e3,e4,e5]
theorem fold_ok {d:TDepot} {i:Int}:∀ (L:List Int) (s:JSt),s.closed = -1 → newL s.done L = true → canL d s.tour L = true → L.foldl (stepJ d i) s = ⟨-1,s.faults,runJ d s.tour L,s.done ++ L⟩:=by
 intro L
 induction L with
 | nil =>
  intro s hc _ _
  show s = ⟨-1,s.faults,s.tour,s.done ++ []⟩
  rw [List.append_nil,← hc]
 | cons n L ih =>
  intro s hc hn hl
  unfold newL at hn
  unfold canL at hl
  rw [Bool.and_eq_true] at hn hl
  have h1:n ∉ s.done:=by simpa using hn.1
  show L.foldl (stepJ d i) (stepJ d i s n) = _
  rw [step_ok hc h1 hl.1,ih _ rfl hn.2 hl.2,List.append_assoc]
  rfl
theorem lift_ge (d:TDepot) (i:Int) (s:JSt) (n:Int):s.faults.length ≤ (liftJ d i s n).length:=Nat.le_trans (addF_ge ..) (addF_ge ..)
theorem closed_ge {d:TDepot} {r:TTour} {c n:Int} (h:c ≥ 0):closedJ d r c n ≥ 0:=by
 rw [closedJ_b (decide_eq_false (by omega))]; exact h
theorem fold_mono {d:TDepot} {i:Int}:∀ (L:List Int) (s:JSt),s.faults.length ≤ (L.foldl (stepJ d i) s).faults.length ∧ (s.closed ≥ 0 → (L.foldl (stepJ d i) s).closed ≥ 0):=by
 intro L
 induction L with
 | nil => intro s; exact ⟨Nat.le_refl _,id⟩
 | cons n L ih =>
  intro s
  obtain ⟨h1,h2⟩:=ih (stepJ d i s n)
  exact ⟨Nat.le_trans (lift_ge d i s n) h1,fun h => h2 (closed_ge h)⟩
theorem fold_conv {d:TDepot} {i:Int}:∀ (L:List Int) (s:JSt),(∀ n ∈ L,0 ≤ n) → s.closed = -1 → (L.foldl (stepJ d i) s).faults.length ≤ s.faults.length → (L.foldl (stepJ d i) s).closed < 0 → newL s.done L = true ∧ canL d s.tour L = true:=by
 intro L
 induction L with
 | nil => intro s _ _ _ _; exact ⟨rfl,rfl⟩
 | cons n L ih =>
  intro s hn hc hf hcl
  have hf:(L.foldl (stepJ d i) (stepJ d i s n)).faults.length ≤ s.faults.length:=hf
  have hcl:(L.foldl (stepJ d i) (stepJ d i s n)).closed < 0:=hcl
  obtain ⟨m1,m2⟩:=fold_mono (d:=d) (i:=i) L (stepJ d i s n)
  have m1:(liftJ d i s n).length ≤ _:=m1
  have h1:n ∉ s.done:=fun h => by
   have e2:twiceJ i s n = s.faults ++ [⟨210,i,n⟩]:=addF_t (decide_eq_true h) ..
   have:(twiceJ i s n).length ≤ (liftJ d i s n).length:=addF_ge ..
   rw [e2,List.length_append] at this
   have:s.faults.length + 1 ≤ (liftJ d i s n).length:=this
   omega
  have e2:twiceJ i s n = s.faults:=addF_f (decide_eq_false h1) ..
  have h2:(jobAt d.RoTask n).Height ≤ s.tour.RoLorry.Lift:=Decidable.byContradiction fun h => by
   have e3:liftJ d i s n = s.faults ++ [⟨211,i,n⟩]:=by unfold liftJ; rw [addF_t (decide_eq_true (by omega)),e2]
   rw [e3,List.length_append] at m1
   have:s.faults.length + 1 ≤ (L.foldl (stepJ d i) (stepJ d i s n)).faults.length:=m1
   omega
  have h3:visitB d s.tour n = true:=by
   cases hv:visitB d s.tour n with
   | true => rfl
   | false =>
    have e1:closedJ d s.tour s.closed n = n:=closedJ_a (by rw [hv]; rfl) (decide_eq_true (by omega))
    have:=m2 (by show closedJ d s.tour s.closed n ≥ 0; rw [e1]; exact hn n List.mem_cons_self)
    omega
  have hcan:canJ d s.tour n = true:=by unfold canJ; rw [decide_eq_true h2,h3]; rfl
  rw [step_ok hc h1 hcan] at hf hcl
  obtain ⟨g1,g2⟩:=ih _ (fun m hm => hn m (List.mem_cons_of_mem _ hm)) rfl hf hcl
  refine ⟨?_,?_⟩
  ·unfold newL; rw [decide_eq_false h1]; exact g1
  ·unfold canL; rw [hcan]; exact g2
structure GoodR (d:TDepot) (i:Nat) (D L:List Int):Prop where
 new:newL D L = true
 can:canL d (leaveE d i) L = true
 goes:goesB d (runJ d (leaveE d i) L) = true
theorem goes_iff {d:TDepot} {r:TTour}:goesB d r = true ↔ backE d r ≤ r.RoLorry.Until ∧ 0 ≤ r.room:=by
 unfold goesB
 rw [Bool.and_eq_true,Bool.not_eq_true',Bool.not_eq_true',decide_eq_false_iff_not,decide_eq_false_iff_not]
 omega
theorem last_ok {d:TDepot} {i:Int} {s:JSt} (hc:s.closed = -1) (h:goesB d s.tour = true):lastJ d i s = s.faults:=by
 obtain ⟨h1,h2⟩:=goes_iff.1 h
 have e1:roomJ i s = s.faults:=addF_f (decide_eq_false (by omega)) ..
 unfold lastJ
 rw [if_neg (by omega),addF_f (decide_eq_false (by omega)),e1]
theorem last_ge (d:TDepot) (i:Int) (s:JSt):s.faults.length ≤ (lastJ d i s).length:=by
 have h1:s.faults.length ≤ (roomJ i s).length:=addF_ge ..
 unfold lastJ
 split
 ·rw [List.length_append]; omega
 ·exact Nat.le_trans h1 (addF_ge ..)
theorem last_conv {d:TDepot} {i:Int} {s:JSt} (h:(lastJ d i s).length ≤ s.faults.length):s.closed < 0 ∧ goesB d s.tour = true:=by
 have h1:s.faults.length ≤ (roomJ i s).length:=addF_ge ..
 have hc:s.closed < 0:=Decidable.byContradiction fun hc => by
  unfold lastJ at h
  rw [if_pos (by omega),List.length_append] at h
  have:(roomJ i s).length + 1 ≤ s.faults.length:=h
  omega
 refine ⟨hc,goes_iff.2 ⟨Decidable.byContradiction fun hb => ?_,Decidable.byContradiction fun hr => ?_⟩⟩
 ·unfold lastJ at h
  rw [if_neg (by omega),addF_t (decide_eq_true (by omega)),List.length_append] at h
  have:(roomJ i s).length + 1 ≤ s.faults.length:=h
  omega
 ·have e:roomJ i s = s.faults ++ [⟨212,i,-1⟩]:=addF_t (decide_eq_true (by omega)) ..
  have h2:(roomJ i s).length ≤ (lastJ d i s).length:=by
   unfold lastJ
   rw [if_neg (by omega)]
   exact addF_ge ..
  rw [e,List.length_append] at h2
  have:s.faults.length + 1 ≤ (lastJ d i s).length:=h2
  omega
theorem round_ok {d:TDepot} {i:Nat} {a:JAll} {L:List Int} (h:GoodR d i a.done L) :
  endJ d i a (roundJ d i a.faults a.done L) = ⟨a.faults,IntKind.i64.wrap (a.value + (runJ d (leaveE d i) L).value),IntKind.i64.wrap (a.cost + costE d (runJ d (leaveE d i) L)),a.done ++ L⟩:=by
 have e:roundJ d i a.faults a.done L = ⟨-1,a.faults,runJ d (leaveE d i) L,a.done ++ L⟩:=fold_ok L ⟨-1,a.faults,leaveE d i,a.done⟩ rfl h.new h.can
 rw [e]
 unfold endJ
 rw [last_ok (s:=⟨-1,a.faults,runJ d (leaveE d i) L,a.done ++ L⟩) rfl h.goes]
theorem round_ge {d:TDepot} {i:Int} {a:JAll} {L:List Int}:a.faults.length ≤ (endJ d i a (roundJ d i a.faults a.done L)).faults.length :=
 Nat.le_trans (fold_mono (d:=d) (i:=i) L ⟨-1,a.faults,leaveE d i,a.done⟩).1 (last_ge ..)
theorem round_conv {d:TDepot} {i:Nat} {a:JAll} {L:List Int} (hn:∀ n ∈ L,0 ≤ n) (h:(endJ d i a (roundJ d i a.faults a.done L)).faults.length ≤ a.faults.length):GoodR d i a.done L:=by
 have h:(lastJ d i (roundJ d i a.faults a.done L)).length ≤ a.faults.length:=h
 have m:=(fold_mono (d:=d) (i:=i) L ⟨-1,a.faults,leaveE d i,a.done⟩).1
 have m:a.faults.length ≤ (roundJ d i a.faults a.done L).faults.length:=m
 obtain ⟨h1,h2⟩:=last_conv (Nat.le_trans h m)
 have g:=last_ge d i (roundJ d i a.faults a.done L)
 have hf:(roundJ d i a.faults a.done L).faults.length ≤ a.faults.length:=by omega
 obtain ⟨c1,c2⟩:=fold_conv L ⟨-1,a.faults,leaveE d i,a.done⟩ hn rfl hf h1
 have e:roundJ d i a.faults a.done L = ⟨-1,a.faults,runJ d (leaveE d i) L,a.done ++ L⟩:=fold_ok L ⟨-1,a.faults,leaveE d i,a.done⟩ rfl c1 c2
 rw [e] at h2
 exact ⟨c1,c2,h2⟩
def goodP (d:TDepot):Nat → List Int → List (List Int) → Prop
 | _,_,[] => True
 | i,D,L :: P => GoodR d i D L ∧ goodP d (i + 1) (D ++ L) P
def valL (d:TDepot):Nat → Int → List (List Int) → Int
 | _,a,[] => a
 | i,a,L :: P => valL d (i + 1) (IntKind.i64.wrap (a + (runJ d (leaveE d i) L).value)) P
def cosL (d:TDepot):Nat → Int → List (List Int) → Int
 | _,a,[] => a
 | i,a,L :: P => cosL d (i + 1) (IntKind.i64.wrap (a + costE d (runJ d (leaveE d i) L))) P
theorem judge_ok {d:TDepot}:∀ (P:List (List Int)) (i:Nat) (a:JAll),goodP d i a.done P → judgeL d i a P = ⟨a.faults,valL d i a.value P,cosL d i a.cost P,a.done ++ P.flatten⟩:=by
 intro P
 induction P with
 | nil =>
  intro i a _
  show a = ⟨a.faults,a.value,a.cost,a.done ++ []⟩
  rw [List.append_nil]
 | cons L P ih =>
  intro i a h
  obtain ⟨h1,h2⟩:=h
  show judgeL d (i + 1) (endJ d i a (roundJ d i a.faults a.done L)) P = _
  rw [round_ok h1,ih _ _ h2,List.append_assoc]
  rfl
theorem judge_ge {d:TDepot}:∀ (P:List (List Int)) (i:Nat) (a:JAll),a.faults.length ≤ (judgeL d i a P).faults.length:=by
 intro P
 induction P with
 | nil => intro i a; exact Nat.le_refl _
 | cons L P ih => intro i a; exact Nat.le_trans round_ge (ih (i + 1) (endJ d i a (roundJ d i a.faults a.done L)))
theorem judge_conv {d:TDepot}:∀ (P:List (List Int)) (i:Nat) (a:JAll),(∀ L ∈ P,∀ n ∈ L,0 ≤ n) → (judgeL d i a P).faults.length ≤ a.faults.length → goodP d i a.done P:=by
 intro P
 induction P with
 | nil => intro i a _ _; trivial
 | cons L P ih =>
  intro i a hn h
  have h:(judgeL d (i + 1) (endJ d i a (roundJ d i a.faults a.done L)) P).faults.length ≤ a.faults.length:=h
  have g:=judge_ge (d:=d) P (i + 1) (endJ d i a (roundJ d i a.faults a.done L))
  have h1:GoodR d i a.done L:=round_conv (hn L List.mem_cons_self) (Nat.le_trans g h)
  refine ⟨h1,?_⟩
  rw [round_ok h1] at h
  exact ih (i + 1) ⟨a.faults,_,_,a.done ++ L⟩ (fun M hM => hn M (List.mem_cons_of_mem _ hM)) h
theorem worth_ok {t:TRoTask} {plan:List (List Int)} (h:planE t plan = 0) (hg:goodP (depE t) 0 [] plan):worthE t plan = (valL (depE t) 0 0 plan,cosL (depE t) 0 0 plan,0):=by
 have e:judgeE (depE t) plan = ⟨[],valL (depE t) 0 0 plan,cosL (depE t) 0 0 plan,[] ++ plan.flatten⟩:=judge_ok plan 0 ⟨[],0,0,[]⟩ hg
 unfold worthE
 rw [if_neg (by simp [h]),e,if_neg (by simp)]
theorem worth_conv {t:TRoTask} {plan:List (List Int)} (h:(worthE t plan).2.2 = 0):planE t plan = 0 ∧ goodP (depE t) 0 [] plan:=by
 unfold worthE at h
 by_cases h0:planE t plan ≠ 0
 ·rw [if_pos h0] at h; exact absurd h h0
 rw [if_neg h0] at h
 have h0:=Decidable.not_not.1 h0
 refine ⟨h0,?_⟩
 by_cases h1:(judgeE (depE t) plan).faults.length > 0
 ·rw [if_pos h1] at h; exact absurd h (by simp)
 obtain ⟨_,hp⟩:=plan_in h0
 exact judge_conv plan 0 ⟨[],0,0,[]⟩ (fun L hL n hn => (hp.jobs L hL n hn).1) (by show (judgeE (depE t) plan).faults.length ≤ 0; omega)
end Go.Proofs.YtdeeekgohhkdbaaGreatDoor
namespace Go.Proofs.YtdeeekgohhkdbaaGreatDoor
def absE (x u:Int):Int:=maxE x u - minE x u
theorem abs_in {x u:Int} (hx:-50000 ≤ x ∧ x ≤ 50000) (hu:-50000 ≤ u ∧ u ≤ 50000):0 ≤ absE x u ∧ absE x u ≤ 100000:=by
 unfold absE maxE minE
 split <;> split <;> omega
theorem abs_tri (x u v:Int):absE x v ≤ absE x u + absE u v:=by
 unfold absE maxE minE
 split <;> split <;> split <;> split <;> split <;> split <;> omega
def wayN (D p:Int):Int:=(D * p + 999) / 1000
theorem wayF_ok {x y u v p:Int} (hx:-50000 ≤ x ∧ x ≤ 50000) (hy:-50000 ≤ y ∧ y ≤ 50000) (hu:-50000 ≤ u ∧ u ≤ 50000) (hv:-50000 ≤ v ∧ v ≤ 50000) (hp:0 ≤ p ∧ p ≤ 3600) :
  wayF x y u v p = wayN (absE x u + absE y v) p ∧ (0 ≤ absE x u + absE y v ∧ absE x u + absE y v ≤ 200000) ∧ 0 ≤ wayN (absE x u + absE y v) p ∧ wayN (absE x u + absE y v) p ≤ 720000:=by
 have h1:=abs_in hx hu
 have h2:=abs_in hy hv
 have b1:-50000 ≤ maxE y v ∧ maxE y v ≤ 50000:=by unfold maxE; split <;> omega
 have b2:-50000 ≤ minE y v ∧ minE y v ≤ 50000:=by unfold minE; split <;> omega
 have e2:absE y v = maxE y v - minE y v:=rfl
 have b:0 ≤ (absE x u + absE y v) * p ∧ (absE x u + absE y v) * p ≤ 200000 * 3600:=⟨Int.mul_nonneg (by omega) hp.1,Int.mul_le_mul (by omega) hp.2 hp.1 (by omega)⟩
 unfold wayF
 rw [show maxE x u - minE x u = absE x u from rfl,i64 (n:=absE x u) (by omega),i64 (n:=absE x u + maxE y v) (by omega),show absE x u + maxE y v - minE y v = absE x u + absE y v by omega,i64 (n:=absE x u + absE y v) (by omega)]
 unfold wayN
 generalize (absE x u + absE y v) * p = z at b
 rw [i64 (n:=z) (by omega),i64 (n:=z + 999) (by omega),Int.tdiv_eq_ediv_of_nonneg (by omega)]
 refine ⟨i64 (by omega),by omega,by omega,by omega⟩
theorem away_in {x y:Int} (h:awayB x y = false):(-50000 ≤ x ∧ x ≤ 50000) ∧ -50000 ≤ y ∧ y ≤ 50000:=by
 unfold awayB at h
 rw [Bool.or_eq_false_iff] at h
 exact ⟨outB_false.1 h.1,outB_false.1 h.2⟩
theorem at_in {t:TRoTask} (hv:TaskV t) {k:Int} (hk:k < t.Jobs.length):(-50000 ≤ atX t k ∧ atX t k ≤ 50000) ∧ -50000 ≤ atY t k ∧ atY t k ≤ 50000:=by
 by_cases h:k ≥ 0
 ·rw [atX_pos h,atY_pos h]
  exact away_in (job_ok (hv.job _ (job_get h hk).2)).2.2.1
 ·rw [atX_neg h,atY_neg h]
  exact away_in hv.away
def distN (t:TRoTask) (k n:Int):Int:=absE (atX t k) (atX t n) + absE (atY t k) (atY t n)
theorem way_ok {t:TRoTask} (hv:TaskV t) {k n:Int} (hk:k < t.Jobs.length) (hn:n < t.Jobs.length):wayE t k n = wayN (distN t k n) t.Pace ∧ 0 ≤ wayE t k n ∧ wayE t k n ≤ 720000 ∧ 0 ≤ distN t k n:=by
 have h1:=at_in hv hk
 have h2:=at_in hv hn
 obtain ⟨e1,e2,e3,e4⟩:=wayF_ok h1.1 h1.2 h2.1 h2.2 (outB_false.1 hv.pace)
 unfold wayE distN
 rw [e1]
 exact ⟨rfl,e3,e4,e2.1⟩
theorem way_tri {t:TRoTask} (hv:TaskV t) {a b c:Int} (ha:a < t.Jobs.length) (hb:b < t.Jobs.length) (hc:c < t.Jobs.length):wayE t a c ≤ wayE t a b + wayE t b c:=by
 have hp:=outB_false.1 hv.pace
 obtain ⟨e1,_,_,p1⟩:=way_ok hv ha hc
 obtain ⟨e2,_,_,p2⟩:=way_ok hv ha hb
 obtain ⟨e3,_,_,p3⟩:=way_ok hv hb hc
 have hd:distN t a c ≤ distN t a b + distN t b c:=by
  have h1:=abs_tri (atX t a) (atX t b) (atX t c)
  have h2:=abs_tri (atY t a) (atY t b) (atY t c)
  unfold distN
  omega
 have hm:distN t a c * t.Pace ≤ distN t a b * t.Pace + distN t b c * t.Pace:=by
  rw [← Int.add_mul]
  exact Int.mul_le_mul_of_nonneg_right hd hp.1
 rw [e1,e2,e3]
 unfold wayN
 omega
theorem both_in {a b:TRoSpan} (h0:0 ≤ a.From) (h1:a.Until ≤ 172800):0 ≤ (bothE a b).From ∧ (bothE a b).Until ≤ 172800 ∧ (bothE a b).From ≤ 172800:=by
 unfold bothE
 have g0:0 ≤ maxE a.From b.From:=by unfold maxE; split <;> omega
 have g1:minE a.Until b.Until ≤ 172800:=by unfold minE; split <;> omega
 by_cases h:maxE a.From b.From > minE a.Until b.Until
 ·rw [if_pos h]; exact ⟨by show (0:Int) ≤ 1; omega,by show (0:Int) ≤ 172800; omega,by show (1:Int) ≤ 172800; omega⟩
 ·rw [if_neg h]; exact ⟨g0,g1,by show maxE a.From b.From ≤ 172800; omega⟩
theorem span_in (t:TRoTask) (x:TRoJob):0 ≤ (spanE t x).From ∧ (spanE t x).Until ≤ 172800 ∧ (spanE t x).From ≤ 172800:=by
 have z:0 ≤ (⟨0,172800⟩:TRoSpan).From ∧ (⟨0,172800⟩:TRoSpan).Until ≤ 172800 ∧ (⟨0,172800⟩:TRoSpan).From ≤ 172800:=⟨Int.le_refl _,Int.le_refl _,by show (0:Int) ≤ 172800; omega⟩
 unfold spanE
 by_cases hc:x.Closure ≥ 0
 ·rw [if_pos hc]
  have b:=both_in (b:=cloAt t x.Closure) z.1 z.2.1
  split
  ·exact both_in b.1 b.2.1
  ·exact b
 ·rw [if_neg hc]
  split
  ·exact both_in z.1 z.2.1
  ·exact z
theorem spanAt_eq {t:TRoTask} {n:Int} (h0:0 ≤ n) (h:n < t.Jobs.length):spanAt (depE t) n = spanE t (jobAt t n):=by
 have hl:n.toNat < t.Jobs.length:=by omega
 unfold spanAt depE jobAt
 rw [List.getD_eq_getElem?_getD,List.getD_eq_getElem?_getD,List.getElem?_map,List.getElem?_eq_getElem hl]; rfl
theorem parts_ok:∀ (P:List Int) (K:List TRoKind) (a b:Int),(∀ n ∈ P,0 ≤ n ∧ n ≤ 20) → (∀ k ∈ K,kindB k = false) → P.length ≤ 4 → -1000000000000 + 20000 * (P.length:Int) ≤ a → a ≤ 1000000000000 → 0 ≤ b → b + 20000000 * (P.length:Int) ≤ 1000000000000 →
  (a - 20000 * (P.length:Int) ≤ (partsF P K a b).1 ∧ (partsF P K a b).1 ≤ a) ∧ b ≤ (partsF P K a b).2 ∧ (partsF P K a b).2 ≤ b + 20000000 * (P.length:Int):=by
 intro P
 induction P with
 | nil => intro K a b _ _ _ _ _ _ _; exact ⟨⟨by show a - _ ≤ a; simp,Int.le_refl _⟩,Int.le_refl _,by show b ≤ _; simp⟩
 | cons n P ih =>
  intro K a b hP hK hl ha ha' hb hb'
  rw [List.length_cons] at *
  match K with
  | [] => exact ⟨⟨by show a - _ ≤ a; omega,Int.le_refl _⟩,Int.le_refl _,by show b ≤ _; omega⟩
  | k :: K =>
   have hn:=hP n List.mem_cons_self
   have hk:=hK k List.mem_cons_self
   unfold kindB at hk
   rw [Bool.or_eq_false_iff] at hk
   have k1:=outB_false.1 hk.1
   have k2:=outB_false.1 hk.2
   have m1:0 ≤ n * k.Size ∧ n * k.Size ≤ 20 * 1000:=⟨Int.mul_nonneg hn.1 k1.1,Int.mul_le_mul hn.2 k1.2 k1.1 (by omega)⟩
   have m2:0 ≤ n * k.Price ∧ n * k.Price ≤ 20 * 1000000:=⟨Int.mul_nonneg hn.1 k2.1,Int.mul_le_mul hn.2 k2.2 k2.1 (by omega)⟩
   show (_ ≤ (partsF P K (IntKind.i64.wrap (a - IntKind.i64.wrap (n * k.Size))) (IntKind.i64.wrap (b + IntKind.i64.wrap (n * k.Price)))).1 ∧ (partsF P K (IntKind.i64.wrap (a - IntKind.i64.wrap (n * k.Size))) (IntKind.i64.wrap (b + IntKind.i64.wrap (n * k.Price)))).1 ≤ a) ∧ b ≤ (partsF P K (IntKind.i64.wrap (a - IntKind.i64.wrap (n * k.Size))) (IntKind.i64.wrap (b + IntKind.i64.wrap (n * k.Price)))).2 ∧ (partsF P K (IntKind.i64.wrap (a - IntKind.i64.wrap (n * k.Size))) (IntKind.i64.wrap (b + IntKind.i64.wrap (n * k.Price)))).2 ≤ b + 20000000 * ((P.length + 1:Nat):Int)
   generalize n * k.Size = y at m1
   generalize n * k.Price = z at m2
   rw [i64 (n:=y) (by omega),i64 (n:=z) (by omega),i64 (n:=a - y) (by omega),i64 (n:=b + z) (by omega)]
   have:=ih K (a - y) (b + z) (fun m hm => hP m (List.mem_cons_of_mem _ hm)) (fun m hm => hK m (List.mem_cons_of_mem _ hm)) (by omega) (by omega) (by omega) (by omega) (by omega)
   omega
structure TourV (t:TRoTask) (r:TTour) (m:Nat):Prop where
 now:0 ≤ r.now ∧ r.now ≤ 172800
 last:-1 ≤ r.last ∧ r.last < t.Jobs.length
 room:0 - 80000 * (m:Int) ≤ r.room ∧ r.room ≤ 1000000
 price:0 ≤ r.price ∧ r.price ≤ 80000000 * (m:Int)
 value:0 ≤ r.value ∧ r.value ≤ 1000000 * (m:Int)
 lor:r.RoLorry ∈ t.Lorries
theorem lor_ok {t:TRoTask} (hv:TaskV t) {x:TRoLorry} (hx:x ∈ t.Lorries):(0 ≤ x.Lift ∧ x.Lift ≤ 200) ∧ (0 ≤ x.Room ∧ x.Room ≤ 1000000) ∧ (0 ≤ x.Until ∧ x.Until ≤ 172800) ∧ (0 ≤ x.From ∧ x.From ≤ x.Until) ∧ 0 ≤ x.PerHour ∧ x.PerHour ≤ 1000000:=by
 have h:=hv.lor x hx
 unfold lorryE at h
 by_cases h0:outB x.Lift 0 200 = true
 ·rw [if_pos h0] at h; exact absurd h (by simp)
 rw [if_neg h0] at h
 by_cases h1:outB x.Room 0 1000000 = true
 ·rw [if_pos h1] at h; exact absurd h (by simp)
 rw [if_neg h1] at h
 by_cases h2:wildS ⟨x.From,x.Until⟩ = true
 ·rw [if_pos h2] at h; exact absurd h (by simp)
 rw [if_neg h2] at h
 by_cases h3:outB x.PerHour 0 1000000 = true
 ·rw [if_pos h3] at h; exact absurd h (by simp)
 have h2:wildS ⟨x.From,x.Until⟩ = false:=by simpa using h2
 unfold wildS at h2
 rw [Bool.or_eq_false_iff] at h2
 exact ⟨outB_false.1 (by simpa using h0),outB_false.1 (by simpa using h1),outB_false.1 h2.1,outB_false.1 h2.2,outB_false.1 (by simpa using h3)⟩
theorem leave_ok {t:TRoTask} (hv:TaskV t) {i:Nat} (hi:i < t.Lorries.length):TourV t (leaveE (depE t) i) 0:=by
 have hm:=(lor_get (t:=t) (k:=(i:Int)) (by omega) (by omega)).2
 obtain ⟨_,h2,h3,h4,_⟩:=lor_ok hv hm
 exact ⟨⟨h4.1,by show (lorAt t i).From ≤ 172800; omega⟩,⟨Int.le_refl _,by show (-1:Int) < _; omega⟩,⟨by show (0:Int) - 80000 * 0 ≤ (lorAt t i).Room; omega,h2.2⟩,⟨Int.le_refl _,by show (0:Int) ≤ 80000000 * 0; omega⟩,⟨Int.le_refl _,by show (0:Int) ≤ 1000000 * 0; omega⟩,hm⟩
theorem visit_ok {t:TRoTask} (hv:TaskV t) {r:TTour} {m:Nat} (hr:TourV t r m) (hm:m ≤ 10) {n:Int} (h0:0 ≤ n) (hn:n < t.Jobs.length) (hb:visitB (depE t) r n = true) :
  TourV t (visitT (depE t) r n) (m + 1) ∧ (visitT (depE t) r n).room ≤ r.room ∧ r.now + wayE t r.last n ≤ (visitT (depE t) r n).now ∧ (visitT (depE t) r n).last = n ∧ (visitT (depE t) r n).RoLorry = r.RoLorry ∧
   (visitT (depE t) r n).value = r.value + (jobAt t n).Value:=by
 have hj:=(job_get h0 hn).2
 obtain ⟨p1,_,_,p4,p5,p6,p7⟩:=job_ok (hv.job _ hj)
 have hkl:=hv.kl
 obtain ⟨w1,w2,w3⟩:=way_ok hv hr.last.2 hn
 have hs:=span_in t (jobAt t n)
 rw [← spanAt_eq h0 hn] at hs
 have hnow:=hr.now
 have hroom:=hr.room
 have hprice:=hr.price
 have hval:=hr.value
 have e:visitT (depE t) r n = doneE (depE t) r n:=if_pos hb
 have ea:arriveE (depE t) r n = r.now + wayE t r.last n:=i64 (by show _ ≤ r.now + wayE t r.last n ∧ r.now + wayE t r.last n < _; omega)
 have es:r.now + wayE t r.last n ≤ startE (depE t) r n ∧ startE (depE t) r n ≤ 1000000:=by
  unfold startE
  rw [ea]
  unfold maxE
  split <;> omega
 have ee:endE (depE t) r n = startE (depE t) r n + (jobAt t n).Seconds:=i64 (by show _ ≤ startE (depE t) r n + (jobAt t n).Seconds ∧ startE (depE t) r n + (jobAt t n).Seconds < _; omega)
 unfold visitB at hb
 rw [Bool.and_eq_true,Bool.not_eq_true',Bool.not_eq_true',decide_eq_false_iff_not] at hb
 have hlen:(jobAt t n).Parts.length ≤ 4:=by omega
 obtain ⟨q1,q2⟩:=parts_ok (jobAt t n).Parts t.Kinds r.room r.price p7 hv.kinds hlen (by omega) (by omega) hprice.1 (by omega)
 have el:loadF (depE t) r n = partsF (jobAt t n).Parts t.Kinds r.room r.price:=rfl
 rw [← el] at q1 q2
 have ev:IntKind.i64.wrap (r.value + (jobAt t n).Value) = r.value + (jobAt t n).Value:=i64 (by omega)
 rw [e]
 refine ⟨⟨?_,?_,?_,?_,?_,hr.lor⟩,?_,?_,rfl,rfl,ev⟩
 ·show 0 ≤ endE (depE t) r n ∧ endE (depE t) r n ≤ 172800
  omega
 ·show -1 ≤ n ∧ n < (t.Jobs.length:Int)
  omega
 ·show 0 - 80000 * ((m + 1:Nat):Int) ≤ (loadF (depE t) r n).1 ∧ (loadF (depE t) r n).1 ≤ 1000000
  omega
 ·show 0 ≤ (loadF (depE t) r n).2 ∧ (loadF (depE t) r n).2 ≤ 80000000 * ((m + 1:Nat):Int)
  omega
 ·show 0 ≤ IntKind.i64.wrap (r.value + (jobAt t n).Value) ∧ IntKind.i64.wrap (r.value + (jobAt t n).Value) ≤ 1000000 * ((m + 1:Nat):Int)
  rw [ev]; omega
 ·show (loadF (depE t) r n).1 ≤ r.room
  omega
 ·show r.now + wayE t r.last n ≤ endE (depE t) r n
  omega
theorem back_ok {t:TRoTask} (hv:TaskV t) {r:TTour} {m:Nat} (hr:TourV t r m):backE (depE t) r = r.now + wayE t r.last (-1) ∧ 0 ≤ backE (depE t) r ∧ backE (depE t) r ≤ 1000000:=by
 obtain ⟨_,w2,w3,_⟩:=way_ok hv hr.last.2 (show (-1:Int) < t.Jobs.length by omega)
 have hnow:=hr.now
 have e:backE (depE t) r = r.now + wayE t r.last (-1):=i64 (by show _ ≤ r.now + wayE t r.last (-1) ∧ r.now + wayE t r.last (-1) < _; omega)
 rw [e]
 omega
theorem goes_back {t:TRoTask} (hv:TaskV t) {r:TTour} {m:Nat} (hr:TourV t r m) (hm:m ≤ 10) {n:Int} (h0:0 ≤ n) (hn:n < t.Jobs.length) (hb:visitB (depE t) r n = true) (hg:goesB (depE t) (visitT (depE t) r n) = true):goesB (depE t) r = true:=by
 obtain ⟨v1,v2,v3,v4,v5,_⟩:=visit_ok hv hr hm h0 hn hb
 obtain ⟨g1,g2⟩:=goes_iff.1 hg
 obtain ⟨b1,_⟩:=back_ok hv v1
 obtain ⟨b2,_⟩:=back_ok hv hr
 have tri:=way_tri hv hr.last.2 hn (show (-1:Int) < t.Jobs.length by omega)
 rw [v5,b1,v4] at g1
 refine goes_iff.2 ⟨?_,by omega⟩
 rw [b2]
 omega
end Go.Proofs.YtdeeekgohhkdbaaGreatDoor
namespace Go.Proofs.YtdeeekgohhkdbaaGreatDoor
def maskB:Bool:=(List.range 64).all fun dn => (List.range 6).all fun j => (List.range 6).all fun k => !freeB (dn:Nat) j || (freeB (orE (dn:Nat) j) k == (freeB (dn:Nat) k && !(j == k)))
theorem mask_all:maskB = true:=by kernel_rfl
theorem mask_or {dn:Int} {j k:Nat} (h0:0 ≤ dn) (h1:dn < 64) (hj:j < 6) (hk:k < 6) (hf:freeB dn j = true):freeB (orE dn j) k = (freeB dn k && !(j == k)):=by
 obtain ⟨m,rfl⟩:∃ m:Nat,dn = m:=⟨dn.toNat,by omega⟩
 have h:=List.all_eq_true.1 (List.all_eq_true.1 (List.all_eq_true.1 mask_all m (List.mem_range.2 (by omega))) j (List.mem_range.2 hj)) k (List.mem_range.2 hk)
 rw [hf,Bool.not_true,Bool.false_or,beq_iff_eq] at h
 exact h
structure Mask (D:List Int) (n:Int):Prop where
 lo:0 ≤ n
 hi:n < 64
 bit:∀ j:Nat,j < 6 → (freeB n j = true ↔ (j:Int) ∉ D)
theorem mask_nil:Mask [] 0:=⟨by omega,by omega,fun j hj => ⟨fun _ => by simp,fun _ => (List.all_eq_true.1 (show (List.range 6).all (freeB 0) = true by kernel_rfl)) j (List.mem_range.2 hj)⟩⟩
theorem mask_add {D:List Int} {n:Int} {j:Nat} (h:Mask D n) (hj:j < 6) (hf:freeB n j = true):Mask (D ++ [(j:Int)]) (orE n j):=by
 obtain ⟨b1,b2,_⟩:=bits_ok h.lo h.hi hj hf
 refine ⟨b1,b2,fun k hk => ?_⟩
 rw [mask_or h.lo h.hi hj hk hf,Bool.and_eq_true,h.bit k hk,List.mem_append,List.mem_singleton]
 constructor
 ·rintro ⟨g1,g2⟩ (g3 | g3)
  ·exact g1 g3
  ·have:j = k:=by omega
   subst this
   simp at g2
 ·intro g
  refine ⟨fun g3 => g (.inl g3),?_⟩
  cases hjk:(j == k) with
  | false => rfl
  | true => rw [beq_iff_eq] at hjk; subst hjk; exact absurd (.inr rfl) g
theorem new_few:∀ (L D:List Int) (n:Int),Mask D n → (∀ x ∈ L,0 ≤ x ∧ x < 6) → newL D L = true → L.length ≤ cntF n:=by
 intro L
 induction L with
 | nil => intro D n _ _ _; exact Nat.zero_le _
 | cons x L ih =>
  intro D n hM hx hn
  unfold newL at hn
  rw [Bool.and_eq_true] at hn
  obtain ⟨x0,x1⟩:=hx x List.mem_cons_self
  obtain ⟨j,rfl⟩:∃ j:Nat,x = j:=⟨x.toNat,by omega⟩
  have hj:j < 6:=by omega
  have hf:freeB n j = true:=(hM.bit j hj).2 (by simpa using hn.1)
  obtain ⟨_,_,b3⟩:=bits_ok hM.lo hM.hi hj hf
  have:=ih _ _ (mask_add hM hj hf) (fun y hy => hx y (List.mem_cons_of_mem _ hy)) hn.2
  rw [List.length_cons]; omega
theorem cnt_le (n:Int):cntF n ≤ 6:=by
 unfold cntF
 exact Nat.le_trans List.countP_le_length (by rw [List.length_range]; exact Nat.le_refl _)
theorem jobs_visit {d:TDepot} {r:TTour} {n:Int} (h:visitB d r n = true):jobsT (visitT d r n) = jobsT r ++ [n]:=by
 have e:visitT d r n = doneE d r n:=if_pos h
 rw [e]
 show (r.stops ++ [stopE d r n]).map (·.Job) = _
 rw [List.map_append]; rfl
theorem can_iff {d:TDepot} {r:TTour} {n:Int}:canJ d r n = true ↔ (jobAt d.RoTask n).Height ≤ r.RoLorry.Lift ∧ visitB d r n = true:=by
 unfold canJ; rw [Bool.and_eq_true,decide_eq_true_eq]
theorem grow_in {t:TRoTask} (hjl:t.Jobs.length ≤ 6):∀ (f:Nat) (r:TTour) (n:Int) (D:List Int),Mask D n → ∀ p ∈ growL (depE t) f r n,
  ∃ L:List Int,(∀ x ∈ L,0 ≤ x ∧ x < t.Jobs.length) ∧ p.1 = runJ (depE t) r L ∧ newL D L = true ∧ canL (depE t) r L = true ∧ goesB (depE t) (runJ (depE t) r L) = true ∧ Mask (D ++ L) p.2 ∧ jobsT p.1 = jobsT r ++ L:=by
 intro f
 induction f with
 | zero => intro r n D _ p h; cases h
 | succ f ih =>
  intro r n D hM p h
  unfold growL at h
  split at h
  ·rename_i hg
   rcases List.mem_cons.1 h with rfl | h
   ·exact ⟨[],fun x hx => (by cases hx),rfl,rfl,rfl,hg,by rw [List.append_nil]; exact hM,by rw [List.append_nil]⟩
   ·obtain ⟨j,hj',h⟩:=List.mem_flatMap.1 h
    rw [List.mem_range] at hj'
    have hj:j < t.Jobs.length:=hj'
    split at h
    ·rename_i hc
     unfold canB at hc
     rw [Bool.and_eq_true] at hc
     have hcan:canJ (depE t) r j = true:=hc.2
     obtain ⟨L,l1,l2,l3,l4,l5,l6,l7⟩:=ih _ _ _ (mask_add hM (by omega) hc.1) p h
     refine ⟨(j:Int) :: L,fun x hx => ?_,l2,?_,?_,l5,by rw [List.append_assoc] at l6; exact l6,?_⟩
     ·rcases List.mem_cons.1 hx with rfl | hx
      ·omega
      ·exact l1 x hx
     ·unfold newL; rw [decide_eq_false ((hM.bit j (by omega)).1 hc.1)]; exact l3
     ·unfold canL; rw [hcan]; exact l4
     ·rw [l7,jobs_visit (can_iff.1 hcan).2,List.append_assoc]; rfl
    ·cases h
  ·cases h
theorem goes_run {t:TRoTask} (hv:TaskV t):∀ (L:List Int) (r:TTour) (m:Nat),TourV t r m → m + L.length ≤ 10 → (∀ x ∈ L,0 ≤ x ∧ x < t.Jobs.length) → canL (depE t) r L = true → goesB (depE t) (runJ (depE t) r L) = true → goesB (depE t) r = true:=by
 intro L
 induction L with
 | nil => intro r m _ _ _ _ h; exact h
 | cons x L ih =>
  intro r m hr hm hx hc hg
  unfold canL at hc
  rw [Bool.and_eq_true] at hc
  obtain ⟨x0,x1⟩:=hx x List.mem_cons_self
  rw [List.length_cons] at hm
  have hb:=(can_iff.1 hc.1).2
  have v:=visit_ok hv hr (by omega) x0 x1 hb
  exact goes_back hv hr (by omega) x0 x1 hb (ih _ _ v.1 (by omega) (fun y hy => hx y (List.mem_cons_of_mem _ hy)) hc.2 hg)
theorem grow_mem {t:TRoTask} (hv:TaskV t):∀ (L:List Int) (f:Nat) (r:TTour) (n:Int) (D:List Int) (m:Nat),TourV t r m → m + L.length ≤ 10 → Mask D n → L.length < f → (∀ x ∈ L,0 ≤ x ∧ x < t.Jobs.length) → newL D L = true → canL (depE t) r L = true →
  goesB (depE t) (runJ (depE t) r L) = true → ∃ m',(runJ (depE t) r L,m') ∈ growL (depE t) f r n ∧ Mask (D ++ L) m':=by
 have hjl:=hv.jl
 intro L
 induction L with
 | nil =>
  intro f r n D m hr hm hM hf _ _ _ hg
  obtain ⟨f,rfl⟩:∃ g,f = g + 1:=⟨f - 1,by rw [List.length_nil] at hf; omega⟩
  have hg:goesB (depE t) r = true:=hg
  refine ⟨n,?_,by rw [List.append_nil]; exact hM⟩
  unfold growL
  rw [if_pos hg]
  exact List.mem_cons_self
 | cons x L ih =>
  intro f r n D m hr hm hM hf hx hn hc hg
  have hgr:=goes_run hv (x :: L) r m hr hm hx hc hg
  rw [List.length_cons] at hm hf
  obtain ⟨f,rfl⟩:∃ g,f = g + 1:=⟨f - 1,by omega⟩
  obtain ⟨x0,x1⟩:=hx x List.mem_cons_self
  unfold newL at hn
  unfold canL at hc
  rw [Bool.and_eq_true] at hn hc
  obtain ⟨j,rfl⟩:∃ j:Nat,x = j:=⟨x.toNat,by omega⟩
  have hfr:freeB n j = true:=(hM.bit j (by omega)).2 (by simpa using hn.1)
  have v:=visit_ok hv hr (by omega) x0 x1 (can_iff.1 hc.1).2
  obtain ⟨m',h1,h2⟩:=ih f _ _ _ _ v.1 (by omega) (mask_add hM (by omega) hfr) (by omega) (fun y hy => hx y (List.mem_cons_of_mem _ hy)) hn.2 hc.2 hg
  refine ⟨m',?_,by rw [List.append_assoc] at h2; exact h2⟩
  unfold growL
  rw [if_pos hgr]
  refine List.mem_cons_of_mem _ (List.mem_flatMap.2 ⟨j,List.mem_range.2 (by show j < t.Jobs.length; omega),?_⟩)
  have hcb:canB (depE t) r n j = true:=by unfold canB; rw [hfr]; exact hc.1
  rw [if_pos hcb]
  exact h1
theorem run_ok {t:TRoTask} (hv:TaskV t):∀ (L:List Int) (r:TTour) (m:Nat),TourV t r m → m + L.length ≤ 10 → (∀ x ∈ L,0 ≤ x ∧ x < t.Jobs.length) → canL (depE t) r L = true → TourV t (runJ (depE t) r L) (m + L.length):=by
 intro L
 induction L with
 | nil => intro r m hr _ _ _; exact hr
 | cons x L ih =>
  intro r m hr hm hx hc
  unfold canL at hc
  rw [Bool.and_eq_true] at hc
  obtain ⟨x0,x1⟩:=hx x List.mem_cons_self
  rw [List.length_cons] at hm ⊢
  have v:=visit_ok hv hr (by omega) x0 x1 (can_iff.1 hc.1).2
  have:=ih _ _ v.1 (by omega) (fun y hy => hx y (List.mem_cons_of_mem _ hy)) hc.2
  rw [show m + (L.length + 1) = m + 1 + L.length by omega]
  exact this
theorem cost_ok {t:TRoTask} (hv:TaskV t) {r:TTour} {m:Nat} (hr:TourV t r m) (hm:m ≤ 10):-1000000000 ≤ costE (depE t) r ∧ costE (depE t) r ≤ 2000000000:=by
 obtain ⟨_,b1,b2⟩:=back_ok hv hr
 obtain ⟨_,_,l1,l2,l3⟩:=lor_ok hv hr.lor
 have hp:=hr.price
 unfold costE
 split
 ·omega
 ·rw [i64 (n:=backE (depE t) r - r.RoLorry.From) (by omega)]
  have hy:-172800 ≤ backE (depE t) r - r.RoLorry.From ∧ backE (depE t) r - r.RoLorry.From ≤ 1000000:=by omega
  generalize backE (depE t) r - r.RoLorry.From = y at *
  have b:-172800000000 ≤ y * r.RoLorry.PerHour ∧ y * r.RoLorry.PerHour ≤ 1172800000000:=by
   have u1:(y + 172800) * r.RoLorry.PerHour ≤ 1172800 * 1000000:=Int.mul_le_mul (by omega) l3.2 l3.1 (by omega)
   have u2:0 ≤ (y + 172800) * r.RoLorry.PerHour:=Int.mul_nonneg (by omega) l3.1
   rw [Int.add_mul] at u1 u2
   generalize y * r.RoLorry.PerHour = z at *
   generalize r.RoLorry.PerHour = q at *
   omega
  generalize y * r.RoLorry.PerHour = z at b
  rw [i64 (n:=z) (by omega),i64 (n:=z + 3599) (by omega)]
  have d1:(z + 3599).tdiv 3600 ≤ 330000000 ∧ -300000000 ≤ (z + 3599).tdiv 3600:=by
   rcases Int.lt_or_le (z + 3599) 0 with hneg | hpos
   ·have e:(z + 3599).tdiv 3600 = -((-(z + 3599)) / 3600):=by
     rw [← Int.tdiv_eq_ediv_of_nonneg (by omega),Int.neg_tdiv,Int.neg_neg]
    rw [e]; omega
   ·rw [Int.tdiv_eq_ediv_of_nonneg hpos]; omega
  generalize (z + 3599).tdiv 3600 = w at d1
  rw [i64 (n:=w) (by omega),i64 (n:=r.price + w) (by omega)]
  omega
def sumV (d:TDepot):Nat → List (List Int) → Int
 | _,[] => 0
 | i,L :: P => (runJ d (leaveE d i) L).value + sumV d (i + 1) P
def sumC (d:TDepot):Nat → List (List Int) → Int
 | _,[] => 0
 | i,L :: P => costE d (runJ d (leaveE d i) L) + sumC d (i + 1) P
def PlanR (t:TRoTask) (P:List (List Int)):Prop:=∀ L ∈ P,L.length ≤ 6 ∧ ∀ x ∈ L,0 ≤ x ∧ x < t.Jobs.length
theorem round_in {t:TRoTask} (hv:TaskV t) {i:Nat} (hi:i < t.Lorries.length) {D L:List Int} (hg:GoodR (depE t) i D L) (hL:L.length ≤ 6) (hx:∀ x ∈ L,0 ≤ x ∧ x < t.Jobs.length) :
  TourV t (runJ (depE t) (leaveE (depE t) i) L) L.length ∧ (0 ≤ (runJ (depE t) (leaveE (depE t) i) L).value ∧ (runJ (depE t) (leaveE (depE t) i) L).value ≤ 6000000) ∧ -1000000000 ≤ costE (depE t) (runJ (depE t) (leaveE (depE t) i) L) ∧ costE (depE t) (runJ (depE t) (leaveE (depE t) i) L) ≤ 2000000000:=by
 have r:=run_ok hv L _ 0 (leave_ok hv hi) (by omega) hx hg.can
 rw [Nat.zero_add] at r
 have hval:=r.value
 exact ⟨r,⟨hval.1,by omega⟩,cost_ok hv r (by omega)⟩
theorem sums_in {t:TRoTask} (hv:TaskV t):∀ (P:List (List Int)) (i:Nat) (D:List Int),i + P.length = t.Lorries.length → goodP (depE t) i D P → PlanR t P →
  (0 ≤ sumV (depE t) i P ∧ sumV (depE t) i P ≤ 6000000 * (P.length:Int)) ∧ -1000000000 * (P.length:Int) ≤ sumC (depE t) i P ∧ sumC (depE t) i P ≤ 2000000000 * (P.length:Int):=by
 intro P
 induction P with
 | nil => intro i D _ _ _; exact ⟨⟨Int.le_refl _,by show (0:Int) ≤ 6000000 * 0; omega⟩,by show -1000000000 * 0 ≤ (0:Int); omega,by show (0:Int) ≤ 2000000000 * 0; omega⟩
 | cons L P ih =>
  intro i D hl hg hP
  rw [List.length_cons] at hl
  obtain ⟨p1,p2⟩:=hP L List.mem_cons_self
  obtain ⟨_,v,c1,c2⟩:=round_in hv (by omega) hg.1 p1 p2
  obtain ⟨s1,s2,s3⟩:=ih (i + 1) _ (by omega) hg.2 (fun M hM => hP M (List.mem_cons_of_mem _ hM))
  show (0 ≤ _ + sumV (depE t) (i + 1) P ∧ _ + sumV (depE t) (i + 1) P ≤ _) ∧ _ ≤ _ + sumC (depE t) (i + 1) P ∧ _ + sumC (depE t) (i + 1) P ≤ _
  rw [List.length_cons]
  omega
theorem val_sum {t:TRoTask} (hv:TaskV t):∀ (P:List (List Int)) (i:Nat) (D:List Int) (a b:Int),i + P.length = t.Lorries.length → goodP (depE t) i D P → PlanR t P → 0 ≤ a → a ≤ 100000000 → -100000000000 ≤ b → b ≤ 100000000000 →
  a + 6000000 * (P.length:Int) ≤ 100000000 → b + 2000000000 * (P.length:Int) ≤ 100000000000 → -100000000000 ≤ b - 1000000000 * (P.length:Int) → valL (depE t) i a P = a + sumV (depE t) i P ∧ cosL (depE t) i b P = b + sumC (depE t) i P:=by
 intro P
 induction P with
 | nil => intro i D a b _ _ _ _ _ _ _ _ _ _; exact ⟨by show a = a + 0; omega,by show b = b + 0; omega⟩
 | cons L P ih =>
  intro i D a b hl hg hP a0 a1 b0 b1 h1 h2 h3
  rw [List.length_cons] at hl h1 h2 h3
  obtain ⟨p1,p2⟩:=hP L List.mem_cons_self
  obtain ⟨_,v,c1,c2⟩:=round_in hv (by omega) hg.1 p1 p2
  show valL (depE t) (i + 1) (IntKind.i64.wrap (a + (runJ (depE t) (leaveE (depE t) i) L).value)) P = a + ((runJ (depE t) (leaveE (depE t) i) L).value + sumV (depE t) (i + 1) P) ∧ cosL (depE t) (i + 1) (IntKind.i64.wrap (b + costE (depE t) (runJ (depE t) (leaveE (depE t) i) L))) P = b + (costE (depE t) (runJ (depE t) (leaveE (depE t) i) L) + sumC (depE t) (i + 1) P)
  generalize (runJ (depE t) (leaveE (depE t) i) L).value = y at *
  generalize costE (depE t) (runJ (depE t) (leaveE (depE t) i) L) = z at *
  rw [i64 (n:=a + y) (by omega),i64 (n:=b + z) (by omega)]
  obtain ⟨e1,e2⟩:=ih (i + 1) _ (a + y) (b + z) (by omega) hg.2 (fun M hM => hP M (List.mem_cons_of_mem _ hM)) (by omega) (by omega) (by omega) (by omega) (by omega) (by omega) (by omega)
  rw [e1,e2]
  omega
def geT (v c w e:Int):Prop:=v > w ∨ v = w ∧ c ≤ e
theorem pick_ge {b x:TTail} (hb:b.plan ≠ []):geT (pickT b x).value (pickT b x).cost b.value b.cost ∧ geT (pickT b x).value (pickT b x).cost x.value x.cost:=by
 unfold pickT
 rw [if_neg hb]
 cases h:betterB x b with
 | true =>
  rw [if_pos rfl]
  unfold betterB at h
  rw [Bool.or_eq_true,Bool.and_eq_true,decide_eq_true_eq,decide_eq_true_eq,beq_iff_eq] at h
  unfold geT
  omega
 | false =>
  rw [if_neg (by simp)]
  unfold betterB at h
  rw [Bool.or_eq_false_iff,Bool.and_eq_false_iff,decide_eq_false_iff_not,decide_eq_false_iff_not,beq_eq_false_iff_ne] at h
  unfold geT
  omega
theorem geT_trans {a b c d e f:Int} (h:geT a b c d) (h':geT c d e f):geT a b e f:=by unfold geT at *; omega
theorem fold_best {α:Type} (c:α → TTail) (hc:∀ p,(c p).plan ≠ []):∀ (G:List α) (b:TTail),b.plan ≠ [] ∨ G ≠ [] →
  ((b.plan ≠ [] ∧ G.foldl (fun b p => pickT b (c p)) b = b) ∨ ∃ p ∈ G,G.foldl (fun b p => pickT b (c p)) b = c p) ∧
  (b.plan ≠ [] → geT (G.foldl (fun b p => pickT b (c p)) b).value (G.foldl (fun b p => pickT b (c p)) b).cost b.value b.cost) ∧
  ∀ p ∈ G,geT (G.foldl (fun b p => pickT b (c p)) b).value (G.foldl (fun b p => pickT b (c p)) b).cost (c p).value (c p).cost:=by
 intro G
 induction G with
 | nil =>
  intro b h
  have hb:b.plan ≠ []:=h.elim id fun h => absurd rfl h
  exact ⟨.inl ⟨hb,rfl⟩,fun _ => .inr ⟨rfl,Int.le_refl _⟩,fun p hp => (by cases hp)⟩
 | cons p G ih =>
  intro b _
  have hne:(pickT b (c p)).plan ≠ []:=pick_ne (hc p)
  obtain ⟨h1,h2,h3⟩:=ih (pickT b (c p)) (.inl hne)
  have h2:=h2 hne
  refine ⟨?_,fun hb => geT_trans h2 (pick_ge hb).1,fun q hq => ?_⟩
  ·rcases h1 with ⟨_,h1⟩ | ⟨q,hq,h1⟩
   ·have hpick:pickT b (c p) = c p ∨ (b.plan ≠ [] ∧ pickT b (c p) = b):=by
     unfold pickT
     split
     ·exact .inl rfl
     ·rename_i hb
      split
      ·exact .inl rfl
      ·exact .inr ⟨hb,rfl⟩
    rcases hpick with hp | ⟨hb,hp⟩
    ·exact .inr ⟨p,List.mem_cons_self,h1.trans hp⟩
    ·exact .inl ⟨hb,h1.trans hp⟩
   ·exact .inr ⟨q,List.mem_cons_of_mem _ hq,h1⟩
  ·rcases List.mem_cons.1 hq with rfl | hq
   ·by_cases hb:b.plan = []
    ·have e:pickT b (c q) = c q:=if_pos hb
     have key:(q :: G).foldl (fun b p => pickT b (c p)) b = G.foldl (fun b p => pickT b (c p)) (c q):=by
      show G.foldl (fun b p => pickT b (c p)) (pickT b (c q)) = _
      rw [e]
     rw [e] at h2
     rw [key]
     exact h2
    ·exact geT_trans h2 (pick_ge hb).2
   ·exact h3 q hq
theorem best_law {t:TRoTask} (hv:TaskV t):∀ (k l:Nat) (n:Int) (D:List Int),l + k = t.Lorries.length → Mask D n →
  goodP (depE t) l D (bestF (depE t) k l n).plan ∧ (bestF (depE t) k l n).plan.length = k ∧ PlanR t (bestF (depE t) k l n).plan ∧ (bestF (depE t) k l n).value = sumV (depE t) l (bestF (depE t) k l n).plan ∧ (bestF (depE t) k l n).cost = sumC (depE t) l (bestF (depE t) k l n).plan ∧
  ∀ P:List (List Int),P.length = k → goodP (depE t) l D P → PlanR t P → geT (bestF (depE t) k l n).value (bestF (depE t) k l n).cost (sumV (depE t) l P) (sumC (depE t) l P):=by
 have hjl:=hv.jl
 have hll:=hv.ll
 intro k
 induction k with
 | zero =>
  intro l n D hl hM
  refine ⟨trivial,rfl,fun L hL => (by cases hL),rfl,rfl,fun P hP _ _ => ?_⟩
  have hP:P = []:=List.length_eq_zero_iff.1 hP
  subst hP
  exact .inr ⟨rfl,Int.le_refl _⟩
 | succ k ih =>
  intro l n D hl hM
  have hlv:=leave_ok hv (show l < t.Lorries.length by omega)
  have hG:∀ p ∈ growL (depE t) 7 (leaveE (depE t) l) n,_:=fun p hp => grow_in hjl 7 (leaveE (depE t) l) n D hM p hp
  have hfew:∀ L:List Int,(∀ x ∈ L,0 ≤ x ∧ x < t.Jobs.length) → newL D L = true → L.length ≤ 6:=fun L h1 h2 =>
   Nat.le_trans (new_few L D n hM (fun x hx => ⟨(h1 x hx).1,by have:=(h1 x hx).2; omega⟩) h2) (cnt_le n)
  have cand:∀ p ∈ growL (depE t) 7 (leaveE (depE t) l) n,∃ L:List Int,GoodR (depE t) l D L ∧ L.length ≤ 6 ∧ (∀ x ∈ L,0 ≤ x ∧ x < t.Jobs.length) ∧ p.1 = runJ (depE t) (leaveE (depE t) l) L ∧ Mask (D ++ L) p.2 ∧ jobsT p.1 = L:=fun p hp => by
   obtain ⟨L,l1,l2,l3,l4,l5,l6,l7⟩:=hG p hp
   exact ⟨L,⟨l3,l4,l5⟩,hfew L l1 l3,l1,l2,l6,l7⟩
  have join:∀ p ∈ growL (depE t) 7 (leaveE (depE t) l) n,∀ L:List Int,GoodR (depE t) l D L → L.length ≤ 6 → (∀ x ∈ L,0 ≤ x ∧ x < t.Jobs.length) → p.1 = runJ (depE t) (leaveE (depE t) l) L → Mask (D ++ L) p.2 →
    (joinT (depE t) p.1 (bestF (depE t) k (l + 1) p.2)).value = (runJ (depE t) (leaveE (depE t) l) L).value + (bestF (depE t) k (l + 1) p.2).value ∧ (joinT (depE t) p.1 (bestF (depE t) k (l + 1) p.2)).cost = costE (depE t) (runJ (depE t) (leaveE (depE t) l) L) + (bestF (depE t) k (l + 1) p.2).cost:=fun p hp L g1 g2 g3 g4 g5 => by
   obtain ⟨i1,i2,i3,i4,i5,_⟩:=ih (l + 1) p.2 (D ++ L) (by omega) g5
   obtain ⟨_,v,c1,c2⟩:=round_in hv (show l < t.Lorries.length by omega) g1 g2 g3
   obtain ⟨s1,s2,s3⟩:=sums_in hv _ (l + 1) _ (by rw [i2]; omega) i1 i3
   rw [← i4,i2] at s1
   rw [← i5,i2] at s2 s3
   show IntKind.i64.wrap (p.1.value + _) = _ ∧ IntKind.i64.wrap (costE (depE t) p.1 + _) = _
   rw [g4]
   exact ⟨i64 (by omega),i64 (by omega)⟩
  have hgo:goesB (depE t) (leaveE (depE t) l) = true:=by
   obtain ⟨b1,_⟩:=back_ok hv hlv
   obtain ⟨_,r1,_,r2,_⟩:=lor_ok hv hlv.lor
   have w:wayE t (-1) (-1) = 0:=by
    rw [(way_ok hv (show (-1:Int) < t.Jobs.length by omega) (show (-1:Int) < t.Jobs.length by omega)).1]
    have z:distN t (-1) (-1) = 0:=by unfold distN absE maxE minE; split <;> split <;> omega
    unfold wayN; rw [z,Int.zero_mul]; rfl
   refine goes_iff.2 ⟨?_,r1.1⟩
   rw [b1]
   show (lorAt t l).From + wayE t (-1) (-1) ≤ (lorAt t l).Until
   rw [w]
   have r2:(lorAt t l).From ≤ (lorAt t l).Until:=r2.2
   omega
  have hne:growL (depE t) 7 (leaveE (depE t) l) n ≠ []:=by
   unfold growL
   rw [if_pos hgo]
   exact List.cons_ne_nil _ _
  have hB:bestF (depE t) (k + 1) l n = (growL (depE t) 7 (leaveE (depE t) l) n).foldl (fun b p => pickT b (joinT (depE t) p.1 (bestF (depE t) k (l + 1) p.2))) TTail.zero:=rfl
  obtain ⟨f1,_,f3⟩:=fold_best (fun p:TTour × Int => joinT (depE t) p.1 (bestF (depE t) k (l + 1) p.2)) (fun p => by simp [joinT]) _ TTail.zero (.inr hne)
  rw [← hB] at f1 f3
  have f1:∃ p ∈ growL (depE t) 7 (leaveE (depE t) l) n,bestF (depE t) (k + 1) l n = joinT (depE t) p.1 (bestF (depE t) k (l + 1) p.2):=f1.elim (fun h => absurd rfl h.1) id
  obtain ⟨p,hp,he⟩:=f1
  obtain ⟨L,g1,g2,g3,g4,g5,g6⟩:=cand p hp
  obtain ⟨j1,j2⟩:=join p hp L g1 g2 g3 g4 g5
  obtain ⟨i1,i2,i3,i4,i5,_⟩:=ih (l + 1) p.2 (D ++ L) (by omega) g5
  have hplan:(bestF (depE t) (k + 1) l n).plan = L :: (bestF (depE t) k (l + 1) p.2).plan:=by rw [he]; show jobsT p.1 :: _ = _; rw [g6]
  refine ⟨by rw [hplan]; exact ⟨g1,i1⟩,by rw [hplan,List.length_cons,i2],?_,?_,?_,?_⟩
  ·rw [hplan]
   intro M hMm
   rcases List.mem_cons.1 hMm with rfl | hMm
   ·exact ⟨g2,g3⟩
   ·exact i3 M hMm
  ·rw [hplan,he,j1,i4]; rfl
  ·rw [hplan,he,j2,i5]; rfl
  ·intro P hPl hPg hPr
   match P,hPl,hPg,hPr with
   | L' :: P',hPl,hPg,hPr =>
    rw [List.length_cons] at hPl
    obtain ⟨q1,q2⟩:=hPr L' List.mem_cons_self
    have q1:L'.length ≤ 6:=q1
    obtain ⟨m',h1,h2⟩:=grow_mem hv L' 7 (leaveE (depE t) l) n D 0 hlv (by omega) hM (by omega) q2 hPg.1.new hPg.1.can hPg.1.goes
    obtain ⟨_,_,_,_,_,i6⟩:=ih (l + 1) m' (D ++ L') (by omega) h2
    have i6:=i6 P' (by omega) hPg.2 (fun M hM => hPr M (List.mem_cons_of_mem _ hM))
    obtain ⟨j1',j2'⟩:=join _ h1 L' hPg.1 q1 q2 rfl h2
    dsimp only at j1' j2'
    have f3:=f3 _ h1
    refine geT_trans f3 ?_
    show geT (joinT (depE t) (runJ (depE t) (leaveE (depE t) l) L') (bestF (depE t) k (l + 1) m')).value _ ((runJ (depE t) (leaveE (depE t) l) L').value + sumV (depE t) (l + 1) P') (costE (depE t) (runJ (depE t) (leaveE (depE t) l) L') + sumC (depE t) (l + 1) P')
    rw [j1',j2']
    unfold geT at i6 ⊢
    omega
end Go.Proofs.YtdeeekgohhkdbaaGreatDoor
namespace Go.Proofs.YtdeeekgohhkdbaaGreatDoor
theorem plan_len {t:TRoTask} {plan:List (List Int)} (h:planE t plan = 0):plan.length = t.Lorries.length:=by
 unfold planE at h
 by_cases he:(taskE t).2.2 ≠ 0
 ·rw [if_pos he] at h; exact absurd h he
 rw [if_neg he] at h
 by_cases h1:plan.length ≠ t.Lorries.length
 ·rw [if_pos h1] at h; exact absurd h (by decide)
 exact Decidable.not_not.1 h1
theorem plan_zero {t:TRoTask} {plan:List (List Int)} (he:(taskE t).2.2 = 0) (hl:plan.length = t.Lorries.length) (hp:PlanR t plan):planE t plan = 0:=by
 have hv:=task_ok he
 have hjl:=hv.jl
 unfold planE
 rw [if_neg (by simp [he]),if_neg (by simp [hl])]
 have h1:plan.any longB = false:=by
  rw [List.any_eq_false]
  intro L hL
  have:=(hp L hL).1
  unfold longB
  rw [decide_eq_false (by omega)]; simp
 have h2:plan.flatten.any (noneB t 0) = false:=by
  rw [List.any_eq_false]
  intro n hn
  obtain ⟨L,hL,hnL⟩:=List.mem_flatten.1 hn
  have:=(hp L hL).2 n hnL
  unfold noneB
  rw [i64 (by omega),outB_false.2 ⟨this.1,by omega⟩]; simp
 rw [if_neg (by rw [h1]; simp),if_neg (by rw [h2]; simp)]
theorem worth_sum {t:TRoTask} {plan:List (List Int)} (h:planE t plan = 0) (hg:goodP (depE t) 0 [] plan):worthE t plan = (sumV (depE t) 0 plan,sumC (depE t) 0 plan,0) ∧ PlanR t plan:=by
 obtain ⟨hv,hp⟩:=plan_in h
 have hl:=plan_len h
 have hll:=hv.ll
 have hr:PlanR t plan:=fun L hL => ⟨hp.small L hL,hp.jobs L hL⟩
 obtain ⟨e1,e2⟩:=val_sum hv plan 0 [] 0 0 (by omega) hg hr (by omega) (by omega) (by omega) (by omega) (by omega) (by omega) (by omega)
 rw [worth_ok h hg,e1,e2,Int.zero_add,Int.zero_add]
 exact ⟨rfl,hr⟩
theorem best_fine {t:TRoTask} (he:(taskE t).2.2 = 0):planE t (bestP t) = 0 ∧ goodP (depE t) 0 [] (bestP t) ∧ (worthE t (bestP t)).2.2 = 0 ∧ ∀ plan,(worthE t plan).2.2 = 0 → geT (worthE t (bestP t)).1 (worthE t (bestP t)).2.1 (worthE t plan).1 (worthE t plan).2.1:=by
 have hv:=task_ok he
 have hP:bestP t = (bestF (depE t) t.Lorries.length 0 0).plan:=by unfold bestP; rw [if_neg (by simp [he])]
 obtain ⟨b1,b2,b3,b4,b5,b6⟩:=best_law hv t.Lorries.length 0 0 [] (by omega) mask_nil
 rw [← hP] at b1 b2 b3 b4 b5
 have hz:=plan_zero he b2 b3
 obtain ⟨w1,_⟩:=worth_sum hz b1
 refine ⟨hz,b1,by rw [w1],fun plan h => ?_⟩
 obtain ⟨z,g⟩:=worth_conv h
 obtain ⟨w2,r⟩:=worth_sum z g
 rw [w1,w2]
 have:=b6 plan (plan_len z) g r
 rw [b4,b5] at this
 exact this
theorem taskIn_of {t:TRoTask} (h:t.Ok):TaskIn t:=by
 obtain ⟨_,_,_,_,_,_,_,⟨hl,_⟩,⟨hj,_⟩⟩:=h
 exact ⟨fun x hx => (hl x hx).1,fun x hx => (hj x hx).1⟩
def manyB (t:TRoTask):Bool:=decide (IntKind.i64.wrap ((t.Jobs.length:Int) + t.Lorries.length) > 6) && (decide ((t.Jobs.length:Int) ≤ 6) && decide ((t.Lorries.length:Int) ≤ 3))
def R16 (t:TRoTask) (_S:SpecF) (_Fr:FreshF) (_Sq:SeqF) (Q:PostF):Prop :=
 (decide (IntKind.i64.wrap ((↑(List.map TRoJob.av t.Jobs).length:Int) + (↑(List.map TRoLorry.av t.Lorries).length:Int)) > 6) = true → (decide ((↑(List.map TRoJob.av t.Jobs).length:Int) ≤ (6:Int)) = true → Q (.bool (decide ((↑(List.map TRoLorry.av t.Lorries).length:Int) ≤ (3:Int)))) []) ∧ (decide ((↑(List.map TRoJob.av t.Jobs).length:Int) ≤ (6:Int)) = false → Q (.bool false) [])) ∧ (decide (IntKind.i64.wrap ((↑(List.map TRoJob.av t.Jobs).length:Int) + (↑(List.map TRoLorry.av t.Lorries).length:Int)) > 6) = false → Q (.bool false) [])
theorem s16 (t:TRoTask) (v:AV) (O:List (List AV)) (h:R16 t Sp Fo So (fun r O' => r = v ∧ O' = O)):Sp 16 [t.av] [] v O :=
 spec_by (w:=⟨[],[],[],[],[]⟩) (k:=0) (keep:=⟨[0,1,2],[],[],[]⟩) (boxes:=[]) mixed (by exact trivial) Tryz.func16 Tryz.call16 rfl rfl rfl (Nat.le_of_ble_eq_true rfl) (by kernel_rfl) h
theorem c16 (t:TRoTask):Sp 16 [t.av] [] (.bool (manyB t)) []:=s16 t _ _ (by
 unfold R16
 rw [List.length_map,List.length_map]
 unfold manyB
 refine ⟨fun h => ⟨fun g => ⟨?_,by trivial⟩,fun g => ⟨?_,by trivial⟩⟩,fun h => ⟨?_,by trivial⟩⟩
 ·rw [h,g]; rfl
 ·rw [h,g]; rfl
 ·rw [h]; rfl)
end Go.Proofs.YtdeeekgohhkdbaaGreatDoor
