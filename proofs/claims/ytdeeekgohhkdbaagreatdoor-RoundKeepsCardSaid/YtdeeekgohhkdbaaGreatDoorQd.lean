/- Plain: plans without faults: what judge says of them, and the other way about. Plain: ways, loads and times of tours, without bounds. Plain: what the search finds has no fault, and is the best. Plain: the best plan is worth what the search says, and no plan is worth more. -/
import Derived.Test.YtdeeekgohhkdbaaGreatDoorSj
import Derived.Test.YtdeeekgohhkdbaaGreatDoorSk
import Derived.Test.YtdeeekgohhkdbaaGreatDoorOd
namespace Go.Proofs.YtdeeekgohhkdbaaGreatDoor
def canJ (d:TDepot) (r:TTour) (n:Int):Bool:=decide ((jobAt d.RoTask n).Height ≤ r.RoLorry.Lift) && visitB d r n
def runJ (d:TDepot) (r:TTour) (L:List Int):TTour:=L.foldl (visitT d) r
def canL (d:TDepot):TTour → List Int → Bool
 | _,[] => true
 | r,n :: L => canJ d r n && canL d (visitT d r n) L
def newL:List Int → List Int → Bool
 | _,[] => true
 | D,n :: L => !decide (n ∈ D) && newL (D ++ [n]) L
theorem addF_ge (b:Bool) (l:List TRoFault) (e i n:Int):l.length ≤ (addF b l e i n).length:=by
 cases b
 ·rw [addF_f rfl]; omega
 ·rw [addF_t rfl,List.length_append]; exact Nat.le_add_right _ _
theorem step_ok {d:TDepot} {i:Int} {s:JSt} {n:Int} (hc:s.closed = -1) (h1:n ∉ s.done) (h2:canJ d s.tour n = true):stepJ d i s n = ⟨-1,s.faults,visitT d s.tour n,s.done ++ [n]⟩:=by
 unfold canJ at h2
 rw [Bool.and_eq_true,decide_eq_true_eq] at h2
 obtain ⟨g1,g2⟩:=h2
 have e1:closedJ d s.tour s.closed n = -1:=by rw [closedJ_c (by rw [g2]; rfl),hc]
 have e2:twiceJ i s n = s.faults:=addF_f (decide_eq_false h1) ..
 have e3:liftJ d i s n = s.faults:=by unfold liftJ; rw [addF_f (decide_eq_false (by omega)),e2]
 have e4:tourJ d s.tour (-1) n = visitT d s.tour n:=if_neg (by omega)
 have e5:putD s.done n = s.done ++ [n]:=if_neg h1
 unfold stepJ
 rw [e1,e3,e4,e5]
theorem fold_ok {d:TDepot} {i:Int}:∀ (L:List Int) (s:JSt),s.closed = -1 → newL s.done L = true → canL d s.tour L = true → L.foldl (stepJ d i) s = ⟨-1,s.faults,runJ d s.tour L,s.done ++ L⟩:=by
 intro L
 induction L with
 | nil =>
  intro s hc _ _
  show s = ⟨-1,s.faults,s.tour,s.done ++ []⟩
  rw [List.append_nil,← hc]
 | cons n L ih =>
  intro s hc hn hl
  unfold newL at hn
  unfold canL at hl
  rw [Bool.and_eq_true] at hn hl
  have h1:n ∉ s.done:=by simpa using hn.1
  show L.foldl (stepJ d i) (stepJ d i s n) = _
  rw [step_ok hc h1 hl.1,ih _ rfl hn.2 hl.2,List.append_assoc]
  rfl
theorem lift_ge (d:TDepot) (i:Int) (s:JSt) (n:Int):s.faults.length ≤ (liftJ d i s n).length:=Nat.le_trans (addF_ge ..) (addF_ge ..)
theorem closed_ge {d:TDepot} {r:TTour} {c n:Int} (h:c ≥ 0):closedJ d r c n ≥ 0:=by
 rw [closedJ_b (decide_eq_false (by omega))]; exact h
theorem fold_mono {d:TDepot} {i:Int}:∀ (L:List Int) (s:JSt),s.faults.length ≤ (L.foldl (stepJ d i) s).faults.length ∧ (s.closed ≥ 0 → (L.foldl (stepJ d i) s).closed ≥ 0):=by
 intro L
 induction L with
 | nil => intro s; exact ⟨Nat.le_refl _,id⟩
 | cons n L ih =>
  intro s
  obtain ⟨h1,h2⟩:=ih (stepJ d i s n)
  exact ⟨Nat.le_trans (lift_ge d i s n) h1,fun h => h2 (closed_ge h)⟩
theorem fold_conv {d:TDepot} {i:Int}:∀ (L:List Int) (s:JSt),(∀ n ∈ L,0 ≤ n) → s.closed = -1 → (L.foldl (stepJ d i) s).faults.length ≤ s.faults.length → (L.foldl (stepJ d i) s).closed < 0 → newL s.done L = true ∧ canL d s.tour L = true:=by
 intro L
 induction L with
 | nil => intro s _ _ _ _; exact ⟨rfl,rfl⟩
 | cons n L ih =>
  intro s hn hc hf hcl
  have hf:(L.foldl (stepJ d i) (stepJ d i s n)).faults.length ≤ s.faults.length:=hf
  have hcl:(L.foldl (stepJ d i) (stepJ d i s n)).closed < 0:=hcl
  obtain ⟨m1,m2⟩:=fold_mono (d:=d) (i:=i) L (stepJ d i s n)
  have m1:(liftJ d i s n).length ≤ _:=m1
  have h1:n ∉ s.done:=fun h => by
   have e2:twiceJ i s n = s.faults ++ [⟨210,i,n⟩]:=addF_t (decide_eq_true h) ..
   have:(twiceJ i s n).length ≤ (liftJ d i s n).length:=addF_ge ..
   rw [e2,List.length_append] at this
   have:s.faults.length + 1 ≤ (liftJ d i s n).length:=this
   omega
  have e2:twiceJ i s n = s.faults:=addF_f (decide_eq_false h1) ..
  have h2:(jobAt d.RoTask n).Height ≤ s.tour.RoLorry.Lift:=Decidable.byContradiction fun h => by
   have e3:liftJ d i s n = s.faults ++ [⟨211,i,n⟩]:=by unfold liftJ; rw [addF_t (decide_eq_true (by omega)),e2]
   rw [e3,List.length_append] at m1
   have:s.faults.length + 1 ≤ (L.foldl (stepJ d i) (stepJ d i s n)).faults.length:=m1
   omega
  have h3:visitB d s.tour n = true:=by
   cases hv:visitB d s.tour n with
   | true => rfl
   | false =>
    have e1:closedJ d s.tour s.closed n = n:=closedJ_a (by rw [hv]; rfl) (decide_eq_true (by omega))
    have:=m2 (by show closedJ d s.tour s.closed n ≥ 0; rw [e1]; exact hn n List.mem_cons_self)
    omega
  have hcan:canJ d s.tour n = true:=by unfold canJ; rw [decide_eq_true h2,h3]; rfl
  rw [step_ok hc h1 hcan] at hf hcl
  obtain ⟨g1,g2⟩:=ih _ (fun m hm => hn m (List.mem_cons_of_mem _ hm)) rfl hf hcl
  refine ⟨?_,?_⟩
  ·unfold newL; rw [decide_eq_false h1]; exact g1
  ·unfold canL; rw [hcan]; exact g2
structure GoodR (d:TDepot) (i:Nat) (D L:List Int):Prop where
 new:newL D L = true
 can:canL d (leaveE d i) L = true
 goes:goesB d (runJ d (leaveE d i) L) = true
theorem goes_iff {d:TDepot} {r:TTour}:goesB d r = true ↔ backE d r ≤ r.RoLorry.Until ∧ 0 ≤ r.room:=by
 unfold goesB
 rw [Bool.and_eq_true,Bool.not_eq_true',Bool.not_eq_true',decide_eq_false_iff_not,decide_eq_false_iff_not]
 omega
theorem last_ok {d:TDepot} {i:Int} {s:JSt} (hc:s.closed = -1) (h:goesB d s.tour = true):lastJ d i s = s.faults:=by
 obtain ⟨h1,h2⟩:=goes_iff.1 h
 have e1:roomJ i s = s.faults:=addF_f (decide_eq_false (by omega)) ..
 unfold lastJ
 rw [if_neg (by omega),addF_f (decide_eq_false (by omega)),e1]
theorem last_ge (d:TDepot) (i:Int) (s:JSt):s.faults.length ≤ (lastJ d i s).length:=by
 have h1:s.faults.length ≤ (roomJ i s).length:=addF_ge ..
 unfold lastJ
 split
 ·rw [List.length_append]; omega
 ·exact Nat.le_trans h1 (addF_ge ..)
theorem last_conv {d:TDepot} {i:Int} {s:JSt} (h:(lastJ d i s).length ≤ s.faults.length):s.closed < 0 ∧ goesB d s.tour = true:=by
 have h1:s.faults.length ≤ (roomJ i s).length:=addF_ge ..
 have hc:s.closed < 0:=Decidable.byContradiction fun hc => by
  unfold lastJ at h
  rw [if_pos (by omega),List.length_append] at h
  have:(roomJ i s).length + 1 ≤ s.faults.length:=h
  omega
 refine ⟨hc,goes_iff.2 ⟨Decidable.byContradiction fun hb => ?_,Decidable.byContradiction fun hr => ?_⟩⟩
 ·unfold lastJ at h
  rw [if_neg (by omega),addF_t (decide_eq_true (by omega)),List.length_append] at h
  have:(roomJ i s).length + 1 ≤ s.faults.length:=h
  omega
 ·have e:roomJ i s = s.faults ++ [⟨212,i,-1⟩]:=addF_t (decide_eq_true (by omega)) ..
  have h2:(roomJ i s).length ≤ (lastJ d i s).length:=by
   unfold lastJ
   rw [if_neg (by omega)]
   exact addF_ge ..
  rw [e,List.length_append] at h2
  have:s.faults.length + 1 ≤ (lastJ d i s).length:=h2
  omega
theorem round_ok {d:TDepot} {i:Nat} {a:JAll} {L:List Int} (h:GoodR d i a.done L) :
  endJ d i a (roundJ d i a.faults a.done L) = ⟨a.faults,IntKind.i64.wrap (a.value + (runJ d (leaveE d i) L).value),IntKind.i64.wrap (a.cost + costE d (runJ d (leaveE d i) L)),a.done ++ L⟩:=by
 have e:roundJ d i a.faults a.done L = ⟨-1,a.faults,runJ d (leaveE d i) L,a.done ++ L⟩:=fold_ok L ⟨-1,a.faults,leaveE d i,a.done⟩ rfl h.new h.can
 rw [e]
 unfold endJ
 rw [last_ok (s:=⟨-1,a.faults,runJ d (leaveE d i) L,a.done ++ L⟩) rfl h.goes]
theorem round_ge {d:TDepot} {i:Int} {a:JAll} {L:List Int}:a.faults.length ≤ (endJ d i a (roundJ d i a.faults a.done L)).faults.length :=
 Nat.le_trans (fold_mono (d:=d) (i:=i) L ⟨-1,a.faults,leaveE d i,a.done⟩).1 (last_ge ..)
theorem round_conv {d:TDepot} {i:Nat} {a:JAll} {L:List Int} (hn:∀ n ∈ L,0 ≤ n) (h:(endJ d i a (roundJ d i a.faults a.done L)).faults.length ≤ a.faults.length):GoodR d i a.done L:=by
 have h:(lastJ d i (roundJ d i a.faults a.done L)).length ≤ a.faults.length:=h
 have m:=(fold_mono (d:=d) (i:=i) L ⟨-1,a.faults,leaveE d i,a.done⟩).1
 have m:a.faults.length ≤ (roundJ d i a.faults a.done L).faults.length:=m
 obtain ⟨h1,h2⟩:=last_conv (Nat.le_trans h m)
 have g:=last_ge d i (roundJ d i a.faults a.done L)
 have hf:(roundJ d i a.faults a.done L).faults.length ≤ a.faults.length:=by omega
 obtain ⟨c1,c2⟩:=fold_conv L ⟨-1,a.faults,leaveE d i,a.done⟩ hn rfl hf h1
 have e:roundJ d i a.faults a.done L = ⟨-1,a.faults,runJ d (leaveE d i) L,a.done ++ L⟩:=fold_ok L ⟨-1,a.faults,leaveE d i,a.done⟩ rfl c1 c2
 rw [e] at h2
 exact ⟨c1,c2,h2⟩
def goodP (d:TDepot):Nat → List Int → List (List Int) → Prop
 | _,_,[] => True
 | i,D,L :: P => GoodR d i D L ∧ goodP d (i + 1) (D ++ L) P
theorem judge_ge {d:TDepot}:∀ (P:List (List Int)) (i:Nat) (a:JAll),a.faults.length ≤ (judgeL d i a P).faults.length:=by
 intro P
 induction P with
 | nil => intro i a; exact Nat.le_refl _
 | cons L P ih => intro i a; exact Nat.le_trans round_ge (ih (i + 1) (endJ d i a (roundJ d i a.faults a.done L)))
theorem judge_conv {d:TDepot}:∀ (P:List (List Int)) (i:Nat) (a:JAll),(∀ L ∈ P,∀ n ∈ L,0 ≤ n) → (judgeL d i a P).faults.length ≤ a.faults.length → goodP d i a.done P:=by
 intro P
 induction P with
 | nil => intro i a _ _; trivial
 | cons L P ih =>
  intro i a hn h
  have h:(judgeL d (i + 1) (endJ d i a (roundJ d i a.faults a.done L)) P).faults.length ≤ a.faults.length:=h
  have g:=judge_ge (d:=d) P (i + 1) (endJ d i a (roundJ d i a.faults a.done L))
  have h1:GoodR d i a.done L:=round_conv (hn L List.mem_cons_self) (Nat.le_trans g h)
  refine ⟨h1,?_⟩
  rw [round_ok h1] at h
  exact ih (i + 1) ⟨a.faults,_,_,a.done ++ L⟩ (fun M hM => hn M (List.mem_cons_of_mem _ hM)) h
theorem worth_conv {t:TRoTask} {plan:List (List Int)} (h:(worthE t plan).2.2 = 0):planE t plan = 0 ∧ goodP (depE t) 0 [] plan:=by
 unfold worthE at h
 by_cases h0:planE t plan ≠ 0
 ·rw [if_pos h0] at h; exact absurd h h0
 rw [if_neg h0] at h
 have h0:=Decidable.not_not.1 h0
 refine ⟨h0,?_⟩
 by_cases h1:(judgeE (depE t) plan).faults.length > 0
 ·rw [if_pos h1] at h; exact absurd h (by simp)
 obtain ⟨_,hp⟩:=plan_in h0
 exact judge_conv plan 0 ⟨[],0,0,[]⟩ (fun L hL n hn => (hp.jobs L hL n hn).1) (by show (judgeE (depE t) plan).faults.length ≤ 0; omega)
end Go.Proofs.YtdeeekgohhkdbaaGreatDoor
namespace Go.Proofs.YtdeeekgohhkdbaaGreatDoor
def absE (x u:Int):Int:=maxE x u - minE x u
theorem abs_in {x u:Int} (hx:-50000 ≤ x ∧ x ≤ 50000) (hu:-50000 ≤ u ∧ u ≤ 50000):0 ≤ absE x u ∧ absE x u ≤ 100000:=by
 unfold absE maxE minE
 split <;> split <;> omega
def wayN (D p:Int):Int:=(D * p + 999) / 1000
theorem wayF_ok {x y u v p:Int} (hx:-50000 ≤ x ∧ x ≤ 50000) (hy:-50000 ≤ y ∧ y ≤ 50000) (hu:-50000 ≤ u ∧ u ≤ 50000) (hv:-50000 ≤ v ∧ v ≤ 50000) (hp:0 ≤ p ∧ p ≤ 3600) :
  wayF x y u v p = wayN (absE x u + absE y v) p ∧ (0 ≤ absE x u + absE y v ∧ absE x u + absE y v ≤ 200000) ∧ 0 ≤ wayN (absE x u + absE y v) p ∧ wayN (absE x u + absE y v) p ≤ 720000:=by
 have h1:=abs_in hx hu
 have h2:=abs_in hy hv
 have b1:-50000 ≤ maxE y v ∧ maxE y v ≤ 50000:=by unfold maxE; split <;> omega
 have b2:-50000 ≤ minE y v ∧ minE y v ≤ 50000:=by unfold minE; split <;> omega
 have e2:absE y v = maxE y v - minE y v:=rfl
 have b:0 ≤ (absE x u + absE y v) * p ∧ (absE x u + absE y v) * p ≤ 200000 * 3600:=⟨Int.mul_nonneg (by omega) hp.1,Int.mul_le_mul (by omega) hp.2 hp.1 (by omega)⟩
 unfold wayF
 rw [show maxE x u - minE x u = absE x u from rfl,i64 (n:=absE x u) (by omega),i64 (n:=absE x u + maxE y v) (by omega),show absE x u + maxE y v - minE y v = absE x u + absE y v by omega,i64 (n:=absE x u + absE y v) (by omega)]
 unfold wayN
 generalize (absE x u + absE y v) * p = z at b
 rw [i64 (n:=z) (by omega),i64 (n:=z + 999) (by omega),Int.tdiv_eq_ediv_of_nonneg (by omega)]
 refine ⟨i64 (by omega),by omega,by omega,by omega⟩
theorem away_in {x y:Int} (h:awayB x y = false):(-50000 ≤ x ∧ x ≤ 50000) ∧ -50000 ≤ y ∧ y ≤ 50000:=by
 unfold awayB at h
 rw [Bool.or_eq_false_iff] at h
 exact ⟨outB_false.1 h.1,outB_false.1 h.2⟩
theorem at_in {t:TRoTask} (hv:TaskV t) {k:Int} (hk:k < t.Jobs.length):(-50000 ≤ atX t k ∧ atX t k ≤ 50000) ∧ -50000 ≤ atY t k ∧ atY t k ≤ 50000:=by
 by_cases h:k ≥ 0
 ·rw [atX_pos h,atY_pos h]
  exact away_in (job_ok (hv.job _ (job_get h hk).2)).2.2.1
 ·rw [atX_neg h,atY_neg h]
  exact away_in hv.away
def distN (t:TRoTask) (k n:Int):Int:=absE (atX t k) (atX t n) + absE (atY t k) (atY t n)
theorem way_ok {t:TRoTask} (hv:TaskV t) {k n:Int} (hk:k < t.Jobs.length) (hn:n < t.Jobs.length):wayE t k n = wayN (distN t k n) t.Pace ∧ 0 ≤ wayE t k n ∧ wayE t k n ≤ 720000 ∧ 0 ≤ distN t k n:=by
 have h1:=at_in hv hk
 have h2:=at_in hv hn
 obtain ⟨e1,e2,e3,e4⟩:=wayF_ok h1.1 h1.2 h2.1 h2.2 (outB_false.1 hv.pace)
 unfold wayE distN
 rw [e1]
 exact ⟨rfl,e3,e4,e2.1⟩
theorem both_in {a b:TRoSpan} (h0:0 ≤ a.From) (h1:a.Until ≤ 172800):0 ≤ (bothE a b).From ∧ (bothE a b).Until ≤ 172800 ∧ (bothE a b).From ≤ 172800:=by
 unfold bothE
 have g0:0 ≤ maxE a.From b.From:=by unfold maxE; split <;> omega
 have g1:minE a.Until b.Until ≤ 172800:=by unfold minE; split <;> omega
 by_cases h:maxE a.From b.From > minE a.Until b.Until
 ·rw [if_pos h]; exact ⟨by show (0:Int) ≤ 1; omega,by show (0:Int) ≤ 172800; omega,by show (1:Int) ≤ 172800; omega⟩
 ·rw [if_neg h]; exact ⟨g0,g1,by show maxE a.From b.From ≤ 172800; omega⟩
theorem span_in (t:TRoTask) (x:TRoJob):0 ≤ (spanE t x).From ∧ (spanE t x).Until ≤ 172800 ∧ (spanE t x).From ≤ 172800:=by
 have z:0 ≤ (⟨0,172800⟩:TRoSpan).From ∧ (⟨0,172800⟩:TRoSpan).Until ≤ 172800 ∧ (⟨0,172800⟩:TRoSpan).From ≤ 172800:=⟨Int.le_refl _,Int.le_refl _,by show (0:Int) ≤ 172800; omega⟩
 unfold spanE
 by_cases hc:x.Closure ≥ 0
 ·rw [if_pos hc]
  have b:=both_in (b:=cloAt t x.Closure) z.1 z.2.1
  split
  ·exact both_in b.1 b.2.1
  ·exact b
 ·rw [if_neg hc]
  split
  ·exact both_in z.1 z.2.1
  ·exact z
theorem spanAt_eq {t:TRoTask} {n:Int} (h0:0 ≤ n) (h:n < t.Jobs.length):spanAt (depE t) n = spanE t (jobAt t n):=by
 have hl:n.toNat < t.Jobs.length:=by omega
 unfold spanAt depE jobAt
 rw [List.getD_eq_getElem?_getD,List.getD_eq_getElem?_getD,List.getElem?_map,List.getElem?_eq_getElem hl]; rfl
theorem parts_ok:∀ (P:List Int) (K:List TRoKind) (a b:Int),(∀ n ∈ P,0 ≤ n ∧ n ≤ 20) → (∀ k ∈ K,kindB k = false) → P.length ≤ 4 → -1000000000000 + 20000 * (P.length:Int) ≤ a → a ≤ 1000000000000 → 0 ≤ b → b + 20000000 * (P.length:Int) ≤ 1000000000000 →
  (a - 20000 * (P.length:Int) ≤ (partsF P K a b).1 ∧ (partsF P K a b).1 ≤ a) ∧ b ≤ (partsF P K a b).2 ∧ (partsF P K a b).2 ≤ b + 20000000 * (P.length:Int):=by
 intro P
 induction P with
 | nil => intro K a b _ _ _ _ _ _ _; exact ⟨⟨by show a - _ ≤ a; simp,Int.le_refl _⟩,Int.le_refl _,by show b ≤ _; simp⟩
 | cons n P ih =>
  intro K a b hP hK hl ha ha' hb hb'
  rw [List.length_cons] at *
  match K with
  | [] => exact ⟨⟨by show a - _ ≤ a; omega,Int.le_refl _⟩,Int.le_refl _,by show b ≤ _; omega⟩
  | k :: K =>
   have hn:=hP n List.mem_cons_self
   have hk:=hK k List.mem_cons_self
   unfold kindB at hk
   rw [Bool.or_eq_false_iff] at hk
   have k1:=outB_false.1 hk.1
   have k2:=outB_false.1 hk.2
   have m1:0 ≤ n * k.Size ∧ n * k.Size ≤ 20 * 1000:=⟨Int.mul_nonneg hn.1 k1.1,Int.mul_le_mul hn.2 k1.2 k1.1 (by omega)⟩
   have m2:0 ≤ n * k.Price ∧ n * k.Price ≤ 20 * 1000000:=⟨Int.mul_nonneg hn.1 k2.1,Int.mul_le_mul hn.2 k2.2 k2.1 (by omega)⟩
   show (_ ≤ (partsF P K (IntKind.i64.wrap (a - IntKind.i64.wrap (n * k.Size))) (IntKind.i64.wrap (b + IntKind.i64.wrap (n * k.Price)))).1 ∧ (partsF P K (IntKind.i64.wrap (a - IntKind.i64.wrap (n * k.Size))) (IntKind.i64.wrap (b + IntKind.i64.wrap (n * k.Price)))).1 ≤ a) ∧ b ≤ (partsF P K (IntKind.i64.wrap (a - IntKind.i64.wrap (n * k.Size))) (IntKind.i64.wrap (b + IntKind.i64.wrap (n * k.Price)))).2 ∧ (partsF P K (IntKind.i64.wrap (a - IntKind.i64.wrap (n * k.Size))) (IntKind.i64.wrap (b + IntKind.i64.wrap (n * k.Price)))).2 ≤ b + 20000000 * ((P.length + 1:Nat):Int)
   generalize n * k.Size = y at m1
   generalize n * k.Price = z at m2
   rw [i64 (n:=y) (by omega),i64 (n:=z) (by omega),i64 (n:=a - y) (by omega),i64 (n:=b + z) (by omega)]
   have:=ih K (a - y) (b + z) (fun m hm => hP m (List.mem_cons_of_mem _ hm)) (fun m hm => hK m (List.mem_cons_of_mem _ hm)) (by omega) (by omega) (by omega) (by omega) (by omega)
   omega
structure TourV (t:TRoTask) (r:TTour) (m:Nat):Prop where
 now:0 ≤ r.now ∧ r.now ≤ 172800
 last:-1 ≤ r.last ∧ r.last < t.Jobs.length
 room:0 - 80000 * (m:Int) ≤ r.room ∧ r.room ≤ 1000000
 price:0 ≤ r.price ∧ r.price ≤ 80000000 * (m:Int)
 value:0 ≤ r.value ∧ r.value ≤ 1000000 * (m:Int)
 lor:r.RoLorry ∈ t.Lorries
theorem lor_ok {t:TRoTask} (hv:TaskV t) {x:TRoLorry} (hx:x ∈ t.Lorries):(0 ≤ x.Lift ∧ x.Lift ≤ 200) ∧ (0 ≤ x.Room ∧ x.Room ≤ 1000000) ∧ (0 ≤ x.Until ∧ x.Until ≤ 172800) ∧ (0 ≤ x.From ∧ x.From ≤ x.Until) ∧ 0 ≤ x.PerHour ∧ x.PerHour ≤ 1000000:=by
 have h:=hv.lor x hx
 unfold lorryE at h
 by_cases h0:outB x.Lift 0 200 = true
 ·rw [if_pos h0] at h; exact absurd h (by simp)
 rw [if_neg h0] at h
 by_cases h1:outB x.Room 0 1000000 = true
 ·rw [if_pos h1] at h; exact absurd h (by simp)
 rw [if_neg h1] at h
 by_cases h2:wildS ⟨x.From,x.Until⟩ = true
 ·rw [if_pos h2] at h; exact absurd h (by simp)
 rw [if_neg h2] at h
 by_cases h3:outB x.PerHour 0 1000000 = true
 ·rw [if_pos h3] at h; exact absurd h (by simp)
 have h2:wildS ⟨x.From,x.Until⟩ = false:=by simpa using h2
 unfold wildS at h2
 rw [Bool.or_eq_false_iff] at h2
 exact ⟨outB_false.1 (by simpa using h0),outB_false.1 (by simpa using h1),outB_false.1 h2.1,outB_false.1 h2.2,outB_false.1 (by simpa using h3)⟩
theorem leave_ok {t:TRoTask} (hv:TaskV t) {i:Nat} (hi:i < t.Lorries.length):TourV t (leaveE (depE t) i) 0:=by
 have hm:=(lor_get (t:=t) (k:=(i:Int)) (by omega) (by omega)).2
 obtain ⟨_,h2,h3,h4,_⟩:=lor_ok hv hm
 exact ⟨⟨h4.1,by show (lorAt t i).From ≤ 172800; omega⟩,⟨Int.le_refl _,by show (-1:Int) < _; omega⟩,⟨by show (0:Int) - 80000 * 0 ≤ (lorAt t i).Room; omega,h2.2⟩,⟨Int.le_refl _,by show (0:Int) ≤ 80000000 * 0; omega⟩,⟨Int.le_refl _,by show (0:Int) ≤ 1000000 * 0; omega⟩,hm⟩
theorem visit_ok {t:TRoTask} (hv:TaskV t) {r:TTour} {m:Nat} (hr:TourV t r m) (hm:m ≤ 10) {n:Int} (h0:0 ≤ n) (hn:n < t.Jobs.length) (hb:visitB (depE t) r n = true) :
  TourV t (visitT (depE t) r n) (m + 1) ∧ (visitT (depE t) r n).room ≤ r.room ∧ r.now + wayE t r.last n ≤ (visitT (depE t) r n).now ∧ (visitT (depE t) r n).last = n ∧ (visitT (depE t) r n).RoLorry = r.RoLorry ∧
   (visitT (depE t) r n).value = r.value + (jobAt t n).Value:=by
 have hj:=(job_get h0 hn).2
 obtain ⟨p1,_,_,p4,p5,p6,p7⟩:=job_ok (hv.job _ hj)
 have hkl:=hv.kl
 obtain ⟨w1,w2,w3⟩:=way_ok hv hr.last.2 hn
 have hs:=span_in t (jobAt t n)
 rw [← spanAt_eq h0 hn] at hs
 have hnow:=hr.now
 have hroom:=hr.room
 have hprice:=hr.price
 have hval:=hr.value
 have e:visitT (depE t) r n = doneE (depE t) r n:=if_pos hb
 have ea:arriveE (depE t) r n = r.now + wayE t r.last n:=i64 (by show _ ≤ r.now + wayE t r.last n ∧ r.now + wayE t r.last n < _; omega)
 have es:r.now + wayE t r.last n ≤ startE (depE t) r n ∧ startE (depE t) r n ≤ 1000000:=by
  unfold startE
  rw [ea]
  unfold maxE
  split <;> omega
 have ee:endE (depE t) r n = startE (depE t) r n + (jobAt t n).Seconds:=i64 (by show _ ≤ startE (depE t) r n + (jobAt t n).Seconds ∧ startE (depE t) r n + (jobAt t n).Seconds < _; omega)
 unfold visitB at hb
 rw [Bool.and_eq_true,Bool.not_eq_true',Bool.not_eq_true',decide_eq_false_iff_not] at hb
 have hlen:(jobAt t n).Parts.length ≤ 4:=by omega
 obtain ⟨q1,q2⟩:=parts_ok (jobAt t n).Parts t.Kinds r.room r.price p7 hv.kinds hlen (by omega) (by omega) hprice.1 (by omega)
 have el:loadF (depE t) r n = partsF (jobAt t n).Parts t.Kinds r.room r.price:=rfl
 rw [← el] at q1 q2
 have ev:IntKind.i64.wrap (r.value + (jobAt t n).Value) = r.value + (jobAt t n).Value:=i64 (by omega)
 rw [e]
 refine ⟨⟨?_,?_,?_,?_,?_,hr.lor⟩,?_,?_,rfl,rfl,ev⟩
 ·show 0 ≤ endE (depE t) r n ∧ endE (depE t) r n ≤ 172800
  omega
 ·show -1 ≤ n ∧ n < (t.Jobs.length:Int)
  omega
 ·show 0 - 80000 * ((m + 1:Nat):Int) ≤ (loadF (depE t) r n).1 ∧ (loadF (depE t) r n).1 ≤ 1000000
  omega
 ·show 0 ≤ (loadF (depE t) r n).2 ∧ (loadF (depE t) r n).2 ≤ 80000000 * ((m + 1:Nat):Int)
  omega
 ·show 0 ≤ IntKind.i64.wrap (r.value + (jobAt t n).Value) ∧ IntKind.i64.wrap (r.value + (jobAt t n).Value) ≤ 1000000 * ((m + 1:Nat):Int)
  rw [ev]; omega
 ·show (loadF (depE t) r n).1 ≤ r.room
  omega
 ·show r.now + wayE t r.last n ≤ endE (depE t) r n
  omega
end Go.Proofs.YtdeeekgohhkdbaaGreatDoor
namespace Go.Proofs.YtdeeekgohhkdbaaGreatDoor
structure Mask (D:List Int) (n:Int):Prop where
 lo:0 ≤ n
 hi:n < 64
 bit:∀ j:Nat,j < 6 → (freeB n j = true ↔ (j:Int) ∉ D)
theorem can_iff {d:TDepot} {r:TTour} {n:Int}:canJ d r n = true ↔ (jobAt d.RoTask n).Height ≤ r.RoLorry.Lift ∧ visitB d r n = true:=by
 unfold canJ; rw [Bool.and_eq_true,decide_eq_true_eq]
theorem run_ok {t:TRoTask} (hv:TaskV t):∀ (L:List Int) (r:TTour) (m:Nat),TourV t r m → m + L.length ≤ 10 → (∀ x ∈ L,0 ≤ x ∧ x < t.Jobs.length) → canL (depE t) r L = true → TourV t (runJ (depE t) r L) (m + L.length):=by
 intro L
 induction L with
 | nil => intro r m hr _ _ _; exact hr
 | cons x L ih =>
  intro r m hr hm hx hc
  unfold canL at hc
  rw [Bool.and_eq_true] at hc
  obtain ⟨x0,x1⟩:=hx x List.mem_cons_self
  rw [List.length_cons] at hm ⊢
  have v:=visit_ok hv hr (by omega) x0 x1 (can_iff.1 hc.1).2
  have:=ih _ _ v.1 (by omega) (fun y hy => hx y (List.mem_cons_of_mem _ hy)) hc.2
  rw [show m + (L.length + 1) = m + 1 + L.length by omega]
  exact this
end Go.Proofs.YtdeeekgohhkdbaaGreatDoor
namespace Go.Proofs.YtdeeekgohhkdbaaGreatDoor
theorem plan_len {t:TRoTask} {plan:List (List Int)} (h:planE t plan = 0):plan.length = t.Lorries.length:=by
 unfold planE at h
 by_cases he:(taskE t).2.2 ≠ 0
 ·rw [if_pos he] at h; exact absurd h he
 rw [if_neg he] at h
 by_cases h1:plan.length ≠ t.Lorries.length
 ·rw [if_pos h1] at h; exact absurd h (by decide)
 exact Decidable.not_not.1 h1
theorem taskIn_of {t:TRoTask} (h:t.Ok):TaskIn t:=by
 obtain ⟨_,_,_,_,_,_,_,⟨hl,_⟩,⟨hj,_⟩⟩:=h
 exact ⟨fun x hx => (hl x hx).1,fun x hx => (hj x hx).1⟩
theorem agg41':isAggT Tryz.prog 41 = false:=by kernel_rfl
theorem opInts {d:Nat} {cs:List AV} (h:CellsT Tryz.prog d 41 cs):∃ l:List Int,cs = [.slc 3 (intsT l)] ∧ l.length * 8 ≤ reachBytes:=by
 obtain ⟨l,e,_,m,_⟩:=cells_sliceR (g:=AV.int .i64) (w:=fun _ => True) (by kernel_rfl) (fun d p hp => by
  obtain ⟨x,ex,_⟩:=cells_int (k:=.i64) (by kernel_rfl) hp
  subst ex
  exact ⟨x,by rw [show isAggT Tryz.prog 3 = false by kernel_rfl,if_neg (by simp)]; rfl,trivial⟩) h
 rw [show Tryz.prog.bytesOf 3 = 8 by kernel_rfl] at m
 exact ⟨l,e,m⟩
theorem opPlan {d:Nat} {cs:List AV} (h:CellsT Tryz.prog d 32 cs):∃ P:List (List Int),cs = [.slc 3 (planA P)]:=by
 obtain ⟨P,e,_,_,_⟩:=cells_sliceR (g:=fun x => AV.slc 3 (intsT x)) (w:=fun _ => True) (by kernel_rfl) (fun d p hp => by
  obtain ⟨l,el,_⟩:=opInts hp
  subst el
  exact ⟨l,by rw [agg41',if_neg (by simp)]; rfl,trivial⟩) h
 exact ⟨P,e⟩
end Go.Proofs.YtdeeekgohhkdbaaGreatDoor
