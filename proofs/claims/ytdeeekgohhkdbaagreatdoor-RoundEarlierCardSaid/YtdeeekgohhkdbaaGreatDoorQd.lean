/- Plain: plans without faults: what judge says of them, and the other way about. Plain: ways, loads and times of tours, without bounds. Plain: what the search finds has no fault, and is the best. Plain: the best plan is worth what the search says, and no plan is worth more. -/
import Derived.Test.YtdeeekgohhkdbaaGreatDoorSj
import Derived.Test.YtdeeekgohhkdbaaGreatDoorSk
import Derived.Test.YtdeeekgohhkdbaaGreatDoorOd
namespace Go.Proofs.YtdeeekgohhkdbaaGreatDoor
def canJ (d:TDepot) (r:TTour) (n:Int):Bool:=decide ((jobAt d.RoTask n).Height ≤ r.RoLorry.Lift) && visitB d r n
def runJ (d:TDepot) (r:TTour) (L:List Int):TTour:=L.foldl (visitT d) r
def canL (d:TDepot):TTour → List Int → Bool
 | _,[] => true
 | r,n :: L => canJ d r n && canL d (visitT d r n) L
def newL:List Int → List Int → Bool
 | _,[] => true
 | D,n :: L => !decide (n ∈ D) && newL (D ++ [n]) L
structure GoodR (d:TDepot) (i:Nat) (D L:List Int):Prop where
 new:newL D L = true
 can:canL d (leaveE d i) L = true
 goes:goesB d (runJ d (leaveE d i) L) = true
end Go.Proofs.YtdeeekgohhkdbaaGreatDoor
namespace Go.Proofs.YtdeeekgohhkdbaaGreatDoor
def absE (x u:Int):Int:=maxE x u - minE x u
theorem abs_in {x u:Int} (hx:-50000 ≤ x ∧ x ≤ 50000) (hu:-50000 ≤ u ∧ u ≤ 50000):0 ≤ absE x u ∧ absE x u ≤ 100000:=by
 unfold absE maxE minE
 split <;> split <;> omega
theorem abs_tri (x u v:Int):absE x v ≤ absE x u + absE u v:=by
 unfold absE maxE minE
 split <;> split <;> split <;> split <;> split <;> split <;> omega
def wayN (D p:Int):Int:=(D * p + 999) / 1000
theorem wayF_ok {x y u v p:Int} (hx:-50000 ≤ x ∧ x ≤ 50000) (hy:-50000 ≤ y ∧ y ≤ 50000) (hu:-50000 ≤ u ∧ u ≤ 50000) (hv:-50000 ≤ v ∧ v ≤ 50000) (hp:0 ≤ p ∧ p ≤ 3600) :
  wayF x y u v p = wayN (absE x u + absE y v) p ∧ (0 ≤ absE x u + absE y v ∧ absE x u + absE y v ≤ 200000) ∧ 0 ≤ wayN (absE x u + absE y v) p ∧ wayN (absE x u + absE y v) p ≤ 720000:=by
 have h1:=abs_in hx hu
 have h2:=abs_in hy hv
 have b1:-50000 ≤ maxE y v ∧ maxE y v ≤ 50000:=by unfold maxE; split <;> omega
 have b2:-50000 ≤ minE y v ∧ minE y v ≤ 50000:=by unfold minE; split <;> omega
 have e2:absE y v = maxE y v - minE y v:=rfl
 have b:0 ≤ (absE x u + absE y v) * p ∧ (absE x u + absE y v) * p ≤ 200000 * 3600:=⟨Int.mul_nonneg (by omega) hp.1,Int.mul_le_mul (by omega) hp.2 hp.1 (by omega)⟩
 unfold wayF
 rw [show maxE x u - minE x u = absE x u from rfl,i64 (n:=absE x u) (by omega),i64 (n:=absE x u + maxE y v) (by omega),show absE x u + maxE y v - minE y v = absE x u + absE y v by omega,i64 (n:=absE x u + absE y v) (by omega)]
 unfold wayN
 generalize (absE x u + absE y v) * p = z at b
 rw [i64 (n:=z) (by omega),i64 (n:=z + 999) (by omega),Int.tdiv_eq_ediv_of_nonneg (by omega)]
 refine ⟨i64 (by omega),by omega,by omega,by omega⟩
theorem away_in {x y:Int} (h:awayB x y = false):(-50000 ≤ x ∧ x ≤ 50000) ∧ -50000 ≤ y ∧ y ≤ 50000:=by
 unfold awayB at h
 rw [Bool.or_eq_false_iff] at h
 exact ⟨outB_false.1 h.1,outB_false.1 h.2⟩
theorem at_in {t:TRoTask} (hv:TaskV t) {k:Int} (hk:k < t.Jobs.length):(-50000 ≤ atX t k ∧ atX t k ≤ 50000) ∧ -50000 ≤ atY t k ∧ atY t k ≤ 50000:=by
 by_cases h:k ≥ 0
 ·rw [atX_pos h,atY_pos h]
  exact away_in (job_ok (hv.job _ (job_get h hk).2)).2.2.1
 ·rw [atX_neg h,atY_neg h]
  exact away_in hv.away
def distN (t:TRoTask) (k n:Int):Int:=absE (atX t k) (atX t n) + absE (atY t k) (atY t n)
theorem way_ok {t:TRoTask} (hv:TaskV t) {k n:Int} (hk:k < t.Jobs.length) (hn:n < t.Jobs.length):wayE t k n = wayN (distN t k n) t.Pace ∧ 0 ≤ wayE t k n ∧ wayE t k n ≤ 720000 ∧ 0 ≤ distN t k n:=by
 have h1:=at_in hv hk
 have h2:=at_in hv hn
 obtain ⟨e1,e2,e3,e4⟩:=wayF_ok h1.1 h1.2 h2.1 h2.2 (outB_false.1 hv.pace)
 unfold wayE distN
 rw [e1]
 exact ⟨rfl,e3,e4,e2.1⟩
theorem way_tri {t:TRoTask} (hv:TaskV t) {a b c:Int} (ha:a < t.Jobs.length) (hb:b < t.Jobs.length) (hc:c < t.Jobs.length):wayE t a c ≤ wayE t a b + wayE t b c:=by
 have hp:=outB_false.1 hv.pace
 obtain ⟨e1,_,_,p1⟩:=way_ok hv ha hc
 obtain ⟨e2,_,_,p2⟩:=way_ok hv ha hb
 obtain ⟨e3,_,_,p3⟩:=way_ok hv hb hc
 have hd:distN t a c ≤ distN t a b + distN t b c:=by
  have h1:=abs_tri (atX t a) (atX t b) (atX t c)
  have h2:=abs_tri (atY t a) (atY t b) (atY t c)
  unfold distN
  omega
 have hm:distN t a c * t.Pace ≤ distN t a b * t.Pace + distN t b c * t.Pace:=by
  rw [← Int.add_mul]
  exact Int.mul_le_mul_of_nonneg_right hd hp.1
 rw [e1,e2,e3]
 unfold wayN
 omega
theorem both_in {a b:TRoSpan} (h0:0 ≤ a.From) (h1:a.Until ≤ 172800):0 ≤ (bothE a b).From ∧ (bothE a b).Until ≤ 172800 ∧ (bothE a b).From ≤ 172800:=by
 unfold bothE
 have g0:0 ≤ maxE a.From b.From:=by unfold maxE; split <;> omega
 have g1:minE a.Until b.Until ≤ 172800:=by unfold minE; split <;> omega
 by_cases h:maxE a.From b.From > minE a.Until b.Until
 ·rw [if_pos h]; exact ⟨by show (0:Int) ≤ 1; omega,by show (0:Int) ≤ 172800; omega,by show (1:Int) ≤ 172800; omega⟩
 ·rw [if_neg h]; exact ⟨g0,g1,by show maxE a.From b.From ≤ 172800; omega⟩
theorem span_in (t:TRoTask) (x:TRoJob):0 ≤ (spanE t x).From ∧ (spanE t x).Until ≤ 172800 ∧ (spanE t x).From ≤ 172800:=by
 have z:0 ≤ (⟨0,172800⟩:TRoSpan).From ∧ (⟨0,172800⟩:TRoSpan).Until ≤ 172800 ∧ (⟨0,172800⟩:TRoSpan).From ≤ 172800:=⟨Int.le_refl _,Int.le_refl _,by show (0:Int) ≤ 172800; omega⟩
 unfold spanE
 by_cases hc:x.Closure ≥ 0
 ·rw [if_pos hc]
  have b:=both_in (b:=cloAt t x.Closure) z.1 z.2.1
  split
  ·exact both_in b.1 b.2.1
  ·exact b
 ·rw [if_neg hc]
  split
  ·exact both_in z.1 z.2.1
  ·exact z
theorem spanAt_eq {t:TRoTask} {n:Int} (h0:0 ≤ n) (h:n < t.Jobs.length):spanAt (depE t) n = spanE t (jobAt t n):=by
 have hl:n.toNat < t.Jobs.length:=by omega
 unfold spanAt depE jobAt
 rw [List.getD_eq_getElem?_getD,List.getD_eq_getElem?_getD,List.getElem?_map,List.getElem?_eq_getElem hl]; rfl
theorem parts_ok:∀ (P:List Int) (K:List TRoKind) (a b:Int),(∀ n ∈ P,0 ≤ n ∧ n ≤ 20) → (∀ k ∈ K,kindB k = false) → P.length ≤ 4 → -1000000000000 + 20000 * (P.length:Int) ≤ a → a ≤ 1000000000000 → 0 ≤ b → b + 20000000 * (P.length:Int) ≤ 1000000000000 →
  (a - 20000 * (P.length:Int) ≤ (partsF P K a b).1 ∧ (partsF P K a b).1 ≤ a) ∧ b ≤ (partsF P K a b).2 ∧ (partsF P K a b).2 ≤ b + 20000000 * (P.length:Int):=by
 intro P
 induction P with
 | nil => intro K a b _ _ _ _ _ _ _; exact ⟨⟨by show a - _ ≤ a; simp,Int.le_refl _⟩,Int.le_refl _,by show b ≤ _; simp⟩
 | cons n P ih =>
  intro K a b hP hK hl ha ha' hb hb'
  rw [List.length_cons] at *
  match K with
  | [] => exact ⟨⟨by show a - _ ≤ a; omega,Int.le_refl _⟩,Int.le_refl _,by show b ≤ _; omega⟩
  | k :: K =>
   have hn:=hP n List.mem_cons_self
   have hk:=hK k List.mem_cons_self
   unfold kindB at hk
   rw [Bool.or_eq_false_iff] at hk
   have k1:=outB_false.1 hk.1
   have k2:=outB_false.1 hk.2
   have m1:0 ≤ n * k.Size ∧ n * k.Size ≤ 20 * 1000:=⟨Int.mul_nonneg hn.1 k1.1,Int.mul_le_mul hn.2 k1.2 k1.1 (by omega)⟩
   have m2:0 ≤ n * k.Price ∧ n * k.Price ≤ 20 * 1000000:=⟨Int.mul_nonneg hn.1 k2.1,Int.mul_le_mul hn.2 k2.2 k2.1 (by omega)⟩
   show (_ ≤ (partsF P K (IntKind.i64.wrap (a - IntKind.i64.wrap (n * k.Size))) (IntKind.i64.wrap (b + IntKind.i64.wrap (n * k.Price)))).1 ∧ (partsF P K (IntKind.i64.wrap (a - IntKind.i64.wrap (n * k.Size))) (IntKind.i64.wrap (b + IntKind.i64.wrap (n * k.Price)))).1 ≤ a) ∧ b ≤ (partsF P K (IntKind.i64.wrap (a - IntKind.i64.wrap (n * k.Size))) (IntKind.i64.wrap (b + IntKind.i64.wrap (n * k.Price)))).2 ∧ (partsF P K (IntKind.i64.wrap (a - IntKind.i64.wrap (n * k.Size))) (IntKind.i64.wrap (b + IntKind.i64.wrap (n * k.Price)))).2 ≤ b + 20000000 * ((P.length + 1:Nat):Int)
   generalize n * k.Size = y at m1
   generalize n * k.Price = z at m2
   rw [i64 (n:=y) (by omega),i64 (n:=z) (by omega),i64 (n:=a - y) (by omega),i64 (n:=b + z) (by omega)]
   have:=ih K (a - y) (b + z) (fun m hm => hP m (List.mem_cons_of_mem _ hm)) (fun m hm => hK m (List.mem_cons_of_mem _ hm)) (by omega) (by omega) (by omega) (by omega) (by omega)
   omega
structure TourV (t:TRoTask) (r:TTour) (m:Nat):Prop where
 now:0 ≤ r.now ∧ r.now ≤ 172800
 last:-1 ≤ r.last ∧ r.last < t.Jobs.length
 room:0 - 80000 * (m:Int) ≤ r.room ∧ r.room ≤ 1000000
 price:0 ≤ r.price ∧ r.price ≤ 80000000 * (m:Int)
 value:0 ≤ r.value ∧ r.value ≤ 1000000 * (m:Int)
 lor:r.RoLorry ∈ t.Lorries
theorem lor_ok {t:TRoTask} (hv:TaskV t) {x:TRoLorry} (hx:x ∈ t.Lorries):(0 ≤ x.Lift ∧ x.Lift ≤ 200) ∧ (0 ≤ x.Room ∧ x.Room ≤ 1000000) ∧ (0 ≤ x.Until ∧ x.Until ≤ 172800) ∧ (0 ≤ x.From ∧ x.From ≤ x.Until) ∧ 0 ≤ x.PerHour ∧ x.PerHour ≤ 1000000:=by
 have h:=hv.lor x hx
 unfold lorryE at h
 by_cases h0:outB x.Lift 0 200 = true
 ·rw [if_pos h0] at h; exact absurd h (by simp)
 rw [if_neg h0] at h
 by_cases h1:outB x.Room 0 1000000 = true
 ·rw [if_pos h1] at h; exact absurd h (by simp)
 rw [if_neg h1] at h
 by_cases h2:wildS ⟨x.From,x.Until⟩ = true
 ·rw [if_pos h2] at h; exact absurd h (by simp)
 rw [if_neg h2] at h
 by_cases h3:outB x.PerHour 0 1000000 = true
 ·rw [if_pos h3] at h; exact absurd h (by simp)
 have h2:wildS ⟨x.From,x.Until⟩ = false:=by simpa using h2
 unfold wildS at h2
 rw [Bool.or_eq_false_iff] at h2
 exact ⟨outB_false.1 (by simpa using h0),outB_false.1 (by simpa using h1),outB_false.1 h2.1,outB_false.1 h2.2,outB_false.1 (by simpa using h3)⟩
theorem leave_ok {t:TRoTask} (hv:TaskV t) {i:Nat} (hi:i < t.Lorries.length):TourV t (leaveE (depE t) i) 0:=by
 have hm:=(lor_get (t:=t) (k:=(i:Int)) (by omega) (by omega)).2
 obtain ⟨_,h2,h3,h4,_⟩:=lor_ok hv hm
 exact ⟨⟨h4.1,by show (lorAt t i).From ≤ 172800; omega⟩,⟨Int.le_refl _,by show (-1:Int) < _; omega⟩,⟨by show (0:Int) - 80000 * 0 ≤ (lorAt t i).Room; omega,h2.2⟩,⟨Int.le_refl _,by show (0:Int) ≤ 80000000 * 0; omega⟩,⟨Int.le_refl _,by show (0:Int) ≤ 1000000 * 0; omega⟩,hm⟩
theorem visit_ok {t:TRoTask} (hv:TaskV t) {r:TTour} {m:Nat} (hr:TourV t r m) (hm:m ≤ 10) {n:Int} (h0:0 ≤ n) (hn:n < t.Jobs.length) (hb:visitB (depE t) r n = true) :
  TourV t (visitT (depE t) r n) (m + 1) ∧ (visitT (depE t) r n).room ≤ r.room ∧ r.now + wayE t r.last n ≤ (visitT (depE t) r n).now ∧ (visitT (depE t) r n).last = n ∧ (visitT (depE t) r n).RoLorry = r.RoLorry ∧
   (visitT (depE t) r n).value = r.value + (jobAt t n).Value:=by
 have hj:=(job_get h0 hn).2
 obtain ⟨p1,_,_,p4,p5,p6,p7⟩:=job_ok (hv.job _ hj)
 have hkl:=hv.kl
 obtain ⟨w1,w2,w3⟩:=way_ok hv hr.last.2 hn
 have hs:=span_in t (jobAt t n)
 rw [← spanAt_eq h0 hn] at hs
 have hnow:=hr.now
 have hroom:=hr.room
 have hprice:=hr.price
 have hval:=hr.value
 have e:visitT (depE t) r n = doneE (depE t) r n:=if_pos hb
 have ea:arriveE (depE t) r n = r.now + wayE t r.last n:=i64 (by show _ ≤ r.now + wayE t r.last n ∧ r.now + wayE t r.last n < _; omega)
 have es:r.now + wayE t r.last n ≤ startE (depE t) r n ∧ startE (depE t) r n ≤ 1000000:=by
  unfold startE
  rw [ea]
  unfold maxE
  split <;> omega
 have ee:endE (depE t) r n = startE (depE t) r n + (jobAt t n).Seconds:=i64 (by show _ ≤ startE (depE t) r n + (jobAt t n).Seconds ∧ startE (depE t) r n + (jobAt t n).Seconds < _; omega)
 unfold visitB at hb
 rw [Bool.and_eq_true,Bool.not_eq_true',Bool.not_eq_true',decide_eq_false_iff_not] at hb
 have hlen:(jobAt t n).Parts.length ≤ 4:=by omega
 obtain ⟨q1,q2⟩:=parts_ok (jobAt t n).Parts t.Kinds r.room r.price p7 hv.kinds hlen (by omega) (by omega) hprice.1 (by omega)
 have el:loadF (depE t) r n = partsF (jobAt t n).Parts t.Kinds r.room r.price:=rfl
 rw [← el] at q1 q2
 have ev:IntKind.i64.wrap (r.value + (jobAt t n).Value) = r.value + (jobAt t n).Value:=i64 (by omega)
 rw [e]
 refine ⟨⟨?_,?_,?_,?_,?_,hr.lor⟩,?_,?_,rfl,rfl,ev⟩
 ·show 0 ≤ endE (depE t) r n ∧ endE (depE t) r n ≤ 172800
  omega
 ·show -1 ≤ n ∧ n < (t.Jobs.length:Int)
  omega
 ·show 0 - 80000 * ((m + 1:Nat):Int) ≤ (loadF (depE t) r n).1 ∧ (loadF (depE t) r n).1 ≤ 1000000
  omega
 ·show 0 ≤ (loadF (depE t) r n).2 ∧ (loadF (depE t) r n).2 ≤ 80000000 * ((m + 1:Nat):Int)
  omega
 ·show 0 ≤ IntKind.i64.wrap (r.value + (jobAt t n).Value) ∧ IntKind.i64.wrap (r.value + (jobAt t n).Value) ≤ 1000000 * ((m + 1:Nat):Int)
  rw [ev]; omega
 ·show (loadF (depE t) r n).1 ≤ r.room
  omega
 ·show r.now + wayE t r.last n ≤ endE (depE t) r n
  omega
theorem back_ok {t:TRoTask} (hv:TaskV t) {r:TTour} {m:Nat} (hr:TourV t r m):backE (depE t) r = r.now + wayE t r.last (-1) ∧ 0 ≤ backE (depE t) r ∧ backE (depE t) r ≤ 1000000:=by
 obtain ⟨_,w2,w3,_⟩:=way_ok hv hr.last.2 (show (-1:Int) < t.Jobs.length by omega)
 have hnow:=hr.now
 have e:backE (depE t) r = r.now + wayE t r.last (-1):=i64 (by show _ ≤ r.now + wayE t r.last (-1) ∧ r.now + wayE t r.last (-1) < _; omega)
 rw [e]
 omega
end Go.Proofs.YtdeeekgohhkdbaaGreatDoor
namespace Go.Proofs.YtdeeekgohhkdbaaGreatDoor
structure Mask (D:List Int) (n:Int):Prop where
 lo:0 ≤ n
 hi:n < 64
 bit:∀ j:Nat,j < 6 → (freeB n j = true ↔ (j:Int) ∉ D)
end Go.Proofs.YtdeeekgohhkdbaaGreatDoor
namespace Go.Proofs.YtdeeekgohhkdbaaGreatDoor
theorem taskIn_of {t:TRoTask} (h:t.Ok):TaskIn t:=by
 obtain ⟨_,_,_,_,_,_,_,⟨hl,_⟩,⟨hj,_⟩⟩:=h
 exact ⟨fun x hx => (hl x hx).1,fun x hx => (hj x hx).1⟩
theorem opInts {d:Nat} {cs:List AV} (h:CellsT Tryz.prog d 41 cs):∃ l:List Int,cs = [.slc 3 (intsT l)] ∧ l.length * 8 ≤ reachBytes:=by
 obtain ⟨l,e,_,m,_⟩:=cells_sliceR (g:=AV.int .i64) (w:=fun _ => True) (by kernel_rfl) (fun d p hp => by
  obtain ⟨x,ex,_⟩:=cells_int (k:=.i64) (by kernel_rfl) hp
  subst ex
  exact ⟨x,by rw [show isAggT Tryz.prog 3 = false by kernel_rfl,if_neg (by simp)]; rfl,trivial⟩) h
 rw [show Tryz.prog.bytesOf 3 = 8 by kernel_rfl] at m
 exact ⟨l,e,m⟩
def R16 (t:TRoTask) (_S:SpecF) (_Fr:FreshF) (_Sq:SeqF) (Q:PostF):Prop :=
 (decide (IntKind.i64.wrap ((↑(List.map TRoJob.av t.Jobs).length:Int) + (↑(List.map TRoLorry.av t.Lorries).length:Int)) > 6) = true → (decide ((↑(List.map TRoJob.av t.Jobs).length:Int) ≤ (6:Int)) = true → Q (.bool (decide ((↑(List.map TRoLorry.av t.Lorries).length:Int) ≤ (3:Int)))) []) ∧ (decide ((↑(List.map TRoJob.av t.Jobs).length:Int) ≤ (6:Int)) = false → Q (.bool false) [])) ∧ (decide (IntKind.i64.wrap ((↑(List.map TRoJob.av t.Jobs).length:Int) + (↑(List.map TRoLorry.av t.Lorries).length:Int)) > 6) = false → Q (.bool false) [])
theorem s16 (t:TRoTask) (v:AV) (O:List (List AV)) (h:R16 t Sp Fo So (fun r O' => r = v ∧ O' = O)):Sp 16 [t.av] [] v O :=
 spec_by (w:=⟨[],[],[],[],[]⟩) (k:=0) (keep:=⟨[0,1,2],[],[],[]⟩) (boxes:=[]) mixed (by exact trivial) Tryz.func16 Tryz.call16 rfl rfl rfl (Nat.le_of_ble_eq_true rfl) (by kernel_rfl) h
end Go.Proofs.YtdeeekgohhkdbaaGreatDoor
