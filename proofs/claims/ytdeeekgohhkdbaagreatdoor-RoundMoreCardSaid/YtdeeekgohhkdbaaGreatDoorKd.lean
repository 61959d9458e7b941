/- Plain: a task that is wider than another: what goes there goes here, too. -/
import Derived.Test.YtdeeekgohhkdbaaGreatDoorKb
namespace Go.Proofs.YtdeeekgohhkdbaaGreatDoor
theorem visit_nums {t:TRoTask} (hv:TaskV t) {r:TTour} {m:Nat} (hr:TourV t r m) {n:Int} (h0:0 ≤ n) (hn:n < t.Jobs.length) :
  arriveE (depE t) r n = r.now + wayE t r.last n ∧ startE (depE t) r n = maxE (r.now + wayE t r.last n) (spanE t (jobAt t n)).From ∧ endE (depE t) r n = startE (depE t) r n + (jobAt t n).Seconds:=by
 obtain ⟨p1,_,_,p4,p5,p6,p7⟩:=job_ok (hv.job _ (job_get h0 hn).2)
 obtain ⟨w1,w2,w3⟩:=way_ok hv hr.last.2 hn
 have hs:=span_in t (jobAt t n)
 have hnow:=hr.now
 have ea:arriveE (depE t) r n = r.now + wayE t r.last n:=i64 (by show _ ≤ r.now + wayE t r.last n ∧ r.now + wayE t r.last n < _; omega)
 have es:startE (depE t) r n = maxE (r.now + wayE t r.last n) (spanE t (jobAt t n)).From:=by unfold startE; rw [ea,spanAt_eq h0 hn]
 refine ⟨ea,es,i64 ?_⟩
 rw [es]
 show _ ≤ maxE (r.now + wayE t r.last n) (spanE t (jobAt t n)).From + (jobAt t n).Seconds ∧ maxE (r.now + wayE t r.last n) (spanE t (jobAt t n)).From + (jobAt t n).Seconds < _
 unfold maxE
 split <;> omega
def sizeS:List Int → List TRoKind → Int
 | n :: P,k :: K => n * k.Size + sizeS P K
 | [],_ => 0
 | _ :: _,[] => 0
theorem parts_size:∀ (P:List Int) (K:List TRoKind) (a b:Int),(∀ n ∈ P,0 ≤ n ∧ n ≤ 20) → (∀ k ∈ K,kindB k = false) → P.length ≤ 4 → -1000000000000 + 20000 * (P.length:Int) ≤ a → a ≤ 1000000000000 → (partsF P K a b).1 = a - sizeS P K:=by
 intro P
 induction P with
 | nil => intro K a b _ _ _ _ _; show a = a - 0; omega
 | cons n P ih =>
  intro K a b hP hK hl ha ha'
  rw [List.length_cons] at *
  match K with
  | [] => show a = a - 0; omega
  | k :: K =>
   have hn:=hP n List.mem_cons_self
   have hk:=hK k List.mem_cons_self
   unfold kindB at hk
   rw [Bool.or_eq_false_iff] at hk
   have k1:=outB_false.1 hk.1
   have m1:0 ≤ n * k.Size ∧ n * k.Size ≤ 20 * 1000:=⟨Int.mul_nonneg hn.1 k1.1,Int.mul_le_mul hn.2 k1.2 k1.1 (by omega)⟩
   show (partsF P K (IntKind.i64.wrap (a - IntKind.i64.wrap (n * k.Size))) (IntKind.i64.wrap (b + IntKind.i64.wrap (n * k.Price)))).1 = a - (n * k.Size + sizeS P K)
   generalize n * k.Size = y at m1
   rw [i64 (n:=y) (by omega),i64 (n:=a - y) (by omega)]
   have:=ih K (a - y) (IntKind.i64.wrap (b + IntKind.i64.wrap (n * k.Price))) (fun m hm => hP m (List.mem_cons_of_mem _ hm)) (fun m hm => hK m (List.mem_cons_of_mem _ hm)) (by omega) (by omega) (by omega)
   rw [this]; omega
structure WideT (t m:TRoTask):Prop where
 x:m.X = t.X
 y:m.Y = t.Y
 pace:m.Pace = t.Pace
 kinds:m.Kinds = t.Kinds
 jl:t.Jobs.length ≤ m.Jobs.length
 job:∀ n:Int,0 ≤ n → n < t.Jobs.length → jobAt m n = jobAt t n
 span:∀ n:Int,0 ≤ n → n < t.Jobs.length → neverB (spanE t (jobAt t n)) = false → neverB (spanE m (jobAt t n)) = false ∧ (spanE m (jobAt t n)).From ≤ (spanE t (jobAt t n)).From ∧ (spanE t (jobAt t n)).Until ≤ (spanE m (jobAt t n)).Until
theorem WideT.at {t m:TRoTask} (w:WideT t m) {k:Int} (hk:k < t.Jobs.length):atX m k = atX t k ∧ atY m k = atY t k:=by
 by_cases h:k ≥ 0
 ·rw [atX_pos h,atX_pos h,atY_pos h,atY_pos h,w.job k h hk]; exact ⟨rfl,rfl⟩
 ·rw [atX_neg h,atX_neg h,atY_neg h,atY_neg h,w.x,w.y]; exact ⟨rfl,rfl⟩
theorem WideT.way {t m:TRoTask} (w:WideT t m) {a b:Int} (ha:a < t.Jobs.length) (hb:b < t.Jobs.length):wayE m a b = wayE t a b:=by
 unfold wayE
 rw [(w.at ha).1,(w.at ha).2,(w.at hb).1,(w.at hb).2,w.pace]
structure WideR (r s:TTour):Prop where
 now:s.now ≤ r.now
 last:s.last = r.last
 room:r.room ≤ s.room
 value:s.value = r.value
 lift:r.RoLorry.Lift ≤ s.RoLorry.Lift
 till:r.RoLorry.Until ≤ s.RoLorry.Until
theorem max_le {a b c d:Int} (h:a ≤ c) (h':b ≤ d):maxE a b ≤ maxE c d:=by unfold maxE; split <;> split <;> omega
theorem min_mono {a b c d:Int} (h:a ≤ c) (h':b ≤ d):minE a b ≤ minE c d:=by unfold minE; split <;> split <;> omega
theorem wide_nums {t m:TRoTask} (hv:TaskV t) (hm:TaskV m) (w:WideT t m) {r s:TTour} {a b:Nat} (hr:TourV t r a) (hs:TourV m s b) (hn':s.now ≤ r.now) (hl':s.last = r.last) {n:Int} (h0:0 ≤ n) (hn:n < t.Jobs.length) (hb:visitB (depE t) r n = true) :
  arriveE (depE m) s n ≤ arriveE (depE t) r n ∧ startE (depE m) s n ≤ startE (depE t) r n ∧ endE (depE m) s n ≤ endE (depE t) r n ∧ visitB (depE m) s n = true:=by
 have hn2:n < m.Jobs.length:=by have:=w.jl; omega
 obtain ⟨a1,a2,a3⟩:=visit_nums hv hr h0 hn
 obtain ⟨b1,b2,b3⟩:=visit_nums hm hs h0 hn2
 rw [hl',w.way hr.last.2 hn] at b1 b2
 rw [w.job n h0 hn] at b2 b3
 unfold visitB at hb
 rw [Bool.and_eq_true,Bool.not_eq_true',Bool.not_eq_true',decide_eq_false_iff_not,spanAt_eq h0 hn] at hb
 obtain ⟨g1,g2,g3⟩:=w.span n h0 hn hb.1
 have hmx:maxE (s.now + wayE t r.last n) (spanE m (jobAt t n)).From ≤ maxE (r.now + wayE t r.last n) (spanE t (jobAt t n)).From:=max_le (by omega) g2
 have he:endE (depE m) s n ≤ endE (depE t) r n:=by rw [a3,b3,a2,b2]; omega
 refine ⟨by rw [a1,b1]; omega,by rw [a2,b2]; exact hmx,he,?_⟩
 unfold visitB
 rw [Bool.and_eq_true,Bool.not_eq_true',Bool.not_eq_true',decide_eq_false_iff_not,spanAt_eq h0 hn2,w.job n h0 hn]
 exact ⟨g1,by omega⟩
theorem load_size {t:TRoTask} (hv:TaskV t) {r:TTour} {m:Nat} (hr:TourV t r m) (hm:m ≤ 10) {n:Int} (h0:0 ≤ n) (hn:n < t.Jobs.length):(loadF (depE t) r n).1 = r.room - sizeS (jobAt t n).Parts t.Kinds:=by
 obtain ⟨p1,_,_,p4,p5,p6,p7⟩:=job_ok (hv.job _ (job_get h0 hn).2)
 have hkl:=hv.kl
 have hroom:=hr.room
 exact parts_size (jobAt t n).Parts t.Kinds r.room r.price p7 hv.kinds (by omega) (by omega) (by omega)
theorem wide_visit {t m:TRoTask} (hv:TaskV t) (hm:TaskV m) (w:WideT t m) {r s:TTour} {a b:Nat} (hr:TourV t r a) (hs:TourV m s b) (ha:a ≤ 10) (hb':b ≤ 10) (h:WideR r s) {n:Int} (h0:0 ≤ n) (hn:n < t.Jobs.length) (hb:visitB (depE t) r n = true) :
  visitB (depE m) s n = true ∧ WideR (visitT (depE t) r n) (visitT (depE m) s n):=by
 have hn2:n < m.Jobs.length:=by have:=w.jl; omega
 obtain ⟨n1,n2,n3,n4⟩:=wide_nums hv hm w hr hs h.now h.last h0 hn hb
 obtain ⟨v1,_,_,v4,v5,v6⟩:=visit_ok hv hr ha h0 hn hb
 obtain ⟨u1,_,_,u4,u5,u6⟩:=visit_ok hm hs hb' h0 hn2 n4
 have e1:visitT (depE t) r n = doneE (depE t) r n:=if_pos hb
 have e2:visitT (depE m) s n = doneE (depE m) s n:=if_pos n4
 refine ⟨n4,⟨by rw [e1,e2]; exact n3,by rw [v4,u4],?_,by rw [v6,u6,h.value,w.job n h0 hn],by rw [v5,u5]; exact h.lift,by rw [v5,u5]; exact h.till⟩⟩
 rw [e1,e2]
 show (loadF (depE t) r n).1 ≤ (loadF (depE m) s n).1
 rw [load_size hv hr ha h0 hn,load_size hm hs hb' h0 hn2,w.job n h0 hn,w.kinds]
 have:=h.room
 omega
theorem wide_run {t m:TRoTask} (hv:TaskV t) (hm:TaskV m) (w:WideT t m):∀ (L:List Int) (r s:TTour) (a b:Nat),TourV t r a → TourV m s b → a + L.length ≤ 10 → b + L.length ≤ 10 → WideR r s → (∀ x ∈ L,0 ≤ x ∧ x < t.Jobs.length) → canL (depE t) r L = true →
  canL (depE m) s L = true ∧ WideR (runJ (depE t) r L) (runJ (depE m) s L):=by
 intro L
 induction L with
 | nil => intro r s a b _ _ _ _ h _ _; exact ⟨rfl,h⟩
 | cons n L ih =>
  intro r s a b hr hs ha hb h hx hc
  rw [List.length_cons] at ha hb
  unfold canL at hc
  rw [Bool.and_eq_true] at hc
  obtain ⟨x0,x1⟩:=hx n List.mem_cons_self
  obtain ⟨c1,c2⟩:=can_iff.1 hc.1
  have hn2:n < m.Jobs.length:=by have:=w.jl; omega
  obtain ⟨g1,g2⟩:=wide_visit hv hm w hr hs (by omega) (by omega) h x0 x1 c2
  obtain ⟨i1,i2⟩:=ih _ _ (a + 1) (b + 1) (visit_ok hv hr (by omega) x0 x1 c2).1 (visit_ok hm hs (by omega) x0 hn2 g1).1 (by omega) (by omega) g2 (fun y hy => hx y (List.mem_cons_of_mem _ hy)) hc.2
  refine ⟨?_,i2⟩
  unfold canL
  rw [i1,Bool.and_true]
  refine can_iff.2 ⟨?_,g1⟩
  show (jobAt m n).Height ≤ _
  rw [w.job n x0 x1]
  have:=h.lift
  have c1:(jobAt t n).Height ≤ r.RoLorry.Lift:=c1
  omega
theorem wide_back {t m:TRoTask} (hv:TaskV t) (hm:TaskV m) (w:WideT t m) {r s:TTour} {a b:Nat} (hr:TourV t r a) (hs:TourV m s b) (hn:s.now ≤ r.now) (hl:s.last = r.last):backE (depE m) s ≤ backE (depE t) r:=by
 have hjl:=w.jl
 rw [(back_ok hv hr).1,(back_ok hm hs).1,hl,w.way hr.last.2 (show (-1:Int) < t.Jobs.length by omega)]
 omega
theorem wide_goes {t m:TRoTask} (hv:TaskV t) (hm:TaskV m) (w:WideT t m) {r s:TTour} {a b:Nat} (hr:TourV t r a) (hs:TourV m s b) (h:WideR r s) (hg:goesB (depE t) r = true):goesB (depE m) s = true:=by
 obtain ⟨g1,g2⟩:=goes_iff.1 hg
 have:=wide_back hv hm w hr hs h.now h.last
 have:=h.till
 have:=h.room
 exact goes_iff.2 ⟨by omega,by omega⟩
structure WideL (t m:TRoTask):Prop where
 ll:t.Lorries.length ≤ m.Lorries.length
 lor:∀ i:Nat,i < t.Lorries.length → (lorAt m i).From ≤ (lorAt t i).From ∧ (lorAt t i).Room ≤ (lorAt m i).Room ∧ (lorAt t i).Lift ≤ (lorAt m i).Lift ∧ (lorAt t i).Until ≤ (lorAt m i).Until
theorem WideL.leave {t m:TRoTask} (w:WideL t m) {i:Nat} (hi:i < t.Lorries.length):WideR (leaveE (depE t) i) (leaveE (depE m) i):=by
 obtain ⟨h1,h2,h3,h4⟩:=w.lor i hi
 exact ⟨h1,rfl,h2,rfl,h3,h4⟩
theorem wide_good {t m:TRoTask} (hv:TaskV t) (hm:TaskV m) (w:WideT t m) (wl:WideL t m) {i:Nat} (hi:i < t.Lorries.length) {D L:List Int} (hg:GoodR (depE t) i D L) (hL:L.length ≤ 6) (hx:∀ x ∈ L,0 ≤ x ∧ x < t.Jobs.length) :
  GoodR (depE m) i D L ∧ (runJ (depE m) (leaveE (depE m) i) L).value = (runJ (depE t) (leaveE (depE t) i) L).value:=by
 have hll:=wl.ll
 have hjl:=w.jl
 have l1:=leave_ok hv hi
 have l2:=leave_ok hm (show i < m.Lorries.length by omega)
 obtain ⟨c1,c2⟩:=wide_run hv hm w L _ _ 0 0 l1 l2 (by omega) (by omega) (wl.leave hi) hx hg.can
 have r1:=run_ok hv L _ 0 l1 (by omega) hx hg.can
 have r2:=run_ok hm L _ 0 l2 (by omega) (fun x h => ⟨(hx x h).1,by have:=(hx x h).2; omega⟩) c1
 exact ⟨⟨hg.new,c1,wide_goes hv hm w r1 r2 c2 hg.goes⟩,c2.value⟩
theorem wide_plan {t m:TRoTask} (hv:TaskV t) (hm:TaskV m) (w:WideT t m) (wl:WideL t m):∀ (P:List (List Int)) (i:Nat) (D:List Int),i + P.length = t.Lorries.length → goodP (depE t) i D P → PlanR t P → goodP (depE m) i D P ∧ sumV (depE m) i P = sumV (depE t) i P:=by
 intro P
 induction P with
 | nil => intro i D _ _ _; exact ⟨trivial,rfl⟩
 | cons L P ih =>
  intro i D hl hg hP
  rw [List.length_cons] at hl
  obtain ⟨p1,p2⟩:=hP L List.mem_cons_self
  obtain ⟨g1,g2⟩:=wide_good hv hm w wl (show i < t.Lorries.length by omega) hg.1 p1 p2
  obtain ⟨i1,i2⟩:=ih (i + 1) (D ++ L) (by omega) hg.2 (fun M hM => hP M (List.mem_cons_of_mem _ hM))
  refine ⟨⟨g1,i1⟩,?_⟩
  show (runJ (depE m) (leaveE (depE m) i) L).value + sumV (depE m) (i + 1) P = (runJ (depE t) (leaveE (depE t) i) L).value + sumV (depE t) (i + 1) P
  rw [g2,i2]
theorem good_app {d:TDepot} {M:List Int}:∀ (P:List (List Int)) (i:Nat) (D:List Int),goodP d i D P → GoodR d (i + P.length) (D ++ P.flatten) M → goodP d i D (P ++ [M]):=by
 intro P
 induction P with
 | nil =>
  intro i D _ h
  rw [List.flatten_nil,List.append_nil] at h
  exact ⟨h,trivial⟩
 | cons L P ih =>
  intro i D hg h
  refine ⟨hg.1,ih (i + 1) (D ++ L) hg.2 ?_⟩
  rw [List.length_cons,List.flatten_cons,← List.append_assoc] at h
  rw [show i + 1 + P.length = i + (P.length + 1) by omega]
  exact h
theorem sum_app {d:TDepot} {M:List Int}:∀ (P:List (List Int)) (i:Nat),sumV d i (P ++ [M]) = sumV d i P + (runJ d (leaveE d ((i + P.length:Nat):Int)) M).value:=by
 intro P
 induction P with
 | nil => intro i; show (runJ d (leaveE d i) M).value + 0 = 0 + (runJ d (leaveE d ((i + 0:Nat):Int)) M).value; rw [Nat.add_zero]; omega
 | cons L P ih =>
  intro i
  show (runJ d (leaveE d i) L).value + sumV d (i + 1) (P ++ [M]) = (runJ d (leaveE d i) L).value + sumV d (i + 1) P + (runJ d (leaveE d ((i + (P.length + 1):Nat):Int)) M).value
  rw [ih,show i + 1 + P.length = i + (P.length + 1) by omega]
  omega
theorem stay_good {t:TRoTask} (hv:TaskV t) {i:Nat} (hi:i < t.Lorries.length) (D:List Int):GoodR (depE t) i D []:=by
 have hlv:=leave_ok hv hi
 obtain ⟨b1,_⟩:=back_ok hv hlv
 obtain ⟨_,r1,_,r2,_⟩:=lor_ok hv hlv.lor
 have w:wayE t (-1) (-1) = 0:=by
  rw [(way_ok hv (show (-1:Int) < t.Jobs.length by omega) (show (-1:Int) < t.Jobs.length by omega)).1]
  have z:distN t (-1) (-1) = 0:=by unfold distN absE maxE minE; split <;> split <;> omega
  unfold wayN; rw [z,Int.zero_mul]; rfl
 refine ⟨rfl,rfl,goes_iff.2 ⟨?_,r1.1⟩⟩
 show backE (depE t) (leaveE (depE t) i) ≤ (lorAt t i).Until
 rw [b1]
 show (lorAt t i).From + wayE t (-1) (-1) ≤ (lorAt t i).Until
 rw [w]
 have r2:(lorAt t i).From ≤ (lorAt t i).Until:=r2.2
 omega
theorem more_law {t m:TRoTask} (ht:(taskE t).2.2 = 0) (hm:(taskE m).2.2 = 0) (w:WideT t m) (wl:WideL t m) (hl:m.Lorries.length ≤ t.Lorries.length + 1):(worthE t (bestP t)).1 ≤ (worthE m (bestP m)).1:=by
 have hv:=task_ok ht
 have hmv:=task_ok hm
 have hjl:=w.jl
 have hll:=wl.ll
 obtain ⟨z,g,_,_⟩:=best_fine ht
 obtain ⟨w1,r1⟩:=worth_sum z g
 have hlen:=plan_len z
 obtain ⟨p1,p2⟩:=wide_plan hv hmv w wl (bestP t) 0 [] (by omega) g r1
 have r2:PlanR m (bestP t):=fun L hL => ⟨(r1 L hL).1,fun x hx => ⟨((r1 L hL).2 x hx).1,by have:=((r1 L hL).2 x hx).2; omega⟩⟩
 obtain ⟨_,_,_,b4⟩:=best_fine hm
 have key:∃ P,planE m P = 0 ∧ goodP (depE m) 0 [] P ∧ sumV (depE m) 0 P = sumV (depE t) 0 (bestP t):=by
  by_cases he:m.Lorries.length = t.Lorries.length
  ·exact ⟨bestP t,plan_zero hm (by omega) r2,p1,p2⟩
  ·refine ⟨bestP t ++ [[]],plan_zero hm (by rw [List.length_append]; show _ + 1 = _; omega) (fun L hL => ?_),?_,?_⟩
   ·rcases List.mem_append.1 hL with h | h
    ·exact r2 L h
    ·rw [List.mem_singleton.1 h]; exact ⟨Nat.zero_le _,fun x hx => (by cases hx)⟩
   ·exact good_app _ 0 [] p1 (stay_good hmv (by omega) _)
   ·rw [sum_app,p2]
    show _ + (0:Int) = _
    omega
 obtain ⟨P,k1,k2,k3⟩:=key
 obtain ⟨w2,_⟩:=worth_sum k1 k2
 have:=b4 P (by rw [w2])
 rw [w2,k3] at this
 unfold geT at this
 rw [w1]
 rw [w1] at *
 omega
end Go.Proofs.YtdeeekgohhkdbaaGreatDoor
