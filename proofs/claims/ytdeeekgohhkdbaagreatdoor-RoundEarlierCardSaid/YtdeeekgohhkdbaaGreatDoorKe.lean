/- Plain: a lorry that leaves earlier; a round without its last job. -/
import Derived.Test.YtdeeekgohhkdbaaGreatDoorKd
namespace Go.Proofs.YtdeeekgohhkdbaaGreatDoor
theorem firstE_zero {e:Nat → Int}:∀ {k i:Nat},(∀ j,i ≤ j → j < i + k → e j = 0) → (firstE e k i).2 = 0:=by
 intro k
 induction k with
 | zero => intro i _; rfl
 | succ k ih =>
  intro i h
  unfold firstE
  rw [if_neg (by rw [h i (Nat.le_refl _) (by omega)]; simp)]
  exact ih fun j h1 h2 => h j (by omega) (by omega)
theorem names_zero {α:Type} {nm:α → ByteArray} {rest:α → Int} {L M:List α} (hn:M.map nm = L.map nm) (h:(firstE (errAt nm (fun _ x => rest x) L) L.length 0).2 = 0) (hr:∀ x ∈ M,rest x = 0):(firstE (errAt nm (fun _ x => rest x) M) M.length 0).2 = 0:=by
 have hlen:M.length = L.length:=by have:=congrArg List.length hn; rwa [List.length_map,List.length_map] at this
 refine firstE_zero fun j _ hj => ?_
 have hj:j < M.length:=by omega
 have h1:=firstE_ok h j (Nat.zero_le _) (by omega)
 rw [errAt_some (List.getElem?_eq_getElem (show j < L.length by omega))] at h1
 rw [errAt_some (List.getElem?_eq_getElem hj)]
 have hx:nm M[j] = nm L[j]:=by
  have:(M.map nm)[j]? = (L.map nm)[j]?:=by rw [hn]
  rw [List.getElem?_map,List.getElem?_map,List.getElem?_eq_getElem hj,List.getElem?_eq_getElem (show j < L.length by omega)] at this
  exact Option.some.inj this
 have hany:(M.take j).any (fun y => twinB (nm y) (nm M[j])) = (L.take j).any (fun y => twinB (nm y) (nm L[j])):=by
  have e:∀ (K:List α) (s:ByteArray),K.any (fun y => twinB (nm y) s) = (K.map nm).any (fun n => twinB n s):=fun K s => by rw [List.any_map]; rfl
  rw [e,e,List.map_take,List.map_take,hn,hx]
 rw [hany,hx,hr _ (List.getElem_mem hj)]
 split at h1
 ·exact absurd h1 (by decide)
 ·rename_i g1
  rw [if_neg g1]
  split at h1
  ·exact absurd h1 (by decide)
  ·rename_i g2
   rw [if_neg g2]
theorem task_lor {t:TRoTask} {M:List TRoLorry} (ht:(taskE t).2.2 = 0) (hn:M.map TRoLorry.Name = t.Lorries.map TRoLorry.Name) (hr:∀ x ∈ M,lorryE x = 0):(taskE { t with Lorries:=M }).2.2 = 0:=by
 have hv:=task_ok ht
 have hlen:M.length = t.Lorries.length:=by have:=congrArg List.length hn; rwa [List.length_map,List.length_map] at this
 unfold taskE at ht ⊢
 have n1:¬ cityB t.City = true:=by rw [hv.city]; simp
 have n2:¬ outB t.Day 0 40000 = true:=by rw [hv.day]; simp
 have n3:¬ awayB t.X t.Y = true:=by rw [hv.away]; simp
 have n4:¬ outB t.Pace 0 3600 = true:=by rw [hv.pace]; simp
 have kl:=hv.kl
 have cl:=hv.cl
 have ll:=hv.ll
 have jl:=hv.jl
 have n5:¬ findI kindB 0 t.Kinds ≥ 0:=by
  have:=findI_any kindB t.Kinds 0
  rw [show t.Kinds.any kindB = false from List.any_eq_false.2 fun x hx => by rw [hv.kinds x hx]; simp] at this
  exact of_decide_eq_false this
 have n6:¬ findI wildS 0 t.Closures ≥ 0:=by
  have:=findI_any wildS t.Closures 0
  rw [show t.Closures.any wildS = false from List.any_eq_false.2 fun x hx => by rw [hv.clos x hx]; simp] at this
  exact of_decide_eq_false this
 dsimp only
 rw [if_neg n1,if_neg n2,if_neg n3,if_neg n4,if_neg (by omega),if_neg (by omega),if_neg (by omega),if_neg (by omega),if_neg n5,if_neg n6] at ht ⊢
 by_cases h1:(firstE (errAt TRoLorry.Name lorryS t.Lorries) t.Lorries.length 0).2 ≠ 0
 ·rw [if_pos h1] at ht; exact absurd ht h1
 rw [if_neg h1] at ht
 have h1:=Decidable.not_not.1 h1
 have h2:(firstE (errAt TRoLorry.Name lorryS M) M.length 0).2 = 0:=names_zero (rest:=lorryE) hn h1 hr
 have h3:(firstE (errAt TRoJob.Name (jobS { t with Lorries:=M }) t.Jobs) t.Jobs.length 0).2 = (firstE (errAt TRoJob.Name (jobS t) t.Jobs) t.Jobs.length 0).2:=rfl
 rw [if_neg (by rw [h2]; simp)]
 by_cases h4:(firstE (errAt TRoJob.Name (jobS t) t.Jobs) t.Jobs.length 0).2 ≠ 0
 ·rw [if_pos h4] at ht; exact absurd ht h4
 ·rw [if_neg (by show ¬ (firstE (errAt TRoJob.Name (jobS { t with Lorries:=M }) t.Jobs) t.Jobs.length 0).2 ≠ 0; rw [h3]; exact h4)]
theorem lorryE_zero {x:TRoLorry} (h1:0 ≤ x.Lift ∧ x.Lift ≤ 200) (h2:0 ≤ x.Room ∧ x.Room ≤ 1000000) (h3:0 ≤ x.Until ∧ x.Until ≤ 172800) (h4:0 ≤ x.From ∧ x.From ≤ x.Until) (h5:0 ≤ x.PerHour ∧ x.PerHour ≤ 1000000):lorryE x = 0:=by
 unfold lorryE wildS
 rw [outB_false.2 h1,outB_false.2 h2,outB_false.2 h3,outB_false.2 h4,outB_false.2 h5]; rfl
def earlyT (t:TRoTask) (k:Nat) (f:Int):TRoTask:={ t with Lorries:=t.Lorries.set k { lorAt t k with From:=f } }
theorem early_at {t:TRoTask} {k:Nat} {f:Int} (hk:k < t.Lorries.length):lorAt (earlyT t k f) k = { lorAt t k with From:=f }:=by
 show (t.Lorries.set k _).getD ((k:Int)).toNat _ = _
 rw [Int.toNat_natCast,List.getD_eq_getElem?_getD,List.getElem?_set_self hk]; rfl
theorem early_ok {t:TRoTask} (ht:(taskE t).2.2 = 0) {k:Nat} (hk:k < t.Lorries.length) {f:Int} (h0:0 ≤ f) (h1:f ≤ (lorAt t k).From):(taskE (earlyT t k f)).2.2 = 0:=by
 have hv:=task_ok ht
 have hm:=(lor_get (t:=t) (k:=(k:Int)) (by omega) (by omega)).2
 obtain ⟨l1,l2,l3,l4,l5⟩:=lor_ok hv hm
 refine task_lor ht ?_ fun x hx => ?_
 ·rw [List.map_set]
  have e:(t.Lorries.map TRoLorry.Name)[k]? = some (lorAt t k).Name:=by
   unfold lorAt
   rw [Int.toNat_natCast,List.getElem?_map,List.getD_eq_getElem?_getD,List.getElem?_eq_getElem hk]; rfl
  refine List.ext_getElem? fun j => ?_
  rw [List.getElem?_set]
  by_cases hj:k = j
  ·subst hj
   rw [if_pos rfl,if_pos (by rw [List.length_map]; exact hk),e]
  ·rw [if_neg hj]
 ·rcases List.mem_or_eq_of_mem_set hx with h | h
  ·exact hv.lor x h
  ·subst h
   exact lorryE_zero l1 l2 l3 ⟨h0,by show f ≤ (lorAt t k).Until; omega⟩ l5
theorem early_wide {t:TRoTask} {k:Nat} {f:Int}:WideT t (earlyT t k f) :=
 ⟨rfl,rfl,rfl,rfl,Nat.le_refl _,fun _ _ _ => rfl,fun _ _ _ h => ⟨h,Int.le_refl _,Int.le_refl _⟩⟩
def SoonS (a b:TRoStop):Prop:=b.Job = a.Job ∧ b.Arrive ≤ a.Arrive ∧ b.Start ≤ a.Start ∧ b.End ≤ a.End
theorem stops_grow {d:TDepot}:∀ (L:List Int) (r:TTour),∃ S,(tableF d r L).1 = r.stops ++ S:=by
 intro L
 induction L with
 | nil => intro r; exact ⟨[],by rw [List.append_nil]; rfl⟩
 | cons n L ih =>
  intro r
  unfold tableF
  by_cases h:visitB d r n = true
  ·rw [if_pos h]
   obtain ⟨S,hS⟩:=ih (visitT d r n)
   exact ⟨stopE d r n :: S,by rw [hS,visit_stops h,List.append_assoc]; rfl⟩
  ·rw [if_neg h]; exact ⟨[],by rw [List.append_nil]⟩
theorem soon_table {t m:TRoTask} (hv:TaskV t) (hm:TaskV m) (w:WideT t m):∀ (L:List Int) (r s:TTour) (a b:Nat),TourV t r a → TourV m s b → a + L.length ≤ 10 → b + L.length ≤ 10 → s.now ≤ r.now → s.last = r.last → s.stops.length = r.stops.length →
  (∀ (i:Nat) (x y:TRoStop),r.stops[i]? = some x → s.stops[i]? = some y → SoonS x y) → (∀ x ∈ L,0 ≤ x ∧ x < t.Jobs.length) →
  (tableF (depE t) r L).1.length ≤ (tableF (depE m) s L).1.length ∧ (∀ (i:Nat) (x y:TRoStop),(tableF (depE t) r L).1[i]? = some x → (tableF (depE m) s L).1[i]? = some y → SoonS x y) ∧
  ((tableF (depE t) r L).2 ≥ 0 → 0 ≤ (tableF (depE m) s L).2 ∧ (tableF (depE m) s L).2 ≤ (tableF (depE t) r L).2):=by
 intro L
 induction L with
 | nil =>
  intro r s a b hr hs _ _ hn hl hlen hst _
  refine ⟨by show r.stops.length ≤ s.stops.length; omega,hst,fun _ => ⟨(back_ok hm hs).2.1,wide_back hv hm w hr hs hn hl⟩⟩
 | cons n L ih =>
  intro r s a b hr hs ha hb hn hl hlen hst hx
  rw [List.length_cons] at ha hb
  obtain ⟨x0,x1⟩:=hx n List.mem_cons_self
  have hn2:n < m.Jobs.length:=by have:=w.jl; omega
  by_cases h:visitB (depE t) r n = true
  ·obtain ⟨n1,n2,n3,n4⟩:=wide_nums hv hm w hr hs hn hl x0 x1 h
   have e1:tableF (depE t) r (n :: L) = tableF (depE t) (visitT (depE t) r n) L:=if_pos h
   have e2:tableF (depE m) s (n :: L) = tableF (depE m) (visitT (depE m) s n) L:=if_pos n4
   rw [e1,e2]
   have v1:=visit_ok hv hr (by omega) x0 x1 h
   have v2:=visit_ok hm hs (by omega) x0 hn2 n4
   have d1:visitT (depE t) r n = doneE (depE t) r n:=if_pos h
   have d2:visitT (depE m) s n = doneE (depE m) s n:=if_pos n4
   refine ih _ _ (a + 1) (b + 1) v1.1 v2.1 (by omega) (by omega) (by rw [d1,d2]; exact n3) (by rw [v1.2.2.2.1,v2.2.2.2.1]) (by rw [visit_stops h,visit_stops n4,List.length_append,List.length_append,hlen]; rfl) (fun i x y h1 h2 => ?_) (fun y hy => hx y (List.mem_cons_of_mem _ hy))
   rw [visit_stops h] at h1
   rw [visit_stops n4] at h2
   by_cases hi:i < r.stops.length
   ·rw [List.getElem?_append_left hi] at h1
    rw [List.getElem?_append_left (by omega)] at h2
    exact hst i x y h1 h2
   ·rw [List.getElem?_append_right (by omega)] at h1
    rw [List.getElem?_append_right (by omega),hlen] at h2
    cases hk:i - r.stops.length with
    | zero =>
     rw [hk] at h1 h2
     have h1:stopE (depE t) r n = x:=Option.some.inj h1
     have h2:stopE (depE m) s n = y:=Option.some.inj h2
     subst h1 h2
     exact ⟨rfl,n1,n2,n3⟩
    | succ k => rw [hk] at h1; exact absurd h1 (by simp)
  ·have e1:tableF (depE t) r (n :: L) = (r.stops,-1):=if_neg h
   obtain ⟨S,hS⟩:=stops_grow (d:=depE m) (n :: L) s
   rw [e1]
   refine ⟨by rw [hS,List.length_append]; show r.stops.length ≤ _; omega,fun i x y h1 h2 => ?_,fun h => absurd h (by show ¬ (-1:Int) ≥ 0; decide)⟩
   have hi:i < r.stops.length:=(List.getElem?_eq_some_iff.1 h1).1
   rw [hS,List.getElem?_append_left (by omega)] at h2
   exact hst i x y h1 h2
theorem drop_table {t:TRoTask} (hv:TaskV t) {x:Int} (x0:0 ≤ x) (x1:x < t.Jobs.length):∀ (L:List Int) (r:TTour) (a:Nat),TourV t r a → a + L.length ≤ 9 → (∀ y ∈ L,0 ≤ y ∧ y < t.Jobs.length) →
  (tableF (depE t) r L).1.length = min (tableF (depE t) r (L ++ [x])).1.length (r.stops.length + L.length) ∧ (tableF (depE t) r L).1 = (tableF (depE t) r (L ++ [x])).1.take (tableF (depE t) r L).1.length ∧
  ((tableF (depE t) r (L ++ [x])).2 ≥ 0 → 0 ≤ (tableF (depE t) r L).2 ∧ (tableF (depE t) r L).2 ≤ (tableF (depE t) r (L ++ [x])).2):=by
 intro L
 induction L with
 | nil =>
  intro r a hr ha _
  have e0:tableF (depE t) r [] = (r.stops,backE (depE t) r):=rfl
  by_cases h:visitB (depE t) r x = true
  ·have e1:tableF (depE t) r ([] ++ [x]) = ((visitT (depE t) r x).stops,backE (depE t) (visitT (depE t) r x)):=if_pos h
   obtain ⟨v1,v2,v3,v4,v5,_⟩:=visit_ok hv hr (by omega) x0 x1 h
   rw [e0,e1,visit_stops h]
   refine ⟨?_,?_,fun _ => ?_⟩
   ·show r.stops.length = min (r.stops ++ [stopE (depE t) r x]).length (r.stops.length + 0)
    rw [List.length_append]; omega
   ·show r.stops = (r.stops ++ [stopE (depE t) r x]).take r.stops.length
    rw [List.take_left]
   ·obtain ⟨b1,b0,_⟩:=back_ok hv hr
    obtain ⟨b2,_⟩:=back_ok hv v1
    have tri:=way_tri hv hr.last.2 x1 (show (-1:Int) < t.Jobs.length by omega)
    refine ⟨b0,?_⟩
    show backE (depE t) r ≤ backE (depE t) (visitT (depE t) r x)
    rw [b1,b2,v4]
    omega
  ·have e1:tableF (depE t) r ([] ++ [x]) = (r.stops,-1):=if_neg h
   rw [e0,e1]
   refine ⟨?_,?_,fun h => absurd h (by show ¬ (-1:Int) ≥ 0; decide)⟩
   ·show r.stops.length = min r.stops.length (r.stops.length + 0)
    omega
   ·show r.stops = r.stops.take r.stops.length
    rw [List.take_length]
 | cons n L ih =>
  intro r a hr ha hx
  rw [List.length_cons] at ha
  obtain ⟨n0,n1⟩:=hx n List.mem_cons_self
  by_cases h:visitB (depE t) r n = true
  ·have e1:tableF (depE t) r (n :: L) = tableF (depE t) (visitT (depE t) r n) L:=if_pos h
   have e2:tableF (depE t) r (n :: L ++ [x]) = tableF (depE t) (visitT (depE t) r n) (L ++ [x]):=if_pos h
   obtain ⟨i1,i2,i3⟩:=ih _ (a + 1) (visit_ok hv hr (by omega) n0 n1 h).1 (by omega) (fun y hy => hx y (List.mem_cons_of_mem _ hy))
   rw [e1,e2]
   refine ⟨?_,i2,i3⟩
   rw [i1,visit_stops h,List.length_append,List.length_cons]
   rw [List.length_cons,List.length_nil,show r.stops.length + (0 + 1) + L.length = r.stops.length + (L.length + 1) by omega]
  ·have e1:tableF (depE t) r (n :: L) = (r.stops,-1):=if_neg h
   have e2:tableF (depE t) r (n :: L ++ [x]) = (r.stops,-1):=if_neg h
   rw [e1,e2]
   refine ⟨?_,?_,fun h => absurd h (by show ¬ (-1:Int) ≥ 0; decide)⟩
   ·show r.stops.length = min r.stops.length _
    omega
   ·show r.stops = r.stops.take r.stops.length
    rw [List.take_length]
theorem table_conv {t:TRoTask} {k:Int} {l:List Int} (h:(tableR t k l).2.2 = 0):(taskE t).2.2 = 0 ∧ l.any (noneB t 0) = false ∧ outB k 0 ((t.Lorries.length:Int) - 1) = false ∧ dupB l = false ∧ tableR t k l = ((tableF (depE t) (leaveE (depE t) k) l).1,(tableF (depE t) (leaveE (depE t) k) l).2,0):=by
 unfold tableR at h ⊢
 by_cases h1:(taskE t).2.2 ≠ 0
 ·rw [if_pos h1] at h; exact absurd h h1
 rw [if_neg h1] at h ⊢
 by_cases h2:l.any (noneB t 0) = true
 ·rw [if_pos h2] at h; exact absurd h (by decide)
 rw [if_neg h2] at h ⊢
 by_cases h3:outB k 0 ((t.Lorries.length:Int) - 1) = true
 ·rw [if_pos h3] at h; exact absurd h (by decide)
 rw [if_neg h3] at h ⊢
 by_cases h4:dupB l = true
 ·rw [if_pos h4] at h; exact absurd h (by decide)
 rw [if_neg h4]
 exact ⟨Decidable.not_not.1 h1,by simpa using h2,by simpa using h3,by simpa using h4,rfl⟩
theorem nodup_len:∀ (u l:List Int),u.Nodup → (∀ x ∈ u,x ∈ l) → u.length ≤ l.length:=by
 intro u
 induction u with
 | nil => intro l _ _; exact Nat.zero_le _
 | cons a u ih =>
  intro l h hs
  obtain ⟨h1,h2⟩:=List.nodup_cons.1 h
  have ha:=hs a List.mem_cons_self
  have:=ih (l.erase a) h2 fun x hx => (List.mem_erase_of_ne (fun e => h1 (by rw [e] at hx; exact hx))).2 (hs x (List.mem_cons_of_mem _ hx))
  rw [List.length_erase_of_mem ha] at this
  have hp:=List.length_pos_of_mem ha
  rw [List.length_cons]; omega
theorem nodup_of:∀ (l u:List Int),u.Nodup → (∀ x ∈ u,x ∈ l) → l.length ≤ u.length → l.Nodup:=by
 intro l
 induction l with
 | nil => intro u _ _ _; exact List.nodup_nil
 | cons a l ih =>
  intro u h hs hl
  rw [List.length_cons] at hl
  by_cases ha:a ∈ l
  ·have:=nodup_len u l h fun x hx => (List.mem_cons.1 (hs x hx)).elim (fun e => by rw [e]; exact ha) id
   omega
  ·refine List.nodup_cons.2 ⟨ha,ih (u.erase a) (h.erase a) (fun x hx => ?_) ?_⟩
   ·have hne:x ≠ a:=fun e => (h.not_mem_erase) (by rw [e] at hx; exact hx)
    exact (List.mem_cons.1 (hs x (List.mem_of_mem_erase hx))).elim (fun e => absurd e hne) id
   ·rw [List.length_erase]; split <;> omega
theorem dup_iff {l:List Int}:dupB l = false ↔ l.Nodup:=by
 refine ⟨fun h => ?_,dup_no⟩
 unfold dupB at h
 have h:=of_decide_eq_false h
 exact nodup_of l _ ((comp_asc (sortL_asc l)).imp fun h => by omega) (fun x hx => sortL_mem.1 (comp_mem.1 hx)) (by omega)
theorem table_len {d:TDepot}:∀ (L:List Int) (r:TTour),(tableF d r L).1.length ≤ r.stops.length + L.length:=by
 intro L
 induction L with
 | nil => intro r; show r.stops.length ≤ r.stops.length + 0; omega
 | cons n L ih =>
  intro r
  unfold tableF
  by_cases h:visitB d r n = true
  ·rw [if_pos h]
   have:=ih (visitT d r n)
   rw [visit_stops h,List.length_append,List.length_cons,List.length_nil] at this
   rw [List.length_cons]; omega
  ·rw [if_neg h]; show r.stops.length ≤ _; omega
theorem early_in {t:TRoTask} (h:TaskIn t) {k:Nat} {f:Int} (hk:k < t.Lorries.length):TaskIn (earlyT t k f):=by
 refine ⟨fun x hx => ?_,h.jo⟩
 rcases List.mem_or_eq_of_mem_set hx with h' | h'
 ·exact h.lo x h'
 ·subst h'
  show (lorAt t k).Name.size ≤ _
  exact h.lo _ (lor_get (t:=t) (k:=(k:Int)) (by omega) (by omega)).2
theorem table_some {t:TRoTask} {k:Int} {l:List Int} (h1:(taskE t).2.2 = 0) (h2:l.any (noneB t 0) = false) (h3:outB k 0 ((t.Lorries.length:Int) - 1) = false) (h4:dupB l = false):tableR t k l = ((tableF (depE t) (leaveE (depE t) k) l).1,(tableF (depE t) (leaveE (depE t) k) l).2,0):=by
 unfold tableR
 rw [if_neg (by simp [h1]),if_neg (by simp [h2]),if_neg (by simp [h3]),if_neg (by simp [h4])]
end Go.Proofs.YtdeeekgohhkdbaaGreatDoor
