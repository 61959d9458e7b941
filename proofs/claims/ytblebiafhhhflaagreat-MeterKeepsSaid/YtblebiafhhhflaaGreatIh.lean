/- Plain laws: how long lamps burn on a day. Plain laws: the energy of a lamp: bounds, and what makes it greater. Plain laws: what is reckoned, and what is metered: exact sums, and their bounds. -/
import Derived.Test.YtblebiafhhhflaaGreatHp
import Derived.Test.YtblebiafhhhflaaGreatHo
namespace Go.Proofs.YtblebiafhhhflaaGreat
open Go.RowKit
theorem partL_cons (D:List TSnNight) (x y:Int) (r:List Int):partL D (x :: y :: r) = ⟨x,IntKind.i64.wrap (y - x),D.any (litN x)⟩ :: partL D (y :: r):=by
 unfold partL
 simp only [List.length_cons,Nat.add_sub_cancel]
 rw [List.range_succ_eq_map,List.map_cons,List.map_map]
 rfl
theorem addC_keep {z x:Int} {zs:List Int} (h:z ∈ zs):z ∈ addC zs x:=by
 unfold addC
 split
 ·exact h
 ·exact List.mem_append_left _ h
theorem cutD_keep {z:Int}:∀ (D:List TSnNight) {zs:List Int},z ∈ zs → z ∈ D.foldl cutN zs
 | [],_,h => h
 | n :: r,_,h => cutD_keep r (addC_keep (addC_keep h))
theorem cutS_keep {z:Int}:∀ (l:List TMtStep) {zs:List Int},z ∈ zs → z ∈ cutS zs l
 | [],_,h => h
 | n :: r,_,h => cutS_keep r (addC_keep h)
theorem cutLs_keep {z:Int}:∀ (ls:List (List TMtStep)) {zs:List Int},z ∈ zs → z ∈ ls.foldl cutS zs
 | [],_,h => h
 | l :: r,_,h => cutLs_keep r (cutS_keep l h)
theorem cuts_ends (D:List TSnNight) (ls:List (List TMtStep)):(0:Int) ∈ cutsL D ls ∧ (86400:Int) ∈ cutsL D ls :=
 ⟨uniq_mem.2 (cutLs_keep ls (cutD_keep D (by simp))),uniq_mem.2 (cutLs_keep ls (cutD_keep D (by simp)))⟩
theorem cuts_cons (D:List TSnNight) (ls:List (List TMtStep)):∃ l,cutsL D ls = 0 :: l:=by
 have h0:=(cuts_ends D ls).1
 have ha:=cutsL_asc D ls
 have hi:=cutsL_in (D:=D) (ls:=ls)
 generalize cutsL D ls = l at *
 match l,h0,ha,hi with
 | x :: r,h0,ha,hi =>
  rcases List.mem_cons.1 h0 with rfl | h1
  ·exact ⟨r,rfl⟩
  ·have:=(List.pairwise_cons.1 ha).1 0 h1
   have:=(hi x List.mem_cons_self).1
   omega
end Go.Proofs.YtblebiafhhhflaaGreat
namespace Go.Proofs.YtblebiafhhhflaaGreat
open Go.RowKit
structure LampV (x:TLmLamp):Prop where
 power:1 ≤ x.Power ∧ x.Power ≤ 5000000
 standing:0 ≤ x.Standing ∧ x.Standing ≤ x.Power
 tol:0 ≤ x.Tolerance ∧ x.Tolerance ≤ 1000
 dim:0 ≤ x.Dim ∧ x.Dim ≤ 1000
theorem errAt_zero {α:Type} {nm:α → ByteArray} {rest:Nat → α → Int} {l:List α} (h:(firstE (errAt nm rest l) l.length 0).2 = 0) {i:Nat} {x:α} (hx:l[i]? = some x):nameB (nm x) = true ∧ (l.take i).any (fun y => twinB (nm y) (nm x)) = false ∧ rest i x = 0:=by
 have hl:=(List.getElem?_eq_some_iff.1 hx).1
 have h0:=firstE_ok h i (by omega) (by omega)
 rw [errAt_some hx] at h0
 split at h0
 ·simp at h0
 ·rename_i hn
  split at h0
  ·simp at h0
  ·rename_i hh
   exact ⟨by simpa using hn,by simpa using hh,h0⟩
theorem lampV_of {n:Int} {i:Nat} {x:TLmLamp} (h:lampS n i x = 0):LampV x:=by
 unfold lampS at h
 split at h
 ·simp at h
 split at h
 ·simp at h
 split at h
 ·simp at h
 rename_i h3
 have h3:numB x = true:=by simpa using h3
 unfold numB at h3
 simp only [Bool.and_eq_true,inB_iff] at h3
 exact ⟨h3.2.1,h3.2.2.1,h3.2.2.2.1,h3.2.2.2.2.2.2.2.1⟩
theorem cat_lamps {c:TLmCatalog} (h:(catR c).2.2 = 0):(firstR TLmLamp.Name (lampS (c.Tables.length - 1)) c.Lamps).2 = 0:=by
 unfold catR at h
 split at h
 ·simp at h
 split at h
 ·simp at h
 split at h
 ·rename_i h1; exact absurd h h1
 split at h
 ·rename_i h2; exact absurd h h2
 ·rename_i h2; exact Decidable.byContradiction h2
theorem lamped_ok {c:TLmCatalog} (h:(catR c).2.2 = 0) {i:Int} (h0:0 ≤ i) (h1:i < c.Lamps.length):lampedR c i = (lampAt c i,0) ∧ LampV (lampAt c i) ∧ c.Lamps[i.toNat]? = some (lampAt c i):=by
 have e:c.Lamps[i.toNat]? = some (lampAt c i):=by
  unfold lampAt; rw [List.getElem?_eq_getElem (by omega)]; rfl
 refine ⟨?_,lampV_of (errAt_zero (cat_lamps h) e).2.2,e⟩
 unfold lampedR
 rw [if_neg (by simp [h]),if_neg (by rw [inB_iff.2 ⟨h0,by omega⟩]; decide)]
def powA (x:TLmLamp) (lvl:Int):Int:=x.Standing * 1000 + (x.Power - x.Standing) * lvl
theorem powA_bd {x:TLmLamp} (h:LampV x) {lvl:Int} (h0:0 ≤ lvl) (h1:lvl ≤ 1000):0 ≤ powA x lvl ∧ powA x lvl ≤ 5000000000 ∧ 0 ≤ (x.Power - x.Standing) * lvl ∧ (x.Power - x.Standing) * lvl ≤ 5000000000:=by
 have hp:=h.power
 have hs:=h.standing
 have m0:0 ≤ (x.Power - x.Standing) * lvl:=Int.mul_nonneg (by omega) h0
 have m1:(x.Power - x.Standing) * lvl ≤ (x.Power - x.Standing) * 1000:=Int.mul_le_mul_of_nonneg_left h1 (by omega)
 unfold powA
 omega
theorem floorE_val {a:Int} (h:-9000000000000000000 ≤ a ∧ a ≤ 9000000000000000000):floorE a 1000000 = a / 1000000:=by
 have h2:a.tmod 1000000 = a - 1000000 * a.tdiv 1000000:=by have:=Int.tmod_add_mul_tdiv a 1000000; omega
 unfold floorE
 rw [h2]
 by_cases h0:0 ≤ a
 ·have h1:a.tdiv 1000000 = a / 1000000:=Int.tdiv_eq_ediv_of_nonneg h0
  rw [h1,if_neg (by omega),i64 (by omega)]
 ·have h1:a.tdiv 1000000 = -((-a) / 1000000):=by
   obtain ⟨b,rfl⟩:∃ b,a = -b:=⟨-a,by omega⟩
   rw [Int.neg_tdiv,Int.tdiv_eq_ediv_of_nonneg (by omega),Int.neg_neg]
  rw [h1,i64 (n:=-((-a) / 1000000)) (by omega)]
  split
  ·rw [i64 (by omega)]; omega
  ·omega
theorem ceilE_val {a:Int} (h:0 ≤ a ∧ a ≤ 9000000000000000000):ceilE a 1000000 = -((-a) / 1000000):=by
 unfold ceilE
 rw [show (0:Int) - a = -a by omega,i64 (n:=-a) (by omega),floorE_val (by omega),show (0:Int) - -a / 1000000 = -(-a / 1000000) by omega,i64 (by omega)]
theorem powerE_val {x:TLmLamp} (h:LampV x) {lvl:Int} (h0:0 ≤ lvl) (h1:lvl ≤ 1000):powerE x lvl = ⟨(powA x lvl * (1000 - x.Tolerance)) / 1000000,-((-(powA x lvl * (1000 + x.Tolerance))) / 1000000)⟩ ∧
  0 ≤ powA x lvl * (1000 - x.Tolerance) ∧ powA x lvl * (1000 - x.Tolerance) ≤ 5000000000000 ∧ 0 ≤ powA x lvl * (1000 + x.Tolerance) ∧ powA x lvl * (1000 + x.Tolerance) ≤ 10000000000000:=by
 have hp:=h.power
 have hs:=h.standing
 have ht:=h.tol
 obtain ⟨b0,b1,b2,b3⟩:=powA_bd h h0 h1
 have m0:0 ≤ powA x lvl * (1000 - x.Tolerance):=Int.mul_nonneg b0 (by omega)
 have m1:powA x lvl * (1000 - x.Tolerance) ≤ powA x lvl * 1000:=Int.mul_le_mul_of_nonneg_left (by omega) b0
 have m2:0 ≤ powA x lvl * (1000 + x.Tolerance):=Int.mul_nonneg b0 (by omega)
 have m3:powA x lvl * (1000 + x.Tolerance) ≤ powA x lvl * 2000:=Int.mul_le_mul_of_nonneg_left (by omega) b0
 refine ⟨?_,m0,by omega,m2,by omega⟩
 unfold powerE
 rw [i64 (n:=x.Standing * 1000) (by omega),i64 (n:=x.Power - x.Standing) (by omega),i64 (n:=(x.Power - x.Standing) * lvl) (by omega)]
 have e:x.Standing * 1000 + (x.Power - x.Standing) * lvl = powA x lvl:=rfl
 rw [e,i64 (n:=powA x lvl) (by omega),i64 (n:=1000 - x.Tolerance) (by omega),i64 (n:=1000 + x.Tolerance) (by omega)]
 generalize powA x lvl * (1000 - x.Tolerance) = p at *
 generalize powA x lvl * (1000 + x.Tolerance) = q at *
 rw [i64 (n:=p) (by omega),i64 (n:=q) (by omega),floorE_val (by omega),ceilE_val (by omega)]
theorem powerE_bd {x:TLmLamp} (h:LampV x) {lvl:Int} (h0:0 ≤ lvl) (h1:lvl ≤ 1000):0 ≤ (powerE x lvl).Lo ∧ (powerE x lvl).Lo ≤ (powerE x lvl).Hi ∧ (powerE x lvl).Hi ≤ 10000000:=by
 obtain ⟨e,b0,b1,b2,b3⟩:=powerE_val h h0 h1
 have ht:=h.tol
 have hm:powA x lvl * (1000 - x.Tolerance) ≤ powA x lvl * (1000 + x.Tolerance):=Int.mul_le_mul_of_nonneg_left (by omega) (powA_bd h h0 h1).1
 rw [e]
 simp only
 omega
theorem levelE_bd {x:TLmLamp} (h:LampV x) (w:Int):1 ≤ levelE x w ∧ levelE x w ≤ 1000:=by
 have:=h.dim
 unfold levelE maxI
 split <;> split <;> omega
def levV (x:TLmLamp) (w:Int):Int:=if w ≤ 0 then 0 else levelE x w
theorem levV_bd {x:TLmLamp} (h:LampV x) (w:Int):0 ≤ levV x w ∧ levV x w ≤ 1000:=by
 have:=levelE_bd h w
 unfold levV
 split <;> omega
def useP (x:TLmLamp) (l:List TMtStep) (p:Part):TEncl:=powerE x (if p.burns then levV x (wantAt l p.from') else 0)
theorem powAt_val {t:TMtTask} {x:TMtItem} (hc:(catR t.Catalog).2.2 = 0) (hl:0 ≤ x.Lamp ∧ x.Lamp < t.Catalog.Lamps.length) (p:Part):powAt t x p = useP (lampAt t.Catalog x.Lamp) (profAt t x.Profile).Steps p ∧ LampV (lampAt t.Catalog x.Lamp):=by
 obtain ⟨h1,h2,_⟩:=lamped_ok hc hl.1 hl.2
 refine ⟨?_,h2⟩
 have e:levAt t x p = if p.burns then levV (lampAt t.Catalog x.Lamp) (wantAt (profAt t x.Profile).Steps p.from') else 0:=by
  unfold levAt
  split
  ·unfold levelR levV
   rw [h1]
   simp only [ne_eq,not_true_eq_false,if_false]
   split <;> rfl
  ·rfl
 have hb:inB (levAt t x p) 0 1000 = true:=by
  rw [e,inB_iff]
  split
  ·exact levV_bd h2 _
  ·omega
 unfold powAt powerR
 rw [h1,if_neg (by simp),if_neg (by rw [hb]; decide),e]; rfl
theorem useP_bd {x:TLmLamp} (h:LampV x) (l:List TMtStep) (p:Part):0 ≤ (useP x l p).Lo ∧ (useP x l p).Lo ≤ (useP x l p).Hi ∧ (useP x l p).Hi ≤ 10000000:=by
 unfold useP
 split
 ·have:=levV_bd h (wantAt l p.from'); exact powerE_bd h this.1 this.2
 ·exact powerE_bd h (by omega) (by omega)
def sumP (f:Part → Int):List Part → Int
 | [] => 0
 | p :: r => p.long * f p + sumP f r
theorem sumP_mono {f g:Part → Int}:∀ {l:List Part},(∀ p ∈ l,0 ≤ p.long ∧ f p ≤ g p) → sumP f l ≤ sumP g l
 | [],_ => Int.le_refl _
 | p :: r,h => by
  have h1:=h p List.mem_cons_self
  have h2:=sumP_mono fun q hq => h q (List.mem_cons_of_mem _ hq)
  have h3:p.long * f p ≤ p.long * g p:=Int.mul_le_mul_of_nonneg_left h1.2 h1.1
  unfold sumP
  omega
theorem sumP_const {c:Int}:∀ {l:List Part},sumP (fun _ => c) l = c * sumP (fun _ => 1) l
 | [] => by unfold sumP; simp
 | p :: r => by
  unfold sumP
  rw [sumP_const (l:=r),Int.mul_add,Int.mul_one,Int.mul_comm]
theorem fold_val {t:TMtTask} {x:TMtItem} {w:Part → TEncl} (hw:∀ p,powAt t x p = w p) (hb:∀ p,0 ≤ (w p).Lo ∧ (w p).Lo ≤ (w p).Hi ∧ (w p).Hi ≤ 10000000):∀ {l:List Part} {s:TSum},(∀ p ∈ l,0 ≤ p.long) → 0 ≤ s.Encl.Lo → 0 ≤ s.Encl.Hi →
  s.Encl.Lo + 10000000 * sumP (fun _ => 1) l ≤ 4000000000000000000 → s.Encl.Hi + 10000000 * sumP (fun _ => 1) l ≤ 4000000000000000000 → l.foldl (partS t x) s = ⟨⟨s.Encl.Lo + sumP (fun p => (w p).Lo) l,s.Encl.Hi + sumP (fun p => (w p).Hi) l⟩⟩
 | [],s,_,_,_,_,_ => by unfold sumP; simp only [List.foldl_nil,Int.add_zero]
 | p :: r,s,hl,h0,h1,h2,h3 => by
  have hp:=hl p List.mem_cons_self
  have hwp:=hb p
  have hr:0 ≤ sumP (fun _ => 1) r:=by
   have:=sumP_mono (f:=fun _ => 0) (g:=fun _ => 1) (l:=r) fun q hq => ⟨hl q (List.mem_cons_of_mem _ hq),by omega⟩
   rw [sumP_const,Int.zero_mul] at this; exact this
  unfold sumP at h2 h3 ⊢
  have m0:0 ≤ p.long * (w p).Lo:=Int.mul_nonneg hp hwp.1
  have m1:0 ≤ p.long * (w p).Hi:=Int.mul_nonneg hp (by omega)
  have m2:p.long * (w p).Lo ≤ p.long * 10000000:=Int.mul_le_mul_of_nonneg_left (by omega) hp
  have m3:p.long * (w p).Hi ≤ p.long * 10000000:=Int.mul_le_mul_of_nonneg_left (by omega) hp
  have e:partS t x s p = ⟨⟨s.Encl.Lo + p.long * (w p).Lo,s.Encl.Hi + p.long * (w p).Hi⟩⟩:=by
   unfold partS addS
   rw [hw p]
   generalize p.long * (w p).Lo = u at *
   generalize p.long * (w p).Hi = v at *
   rw [i64 (n:=u) (by omega),i64 (n:=v) (by omega),i64 (by omega),i64 (by omega)]
  rw [List.foldl_cons,e,fold_val hw hb (l:=r) (fun q hq => hl q (List.mem_cons_of_mem _ hq)) (by simp only; omega) (by simp only; omega) (by simp only; omega) (by simp only; omega)]
  simp only
  rw [Int.add_assoc,Int.add_assoc]
theorem partL_long (D:List TSnNight):∀ {l:List Int} {x:Int},(x :: l).Pairwise (· < ·) → (∀ z ∈ x :: l,0 ≤ z ∧ z ≤ 86400) → (∀ p ∈ partL D (x :: l),0 ≤ p.long) ∧ 0 ≤ sumP (fun _ => 1) (partL D (x :: l)) ∧ sumP (fun _ => 1) (partL D (x :: l)) ≤ 86400 - x
 | [],x,_,hh => by
  have:=hh x (by simp)
  simp [partL,sumP]; omega
 | y :: r,x,h,hh => by
  have h2:=List.pairwise_cons.1 h
  have hxy:=h2.1 y List.mem_cons_self
  have hy:=hh y (by simp)
  have hx':=hh x (by simp)
  obtain ⟨k1,k2,k3⟩:=partL_long D h2.2 fun z hz => hh z (List.mem_cons_of_mem _ hz)
  have e:IntKind.i64.wrap (y - x) = y - x:=i64 (by omega)
  rw [partL_cons,e]
  refine ⟨fun p hp => ?_,?_,?_⟩
  ·rcases List.mem_cons.1 hp with rfl | hp
   ·simp only; omega
   ·exact k1 p hp
  ·unfold sumP; simp only; omega
  ·unfold sumP; simp only; omega
theorem dayP_long (t:TMtTask) (day:Int) (ls:List (List TMtStep)):(∀ p ∈ dayP t day ls,0 ≤ p.long) ∧ 0 ≤ sumP (fun _ => 1) (dayP t day ls) ∧ sumP (fun _ => 1) (dayP t day ls) ≤ 86400:=by
 obtain ⟨l,hl⟩:=cuts_cons (darkL t.City day 4) ls
 have ha:=cutsL_asc (darkL t.City day 4) ls
 have hi:=cutsL_in (D:=darkL t.City day 4) (ls:=ls)
 unfold dayP
 rw [hl] at ha hi ⊢
 have:=partL_long (darkL t.City day 4) ha hi
 exact ⟨this.1,this.2.1,by omega⟩
def oneE (x:TLmLamp) (l:List TMtStep) (ps:List Part):TEncl:=⟨sumP (fun p => (useP x l p).Lo) ps,sumP (fun p => (useP x l p).Hi) ps⟩
theorem oneE_bd {x:TLmLamp} (h:LampV x) (l:List TMtStep) {ps:List Part} (hl:∀ p ∈ ps,0 ≤ p.long) (h1:sumP (fun _ => 1) ps ≤ 86400):0 ≤ (oneE x l ps).Lo ∧ (oneE x l ps).Lo ≤ (oneE x l ps).Hi ∧ (oneE x l ps).Hi ≤ 864000000000:=by
 refine ⟨?_,sumP_mono fun p hp => ⟨hl p hp,(useP_bd h l p).2.1⟩,?_⟩
 ·have:=sumP_mono (f:=fun _ => 0) (g:=fun p => (useP x l p).Lo) (l:=ps) fun p hp => ⟨hl p hp,(useP_bd h l p).1⟩
  rw [sumP_const,Int.zero_mul] at this; exact this
 ·have:=sumP_mono (f:=fun p => (useP x l p).Hi) (g:=fun _ => 10000000) (l:=ps) fun p hp => ⟨hl p hp,(useP_bd h l p).2.2⟩
  rw [sumP_const] at this
  have e:(oneE x l ps).Hi = sumP (fun p => (useP x l p).Hi) ps:=rfl
  omega
theorem oneS_val {t:TMtTask} {x:TMtItem} (hc:(catR t.Catalog).2.2 = 0) (hl:0 ≤ x.Lamp ∧ x.Lamp < t.Catalog.Lamps.length) (day:Int) :
  oneS t x day = if goneB x day then sum0 else ⟨oneE (lampAt t.Catalog x.Lamp) (profAt t x.Profile).Steps (dayP t day [(profAt t x.Profile).Steps])⟩:=by
 have hv:=(powAt_val hc hl ⟨0,0,false⟩).2
 have hd:=dayP_long t day [(profAt t x.Profile).Steps]
 unfold oneS
 split
 ·rfl
 ·rw [fold_val (w:=useP (lampAt t.Catalog x.Lamp) (profAt t x.Profile).Steps) (fun p => (powAt_val hc hl p).1) (useP_bd hv _) hd.1 (by unfold sum0; simp) (by unfold sum0; simp) (by unfold sum0; simp only; omega) (by unfold sum0; simp only; omega)]
  unfold sum0 oneE
  simp only [Int.zero_add]
theorem oneS_bd {t:TMtTask} {x:TMtItem} (hc:(catR t.Catalog).2.2 = 0) (hl:0 ≤ x.Lamp ∧ x.Lamp < t.Catalog.Lamps.length) (day:Int):0 ≤ (oneS t x day).Encl.Lo ∧ (oneS t x day).Encl.Lo ≤ (oneS t x day).Encl.Hi ∧ (oneS t x day).Encl.Hi ≤ 864000000000:=by
 rw [oneS_val hc hl]
 split
 ·decide
 ·have hd:=dayP_long t day [(profAt t x.Profile).Steps]
  exact oneE_bd (powAt_val hc hl ⟨0,0,false⟩).2 _ hd.1 hd.2.2
end Go.Proofs.YtblebiafhhhflaaGreat
namespace Go.Proofs.YtblebiafhhhflaaGreat
open Go.RowKit
theorem addS_exact {s:TSum} {x:TEncl} {n:Int} (h1:-4000000000000000000 ≤ s.Encl.Lo ∧ s.Encl.Lo ≤ 4000000000000000000) (h2:-4000000000000000000 ≤ s.Encl.Hi ∧ s.Encl.Hi ≤ 4000000000000000000)
  (h3:-4000000000000000000 ≤ n * x.Lo ∧ n * x.Lo ≤ 4000000000000000000) (h4:-4000000000000000000 ≤ n * x.Hi ∧ n * x.Hi ≤ 4000000000000000000):addS s x n = ⟨⟨s.Encl.Lo + n * x.Lo,s.Encl.Hi + n * x.Hi⟩⟩:=by
 unfold addS
 generalize n * x.Lo = a at *
 generalize n * x.Hi = b at *
 rw [i64 (n:=a) (by omega),i64 (n:=b) (by omega),i64 (by omega),i64 (by omega)]
structure Lit (t:TMtTask) (x:TMtItem):Prop where
 cat:(catR t.Catalog).2.2 = 0
 lamp:0 ≤ x.Lamp ∧ x.Lamp < t.Catalog.Lamps.length
theorem lampsS_s (t:TMtTask) (x:TMtItem) (first:Int) (k:Nat):lampsS t x first (k + 1) = addS (lampsS t x first k) (oneS t x (IntKind.i64.wrap (first + (k:Nat)))).Encl 1:=rfl
theorem lampsS_step {t:TMtTask} {x:TMtItem} (h:Lit t x) (first:Int):∀ k:Nat,k ≤ 1000 → (0 ≤ (lampsS t x first k).Encl.Lo ∧ (lampsS t x first k).Encl.Lo ≤ (lampsS t x first k).Encl.Hi ∧ (lampsS t x first k).Encl.Hi ≤ k * 864000000000) ∧
  lampsS t x first (k + 1) = ⟨⟨(lampsS t x first k).Encl.Lo + (oneS t x (IntKind.i64.wrap (first + (k:Nat)))).Encl.Lo,(lampsS t x first k).Encl.Hi + (oneS t x (IntKind.i64.wrap (first + (k:Nat)))).Encl.Hi⟩⟩:=by
 intro k
 have step:∀ k:Nat,k ≤ 1000 → (0 ≤ (lampsS t x first k).Encl.Lo ∧ (lampsS t x first k).Encl.Lo ≤ (lampsS t x first k).Encl.Hi ∧ (lampsS t x first k).Encl.Hi ≤ k * 864000000000) →
   lampsS t x first (k + 1) = ⟨⟨(lampsS t x first k).Encl.Lo + (oneS t x (IntKind.i64.wrap (first + (k:Nat)))).Encl.Lo,(lampsS t x first k).Encl.Hi + (oneS t x (IntKind.i64.wrap (first + (k:Nat)))).Encl.Hi⟩⟩:=by
  intro k hk hb
  have ho:=oneS_bd h.cat h.lamp (IntKind.i64.wrap (first + (k:Nat)))
  rw [lampsS_s]
  generalize lampsS t x first k = s at *
  generalize (oneS t x (IntKind.i64.wrap (first + (k:Nat)))).Encl = e at *
  rw [addS_exact (by omega) (by omega) (by omega) (by omega),Int.one_mul,Int.one_mul]
 induction k with
 | zero =>
  intro hk
  have hb:0 ≤ (lampsS t x first 0).Encl.Lo ∧ (lampsS t x first 0).Encl.Lo ≤ (lampsS t x first 0).Encl.Hi ∧ (lampsS t x first 0).Encl.Hi ≤ (0:Nat) * 864000000000:=by unfold lampsS sum0; simp
  exact ⟨hb,step 0 hk hb⟩
 | succ k ih =>
  intro hk
  obtain ⟨hb,he⟩:=ih (by omega)
  have ho:=oneS_bd h.cat h.lamp (IntKind.i64.wrap (first + (k:Nat)))
  have hb':0 ≤ (lampsS t x first (k + 1)).Encl.Lo ∧ (lampsS t x first (k + 1)).Encl.Lo ≤ (lampsS t x first (k + 1)).Encl.Hi ∧ (lampsS t x first (k + 1)).Encl.Hi ≤ ((k + 1:Nat):Int) * 864000000000:=by
   rw [he]; simp only; omega
  exact ⟨hb',step (k + 1) hk hb'⟩
theorem lampsS_bd {t:TMtTask} {x:TMtItem} (h:Lit t x) (first:Int) {k:Nat} (hk:k ≤ 200):0 ≤ (lampsS t x first k).Encl.Lo ∧ (lampsS t x first k).Encl.Lo ≤ (lampsS t x first k).Encl.Hi ∧ (lampsS t x first k).Encl.Hi ≤ 172800000000000:=by
 have:=(lampsS_step h first k (by omega)).1
 omega
def sumL (f:TMtItem → Int):List TMtItem → Int
 | [] => 0
 | x :: r => f x + sumL f r
theorem sumL_mono {f g:TMtItem → Int}:∀ {l:List TMtItem},(∀ x ∈ l,f x ≤ g x) → sumL f l ≤ sumL g l
 | [],_ => Int.le_refl _
 | x :: r,h => by
  have h1:=h x List.mem_cons_self
  have h2:=sumL_mono fun y hy => h y (List.mem_cons_of_mem _ hy)
  unfold sumL; omega
theorem sumL_set {f:TMtItem → Int}:∀ {l:List TMtItem} {i:Nat} {x y:TMtItem},l[i]? = some x → sumL f (l.set i y) = sumL f l - f x + f y
 | [],i,x,y,h => by simp at h
 | z :: r,0,x,y,h => by
  simp only [List.getElem?_cons_zero,Option.some.injEq] at h
  subst h
  rw [List.set_cons_zero]; unfold sumL; omega
 | z :: r,i + 1,x,y,h => by
  simp only [List.getElem?_cons_succ] at h
  rw [List.set_cons_succ]; unfold sumL; rw [sumL_set h]; omega
def recX (t:TMtTask) (meter first:Int) (k:Nat) (x:TMtItem):TEncl:=if x.Meter == meter then ⟨x.Count * (lampsS t x first k).Encl.Lo,x.Count * (lampsS t x first k).Encl.Hi⟩ else ⟨0,0⟩
theorem recX_bd {t:TMtTask} {x:TMtItem} (h:Lit t x) (hc:0 ≤ x.Count ∧ x.Count ≤ 1000) (meter first:Int) {k:Nat} (hk:k ≤ 200):0 ≤ (recX t meter first k x).Lo ∧ (recX t meter first k x).Lo ≤ (recX t meter first k x).Hi ∧ (recX t meter first k x).Hi ≤ 172800000000000000:=by
 have hb:=lampsS_bd h first hk
 unfold recX
 split
 ·have m1:0 ≤ x.Count * (lampsS t x first k).Encl.Lo:=Int.mul_nonneg hc.1 hb.1
  have m2:x.Count * (lampsS t x first k).Encl.Lo ≤ x.Count * (lampsS t x first k).Encl.Hi:=Int.mul_le_mul_of_nonneg_left hb.2.1 hc.1
  have m3:x.Count * (lampsS t x first k).Encl.Hi ≤ 1000 * (lampsS t x first k).Encl.Hi:=Int.mul_le_mul_of_nonneg_right hc.2 (by omega)
  simp only; omega
 ·simp
theorem recF_val {t:TMtTask} (meter first:Int) {k:Nat} (hk:k ≤ 200):∀ {l:List TMtItem} {s:TSum},(∀ x ∈ l,Lit t x ∧ 0 ≤ x.Count ∧ x.Count ≤ 1000) → 0 ≤ s.Encl.Lo → s.Encl.Lo ≤ s.Encl.Hi → s.Encl.Hi + l.length * 172800000000000000 ≤ 3500000000000000000 →
  l.foldl (recS t meter first k) s = ⟨⟨s.Encl.Lo + sumL (fun x => (recX t meter first k x).Lo) l,s.Encl.Hi + sumL (fun x => (recX t meter first k x).Hi) l⟩⟩
 | [],s,_,_,_,_ => by unfold sumL; simp only [List.foldl_nil,Int.add_zero]
 | x :: r,s,hl,h0,h1,h2 => by
  obtain ⟨hx,hc⟩:=hl x List.mem_cons_self
  have hb:=recX_bd hx hc meter first hk
  rw [List.length_cons] at h2
  have e:recS t meter first k s x = ⟨⟨s.Encl.Lo + (recX t meter first k x).Lo,s.Encl.Hi + (recX t meter first k x).Hi⟩⟩:=by
   unfold recX at hb ⊢
   unfold recS
   split
   ·rename_i hm
    rw [if_pos hm] at hb
    simp only at hb
    rw [addS_exact (by omega) (by omega) (by omega) (by omega)]
   ·simp only [Int.add_zero]
  rw [List.foldl_cons,e,recF_val meter first hk (fun y hy => hl y (List.mem_cons_of_mem _ hy)) (by simp only; omega) (by simp only; omega) (by simp only; omega)]
  simp only [sumL]
  rw [Int.add_assoc,Int.add_assoc]
structure AllLit (t:TMtTask):Prop where
 lit:∀ x ∈ t.Items,Lit t x ∧ 0 ≤ x.Count ∧ x.Count ≤ 1000
 few:t.Items.length ≤ 20
theorem TaskV.allLit {t:TMtTask} (h:TaskV t):AllLit t:=⟨fun x hx => by
 have hi:=h.item hx
 have:=hi.count
 exact ⟨⟨h.cat,hi.lamp⟩,by omega,by omega⟩,h.ni⟩
theorem reckS_val {t:TMtTask} (h:AllLit t) (meter first:Int) {k:Nat} (hk:k ≤ 200):reckS t meter first k = ⟨⟨sumL (fun x => (recX t meter first k x).Lo) t.Items,sumL (fun x => (recX t meter first k x).Hi) t.Items⟩⟩ ∧
  0 ≤ (reckS t meter first k).Encl.Lo ∧ (reckS t meter first k).Encl.Lo ≤ (reckS t meter first k).Encl.Hi ∧ (reckS t meter first k).Encl.Hi ≤ 3456000000000000000:=by
 have e:reckS t meter first k = ⟨⟨sumL (fun x => (recX t meter first k x).Lo) t.Items,sumL (fun x => (recX t meter first k x).Hi) t.Items⟩⟩:=by
  unfold reckS
  rw [recF_val meter first hk h.lit (by unfold sum0; simp) (by unfold sum0; simp) (by have:=h.few; unfold sum0; simp only; omega)]
  unfold sum0
  simp only [Int.zero_add]
 have zero:∀ l:List TMtItem,sumL (fun _ => 0) l = 0:=by
  intro l; induction l with
  | nil => rfl
  | cons x r ih => unfold sumL; rw [ih]; rfl
 have top:∀ l:List TMtItem,sumL (fun _ => 172800000000000000) l = l.length * 172800000000000000:=by
  intro l; induction l with
  | nil => rfl
  | cons x r ih => unfold sumL; rw [ih,List.length_cons]; omega
 refine ⟨e,?_⟩
 rw [e]
 have b:=fun x hx => recX_bd (h.lit x hx).1 (h.lit x hx).2 meter first hk
 have m0:=sumL_mono (f:=fun _ => 0) (g:=fun x => (recX t meter first k x).Lo) fun x hx => (b x hx).1
 have m1:=sumL_mono (f:=fun x => (recX t meter first k x).Lo) (g:=fun x => (recX t meter first k x).Hi) fun x hx => (b x hx).2.1
 have m2:=sumL_mono (f:=fun x => (recX t meter first k x).Hi) (g:=fun _ => 172800000000000000) fun x hx => (b x hx).2.2
 rw [zero] at m0
 rw [top] at m2
 have:=h.few
 simp only
 omega
end Go.Proofs.YtblebiafhhhflaaGreat
