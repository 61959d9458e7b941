/- Plain: plans without faults: what judge says of them, and the other way about. Plain: ways, loads and times of tours, without bounds. Plain: what the search finds has no fault, and is the best. Plain: the best plan is worth what the search says, and no plan is worth more. -/
import Derived.Test.YtdeeekgohhkdbaaGreatDoorSk
import Derived.Test.YtdeeekgohhkdbaaGreatDoorOd
namespace Go.Proofs.YtdeeekgohhkdbaaGreatDoor
def Sc (d:TDepot) (r:TTour) (n:Int):Bool:=decide ((yZ d.RoTask n).Height<=r.RoLorry.Lift) && q6 d r n
def wJ (d:TDepot) (r:TTour) (L:List Int):TTour:=L.foldl (qc d) r
def Vk (d:TDepot):TTour->List Int->Bool
 | _,[]=>true
 | r,n::L=>Sc d r n && Vk d (qc d r n) L
def Tv:List Int->List Int->Bool
 | _,[]=>true
 | D,n::L=>!decide (n∈D) && Tv (D++[n]) L
theorem vX (b:Bool) (l:List TRoFault) (e i n:Int):l.length<=(T1 b l e i n).length:=by
 cases b
 ·rw [xq rfl]; omega
 ·rw [va rfl,List.length_append]; exact Nat.le_add_right _ _
theorem PY {d:TDepot} {i:Int} {s:JSt} {n:Int} (hc:s.closed = -1) (h1:n∉s.done) (h2:Sc d s.tour n=true):jN d i s n=⟨-1,s.faults,qc d s.tour n,s.done++[n]⟩:=by
 unfold Sc at h2
 rw [Bool.and_eq_true,decide_eq_true_eq] at h2
 obtain ⟨g1,g2⟩:=h2
 have e1:jv d s.tour s.closed n = -1:=by rw [YY (by rw [g2]; rfl),hc]
 have e2:kF i s n=s.faults:=xq (decide_eq_false h1) ..
 have e3:kT d i s n=s.faults:=by unfold kT; rw [xq (decide_eq_false (by omega)),e2]
 have e4:WV d s.tour (-1) n=qc d s.tour n:=if_neg (by omega)
 have e5:Pj s.done n=s.done++[n]:=if_neg h1
 unfold jN
 rw [e1,e3,e4,e5]
theorem Pq {d:TDepot} {i:Int}:∀ (L:List Int) (s:JSt),s.closed = -1->Tv s.done L=true->Vk d s.tour L=true->L.foldl (jN d i) s=⟨-1,s.faults,wJ d s.tour L,s.done++L⟩:=by
 intro L
 induction L with
 | nil =>
  intro s hc _ _
  show s=⟨-1,s.faults,s.tour,s.done++[]⟩
  rw [List.append_nil,<- hc]
 | cons n L ih =>
  intro s hc hn hl
  unfold Tv at hn
  unfold Vk at hl
  rw [Bool.and_eq_true] at hn hl
  have h1:n∉s.done:=by simpa using hn.1
  show L.foldl (jN d i) (jN d i s n)=_
  rw [PY hc h1 hl.1,ih _ rfl hn.2 hl.2,List.append_assoc]
  rfl
theorem Ko (d:TDepot) (i:Int) (s:JSt) (n:Int):s.faults.length<=(kT d i s n).length:=Nat.le_trans (vX ..) (vX ..)
theorem OV {d:TDepot} {r:TTour} {c n:Int} (h:c>=0):jv d r c n>=0:=by
 rw [YF (decide_eq_false (by omega))]; exact h
theorem YI {d:TDepot} {i:Int}:∀ (L:List Int) (s:JSt),s.faults.length<=(L.foldl (jN d i) s).faults.length/\(s.closed>=0->(L.foldl (jN d i) s).closed>=0):=by
 intro L
 induction L with
 | nil=>intro s; exact ⟨Nat.le_refl _,id⟩
 | cons n L ih =>
  intro s
  obtain ⟨h1,h2⟩:=ih (jN d i s n)
  exact ⟨Nat.le_trans (Ko d i s n) h1,fun h=>h2 (OV h)⟩
theorem OI {d:TDepot} {i:Int}:∀ (L:List Int) (s:JSt),(∀ n∈L,0<=n)->s.closed = -1->(L.foldl (jN d i) s).faults.length<=s.faults.length->(L.foldl (jN d i) s).closed<0->Tv s.done L=true/\Vk d s.tour L=true:=by
 intro L
 induction L with
 | nil=>intro s _ _ _ _; exact ⟨rfl,rfl⟩
 | cons n L ih =>
  intro s hn hc hf hcl
  have hf:(L.foldl (jN d i) (jN d i s n)).faults.length<=s.faults.length:=hf
  have hcl:(L.foldl (jN d i) (jN d i s n)).closed<0:=hcl
  obtain ⟨m1,m2⟩:=YI (d:=d) (i:=i) L (jN d i s n)
  have m1:(kT d i s n).length<=_:=m1
  have h1:n∉s.done:=fun h=>by
   have e2:kF i s n=s.faults++[⟨210,i,n⟩]:=va (decide_eq_true h) ..
   have:(kF i s n).length<=(kT d i s n).length:=vX ..
   rw [e2,List.length_append] at this
   have:s.faults.length+1<=(kT d i s n).length:=this
   omega
  have e2:kF i s n=s.faults:=xq (decide_eq_false h1) ..
  have h2:(yZ d.RoTask n).Height<=s.tour.RoLorry.Lift:=Decidable.byContradiction fun h=>by
   have e3:kT d i s n=s.faults++[⟨211,i,n⟩]:=by unfold kT; rw [va (decide_eq_true (by omega)),e2]
   rw [e3,List.length_append] at m1
   have:s.faults.length+1<=(L.foldl (jN d i) (jN d i s n)).faults.length:=m1
   omega
  have h3:q6 d s.tour n=true:=by
   cases hv:q6 d s.tour n with
   | true=>rfl
   | false =>
    have e1:jv d s.tour s.closed n=n:=YN (by rw [hv]; rfl) (decide_eq_true (by omega))
    have:=m2 (by show jv d s.tour s.closed n>=0; rw [e1]; exact hn n List.mem_cons_self)
    omega
  have hcan:Sc d s.tour n=true:=by unfold Sc; rw [decide_eq_true h2,h3]; rfl
  rw [PY hc h1 hcan] at hf hcl
  obtain ⟨g1,g2⟩:=ih _ (fun m hm=>hn m (List.mem_cons_of_mem _ hm)) rfl hf hcl
  refine ⟨?_,?_⟩
  ·unfold Tv; rw [decide_eq_false h1]; exact g1
  ·unfold Vk; rw [hcan]; exact g2
structure TC (d:TDepot) (i:Nat) (D L:List Int):Prop where
 new:Tv D L=true
 can:Vk d (yI d i) L=true
 goes:Zt d (wJ d (yI d i) L)=true
theorem Su {d:TDepot} {r:TTour}:Zt d r=true↔wG d r<=r.RoLorry.Until/\0<=r.room:=by
 unfold Zt
 rw [Bool.and_eq_true,Bool.not_eq_true',Bool.not_eq_true',decide_eq_false_iff_not,decide_eq_false_iff_not]
 omega
theorem Ja {d:TDepot} {i:Int} {s:JSt} (hc:s.closed = -1) (h:Zt d s.tour=true):jM d i s=s.faults:=by
 obtain ⟨h1,h2⟩:=Su.1 h
 have e1:wm i s=s.faults:=xq (decide_eq_false (by omega)) ..
 unfold jM
 rw [if_neg (by omega),xq (decide_eq_false (by omega)),e1]
theorem PH (d:TDepot) (i:Int) (s:JSt):s.faults.length<=(jM d i s).length:=by
 have h1:s.faults.length<=(wm i s).length:=vX ..
 unfold jM
 split
 ·rw [List.length_append]; omega
 ·exact Nat.le_trans h1 (vX ..)
theorem OP {d:TDepot} {i:Int} {s:JSt} (h:(jM d i s).length<=s.faults.length):s.closed<0/\Zt d s.tour=true:=by
 have h1:s.faults.length<=(wm i s).length:=vX ..
 have hc:s.closed<0:=Decidable.byContradiction fun hc=>by
  unfold jM at h
  rw [if_pos (by omega),List.length_append] at h
  have:(wm i s).length+1<=s.faults.length:=h
  omega
 refine ⟨hc,Su.2 ⟨Decidable.byContradiction fun hb=>?_,Decidable.byContradiction fun hr=>?_⟩⟩
 ·unfold jM at h
  rw [if_neg (by omega),va (decide_eq_true (by omega)),List.length_append] at h
  have:(wm i s).length+1<=s.faults.length:=h
  omega
 ·have e:wm i s=s.faults++[⟨212,i,-1⟩]:=va (decide_eq_true (by omega)) ..
  have h2:(wm i s).length<=(jM d i s).length:=by
   unfold jM
   rw [if_neg (by omega)]
   exact vX ..
  rw [e,List.length_append] at h2
  have:s.faults.length+1<=(jM d i s).length:=h2
  omega
theorem Tq {d:TDepot} {i:Nat} {a:JAll} {L:List Int} (h:TC d i a.done L) :
  X3 d i a (jK d i a.faults a.done L)=⟨a.faults,IntKind.i64.wrap (a.value+(wJ d (yI d i) L).value),IntKind.i64.wrap (a.cost+xp d (wJ d (yI d i) L)),a.done++L⟩:=by
 have e:jK d i a.faults a.done L=⟨-1,a.faults,wJ d (yI d i) L,a.done++L⟩:=Pq L ⟨-1,a.faults,yI d i,a.done⟩ rfl h.new h.can
 rw [e]
 unfold X3
 rw [Ja (s:=⟨-1,a.faults,wJ d (yI d i) L,a.done++L⟩) rfl h.goes]
theorem Lf {d:TDepot} {i:Int} {a:JAll} {L:List Int}:a.faults.length<=(X3 d i a (jK d i a.faults a.done L)).faults.length :=
 Nat.le_trans (YI (d:=d) (i:=i) L ⟨-1,a.faults,yI d i,a.done⟩).1 (PH ..)
theorem QS {d:TDepot} {i:Nat} {a:JAll} {L:List Int} (hn:∀ n∈L,0<=n) (h:(X3 d i a (jK d i a.faults a.done L)).faults.length<=a.faults.length):TC d i a.done L:=by
 have h:(jM d i (jK d i a.faults a.done L)).length<=a.faults.length:=h
 have m:=(YI (d:=d) (i:=i) L ⟨-1,a.faults,yI d i,a.done⟩).1
 have m:a.faults.length<=(jK d i a.faults a.done L).faults.length:=m
 obtain ⟨h1,h2⟩:=OP (Nat.le_trans h m)
 have g:=PH d i (jK d i a.faults a.done L)
 have hf:(jK d i a.faults a.done L).faults.length<=a.faults.length:=by omega
 obtain ⟨c1,c2⟩:=OI L ⟨-1,a.faults,yI d i,a.done⟩ hn rfl hf h1
 have e:jK d i a.faults a.done L=⟨-1,a.faults,wJ d (yI d i) L,a.done++L⟩:=Pq L ⟨-1,a.faults,yI d i,a.done⟩ rfl c1 c2
 rw [e] at h2
 exact ⟨c1,c2,h2⟩
def um (d:TDepot):Nat->List Int->List (List Int)->Prop
 | _,_,[]=>True
 | i,D,L::P=>TC d i D L/\um d (i+1) (D++L) P
def Nv (d:TDepot):Nat->Int->List (List Int)->Int
 | _,a,[]=>a
 | i,a,L::P=>Nv d (i+1) (IntKind.i64.wrap (a+(wJ d (yI d i) L).value)) P
def Ov (d:TDepot):Nat->Int->List (List Int)->Int
 | _,a,[]=>a
 | i,a,L::P=>Ov d (i+1) (IntKind.i64.wrap (a+xp d (wJ d (yI d i) L))) P
theorem Mf {d:TDepot}:∀ (P:List (List Int)) (i:Nat) (a:JAll),um d i a.done P->ve d i a P=⟨a.faults,Nv d i a.value P,Ov d i a.cost P,a.done++P.flatten⟩:=by
 intro P
 induction P with
 | nil =>
  intro i a _
  show a=⟨a.faults,a.value,a.cost,a.done++[]⟩
  rw [List.append_nil]
 | cons L P ih =>
  intro i a h
  obtain ⟨h1,h2⟩:=h
  show ve d (i+1) (X3 d i a (jK d i a.faults a.done L)) P=_
  rw [Tq h1,ih _ _ h2,List.append_assoc]
  rfl
theorem N4 {d:TDepot}:∀ (P:List (List Int)) (i:Nat) (a:JAll),a.faults.length<=(ve d i a P).faults.length:=by
 intro P
 induction P with
 | nil=>intro i a; exact Nat.le_refl _
 | cons L P ih=>intro i a; exact Nat.le_trans Lf (ih (i+1) (X3 d i a (jK d i a.faults a.done L)))
theorem X7 {d:TDepot}:∀ (P:List (List Int)) (i:Nat) (a:JAll),(∀ L∈P,∀ n∈L,0<=n)->(ve d i a P).faults.length<=a.faults.length->um d i a.done P:=by
 intro P
 induction P with
 | nil=>intro i a _ _; trivial
 | cons L P ih =>
  intro i a hn h
  have h:(ve d (i+1) (X3 d i a (jK d i a.faults a.done L)) P).faults.length<=a.faults.length:=h
  have g:=N4 (d:=d) P (i+1) (X3 d i a (jK d i a.faults a.done L))
  have h1:TC d i a.done L:=QS (hn L List.mem_cons_self) (Nat.le_trans g h)
  refine ⟨h1,?_⟩
  rw [Tq h1] at h
  exact ih (i+1) ⟨a.faults,_,_,a.done++L⟩ (fun M hM=>hn M (List.mem_cons_of_mem _ hM)) h
theorem MA {t:TRoTask} {plan:List (List Int)} (h:jz t plan=0) (hg:um (yg t) 0 [] plan):ju t plan=(Nv (yg t) 0 0 plan,Ov (yg t) 0 0 plan,0):=by
 have e:yD (yg t) plan=⟨[],Nv (yg t) 0 0 plan,Ov (yg t) 0 0 plan,[]++plan.flatten⟩:=Mf plan 0 ⟨[],0,0,[]⟩ hg
 unfold ju
 rw [if_neg (by simp [h]),e,if_neg (by simp)]
def kp (x u:Int):Int:=xm x u-uO x u
theorem ME {x u:Int} (hx:-50000<=x/\x<=50000) (hu:-50000<=u/\u<=50000):0<=kp x u/\kp x u<=100000:=by
 unfold kp xm uO
 split<;>split<;>omega
def NR (D p:Int):Int:=(D*p+999) / 1000
theorem K5 {x y u v p:Int} (hx:-50000<=x/\x<=50000) (hy:-50000<=y/\y<=50000) (hu:-50000<=u/\u<=50000) (hv:-50000<=v/\v<=50000) (hp:0<=p/\p<=3600) :
  JV x y u v p=NR (kp x u+kp y v) p/\(0<=kp x u+kp y v/\kp x u+kp y v<=200000)/\0<=NR (kp x u+kp y v) p/\NR (kp x u+kp y v) p<=720000:=by
 have h1:=ME hx hu
 have h2:=ME hy hv
 have b1:-50000<=xm y v/\xm y v<=50000:=by unfold xm; split<;>omega
 have b2:-50000<=uO y v/\uO y v<=50000:=by unfold uO; split<;>omega
 have e2:kp y v=xm y v-uO y v:=rfl
 have b:0<=(kp x u+kp y v)*p/\(kp x u+kp y v)*p<=200000*3600:=⟨Int.mul_nonneg (by omega) hp.1,Int.mul_le_mul (by omega) hp.2 hp.1 (by omega)⟩
 unfold JV
 rw [show xm x u-uO x u=kp x u from rfl,i64 (n:=kp x u) (by omega),i64 (n:=kp x u+xm y v) (by omega),show kp x u+xm y v-uO y v=kp x u+kp y v by omega,i64 (n:=kp x u+kp y v) (by omega)]
 unfold NR
 generalize (kp x u+kp y v)*p=z at b
 rw [i64 (n:=z) (by omega),i64 (n:=z+999) (by omega),Int.tdiv_eq_ediv_of_nonneg (by omega)]
 refine ⟨i64 (by omega),by omega,by omega,by omega⟩
theorem Ob {x y:Int} (h:Zu x y=false):(-50000<=x/\x<=50000) /\ -50000<=y/\y<=50000:=by
 unfold Zu at h
 rw [Bool.or_eq_false_iff] at h
 exact ⟨yT.1 h.1,yT.1 h.2⟩
theorem Jh {t:TRoTask} (hv:kA t) {k:Int} (hk:k<t.Jobs.length):(-50000<=atX t k/\atX t k<=50000) /\ -50000<=atY t k/\atY t k<=50000:=by
 by_cases h:k>=0
 ·rw [XM h,XL h]
  exact Ob (Um (hv.job _ (wZ h hk).2)).2.2.1
 ·rw [XO h,XE h]
  exact Ob hv.away
def L4 (t:TRoTask) (k n:Int):Int:=kp (atX t k) (atX t n)+kp (atY t k) (atY t n)
theorem N9 {t:TRoTask} (hv:kA t) {k n:Int} (hk:k<t.Jobs.length) (hn:n<t.Jobs.length):vD t k n=NR (L4 t k n) t.Pace/\0<=vD t k n/\vD t k n<=720000/\0<=L4 t k n:=by
 have h1:=Jh hv hk
 have h2:=Jh hv hn
 obtain ⟨e1,e2,e3,e4⟩:=K5 h1.1 h1.2 h2.1 h2.2 (yT.1 hv.pace)
 unfold vD L4
 rw [e1]
 exact ⟨rfl,e3,e4,e2.1⟩
theorem U6 {a b:TRoSpan} (h0:0<=a.From) (h1:a.Until<=172800):0<=(yO a b).From/\(yO a b).Until<=172800/\(yO a b).From<=172800:=by
 unfold yO
 have g0:0<=xm a.From b.From:=by unfold xm; split<;>omega
 have g1:uO a.Until b.Until<=172800:=by unfold uO; split<;>omega
 by_cases h:xm a.From b.From>uO a.Until b.Until
 ·rw [if_pos h]; exact ⟨by show (0:Int)<=1; omega,by show (0:Int)<=172800; omega,by show (1:Int)<=172800; omega⟩
 ·rw [if_neg h]; exact ⟨g0,g1,by show xm a.From b.From<=172800; omega⟩
theorem Kb (t:TRoTask) (x:TRoJob):0<=(yf t x).From/\(yf t x).Until<=172800/\(yf t x).From<=172800:=by
 have z:0<=(⟨0,172800⟩:TRoSpan).From/\(⟨0,172800⟩:TRoSpan).Until<=172800/\(⟨0,172800⟩:TRoSpan).From<=172800:=⟨Int.le_refl _,Int.le_refl _,by show (0:Int)<=172800; omega⟩
 unfold yf
 by_cases hc:x.Closure>=0
 ·rw [if_pos hc]
  have b:=U6 (b:=qf t x.Closure) z.1 z.2.1
  split
  ·exact U6 b.1 b.2.1
  ·exact b
 ·rw [if_neg hc]
  split
  ·exact U6 z.1 z.2.1
  ·exact z
theorem O3 {t:TRoTask} {n:Int} (h0:0<=n) (h:n<t.Jobs.length):xB (yg t) n=yf t (yZ t n):=by
 have hl:n.toNat<t.Jobs.length:=by omega
 unfold xB yg yZ
 rw [List.getD_eq_getElem?_getD,List.getD_eq_getElem?_getD,List.getElem?_map,List.getElem?_eq_getElem hl]; rfl
theorem M7:∀ (P:List Int) (K:List TRoKind) (a b:Int),(∀ n∈P,0<=n/\n<=20)->(∀ k∈K,uh k=false)->P.length<=4 -> -1000000000000+20000*(P.length:Int)<=a->a<=1000000000000->0<=b->b+20000000*(P.length:Int)<=1000000000000 ->
  (a-20000*(P.length:Int)<=(kc P K a b).1/\(kc P K a b).1<=a)/\b<=(kc P K a b).2/\(kc P K a b).2<=b+20000000*(P.length:Int):=by
 intro P
 induction P with
 | nil=>intro K a b _ _ _ _ _ _ _; exact ⟨⟨by show a-_<=a; simp,Int.le_refl _⟩,Int.le_refl _,by show b<=_; simp⟩
 | cons n P ih =>
  intro K a b hP hK hl ha ha' hb hb'
  rw [List.length_cons] at *
  match K with
  | []=>exact ⟨⟨by show a-_<=a; omega,Int.le_refl _⟩,Int.le_refl _,by show b<=_; omega⟩
  | k::K =>
   have hn:=hP n List.mem_cons_self
   have hk:=hK k List.mem_cons_self
   unfold uh at hk
   rw [Bool.or_eq_false_iff] at hk
   have k1:=yT.1 hk.1
   have k2:=yT.1 hk.2
   have m1:0<=n*k.Size/\n*k.Size<=20*1000:=⟨Int.mul_nonneg hn.1 k1.1,Int.mul_le_mul hn.2 k1.2 k1.1 (by omega)⟩
   have m2:0<=n*k.Price/\n*k.Price<=20*1000000:=⟨Int.mul_nonneg hn.1 k2.1,Int.mul_le_mul hn.2 k2.2 k2.1 (by omega)⟩
   show (_<=(kc P K (IntKind.i64.wrap (a-IntKind.i64.wrap (n*k.Size))) (IntKind.i64.wrap (b+IntKind.i64.wrap (n*k.Price)))).1/\(kc P K (IntKind.i64.wrap (a-IntKind.i64.wrap (n*k.Size))) (IntKind.i64.wrap (b+IntKind.i64.wrap (n*k.Price)))).1<=a)/\b<=(kc P K (IntKind.i64.wrap (a-IntKind.i64.wrap (n*k.Size))) (IntKind.i64.wrap (b+IntKind.i64.wrap (n*k.Price)))).2/\(kc P K (IntKind.i64.wrap (a-IntKind.i64.wrap (n*k.Size))) (IntKind.i64.wrap (b+IntKind.i64.wrap (n*k.Price)))).2<=b+20000000*((P.length+1:Nat):Int)
   generalize n*k.Size=y at m1
   generalize n*k.Price=z at m2
   rw [i64 (n:=y) (by omega),i64 (n:=z) (by omega),i64 (n:=a-y) (by omega),i64 (n:=b+z) (by omega)]
   have:=ih K (a-y) (b+z) (fun m hm=>hP m (List.mem_cons_of_mem _ hm)) (fun m hm=>hK m (List.mem_cons_of_mem _ hm)) (by omega) (by omega) (by omega) (by omega) (by omega)
   omega
structure Yd (t:TRoTask) (r:TTour) (m:Nat):Prop where
 now:0<=r.now/\r.now<=172800
 last:-1<=r.last/\r.last<t.Jobs.length
 room:0-80000*(m:Int)<=r.room/\r.room<=1000000
 price:0<=r.price/\r.price<=80000000*(m:Int)
 value:0<=r.value/\r.value<=1000000*(m:Int)
 lor:r.RoLorry∈t.Lorries
theorem NW {t:TRoTask} (hv:kA t) {x:TRoLorry} (hx:x∈t.Lorries):(0<=x.Lift/\x.Lift<=200)/\(0<=x.Room/\x.Room<=1000000)/\(0<=x.Until/\x.Until<=172800)/\(0<=x.From/\x.From<=x.Until)/\0<=x.PerHour/\x.PerHour<=1000000:=by
 have h:=hv.lor x hx
 unfold Ux at h
 by_cases h0:qu x.Lift 0 200=true
 ·rw [if_pos h0] at h; exact absurd h (by simp)
 rw [if_neg h0] at h
 by_cases h1:qu x.Room 0 1000000=true
 ·rw [if_pos h1] at h; exact absurd h (by simp)
 rw [if_neg h1] at h
 by_cases h2:xM ⟨x.From,x.Until⟩=true
 ·rw [if_pos h2] at h; exact absurd h (by simp)
 rw [if_neg h2] at h
 by_cases h3:qu x.PerHour 0 1000000=true
 ·rw [if_pos h3] at h; exact absurd h (by simp)
 have h2:xM ⟨x.From,x.Until⟩=false:=by simpa using h2
 unfold xM at h2
 rw [Bool.or_eq_false_iff] at h2
 exact ⟨yT.1 (by simpa using h0),yT.1 (by simpa using h1),yT.1 h2.1,yT.1 h2.2,yT.1 (by simpa using h3)⟩
theorem Tr {t:TRoTask} (hv:kA t) {i:Nat} (hi:i<t.Lorries.length):Yd t (yI (yg t) i) 0:=by
 have hm:=(PL (t:=t) (k:=(i:Int)) (by omega) (by omega)).2
 obtain ⟨_,h2,h3,h4,_⟩:=NW hv hm
 exact ⟨⟨h4.1,by show (Xo t i).From<=172800; omega⟩,⟨Int.le_refl _,by show (-1:Int)<_; omega⟩,⟨by show (0:Int)-80000*0<=(Xo t i).Room; omega,h2.2⟩,⟨Int.le_refl _,by show (0:Int)<=80000000*0; omega⟩,⟨Int.le_refl _,by show (0:Int)<=1000000*0; omega⟩,hm⟩
theorem TR {t:TRoTask} (hv:kA t) {r:TTour} {m:Nat} (hr:Yd t r m) (hm:m<=10) {n:Int} (h0:0<=n) (hn:n<t.Jobs.length) (hb:q6 (yg t) r n=true) :
  Yd t (qc (yg t) r n) (m+1)/\(qc (yg t) r n).room<=r.room/\r.now+vD t r.last n<=(qc (yg t) r n).now/\(qc (yg t) r n).last=n/\(qc (yg t) r n).RoLorry=r.RoLorry /\
   (qc (yg t) r n).value=r.value+(yZ t n).Value:=by
 have hj:=(wZ h0 hn).2
 obtain ⟨p1,_,_,p4,p5,p6,p7⟩:=Um (hv.job _ hj)
 have hkl:=hv.kl
 obtain ⟨w1,w2,w3⟩:=N9 hv hr.last.2 hn
 have hs:=Kb t (yZ t n)
 rw [<- O3 h0 hn] at hs
 have hnow:=hr.now
 have hroom:=hr.room
 have hprice:=hr.price
 have hval:=hr.value
 have e:qc (yg t) r n=Mt (yg t) r n:=if_pos hb
 have ea:UG (yg t) r n=r.now+vD t r.last n:=i64 (by show _<=r.now+vD t r.last n/\r.now+vD t r.last n<_; omega)
 have es:r.now+vD t r.last n<=vV (yg t) r n/\vV (yg t) r n<=1000000:=by
  unfold vV
  rw [ea]
  unfold xm
  split<;>omega
 have ee:UP (yg t) r n=vV (yg t) r n+(yZ t n).Seconds:=i64 (by show _<=vV (yg t) r n+(yZ t n).Seconds/\vV (yg t) r n+(yZ t n).Seconds<_; omega)
 unfold q6 at hb
 rw [Bool.and_eq_true,Bool.not_eq_true',Bool.not_eq_true',decide_eq_false_iff_not] at hb
 have hlen:(yZ t n).Parts.length<=4:=by omega
 obtain ⟨q1,q2⟩:=M7 (yZ t n).Parts t.Kinds r.room r.price p7 hv.kinds hlen (by omega) (by omega) hprice.1 (by omega)
 have el:uF (yg t) r n=kc (yZ t n).Parts t.Kinds r.room r.price:=rfl
 rw [<- el] at q1 q2
 have ev:IntKind.i64.wrap (r.value+(yZ t n).Value)=r.value+(yZ t n).Value:=i64 (by omega)
 rw [e]
 refine ⟨⟨?_,?_,?_,?_,?_,hr.lor⟩,?_,?_,rfl,rfl,ev⟩
 ·show 0<=UP (yg t) r n/\UP (yg t) r n<=172800
  omega
 ·show -1<=n/\n<(t.Jobs.length:Int)
  omega
 ·show 0-80000*((m+1:Nat):Int)<=(uF (yg t) r n).1/\(uF (yg t) r n).1<=1000000
  omega
 ·show 0<=(uF (yg t) r n).2/\(uF (yg t) r n).2<=80000000*((m+1:Nat):Int)
  omega
 ·show 0<=IntKind.i64.wrap (r.value+(yZ t n).Value)/\IntKind.i64.wrap (r.value+(yZ t n).Value)<=1000000*((m+1:Nat):Int)
  rw [ev]; omega
 ·show (uF (yg t) r n).1<=r.room
  omega
 ·show r.now+vD t r.last n<=UP (yg t) r n
  omega
theorem Ky {t:TRoTask} (hv:kA t) {r:TTour} {m:Nat} (hr:Yd t r m):wG (yg t) r=r.now+vD t r.last (-1)/\0<=wG (yg t) r/\wG (yg t) r<=1000000:=by
 obtain ⟨_,w2,w3,_⟩:=N9 hv hr.last.2 (show (-1:Int)<t.Jobs.length by omega)
 have hnow:=hr.now
 have e:wG (yg t) r=r.now+vD t r.last (-1):=i64 (by show _<=r.now+vD t r.last (-1)/\r.now+vD t r.last (-1)<_; omega)
 rw [e]
 omega
structure E3 (D:List Int) (n:Int):Prop where
 lo:0<=n
 hi:n<64
 bit:∀ j:Nat,j<6->(Wl n j=true↔(j:Int)∉D)
theorem Kl {d:TDepot} {r:TTour} {n:Int}:Sc d r n=true↔(yZ d.RoTask n).Height<=r.RoLorry.Lift/\q6 d r n=true:=by
 unfold Sc; rw [Bool.and_eq_true,decide_eq_true_eq]
theorem J7 {t:TRoTask} (hv:kA t):∀ (L:List Int) (r:TTour) (m:Nat),Yd t r m->m+L.length<=10->(∀ x∈L,0<=x/\x<t.Jobs.length)->Vk (yg t) r L=true->Yd t (wJ (yg t) r L) (m+L.length):=by
 intro L
 induction L with
 | nil=>intro r m hr _ _ _; exact hr
 | cons x L ih =>
  intro r m hr hm hx hc
  unfold Vk at hc
  rw [Bool.and_eq_true] at hc
  obtain ⟨x0,x1⟩:=hx x List.mem_cons_self
  rw [List.length_cons] at hm ⊢
  have v:=TR hv hr (by omega) x0 x1 (Kl.1 hc.1).2
  have:=ih _ _ v.1 (by omega) (fun y hy=>hx y (List.mem_cons_of_mem _ hy)) hc.2
  rw [show m+(L.length+1)=m+1+L.length by omega]
  exact this
theorem KI {t:TRoTask} (hv:kA t) {r:TTour} {m:Nat} (hr:Yd t r m) (hm:m<=10):-1000000000<=xp (yg t) r/\xp (yg t) r<=2000000000:=by
 obtain ⟨_,b1,b2⟩:=Ky hv hr
 obtain ⟨_,_,l1,l2,l3⟩:=NW hv hr.lor
 have hp:=hr.price
 unfold xp
 split
 ·omega
 ·rw [i64 (n:=wG (yg t) r-r.RoLorry.From) (by omega)]
  have hy:-172800<=wG (yg t) r-r.RoLorry.From/\wG (yg t) r-r.RoLorry.From<=1000000:=by omega
  generalize wG (yg t) r-r.RoLorry.From=y at *
  have b:-172800000000<=y*r.RoLorry.PerHour/\y*r.RoLorry.PerHour<=1172800000000:=by
   have u1:(y+172800)*r.RoLorry.PerHour<=1172800*1000000:=Int.mul_le_mul (by omega) l3.2 l3.1 (by omega)
   have u2:0<=(y+172800)*r.RoLorry.PerHour:=Int.mul_nonneg (by omega) l3.1
   rw [Int.add_mul] at u1 u2
   generalize y*r.RoLorry.PerHour=z at *
   generalize r.RoLorry.PerHour=q at *
   omega
  generalize y*r.RoLorry.PerHour=z at b
  rw [i64 (n:=z) (by omega),i64 (n:=z+3599) (by omega)]
  have d1:(z+3599).tdiv 3600<=330000000 /\ -300000000<=(z+3599).tdiv 3600:=by
   rcases Int.lt_or_le (z+3599) 0 with hneg | hpos
   ·have e:(z+3599).tdiv 3600 = -((-(z+3599)) / 3600):=by
     rw [<- Int.tdiv_eq_ediv_of_nonneg (by omega),Int.neg_tdiv,Int.neg_neg]
    rw [e]; omega
   ·rw [Int.tdiv_eq_ediv_of_nonneg hpos]; omega
  generalize (z+3599).tdiv 3600=w at d1
  rw [i64 (n:=w) (by omega),i64 (n:=r.price+w) (by omega)]
  omega
def YA (d:TDepot):Nat->List (List Int)->Int
 | _,[]=>0
 | i,L::P=>(wJ d (yI d i) L).value+YA d (i+1) P
def Sn (d:TDepot):Nat->List (List Int)->Int
 | _,[]=>0
 | i,L::P=>xp d (wJ d (yI d i) L)+Sn d (i+1) P
def Xe (t:TRoTask) (P:List (List Int)):Prop:=∀ L∈P,L.length<=6/\∀ x∈L,0<=x/\x<t.Jobs.length
theorem Ts {t:TRoTask} (hv:kA t) {i:Nat} (hi:i<t.Lorries.length) {D L:List Int} (hg:TC (yg t) i D L) (hL:L.length<=6) (hx:∀ x∈L,0<=x/\x<t.Jobs.length) :
  Yd t (wJ (yg t) (yI (yg t) i) L) L.length/\(0<=(wJ (yg t) (yI (yg t) i) L).value/\(wJ (yg t) (yI (yg t) i) L).value<=6000000) /\ -1000000000<=xp (yg t) (wJ (yg t) (yI (yg t) i) L)/\xp (yg t) (wJ (yg t) (yI (yg t) i) L)<=2000000000:=by
 have r:=J7 hv L _ 0 (Tr hv hi) (by omega) hx hg.can
 rw [Nat.zero_add] at r
 have hval:=r.value
 exact ⟨r,⟨hval.1,by omega⟩,KI hv r (by omega)⟩
theorem P1 {t:TRoTask} (hv:kA t):∀ (P:List (List Int)) (i:Nat) (D:List Int),i+P.length=t.Lorries.length->um (yg t) i D P->Xe t P ->
  (0<=YA (yg t) i P/\YA (yg t) i P<=6000000*(P.length:Int)) /\ -1000000000*(P.length:Int)<=Sn (yg t) i P/\Sn (yg t) i P<=2000000000*(P.length:Int):=by
 intro P
 induction P with
 | nil=>intro i D _ _ _; exact ⟨⟨Int.le_refl _,by show (0:Int)<=6000000*0; omega⟩,by show -1000000000*0<=(0:Int); omega,by show (0:Int)<=2000000000*0; omega⟩
 | cons L P ih =>
  intro i D hl hg hP
  rw [List.length_cons] at hl
  obtain ⟨p1,p2⟩:=hP L List.mem_cons_self
  obtain ⟨_,v,c1,c2⟩:=Ts hv (by omega) hg.1 p1 p2
  obtain ⟨s1,s2,s3⟩:=ih (i+1) _ (by omega) hg.2 (fun M hM=>hP M (List.mem_cons_of_mem _ hM))
  show (0<=_+YA (yg t) (i+1) P/\_+YA (yg t) (i+1) P<=_)/\_<=_+Sn (yg t) (i+1) P/\_+Sn (yg t) (i+1) P<=_
  rw [List.length_cons]
  omega
theorem K1 {t:TRoTask} (hv:kA t):∀ (P:List (List Int)) (i:Nat) (D:List Int) (a b:Int),i+P.length=t.Lorries.length->um (yg t) i D P->Xe t P->0<=a->a<=100000000 -> -100000000000<=b->b<=100000000000 ->
  a+6000000*(P.length:Int)<=100000000->b+2000000000*(P.length:Int)<=100000000000 -> -100000000000<=b-1000000000*(P.length:Int)->Nv (yg t) i a P=a+YA (yg t) i P/\Ov (yg t) i b P=b+Sn (yg t) i P:=by
 intro P
 induction P with
 | nil=>intro i D a b _ _ _ _ _ _ _ _ _ _; exact ⟨by show a=a+0; omega,by show b=b+0; omega⟩
 | cons L P ih =>
  intro i D a b hl hg hP a0 a1 b0 b1 h1 h2 h3
  rw [List.length_cons] at hl h1 h2 h3
  obtain ⟨p1,p2⟩:=hP L List.mem_cons_self
  obtain ⟨_,v,c1,c2⟩:=Ts hv (by omega) hg.1 p1 p2
  show Nv (yg t) (i+1) (IntKind.i64.wrap (a+(wJ (yg t) (yI (yg t) i) L).value)) P=a+((wJ (yg t) (yI (yg t) i) L).value+YA (yg t) (i+1) P)/\Ov (yg t) (i+1) (IntKind.i64.wrap (b+xp (yg t) (wJ (yg t) (yI (yg t) i) L))) P=b+(xp (yg t) (wJ (yg t) (yI (yg t) i) L)+Sn (yg t) (i+1) P)
  generalize (wJ (yg t) (yI (yg t) i) L).value=y at *
  generalize xp (yg t) (wJ (yg t) (yI (yg t) i) L)=z at *
  rw [i64 (n:=a+y) (by omega),i64 (n:=b+z) (by omega)]
  obtain ⟨e1,e2⟩:=ih (i+1) _ (a+y) (b+z) (by omega) hg.2 (fun M hM=>hP M (List.mem_cons_of_mem _ hM)) (by omega) (by omega) (by omega) (by omega) (by omega) (by omega) (by omega)
  rw [e1,e2]
  omega
theorem Yq {t:TRoTask} {plan:List (List Int)} (h:jz t plan=0):plan.length=t.Lorries.length:=by
 unfold jz at h
 by_cases he:(jw t).2.2≠0
 ·rw [if_pos he] at h; exact absurd h he
 rw [if_neg he] at h
 by_cases h1:plan.length≠t.Lorries.length
 ·rw [if_pos h1] at h; exact absurd h (by decide)
 exact Decidable.not_not.1 h1
theorem OK {t:TRoTask} {plan:List (List Int)} (he:(jw t).2.2=0) (hl:plan.length=t.Lorries.length) (hp:Xe t plan):jz t plan=0:=by
 have hv:=Z0 he
 have hjl:=hv.jl
 unfold jz
 rw [if_neg (by simp [he]),if_neg (by simp [hl])]
 have h1:plan.any wW=false:=by
  rw [List.any_eq_false]
  intro L hL
  have:=(hp L hL).1
  unfold wW
  rw [decide_eq_false (by omega)]; simp
 have h2:plan.flatten.any (q8 t 0)=false:=by
  rw [List.any_eq_false]
  intro n hn
  obtain ⟨L,hL,hnL⟩:=List.mem_flatten.1 hn
  have:=(hp L hL).2 n hnL
  unfold q8
  rw [i64 (by omega),yT.2 ⟨this.1,by omega⟩]; simp
 rw [if_neg (by rw [h1]; simp),if_neg (by rw [h2]; simp)]
theorem Ui {t:TRoTask} {plan:List (List Int)} (h:jz t plan=0) (hg:um (yg t) 0 [] plan):ju t plan=(YA (yg t) 0 plan,Sn (yg t) 0 plan,0)/\Xe t plan:=by
 obtain ⟨hv,hp⟩:=Yk h
 have hl:=Yq h
 have hll:=hv.ll
 have hr:Xe t plan:=fun L hL=>⟨hp.small L hL,hp.jobs L hL⟩
 obtain ⟨e1,e2⟩:=K1 hv plan 0 [] 0 0 (by omega) hg hr (by omega) (by omega) (by omega) (by omega) (by omega) (by omega) (by omega)
 rw [MA h hg,e1,e2,Int.zero_add,Int.zero_add]
 exact ⟨rfl,hr⟩
theorem O8 {t:TRoTask} (h:t.Ok):ud t:=by
 obtain ⟨_,_,_,_,_,_,_,⟨hl,_⟩,⟨hj,_⟩⟩:=h
 exact ⟨fun x hx=>(hl x hx).1,fun x hx=>(hj x hx).1⟩
theorem Ih:yk Tryz.prog 41=false:=by kernel_rfl
theorem JQ {d:Nat} {cs:List AV} (h:yL Tryz.prog d 41 cs):∃ l:List Int,cs=[.slc 3 (ym l)]/\l.length*8<=reachBytes:=by
 obtain ⟨l,e,_,m,_⟩:=je (g:=AV.int .i64) (w:=fun _=>True) (by kernel_rfl) (fun d p hp=>by
  obtain ⟨x,ex,_⟩:=yB (k:=.i64) (by kernel_rfl) hp
  subst ex
  exact ⟨x,by rw [show yk Tryz.prog 3=false by kernel_rfl,if_neg (by simp)]; rfl,trivial⟩) h
 rw [show Tryz.prog.bytesOf 3=8 by kernel_rfl] at m
 exact ⟨l,e,m⟩
theorem Ij {d:Nat} {cs:List AV} (h:yL Tryz.prog d 32 cs):∃ P:List (List Int),cs=[.slc 3 (yz P)]:=by
 obtain ⟨P,e,_,_,_⟩:=je (g:=fun x=>AV.slc 3 (ym x)) (w:=fun _=>True) (by kernel_rfl) (fun d p hp=>by
  obtain ⟨l,el,_⟩:=JQ hp
  subst el
  exact ⟨l,by rw [Ih,if_neg (by simp)]; rfl,trivial⟩) h
 exact ⟨P,e⟩
def R16 (t:TRoTask) (_S:SpecF) (_Fr:FreshF) (_Sq:SeqF) (Q:yj):Prop :=
 (decide (IntKind.i64.wrap ((↑(List.map TRoJob.av t.Jobs).length:Int)+(↑(List.map TRoLorry.av t.Lorries).length:Int))>6)=true->(decide ((↑(List.map TRoJob.av t.Jobs).length:Int)<=(6:Int))=true->Q (.bool (decide ((↑(List.map TRoLorry.av t.Lorries).length:Int)<=(3:Int)))) [])/\(decide ((↑(List.map TRoJob.av t.Jobs).length:Int)<=(6:Int))=false->Q (.bool false) []))/\(decide (IntKind.i64.wrap ((↑(List.map TRoJob.av t.Jobs).length:Int)+(↑(List.map TRoLorry.av t.Lorries).length:Int))>6)=false->Q (.bool false) [])
theorem s16 (t:TRoTask) (v:AV) (O:List (List AV)) (h:R16 t Sp Fo So (fun r O'=>r=v/\O'=O)):Sp 16 [t.av] [] v O :=
 ye (w:=⟨[],[],[],[],[]⟩) (k:=0) (keep:=⟨[0,1,2],[],[],[]⟩) (boxes:=[]) mixed (by exact trivial) Tryz.func16 Tryz.call16 rfl rfl rfl (Nat.le_of_ble_eq_true rfl) (by kernel_rfl) h
end Go.Proofs.YtdeeekgohhkdbaaGreatDoor
