/- Plain: plans without faults: what judge says of them, and the other way about. Plain: ways, loads and times of tours, without bounds. Plain: what the search finds has no fault, and is the best. Plain: the best plan is worth what the search says, and no plan is worth more. -/
import Derived.Test.YtdeeekgohhkdbaaGreatDoorSk
import Derived.Test.YtdeeekgohhkdbaaGreatDoorOd
namespace Go.Proofs.YtdeeekgohhkdbaaGreatDoor
def SH (d:TDepot) (r:TTour) (n:Int):Bool:=decide ((yZ d.RoTask n).Height<=r.RoLorry.Lift) && qZ d r n
def wD (d:TDepot) (r:TTour) (L:List Int):TTour:=L.foldl (qb d) r
def V6 (d:TDepot):TTour->List Int->Bool
 | _,[]=>true
 | r,n::L=>SH d r n && V6 d (qb d r n) L
def Qt:List Int->List Int->Bool
 | _,[]=>true
 | D,n::L=>!decide (n∈D) && Qt (D++[n]) L
theorem vN (b:Bool) (l:List TRoFault) (e i n:Int):l.length<=(Sr b l e i n).length:=by
 cases b
 ·rw [xd rfl]; omega
 ·rw [xR rfl,List.length_append]; exact Nat.le_add_right _ _
theorem O8 {d:TDepot} {i:Int} {s:JSt} {n:Int} (hc:s.closed = -1) (h1:n∉s.done) (h2:SH d s.tour n=true):jM d i s n=⟨-1,s.faults,qb d s.tour n,s.done++[n]⟩:=by
 unfold SH at h2
 rw [Bool.and_eq_true,decide_eq_true_eq] at h2
 obtain ⟨g1,g2⟩:=h2
 have e1:jt d s.tour s.closed n = -1:=by rw [XL (by rw [g2]; rfl),hc]
 have e2:kN i s n=s.faults:=xd (decide_eq_false h1) ..
 have e3:kR d i s n=s.faults:=by unfold kR; rw [xd (decide_eq_false (by omega)),e2]
 have e4:VY d s.tour (-1) n=qb d s.tour n:=if_neg (by omega)
 have e5:P2 s.done n=s.done++[n]:=if_neg h1
 unfold jM
 rw [e1,e3,e4,e5]
theorem OT {d:TDepot} {i:Int}:∀ (L:List Int) (s:JSt),s.closed = -1->Qt s.done L=true->V6 d s.tour L=true->L.foldl (jM d i) s=⟨-1,s.faults,wD d s.tour L,s.done++L⟩:=by
 intro L
 induction L with
 | nil =>
  intro s hc _ _
  show s=⟨-1,s.faults,s.tour,s.done++[]⟩
  rw [List.append_nil,<- hc]
 | cons n L ih =>
  intro s hc hn hl
  unfold Qt at hn
  unfold V6 at hl
  rw [Bool.and_eq_true] at hn hl
  have h1:n∉s.done:=by simpa using hn.1
  show L.foldl (jM d i) (jM d i s n)=_
  rw [O8 hc h1 hl.1,ih _ rfl hn.2 hl.2,List.append_assoc]
  rfl
theorem JF (d:TDepot) (i:Int) (s:JSt) (n:Int):s.faults.length<=(kR d i s n).length:=Nat.le_trans (vN ..) (vN ..)
theorem Nw {d:TDepot} {r:TTour} {c n:Int} (h:c>=0):jt d r c n>=0:=by
 rw [XK (decide_eq_false (by omega))]; exact h
theorem XQ {d:TDepot} {i:Int}:∀ (L:List Int) (s:JSt),s.faults.length<=(L.foldl (jM d i) s).faults.length/\(s.closed>=0->(L.foldl (jM d i) s).closed>=0):=by
 intro L
 induction L with
 | nil=>intro s; exact ⟨Nat.le_refl _,id⟩
 | cons n L ih =>
  intro s
  obtain ⟨h1,h2⟩:=ih (jM d i s n)
  exact ⟨Nat.le_trans (JF d i s n) h1,fun h=>h2 (Nw h)⟩
theorem NJ {d:TDepot} {i:Int}:∀ (L:List Int) (s:JSt),(∀ n∈L,0<=n)->s.closed = -1->(L.foldl (jM d i) s).faults.length<=s.faults.length->(L.foldl (jM d i) s).closed<0->Qt s.done L=true/\V6 d s.tour L=true:=by
 intro L
 induction L with
 | nil=>intro s _ _ _ _; exact ⟨rfl,rfl⟩
 | cons n L ih =>
  intro s hn hc hf hcl
  have hf:(L.foldl (jM d i) (jM d i s n)).faults.length<=s.faults.length:=hf
  have hcl:(L.foldl (jM d i) (jM d i s n)).closed<0:=hcl
  obtain ⟨m1,m2⟩:=XQ (d:=d) (i:=i) L (jM d i s n)
  have m1:(kR d i s n).length<=_:=m1
  have h1:n∉s.done:=fun h=>by
   have e2:kN i s n=s.faults++[⟨210,i,n⟩]:=xR (decide_eq_true h) ..
   have:(kN i s n).length<=(kR d i s n).length:=vN ..
   rw [e2,List.length_append] at this
   have:s.faults.length+1<=(kR d i s n).length:=this
   omega
  have e2:kN i s n=s.faults:=xd (decide_eq_false h1) ..
  have h2:(yZ d.RoTask n).Height<=s.tour.RoLorry.Lift:=Decidable.byContradiction fun h=>by
   have e3:kR d i s n=s.faults++[⟨211,i,n⟩]:=by unfold kR; rw [xR (decide_eq_true (by omega)),e2]
   rw [e3,List.length_append] at m1
   have:s.faults.length+1<=(L.foldl (jM d i) (jM d i s n)).faults.length:=m1
   omega
  have h3:qZ d s.tour n=true:=by
   cases hv:qZ d s.tour n with
   | true=>rfl
   | false =>
    have e1:jt d s.tour s.closed n=n:=XJ (by rw [hv]; rfl) (decide_eq_true (by omega))
    have:=m2 (by show jt d s.tour s.closed n>=0; rw [e1]; exact hn n List.mem_cons_self)
    omega
  have hcan:SH d s.tour n=true:=by unfold SH; rw [decide_eq_true h2,h3]; rfl
  rw [O8 hc h1 hcan] at hf hcl
  obtain ⟨g1,g2⟩:=ih _ (fun m hm=>hn m (List.mem_cons_of_mem _ hm)) rfl hf hcl
  refine ⟨?_,?_⟩
  ·unfold Qt; rw [decide_eq_false h1]; exact g1
  ·unfold V6; rw [hcan]; exact g2
structure Sm (d:TDepot) (i:Nat) (D L:List Int):Prop where
 new:Qt D L=true
 can:V6 d (yI d i) L=true
 goes:Yq d (wD d (yI d i) L)=true
theorem S2 {d:TDepot} {r:TTour}:Yq d r=true↔wm d r<=r.RoLorry.Until/\0<=r.room:=by
 unfold Yq
 rw [Bool.and_eq_true,Bool.not_eq_true',Bool.not_eq_true',decide_eq_false_iff_not,decide_eq_false_iff_not]
 omega
theorem JE {d:TDepot} {i:Int} {s:JSt} (hc:s.closed = -1) (h:Yq d s.tour=true):jL d i s=s.faults:=by
 obtain ⟨h1,h2⟩:=S2.1 h
 have e1:wC i s=s.faults:=xd (decide_eq_false (by omega)) ..
 unfold jL
 rw [if_neg (by omega),xd (decide_eq_false (by omega)),e1]
theorem OX (d:TDepot) (i:Int) (s:JSt):s.faults.length<=(jL d i s).length:=by
 have h1:s.faults.length<=(wC i s).length:=vN ..
 unfold jL
 split
 ·rw [List.length_append]; omega
 ·exact Nat.le_trans h1 (vN ..)
theorem N0 {d:TDepot} {i:Int} {s:JSt} (h:(jL d i s).length<=s.faults.length):s.closed<0/\Yq d s.tour=true:=by
 have h1:s.faults.length<=(wC i s).length:=vN ..
 have hc:s.closed<0:=Decidable.byContradiction fun hc=>by
  unfold jL at h
  rw [if_pos (by omega),List.length_append] at h
  have:(wC i s).length+1<=s.faults.length:=h
  omega
 refine ⟨hc,S2.2 ⟨Decidable.byContradiction fun hb=>?_,Decidable.byContradiction fun hr=>?_⟩⟩
 ·unfold jL at h
  rw [if_neg (by omega),xR (decide_eq_true (by omega)),List.length_append] at h
  have:(wC i s).length+1<=s.faults.length:=h
  omega
 ·have e:wC i s=s.faults++[⟨212,i,-1⟩]:=xR (decide_eq_true (by omega)) ..
  have h2:(wC i s).length<=(jL d i s).length:=by
   unfold jL
   rw [if_neg (by omega)]
   exact vN ..
  rw [e,List.length_append] at h2
  have:s.faults.length+1<=(jL d i s).length:=h2
  omega
theorem QG {d:TDepot} {i:Nat} {a:JAll} {L:List Int} (h:Sm d i a.done L) :
  Vd d i a (jF d i a.faults a.done L)=⟨a.faults,IntKind.i64.wrap (a.value+(wD d (yI d i) L).value),IntKind.i64.wrap (a.cost+xi d (wD d (yI d i) L)),a.done++L⟩:=by
 have e:jF d i a.faults a.done L=⟨-1,a.faults,wD d (yI d i) L,a.done++L⟩:=OT L ⟨-1,a.faults,yI d i,a.done⟩ rfl h.new h.can
 rw [e]
 unfold Vd
 rw [JE (s:=⟨-1,a.faults,wD d (yI d i) L,a.done++L⟩) rfl h.goes]
theorem KA {d:TDepot} {i:Int} {a:JAll} {L:List Int}:a.faults.length<=(Vd d i a (jF d i a.faults a.done L)).faults.length :=
 Nat.le_trans (XQ (d:=d) (i:=i) L ⟨-1,a.faults,yI d i,a.done⟩).1 (OX ..)
theorem P7 {d:TDepot} {i:Nat} {a:JAll} {L:List Int} (hn:∀ n∈L,0<=n) (h:(Vd d i a (jF d i a.faults a.done L)).faults.length<=a.faults.length):Sm d i a.done L:=by
 have h:(jL d i (jF d i a.faults a.done L)).length<=a.faults.length:=h
 have m:=(XQ (d:=d) (i:=i) L ⟨-1,a.faults,yI d i,a.done⟩).1
 have m:a.faults.length<=(jF d i a.faults a.done L).faults.length:=m
 obtain ⟨h1,h2⟩:=N0 (Nat.le_trans h m)
 have g:=OX d i (jF d i a.faults a.done L)
 have hf:(jF d i a.faults a.done L).faults.length<=a.faults.length:=by omega
 obtain ⟨c1,c2⟩:=NJ L ⟨-1,a.faults,yI d i,a.done⟩ hn rfl hf h1
 have e:jF d i a.faults a.done L=⟨-1,a.faults,wD d (yI d i) L,a.done++L⟩:=OT L ⟨-1,a.faults,yI d i,a.done⟩ rfl c1 c2
 rw [e] at h2
 exact ⟨c1,c2,h2⟩
def ue (d:TDepot):Nat->List Int->List (List Int)->Prop
 | _,_,[]=>True
 | i,D,L::P=>Sm d i D L/\ue d (i+1) (D++L) P
def Mz (d:TDepot):Nat->Int->List (List Int)->Int
 | _,a,[]=>a
 | i,a,L::P=>Mz d (i+1) (IntKind.i64.wrap (a+(wD d (yI d i) L).value)) P
def Ny (d:TDepot):Nat->Int->List (List Int)->Int
 | _,a,[]=>a
 | i,a,L::P=>Ny d (i+1) (IntKind.i64.wrap (a+xi d (wD d (yI d i) L))) P
theorem L0 {d:TDepot}:∀ (P:List (List Int)) (i:Nat) (a:JAll),ue d i a.done P->xZ d i a P=⟨a.faults,Mz d i a.value P,Ny d i a.cost P,a.done++P.flatten⟩:=by
 intro P
 induction P with
 | nil =>
  intro i a _
  show a=⟨a.faults,a.value,a.cost,a.done++[]⟩
  rw [List.append_nil]
 | cons L P ih =>
  intro i a h
  obtain ⟨h1,h2⟩:=h
  show xZ d (i+1) (Vd d i a (jF d i a.faults a.done L)) P=_
  rw [QG h1,ih _ _ h2,List.append_assoc]
  rfl
theorem LZ {d:TDepot}:∀ (P:List (List Int)) (i:Nat) (a:JAll),a.faults.length<=(xZ d i a P).faults.length:=by
 intro P
 induction P with
 | nil=>intro i a; exact Nat.le_refl _
 | cons L P ih=>intro i a; exact Nat.le_trans KA (ih (i+1) (Vd d i a (jF d i a.faults a.done L)))
theorem Vz {d:TDepot}:∀ (P:List (List Int)) (i:Nat) (a:JAll),(∀ L∈P,∀ n∈L,0<=n)->(xZ d i a P).faults.length<=a.faults.length->ue d i a.done P:=by
 intro P
 induction P with
 | nil=>intro i a _ _; trivial
 | cons L P ih =>
  intro i a hn h
  have h:(xZ d (i+1) (Vd d i a (jF d i a.faults a.done L)) P).faults.length<=a.faults.length:=h
  have g:=LZ (d:=d) P (i+1) (Vd d i a (jF d i a.faults a.done L))
  have h1:Sm d i a.done L:=P7 (hn L List.mem_cons_self) (Nat.le_trans g h)
  refine ⟨h1,?_⟩
  rw [QG h1] at h
  exact ih (i+1) ⟨a.faults,_,_,a.done++L⟩ (fun M hM=>hn M (List.mem_cons_of_mem _ hM)) h
theorem KX {t:TRoTask} {plan:List (List Int)} (h:jv t plan=0) (hg:ue (yg t) 0 [] plan):js t plan=(Mz (yg t) 0 0 plan,Ny (yg t) 0 0 plan,0):=by
 have e:yD (yg t) plan=⟨[],Mz (yg t) 0 0 plan,Ny (yg t) 0 0 plan,[]++plan.flatten⟩:=L0 plan 0 ⟨[],0,0,[]⟩ hg
 unfold js
 rw [if_neg (by simp [h]),e,if_neg (by simp)]
def km (x u:Int):Int:=xo x u-uM x u
theorem MT {x u:Int} (hx:-50000<=x/\x<=50000) (hu:-50000<=u/\u<=50000):0<=km x u/\km x u<=100000:=by
 unfold km xo uM
 split<;>split<;>omega
def KV (D p:Int):Int:=(D*p+999) / 1000
theorem J7 {x y u v p:Int} (hx:-50000<=x/\x<=50000) (hy:-50000<=y/\y<=50000) (hu:-50000<=u/\u<=50000) (hv:-50000<=v/\v<=50000) (hp:0<=p/\p<=3600) :
  HA x y u v p=KV (km x u+km y v) p/\(0<=km x u+km y v/\km x u+km y v<=200000)/\0<=KV (km x u+km y v) p/\KV (km x u+km y v) p<=720000:=by
 have h1:=MT hx hu
 have h2:=MT hy hv
 have b1:-50000<=xo y v/\xo y v<=50000:=by unfold xo; split<;>omega
 have b2:-50000<=uM y v/\uM y v<=50000:=by unfold uM; split<;>omega
 have e2:km y v=xo y v-uM y v:=rfl
 have b:0<=(km x u+km y v)*p/\(km x u+km y v)*p<=200000*3600:=⟨Int.mul_nonneg (by omega) hp.1,Int.mul_le_mul (by omega) hp.2 hp.1 (by omega)⟩
 unfold HA
 rw [show xo x u-uM x u=km x u from rfl,i64 (n:=km x u) (by omega),i64 (n:=km x u+xo y v) (by omega),show km x u+xo y v-uM y v=km x u+km y v by omega,i64 (n:=km x u+km y v) (by omega)]
 unfold KV
 generalize (km x u+km y v)*p=z at b
 rw [i64 (n:=z) (by omega),i64 (n:=z+999) (by omega),Int.tdiv_eq_ediv_of_nonneg (by omega)]
 refine ⟨i64 (by omega),by omega,by omega,by omega⟩
theorem Oy {x y:Int} (h:Yj x y=false):(-50000<=x/\x<=50000) /\ -50000<=y/\y<=50000:=by
 unfold Yj at h
 rw [Bool.or_eq_false_iff] at h
 exact ⟨yU.1 h.1,yU.1 h.2⟩
theorem Im {t:TRoTask} (hv:kp t) {k:Int} (hk:k<t.Jobs.length):(-50000<=atX t k/\atX t k<=50000) /\ -50000<=atY t k/\atY t k<=50000:=by
 by_cases h:k>=0
 ·rw [WA h,WC h]
  exact Oy (TU (hv.job _ (wZ h hk).2)).2.2.1
 ·rw [Wz h,WB h]
  exact Oy hv.away
def Lp (t:TRoTask) (k n:Int):Int:=km (atX t k) (atX t n)+km (atY t k) (atY t n)
theorem KW {t:TRoTask} (hv:kp t) {k n:Int} (hk:k<t.Jobs.length) (hn:n<t.Jobs.length):vG t k n=KV (Lp t k n) t.Pace/\0<=vG t k n/\vG t k n<=720000/\0<=Lp t k n:=by
 have h1:=Im hv hk
 have h2:=Im hv hn
 obtain ⟨e1,e2,e3,e4⟩:=J7 h1.1 h1.2 h2.1 h2.2 (yU.1 hv.pace)
 unfold vG Lp
 rw [e1]
 exact ⟨rfl,e3,e4,e2.1⟩
theorem Ts {a b:TRoSpan} (h0:0<=a.From) (h1:a.Until<=172800):0<=(yO a b).From/\(yO a b).Until<=172800/\(yO a b).From<=172800:=by
 unfold yO
 have g0:0<=xo a.From b.From:=by unfold xo; split<;>omega
 have g1:uM a.Until b.Until<=172800:=by unfold uM; split<;>omega
 by_cases h:xo a.From b.From>uM a.Until b.Until
 ·rw [if_pos h]; exact ⟨by show (0:Int)<=1; omega,by show (0:Int)<=172800; omega,by show (1:Int)<=172800; omega⟩
 ·rw [if_neg h]; exact ⟨g0,g1,by show xo a.From b.From<=172800; omega⟩
theorem J0 (t:TRoTask) (x:TRoJob):0<=(yf t x).From/\(yf t x).Until<=172800/\(yf t x).From<=172800:=by
 have z:0<=(⟨0,172800⟩:TRoSpan).From/\(⟨0,172800⟩:TRoSpan).Until<=172800/\(⟨0,172800⟩:TRoSpan).From<=172800:=⟨Int.le_refl _,Int.le_refl _,by show (0:Int)<=172800; omega⟩
 unfold yf
 by_cases hc:x.Closure>=0
 ·rw [if_pos hc]
  have b:=Ts (b:=qd t x.Closure) z.1 z.2.1
  split
  ·exact Ts b.1 b.2.1
  ·exact b
 ·rw [if_neg hc]
  split
  ·exact Ts z.1 z.2.1
  ·exact z
theorem Mr {t:TRoTask} {n:Int} (h0:0<=n) (h:n<t.Jobs.length):xy (yg t) n=yf t (yZ t n):=by
 have hl:n.toNat<t.Jobs.length:=by omega
 unfold xy yg yZ
 rw [List.getD_eq_getElem?_getD,List.getD_eq_getElem?_getD,List.getElem?_map,List.getElem?_eq_getElem hl]; rfl
theorem Km:∀ (P:List Int) (K:List TRoKind) (a b:Int),(∀ n∈P,0<=n/\n<=20)->(∀ k∈K,ug k=false)->P.length<=4 -> -1000000000000+20000*(P.length:Int)<=a->a<=1000000000000->0<=b->b+20000000*(P.length:Int)<=1000000000000 ->
  (a-20000*(P.length:Int)<=(j7 P K a b).1/\(j7 P K a b).1<=a)/\b<=(j7 P K a b).2/\(j7 P K a b).2<=b+20000000*(P.length:Int):=by
 intro P
 induction P with
 | nil=>intro K a b _ _ _ _ _ _ _; exact ⟨⟨by show a-_<=a; simp,Int.le_refl _⟩,Int.le_refl _,by show b<=_; simp⟩
 | cons n P ih =>
  intro K a b hP hK hl ha ha' hb hb'
  rw [List.length_cons] at *
  match K with
  | []=>exact ⟨⟨by show a-_<=a; omega,Int.le_refl _⟩,Int.le_refl _,by show b<=_; omega⟩
  | k::K =>
   have hn:=hP n List.mem_cons_self
   have hk:=hK k List.mem_cons_self
   unfold ug at hk
   rw [Bool.or_eq_false_iff] at hk
   have k1:=yU.1 hk.1
   have k2:=yU.1 hk.2
   have m1:0<=n*k.Size/\n*k.Size<=20*1000:=⟨Int.mul_nonneg hn.1 k1.1,Int.mul_le_mul hn.2 k1.2 k1.1 (by omega)⟩
   have m2:0<=n*k.Price/\n*k.Price<=20*1000000:=⟨Int.mul_nonneg hn.1 k2.1,Int.mul_le_mul hn.2 k2.2 k2.1 (by omega)⟩
   show (_<=(j7 P K (IntKind.i64.wrap (a-IntKind.i64.wrap (n*k.Size))) (IntKind.i64.wrap (b+IntKind.i64.wrap (n*k.Price)))).1/\(j7 P K (IntKind.i64.wrap (a-IntKind.i64.wrap (n*k.Size))) (IntKind.i64.wrap (b+IntKind.i64.wrap (n*k.Price)))).1<=a)/\b<=(j7 P K (IntKind.i64.wrap (a-IntKind.i64.wrap (n*k.Size))) (IntKind.i64.wrap (b+IntKind.i64.wrap (n*k.Price)))).2/\(j7 P K (IntKind.i64.wrap (a-IntKind.i64.wrap (n*k.Size))) (IntKind.i64.wrap (b+IntKind.i64.wrap (n*k.Price)))).2<=b+20000000*((P.length+1:Nat):Int)
   generalize n*k.Size=y at m1
   generalize n*k.Price=z at m2
   rw [i64 (n:=y) (by omega),i64 (n:=z) (by omega),i64 (n:=a-y) (by omega),i64 (n:=b+z) (by omega)]
   have:=ih K (a-y) (b+z) (fun m hm=>hP m (List.mem_cons_of_mem _ hm)) (fun m hm=>hK m (List.mem_cons_of_mem _ hm)) (by omega) (by omega) (by omega) (by omega) (by omega)
   omega
structure YX (t:TRoTask) (r:TTour) (m:Nat):Prop where
 now:0<=r.now/\r.now<=172800
 last:-1<=r.last/\r.last<t.Jobs.length
 room:0-80000*(m:Int)<=r.room/\r.room<=1000000
 price:0<=r.price/\r.price<=80000000*(m:Int)
 value:0<=r.value/\r.value<=1000000*(m:Int)
 lor:r.RoLorry∈t.Lorries
theorem L5 {t:TRoTask} (hv:kp t) {x:TRoLorry} (hx:x∈t.Lorries):(0<=x.Lift/\x.Lift<=200)/\(0<=x.Room/\x.Room<=1000000)/\(0<=x.Until/\x.Until<=172800)/\(0<=x.From/\x.From<=x.Until)/\0<=x.PerHour/\x.PerHour<=1000000:=by
 have h:=hv.lor x hx
 unfold TZ at h
 by_cases h0:qu x.Lift 0 200=true
 ·rw [if_pos h0] at h; exact absurd h (by simp)
 rw [if_neg h0] at h
 by_cases h1:qu x.Room 0 1000000=true
 ·rw [if_pos h1] at h; exact absurd h (by simp)
 rw [if_neg h1] at h
 by_cases h2:xO ⟨x.From,x.Until⟩=true
 ·rw [if_pos h2] at h; exact absurd h (by simp)
 rw [if_neg h2] at h
 by_cases h3:qu x.PerHour 0 1000000=true
 ·rw [if_pos h3] at h; exact absurd h (by simp)
 have h2:xO ⟨x.From,x.Until⟩=false:=by simpa using h2
 unfold xO at h2
 rw [Bool.or_eq_false_iff] at h2
 exact ⟨yU.1 (by simpa using h0),yU.1 (by simpa using h1),yU.1 h2.1,yU.1 h2.2,yU.1 (by simpa using h3)⟩
theorem Qn {t:TRoTask} (hv:kp t) {i:Nat} (hi:i<t.Lorries.length):YX t (yI (yg t) i) 0:=by
 have hm:=(O0 (t:=t) (k:=(i:Int)) (by omega) (by omega)).2
 obtain ⟨_,h2,h3,h4,_⟩:=L5 hv hm
 exact ⟨⟨h4.1,by show (Wh t i).From<=172800; omega⟩,⟨Int.le_refl _,by show (-1:Int)<_; omega⟩,⟨by show (0:Int)-80000*0<=(Wh t i).Room; omega,h2.2⟩,⟨Int.le_refl _,by show (0:Int)<=80000000*0; omega⟩,⟨Int.le_refl _,by show (0:Int)<=1000000*0; omega⟩,hm⟩
theorem QW {t:TRoTask} (hv:kp t) {r:TTour} {m:Nat} (hr:YX t r m) (hm:m<=10) {n:Int} (h0:0<=n) (hn:n<t.Jobs.length) (hb:qZ (yg t) r n=true) :
  YX t (qb (yg t) r n) (m+1)/\(qb (yg t) r n).room<=r.room/\r.now+vG t r.last n<=(qb (yg t) r n).now/\(qb (yg t) r n).last=n/\(qb (yg t) r n).RoLorry=r.RoLorry /\
   (qb (yg t) r n).value=r.value+(yZ t n).Value:=by
 have hj:=(wZ h0 hn).2
 obtain ⟨p1,_,_,p4,p5,p6,p7⟩:=TU (hv.job _ hj)
 have hkl:=hv.kl
 obtain ⟨w1,w2,w3⟩:=KW hv hr.last.2 hn
 have hs:=J0 t (yZ t n)
 rw [<- Mr h0 hn] at hs
 have hnow:=hr.now
 have hroom:=hr.room
 have hprice:=hr.price
 have hval:=hr.value
 have e:qb (yg t) r n=Lq (yg t) r n:=if_pos hb
 have ea:Tq (yg t) r n=r.now+vG t r.last n:=i64 (by show _<=r.now+vG t r.last n/\r.now+vG t r.last n<_; omega)
 have es:r.now+vG t r.last n<=ud (yg t) r n/\ud (yg t) r n<=1000000:=by
  unfold ud
  rw [ea]
  unfold xo
  split<;>omega
 have ee:TG (yg t) r n=ud (yg t) r n+(yZ t n).Seconds:=i64 (by show _<=ud (yg t) r n+(yZ t n).Seconds/\ud (yg t) r n+(yZ t n).Seconds<_; omega)
 unfold qZ at hb
 rw [Bool.and_eq_true,Bool.not_eq_true',Bool.not_eq_true',decide_eq_false_iff_not] at hb
 have hlen:(yZ t n).Parts.length<=4:=by omega
 obtain ⟨q1,q2⟩:=Km (yZ t n).Parts t.Kinds r.room r.price p7 hv.kinds hlen (by omega) (by omega) hprice.1 (by omega)
 have el:uJ (yg t) r n=j7 (yZ t n).Parts t.Kinds r.room r.price:=rfl
 rw [<- el] at q1 q2
 have ev:IntKind.i64.wrap (r.value+(yZ t n).Value)=r.value+(yZ t n).Value:=i64 (by omega)
 rw [e]
 refine ⟨⟨?_,?_,?_,?_,?_,hr.lor⟩,?_,?_,rfl,rfl,ev⟩
 ·show 0<=TG (yg t) r n/\TG (yg t) r n<=172800
  omega
 ·show -1<=n/\n<(t.Jobs.length:Int)
  omega
 ·show 0-80000*((m+1:Nat):Int)<=(uJ (yg t) r n).1/\(uJ (yg t) r n).1<=1000000
  omega
 ·show 0<=(uJ (yg t) r n).2/\(uJ (yg t) r n).2<=80000000*((m+1:Nat):Int)
  omega
 ·show 0<=IntKind.i64.wrap (r.value+(yZ t n).Value)/\IntKind.i64.wrap (r.value+(yZ t n).Value)<=1000000*((m+1:Nat):Int)
  rw [ev]; omega
 ·show (uJ (yg t) r n).1<=r.room
  omega
 ·show r.now+vG t r.last n<=TG (yg t) r n
  omega
theorem K6 {t:TRoTask} (hv:kp t) {r:TTour} {m:Nat} (hr:YX t r m):wm (yg t) r=r.now+vG t r.last (-1)/\0<=wm (yg t) r/\wm (yg t) r<=1000000:=by
 obtain ⟨_,w2,w3,_⟩:=KW hv hr.last.2 (show (-1:Int)<t.Jobs.length by omega)
 have hnow:=hr.now
 have e:wm (yg t) r=r.now+vG t r.last (-1):=i64 (by show _<=r.now+vG t r.last (-1)/\r.now+vG t r.last (-1)<_; omega)
 rw [e]
 omega
structure DX (D:List Int) (n:Int):Prop where
 lo:0<=n
 hi:n<64
 bit:∀ j:Nat,j<6->(Vq n j=true↔(j:Int)∉D)
theorem Jc {d:TDepot} {r:TTour} {n:Int}:SH d r n=true↔(yZ d.RoTask n).Height<=r.RoLorry.Lift/\qZ d r n=true:=by
 unfold SH; rw [Bool.and_eq_true,decide_eq_true_eq]
theorem Ho {t:TRoTask} (hv:kp t):∀ (L:List Int) (r:TTour) (m:Nat),YX t r m->m+L.length<=10->(∀ x∈L,0<=x/\x<t.Jobs.length)->V6 (yg t) r L=true->YX t (wD (yg t) r L) (m+L.length):=by
 intro L
 induction L with
 | nil=>intro r m hr _ _ _; exact hr
 | cons x L ih =>
  intro r m hr hm hx hc
  unfold V6 at hc
  rw [Bool.and_eq_true] at hc
  obtain ⟨x0,x1⟩:=hx x List.mem_cons_self
  rw [List.length_cons] at hm ⊢
  have v:=QW hv hr (by omega) x0 x1 (Jc.1 hc.1).2
  have:=ih _ _ v.1 (by omega) (fun y hy=>hx y (List.mem_cons_of_mem _ hy)) hc.2
  rw [show m+(L.length+1)=m+1+L.length by omega]
  exact this
theorem Jf {t:TRoTask} (hv:kp t) {r:TTour} {m:Nat} (hr:YX t r m) (hm:m<=10):-1000000000<=xi (yg t) r/\xi (yg t) r<=2000000000:=by
 obtain ⟨_,b1,b2⟩:=K6 hv hr
 obtain ⟨_,_,l1,l2,l3⟩:=L5 hv hr.lor
 have hp:=hr.price
 unfold xi
 split
 ·omega
 ·rw [i64 (n:=wm (yg t) r-r.RoLorry.From) (by omega)]
  have hy:-172800<=wm (yg t) r-r.RoLorry.From/\wm (yg t) r-r.RoLorry.From<=1000000:=by omega
  generalize wm (yg t) r-r.RoLorry.From=y at *
  have b:-172800000000<=y*r.RoLorry.PerHour/\y*r.RoLorry.PerHour<=1172800000000:=by
   have u1:(y+172800)*r.RoLorry.PerHour<=1172800*1000000:=Int.mul_le_mul (by omega) l3.2 l3.1 (by omega)
   have u2:0<=(y+172800)*r.RoLorry.PerHour:=Int.mul_nonneg (by omega) l3.1
   rw [Int.add_mul] at u1 u2
   generalize y*r.RoLorry.PerHour=z at *
   generalize r.RoLorry.PerHour=q at *
   omega
  generalize y*r.RoLorry.PerHour=z at b
  rw [i64 (n:=z) (by omega),i64 (n:=z+3599) (by omega)]
  have d1:(z+3599).tdiv 3600<=330000000 /\ -300000000<=(z+3599).tdiv 3600:=by
   rcases Int.lt_or_le (z+3599) 0 with hneg | hpos
   ·have e:(z+3599).tdiv 3600 = -((-(z+3599)) / 3600):=by
     rw [<- Int.tdiv_eq_ediv_of_nonneg (by omega),Int.neg_tdiv,Int.neg_neg]
    rw [e]; omega
   ·rw [Int.tdiv_eq_ediv_of_nonneg hpos]; omega
  generalize (z+3599).tdiv 3600=w at d1
  rw [i64 (n:=w) (by omega),i64 (n:=r.price+w) (by omega)]
  omega
def Xu (d:TDepot):Nat->List (List Int)->Int
 | _,[]=>0
 | i,L::P=>(wD d (yI d i) L).value+Xu d (i+1) P
def QP (d:TDepot):Nat->List (List Int)->Int
 | _,[]=>0
 | i,L::P=>xi d (wD d (yI d i) L)+QP d (i+1) P
def X7 (t:TRoTask) (P:List (List Int)):Prop:=∀ L∈P,L.length<=6/\∀ x∈L,0<=x/\x<t.Jobs.length
theorem QF {t:TRoTask} (hv:kp t) {i:Nat} (hi:i<t.Lorries.length) {D L:List Int} (hg:Sm (yg t) i D L) (hL:L.length<=6) (hx:∀ x∈L,0<=x/\x<t.Jobs.length) :
  YX t (wD (yg t) (yI (yg t) i) L) L.length/\(0<=(wD (yg t) (yI (yg t) i) L).value/\(wD (yg t) (yI (yg t) i) L).value<=6000000) /\ -1000000000<=xi (yg t) (wD (yg t) (yI (yg t) i) L)/\xi (yg t) (wD (yg t) (yI (yg t) i) L)<=2000000000:=by
 have r:=Ho hv L _ 0 (Qn hv hi) (by omega) hx hg.can
 rw [Nat.zero_add] at r
 have hval:=r.value
 exact ⟨r,⟨hval.1,by omega⟩,Jf hv r (by omega)⟩
theorem O9 {t:TRoTask} (hv:kp t):∀ (P:List (List Int)) (i:Nat) (D:List Int),i+P.length=t.Lorries.length->ue (yg t) i D P->X7 t P ->
  (0<=Xu (yg t) i P/\Xu (yg t) i P<=6000000*(P.length:Int)) /\ -1000000000*(P.length:Int)<=QP (yg t) i P/\QP (yg t) i P<=2000000000*(P.length:Int):=by
 intro P
 induction P with
 | nil=>intro i D _ _ _; exact ⟨⟨Int.le_refl _,by show (0:Int)<=6000000*0; omega⟩,by show -1000000000*0<=(0:Int); omega,by show (0:Int)<=2000000000*0; omega⟩
 | cons L P ih =>
  intro i D hl hg hP
  rw [List.length_cons] at hl
  obtain ⟨p1,p2⟩:=hP L List.mem_cons_self
  obtain ⟨_,v,c1,c2⟩:=QF hv (by omega) hg.1 p1 p2
  obtain ⟨s1,s2,s3⟩:=ih (i+1) _ (by omega) hg.2 (fun M hM=>hP M (List.mem_cons_of_mem _ hM))
  show (0<=_+Xu (yg t) (i+1) P/\_+Xu (yg t) (i+1) P<=_)/\_<=_+QP (yg t) (i+1) P/\_+QP (yg t) (i+1) P<=_
  rw [List.length_cons]
  omega
theorem J6 {t:TRoTask} (hv:kp t):∀ (P:List (List Int)) (i:Nat) (D:List Int) (a b:Int),i+P.length=t.Lorries.length->ue (yg t) i D P->X7 t P->0<=a->a<=100000000 -> -100000000000<=b->b<=100000000000 ->
  a+6000000*(P.length:Int)<=100000000->b+2000000000*(P.length:Int)<=100000000000 -> -100000000000<=b-1000000000*(P.length:Int)->Mz (yg t) i a P=a+Xu (yg t) i P/\Ny (yg t) i b P=b+QP (yg t) i P:=by
 intro P
 induction P with
 | nil=>intro i D a b _ _ _ _ _ _ _ _ _ _; exact ⟨by show a=a+0; omega,by show b=b+0; omega⟩
 | cons L P ih =>
  intro i D a b hl hg hP a0 a1 b0 b1 h1 h2 h3
  rw [List.length_cons] at hl h1 h2 h3
  obtain ⟨p1,p2⟩:=hP L List.mem_cons_self
  obtain ⟨_,v,c1,c2⟩:=QF hv (by omega) hg.1 p1 p2
  show Mz (yg t) (i+1) (IntKind.i64.wrap (a+(wD (yg t) (yI (yg t) i) L).value)) P=a+((wD (yg t) (yI (yg t) i) L).value+Xu (yg t) (i+1) P)/\Ny (yg t) (i+1) (IntKind.i64.wrap (b+xi (yg t) (wD (yg t) (yI (yg t) i) L))) P=b+(xi (yg t) (wD (yg t) (yI (yg t) i) L)+QP (yg t) (i+1) P)
  generalize (wD (yg t) (yI (yg t) i) L).value=y at *
  generalize xi (yg t) (wD (yg t) (yI (yg t) i) L)=z at *
  rw [i64 (n:=a+y) (by omega),i64 (n:=b+z) (by omega)]
  obtain ⟨e1,e2⟩:=ih (i+1) _ (a+y) (b+z) (by omega) hg.2 (fun M hM=>hP M (List.mem_cons_of_mem _ hM)) (by omega) (by omega) (by omega) (by omega) (by omega) (by omega) (by omega)
  rw [e1,e2]
  omega
theorem Xn {t:TRoTask} {plan:List (List Int)} (h:jv t plan=0):plan.length=t.Lorries.length:=by
 unfold jv at h
 by_cases he:(jx t).2.2≠0
 ·rw [if_pos he] at h; exact absurd h he
 rw [if_neg he] at h
 by_cases h1:plan.length≠t.Lorries.length
 ·rw [if_pos h1] at h; exact absurd h (by decide)
 exact Decidable.not_not.1 h1
theorem Mg {t:TRoTask} {plan:List (List Int)} (he:(jx t).2.2=0) (hl:plan.length=t.Lorries.length) (hp:X7 t plan):jv t plan=0:=by
 have hv:=Xv he
 have hjl:=hv.jl
 unfold jv
 rw [if_neg (by simp [he]),if_neg (by simp [hl])]
 have h1:plan.any wU=false:=by
  rw [List.any_eq_false]
  intro L hL
  have:=(hp L hL).1
  unfold wU
  rw [decide_eq_false (by omega)]; simp
 have h2:plan.flatten.any (qY t 0)=false:=by
  rw [List.any_eq_false]
  intro n hn
  obtain ⟨L,hL,hnL⟩:=List.mem_flatten.1 hn
  have:=(hp L hL).2 n hnL
  unfold qY
  rw [i64 (by omega),yU.2 ⟨this.1,by omega⟩]; simp
 rw [if_neg (by rw [h1]; simp),if_neg (by rw [h2]; simp)]
theorem Ti {t:TRoTask} {plan:List (List Int)} (h:jv t plan=0) (hg:ue (yg t) 0 [] plan):js t plan=(Xu (yg t) 0 plan,QP (yg t) 0 plan,0)/\X7 t plan:=by
 obtain ⟨hv,hp⟩:=Xm h
 have hl:=Xn h
 have hll:=hv.ll
 have hr:X7 t plan:=fun L hL=>⟨hp.small L hL,hp.jobs L hL⟩
 obtain ⟨e1,e2⟩:=J6 hv plan 0 [] 0 0 (by omega) hg hr (by omega) (by omega) (by omega) (by omega) (by omega) (by omega) (by omega)
 rw [KX h hg,e1,e2,Int.zero_add,Int.zero_add]
 exact ⟨rfl,hr⟩
theorem Mu {t:TRoTask} (h:t.Ok):vM t:=by
 obtain ⟨_,_,_,_,_,_,_,⟨hl,_⟩,⟨hj,_⟩⟩:=h
 exact ⟨fun x hx=>(hl x hx).1,fun x hx=>(hj x hx).1⟩
theorem ID:yk Tryz.prog 41=false:=by kernel_rfl
theorem Hf {d:Nat} {cs:List AV} (h:yJ Tryz.prog d 41 cs):∃ l:List Int,cs=[.slc 3 (ym l)]/\l.length*8<=reachBytes:=by
 obtain ⟨l,e,_,m,_⟩:=ja (g:=AV.int .i64) (w:=fun _=>True) (by kernel_rfl) (fun d p hp=>by
  obtain ⟨x,ex,_⟩:=yB (k:=.i64) (by kernel_rfl) hp
  subst ex
  exact ⟨x,by rw [show yk Tryz.prog 3=false by kernel_rfl,if_neg (by simp)]; rfl,trivial⟩) h
 rw [show Tryz.prog.bytesOf 3=8 by kernel_rfl] at m
 exact ⟨l,e,m⟩
theorem Hg {d:Nat} {cs:List AV} (h:yJ Tryz.prog d 32 cs):∃ P:List (List Int),cs=[.slc 3 (yz P)]:=by
 obtain ⟨P,e,_,_,_⟩:=ja (g:=fun x=>AV.slc 3 (ym x)) (w:=fun _=>True) (by kernel_rfl) (fun d p hp=>by
  obtain ⟨l,el,_⟩:=Hf hp
  subst el
  exact ⟨l,by rw [ID,if_neg (by simp)]; rfl,trivial⟩) h
 exact ⟨P,e⟩
def R16 (t:TRoTask) (_S:SpecF) (_Fr:FreshF) (_Sq:SeqF) (Q:yj):Prop :=
 (decide (IntKind.i64.wrap ((↑(List.map TRoJob.av t.Jobs).length:Int)+(↑(List.map TRoLorry.av t.Lorries).length:Int))>6)=true->(decide ((↑(List.map TRoJob.av t.Jobs).length:Int)<=(6:Int))=true->Q (.bool (decide ((↑(List.map TRoLorry.av t.Lorries).length:Int)<=(3:Int)))) [])/\(decide ((↑(List.map TRoJob.av t.Jobs).length:Int)<=(6:Int))=false->Q (.bool false) []))/\(decide (IntKind.i64.wrap ((↑(List.map TRoJob.av t.Jobs).length:Int)+(↑(List.map TRoLorry.av t.Lorries).length:Int))>6)=false->Q (.bool false) [])
theorem s16 (t:TRoTask) (v:AV) (O:List (List AV)) (h:R16 t Sp Fo So (fun r O'=>r=v/\O'=O)):Sp 16 [t.av] [] v O :=
 ye (w:=⟨[],[],[],[],[]⟩) (k:=0) (keep:=⟨[0,1,2],[],[],[]⟩) (boxes:=[]) mixed (by exact trivial) Tryz.func16 Tryz.call16 rfl rfl rfl (Nat.le_of_ble_eq_true rfl) (by kernel_rfl) h
end Go.Proofs.YtdeeekgohhkdbaaGreatDoor
