/- Contracts: the energy of items on some days; what meters say of it. Contracts: what the readings of a meter say. -/
import Derived.Test.YtblebiafhhhflaaGreatHm
namespace Go.Proofs.YtblebiafhhhflaaGreat
open Go.RowKit
def lampsS (t:TMtTask) (x:TMtItem) (first:Int):Nat → TSum
 | 0 => sum0
 | k + 1 => addS (lampsS t x first k) (oneS t x (IntKind.i64.wrap (first + (k:Nat)))).Encl 1
def memD (x:TMtItem) (first:Int) (L:List Int):Nat → List Int
 | 0 => L
 | k + 1 => memO x (memD x first L k) (IntKind.i64.wrap (first + (k:Nat)))
theorem memD_nodup {x:TMtItem} {first:Int} {L:List Int} (h:L.Nodup):∀ k,(memD x first L k).Nodup
 | 0 => h
 | k + 1 => memO_nodup (memD_nodup h k)
def R46 (t:TMtTask) (x:TMtItem) (first:Int) (days:Int) (M:List AV) (S:SpecF) (_Fr:FreshF) (_Sq:SeqF) (Q:AV → List (List AV) → Prop):Prop :=
 ∃ (I0:Nat → List AV → Prop),(∃ m2,I0 m2 [AV.int .i64 0,TEncl.zero.av,.agg [AV.iface 1000000 (.slc 3 M)]]) ∧ ∀ (m2:Nat) (n3 n4 n5:Int) (es6:List AV),I0 m2 [AV.int .i64 n3,.agg [AV.int .i64 n4,.int .i64 n5],.agg [AV.iface 1000000 (.slc 3 es6)]] → (decide (n3 < days) = true → ∃ n10 n11 es12,S 28 [AV.ref 0 0,x.av,.int .i64 (IntKind.i64.wrap (first + n3))] [(TAccount.mk t (.map 1)).cs,[AV.iface 1000000 (.slc 3 es6)]] (.agg [AV.int .i64 n10,.int .i64 n11]) [(TAccount.mk t (.map 1)).cs,[AV.iface 1000000 (.slc 3 es12)]] ∧ ∃ n14 n15,S 27 [AV.ref 0 0,.agg [AV.int .i64 n10,.int .i64 n11],.int .i64 1] [[AV.int .i64 n4,.int .i64 n5]] (.tup []) [[AV.int .i64 n14,.int .i64 n15]] ∧ (TAccount.mk t (.map 1)).cs = (TAccount.mk t (.map 1)).cs ∧ x.cs = x.cs ∧ ∃ k19,k19 < m2 ∧ I0 k19 [AV.int .i64 (IntKind.i64.wrap (n3 + 1)),.agg [AV.int .i64 n14,.int .i64 n15],.agg [AV.iface 1000000 (.slc 3 es12)]]) ∧ (decide (n3 < days) = false → Q (.agg [AV.int .i64 n4,.int .i64 n5]) [(TAccount.mk t (.map 1)).cs,[AV.iface 1000000 (.slc 3 es6)]])
theorem r46 (t:TMtTask) (x:TMtItem) (first:Int) (days:Int) (M:List AV) (S:SpecF) (Fr:FreshF) (Sq:SeqF) (Q:AV → List (List AV) → Prop):awpF Tryz.prog (mkS Tryz.prog S Fr Sq ⟨[],[],[1000028],[],[]⟩ 0) 2 ⟨[0,1,2,3,5,8,9,10,11,12],[⟨2,[(11,.int .i64 0)],[],[(8,.agg [.int .i64 0,.int .i64 0]),(1000001,.agg [.iface 1000000 (.slc 3 [])])],[],[]⟩],[],[]⟩ Tryz.f46 [.ref 0 0,x.av,.int .i64 first,.int .i64 days] [⟨113,false,(TAccount.mk t (.map 1)).cs⟩,⟨111,false,[.iface 1000000 (.slc 3 M)]⟩] Q = R46 t x first days M S Fr Sq Q:=by kernel_rfl
theorem s46 (t:TMtTask) (x:TMtItem) (first:Int) (days:Int) (M:List AV) (v:AV) (O:List (List AV)) (h:R46 t x first days M (SpecOf Tryz.prog) (FreshOf Tryz.prog) (SeqOf Tryz.prog) (fun r O' => r = v ∧ O' = O)):SpecOf Tryz.prog 46 [.ref 0 0,x.av,.int .i64 first,.int .i64 days] [(TAccount.mk t (.map 1)).cs,[.iface 1000000 (.slc 3 M)]] v O :=
 spec_by (boxes:=[⟨113,false,(TAccount.mk t (.map 1)).cs⟩,⟨111,false,[.iface 1000000 (.slc 3 M)]⟩]) mixed (by exact trivial) Tryz.func46 Tryz.call46 rfl rfl rfl (Nat.le_of_ble_eq_true rfl) (r46 t x first days M (SpecOf Tryz.prog) (FreshOf Tryz.prog) (SeqOf Tryz.prog) _) h
theorem c46 (t:TMtTask) (x:TMtItem) (hx:ItemOK t x) (first days:Int) (hd:days ≤ 2 ^ 62) (L:List Int) (hL:L.Nodup):Sp 46 [.ref 0 0,x.av,.int .i64 first,.int .i64 days] [(TAccount.mk t (.map 1)).cs,memA t.City L] (lampsS t x first days.toNat).av [(TAccount.mk t (.map 1)).cs,memA t.City (memD x first L days.toNat)]:=s46 t x first days (L.map (entN t.City)) _ _ (by
 unfold R46
 refine ⟨fun m vs => ∃ k:Nat,k ≤ days.toNat ∧ m = days.toNat - k ∧ vs = [.int .i64 (k:Nat),(lampsS t x first k).av,.agg (memA t.City (memD x first L k))],⟨_,0,by omega,rfl,rfl⟩,?_⟩
 rintro m n3 n4 n5 es6 ⟨k,hk,rfl,hv⟩
 generalize hs:lampsS t x first k = s at hv
 generalize hm:memD x first L k = L1 at hv
 cases hv
 refine ⟨fun h => ?_,fun h => ?_⟩
 ·have h:=of_decide_eq_true h
  have e:IntKind.i64.wrap ((k:Int) + 1) = ((k + 1:Nat):Int):=by rw [i64 (by omega)]; omega
  refine ⟨_,_,_,c28 t x hx _ L1 (hm ▸ memD_nodup hL k),_,_,c27 s _ 1,rfl,rfl,days.toNat - (k + 1),by omega,k + 1,by omega,rfl,?_⟩
  rw [e]
  unfold lampsS memD
  rw [hs,hm]; rfl
 ·have h:=of_decide_eq_false h
  have e:days.toNat = k:=by omega
  rw [e,hs,hm]
  exact ⟨rfl,rfl⟩)
def recS (t:TMtTask) (meter first:Int) (k:Nat) (s:TSum) (x:TMtItem):TSum:=if x.Meter == meter then addS s (lampsS t x first k).Encl x.Count else s
def reckS (t:TMtTask) (meter first:Int) (k:Nat):TSum:=t.Items.foldl (recS t meter first k) sum0
def memI (meter first:Int) (k:Nat) (L:List Int) (x:TMtItem):List Int:=if x.Meter == meter then memD x first L k else L
def memR (t:TMtTask) (meter first:Int) (k:Nat) (L:List Int):List Int:=t.Items.foldl (memI meter first k) L
theorem memI_nodup {meter first:Int} {k:Nat}:∀ (l:List TMtItem) {L:List Int},L.Nodup → (l.foldl (memI meter first k) L).Nodup
 | [],_,h => h
 | x :: r,L,h => memI_nodup r (by unfold memI; split; exact memD_nodup h k; exact h)
def R45 (t:TMtTask) (meter:Int) (first:Int) (days:Int) (M:List AV) (S:SpecF) (_Fr:FreshF) (_Sq:SeqF) (Q:AV → List (List AV) → Prop):Prop :=
 ∃ (I0:Nat → List AV → Prop),(∃ m2,I0 m2 [AV.int .i64 0,TEncl.zero.av,.agg [AV.iface 1000000 (.slc 3 M)]]) ∧ ∀ (m2:Nat) (n3 n4 n5:Int) (es6:List AV),I0 m2 [AV.int .i64 n3,.agg [AV.int .i64 n4,.int .i64 n5],.agg [AV.iface 1000000 (.slc 3 es6)]] → (decide (n3 < (↑(List.map TMtItem.av (TAccount.mk t (.map (1:Nat))).MtTask.Items).length:Int)) = true → ∃ s10 n11 n12 n13 n14 n15 n16 n17,((0:Int) ≤ n3 ∧ (8:Nat) = (8:Nat) ∧ (List.map TMtItem.av (TAccount.mk t (.map (1:Nat))).MtTask.Items)[n3.toNat]? = some (.agg [AV.str s10,.int .i64 n11,.int .i64 n12,.int .i64 n13,.int .i64 n14,.int .i64 n15,.int .i64 n16,.int .i64 n17])) ∧ ((n14 == meter) = true → ∃ n21 n22 es23,S 46 [AV.ref 0 0,.agg [AV.str s10,.int .i64 n11,.int .i64 n12,.int .i64 n13,.int .i64 n14,.int .i64 n15,.int .i64 n16,.int .i64 n17],.int .i64 first,.int .i64 days] [(TAccount.mk t (.map 1)).cs,[AV.iface 1000000 (.slc 3 es6)]] (.agg [AV.int .i64 n21,.int .i64 n22]) [(TAccount.mk t (.map 1)).cs,[AV.iface 1000000 (.slc 3 es23)]] ∧ ∃ n25 n26,S 27 [AV.ref 0 0,.agg [AV.int .i64 n21,.int .i64 n22],.int .i64 n12] [[AV.int .i64 n4,.int .i64 n5]] (.tup []) [[AV.int .i64 n25,.int .i64 n26]] ∧ (TAccount.mk t (.map 1)).cs = (TAccount.mk t (.map 1)).cs ∧ ∃ k29,k29 < m2 ∧ I0 k29 [AV.int .i64 (IntKind.i64.wrap (n3 + 1)),.agg [AV.int .i64 n25,.int .i64 n26],.agg [AV.iface 1000000 (.slc 3 es23)]]) ∧ ((n14 == meter) = false → (TAccount.mk t (.map 1)).cs = (TAccount.mk t (.map 1)).cs ∧ ∃ k22,k22 < m2 ∧ I0 k22 [AV.int .i64 (IntKind.i64.wrap (n3 + 1)),.agg [AV.int .i64 n4,.int .i64 n5],.agg [AV.iface 1000000 (.slc 3 es6)]])) ∧ (decide (n3 < (↑(List.map TMtItem.av (TAccount.mk t (.map (1:Nat))).MtTask.Items).length:Int)) = false → Q (.agg [AV.int .i64 n4,.int .i64 n5]) [(TAccount.mk t (.map 1)).cs,[AV.iface 1000000 (.slc 3 es6)]])
theorem r45 (t:TMtTask) (meter:Int) (first:Int) (days:Int) (M:List AV) (S:SpecF) (Fr:FreshF) (Sq:SeqF) (Q:AV → List (List AV) → Prop):awpF Tryz.prog (mkS Tryz.prog S Fr Sq ⟨[],[],[1000046,999000046,999000027],[],[]⟩ 0) 2 ⟨[0,1,2,3,8,10,15,16,17,18,24],[⟨2,[(17,.int .i64 0)],[],[(8,.agg [.int .i64 0,.int .i64 0]),(1000001,.agg [.iface 1000000 (.slc 3 [])])],[],[]⟩],[],[]⟩ Tryz.f45 [.ref 0 0,.int .i64 meter,.int .i64 first,.int .i64 days] [⟨113,false,(TAccount.mk t (.map 1)).cs⟩,⟨111,false,[.iface 1000000 (.slc 3 M)]⟩] Q = R45 t meter first days M S Fr Sq Q:=by kernel_rfl
theorem s45 (t:TMtTask) (meter:Int) (first:Int) (days:Int) (M:List AV) (v:AV) (O:List (List AV)) (h:R45 t meter first days M (SpecOf Tryz.prog) (FreshOf Tryz.prog) (SeqOf Tryz.prog) (fun r O' => r = v ∧ O' = O)):SpecOf Tryz.prog 45 [.ref 0 0,.int .i64 meter,.int .i64 first,.int .i64 days] [(TAccount.mk t (.map 1)).cs,[.iface 1000000 (.slc 3 M)]] v O :=
 spec_by (boxes:=[⟨113,false,(TAccount.mk t (.map 1)).cs⟩,⟨111,false,[.iface 1000000 (.slc 3 M)]⟩]) mixed (by exact trivial) Tryz.func45 Tryz.call45 rfl rfl rfl (Nat.le_of_ble_eq_true rfl) (r45 t meter first days M (SpecOf Tryz.prog) (FreshOf Tryz.prog) (SeqOf Tryz.prog) _) h
theorem c45 (t:TMtTask) (ht:∀ x ∈ t.Items,ItemOK t x) (hn:t.Items.length ≤ 2 ^ 62) (meter first days:Int) (hd:days ≤ 2 ^ 62) (L:List Int) (hL:L.Nodup):Sp 45 [.ref 0 0,.int .i64 meter,.int .i64 first,.int .i64 days] [(TAccount.mk t (.map 1)).cs,memA t.City L] (reckS t meter first days.toNat).av [(TAccount.mk t (.map 1)).cs,memA t.City (memR t meter first days.toNat L)]:=s45 t meter first days (L.map (entN t.City)) _ _ (by
 unfold R45
 refine ⟨fun m vs => ∃ k:Nat,k ≤ t.Items.length ∧ m = t.Items.length - k ∧ vs = [.int .i64 (k:Nat),((t.Items.take k).foldl (recS t meter first days.toNat) sum0).av,.agg (memA t.City ((t.Items.take k).foldl (memI meter first days.toNat) L))],⟨_,0,by omega,rfl,rfl⟩,?_⟩
 rintro m n3 n4 n5 es6 ⟨k,hk,rfl,hv⟩
 generalize hs:(t.Items.take k).foldl (recS t meter first days.toNat) sum0 = s at hv
 generalize hm:(t.Items.take k).foldl (memI meter first days.toNat) L = L1 at hv
 cases hv
 dsimp only
 rw [List.length_map]
 refine ⟨fun h => ?_,fun h => ?_⟩
 ·have h:=of_decide_eq_true h
  obtain ⟨x,hx,hx'⟩:=map_getN (f:=TMtItem.av) (l:=t.Items) (k:=k) (by omega)
  have e:IntKind.i64.wrap ((k:Int) + 1) = ((k + 1:Nat):Int):=by rw [i64 (by omega)]; omega
  have e1:(t.Items.take (k + 1)).foldl (recS t meter first days.toNat) sum0 = recS t meter first days.toNat s x:=by rw [foldTake hx,hs]
  have e2:(t.Items.take (k + 1)).foldl (memI meter first days.toNat) L = memI meter first days.toNat L1 x:=by rw [foldTake hx,hm]
  refine ⟨x.Name,x.Lamp,x.Count,x.Profile,x.Meter,x.Declared,x.From,x.Until,⟨by omega,rfl,hx'⟩,fun h2 => ?_,fun h2 => ⟨rfl,t.Items.length - (k + 1),by omega,k + 1,by omega,rfl,?_⟩⟩
  ·refine ⟨_,_,_,c46 t x (ht x (List.mem_of_getElem? hx)) first days hd L1 (hm ▸ memI_nodup _ hL),_,_,c27 s _ x.Count,rfl,t.Items.length - (k + 1),by omega,k + 1,by omega,rfl,?_⟩
   rw [e,e1,e2]
   unfold recS memI
   rw [if_pos h2,if_pos h2]; rfl
  ·rw [e,e1,e2]
   unfold recS memI
   rw [if_neg (by simp [h2]),if_neg (by simp [h2])]; rfl
 ·have h:=of_decide_eq_false h
  rw [List.take_of_length_le (by omega)] at hs hm
  unfold reckS memR
  rw [hs,hm]
  exact ⟨rfl,rfl⟩)
def daysP (p:TPair):Int:=IntKind.i64.wrap (p.b.Day - p.a.Day)
end Go.Proofs.YtblebiafhhhflaaGreat
namespace Go.Proofs.YtblebiafhhhflaaGreat
open Go.RowKit
section
variable {α:Type} {f:α → AV} {g:α → List AV} {k:Nat}
theorem chunkM (hf:∀ x,f x = .agg (g x)) (hk:∀ x,(g x).length = k) (ho:∀ x,ones (g x) = true) (l:List α):chunks k true (l.map f).length (List.drop 0 (List.flatMap AV.cells (l.map f))) = l.map f:=by
 simp only [chunks,if_true,List.drop_zero,List.length_map]; exact (flat_map hf hk ho l).2.2.2
theorem nextM (hf:∀ x,f x = .agg (g x)) (l:List α) (x:α):((l ++ [x]).map f).length = (l.map f).length + 1 ∧ List.flatMap AV.cells ((l ++ [x]).map f) = List.flatMap AV.cells (l.map f) ++ g x:=by
 refine ⟨by simp,?_⟩
 rw [List.map_append,List.flatMap_append]
 simp [hf,AV.cells]
end
def ReadP (m:TMtMeter) (l:List TMtReading) (bf:Option TMtReading):Prop:=(∀ r ∈ l,daylessB r.Day = false ∧ outB r.Value 0 (IntKind.i64.wrap (m.Modulus - 1)) = false) ∧
  (∀ b,bf = some b → ∀ r,l[0]? = some r → outB (IntKind.i64.wrap (r.Day - b.Day)) 1 200 = false) ∧ ∀ i a b,l[i]? = some a → l[i + 1]? = some b → outB (IntKind.i64.wrap (b.Day - a.Day)) 1 200 = false
theorem readE_all {m:TMtMeter}:∀ {l:List TMtReading} {bf:Option TMtReading},readE m bf l = 0 → ReadP m l bf
 | [],bf,_ => ⟨fun r h => (by cases h),fun b _ r h => (by cases h),fun i a b h => (by simp at h)⟩
 | r :: l,bf,h => by
  unfold readE at h
  split at h
  ·cases h
  rename_i h1
  split at h
  ·cases h
  rename_i h2
  have h1:daylessB r.Day = false:=by simpa using h1
  have h2:outB r.Value 0 (IntKind.i64.wrap (m.Modulus - 1)) = false:=by simpa using h2
  have key:readE m (some r) l = 0 → (∀ b,bf = some b → outB (IntKind.i64.wrap (r.Day - b.Day)) 1 200 = false) → ReadP m (r :: l) bf:=fun h hb => by
   obtain ⟨k1,k2,k3⟩:=readE_all h
   refine ⟨fun x hx => ?_,fun b hbf x hx => ?_,fun i a b ha hb => ?_⟩
   ·rcases List.mem_cons.1 hx with rfl | hx
    ·exact ⟨h1,h2⟩
    ·exact k1 x hx
   ·simp only [List.getElem?_cons_zero,Option.some.injEq] at hx
    subst hx; exact hb b hbf
   ·cases i with
    | zero =>
     simp only [List.getElem?_cons_zero,Option.some.injEq] at ha
     subst ha
     exact k2 _ rfl b (by simpa using hb)
    | succ i => exact k3 i a b (by simpa using ha) (by simpa using hb)
  split at h
  ·exact key h (by simp)
  ·rename_i b
   split at h
   ·cases h
   rename_i h3
   exact key h (fun b' hb' => by cases hb'; simpa using h3)
structure PairV (p:TPair):Prop where
 meter:MeterV p.MtMeter
 day:2 ≤ p.a.Day ∧ p.b.Day ≤ 39998
 gap:1 ≤ p.b.Day - p.a.Day ∧ p.b.Day - p.a.Day ≤ 200
 va:0 ≤ p.a.Value ∧ p.a.Value < p.MtMeter.Modulus
 vb:0 ≤ p.b.Value ∧ p.b.Value < p.MtMeter.Modulus
theorem MeterV.pair {m:TMtMeter} (h:MeterV m) {i:Nat} {a b:TMtReading} (ha:m.Readings[i]? = some a) (hb:m.Readings[i + 1]? = some b):PairV ⟨m,a,b⟩:=by
 obtain ⟨h1,_,h3⟩:=readE_all h.reads
 have hm:=h.modulus
 have a1:=h1 a (List.mem_of_getElem? ha)
 have b1:=h1 b (List.mem_of_getElem? hb)
 have g:=outF.1 (h3 i a b ha hb)
 have ad:=outF.1 a1.1
 have bd:=outF.1 b1.1
 rw [i64 (by omega)] at g
 have av:=outF.1 a1.2
 have bv:=outF.1 b1.2
 rw [i64 (by omega)] at av bv
 exact ⟨h,⟨ad.1,bd.2⟩,g,by simp only; omega,by simp only; omega⟩
theorem PairV.days {p:TPair} (h:PairV p):daysP p = p.b.Day - p.a.Day:=i64 (by have:=h.gap; omega)
end Go.Proofs.YtblebiafhhhflaaGreat
