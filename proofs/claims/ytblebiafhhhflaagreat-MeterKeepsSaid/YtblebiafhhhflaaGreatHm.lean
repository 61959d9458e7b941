/- Plain laws: what holds of an inventory without errors. Contracts: the energy of an item, and how long its lamps burn. Contracts: what is metered; the inventory of the examples. -/
import Derived.Test.YtblebiafhhhflaaGreatHj
namespace Go.Proofs.YtblebiafhhhflaaGreat
open Go.RowKit
theorem outF {n lo hi:Int}:outB n lo hi = false ↔ lo ≤ n ∧ n ≤ hi:=by
 unfold outB
 simp only [Bool.or_eq_false_iff,decide_eq_false_iff_not]
 omega
theorem firstE_all {e:Nat → Int}:∀ {k i:Nat},(∀ j,i ≤ j → j < i + k → e j = 0) → firstE e k i = (0,0):=by
 intro k
 induction k with
 | zero => intro i _; rfl
 | succ k ih =>
  intro i h
  unfold firstE
  rw [if_neg (by rw [h i (by omega) (by omega)]; simp)]
  exact ih fun j h1 h2 => h j (by omega) (by omega)
theorem nodup_take {α:Type} {l:List α} (h:∀ i x,l[i]? = some x → x ∉ l.take i):l.Nodup:=by
 refine List.pairwise_iff_getElem.2 fun i j hi hj hij he => ?_
 refine h j l[j] (List.getElem?_eq_getElem hj) ?_
 exact List.mem_of_getElem? (i:=i) (by rw [List.getElem?_take_of_lt hij,List.getElem?_eq_getElem hi,he])
section
variable {α:Type} {nm:α → ByteArray} {rest:α → Int} {l:List α}
theorem errM_zero (h:(firstE (errM nm rest l) l.length 0).2 = 0):(∀ x ∈ l,nameB (nm x) = true ∧ rest x = 0) ∧ (l.map nm).Nodup:=by
 have hi:∀ i x,l[i]? = some x → nameB (nm x) = true ∧ nm x ∉ (l.take i).map nm ∧ rest x = 0:=by
  intro i x hx
  have hl:=(List.getElem?_eq_some_iff.1 hx).1
  have h0:=firstE_ok h i (by omega) (by omega)
  rw [errM_some hx] at h0
  split at h0
  ·simp at h0
  ·rename_i hn
   split at h0
   ·simp at h0
   ·rename_i hh
    exact ⟨by simpa using hn,hasB_not.1 (by simpa using hh),h0⟩
 refine ⟨fun x hx => ?_,nodup_take fun i s hs => ?_⟩
 ·obtain ⟨i,hx⟩:=List.mem_iff_getElem?.1 hx
  exact ⟨(hi i x hx).1,(hi i x hx).2.2⟩
 ·rw [List.getElem?_map] at hs
  obtain ⟨x,hx,rfl⟩:=Option.map_eq_some_iff.1 hs
  rw [← List.map_take]
  exact (hi i x hx).2.1
theorem nodup_notTake {β:Type} {l:List β} (h:l.Nodup) {i:Nat} {x:β} (hx:l[i]? = some x):x ∉ l.take i:=by
 intro hm
 obtain ⟨j,hj⟩:=List.mem_iff_getElem?.1 hm
 have hlt:j < i:=by have:=(List.getElem?_eq_some_iff.1 hj).1; rw [List.length_take] at this; omega
 rw [List.getElem?_take_of_lt hlt] at hj
 have:j = i:=(List.getElem?_inj (List.getElem?_eq_some_iff.1 hj).1 h).1 (hj.trans hx.symm)
 omega
theorem errM_good (h1:∀ x ∈ l,nameB (nm x) = true ∧ rest x = 0) (h2:(l.map nm).Nodup):firstE (errM nm rest l) l.length 0 = (0,0):=by
 refine firstE_all fun i _ hi => ?_
 obtain ⟨x,hx⟩:∃ x,l[i]? = some x:=⟨_,List.getElem?_eq_getElem (by omega)⟩
 have hm:=h1 x (List.mem_of_getElem? hx)
 rw [errM_some hx,if_neg (by simp [hm.1])]
 have:hasB ((l.take i).map nm) (nm x) = false:=hasB_not.2 (by
  rw [List.map_take]; exact nodup_notTake h2 (by rw [List.getElem?_map,hx]; rfl))
 rw [if_neg (by rw [this]; decide)]
 exact hm.2
end
structure TaskV (t:TMtTask):Prop where
 city:cityB t.City = false
 cat:(catR t.Catalog).2.2 = 0
 np:t.Profiles.length ≤ 6
 ni:t.Items.length ≤ 20
 nm:t.Meters.length ≤ 4
 pr:(firstE (errM TMtProfile.Name profE t.Profiles) t.Profiles.length 0).2 = 0
 me:(firstE (errM TMtMeter.Name meterE t.Meters) t.Meters.length 0).2 = 0
 it:(firstE (errM TMtItem.Name (itemE t) t.Items) t.Items.length 0).2 = 0
theorem taskV_of {t:TMtTask} (h:(taskR t).2.2 = 0):TaskV t:=by
 unfold taskR at h
 split at h
 ·simp at h
 rename_i h1
 split at h
 ·rename_i h2; exact absurd h h2
 rename_i h2
 split at h
 ·simp at h
 split at h
 ·simp at h
 split at h
 ·simp at h
 split at h
 ·rename_i h3; exact absurd h h3
 rename_i h3
 split at h
 ·rename_i h4; exact absurd h h4
 rename_i h4
 split at h
 ·rename_i h5; exact absurd h h5
 rename_i h5
 exact ⟨by simpa using h1,Decidable.byContradiction h2,by omega,by omega,by omega,Decidable.byContradiction h3,Decidable.byContradiction h4,Decidable.byContradiction h5⟩
theorem TaskV.to {t:TMtTask} (h:TaskV t):taskR t = (0,0,0):=by
 unfold taskR
 rw [if_neg (by simp [h.city]),if_neg (by simp [h.cat]),if_neg (by have:=h.np; omega),if_neg (by have:=h.ni; omega),if_neg (by have:=h.nm; omega),if_neg (by simp [h.pr]),if_neg (by simp [h.me]),if_neg (by simp [h.it])]
theorem TaskV.prof {t:TMtTask} (h:TaskV t) {p:TMtProfile} (hp:p ∈ t.Profiles):1 ≤ p.Steps.length ∧ p.Steps.length ≤ 8 ∧ validF p.Steps true (-1) 1000 = true:=by
 have:=((errM_zero h.pr).1 p hp).2
 unfold profE at this
 split at this
 ·simp at this
 rename_i h1
 split at this
 ·rename_i h2
  have h1:outB p.Steps.length 1 8 = false:=by simpa using h1
  have:=outF.1 h1
  exact ⟨by omega,by omega,h2⟩
 ·simp at this
structure ItemV (t:TMtTask) (x:TMtItem):Prop where
 lamp:0 ≤ x.Lamp ∧ x.Lamp < t.Catalog.Lamps.length
 prof:0 ≤ x.Profile ∧ x.Profile < t.Profiles.length
 meter:-1 ≤ x.Meter ∧ x.Meter < t.Meters.length
 count:1 ≤ x.Count ∧ x.Count ≤ 1000
 decl:0 ≤ x.Declared ∧ x.Declared ≤ 500000
 until':0 ≤ x.Until ∧ x.Until ≤ 40000
 from':0 ≤ x.From ∧ x.From ≤ x.Until
theorem itemV_iff {t:TMtTask} {x:TMtItem} (hl:t.Catalog.Lamps.length ≤ 2 ^ 62) (hp:t.Profiles.length ≤ 2 ^ 62) (hm:t.Meters.length ≤ 2 ^ 62):itemE t x = 0 ↔ ItemV t x:=by
 have e1:IntKind.i64.wrap ((t.Catalog.Lamps.length:Int) - 1) = t.Catalog.Lamps.length - 1:=i64 (by omega)
 have e2:IntKind.i64.wrap ((t.Profiles.length:Int) - 1) = t.Profiles.length - 1:=i64 (by omega)
 have e3:IntKind.i64.wrap ((t.Meters.length:Int) - 1) = t.Meters.length - 1:=i64 (by omega)
 unfold itemE
 rw [e1,e2,e3]
 constructor
 ·intro h
  have key:∀ {b:Bool} {n r:Int},n ≠ 0 → (if b = true then n else r) = 0 → b = false ∧ r = 0:=by
   intro b n r hn h
   cases b with
   | true => exact absurd h hn
   | false => exact ⟨rfl,by simpa using h⟩
  obtain ⟨h1,h⟩:=key (by decide) h
  obtain ⟨h2,h⟩:=key (by decide) h
  obtain ⟨h3,h⟩:=key (by decide) h
  obtain ⟨h4,h⟩:=key (by decide) h
  obtain ⟨h5,h⟩:=key (by decide) h
  obtain ⟨h6,h⟩:=key (by decide) h
  obtain ⟨h7,h⟩:=key (by decide) h
  have h1:=outF.1 h1
  have h2:=outF.1 h2
  have h3:=outF.1 h3
  exact ⟨by omega,by omega,by omega,outF.1 h4,outF.1 h5,outF.1 h6,outF.1 h7⟩
 ·rintro ⟨h1,h2,h3,h4,h5,h6,h7⟩
  rw [if_neg (by rw [outF.2 ⟨h1.1,by omega⟩]; simp),if_neg (by rw [outF.2 ⟨h2.1,by omega⟩]; simp),if_neg (by rw [outF.2 ⟨h3.1,by omega⟩]; simp),if_neg (by rw [outF.2 h4]; simp),if_neg (by rw [outF.2 h5]; simp),if_neg (by rw [outF.2 h6]; simp),if_neg (by rw [outF.2 h7]; simp)]
theorem catV_len {c:TLmCatalog} (h:(catR c).2.2 = 0):c.Tables.length ≤ 10 ∧ c.Lamps.length ≤ 20:=by
 unfold catR at h
 split at h
 ·simp at h
 split at h
 ·simp at h
 omega
theorem TaskV.lens {t:TMtTask} (h:TaskV t):t.Catalog.Lamps.length ≤ 2 ^ 62 ∧ t.Profiles.length ≤ 2 ^ 62 ∧ t.Meters.length ≤ 2 ^ 62:=by
 have:=catV_len h.cat
 have:=h.np
 have:=h.nm
 omega
theorem TaskV.item {t:TMtTask} (h:TaskV t) {x:TMtItem} (hx:x ∈ t.Items):ItemV t x :=
 (itemV_iff h.lens.1 h.lens.2.1 h.lens.2.2).1 ((errM_zero h.it).1 x hx).2
theorem profAt_mem {t:TMtTask} {k:Int} (h:0 ≤ k ∧ k < t.Profiles.length):profAt t k ∈ t.Profiles:=by
 unfold profAt
 rw [List.getElem?_eq_getElem (by omega),Option.getD_some]
 exact List.getElem_mem _
theorem TaskV.itemOK {t:TMtTask} (h:TaskV t) (hc:CatOK t.Catalog) {x:TMtItem} (hx:x ∈ t.Items):ItemOK t x:=by
 have hv:=h.item hx
 have:=h.prof (profAt_mem hv.prof)
 exact ⟨hc,hv.prof,this.1,by omega⟩
structure MeterV (m:TMtMeter):Prop where
 step:1 ≤ m.Step ∧ m.Step ≤ 1000000
 modulus:2 ≤ m.Modulus ∧ m.Modulus ≤ 1000000000
 error:0 ≤ m.Error ∧ m.Error ≤ 100
 number:m.Readings.length ≤ 30
 reads:readE m none m.Readings = 0
theorem meterV_of {m:TMtMeter} (h:meterE m = 0):MeterV m:=by
 unfold meterE at h
 have key:∀ {b:Bool} {n r:Int},n ≠ 0 → (if b = true then n else r) = 0 → b = false ∧ r = 0:=by
  intro b n r hn h
  cases b with
  | true => exact absurd h hn
  | false => exact ⟨rfl,by simpa using h⟩
 obtain ⟨h1,h⟩:=key (by decide) h
 obtain ⟨h2,h⟩:=key (by decide) h
 obtain ⟨h3,h⟩:=key (by decide) h
 obtain ⟨h4,h⟩:=key (by decide) h
 exact ⟨outF.1 h1,outF.1 h2,outF.1 h3,by have:=of_decide_eq_false h4; omega,h⟩
theorem TaskV.meter {t:TMtTask} (h:TaskV t) {m:TMtMeter} (hm:m ∈ t.Meters):MeterV m:=meterV_of ((errM_zero h.me).1 m hm).2
end Go.Proofs.YtblebiafhhhflaaGreat
namespace Go.Proofs.YtblebiafhhhflaaGreat
open Go.RowKit
def withE (e:Int) (o:Bool):Int:=if (e == 0 && o) = true then 4 else e
theorem withE_out {e:Int} {o:Bool} (h:(e == 0) = true) (ho:o = true):withE e o = 4:=by unfold withE; rw [h,ho]; rfl
theorem withE_in {e:Int} {o:Bool} (ho:o = false):withE e o = e:=by unfold withE; rw [ho,Bool.and_false]; rfl
theorem withE_bad {e:Int} {o:Bool} (h:(e == 0) = false):withE e o = e:=by unfold withE; rw [h]; rfl
theorem withE_zero {e:Int} {o:Bool} (h:withE e o = 0):e = 0 ∧ o = false:=by
 unfold withE at h
 split at h
 ·simp at h
 ·rename_i hn
  subst h
  exact ⟨rfl,by simpa using hn⟩
def accE (t:TMtTask) (i lo:Int) (n:Nat):Int:=withE (taskR t).2.2 (outB i lo (IntKind.i64.wrap ((n:Int) - 1)))
theorem accE_zero {t:TMtTask} {i lo:Int} {n:Nat} (hn:n ≤ 2 ^ 62) (h:accE t i lo n = 0):TaskV t ∧ lo ≤ i ∧ i < n:=by
 obtain ⟨h1,h2⟩:=withE_zero h
 have e:IntKind.i64.wrap ((n:Int) - 1) = n - 1:=i64 (by omega)
 rw [e] at h2
 have:=outF.1 h2
 exact ⟨taskV_of h1,this.1,by omega⟩
theorem accE_good {t:TMtTask} {i lo:Int} {n:Nat} (hn:n ≤ 2 ^ 62) (ht:TaskV t) (h1:lo ≤ i) (h2:i < n):accE t i lo n = 0:=by
 have e:IntKind.i64.wrap ((n:Int) - 1) = n - 1:=i64 (by omega)
 unfold accE
 rw [e,withE_in (outF.2 ⟨h1,by omega⟩),ht.to]
def noItem:TMtItem:=⟨ByteArray.mk #[],0,0,0,0,0,0,0⟩
def itemAt (t:TMtTask) (i:Int):TMtItem:=(t.Items[i.toNat]?).getD noItem
theorem item_get {t:TMtTask} {i:Int} (h0:0 ≤ i) (h1:i < t.Items.length):t.Items[i.toNat]? = some (itemAt t i) ∧ itemAt t i ∈ t.Items ∧ (List.map TMtItem.av t.Items)[i.toNat]? = some (itemAt t i).av:=by
 have e:t.Items[i.toNat]? = some (itemAt t i):=by
  unfold itemAt; rw [List.getElem?_eq_getElem (by omega)]; rfl
 exact ⟨e,List.mem_of_getElem? e,by rw [List.getElem?_map,e]; rfl⟩
def energyE (t:TMtTask) (x:TMtItem) (day:Int):TEncl:=(addS sum0 (oneS t x day).Encl x.Count).Encl
def energyR (t:TMtTask) (item day:Int):TEncl × Int :=
 if accE t item 0 t.Items.length ≠ 0 then (⟨0,0⟩,accE t item 0 t.Items.length) else if daylessB day then (⟨0,0⟩,7) else (energyE t (itemAt t item) day,0)
def R10 (t:TMtTask) (item:Int) (day:Int) (S:SpecF) (_Fr:FreshF) (_Sq:SeqF) (Q:AV → List (List AV) → Prop):Prop :=
 ∃ n0 n1 n2,S 52 [t.av] [] (.tup [AV.int .i64 n0,.int .i64 n1,.int .i64 n2]) [] ∧ ∃ (J4:List AV → Prop),(((n2 == 0) = true → ∃ b8,S 38 [AV.int .i64 item,.int .i64 0,.int .i64 (IntKind.i64.wrap ((↑(List.map TMtItem.av t.Items).length:Int) - (1:Int)))] [] (.bool b8) [] ∧ (b8 = true → t.cs = t.cs ∧ TEncl.z0 = TEncl.z0 ∧ t.cs = t.cs ∧ t.cs = t.cs ∧ Same [AV.iface 1000000 (.slc 3 [])] ∧ Same [AV.int .i64 t.City.Lat,.int .i64 t.City.Lon,.int .i64 t.City.Zone,.int .i64 t.City.Altitude.Lo,.int .i64 t.City.Altitude.Hi,.slc 3 (List.map TLmTable.av t.Catalog.Tables),.slc 3 (List.map TLmLamp.av t.Catalog.Lamps),.slc 3 (List.map TMtProfile.av t.Profiles),.slc 3 (List.map TMtItem.av t.Items),.slc 3 (List.map TMtMeter.av t.Meters),.map ((91:Nat) + (14:Nat))] ∧ J4 [AV.int .i64 4]) ∧ (b8 = false → t.cs = t.cs ∧ TEncl.z0 = TEncl.z0 ∧ t.cs = t.cs ∧ t.cs = t.cs ∧ Same [AV.iface 1000000 (.slc 3 [])] ∧ Same [AV.int .i64 t.City.Lat,.int .i64 t.City.Lon,.int .i64 t.City.Zone,.int .i64 t.City.Altitude.Lo,.int .i64 t.City.Altitude.Hi,.slc 3 (List.map TLmTable.av t.Catalog.Tables),.slc 3 (List.map TLmLamp.av t.Catalog.Lamps),.slc 3 (List.map TMtProfile.av t.Profiles),.slc 3 (List.map TMtItem.av t.Items),.slc 3 (List.map TMtMeter.av t.Meters),.map ((91:Nat) + (14:Nat))] ∧ J4 [AV.int .i64 n2])) ∧ ((n2 == 0) = false → t.cs = t.cs ∧ TEncl.z0 = TEncl.z0 ∧ t.cs = t.cs ∧ t.cs = t.cs ∧ Same [AV.iface 1000000 (.slc 3 [])] ∧ Same [AV.int .i64 t.City.Lat,.int .i64 t.City.Lon,.int .i64 t.City.Zone,.int .i64 t.City.Altitude.Lo,.int .i64 t.City.Altitude.Hi,.slc 3 (List.map TLmTable.av t.Catalog.Tables),.slc 3 (List.map TLmLamp.av t.Catalog.Lamps),.slc 3 (List.map TMtProfile.av t.Profiles),.slc 3 (List.map TMtItem.av t.Items),.slc 3 (List.map TMtMeter.av t.Meters),.map ((91:Nat) + (14:Nat))] ∧ J4 [AV.int .i64 n2])) ∧ ∀ (n6:Int),J4 [AV.int .i64 n6] → ((n6 != 0) = true → Q (.tup [TEncl.zero.av,.int .i64 n6]) []) ∧ ((n6 != 0) = false → ∃ b10,S 26 [AV.int .i64 day] [] (.bool b10) [] ∧ (b10 = true → Q (.tup [TEncl.zero.av,.int .i64 7]) []) ∧ (b10 = false → ∃ s14 n15 n16 n17 n18 n19 n20 n21,((0:Int) ≤ item ∧ (8:Nat) = (8:Nat) ∧ (List.map TMtItem.av t.Items)[item.toNat]? = some (.agg [AV.str s14,.int .i64 n15,.int .i64 n16,.int .i64 n17,.int .i64 n18,.int .i64 n19,.int .i64 n20,.int .i64 n21])) ∧ ∃ n23 n24 es25,S 28 [AV.ref 0 0,.agg [AV.str s14,.int .i64 n15,.int .i64 n16,.int .i64 n17,.int .i64 n18,.int .i64 n19,.int .i64 n20,.int .i64 n21],.int .i64 day] [(TAccount.mk t (.map 1)).cs,[AV.iface 1000000 (.slc 3 [])]] (.agg [AV.int .i64 n23,.int .i64 n24]) [(TAccount.mk t (.map 1)).cs,[AV.iface 1000000 (.slc 3 es25)]] ∧ ∃ s27 n28 n29 n30 n31 n32 n33 n34,((0:Int) ≤ item ∧ (8:Nat) = (8:Nat) ∧ (List.map TMtItem.av t.Items)[item.toNat]? = some (.agg [AV.str s27,.int .i64 n28,.int .i64 n29,.int .i64 n30,.int .i64 n31,.int .i64 n32,.int .i64 n33,.int .i64 n34])) ∧ ∃ n36 n37,S 27 [AV.ref 0 0,.agg [AV.int .i64 n23,.int .i64 n24],.int .i64 n29] [TEncl.zero.cs] (.tup []) [[AV.int .i64 n36,.int .i64 n37]] ∧ Q (.tup [AV.agg [AV.int .i64 n36,.int .i64 n37],.int .i64 0]) []))
theorem r10 (t:TMtTask) (item:Int) (day:Int) (S:SpecF) (Fr:FreshF) (Sq:SeqF) (Q:AV → List (List AV) → Prop):awpF Tryz.prog (mkS Tryz.prog S Fr Sq ⟨[],[],[999000028,999000027,1000028],[(25,⟨[0,1,2,3,4,8,9,10,11,25],[],[⟨4,[(11,.int .i64 0)],[],[],[],[]⟩],[]⟩),(62,⟨[0,1,2,3,6],[],[],[]⟩)],[]⟩ 4) 0 ⟨[0,1,2,3,6,7,8,9,10,20,25],[],[],[]⟩ Tryz.f10 [t.av,.int .i64 item,.int .i64 day] [] Q = R10 t item day S Fr Sq Q:=by kernel_rfl
theorem s10 (t:TMtTask) (item:Int) (day:Int) (v:AV) (O:List (List AV)) (h:R10 t item day (SpecOf Tryz.prog) (FreshOf Tryz.prog) (SeqOf Tryz.prog) (fun r O' => r = v ∧ O' = O)):SpecOf Tryz.prog 10 [t.av,.int .i64 item,.int .i64 day] [] v O :=
 spec_by (boxes:=[]) mixed (by exact ⟨Tryz.call25,⟨Tryz.call62,trivial⟩⟩) Tryz.func10 Tryz.call10 rfl rfl rfl (Nat.le_of_ble_eq_true rfl) (r10 t item day (SpecOf Tryz.prog) (FreshOf Tryz.prog) (SeqOf Tryz.prog) _) h
theorem c10 (t:TMtTask) (ht:TaskOK t) (hn:t.Items.length ≤ 2 ^ 62) (item day:Int):Sp 10 [t.av,.int .i64 item,.int .i64 day] [] (.tup [(energyR t item day).1.av,.int .i64 (energyR t item day).2]) []:=s10 t item day _ _ (by
 unfold R10
 rw [List.length_map]
 refine ⟨_,_,_,c52 t ht,fun vs => vs = [.int .i64 (accE t item 0 t.Items.length)],⟨fun h => ⟨_,c38 ..,fun h2 => ⟨rfl,rfl,rfl,rfl,rfl,rfl,?_⟩,fun h2 => ⟨rfl,rfl,rfl,rfl,rfl,rfl,?_⟩⟩,fun h => ⟨rfl,rfl,rfl,rfl,rfl,rfl,?_⟩⟩,?_⟩
 ·unfold accE; rw [withE_out h h2]
 ·unfold accE; rw [withE_in h2]
 ·unfold accE; rw [withE_bad h]
 intro n6 hv
 cases hv
 unfold energyR
 refine ⟨fun h => ⟨?_,rfl⟩,fun h => ⟨_,c26 day,fun h2 => ⟨?_,rfl⟩,fun h2 => ?_⟩⟩
 ·rw [if_pos (by simpa using h)]; rfl
 ·rw [if_neg (by simpa using h),if_pos h2]; rfl
 ·have h:accE t item 0 t.Items.length = 0:=by simpa using h
  obtain ⟨hv,h0,h1⟩:=accE_zero hn h
  obtain ⟨_,hm,hx⟩:=item_get h0 h1
  rw [if_neg (by simp [h]),if_neg (by simp [h2])]
  have k28:=c28 t (itemAt t item) (hv.itemOK ht.cat hm) day [] List.nodup_nil
  generalize itemAt t item = x at *
  exact ⟨x.Name,x.Lamp,x.Count,x.Profile,x.Meter,x.Declared,x.From,x.Until,⟨h0,rfl,hx⟩,_,_,_,k28,x.Name,x.Lamp,x.Count,x.Profile,x.Meter,x.Declared,x.From,x.Until,⟨h0,rfl,hx⟩,_,_,c27 sum0 _ x.Count,rfl,rfl⟩)
end Go.Proofs.YtblebiafhhhflaaGreat
namespace Go.Proofs.YtblebiafhhhflaaGreat
open Go.RowKit
def useU (p:TPair):Int:=(IntKind.i64.wrap (IntKind.i64.wrap (p.b.Value - p.a.Value) + p.MtMeter.Modulus)).tmod p.MtMeter.Modulus
def metE (p:TPair):TEncl :=
 ⟨IntKind.i64.wrap ((IntKind.i64.wrap (IntKind.i64.wrap ((if IntKind.i64.wrap (useU p - 1) > 0 then IntKind.i64.wrap (useU p - 1) else 0) * p.MtMeter.Step) * 1000)).tdiv (IntKind.i64.wrap (1000 + p.MtMeter.Error))),
  IntKind.i64.wrap ((IntKind.i64.wrap (IntKind.i64.wrap (IntKind.i64.wrap (IntKind.i64.wrap (IntKind.i64.wrap (useU p + 1) * p.MtMeter.Step) * 1000) + IntKind.i64.wrap (1000 - p.MtMeter.Error)) - 1)).tdiv (IntKind.i64.wrap (1000 - p.MtMeter.Error)))⟩
def R44 (p:TPair) (_S:SpecF) (_Fr:FreshF) (_Sq:SeqF) (Q:AV → List (List AV) → Prop):Prop :=
 p.MtMeter.Modulus ≠ 0 ∧ IntKind.i64.wrap ((1000:Int) + p.MtMeter.Error) ≠ 0 ∧ IntKind.i64.wrap ((1000:Int) - p.MtMeter.Error) ≠ 0 ∧ Q (.agg [AV.int .i64 (IntKind.i64.wrap ((IntKind.i64.wrap (IntKind.i64.wrap ((if IntKind.i64.wrap ((IntKind.i64.wrap (IntKind.i64.wrap (p.b.Value - p.a.Value) + p.MtMeter.Modulus)).tmod p.MtMeter.Modulus - 1) > 0 then IntKind.i64.wrap ((IntKind.i64.wrap (IntKind.i64.wrap (p.b.Value - p.a.Value) + p.MtMeter.Modulus)).tmod p.MtMeter.Modulus - 1) else (0:Int)) * p.MtMeter.Step) * 1000)).tdiv (IntKind.i64.wrap ((1000:Int) + p.MtMeter.Error)))),.int .i64 (IntKind.i64.wrap ((IntKind.i64.wrap (IntKind.i64.wrap (IntKind.i64.wrap (IntKind.i64.wrap (IntKind.i64.wrap ((IntKind.i64.wrap (IntKind.i64.wrap (p.b.Value - p.a.Value) + p.MtMeter.Modulus)).tmod p.MtMeter.Modulus + 1) * p.MtMeter.Step) * 1000) + IntKind.i64.wrap ((1000:Int) - p.MtMeter.Error)) - 1)).tdiv (IntKind.i64.wrap ((1000:Int) - p.MtMeter.Error))))]) []
theorem r44 (p:TPair) (S:SpecF) (Fr:FreshF) (Sq:SeqF) (Q:AV → List (List AV) → Prop):awpF Tryz.prog (mkS Tryz.prog S Fr Sq ⟨[],[],[],[],[]⟩ 0) 0 ⟨[0,1,2,3,4],[],[],[]⟩ Tryz.f44 [p.av] [] Q = R44 p S Fr Sq Q:=by kernel_rfl
theorem s44 (p:TPair) (v:AV) (O:List (List AV)) (h:R44 p (SpecOf Tryz.prog) (FreshOf Tryz.prog) (SeqOf Tryz.prog) (fun r O' => r = v ∧ O' = O)):SpecOf Tryz.prog 44 [p.av] [] v O :=
 spec_by (boxes:=[]) mixed (by exact trivial) Tryz.func44 Tryz.call44 rfl rfl rfl (Nat.le_of_ble_eq_true rfl) (r44 p (SpecOf Tryz.prog) (FreshOf Tryz.prog) (SeqOf Tryz.prog) _) h
theorem c44 (p:TPair) (h:MeterV p.MtMeter):Sp 44 [p.av] [] (metE p).av []:=s44 p _ _ (by
 unfold R44
 have h1:=h.modulus
 have h2:=h.error
 refine ⟨by omega,?_,?_,rfl,rfl⟩
 ·rw [i64 (by omega)]; omega
 ·rw [i64 (by omega)]; omega)
def R40 (m:TMtMeter) (_S:SpecF) (_Fr:FreshF) (_Sq:SeqF) (Q:AV → List (List AV) → Prop):Prop :=
 Q (AV.fn (80:Nat) [] [AV.eptr m.cs (0:Nat)]) []
theorem r40 (m:TMtMeter) (S:SpecF) (Fr:FreshF) (Sq:SeqF) (Q:AV → List (List AV) → Prop):awpF Tryz.prog (mkS Tryz.prog S Fr Sq ⟨[],[],[],[],[]⟩ 0) 0 ⟨[0,1,2],[],[],[]⟩ Tryz.f40 [m.av] [] Q = R40 m S Fr Sq Q:=by kernel_rfl
theorem s40 (m:TMtMeter) (v:AV) (O:List (List AV)) (h:R40 m (SpecOf Tryz.prog) (FreshOf Tryz.prog) (SeqOf Tryz.prog) (fun r O' => r = v ∧ O' = O)):SpecOf Tryz.prog 40 [m.av] [] v O :=
 spec_by (boxes:=[]) mixed (by exact trivial) Tryz.func40 Tryz.call40 rfl rfl rfl (Nat.le_of_ble_eq_true rfl) (r40 m (SpecOf Tryz.prog) (FreshOf Tryz.prog) (SeqOf Tryz.prog) _) h
theorem c40 (m:TMtMeter):Sp 40 [m.av] [] (.fn 80 [] [.eptr m.cs 0]) []:=s40 m _ _ ⟨rfl,rfl⟩
theorem pairL_get {m:TMtMeter} {i:Nat} {v:List AV} (h:(pairL m)[i]? = some v):i + 1 < m.Readings.length ∧ ∃ a b,m.Readings[i]? = some a ∧ m.Readings[i + 1]? = some b ∧ v = [.int .i64 (i:Nat),(TPair.mk m a b).av]:=by
 have hl:=(List.getElem?_eq_some_iff.1 h).1
 rw [pairL_len] at hl
 have h1:m.Readings[i]? = some m.Readings[i]:=List.getElem?_eq_getElem (by omega)
 have h2:m.Readings[i + 1]? = some m.Readings[i + 1]:=List.getElem?_eq_getElem (by omega)
 refine ⟨by omega,_,_,h1,h2,?_⟩
 rw [pairL_at h1 h2] at h
 exact (Option.some.inj h).symm
theorem pairL_fit {m:TMtMeter}:∀ v ∈ pairL m,∃ (i:Int) (p:TPair),p.MtMeter = m ∧ v = [.int .i64 i,p.av]:=by
 intro v hv
 obtain ⟨i,hi⟩:=List.mem_iff_getElem?.1 hv
 obtain ⟨_,a,b,_,_,rfl⟩:=pairL_get hi
 exact ⟨_,⟨m,a,b⟩,rfl,rfl⟩
def noMeter:TMtMeter:=⟨ByteArray.mk #[],0,0,0,[]⟩
def meterAt (t:TMtTask) (i:Int):TMtMeter:=(t.Meters[i.toNat]?).getD noMeter
theorem meter_get {t:TMtTask} {i:Int} (h0:0 ≤ i) (h1:i < t.Meters.length):t.Meters[i.toNat]? = some (meterAt t i) ∧ meterAt t i ∈ t.Meters ∧ (List.map TMtMeter.av t.Meters)[i.toNat]? = some (meterAt t i).av:=by
 have e:t.Meters[i.toNat]? = some (meterAt t i):=by
  unfold meterAt; rw [List.getElem?_eq_getElem (by omega)]; rfl
 exact ⟨e,List.mem_of_getElem? e,by rw [List.getElem?_map,e]; rfl⟩
def noRead:TMtReading:=⟨0,0⟩
def pairAt (m:TMtMeter) (i:Nat):TPair:=⟨m,m.Readings.getD i noRead,m.Readings.getD (i + 1) noRead⟩
def meteredR (t:TMtTask) (meter r:Int):TEncl × Int :=
 if accE t meter 0 t.Meters.length ≠ 0 then (⟨0,0⟩,accE t meter 0 t.Meters.length) else
 if 0 ≤ r ∧ r + 1 < (meterAt t meter).Readings.length then (metE (pairAt (meterAt t meter) r.toNat),0) else (⟨0,0⟩,4)
def R30 (t:TMtTask) (meter:Int) (reading1:Int) (S:SpecF) (_Fr:FreshF) (Sq:SeqF) (Q:AV → List (List AV) → Prop):Prop :=
 ∃ n0 n1 n2,S 52 [t.av] [] (.tup [AV.int .i64 n0,.int .i64 n1,.int .i64 n2]) [] ∧ ∃ (J4:List AV → Prop),(((n2 == 0) = true → ∃ b8,S 38 [AV.int .i64 meter,.int .i64 0,.int .i64 (IntKind.i64.wrap ((↑(List.map TMtMeter.av t.Meters).length:Int) - (1:Int)))] [] (.bool b8) [] ∧ (b8 = true → t.cs = t.cs ∧ TEncl.z0 = TEncl.z0 ∧ t.cs = t.cs ∧ Same [AV.int .i64 reading1] ∧ Same [AV.nilp] ∧ Same [AV.str (ByteArray.mk #[]),.lit IntKind.i64 (0:Int),.lit IntKind.i64 (0:Int),.lit IntKind.i64 (0:Int),.slc 0 [],.lit IntKind.i64 (0:Int),.lit IntKind.i64 (0:Int),.lit IntKind.i64 (0:Int),.lit IntKind.i64 (0:Int)] ∧ Same [AV.lit IntKind.i64 (0:Int)] ∧ t.cs = t.cs ∧ t.cs = t.cs ∧ Same [AV.iface 1000000 (.slc 3 [])] ∧ Same [AV.int .i64 t.City.Lat,.int .i64 t.City.Lon,.int .i64 t.City.Zone,.int .i64 t.City.Altitude.Lo,.int .i64 t.City.Altitude.Hi,.slc 3 (List.map TLmTable.av t.Catalog.Tables),.slc 3 (List.map TLmLamp.av t.Catalog.Lamps),.slc 3 (List.map TMtProfile.av t.Profiles),.slc 3 (List.map TMtItem.av t.Items),.slc 3 (List.map TMtMeter.av t.Meters),.map ((117:Nat) + (14:Nat))] ∧ J4 [AV.int .i64 4]) ∧ (b8 = false → t.cs = t.cs ∧ TEncl.z0 = TEncl.z0 ∧ t.cs = t.cs ∧ Same [AV.int .i64 reading1] ∧ Same [AV.nilp] ∧ Same [AV.str (ByteArray.mk #[]),.lit IntKind.i64 (0:Int),.lit IntKind.i64 (0:Int),.lit IntKind.i64 (0:Int),.slc 0 [],.lit IntKind.i64 (0:Int),.lit IntKind.i64 (0:Int),.lit IntKind.i64 (0:Int),.lit IntKind.i64 (0:Int)] ∧ Same [AV.lit IntKind.i64 (0:Int)] ∧ t.cs = t.cs ∧ t.cs = t.cs ∧ Same [AV.iface 1000000 (.slc 3 [])] ∧ Same [AV.int .i64 t.City.Lat,.int .i64 t.City.Lon,.int .i64 t.City.Zone,.int .i64 t.City.Altitude.Lo,.int .i64 t.City.Altitude.Hi,.slc 3 (List.map TLmTable.av t.Catalog.Tables),.slc 3 (List.map TLmLamp.av t.Catalog.Lamps),.slc 3 (List.map TMtProfile.av t.Profiles),.slc 3 (List.map TMtItem.av t.Items),.slc 3 (List.map TMtMeter.av t.Meters),.map ((117:Nat) + (14:Nat))] ∧ J4 [AV.int .i64 n2])) ∧ ((n2 == 0) = false → t.cs = t.cs ∧ TEncl.z0 = TEncl.z0 ∧ t.cs = t.cs ∧ Same [AV.int .i64 reading1] ∧ Same [AV.nilp] ∧ Same [AV.str (ByteArray.mk #[]),.lit IntKind.i64 (0:Int),.lit IntKind.i64 (0:Int),.lit IntKind.i64 (0:Int),.slc 0 [],.lit IntKind.i64 (0:Int),.lit IntKind.i64 (0:Int),.lit IntKind.i64 (0:Int),.lit IntKind.i64 (0:Int)] ∧ Same [AV.lit IntKind.i64 (0:Int)] ∧ t.cs = t.cs ∧ t.cs = t.cs ∧ Same [AV.iface 1000000 (.slc 3 [])] ∧ Same [AV.int .i64 t.City.Lat,.int .i64 t.City.Lon,.int .i64 t.City.Zone,.int .i64 t.City.Altitude.Lo,.int .i64 t.City.Altitude.Hi,.slc 3 (List.map TLmTable.av t.Catalog.Tables),.slc 3 (List.map TLmLamp.av t.Catalog.Lamps),.slc 3 (List.map TMtProfile.av t.Profiles),.slc 3 (List.map TMtItem.av t.Items),.slc 3 (List.map TMtMeter.av t.Meters),.map ((117:Nat) + (14:Nat))] ∧ J4 [AV.int .i64 n2])) ∧ ∀ (n6:Int),J4 [AV.int .i64 n6] → ((n6 != 0) = true → ((n6 != 0) = true → Q (.tup [TEncl.zero.av,.int .i64 n6]) []) ∧ ((n6 != 0) = false → ∃ n12 n13,S 44 [AV.agg [AV.str (ByteArray.mk #[]),.int .i64 0,.int .i64 0,.int .i64 0,.slc 3 [],.int .i64 0,.int .i64 0,.int .i64 0,.int .i64 0]] [] (.agg [AV.int .i64 n12,.int .i64 n13]) [] ∧ Q (.tup [AV.agg [AV.int .i64 n12,.int .i64 n13],.int .i64 0]) [])) ∧ ((n6 != 0) = false → ∃ s10 n11 n12 n13 es14,((0:Int) ≤ meter ∧ (5:Nat) = (5:Nat) ∧ (List.map TMtMeter.av t.Meters)[meter.toNat]? = some (.agg [AV.str s10,.int .i64 n11,.int .i64 n12,.int .i64 n13,.slc 3 es14])) ∧ ∃ s16 n17 n18 n19 es20,S 40 [AV.agg [AV.str s10,.int .i64 n11,.int .i64 n12,.int .i64 n13,.slc 3 es14]] [] (AV.fn (80:FuncId) [] [AV.eptr [AV.str s16,.int .i64 n17,.int .i64 n18,.int .i64 n19,.slc 3 es20] (0:Nat)]) [] ∧ ∃ xs22,Sq (80:FuncId) [AV.eptr [AV.str s16,.int .i64 n17,.int .i64 n18,.int .i64 n19,.slc 3 es20] (0:Nat)] [] xs22 ∧ (∀ (x25:List AV),x25 ∈ xs22 → fitL [AV.int .i64 0,.agg [AV.str default,.int .i64 0,.int .i64 0,.int .i64 0,.slc 3 [],.int .i64 0,.int .i64 0,.int .i64 0,.int .i64 0]] x25 = true ∧ AV.treeL x25 = true) ∧ ∃ (I25:Nat → List AV → Prop),I25 (0:Nat) [AV.agg [AV.str (ByteArray.mk #[]),.int .i64 0,.int .i64 0,.int .i64 0,.slc 3 [],.int .i64 0,.int .i64 0,.int .i64 0,.int .i64 0],.agg [AV.int .i64 0]] ∧ (∀ (i28:Nat) (n29:Int) (s30:ByteArray) (n31 n32 n33:Int) (es34:List AV) (n35 n36 n37 n38:Int),xs22[i28]? = some [AV.int .i64 n29,.agg [AV.str s30,.int .i64 n31,.int .i64 n32,.int .i64 n33,.slc 3 es34,.int .i64 n35,.int .i64 n36,.int .i64 n37,.int .i64 n38]] → ∀ (s40:ByteArray) (n41 n42 n43:Int) (es44:List AV) (n45 n46 n47 n48 n49:Int),I25 i28 [AV.agg [AV.str s40,.int .i64 n41,.int .i64 n42,.int .i64 n43,.slc 3 es44,.int .i64 n45,.int .i64 n46,.int .i64 n47,.int .i64 n48],.agg [AV.int .i64 n49]] → ((n29 == reading1) = true → ∃ n53 n54,S 44 [AV.agg [AV.str s30,.int .i64 n31,.int .i64 n32,.int .i64 n33,.slc 3 es34,.int .i64 n35,.int .i64 n36,.int .i64 n37,.int .i64 n38]] [] (.agg [AV.int .i64 n53,.int .i64 n54]) [] ∧ Q (.tup [AV.agg [AV.int .i64 n53,.int .i64 n54],.int .i64 0]) []) ∧ ((n29 == reading1) = false → t.cs = t.cs ∧ TEncl.z0 = TEncl.z0 ∧ t.cs = t.cs ∧ Same [AV.int .i64 reading1] ∧ Same [AV.nilp] ∧ Same [AV.ref ((117:Nat) + (16:Nat)) (0:Nat)] ∧ t.cs = t.cs ∧ t.cs = t.cs ∧ Same [AV.iface 1000000 (.slc 3 [])] ∧ Same [AV.int .i64 t.City.Lat,.int .i64 t.City.Lon,.int .i64 t.City.Zone,.int .i64 t.City.Altitude.Lo,.int .i64 t.City.Altitude.Hi,.slc 3 (List.map TLmTable.av t.Catalog.Tables),.slc 3 (List.map TLmLamp.av t.Catalog.Lamps),.slc 3 (List.map TMtProfile.av t.Profiles),.slc 3 (List.map TMtItem.av t.Items),.slc 3 (List.map TMtMeter.av t.Meters),.map ((117:Nat) + (14:Nat))] ∧ I25 (i28 + 1) [AV.agg [AV.str s40,.int .i64 n41,.int .i64 n42,.int .i64 n43,.slc 3 es44,.int .i64 n45,.int .i64 n46,.int .i64 n47,.int .i64 n48],.agg [AV.int .i64 n49]])) ∧ ∀ (s28:ByteArray) (n29 n30 n31:Int) (es32:List AV) (n33 n34 n35 n36 n37:Int),I25 xs22.length [AV.agg [AV.str s28,.int .i64 n29,.int .i64 n30,.int .i64 n31,.slc 3 es32,.int .i64 n33,.int .i64 n34,.int .i64 n35,.int .i64 n36],.agg [AV.int .i64 n37]] → Q (.tup [TEncl.zero.av,.int .i64 4]) [])
theorem r30 (t:TMtTask) (meter:Int) (reading1:Int) (S:SpecF) (Fr:FreshF) (Sq:SeqF) (Q:AV → List (List AV) → Prop):awpF Tryz.prog (mkS Tryz.prog S Fr Sq ⟨[],[(40,[.fn 80 [] [.eptr [.str default,.int .i64 0,.int .i64 0,.int .i64 0,.slc 3 []] 0]])],[],[(42,⟨[0,1,2,3,5,6,7,8,9,10,11,12,23,31,32,33,36],[⟨7,[],[],[(7,.agg [.str default,.int .i64 0,.int .i64 0,.int .i64 0,.slc 3 [],.int .i64 0,.int .i64 0,.int .i64 0,.int .i64 0]),(8,.agg [.int .i64 0])],[],[.int .i64 0,.agg [.str default,.int .i64 0,.int .i64 0,.int .i64 0,.slc 3 [],.int .i64 0,.int .i64 0,.int .i64 0,.int .i64 0]]⟩],[],[]⟩),(25,⟨[0,1,2,3,4,8,9,10,11,25],[],[⟨4,[(11,.int .i64 0)],[],[],[],[]⟩],[]⟩),(62,⟨[0,1,2,3,6],[],[],[]⟩)],[]⟩ 4) 0 ⟨[0,1,2,3,6,7,9,10,20],[],[],[]⟩ Tryz.f30 [t.av,.int .i64 meter,.int .i64 reading1] [] Q = R30 t meter reading1 S Fr Sq Q:=by kernel_rfl
theorem s30 (t:TMtTask) (meter:Int) (reading1:Int) (v:AV) (O:List (List AV)) (h:R30 t meter reading1 (SpecOf Tryz.prog) (FreshOf Tryz.prog) (SeqOf Tryz.prog) (fun r O' => r = v ∧ O' = O)):SpecOf Tryz.prog 30 [t.av,.int .i64 meter,.int .i64 reading1] [] v O :=
 spec_by (boxes:=[]) mixed (by exact ⟨Tryz.call42,⟨Tryz.call25,⟨Tryz.call62,trivial⟩⟩⟩) Tryz.func30 Tryz.call30 rfl rfl rfl (Nat.le_of_ble_eq_true rfl) (r30 t meter reading1 (SpecOf Tryz.prog) (FreshOf Tryz.prog) (SeqOf Tryz.prog) _) h
theorem c30 (t:TMtTask) (ht:TaskOK t) (hn:t.Meters.length ≤ 2 ^ 62) (meter r:Int):Sp 30 [t.av,.int .i64 meter,.int .i64 r] [] (.tup [(meteredR t meter r).1.av,.int .i64 (meteredR t meter r).2]) []:=s30 t meter r _ _ (by
 unfold R30
 rw [List.length_map]
 refine ⟨_,_,_,c52 t ht,fun vs => vs = [.int .i64 (accE t meter 0 t.Meters.length)],⟨fun h => ⟨_,c38 ..,fun h2 => ⟨rfl,rfl,rfl,rfl,rfl,rfl,rfl,rfl,rfl,rfl,rfl,?_⟩,fun h2 => ⟨rfl,rfl,rfl,rfl,rfl,rfl,rfl,rfl,rfl,rfl,rfl,?_⟩⟩,fun h => ⟨rfl,rfl,rfl,rfl,rfl,rfl,rfl,rfl,rfl,rfl,rfl,?_⟩⟩,?_⟩
 ·unfold accE; rw [withE_out h h2]
 ·unfold accE; rw [withE_in h2]
 ·unfold accE; rw [withE_bad h]
 intro n6 hv
 cases hv
 unfold meteredR
 refine ⟨fun h => ⟨fun h' => ⟨?_,rfl⟩,fun h' => ?_⟩,fun h => ?_⟩
 ·rw [if_pos (by simpa using h)]; rfl
 ·rw [h] at h'; cases h'
 ·have h:accE t meter 0 t.Meters.length = 0:=by simpa using h
  obtain ⟨hv,h0,h1⟩:=accE_zero hn h
  obtain ⟨_,hm,hx⟩:=meter_get h0 h1
  have hmv:=hv.meter hm
  rw [if_neg (by simp [h])]
  generalize meterAt t meter = m at *
  have hlen:=hmv.number
  refine ⟨m.Name,m.Step,m.Modulus,m.Error,List.map TMtReading.av m.Readings,⟨h0,rfl,hx⟩,m.Name,m.Step,m.Modulus,m.Error,List.map TMtReading.av m.Readings,c40 m,_,sqPairs m (by omega),fun v hv => ?_,fun i vs => vs = [TPair.zero.av,.agg [.int .i64 0]] ∧ ∀ j:Nat,j < i → (j:Int) ≠ r,⟨rfl,by omega⟩,?_,?_⟩
  ·obtain ⟨i,p,_,rfl⟩:=pairL_fit v hv
   exact ⟨rfl,rfl⟩
  ·rintro i n29 s30 n31 n32 n33 es34 n35 n36 n37 n38 hi s40 n41 n42 n43 es44 n45 n46 n47 n48 n49 ⟨hv,hj⟩
   obtain ⟨hil,a,b,ha,hb,he⟩:=pairL_get hi
   cases hv
   cases he
   refine ⟨fun hr => ?_,fun hr => ⟨rfl,rfl,rfl,rfl,rfl,rfl,rfl,rfl,rfl,rfl,rfl,fun j hlt => ?_⟩⟩
   ·have hr:(i:Int) = r:=by simpa using hr
    refine ⟨_,_,c44 ⟨m,a,b⟩ hmv,?_,rfl⟩
    rw [if_pos (by omega)]
    have:pairAt m r.toNat = ⟨m,a,b⟩:=by
     unfold pairAt
     rw [← hr,Int.toNat_natCast,List.getD,List.getD,ha,hb]; rfl
    rw [this]; rfl
   ·rcases Nat.lt_or_ge j i with h5 | h5
    ·exact hj j h5
    ·obtain rfl:j = i:=by omega
     simpa using hr
  ·rintro s28 n29 n30 n31 es32 n33 n34 n35 n36 n37 ⟨hv,hj⟩
   rw [pairL_len] at hj
   refine ⟨?_,rfl⟩
   rw [if_neg (fun hc => hj r.toNat (by omega) (by omega))]
   rfl)
def samC:TLmCatalog:=⟨[⟨ByteArray.mk #[119,105,100,101],[-1000,0,2000],[-1000,1000],[[100,300],[200,600],[0,100]],50,5⟩],[⟨ByteArray.mk #[104,101,97,100],0,1,8000,60000,500,50,⟨2,4⟩,⟨3,5⟩,100000,200,0⟩]⟩
def R67  (_S:SpecF) (_Fr:FreshF) (_Sq:SeqF) (Q:AV → List (List AV) → Prop):Prop :=
 Q (.agg [AV.slc 3 [AV.agg [AV.str (ByteArray.mk #[(119:UInt8),(105:UInt8),(100:UInt8),(101:UInt8)]),.slc 3 [AV.int .i64 (-1000:Int),.int .i64 0,.int .i64 2000],.slc 3 [AV.int .i64 (-1000:Int),.int .i64 1000],.slc 3 [AV.slc 3 [AV.int .i64 100,.int .i64 300],.slc 3 [AV.int .i64 200,.int .i64 600],.slc 3 [AV.int .i64 0,.int .i64 100]],.int .i64 50,.int .i64 5]],.slc 3 [AV.agg [AV.str (ByteArray.mk #[(104:UInt8),(101:UInt8),(97:UInt8),(100:UInt8)]),.int .i64 0,.int .i64 1,.int .i64 8000,.int .i64 60000,.int .i64 500,.int .i64 50,.int .i64 2,.int .i64 4,.int .i64 3,.int .i64 5,.int .i64 100000,.int .i64 200,.int .i64 0]]]) []
theorem r67  (S:SpecF) (Fr:FreshF) (Sq:SeqF) (Q:AV → List (List AV) → Prop):awpF Tryz.prog (mkS Tryz.prog S Fr Sq ⟨[],[],[],[],[]⟩ 0) 0 ⟨[0],[],[],[]⟩ Tryz.f67 [] [] Q = R67  S Fr Sq Q:=by kernel_rfl
theorem s67  (v:AV) (O:List (List AV)) (h:R67  (SpecOf Tryz.prog) (FreshOf Tryz.prog) (SeqOf Tryz.prog) (fun r O' => r = v ∧ O' = O)):SpecOf Tryz.prog 67 [] [] v O :=
 spec_by (boxes:=[]) mixed (by exact trivial) Tryz.func67 Tryz.call67 rfl rfl rfl (Nat.le_of_ble_eq_true rfl) (r67  (SpecOf Tryz.prog) (FreshOf Tryz.prog) (SeqOf Tryz.prog) _) h
theorem c67:Sp 67 [] [] samC.av []:=s67 _ _ ⟨rfl,rfl⟩
def exaT:TMtTask:=⟨⟨80000000,0,0,⟨-900000,-800000⟩⟩,samC,[⟨ByteArray.mk #[108,97,116,101],[⟨0,500⟩,⟨21600,1000⟩,⟨79200,500⟩]⟩],
 [⟨ByteArray.mk #[108,97,110,101],0,1,0,0,0,100,400⟩,⟨ByteArray.mk #[121,97,114,100],0,2,0,-1,70000,100,400⟩],[⟨ByteArray.mk #[109],1000,100000,10,[⟨355,99950⟩,⟨356,50⟩]⟩]⟩
def R29  (S:SpecF) (_Fr:FreshF) (_Sq:SeqF) (Q:AV → List (List AV) → Prop):Prop :=
 ∃ es0 es1,S 67 [] [] (.agg [AV.slc 3 es0,.slc 3 es1]) [] ∧ Q (.agg [AV.int .i64 80000000,.int .i64 0,.int .i64 0,.int .i64 (-900000:Int),.int .i64 (-800000:Int),.slc 3 es0,.slc 3 es1,.slc 3 [AV.agg [AV.str (ByteArray.mk #[(108:UInt8),(97:UInt8),(116:UInt8),(101:UInt8)]),.slc 3 [AV.agg [AV.int .i64 0,.int .i64 500],.agg [AV.int .i64 21600,.int .i64 1000],.agg [AV.int .i64 79200,.int .i64 500]]]],.slc 3 [AV.agg [AV.str (ByteArray.mk #[(108:UInt8),(97:UInt8),(110:UInt8),(101:UInt8)]),.int .i64 0,.int .i64 1,.int .i64 0,.int .i64 0,.int .i64 0,.int .i64 100,.int .i64 400],.agg [AV.str (ByteArray.mk #[(121:UInt8),(97:UInt8),(114:UInt8),(100:UInt8)]),.int .i64 0,.int .i64 2,.int .i64 0,.int .i64 (-1:Int),.int .i64 70000,.int .i64 100,.int .i64 400]],.slc 3 [AV.agg [AV.str (ByteArray.mk #[(109:UInt8)]),.int .i64 1000,.int .i64 100000,.int .i64 10,.slc 3 [AV.agg [AV.int .i64 355,.int .i64 99950],.agg [AV.int .i64 356,.int .i64 50]]]]]) []
theorem r29  (S:SpecF) (Fr:FreshF) (Sq:SeqF) (Q:AV → List (List AV) → Prop):awpF Tryz.prog (mkS Tryz.prog S Fr Sq ⟨[],[],[],[],[]⟩ 0) 0 ⟨[0],[],[],[]⟩ Tryz.f29 [] [] Q = R29  S Fr Sq Q:=by kernel_rfl
theorem s29  (v:AV) (O:List (List AV)) (h:R29  (SpecOf Tryz.prog) (FreshOf Tryz.prog) (SeqOf Tryz.prog) (fun r O' => r = v ∧ O' = O)):SpecOf Tryz.prog 29 [] [] v O :=
 spec_by (boxes:=[]) mixed (by exact trivial) Tryz.func29 Tryz.call29 rfl rfl rfl (Nat.le_of_ble_eq_true rfl) (r29  (SpecOf Tryz.prog) (FreshOf Tryz.prog) (SeqOf Tryz.prog) _) h
theorem c29:Sp 29 [] [] exaT.av []:=s29 _ _ ⟨_,_,c67,rfl,rfl⟩
theorem exOK:TaskOK exaT:=⟨⟨by decide,by decide,by decide,by decide⟩,by decide,by decide,by decide,by decide⟩
theorem exEnergy:energyR exaT 0 172 = (⟨41040000,45360000⟩,0):=by kernel_rfl
theorem exMet0:meteredR exaT 0 0 = (⟨98019,102021⟩,0):=by kernel_rfl
theorem exMet1:meteredR exaT 0 1 = (⟨0,0⟩,4):=by kernel_rfl
def R12  (S:SpecF) (_Fr:FreshF) (_Sq:SeqF) (Q:AV → List (List AV) → Prop):Prop :=
 ∃ n0 n1 n2 n3 n4 es5 es6 es7 es8 es9,S 29 [] [] (.agg [AV.int .i64 n0,.int .i64 n1,.int .i64 n2,.int .i64 n3,.int .i64 n4,.slc 3 es5,.slc 3 es6,.slc 3 es7,.slc 3 es8,.slc 3 es9]) [] ∧ ∃ n11 n12 n13,S 10 [AV.agg [AV.int .i64 n0,.int .i64 n1,.int .i64 n2,.int .i64 n3,.int .i64 n4,.slc 3 es5,.slc 3 es6,.slc 3 es7,.slc 3 es8,.slc 3 es9],.int .i64 0,.int .i64 172] [] (.tup [AV.agg [AV.int .i64 n11,.int .i64 n12],.int .i64 n13]) [] ∧ ∃ n15 n16 n17,S 30 [AV.agg [AV.int .i64 n0,.int .i64 n1,.int .i64 n2,.int .i64 n3,.int .i64 n4,.slc 3 es5,.slc 3 es6,.slc 3 es7,.slc 3 es8,.slc 3 es9],.int .i64 0,.int .i64 0] [] (.tup [AV.agg [AV.int .i64 n15,.int .i64 n16],.int .i64 n17]) [] ∧ ∃ n19 n20 n21,S 30 [AV.agg [AV.int .i64 n0,.int .i64 n1,.int .i64 n2,.int .i64 n3,.int .i64 n4,.slc 3 es5,.slc 3 es6,.slc 3 es7,.slc 3 es8,.slc 3 es9],.int .i64 0,.int .i64 1] [] (.tup [AV.agg [AV.int .i64 n19,.int .i64 n20],.int .i64 n21]) [] ∧ ((n13 == 0) = true → ((n17 == 0) = true → ((n21 == 4) = true → ((n11 == 41040000 && (n12 == 45360000 && true)) = true → Q (.bool (n15 == 98019 && (n16 == 102021 && true))) []) ∧ ((n11 == 41040000 && (n12 == 45360000 && true)) = false → Q (.bool false) [])) ∧ ((n21 == 4) = false → Q (.bool false) [])) ∧ ((n17 == 0) = false → Q (.bool false) [])) ∧ ((n13 == 0) = false → Q (.bool false) [])
theorem r12  (S:SpecF) (Fr:FreshF) (Sq:SeqF) (Q:AV → List (List AV) → Prop):awpF Tryz.prog (mkS Tryz.prog S Fr Sq ⟨[],[],[],[],[]⟩ 0) 0 ⟨[0,1,2,3,4,5,7],[],[],[]⟩ Tryz.f12 [] [] Q = R12  S Fr Sq Q:=by kernel_rfl
theorem s12  (v:AV) (O:List (List AV)) (h:R12  (SpecOf Tryz.prog) (FreshOf Tryz.prog) (SeqOf Tryz.prog) (fun r O' => r = v ∧ O' = O)):SpecOf Tryz.prog 12 [] [] v O :=
 spec_by (boxes:=[]) mixed (by exact trivial) Tryz.func12 Tryz.call12 rfl rfl rfl (Nat.le_of_ble_eq_true rfl) (r12  (SpecOf Tryz.prog) (FreshOf Tryz.prog) (SeqOf Tryz.prog) _) h
theorem c12:Sp 12 [] [] (.bool true) []:=s12 _ _ (by
 unfold R12
 have k1:=c10 exaT exOK (by decide) 0 172
 have k2:=c30 exaT exOK (by decide) 0 0
 have k3:=c30 exaT exOK (by decide) 0 1
 rw [exEnergy] at k1
 rw [exMet0] at k2
 rw [exMet1] at k3
 refine ⟨_,_,_,_,_,_,_,_,_,_,c29,_,_,_,k1,_,_,_,k2,_,_,_,k3,?_⟩
 exact ⟨fun _ => ⟨fun _ => ⟨fun _ => ⟨fun _ => ⟨rfl,rfl⟩,fun h => (by cases h)⟩,fun h => (by cases h)⟩,fun h => (by cases h)⟩,fun h => (by cases h)⟩)
def R13 (t:TMtTask) (item:Int) (_S:SpecF) (_Fr:FreshF) (_Sq:SeqF) (Q:AV → List (List AV) → Prop):Prop :=
 (decide (item < 0) = true → Q (.bool false) []) ∧ (decide (item < 0) = false → (decide (item ≥ (↑(List.map TMtItem.av t.Items).length:Int)) = true → Q (.bool false) []) ∧ (decide (item ≥ (↑(List.map TMtItem.av t.Items).length:Int)) = false → ∃ s4 n5 n6 n7 n8 n9 n10 n11,((0:Int) ≤ item ∧ (8:Nat) = (8:Nat) ∧ (List.map TMtItem.av t.Items)[item.toNat]? = some (.agg [AV.str s4,.int .i64 n5,.int .i64 n6,.int .i64 n7,.int .i64 n8,.int .i64 n9,.int .i64 n10,.int .i64 n11])) ∧ (decide (n7 ≥ 0) = true → (decide (n7 < (↑(List.map TMtProfile.av t.Profiles).length:Int)) = true → ∃ s17 es18,((0:Int) ≤ n7 ∧ (2:Nat) = (2:Nat) ∧ (List.map TMtProfile.av t.Profiles)[n7.toNat]? = some (.agg [AV.str s17,.slc 3 es18])) ∧ Q (.bool (decide ((↑es18.length:Int) > (0:Int)))) []) ∧ (decide (n7 < (↑(List.map TMtProfile.av t.Profiles).length:Int)) = false → Q (.bool false) [])) ∧ (decide (n7 ≥ 0) = false → Q (.bool false) [])))
theorem r13 (t:TMtTask) (item:Int) (S:SpecF) (Fr:FreshF) (Sq:SeqF) (Q:AV → List (List AV) → Prop):awpF Tryz.prog (mkS Tryz.prog S Fr Sq ⟨[],[],[],[],[]⟩ 0) 0 ⟨[0,1,2,4,5,14],[],[],[]⟩ Tryz.f13 [t.av,.int .i64 item] [] Q = R13 t item S Fr Sq Q:=by kernel_rfl
theorem s13 (t:TMtTask) (item:Int) (v:AV) (O:List (List AV)) (h:R13 t item (SpecOf Tryz.prog) (FreshOf Tryz.prog) (SeqOf Tryz.prog) (fun r O' => r = v ∧ O' = O)):SpecOf Tryz.prog 13 [t.av,.int .i64 item] [] v O :=
 spec_by (boxes:=[]) mixed (by exact trivial) Tryz.func13 Tryz.call13 rfl rfl rfl (Nat.le_of_ble_eq_true rfl) (r13 t item (SpecOf Tryz.prog) (FreshOf Tryz.prog) (SeqOf Tryz.prog) _) h
def wholeR (t:TMtTask) (item:Int):Bool:=if item < 0 then false else if item ≥ t.Items.length then false else
 if 0 ≤ (itemAt t item).Profile ∧ (itemAt t item).Profile < t.Profiles.length then decide (((profAt t (itemAt t item).Profile).Steps.length:Int) > 0) else false
theorem prof_get {t:TMtTask} {k:Int} (h0:0 ≤ k) (h1:k < t.Profiles.length):t.Profiles[k.toNat]? = some (profAt t k) ∧ (List.map TMtProfile.av t.Profiles)[k.toNat]? = some (profAt t k).av:=by
 have e:t.Profiles[k.toNat]? = some (profAt t k):=by
  unfold profAt; rw [List.getElem?_eq_getElem (by omega)]; rfl
 exact ⟨e,by rw [List.getElem?_map,e]; rfl⟩
theorem c13 (t:TMtTask) (item:Int):Sp 13 [t.av,.int .i64 item] [] (.bool (wholeR t item)) []:=s13 t item _ _ (by
 unfold R13 wholeR
 rw [List.length_map,List.length_map]
 refine ⟨fun h => ⟨by rw [if_pos (of_decide_eq_true h)],rfl⟩,fun h => ⟨fun h2 => ⟨by rw [if_neg (of_decide_eq_false h),if_pos (of_decide_eq_true h2)],rfl⟩,fun h2 => ?_⟩⟩
 have h:=of_decide_eq_false h
 have h2:=of_decide_eq_false h2
 obtain ⟨_,hm,hx⟩:=item_get (t:=t) (i:=item) (by omega) (by omega)
 rw [if_neg h,if_neg h2]
 generalize itemAt t item = x at *
 refine ⟨x.Name,x.Lamp,x.Count,x.Profile,x.Meter,x.Declared,x.From,x.Until,⟨by omega,rfl,hx⟩,fun h3 => ⟨fun h4 => ?_,fun h4 => ⟨?_,rfl⟩⟩,fun h3 => ⟨?_,rfl⟩⟩
 ·have h3:=of_decide_eq_true h3
  have h4:=of_decide_eq_true h4
  obtain ⟨_,hp⟩:=prof_get h3 h4
  rw [if_pos ⟨h3,h4⟩]
  generalize profAt t x.Profile = p at *
  exact ⟨p.Name,List.map TMtStep.av p.Steps,⟨h3,rfl,hp⟩,by rw [List.length_map],rfl⟩
 ·rw [if_neg (fun hc => of_decide_eq_false h4 hc.2)]
 ·rw [if_neg (fun hc => of_decide_eq_false h3 hc.1)])
end Go.Proofs.YtblebiafhhhflaaGreat
