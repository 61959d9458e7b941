/- Contracts: the energy of items on some days; what meters say of it. Contracts: what the readings of a meter say. -/
import Derived.Test.YtblebiafhhhflaaGreatHm
namespace Go.Proofs.YtblebiafhhhflaaGreat
open Go.RowKit
def lampsS (t : TMtTask) (x : TMtItem) (first : Int) : Nat → TSum
 | 0 => sum0
 | k + 1 => addS (lampsS t x first k) (oneS t x (IntKind.i64.wrap (first + (k : Nat)))).Encl 1
def memD (x : TMtItem) (first : Int) (L : List Int) : Nat → List Int
 | 0 => L
 | k + 1 => memO x (memD x first L k) (IntKind.i64.wrap (first + (k : Nat)))
theorem memD_nodup {x : TMtItem} {first : Int} {L : List Int} (h : L.Nodup) : ∀ k, (memD x first L k).Nodup
 | 0 => h
 | k + 1 => memO_nodup (memD_nodup h k)
def R46 (t : TMtTask) (x : TMtItem) (first : Int) (days : Int) (M : List AV) (S : SpecF) (_Fr : FreshF) (_Sq : SeqF) (Q : AV → List (List AV) → Prop) : Prop :=
 ∃ (I0 : Nat → List AV → Prop), (∃ m2, I0 m2 [AV.int .i64 0, TEncl.zero.av, .agg [AV.iface 1000000 (.slc 3 M)]]) ∧ ∀ (m2 : Nat) (n3 n4 n5 : Int) (es6 : List AV), I0 m2 [AV.int .i64 n3, .agg [AV.int .i64 n4, .int .i64 n5], .agg [AV.iface 1000000 (.slc 3 es6)]] → (decide (n3 < days) = true → ∃ n10 n11 es12, S 28 [AV.ref 0 0, x.av, .int .i64 (IntKind.i64.wrap (first + n3))] [(TAccount.mk t (.map 1)).cs, [AV.iface 1000000 (.slc 3 es6)]] (.agg [AV.int .i64 n10, .int .i64 n11]) [(TAccount.mk t (.map 1)).cs, [AV.iface 1000000 (.slc 3 es12)]] ∧ ∃ n14 n15, S 27 [AV.ref 0 0, .agg [AV.int .i64 n10, .int .i64 n11], .int .i64 1] [[AV.int .i64 n4, .int .i64 n5]] (.tup []) [[AV.int .i64 n14, .int .i64 n15]] ∧ (TAccount.mk t (.map 1)).cs = (TAccount.mk t (.map 1)).cs ∧ x.cs = x.cs ∧ ∃ k19, k19 < m2 ∧ I0 k19 [AV.int .i64 (IntKind.i64.wrap (n3 + 1)), .agg [AV.int .i64 n14, .int .i64 n15], .agg [AV.iface 1000000 (.slc 3 es12)]]) ∧ (decide (n3 < days) = false → Q (.agg [AV.int .i64 n4, .int .i64 n5]) [(TAccount.mk t (.map 1)).cs, [AV.iface 1000000 (.slc 3 es6)]])
theorem r46 (t : TMtTask) (x : TMtItem) (first : Int) (days : Int) (M : List AV) (S : SpecF) (Fr : FreshF) (Sq : SeqF) (Q : AV → List (List AV) → Prop) : awpF Tryz.prog (mkS Tryz.prog S Fr Sq ⟨[], [], [1000028], [], []⟩ 0) 2 ⟨[0, 1, 2, 3, 5, 8, 9, 10, 11, 12], [⟨2, [(11, .int .i64 0)], [], [(8, .agg [.int .i64 0, .int .i64 0]), (1000001, .agg [.iface 1000000 (.slc 3 [])])], [], []⟩], [], []⟩ Tryz.f46 [.ref 0 0, x.av, .int .i64 first, .int .i64 days] [⟨113, false, (TAccount.mk t (.map 1)).cs⟩, ⟨111, false, [.iface 1000000 (.slc 3 M)]⟩] Q = R46 t x first days M S Fr Sq Q := by kernel_rfl
theorem s46 (t : TMtTask) (x : TMtItem) (first : Int) (days : Int) (M : List AV) (v : AV) (O : List (List AV)) (h : R46 t x first days M (SpecOf Tryz.prog) (FreshOf Tryz.prog) (SeqOf Tryz.prog) (fun r O' => r = v ∧ O' = O)) : SpecOf Tryz.prog 46 [.ref 0 0, x.av, .int .i64 first, .int .i64 days] [(TAccount.mk t (.map 1)).cs, [.iface 1000000 (.slc 3 M)]] v O :=
 spec_by (boxes := [⟨113, false, (TAccount.mk t (.map 1)).cs⟩, ⟨111, false, [.iface 1000000 (.slc 3 M)]⟩]) mixed (by exact trivial) Tryz.func46 Tryz.call46 rfl rfl rfl (Nat.le_of_ble_eq_true rfl) (r46 t x first days M (SpecOf Tryz.prog) (FreshOf Tryz.prog) (SeqOf Tryz.prog) _) h
theorem c46 (t : TMtTask) (x : TMtItem) (hx : ItemOK t x) (first days : Int) (hd : days ≤ 2 ^ 62) (L : List Int) (hL : L.Nodup) : Sp 46 [.ref 0 0, x.av, .int .i64 first, .int .i64 days] [(TAccount.mk t (.map 1)).cs, memA t.City L] (lampsS t x first days.toNat).av [(TAccount.mk t (.map 1)).cs, memA t.City (memD x first L days.toNat)] := s46 t x first days (L.map (entN t.City)) _ _ (by
 unfold R46
 refine ⟨fun m vs => ∃ k : Nat, k ≤ days.toNat ∧ m = days.toNat - k ∧ vs = [.int .i64 (k : Nat), (lampsS t x first k).av, .agg (memA t.City (memD x first L k))], ⟨_, 0, by omega, rfl, rfl⟩, ?_⟩
 rintro m n3 n4 n5 es6 ⟨k, hk, rfl, hv⟩
 generalize hs : lampsS t x first k = s at hv
 generalize hm : memD x first L k = L1 at hv
 cases hv
 refine ⟨fun h => ?_, fun h => ?_⟩
 ·have h := of_decide_eq_true h
  have e : IntKind.i64.wrap ((k : Int) + 1) = ((k + 1 : Nat) : Int) := by rw [i64 (by omega)]; omega
  refine ⟨_, _, _, c28 t x hx _ L1 (hm ▸ memD_nodup hL k), _, _, c27 s _ 1, rfl, rfl, days.toNat - (k + 1), by omega, k + 1, by omega, rfl, ?_⟩
  rw [e]
  unfold lampsS memD
  rw [hs, hm]; rfl
 ·have h := of_decide_eq_false h
  have e : days.toNat = k := by omega
  rw [e, hs, hm]
  exact ⟨rfl, rfl⟩)
def recS (t : TMtTask) (meter first : Int) (k : Nat) (s : TSum) (x : TMtItem) : TSum := if x.Meter == meter then addS s (lampsS t x first k).Encl x.Count else s
def reckS (t : TMtTask) (meter first : Int) (k : Nat) : TSum := t.Items.foldl (recS t meter first k) sum0
def memI (meter first : Int) (k : Nat) (L : List Int) (x : TMtItem) : List Int := if x.Meter == meter then memD x first L k else L
def memR (t : TMtTask) (meter first : Int) (k : Nat) (L : List Int) : List Int := t.Items.foldl (memI meter first k) L
theorem memI_nodup {meter first : Int} {k : Nat} : ∀ (l : List TMtItem) {L : List Int}, L.Nodup → (l.foldl (memI meter first k) L).Nodup
 | [], _, h => h
 | x :: r, L, h => memI_nodup r (by unfold memI; split; exact memD_nodup h k; exact h)
def R45 (t : TMtTask) (meter : Int) (first : Int) (days : Int) (M : List AV) (S : SpecF) (_Fr : FreshF) (_Sq : SeqF) (Q : AV → List (List AV) → Prop) : Prop :=
 ∃ (I0 : Nat → List AV → Prop), (∃ m2, I0 m2 [AV.int .i64 0, TEncl.zero.av, .agg [AV.iface 1000000 (.slc 3 M)]]) ∧ ∀ (m2 : Nat) (n3 n4 n5 : Int) (es6 : List AV), I0 m2 [AV.int .i64 n3, .agg [AV.int .i64 n4, .int .i64 n5], .agg [AV.iface 1000000 (.slc 3 es6)]] → (decide (n3 < (↑(List.map TMtItem.av (TAccount.mk t (.map (1 : Nat))).MtTask.Items).length : Int)) = true → ∃ s10 n11 n12 n13 n14 n15 n16 n17, ((0 : Int) ≤ n3 ∧ (8 : Nat) = (8 : Nat) ∧ (List.map TMtItem.av (TAccount.mk t (.map (1 : Nat))).MtTask.Items)[n3.toNat]? = some (.agg [AV.str s10, .int .i64 n11, .int .i64 n12, .int .i64 n13, .int .i64 n14, .int .i64 n15, .int .i64 n16, .int .i64 n17])) ∧ ((n14 == meter) = true → ∃ n21 n22 es23, S 46 [AV.ref 0 0, .agg [AV.str s10, .int .i64 n11, .int .i64 n12, .int .i64 n13, .int .i64 n14, .int .i64 n15, .int .i64 n16, .int .i64 n17], .int .i64 first, .int .i64 days] [(TAccount.mk t (.map 1)).cs, [AV.iface 1000000 (.slc 3 es6)]] (.agg [AV.int .i64 n21, .int .i64 n22]) [(TAccount.mk t (.map 1)).cs, [AV.iface 1000000 (.slc 3 es23)]] ∧ ∃ n25 n26, S 27 [AV.ref 0 0, .agg [AV.int .i64 n21, .int .i64 n22], .int .i64 n12] [[AV.int .i64 n4, .int .i64 n5]] (.tup []) [[AV.int .i64 n25, .int .i64 n26]] ∧ (TAccount.mk t (.map 1)).cs = (TAccount.mk t (.map 1)).cs ∧ ∃ k29, k29 < m2 ∧ I0 k29 [AV.int .i64 (IntKind.i64.wrap (n3 + 1)), .agg [AV.int .i64 n25, .int .i64 n26], .agg [AV.iface 1000000 (.slc 3 es23)]]) ∧ ((n14 == meter) = false → (TAccount.mk t (.map 1)).cs = (TAccount.mk t (.map 1)).cs ∧ ∃ k22, k22 < m2 ∧ I0 k22 [AV.int .i64 (IntKind.i64.wrap (n3 + 1)), .agg [AV.int .i64 n4, .int .i64 n5], .agg [AV.iface 1000000 (.slc 3 es6)]])) ∧ (decide (n3 < (↑(List.map TMtItem.av (TAccount.mk t (.map (1 : Nat))).MtTask.Items).length : Int)) = false → Q (.agg [AV.int .i64 n4, .int .i64 n5]) [(TAccount.mk t (.map 1)).cs, [AV.iface 1000000 (.slc 3 es6)]])
theorem r45 (t : TMtTask) (meter : Int) (first : Int) (days : Int) (M : List AV) (S : SpecF) (Fr : FreshF) (Sq : SeqF) (Q : AV → List (List AV) → Prop) : awpF Tryz.prog (mkS Tryz.prog S Fr Sq ⟨[], [], [1000046, 999000046, 999000027], [], []⟩ 0) 2 ⟨[0, 1, 2, 3, 8, 10, 15, 16, 17, 18, 24], [⟨2, [(17, .int .i64 0)], [], [(8, .agg [.int .i64 0, .int .i64 0]), (1000001, .agg [.iface 1000000 (.slc 3 [])])], [], []⟩], [], []⟩ Tryz.f45 [.ref 0 0, .int .i64 meter, .int .i64 first, .int .i64 days] [⟨113, false, (TAccount.mk t (.map 1)).cs⟩, ⟨111, false, [.iface 1000000 (.slc 3 M)]⟩] Q = R45 t meter first days M S Fr Sq Q := by kernel_rfl
theorem s45 (t : TMtTask) (meter : Int) (first : Int) (days : Int) (M : List AV) (v : AV) (O : List (List AV)) (h : R45 t meter first days M (SpecOf Tryz.prog) (FreshOf Tryz.prog) (SeqOf Tryz.prog) (fun r O' => r = v ∧ O' = O)) : SpecOf Tryz.prog 45 [.ref 0 0, .int .i64 meter, .int .i64 first, .int .i64 days] [(TAccount.mk t (.map 1)).cs, [.iface 1000000 (.slc 3 M)]] v O :=
 spec_by (boxes := [⟨113, false, (TAccount.mk t (.map 1)).cs⟩, ⟨111, false, [.iface 1000000 (.slc 3 M)]⟩]) mixed (by exact trivial) Tryz.func45 Tryz.call45 rfl rfl rfl (Nat.le_of_ble_eq_true rfl) (r45 t meter first days M (SpecOf Tryz.prog) (FreshOf Tryz.prog) (SeqOf Tryz.prog) _) h
theorem c45 (t : TMtTask) (ht : ∀ x ∈ t.Items, ItemOK t x) (hn : t.Items.length ≤ 2 ^ 62) (meter first days : Int) (hd : days ≤ 2 ^ 62) (L : List Int) (hL : L.Nodup) : Sp 45 [.ref 0 0, .int .i64 meter, .int .i64 first, .int .i64 days] [(TAccount.mk t (.map 1)).cs, memA t.City L] (reckS t meter first days.toNat).av [(TAccount.mk t (.map 1)).cs, memA t.City (memR t meter first days.toNat L)] := s45 t meter first days (L.map (entN t.City)) _ _ (by
 unfold R45
 refine ⟨fun m vs => ∃ k : Nat, k ≤ t.Items.length ∧ m = t.Items.length - k ∧ vs = [.int .i64 (k : Nat), ((t.Items.take k).foldl (recS t meter first days.toNat) sum0).av, .agg (memA t.City ((t.Items.take k).foldl (memI meter first days.toNat) L))], ⟨_, 0, by omega, rfl, rfl⟩, ?_⟩
 rintro m n3 n4 n5 es6 ⟨k, hk, rfl, hv⟩
 generalize hs : (t.Items.take k).foldl (recS t meter first days.toNat) sum0 = s at hv
 generalize hm : (t.Items.take k).foldl (memI meter first days.toNat) L = L1 at hv
 cases hv
 dsimp only
 rw [List.length_map]
 refine ⟨fun h => ?_, fun h => ?_⟩
 ·have h := of_decide_eq_true h
  obtain ⟨x, hx, hx'⟩ := map_getN (f := TMtItem.av) (l := t.Items) (k := k) (by omega)
  have e : IntKind.i64.wrap ((k : Int) + 1) = ((k + 1 : Nat) : Int) := by rw [i64 (by omega)]; omega
  have e1 : (t.Items.take (k + 1)).foldl (recS t meter first days.toNat) sum0 = recS t meter first days.toNat s x := by rw [foldTake hx, hs]
  have e2 : (t.Items.take (k + 1)).foldl (memI meter first days.toNat) L = memI meter first days.toNat L1 x := by rw [foldTake hx, hm]
  refine ⟨x.Name, x.Lamp, x.Count, x.Profile, x.Meter, x.Declared, x.From, x.Until, ⟨by omega, rfl, hx'⟩, fun h2 => ?_, fun h2 => ⟨rfl, t.Items.length - (k + 1), by omega, k + 1, by omega, rfl, ?_⟩⟩
  ·refine ⟨_, _, _, c46 t x (ht x (List.mem_of_getElem? hx)) first days hd L1 (hm ▸ memI_nodup _ hL), _, _, c27 s _ x.Count, rfl, t.Items.length - (k + 1), by omega, k + 1, by omega, rfl, ?_⟩
   rw [e, e1, e2]
   unfold recS memI
   rw [if_pos h2, if_pos h2]; rfl
  ·rw [e, e1, e2]
   unfold recS memI
   rw [if_neg (by simp [h2]), if_neg (by simp [h2])]; rfl
 ·have h := of_decide_eq_false h
  rw [List.take_of_length_le (by omega)] at hs hm
  unfold reckS memR
  rw [hs, hm]
  exact ⟨rfl, rfl⟩)
def verE (m r : TEncl) : TMtVerdict := ⟨if m.Hi < r.Lo then 1 else if m.Lo > r.Hi then 2 else 0, m, r⟩
def R81 (m : TEncl) (r : TEncl) (_S : SpecF) (_Fr : FreshF) (_Sq : SeqF) (Q : AV → List (List AV) → Prop) : Prop :=
 (decide (m.Hi < r.Lo) = true → Q (.agg [AV.int .i64 1, .int .i64 m.Lo, .int .i64 m.Hi, .int .i64 r.Lo, .int .i64 r.Hi]) []) ∧ (decide (m.Hi < r.Lo) = false → (decide (m.Lo > r.Hi) = true → Q (.agg [AV.int .i64 2, .int .i64 m.Lo, .int .i64 m.Hi, .int .i64 r.Lo, .int .i64 r.Hi]) []) ∧ (decide (m.Lo > r.Hi) = false → Q (.agg [AV.int .i64 0, .int .i64 m.Lo, .int .i64 m.Hi, .int .i64 r.Lo, .int .i64 r.Hi]) []))
theorem r81 (m : TEncl) (r : TEncl) (S : SpecF) (Fr : FreshF) (Sq : SeqF) (Q : AV → List (List AV) → Prop) : awpF Tryz.prog (mkS Tryz.prog S Fr Sq ⟨[], [], [], [], []⟩ 0) 0 ⟨[0, 1, 2, 3, 4, 5, 14], [], [], []⟩ Tryz.f81 [m.av, r.av] [] Q = R81 m r S Fr Sq Q := by kernel_rfl
theorem s81 (m : TEncl) (r : TEncl) (v : AV) (O : List (List AV)) (h : R81 m r (SpecOf Tryz.prog) (FreshOf Tryz.prog) (SeqOf Tryz.prog) (fun r O' => r = v ∧ O' = O)) : SpecOf Tryz.prog 81 [m.av, r.av] [] v O :=
 spec_by (boxes := []) mixed (by exact trivial) Tryz.func81 Tryz.call81 rfl rfl rfl (Nat.le_of_ble_eq_true rfl) (r81 m r (SpecOf Tryz.prog) (FreshOf Tryz.prog) (SeqOf Tryz.prog) _) h
theorem c81 (m r : TEncl) : Sp 81 [m.av, r.av] [] (verE m r).av [] := s81 m r _ _ (by
 unfold R81 verE
 refine ⟨fun h => ?_, fun h => ⟨fun h2 => ?_, fun h2 => ?_⟩⟩
 ·rw [if_pos (of_decide_eq_true h)]; exact ⟨rfl, rfl⟩
 ·rw [if_neg (of_decide_eq_false h), if_pos (of_decide_eq_true h2)]; exact ⟨rfl, rfl⟩
 ·rw [if_neg (of_decide_eq_false h), if_neg (of_decide_eq_false h2)]; exact ⟨rfl, rfl⟩)
def daysP (p : TPair) : Int := IntKind.i64.wrap (p.b.Day - p.a.Day)
def cmpV (t : TMtTask) (meter : Int) (p : TPair) : TMtVerdict := verE (metE p) (hoursE (reckS t meter p.a.Day (daysP p).toNat))
def R41 (t : TMtTask) (meter : Int) (p : TPair) (M : List AV) (S : SpecF) (_Fr : FreshF) (_Sq : SeqF) (Q : AV → List (List AV) → Prop) : Prop :=
 ∃ n0 n1, S 43 [p.av] [] (.tup [AV.int .i64 n0, .int .i64 n1]) [] ∧ ∃ n3 n4, S 44 [p.av] [] (.agg [AV.int .i64 n3, .int .i64 n4]) [] ∧ ∃ n6 n7 es8, S 45 [AV.ref 0 0, .int .i64 meter, .int .i64 n0, .int .i64 n1] [(TAccount.mk t (.map 1)).cs, [AV.iface 1000000 (.slc 3 M)]] (.agg [AV.int .i64 n6, .int .i64 n7]) [(TAccount.mk t (.map 1)).cs, [AV.iface 1000000 (.slc 3 es8)]] ∧ ∃ n10 n11, S 48 [AV.agg [AV.int .i64 n6, .int .i64 n7]] [] (.agg [AV.int .i64 n10, .int .i64 n11]) [] ∧ ∃ n13 n14 n15 n16 n17, S 81 [AV.agg [AV.int .i64 n3, .int .i64 n4], .agg [AV.int .i64 n10, .int .i64 n11]] [] (.agg [AV.int .i64 n13, .int .i64 n14, .int .i64 n15, .int .i64 n16, .int .i64 n17]) [] ∧ Q (.agg [AV.int .i64 n13, .int .i64 n14, .int .i64 n15, .int .i64 n16, .int .i64 n17]) [(TAccount.mk t (.map 1)).cs, [AV.iface 1000000 (.slc 3 es8)]]
theorem r41 (t : TMtTask) (meter : Int) (p : TPair) (M : List AV) (S : SpecF) (Fr : FreshF) (Sq : SeqF) (Q : AV → List (List AV) → Prop) : awpF Tryz.prog (mkS Tryz.prog S Fr Sq ⟨[], [], [1000045], [], []⟩ 0) 2 ⟨[0, 1, 2, 5, 6, 7, 8], [], [], []⟩ Tryz.f41 [.ref 0 0, .int .i64 meter, p.av] [⟨113, false, (TAccount.mk t (.map 1)).cs⟩, ⟨111, false, [.iface 1000000 (.slc 3 M)]⟩] Q = R41 t meter p M S Fr Sq Q := by kernel_rfl
theorem s41 (t : TMtTask) (meter : Int) (p : TPair) (M : List AV) (v : AV) (O : List (List AV)) (h : R41 t meter p M (SpecOf Tryz.prog) (FreshOf Tryz.prog) (SeqOf Tryz.prog) (fun r O' => r = v ∧ O' = O)) : SpecOf Tryz.prog 41 [.ref 0 0, .int .i64 meter, p.av] [(TAccount.mk t (.map 1)).cs, [.iface 1000000 (.slc 3 M)]] v O :=
 spec_by (boxes := [⟨113, false, (TAccount.mk t (.map 1)).cs⟩, ⟨111, false, [.iface 1000000 (.slc 3 M)]⟩]) mixed (by exact trivial) Tryz.func41 Tryz.call41 rfl rfl rfl (Nat.le_of_ble_eq_true rfl) (r41 t meter p M (SpecOf Tryz.prog) (FreshOf Tryz.prog) (SeqOf Tryz.prog) _) h
theorem c41 (t : TMtTask) (ht : ∀ x ∈ t.Items, ItemOK t x) (hn : t.Items.length ≤ 2 ^ 62) (meter : Int) (p : TPair) (hp : MeterV p.MtMeter) (hd : daysP p ≤ 2 ^ 62) (L : List Int) (hL : L.Nodup) : Sp 41 [.ref 0 0, .int .i64 meter, p.av] [(TAccount.mk t (.map 1)).cs, memA t.City L] (cmpV t meter p).av [(TAccount.mk t (.map 1)).cs, memA t.City (memR t meter p.a.Day (daysP p).toNat L)] := s41 t meter p (L.map (entN t.City)) _ _ (by
 unfold R41
 exact ⟨_, _, c43 p, _, _, c44 p hp, _, _, _, c45 t ht hn meter p.a.Day _ hd L hL, _, _, c48 _, _, _, _, _, _, c81 _ _, rfl, rfl⟩)
def R16 (t : TMtTask) (most : Int) (_S : SpecF) (_Fr : FreshF) (_Sq : SeqF) (Q : AV → List (List AV) → Prop) : Prop :=
 ∃ (I0 : Nat → List AV → Prop), (∃ m2, I0 m2 TEncl.zero.cs) ∧ ∀ (m2 : Nat) (n3 n4 : Int), I0 m2 [AV.int .i64 n3, .int .i64 n4] → (decide (n4 < (↑(List.map TMtMeter.av t.Meters).length : Int)) = true → ∃ s8 n9 n10 n11 es12, ((0 : Int) ≤ n4 ∧ (5 : Nat) = (5 : Nat) ∧ (List.map TMtMeter.av t.Meters)[n4.toNat]? = some (.agg [AV.str s8, .int .i64 n9, .int .i64 n10, .int .i64 n11, .slc 3 es12])) ∧ (decide ((↑es12.length : Int) > (1 : Int)) = true → (decide ((↑es12.length : Int) ≤ (30 : Int)) = true → ∃ n18 n19, ((0 : Int) ≤ IntKind.i64.wrap ((↑es12.length : Int) - (1 : Int)) ∧ (2 : Nat) = (2 : Nat) ∧ es12[(IntKind.i64.wrap ((↑es12.length : Int) - (1 : Int))).toNat]? = some (.agg [AV.int .i64 n18, .int .i64 n19])) ∧ ∃ n21 n22, ((0 : Int) ≤ (0 : Int) ∧ (2 : Nat) = (2 : Nat) ∧ es12[(0 : Nat)]? = some (.agg [AV.int .i64 n21, .int .i64 n22])) ∧ (decide (IntKind.i64.wrap (n18 - n21) < 0) = true → Q (.bool false) []) ∧ (decide (IntKind.i64.wrap (n18 - n21) < 0) = false → (decide (IntKind.i64.wrap (n18 - n21) > most) = true → Q (.bool false) []) ∧ (decide (IntKind.i64.wrap (n18 - n21) > most) = false → t.cs = t.cs ∧ ∃ k29, k29 < m2 ∧ I0 k29 [AV.int .i64 (IntKind.i64.wrap (n3 + IntKind.i64.wrap (n18 - n21))), .int .i64 (IntKind.i64.wrap (n4 + 1))]))) ∧ (decide ((↑es12.length : Int) ≤ (30 : Int)) = false → t.cs = t.cs ∧ ∃ k19, k19 < m2 ∧ I0 k19 [AV.int .i64 n3, .int .i64 (IntKind.i64.wrap (n4 + 1))])) ∧ (decide ((↑es12.length : Int) > (1 : Int)) = false → t.cs = t.cs ∧ ∃ k17, k17 < m2 ∧ I0 k17 [AV.int .i64 n3, .int .i64 (IntKind.i64.wrap (n4 + 1))])) ∧ (decide (n4 < (↑(List.map TMtMeter.av t.Meters).length : Int)) = false → (decide (n3 ≤ most) = true → (decide ((↑(List.map TMtItem.av t.Items).length : Int) ≤ (8 : Int)) = true → Q (.bool true) []) ∧ (decide ((↑(List.map TMtItem.av t.Items).length : Int) ≤ (8 : Int)) = false → Q (.bool (decide ((↑(List.map TMtItem.av t.Items).length : Int) > (20 : Int)))) [])) ∧ (decide (n3 ≤ most) = false → Q (.bool false) []))
theorem r16 (t : TMtTask) (most : Int) (S : SpecF) (Fr : FreshF) (Sq : SeqF) (Q : AV → List (List AV) → Prop) : awpF Tryz.prog (mkS Tryz.prog S Fr Sq ⟨[], [], [], [], []⟩ 0) 0 ⟨[0, 1, 2, 4, 5, 6, 7, 8, 13, 29, 48], [⟨3, [(5, .int .i64 0), (6, .int .i64 0)], [], [], [], []⟩], [], []⟩ Tryz.f16 [t.av, .int .i64 most] [] Q = R16 t most S Fr Sq Q := by kernel_rfl
theorem s16 (t : TMtTask) (most : Int) (v : AV) (O : List (List AV)) (h : R16 t most (SpecOf Tryz.prog) (FreshOf Tryz.prog) (SeqOf Tryz.prog) (fun r O' => r = v ∧ O' = O)) : SpecOf Tryz.prog 16 [t.av, .int .i64 most] [] v O :=
 spec_by (boxes := []) mixed (by exact trivial) Tryz.func16 Tryz.call16 rfl rfl rfl (Nat.le_of_ble_eq_true rfl) (r16 t most (SpecOf Tryz.prog) (FreshOf Tryz.prog) (SeqOf Tryz.prog) _) h
def daysB (most : Int) : List TMtMeter → Int → Bool × Int
 | [], n => (true, n)
 | m :: r, n => if 1 < m.Readings.length ∧ m.Readings.length ≤ 30 then
   (if IntKind.i64.wrap ((m.Readings.getD (m.Readings.length - 1) noRead).Day - (m.Readings.getD 0 noRead).Day) < 0 then (false, n) else
    if IntKind.i64.wrap ((m.Readings.getD (m.Readings.length - 1) noRead).Day - (m.Readings.getD 0 noRead).Day) > most then (false, n) else
    daysB most r (IntKind.i64.wrap (n + IntKind.i64.wrap ((m.Readings.getD (m.Readings.length - 1) noRead).Day - (m.Readings.getD 0 noRead).Day))))
  else daysB most r n
theorem daysB_cons (most : Int) (m : TMtMeter) (r : List TMtMeter) (n : Int) : daysB most (m :: r) n = if 1 < m.Readings.length ∧ m.Readings.length ≤ 30 then
   (if IntKind.i64.wrap ((m.Readings.getD (m.Readings.length - 1) noRead).Day - (m.Readings.getD 0 noRead).Day) < 0 then (false, n) else
    if IntKind.i64.wrap ((m.Readings.getD (m.Readings.length - 1) noRead).Day - (m.Readings.getD 0 noRead).Day) > most then (false, n) else
    daysB most r (IntKind.i64.wrap (n + IntKind.i64.wrap ((m.Readings.getD (m.Readings.length - 1) noRead).Day - (m.Readings.getD 0 noRead).Day))))
  else daysB most r n := rfl
def daysR (t : TMtTask) (most : Int) : Bool := (daysB most t.Meters 0).1 && (decide ((daysB most t.Meters 0).2 ≤ most) && (decide (t.Items.length ≤ 8) || decide (t.Items.length > 20)))
theorem c16 (t : TMtTask) (hn : t.Meters.length ≤ 2 ^ 62) (most : Int) : Sp 16 [t.av, .int .i64 most] [] (.bool (daysR t most)) [] := s16 t most _ _ (by
 unfold R16
 refine ⟨fun m vs => ∃ (k : Nat) (n : Int), k ≤ t.Meters.length ∧ m = t.Meters.length - k ∧ vs = [.int .i64 n, .int .i64 (k : Nat)] ∧ daysB most t.Meters 0 = daysB most (t.Meters.drop k) n, ⟨_, 0, 0, by omega, rfl, rfl, rfl⟩, ?_⟩
 rintro m n3 n4 ⟨k, n, hk, rfl, hv, hd⟩
 cases hv
 rw [List.length_map]
 have e : IntKind.i64.wrap ((k : Int) + 1) = ((k + 1 : Nat) : Int) := by rw [i64 (by omega)]; omega
 refine ⟨fun h => ?_, fun h => ?_⟩
 ·have h := of_decide_eq_true h
  obtain ⟨x, hx, hx'⟩ := map_getN (f := TMtMeter.av) (l := t.Meters) (k := k) (by omega)
  rw [List.drop_eq_getElem_cons (by omega), show t.Meters[k] = x by have := List.getElem?_eq_getElem (l := t.Meters) (i := k) (by omega); rw [hx] at this; exact (Option.some.inj this).symm] at hd
  refine ⟨x.Name, x.Step, x.Modulus, x.Error, x.Readings.map TMtReading.av, ⟨by omega, rfl, hx'⟩, ?_⟩
  rw [List.length_map]
  rw [daysB_cons] at hd
  refine ⟨fun h2 => ⟨fun h3 => ?_, fun h3 => ⟨rfl, t.Meters.length - (k + 1), by omega, k + 1, n3, by omega, rfl, by rw [e], ?_⟩⟩, fun h2 => ⟨rfl, t.Meters.length - (k + 1), by omega, k + 1, n3, by omega, rfl, by rw [e], ?_⟩⟩
  ·have h2 := of_decide_eq_true h2
   have h3 := of_decide_eq_true h3
   rw [if_pos ⟨by omega, by omega⟩] at hd
   have el : IntKind.i64.wrap ((x.Readings.length : Int) - 1) = ((x.Readings.length - 1 : Nat) : Int) := by rw [i64 (by omega)]; omega
   obtain ⟨a, ha, ha'⟩ := map_getN (f := TMtReading.av) (l := x.Readings) (k := x.Readings.length - 1) (by omega)
   obtain ⟨b, hb, hb'⟩ := map_getN (f := TMtReading.av) (l := x.Readings) (k := 0) (by omega)
   rw [List.getD, List.getD, ha, hb] at hd
   rw [el]
   refine ⟨a.Day, a.Value, ⟨by omega, rfl, ha'⟩, b.Day, b.Value, ⟨by decide, rfl, hb'⟩, fun h4 => ?_, fun h4 => ⟨fun h5 => ?_, fun h5 => ⟨rfl, t.Meters.length - (k + 1), by omega, k + 1, _, by omega, rfl, by rw [e], ?_⟩⟩⟩
   ·have h4 := of_decide_eq_true h4
    simp only [Option.getD_some] at hd
    rw [if_pos h4] at hd
    unfold daysR; rw [hd]; exact ⟨rfl, rfl⟩
   ·have h4 := of_decide_eq_false h4
    have h5 := of_decide_eq_true h5
    simp only [Option.getD_some] at hd
    rw [if_neg h4, if_pos h5] at hd
    unfold daysR; rw [hd]; exact ⟨rfl, rfl⟩
   ·have h4 := of_decide_eq_false h4
    have h5 := of_decide_eq_false h5
    simp only [Option.getD_some] at hd
    rw [if_neg h4, if_neg h5] at hd
    exact hd
  ·have h3 := of_decide_eq_false h3
   rw [if_neg (by omega)] at hd
   exact hd
  ·have h2 := of_decide_eq_false h2
   rw [if_neg (by omega)] at hd
   exact hd
 ·have h := of_decide_eq_false h
  rw [List.drop_of_length_le (by omega)] at hd
  have hr : daysR t most = (decide (n3 ≤ most) && (decide (t.Items.length ≤ 8) || decide (t.Items.length > 20))) := by
   unfold daysR; rw [hd]; rfl
  rw [hr, List.length_map]
  refine ⟨fun h2 => ⟨fun h3 => ⟨?_, rfl⟩, fun h3 => ⟨?_, rfl⟩⟩, fun h2 => ⟨?_, rfl⟩⟩
  ·have h3 := of_decide_eq_true h3
   rw [h2, decide_eq_true (by omega : t.Items.length ≤ 8)]; rfl
  ·have h3 := of_decide_eq_false h3
   rw [h2, decide_eq_false (by omega : ¬ t.Items.length ≤ 8), Bool.true_and, Bool.false_or]
   refine congrArg AV.bool (decide_eq_decide.2 (by omega))
  ·rw [h2]; rfl)
def cmpL (t : TMtTask) (meter : Int) : List TMtVerdict := (List.range ((meterAt t meter).Readings.length - 1)).map fun i => cmpV t meter (pairAt (meterAt t meter) i)
def compareR (t : TMtTask) (meter : Int) : List TMtVerdict × Int :=
 if accE t meter 0 t.Meters.length ≠ 0 then ([], accE t meter 0 t.Meters.length) else (cmpL t meter, 0)
end Go.Proofs.YtblebiafhhhflaaGreat
namespace Go.Proofs.YtblebiafhhhflaaGreat
open Go.RowKit
section
variable {α : Type} {f : α → AV} {g : α → List AV} {k : Nat}
theorem chunkM (hf : ∀ x, f x = .agg (g x)) (hk : ∀ x, (g x).length = k) (ho : ∀ x, ones (g x) = true) (l : List α) : chunks k true (l.map f).length (List.drop 0 (List.flatMap AV.cells (l.map f))) = l.map f := by
 simp only [chunks, if_true, List.drop_zero, List.length_map]; exact (flat_map hf hk ho l).2.2.2
theorem nextM (hf : ∀ x, f x = .agg (g x)) (l : List α) (x : α) : ((l ++ [x]).map f).length = (l.map f).length + 1 ∧ List.flatMap AV.cells ((l ++ [x]).map f) = List.flatMap AV.cells (l.map f) ++ g x := by
 refine ⟨by simp, ?_⟩
 rw [List.map_append, List.flatMap_append]
 simp [hf, AV.cells]
end
def ReadP (m : TMtMeter) (l : List TMtReading) (bf : Option TMtReading) : Prop := (∀ r ∈ l, daylessB r.Day = false ∧ outB r.Value 0 (IntKind.i64.wrap (m.Modulus - 1)) = false) ∧
  (∀ b, bf = some b → ∀ r, l[0]? = some r → outB (IntKind.i64.wrap (r.Day - b.Day)) 1 200 = false) ∧ ∀ i a b, l[i]? = some a → l[i + 1]? = some b → outB (IntKind.i64.wrap (b.Day - a.Day)) 1 200 = false
theorem readE_all {m : TMtMeter} : ∀ {l : List TMtReading} {bf : Option TMtReading}, readE m bf l = 0 → ReadP m l bf
 | [], bf, _ => ⟨fun r h => (by cases h), fun b _ r h => (by cases h), fun i a b h => (by simp at h)⟩
 | r :: l, bf, h => by
  unfold readE at h
  split at h
  ·cases h
  rename_i h1
  split at h
  ·cases h
  rename_i h2
  have h1 : daylessB r.Day = false := by simpa using h1
  have h2 : outB r.Value 0 (IntKind.i64.wrap (m.Modulus - 1)) = false := by simpa using h2
  have key : readE m (some r) l = 0 → (∀ b, bf = some b → outB (IntKind.i64.wrap (r.Day - b.Day)) 1 200 = false) → ReadP m (r :: l) bf := fun h hb => by
   obtain ⟨k1, k2, k3⟩ := readE_all h
   refine ⟨fun x hx => ?_, fun b hbf x hx => ?_, fun i a b ha hb => ?_⟩
   ·rcases List.mem_cons.1 hx with rfl | hx
    ·exact ⟨h1, h2⟩
    ·exact k1 x hx
   ·simp only [List.getElem?_cons_zero, Option.some.injEq] at hx
    subst hx; exact hb b hbf
   ·cases i with
    | zero =>
     simp only [List.getElem?_cons_zero, Option.some.injEq] at ha
     subst ha
     exact k2 _ rfl b (by simpa using hb)
    | succ i => exact k3 i a b (by simpa using ha) (by simpa using hb)
  split at h
  ·exact key h (by simp)
  ·rename_i b
   split at h
   ·cases h
   rename_i h3
   exact key h (fun b' hb' => by cases hb'; simpa using h3)
structure PairV (p : TPair) : Prop where
 meter : MeterV p.MtMeter
 day : 2 ≤ p.a.Day ∧ p.b.Day ≤ 39998
 gap : 1 ≤ p.b.Day - p.a.Day ∧ p.b.Day - p.a.Day ≤ 200
 va : 0 ≤ p.a.Value ∧ p.a.Value < p.MtMeter.Modulus
 vb : 0 ≤ p.b.Value ∧ p.b.Value < p.MtMeter.Modulus
theorem MeterV.pair {m : TMtMeter} (h : MeterV m) {i : Nat} {a b : TMtReading} (ha : m.Readings[i]? = some a) (hb : m.Readings[i + 1]? = some b) : PairV ⟨m, a, b⟩ := by
 obtain ⟨h1, _, h3⟩ := readE_all h.reads
 have hm := h.modulus
 have a1 := h1 a (List.mem_of_getElem? ha)
 have b1 := h1 b (List.mem_of_getElem? hb)
 have g := outF.1 (h3 i a b ha hb)
 have ad := outF.1 a1.1
 have bd := outF.1 b1.1
 rw [i64 (by omega)] at g
 have av := outF.1 a1.2
 have bv := outF.1 b1.2
 rw [i64 (by omega)] at av bv
 exact ⟨h, ⟨ad.1, bd.2⟩, g, by simp only; omega, by simp only; omega⟩
theorem PairV.days {p : TPair} (h : PairV p) : daysP p = p.b.Day - p.a.Day := i64 (by have := h.gap; omega)
theorem pairAt_v {m : TMtMeter} (h : MeterV m) {i : Nat} (hi : i + 1 < m.Readings.length) : PairV (pairAt m i) := by
 have h1 : m.Readings[i]? = some m.Readings[i] := List.getElem?_eq_getElem (by omega)
 have h2 : m.Readings[i + 1]? = some m.Readings[i + 1] := List.getElem?_eq_getElem (by omega)
 have := h.pair h1 h2
 unfold pairAt
 rw [List.getD, List.getD, h1, h2]; exact this
theorem pairL_atP {m : TMtMeter} {i : Nat} {v : List AV} (h : (pairL m)[i]? = some v) : i + 1 < m.Readings.length ∧ v = [.int .i64 (i : Nat), (pairAt m i).av] := by
 obtain ⟨h0, a, b, ha, hb, rfl⟩ := pairL_get h
 refine ⟨h0, ?_⟩
 unfold pairAt
 rw [List.getD, List.getD, ha, hb]; rfl
theorem cellsOf79 : Tryz.prog.cellsOf 79 = 5 := by kernel_rfl
theorem agg79 : isAggT Tryz.prog 79 = true := by kernel_rfl
theorem verS (l : List TMtVerdict) : elemsOf 5 (l.map TMtVerdict.av) ∧ ((l.map TMtVerdict.av).flatMap AV.cells).length = l.length * 5 ∧ ones ((l.map TMtVerdict.av).flatMap AV.cells) = true ∧ chunkA 5 l.length ((l.map TMtVerdict.av).flatMap AV.cells) = l.map TMtVerdict.av := flat_map (f := TMtVerdict.av) (g := TMtVerdict.cs) (k := 5) (fun _ => rfl) (fun _ => rfl) (fun _ => rfl) l
theorem cmpL_take {t : TMtTask} {meter : Int} {i : Nat} : (List.range (i + 1)).map (fun j => cmpV t meter (pairAt (meterAt t meter) j)) = (List.range i).map (fun j => cmpV t meter (pairAt (meterAt t meter) j)) ++ [cmpV t meter (pairAt (meterAt t meter) i)] := by
 rw [List.range_succ, List.map_append]; rfl
def R21 (t : TMtTask) (meter : Int) (S : SpecF) (_Fr : FreshF) (Sq : SeqF) (Q : AV → List (List AV) → Prop) : Prop :=
 ∃ n0 n1 n2, S 52 [t.av] [] (.tup [AV.int .i64 n0, .int .i64 n1, .int .i64 n2]) [] ∧ ∃ (J4 : List AV → Prop), (((n2 == 0) = true → ∃ b8, S 38 [AV.int .i64 meter, .int .i64 0, .int .i64 (IntKind.i64.wrap ((↑(List.map TMtMeter.av t.Meters).length : Int) - (1 : Int)))] [] (.bool b8) [] ∧ (b8 = true → t.cs = t.cs ∧ Same [AV.int .i64 meter] ∧ Same [AV.slc 0 []] ∧ t.cs = t.cs ∧ t.cs = t.cs ∧ Same [AV.iface 1000000 (.slc 3 [])] ∧ Same [AV.int .i64 t.City.Lat, .int .i64 t.City.Lon, .int .i64 t.City.Zone, .int .i64 t.City.Altitude.Lo, .int .i64 t.City.Altitude.Hi, .slc 3 (List.map TLmTable.av t.Catalog.Tables), .slc 3 (List.map TLmLamp.av t.Catalog.Lamps), .slc 3 (List.map TMtProfile.av t.Profiles), .slc 3 (List.map TMtItem.av t.Items), .slc 3 (List.map TMtMeter.av t.Meters), .map ((81 : Nat) + (14 : Nat))] ∧ J4 [AV.int .i64 4]) ∧ (b8 = false → t.cs = t.cs ∧ Same [AV.int .i64 meter] ∧ Same [AV.slc 0 []] ∧ t.cs = t.cs ∧ t.cs = t.cs ∧ Same [AV.iface 1000000 (.slc 3 [])] ∧ Same [AV.int .i64 t.City.Lat, .int .i64 t.City.Lon, .int .i64 t.City.Zone, .int .i64 t.City.Altitude.Lo, .int .i64 t.City.Altitude.Hi, .slc 3 (List.map TLmTable.av t.Catalog.Tables), .slc 3 (List.map TLmLamp.av t.Catalog.Lamps), .slc 3 (List.map TMtProfile.av t.Profiles), .slc 3 (List.map TMtItem.av t.Items), .slc 3 (List.map TMtMeter.av t.Meters), .map ((81 : Nat) + (14 : Nat))] ∧ J4 [AV.int .i64 n2])) ∧ ((n2 == 0) = false → t.cs = t.cs ∧ Same [AV.int .i64 meter] ∧ Same [AV.slc 0 []] ∧ t.cs = t.cs ∧ t.cs = t.cs ∧ Same [AV.iface 1000000 (.slc 3 [])] ∧ Same [AV.int .i64 t.City.Lat, .int .i64 t.City.Lon, .int .i64 t.City.Zone, .int .i64 t.City.Altitude.Lo, .int .i64 t.City.Altitude.Hi, .slc 3 (List.map TLmTable.av t.Catalog.Tables), .slc 3 (List.map TLmLamp.av t.Catalog.Lamps), .slc 3 (List.map TMtProfile.av t.Profiles), .slc 3 (List.map TMtItem.av t.Items), .slc 3 (List.map TMtMeter.av t.Meters), .map ((81 : Nat) + (14 : Nat))] ∧ J4 [AV.int .i64 n2])) ∧ ∀ (n6 : Int), J4 [AV.int .i64 n6] → ((n6 != 0) = true → Q (.tup [AV.slc 3 [], .int .i64 n6]) []) ∧ ((n6 != 0) = false → ∃ s10 n11 n12 n13 es14, ((0 : Int) ≤ meter ∧ (5 : Nat) = (5 : Nat) ∧ (List.map TMtMeter.av t.Meters)[meter.toNat]? = some (.agg [AV.str s10, .int .i64 n11, .int .i64 n12, .int .i64 n13, .slc 3 es14])) ∧ ∃ s16 n17 n18 n19 es20, S 40 [AV.agg [AV.str s10, .int .i64 n11, .int .i64 n12, .int .i64 n13, .slc 3 es14]] [] (AV.fn (80 : FuncId) [] [AV.eptr [AV.str s16, .int .i64 n17, .int .i64 n18, .int .i64 n19, .slc 3 es20] (0 : Nat)]) [] ∧ ∃ xs22, Sq (80 : FuncId) [AV.eptr [AV.str s16, .int .i64 n17, .int .i64 n18, .int .i64 n19, .slc 3 es20] (0 : Nat)] [] xs22 ∧ (∀ (x25 : List AV), x25 ∈ xs22 → fitL [AV.int .i64 0, .agg [AV.str default, .int .i64 0, .int .i64 0, .int .i64 0, .slc 3 [], .int .i64 0, .int .i64 0, .int .i64 0, .int .i64 0]] x25 = true ∧ AV.treeL x25 = true) ∧ ∃ (I25 : Nat → List AV → Prop), I25 (0 : Nat) [AV.slc 3 [], .agg [AV.iface 1000000 (.slc 3 [])]] ∧ (∀ (i28 : Nat) (n29 : Int) (s30 : ByteArray) (n31 n32 n33 : Int) (es34 : List AV) (n35 n36 n37 n38 : Int), xs22[i28]? = some [AV.int .i64 n29, .agg [AV.str s30, .int .i64 n31, .int .i64 n32, .int .i64 n33, .slc 3 es34, .int .i64 n35, .int .i64 n36, .int .i64 n37, .int .i64 n38]] → ∀ (es40 es41 : List AV), I25 i28 [AV.slc 3 es40, .agg [AV.iface 1000000 (.slc 3 es41)]] → ∃ n43 n44 n45 n46 n47 es48, S 41 [AV.ref 0 0, .int .i64 meter, .agg [AV.str s30, .int .i64 n31, .int .i64 n32, .int .i64 n33, .slc 3 es34, .int .i64 n35, .int .i64 n36, .int .i64 n37, .int .i64 n38]] [(TAccount.mk t (.map 1)).cs, [AV.iface 1000000 (.slc 3 es41)]] (.agg [AV.int .i64 n43, .int .i64 n44, .int .i64 n45, .int .i64 n46, .int .i64 n47]) [(TAccount.mk t (.map 1)).cs, [AV.iface 1000000 (.slc 3 es48)]] ∧ elemsOf (5 : Nat) [AV.agg [AV.int .i64 n43, .int .i64 n44, .int .i64 n45, .int .i64 n46, .int .i64 n47]] ∧ ((List.flatMap AV.cells es40).length = es40.length * Tryz.prog.cellsOf (79 : Nat) ∧ (es40.length + 1 + (512 : Nat)) * 201 ≤ (1125899906842624 : Nat) ∧ ones [AV.int .i64 n43, .int .i64 n44, .int .i64 n45, .int .i64 n46, .int .i64 n47] = true ∧ ones (List.flatMap AV.cells es40) = true) ∧ t.cs = t.cs ∧ Same [AV.int .i64 meter] ∧ Same [AV.undef] ∧ Same [AV.ref ((81 : Nat) + (16 : Nat)) (0 : Nat)] ∧ t.cs = t.cs ∧ t.cs = t.cs ∧ Same [AV.int .i64 t.City.Lat, .int .i64 t.City.Lon, .int .i64 t.City.Zone, .int .i64 t.City.Altitude.Lo, .int .i64 t.City.Altitude.Hi, .slc 3 (List.map TLmTable.av t.Catalog.Tables), .slc 3 (List.map TLmLamp.av t.Catalog.Lamps), .slc 3 (List.map TMtProfile.av t.Profiles), .slc 3 (List.map TMtItem.av t.Items), .slc 3 (List.map TMtMeter.av t.Meters), .map ((81 : Nat) + (14 : Nat))] ∧ ∃ es59, (es59.length = es40.length + 1 ∧ List.flatMap AV.cells es59 = List.flatMap AV.cells es40 ++ [AV.int .i64 n43, .int .i64 n44, .int .i64 n45, .int .i64 n46, .int .i64 n47]) ∧ I25 (i28 + 1) [AV.slc 3 es59, .agg [AV.iface 1000000 (.slc 3 es48)]]) ∧ ∀ (es28 es29 : List AV), I25 xs22.length [AV.slc 3 es28, .agg [AV.iface 1000000 (.slc 3 es29)]] → (0 : Nat) + es28.length * Tryz.prog.cellsOf (79 : Nat) ≤ (List.flatMap AV.cells es28).length ∧ Q (.tup [AV.slc 3 (chunks (Tryz.prog.cellsOf (79 : Nat)) (isAggT Tryz.prog (79 : Nat)) es28.length (List.drop (0 : Nat) (List.flatMap AV.cells es28))), .int .i64 0]) [])
theorem r21 (t : TMtTask) (meter : Int) (S : SpecF) (Fr : FreshF) (Sq : SeqF) (Q : AV → List (List AV) → Prop) : awpF Tryz.prog (mkS Tryz.prog S Fr Sq ⟨[], [(40, [.fn 80 [] [.eptr [.str default, .int .i64 0, .int .i64 0, .int .i64 0, .slc 3 []] 0]])], [1000041, 999000041], [(25, ⟨[0, 1, 2, 3, 4, 8, 9, 10, 11, 25], [], [⟨4, [(11, .int .i64 0)], [], [], [], []⟩], []⟩), (62, ⟨[0, 1, 2, 3, 6], [], [], []⟩)], []⟩ 4) 0 ⟨[0, 1, 2, 3, 4, 5, 6, 8, 19, 26, 27, 28], [⟨6, [], [], [(3000006, .agg [.iface 1000000 (.slc 3 [])])], [(4, 0, 79)], [.int .i64 0, .agg [.str default, .int .i64 0, .int .i64 0, .int .i64 0, .slc 3 [], .int .i64 0, .int .i64 0, .int .i64 0, .int .i64 0]]⟩], [], []⟩ Tryz.f21 [t.av, .int .i64 meter] [] Q = R21 t meter S Fr Sq Q := by kernel_rfl
theorem s21 (t : TMtTask) (meter : Int) (v : AV) (O : List (List AV)) (h : R21 t meter (SpecOf Tryz.prog) (FreshOf Tryz.prog) (SeqOf Tryz.prog) (fun r O' => r = v ∧ O' = O)) : SpecOf Tryz.prog 21 [t.av, .int .i64 meter] [] v O :=
 spec_by (boxes := []) mixed (by exact ⟨Tryz.call25, ⟨Tryz.call62, trivial⟩⟩) Tryz.func21 Tryz.call21 rfl rfl rfl (Nat.le_of_ble_eq_true rfl) (r21 t meter (SpecOf Tryz.prog) (FreshOf Tryz.prog) (SeqOf Tryz.prog) _) h
theorem c21 (t : TMtTask) (ht : TaskOK t) (hn : t.Items.length ≤ 2 ^ 62) (hn2 : t.Meters.length ≤ 2 ^ 62) (meter : Int) : Sp 21 [t.av, .int .i64 meter] [] (.tup [.slc 3 ((compareR t meter).1.map TMtVerdict.av), .int .i64 (compareR t meter).2]) [] := s21 t meter _ _ (by
 unfold R21
 rw [List.length_map]
 refine ⟨_, _, _, c52 t ht, fun vs => vs = [.int .i64 (accE t meter 0 t.Meters.length)], ⟨fun h => ⟨_, c38 .., fun h2 => ⟨rfl, rfl, rfl, rfl, rfl, rfl, rfl, ?_⟩, fun h2 => ⟨rfl, rfl, rfl, rfl, rfl, rfl, rfl, ?_⟩⟩, fun h => ⟨rfl, rfl, rfl, rfl, rfl, rfl, rfl, ?_⟩⟩, ?_⟩
 ·unfold accE; rw [withE_out h h2]
 ·unfold accE; rw [withE_in h2]
 ·unfold accE; rw [withE_bad h]
 intro n6 hv
 cases hv
 unfold compareR
 refine ⟨fun h => ⟨?_, rfl⟩, fun h => ?_⟩
 ·rw [if_pos (by simpa using h)]; rfl
 have h : accE t meter 0 t.Meters.length = 0 := by simpa using h
 obtain ⟨hv, h0, h1⟩ := accE_zero hn2 h
 obtain ⟨_, hm, hx⟩ := meter_get h0 h1
 have hmv := hv.meter hm
 rw [if_neg (by simp [h])]
 unfold cmpL
 have hstep : ∀ i, _ := fun i => cmpL_take (t := t) (meter := meter) (i := i)
 generalize meterAt t meter = m at *
 have hlen := hmv.number
 refine ⟨m.Name, m.Step, m.Modulus, m.Error, List.map TMtReading.av m.Readings, ⟨h0, rfl, hx⟩, m.Name, m.Step, m.Modulus, m.Error, List.map TMtReading.av m.Readings, c40 m, _, sqPairs m (by omega), fun v hv => ?_, fun i vs => ∃ L : List Int, L.Nodup ∧ vs = [.slc 3 (((List.range i).map fun j => cmpV t meter (pairAt m j)).map TMtVerdict.av), .agg (memA t.City L)], ⟨[], List.nodup_nil, rfl⟩, ?_, ?_⟩
 ·obtain ⟨i, p, _, rfl⟩ := pairL_fit v hv
  exact ⟨rfl, rfl⟩
 ·rintro i n29 s30 n31 n32 n33 es34 n35 n36 n37 n38 hi es40 es41 ⟨L, hL, hv2⟩
  obtain ⟨hil, he⟩ := pairL_atP hi
  have hp := pairAt_v hmv hil
  have hst := hstep i
  have hpm : (pairAt m i).MtMeter = m := rfl
  generalize hql : (List.range i).map (fun j => cmpV t meter (pairAt m j)) = ql at *
  have hqn : ql.length ≤ 30 := by rw [← hql, List.length_map, List.length_range]; omega
  generalize pairAt m i = p at *
  cases hv2
  have hF := verS ql
  cases he
  refine ⟨_, _, _, _, _, _, c41 t (fun x hx => hv.itemOK ht.cat hx) hn meter p hp.meter (by rw [hp.days]; have := hp.gap; omega) L hL, fun v hv => (by rw [List.mem_singleton] at hv; rw [hv]; rfl), ⟨?_, ?_, rfl, hF.2.2.1⟩, rfl, rfl, rfl, rfl, rfl, rfl, rfl, ((ql ++ [cmpV t meter p]).map TMtVerdict.av), ?_, memR t meter p.a.Day (daysP p).toNat L, memI_nodup _ hL, ?_⟩
  ·rw [cellsOf79, hF.2.1, List.length_map]
  ·rw [List.length_map]; omega
  ·exact nextM (f := TMtVerdict.av) (g := TMtVerdict.cs) (fun _ => rfl) _ _
  ·rw [hst]; rfl
 ·rintro es28 es29 ⟨L, hL, hv2⟩
  rw [pairL_len] at hv2
  generalize (List.range (m.Readings.length - 1)).map (fun j => cmpV t meter (pairAt m j)) = ql at *
  cases hv2
  have hF := verS ql
  refine ⟨?_, ?_, rfl⟩
  ·rw [cellsOf79, hF.2.1, List.length_map]; omega
  ·rw [cellsOf79, agg79, chunkM (f := TMtVerdict.av) (g := TMtVerdict.cs) (fun _ => rfl) (fun _ => rfl) (fun _ => rfl)])
theorem cmpL_get {t : TMtTask} {meter : Int} {i : Nat} (h : i + 1 < (meterAt t meter).Readings.length) : (cmpL t meter)[i]? = some (cmpV t meter (pairAt (meterAt t meter) i)) := by
 unfold cmpL
 rw [List.getElem?_map, List.getElem?_range (by omega)]; rfl
theorem cmpL_len (t : TMtTask) (meter : Int) : (cmpL t meter).length = (meterAt t meter).Readings.length - 1 := by simp [cmpL]
def verAt (l : List TMtVerdict) (i : Nat) : TMtVerdict := l.getD i ⟨0, ⟨0, 0⟩, ⟨0, 0⟩⟩
def agreesB (t : TMtTask) (index reading : Int) : Bool := decide ((compareR t index).2 = 0) && (decide (reading < (compareR t index).1.length) && ((verAt (compareR t index).1 reading.toNat).Kind == 0))
def R19 (t : TMtTask) (index : Int) (reading : Int) (S : SpecF) (_Fr : FreshF) (_Sq : SeqF) (Q : AV → List (List AV) → Prop) : Prop :=
 ∃ es0 n1, S 21 [t.av, .int .i64 index] [] (.tup [AV.slc 3 es0, .int .i64 n1]) [] ∧ ((n1 == 0) = true → (decide (reading < (↑es0.length : Int)) = true → ∃ n7 n8 n9 n10 n11, ((0 : Int) ≤ reading ∧ (5 : Nat) = (5 : Nat) ∧ es0[reading.toNat]? = some (.agg [AV.int .i64 n7, .int .i64 n8, .int .i64 n9, .int .i64 n10, .int .i64 n11])) ∧ Q (.bool (n7 == 0)) []) ∧ (decide (reading < (↑es0.length : Int)) = false → Q (.bool false) [])) ∧ ((n1 == 0) = false → Q (.bool false) [])
theorem r19 (t : TMtTask) (index : Int) (reading : Int) (S : SpecF) (Fr : FreshF) (Sq : SeqF) (Q : AV → List (List AV) → Prop) : awpF Tryz.prog (mkS Tryz.prog S Fr Sq ⟨[], [], [], [], []⟩ 0) 0 ⟨[0, 1, 2, 3, 6, 7, 8], [], [], []⟩ Tryz.f19 [t.av, .int .i64 index, .int .i64 reading] [] Q = R19 t index reading S Fr Sq Q := by kernel_rfl
theorem s19 (t : TMtTask) (index : Int) (reading : Int) (v : AV) (O : List (List AV)) (h : R19 t index reading (SpecOf Tryz.prog) (FreshOf Tryz.prog) (SeqOf Tryz.prog) (fun r O' => r = v ∧ O' = O)) : SpecOf Tryz.prog 19 [t.av, .int .i64 index, .int .i64 reading] [] v O :=
 spec_by (boxes := []) mixed (by exact trivial) Tryz.func19 Tryz.call19 rfl rfl rfl (Nat.le_of_ble_eq_true rfl) (r19 t index reading (SpecOf Tryz.prog) (FreshOf Tryz.prog) (SeqOf Tryz.prog) _) h
theorem c19 (t : TMtTask) (ht : TaskOK t) (hn : t.Items.length ≤ 2 ^ 62) (hn2 : t.Meters.length ≤ 2 ^ 62) (index reading : Int) (h0 : 0 ≤ reading) : Sp 19 [t.av, .int .i64 index, .int .i64 reading] [] (.bool (agreesB t index reading)) [] := s19 t index reading _ _ (by
 unfold R19 agreesB
 refine ⟨_, _, c21 t ht hn hn2 index, ?_⟩
 generalize compareR t index = r
 rw [List.length_map]
 refine ⟨fun h => ⟨fun h2 => ?_, fun h2 => ⟨?_, rfl⟩⟩, fun h => ⟨?_, rfl⟩⟩
 ·have h3 := of_decide_eq_true h2
  obtain ⟨k, rfl⟩ : ∃ k : Nat, reading = k := ⟨reading.toNat, by omega⟩
  obtain ⟨x, hx, hx'⟩ := map_getN (f := TMtVerdict.av) (l := r.1) (k := k) (by omega)
  refine ⟨x.Kind, x.Metered.Lo, x.Metered.Hi, x.Reckoned.Lo, x.Reckoned.Hi, ⟨h0, rfl, hx'⟩, ?_, rfl⟩
  rw [decide_eq_true (by simpa using h : r.2 = 0), h2]
  unfold verAt
  rw [Int.toNat_natCast, List.getD, hx]; rfl
 ·rw [h2, Bool.false_and, Bool.and_false]
 ·rw [decide_eq_false (by simpa using h : ¬ r.2 = 0), Bool.false_and])
end Go.Proofs.YtblebiafhhhflaaGreat
