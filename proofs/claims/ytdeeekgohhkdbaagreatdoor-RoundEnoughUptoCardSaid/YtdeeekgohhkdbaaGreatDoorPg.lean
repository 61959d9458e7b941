/- Contracts: whether parts are enough; RoundEnough. -/
import Derived.Test.YtdeeekgohhkdbaaGreatDoorPf
namespace Go.Proofs.YtdeeekgohhkdbaaGreatDoor
open Go.RowKit
def sumK (needs:List (List Int)) (k:Nat) (s:List Int) (a:Int):Int:=s.foldl (fun a n => addI a ((needAt needs n).getD k 0)) a
def okS (parts:List Int) (needs:List (List Int)) (s:List Int):Bool:=(List.range parts.length).all fun k => !decide (sumK needs k s 0 > parts.getD k 0)
theorem okS_no {parts:List Int} {needs:List (List Int)} {s:List Int} {k:Nat} (hk:k < parts.length) (h:sumK needs k s 0 > parts.getD k 0):okS parts needs s = false:=by
 unfold okS
 rw [List.all_eq_false]
 exact ⟨k,List.mem_range.2 hk,by rw [decide_eq_true h]; simp⟩
theorem okS_yes {parts:List Int} {needs:List (List Int)} {s:List Int} (h:∀ k,k < parts.length → ¬ sumK needs k s 0 > parts.getD k 0):okS parts needs s = true:=by
 unfold okS
 rw [List.all_eq_true]
 intro k hk
 rw [decide_eq_false (h k (List.mem_range.1 hk))]; rfl
theorem sumK_take {needs:List (List Int)} {k:Nat} {s:List Int} {a:Int} {p:Nat} (h:p < s.length):sumK needs k (s.take (p + 1)) a = addI (sumK needs k (s.take p) a) ((needAt needs s[p]).getD k 0):=by
 unfold sumK
 rw [List.take_add_one,List.getElem?_eq_getElem h,List.foldl_append]; rfl
theorem all_drop {f:List Int → Bool} {S:List (List Int)} {j:Nat} (h:j < S.length):(S.drop j).all f = (f S[j] && (S.drop (j + 1)).all f):=by
 rw [List.drop_eq_getElem_cons h,List.all_cons]
def R37 (parts:List Int) (needs sets:List (List Int)) (_S:SpecF) (_Fr:FreshF) (_Sq:SeqF) (Q:PostF):Prop :=
 ∃ (I0:Nat → List AV → Prop),(∃ m2,I0 m2 [iN 0]) ∧ ∀ (m2:Nat) (n3:Int),I0 m2 [iN n3] → (decide (n3 < (↑(List.map (fun x => AV.slc 3 (List.map (AV.int IntKind.i64) x)) sets).length:Int)) = true → ∃ (I7:Nat → List AV → Prop),(∃ m9,I7 m9 [iN 0]) ∧ ∀ (m9:Nat) (n10:Int),I7 m9 [iN n10] → (decide (n10 < (↑(List.map (AV.int IntKind.i64) parts).length:Int)) = true → ∃ (I14:Nat → List AV → Prop),(∃ m16,I14 m16 TEncl.zero.cs) ∧ ∀ (m16:Nat) (n17 n18:Int),I14 m16 [iN n17,iN n18] → ∃ es20,((0:Int) ≤ n3 ∧ (1:Nat) = (1:Nat) ∧ (List.map (fun x => AV.slc 3 (List.map (AV.int IntKind.i64) x)) sets)[n3.toNat]? = some (.slc 3 es20)) ∧ (decide (n18 < (↑es20.length:Int)) = true → ∃ es24,((0:Int) ≤ n3 ∧ (1:Nat) = (1:Nat) ∧ (List.map (fun x => AV.slc 3 (List.map (AV.int IntKind.i64) x)) sets)[n3.toNat]? = some (.slc 3 es24)) ∧ ∃ n26,((0:Int) ≤ n18 ∧ (1:Nat) = (1:Nat) ∧ es24[n18.toNat]? = some (iN n26)) ∧ ∃ es28,((0:Int) ≤ n26 ∧ (1:Nat) = (1:Nat) ∧ (List.map (fun x => AV.slc 3 (List.map (AV.int IntKind.i64) x)) needs)[n26.toNat]? = some (.slc 3 es28)) ∧ ∃ n30,((0:Int) ≤ n10 ∧ (1:Nat) = (1:Nat) ∧ es28[n10.toNat]? = some (iN n30)) ∧ ∃ k32,k32 < m16 ∧ I14 k32 [iN (IntKind.i64.wrap (n17 + n30)),iN (IntKind.i64.wrap (n18 + 1))]) ∧ (decide (n18 < (↑es20.length:Int)) = false → ∃ n24,((0:Int) ≤ n10 ∧ (1:Nat) = (1:Nat) ∧ (List.map (AV.int IntKind.i64) parts)[n10.toNat]? = some (iN n24)) ∧ (decide (n17 > n24) = true → Q (.bool false) []) ∧ (decide (n17 > n24) = false → ∃ k28,k28 < m9 ∧ I7 k28 [iN (IntKind.i64.wrap (n10 + 1))]))) ∧ (decide (n10 < (↑(List.map (AV.int IntKind.i64) parts).length:Int)) = false → ∃ k14,k14 < m2 ∧ I0 k14 [iN (IntKind.i64.wrap (n3 + 1))])) ∧ (decide (n3 < (↑(List.map (fun x => AV.slc 3 (List.map (AV.int IntKind.i64) x)) sets).length:Int)) = false → Q (.bool true) [])
theorem s37 (parts:List Int) (needs:List (List Int)) (sets:List (List Int)) (v:AV) (O:List (List AV)) (h:R37 parts needs sets Sp Fo So (fun r O' => r = v ∧ O' = O)):Sp 37 [.slc 3 (List.map (AV.int .i64) parts),.slc 3 (List.map (fun x => .slc 3 (List.map (AV.int .i64) x)) needs),.slc 3 (List.map (fun x => .slc 3 (List.map (AV.int .i64) x)) sets)] [] v O :=
 spec_by (w:=⟨[],[],[],[],[]⟩) (k:=0) (keep:=⟨[0,1,2,6,7,8,9,10,14,20,29,52],[⟨2,[(7,iN 0)],[],[],[],[],[]⟩,⟨5,[(8,iN 0)],[],[],[],[],[]⟩,⟨9,[(9,iN 0),(10,iN 0)],[],[],[],[],[]⟩],[],[]⟩) (boxes:=[]) mixed (by exact trivial) Tryz.func37 Tryz.call37 rfl rfl rfl (Nat.le_of_ble_eq_true rfl) (by kernel_rfl) h
theorem c37 (parts:List Int) (needs sets:List (List Int)) (V:CarryV needs sets) (hp:parts.length = (needs.getD 0 []).length) (hsm:∀ l ∈ sets,l.length ≤ 17592186043904):Sp 37 [.slc 3 (intsT parts),.slc 3 (planA needs),.slc 3 (planA sets)] [] (.bool (sets.all (okS parts needs))) []:=s37 parts needs sets _ _ (by
 unfold R37
 have h4:=V.four
 have hsl:=V.sl
 refine ⟨fun m vs => ∃ j:Nat,vs = [.int .i64 j] ∧ j ≤ sets.length ∧ m = sets.length - j ∧ (sets.drop j).all (okS parts needs) = sets.all (okS parts needs),⟨_,0,rfl,by omega,rfl,rfl⟩,?_⟩
 rintro m2 n3 ⟨j,hj,hjl,rfl,hall⟩
 cases hj
 rw [List.length_map]
 refine ⟨fun h => ?_,fun h => ?_⟩
 ·have hj:j < sets.length:=by have:=of_decide_eq_true h; omega
  have hset:=V.one _ (List.getElem_mem hj)
  have hsj:=hsm _ (List.getElem_mem hj)
  rw [all_drop hj] at hall
  refine ⟨fun m vs => ∃ k:Nat,vs = [.int .i64 k] ∧ k ≤ parts.length ∧ m = parts.length - k ∧ ∀ i,i < k → ¬ sumK needs i sets[j] 0 > parts.getD i 0,⟨_,0,rfl,by omega,rfl,fun i hi => by omega⟩,?_⟩
  rintro m9 n10 ⟨k,hk,hkl,rfl,hok⟩
  cases hk
  rw [List.length_map]
  refine ⟨fun h => ?_,fun h => ?_⟩
  ·have hk:k < parts.length:=by have:=of_decide_eq_true h; omega
   refine ⟨fun m vs => ∃ p:Nat,vs = [.int .i64 (sumK needs k (sets[j].take p) 0),.int .i64 p] ∧ p ≤ sets[j].length ∧ m = sets[j].length - p,⟨_,0,rfl,by omega,rfl⟩,?_⟩
   rintro m16 n17 n18 ⟨p,hp',hpl,rfl⟩
   cases hp'
   refine ⟨_,⟨by omega,by trivial,plan_get hj⟩,?_⟩
   rw [intsT_len]
   refine ⟨fun h => ?_,fun h => ?_⟩
   ·have hp':p < sets[j].length:=by have:=of_decide_eq_true h; omega
    obtain ⟨x0,x1⟩:=hset _ (List.getElem_mem hp')
    obtain ⟨g1,g2,g3⟩:=V.need x0 x1
    have g1':(planA needs)[(sets[j][p]).toNat]? = some (.slc 3 (intsT (needAt needs sets[j][p]))):=by unfold planA; rw [List.getElem?_map,g1]; rfl
    have qb:=get_of (l:=needAt needs sets[j][p]) (k:=k) (by omega)
    have qb':(intsT (needAt needs sets[j][p]))[((k:Nat):Int).toNat]? = some (.int .i64 ((needAt needs sets[j][p]).getD k 0)):=by unfold intsT; rw [Int.toNat_natCast,List.getElem?_map,qb]; rfl
    refine ⟨_,⟨by omega,by trivial,plan_get hj⟩,_,⟨by omega,by trivial,ints_get hp'⟩,_,⟨x0,by trivial,g1'⟩,_,⟨by omega,by trivial,qb'⟩,sets[j].length - (p + 1),by omega,p + 1,?_,by omega,rfl⟩
    rw [sumK_take hp',i64 (n:=(p:Int) + 1) (by omega)]; rfl
   ·have hp':p = sets[j].length:=by have:=of_decide_eq_false h; omega
    subst hp'
    rw [List.take_length]
    have qb:=get_of (l:=parts) (k:=k) hk
    have qb':(intsT parts)[((k:Nat):Int).toNat]? = some (.int .i64 (parts.getD k 0)):=by unfold intsT; rw [Int.toNat_natCast,List.getElem?_map,qb]; rfl
    refine ⟨_,⟨by omega,by trivial,qb'⟩,fun h => ⟨?_,by trivial⟩,fun h => ⟨_,(by omega:parts.length - (k + 1) < parts.length - k),k + 1,by rw [i64 (n:=(k:Int) + 1) (by omega)]; rfl,by omega,rfl,fun i hi => ?_⟩⟩
    ·rw [← hall,okS_no hk (of_decide_eq_true h)]; rfl
    ·by_cases hik:i = k
     ·subst hik; exact of_decide_eq_false h
     ·exact hok i (by omega)
  ·have hk:k = parts.length:=by have:=of_decide_eq_false h; omega
   subst hk
   rw [okS_yes hok,Bool.true_and] at hall
   exact ⟨_,(by omega:sets.length - (j + 1) < sets.length - j),j + 1,by rw [i64 (n:=(j:Int) + 1) (by omega)]; rfl,by omega,rfl,hall⟩
 ·have hj:j = sets.length:=by have:=of_decide_eq_false h; omega
  subst hj
  rw [List.drop_length] at hall
  exact ⟨by rw [← hall]; rfl,by trivial⟩)
theorem zip_get {f:Int → Int → Int} {a b:List Int} {k:Nat} (ha:k < a.length) (hb:k < b.length):(List.zipWith f a b).getD k 0 = f (a.getD k 0) (b.getD k 0):=by
 rw [List.getD_eq_getElem?_getD,List.getElem?_zipWith,get_of ha,get_of hb]; rfl
theorem sum_get {needs sets:List (List Int)} (V:CarryV needs sets) {k:Nat} (hk:k < (needs.getD 0 []).length):∀ (s:List Int) (z:List Int),z.length = (needs.getD 0 []).length → (∀ n ∈ s,0 ≤ n ∧ n < needs.length) → (sumL needs z s).getD k 0 = sumK needs k s (z.getD k 0):=by
 intro s
 induction s with
 | nil => intro z _ _; rfl
 | cons n s ih =>
  intro z hz hs
  obtain ⟨n0,n1⟩:=hs n List.mem_cons_self
  have g:=(V.need n0 n1).2.2
  have:=ih (List.zipWith addI z (needAt needs n)) (by rw [List.length_zipWith]; omega) (fun m hm => hs m (List.mem_cons_of_mem _ hm))
  show (sumL needs (List.zipWith addI z (needAt needs n)) s).getD k 0 = sumK needs k s (addI (z.getD k 0) ((needAt needs n).getD k 0))
  rw [this,zip_get (by omega) (by omega)]
def mostK (needs:List (List Int)) (k:Nat) (S:List (List Int)) (e:Int):Int:=S.foldl (fun e s => mostI e (sumK needs k s 0)) e
theorem enough_get {needs sets:List (List Int)} (V:CarryV needs sets) {k:Nat} (hk:k < (needs.getD 0 []).length):∀ (S:List (List Int)) (e:List Int),e.length = (needs.getD 0 []).length → (∀ s ∈ S,s ∈ sets) → (enoughL needs (zeroL needs) S e).getD k 0 = mostK needs k S (e.getD k 0):=by
 have hz:(zeroL needs).length = (needs.getD 0 []).length:=by unfold zeroL; rw [List.length_replicate]
 have hz0:(zeroL needs).getD k 0 = 0:=by unfold zeroL; rw [List.getD_eq_getElem?_getD,List.getElem?_replicate]; split <;> rfl
 intro S
 induction S with
 | nil => intro e _ _; rfl
 | cons s S ih =>
  intro e he hS
  have h1:=V.one s (hS s List.mem_cons_self)
  have g:=sum_len V hz s h1
  have q:=sum_get V hk s (zeroL needs) hz h1
  rw [hz0] at q
  have:=ih (List.zipWith mostI e (sumL needs (zeroL needs) s)) (by rw [List.length_zipWith]; omega) (fun m hm => hS m (List.mem_cons_of_mem _ hm))
  show (enoughL needs (zeroL needs) S (List.zipWith mostI e (sumL needs (zeroL needs) s))).getD k 0 = mostK needs k S (mostI (e.getD k 0) (sumK needs k s 0))
  rw [this,zip_get (by omega) (by omega),q]
theorem most_ge (needs:List (List Int)) (k:Nat):∀ (S:List (List Int)) (e:Int),e ≤ mostK needs k S e ∧ (∀ s ∈ S,sumK needs k s 0 ≤ mostK needs k S e) ∧ (mostK needs k S e = e ∨ ∃ s ∈ S,sumK needs k s 0 = mostK needs k S e):=by
 intro S
 induction S with
 | nil => intro e; exact ⟨Int.le_refl _,fun s hs => (by cases hs),.inl rfl⟩
 | cons s S ih =>
  intro e
  obtain ⟨i1,i2,i3⟩:=ih (mostI e (sumK needs k s 0))
  have hm:e ≤ mostI e (sumK needs k s 0) ∧ sumK needs k s 0 ≤ mostI e (sumK needs k s 0) ∧ (mostI e (sumK needs k s 0) = e ∨ mostI e (sumK needs k s 0) = sumK needs k s 0):=by unfold mostI; split <;> omega
  show e ≤ mostK needs k S (mostI e (sumK needs k s 0)) ∧ _
  have e0:mostK needs k (s :: S) e = mostK needs k S (mostI e (sumK needs k s 0)):=rfl
  rw [e0]
  refine ⟨by omega,fun r hr => ?_,?_⟩
  ·rcases List.mem_cons.1 hr with rfl | hr
   ·omega
   ·exact i2 r hr
  ·rcases i3 with h | ⟨r,hr,h⟩
   ·rcases hm.2.2 with h' | h'
    ·exact .inl (h.trans h')
    ·exact .inr ⟨s,List.mem_cons_self,by omega⟩
   ·exact .inr ⟨r,List.mem_cons_of_mem _ hr,h⟩
theorem sumK_in (needs:List (List Int)) (k:Nat):∀ (s:List Int) (a:Int),-9223372036854775808 ≤ a ∧ a ≤ 9223372036854775807 → -9223372036854775808 ≤ sumK needs k s a ∧ sumK needs k s a ≤ 9223372036854775807:=by
 intro s
 induction s with
 | nil => intro a h; exact h
 | cons n s ih =>
  intro a _
  refine ih (addI a ((needAt needs n).getD k 0)) ?_
  unfold addI
  simp only [IntKind.wrap_i64]; omega
theorem carry_zero {needs sets:List (List Int)} (h:(carryN needs sets).2 = 0):(needs.length = 0 ∧ (carryN needs sets).1 = []) ∨ (needs.length ≠ 0 ∧ CarryV needs sets ∧ carryN needs sets = (enoughL needs (zeroL needs) sets (zeroL needs),0)):=by
 unfold carryN at h ⊢
 by_cases h0:sets.length > 200
 ·rw [if_pos h0] at h; exact absurd h (by decide)
 rw [if_neg h0] at h ⊢
 by_cases h1:needs.length > 100
 ·rw [if_pos h1] at h; exact absurd h (by decide)
 rw [if_neg h1] at h ⊢
 by_cases h2:needs.any (otherB needs) = true
 ·rw [if_pos h2] at h; exact absurd h (by decide)
 rw [if_neg h2] at h ⊢
 by_cases h3:needs.flatten.any manyC = true
 ·rw [if_pos h3] at h; exact absurd h (by decide)
 rw [if_neg h3] at h ⊢
 by_cases h4:sets.flatten.any (noneC needs) = true
 ·rw [if_pos h4] at h; exact absurd h (by decide)
 rw [if_neg h4] at h ⊢
 by_cases h5:sets.any dupB = true
 ·rw [if_pos h5] at h; exact absurd h (by decide)
 rw [if_neg h5] at h ⊢
 by_cases h6:needs.length = 0
 ·rw [if_pos h6]; exact .inl ⟨h6,rfl⟩
 ·rw [if_neg h6]; exact .inr ⟨h6,carry_v h0 h1 (by simpa using h2) (by simpa using h3) (by simpa using h4) (by simpa using h5) h6,rfl⟩
theorem carry_bad {needs sets:List (List Int)} (h:(carryN needs sets).2 ≠ 0):(carryN needs sets).1 = []:=by
 unfold carryN at h ⊢
 by_cases h0:sets.length > 200
 ·rw [if_pos h0]
 rw [if_neg h0] at h ⊢
 by_cases h1:needs.length > 100
 ·rw [if_pos h1]
 rw [if_neg h1] at h ⊢
 by_cases h2:needs.any (otherB needs) = true
 ·rw [if_pos h2]
 rw [if_neg h2] at h ⊢
 by_cases h3:needs.flatten.any manyC = true
 ·rw [if_pos h3]
 rw [if_neg h3] at h ⊢
 by_cases h4:sets.flatten.any (noneC needs) = true
 ·rw [if_pos h4]
 rw [if_neg h4] at h ⊢
 by_cases h5:sets.any dupB = true
 ·rw [if_pos h5]
 rw [if_neg h5] at h ⊢
 by_cases h6:needs.length = 0
 ·rw [if_pos h6]
 ·rw [if_neg h6] at h; exact absurd rfl h
theorem ne_noP {a b:Int} (h:(a != b) = true) (e:a = b):False:=by subst e; simp at h
theorem dec_noP {p:Prop} [Decidable p] (h:decide p = true) (e:¬ p):False:=e (of_decide_eq_true h)
def R12 (needs sets:List (List Int)) (S:SpecF) (_Fr:FreshF) (_Sq:SeqF) (Q:PostF):Prop :=
 ∃ es0 n1,S 35 [AV.slc 3 (List.map (fun x => AV.slc 3 (List.map (AV.int IntKind.i64) x)) needs),.slc 3 (List.map (fun x => AV.slc 3 (List.map (AV.int IntKind.i64) x)) sets)] [] (.tup [AV.slc 3 es0,iN n1]) [] ∧ ((n1 != 0) = true → (((↑es0.length:Int) == (0:Int)) = true → ∃ b7,S 17 [] [] (.bool b7) [] ∧ Q (.bool b7) []) ∧ (((↑es0.length:Int) == (0:Int)) = false → Q (.bool false) [])) ∧ ((n1 != 0) = false → (((↑(List.map (fun x => AV.slc 3 (List.map (AV.int IntKind.i64) x)) needs).length:Int) == (0:Int)) = true → (((↑es0.length:Int) == (0:Int)) = true → ∃ b9,S 17 [] [] (.bool b9) [] ∧ Q (.bool b9) []) ∧ (((↑es0.length:Int) == (0:Int)) = false → Q (.bool false) [])) ∧ (((↑(List.map (fun x => AV.slc 3 (List.map (AV.int IntKind.i64) x)) needs).length:Int) == (0:Int)) = false → ∃ es7,((0:Int) ≤ (0:Int) ∧ (1:Nat) = (1:Nat) ∧ (List.map (fun x => AV.slc 3 (List.map (AV.int IntKind.i64) x)) needs)[(0:Nat)]? = some (.slc 3 es7)) ∧ (((↑es0.length:Int) != (↑es7.length:Int)) = true → Q (.bool false) []) ∧ (((↑es0.length:Int) != (↑es7.length:Int)) = false → ∃ b11,S 37 [AV.slc 3 es0,.slc 3 (List.map (fun x => AV.slc 3 (List.map (AV.int IntKind.i64) x)) needs),.slc 3 (List.map (fun x => AV.slc 3 (List.map (AV.int IntKind.i64) x)) sets)] [] (.bool b11) [] ∧ ((!b11) = true → Q (.bool false) []) ∧ ((!b11) = false → ∃ (I15:Nat → List AV → Prop),(∃ m17,I15 m17 [iN 0]) ∧ ∀ (m17:Nat) (n18:Int),I15 m17 [iN n18] → (decide (n18 < (↑es0.length:Int)) = true → elemsOf (1:Nat) es0 ∧ ((([]:List AV) = [] ∨ (0:Nat) < es0.length) ∧ ((0:Nat) + es0.length + 512) * 41 ≤ (1125899906842624:Nat) ∧ elemsOf (1:Nat) [] ∧ ones (List.flatMap AV.cells es0) = true ∧ ones [] = true) ∧ ((0:Int) ≤ n18 ∧ n18 < (↑((0:Nat) + es0.length):Int) ∧ (1:Nat) = (1:Nat)) ∧ ∃ n25,Option.map AV.norm (partA Tryz.prog (3:Nat) ([] ++ List.flatMap AV.cells es0) ((0:Nat) + n18.toNat * 1)) = some (iN n25) ∧ ((0:Int) ≤ n18 ∧ n18 < (↑((0:Nat) + es0.length):Int) ∧ (1:Nat) = (1:Nat)) ∧ (0:Nat) + n18.toNat * 1 + (1:Nat) ≤ ([] ++ List.flatMap AV.cells es0).length ∧ ∃ n29,((0:Int) ≤ n18 ∧ (1:Nat) = (1:Nat) ∧ es0[n18.toNat]? = some (iN n29)) ∧ (decide (n29 < 0) = true → Q (.bool false) []) ∧ (decide (n29 < 0) = false → ∃ n33,((0:Int) ≤ n18 ∧ (1:Nat) = (1:Nat) ∧ es0[n18.toNat]? = some (iN n33)) ∧ (decide (n33 > 0) = true → ((0:Nat) + ((0:Nat) + es0.length) * 1 ≤ (setCells ([] ++ List.flatMap AV.cells es0) ((0:Nat) + n18.toNat * 1) [iN (IntKind.i64.wrap (n25 - 1))]).length ∧ ones (setCells ([] ++ List.flatMap AV.cells es0) ((0:Nat) + n18.toNat * 1) [iN (IntKind.i64.wrap (n25 - 1))]) = true) ∧ ∃ b38,S 37 [AV.slc 3 (chunks (1:Nat) (isAggT Tryz.prog (3:Nat)) ((0:Nat) + es0.length) (List.drop (0:Nat) (setCells ([] ++ List.flatMap AV.cells es0) ((0:Nat) + n18.toNat * 1) [iN (IntKind.i64.wrap (n25 - 1))]))),.slc 3 (List.map (fun x => AV.slc 3 (List.map (AV.int IntKind.i64) x)) needs),.slc 3 (List.map (fun x => AV.slc 3 (List.map (AV.int IntKind.i64) x)) sets)] [] (.bool b38) [] ∧ (b38 = true → Q (.bool false) []) ∧ (b38 = false → ∃ k42,k42 < m17 ∧ I15 k42 [iN (IntKind.i64.wrap (n18 + 1))])) ∧ (decide (n33 > 0) = false → ∃ k37,k37 < m17 ∧ I15 k37 [iN (IntKind.i64.wrap (n18 + 1))]))) ∧ (decide (n18 < (↑es0.length:Int)) = false → ∃ b22,S 17 [] [] (.bool b22) [] ∧ Q (.bool b22) [])))))
theorem s12 (needs:List (List Int)) (sets:List (List Int)) (v:AV) (O:List (List AV)) (h:R12 needs sets Sp Fo So (fun r O' => r = v ∧ O' = O)):Sp 12 [.slc 3 (List.map (fun x => .slc 3 (List.map (AV.int .i64) x)) needs),.slc 3 (List.map (fun x => .slc 3 (List.map (AV.int .i64) x)) sets)] [] v O :=
 spec_by (w:=⟨[],[],[],[],[]⟩) (k:=0) (keep:=⟨[0,1,4,5,6,7,8,21,41,45,74],[⟨7,[(7,iN 0)],[],[],[],[],[]⟩],[],[]⟩) (boxes:=[]) mixed (by exact trivial) Tryz.func12 Tryz.call12 rfl rfl rfl (Nat.le_of_ble_eq_true rfl) (by kernel_rfl) h
theorem c12 (needs sets:List (List Int)) (hs:sets.length + sets.flatten.length ≤ 1048576) (hn:needs.length + needs.flatten.length ≤ 1048576):Sp 12 [.slc 3 (planA needs),.slc 3 (planA sets)] [] (.bool true) []:=s12 needs sets _ _ (by
 have hsm:∀ l ∈ sets,l.length ≤ 17592186043904:=fun l hl => by
  obtain ⟨i,hi,rfl⟩:=List.getElem_of_mem hl
  have h1:=flat_step hi
  have h2:=flat_le (P:=sets) (i + 1)
  rw [h1,List.length_append] at h2
  omega
 unfold R12
 have awake:∃ b:Bool,Sp 17 [] [] (.bool b) [] ∧ (AV.bool b = .bool true ∧ ([]:List (List AV)) = []):=⟨_,awake_ok,rfl,rfl⟩
 have hC:=c35 needs sets hs hn
 unfold carrierV at hC
 by_cases hz:(carryN needs sets).2 = 0
 case neg =>
  refine ⟨_,_,hC,fun _ => ⟨fun _ => awake,fun h => ?_⟩,fun h => absurd (by simpa using h) hz⟩
  rw [carry_bad hz] at h; exact absurd h (by decide)
 rw [hz] at hC
 rcases carry_zero hz with ⟨h0,h1⟩ | ⟨h0,V,hE⟩
 ·rw [h1] at hC
  refine ⟨_,_,hC,fun h => absurd h (by decide),fun _ => ⟨fun _ => ⟨fun _ => awake,fun h => absurd h (by decide)⟩,fun h => ?_⟩⟩
  rw [List.length_map,h0] at h; exact absurd h (by decide)
 have h4:=V.four
 have hsl:=V.sl
 rw [hE] at hC
 dsimp only at hC
 have hp0:=plan_get (P:=needs) (k:=0) (by omega)
 have e0:needs[0]'(by omega) = needs.getD 0 []:=by rw [List.getD_eq_getElem?_getD,List.getElem?_eq_getElem (by omega)]; rfl
 rw [e0] at hp0
 have hzl:(zeroL needs).length = (needs.getD 0 []).length:=by unfold zeroL; rw [List.length_replicate]
 have hl:=enough_len V sets (zeroL needs) (fun s h => h) hzl
 have hget:∀ k,k < (needs.getD 0 []).length → (enoughL needs (zeroL needs) sets (zeroL needs)).getD k 0 = mostK needs k sets 0:=fun k hk => by
  rw [enough_get V hk sets (zeroL needs) hzl (fun s h => h)]
  unfold zeroL
  rw [List.getD_eq_getElem?_getD,List.getElem?_replicate]; split <;> rfl
 generalize enoughL needs (zeroL needs) sets (zeroL needs) = n at *
 have hall:sets.all (okS n needs) = true:=by
  rw [List.all_eq_true]
  intro s hs
  refine okS_yes fun k hk => ?_
  rw [hget k (by omega)]
  have:=(most_ge needs k sets 0).2.1 s hs
  omega
 refine ⟨_,_,hC,fun h => absurd h (by decide),fun _ => ⟨fun h => ?_,fun _ => ⟨_,⟨by omega,by trivial,hp0⟩,fun h => (ne_noP h (by rw [intsT_len,intsT_len]; omega)).elim,fun _ => ⟨_,c37 n needs sets V hl hsm,fun h => ?_,fun _ => ?_⟩⟩⟩⟩
 ·rw [List.length_map] at h
  exact absurd (eq_of_beq h) (by omega)
 ·rw [hall] at h; exact absurd h (by decide)
 refine ⟨fun m vs => ∃ k:Nat,vs = [.int .i64 k] ∧ k ≤ n.length ∧ m = n.length - k,⟨_,0,rfl,by omega,rfl⟩,?_⟩
 rintro m17 n18 ⟨k,hk,hkl,rfl⟩
 cases hk
 rw [intsT_len]
 refine ⟨fun h => ?_,fun _ => awake⟩
 have hk:k < n.length:=by have:=of_decide_eq_true h; omega
 have ge:=get_of hk
 have ge':(intsT n)[((k:Nat):Int).toNat]? = some (.int .i64 (n.getD k 0)):=by unfold intsT; rw [Int.toNat_natCast,List.getElem?_map,ge]; rfl
 have hm:=most_ge needs k sets 0
 rw [← hget k (by omega)] at hm
 have hfl:List.flatMap AV.cells (intsT n) = intsT n:=flat1 ints_cells
 have hpart:=ints_part ge
 have hstep:∀ (Z:Prop),Z → Z:=fun _ h => h
 rw [hfl,List.nil_append]
 have hnext:∃ k',k' < n.length - k ∧ ∃ j:Nat,[AV.int .i64 (IntKind.i64.wrap ((k:Int) + 1))] = [.int .i64 j] ∧ j ≤ n.length ∧ k' = n.length - j:=⟨_,(by omega:n.length - (k + 1) < n.length - k),k + 1,by rw [i64 (n:=(k:Int) + 1) (by omega)]; rfl,by omega,rfl⟩
 refine ⟨fun v hv => by rw [ints_cells v hv]; rfl,⟨.inl rfl,by omega,fun v hv => (by cases hv),ints_ones n,rfl⟩,⟨by omega,by omega,by trivial⟩,_,hpart,⟨by omega,by omega,by trivial⟩,by rw [intsT_len]; omega,_,⟨by omega,by trivial,ge'⟩,fun g => (dec_noP g (by omega)).elim,fun _ => ⟨_,⟨by omega,by trivial,ge'⟩,fun g => ?_,fun _ => hnext⟩⟩
 have g:=of_decide_eq_true g
 rw [ints_set hk]
 have hch:chunks 1 (isAggT Tryz.prog 3) (0 + n.length) (List.drop 0 (intsT (n.set k (IntKind.i64.wrap (n.getD k 0 - 1))))) = intsT (n.set k (IntKind.i64.wrap (n.getD k 0 - 1))):=by
  rw [agg3,List.drop_zero,Nat.zero_add]
  show (intsT (n.set k (IntKind.i64.wrap (n.getD k 0 - 1)))).take n.length = _
  rw [List.take_of_length_le (by rw [intsT_len,List.length_set]; exact Nat.le_refl _)]
 rw [hch]
 refine ⟨⟨by rw [intsT_len,List.length_set]; omega,ints_ones _⟩,_,c37 (n.set k (IntKind.i64.wrap (n.getD k 0 - 1))) needs sets V (by rw [List.length_set]; exact hl) hsm,fun h => ?_,fun _ => hnext⟩
 exfalso
 rcases hm.2.2 with hb | ⟨s,hs',hb⟩
 ·omega
 ·have hin:=sumK_in needs k s 0 (by omega)
  have hbad:okS (n.set k (IntKind.i64.wrap (n.getD k 0 - 1))) needs s = false:=by
   refine okS_no (k:=k) (by rw [List.length_set]; exact hk) ?_
   have e:(n.set k (IntKind.i64.wrap (n.getD k 0 - 1))).getD k 0 = IntKind.i64.wrap (n.getD k 0 - 1):=by
    rw [List.getD_eq_getElem?_getD,List.getElem?_set_self hk]; rfl
   rw [e,i64 (by omega)]
   omega
  have:=List.all_eq_true.1 h s hs'
  rw [hbad] at this
  exact absurd this (by decide))
end Go.Proofs.YtdeeekgohhkdbaaGreatDoor
