/- Contracts: whether parts are enough; RoundEnough. -/
import Derived.Test.YtdeeekgohhkdbaaGreatDoorPf
namespace Go.Proofs.YtdeeekgohhkdbaaGreatDoor
open Go.RowKit
def sumK (needs:List (List Int)) (k:Nat) (s:List Int) (a:Int):Int:=s.foldl (fun a n => addI a ((needAt needs n).getD k 0)) a
theorem sumK_take {needs:List (List Int)} {k:Nat} {s:List Int} {a:Int} {p:Nat} (h:p < s.length):sumK needs k (s.take (p + 1)) a = addI (sumK needs k (s.take p) a) ((needAt needs s[p]).getD k 0):=by
 unfold sumK
 rw [List.take_add_one,List.getElem?_eq_getElem h,List.foldl_append]; rfl
theorem zip_get {f:Int → Int → Int} {a b:List Int} {k:Nat} (ha:k < a.length) (hb:k < b.length):(List.zipWith f a b).getD k 0 = f (a.getD k 0) (b.getD k 0):=by
 rw [List.getD_eq_getElem?_getD,List.getElem?_zipWith,get_of ha,get_of hb]; rfl
theorem sum_get {needs sets:List (List Int)} (V:CarryV needs sets) {k:Nat} (hk:k < (needs.getD 0 []).length):∀ (s:List Int) (z:List Int),z.length = (needs.getD 0 []).length → (∀ n ∈ s,0 ≤ n ∧ n < needs.length) → (sumL needs z s).getD k 0 = sumK needs k s (z.getD k 0):=by
 intro s
 induction s with
 | nil => intro z _ _; rfl
 | cons n s ih =>
  intro z hz hs
  obtain ⟨n0,n1⟩:=hs n List.mem_cons_self
  have g:=(V.need n0 n1).2.2
  have:=ih (List.zipWith addI z (needAt needs n)) (by rw [List.length_zipWith]; omega) (fun m hm => hs m (List.mem_cons_of_mem _ hm))
  show (sumL needs (List.zipWith addI z (needAt needs n)) s).getD k 0 = sumK needs k s (addI (z.getD k 0) ((needAt needs n).getD k 0))
  rw [this,zip_get (by omega) (by omega)]
def mostK (needs:List (List Int)) (k:Nat) (S:List (List Int)) (e:Int):Int:=S.foldl (fun e s => mostI e (sumK needs k s 0)) e
theorem enough_get {needs sets:List (List Int)} (V:CarryV needs sets) {k:Nat} (hk:k < (needs.getD 0 []).length):∀ (S:List (List Int)) (e:List Int),e.length = (needs.getD 0 []).length → (∀ s ∈ S,s ∈ sets) → (enoughL needs (zeroL needs) S e).getD k 0 = mostK needs k S (e.getD k 0):=by
 have hz:(zeroL needs).length = (needs.getD 0 []).length:=by unfold zeroL; rw [List.length_replicate]
 have hz0:(zeroL needs).getD k 0 = 0:=by unfold zeroL; rw [List.getD_eq_getElem?_getD,List.getElem?_replicate]; split <;> rfl
 intro S
 induction S with
 | nil => intro e _ _; rfl
 | cons s S ih =>
  intro e he hS
  have h1:=V.one s (hS s List.mem_cons_self)
  have g:=sum_len V hz s h1
  have q:=sum_get V hk s (zeroL needs) hz h1
  rw [hz0] at q
  have:=ih (List.zipWith mostI e (sumL needs (zeroL needs) s)) (by rw [List.length_zipWith]; omega) (fun m hm => hS m (List.mem_cons_of_mem _ hm))
  show (enoughL needs (zeroL needs) S (List.zipWith mostI e (sumL needs (zeroL needs) s))).getD k 0 = mostK needs k S (mostI (e.getD k 0) (sumK needs k s 0))
  rw [this,zip_get (by omega) (by omega),q]
theorem carry_zero {needs sets:List (List Int)} (h:(carryN needs sets).2 = 0):(needs.length = 0 ∧ (carryN needs sets).1 = []) ∨ (needs.length ≠ 0 ∧ CarryV needs sets ∧ carryN needs sets = (enoughL needs (zeroL needs) sets (zeroL needs),0)):=by
 unfold carryN at h ⊢
 by_cases h0:sets.length > 200
 ·rw [if_pos h0] at h; exact absurd h (by decide)
 rw [if_neg h0] at h ⊢
 by_cases h1:needs.length > 100
 ·rw [if_pos h1] at h; exact absurd h (by decide)
 rw [if_neg h1] at h ⊢
 by_cases h2:needs.any (otherB needs) = true
 ·rw [if_pos h2] at h; exact absurd h (by decide)
 rw [if_neg h2] at h ⊢
 by_cases h3:needs.flatten.any manyC = true
 ·rw [if_pos h3] at h; exact absurd h (by decide)
 rw [if_neg h3] at h ⊢
 by_cases h4:sets.flatten.any (noneC needs) = true
 ·rw [if_pos h4] at h; exact absurd h (by decide)
 rw [if_neg h4] at h ⊢
 by_cases h5:sets.any dupB = true
 ·rw [if_pos h5] at h; exact absurd h (by decide)
 rw [if_neg h5] at h ⊢
 by_cases h6:needs.length = 0
 ·rw [if_pos h6]; exact .inl ⟨h6,rfl⟩
 ·rw [if_neg h6]; exact .inr ⟨h6,carry_v h0 h1 (by simpa using h2) (by simpa using h3) (by simpa using h4) (by simpa using h5) h6,rfl⟩
theorem carry_bad {needs sets:List (List Int)} (h:(carryN needs sets).2 ≠ 0):(carryN needs sets).1 = []:=by
 unfold carryN at h ⊢
 by_cases h0:sets.length > 200
 ·rw [if_pos h0]
 rw [if_neg h0] at h ⊢
 by_cases h1:needs.length > 100
 ·rw [if_pos h1]
 rw [if_neg h1] at h ⊢
 by_cases h2:needs.any (otherB needs) = true
 ·rw [if_pos h2]
 rw [if_neg h2] at h ⊢
 by_cases h3:needs.flatten.any manyC = true
 ·rw [if_pos h3]
 rw [if_neg h3] at h ⊢
 by_cases h4:sets.flatten.any (noneC needs) = true
 ·rw [if_pos h4]
 rw [if_neg h4] at h ⊢
 by_cases h5:sets.any dupB = true
 ·rw [if_pos h5]
 rw [if_neg h5] at h ⊢
 by_cases h6:needs.length = 0
 ·rw [if_pos h6]
 ·rw [if_neg h6] at h; exact absurd rfl h
def R12 (needs sets:List (List Int)) (S:SpecF) (_Fr:FreshF) (_Sq:SeqF) (Q:PostF):Prop :=
 ∃ es0 n1,S 35 [AV.slc 3 (List.map (fun x => AV.slc 3 (List.map (AV.int IntKind.i64) x)) needs),.slc 3 (List.map (fun x => AV.slc 3 (List.map (AV.int IntKind.i64) x)) sets)] [] (.tup [AV.slc 3 es0,iN n1]) [] ∧ ((n1 != 0) = true → (((↑es0.length:Int) == (0:Int)) = true → ∃ b7,S 17 [] [] (.bool b7) [] ∧ Q (.bool b7) []) ∧ (((↑es0.length:Int) == (0:Int)) = false → Q (.bool false) [])) ∧ ((n1 != 0) = false → (((↑(List.map (fun x => AV.slc 3 (List.map (AV.int IntKind.i64) x)) needs).length:Int) == (0:Int)) = true → (((↑es0.length:Int) == (0:Int)) = true → ∃ b9,S 17 [] [] (.bool b9) [] ∧ Q (.bool b9) []) ∧ (((↑es0.length:Int) == (0:Int)) = false → Q (.bool false) [])) ∧ (((↑(List.map (fun x => AV.slc 3 (List.map (AV.int IntKind.i64) x)) needs).length:Int) == (0:Int)) = false → ∃ es7,((0:Int) ≤ (0:Int) ∧ (1:Nat) = (1:Nat) ∧ (List.map (fun x => AV.slc 3 (List.map (AV.int IntKind.i64) x)) needs)[(0:Nat)]? = some (.slc 3 es7)) ∧ (((↑es0.length:Int) != (↑es7.length:Int)) = true → Q (.bool false) []) ∧ (((↑es0.length:Int) != (↑es7.length:Int)) = false → ∃ b11,S 37 [AV.slc 3 es0,.slc 3 (List.map (fun x => AV.slc 3 (List.map (AV.int IntKind.i64) x)) needs),.slc 3 (List.map (fun x => AV.slc 3 (List.map (AV.int IntKind.i64) x)) sets)] [] (.bool b11) [] ∧ ((!b11) = true → Q (.bool false) []) ∧ ((!b11) = false → ∃ (I15:Nat → List AV → Prop),(∃ m17,I15 m17 [iN 0]) ∧ ∀ (m17:Nat) (n18:Int),I15 m17 [iN n18] → (decide (n18 < (↑es0.length:Int)) = true → elemsOf (1:Nat) es0 ∧ ((([]:List AV) = [] ∨ (0:Nat) < es0.length) ∧ ((0:Nat) + es0.length + 512) * 41 ≤ (1125899906842624:Nat) ∧ elemsOf (1:Nat) [] ∧ ones (List.flatMap AV.cells es0) = true ∧ ones [] = true) ∧ ((0:Int) ≤ n18 ∧ n18 < (↑((0:Nat) + es0.length):Int) ∧ (1:Nat) = (1:Nat)) ∧ ∃ n25,Option.map AV.norm (partA Tryz.prog (3:Nat) ([] ++ List.flatMap AV.cells es0) ((0:Nat) + n18.toNat * 1)) = some (iN n25) ∧ ((0:Int) ≤ n18 ∧ n18 < (↑((0:Nat) + es0.length):Int) ∧ (1:Nat) = (1:Nat)) ∧ (0:Nat) + n18.toNat * 1 + (1:Nat) ≤ ([] ++ List.flatMap AV.cells es0).length ∧ ∃ n29,((0:Int) ≤ n18 ∧ (1:Nat) = (1:Nat) ∧ es0[n18.toNat]? = some (iN n29)) ∧ (decide (n29 < 0) = true → Q (.bool false) []) ∧ (decide (n29 < 0) = false → ∃ n33,((0:Int) ≤ n18 ∧ (1:Nat) = (1:Nat) ∧ es0[n18.toNat]? = some (iN n33)) ∧ (decide (n33 > 0) = true → ((0:Nat) + ((0:Nat) + es0.length) * 1 ≤ (setCells ([] ++ List.flatMap AV.cells es0) ((0:Nat) + n18.toNat * 1) [iN (IntKind.i64.wrap (n25 - 1))]).length ∧ ones (setCells ([] ++ List.flatMap AV.cells es0) ((0:Nat) + n18.toNat * 1) [iN (IntKind.i64.wrap (n25 - 1))]) = true) ∧ ∃ b38,S 37 [AV.slc 3 (chunks (1:Nat) (isAggT Tryz.prog (3:Nat)) ((0:Nat) + es0.length) (List.drop (0:Nat) (setCells ([] ++ List.flatMap AV.cells es0) ((0:Nat) + n18.toNat * 1) [iN (IntKind.i64.wrap (n25 - 1))]))),.slc 3 (List.map (fun x => AV.slc 3 (List.map (AV.int IntKind.i64) x)) needs),.slc 3 (List.map (fun x => AV.slc 3 (List.map (AV.int IntKind.i64) x)) sets)] [] (.bool b38) [] ∧ (b38 = true → Q (.bool false) []) ∧ (b38 = false → ∃ k42,k42 < m17 ∧ I15 k42 [iN (IntKind.i64.wrap (n18 + 1))])) ∧ (decide (n33 > 0) = false → ∃ k37,k37 < m17 ∧ I15 k37 [iN (IntKind.i64.wrap (n18 + 1))]))) ∧ (decide (n18 < (↑es0.length:Int)) = false → ∃ b22,S 17 [] [] (.bool b22) [] ∧ Q (.bool b22) [])))))
theorem s12 (needs:List (List Int)) (sets:List (List Int)) (v:AV) (O:List (List AV)) (h:R12 needs sets Sp Fo So (fun r O' => r = v ∧ O' = O)):Sp 12 [.slc 3 (List.map (fun x => .slc 3 (List.map (AV.int .i64) x)) needs),.slc 3 (List.map (fun x => .slc 3 (List.map (AV.int .i64) x)) sets)] [] v O :=
 spec_by (w:=⟨[],[],[],[],[]⟩) (k:=0) (keep:=⟨[0,1,4,5,6,7,8,21,41,45,74],[⟨7,[(7,iN 0)],[],[],[],[],[]⟩],[],[]⟩) (boxes:=[]) mixed (by exact trivial) Tryz.func12 Tryz.call12 rfl rfl rfl (Nat.le_of_ble_eq_true rfl) (by kernel_rfl) h
end Go.Proofs.YtdeeekgohhkdbaaGreatDoor
