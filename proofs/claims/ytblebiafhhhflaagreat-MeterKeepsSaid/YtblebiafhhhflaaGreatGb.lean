/- Contracts: the lamps' small functions, names. Contracts: tables of lamps. -/
import Derived.Test.YtblebiafhhhflaaGreatEg
namespace Go.Proofs.YtblebiafhhhflaaGreat
open Go.RowKit
def inB (n lo hi:Int):Bool:=decide (lo ≤ n) && decide (n ≤ hi)
theorem inB_iff {n lo hi:Int}:inB n lo hi = true ↔ lo ≤ n ∧ n ≤ hi:=by simp [inB]
def wiB (b:TEncl) (lo hi:Int):Bool:=inB b.Lo lo b.Hi && decide (b.Hi ≤ hi)
def letB (c:Int):Bool:=inB c 97 122
def tailB (c:Int):Bool:=letB c || inB c 48 57 || c == 45
def okL:Nat → List Int → Bool
 | _,[] => true
 | i,c :: r => (if i = 0 then letB c else tailB c) && okL (i + 1) r
def bsOf (s:ByteArray):List Int:=s.data.toList.map fun b => (b.toNat:Int)
def nameB (s:ByteArray):Bool:=!(bsOf s).isEmpty && decide (s.size ≤ 24) && okL 0 (bsOf s)
theorem bytesA_eq (s:ByteArray):bytesA s = (bsOf s).map (AV.int .u8):=by simp [bytesA,bsOf]
theorem bsOf_len (s:ByteArray):(bsOf s).length = s.size:=by simp [bsOf]
theorem okL_at {l:List Int} {k:Nat} {c:Int} (h:l[k]? = some c):okL k (l.drop k) = ((if k = 0 then letB c else tailB c) && okL (k + 1) (l.drop (k + 1))):=by
 obtain ⟨hk,rfl⟩:=List.getElem?_eq_some_iff.1 h
 rw [List.drop_eq_getElem_cons hk]; rfl
def firstE (e:Nat → Int):Nat → Nat → Int × Int
 | 0,_ => (0,0)
 | k + 1,i => if e i ≠ 0 then ((i:Int),e i) else firstE e k (i + 1)
theorem firstE_at {e:Nat → Int} {n k:Nat} (h:k < n):firstE e (n - k) k = if e k ≠ 0 then ((k:Int),e k) else firstE e (n - (k + 1)) (k + 1):=by
 have:n - k = (n - (k + 1)) + 1:=by omega
 rw [this]; rfl
theorem firstE_ok {e:Nat → Int}:∀ {k i:Nat},(firstE e k i).2 = 0 → ∀ j,i ≤ j → j < i + k → e j = 0:=by
 intro k
 induction k with
 | zero => intro i _ j h1 h2; omega
 | succ k ih =>
  intro i h j h1 h2
  simp only [firstE] at h
  split at h
  ·rename_i hne; exact absurd h hne
  ·rename_i hne
   by_cases hj:j = i
   ·subst hj; exact Decidable.byContradiction hne
   ·exact ih h j (by omega) (by omega)
def twinB (x y:ByteArray):Bool:=x.toList == y.toList
def errAt {α:Type} (nm:α → ByteArray) (rest:Nat → α → Int) (l:List α) (i:Nat):Int :=
 match l[i]? with
 | none => 0
 | some x => if !nameB (nm x) then 6 else if (l.take i).any (fun y => twinB (nm y) (nm x)) then 5 else rest i x
theorem errAt_some {α:Type} {nm:α → ByteArray} {rest:Nat → α → Int} {l:List α} {i:Nat} {x:α} (h:l[i]? = some x) :
  errAt nm rest l i = if !nameB (nm x) then 6 else if (l.take i).any (fun y => twinB (nm y) (nm x)) then 5 else rest i x:=by unfold errAt; rw [h]
def R94 (n:Int) (low:Int) (high:Int) (_S:SpecF) (_Fr:FreshF) (_Sq:SeqF) (Q:AV → List (List AV) → Prop):Prop :=
 (decide (low ≤ n) = true → Q (.bool (decide (n ≤ high))) []) ∧ (decide (low ≤ n) = false → Q (.bool false) [])
theorem r94 (n:Int) (low:Int) (high:Int) (S:SpecF) (Fr:FreshF) (Sq:SeqF) (Q:AV → List (List AV) → Prop):awpF Tryz.prog (mkS Tryz.prog S Fr Sq ⟨[],[],[],[],[]⟩ 0) 0 ⟨[0,1,2,6],[],[],[]⟩ Tryz.f94 [.int .i64 n,.int .i64 low,.int .i64 high] [] Q = R94 n low high S Fr Sq Q:=by kernel_rfl
theorem s94 (n:Int) (low:Int) (high:Int) (v:AV) (O:List (List AV)) (h:R94 n low high (SpecOf Tryz.prog) (FreshOf Tryz.prog) (SeqOf Tryz.prog) (fun r O' => r = v ∧ O' = O)):SpecOf Tryz.prog 94 [.int .i64 n,.int .i64 low,.int .i64 high] [] v O :=
 spec_by (boxes:=[]) mixed (by exact trivial) Tryz.func94 Tryz.call94 rfl rfl rfl (Nat.le_of_ble_eq_true rfl) (r94 n low high (SpecOf Tryz.prog) (FreshOf Tryz.prog) (SeqOf Tryz.prog) _) h
theorem c94 (n lo hi:Int):Sp 94 [.int .i64 n,.int .i64 lo,.int .i64 hi] [] (.bool (inB n lo hi)) [] :=
 s94 n lo hi _ _ ⟨fun h => by simp [inB,h],fun h => by simp [inB,h]⟩
def R118 (b:TEncl) (low:Int) (high:Int) (_S:SpecF) (_Fr:FreshF) (_Sq:SeqF) (Q:AV → List (List AV) → Prop):Prop :=
 (decide (low ≤ b.Lo) = true → (decide (b.Lo ≤ b.Hi) = true → Q (.bool (decide (b.Hi ≤ high))) []) ∧ (decide (b.Lo ≤ b.Hi) = false → Q (.bool false) [])) ∧ (decide (low ≤ b.Lo) = false → Q (.bool false) [])
theorem r118 (b:TEncl) (low:Int) (high:Int) (S:SpecF) (Fr:FreshF) (Sq:SeqF) (Q:AV → List (List AV) → Prop):awpF Tryz.prog (mkS Tryz.prog S Fr Sq ⟨[],[],[],[],[]⟩ 0) 0 ⟨[0,1,2,3,6],[],[],[]⟩ Tryz.f118 [b.av,.int .i64 low,.int .i64 high] [] Q = R118 b low high S Fr Sq Q:=by kernel_rfl
theorem s118 (b:TEncl) (low:Int) (high:Int) (v:AV) (O:List (List AV)) (h:R118 b low high (SpecOf Tryz.prog) (FreshOf Tryz.prog) (SeqOf Tryz.prog) (fun r O' => r = v ∧ O' = O)):SpecOf Tryz.prog 118 [b.av,.int .i64 low,.int .i64 high] [] v O :=
 spec_by (boxes:=[]) mixed (by exact trivial) Tryz.func118 Tryz.call118 rfl rfl rfl (Nat.le_of_ble_eq_true rfl) (r118 b low high (SpecOf Tryz.prog) (FreshOf Tryz.prog) (SeqOf Tryz.prog) _) h
theorem c118 (b:TEncl) (lo hi:Int):Sp 118 [b.av,.int .i64 lo,.int .i64 hi] [] (.bool (wiB b lo hi)) [] :=
 s118 b lo hi _ _ (by
 refine ⟨fun h => ⟨fun h2 => ⟨?_,rfl⟩,fun h2 => ⟨?_,rfl⟩⟩,fun h => ⟨?_,rfl⟩⟩
 ·simp only [wiB,inB,h,h2,Bool.true_and]
 ·simp only [wiB,inB,h,h2,Bool.true_and,Bool.false_and]
 ·simp only [wiB,inB,h,Bool.false_and])
def R119 (s:ByteArray) (_S:SpecF) (_Fr:FreshF) (_Sq:SeqF) (Q:AV → List (List AV) → Prop):Prop :=
 ∃ (I0:Nat → List AV → Prop),(∃ m2,I0 m2 [AV.int .i64 0]) ∧ ∀ (m2:Nat) (n3:Int),I0 m2 [AV.int .i64 n3] → (decide (n3 < (↑(bytesA s).length:Int)) = true → ∃ n7,((0:Int) ≤ n3 ∧ (1:Nat) = (1:Nat) ∧ (bytesA s)[n3.toNat]? = some (.int IntKind.u8 n7)) ∧ (decide (n7 ≥ 97) = true → ((!decide (n7 ≤ 122)) = true → ((n3 == 0) = true → Q (.bool false) []) ∧ ((n3 == 0) = false → (decide (n7 ≥ 48) = true → ((!decide (n7 ≤ 57)) = true → ((n7 != 45) = true → Q (.bool false) []) ∧ ((n7 != 45) = false → ∃ k21,k21 < m2 ∧ I0 k21 [AV.int .i64 (IntKind.i64.wrap (n3 + 1))])) ∧ ((!decide (n7 ≤ 57)) = false → ∃ k19,k19 < m2 ∧ I0 k19 [AV.int .i64 (IntKind.i64.wrap (n3 + 1))])) ∧ (decide (n7 ≥ 48) = false → ((n7 != 45) = true → Q (.bool false) []) ∧ ((n7 != 45) = false → ∃ k19,k19 < m2 ∧ I0 k19 [AV.int .i64 (IntKind.i64.wrap (n3 + 1))])))) ∧ ((!decide (n7 ≤ 122)) = false → ∃ k13,k13 < m2 ∧ I0 k13 [AV.int .i64 (IntKind.i64.wrap (n3 + 1))])) ∧ (decide (n7 ≥ 97) = false → ((n3 == 0) = true → Q (.bool false) []) ∧ ((n3 == 0) = false → (decide (n7 ≥ 48) = true → ((!decide (n7 ≤ 57)) = true → ((n7 != 45) = true → Q (.bool false) []) ∧ ((n7 != 45) = false → ∃ k19,k19 < m2 ∧ I0 k19 [AV.int .i64 (IntKind.i64.wrap (n3 + 1))])) ∧ ((!decide (n7 ≤ 57)) = false → ∃ k17,k17 < m2 ∧ I0 k17 [AV.int .i64 (IntKind.i64.wrap (n3 + 1))])) ∧ (decide (n7 ≥ 48) = false → ((n7 != 45) = true → Q (.bool false) []) ∧ ((n7 != 45) = false → ∃ k17,k17 < m2 ∧ I0 k17 [AV.int .i64 (IntKind.i64.wrap (n3 + 1))]))))) ∧ (decide (n3 < (↑(bytesA s).length:Int)) = false → ((!s.toList == (ByteArray.mk #[]).toList) = true → Q (.bool (decide ((↑s.size:Int) ≤ (24:Int)))) []) ∧ ((!s.toList == (ByteArray.mk #[]).toList) = false → Q (.bool false) []))
theorem r119 (s:ByteArray) (S:SpecF) (Fr:FreshF) (Sq:SeqF) (Q:AV → List (List AV) → Prop):awpF Tryz.prog (mkS Tryz.prog S Fr Sq ⟨[],[],[],[],[]⟩ 0) 0 ⟨[0,2,3,4,5,7,8,9,10,38],[⟨2,[(9,.int .i64 0)],[],[],[],[]⟩],[],[]⟩ Tryz.f119 [.str s] [] Q = R119 s S Fr Sq Q:=by kernel_rfl
theorem s119 (s:ByteArray) (v:AV) (O:List (List AV)) (h:R119 s (SpecOf Tryz.prog) (FreshOf Tryz.prog) (SeqOf Tryz.prog) (fun r O' => r = v ∧ O' = O)):SpecOf Tryz.prog 119 [.str s] [] v O :=
 spec_by (boxes:=[]) mixed (by exact trivial) Tryz.func119 Tryz.call119 rfl rfl rfl (Nat.le_of_ble_eq_true rfl) (r119 s (SpecOf Tryz.prog) (FreshOf Tryz.prog) (SeqOf Tryz.prog) _) h
theorem c119 (s:ByteArray) (hl:s.size ≤ 9223372036854775807):Sp 119 [.str s] [] (.bool (nameB s)) []:=s119 s _ _ (by
 unfold R119
 simp only [bytesA_eq,List.length_map,bsOf_len]
 refine ⟨fun m vs => ∃ n:Nat,vs = [.int .i64 n] ∧ n ≤ s.size ∧ m = s.size - n ∧ okL n ((bsOf s).drop n) = okL 0 (bsOf s),⟨_,0,rfl,by omega,rfl,rfl⟩,?_⟩
 rintro m n ⟨k,hk,hle,rfl,hn⟩
 cases hk
 refine ⟨fun h3 => ?_,fun h3 => ?_⟩
 ·have h3:k < s.size:=by simpa using h3
  obtain ⟨c,hc,hc'⟩:=map_getN (f:=AV.int .u8) (l:=bsOf s) (k:=k) (by rw [bsOf_len]; exact h3)
  have hat:=okL_at hc
  refine ⟨c,⟨by omega,trivial,hc'⟩,?_⟩
  rw [wrapN (by omega)]
  have bad:(if k = 0 then letB c else tailB c) = false → nameB s = false:=fun hb => by
   have:okL 0 (bsOf s) = false:=by rw [← hn,hat,hb]; rfl
   simp only [nameB,this,Bool.and_false]
  have good:(if k = 0 then letB c else tailB c) = true → ∃ m',m' < s.size - k ∧ ∃ n:Nat,[AV.int .i64 ((k + 1:Nat):Int)] = [.int .i64 n] ∧ n ≤ s.size ∧ m' = s.size - n ∧ okL n ((bsOf s).drop n) = okL 0 (bsOf s):=fun hg =>
   ⟨_,(by omega:s.size - (k + 1) < s.size - k),k + 1,rfl,by omega,rfl,by rw [← hn,hat,hg]; rfl⟩
  have hk0:((k:Int) == 0) = decide (k = 0):=by rw [Bool.eq_iff_iff]; simp
  rw [hk0]
  generalize (∃ m',m' < s.size - k ∧ ∃ n:Nat,[AV.int .i64 ((k + 1:Nat):Int)] = [.int .i64 n] ∧ n ≤ s.size ∧ m' = s.size - n ∧ okL n ((bsOf s).drop n) = okL 0 (bsOf s)) = G at good ⊢
  simp only [tailB,letB,inB] at good bad
  simp only [decide_eq_true_eq,decide_eq_false_iff_not,Bool.not_eq_true',Bool.not_eq_false',ge_iff_le,bne_iff_ne,ne_eq,bne_eq_false_iff_eq]
  by_cases hk:k = 0
  ·simp only [hk,if_true] at good bad ⊢
   by_cases h1:97 ≤ c <;> by_cases h2:c ≤ 122 <;> simp_all <;> omega
  ·simp only [hk,if_false] at good bad ⊢
   by_cases h1:97 ≤ c <;> by_cases h2:c ≤ 122 <;> by_cases h3:48 ≤ c <;> by_cases h4:c ≤ 57 <;> by_cases h5:c = 45 <;> simp_all <;> omega
 ·have hk:k = s.size:=by simp at h3; omega
  have hd:(bsOf s).drop k = []:=by rw [hk,← bsOf_len,List.drop_length]
  rw [hd] at hn
  have hok:okL 0 (bsOf s) = true:=by rw [← hn]; rfl
  have he:(s.toList == (ByteArray.mk #[]).toList) = (bsOf s).isEmpty:=by
   rw [Bool.eq_iff_iff,beq_iff_eq,List.isEmpty_iff]
   simp only [ByteArray.toList_eq,bsOf,List.map_eq_nil_iff]
  refine ⟨fun h => ⟨?_,trivial⟩,fun h => ⟨?_,trivial⟩⟩
  ·rw [he] at h; simp only [nameB,hok,h,Bool.true_and,Bool.and_true]; congr 1; rw [Bool.eq_iff_iff]; simp; omega
  ·rw [he] at h; simp only [nameB,h,Bool.false_and])
def floorE (a b:Int):Int:=if a.tmod b < 0 then IntKind.i64.wrap (IntKind.i64.wrap (a.tdiv b) - 1) else IntKind.i64.wrap (a.tdiv b)
def R95 (a:Int) (b:Int) (_S:SpecF) (_Fr:FreshF) (_Sq:SeqF) (Q:AV → List (List AV) → Prop):Prop :=
 b ≠ 0 ∧ b ≠ 0 ∧ (decide (a.tmod b < 0) = true → Q (.int .i64 (IntKind.i64.wrap (IntKind.i64.wrap (a.tdiv b) - 1))) []) ∧ (decide (a.tmod b < 0) = false → Q (.int .i64 (IntKind.i64.wrap (a.tdiv b))) [])
theorem r95 (a:Int) (b:Int) (S:SpecF) (Fr:FreshF) (Sq:SeqF) (Q:AV → List (List AV) → Prop):awpF Tryz.prog (mkS Tryz.prog S Fr Sq ⟨[],[],[],[],[]⟩ 0) 0 ⟨[0,1,4,5,12],[],[],[]⟩ Tryz.f95 [.int .i64 a,.int .i64 b] [] Q = R95 a b S Fr Sq Q:=by kernel_rfl
theorem s95 (a:Int) (b:Int) (v:AV) (O:List (List AV)) (h:R95 a b (SpecOf Tryz.prog) (FreshOf Tryz.prog) (SeqOf Tryz.prog) (fun r O' => r = v ∧ O' = O)):SpecOf Tryz.prog 95 [.int .i64 a,.int .i64 b] [] v O :=
 spec_by (boxes:=[]) mixed (by exact trivial) Tryz.func95 Tryz.call95 rfl rfl rfl (Nat.le_of_ble_eq_true rfl) (r95 a b (SpecOf Tryz.prog) (FreshOf Tryz.prog) (SeqOf Tryz.prog) _) h
theorem c95 (a b:Int) (hb:b ≠ 0):Sp 95 [.int .i64 a,.int .i64 b] [] (.int .i64 (floorE a b)) []:=s95 a b _ _ (by
 unfold R95 floorE
 refine ⟨hb,hb,fun h => ⟨?_,by trivial⟩,fun h => ⟨?_,by trivial⟩⟩
 ·rw [if_pos (of_decide_eq_true h)]
 ·rw [if_neg (of_decide_eq_false h)])
def ceilE (a b:Int):Int:=IntKind.i64.wrap (0 - floorE (IntKind.i64.wrap (0 - a)) b)
def R96 (a:Int) (b:Int) (S:SpecF) (_Fr:FreshF) (_Sq:SeqF) (Q:AV → List (List AV) → Prop):Prop :=
 ∃ n0,S 95 [AV.int .i64 (IntKind.i64.wrap ((0:Int) - a)),.int .i64 b] [] (.int .i64 n0) [] ∧ Q (.int .i64 (IntKind.i64.wrap ((0:Int) - n0))) []
theorem r96 (a:Int) (b:Int) (S:SpecF) (Fr:FreshF) (Sq:SeqF) (Q:AV → List (List AV) → Prop):awpF Tryz.prog (mkS Tryz.prog S Fr Sq ⟨[],[],[],[],[]⟩ 0) 0 ⟨[0,1,4],[],[],[]⟩ Tryz.f96 [.int .i64 a,.int .i64 b] [] Q = R96 a b S Fr Sq Q:=by kernel_rfl
theorem s96 (a:Int) (b:Int) (v:AV) (O:List (List AV)) (h:R96 a b (SpecOf Tryz.prog) (FreshOf Tryz.prog) (SeqOf Tryz.prog) (fun r O' => r = v ∧ O' = O)):SpecOf Tryz.prog 96 [.int .i64 a,.int .i64 b] [] v O :=
 spec_by (boxes:=[]) mixed (by exact trivial) Tryz.func96 Tryz.call96 rfl rfl rfl (Nat.le_of_ble_eq_true rfl) (r96 a b (SpecOf Tryz.prog) (FreshOf Tryz.prog) (SeqOf Tryz.prog) _) h
theorem c96 (a b:Int) (hb:b ≠ 0):Sp 96 [.int .i64 a,.int .i64 b] [] (.int .i64 (ceilE a b)) []:=s96 a b _ _ ⟨_,c95 _ _ hb,rfl,rfl⟩
def R170 (n:Int) (v0:Int) (v1:Int) (S:SpecF) (_Fr:FreshF) (_Sq:SeqF) (Q:AV → List (List AV) → Prop):Prop :=
 ∃ b0,S 94 [AV.int .i64 n,.int .i64 v0,.int .i64 v1] [] (.bool b0) [] ∧ Q (.bool !b0) [[AV.int .i64 v0],[AV.int .i64 v1]]
theorem r170 (n:Int) (v0:Int) (v1:Int) (S:SpecF) (Fr:FreshF) (Sq:SeqF) (Q:AV → List (List AV) → Prop):awpF Tryz.prog (mkS Tryz.prog S Fr Sq ⟨[],[],[],[],[]⟩ 0) 2 ⟨[0,1,2,4],[],[],[]⟩ Tryz.f170 [.int .i64 n,.ref 0 0,.ref 1 0] [⟨3,false,[.int .i64 v0]⟩,⟨3,false,[.int .i64 v1]⟩] Q = R170 n v0 v1 S Fr Sq Q:=by kernel_rfl
theorem s170 (n:Int) (v0:Int) (v1:Int) (v:AV) (O:List (List AV)) (h:R170 n v0 v1 (SpecOf Tryz.prog) (FreshOf Tryz.prog) (SeqOf Tryz.prog) (fun r O' => r = v ∧ O' = O)):SpecOf Tryz.prog 170 [.int .i64 n,.ref 0 0,.ref 1 0] [[.int .i64 v0],[.int .i64 v1]] v O :=
 spec_by (boxes:=[⟨3,false,[.int .i64 v0]⟩,⟨3,false,[.int .i64 v1]⟩]) mixed (by exact trivial) Tryz.func170 Tryz.call170 rfl rfl rfl (Nat.le_of_ble_eq_true rfl) (r170 n v0 v1 (SpecOf Tryz.prog) (FreshOf Tryz.prog) (SeqOf Tryz.prog) _) h
theorem c170 (n lo hi:Int):Sp 170 [.int .i64 n,.ref 0 0,.ref 1 0] [[.int .i64 lo],[.int .i64 hi]] (.bool (!inB n lo hi)) [[.int .i64 lo],[.int .i64 hi]]:=s170 n lo hi _ _ ⟨_,c94 ..,rfl,rfl⟩
def findI {α:Type} (f:α → Bool):Nat → List α → Int
 | _,[] => -1
 | i,x :: r => if f x then (i:Int) else findI f (i + 1) r
theorem findI_at {α:Type} {f:α → Bool} {l:List α} {k:Nat} {x:α} (h:l[k]? = some x):findI f k (l.drop k) = if f x then (k:Int) else findI f (k + 1) (l.drop (k + 1)):=by
 obtain ⟨hk,rfl⟩:=List.getElem?_eq_some_iff.1 h
 rw [List.drop_eq_getElem_cons hk]; rfl
theorem findI_any {α:Type} (f:α → Bool):∀ (l:List α) (i:Nat),decide (findI f i l ≥ 0) = l.any f:=by
 intro l
 induction l with
 | nil => intro i; rfl
 | cons x r ih =>
  intro i
  rw [findI,List.any_cons]
  cases f x with
  | true => simp
  | false => simpa using ih (i + 1)
def R79a (s:List Int) (f0:Int) (f1:Int) (S:SpecF) (_Fr:FreshF) (_Sq:SeqF) (Q:AV → List (List AV) → Prop):Prop :=
 ∃ (I0:Nat → List AV → Prop),(∃ m2,I0 m2 [AV.int .i64 0,.agg [AV.int .i64 f0]]) ∧ ∀ (m2:Nat) (n3 n4:Int),I0 m2 [AV.int .i64 n3,.agg [AV.int .i64 n4]] → (decide (n3 < (↑(List.map (AV.int IntKind.i64) s).length:Int)) = true → ∃ n8,((0:Int) ≤ n3 ∧ (1:Nat) = (1:Nat) ∧ (List.map (AV.int IntKind.i64) s)[n3.toNat]? = some (.int .i64 n8)) ∧ ∃ b10,S 170 [AV.int .i64 n8,.ref 0 0,.ref 1 0] [[AV.int .i64 n4],[AV.int .i64 f1]] (.bool b10) [[AV.int .i64 n4],[AV.int .i64 f1]] ∧ (b10 = true → Q (.int .i64 n3) [[AV.int .i64 n4],[AV.int .i64 f1]]) ∧ (b10 = false → Same [AV.int .i64 f1] ∧ ∃ k15,k15 < m2 ∧ I0 k15 [AV.int .i64 (IntKind.i64.wrap (n3 + 1)),.agg [AV.int .i64 n4]])) ∧ (decide (n3 < (↑(List.map (AV.int IntKind.i64) s).length:Int)) = false → Q (.int .i64 (-1:Int)) [[AV.int .i64 n4],[AV.int .i64 f1]])
theorem r79a (s:List Int) (f0:Int) (f1:Int) (S:SpecF) (Fr:FreshF) (Sq:SeqF) (Q:AV → List (List AV) → Prop):awpF Tryz.prog (mkS Tryz.prog S Fr Sq ⟨[],[],[170],[],[]⟩ 0) 2 ⟨[0,1,4,5,7,8,9,16],[⟨2,[(8,.int .i64 0)],[],[(1000000,.agg [.int .i64 0])],[],[]⟩],[],[]⟩ Tryz.f79 [.slc 3 (List.map (AV.int .i64) s),.fn 170 [] [.ref 0 0,.ref 1 0]] [⟨3,false,[.int .i64 f0]⟩,⟨3,false,[.int .i64 f1]⟩] Q = R79a s f0 f1 S Fr Sq Q:=by kernel_rfl
theorem s79a (s:List Int) (f0:Int) (f1:Int) (v:AV) (O:List (List AV)) (h:R79a s f0 f1 (SpecOf Tryz.prog) (FreshOf Tryz.prog) (SeqOf Tryz.prog) (fun r O' => r = v ∧ O' = O)):SpecOf Tryz.prog 79 [.slc 3 (List.map (AV.int .i64) s),.fn 170 [] [.ref 0 0,.ref 1 0]] [[.int .i64 f0],[.int .i64 f1]] v O :=
 spec_by (boxes:=[⟨3,false,[.int .i64 f0]⟩,⟨3,false,[.int .i64 f1]⟩]) mixed (by exact trivial) Tryz.func79 Tryz.call79 rfl rfl rfl (Nat.le_of_ble_eq_true rfl) (r79a s f0 f1 (SpecOf Tryz.prog) (FreshOf Tryz.prog) (SeqOf Tryz.prog) _) h
theorem c79a (l:List Int) (hl:l.length ≤ 9223372036854775806) (lo hi:Int):Sp 79 [.slc 3 (l.map (AV.int .i64)),.fn 170 [] [.ref 0 0,.ref 1 0]] [[.int .i64 lo],[.int .i64 hi]] (.int .i64 (findI (fun n => !inB n lo hi) 0 l)) [[.int .i64 lo],[.int .i64 hi]]:=s79a l lo hi _ _ (by
 unfold R79a
 refine ⟨fun m vs => ∃ k:Nat,k ≤ l.length ∧ m = l.length - k ∧ vs = [.int .i64 k,.agg [.int .i64 lo]] ∧ findI (fun n => !inB n lo hi) k (l.drop k) = findI (fun n => !inB n lo hi) 0 l,⟨_,0,by omega,rfl,rfl,rfl⟩,?_⟩
 rintro m n3 n4 ⟨k,hk,rfl,hv,hf⟩
 cases hv
 simp only [List.length_map]
 refine ⟨fun g => ?_,fun g => ?_⟩
 ·have hlt:k < l.length:=by have:=of_decide_eq_true g; omega
  obtain ⟨x,hx,hx'⟩:=map_getN (f:=AV.int .i64) hlt
  rw [findI_at hx] at hf
  refine ⟨x,⟨by omega,by trivial,hx'⟩,_,c170 x lo hi,fun g2 => ⟨?_,by trivial⟩,fun g2 => ⟨by trivial,_,(by omega:l.length - (k + 1) < l.length - k),k + 1,by omega,rfl,by rw [wrapN (by omega)],?_⟩⟩
  ·rw [if_pos g2] at hf; rw [← hf]
  ·rw [if_neg (by rw [g2]; simp)] at hf; exact hf
 ·obtain rfl:k = l.length:=by have:=of_decide_eq_false g; omega
  rw [List.drop_length] at hf
  rw [← hf]
  exact ⟨rfl,by trivial⟩)
def R36a (s:List Int) (f0:Int) (f1:Int) (S:SpecF) (_Fr:FreshF) (_Sq:SeqF) (Q:AV → List (List AV) → Prop):Prop :=
 ∃ n0,S 79 [AV.slc 3 (List.map (AV.int IntKind.i64) s),AV.fn (170:FuncId) [] [AV.ref 0 0,.ref 1 0]] [[AV.int .i64 f0],[AV.int .i64 f1]] (.int .i64 n0) [[AV.int .i64 f0],[AV.int .i64 f1]] ∧ Q (.bool (decide (n0 ≥ 0))) [[AV.int .i64 f0],[AV.int .i64 f1]]
theorem r36a (s:List Int) (f0:Int) (f1:Int) (S:SpecF) (Fr:FreshF) (Sq:SeqF) (Q:AV → List (List AV) → Prop):awpF Tryz.prog (mkS Tryz.prog S Fr Sq ⟨[],[],[79],[],[]⟩ 0) 2 ⟨[0,1,4],[],[],[]⟩ Tryz.f36 [.slc 3 (List.map (AV.int .i64) s),.fn 170 [] [.ref 0 0,.ref 1 0]] [⟨3,false,[.int .i64 f0]⟩,⟨3,false,[.int .i64 f1]⟩] Q = R36a s f0 f1 S Fr Sq Q:=by kernel_rfl
theorem s36a (s:List Int) (f0:Int) (f1:Int) (v:AV) (O:List (List AV)) (h:R36a s f0 f1 (SpecOf Tryz.prog) (FreshOf Tryz.prog) (SeqOf Tryz.prog) (fun r O' => r = v ∧ O' = O)):SpecOf Tryz.prog 36 [.slc 3 (List.map (AV.int .i64) s),.fn 170 [] [.ref 0 0,.ref 1 0]] [[.int .i64 f0],[.int .i64 f1]] v O :=
 spec_by (boxes:=[⟨3,false,[.int .i64 f0]⟩,⟨3,false,[.int .i64 f1]⟩]) mixed (by exact trivial) Tryz.func36 Tryz.call36 rfl rfl rfl (Nat.le_of_ble_eq_true rfl) (r36a s f0 f1 (SpecOf Tryz.prog) (FreshOf Tryz.prog) (SeqOf Tryz.prog) _) h
theorem c36a (l:List Int) (hl:l.length ≤ 9223372036854775806) (lo hi:Int):Sp 36 [.slc 3 (l.map (AV.int .i64)),.fn 170 [] [.ref 0 0,.ref 1 0]] [[.int .i64 lo],[.int .i64 hi]] (.bool (l.any fun n => !inB n lo hi)) [[.int .i64 lo],[.int .i64 hi]]:=s36a l lo hi _ _ ⟨_,c79a l hl lo hi,by rw [findI_any],rfl⟩
def rangedB (l:List Int) (lo hi:Int):Bool:=!l.any fun n => !inB n lo hi
def R151 (l:List Int) (low:Int) (high:Int) (S:SpecF) (_Fr:FreshF) (_Sq:SeqF) (Q:AV → List (List AV) → Prop):Prop :=
 ∃ b0,S 36 [AV.slc 3 (List.map (AV.int IntKind.i64) l),AV.fn (170:Nat) [] [AV.ref 0 0,.ref 1 0]] [[AV.int .i64 low],[AV.int .i64 high]] (.bool b0) [[AV.int .i64 low],[AV.int .i64 high]] ∧ Q (.bool !b0) []
theorem r151 (l:List Int) (low:Int) (high:Int) (S:SpecF) (Fr:FreshF) (Sq:SeqF) (Q:AV → List (List AV) → Prop):awpF Tryz.prog (mkS Tryz.prog S Fr Sq ⟨[],[],[36],[],[]⟩ 0) 0 ⟨[0,1,2,4,5,6],[],[],[]⟩ Tryz.f151 [.slc 3 (List.map (AV.int .i64) l),.int .i64 low,.int .i64 high] [] Q = R151 l low high S Fr Sq Q:=by kernel_rfl
theorem s151 (l:List Int) (low:Int) (high:Int) (v:AV) (O:List (List AV)) (h:R151 l low high (SpecOf Tryz.prog) (FreshOf Tryz.prog) (SeqOf Tryz.prog) (fun r O' => r = v ∧ O' = O)):SpecOf Tryz.prog 151 [.slc 3 (List.map (AV.int .i64) l),.int .i64 low,.int .i64 high] [] v O :=
 spec_by (boxes:=[]) mixed (by exact trivial) Tryz.func151 Tryz.call151 rfl rfl rfl (Nat.le_of_ble_eq_true rfl) (r151 l low high (SpecOf Tryz.prog) (FreshOf Tryz.prog) (SeqOf Tryz.prog) _) h
theorem c151 (l:List Int) (hl:l.length ≤ 9223372036854775806) (lo hi:Int):Sp 151 [.slc 3 (l.map (AV.int .i64)),.int .i64 lo,.int .i64 hi] [] (.bool (rangedB l lo hi)) []:=s151 l lo hi _ _ ⟨_,c36a l hl lo hi,rfl,rfl⟩
end Go.Proofs.YtblebiafhhhflaaGreat
namespace Go.Proofs.YtblebiafhhhflaaGreat
open Go.RowKit
def risingF:Nat → List Int → Bool
 | _,[] => true
 | _,[_] => true
 | i,a :: b :: r => if b ≤ a then false else risingF (i + 1) (b :: r)
def risingB (l:List Int):Bool:=risingF 0 l
theorem risingF_at {l:List Int} {k:Nat} {a b:Int} (ha:l[k]? = some a) (hb:l[k + 1]? = some b):risingF k (l.drop k) = if b ≤ a then false else risingF (k + 1) (l.drop (k + 1)):=by
 obtain ⟨h1,rfl⟩:=List.getElem?_eq_some_iff.1 ha
 obtain ⟨h2,rfl⟩:=List.getElem?_eq_some_iff.1 hb
 rw [List.drop_eq_getElem_cons h1,List.drop_eq_getElem_cons h2]; rfl
theorem risingF_end {l:List Int} {k:Nat} (h:l.length ≤ k + 1):risingF k (l.drop k) = true:=by
 have hd:(l.drop k).length ≤ 1:=by rw [List.length_drop]; omega
 match hm:l.drop k,hd with
 | [],_ => rfl
 | [x],_ => rfl
def R152 (l:List Int) (_S:SpecF) (_Fr:FreshF) (_Sq:SeqF) (Q:AV → List (List AV) → Prop):Prop :=
 ∃ (I0:Nat → List AV → Prop),(∃ m2,I0 m2 [AV.int .i64 1]) ∧ ∀ (m2:Nat) (n3:Int),I0 m2 [AV.int .i64 n3] → (decide (n3 < (↑(List.map (AV.int IntKind.i64) l).length:Int)) = true → ∃ n7,((0:Int) ≤ IntKind.i64.wrap (n3 - 1) ∧ (1:Nat) = (1:Nat) ∧ (List.map (AV.int IntKind.i64) l)[(IntKind.i64.wrap (n3 - 1)).toNat]? = some (.int .i64 n7)) ∧ ∃ n9,((0:Int) ≤ n3 ∧ (1:Nat) = (1:Nat) ∧ (List.map (AV.int IntKind.i64) l)[n3.toNat]? = some (.int .i64 n9)) ∧ (decide (n7 ≥ n9) = true → Q (.bool false) []) ∧ (decide (n7 ≥ n9) = false → ∃ k13,k13 < m2 ∧ I0 k13 [AV.int .i64 (IntKind.i64.wrap (n3 + 1))])) ∧ (decide (n3 < (↑(List.map (AV.int IntKind.i64) l).length:Int)) = false → Q (.bool true) [])
theorem r152 (l:List Int) (S:SpecF) (Fr:FreshF) (Sq:SeqF) (Q:AV → List (List AV) → Prop):awpF Tryz.prog (mkS Tryz.prog S Fr Sq ⟨[],[],[],[],[]⟩ 0) 0 ⟨[0,2,3,7,19],[⟨2,[(3,.int .i64 0)],[],[],[],[]⟩],[],[]⟩ Tryz.f152 [.slc 3 (List.map (AV.int .i64) l)] [] Q = R152 l S Fr Sq Q:=by kernel_rfl
theorem s152 (l:List Int) (v:AV) (O:List (List AV)) (h:R152 l (SpecOf Tryz.prog) (FreshOf Tryz.prog) (SeqOf Tryz.prog) (fun r O' => r = v ∧ O' = O)):SpecOf Tryz.prog 152 [.slc 3 (List.map (AV.int .i64) l)] [] v O :=
 spec_by (boxes:=[]) mixed (by exact trivial) Tryz.func152 Tryz.call152 rfl rfl rfl (Nat.le_of_ble_eq_true rfl) (r152 l (SpecOf Tryz.prog) (FreshOf Tryz.prog) (SeqOf Tryz.prog) _) h
theorem c152 (l:List Int) (hl:l.length ≤ 1000000):Sp 152 [.slc 3 (l.map (AV.int .i64))] [] (.bool (risingB l)) []:=s152 l _ _ (by
 unfold R152 risingB
 refine ⟨fun m vs => ∃ k:Nat,k ≤ l.length ∧ m = l.length - k ∧ vs = [.int .i64 ((k:Int) + 1)] ∧ risingF k (l.drop k) = risingF 0 l,⟨_,0,by omega,rfl,rfl,rfl⟩,?_⟩
 rintro m n3 ⟨k,hk,rfl,hv,hf⟩
 cases hv
 simp only [List.length_map]
 refine ⟨fun g => ?_,fun g => ?_⟩
 ·have hlt:k + 1 < l.length:=by have:=of_decide_eq_true g; omega
  obtain ⟨a,ha,ha'⟩:=map_getN (f:=AV.int .i64) (l:=l) (k:=k) (by omega)
  obtain ⟨b,hb,hb'⟩:=map_getN (f:=AV.int .i64) (l:=l) (k:=k + 1) hlt
  rw [risingF_at ha hb] at hf
  have e:IntKind.i64.wrap ((k:Int) + 1 - 1) = (k:Int):=by rw [show (k:Int) + 1 - 1 = k by omega]; exact i64 (by omega)
  rw [e]
  refine ⟨a,⟨by omega,by trivial,ha'⟩,b,⟨by omega,by trivial,by rw [show ((k:Int) + 1) = ((k + 1:Nat):Int) by omega]; exact hb'⟩,fun g2 => ⟨?_,by trivial⟩,fun g2 => ⟨_,(by omega:l.length - (k + 1) < l.length - k),k + 1,by omega,rfl,?_,?_⟩⟩
  ·rw [if_pos (of_decide_eq_true g2)] at hf; rw [← hf]
  ·rw [i64 (by omega)]; rfl
  ·rw [if_neg (of_decide_eq_false g2)] at hf; exact hf
 ·rw [risingF_end (by have:=of_decide_eq_false g; omega)] at hf
  rw [← hf]; exact ⟨rfl,by trivial⟩)
def R149 (l:List Int) (v0:TLmTable) (_S:SpecF) (_Fr:FreshF) (_Sq:SeqF) (Q:AV → List (List AV) → Prop):Prop :=
 Q (.bool ((↑(List.map (AV.int IntKind.i64) l).length:Int) != (↑(List.map (AV.int IntKind.i64) v0.Vs).length:Int))) [[AV.str v0.Name,.slc 3 (List.map (AV.int IntKind.i64) v0.Us),.slc 3 (List.map (AV.int IntKind.i64) v0.Vs),.slc 3 (List.map (fun x => AV.slc 3 (List.map (AV.int IntKind.i64) x)) v0.Values),.int .i64 v0.Side,.int .i64 v0.Sky]]
theorem r149 (l:List Int) (v0:TLmTable) (S:SpecF) (Fr:FreshF) (Sq:SeqF) (Q:AV → List (List AV) → Prop):awpF Tryz.prog (mkS Tryz.prog S Fr Sq ⟨[],[],[],[],[]⟩ 0) 1 ⟨[0,1,3],[],[],[]⟩ Tryz.f149 [.slc 3 (List.map (AV.int .i64) l),.ref 0 0] [⟨135,false,v0.cs⟩] Q = R149 l v0 S Fr Sq Q:=by kernel_rfl
theorem s149 (l:List Int) (v0:TLmTable) (v:AV) (O:List (List AV)) (h:R149 l v0 (SpecOf Tryz.prog) (FreshOf Tryz.prog) (SeqOf Tryz.prog) (fun r O' => r = v ∧ O' = O)):SpecOf Tryz.prog 149 [.slc 3 (List.map (AV.int .i64) l),.ref 0 0] [v0.cs] v O :=
 spec_by (boxes:=[⟨135,false,v0.cs⟩]) mixed (by exact trivial) Tryz.func149 Tryz.call149 rfl rfl rfl (Nat.le_of_ble_eq_true rfl) (r149 l v0 (SpecOf Tryz.prog) (FreshOf Tryz.prog) (SeqOf Tryz.prog) _) h
theorem c149 (l:List Int) (t:TLmTable):Sp 149 [.slc 3 (l.map (AV.int .i64)),.ref 0 0] [t.cs] (.bool (!decide (l.length = t.Vs.length))) [t.cs]:=s149 l t _ _ ⟨by
 rw [List.length_map,List.length_map]
 congr 1
 rw [Bool.eq_iff_iff]; simp; omega,rfl⟩
def R150 (l:List Int) (S:SpecF) (_Fr:FreshF) (_Sq:SeqF) (Q:AV → List (List AV) → Prop):Prop :=
 ∃ b0,S 151 [AV.slc 3 (List.map (AV.int IntKind.i64) l),.int .i64 0,.int .i64 10000000] [] (.bool b0) [] ∧ Q (.bool !b0) []
theorem r150 (l:List Int) (S:SpecF) (Fr:FreshF) (Sq:SeqF) (Q:AV → List (List AV) → Prop):awpF Tryz.prog (mkS Tryz.prog S Fr Sq ⟨[],[],[],[],[]⟩ 0) 0 ⟨[0,2],[],[],[]⟩ Tryz.f150 [.slc 3 (List.map (AV.int .i64) l)] [] Q = R150 l S Fr Sq Q:=by kernel_rfl
theorem s150 (l:List Int) (v:AV) (O:List (List AV)) (h:R150 l (SpecOf Tryz.prog) (FreshOf Tryz.prog) (SeqOf Tryz.prog) (fun r O' => r = v ∧ O' = O)):SpecOf Tryz.prog 150 [.slc 3 (List.map (AV.int .i64) l)] [] v O :=
 spec_by (boxes:=[]) mixed (by exact trivial) Tryz.func150 Tryz.call150 rfl rfl rfl (Nat.le_of_ble_eq_true rfl) (r150 l (SpecOf Tryz.prog) (FreshOf Tryz.prog) (SeqOf Tryz.prog) _) h
theorem c150 (l:List Int) (hl:l.length ≤ 1000000):Sp 150 [.slc 3 (l.map (AV.int .i64))] [] (.bool (!rangedB l 0 10000000)) []:=s150 l _ _ ⟨_,c151 l (by omega) 0 10000000,rfl,rfl⟩
def R171a (s:List (List Int)) (f0:TLmTable) (S:SpecF) (_Fr:FreshF) (_Sq:SeqF) (Q:AV → List (List AV) → Prop):Prop :=
 ∃ (I0:Nat → List AV → Prop),(∃ m2,I0 m2 [AV.int .i64 0,.agg [AV.str f0.Name,.slc 3 (List.map (AV.int IntKind.i64) f0.Us),.slc 3 (List.map (AV.int IntKind.i64) f0.Vs),.slc 3 (List.map (fun x => AV.slc 3 (List.map (AV.int IntKind.i64) x)) f0.Values),.int .i64 f0.Side,.int .i64 f0.Sky]]) ∧ ∀ (m2:Nat) (n3:Int) (s4:ByteArray) (es5 es6 es7:List AV) (n8 n9:Int),I0 m2 [AV.int .i64 n3,.agg [AV.str s4,.slc 3 es5,.slc 3 es6,.slc 3 es7,.int .i64 n8,.int .i64 n9]] → (decide (n3 < (↑(List.map (fun x => AV.slc 3 (List.map (AV.int IntKind.i64) x)) s).length:Int)) = true → ∃ es13,((0:Int) ≤ n3 ∧ (1:Nat) = (1:Nat) ∧ (List.map (fun x => AV.slc 3 (List.map (AV.int IntKind.i64) x)) s)[n3.toNat]? = some (.slc 3 es13)) ∧ ∃ b15,S 149 [AV.slc 3 es13,.ref 0 0] [[AV.str s4,.slc 3 es5,.slc 3 es6,.slc 3 es7,.int .i64 n8,.int .i64 n9]] (.bool b15) [[AV.str s4,.slc 3 es5,.slc 3 es6,.slc 3 es7,.int .i64 n8,.int .i64 n9]] ∧ (b15 = true → Q (.int .i64 n3) [[AV.str s4,.slc 3 es5,.slc 3 es6,.slc 3 es7,.int .i64 n8,.int .i64 n9]]) ∧ (b15 = false → ∃ k19,k19 < m2 ∧ I0 k19 [AV.int .i64 (IntKind.i64.wrap (n3 + 1)),.agg [AV.str s4,.slc 3 es5,.slc 3 es6,.slc 3 es7,.int .i64 n8,.int .i64 n9]])) ∧ (decide (n3 < (↑(List.map (fun x => AV.slc 3 (List.map (AV.int IntKind.i64) x)) s).length:Int)) = false → Q (.int .i64 (-1:Int)) [[AV.str s4,.slc 3 es5,.slc 3 es6,.slc 3 es7,.int .i64 n8,.int .i64 n9]])
theorem r171a (s:List (List Int)) (f0:TLmTable) (S:SpecF) (Fr:FreshF) (Sq:SeqF) (Q:AV → List (List AV) → Prop):awpF Tryz.prog (mkS Tryz.prog S Fr Sq ⟨[],[],[149],[],[]⟩ 0) 1 ⟨[0,1,4,5,7,8,9,16],[⟨2,[(8,.int .i64 0)],[],[(1000000,.agg [.str default,.slc 3 [],.slc 3 [],.slc 3 [],.int .i64 0,.int .i64 0])],[],[]⟩],[],[]⟩ Tryz.f171 [.slc 3 (List.map (fun x => .slc 3 (List.map (AV.int .i64) x)) s),.fn 149 [] [.ref 0 0]] [⟨135,false,f0.cs⟩] Q = R171a s f0 S Fr Sq Q:=by kernel_rfl
theorem s171a (s:List (List Int)) (f0:TLmTable) (v:AV) (O:List (List AV)) (h:R171a s f0 (SpecOf Tryz.prog) (FreshOf Tryz.prog) (SeqOf Tryz.prog) (fun r O' => r = v ∧ O' = O)):SpecOf Tryz.prog 171 [.slc 3 (List.map (fun x => .slc 3 (List.map (AV.int .i64) x)) s),.fn 149 [] [.ref 0 0]] [f0.cs] v O :=
 spec_by (boxes:=[⟨135,false,f0.cs⟩]) mixed (by exact trivial) Tryz.func171 Tryz.call171 rfl rfl rfl (Nat.le_of_ble_eq_true rfl) (r171a s f0 (SpecOf Tryz.prog) (FreshOf Tryz.prog) (SeqOf Tryz.prog) _) h
theorem c171a (l:List (List Int)) (hl:l.length ≤ 1000000) (t:TLmTable):Sp 171 [.slc 3 (l.map fun x => AV.slc 3 (List.map (AV.int .i64) x)),.fn 149 [] [.ref 0 0]] [t.cs] (.int .i64 (findI (fun x => !decide (x.length = t.Vs.length)) 0 l)) [t.cs]:=s171a l t _ _ (by
 unfold R171a
 refine ⟨fun m vs => ∃ k:Nat,k ≤ l.length ∧ m = l.length - k ∧ vs = [.int .i64 k,t.av] ∧ findI (fun x => !decide (x.length = t.Vs.length)) k (l.drop k) = findI (fun x => !decide (x.length = t.Vs.length)) 0 l,⟨_,0,by omega,rfl,rfl,rfl⟩,?_⟩
 intro m
 intros
 rename_i hJ
 obtain ⟨k,hk,rfl,hv,hf⟩:=hJ
 unfold TLmTable.av TLmTable.cs at hv
 cases hv
 simp only [List.length_map]
 refine ⟨fun g => ?_,fun g => ?_⟩
 ·have hlt:k < l.length:=by have:=of_decide_eq_true g; omega
  obtain ⟨x,hx,hx'⟩:=map_getN (f:=fun x => AV.slc 3 (List.map (AV.int .i64) x)) hlt
  rw [findI_at hx] at hf
  refine ⟨_,⟨by omega,by trivial,hx'⟩,_,c149 x t,fun g2 => ⟨?_,by trivial⟩,fun g2 => ⟨_,(by omega:l.length - (k + 1) < l.length - k),k + 1,by omega,rfl,by rw [wrapN (by omega)]; rfl,?_⟩⟩
  ·rw [if_pos g2] at hf; rw [← hf]
  ·rw [if_neg (by rw [g2]; simp)] at hf; exact hf
 ·obtain rfl:k = l.length:=by have:=of_decide_eq_false g; omega
  rw [List.drop_length] at hf
  rw [← hf]
  exact ⟨rfl,by trivial⟩)
def R153a (s:List (List Int)) (f0:TLmTable) (S:SpecF) (_Fr:FreshF) (_Sq:SeqF) (Q:AV → List (List AV) → Prop):Prop :=
 ∃ n0,S 171 [AV.slc 3 (List.map (fun x => AV.slc 3 (List.map (AV.int IntKind.i64) x)) s),AV.fn (149:FuncId) [] [AV.ref 0 0]] [[AV.str f0.Name,.slc 3 (List.map (AV.int IntKind.i64) f0.Us),.slc 3 (List.map (AV.int IntKind.i64) f0.Vs),.slc 3 (List.map (fun x => AV.slc 3 (List.map (AV.int IntKind.i64) x)) f0.Values),.int .i64 f0.Side,.int .i64 f0.Sky]] (.int .i64 n0) [[AV.str f0.Name,.slc 3 (List.map (AV.int IntKind.i64) f0.Us),.slc 3 (List.map (AV.int IntKind.i64) f0.Vs),.slc 3 (List.map (fun x => AV.slc 3 (List.map (AV.int IntKind.i64) x)) f0.Values),.int .i64 f0.Side,.int .i64 f0.Sky]] ∧ Q (.bool (decide (n0 ≥ 0))) [[AV.str f0.Name,.slc 3 (List.map (AV.int IntKind.i64) f0.Us),.slc 3 (List.map (AV.int IntKind.i64) f0.Vs),.slc 3 (List.map (fun x => AV.slc 3 (List.map (AV.int IntKind.i64) x)) f0.Values),.int .i64 f0.Side,.int .i64 f0.Sky]]
theorem r153a (s:List (List Int)) (f0:TLmTable) (S:SpecF) (Fr:FreshF) (Sq:SeqF) (Q:AV → List (List AV) → Prop):awpF Tryz.prog (mkS Tryz.prog S Fr Sq ⟨[],[],[171],[],[]⟩ 0) 1 ⟨[0,1,4],[],[],[]⟩ Tryz.f153 [.slc 3 (List.map (fun x => .slc 3 (List.map (AV.int .i64) x)) s),.fn 149 [] [.ref 0 0]] [⟨135,false,f0.cs⟩] Q = R153a s f0 S Fr Sq Q:=by kernel_rfl
theorem s153a (s:List (List Int)) (f0:TLmTable) (v:AV) (O:List (List AV)) (h:R153a s f0 (SpecOf Tryz.prog) (FreshOf Tryz.prog) (SeqOf Tryz.prog) (fun r O' => r = v ∧ O' = O)):SpecOf Tryz.prog 153 [.slc 3 (List.map (fun x => .slc 3 (List.map (AV.int .i64) x)) s),.fn 149 [] [.ref 0 0]] [f0.cs] v O :=
 spec_by (boxes:=[⟨135,false,f0.cs⟩]) mixed (by exact trivial) Tryz.func153 Tryz.call153 rfl rfl rfl (Nat.le_of_ble_eq_true rfl) (r153a s f0 (SpecOf Tryz.prog) (FreshOf Tryz.prog) (SeqOf Tryz.prog) _) h
theorem c153a (l:List (List Int)) (hl:l.length ≤ 1000000) (t:TLmTable):Sp 153 [.slc 3 (l.map fun x => AV.slc 3 (List.map (AV.int .i64) x)),.fn 149 [] [.ref 0 0]] [t.cs] (.bool (l.any fun x => !decide (x.length = t.Vs.length))) [t.cs]:=s153a l t _ _ ⟨_,c171a l hl t,by rw [findI_any],rfl⟩
def R171b (s:List (List Int)) (S:SpecF) (_Fr:FreshF) (_Sq:SeqF) (Q:AV → List (List AV) → Prop):Prop :=
 ∃ (I0:Nat → List AV → Prop),(∃ m2,I0 m2 [AV.int .i64 0]) ∧ ∀ (m2:Nat) (n3:Int),I0 m2 [AV.int .i64 n3] → (decide (n3 < (↑(List.map (fun x => AV.slc 3 (List.map (AV.int IntKind.i64) x)) s).length:Int)) = true → ∃ es7,((0:Int) ≤ n3 ∧ (1:Nat) = (1:Nat) ∧ (List.map (fun x => AV.slc 3 (List.map (AV.int IntKind.i64) x)) s)[n3.toNat]? = some (.slc 3 es7)) ∧ ∃ b9,S 150 [AV.slc 3 es7] [] (.bool b9) [] ∧ (b9 = true → Q (.int .i64 n3) []) ∧ (b9 = false → ∃ k13,k13 < m2 ∧ I0 k13 [AV.int .i64 (IntKind.i64.wrap (n3 + 1))])) ∧ (decide (n3 < (↑(List.map (fun x => AV.slc 3 (List.map (AV.int IntKind.i64) x)) s).length:Int)) = false → Q (.int .i64 (-1:Int)) [])
theorem r171b (s:List (List Int)) (S:SpecF) (Fr:FreshF) (Sq:SeqF) (Q:AV → List (List AV) → Prop):awpF Tryz.prog (mkS Tryz.prog S Fr Sq ⟨[],[],[150],[],[]⟩ 0) 0 ⟨[0,1,4,5,7,8,9,16],[⟨2,[(8,.int .i64 0)],[],[],[],[]⟩],[],[]⟩ Tryz.f171 [.slc 3 (List.map (fun x => .slc 3 (List.map (AV.int .i64) x)) s),.fn 150 [] []] [] Q = R171b s S Fr Sq Q:=by kernel_rfl
theorem s171b (s:List (List Int)) (v:AV) (O:List (List AV)) (h:R171b s (SpecOf Tryz.prog) (FreshOf Tryz.prog) (SeqOf Tryz.prog) (fun r O' => r = v ∧ O' = O)):SpecOf Tryz.prog 171 [.slc 3 (List.map (fun x => .slc 3 (List.map (AV.int .i64) x)) s),.fn 150 [] []] [] v O :=
 spec_by (boxes:=[]) mixed (by exact trivial) Tryz.func171 Tryz.call171 rfl rfl rfl (Nat.le_of_ble_eq_true rfl) (r171b s (SpecOf Tryz.prog) (FreshOf Tryz.prog) (SeqOf Tryz.prog) _) h
theorem c171b (l:List (List Int)) (hl:l.length ≤ 1000000) (hr:∀ x ∈ l,x.length ≤ 1000000):Sp 171 [.slc 3 (l.map fun x => AV.slc 3 (List.map (AV.int .i64) x)),.fn 150 [] []] [] (.int .i64 (findI (fun x => !rangedB x 0 10000000) 0 l)) []:=s171b l _ _ (by
 unfold R171b
 refine ⟨fun m vs => ∃ k:Nat,k ≤ l.length ∧ m = l.length - k ∧ vs = [.int .i64 k] ∧ findI (fun x => !rangedB x 0 10000000) k (l.drop k) = findI (fun x => !rangedB x 0 10000000) 0 l,⟨_,0,by omega,rfl,rfl,rfl⟩,?_⟩
 rintro m n3 ⟨k,hk,rfl,hv,hf⟩
 cases hv
 simp only [List.length_map]
 refine ⟨fun g => ?_,fun g => ?_⟩
 ·have hlt:k < l.length:=by have:=of_decide_eq_true g; omega
  obtain ⟨x,hx,hx'⟩:=map_getN (f:=fun x => AV.slc 3 (List.map (AV.int .i64) x)) hlt
  rw [findI_at hx] at hf
  refine ⟨_,⟨by omega,by trivial,hx'⟩,_,c150 x (hr x (List.mem_of_getElem? hx)),fun g2 => ⟨?_,by trivial⟩,fun g2 => ⟨_,(by omega:l.length - (k + 1) < l.length - k),k + 1,by omega,rfl,by rw [wrapN (by omega)],?_⟩⟩
  ·rw [if_pos g2] at hf; rw [← hf]
  ·rw [if_neg (by rw [g2]; simp)] at hf; exact hf
 ·obtain rfl:k = l.length:=by have:=of_decide_eq_false g; omega
  rw [List.drop_length] at hf
  rw [← hf]
  exact ⟨rfl,by trivial⟩)
def R153b (s:List (List Int)) (S:SpecF) (_Fr:FreshF) (_Sq:SeqF) (Q:AV → List (List AV) → Prop):Prop :=
 ∃ n0,S 171 [AV.slc 3 (List.map (fun x => AV.slc 3 (List.map (AV.int IntKind.i64) x)) s),AV.fn (150:FuncId) [] []] [] (.int .i64 n0) [] ∧ Q (.bool (decide (n0 ≥ 0))) []
theorem r153b (s:List (List Int)) (S:SpecF) (Fr:FreshF) (Sq:SeqF) (Q:AV → List (List AV) → Prop):awpF Tryz.prog (mkS Tryz.prog S Fr Sq ⟨[],[],[171],[],[]⟩ 0) 0 ⟨[0,1,4],[],[],[]⟩ Tryz.f153 [.slc 3 (List.map (fun x => .slc 3 (List.map (AV.int .i64) x)) s),.fn 150 [] []] [] Q = R153b s S Fr Sq Q:=by kernel_rfl
theorem s153b (s:List (List Int)) (v:AV) (O:List (List AV)) (h:R153b s (SpecOf Tryz.prog) (FreshOf Tryz.prog) (SeqOf Tryz.prog) (fun r O' => r = v ∧ O' = O)):SpecOf Tryz.prog 153 [.slc 3 (List.map (fun x => .slc 3 (List.map (AV.int .i64) x)) s),.fn 150 [] []] [] v O :=
 spec_by (boxes:=[]) mixed (by exact trivial) Tryz.func153 Tryz.call153 rfl rfl rfl (Nat.le_of_ble_eq_true rfl) (r153b s (SpecOf Tryz.prog) (FreshOf Tryz.prog) (SeqOf Tryz.prog) _) h
theorem c153b (l:List (List Int)) (hl:l.length ≤ 1000000) (hr:∀ x ∈ l,x.length ≤ 1000000):Sp 153 [.slc 3 (l.map fun x => AV.slc 3 (List.map (AV.int .i64) x)),.fn 150 [] []] [] (.bool (l.any fun x => !rangedB x 0 10000000)) []:=s153b l _ _ ⟨_,c171b l hl hr,by rw [findI_any],rfl⟩
end Go.Proofs.YtblebiafhhhflaaGreat
