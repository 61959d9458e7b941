/- Contracts: products and quotients of enclosures, the inverse of the cosine. Contracts: the inverse of the cosine. -/
import Derived.Test.YtdeeekgohhkdbaaGreatDoorEa
namespace Go.Proofs.YtdeeekgohhkdbaaGreatDoor
open Go.RowKit
theorem i64m (n:Int):IntKind.i64.wrap n = if n % 18446744073709551616 ≥ 9223372036854775808 then n % 18446744073709551616 - 18446744073709551616 else n % 18446744073709551616:=by
 show (if _ = true then _ else _) = _
 have e1:(2:Int) ^ IntKind.i64.bits = 18446744073709551616:=rfl
 have e2:(2:Int) ^ (IntKind.i64.bits - 1) = 9223372036854775808:=rfl
 simp only [e1,e2,IntKind.signed,Bool.true_and,decide_eq_true_eq]
theorem comp (n:Int) (h:-9223372036854775808 ≤ n ∧ n < 9223372036854775808):IntKind.i64.wrap ((BitVec.ofInt 64 (-1) ^^^ BitVec.ofInt 64 n).toNat:Int) = -n - 1:=by
 rw [show BitVec.ofInt 64 (-1) = BitVec.allOnes 64 by rfl,BitVec.allOnes_xor,BitVec.toNat_not,BitVec.toNat_ofInt]
 have e:(2:Nat) ^ 64 = 18446744073709551616:=rfl
 rw [e,i64m]
 omega
def R186 (n d:Int) (_S:SpecF) (_Fr:FreshF) (_Sq:SeqF) (Q:PostF):Prop :=
 (decide (n < 0) = true → d ≠ 0 ∧ Q (iN (IntKind.i64.wrap (↑(BitVec.ofInt (64:Nat) (-1:Int) ^^^ BitVec.ofInt (64:Nat) (IntKind.i64.wrap ((IntKind.i64.wrap (↑(BitVec.ofInt (64:Nat) (-1:Int) ^^^ BitVec.ofInt (64:Nat) n).toNat:Int)).tdiv d))).toNat:Int))) []) ∧ (decide (n < 0) = false → d ≠ 0 ∧ Q (iN (IntKind.i64.wrap (n.tdiv d))) [])
theorem s186 (n:Int) (d:Int) (v:AV) (O:List (List AV)) (h:R186 n d Sp Fo So (fun r O' => r = v ∧ O' = O)):Sp 186 [iN n,iN d] [] v O :=
 spec_by (w:=⟨[],[],[],[],[]⟩) (k:=0) (keep:=⟨[0,1,4,6],[],[],[]⟩) (boxes:=[]) mixed (by exact trivial) Tryz.func186 Tryz.call186 rfl rfl rfl (Nat.le_of_ble_eq_true rfl) (by kernel_rfl) h
theorem c186 (n d:Int) (h:-9223372036854775808 < n ∧ n < 9223372036854775808) (hd:0 < d):Sp 186 [.int .i64 n,.int .i64 d] [] (.int .i64 (n / d)) []:=s186 n d _ _ (by
 unfold R186
 refine ⟨fun g => ⟨by omega,?_,rfl⟩,fun g => ⟨by omega,?_,rfl⟩⟩
 ·have g:n < 0:=of_decide_eq_true g
  rw [comp n (by omega)]
  have h1:0 ≤ (-n - 1).tdiv d:=Int.tdiv_nonneg (by omega) (by omega)
  have h2:(-n - 1).tdiv d ≤ -n - 1:=by
   rw [Int.tdiv_eq_ediv_of_nonneg (by omega)]
   exact Int.ediv_le_self _ (by omega)
  rw [i64 (n:=(-n - 1).tdiv d) (by omega),comp _ (by omega),Int.tdiv_eq_ediv_of_nonneg (by omega)]
  have h3:=Int.mul_ediv_add_emod (-n - 1) d
  have h4:=Int.emod_nonneg (-n - 1) (by omega:d ≠ 0)
  have h5:=Int.emod_lt_of_pos (-n - 1) hd
  have h6:n / d = -((-n - 1) / d) - 1:=by
   rw [Int.ediv_eq_iff_of_pos hd,Int.sub_mul,Int.neg_mul,Int.one_mul,Int.mul_comm ((-n - 1) / d)]
   omega
  rw [h6]
 ·have g:0 ≤ n:=by have:=of_decide_eq_false g; omega
  rw [Int.tdiv_eq_ediv_of_nonneg g]
  have h1:0 ≤ n / d:=Int.ediv_nonneg g (by omega)
  have h2:n / d ≤ n:=Int.ediv_le_self _ g
  rw [i64 (by omega)])
def noWild (x:TEncl):Prop:=-3000000000 ≤ x.Lo ∧ x.Lo ≤ x.Hi ∧ x.Hi ≤ 3000000000
theorem wild_not {x:TEncl} (h:wildB x 3000000000 = false):noWild x:=by
 unfold wildB at h
 rw [show IntKind.i64.wrap (0 - 3000000000) = -3000000000 by rfl] at h
 simp only [Bool.or_eq_false_iff,decide_eq_false_iff_not] at h
 unfold noWild; omega
theorem mul_in {a b:Int} (ha:-3000000000 ≤ a ∧ a ≤ 3000000000) (hb:-3000000000 ≤ b ∧ b ≤ 3000000000):-9000000000000000000 ≤ a * b ∧ a * b ≤ 9000000000000000000:=by
 have h1:a.natAbs * b.natAbs ≤ 3000000000 * 3000000000:=Nat.mul_le_mul (by omega) (by omega)
 rw [← Int.natAbs_mul] at h1
 omega
theorem ediv_in {n d:Int} (hd:0 < d) (h:-9000000000000000000 ≤ n ∧ n ≤ 9000000000000000000):-9000000000000000000 ≤ n / d ∧ n / d ≤ 9000000000000000000:=by
 constructor
 ·rw [Int.le_ediv_iff_mul_le hd]
  have:(9000000000000000000:Int) * 1 ≤ 9000000000000000000 * d:=Int.mul_le_mul_of_nonneg_left (by omega) (by omega)
  omega
 ·have h1:n / d ≤ 9000000000000000000 / d:=Int.ediv_le_ediv hd h.2
  have h2:(9000000000000000000:Int) / d ≤ 9000000000000000000:=Int.ediv_le_self _ (by omega)
  omega
def fracE (n d:Int):TEncl:=if d = 0 then ⟨0,0⟩ else if d < 0 then ⟨(-n) / (-d),-(n / (-d))⟩ else ⟨n / d,-((-n) / d)⟩
def R184 (a b:Int) (_S:SpecF) (_Fr:FreshF) (_Sq:SeqF) (Q:PostF):Prop :=
 Q (.tup [iN (IntKind.i64.wrap (a * b)),iN 100000000]) []
theorem s184 (a:Int) (b:Int) (v:AV) (O:List (List AV)) (h:R184 a b Sp Fo So (fun r O' => r = v ∧ O' = O)):Sp 184 [iN a,iN b] [] v O :=
 spec_by (w:=⟨[],[],[],[],[]⟩) (k:=0) (keep:=⟨[0,1,4,5],[],[],[]⟩) (boxes:=[]) mixed (by exact trivial) Tryz.func184 Tryz.call184 rfl rfl rfl (Nat.le_of_ble_eq_true rfl) (by kernel_rfl) h
theorem c184 (a b:Int) (ha:-3000000000 ≤ a ∧ a ≤ 3000000000) (hb:-3000000000 ≤ b ∧ b ≤ 3000000000):Sp 184 [.int .i64 a,.int .i64 b] [] (.tup [.int .i64 (a * b),.int .i64 100000000]) []:=s184 a b _ _ ⟨by have:=mul_in ha hb; rw [i64 (by omega)],rfl⟩
def R175 (a b:Int) (_S:SpecF) (_Fr:FreshF) (_Sq:SeqF) (Q:PostF):Prop :=
 Q (.tup [iN (IntKind.i64.wrap (a * 100000000)),iN b]) []
theorem s175 (a:Int) (b:Int) (v:AV) (O:List (List AV)) (h:R175 a b Sp Fo So (fun r O' => r = v ∧ O' = O)):Sp 175 [iN a,iN b] [] v O :=
 spec_by (w:=⟨[],[],[],[],[]⟩) (k:=0) (keep:=⟨[0,1,4,5],[],[],[]⟩) (boxes:=[]) mixed (by exact trivial) Tryz.func175 Tryz.call175 rfl rfl rfl (Nat.le_of_ble_eq_true rfl) (by kernel_rfl) h
theorem c175 (a b:Int) (ha:-3000000000 ≤ a ∧ a ≤ 3000000000):Sp 175 [.int .i64 a,.int .i64 b] [] (.tup [.int .i64 (a * 100000000),.int .i64 b]) []:=s175 a b _ _ ⟨by rw [i64 (by omega)],rfl⟩
def R185a (a b:Int) (S:SpecF) (_Fr:FreshF) (_Sq:SeqF) (Q:PostF):Prop :=
 ∃ n0 n1,S 184 [iN a,iN b] [] (.tup [iN n0,iN n1]) [] ∧ ((n1 == 0) = true → Q (TEncl.zero.av) [[AV.fn (184:FuncId) [] []]]) ∧ ((n1 == 0) = false → (decide (n1 < 0) = true → ∃ n7,S 186 [iN (IntKind.i64.wrap ((0:Int) - n0)),iN (IntKind.i64.wrap ((0:Int) - n1))] [] (iN n7) [] ∧ ∃ n9,S 186 [iN (IntKind.i64.wrap ((0:Int) - IntKind.i64.wrap ((0:Int) - n0))),iN (IntKind.i64.wrap ((0:Int) - n1))] [] (iN n9) [] ∧ Q (.agg [iN n7,iN (IntKind.i64.wrap ((0:Int) - n9))]) [[AV.fn (184:FuncId) [] []]]) ∧ (decide (n1 < 0) = false → ∃ n7,S 186 [iN n0,iN n1] [] (iN n7) [] ∧ ∃ n9,S 186 [iN (IntKind.i64.wrap ((0:Int) - n0)),iN n1] [] (iN n9) [] ∧ Q (.agg [iN n7,iN (IntKind.i64.wrap ((0:Int) - n9))]) [[AV.fn (184:FuncId) [] []]]))
theorem s185a (a:Int) (b:Int) (v:AV) (O:List (List AV)) (h:R185a a b Sp Fo So (fun r O' => r = v ∧ O' = O)):Sp 185 [iN a,iN b,.ref 0 0] [[.fn 184 [] []]] v O :=
 spec_by (w:=⟨[],[],[],[],[]⟩) (k:=0) (keep:=⟨[0,1,2,5,6,7,16,19],[],[],[]⟩) (boxes:=[⟨236,false,[.fn 184 [] []]⟩]) mixed (by exact trivial) Tryz.func185 Tryz.call185 rfl rfl rfl (Nat.le_of_ble_eq_true rfl) (by kernel_rfl) h
theorem c185a (a b:Int) (ha:-3000000000 ≤ a ∧ a ≤ 3000000000) (hb:-3000000000 ≤ b ∧ b ≤ 3000000000):Sp 185 [.int .i64 a,.int .i64 b,.ref 0 0] [[.fn 184 [] []]] (fracE (a * b) 100000000).av [[.fn 184 [] []]]:=s185a a b _ _ (by
 unfold R185a
 have hm:=mul_in ha hb
 have h1:=ediv_in (d:=100000000) (n:=-(a * b)) (by omega) (by omega)
 refine ⟨_,_,c184 a b ha hb,fun h => (by simp at h),fun _ => ⟨fun h => (by simp at h),fun _ => ⟨_,c186 _ _ (by omega) (by omega),_,by rw [i64 (n:=0 - a * b) (by omega)]; exact c186 _ _ (by omega) (by omega),?_,rfl⟩⟩⟩
 rw [Int.zero_sub,i64 (by omega)]
 unfold fracE
 rw [if_neg (by omega),if_neg (by omega),Int.zero_sub]; rfl)
def R185b (a b:Int) (S:SpecF) (_Fr:FreshF) (_Sq:SeqF) (Q:PostF):Prop :=
 ∃ n0 n1,S 175 [iN a,iN b] [] (.tup [iN n0,iN n1]) [] ∧ ((n1 == 0) = true → Q (TEncl.zero.av) [[AV.fn (175:FuncId) [] []]]) ∧ ((n1 == 0) = false → (decide (n1 < 0) = true → ∃ n7,S 186 [iN (IntKind.i64.wrap ((0:Int) - n0)),iN (IntKind.i64.wrap ((0:Int) - n1))] [] (iN n7) [] ∧ ∃ n9,S 186 [iN (IntKind.i64.wrap ((0:Int) - IntKind.i64.wrap ((0:Int) - n0))),iN (IntKind.i64.wrap ((0:Int) - n1))] [] (iN n9) [] ∧ Q (.agg [iN n7,iN (IntKind.i64.wrap ((0:Int) - n9))]) [[AV.fn (175:FuncId) [] []]]) ∧ (decide (n1 < 0) = false → ∃ n7,S 186 [iN n0,iN n1] [] (iN n7) [] ∧ ∃ n9,S 186 [iN (IntKind.i64.wrap ((0:Int) - n0)),iN n1] [] (iN n9) [] ∧ Q (.agg [iN n7,iN (IntKind.i64.wrap ((0:Int) - n9))]) [[AV.fn (175:FuncId) [] []]]))
theorem s185b (a:Int) (b:Int) (v:AV) (O:List (List AV)) (h:R185b a b Sp Fo So (fun r O' => r = v ∧ O' = O)):Sp 185 [iN a,iN b,.ref 0 0] [[.fn 175 [] []]] v O :=
 spec_by (w:=⟨[],[],[],[],[]⟩) (k:=0) (keep:=⟨[0,1,2,5,6,7,16,19],[],[],[]⟩) (boxes:=[⟨236,false,[.fn 175 [] []]⟩]) mixed (by exact trivial) Tryz.func185 Tryz.call185 rfl rfl rfl (Nat.le_of_ble_eq_true rfl) (by kernel_rfl) h
theorem c185b (a b:Int) (ha:-3000000000 ≤ a ∧ a ≤ 3000000000) (hb:-3000000000 ≤ b ∧ b ≤ 3000000000):Sp 185 [.int .i64 a,.int .i64 b,.ref 0 0] [[.fn 175 [] []]] (fracE (a * 100000000) b).av [[.fn 175 [] []]]:=s185b a b _ _ (by
 unfold R185b
 refine ⟨_,_,c175 a b ha,fun h => ⟨?_,rfl⟩,fun h => ?_⟩
 ·have h:b = 0:=by simpa using h
  subst h; rfl
 have hb0:b ≠ 0:=by simpa using h
 refine ⟨fun g => ?_,fun g => ?_⟩
 ·have g:b < 0:=of_decide_eq_true g
  have h1:=ediv_in (d:=-b) (n:=a * 100000000) (by omega) (by omega)
  refine ⟨_,by rw [i64 (n:=0 - a * 100000000) (by omega),i64 (n:=0 - b) (by omega)]; exact c186 _ _ (by omega) (by omega),_,by rw [i64 (n:=0 - a * 100000000) (by omega),i64 (n:=0 - (0 - a * 100000000)) (by omega),i64 (n:=0 - b) (by omega)]; exact c186 _ _ (by omega) (by omega),?_,rfl⟩
  rw [show (0:Int) - (0 - a * 100000000) = a * 100000000 by omega,Int.zero_sub,Int.zero_sub,Int.zero_sub,i64 (by omega)]
  unfold fracE
  rw [if_neg hb0,if_pos g]; rfl
 ·have g:0 < b:=by have:=of_decide_eq_false g; omega
  have h1:=ediv_in (d:=b) (n:=-(a * 100000000)) (by omega) (by omega)
  refine ⟨_,c186 _ _ (by omega) (by omega),_,by rw [i64 (n:=0 - a * 100000000) (by omega)]; exact c186 _ _ (by omega) (by omega),?_,rfl⟩
  rw [Int.zero_sub,Int.zero_sub,i64 (by omega)]
  unfold fracE
  rw [if_neg hb0,if_neg (by omega)]; rfl)
def hull4 (f:Int → Int → TEncl) (x y:TEncl):TEncl:=[f x.Lo y.Hi,f x.Hi y.Lo,f x.Hi y.Hi].foldl hullE (f x.Lo y.Lo)
def arithR (f:Int → Int → TEncl) (x y:TEncl):TEncl × Int :=
 if wildB x 3000000000 then (⟨0,0⟩,7) else if wildB y 3000000000 then (⟨0,0⟩,7) else if wildB (hull4 f x y) 3000000000 then (⟨0,0⟩,7) else (hull4 f x y,0)
def timesR (x y:TEncl):TEncl × Int:=arithR (fun a b => fracE (a * b) 100000000) x y
def overR (x y:TEncl):TEncl × Int:=if (!wildB x 3000000000 && !wildB y 3000000000) && (decide (y.Lo ≤ 0) && decide (y.Hi ≥ 0)) then (⟨0,0⟩,8) else arithR (fun a b => fracE (a * 100000000) b) x y
def R172 (x y:TEncl) (S:SpecF) (_Fr:FreshF) (_Sq:SeqF) (Q:PostF):Prop :=
 ∃ b0,S 173 [x.av,iN 3000000000] [] (.bool b0) [] ∧ (b0 = true → Q (.tup [TEncl.zero.av,iN 7]) []) ∧ (b0 = false → ∃ b4,S 173 [y.av,iN 3000000000] [] (.bool b4) [] ∧ (b4 = true → Q (.tup [TEncl.zero.av,iN 7]) []) ∧ (b4 = false → ∃ n8 n9,S 185 [iN x.Lo,iN y.Lo,.ref 0 0] [[AV.fn (184:Nat) [] []]] (.agg [iN n8,iN n9]) [[AV.fn (184:Nat) [] []]] ∧ ∃ n11 n12,S 185 [iN x.Lo,iN y.Hi,.ref 0 0] [[AV.fn (184:Nat) [] []]] (.agg [iN n11,iN n12]) [[AV.fn (184:Nat) [] []]] ∧ ∃ n14 n15,S 185 [iN x.Hi,iN y.Lo,.ref 0 0] [[AV.fn (184:Nat) [] []]] (.agg [iN n14,iN n15]) [[AV.fn (184:Nat) [] []]] ∧ ∃ n17 n18,S 185 [iN x.Hi,iN y.Hi,.ref 0 0] [[AV.fn (184:Nat) [] []]] (.agg [iN n17,iN n18]) [[AV.fn (184:Nat) [] []]] ∧ ∃ n20 n21,S 187 [AV.agg [iN n8,iN n9],.slc 3 [AV.agg [iN n11,iN n12],.agg [iN n14,iN n15],.agg [iN n17,iN n18]]] [] (.agg [iN n20,iN n21]) [] ∧ ∃ b23,S 173 [AV.agg [iN n20,iN n21],iN 3000000000] [] (.bool b23) [] ∧ (b23 = true → Q (.tup [TEncl.zero.av,iN 7]) []) ∧ (b23 = false → Q (.tup [AV.agg [iN n20,iN n21],iN 0]) [])))
theorem s172 (x:TEncl) (y:TEncl) (v:AV) (O:List (List AV)) (h:R172 x y Sp Fo So (fun r O' => r = v ∧ O' = O)):Sp 172 [x.av,y.av] [] v O :=
 spec_by (w:=⟨[],[],[185],[(174,⟨[0,1,2,3,4,5,6,7,8,9,15,45],[],[],[]⟩)],[]⟩) (k:=4) (keep:=⟨[0,1,2,3,4,5],[],[],[]⟩) (boxes:=[]) mixed (by exact ⟨Tryz.call174,trivial⟩) Tryz.func172 Tryz.call172 rfl rfl rfl (Nat.le_of_ble_eq_true rfl) (by kernel_rfl) h
theorem c172 (x y:TEncl):Sp 172 [x.av,y.av] [] (.tup [(timesR x y).1.av,.int .i64 (timesR x y).2]) []:=s172 x y _ _ (by
 unfold R172 timesR arithR
 refine ⟨_,c173 x 3000000000,fun h => ⟨by rw [if_pos h]; rfl,by trivial⟩,fun h => ⟨_,c173 y 3000000000,fun h2 => ⟨by rw [if_neg (by rw [h]; simp),if_pos h2]; rfl,by trivial⟩,fun h2 => ?_⟩⟩
 obtain ⟨x1,x2,x3⟩:=wild_not h
 obtain ⟨y1,y2,y3⟩:=wild_not h2
 rw [if_neg (by rw [h]; simp),if_neg (by rw [h2]; simp)]
 have hj:Sp 187 [(fracE (x.Lo * y.Lo) 100000000).av,.slc 3 [(fracE (x.Lo * y.Hi) 100000000).av,(fracE (x.Hi * y.Lo) 100000000).av,(fracE (x.Hi * y.Hi) 100000000).av]] [] (hull4 (fun a b => fracE (a * b) 100000000) x y).av []:=c187 (fracE (x.Lo * y.Lo) 100000000) [fracE (x.Lo * y.Hi) 100000000,fracE (x.Hi * y.Lo) 100000000,fracE (x.Hi * y.Hi) 100000000] (by simp)
 generalize hull4 (fun a b => fracE (a * b) 100000000) x y = H at hj ⊢
 refine ⟨_,_,c185a _ _ (by omega) (by omega),_,_,c185a _ _ (by omega) (by omega),_,_,c185a _ _ (by omega) (by omega),_,_,c185a _ _ (by omega) (by omega),_,_,hj,_,c173 H 3000000000,fun h3 => ⟨?_,by trivial⟩,fun h3 => ⟨?_,by trivial⟩⟩
 ·rw [if_pos h3]; rfl
 ·rw [if_neg (by rw [h3]; simp)]; rfl)
theorem tailO (x y:TEncl):∃ b0,Sp 173 [x.av,.int .i64 3000000000] [] (.bool b0) [] ∧ (b0 = true → AV.tup [TEncl.zero.av,.int .i64 7] = .tup [(arithR (fun a b => fracE (a * 100000000) b) x y).1.av,.int .i64 (arithR (fun a b => fracE (a * 100000000) b) x y).2] ∧ ([]:List (List AV)) = []) ∧
  (b0 = false → ∃ b4,Sp 173 [y.av,.int .i64 3000000000] [] (.bool b4) [] ∧ (b4 = true → AV.tup [TEncl.zero.av,.int .i64 7] = .tup [(arithR (fun a b => fracE (a * 100000000) b) x y).1.av,.int .i64 (arithR (fun a b => fracE (a * 100000000) b) x y).2] ∧ ([]:List (List AV)) = []) ∧
  (b4 = false → ∃ n8 n9,Sp 185 [.int .i64 x.Lo,.int .i64 y.Lo,.ref 0 0] [[.fn 175 [] []]] (.agg [.int .i64 n8,.int .i64 n9]) [[.fn 175 [] []]] ∧ ∃ n11 n12,Sp 185 [.int .i64 x.Lo,.int .i64 y.Hi,.ref 0 0] [[.fn 175 [] []]] (.agg [.int .i64 n11,.int .i64 n12]) [[.fn 175 [] []]] ∧
   ∃ n14 n15,Sp 185 [.int .i64 x.Hi,.int .i64 y.Lo,.ref 0 0] [[.fn 175 [] []]] (.agg [.int .i64 n14,.int .i64 n15]) [[.fn 175 [] []]] ∧ ∃ n17 n18,Sp 185 [.int .i64 x.Hi,.int .i64 y.Hi,.ref 0 0] [[.fn 175 [] []]] (.agg [.int .i64 n17,.int .i64 n18]) [[.fn 175 [] []]] ∧
   ∃ n20 n21,Sp 187 [.agg [.int .i64 n8,.int .i64 n9],.slc 3 [.agg [.int .i64 n11,.int .i64 n12],.agg [.int .i64 n14,.int .i64 n15],.agg [.int .i64 n17,.int .i64 n18]]] [] (.agg [.int .i64 n20,.int .i64 n21]) [] ∧
   ∃ b23,Sp 173 [.agg [.int .i64 n20,.int .i64 n21],.int .i64 3000000000] [] (.bool b23) [] ∧ (b23 = true → AV.tup [TEncl.zero.av,.int .i64 7] = .tup [(arithR (fun a b => fracE (a * 100000000) b) x y).1.av,.int .i64 (arithR (fun a b => fracE (a * 100000000) b) x y).2] ∧ ([]:List (List AV)) = []) ∧
   (b23 = false → AV.tup [.agg [.int .i64 n20,.int .i64 n21],.int .i64 0] = .tup [(arithR (fun a b => fracE (a * 100000000) b) x y).1.av,.int .i64 (arithR (fun a b => fracE (a * 100000000) b) x y).2] ∧ ([]:List (List AV)) = []))):=by
 unfold arithR
 refine ⟨_,c173 x 3000000000,fun h => ⟨by rw [if_pos h]; rfl,by trivial⟩,fun h => ⟨_,c173 y 3000000000,fun h2 => ⟨by rw [if_neg (by rw [h]; simp),if_pos h2]; rfl,by trivial⟩,fun h2 => ?_⟩⟩
 obtain ⟨x1,x2,x3⟩:=wild_not h
 obtain ⟨y1,y2,y3⟩:=wild_not h2
 rw [if_neg (by rw [h]; simp),if_neg (by rw [h2]; simp)]
 have hj:Sp 187 [(fracE (x.Lo * 100000000) y.Lo).av,.slc 3 [(fracE (x.Lo * 100000000) y.Hi).av,(fracE (x.Hi * 100000000) y.Lo).av,(fracE (x.Hi * 100000000) y.Hi).av]] [] (hull4 (fun a b => fracE (a * 100000000) b) x y).av []:=c187 (fracE (x.Lo * 100000000) y.Lo) [fracE (x.Lo * 100000000) y.Hi,fracE (x.Hi * 100000000) y.Lo,fracE (x.Hi * 100000000) y.Hi] (by simp)
 generalize hull4 (fun a b => fracE (a * 100000000) b) x y = H at hj ⊢
 refine ⟨_,_,c185b _ _ (by omega) (by omega),_,_,c185b _ _ (by omega) (by omega),_,_,c185b _ _ (by omega) (by omega),_,_,c185b _ _ (by omega) (by omega),_,_,hj,_,c173 H 3000000000,fun h3 => ⟨?_,by trivial⟩,fun h3 => ⟨?_,by trivial⟩⟩
 ·rw [if_pos h3]; rfl
 ·rw [if_neg (by rw [h3]; simp)]; rfl
abbrev R155qa (x y:TEncl) (S:SpecF) (Q:PostF):Prop :=
 ∃ b12,S 173 [x.av,iN 3000000000] [] (.bool b12) [] ∧ (b12 = true → Q (.tup [TEncl.zero.av,iN 7]) []) ∧ (b12 = false → ∃ b16,S 173 [y.av,iN 3000000000] [] (.bool b16) [] ∧ (b16 = true → Q (.tup [TEncl.zero.av,iN 7]) []) ∧ (b16 = false → ∃ n20 n21,S 185 [iN x.Lo,iN y.Lo,.ref 0 0] [[AV.fn (175:Nat) [] []]] (.agg [iN n20,iN n21]) [[AV.fn (175:Nat) [] []]] ∧ ∃ n23 n24,S 185 [iN x.Lo,iN y.Hi,.ref 0 0] [[AV.fn (175:Nat) [] []]] (.agg [iN n23,iN n24]) [[AV.fn (175:Nat) [] []]] ∧ ∃ n26 n27,S 185 [iN x.Hi,iN y.Lo,.ref 0 0] [[AV.fn (175:Nat) [] []]] (.agg [iN n26,iN n27]) [[AV.fn (175:Nat) [] []]] ∧ ∃ n29 n30,S 185 [iN x.Hi,iN y.Hi,.ref 0 0] [[AV.fn (175:Nat) [] []]] (.agg [iN n29,iN n30]) [[AV.fn (175:Nat) [] []]] ∧ ∃ n32 n33,S 187 [AV.agg [iN n20,iN n21],.slc 3 [AV.agg [iN n23,iN n24],.agg [iN n26,iN n27],.agg [iN n29,iN n30]]] [] (.agg [iN n32,iN n33]) [] ∧ ∃ b35,S 173 [AV.agg [iN n32,iN n33],iN 3000000000] [] (.bool b35) [] ∧ (b35 = true → Q (.tup [TEncl.zero.av,iN 7]) []) ∧ (b35 = false → Q (.tup [AV.agg [iN n32,iN n33],iN 0]) [])))
def R155 (x y:TEncl) (S:SpecF) (_Fr:FreshF) (_Sq:SeqF) (Q:PostF):Prop :=
 ∃ b0,S 173 [x.av,iN 3000000000] [] (.bool b0) [] ∧ ((!b0) = true → ∃ b4,S 173 [y.av,iN 3000000000] [] (.bool b4) [] ∧ ((!b4) = true → (decide (y.Lo ≤ 0) = true → (decide (y.Hi ≥ 0) = true → Q (.tup [TEncl.zero.av,iN 8]) []) ∧ (decide (y.Hi ≥ 0) = false → R155qa x y S Q)) ∧ (decide (y.Lo ≤ 0) = false → R155qa x y S Q)) ∧ ((!b4) = false → R155qa x y S Q)) ∧ ((!b0) = false → R155qa x y S Q)
theorem s155 (x:TEncl) (y:TEncl) (v:AV) (O:List (List AV)) (h:R155 x y Sp Fo So (fun r O' => r = v ∧ O' = O)):Sp 155 [x.av,y.av] [] v O :=
 spec_by (w:=⟨[],[],[185],[(174,⟨[0,1,2,3,4,5,6,7,8,9,15,45],[],[],[]⟩)],[]⟩) (k:=4) (keep:=⟨[0,1,2,3,4,5,6,25],[],[],[]⟩) (boxes:=[]) mixed (by exact ⟨Tryz.call174,trivial⟩) Tryz.func155 Tryz.call155 rfl rfl rfl (Nat.le_of_ble_eq_true rfl) (by kernel_rfl) h
theorem c155 (x y:TEncl):Sp 155 [x.av,y.av] [] (.tup [(overR x y).1.av,.int .i64 (overR x y).2]) []:=s155 x y _ _ (by
 unfold R155 R155qa
 have rest:((!wildB x 3000000000 && !wildB y 3000000000) && (decide (y.Lo ≤ 0) && decide (y.Hi ≥ 0))) = false → overR x y = arithR (fun a b => fracE (a * 100000000) b) x y:=fun h1 => by
  unfold overR; rw [h1]; rfl
 refine ⟨_,c173 x 3000000000,fun h => ⟨_,c173 y 3000000000,fun h2 => ⟨fun h3 => ⟨fun h4 => ⟨?_,by trivial⟩,fun h4 => ?_⟩,fun h3 => ?_⟩,fun h2 => ?_⟩,fun h => ?_⟩
 ·unfold overR; rw [h,h2,h3,h4]; rfl
 ·rw [rest (by rw [h,h2,h3,h4]; rfl)]
  exact tailO x y
 ·rw [rest (by rw [h,h2,h3]; rfl)]
  exact tailO x y
 ·rw [rest (by rw [h,h2]; rfl)]
  exact tailO x y
 ·rw [rest (by rw [h]; rfl)]
  exact tailO x y)
end Go.Proofs.YtdeeekgohhkdbaaGreatDoor
namespace Go.Proofs.YtdeeekgohhkdbaaGreatDoor
open Go.RowKit
def searchF (f:Nat → Bool):Nat → Nat → Nat → Nat
 | 0,i,_ => i
 | k + 1,i,j => if i < j then (if f ((i + j) / 2) then searchF f k i ((i + j) / 2) else searchF f k ((i + j) / 2 + 1) j) else i
theorem searchF_s (f:Nat → Bool) (k i j:Nat):searchF f (k + 1) i j = if i < j then (if f ((i + j) / 2) then searchF f k i ((i + j) / 2) else searchF f k ((i + j) / 2 + 1) j) else i:=rfl
theorem searchF_le (f:Nat → Bool):∀ (k i j:Nat),i ≤ j → i ≤ searchF f k i j ∧ searchF f k i j ≤ j:=by
 intro k
 induction k with
 | zero => intro i j h; exact ⟨Nat.le_refl _,h⟩
 | succ k ih =>
  intro i j h
  rw [searchF_s]
  split
  ·split
   ·have:=ih i ((i + j) / 2) (by omega); omega
   ·have:=ih ((i + j) / 2 + 1) j (by omega); omega
  ·exact ⟨Nat.le_refl _,h⟩
theorem searchF_end (f:Nat → Bool) (k i j:Nat) (h:¬ i < j):searchF f k i j = i:=by
 cases k with
 | zero => rfl
 | succ k => rw [searchF_s,if_neg h]
def lowF (x:TEncl) (a:Nat):Bool:=decide ((sineE (a + 90000000)).Lo < x.Hi)
def highF (x:TEncl) (a:Nat):Bool:=decide ((sineE (a + 90000000)).Hi ≤ x.Lo)
def R178 (a:Int) (v0:TEncl) (S:SpecF) (_Fr:FreshF) (_Sq:SeqF) (Q:PostF):Prop :=
 ∃ n0 n1,S 179 [iN (IntKind.i64.wrap (a + 90000000))] [] (.agg [iN n0,iN n1]) [] ∧ Q (.bool (decide (n0 < v0.Hi))) [v0.cs]
theorem s178 (a:Int) (v0:TEncl) (v:AV) (O:List (List AV)) (h:R178 a v0 Sp Fo So (fun r O' => r = v ∧ O' = O)):Sp 178 [iN a,.ref 0 0] [v0.cs] v O :=
 spec_by (w:=⟨[],[],[],[],[]⟩) (k:=0) (keep:=⟨[0,1,3],[],[],[]⟩) (boxes:=[⟨23,false,v0.cs⟩]) mixed (by exact trivial) Tryz.func178 Tryz.call178 rfl rfl rfl (Nat.le_of_ble_eq_true rfl) (by kernel_rfl) h
theorem c178 (a:Nat) (ha:a ≤ 1000000000) (x:TEncl):Sp 178 [.int .i64 a,.ref 0 0] [x.cs] (.bool (lowF x a)) [x.cs]:=s178 a x _ _ ⟨_,_,by rw [i64 (by omega)]; exact c179 _,rfl,rfl⟩
def R180 (a:Int) (v0:TEncl) (S:SpecF) (_Fr:FreshF) (_Sq:SeqF) (Q:PostF):Prop :=
 ∃ n0 n1,S 179 [iN (IntKind.i64.wrap (a + 90000000))] [] (.agg [iN n0,iN n1]) [] ∧ Q (.bool (decide (n1 ≤ v0.Lo))) [v0.cs]
theorem s180 (a:Int) (v0:TEncl) (v:AV) (O:List (List AV)) (h:R180 a v0 Sp Fo So (fun r O' => r = v ∧ O' = O)):Sp 180 [iN a,.ref 0 0] [v0.cs] v O :=
 spec_by (w:=⟨[],[],[],[],[]⟩) (k:=0) (keep:=⟨[0,1,3],[],[],[]⟩) (boxes:=[⟨23,false,v0.cs⟩]) mixed (by exact trivial) Tryz.func180 Tryz.call180 rfl rfl rfl (Nat.le_of_ble_eq_true rfl) (by kernel_rfl) h
theorem c180 (a:Nat) (ha:a ≤ 1000000000) (x:TEncl):Sp 180 [.int .i64 a,.ref 0 0] [x.cs] (.bool (highF x a)) [x.cs]:=s180 a x _ _ ⟨_,_,by rw [i64 (by omega)]; exact c179 _,rfl,rfl⟩
theorem mid {i j:Nat} (h:i + j < 9223372036854775808):IntKind.i64.wrap ((IntKind.u64.wrap (IntKind.i64.wrap ((i:Int) + (j:Int)))).fdiv 2) = (((i + j) / 2:Nat):Int):=by
 rw [← Int.natCast_add,i64N h,u64lt (by omega),show (2:Int) = ((2:Nat):Int) by rfl,fdN,i64N (by omega)]
def R177a (n:Int) (f0:TEncl) (S:SpecF) (_Fr:FreshF) (_Sq:SeqF) (Q:PostF):Prop :=
 ∃ (I0:Nat → List AV → Prop),(∃ m2,I0 m2 [iN 0,iN n,f0.av]) ∧ ∀ (m2:Nat) (n3 n4 n5 n6:Int),I0 m2 [iN n3,iN n4,.agg [iN n5,iN n6]] → (decide (n3 < n4) = true → ∃ b10,S 178 [iN (IntKind.i64.wrap ((IntKind.u64.wrap (IntKind.i64.wrap (n3 + n4))).fdiv (2:Int))),.ref 0 0] [[iN n5,iN n6]] (.bool b10) [[iN n5,iN n6]] ∧ ((!b10) = true → ∃ k14,k14 < m2 ∧ I0 k14 [iN (IntKind.i64.wrap (IntKind.i64.wrap ((IntKind.u64.wrap (IntKind.i64.wrap (n3 + n4))).fdiv (2:Int)) + 1)),iN n4,.agg [iN n5,iN n6]]) ∧ ((!b10) = false → ∃ k14,k14 < m2 ∧ I0 k14 [iN n3,iN (IntKind.i64.wrap ((IntKind.u64.wrap (IntKind.i64.wrap (n3 + n4))).fdiv (2:Int))),.agg [iN n5,iN n6]])) ∧ (decide (n3 < n4) = false → Q (iN n3) [[iN n5,iN n6]])
theorem s177a (n:Int) (f0:TEncl) (v:AV) (O:List (List AV)) (h:R177a n f0 Sp Fo So (fun r O' => r = v ∧ O' = O)):Sp 177 [iN n,.fn 178 [] [.ref 0 0]] [f0.cs] v O :=
 spec_by (w:=⟨[],[],[178],[],[]⟩) (k:=0) (keep:=⟨[0,1,4,5,6,7,11,21],[⟨2,[(5,iN 0),(6,iN 0)],[],[(1000000,.agg [iN 0,iN 0])],[],[],[]⟩],[],[]⟩) (boxes:=[⟨23,false,f0.cs⟩]) mixed (by exact trivial) Tryz.func177 Tryz.call177 rfl rfl rfl (Nat.le_of_ble_eq_true rfl) (by kernel_rfl) h
theorem c177a (n:Nat) (hn:n ≤ 1000000000) (x:TEncl):Sp 177 [.int .i64 n,.fn 178 [] [.ref 0 0]] [x.cs] (.int .i64 (searchF (lowF x) n 0 n:Nat)) [x.cs]:=s177a n x _ _ (by
 unfold R177a
 refine ⟨fun m vs => ∃ i j:Nat,i ≤ j ∧ j ≤ n ∧ j - i ≤ m ∧ vs = [.int .i64 i,.int .i64 j,x.av] ∧ searchF (lowF x) m i j = searchF (lowF x) n 0 n,⟨n,0,n,by omega,by omega,by omega,rfl,rfl⟩,?_⟩
 rintro m n3 n4 n5 n6 ⟨i,j,h1,h2,h3,hv,hs⟩
 have hv':=hv
 unfold TEncl.av TEncl.cs at hv'
 simp only [List.cons.injEq,AV.int.injEq,true_and,AV.agg.injEq,and_true] at hv'
 obtain ⟨rfl,rfl,rfl,rfl⟩:=hv'
 refine ⟨fun g => ?_,fun g => ?_⟩
 ·have hij:i < j:=by simpa using g
  obtain ⟨k,rfl⟩:∃ k,m = k + 1:=⟨m - 1,by omega⟩
  rw [searchF_s,if_pos hij] at hs
  rw [mid (by omega)]
  refine ⟨_,c178 ((i + j) / 2) (by omega) x,fun g2 => ⟨k,by omega,(i + j) / 2 + 1,j,by omega,by omega,by omega,?_,?_⟩,fun g2 => ⟨k,by omega,i,(i + j) / 2,by omega,by omega,by omega,rfl,?_⟩⟩
  ·rw [wrapN (by omega)]; rfl
  ·have g2:lowF x ((i + j) / 2) = false:=by simpa using g2
   rw [if_neg (by rw [g2]; simp)] at hs; exact hs
  ·have g2:lowF x ((i + j) / 2) = true:=by simpa using g2
   rw [if_pos g2] at hs; exact hs
 ·have hij:¬ i < j:=by simpa using g
  rw [searchF_end _ _ _ _ hij] at hs
  rw [← hs]
  exact ⟨rfl,rfl⟩)
def R177b (n:Int) (f0:TEncl) (S:SpecF) (_Fr:FreshF) (_Sq:SeqF) (Q:PostF):Prop :=
 ∃ (I0:Nat → List AV → Prop),(∃ m2,I0 m2 [iN 0,iN n,f0.av]) ∧ ∀ (m2:Nat) (n3 n4 n5 n6:Int),I0 m2 [iN n3,iN n4,.agg [iN n5,iN n6]] → (decide (n3 < n4) = true → ∃ b10,S 180 [iN (IntKind.i64.wrap ((IntKind.u64.wrap (IntKind.i64.wrap (n3 + n4))).fdiv (2:Int))),.ref 0 0] [[iN n5,iN n6]] (.bool b10) [[iN n5,iN n6]] ∧ ((!b10) = true → ∃ k14,k14 < m2 ∧ I0 k14 [iN (IntKind.i64.wrap (IntKind.i64.wrap ((IntKind.u64.wrap (IntKind.i64.wrap (n3 + n4))).fdiv (2:Int)) + 1)),iN n4,.agg [iN n5,iN n6]]) ∧ ((!b10) = false → ∃ k14,k14 < m2 ∧ I0 k14 [iN n3,iN (IntKind.i64.wrap ((IntKind.u64.wrap (IntKind.i64.wrap (n3 + n4))).fdiv (2:Int))),.agg [iN n5,iN n6]])) ∧ (decide (n3 < n4) = false → Q (iN n3) [[iN n5,iN n6]])
theorem s177b (n:Int) (f0:TEncl) (v:AV) (O:List (List AV)) (h:R177b n f0 Sp Fo So (fun r O' => r = v ∧ O' = O)):Sp 177 [iN n,.fn 180 [] [.ref 0 0]] [f0.cs] v O :=
 spec_by (w:=⟨[],[],[180],[],[]⟩) (k:=0) (keep:=⟨[0,1,4,5,6,7,11,21],[⟨2,[(5,iN 0),(6,iN 0)],[],[(1000000,.agg [iN 0,iN 0])],[],[],[]⟩],[],[]⟩) (boxes:=[⟨23,false,f0.cs⟩]) mixed (by exact trivial) Tryz.func177 Tryz.call177 rfl rfl rfl (Nat.le_of_ble_eq_true rfl) (by kernel_rfl) h
theorem c177b (n:Nat) (hn:n ≤ 1000000000) (x:TEncl):Sp 177 [.int .i64 n,.fn 180 [] [.ref 0 0]] [x.cs] (.int .i64 (searchF (highF x) n 0 n:Nat)) [x.cs]:=s177b n x _ _ (by
 unfold R177b
 refine ⟨fun m vs => ∃ i j:Nat,i ≤ j ∧ j ≤ n ∧ j - i ≤ m ∧ vs = [.int .i64 i,.int .i64 j,x.av] ∧ searchF (highF x) m i j = searchF (highF x) n 0 n,⟨n,0,n,by omega,by omega,by omega,rfl,rfl⟩,?_⟩
 rintro m n3 n4 n5 n6 ⟨i,j,h1,h2,h3,hv,hs⟩
 have hv':=hv
 unfold TEncl.av TEncl.cs at hv'
 simp only [List.cons.injEq,AV.int.injEq,true_and,AV.agg.injEq,and_true] at hv'
 obtain ⟨rfl,rfl,rfl,rfl⟩:=hv'
 refine ⟨fun g => ?_,fun g => ?_⟩
 ·have hij:i < j:=by simpa using g
  obtain ⟨k,rfl⟩:∃ k,m = k + 1:=⟨m - 1,by omega⟩
  rw [searchF_s,if_pos hij] at hs
  rw [mid (by omega)]
  refine ⟨_,c180 ((i + j) / 2) (by omega) x,fun g2 => ⟨k,by omega,(i + j) / 2 + 1,j,by omega,by omega,by omega,?_,?_⟩,fun g2 => ⟨k,by omega,i,(i + j) / 2,by omega,by omega,by omega,rfl,?_⟩⟩
  ·rw [wrapN (by omega)]; rfl
  ·have g2:highF x ((i + j) / 2) = false:=by simpa using g2
   rw [if_neg (by rw [g2]; simp)] at hs; exact hs
  ·have g2:highF x ((i + j) / 2) = true:=by simpa using g2
   rw [if_pos g2] at hs; exact hs
 ·have hij:¬ i < j:=by simpa using g
  rw [searchF_end _ _ _ _ hij] at hs
  rw [← hs]
  exact ⟨rfl,rfl⟩)
def arccosE (x:TEncl):TEncl:=⟨(searchF (lowF x) 180000001 0 180000001:Nat) - 1,(searchF (highF x) 180000000 0 180000000:Nat)⟩
def arccosR (x:TEncl):TEncl × Int:=if wildB x 100000000 then (⟨0,0⟩,7) else (arccosE x,0)
def R157 (x:TEncl) (S:SpecF) (_Fr:FreshF) (_Sq:SeqF) (Q:PostF):Prop :=
 ∃ b0,S 173 [x.av,iN 100000000] [] (.bool b0) [] ∧ (b0 = true → Q (.tup [TEncl.zero.av,iN 7]) []) ∧ (b0 = false → ∃ n4,S 177 [iN 180000001,AV.fn (178:Nat) [] [AV.ref 0 0]] [x.cs] (iN n4) [x.cs] ∧ ∃ n6,S 177 [iN 180000000,AV.fn (180:Nat) [] [AV.ref 0 0]] [x.cs] (iN n6) [x.cs] ∧ Q (.tup [AV.agg [iN (IntKind.i64.wrap (n4 - 1)),iN n6],iN 0]) [])
theorem s157 (x:TEncl) (v:AV) (O:List (List AV)) (h:R157 x Sp Fo So (fun r O' => r = v ∧ O' = O)):Sp 157 [x.av] [] v O :=
 spec_by (w:=⟨[],[],[177],[],[]⟩) (k:=0) (keep:=⟨[0,1,2,3,4,5,7],[],[],[]⟩) (boxes:=[]) mixed (by exact trivial) Tryz.func157 Tryz.call157 rfl rfl rfl (Nat.le_of_ble_eq_true rfl) (by kernel_rfl) h
theorem c157 (x:TEncl):Sp 157 [x.av] [] (.tup [(arccosR x).1.av,.int .i64 (arccosR x).2]) []:=s157 x _ _ (by
 unfold R157
 have k1:=c177a 180000001 (by omega) x
 have k2:=c177b 180000000 (by omega) x
 have b1:=searchF_le (lowF x) 180000001 0 180000001 (by omega)
 unfold arccosR arccosE
 generalize searchF (lowF x) 180000001 0 180000001 = p at *
 generalize searchF (highF x) 180000000 0 180000000 = q at *
 refine ⟨_,c173 x 100000000,fun h => ⟨by rw [if_pos h]; rfl,by trivial⟩,fun h => ⟨_,k1,_,k2,?_,by trivial⟩⟩
 rw [if_neg (by rw [h]; simp),i64 (by omega)]; rfl)
def arcsinR (x:TEncl):TEncl × Int:=if (arccosR x).2 ≠ 0 then (⟨0,0⟩,(arccosR x).2) else (⟨IntKind.i64.wrap (90000000 - (arccosR x).1.Hi),IntKind.i64.wrap (90000000 - (arccosR x).1.Lo)⟩,0)
def R170 (x:TEncl) (S:SpecF) (_Fr:FreshF) (_Sq:SeqF) (Q:PostF):Prop :=
 ∃ n0 n1 n2,S 157 [x.av] [] (.tup [AV.agg [iN n0,iN n1],iN n2]) [] ∧ ((n2 != 0) = true → Q (.tup [TEncl.zero.av,iN n2]) []) ∧ ((n2 != 0) = false → Q (.tup [AV.agg [iN (IntKind.i64.wrap ((90000000:Int) - n1)),iN (IntKind.i64.wrap ((90000000:Int) - n0))],iN 0]) [])
theorem s170 (x:TEncl) (v:AV) (O:List (List AV)) (h:R170 x Sp Fo So (fun r O' => r = v ∧ O' = O)):Sp 170 [x.av] [] v O :=
 spec_by (w:=⟨[],[],[],[],[]⟩) (k:=0) (keep:=⟨[0,1,2,3,4,5,12],[],[],[]⟩) (boxes:=[]) mixed (by exact trivial) Tryz.func170 Tryz.call170 rfl rfl rfl (Nat.le_of_ble_eq_true rfl) (by kernel_rfl) h
theorem c170 (x:TEncl):Sp 170 [x.av] [] (.tup [(arcsinR x).1.av,.int .i64 (arcsinR x).2]) []:=s170 x _ _ (by
 unfold R170 arcsinR
 refine ⟨_,_,_,c157 x,fun h => ⟨?_,by trivial⟩,fun h => ⟨?_,by trivial⟩⟩
 ·have h:(arccosR x).2 ≠ 0:=by simpa using h
  rw [if_pos h]; rfl
 ·have h:(arccosR x).2 = 0:=by simpa using h
  rw [if_neg (by simp [h])]; rfl)
end Go.Proofs.YtdeeekgohhkdbaaGreatDoor
