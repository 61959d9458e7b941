/- Contracts: products and quotients of enclosures, the inverse of the cosine. Contracts: the inverse of the cosine. -/
import Derived.Test.YtblebiafhhhflaaGreatEa
namespace Go.Proofs.YtblebiafhhhflaaGreat
open Go.RowKit
theorem i64m (n:Int):IntKind.i64.wrap n = if n % 18446744073709551616 ≥ 9223372036854775808 then n % 18446744073709551616 - 18446744073709551616 else n % 18446744073709551616:=by
 show (if _ = true then _ else _) = _
 have e1:(2:Int) ^ IntKind.i64.bits = 18446744073709551616:=rfl
 have e2:(2:Int) ^ (IntKind.i64.bits - 1) = 9223372036854775808:=rfl
 simp only [e1,e2,IntKind.signed,Bool.true_and,decide_eq_true_eq]
theorem comp (n:Int) (h:-9223372036854775808 ≤ n ∧ n < 9223372036854775808):IntKind.i64.wrap ((BitVec.ofInt 64 (-1) ^^^ BitVec.ofInt 64 n).toNat:Int) = -n - 1:=by
 rw [show BitVec.ofInt 64 (-1) = BitVec.allOnes 64 by rfl,BitVec.allOnes_xor,BitVec.toNat_not,BitVec.toNat_ofInt]
 have e:(2:Nat) ^ 64 = 18446744073709551616:=rfl
 rw [e,i64m]
 omega
def R165 (n:Int) (d:Int) (_S:SpecF) (_Fr:FreshF) (_Sq:SeqF) (Q:AV → List (List AV) → Prop):Prop :=
 (decide (n < 0) = true → d ≠ 0 ∧ Q (.int .i64 (IntKind.i64.wrap (↑(BitVec.ofInt (64:Nat) (-1:Int) ^^^ BitVec.ofInt (64:Nat) (IntKind.i64.wrap ((IntKind.i64.wrap (↑(BitVec.ofInt (64:Nat) (-1:Int) ^^^ BitVec.ofInt (64:Nat) n).toNat:Int)).tdiv d))).toNat:Int))) []) ∧ (decide (n < 0) = false → d ≠ 0 ∧ Q (.int .i64 (IntKind.i64.wrap (n.tdiv d))) [])
theorem r165 (n:Int) (d:Int) (S:SpecF) (Fr:FreshF) (Sq:SeqF) (Q:AV → List (List AV) → Prop):awpF Tryz.prog (mkS Tryz.prog S Fr Sq ⟨[],[],[],[],[]⟩ 0) 0 ⟨[0,1,4,6],[],[],[]⟩ Tryz.f165 [.int .i64 n,.int .i64 d] [] Q = R165 n d S Fr Sq Q:=by kernel_rfl
theorem s165 (n:Int) (d:Int) (v:AV) (O:List (List AV)) (h:R165 n d (SpecOf Tryz.prog) (FreshOf Tryz.prog) (SeqOf Tryz.prog) (fun r O' => r = v ∧ O' = O)):SpecOf Tryz.prog 165 [.int .i64 n,.int .i64 d] [] v O :=
 spec_by (boxes:=[]) mixed (by exact trivial) Tryz.func165 Tryz.call165 rfl rfl rfl (Nat.le_of_ble_eq_true rfl) (r165 n d (SpecOf Tryz.prog) (FreshOf Tryz.prog) (SeqOf Tryz.prog) _) h
theorem c165 (n d:Int) (h:-9223372036854775808 < n ∧ n < 9223372036854775808) (hd:0 < d):Sp 165 [.int .i64 n,.int .i64 d] [] (.int .i64 (n / d)) []:=s165 n d _ _ (by
 unfold R165
 refine ⟨fun g => ⟨by omega,?_,rfl⟩,fun g => ⟨by omega,?_,rfl⟩⟩
 ·have g:n < 0:=of_decide_eq_true g
  rw [comp n (by omega)]
  have h1:0 ≤ (-n - 1).tdiv d:=Int.tdiv_nonneg (by omega) (by omega)
  have h2:(-n - 1).tdiv d ≤ -n - 1:=by
   rw [Int.tdiv_eq_ediv_of_nonneg (by omega)]
   exact Int.ediv_le_self _ (by omega)
  rw [i64 (n:=(-n - 1).tdiv d) (by omega),comp _ (by omega),Int.tdiv_eq_ediv_of_nonneg (by omega)]
  have h3:=Int.mul_ediv_add_emod (-n - 1) d
  have h4:=Int.emod_nonneg (-n - 1) (by omega:d ≠ 0)
  have h5:=Int.emod_lt_of_pos (-n - 1) hd
  have h6:n / d = -((-n - 1) / d) - 1:=by
   rw [Int.ediv_eq_iff_of_pos hd,Int.sub_mul,Int.neg_mul,Int.one_mul,Int.mul_comm ((-n - 1) / d)]
   omega
  rw [h6]
 ·have g:0 ≤ n:=by have:=of_decide_eq_false g; omega
  rw [Int.tdiv_eq_ediv_of_nonneg g]
  have h1:0 ≤ n / d:=Int.ediv_nonneg g (by omega)
  have h2:n / d ≤ n:=Int.ediv_le_self _ g
  rw [i64 (by omega)])
def noWild (x:TEncl):Prop:=-3000000000 ≤ x.Lo ∧ x.Lo ≤ x.Hi ∧ x.Hi ≤ 3000000000
theorem wild_not {x:TEncl} (h:wildB x 3000000000 = false):noWild x:=by
 unfold wildB at h
 rw [show IntKind.i64.wrap (0 - 3000000000) = -3000000000 by rfl] at h
 simp only [Bool.or_eq_false_iff,decide_eq_false_iff_not] at h
 unfold noWild; omega
theorem mul_in {a b:Int} (ha:-3000000000 ≤ a ∧ a ≤ 3000000000) (hb:-3000000000 ≤ b ∧ b ≤ 3000000000):-9000000000000000000 ≤ a * b ∧ a * b ≤ 9000000000000000000:=by
 have h1:a.natAbs * b.natAbs ≤ 3000000000 * 3000000000:=Nat.mul_le_mul (by omega) (by omega)
 rw [← Int.natAbs_mul] at h1
 omega
theorem ediv_in {n d:Int} (hd:0 < d) (h:-9000000000000000000 ≤ n ∧ n ≤ 9000000000000000000):-9000000000000000000 ≤ n / d ∧ n / d ≤ 9000000000000000000:=by
 constructor
 ·rw [Int.le_ediv_iff_mul_le hd]
  have:(9000000000000000000:Int) * 1 ≤ 9000000000000000000 * d:=Int.mul_le_mul_of_nonneg_left (by omega) (by omega)
  omega
 ·have h1:n / d ≤ 9000000000000000000 / d:=Int.ediv_le_ediv hd h.2
  have h2:(9000000000000000000:Int) / d ≤ 9000000000000000000:=Int.ediv_le_self _ (by omega)
  omega
def fracE (n d:Int):TEncl:=if d = 0 then ⟨0,0⟩ else if d < 0 then ⟨(-n) / (-d),-(n / (-d))⟩ else ⟨n / d,-((-n) / d)⟩
def R163 (a:Int) (b:Int) (_S:SpecF) (_Fr:FreshF) (_Sq:SeqF) (Q:AV → List (List AV) → Prop):Prop :=
 Q (.tup [AV.int .i64 (IntKind.i64.wrap (a * b)),.int .i64 100000000]) []
theorem r163 (a:Int) (b:Int) (S:SpecF) (Fr:FreshF) (Sq:SeqF) (Q:AV → List (List AV) → Prop):awpF Tryz.prog (mkS Tryz.prog S Fr Sq ⟨[],[],[],[],[]⟩ 0) 0 ⟨[0,1,4,5],[],[],[]⟩ Tryz.f163 [.int .i64 a,.int .i64 b] [] Q = R163 a b S Fr Sq Q:=by kernel_rfl
theorem s163 (a:Int) (b:Int) (v:AV) (O:List (List AV)) (h:R163 a b (SpecOf Tryz.prog) (FreshOf Tryz.prog) (SeqOf Tryz.prog) (fun r O' => r = v ∧ O' = O)):SpecOf Tryz.prog 163 [.int .i64 a,.int .i64 b] [] v O :=
 spec_by (boxes:=[]) mixed (by exact trivial) Tryz.func163 Tryz.call163 rfl rfl rfl (Nat.le_of_ble_eq_true rfl) (r163 a b (SpecOf Tryz.prog) (FreshOf Tryz.prog) (SeqOf Tryz.prog) _) h
theorem c163 (a b:Int) (ha:-3000000000 ≤ a ∧ a ≤ 3000000000) (hb:-3000000000 ≤ b ∧ b ≤ 3000000000):Sp 163 [.int .i64 a,.int .i64 b] [] (.tup [.int .i64 (a * b),.int .i64 100000000]) []:=s163 a b _ _ ⟨by have:=mul_in ha hb; rw [i64 (by omega)],rfl⟩
def R141 (a:Int) (b:Int) (_S:SpecF) (_Fr:FreshF) (_Sq:SeqF) (Q:AV → List (List AV) → Prop):Prop :=
 Q (.tup [AV.int .i64 (IntKind.i64.wrap (a * 100000000)),.int .i64 b]) []
theorem r141 (a:Int) (b:Int) (S:SpecF) (Fr:FreshF) (Sq:SeqF) (Q:AV → List (List AV) → Prop):awpF Tryz.prog (mkS Tryz.prog S Fr Sq ⟨[],[],[],[],[]⟩ 0) 0 ⟨[0,1,4,5],[],[],[]⟩ Tryz.f141 [.int .i64 a,.int .i64 b] [] Q = R141 a b S Fr Sq Q:=by kernel_rfl
theorem s141 (a:Int) (b:Int) (v:AV) (O:List (List AV)) (h:R141 a b (SpecOf Tryz.prog) (FreshOf Tryz.prog) (SeqOf Tryz.prog) (fun r O' => r = v ∧ O' = O)):SpecOf Tryz.prog 141 [.int .i64 a,.int .i64 b] [] v O :=
 spec_by (boxes:=[]) mixed (by exact trivial) Tryz.func141 Tryz.call141 rfl rfl rfl (Nat.le_of_ble_eq_true rfl) (r141 a b (SpecOf Tryz.prog) (FreshOf Tryz.prog) (SeqOf Tryz.prog) _) h
theorem c141 (a b:Int) (ha:-3000000000 ≤ a ∧ a ≤ 3000000000):Sp 141 [.int .i64 a,.int .i64 b] [] (.tup [.int .i64 (a * 100000000),.int .i64 b]) []:=s141 a b _ _ ⟨by rw [i64 (by omega)],rfl⟩
def R164a (a:Int) (b:Int) (S:SpecF) (_Fr:FreshF) (_Sq:SeqF) (Q:AV → List (List AV) → Prop):Prop :=
 ∃ n0 n1,S 163 [AV.int .i64 a,.int .i64 b] [] (.tup [AV.int .i64 n0,.int .i64 n1]) [] ∧ ((n1 == 0) = true → Q (TEncl.zero.av) [[AV.fn (163:FuncId) [] []]]) ∧ ((n1 == 0) = false → (decide (n1 < 0) = true → ∃ n7,S 165 [AV.int .i64 (IntKind.i64.wrap ((0:Int) - n0)),.int .i64 (IntKind.i64.wrap ((0:Int) - n1))] [] (.int .i64 n7) [] ∧ ∃ n9,S 165 [AV.int .i64 (IntKind.i64.wrap ((0:Int) - IntKind.i64.wrap ((0:Int) - n0))),.int .i64 (IntKind.i64.wrap ((0:Int) - n1))] [] (.int .i64 n9) [] ∧ Q (.agg [AV.int .i64 n7,.int .i64 (IntKind.i64.wrap ((0:Int) - n9))]) [[AV.fn (163:FuncId) [] []]]) ∧ (decide (n1 < 0) = false → ∃ n7,S 165 [AV.int .i64 n0,.int .i64 n1] [] (.int .i64 n7) [] ∧ ∃ n9,S 165 [AV.int .i64 (IntKind.i64.wrap ((0:Int) - n0)),.int .i64 n1] [] (.int .i64 n9) [] ∧ Q (.agg [AV.int .i64 n7,.int .i64 (IntKind.i64.wrap ((0:Int) - n9))]) [[AV.fn (163:FuncId) [] []]]))
theorem r164a (a:Int) (b:Int) (S:SpecF) (Fr:FreshF) (Sq:SeqF) (Q:AV → List (List AV) → Prop):awpF Tryz.prog (mkS Tryz.prog S Fr Sq ⟨[],[],[],[],[]⟩ 0) 1 ⟨[0,1,2,5,6,7,16,19],[],[],[]⟩ Tryz.f164 [.int .i64 a,.int .i64 b,.ref 0 0] [⟨234,false,[.fn 163 [] []]⟩] Q = R164a a b S Fr Sq Q:=by kernel_rfl
theorem s164a (a:Int) (b:Int) (v:AV) (O:List (List AV)) (h:R164a a b (SpecOf Tryz.prog) (FreshOf Tryz.prog) (SeqOf Tryz.prog) (fun r O' => r = v ∧ O' = O)):SpecOf Tryz.prog 164 [.int .i64 a,.int .i64 b,.ref 0 0] [[.fn 163 [] []]] v O :=
 spec_by (boxes:=[⟨234,false,[.fn 163 [] []]⟩]) mixed (by exact trivial) Tryz.func164 Tryz.call164 rfl rfl rfl (Nat.le_of_ble_eq_true rfl) (r164a a b (SpecOf Tryz.prog) (FreshOf Tryz.prog) (SeqOf Tryz.prog) _) h
theorem c164a (a b:Int) (ha:-3000000000 ≤ a ∧ a ≤ 3000000000) (hb:-3000000000 ≤ b ∧ b ≤ 3000000000):Sp 164 [.int .i64 a,.int .i64 b,.ref 0 0] [[.fn 163 [] []]] (fracE (a * b) 100000000).av [[.fn 163 [] []]]:=s164a a b _ _ (by
 unfold R164a
 have hm:=mul_in ha hb
 have h1:=ediv_in (d:=100000000) (n:=-(a * b)) (by omega) (by omega)
 refine ⟨_,_,c163 a b ha hb,fun h => (by simp at h),fun _ => ⟨fun h => (by simp at h),fun _ => ⟨_,c165 _ _ (by omega) (by omega),_,by rw [i64 (n:=0 - a * b) (by omega)]; exact c165 _ _ (by omega) (by omega),?_,rfl⟩⟩⟩
 rw [Int.zero_sub,i64 (by omega)]
 unfold fracE
 rw [if_neg (by omega),if_neg (by omega),Int.zero_sub]; rfl)
def R164b (a:Int) (b:Int) (S:SpecF) (_Fr:FreshF) (_Sq:SeqF) (Q:AV → List (List AV) → Prop):Prop :=
 ∃ n0 n1,S 141 [AV.int .i64 a,.int .i64 b] [] (.tup [AV.int .i64 n0,.int .i64 n1]) [] ∧ ((n1 == 0) = true → Q (TEncl.zero.av) [[AV.fn (141:FuncId) [] []]]) ∧ ((n1 == 0) = false → (decide (n1 < 0) = true → ∃ n7,S 165 [AV.int .i64 (IntKind.i64.wrap ((0:Int) - n0)),.int .i64 (IntKind.i64.wrap ((0:Int) - n1))] [] (.int .i64 n7) [] ∧ ∃ n9,S 165 [AV.int .i64 (IntKind.i64.wrap ((0:Int) - IntKind.i64.wrap ((0:Int) - n0))),.int .i64 (IntKind.i64.wrap ((0:Int) - n1))] [] (.int .i64 n9) [] ∧ Q (.agg [AV.int .i64 n7,.int .i64 (IntKind.i64.wrap ((0:Int) - n9))]) [[AV.fn (141:FuncId) [] []]]) ∧ (decide (n1 < 0) = false → ∃ n7,S 165 [AV.int .i64 n0,.int .i64 n1] [] (.int .i64 n7) [] ∧ ∃ n9,S 165 [AV.int .i64 (IntKind.i64.wrap ((0:Int) - n0)),.int .i64 n1] [] (.int .i64 n9) [] ∧ Q (.agg [AV.int .i64 n7,.int .i64 (IntKind.i64.wrap ((0:Int) - n9))]) [[AV.fn (141:FuncId) [] []]]))
theorem r164b (a:Int) (b:Int) (S:SpecF) (Fr:FreshF) (Sq:SeqF) (Q:AV → List (List AV) → Prop):awpF Tryz.prog (mkS Tryz.prog S Fr Sq ⟨[],[],[],[],[]⟩ 0) 1 ⟨[0,1,2,5,6,7,16,19],[],[],[]⟩ Tryz.f164 [.int .i64 a,.int .i64 b,.ref 0 0] [⟨234,false,[.fn 141 [] []]⟩] Q = R164b a b S Fr Sq Q:=by kernel_rfl
theorem s164b (a:Int) (b:Int) (v:AV) (O:List (List AV)) (h:R164b a b (SpecOf Tryz.prog) (FreshOf Tryz.prog) (SeqOf Tryz.prog) (fun r O' => r = v ∧ O' = O)):SpecOf Tryz.prog 164 [.int .i64 a,.int .i64 b,.ref 0 0] [[.fn 141 [] []]] v O :=
 spec_by (boxes:=[⟨234,false,[.fn 141 [] []]⟩]) mixed (by exact trivial) Tryz.func164 Tryz.call164 rfl rfl rfl (Nat.le_of_ble_eq_true rfl) (r164b a b (SpecOf Tryz.prog) (FreshOf Tryz.prog) (SeqOf Tryz.prog) _) h
theorem c164b (a b:Int) (ha:-3000000000 ≤ a ∧ a ≤ 3000000000) (hb:-3000000000 ≤ b ∧ b ≤ 3000000000):Sp 164 [.int .i64 a,.int .i64 b,.ref 0 0] [[.fn 141 [] []]] (fracE (a * 100000000) b).av [[.fn 141 [] []]]:=s164b a b _ _ (by
 unfold R164b
 refine ⟨_,_,c141 a b ha,fun h => ⟨?_,rfl⟩,fun h => ?_⟩
 ·have h:b = 0:=by simpa using h
  subst h; rfl
 have hb0:b ≠ 0:=by simpa using h
 refine ⟨fun g => ?_,fun g => ?_⟩
 ·have g:b < 0:=of_decide_eq_true g
  have h1:=ediv_in (d:=-b) (n:=a * 100000000) (by omega) (by omega)
  refine ⟨_,by rw [i64 (n:=0 - a * 100000000) (by omega),i64 (n:=0 - b) (by omega)]; exact c165 _ _ (by omega) (by omega),_,by rw [i64 (n:=0 - a * 100000000) (by omega),i64 (n:=0 - (0 - a * 100000000)) (by omega),i64 (n:=0 - b) (by omega)]; exact c165 _ _ (by omega) (by omega),?_,rfl⟩
  rw [show (0:Int) - (0 - a * 100000000) = a * 100000000 by omega,Int.zero_sub,Int.zero_sub,Int.zero_sub,i64 (by omega)]
  unfold fracE
  rw [if_neg hb0,if_pos g]; rfl
 ·have g:0 < b:=by have:=of_decide_eq_false g; omega
  have h1:=ediv_in (d:=b) (n:=-(a * 100000000)) (by omega) (by omega)
  refine ⟨_,c165 _ _ (by omega) (by omega),_,by rw [i64 (n:=0 - a * 100000000) (by omega)]; exact c165 _ _ (by omega) (by omega),?_,rfl⟩
  rw [Int.zero_sub,Int.zero_sub,i64 (by omega)]
  unfold fracE
  rw [if_neg hb0,if_neg (by omega)]; rfl)
def hull4 (f:Int → Int → TEncl) (x y:TEncl):TEncl:=[f x.Lo y.Hi,f x.Hi y.Lo,f x.Hi y.Hi].foldl hullE (f x.Lo y.Lo)
def arithR (f:Int → Int → TEncl) (x y:TEncl):TEncl × Int :=
 if wildB x 3000000000 then (⟨0,0⟩,7) else if wildB y 3000000000 then (⟨0,0⟩,7) else if wildB (hull4 f x y) 3000000000 then (⟨0,0⟩,7) else (hull4 f x y,0)
def timesR (x y:TEncl):TEncl × Int:=arithR (fun a b => fracE (a * b) 100000000) x y
def overR (x y:TEncl):TEncl × Int:=if (!wildB x 3000000000 && !wildB y 3000000000) && (decide (y.Lo ≤ 0) && decide (y.Hi ≥ 0)) then (⟨0,0⟩,8) else arithR (fun a b => fracE (a * 100000000) b) x y
def R138 (x:TEncl) (y:TEncl) (S:SpecF) (_Fr:FreshF) (_Sq:SeqF) (Q:AV → List (List AV) → Prop):Prop :=
 ∃ b0,S 139 [x.av,.int .i64 3000000000] [] (.bool b0) [] ∧ (b0 = true → Q (.tup [TEncl.zero.av,.int .i64 7]) []) ∧ (b0 = false → ∃ b4,S 139 [y.av,.int .i64 3000000000] [] (.bool b4) [] ∧ (b4 = true → Q (.tup [TEncl.zero.av,.int .i64 7]) []) ∧ (b4 = false → ∃ n8 n9,S 164 [AV.int .i64 x.Lo,.int .i64 y.Lo,.ref 0 0] [[AV.fn (163:Nat) [] []]] (.agg [AV.int .i64 n8,.int .i64 n9]) [[AV.fn (163:Nat) [] []]] ∧ ∃ n11 n12,S 164 [AV.int .i64 x.Lo,.int .i64 y.Hi,.ref 0 0] [[AV.fn (163:Nat) [] []]] (.agg [AV.int .i64 n11,.int .i64 n12]) [[AV.fn (163:Nat) [] []]] ∧ ∃ n14 n15,S 164 [AV.int .i64 x.Hi,.int .i64 y.Lo,.ref 0 0] [[AV.fn (163:Nat) [] []]] (.agg [AV.int .i64 n14,.int .i64 n15]) [[AV.fn (163:Nat) [] []]] ∧ ∃ n17 n18,S 164 [AV.int .i64 x.Hi,.int .i64 y.Hi,.ref 0 0] [[AV.fn (163:Nat) [] []]] (.agg [AV.int .i64 n17,.int .i64 n18]) [[AV.fn (163:Nat) [] []]] ∧ ∃ n20 n21,S 166 [AV.agg [AV.int .i64 n8,.int .i64 n9],.slc 3 [AV.agg [AV.int .i64 n11,.int .i64 n12],.agg [AV.int .i64 n14,.int .i64 n15],.agg [AV.int .i64 n17,.int .i64 n18]]] [] (.agg [AV.int .i64 n20,.int .i64 n21]) [] ∧ ∃ b23,S 139 [AV.agg [AV.int .i64 n20,.int .i64 n21],.int .i64 3000000000] [] (.bool b23) [] ∧ (b23 = true → Q (.tup [TEncl.zero.av,.int .i64 7]) []) ∧ (b23 = false → Q (.tup [AV.agg [AV.int .i64 n20,.int .i64 n21],.int .i64 0]) [])))
theorem r138 (x:TEncl) (y:TEncl) (S:SpecF) (Fr:FreshF) (Sq:SeqF) (Q:AV → List (List AV) → Prop):awpF Tryz.prog (mkS Tryz.prog S Fr Sq ⟨[],[],[164],[(140,⟨[0,1,2,3,4,5,6,7,8,9,15,45],[],[],[]⟩)],[]⟩ 4) 0 ⟨[0,1,2,3,4,5],[],[],[]⟩ Tryz.f138 [x.av,y.av] [] Q = R138 x y S Fr Sq Q:=by kernel_rfl
theorem s138 (x:TEncl) (y:TEncl) (v:AV) (O:List (List AV)) (h:R138 x y (SpecOf Tryz.prog) (FreshOf Tryz.prog) (SeqOf Tryz.prog) (fun r O' => r = v ∧ O' = O)):SpecOf Tryz.prog 138 [x.av,y.av] [] v O :=
 spec_by (boxes:=[]) mixed (by exact ⟨Tryz.call140,trivial⟩) Tryz.func138 Tryz.call138 rfl rfl rfl (Nat.le_of_ble_eq_true rfl) (r138 x y (SpecOf Tryz.prog) (FreshOf Tryz.prog) (SeqOf Tryz.prog) _) h
theorem c138 (x y:TEncl):Sp 138 [x.av,y.av] [] (.tup [(timesR x y).1.av,.int .i64 (timesR x y).2]) []:=s138 x y _ _ (by
 unfold R138 timesR arithR
 refine ⟨_,c139 x 3000000000,fun h => ⟨by rw [if_pos h]; rfl,by trivial⟩,fun h => ⟨_,c139 y 3000000000,fun h2 => ⟨by rw [if_neg (by rw [h]; simp),if_pos h2]; rfl,by trivial⟩,fun h2 => ?_⟩⟩
 obtain ⟨x1,x2,x3⟩:=wild_not h
 obtain ⟨y1,y2,y3⟩:=wild_not h2
 rw [if_neg (by rw [h]; simp),if_neg (by rw [h2]; simp)]
 have hj:Sp 166 [(fracE (x.Lo * y.Lo) 100000000).av,.slc 3 [(fracE (x.Lo * y.Hi) 100000000).av,(fracE (x.Hi * y.Lo) 100000000).av,(fracE (x.Hi * y.Hi) 100000000).av]] [] (hull4 (fun a b => fracE (a * b) 100000000) x y).av []:=c166 (fracE (x.Lo * y.Lo) 100000000) [fracE (x.Lo * y.Hi) 100000000,fracE (x.Hi * y.Lo) 100000000,fracE (x.Hi * y.Hi) 100000000] (by simp)
 generalize hull4 (fun a b => fracE (a * b) 100000000) x y = H at hj ⊢
 refine ⟨_,_,c164a _ _ (by omega) (by omega),_,_,c164a _ _ (by omega) (by omega),_,_,c164a _ _ (by omega) (by omega),_,_,c164a _ _ (by omega) (by omega),_,_,hj,_,c139 H 3000000000,fun h3 => ⟨?_,by trivial⟩,fun h3 => ⟨?_,by trivial⟩⟩
 ·rw [if_pos h3]; rfl
 ·rw [if_neg (by rw [h3]; simp)]; rfl)
theorem tailO (x y:TEncl):∃ b0,Sp 139 [x.av,.int .i64 3000000000] [] (.bool b0) [] ∧ (b0 = true → AV.tup [TEncl.zero.av,.int .i64 7] = .tup [(arithR (fun a b => fracE (a * 100000000) b) x y).1.av,.int .i64 (arithR (fun a b => fracE (a * 100000000) b) x y).2] ∧ ([]:List (List AV)) = []) ∧
  (b0 = false → ∃ b4,Sp 139 [y.av,.int .i64 3000000000] [] (.bool b4) [] ∧ (b4 = true → AV.tup [TEncl.zero.av,.int .i64 7] = .tup [(arithR (fun a b => fracE (a * 100000000) b) x y).1.av,.int .i64 (arithR (fun a b => fracE (a * 100000000) b) x y).2] ∧ ([]:List (List AV)) = []) ∧
  (b4 = false → ∃ n8 n9,Sp 164 [.int .i64 x.Lo,.int .i64 y.Lo,.ref 0 0] [[.fn 141 [] []]] (.agg [.int .i64 n8,.int .i64 n9]) [[.fn 141 [] []]] ∧ ∃ n11 n12,Sp 164 [.int .i64 x.Lo,.int .i64 y.Hi,.ref 0 0] [[.fn 141 [] []]] (.agg [.int .i64 n11,.int .i64 n12]) [[.fn 141 [] []]] ∧
   ∃ n14 n15,Sp 164 [.int .i64 x.Hi,.int .i64 y.Lo,.ref 0 0] [[.fn 141 [] []]] (.agg [.int .i64 n14,.int .i64 n15]) [[.fn 141 [] []]] ∧ ∃ n17 n18,Sp 164 [.int .i64 x.Hi,.int .i64 y.Hi,.ref 0 0] [[.fn 141 [] []]] (.agg [.int .i64 n17,.int .i64 n18]) [[.fn 141 [] []]] ∧
   ∃ n20 n21,Sp 166 [.agg [.int .i64 n8,.int .i64 n9],.slc 3 [.agg [.int .i64 n11,.int .i64 n12],.agg [.int .i64 n14,.int .i64 n15],.agg [.int .i64 n17,.int .i64 n18]]] [] (.agg [.int .i64 n20,.int .i64 n21]) [] ∧
   ∃ b23,Sp 139 [.agg [.int .i64 n20,.int .i64 n21],.int .i64 3000000000] [] (.bool b23) [] ∧ (b23 = true → AV.tup [TEncl.zero.av,.int .i64 7] = .tup [(arithR (fun a b => fracE (a * 100000000) b) x y).1.av,.int .i64 (arithR (fun a b => fracE (a * 100000000) b) x y).2] ∧ ([]:List (List AV)) = []) ∧
   (b23 = false → AV.tup [.agg [.int .i64 n20,.int .i64 n21],.int .i64 0] = .tup [(arithR (fun a b => fracE (a * 100000000) b) x y).1.av,.int .i64 (arithR (fun a b => fracE (a * 100000000) b) x y).2] ∧ ([]:List (List AV)) = []))):=by
 unfold arithR
 refine ⟨_,c139 x 3000000000,fun h => ⟨by rw [if_pos h]; rfl,by trivial⟩,fun h => ⟨_,c139 y 3000000000,fun h2 => ⟨by rw [if_neg (by rw [h]; simp),if_pos h2]; rfl,by trivial⟩,fun h2 => ?_⟩⟩
 obtain ⟨x1,x2,x3⟩:=wild_not h
 obtain ⟨y1,y2,y3⟩:=wild_not h2
 rw [if_neg (by rw [h]; simp),if_neg (by rw [h2]; simp)]
 have hj:Sp 166 [(fracE (x.Lo * 100000000) y.Lo).av,.slc 3 [(fracE (x.Lo * 100000000) y.Hi).av,(fracE (x.Hi * 100000000) y.Lo).av,(fracE (x.Hi * 100000000) y.Hi).av]] [] (hull4 (fun a b => fracE (a * 100000000) b) x y).av []:=c166 (fracE (x.Lo * 100000000) y.Lo) [fracE (x.Lo * 100000000) y.Hi,fracE (x.Hi * 100000000) y.Lo,fracE (x.Hi * 100000000) y.Hi] (by simp)
 generalize hull4 (fun a b => fracE (a * 100000000) b) x y = H at hj ⊢
 refine ⟨_,_,c164b _ _ (by omega) (by omega),_,_,c164b _ _ (by omega) (by omega),_,_,c164b _ _ (by omega) (by omega),_,_,c164b _ _ (by omega) (by omega),_,_,hj,_,c139 H 3000000000,fun h3 => ⟨?_,by trivial⟩,fun h3 => ⟨?_,by trivial⟩⟩
 ·rw [if_pos h3]; rfl
 ·rw [if_neg (by rw [h3]; simp)]; rfl
def R107 (x:TEncl) (y:TEncl) (S:SpecF) (_Fr:FreshF) (_Sq:SeqF) (Q:AV → List (List AV) → Prop):Prop :=
 ∃ b0,S 139 [x.av,.int .i64 3000000000] [] (.bool b0) [] ∧ ((!b0) = true → ∃ b4,S 139 [y.av,.int .i64 3000000000] [] (.bool b4) [] ∧ ((!b4) = true → (decide (y.Lo ≤ 0) = true → (decide (y.Hi ≥ 0) = true → Q (.tup [TEncl.zero.av,.int .i64 8]) []) ∧ (decide (y.Hi ≥ 0) = false → ∃ b12,S 139 [x.av,.int .i64 3000000000] [] (.bool b12) [] ∧ (b12 = true → Q (.tup [TEncl.zero.av,.int .i64 7]) []) ∧ (b12 = false → ∃ b16,S 139 [y.av,.int .i64 3000000000] [] (.bool b16) [] ∧ (b16 = true → Q (.tup [TEncl.zero.av,.int .i64 7]) []) ∧ (b16 = false → ∃ n20 n21,S 164 [AV.int .i64 x.Lo,.int .i64 y.Lo,.ref 0 0] [[AV.fn (141:Nat) [] []]] (.agg [AV.int .i64 n20,.int .i64 n21]) [[AV.fn (141:Nat) [] []]] ∧ ∃ n23 n24,S 164 [AV.int .i64 x.Lo,.int .i64 y.Hi,.ref 0 0] [[AV.fn (141:Nat) [] []]] (.agg [AV.int .i64 n23,.int .i64 n24]) [[AV.fn (141:Nat) [] []]] ∧ ∃ n26 n27,S 164 [AV.int .i64 x.Hi,.int .i64 y.Lo,.ref 0 0] [[AV.fn (141:Nat) [] []]] (.agg [AV.int .i64 n26,.int .i64 n27]) [[AV.fn (141:Nat) [] []]] ∧ ∃ n29 n30,S 164 [AV.int .i64 x.Hi,.int .i64 y.Hi,.ref 0 0] [[AV.fn (141:Nat) [] []]] (.agg [AV.int .i64 n29,.int .i64 n30]) [[AV.fn (141:Nat) [] []]] ∧ ∃ n32 n33,S 166 [AV.agg [AV.int .i64 n20,.int .i64 n21],.slc 3 [AV.agg [AV.int .i64 n23,.int .i64 n24],.agg [AV.int .i64 n26,.int .i64 n27],.agg [AV.int .i64 n29,.int .i64 n30]]] [] (.agg [AV.int .i64 n32,.int .i64 n33]) [] ∧ ∃ b35,S 139 [AV.agg [AV.int .i64 n32,.int .i64 n33],.int .i64 3000000000] [] (.bool b35) [] ∧ (b35 = true → Q (.tup [TEncl.zero.av,.int .i64 7]) []) ∧ (b35 = false → Q (.tup [AV.agg [AV.int .i64 n32,.int .i64 n33],.int .i64 0]) []))))) ∧ (decide (y.Lo ≤ 0) = false → ∃ b10,S 139 [x.av,.int .i64 3000000000] [] (.bool b10) [] ∧ (b10 = true → Q (.tup [TEncl.zero.av,.int .i64 7]) []) ∧ (b10 = false → ∃ b14,S 139 [y.av,.int .i64 3000000000] [] (.bool b14) [] ∧ (b14 = true → Q (.tup [TEncl.zero.av,.int .i64 7]) []) ∧ (b14 = false → ∃ n18 n19,S 164 [AV.int .i64 x.Lo,.int .i64 y.Lo,.ref 0 0] [[AV.fn (141:Nat) [] []]] (.agg [AV.int .i64 n18,.int .i64 n19]) [[AV.fn (141:Nat) [] []]] ∧ ∃ n21 n22,S 164 [AV.int .i64 x.Lo,.int .i64 y.Hi,.ref 0 0] [[AV.fn (141:Nat) [] []]] (.agg [AV.int .i64 n21,.int .i64 n22]) [[AV.fn (141:Nat) [] []]] ∧ ∃ n24 n25,S 164 [AV.int .i64 x.Hi,.int .i64 y.Lo,.ref 0 0] [[AV.fn (141:Nat) [] []]] (.agg [AV.int .i64 n24,.int .i64 n25]) [[AV.fn (141:Nat) [] []]] ∧ ∃ n27 n28,S 164 [AV.int .i64 x.Hi,.int .i64 y.Hi,.ref 0 0] [[AV.fn (141:Nat) [] []]] (.agg [AV.int .i64 n27,.int .i64 n28]) [[AV.fn (141:Nat) [] []]] ∧ ∃ n30 n31,S 166 [AV.agg [AV.int .i64 n18,.int .i64 n19],.slc 3 [AV.agg [AV.int .i64 n21,.int .i64 n22],.agg [AV.int .i64 n24,.int .i64 n25],.agg [AV.int .i64 n27,.int .i64 n28]]] [] (.agg [AV.int .i64 n30,.int .i64 n31]) [] ∧ ∃ b33,S 139 [AV.agg [AV.int .i64 n30,.int .i64 n31],.int .i64 3000000000] [] (.bool b33) [] ∧ (b33 = true → Q (.tup [TEncl.zero.av,.int .i64 7]) []) ∧ (b33 = false → Q (.tup [AV.agg [AV.int .i64 n30,.int .i64 n31],.int .i64 0]) []))))) ∧ ((!b4) = false → ∃ b8,S 139 [x.av,.int .i64 3000000000] [] (.bool b8) [] ∧ (b8 = true → Q (.tup [TEncl.zero.av,.int .i64 7]) []) ∧ (b8 = false → ∃ b12,S 139 [y.av,.int .i64 3000000000] [] (.bool b12) [] ∧ (b12 = true → Q (.tup [TEncl.zero.av,.int .i64 7]) []) ∧ (b12 = false → ∃ n16 n17,S 164 [AV.int .i64 x.Lo,.int .i64 y.Lo,.ref 0 0] [[AV.fn (141:Nat) [] []]] (.agg [AV.int .i64 n16,.int .i64 n17]) [[AV.fn (141:Nat) [] []]] ∧ ∃ n19 n20,S 164 [AV.int .i64 x.Lo,.int .i64 y.Hi,.ref 0 0] [[AV.fn (141:Nat) [] []]] (.agg [AV.int .i64 n19,.int .i64 n20]) [[AV.fn (141:Nat) [] []]] ∧ ∃ n22 n23,S 164 [AV.int .i64 x.Hi,.int .i64 y.Lo,.ref 0 0] [[AV.fn (141:Nat) [] []]] (.agg [AV.int .i64 n22,.int .i64 n23]) [[AV.fn (141:Nat) [] []]] ∧ ∃ n25 n26,S 164 [AV.int .i64 x.Hi,.int .i64 y.Hi,.ref 0 0] [[AV.fn (141:Nat) [] []]] (.agg [AV.int .i64 n25,.int .i64 n26]) [[AV.fn (141:Nat) [] []]] ∧ ∃ n28 n29,S 166 [AV.agg [AV.int .i64 n16,.int .i64 n17],.slc 3 [AV.agg [AV.int .i64 n19,.int .i64 n20],.agg [AV.int .i64 n22,.int .i64 n23],.agg [AV.int .i64 n25,.int .i64 n26]]] [] (.agg [AV.int .i64 n28,.int .i64 n29]) [] ∧ ∃ b31,S 139 [AV.agg [AV.int .i64 n28,.int .i64 n29],.int .i64 3000000000] [] (.bool b31) [] ∧ (b31 = true → Q (.tup [TEncl.zero.av,.int .i64 7]) []) ∧ (b31 = false → Q (.tup [AV.agg [AV.int .i64 n28,.int .i64 n29],.int .i64 0]) []))))) ∧ ((!b0) = false → ∃ b4,S 139 [x.av,.int .i64 3000000000] [] (.bool b4) [] ∧ (b4 = true → Q (.tup [TEncl.zero.av,.int .i64 7]) []) ∧ (b4 = false → ∃ b8,S 139 [y.av,.int .i64 3000000000] [] (.bool b8) [] ∧ (b8 = true → Q (.tup [TEncl.zero.av,.int .i64 7]) []) ∧ (b8 = false → ∃ n12 n13,S 164 [AV.int .i64 x.Lo,.int .i64 y.Lo,.ref 0 0] [[AV.fn (141:Nat) [] []]] (.agg [AV.int .i64 n12,.int .i64 n13]) [[AV.fn (141:Nat) [] []]] ∧ ∃ n15 n16,S 164 [AV.int .i64 x.Lo,.int .i64 y.Hi,.ref 0 0] [[AV.fn (141:Nat) [] []]] (.agg [AV.int .i64 n15,.int .i64 n16]) [[AV.fn (141:Nat) [] []]] ∧ ∃ n18 n19,S 164 [AV.int .i64 x.Hi,.int .i64 y.Lo,.ref 0 0] [[AV.fn (141:Nat) [] []]] (.agg [AV.int .i64 n18,.int .i64 n19]) [[AV.fn (141:Nat) [] []]] ∧ ∃ n21 n22,S 164 [AV.int .i64 x.Hi,.int .i64 y.Hi,.ref 0 0] [[AV.fn (141:Nat) [] []]] (.agg [AV.int .i64 n21,.int .i64 n22]) [[AV.fn (141:Nat) [] []]] ∧ ∃ n24 n25,S 166 [AV.agg [AV.int .i64 n12,.int .i64 n13],.slc 3 [AV.agg [AV.int .i64 n15,.int .i64 n16],.agg [AV.int .i64 n18,.int .i64 n19],.agg [AV.int .i64 n21,.int .i64 n22]]] [] (.agg [AV.int .i64 n24,.int .i64 n25]) [] ∧ ∃ b27,S 139 [AV.agg [AV.int .i64 n24,.int .i64 n25],.int .i64 3000000000] [] (.bool b27) [] ∧ (b27 = true → Q (.tup [TEncl.zero.av,.int .i64 7]) []) ∧ (b27 = false → Q (.tup [AV.agg [AV.int .i64 n24,.int .i64 n25],.int .i64 0]) []))))
theorem r107 (x:TEncl) (y:TEncl) (S:SpecF) (Fr:FreshF) (Sq:SeqF) (Q:AV → List (List AV) → Prop):awpF Tryz.prog (mkS Tryz.prog S Fr Sq ⟨[],[],[164],[(140,⟨[0,1,2,3,4,5,6,7,8,9,15,45],[],[],[]⟩)],[]⟩ 4) 0 ⟨[0,1,2,3,4,5,6,25],[],[],[]⟩ Tryz.f107 [x.av,y.av] [] Q = R107 x y S Fr Sq Q:=by kernel_rfl
theorem s107 (x:TEncl) (y:TEncl) (v:AV) (O:List (List AV)) (h:R107 x y (SpecOf Tryz.prog) (FreshOf Tryz.prog) (SeqOf Tryz.prog) (fun r O' => r = v ∧ O' = O)):SpecOf Tryz.prog 107 [x.av,y.av] [] v O :=
 spec_by (boxes:=[]) mixed (by exact ⟨Tryz.call140,trivial⟩) Tryz.func107 Tryz.call107 rfl rfl rfl (Nat.le_of_ble_eq_true rfl) (r107 x y (SpecOf Tryz.prog) (FreshOf Tryz.prog) (SeqOf Tryz.prog) _) h
theorem c107 (x y:TEncl):Sp 107 [x.av,y.av] [] (.tup [(overR x y).1.av,.int .i64 (overR x y).2]) []:=s107 x y _ _ (by
 unfold R107
 have rest:((!wildB x 3000000000 && !wildB y 3000000000) && (decide (y.Lo ≤ 0) && decide (y.Hi ≥ 0))) = false → overR x y = arithR (fun a b => fracE (a * 100000000) b) x y:=fun h1 => by
  unfold overR; rw [h1]; rfl
 refine ⟨_,c139 x 3000000000,fun h => ⟨_,c139 y 3000000000,fun h2 => ⟨fun h3 => ⟨fun h4 => ⟨?_,by trivial⟩,fun h4 => ?_⟩,fun h3 => ?_⟩,fun h2 => ?_⟩,fun h => ?_⟩
 ·unfold overR; rw [h,h2,h3,h4]; rfl
 ·rw [rest (by rw [h,h2,h3,h4]; rfl)]
  exact tailO x y
 ·rw [rest (by rw [h,h2,h3]; rfl)]
  exact tailO x y
 ·rw [rest (by rw [h,h2]; rfl)]
  exact tailO x y
 ·rw [rest (by rw [h]; rfl)]
  exact tailO x y)
end Go.Proofs.YtblebiafhhhflaaGreat
namespace Go.Proofs.YtblebiafhhhflaaGreat
open Go.RowKit
def searchF (f:Nat → Bool):Nat → Nat → Nat → Nat
 | 0,i,_ => i
 | k + 1,i,j => if i < j then (if f ((i + j) / 2) then searchF f k i ((i + j) / 2) else searchF f k ((i + j) / 2 + 1) j) else i
theorem searchF_s (f:Nat → Bool) (k i j:Nat):searchF f (k + 1) i j = if i < j then (if f ((i + j) / 2) then searchF f k i ((i + j) / 2) else searchF f k ((i + j) / 2 + 1) j) else i:=rfl
theorem searchF_le (f:Nat → Bool):∀ (k i j:Nat),i ≤ j → i ≤ searchF f k i j ∧ searchF f k i j ≤ j:=by
 intro k
 induction k with
 | zero => intro i j h; exact ⟨Nat.le_refl _,h⟩
 | succ k ih =>
  intro i j h
  rw [searchF_s]
  split
  ·split
   ·have:=ih i ((i + j) / 2) (by omega); omega
   ·have:=ih ((i + j) / 2 + 1) j (by omega); omega
  ·exact ⟨Nat.le_refl _,h⟩
theorem searchF_end (f:Nat → Bool) (k i j:Nat) (h:¬ i < j):searchF f k i j = i:=by
 cases k with
 | zero => rfl
 | succ k => rw [searchF_s,if_neg h]
def lowF (x:TEncl) (a:Nat):Bool:=decide ((sineE (a + 90000000)).Lo < x.Hi)
def highF (x:TEncl) (a:Nat):Bool:=decide ((sineE (a + 90000000)).Hi ≤ x.Lo)
def R143 (a:Int) (v0:TEncl) (S:SpecF) (_Fr:FreshF) (_Sq:SeqF) (Q:AV → List (List AV) → Prop):Prop :=
 ∃ n0 n1,S 144 [AV.int .i64 (IntKind.i64.wrap (a + 90000000))] [] (.agg [AV.int .i64 n0,.int .i64 n1]) [] ∧ Q (.bool (decide (n0 < v0.Hi))) [v0.cs]
theorem r143 (a:Int) (v0:TEncl) (S:SpecF) (Fr:FreshF) (Sq:SeqF) (Q:AV → List (List AV) → Prop):awpF Tryz.prog (mkS Tryz.prog S Fr Sq ⟨[],[],[],[],[]⟩ 0) 1 ⟨[0,1,3],[],[],[]⟩ Tryz.f143 [.int .i64 a,.ref 0 0] [⟨23,false,v0.cs⟩] Q = R143 a v0 S Fr Sq Q:=by kernel_rfl
theorem s143 (a:Int) (v0:TEncl) (v:AV) (O:List (List AV)) (h:R143 a v0 (SpecOf Tryz.prog) (FreshOf Tryz.prog) (SeqOf Tryz.prog) (fun r O' => r = v ∧ O' = O)):SpecOf Tryz.prog 143 [.int .i64 a,.ref 0 0] [v0.cs] v O :=
 spec_by (boxes:=[⟨23,false,v0.cs⟩]) mixed (by exact trivial) Tryz.func143 Tryz.call143 rfl rfl rfl (Nat.le_of_ble_eq_true rfl) (r143 a v0 (SpecOf Tryz.prog) (FreshOf Tryz.prog) (SeqOf Tryz.prog) _) h
theorem c143 (a:Nat) (ha:a ≤ 1000000000) (x:TEncl):Sp 143 [.int .i64 a,.ref 0 0] [x.cs] (.bool (lowF x a)) [x.cs]:=s143 a x _ _ ⟨_,_,by rw [i64 (by omega)]; exact c144 _,rfl,rfl⟩
def R145 (a:Int) (v0:TEncl) (S:SpecF) (_Fr:FreshF) (_Sq:SeqF) (Q:AV → List (List AV) → Prop):Prop :=
 ∃ n0 n1,S 144 [AV.int .i64 (IntKind.i64.wrap (a + 90000000))] [] (.agg [AV.int .i64 n0,.int .i64 n1]) [] ∧ Q (.bool (decide (n1 ≤ v0.Lo))) [v0.cs]
theorem r145 (a:Int) (v0:TEncl) (S:SpecF) (Fr:FreshF) (Sq:SeqF) (Q:AV → List (List AV) → Prop):awpF Tryz.prog (mkS Tryz.prog S Fr Sq ⟨[],[],[],[],[]⟩ 0) 1 ⟨[0,1,3],[],[],[]⟩ Tryz.f145 [.int .i64 a,.ref 0 0] [⟨23,false,v0.cs⟩] Q = R145 a v0 S Fr Sq Q:=by kernel_rfl
theorem s145 (a:Int) (v0:TEncl) (v:AV) (O:List (List AV)) (h:R145 a v0 (SpecOf Tryz.prog) (FreshOf Tryz.prog) (SeqOf Tryz.prog) (fun r O' => r = v ∧ O' = O)):SpecOf Tryz.prog 145 [.int .i64 a,.ref 0 0] [v0.cs] v O :=
 spec_by (boxes:=[⟨23,false,v0.cs⟩]) mixed (by exact trivial) Tryz.func145 Tryz.call145 rfl rfl rfl (Nat.le_of_ble_eq_true rfl) (r145 a v0 (SpecOf Tryz.prog) (FreshOf Tryz.prog) (SeqOf Tryz.prog) _) h
theorem c145 (a:Nat) (ha:a ≤ 1000000000) (x:TEncl):Sp 145 [.int .i64 a,.ref 0 0] [x.cs] (.bool (highF x a)) [x.cs]:=s145 a x _ _ ⟨_,_,by rw [i64 (by omega)]; exact c144 _,rfl,rfl⟩
theorem mid {i j:Nat} (h:i + j < 9223372036854775808):IntKind.i64.wrap ((IntKind.u64.wrap (IntKind.i64.wrap ((i:Int) + (j:Int)))).fdiv 2) = (((i + j) / 2:Nat):Int):=by
 rw [← Int.natCast_add,i64N h,u64lt (by omega),show (2:Int) = ((2:Nat):Int) by rfl,fdN,i64N (by omega)]
def R49a (n:Int) (f0:TEncl) (S:SpecF) (_Fr:FreshF) (_Sq:SeqF) (Q:AV → List (List AV) → Prop):Prop :=
 ∃ (I0:Nat → List AV → Prop),(∃ m2,I0 m2 [AV.int .i64 0,.int .i64 n,f0.av]) ∧ ∀ (m2:Nat) (n3 n4 n5 n6:Int),I0 m2 [AV.int .i64 n3,.int .i64 n4,.agg [AV.int .i64 n5,.int .i64 n6]] → (decide (n3 < n4) = true → ∃ b10,S 143 [AV.int .i64 (IntKind.i64.wrap ((IntKind.u64.wrap (IntKind.i64.wrap (n3 + n4))).fdiv (2:Int))),.ref 0 0] [[AV.int .i64 n5,.int .i64 n6]] (.bool b10) [[AV.int .i64 n5,.int .i64 n6]] ∧ ((!b10) = true → ∃ k14,k14 < m2 ∧ I0 k14 [AV.int .i64 (IntKind.i64.wrap (IntKind.i64.wrap ((IntKind.u64.wrap (IntKind.i64.wrap (n3 + n4))).fdiv (2:Int)) + 1)),.int .i64 n4,.agg [AV.int .i64 n5,.int .i64 n6]]) ∧ ((!b10) = false → ∃ k14,k14 < m2 ∧ I0 k14 [AV.int .i64 n3,.int .i64 (IntKind.i64.wrap ((IntKind.u64.wrap (IntKind.i64.wrap (n3 + n4))).fdiv (2:Int))),.agg [AV.int .i64 n5,.int .i64 n6]])) ∧ (decide (n3 < n4) = false → Q (.int .i64 n3) [[AV.int .i64 n5,.int .i64 n6]])
theorem r49a (n:Int) (f0:TEncl) (S:SpecF) (Fr:FreshF) (Sq:SeqF) (Q:AV → List (List AV) → Prop):awpF Tryz.prog (mkS Tryz.prog S Fr Sq ⟨[],[],[143],[],[]⟩ 0) 1 ⟨[0,1,4,5,6,7,11,21],[⟨2,[(5,.int .i64 0),(6,.int .i64 0)],[],[(1000000,.agg [.int .i64 0,.int .i64 0])],[],[]⟩],[],[]⟩ Tryz.f49 [.int .i64 n,.fn 143 [] [.ref 0 0]] [⟨23,false,f0.cs⟩] Q = R49a n f0 S Fr Sq Q:=by kernel_rfl
theorem s49a (n:Int) (f0:TEncl) (v:AV) (O:List (List AV)) (h:R49a n f0 (SpecOf Tryz.prog) (FreshOf Tryz.prog) (SeqOf Tryz.prog) (fun r O' => r = v ∧ O' = O)):SpecOf Tryz.prog 49 [.int .i64 n,.fn 143 [] [.ref 0 0]] [f0.cs] v O :=
 spec_by (boxes:=[⟨23,false,f0.cs⟩]) mixed (by exact trivial) Tryz.func49 Tryz.call49 rfl rfl rfl (Nat.le_of_ble_eq_true rfl) (r49a n f0 (SpecOf Tryz.prog) (FreshOf Tryz.prog) (SeqOf Tryz.prog) _) h
theorem c49a (n:Nat) (hn:n ≤ 1000000000) (x:TEncl):Sp 49 [.int .i64 n,.fn 143 [] [.ref 0 0]] [x.cs] (.int .i64 (searchF (lowF x) n 0 n:Nat)) [x.cs]:=s49a n x _ _ (by
 unfold R49a
 refine ⟨fun m vs => ∃ i j:Nat,i ≤ j ∧ j ≤ n ∧ j - i ≤ m ∧ vs = [.int .i64 i,.int .i64 j,x.av] ∧ searchF (lowF x) m i j = searchF (lowF x) n 0 n,⟨n,0,n,by omega,by omega,by omega,rfl,rfl⟩,?_⟩
 rintro m n3 n4 n5 n6 ⟨i,j,h1,h2,h3,hv,hs⟩
 have hv':=hv
 unfold TEncl.av TEncl.cs at hv'
 simp only [List.cons.injEq,AV.int.injEq,true_and,AV.agg.injEq,and_true] at hv'
 obtain ⟨rfl,rfl,rfl,rfl⟩:=hv'
 refine ⟨fun g => ?_,fun g => ?_⟩
 ·have hij:i < j:=by simpa using g
  obtain ⟨k,rfl⟩:∃ k,m = k + 1:=⟨m - 1,by omega⟩
  rw [searchF_s,if_pos hij] at hs
  rw [mid (by omega)]
  refine ⟨_,c143 ((i + j) / 2) (by omega) x,fun g2 => ⟨k,by omega,(i + j) / 2 + 1,j,by omega,by omega,by omega,?_,?_⟩,fun g2 => ⟨k,by omega,i,(i + j) / 2,by omega,by omega,by omega,rfl,?_⟩⟩
  ·rw [wrapN (by omega)]; rfl
  ·have g2:lowF x ((i + j) / 2) = false:=by simpa using g2
   rw [if_neg (by rw [g2]; simp)] at hs; exact hs
  ·have g2:lowF x ((i + j) / 2) = true:=by simpa using g2
   rw [if_pos g2] at hs; exact hs
 ·have hij:¬ i < j:=by simpa using g
  rw [searchF_end _ _ _ _ hij] at hs
  rw [← hs]
  exact ⟨rfl,rfl⟩)
def R49b (n:Int) (f0:TEncl) (S:SpecF) (_Fr:FreshF) (_Sq:SeqF) (Q:AV → List (List AV) → Prop):Prop :=
 ∃ (I0:Nat → List AV → Prop),(∃ m2,I0 m2 [AV.int .i64 0,.int .i64 n,f0.av]) ∧ ∀ (m2:Nat) (n3 n4 n5 n6:Int),I0 m2 [AV.int .i64 n3,.int .i64 n4,.agg [AV.int .i64 n5,.int .i64 n6]] → (decide (n3 < n4) = true → ∃ b10,S 145 [AV.int .i64 (IntKind.i64.wrap ((IntKind.u64.wrap (IntKind.i64.wrap (n3 + n4))).fdiv (2:Int))),.ref 0 0] [[AV.int .i64 n5,.int .i64 n6]] (.bool b10) [[AV.int .i64 n5,.int .i64 n6]] ∧ ((!b10) = true → ∃ k14,k14 < m2 ∧ I0 k14 [AV.int .i64 (IntKind.i64.wrap (IntKind.i64.wrap ((IntKind.u64.wrap (IntKind.i64.wrap (n3 + n4))).fdiv (2:Int)) + 1)),.int .i64 n4,.agg [AV.int .i64 n5,.int .i64 n6]]) ∧ ((!b10) = false → ∃ k14,k14 < m2 ∧ I0 k14 [AV.int .i64 n3,.int .i64 (IntKind.i64.wrap ((IntKind.u64.wrap (IntKind.i64.wrap (n3 + n4))).fdiv (2:Int))),.agg [AV.int .i64 n5,.int .i64 n6]])) ∧ (decide (n3 < n4) = false → Q (.int .i64 n3) [[AV.int .i64 n5,.int .i64 n6]])
theorem r49b (n:Int) (f0:TEncl) (S:SpecF) (Fr:FreshF) (Sq:SeqF) (Q:AV → List (List AV) → Prop):awpF Tryz.prog (mkS Tryz.prog S Fr Sq ⟨[],[],[145],[],[]⟩ 0) 1 ⟨[0,1,4,5,6,7,11,21],[⟨2,[(5,.int .i64 0),(6,.int .i64 0)],[],[(1000000,.agg [.int .i64 0,.int .i64 0])],[],[]⟩],[],[]⟩ Tryz.f49 [.int .i64 n,.fn 145 [] [.ref 0 0]] [⟨23,false,f0.cs⟩] Q = R49b n f0 S Fr Sq Q:=by kernel_rfl
theorem s49b (n:Int) (f0:TEncl) (v:AV) (O:List (List AV)) (h:R49b n f0 (SpecOf Tryz.prog) (FreshOf Tryz.prog) (SeqOf Tryz.prog) (fun r O' => r = v ∧ O' = O)):SpecOf Tryz.prog 49 [.int .i64 n,.fn 145 [] [.ref 0 0]] [f0.cs] v O :=
 spec_by (boxes:=[⟨23,false,f0.cs⟩]) mixed (by exact trivial) Tryz.func49 Tryz.call49 rfl rfl rfl (Nat.le_of_ble_eq_true rfl) (r49b n f0 (SpecOf Tryz.prog) (FreshOf Tryz.prog) (SeqOf Tryz.prog) _) h
theorem c49b (n:Nat) (hn:n ≤ 1000000000) (x:TEncl):Sp 49 [.int .i64 n,.fn 145 [] [.ref 0 0]] [x.cs] (.int .i64 (searchF (highF x) n 0 n:Nat)) [x.cs]:=s49b n x _ _ (by
 unfold R49b
 refine ⟨fun m vs => ∃ i j:Nat,i ≤ j ∧ j ≤ n ∧ j - i ≤ m ∧ vs = [.int .i64 i,.int .i64 j,x.av] ∧ searchF (highF x) m i j = searchF (highF x) n 0 n,⟨n,0,n,by omega,by omega,by omega,rfl,rfl⟩,?_⟩
 rintro m n3 n4 n5 n6 ⟨i,j,h1,h2,h3,hv,hs⟩
 have hv':=hv
 unfold TEncl.av TEncl.cs at hv'
 simp only [List.cons.injEq,AV.int.injEq,true_and,AV.agg.injEq,and_true] at hv'
 obtain ⟨rfl,rfl,rfl,rfl⟩:=hv'
 refine ⟨fun g => ?_,fun g => ?_⟩
 ·have hij:i < j:=by simpa using g
  obtain ⟨k,rfl⟩:∃ k,m = k + 1:=⟨m - 1,by omega⟩
  rw [searchF_s,if_pos hij] at hs
  rw [mid (by omega)]
  refine ⟨_,c145 ((i + j) / 2) (by omega) x,fun g2 => ⟨k,by omega,(i + j) / 2 + 1,j,by omega,by omega,by omega,?_,?_⟩,fun g2 => ⟨k,by omega,i,(i + j) / 2,by omega,by omega,by omega,rfl,?_⟩⟩
  ·rw [wrapN (by omega)]; rfl
  ·have g2:highF x ((i + j) / 2) = false:=by simpa using g2
   rw [if_neg (by rw [g2]; simp)] at hs; exact hs
  ·have g2:highF x ((i + j) / 2) = true:=by simpa using g2
   rw [if_pos g2] at hs; exact hs
 ·have hij:¬ i < j:=by simpa using g
  rw [searchF_end _ _ _ _ hij] at hs
  rw [← hs]
  exact ⟨rfl,rfl⟩)
def arccosE (x:TEncl):TEncl:=⟨(searchF (lowF x) 180000001 0 180000001:Nat) - 1,(searchF (highF x) 180000000 0 180000000:Nat)⟩
def arccosR (x:TEncl):TEncl × Int:=if wildB x 100000000 then (⟨0,0⟩,7) else (arccosE x,0)
def R109 (x:TEncl) (S:SpecF) (_Fr:FreshF) (_Sq:SeqF) (Q:AV → List (List AV) → Prop):Prop :=
 ∃ b0,S 139 [x.av,.int .i64 100000000] [] (.bool b0) [] ∧ (b0 = true → Q (.tup [TEncl.zero.av,.int .i64 7]) []) ∧ (b0 = false → ∃ n4,S 49 [AV.int .i64 180000001,AV.fn (143:Nat) [] [AV.ref 0 0]] [x.cs] (.int .i64 n4) [x.cs] ∧ ∃ n6,S 49 [AV.int .i64 180000000,AV.fn (145:Nat) [] [AV.ref 0 0]] [x.cs] (.int .i64 n6) [x.cs] ∧ Q (.tup [AV.agg [AV.int .i64 (IntKind.i64.wrap (n4 - 1)),.int .i64 n6],.int .i64 0]) [])
theorem r109 (x:TEncl) (S:SpecF) (Fr:FreshF) (Sq:SeqF) (Q:AV → List (List AV) → Prop):awpF Tryz.prog (mkS Tryz.prog S Fr Sq ⟨[],[],[49],[],[]⟩ 0) 0 ⟨[0,1,2,3,4,5,7],[],[],[]⟩ Tryz.f109 [x.av] [] Q = R109 x S Fr Sq Q:=by kernel_rfl
theorem s109 (x:TEncl) (v:AV) (O:List (List AV)) (h:R109 x (SpecOf Tryz.prog) (FreshOf Tryz.prog) (SeqOf Tryz.prog) (fun r O' => r = v ∧ O' = O)):SpecOf Tryz.prog 109 [x.av] [] v O :=
 spec_by (boxes:=[]) mixed (by exact trivial) Tryz.func109 Tryz.call109 rfl rfl rfl (Nat.le_of_ble_eq_true rfl) (r109 x (SpecOf Tryz.prog) (FreshOf Tryz.prog) (SeqOf Tryz.prog) _) h
theorem c109 (x:TEncl):Sp 109 [x.av] [] (.tup [(arccosR x).1.av,.int .i64 (arccosR x).2]) []:=s109 x _ _ (by
 unfold R109
 have k1:=c49a 180000001 (by omega) x
 have k2:=c49b 180000000 (by omega) x
 have b1:=searchF_le (lowF x) 180000001 0 180000001 (by omega)
 unfold arccosR arccosE
 generalize searchF (lowF x) 180000001 0 180000001 = p at *
 generalize searchF (highF x) 180000000 0 180000000 = q at *
 refine ⟨_,c139 x 100000000,fun h => ⟨by rw [if_pos h]; rfl,by trivial⟩,fun h => ⟨_,k1,_,k2,?_,by trivial⟩⟩
 rw [if_neg (by rw [h]; simp),i64 (by omega)]; rfl)
def arcsinR (x:TEncl):TEncl × Int:=if (arccosR x).2 ≠ 0 then (⟨0,0⟩,(arccosR x).2) else (⟨IntKind.i64.wrap (90000000 - (arccosR x).1.Hi),IntKind.i64.wrap (90000000 - (arccosR x).1.Lo)⟩,0)
def R136 (x:TEncl) (S:SpecF) (_Fr:FreshF) (_Sq:SeqF) (Q:AV → List (List AV) → Prop):Prop :=
 ∃ n0 n1 n2,S 109 [x.av] [] (.tup [AV.agg [AV.int .i64 n0,.int .i64 n1],.int .i64 n2]) [] ∧ ((n2 != 0) = true → Q (.tup [TEncl.zero.av,.int .i64 n2]) []) ∧ ((n2 != 0) = false → Q (.tup [AV.agg [AV.int .i64 (IntKind.i64.wrap ((90000000:Int) - n1)),.int .i64 (IntKind.i64.wrap ((90000000:Int) - n0))],.int .i64 0]) [])
theorem r136 (x:TEncl) (S:SpecF) (Fr:FreshF) (Sq:SeqF) (Q:AV → List (List AV) → Prop):awpF Tryz.prog (mkS Tryz.prog S Fr Sq ⟨[],[],[],[],[]⟩ 0) 0 ⟨[0,1,2,3,4,5,12],[],[],[]⟩ Tryz.f136 [x.av] [] Q = R136 x S Fr Sq Q:=by kernel_rfl
theorem s136 (x:TEncl) (v:AV) (O:List (List AV)) (h:R136 x (SpecOf Tryz.prog) (FreshOf Tryz.prog) (SeqOf Tryz.prog) (fun r O' => r = v ∧ O' = O)):SpecOf Tryz.prog 136 [x.av] [] v O :=
 spec_by (boxes:=[]) mixed (by exact trivial) Tryz.func136 Tryz.call136 rfl rfl rfl (Nat.le_of_ble_eq_true rfl) (r136 x (SpecOf Tryz.prog) (FreshOf Tryz.prog) (SeqOf Tryz.prog) _) h
theorem c136 (x:TEncl):Sp 136 [x.av] [] (.tup [(arcsinR x).1.av,.int .i64 (arcsinR x).2]) []:=s136 x _ _ (by
 unfold R136 arcsinR
 refine ⟨_,_,_,c109 x,fun h => ⟨?_,by trivial⟩,fun h => ⟨?_,by trivial⟩⟩
 ·have h:(arccosR x).2 ≠ 0:=by simpa using h
  rw [if_pos h]; rfl
 ·have h:(arccosR x).2 = 0:=by simpa using h
  rw [if_neg (by simp [h])]; rfl)
end Go.Proofs.YtblebiafhhhflaaGreat
