/- Contracts: sines. Contracts: sines of all angles, enclosures of sines. Contracts: enclosures of sines and of fractions. -/
import Derived.Test.YtblebiafhhhflaaGreatB
namespace Go.Proofs.YtblebiafhhhflaaGreat
open Go.RowKit
def piN:Nat:=267257146016241686964920093290467695825
def oneN:Nat:=85070591730234615865843651857942052864
def stepN (sq k s:Nat):Nat:=(oneN + 340282366920938463463374607431768211456 - tim sq s * 1 / (2 * (k + 1) * (2 * (k + 1) + 1))) % 340282366920938463463374607431768211456
def downF (f:Nat → Nat → Nat):Nat → Nat → Nat
 | 0,s => s
 | k + 1,s => downF f k (f k s)
theorem downF_s (f:Nat → Nat → Nat) (k s:Nat):downF f (k + 1) s = downF f k (f k s):=rfl
theorem downF_0 (f:Nat → Nat → Nat) (s:Nat):downF f 0 s = s:=rfl
def hornN (sq k s:Nat):Nat:=downF (stepN sq) k s
def xN (a:Nat):Nat:=piN * a / 180000000
def stN (a:Nat):Nat:=tim (xN a) (hornN (tim (xN a) (xN a)) 17 oneN)
def steepN (a:Nat):Nat × Bool:=if a = 0 then (0,true) else if a = 30000000 then (50000000,true) else if a = 90000000 then (100000000,true) else (stN a * 100000000 / 85070591730234615865843651857942052864,false)
theorem mod128 (n:Nat):n % 340282366920938463463374607431768211456 < 340282366920938463463374607431768211456:=Nat.mod_lt _ (by omega)
theorem stepN_lt (sq k s:Nat):stepN sq k s < 340282366920938463463374607431768211456:=by unfold stepN; exact mod128 _
theorem stN_lt (a:Nat):stN a < 340282366920938463463374607431768211456:=by unfold stN; exact tim_lt _ _
theorem st_le {s:Nat} (h:s < 340282366920938463463374607431768211456):s * 100000000 / 85070591730234615865843651857942052864 ≤ 400000000:=by omega
theorem steepN_le (a:Nat):(steepN a).1 ≤ 400000000:=by
 unfold steepN
 split
 ·exact Nat.zero_le _
 ·split
  ·exact of_decide_eq_true rfl
  ·split
   ·exact of_decide_eq_true rfl
   ·exact st_le (stN_lt a)
theorem div_le {p a:Nat} (h:a ≤ 180000000):p * a / 180000000 ≤ p:=by
 apply Nat.div_le_of_le_mul
 rw [Nat.mul_comm 180000000]
 exact Nat.mul_le_mul_left _ h
theorem piN_lt:piN < 340282366920938463463374607431768211456:=by unfold piN; omega
theorem oneN_lt:oneN < 340282366920938463463374607431768211456:=by unfold oneN; omega
theorem xN_lt {a:Nat} (h:a ≤ 180000000):xN a < 340282366920938463463374607431768211456:=by
 unfold xN
 exact Nat.lt_of_le_of_lt (div_le h) piN_lt
theorem fx_pi:(fx piN).av = .agg [.int .u64 14488038916154245684,.int .u64 14179128828124470481]:=by kernel_rfl
theorem fx_one:(fx oneN).av = .agg [.int .u64 4611686018427387904,.int .u64 0]:=by kernel_rfl
def R167 (a:Int) (S:SpecF) (_Fr:FreshF) (_Sq:SeqF) (Q:AV → List (List AV) → Prop):Prop :=
 ((a == 0) = true → Q (.tup [AV.int .i64 0,.bool true]) []) ∧ ((a == 0) = false → ((a == 30000000) = true → Q (.tup [AV.int .i64 50000000,.bool true]) []) ∧ ((a == 30000000) = false → ((a == 90000000) = true → Q (.tup [AV.int .i64 100000000,.bool true]) []) ∧ ((a == 90000000) = false → ∃ n6 n7,S 175 [AV.agg [AV.int IntKind.u64 (14488038916154245684:Int),.int IntKind.u64 (14179128828124470481:Int)],.int IntKind.u64 (IntKind.u64.wrap a),.int IntKind.u64 (180000000:Int)] [] (.agg [AV.int IntKind.u64 n6,.int IntKind.u64 n7]) [] ∧ ∃ n9 n10,S 176 [AV.agg [AV.int IntKind.u64 n6,.int IntKind.u64 n7],.agg [AV.int IntKind.u64 n6,.int IntKind.u64 n7]] [] (.agg [AV.int IntKind.u64 n9,.int IntKind.u64 n10]) [] ∧ ∃ (I12:Nat → List AV → Prop),(∃ m14,I12 m14 [AV.int IntKind.u64 (17:Int),.agg [AV.int IntKind.u64 (4611686018427387904:Int),.int IntKind.u64 (0:Int)]]) ∧ ∀ (m14:Nat) (n15 n16 n17:Int),I12 m14 [AV.int IntKind.u64 n15,.agg [AV.int IntKind.u64 n16,.int IntKind.u64 n17]] → (decide (n15 > 0) = true → ∃ n21 n22,S 176 [AV.agg [AV.int IntKind.u64 n9,.int IntKind.u64 n10],.agg [AV.int IntKind.u64 n16,.int IntKind.u64 n17]] [] (.agg [AV.int IntKind.u64 n21,.int IntKind.u64 n22]) [] ∧ ∃ n24 n25,S 175 [AV.agg [AV.int IntKind.u64 n21,.int IntKind.u64 n22],.int IntKind.u64 (1:Int),.int IntKind.u64 (IntKind.u64.wrap (IntKind.u64.wrap ((2:Int) * n15) * IntKind.u64.wrap (IntKind.u64.wrap ((2:Int) * n15) + 1)))] [] (.agg [AV.int IntKind.u64 n24,.int IntKind.u64 n25]) [] ∧ ∃ n27 n28,S 177 [AV.agg [AV.int IntKind.u64 (4611686018427387904:Int),.int IntKind.u64 (0:Int)],.agg [AV.int IntKind.u64 n24,.int IntKind.u64 n25]] [] (.agg [AV.int IntKind.u64 n27,.int IntKind.u64 n28]) [] ∧ Same [AV.int IntKind.u64 n6,.int IntKind.u64 n7] ∧ Same [AV.int IntKind.u64 n9,.int IntKind.u64 n10] ∧ Same [AV.lit IntKind.u64 (4611686018427387904:Int),.lit IntKind.u64 (0:Int)] ∧ ∃ k33,k33 < m14 ∧ I12 k33 [AV.int IntKind.u64 (IntKind.u64.wrap (n15 - 1)),.agg [AV.int IntKind.u64 n27,.int IntKind.u64 n28]]) ∧ (decide (n15 > 0) = false → ∃ n21 n22,S 176 [AV.agg [AV.int IntKind.u64 n6,.int IntKind.u64 n7],.agg [AV.int IntKind.u64 n16,.int IntKind.u64 n17]] [] (.agg [AV.int IntKind.u64 n21,.int IntKind.u64 n22]) [] ∧ ∃ n24,S 178 [AV.agg [AV.int IntKind.u64 n21,.int IntKind.u64 n22]] [] (.int .i64 n24) [] ∧ Q (.tup [AV.int .i64 n24,.bool false]) []))))
theorem r167 (a:Int) (S:SpecF) (Fr:FreshF) (Sq:SeqF) (Q:AV → List (List AV) → Prop):awpF Tryz.prog (mkS Tryz.prog S Fr Sq ⟨[],[],[],[],[]⟩ 0) 0 ⟨[0,2,3,4,5,6,7,8,9,10,12,14,26],[⟨13,[(8,.int .u64 0)],[],[(7,.agg [.int .u64 0,.int .u64 0])],[],[]⟩],[],[]⟩ Tryz.f167 [.int .i64 a] [] Q = R167 a S Fr Sq Q:=by kernel_rfl
theorem s167 (a:Int) (v:AV) (O:List (List AV)) (h:R167 a (SpecOf Tryz.prog) (FreshOf Tryz.prog) (SeqOf Tryz.prog) (fun r O' => r = v ∧ O' = O)):SpecOf Tryz.prog 167 [.int .i64 a] [] v O :=
 spec_by (boxes:=[]) mixed (by exact trivial) Tryz.func167 Tryz.call167 rfl rfl rfl (Nat.le_of_ble_eq_true rfl) (r167 a (SpecOf Tryz.prog) (FreshOf Tryz.prog) (SeqOf Tryz.prog) _) h
theorem c167 (a:Nat) (ha:a ≤ 180000000):Sp 167 [.int .i64 a] [] (.tup [.int .i64 ((steepN a).1:Nat),.bool (steepN a).2]) []:=s167 a _ _ (by
 unfold R167
 refine ⟨fun h => ⟨?_,rfl⟩,fun h0 => ⟨fun h => ⟨?_,rfl⟩,fun h1 => ⟨fun h => ⟨?_,rfl⟩,fun h2 => ?_⟩⟩⟩
 ·have h:a = 0:=by simpa using h
  subst h; rfl
 ·have h:a = 30000000:=by simp at h; omega
  subst h; rfl
 ·have h:a = 90000000:=by simp at h; omega
  subst h; rfl
 have h0:a ≠ 0:=by simpa using h0
 have h1:a ≠ 30000000:=by simp at h1; omega
 have h2:a ≠ 90000000:=by simp at h2; omega
 have e:steepN a = (stN a * 100000000 / 85070591730234615865843651857942052864,false):=by unfold steepN; rw [if_neg h0,if_neg h1,if_neg h2]
 rw [e]
 have k1:=c175 piN a 180000000 piN_lt ha (by omega) (by omega)
 rw [fx_pi,show piN * a / 180000000 = xN a from rfl] at k1
 obtain ⟨x,ex⟩:∃ x,x = xN a:=⟨_,rfl⟩
 have hx:x < 340282366920938463463374607431768211456:=by rw [ex]; exact xN_lt ha
 rw [← ex] at k1
 obtain ⟨sq,esq⟩:∃ s,s = tim x x:=⟨_,rfl⟩
 have k2:=c176 x x hx hx
 have hsq:=tim_lt x x
 rw [← esq] at k2 hsq
 obtain ⟨r,er⟩:∃ r,r = hornN sq 17 oneN:=⟨_,rfl⟩
 obtain ⟨st,est⟩:∃ st,st = stN a:=⟨_,rfl⟩
 have hst:st = tim x r:=by rw [est,er,esq,ex]; rfl
 rw [← est]
 refine ⟨_,_,by rw [u64lt (by omega)]; exact k1,_,_,k2,?_⟩
 clear k1 k2 est esq ex e
 refine ⟨fun m vs => ∃ k s:Nat,k ≤ 17 ∧ s < 340282366920938463463374607431768211456 ∧ m = k ∧ vs = [.int .u64 k,(fx s).av] ∧ hornN sq k s = r,⟨17,17,oneN,by omega,oneN_lt,rfl,by rw [fx_one]; rfl,er.symm⟩,?_⟩
 rintro m n15 n16 n17 ⟨k,s,hk,hs,rfl,hv,hh⟩
 have hv':=hv
 unfold TFixed.av TFixed.cs at hv'
 simp only [List.cons.injEq,AV.int.injEq,true_and,AV.agg.injEq,and_true] at hv'
 obtain ⟨rfl,rfl,rfl⟩:=hv'
 refine ⟨fun g => ?_,fun g => ?_⟩
 ·have hk0:0 < m:=by simpa using g
  obtain ⟨j,rfl⟩:∃ j,m = j + 1:=⟨m - 1,by omega⟩
  have b1:2 * (j + 1) * (2 * (j + 1) + 1) ≤ 34 * 35:=Nat.mul_le_mul (by omega) (by omega)
  have b2:1 * 1 ≤ 2 * (j + 1) * (2 * (j + 1) + 1):=Nat.mul_le_mul (by omega) (by omega)
  have eD:IntKind.u64.wrap (IntKind.u64.wrap ((2:Int) * ((j + 1:Nat):Int)) * IntKind.u64.wrap (IntKind.u64.wrap ((2:Int) * ((j + 1:Nat):Int)) + 1)) = ((2 * (j + 1) * (2 * (j + 1) + 1):Nat):Int):=by
   rw [show (2:Int) * ((j + 1:Nat):Int) = ((2 * (j + 1):Nat):Int) by omega,u64lt (n:=2 * (j + 1)) (by omega),show ((2 * (j + 1):Nat):Int) + 1 = ((2 * (j + 1) + 1:Nat):Int) by omega,u64lt (n:=2 * (j + 1) + 1) (by omega),← Int.natCast_mul,u64lt (Nat.lt_of_le_of_lt b1 (by decide))]
  have ht:=tim_lt sq s
  have k2:=c175 (tim sq s) 1 (2 * (j + 1) * (2 * (j + 1) + 1)) ht b2 b2 (Nat.lt_of_le_of_lt b1 (by decide))
  have hle:tim sq s * 1 / (2 * (j + 1) * (2 * (j + 1) + 1)) < 340282366920938463463374607431768211456:=Nat.lt_of_le_of_lt (Nat.div_le_self _ _) (by rw [Nat.mul_one]; exact ht)
  have k3:=c177 oneN _ oneN_lt hle
  rw [fx_one,show (oneN + 340282366920938463463374607431768211456 - tim sq s * 1 / (2 * (j + 1) * (2 * (j + 1) + 1))) % 340282366920938463463374607431768211456 = stepN sq j s from rfl] at k3
  refine ⟨_,_,c176 sq s hsq hs,_,_,by rw [eD]; exact k2,_,_,k3,by trivial,by trivial,by trivial,j,by omega,j,_,by omega,stepN_lt sq j s,rfl,?_,?_⟩
  ·rw [show (((j + 1:Nat):Int) - 1) = (j:Int) by omega,u64lt (by omega)]; rfl
  ·rw [← hh]; unfold hornN; rw [downF_s]
 ·have hk0:m = 0:=by simp at g; omega
  subst hk0
  have hh:s = r:=by unfold hornN at hh; rw [downF_0] at hh; exact hh
  subst hh
  have k4:=c176 x s hx hs
  rw [← hst] at k4
  have k5:=c178 st (by rw [hst]; exact tim_lt _ _)
  exact ⟨_,_,k4,_,k5,rfl,by trivial⟩)
end Go.Proofs.YtblebiafhhhflaaGreat
namespace Go.Proofs.YtblebiafhhhflaaGreat
open Go.RowKit
def oppE (e:TEncl):TEncl:=⟨IntKind.i64.wrap (0 - e.Hi),IntKind.i64.wrap (0 - e.Lo)⟩
def R168 (x:TEncl) (_S:SpecF) (_Fr:FreshF) (_Sq:SeqF) (Q:AV → List (List AV) → Prop):Prop :=
 Q (.agg [AV.int .i64 (IntKind.i64.wrap ((0:Int) - x.Hi)),.int .i64 (IntKind.i64.wrap ((0:Int) - x.Lo))]) []
theorem r168 (x:TEncl) (S:SpecF) (Fr:FreshF) (Sq:SeqF) (Q:AV → List (List AV) → Prop):awpF Tryz.prog (mkS Tryz.prog S Fr Sq ⟨[],[],[],[],[]⟩ 0) 0 ⟨[0,1,2],[],[],[]⟩ Tryz.f168 [x.av] [] Q = R168 x S Fr Sq Q:=by kernel_rfl
theorem s168 (x:TEncl) (v:AV) (O:List (List AV)) (h:R168 x (SpecOf Tryz.prog) (FreshOf Tryz.prog) (SeqOf Tryz.prog) (fun r O' => r = v ∧ O' = O)):SpecOf Tryz.prog 168 [x.av] [] v O :=
 spec_by (boxes:=[]) mixed (by exact trivial) Tryz.func168 Tryz.call168 rfl rfl rfl (Nat.le_of_ble_eq_true rfl) (r168 x (SpecOf Tryz.prog) (FreshOf Tryz.prog) (SeqOf Tryz.prog) _) h
theorem c168 (e:TEncl):Sp 168 [e.av] [] (oppE e).av []:=s168 e _ _ ⟨rfl,rfl⟩
def turnN (a:Int):Int:=(a.tmod 360000000 + 360000000).tmod 360000000
theorem turnN_in (a:Int):0 ≤ turnN a ∧ turnN a < 360000000:=by
 unfold turnN
 have h1:=Int.tmod_lt_of_pos a (b:=360000000) (by omega)
 have h2:=Int.lt_tmod_of_pos a (b:=360000000) (by omega)
 rw [Int.tmod_eq_emod_of_nonneg (by omega)]
 omega
def foldN (a:Int):Nat:=(if 180000000 - (turnN a).tmod 180000000 < (turnN a).tmod 180000000 then 180000000 - (turnN a).tmod 180000000 else (turnN a).tmod 180000000).toNat
theorem foldN_in (a:Int):foldN a ≤ 90000000 ∧ (foldN a:Int) = if 180000000 - (turnN a).tmod 180000000 < (turnN a).tmod 180000000 then 180000000 - (turnN a).tmod 180000000 else (turnN a).tmod 180000000:=by
 have h:=turnN_in a
 unfold foldN
 rw [Int.tmod_eq_emod_of_nonneg h.1]
 split <;> omega
def upE (p:Nat × Bool):TEncl:=if p.2 then ⟨p.1,p.1⟩ else ⟨p.1,p.1 + 1⟩
def sineE (a:Int):TEncl:=if 180000000 ≤ turnN a then oppE (upE (steepN (foldN a))) else upE (steepN (foldN a))
theorem upE_in (a:Nat):0 ≤ (upE (steepN a)).Lo ∧ (upE (steepN a)).Lo ≤ (upE (steepN a)).Hi ∧ (upE (steepN a)).Hi ≤ 400000001:=by
 have h:=steepN_le a
 unfold upE
 split
 ·exact ⟨by show (0:Int) ≤ ((steepN a).1:Nat); omega,Int.le_refl _,by show (((steepN a).1:Nat):Int) ≤ 400000001; omega⟩
 ·refine ⟨?_,?_,?_⟩
  ·show (0:Int) ≤ ((steepN a).1:Nat); omega
  ·show (((steepN a).1:Nat):Int) ≤ ((steepN a).1:Nat) + 1; omega
  ·show (((steepN a).1:Nat):Int) + 1 ≤ 400000001; omega
def R144 (a:Int) (S:SpecF) (_Fr:FreshF) (_Sq:SeqF) (Q:AV → List (List AV) → Prop):Prop :=
 ∃ n0 b1,S 167 [AV.int .i64 (if IntKind.i64.wrap ((180000000:Int) - ((IntKind.i64.wrap (a.tmod (360000000:Int) + (360000000:Int))).tmod (360000000:Int)).tmod (180000000:Int)) < ((IntKind.i64.wrap (a.tmod (360000000:Int) + (360000000:Int))).tmod (360000000:Int)).tmod (180000000:Int) then IntKind.i64.wrap ((180000000:Int) - ((IntKind.i64.wrap (a.tmod (360000000:Int) + (360000000:Int))).tmod (360000000:Int)).tmod (180000000:Int)) else ((IntKind.i64.wrap (a.tmod (360000000:Int) + (360000000:Int))).tmod (360000000:Int)).tmod (180000000:Int))] [] (.tup [AV.int .i64 n0,.bool b1]) [] ∧ ((!b1) = true → (decide ((IntKind.i64.wrap (a.tmod (360000000:Int) + (360000000:Int))).tmod (360000000:Int) ≥ (180000000:Int)) = true → ∃ n7 n8,S 168 [AV.agg [AV.int .i64 n0,.int .i64 (IntKind.i64.wrap (n0 + 1))]] [] (.agg [AV.int .i64 n7,.int .i64 n8]) [] ∧ Q (.agg [AV.int .i64 n7,.int .i64 n8]) []) ∧ (decide ((IntKind.i64.wrap (a.tmod (360000000:Int) + (360000000:Int))).tmod (360000000:Int) ≥ (180000000:Int)) = false → Q (.agg [AV.int .i64 n0,.int .i64 (IntKind.i64.wrap (n0 + 1))]) [])) ∧ ((!b1) = false → (decide ((IntKind.i64.wrap (a.tmod (360000000:Int) + (360000000:Int))).tmod (360000000:Int) ≥ (180000000:Int)) = true → ∃ n7 n8,S 168 [AV.agg [AV.int .i64 n0,.int .i64 n0]] [] (.agg [AV.int .i64 n7,.int .i64 n8]) [] ∧ Q (.agg [AV.int .i64 n7,.int .i64 n8]) []) ∧ (decide ((IntKind.i64.wrap (a.tmod (360000000:Int) + (360000000:Int))).tmod (360000000:Int) ≥ (180000000:Int)) = false → Q (.agg [AV.int .i64 n0,.int .i64 n0]) []))
theorem r144 (a:Int) (S:SpecF) (Fr:FreshF) (Sq:SeqF) (Q:AV → List (List AV) → Prop):awpF Tryz.prog (mkS Tryz.prog S Fr Sq ⟨[],[],[],[],[]⟩ 0) 0 ⟨[0,2,3,4,5,6,27,32],[],[],[]⟩ Tryz.f144 [.int .i64 a] [] Q = R144 a S Fr Sq Q:=by kernel_rfl
theorem s144 (a:Int) (v:AV) (O:List (List AV)) (h:R144 a (SpecOf Tryz.prog) (FreshOf Tryz.prog) (SeqOf Tryz.prog) (fun r O' => r = v ∧ O' = O)):SpecOf Tryz.prog 144 [.int .i64 a] [] v O :=
 spec_by (boxes:=[]) mixed (by exact trivial) Tryz.func144 Tryz.call144 rfl rfl rfl (Nat.le_of_ble_eq_true rfl) (r144 a (SpecOf Tryz.prog) (FreshOf Tryz.prog) (SeqOf Tryz.prog) _) h
theorem c144 (a:Int):Sp 144 [.int .i64 a] [] (sineE a).av []:=s144 a _ _ (by
 unfold R144
 have h:=turnN_in a
 have ht:(IntKind.i64.wrap (a.tmod 360000000 + 360000000)).tmod 360000000 = turnN a:=by
  have h1:=Int.tmod_lt_of_pos a (b:=360000000) (by omega)
  have h2:=Int.lt_tmod_of_pos a (b:=360000000) (by omega)
  rw [i64 (by omega)]; rfl
 rw [ht]
 obtain ⟨f1,f2⟩:=foldN_in a
 have hw:IntKind.i64.wrap (180000000 - (turnN a).tmod 180000000) = 180000000 - (turnN a).tmod 180000000:=by
  rw [Int.tmod_eq_emod_of_nonneg h.1]; exact i64 (by omega)
 rw [hw,← f2]
 have hs:=c167 (foldN a) (by omega)
 have hle:=steepN_le (foldN a)
 have hu:=upE_in (foldN a)
 have hw1:IntKind.i64.wrap ((((steepN (foldN a)).1:Nat):Int) + 1) = ((steepN (foldN a)).1:Nat) + 1:=i64 (by omega)
 unfold sineE
 refine ⟨_,_,hs,fun hb => ⟨fun g => ?_,fun g => ?_⟩,fun hb => ⟨fun g => ?_,fun g => ?_⟩⟩
 ·have hb:(steepN (foldN a)).2 = false:=by simpa using hb
  rw [if_pos (of_decide_eq_true g)]
  have e:upE (steepN (foldN a)) = ⟨((steepN (foldN a)).1:Nat),((steepN (foldN a)).1:Nat) + 1⟩:=by unfold upE; rw [hb]; rfl
  rw [hw1,e]
  exact ⟨_,_,c168 ⟨((steepN (foldN a)).1:Nat),((steepN (foldN a)).1:Nat) + 1⟩,rfl,rfl⟩
 ·have hb:(steepN (foldN a)).2 = false:=by simpa using hb
  rw [if_neg (of_decide_eq_false g)]
  have e:upE (steepN (foldN a)) = ⟨((steepN (foldN a)).1:Nat),((steepN (foldN a)).1:Nat) + 1⟩:=by unfold upE; rw [hb]; rfl
  rw [hw1,e]
  exact ⟨rfl,rfl⟩
 ·have hb:(steepN (foldN a)).2 = true:=by simpa using hb
  rw [if_pos (of_decide_eq_true g)]
  have e:upE (steepN (foldN a)) = ⟨((steepN (foldN a)).1:Nat),((steepN (foldN a)).1:Nat)⟩:=by unfold upE; rw [hb]; rfl
  rw [e]
  exact ⟨_,_,c168 ⟨((steepN (foldN a)).1:Nat),((steepN (foldN a)).1:Nat)⟩,rfl,rfl⟩
 ·have hb:(steepN (foldN a)).2 = true:=by simpa using hb
  rw [if_neg (of_decide_eq_false g)]
  have e:upE (steepN (foldN a)) = ⟨((steepN (foldN a)).1:Nat),((steepN (foldN a)).1:Nat)⟩:=by unfold upE; rw [hb]; rfl
  rw [e]
  exact ⟨rfl,rfl⟩)
end Go.Proofs.YtblebiafhhhflaaGreat
namespace Go.Proofs.YtblebiafhhhflaaGreat
open Go.RowKit
def hullE (x y:TEncl):TEncl:=⟨if y.Lo < x.Lo then y.Lo else x.Lo,if y.Hi > x.Hi then y.Hi else x.Hi⟩
theorem wrapN {n:Nat} (h:n < 9223372036854775807):IntKind.i64.wrap ((n:Int) + 1) = ((n + 1:Nat):Int):=i64 (by omega)
theorem map_getN {α β:Type} {f:α → β} {l:List α} {k:Nat} (h:k < l.length):∃ x,l[k]? = some x ∧ (l.map f)[((k:Nat):Int).toNat]? = some (f x):=by
 refine ⟨l[k],List.getElem?_eq_getElem h,?_⟩
 rw [Int.toNat_natCast,List.getElem?_map,List.getElem?_eq_getElem h]; rfl
theorem fold_take {α β:Type} (g:β → α → β) (z:β) {l:List α} {k:Nat} {x:α} (h:l[k]? = some x):(l.take (k + 1)).foldl g z = g ((l.take k).foldl g z) x:=by
 rw [List.take_add_one,h,List.foldl_append]; rfl
def R166 (x:TEncl) (l:List TEncl) (_S:SpecF) (_Fr:FreshF) (_Sq:SeqF) (Q:AV → List (List AV) → Prop):Prop :=
 ∃ (I0:Nat → List AV → Prop),(∃ m2,I0 m2 [AV.int .i64 0,x.av]) ∧ ∀ (m2:Nat) (n3 n4 n5:Int),I0 m2 [AV.int .i64 n3,.agg [AV.int .i64 n4,.int .i64 n5]] → (decide (n3 < (↑(List.map TEncl.av l).length:Int)) = true → ∃ n9 n10,((0:Int) ≤ n3 ∧ (2:Nat) = (2:Nat) ∧ (List.map TEncl.av l)[n3.toNat]? = some (.agg [AV.int .i64 n9,.int .i64 n10])) ∧ TEncl.z0 = TEncl.z0 ∧ ∃ k13,k13 < m2 ∧ I0 k13 [AV.int .i64 (IntKind.i64.wrap (n3 + 1)),.agg [AV.int .i64 (if n9 < n4 then n9 else n4),.int .i64 (if n10 > n5 then n10 else n5)]]) ∧ (decide (n3 < (↑(List.map TEncl.av l).length:Int)) = false → Q (.agg [AV.int .i64 n4,.int .i64 n5]) [])
theorem r166 (x:TEncl) (l:List TEncl) (S:SpecF) (Fr:FreshF) (Sq:SeqF) (Q:AV → List (List AV) → Prop):awpF Tryz.prog (mkS Tryz.prog S Fr Sq ⟨[],[],[],[],[]⟩ 0) 0 ⟨[0,1,2,4,6,7,8,9,10],[⟨2,[(9,.int .i64 0)],[],[(2,.agg [.int .i64 0,.int .i64 0])],[],[]⟩],[],[]⟩ Tryz.f166 [x.av,.slc 3 (List.map TEncl.av l)] [] Q = R166 x l S Fr Sq Q:=by kernel_rfl
theorem s166 (x:TEncl) (l:List TEncl) (v:AV) (O:List (List AV)) (h:R166 x l (SpecOf Tryz.prog) (FreshOf Tryz.prog) (SeqOf Tryz.prog) (fun r O' => r = v ∧ O' = O)):SpecOf Tryz.prog 166 [x.av,.slc 3 (List.map TEncl.av l)] [] v O :=
 spec_by (boxes:=[]) mixed (by exact trivial) Tryz.func166 Tryz.call166 rfl rfl rfl (Nat.le_of_ble_eq_true rfl) (r166 x l (SpecOf Tryz.prog) (FreshOf Tryz.prog) (SeqOf Tryz.prog) _) h
theorem c166 (x:TEncl) (l:List TEncl) (hl:l.length ≤ 1000000):Sp 166 [x.av,.slc 3 (l.map TEncl.av)] [] (l.foldl hullE x).av []:=s166 x l _ _ (by
 unfold R166
 refine ⟨fun m vs => ∃ k:Nat,k ≤ l.length ∧ m = l.length - k ∧ vs = [.int .i64 k,((l.take k).foldl hullE x).av],⟨_,0,by omega,rfl,rfl⟩,?_⟩
 rintro m n3 n4 n5 ⟨k,hk,rfl,hv⟩
 generalize he:(l.take k).foldl hullE x = e at hv
 have hv':=hv
 unfold TEncl.av TEncl.cs at hv'
 simp only [List.cons.injEq,AV.int.injEq,true_and,AV.agg.injEq,and_true] at hv'
 obtain ⟨rfl,rfl,rfl⟩:=hv'
 simp only [List.length_map]
 refine ⟨fun g => ?_,fun g => ?_⟩
 ·have hlt:k < l.length:=by simpa using g
  obtain ⟨y,hy,hy'⟩:=map_getN (f:=TEncl.av) hlt
  refine ⟨y.Lo,y.Hi,⟨by omega,by trivial,hy'⟩,by trivial,_,(by omega:l.length - (k + 1) < l.length - k),k + 1,by omega,rfl,?_⟩
  rw [wrapN (by omega),fold_take hullE x hy,he]; rfl
 ·obtain rfl:k = l.length:=by simp at g; omega
  rw [List.take_length] at he
  subst he
  exact ⟨rfl,by trivial⟩)
def nextN (b v:Int):Int:=IntKind.i64.wrap (v + (IntKind.i64.wrap ((IntKind.i64.wrap (b - v)).tmod 360000000 + 360000000)).tmod 360000000)
def R174 (b:Int) (v0:Int) (_S:SpecF) (_Fr:FreshF) (_Sq:SeqF) (Q:AV → List (List AV) → Prop):Prop :=
 Q (.int .i64 (IntKind.i64.wrap (v0 + (IntKind.i64.wrap ((IntKind.i64.wrap (b - v0)).tmod (360000000:Int) + (360000000:Int))).tmod (360000000:Int)))) [[AV.int .i64 v0]]
theorem r174 (b:Int) (v0:Int) (S:SpecF) (Fr:FreshF) (Sq:SeqF) (Q:AV → List (List AV) → Prop):awpF Tryz.prog (mkS Tryz.prog S Fr Sq ⟨[],[],[],[],[]⟩ 0) 1 ⟨[0,1,3],[],[],[]⟩ Tryz.f174 [.int .i64 b,.ref 0 0] [⟨3,false,[.int .i64 v0]⟩] Q = R174 b v0 S Fr Sq Q:=by kernel_rfl
theorem s174 (b:Int) (v0:Int) (v:AV) (O:List (List AV)) (h:R174 b v0 (SpecOf Tryz.prog) (FreshOf Tryz.prog) (SeqOf Tryz.prog) (fun r O' => r = v ∧ O' = O)):SpecOf Tryz.prog 174 [.int .i64 b,.ref 0 0] [[.int .i64 v0]] v O :=
 spec_by (boxes:=[⟨3,false,[.int .i64 v0]⟩]) mixed (by exact trivial) Tryz.func174 Tryz.call174 rfl rfl rfl (Nat.le_of_ble_eq_true rfl) (r174 b v0 (SpecOf Tryz.prog) (FreshOf Tryz.prog) (SeqOf Tryz.prog) _) h
theorem c174 (b v:Int):Sp 174 [.int .i64 b,.ref 0 0] [[.int .i64 v]] (.int .i64 (nextN b v)) [[.int .i64 v]]:=s174 b v _ _ ⟨rfl,rfl⟩
def wildB (x:TEncl) (most:Int):Bool:=decide (x.Lo > x.Hi) || (decide (x.Lo < IntKind.i64.wrap (0 - most)) || decide (x.Hi > most))
def R139 (x:TEncl) (most:Int) (_S:SpecF) (_Fr:FreshF) (_Sq:SeqF) (Q:AV → List (List AV) → Prop):Prop :=
 (decide (x.Lo > x.Hi) = true → Q (.bool true) []) ∧ (decide (x.Lo > x.Hi) = false → (decide (x.Lo < IntKind.i64.wrap ((0:Int) - most)) = true → Q (.bool true) []) ∧ (decide (x.Lo < IntKind.i64.wrap ((0:Int) - most)) = false → Q (.bool (decide (x.Hi > most))) []))
theorem r139 (x:TEncl) (most:Int) (S:SpecF) (Fr:FreshF) (Sq:SeqF) (Q:AV → List (List AV) → Prop):awpF Tryz.prog (mkS Tryz.prog S Fr Sq ⟨[],[],[],[],[]⟩ 0) 0 ⟨[0,1,2,4],[],[],[]⟩ Tryz.f139 [x.av,.int .i64 most] [] Q = R139 x most S Fr Sq Q:=by kernel_rfl
theorem s139 (x:TEncl) (most:Int) (v:AV) (O:List (List AV)) (h:R139 x most (SpecOf Tryz.prog) (FreshOf Tryz.prog) (SeqOf Tryz.prog) (fun r O' => r = v ∧ O' = O)):SpecOf Tryz.prog 139 [x.av,.int .i64 most] [] v O :=
 spec_by (boxes:=[]) mixed (by exact trivial) Tryz.func139 Tryz.call139 rfl rfl rfl (Nat.le_of_ble_eq_true rfl) (r139 x most (SpecOf Tryz.prog) (FreshOf Tryz.prog) (SeqOf Tryz.prog) _) h
theorem c139 (x:TEncl) (most:Int):Sp 139 [x.av,.int .i64 most] [] (.bool (wildB x most)) []:=s139 x most _ _ (by
 unfold wildB
 refine ⟨fun h => ⟨?_,by trivial⟩,fun h => ⟨fun h2 => ⟨?_,by trivial⟩,fun h2 => ⟨?_,by trivial⟩⟩⟩
 ·rw [h]; rfl
 ·rw [h,h2]; rfl
 ·rw [h,h2]; rfl)
def topE (c:Bool) (e:TEncl):TEncl:=if c then ⟨e.Lo,100000000⟩ else e
def botE (c:Bool) (e:TEncl):TEncl:=if c then ⟨-100000000,e.Hi⟩ else e
def allE (a:TEncl) (more:Int):TEncl :=
 let lo:=IntKind.i64.wrap (a.Lo + more)
 let hi:=IntKind.i64.wrap (a.Hi + more)
 botE (decide (nextN 270000000 lo ≤ hi)) (topE (decide (nextN 90000000 lo ≤ hi)) (hullE (sineE lo) (sineE hi)))
def allR (a:TEncl) (more:Int):TEncl × Int:=if wildB a 3600000000 then (⟨0,0⟩,7) else (allE a more,0)
def R162 (a:TEncl) (more:Int) (S:SpecF) (_Fr:FreshF) (_Sq:SeqF) (Q:AV → List (List AV) → Prop):Prop :=
 ∃ b0,S 139 [a.av,.int .i64 3600000000] [] (.bool b0) [] ∧ (b0 = true → Q (.tup [TEncl.zero.av,.int .i64 7]) []) ∧ (b0 = false → ∃ n4 n5,S 144 [AV.int .i64 (IntKind.i64.wrap (a.Lo + more))] [] (.agg [AV.int .i64 n4,.int .i64 n5]) [] ∧ ∃ n7 n8,S 144 [AV.int .i64 (IntKind.i64.wrap (a.Hi + more))] [] (.agg [AV.int .i64 n7,.int .i64 n8]) [] ∧ ∃ n10 n11,S 166 [AV.agg [AV.int .i64 n4,.int .i64 n5],.slc 3 [AV.agg [AV.int .i64 n7,.int .i64 n8]]] [] (.agg [AV.int .i64 n10,.int .i64 n11]) [] ∧ ∃ n13 n14,S 174 [AV.int .i64 90000000,.ref 0 0] [[AV.int .i64 (IntKind.i64.wrap (a.Lo + more))]] (.int .i64 n13) [[AV.int .i64 n14]] ∧ (decide (n13 ≤ IntKind.i64.wrap (a.Hi + more)) = true → ∃ n18 n19,S 174 [AV.int .i64 270000000,.ref 0 0] [[AV.int .i64 n14]] (.int .i64 n18) [[AV.int .i64 n19]] ∧ (decide (n18 ≤ IntKind.i64.wrap (a.Hi + more)) = true → Q (.tup [AV.agg [AV.int .i64 (-100000000:Int),.int .i64 100000000],.int .i64 0]) []) ∧ (decide (n18 ≤ IntKind.i64.wrap (a.Hi + more)) = false → Q (.tup [AV.agg [AV.int .i64 n10,.int .i64 100000000],.int .i64 0]) [])) ∧ (decide (n13 ≤ IntKind.i64.wrap (a.Hi + more)) = false → ∃ n18 n19,S 174 [AV.int .i64 270000000,.ref 0 0] [[AV.int .i64 n14]] (.int .i64 n18) [[AV.int .i64 n19]] ∧ (decide (n18 ≤ IntKind.i64.wrap (a.Hi + more)) = true → Q (.tup [AV.agg [AV.int .i64 (-100000000:Int),.int .i64 n11],.int .i64 0]) []) ∧ (decide (n18 ≤ IntKind.i64.wrap (a.Hi + more)) = false → Q (.tup [AV.agg [AV.int .i64 n10,.int .i64 n11],.int .i64 0]) [])))
theorem r162 (a:TEncl) (more:Int) (S:SpecF) (Fr:FreshF) (Sq:SeqF) (Q:AV → List (List AV) → Prop):awpF Tryz.prog (mkS Tryz.prog S Fr Sq ⟨[],[],[],[],[]⟩ 0) 0 ⟨[0,1,2,4,5,6,7,8,9,11,31,36],[],[],[]⟩ Tryz.f162 [a.av,.int .i64 more] [] Q = R162 a more S Fr Sq Q:=by kernel_rfl
theorem s162 (a:TEncl) (more:Int) (v:AV) (O:List (List AV)) (h:R162 a more (SpecOf Tryz.prog) (FreshOf Tryz.prog) (SeqOf Tryz.prog) (fun r O' => r = v ∧ O' = O)):SpecOf Tryz.prog 162 [a.av,.int .i64 more] [] v O :=
 spec_by (boxes:=[]) mixed (by exact trivial) Tryz.func162 Tryz.call162 rfl rfl rfl (Nat.le_of_ble_eq_true rfl) (r162 a more (SpecOf Tryz.prog) (FreshOf Tryz.prog) (SeqOf Tryz.prog) _) h
theorem c162 (a:TEncl) (more:Int):Sp 162 [a.av,.int .i64 more] [] (.tup [(allR a more).1.av,.int .i64 (allR a more).2]) []:=s162 a more _ _ (by
 unfold R162
 refine ⟨_,c139 a 3600000000,fun h => ⟨?_,by trivial⟩,fun h => ?_⟩
 ·unfold allR; rw [if_pos h]; rfl
 have hj:=c166 (sineE (IntKind.i64.wrap (a.Lo + more))) [sineE (IntKind.i64.wrap (a.Hi + more))] (by simp)
 have e:allR a more = (allE a more,0):=by unfold allR; rw [h]; rfl
 rw [e]
 refine ⟨_,_,c144 _,_,_,c144 _,_,_,hj,_,_,c174 _ _,fun g => ⟨_,_,c174 _ _,fun g2 => ⟨?_,by trivial⟩,fun g2 => ⟨?_,by trivial⟩⟩,fun g => ⟨_,_,c174 _ _,fun g2 => ⟨?_,by trivial⟩,fun g2 => ⟨?_,by trivial⟩⟩⟩
 all_goals (unfold allE; dsimp only; rw [g,g2]; rfl))
def R137 (a:TEncl) (S:SpecF) (_Fr:FreshF) (_Sq:SeqF) (Q:AV → List (List AV) → Prop):Prop :=
 ∃ n0 n1 n2,S 162 [a.av,.int .i64 0] [] (.tup [AV.agg [AV.int .i64 n0,.int .i64 n1],.int .i64 n2]) [] ∧ Q (.tup [AV.agg [AV.int .i64 n0,.int .i64 n1],.int .i64 n2]) []
theorem r137 (a:TEncl) (S:SpecF) (Fr:FreshF) (Sq:SeqF) (Q:AV → List (List AV) → Prop):awpF Tryz.prog (mkS Tryz.prog S Fr Sq ⟨[],[],[],[],[]⟩ 0) 0 ⟨[0,1,2,3],[],[],[]⟩ Tryz.f137 [a.av] [] Q = R137 a S Fr Sq Q:=by kernel_rfl
theorem s137 (a:TEncl) (v:AV) (O:List (List AV)) (h:R137 a (SpecOf Tryz.prog) (FreshOf Tryz.prog) (SeqOf Tryz.prog) (fun r O' => r = v ∧ O' = O)):SpecOf Tryz.prog 137 [a.av] [] v O :=
 spec_by (boxes:=[]) mixed (by exact trivial) Tryz.func137 Tryz.call137 rfl rfl rfl (Nat.le_of_ble_eq_true rfl) (r137 a (SpecOf Tryz.prog) (FreshOf Tryz.prog) (SeqOf Tryz.prog) _) h
theorem c137 (a:TEncl):Sp 137 [a.av] [] (.tup [(allR a 0).1.av,.int .i64 (allR a 0).2]) []:=s137 a _ _ ⟨_,_,_,c162 a 0,rfl,rfl⟩
def R142 (a:TEncl) (S:SpecF) (_Fr:FreshF) (_Sq:SeqF) (Q:AV → List (List AV) → Prop):Prop :=
 ∃ n0 n1 n2,S 162 [a.av,.int .i64 90000000] [] (.tup [AV.agg [AV.int .i64 n0,.int .i64 n1],.int .i64 n2]) [] ∧ Q (.tup [AV.agg [AV.int .i64 n0,.int .i64 n1],.int .i64 n2]) []
theorem r142 (a:TEncl) (S:SpecF) (Fr:FreshF) (Sq:SeqF) (Q:AV → List (List AV) → Prop):awpF Tryz.prog (mkS Tryz.prog S Fr Sq ⟨[],[],[],[],[]⟩ 0) 0 ⟨[0,1,2,3],[],[],[]⟩ Tryz.f142 [a.av] [] Q = R142 a S Fr Sq Q:=by kernel_rfl
theorem s142 (a:TEncl) (v:AV) (O:List (List AV)) (h:R142 a (SpecOf Tryz.prog) (FreshOf Tryz.prog) (SeqOf Tryz.prog) (fun r O' => r = v ∧ O' = O)):SpecOf Tryz.prog 142 [a.av] [] v O :=
 spec_by (boxes:=[]) mixed (by exact trivial) Tryz.func142 Tryz.call142 rfl rfl rfl (Nat.le_of_ble_eq_true rfl) (r142 a (SpecOf Tryz.prog) (FreshOf Tryz.prog) (SeqOf Tryz.prog) _) h
theorem c142 (a:TEncl):Sp 142 [a.av] [] (.tup [(allR a 90000000).1.av,.int .i64 (allR a 90000000).2]) []:=s142 a _ _ ⟨_,_,_,c162 a 90000000,rfl,rfl⟩
end Go.Proofs.YtblebiafhhhflaaGreat
