/- Contracts: where the sun is. Contracts: when the sun sets and rises, nights. Contracts: nights. -/
import Derived.Test.YtblebiafhhhflaaGreatEc
namespace Go.Proofs.YtblebiafhhhflaaGreat
open Go.RowKit
def outB (n lo hi:Int):Bool:=decide (n < lo) || decide (n > hi)
def R34 (n:Int) (lo:Int) (hi:Int) (_S:SpecF) (_Fr:FreshF) (_Sq:SeqF) (Q:AV → List (List AV) → Prop):Prop :=
 (decide (n < lo) = true → Q (.bool true) []) ∧ (decide (n < lo) = false → Q (.bool (decide (n > hi))) [])
theorem r34 (n:Int) (lo:Int) (hi:Int) (S:SpecF) (Fr:FreshF) (Sq:SeqF) (Q:AV → List (List AV) → Prop):awpF Tryz.prog (mkS Tryz.prog S Fr Sq ⟨[],[],[],[],[]⟩ 0) 0 ⟨[0,1,2,6],[],[],[]⟩ Tryz.f34 [.int .i64 n,.int .i64 lo,.int .i64 hi] [] Q = R34 n lo hi S Fr Sq Q:=by kernel_rfl
theorem s34 (n:Int) (lo:Int) (hi:Int) (v:AV) (O:List (List AV)) (h:R34 n lo hi (SpecOf Tryz.prog) (FreshOf Tryz.prog) (SeqOf Tryz.prog) (fun r O' => r = v ∧ O' = O)):SpecOf Tryz.prog 34 [.int .i64 n,.int .i64 lo,.int .i64 hi] [] v O :=
 spec_by (boxes:=[]) mixed (by exact trivial) Tryz.func34 Tryz.call34 rfl rfl rfl (Nat.le_of_ble_eq_true rfl) (r34 n lo hi (SpecOf Tryz.prog) (FreshOf Tryz.prog) (SeqOf Tryz.prog) _) h
theorem c34 (n lo hi:Int):Sp 34 [.int .i64 n,.int .i64 lo,.int .i64 hi] [] (.bool (outB n lo hi)) []:=s34 n lo hi _ _ (by
 unfold R34 outB
 refine ⟨fun h => ⟨?_,by trivial⟩,fun h => ⟨?_,by trivial⟩⟩
 ·rw [h]; rfl
 ·rw [h]; rfl)
def cityB (c:TSnCity):Bool:=outB c.Lat (-88000000) 88000000 || (outB c.Lon (-180000000) 180000000 || (outB c.Zone (-50400) 50400 || (outB c.Altitude.Hi (-18000000) 0 || outB c.Altitude.Lo (-18000000) c.Altitude.Hi)))
def R33 (c:TSnCity) (S:SpecF) (_Fr:FreshF) (_Sq:SeqF) (Q:AV → List (List AV) → Prop):Prop :=
 ∃ b0,S 34 [AV.int .i64 c.Lat,.int .i64 (-88000000:Int),.int .i64 88000000] [] (.bool b0) [] ∧ (b0 = true → Q (.int .i64 7) []) ∧ (b0 = false → ∃ b4,S 34 [AV.int .i64 c.Lon,.int .i64 (-180000000:Int),.int .i64 180000000] [] (.bool b4) [] ∧ (b4 = true → Q (.int .i64 7) []) ∧ (b4 = false → ∃ b8,S 34 [AV.int .i64 c.Zone,.int .i64 (-50400:Int),.int .i64 50400] [] (.bool b8) [] ∧ (b8 = true → Q (.int .i64 7) []) ∧ (b8 = false → ∃ b12,S 34 [AV.int .i64 c.Altitude.Hi,.int .i64 (-18000000:Int),.int .i64 0] [] (.bool b12) [] ∧ (b12 = true → Q (.int .i64 7) []) ∧ (b12 = false → ∃ b16,S 34 [AV.int .i64 c.Altitude.Lo,.int .i64 (-18000000:Int),.int .i64 c.Altitude.Hi] [] (.bool b16) [] ∧ (b16 = true → Q (.int .i64 7) []) ∧ (b16 = false → Q (.int .i64 0) [])))))
theorem r33 (c:TSnCity) (S:SpecF) (Fr:FreshF) (Sq:SeqF) (Q:AV → List (List AV) → Prop):awpF Tryz.prog (mkS Tryz.prog S Fr Sq ⟨[],[],[],[],[]⟩ 0) 0 ⟨[0,1,2,3,30],[],[],[]⟩ Tryz.f33 [c.av] [] Q = R33 c S Fr Sq Q:=by kernel_rfl
theorem s33 (c:TSnCity) (v:AV) (O:List (List AV)) (h:R33 c (SpecOf Tryz.prog) (FreshOf Tryz.prog) (SeqOf Tryz.prog) (fun r O' => r = v ∧ O' = O)):SpecOf Tryz.prog 33 [c.av] [] v O :=
 spec_by (boxes:=[]) mixed (by exact trivial) Tryz.func33 Tryz.call33 rfl rfl rfl (Nat.le_of_ble_eq_true rfl) (r33 c (SpecOf Tryz.prog) (FreshOf Tryz.prog) (SeqOf Tryz.prog) _) h
theorem c33 (c:TSnCity):Sp 33 [c.av] [] (.int .i64 (if cityB c then 7 else 0)) []:=s33 c _ _ (by
 unfold R33 cityB
 refine ⟨_,c34 ..,fun h => ⟨?_,by trivial⟩,fun h1 => ⟨_,c34 ..,fun h => ⟨?_,by trivial⟩,fun h2 => ⟨_,c34 ..,fun h => ⟨?_,by trivial⟩,fun h3 => ⟨_,c34 ..,fun h => ⟨?_,by trivial⟩,fun h4 => ⟨_,c34 ..,fun h => ⟨?_,by trivial⟩,fun h => ⟨?_,by trivial⟩⟩⟩⟩⟩⟩
 ·rw [h]; rfl
 ·rw [h1,h]; rfl
 ·rw [h1,h2,h]; rfl
 ·rw [h1,h2,h3,h]; rfl
 ·rw [h1,h2,h3,h4,h]; rfl
 ·rw [h1,h2,h3,h4,h]; rfl)
def quotE (a b:Int):Int:=if a.tmod b < 0 then IntKind.i64.wrap (IntKind.i64.wrap (a.tdiv b) - 1) else IntKind.i64.wrap (a.tdiv b)
def R146 (a:Int) (b:Int) (_S:SpecF) (_Fr:FreshF) (_Sq:SeqF) (Q:AV → List (List AV) → Prop):Prop :=
 b ≠ 0 ∧ b ≠ 0 ∧ (decide (a.tmod b < 0) = true → Q (.int .i64 (IntKind.i64.wrap (IntKind.i64.wrap (a.tdiv b) - 1))) []) ∧ (decide (a.tmod b < 0) = false → Q (.int .i64 (IntKind.i64.wrap (a.tdiv b))) [])
theorem r146 (a:Int) (b:Int) (S:SpecF) (Fr:FreshF) (Sq:SeqF) (Q:AV → List (List AV) → Prop):awpF Tryz.prog (mkS Tryz.prog S Fr Sq ⟨[],[],[],[],[]⟩ 0) 0 ⟨[0,1,4,5,12],[],[],[]⟩ Tryz.f146 [.int .i64 a,.int .i64 b] [] Q = R146 a b S Fr Sq Q:=by kernel_rfl
theorem s146 (a:Int) (b:Int) (v:AV) (O:List (List AV)) (h:R146 a b (SpecOf Tryz.prog) (FreshOf Tryz.prog) (SeqOf Tryz.prog) (fun r O' => r = v ∧ O' = O)):SpecOf Tryz.prog 146 [.int .i64 a,.int .i64 b] [] v O :=
 spec_by (boxes:=[]) mixed (by exact trivial) Tryz.func146 Tryz.call146 rfl rfl rfl (Nat.le_of_ble_eq_true rfl) (r146 a b (SpecOf Tryz.prog) (FreshOf Tryz.prog) (SeqOf Tryz.prog) _) h
theorem c146 (a b:Int) (hb:b ≠ 0):Sp 146 [.int .i64 a,.int .i64 b] [] (.int .i64 (quotE a b)) []:=s146 a b _ _ (by
 unfold R146 quotE
 refine ⟨hb,hb,fun h => ⟨?_,by trivial⟩,fun h => ⟨?_,by trivial⟩⟩
 ·rw [if_pos (of_decide_eq_true h)]
 ·rw [if_neg (of_decide_eq_false h)])
def scaleE (x:TEncl) (n d:Int):TEncl:=⟨quotE (IntKind.i64.wrap (n * x.Lo)) d,IntKind.i64.wrap (0 - quotE (IntKind.i64.wrap (IntKind.i64.wrap (0 - n) * x.Hi)) d)⟩
def R111 (x:TEncl) (n:Int) (d:Int) (S:SpecF) (_Fr:FreshF) (_Sq:SeqF) (Q:AV → List (List AV) → Prop):Prop :=
 ∃ n0,S 146 [AV.int .i64 (IntKind.i64.wrap (n * x.Lo)),.int .i64 d] [] (.int .i64 n0) [] ∧ ∃ n2,S 146 [AV.int .i64 (IntKind.i64.wrap (IntKind.i64.wrap ((0:Int) - n) * x.Hi)),.int .i64 d] [] (.int .i64 n2) [] ∧ Q (.agg [AV.int .i64 n0,.int .i64 (IntKind.i64.wrap ((0:Int) - n2))]) []
theorem r111 (x:TEncl) (n:Int) (d:Int) (S:SpecF) (Fr:FreshF) (Sq:SeqF) (Q:AV → List (List AV) → Prop):awpF Tryz.prog (mkS Tryz.prog S Fr Sq ⟨[],[],[],[],[]⟩ 0) 0 ⟨[0,1,2,3,6],[],[],[]⟩ Tryz.f111 [x.av,.int .i64 n,.int .i64 d] [] Q = R111 x n d S Fr Sq Q:=by kernel_rfl
theorem s111 (x:TEncl) (n:Int) (d:Int) (v:AV) (O:List (List AV)) (h:R111 x n d (SpecOf Tryz.prog) (FreshOf Tryz.prog) (SeqOf Tryz.prog) (fun r O' => r = v ∧ O' = O)):SpecOf Tryz.prog 111 [x.av,.int .i64 n,.int .i64 d] [] v O :=
 spec_by (boxes:=[]) mixed (by exact trivial) Tryz.func111 Tryz.call111 rfl rfl rfl (Nat.le_of_ble_eq_true rfl) (r111 x n d (SpecOf Tryz.prog) (FreshOf Tryz.prog) (SeqOf Tryz.prog) _) h
theorem c111 (x:TEncl) (n d:Int) (hd:d ≠ 0):Sp 111 [x.av,.int .i64 n,.int .i64 d] [] (scaleE x n d).av []:=s111 x n d _ _ ⟨_,c146 _ _ hd,_,c146 _ _ hd,rfl,rfl⟩
def moveE (x:TEncl) (n:Int):TEncl:=⟨IntKind.i64.wrap (x.Lo + n),IntKind.i64.wrap (x.Hi + n)⟩
def R110 (x:TEncl) (n:Int) (_S:SpecF) (_Fr:FreshF) (_Sq:SeqF) (Q:AV → List (List AV) → Prop):Prop :=
 Q (.agg [AV.int .i64 (IntKind.i64.wrap (x.Lo + n)),.int .i64 (IntKind.i64.wrap (x.Hi + n))]) []
theorem r110 (x:TEncl) (n:Int) (S:SpecF) (Fr:FreshF) (Sq:SeqF) (Q:AV → List (List AV) → Prop):awpF Tryz.prog (mkS Tryz.prog S Fr Sq ⟨[],[],[],[],[]⟩ 0) 0 ⟨[0,1,2,4],[],[],[]⟩ Tryz.f110 [x.av,.int .i64 n] [] Q = R110 x n S Fr Sq Q:=by kernel_rfl
theorem s110 (x:TEncl) (n:Int) (v:AV) (O:List (List AV)) (h:R110 x n (SpecOf Tryz.prog) (FreshOf Tryz.prog) (SeqOf Tryz.prog) (fun r O' => r = v ∧ O' = O)):SpecOf Tryz.prog 110 [x.av,.int .i64 n] [] v O :=
 spec_by (boxes:=[]) mixed (by exact trivial) Tryz.func110 Tryz.call110 rfl rfl rfl (Nat.le_of_ble_eq_true rfl) (r110 x n (SpecOf Tryz.prog) (FreshOf Tryz.prog) (SeqOf Tryz.prog) _) h
theorem c110 (x:TEncl) (n:Int):Sp 110 [x.av,.int .i64 n] [] (moveE x n).av []:=s110 x n _ _ ⟨rfl,rfl⟩
def addE' (x y:TEncl):TEncl:=⟨IntKind.i64.wrap (x.Lo + y.Lo),IntKind.i64.wrap (x.Hi + y.Hi)⟩
def sumE (l:List TEncl):TEncl:=l.foldl addE' ⟨0,0⟩
def R103 (l:List TEncl) (_S:SpecF) (_Fr:FreshF) (_Sq:SeqF) (Q:AV → List (List AV) → Prop):Prop :=
 ∃ (I0:Nat → List AV → Prop),(∃ m2,I0 m2 [AV.int .i64 0,TEncl.zero.av]) ∧ ∀ (m2:Nat) (n3 n4 n5:Int),I0 m2 [AV.int .i64 n3,.agg [AV.int .i64 n4,.int .i64 n5]] → (decide (n3 < (↑(List.map TEncl.av l).length:Int)) = true → ∃ n9 n10,((0:Int) ≤ n3 ∧ (2:Nat) = (2:Nat) ∧ (List.map TEncl.av l)[n3.toNat]? = some (.agg [AV.int .i64 n9,.int .i64 n10])) ∧ ∃ k12,k12 < m2 ∧ I0 k12 [AV.int .i64 (IntKind.i64.wrap (n3 + 1)),.agg [AV.int .i64 (IntKind.i64.wrap (n4 + n9)),.int .i64 (IntKind.i64.wrap (n5 + n10))]]) ∧ (decide (n3 < (↑(List.map TEncl.av l).length:Int)) = false → Q (.agg [AV.int .i64 n4,.int .i64 n5]) [])
theorem r103 (l:List TEncl) (S:SpecF) (Fr:FreshF) (Sq:SeqF) (Q:AV → List (List AV) → Prop):awpF Tryz.prog (mkS Tryz.prog S Fr Sq ⟨[],[],[],[],[]⟩ 0) 0 ⟨[0,2,4,5,6,7,8],[⟨2,[(7,.int .i64 0)],[],[(2,.agg [.int .i64 0,.int .i64 0])],[],[]⟩],[],[]⟩ Tryz.f103 [.slc 3 (List.map TEncl.av l)] [] Q = R103 l S Fr Sq Q:=by kernel_rfl
theorem s103 (l:List TEncl) (v:AV) (O:List (List AV)) (h:R103 l (SpecOf Tryz.prog) (FreshOf Tryz.prog) (SeqOf Tryz.prog) (fun r O' => r = v ∧ O' = O)):SpecOf Tryz.prog 103 [.slc 3 (List.map TEncl.av l)] [] v O :=
 spec_by (boxes:=[]) mixed (by exact trivial) Tryz.func103 Tryz.call103 rfl rfl rfl (Nat.le_of_ble_eq_true rfl) (r103 l (SpecOf Tryz.prog) (FreshOf Tryz.prog) (SeqOf Tryz.prog) _) h
theorem c103 (l:List TEncl) (hl:l.length ≤ 1000000):Sp 103 [.slc 3 (l.map TEncl.av)] [] (sumE l).av []:=s103 l _ _ (by
 unfold R103 sumE
 refine ⟨fun m vs => ∃ k:Nat,k ≤ l.length ∧ m = l.length - k ∧ vs = [.int .i64 k,((l.take k).foldl addE' ⟨0,0⟩).av],⟨_,0,by omega,rfl,rfl⟩,?_⟩
 rintro m n3 n4 n5 ⟨k,hk,rfl,hv⟩
 generalize he:(l.take k).foldl addE' ⟨0,0⟩ = e at hv
 have hv':=hv
 unfold TEncl.av TEncl.cs at hv'
 simp only [List.cons.injEq,AV.int.injEq,true_and,AV.agg.injEq,and_true] at hv'
 obtain ⟨rfl,rfl,rfl⟩:=hv'
 simp only [List.length_map]
 refine ⟨fun g => ?_,fun g => ?_⟩
 ·have hlt:k < l.length:=by simpa using g
  obtain ⟨y,hy,hy'⟩:=map_getN (f:=TEncl.av) hlt
  refine ⟨y.Lo,y.Hi,⟨by omega,by trivial,hy'⟩,_,(by omega:l.length - (k + 1) < l.length - k),k + 1,by omega,rfl,?_⟩
  rw [wrapN (by omega),fold_take addE' _ hy,he]; rfl
 ·obtain rfl:k = l.length:=by simp at g; omega
  rw [List.take_length] at he
  subst he
  exact ⟨rfl,by trivial⟩)
def R105 (x:TEncl) (_S:SpecF) (_Fr:FreshF) (_Sq:SeqF) (Q:AV → List (List AV) → Prop):Prop :=
 Q (.agg [AV.int .i64 (IntKind.i64.wrap ((0:Int) - x.Hi)),.int .i64 (IntKind.i64.wrap ((0:Int) - x.Lo))]) []
theorem r105 (x:TEncl) (S:SpecF) (Fr:FreshF) (Sq:SeqF) (Q:AV → List (List AV) → Prop):awpF Tryz.prog (mkS Tryz.prog S Fr Sq ⟨[],[],[],[],[]⟩ 0) 0 ⟨[0,1,2],[],[],[]⟩ Tryz.f105 [x.av] [] Q = R105 x S Fr Sq Q:=by kernel_rfl
theorem s105 (x:TEncl) (v:AV) (O:List (List AV)) (h:R105 x (SpecOf Tryz.prog) (FreshOf Tryz.prog) (SeqOf Tryz.prog) (fun r O' => r = v ∧ O' = O)):SpecOf Tryz.prog 105 [x.av] [] v O :=
 spec_by (boxes:=[]) mixed (by exact trivial) Tryz.func105 Tryz.call105 rfl rfl rfl (Nat.le_of_ble_eq_true rfl) (r105 x (SpecOf Tryz.prog) (FreshOf Tryz.prog) (SeqOf Tryz.prog) _) h
theorem c105 (e:TEncl):Sp 105 [e.av] [] (oppE e).av []:=s105 e _ _ ⟨rfl,rfl⟩
def turnE (x:TEncl):TEncl:=moveE x (IntKind.i64.wrap (-360000000 * quotE x.Lo 360000000))
def R134 (x:TEncl) (S:SpecF) (_Fr:FreshF) (_Sq:SeqF) (Q:AV → List (List AV) → Prop):Prop :=
 ∃ n0,S 146 [AV.int .i64 x.Lo,.int .i64 360000000] [] (.int .i64 n0) [] ∧ ∃ n2 n3,S 110 [x.av,.int .i64 (IntKind.i64.wrap ((-360000000:Int) * n0))] [] (.agg [AV.int .i64 n2,.int .i64 n3]) [] ∧ Q (.agg [AV.int .i64 n2,.int .i64 n3]) []
theorem r134 (x:TEncl) (S:SpecF) (Fr:FreshF) (Sq:SeqF) (Q:AV → List (List AV) → Prop):awpF Tryz.prog (mkS Tryz.prog S Fr Sq ⟨[],[],[],[],[]⟩ 0) 0 ⟨[0,1,2],[],[],[]⟩ Tryz.f134 [x.av] [] Q = R134 x S Fr Sq Q:=by kernel_rfl
theorem s134 (x:TEncl) (v:AV) (O:List (List AV)) (h:R134 x (SpecOf Tryz.prog) (FreshOf Tryz.prog) (SeqOf Tryz.prog) (fun r O' => r = v ∧ O' = O)):SpecOf Tryz.prog 134 [x.av] [] v O :=
 spec_by (boxes:=[]) mixed (by exact trivial) Tryz.func134 Tryz.call134 rfl rfl rfl (Nat.le_of_ble_eq_true rfl) (r134 x (SpecOf Tryz.prog) (FreshOf Tryz.prog) (SeqOf Tryz.prog) _) h
theorem c134 (x:TEncl):Sp 134 [x.av] [] (turnE x).av []:=s134 x _ _ ⟨_,c146 _ _ (by omega),_,_,c110 _ _,rfl,rfl⟩
def R100 (n:Int) (_S:SpecF) (_Fr:FreshF) (_Sq:SeqF) (Q:AV → List (List AV) → Prop):Prop :=
 Q (.agg [AV.int .i64 n,.int .i64 n]) []
theorem r100 (n:Int) (S:SpecF) (Fr:FreshF) (Sq:SeqF) (Q:AV → List (List AV) → Prop):awpF Tryz.prog (mkS Tryz.prog S Fr Sq ⟨[],[],[],[],[]⟩ 0) 0 ⟨[0,2],[],[],[]⟩ Tryz.f100 [.int .i64 n] [] Q = R100 n S Fr Sq Q:=by kernel_rfl
theorem s100 (n:Int) (v:AV) (O:List (List AV)) (h:R100 n (SpecOf Tryz.prog) (FreshOf Tryz.prog) (SeqOf Tryz.prog) (fun r O' => r = v ∧ O' = O)):SpecOf Tryz.prog 100 [.int .i64 n] [] v O :=
 spec_by (boxes:=[]) mixed (by exact trivial) Tryz.func100 Tryz.call100 rfl rfl rfl (Nat.le_of_ble_eq_true rfl) (r100 n (SpecOf Tryz.prog) (FreshOf Tryz.prog) (SeqOf Tryz.prog) _) h
theorem c100 (n:Int):Sp 100 [.int .i64 n] [] (TEncl.mk n n).av []:=s100 n _ _ ⟨rfl,rfl⟩
def slackE:TEncl:=⟨-10000,10000⟩
def R135  (_S:SpecF) (_Fr:FreshF) (_Sq:SeqF) (Q:AV → List (List AV) → Prop):Prop :=
 Q (.agg [AV.int .i64 (-10000:Int),.int .i64 10000]) []
theorem r135  (S:SpecF) (Fr:FreshF) (Sq:SeqF) (Q:AV → List (List AV) → Prop):awpF Tryz.prog (mkS Tryz.prog S Fr Sq ⟨[],[],[],[],[]⟩ 0) 0 ⟨[0],[],[],[]⟩ Tryz.f135 [] [] Q = R135  S Fr Sq Q:=by kernel_rfl
theorem s135  (v:AV) (O:List (List AV)) (h:R135  (SpecOf Tryz.prog) (FreshOf Tryz.prog) (SeqOf Tryz.prog) (fun r O' => r = v ∧ O' = O)):SpecOf Tryz.prog 135 [] [] v O :=
 spec_by (boxes:=[]) mixed (by exact trivial) Tryz.func135 Tryz.call135 rfl rfl rfl (Nat.le_of_ble_eq_true rfl) (r135  (SpecOf Tryz.prog) (FreshOf Tryz.prog) (SeqOf Tryz.prog) _) h
theorem c135:Sp 135 [] [] slackE.av []:=s135 _ _ ⟨rfl,rfl⟩
def R104 (x:TEncl) (S:SpecF) (_Fr:FreshF) (_Sq:SeqF) (Q:AV → List (List AV) → Prop):Prop :=
 ∃ n0 n1 n2,S 137 [x.av] [] (.tup [AV.agg [AV.int .i64 n0,.int .i64 n1],.int .i64 n2]) [] ∧ Q (.agg [AV.int .i64 n0,.int .i64 n1]) []
theorem r104 (x:TEncl) (S:SpecF) (Fr:FreshF) (Sq:SeqF) (Q:AV → List (List AV) → Prop):awpF Tryz.prog (mkS Tryz.prog S Fr Sq ⟨[],[],[],[],[]⟩ 0) 0 ⟨[0,1,2,3],[],[],[]⟩ Tryz.f104 [x.av] [] Q = R104 x S Fr Sq Q:=by kernel_rfl
theorem s104 (x:TEncl) (v:AV) (O:List (List AV)) (h:R104 x (SpecOf Tryz.prog) (FreshOf Tryz.prog) (SeqOf Tryz.prog) (fun r O' => r = v ∧ O' = O)):SpecOf Tryz.prog 104 [x.av] [] v O :=
 spec_by (boxes:=[]) mixed (by exact trivial) Tryz.func104 Tryz.call104 rfl rfl rfl (Nat.le_of_ble_eq_true rfl) (r104 x (SpecOf Tryz.prog) (FreshOf Tryz.prog) (SeqOf Tryz.prog) _) h
theorem c104 (x:TEncl):Sp 104 [x.av] [] (allR x 0).1.av []:=s104 x _ _ ⟨_,_,_,c137 x,rfl,rfl⟩
def R108 (x:TEncl) (S:SpecF) (_Fr:FreshF) (_Sq:SeqF) (Q:AV → List (List AV) → Prop):Prop :=
 ∃ n0 n1 n2,S 142 [x.av] [] (.tup [AV.agg [AV.int .i64 n0,.int .i64 n1],.int .i64 n2]) [] ∧ Q (.agg [AV.int .i64 n0,.int .i64 n1]) []
theorem r108 (x:TEncl) (S:SpecF) (Fr:FreshF) (Sq:SeqF) (Q:AV → List (List AV) → Prop):awpF Tryz.prog (mkS Tryz.prog S Fr Sq ⟨[],[],[],[],[]⟩ 0) 0 ⟨[0,1,2,3],[],[],[]⟩ Tryz.f108 [x.av] [] Q = R108 x S Fr Sq Q:=by kernel_rfl
theorem s108 (x:TEncl) (v:AV) (O:List (List AV)) (h:R108 x (SpecOf Tryz.prog) (FreshOf Tryz.prog) (SeqOf Tryz.prog) (fun r O' => r = v ∧ O' = O)):SpecOf Tryz.prog 108 [x.av] [] v O :=
 spec_by (boxes:=[]) mixed (by exact trivial) Tryz.func108 Tryz.call108 rfl rfl rfl (Nat.le_of_ble_eq_true rfl) (r108 x (SpecOf Tryz.prog) (FreshOf Tryz.prog) (SeqOf Tryz.prog) _) h
theorem c108 (x:TEncl):Sp 108 [x.av] [] (allR x 90000000).1.av []:=s108 x _ _ ⟨_,_,_,c142 x,rfl,rfl⟩
def prodE (x:TEncl) (l:List TEncl):TEncl:=l.foldl (fun x y => (timesR x y).1) x
def R106 (x:TEncl) (l:List TEncl) (S:SpecF) (_Fr:FreshF) (_Sq:SeqF) (Q:AV → List (List AV) → Prop):Prop :=
 ∃ (I0:Nat → List AV → Prop),(∃ m2,I0 m2 [AV.int .i64 0,x.av]) ∧ ∀ (m2:Nat) (n3 n4 n5:Int),I0 m2 [AV.int .i64 n3,.agg [AV.int .i64 n4,.int .i64 n5]] → (decide (n3 < (↑(List.map TEncl.av l).length:Int)) = true → ∃ n9 n10,((0:Int) ≤ n3 ∧ (2:Nat) = (2:Nat) ∧ (List.map TEncl.av l)[n3.toNat]? = some (.agg [AV.int .i64 n9,.int .i64 n10])) ∧ ∃ n12 n13 n14,S 138 [AV.agg [AV.int .i64 n4,.int .i64 n5],.agg [AV.int .i64 n9,.int .i64 n10]] [] (.tup [AV.agg [AV.int .i64 n12,.int .i64 n13],.int .i64 n14]) [] ∧ TEncl.z0 = TEncl.z0 ∧ ∃ k17,k17 < m2 ∧ I0 k17 [AV.int .i64 (IntKind.i64.wrap (n3 + 1)),.agg [AV.int .i64 n12,.int .i64 n13]]) ∧ (decide (n3 < (↑(List.map TEncl.av l).length:Int)) = false → Q (.agg [AV.int .i64 n4,.int .i64 n5]) [])
theorem r106 (x:TEncl) (l:List TEncl) (S:SpecF) (Fr:FreshF) (Sq:SeqF) (Q:AV → List (List AV) → Prop):awpF Tryz.prog (mkS Tryz.prog S Fr Sq ⟨[],[],[],[],[]⟩ 0) 0 ⟨[0,1,2,4,6,7,8,9,10],[⟨2,[(9,.int .i64 0)],[],[(2,.agg [.int .i64 0,.int .i64 0])],[],[]⟩],[],[]⟩ Tryz.f106 [x.av,.slc 3 (List.map TEncl.av l)] [] Q = R106 x l S Fr Sq Q:=by kernel_rfl
theorem s106 (x:TEncl) (l:List TEncl) (v:AV) (O:List (List AV)) (h:R106 x l (SpecOf Tryz.prog) (FreshOf Tryz.prog) (SeqOf Tryz.prog) (fun r O' => r = v ∧ O' = O)):SpecOf Tryz.prog 106 [x.av,.slc 3 (List.map TEncl.av l)] [] v O :=
 spec_by (boxes:=[]) mixed (by exact trivial) Tryz.func106 Tryz.call106 rfl rfl rfl (Nat.le_of_ble_eq_true rfl) (r106 x l (SpecOf Tryz.prog) (FreshOf Tryz.prog) (SeqOf Tryz.prog) _) h
theorem c106 (x:TEncl) (l:List TEncl) (hl:l.length ≤ 1000000):Sp 106 [x.av,.slc 3 (l.map TEncl.av)] [] (prodE x l).av []:=s106 x l _ _ (by
 unfold R106 prodE
 refine ⟨fun m vs => ∃ k:Nat,k ≤ l.length ∧ m = l.length - k ∧ vs = [.int .i64 k,((l.take k).foldl (fun x y => (timesR x y).1) x).av],⟨_,0,by omega,rfl,rfl⟩,?_⟩
 rintro m n3 n4 n5 ⟨k,hk,rfl,hv⟩
 generalize he:(l.take k).foldl (fun x y => (timesR x y).1) x = e at hv
 have hv':=hv
 unfold TEncl.av TEncl.cs at hv'
 simp only [List.cons.injEq,AV.int.injEq,true_and,AV.agg.injEq,and_true] at hv'
 obtain ⟨rfl,rfl,rfl⟩:=hv'
 simp only [List.length_map]
 refine ⟨fun g => ?_,fun g => ?_⟩
 ·have hlt:k < l.length:=by simpa using g
  obtain ⟨y,hy,hy'⟩:=map_getN (f:=TEncl.av) hlt
  refine ⟨y.Lo,y.Hi,⟨by omega,by trivial,hy'⟩,_,_,_,c138 e y,by trivial,_,(by omega:l.length - (k + 1) < l.length - k),k + 1,by omega,rfl,?_⟩
  rw [wrapN (by omega),fold_take (fun x y => (timesR x y).1) _ hy,he]; rfl
 ·obtain rfl:k = l.length:=by simp at g; omega
  rw [List.take_length] at he
  subst he
  exact ⟨rfl,by trivial⟩)
def waveE (size times:Int) (x:TEncl):TEncl:=scaleE (allR (scaleE x times 1) 0).1 size 100000000
def R133 (size:Int) (times:Int) (x:TEncl) (S:SpecF) (_Fr:FreshF) (_Sq:SeqF) (Q:AV → List (List AV) → Prop):Prop :=
 ∃ n0 n1,S 111 [x.av,.int .i64 times,.int .i64 1] [] (.agg [AV.int .i64 n0,.int .i64 n1]) [] ∧ ∃ n3 n4,S 104 [AV.agg [AV.int .i64 n0,.int .i64 n1]] [] (.agg [AV.int .i64 n3,.int .i64 n4]) [] ∧ ∃ n6 n7,S 111 [AV.agg [AV.int .i64 n3,.int .i64 n4],.int .i64 size,.int .i64 100000000] [] (.agg [AV.int .i64 n6,.int .i64 n7]) [] ∧ Q (.agg [AV.int .i64 n6,.int .i64 n7]) []
theorem r133 (size:Int) (times:Int) (x:TEncl) (S:SpecF) (Fr:FreshF) (Sq:SeqF) (Q:AV → List (List AV) → Prop):awpF Tryz.prog (mkS Tryz.prog S Fr Sq ⟨[],[],[],[],[]⟩ 0) 0 ⟨[0,1,2,5,6],[],[],[]⟩ Tryz.f133 [.int .i64 size,.int .i64 times,x.av] [] Q = R133 size times x S Fr Sq Q:=by kernel_rfl
theorem s133 (size:Int) (times:Int) (x:TEncl) (v:AV) (O:List (List AV)) (h:R133 size times x (SpecOf Tryz.prog) (FreshOf Tryz.prog) (SeqOf Tryz.prog) (fun r O' => r = v ∧ O' = O)):SpecOf Tryz.prog 133 [.int .i64 size,.int .i64 times,x.av] [] v O :=
 spec_by (boxes:=[]) mixed (by exact trivial) Tryz.func133 Tryz.call133 rfl rfl rfl (Nat.le_of_ble_eq_true rfl) (r133 size times x (SpecOf Tryz.prog) (FreshOf Tryz.prog) (SeqOf Tryz.prog) _) h
theorem c133 (size times:Int) (x:TEncl):Sp 133 [.int .i64 size,.int .i64 times,x.av] [] (waveE size times x).av []:=s133 size times x _ _ ⟨_,_,c111 x times 1 (by omega),_,_,c104 _,_,_,c111 _ size 100000000 (by omega),rfl,rfl⟩
end Go.Proofs.YtblebiafhhhflaaGreat
namespace Go.Proofs.YtblebiafhhhflaaGreat
open Go.RowKit
def lonE (w:TEncl):TEncl:=turnE (moveE (scaleE w 98564736 8640000) 280459000)
def anomE (w:TEncl):TEncl:=turnE (moveE (scaleE w 98560028 8640000) 357528000)
def centE (w:TEncl):TEncl:=sumE [waveE 1915000 1 (anomE w),waveE 20000 2 (anomE w)]
def eclE (w:TEncl):TEncl:=turnE (sumE [lonE w,centE w,slackE])
def tiltE (w:TEncl):TEncl:=moveE (oppE (scaleE w 36 8640000)) 23439000
def declE (w:TEncl):TEncl:=prodE (allR (tiltE w) 0).1 [(allR (eclE w) 0).1]
def skyE (w:TEncl):TSky:=⟨declE w,(allR (arcsinR (declE w)).1 90000000).1,sumE [waveE 2466000 2 (eclE w),oppE (centE w),oppE (waveE 53000 4 (eclE w)),slackE]⟩
def R102 (w:TEncl) (S:SpecF) (_Fr:FreshF) (_Sq:SeqF) (Q:AV → List (List AV) → Prop):Prop :=
 ∃ n0 n1,S 111 [w.av,.int .i64 98560028,.int .i64 8640000] [] (.agg [AV.int .i64 n0,.int .i64 n1]) [] ∧ ∃ n3 n4,S 110 [AV.agg [AV.int .i64 n0,.int .i64 n1],.int .i64 357528000] [] (.agg [AV.int .i64 n3,.int .i64 n4]) [] ∧ ∃ n6 n7,S 134 [AV.agg [AV.int .i64 n3,.int .i64 n4]] [] (.agg [AV.int .i64 n6,.int .i64 n7]) [] ∧ ∃ n9 n10,S 111 [w.av,.int .i64 98564736,.int .i64 8640000] [] (.agg [AV.int .i64 n9,.int .i64 n10]) [] ∧ ∃ n12 n13,S 110 [AV.agg [AV.int .i64 n9,.int .i64 n10],.int .i64 280459000] [] (.agg [AV.int .i64 n12,.int .i64 n13]) [] ∧ ∃ n15 n16,S 134 [AV.agg [AV.int .i64 n12,.int .i64 n13]] [] (.agg [AV.int .i64 n15,.int .i64 n16]) [] ∧ ∃ n18 n19,S 133 [AV.int .i64 1915000,.int .i64 1,.agg [AV.int .i64 n6,.int .i64 n7]] [] (.agg [AV.int .i64 n18,.int .i64 n19]) [] ∧ ∃ n21 n22,S 133 [AV.int .i64 20000,.int .i64 2,.agg [AV.int .i64 n6,.int .i64 n7]] [] (.agg [AV.int .i64 n21,.int .i64 n22]) [] ∧ ∃ n24 n25,S 103 [AV.slc 3 [AV.agg [AV.int .i64 n18,.int .i64 n19],.agg [AV.int .i64 n21,.int .i64 n22]]] [] (.agg [AV.int .i64 n24,.int .i64 n25]) [] ∧ ∃ n27 n28,S 135 [] [] (.agg [AV.int .i64 n27,.int .i64 n28]) [] ∧ ∃ n30 n31,S 103 [AV.slc 3 [AV.agg [AV.int .i64 n15,.int .i64 n16],.agg [AV.int .i64 n24,.int .i64 n25],.agg [AV.int .i64 n27,.int .i64 n28]]] [] (.agg [AV.int .i64 n30,.int .i64 n31]) [] ∧ ∃ n33 n34,S 134 [AV.agg [AV.int .i64 n30,.int .i64 n31]] [] (.agg [AV.int .i64 n33,.int .i64 n34]) [] ∧ ∃ n36 n37,S 111 [w.av,.int .i64 36,.int .i64 8640000] [] (.agg [AV.int .i64 n36,.int .i64 n37]) [] ∧ ∃ n39 n40,S 105 [AV.agg [AV.int .i64 n36,.int .i64 n37]] [] (.agg [AV.int .i64 n39,.int .i64 n40]) [] ∧ ∃ n42 n43,S 110 [AV.agg [AV.int .i64 n39,.int .i64 n40],.int .i64 23439000] [] (.agg [AV.int .i64 n42,.int .i64 n43]) [] ∧ ∃ n45 n46,S 104 [AV.agg [AV.int .i64 n42,.int .i64 n43]] [] (.agg [AV.int .i64 n45,.int .i64 n46]) [] ∧ ∃ n48 n49,S 104 [AV.agg [AV.int .i64 n33,.int .i64 n34]] [] (.agg [AV.int .i64 n48,.int .i64 n49]) [] ∧ ∃ n51 n52,S 106 [AV.agg [AV.int .i64 n45,.int .i64 n46],.slc 3 [AV.agg [AV.int .i64 n48,.int .i64 n49]]] [] (.agg [AV.int .i64 n51,.int .i64 n52]) [] ∧ ∃ n54 n55 n56,S 136 [AV.agg [AV.int .i64 n51,.int .i64 n52]] [] (.tup [AV.agg [AV.int .i64 n54,.int .i64 n55],.int .i64 n56]) [] ∧ ∃ n58 n59,S 108 [AV.agg [AV.int .i64 n54,.int .i64 n55]] [] (.agg [AV.int .i64 n58,.int .i64 n59]) [] ∧ ∃ n61 n62,S 133 [AV.int .i64 2466000,.int .i64 2,.agg [AV.int .i64 n33,.int .i64 n34]] [] (.agg [AV.int .i64 n61,.int .i64 n62]) [] ∧ ∃ n64 n65,S 105 [AV.agg [AV.int .i64 n24,.int .i64 n25]] [] (.agg [AV.int .i64 n64,.int .i64 n65]) [] ∧ ∃ n67 n68,S 133 [AV.int .i64 53000,.int .i64 4,.agg [AV.int .i64 n33,.int .i64 n34]] [] (.agg [AV.int .i64 n67,.int .i64 n68]) [] ∧ ∃ n70 n71,S 105 [AV.agg [AV.int .i64 n67,.int .i64 n68]] [] (.agg [AV.int .i64 n70,.int .i64 n71]) [] ∧ ∃ n73 n74,S 135 [] [] (.agg [AV.int .i64 n73,.int .i64 n74]) [] ∧ ∃ n76 n77,S 103 [AV.slc 3 [AV.agg [AV.int .i64 n61,.int .i64 n62],.agg [AV.int .i64 n64,.int .i64 n65],.agg [AV.int .i64 n70,.int .i64 n71],.agg [AV.int .i64 n73,.int .i64 n74]]] [] (.agg [AV.int .i64 n76,.int .i64 n77]) [] ∧ Q (.agg [AV.int .i64 n51,.int .i64 n52,.int .i64 n58,.int .i64 n59,.int .i64 n76,.int .i64 n77]) []
theorem r102 (w:TEncl) (S:SpecF) (Fr:FreshF) (Sq:SeqF) (Q:AV → List (List AV) → Prop):awpF Tryz.prog (mkS Tryz.prog S Fr Sq ⟨[],[],[],[],[]⟩ 0) 0 ⟨[0,1,2,3,4,5,6,7,8,9,10],[],[],[]⟩ Tryz.f102 [w.av] [] Q = R102 w S Fr Sq Q:=by kernel_rfl
theorem s102 (w:TEncl) (v:AV) (O:List (List AV)) (h:R102 w (SpecOf Tryz.prog) (FreshOf Tryz.prog) (SeqOf Tryz.prog) (fun r O' => r = v ∧ O' = O)):SpecOf Tryz.prog 102 [w.av] [] v O :=
 spec_by (boxes:=[]) mixed (by exact trivial) Tryz.func102 Tryz.call102 rfl rfl rfl (Nat.le_of_ble_eq_true rfl) (r102 w (SpecOf Tryz.prog) (FreshOf Tryz.prog) (SeqOf Tryz.prog) _) h
theorem c102 (w:TEncl):Sp 102 [w.av] [] (skyE w).av []:=s102 w _ _ (by
 unfold R102
 have ha:Sp 134 [(moveE (scaleE w 98560028 8640000) 357528000).av] [] (anomE w).av []:=c134 _
 have hl:Sp 134 [(moveE (scaleE w 98564736 8640000) 280459000).av] [] (lonE w).av []:=c134 _
 have hc:Sp 103 [.slc 3 [(waveE 1915000 1 (anomE w)).av,(waveE 20000 2 (anomE w)).av]] [] (centE w).av []:=c103 [waveE 1915000 1 (anomE w),waveE 20000 2 (anomE w)] (by simp)
 have he:Sp 103 [.slc 3 [(lonE w).av,(centE w).av,slackE.av]] [] (sumE [lonE w,centE w,slackE]).av []:=c103 [lonE w,centE w,slackE] (by simp)
 have he2:Sp 134 [(sumE [lonE w,centE w,slackE]).av] [] (eclE w).av []:=c134 _
 have ht:Sp 110 [(oppE (scaleE w 36 8640000)).av,.int .i64 23439000] [] (tiltE w).av []:=c110 _ _
 have hd:Sp 106 [(allR (tiltE w) 0).1.av,.slc 3 [(allR (eclE w) 0).1.av]] [] (declE w).av []:=c106 (allR (tiltE w) 0).1 [(allR (eclE w) 0).1] (by simp)
 have hq:Sp 103 [.slc 3 [(waveE 2466000 2 (eclE w)).av,(oppE (centE w)).av,(oppE (waveE 53000 4 (eclE w))).av,slackE.av]] [] (skyE w).equation.av []:=c103 [waveE 2466000 2 (eclE w),oppE (centE w),oppE (waveE 53000 4 (eclE w)),slackE] (by simp)
 refine ⟨_,_,c111 w 98560028 8640000 (by omega),_,_,c110 _ _,_,_,ha,_,_,c111 w 98564736 8640000 (by omega),_,_,c110 _ _,_,_,hl,_,_,c133 1915000 1 (anomE w),_,_,c133 20000 2 (anomE w),_,_,hc,_,_,c135,_,_,he,_,_,he2,?_⟩
 refine ⟨_,_,c111 w 36 8640000 (by omega),_,_,c105 _,_,_,ht,_,_,c104 (tiltE w),_,_,c104 (eclE w),_,_,hd,_,_,_,c136 (declE w),?_⟩
 exact ⟨_,_,c108 _,_,_,c133 2466000 2 (eclE w),_,_,c105 (centE w),_,_,c133 53000 4 (eclE w),_,_,c105 _,_,_,c135,_,_,hq,rfl,rfl⟩)
def noonE (h:THalf):TEncl:=moveE (oppE (scaleE ⟨h.c.Lon,h.c.Lon⟩ 3 12500)) (IntKind.i64.wrap (86400 * h.day))
def windowE (h:THalf):TEncl:=if h.rise then sumE [noonE h,⟨-44400,1200⟩] else sumE [noonE h,⟨-1200,44400⟩]
def R77 (h0:THalf) (S:SpecF) (_Fr:FreshF) (_Sq:SeqF) (Q:AV → List (List AV) → Prop):Prop :=
 ∃ n0 n1,S 100 [AV.int .i64 h0.c.Lon] [] (.agg [AV.int .i64 n0,.int .i64 n1]) [] ∧ ∃ n3 n4,S 111 [AV.agg [AV.int .i64 n0,.int .i64 n1],.int .i64 3,.int .i64 12500] [] (.agg [AV.int .i64 n3,.int .i64 n4]) [] ∧ ∃ n6 n7,S 105 [AV.agg [AV.int .i64 n3,.int .i64 n4]] [] (.agg [AV.int .i64 n6,.int .i64 n7]) [] ∧ ∃ n9 n10,S 110 [AV.agg [AV.int .i64 n6,.int .i64 n7],.int .i64 (IntKind.i64.wrap ((86400:Int) * h0.day))] [] (.agg [AV.int .i64 n9,.int .i64 n10]) [] ∧ (h0.rise = true → ∃ n14 n15,S 103 [AV.slc 3 [AV.agg [AV.int .i64 n9,.int .i64 n10],.agg [AV.int .i64 (-44400:Int),.int .i64 1200]]] [] (.agg [AV.int .i64 n14,.int .i64 n15]) [] ∧ Q (.agg [AV.int .i64 n14,.int .i64 n15]) []) ∧ (h0.rise = false → ∃ n14 n15,S 103 [AV.slc 3 [AV.agg [AV.int .i64 n9,.int .i64 n10],.agg [AV.int .i64 (-1200:Int),.int .i64 44400]]] [] (.agg [AV.int .i64 n14,.int .i64 n15]) [] ∧ Q (.agg [AV.int .i64 n14,.int .i64 n15]) [])
theorem r77 (h0:THalf) (S:SpecF) (Fr:FreshF) (Sq:SeqF) (Q:AV → List (List AV) → Prop):awpF Tryz.prog (mkS Tryz.prog S Fr Sq ⟨[],[],[],[],[]⟩ 0) 0 ⟨[0,1,2,3,15],[],[],[]⟩ Tryz.f77 [h0.av] [] Q = R77 h0 S Fr Sq Q:=by kernel_rfl
theorem s77 (h0:THalf) (v:AV) (O:List (List AV)) (h:R77 h0 (SpecOf Tryz.prog) (FreshOf Tryz.prog) (SeqOf Tryz.prog) (fun r O' => r = v ∧ O' = O)):SpecOf Tryz.prog 77 [h0.av] [] v O :=
 spec_by (boxes:=[]) mixed (by exact trivial) Tryz.func77 Tryz.call77 rfl rfl rfl (Nat.le_of_ble_eq_true rfl) (r77 h0 (SpecOf Tryz.prog) (FreshOf Tryz.prog) (SeqOf Tryz.prog) _) h
theorem c77 (h:THalf):Sp 77 [h.av] [] (windowE h).av []:=s77 h _ _ (by
 unfold R77 windowE
 have hn:Sp 110 [(oppE (scaleE ⟨h.c.Lon,h.c.Lon⟩ 3 12500)).av,.int .i64 (IntKind.i64.wrap (86400 * h.day))] [] (noonE h).av []:=c110 _ _
 have hs1:Sp 103 [.slc 3 [(noonE h).av,.agg [.int .i64 (-44400),.int .i64 1200]]] [] (sumE [noonE h,⟨-44400,1200⟩]).av []:=c103 [noonE h,⟨-44400,1200⟩] (by simp)
 have hs2:Sp 103 [.slc 3 [(noonE h).av,.agg [.int .i64 (-1200),.int .i64 44400]]] [] (sumE [noonE h,⟨-1200,44400⟩]).av []:=c103 [noonE h,⟨-1200,44400⟩] (by simp)
 generalize sumE [noonE h,⟨-44400,1200⟩] = r1 at *
 generalize sumE [noonE h,⟨-1200,44400⟩] = r2 at *
 generalize noonE h = no at *
 refine ⟨_,_,c100 h.c.Lon,_,_,c111 ⟨h.c.Lon,h.c.Lon⟩ 3 12500 (by omega),_,_,c105 _,_,_,hn,fun g => ⟨_,_,hs1,?_,by trivial⟩,fun g => ⟨_,_,hs2,?_,by trivial⟩⟩
 ·rw [if_pos g]; rfl
 ·rw [if_neg (by rw [g]; simp)]; rfl)
def topS (w:TEncl) (h:THalf) (lat:TEncl):TEncl:=sumE [(allR h.c.Altitude 0).1,oppE (prodE (allR lat 0).1 [(skyE w).sin])]
def ratioE (w:TEncl) (h:THalf) (lat:TEncl):TEncl:=(overR (topS w h lat) (prodE (allR lat 90000000).1 [(skyE w).cos])).1
def hourE (w:TEncl) (h:THalf) (lat:TEncl):TEncl:=if h.rise then oppE (arccosR (ratioE w h lat)).1 else (arccosR (ratioE w h lat)).1
def nextE (w:TEncl) (h:THalf) (lat:TEncl):TEncl:=moveE (scaleE (sumE [hourE w h lat,⟨IntKind.i64.wrap (0 - h.c.Lon),IntKind.i64.wrap (0 - h.c.Lon)⟩,oppE (skyE w).equation]) 3 12500) (IntKind.i64.wrap (86400 * h.day))
def againR (w:TEncl) (h:THalf) (lat:TEncl):Int × TEncl :=
 if (ratioE w h lat).Lo > 100000000 then (1,w) else if (ratioE w h lat).Hi < -100000000 then (2,w) else if (ratioE w h lat).Lo < -100000000 then (3,w) else if (ratioE w h lat).Hi > 100000000 then (3,w) else (0,nextE w h lat)
def R101 (v0:TEncl) (v1:THalf) (v2:TEncl) (S:SpecF) (_Fr:FreshF) (_Sq:SeqF) (Q:AV → List (List AV) → Prop):Prop :=
 ∃ n0 n1 n2 n3 n4 n5,S 102 [v0.av] [] (.agg [AV.int .i64 n0,.int .i64 n1,.int .i64 n2,.int .i64 n3,.int .i64 n4,.int .i64 n5]) [] ∧ ∃ n7 n8,S 104 [v1.c.Altitude.av] [] (.agg [AV.int .i64 n7,.int .i64 n8]) [] ∧ ∃ n10 n11,S 104 [v2.av] [] (.agg [AV.int .i64 n10,.int .i64 n11]) [] ∧ ∃ n13 n14,S 106 [AV.agg [AV.int .i64 n10,.int .i64 n11],.slc 3 [AV.agg [AV.int .i64 n0,.int .i64 n1]]] [] (.agg [AV.int .i64 n13,.int .i64 n14]) [] ∧ ∃ n16 n17,S 105 [AV.agg [AV.int .i64 n13,.int .i64 n14]] [] (.agg [AV.int .i64 n16,.int .i64 n17]) [] ∧ ∃ n19 n20,S 103 [AV.slc 3 [AV.agg [AV.int .i64 n7,.int .i64 n8],.agg [AV.int .i64 n16,.int .i64 n17]]] [] (.agg [AV.int .i64 n19,.int .i64 n20]) [] ∧ ∃ n22 n23,S 108 [v2.av] [] (.agg [AV.int .i64 n22,.int .i64 n23]) [] ∧ ∃ n25 n26,S 106 [AV.agg [AV.int .i64 n22,.int .i64 n23],.slc 3 [AV.agg [AV.int .i64 n2,.int .i64 n3]]] [] (.agg [AV.int .i64 n25,.int .i64 n26]) [] ∧ ∃ n28 n29 n30,S 107 [AV.agg [AV.int .i64 n19,.int .i64 n20],.agg [AV.int .i64 n25,.int .i64 n26]] [] (.tup [AV.agg [AV.int .i64 n28,.int .i64 n29],.int .i64 n30]) [] ∧ (decide (n28 > 100000000) = true → Q (.int .i64 1) [v0.cs,v1.cs,v2.cs]) ∧ (decide (n28 > 100000000) = false → (decide (n29 < (-100000000:Int)) = true → Q (.int .i64 2) [v0.cs,v1.cs,v2.cs]) ∧ (decide (n29 < (-100000000:Int)) = false → (decide (n28 < (-100000000:Int)) = true → Q (.int .i64 3) [v0.cs,v1.cs,v2.cs]) ∧ (decide (n28 < (-100000000:Int)) = false → (decide (n29 > 100000000) = true → Q (.int .i64 3) [v0.cs,v1.cs,v2.cs]) ∧ (decide (n29 > 100000000) = false → ∃ n40 n41 n42,S 109 [AV.agg [AV.int .i64 n28,.int .i64 n29]] [] (.tup [AV.agg [AV.int .i64 n40,.int .i64 n41],.int .i64 n42]) [] ∧ (v1.rise = true → ∃ n46 n47,S 105 [AV.agg [AV.int .i64 n40,.int .i64 n41]] [] (.agg [AV.int .i64 n46,.int .i64 n47]) [] ∧ ∃ n49 n50,S 100 [AV.int .i64 (IntKind.i64.wrap ((0:Int) - v1.c.Lon))] [] (.agg [AV.int .i64 n49,.int .i64 n50]) [] ∧ ∃ n52 n53,S 105 [AV.agg [AV.int .i64 n4,.int .i64 n5]] [] (.agg [AV.int .i64 n52,.int .i64 n53]) [] ∧ ∃ n55 n56,S 103 [AV.slc 3 [AV.agg [AV.int .i64 n46,.int .i64 n47],.agg [AV.int .i64 n49,.int .i64 n50],.agg [AV.int .i64 n52,.int .i64 n53]]] [] (.agg [AV.int .i64 n55,.int .i64 n56]) [] ∧ ∃ n58 n59,S 111 [AV.agg [AV.int .i64 n55,.int .i64 n56],.int .i64 3,.int .i64 12500] [] (.agg [AV.int .i64 n58,.int .i64 n59]) [] ∧ ∃ n61 n62,S 110 [AV.agg [AV.int .i64 n58,.int .i64 n59],.int .i64 (IntKind.i64.wrap ((86400:Int) * v1.day))] [] (.agg [AV.int .i64 n61,.int .i64 n62]) [] ∧ Q (.int .i64 0) [[AV.int .i64 n61,.int .i64 n62],v1.cs,v2.cs]) ∧ (v1.rise = false → ∃ n46 n47,S 100 [AV.int .i64 (IntKind.i64.wrap ((0:Int) - v1.c.Lon))] [] (.agg [AV.int .i64 n46,.int .i64 n47]) [] ∧ ∃ n49 n50,S 105 [AV.agg [AV.int .i64 n4,.int .i64 n5]] [] (.agg [AV.int .i64 n49,.int .i64 n50]) [] ∧ ∃ n52 n53,S 103 [AV.slc 3 [AV.agg [AV.int .i64 n40,.int .i64 n41],.agg [AV.int .i64 n46,.int .i64 n47],.agg [AV.int .i64 n49,.int .i64 n50]]] [] (.agg [AV.int .i64 n52,.int .i64 n53]) [] ∧ ∃ n55 n56,S 111 [AV.agg [AV.int .i64 n52,.int .i64 n53],.int .i64 3,.int .i64 12500] [] (.agg [AV.int .i64 n55,.int .i64 n56]) [] ∧ ∃ n58 n59,S 110 [AV.agg [AV.int .i64 n55,.int .i64 n56],.int .i64 (IntKind.i64.wrap ((86400:Int) * v1.day))] [] (.agg [AV.int .i64 n58,.int .i64 n59]) [] ∧ Q (.int .i64 0) [[AV.int .i64 n58,.int .i64 n59],v1.cs,v2.cs])))))
theorem r101 (v0:TEncl) (v1:THalf) (v2:TEncl) (S:SpecF) (Fr:FreshF) (Sq:SeqF) (Q:AV → List (List AV) → Prop):awpF Tryz.prog (mkS Tryz.prog S Fr Sq ⟨[],[],[],[],[]⟩ 0) 3 ⟨[0,1,2,3,4,5,6,8,36,40,44,59],[],[],[]⟩ Tryz.f101 [.ref 0 0,.ref 1 0,.ref 2 0] [⟨23,false,v0.cs⟩,⟨165,false,v1.cs⟩,⟨23,false,v2.cs⟩] Q = R101 v0 v1 v2 S Fr Sq Q:=by kernel_rfl
theorem s101 (v0:TEncl) (v1:THalf) (v2:TEncl) (v:AV) (O:List (List AV)) (h:R101 v0 v1 v2 (SpecOf Tryz.prog) (FreshOf Tryz.prog) (SeqOf Tryz.prog) (fun r O' => r = v ∧ O' = O)):SpecOf Tryz.prog 101 [.ref 0 0,.ref 1 0,.ref 2 0] [v0.cs,v1.cs,v2.cs] v O :=
 spec_by (boxes:=[⟨23,false,v0.cs⟩,⟨165,false,v1.cs⟩,⟨23,false,v2.cs⟩]) mixed (by exact trivial) Tryz.func101 Tryz.call101 rfl rfl rfl (Nat.le_of_ble_eq_true rfl) (r101 v0 v1 v2 (SpecOf Tryz.prog) (FreshOf Tryz.prog) (SeqOf Tryz.prog) _) h
theorem c101 (w:TEncl) (h:THalf) (lat:TEncl):Sp 101 [.ref 0 0,.ref 1 0,.ref 2 0] [w.cs,h.cs,lat.cs] (.int .i64 (againR w h lat).1) [(againR w h lat).2.cs,h.cs,lat.cs]:=s101 w h lat _ _ (by
 unfold R101
 have h1:Sp 106 [(allR lat 0).1.av,.slc 3 [(skyE w).sin.av]] [] (prodE (allR lat 0).1 [(skyE w).sin]).av []:=c106 (allR lat 0).1 [(skyE w).sin] (by simp)
 have h2:Sp 103 [.slc 3 [(allR h.c.Altitude 0).1.av,(oppE (prodE (allR lat 0).1 [(skyE w).sin])).av]] [] (topS w h lat).av []:=c103 [(allR h.c.Altitude 0).1,oppE (prodE (allR lat 0).1 [(skyE w).sin])] (by simp)
 have h3:Sp 106 [(allR lat 90000000).1.av,.slc 3 [(skyE w).cos.av]] [] (prodE (allR lat 90000000).1 [(skyE w).cos]).av []:=c106 (allR lat 90000000).1 [(skyE w).cos] (by simp)
 have h4:∃ e,Sp 107 [(topS w h lat).av,(prodE (allR lat 90000000).1 [(skyE w).cos]).av] [] (.tup [(ratioE w h lat).av,.int .i64 e]) []:=⟨_,c107 _ _⟩
 obtain ⟨e4,h4⟩:=h4
 have h5:∃ e,Sp 109 [(ratioE w h lat).av] [] (.tup [(arccosR (ratioE w h lat)).1.av,.int .i64 e]) []:=⟨_,c109 _⟩
 obtain ⟨e5,h5⟩:=h5
 have h6:Sp 110 [(scaleE (sumE [hourE w h lat,⟨IntKind.i64.wrap (0 - h.c.Lon),IntKind.i64.wrap (0 - h.c.Lon)⟩,oppE (skyE w).equation]) 3 12500).av,.int .i64 (IntKind.i64.wrap (86400 * h.day))] [] (nextE w h lat).av []:=c110 _ _
 unfold againR
 refine ⟨_,_,_,_,_,_,c102 w,_,_,c104 h.c.Altitude,_,_,c104 lat,_,_,h1,_,_,c105 _,_,_,h2,_,_,c108 lat,_,_,h3,_,_,_,h4,fun g => ?_,fun g1 => ⟨fun g => ?_,fun g2 => ⟨fun g => ?_,fun g3 => ⟨fun g => ?_,fun g4 => ⟨_,_,_,h5,fun g => ?_,fun g => ?_⟩⟩⟩⟩⟩
 ·rw [if_pos (of_decide_eq_true g)]; exact ⟨rfl,by trivial⟩
 ·rw [if_neg (of_decide_eq_false g1),if_pos (of_decide_eq_true g)]; exact ⟨rfl,by trivial⟩
 ·rw [if_neg (of_decide_eq_false g1),if_neg (of_decide_eq_false g2),if_pos (of_decide_eq_true g)]; exact ⟨rfl,by trivial⟩
 ·rw [if_neg (of_decide_eq_false g1),if_neg (of_decide_eq_false g2),if_neg (of_decide_eq_false g3),if_pos (of_decide_eq_true g)]; exact ⟨rfl,by trivial⟩
 ·rw [if_neg (of_decide_eq_false g1),if_neg (of_decide_eq_false g2),if_neg (of_decide_eq_false g3),if_neg (of_decide_eq_false g4)]
  have hh:hourE w h lat = oppE (arccosR (ratioE w h lat)).1:=by unfold hourE; rw [if_pos g]
  rw [hh] at h6
  exact ⟨_,_,c105 _,_,_,c100 _,_,_,c105 (skyE w).equation,_,_,c103 [oppE (arccosR (ratioE w h lat)).1,⟨IntKind.i64.wrap (0 - h.c.Lon),IntKind.i64.wrap (0 - h.c.Lon)⟩,oppE (skyE w).equation] (by simp),_,_,c111 _ 3 12500 (by omega),_,_,h6,rfl,by trivial⟩
 ·rw [if_neg (of_decide_eq_false g1),if_neg (of_decide_eq_false g2),if_neg (of_decide_eq_false g3),if_neg (of_decide_eq_false g4)]
  have hh:hourE w h lat = (arccosR (ratioE w h lat)).1:=by unfold hourE; rw [if_neg (by rw [g]; simp)]
  rw [hh] at h6
  exact ⟨_,_,c100 _,_,_,c105 (skyE w).equation,_,_,c103 [(arccosR (ratioE w h lat)).1,⟨IntKind.i64.wrap (0 - h.c.Lon),IntKind.i64.wrap (0 - h.c.Lon)⟩,oppE (skyE w).equation] (by simp),_,_,c111 _ 3 12500 (by omega),_,_,h6,rfl,by trivial⟩)
end Go.Proofs.YtblebiafhhhflaaGreat
namespace Go.Proofs.YtblebiafhhhflaaGreat
open Go.RowKit
def passF (h:THalf):Nat → Int → TEncl → Int × TEncl
 | 0,kd,w => (kd,w)
 | k + 1,_,w => if (againR w h ⟨h.c.Lat,h.c.Lat⟩).1 ≠ 0 then ((againR w h ⟨h.c.Lat,h.c.Lat⟩).1,⟨0,0⟩) else passF h k (againR w h ⟨h.c.Lat,h.c.Lat⟩).1 (againR w h ⟨h.c.Lat,h.c.Lat⟩).2
theorem passF_0 (h:THalf) (kd:Int) (w:TEncl):passF h 0 kd w = (kd,w):=rfl
theorem passF_s (h:THalf) (k:Nat) (kd:Int) (w:TEncl):passF h (k + 1) kd w = if (againR w h ⟨h.c.Lat,h.c.Lat⟩).1 ≠ 0 then ((againR w h ⟨h.c.Lat,h.c.Lat⟩).1,⟨0,0⟩) else passF h k (againR w h ⟨h.c.Lat,h.c.Lat⟩).1 (againR w h ⟨h.c.Lat,h.c.Lat⟩).2:=rfl
def passR (h:THalf):Int × TEncl:=passF h 3 0 (windowE h)
def R76 (h0:THalf) (S:SpecF) (_Fr:FreshF) (_Sq:SeqF) (Q:AV → List (List AV) → Prop):Prop :=
 ∃ n0 n1,S 77 [h0.av] [] (.agg [AV.int .i64 n0,.int .i64 n1]) [] ∧ ∃ n3 n4,S 100 [AV.int .i64 h0.c.Lat] [] (.agg [AV.int .i64 n3,.int .i64 n4]) [] ∧ ∃ (I6:Nat → List AV → Prop),(∃ m8,I6 m8 [AV.int .i64 0,.int .i64 0,h0.av,.agg [AV.int .i64 n0,.int .i64 n1],.agg [AV.int .i64 n3,.int .i64 n4]]) ∧ ∀ (m8:Nat) (n9 n10 n11 n12 n13 n14 n15 n16:Int) (b17:Bool) (n18 n19 n20 n21:Int),I6 m8 [AV.int .i64 n9,.int .i64 n10,.agg [AV.int .i64 n11,.int .i64 n12,.int .i64 n13,.int .i64 n14,.int .i64 n15,.int .i64 n16,.bool b17],.agg [AV.int .i64 n18,.int .i64 n19],.agg [AV.int .i64 n20,.int .i64 n21]] → (decide (n10 < 3) = true → ∃ n25 n26 n27 n28 n29 n30 n31 n32 n33 b34 n35 n36,S 101 [AV.ref 0 0,.ref 1 0,.ref 2 0] [[AV.int .i64 n18,.int .i64 n19],[AV.int .i64 n11,.int .i64 n12,.int .i64 n13,.int .i64 n14,.int .i64 n15,.int .i64 n16,.bool b17],[AV.int .i64 n20,.int .i64 n21]] (.int .i64 n25) [[AV.int .i64 n26,.int .i64 n27],[AV.int .i64 n28,.int .i64 n29,.int .i64 n30,.int .i64 n31,.int .i64 n32,.int .i64 n33,.bool b34],[AV.int .i64 n35,.int .i64 n36]] ∧ ((n25 != 0) = true → Q (.tup [AV.int .i64 n25,TEncl.zero.av]) []) ∧ ((n25 != 0) = false → ∃ k40,k40 < m8 ∧ I6 k40 [AV.int .i64 n25,.int .i64 (IntKind.i64.wrap (n10 + 1)),.agg [AV.int .i64 n28,.int .i64 n29,.int .i64 n30,.int .i64 n31,.int .i64 n32,.int .i64 n33,.bool b34],.agg [AV.int .i64 n26,.int .i64 n27],.agg [AV.int .i64 n35,.int .i64 n36]])) ∧ (decide (n10 < 3) = false → Q (.tup [AV.int .i64 n9,.agg [AV.int .i64 n18,.int .i64 n19]]) [])
theorem r76 (h0:THalf) (S:SpecF) (Fr:FreshF) (Sq:SeqF) (Q:AV → List (List AV) → Prop):awpF Tryz.prog (mkS Tryz.prog S Fr Sq ⟨[],[],[],[],[]⟩ 0) 0 ⟨[0,1,2,3,4,5,13,14,18],[⟨5,[(2,.int .i64 0),(13,.int .i64 0)],[],[(1,.agg [.int .i64 0,.int .i64 0,.int .i64 0,.int .i64 0,.int .i64 0,.int .i64 0,.bool false]),(3,.agg [.int .i64 0,.int .i64 0]),(4,.agg [.int .i64 0,.int .i64 0])],[],[]⟩],[],[]⟩ Tryz.f76 [h0.av] [] Q = R76 h0 S Fr Sq Q:=by kernel_rfl
theorem s76 (h0:THalf) (v:AV) (O:List (List AV)) (h:R76 h0 (SpecOf Tryz.prog) (FreshOf Tryz.prog) (SeqOf Tryz.prog) (fun r O' => r = v ∧ O' = O)):SpecOf Tryz.prog 76 [h0.av] [] v O :=
 spec_by (boxes:=[]) mixed (by exact trivial) Tryz.func76 Tryz.call76 rfl rfl rfl (Nat.le_of_ble_eq_true rfl) (r76 h0 (SpecOf Tryz.prog) (FreshOf Tryz.prog) (SeqOf Tryz.prog) _) h
theorem c76 (h:THalf):Sp 76 [h.av] [] (.tup [.int .i64 (passR h).1,(passR h).2.av]) []:=s76 h _ _ (by
 unfold R76
 refine ⟨_,_,c77 h,_,_,c100 h.c.Lat,?_⟩
 refine ⟨fun m vs => ∃ (k:Nat) (kd:Int) (w:TEncl),m + k = 3 ∧ vs = [.int .i64 kd,.int .i64 k,h.av,w.av,(TEncl.mk h.c.Lat h.c.Lat).av] ∧ passF h m kd w = passR h,⟨3,0,0,windowE h,rfl,rfl,rfl⟩,?_⟩
 intro m
 intros
 rename_i hJ
 obtain ⟨k,kd,w,hm,hv,hp⟩:=hJ
 unfold TEncl.av TEncl.cs THalf.av THalf.cs at hv
 cases hv
 refine ⟨fun g => ?_,fun g => ?_⟩
 ·have hk:k < 3:=by have:=of_decide_eq_true g; omega
  obtain ⟨j,rfl⟩:∃ j,m = j + 1:=⟨m - 1,by omega⟩
  rw [passF_s] at hp
  refine ⟨_,_,_,_,_,_,_,_,_,_,_,_,c101 w h ⟨h.c.Lat,h.c.Lat⟩,fun g2 => ⟨?_,by trivial⟩,fun g2 => ⟨j,by omega,k + 1,(againR w h ⟨h.c.Lat,h.c.Lat⟩).1,(againR w h ⟨h.c.Lat,h.c.Lat⟩).2,by omega,?_,?_⟩⟩
  ·have g2:(againR w h ⟨h.c.Lat,h.c.Lat⟩).1 ≠ 0:=by simpa using g2
   rw [if_pos g2] at hp
   rw [← hp]; rfl
  ·rw [wrapN (by omega)]; rfl
  ·have g2:(againR w h ⟨h.c.Lat,h.c.Lat⟩).1 = 0:=by simpa using g2
   rw [if_neg (by simp [g2])] at hp
   exact hp
 ·have hk:¬ k < 3:=by have:=of_decide_eq_false g; omega
  obtain rfl:m = 0:=by omega
  rw [passF_0] at hp
  rw [← hp]
  exact ⟨rfl,by trivial⟩)
def localE (c:TSnCity) (day:Int) (w:TEncl):TEncl:=moveE w (IntKind.i64.wrap (IntKind.i64.wrap (43200 + c.Zone) - IntKind.i64.wrap (86400 * day)))
def R78 (c:TSnCity) (day:Int) (w:TEncl) (S:SpecF) (_Fr:FreshF) (_Sq:SeqF) (Q:AV → List (List AV) → Prop):Prop :=
 ∃ n0 n1,S 110 [w.av,.int .i64 (IntKind.i64.wrap (IntKind.i64.wrap ((43200:Int) + c.Zone) - IntKind.i64.wrap ((86400:Int) * day)))] [] (.agg [AV.int .i64 n0,.int .i64 n1]) [] ∧ Q (.agg [AV.int .i64 n0,.int .i64 n1]) []
theorem r78 (c:TSnCity) (day:Int) (w:TEncl) (S:SpecF) (Fr:FreshF) (Sq:SeqF) (Q:AV → List (List AV) → Prop):awpF Tryz.prog (mkS Tryz.prog S Fr Sq ⟨[],[],[],[],[]⟩ 0) 0 ⟨[0,1,2,3,5,6],[],[],[]⟩ Tryz.f78 [c.av,.int .i64 day,w.av] [] Q = R78 c day w S Fr Sq Q:=by kernel_rfl
theorem s78 (c:TSnCity) (day:Int) (w:TEncl) (v:AV) (O:List (List AV)) (h:R78 c day w (SpecOf Tryz.prog) (FreshOf Tryz.prog) (SeqOf Tryz.prog) (fun r O' => r = v ∧ O' = O)):SpecOf Tryz.prog 78 [c.av,.int .i64 day,w.av] [] v O :=
 spec_by (boxes:=[]) mixed (by exact trivial) Tryz.func78 Tryz.call78 rfl rfl rfl (Nat.le_of_ble_eq_true rfl) (r78 c day w (SpecOf Tryz.prog) (FreshOf Tryz.prog) (SeqOf Tryz.prog) _) h
theorem c78 (c:TSnCity) (day:Int) (w:TEncl):Sp 78 [c.av,.int .i64 day,w.av] [] (localE c day w).av []:=s78 c day w _ _ ⟨_,_,c110 _ _,rfl,rfl⟩
def burnR (h other:THalf):TEncl × Bool:=if (passR h).1 = 0 then ((passR h).2,true) else if (passR h).1 = 2 then (windowE other,false) else (windowE h,true)
def R75 (h0:THalf) (other:THalf) (S:SpecF) (_Fr:FreshF) (_Sq:SeqF) (Q:AV → List (List AV) → Prop):Prop :=
 ∃ n0 n1 n2,S 76 [h0.av] [] (.tup [AV.int .i64 n0,.agg [AV.int .i64 n1,.int .i64 n2]]) [] ∧ ((n0 == 0) = true → Q (.tup [AV.agg [AV.int .i64 n1,.int .i64 n2],.bool true]) []) ∧ ((n0 == 0) = false → ((n0 == 2) = true → ∃ n8 n9,S 77 [other.av] [] (.agg [AV.int .i64 n8,.int .i64 n9]) [] ∧ Q (.tup [AV.agg [AV.int .i64 n8,.int .i64 n9],.bool false]) []) ∧ ((n0 == 2) = false → ∃ n8 n9,S 77 [h0.av] [] (.agg [AV.int .i64 n8,.int .i64 n9]) [] ∧ Q (.tup [AV.agg [AV.int .i64 n8,.int .i64 n9],.bool true]) []))
theorem r75 (h0:THalf) (other:THalf) (S:SpecF) (Fr:FreshF) (Sq:SeqF) (Q:AV → List (List AV) → Prop):awpF Tryz.prog (mkS Tryz.prog S Fr Sq ⟨[],[],[],[],[]⟩ 0) 0 ⟨[0,1,2,3,4,5,6,7,13,14,17],[],[],[]⟩ Tryz.f75 [h0.av,other.av] [] Q = R75 h0 other S Fr Sq Q:=by kernel_rfl
theorem s75 (h0:THalf) (other:THalf) (v:AV) (O:List (List AV)) (h:R75 h0 other (SpecOf Tryz.prog) (FreshOf Tryz.prog) (SeqOf Tryz.prog) (fun r O' => r = v ∧ O' = O)):SpecOf Tryz.prog 75 [h0.av,other.av] [] v O :=
 spec_by (boxes:=[]) mixed (by exact trivial) Tryz.func75 Tryz.call75 rfl rfl rfl (Nat.le_of_ble_eq_true rfl) (r75 h0 other (SpecOf Tryz.prog) (FreshOf Tryz.prog) (SeqOf Tryz.prog) _) h
theorem c75 (h other:THalf):Sp 75 [h.av,other.av] [] (.tup [(burnR h other).1.av,.bool (burnR h other).2]) []:=s75 h other _ _ (by
 unfold R75 burnR
 refine ⟨_,_,_,c76 h,fun g => ⟨?_,by trivial⟩,fun g => ⟨fun g2 => ⟨_,_,c77 other,?_,by trivial⟩,fun g2 => ⟨_,_,c77 h,?_,by trivial⟩⟩⟩
 ·have g:(passR h).1 = 0:=by simpa using g
  rw [if_pos g]; rfl
 ·have g:¬ (passR h).1 = 0:=by simpa using g
  have g2:(passR h).1 = 2:=by simpa using g2
  rw [if_neg g,if_pos g2]; rfl
 ·have g:¬ (passR h).1 = 0:=by simpa using g
  have g2:¬ (passR h).1 = 2:=by simpa using g2
  rw [if_neg g,if_neg g2]; rfl)
def duskH (c:TSnCity) (day:Int):THalf:=⟨c,day,false⟩
def dawnH (c:TSnCity) (day:Int):THalf:=⟨c,IntKind.i64.wrap (day + 1),true⟩
def nightE (c:TSnCity) (day:Int):TSnNight :=
 if (burnR (duskH c day) (dawnH c day)).2 = false ∧ (burnR (dawnH c day) (duskH c day)).2 = false then ⟨0,0⟩ else
  ⟨(localE c day ⟨(burnR (duskH c day) (dawnH c day)).1.Lo,(burnR (dawnH c day) (duskH c day)).1.Hi⟩).Lo,(localE c day ⟨(burnR (duskH c day) (dawnH c day)).1.Lo,(burnR (dawnH c day) (duskH c day)).1.Hi⟩).Hi⟩
def R35 (c:TSnCity) (day:Int) (S:SpecF) (_Fr:FreshF) (_Sq:SeqF) (Q:AV → List (List AV) → Prop):Prop :=
 ∃ n0 n1 b2,S 75 [AV.agg [AV.int .i64 c.Lat,.int .i64 c.Lon,.int .i64 c.Zone,.int .i64 c.Altitude.Lo,.int .i64 c.Altitude.Hi,.int .i64 day,.bool false],.agg [AV.int .i64 c.Lat,.int .i64 c.Lon,.int .i64 c.Zone,.int .i64 c.Altitude.Lo,.int .i64 c.Altitude.Hi,.int .i64 (IntKind.i64.wrap (day + 1)),.bool true]] [] (.tup [AV.agg [AV.int .i64 n0,.int .i64 n1],.bool b2]) [] ∧ ∃ n4 n5 b6,S 75 [AV.agg [AV.int .i64 c.Lat,.int .i64 c.Lon,.int .i64 c.Zone,.int .i64 c.Altitude.Lo,.int .i64 c.Altitude.Hi,.int .i64 (IntKind.i64.wrap (day + 1)),.bool true],.agg [AV.int .i64 c.Lat,.int .i64 c.Lon,.int .i64 c.Zone,.int .i64 c.Altitude.Lo,.int .i64 c.Altitude.Hi,.int .i64 day,.bool false]] [] (.tup [AV.agg [AV.int .i64 n4,.int .i64 n5],.bool b6]) [] ∧ ((!b2) = true → ((!b6) = true → Q (TEncl.zero.av) []) ∧ ((!b6) = false → ∃ n12 n13,S 78 [c.av,.int .i64 day,.agg [AV.int .i64 n0,.int .i64 n5]] [] (.agg [AV.int .i64 n12,.int .i64 n13]) [] ∧ Q (.agg [AV.int .i64 n12,.int .i64 n13]) [])) ∧ ((!b2) = false → ∃ n10 n11,S 78 [c.av,.int .i64 day,.agg [AV.int .i64 n0,.int .i64 n5]] [] (.agg [AV.int .i64 n10,.int .i64 n11]) [] ∧ Q (.agg [AV.int .i64 n10,.int .i64 n11]) [])
theorem r35 (c:TSnCity) (day:Int) (S:SpecF) (Fr:FreshF) (Sq:SeqF) (Q:AV → List (List AV) → Prop):awpF Tryz.prog (mkS Tryz.prog S Fr Sq ⟨[],[],[],[],[]⟩ 0) 0 ⟨[0,1,2,4,5,6,7,8,9,10,11,12,39],[],[],[]⟩ Tryz.f35 [c.av,.int .i64 day] [] Q = R35 c day S Fr Sq Q:=by kernel_rfl
theorem s35 (c:TSnCity) (day:Int) (v:AV) (O:List (List AV)) (h:R35 c day (SpecOf Tryz.prog) (FreshOf Tryz.prog) (SeqOf Tryz.prog) (fun r O' => r = v ∧ O' = O)):SpecOf Tryz.prog 35 [c.av,.int .i64 day] [] v O :=
 spec_by (boxes:=[]) mixed (by exact trivial) Tryz.func35 Tryz.call35 rfl rfl rfl (Nat.le_of_ble_eq_true rfl) (r35 c day (SpecOf Tryz.prog) (FreshOf Tryz.prog) (SeqOf Tryz.prog) _) h
theorem c35 (c:TSnCity) (day:Int):Sp 35 [c.av,.int .i64 day] [] (nightE c day).av []:=s35 c day _ _ (by
 unfold R35 nightE
 refine ⟨_,_,_,c75 (duskH c day) (dawnH c day),_,_,_,c75 (dawnH c day) (duskH c day),fun g => ⟨fun g2 => ⟨?_,by trivial⟩,fun g2 => ⟨_,_,c78 c day ⟨(burnR (duskH c day) (dawnH c day)).1.Lo,(burnR (dawnH c day) (duskH c day)).1.Hi⟩,?_,by trivial⟩⟩,fun g => ⟨_,_,c78 c day ⟨(burnR (duskH c day) (dawnH c day)).1.Lo,(burnR (dawnH c day) (duskH c day)).1.Hi⟩,?_,by trivial⟩⟩
 ·rw [if_pos ⟨by simpa using g,by simpa using g2⟩]; rfl
 ·rw [if_neg (fun h => by rw [h.2] at g2; cases g2)]; rfl
 ·rw [if_neg (fun h => by rw [h.1] at g; cases g)]; rfl)
def nightR (c:TSnCity) (day:Int):TSnNight × Int:=if cityB c then (⟨0,0⟩,7) else if outB day 0 39999 then (⟨0,0⟩,7) else (nightE c day,0)
def R15 (c:TSnCity) (day:Int) (S:SpecF) (_Fr:FreshF) (_Sq:SeqF) (Q:AV → List (List AV) → Prop):Prop :=
 ∃ n0,S 33 [c.av] [] (.int .i64 n0) [] ∧ ((n0 != 0) = true → Q (.tup [TEncl.zero.av,.int .i64 7]) []) ∧ ((n0 != 0) = false → ∃ b4,S 34 [AV.int .i64 day,.int .i64 0,.int .i64 39999] [] (.bool b4) [] ∧ (b4 = true → Q (.tup [TEncl.zero.av,.int .i64 7]) []) ∧ (b4 = false → ∃ n8 n9,S 35 [c.av,.int .i64 day] [] (.agg [AV.int .i64 n8,.int .i64 n9]) [] ∧ Q (.tup [AV.agg [AV.int .i64 n8,.int .i64 n9],.int .i64 0]) []))
theorem r15 (c:TSnCity) (day:Int) (S:SpecF) (Fr:FreshF) (Sq:SeqF) (Q:AV → List (List AV) → Prop):awpF Tryz.prog (mkS Tryz.prog S Fr Sq ⟨[],[],[],[],[]⟩ 0) 0 ⟨[0,1,2,4,5,12],[],[],[]⟩ Tryz.f15 [c.av,.int .i64 day] [] Q = R15 c day S Fr Sq Q:=by kernel_rfl
theorem s15 (c:TSnCity) (day:Int) (v:AV) (O:List (List AV)) (h:R15 c day (SpecOf Tryz.prog) (FreshOf Tryz.prog) (SeqOf Tryz.prog) (fun r O' => r = v ∧ O' = O)):SpecOf Tryz.prog 15 [c.av,.int .i64 day] [] v O :=
 spec_by (boxes:=[]) mixed (by exact trivial) Tryz.func15 Tryz.call15 rfl rfl rfl (Nat.le_of_ble_eq_true rfl) (r15 c day (SpecOf Tryz.prog) (FreshOf Tryz.prog) (SeqOf Tryz.prog) _) h
theorem c15 (c:TSnCity) (day:Int):Sp 15 [c.av,.int .i64 day] [] (.tup [(nightR c day).1.av,.int .i64 (nightR c day).2]) []:=s15 c day _ _ (by
 unfold R15 nightR
 refine ⟨_,c33 c,fun g => ⟨?_,by trivial⟩,fun g => ⟨_,c34 ..,fun g2 => ⟨?_,by trivial⟩,fun g2 => ⟨_,_,c35 c day,?_,by trivial⟩⟩⟩
 ·cases hc:cityB c with
  | true => rfl
  | false => rw [hc] at g; simp at g
 ·cases hc:cityB c with
  | true => rw [hc] at g; simp at g
  | false => rw [if_pos g2]; rfl
 ·cases hc:cityB c with
  | true => rw [hc] at g; simp at g
  | false => rw [if_neg (by simp),if_neg (by rw [g2]; simp)]; rfl)
end Go.Proofs.YtblebiafhhhflaaGreat
