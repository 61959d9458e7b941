/- Contracts: where the sun is. Contracts: when the sun sets and rises, nights. Contracts: when the sun rises, and sets. -/
import Derived.Test.YtdeeekgohhkdbaaGreatDoorEc
namespace Go.Proofs.YtdeeekgohhkdbaaGreatDoor
open Go.RowKit
def outB (n lo hi:Int):Bool:=decide (n < lo) || decide (n > hi)
def R109 (n lo hi:Int) (_S:SpecF) (_Fr:FreshF) (_Sq:SeqF) (Q:PostF):Prop :=
 (decide (n < lo) = true → Q (.bool true) []) ∧ (decide (n < lo) = false → Q (.bool (decide (n > hi))) [])
theorem s109 (n:Int) (lo:Int) (hi:Int) (v:AV) (O:List (List AV)) (h:R109 n lo hi Sp Fo So (fun r O' => r = v ∧ O' = O)):Sp 109 [iN n,iN lo,iN hi] [] v O :=
 spec_by (w:=⟨[],[],[],[],[]⟩) (k:=0) (keep:=⟨[0,1,2,6],[],[],[]⟩) (boxes:=[]) mixed (by exact trivial) Tryz.func109 Tryz.call109 rfl rfl rfl (Nat.le_of_ble_eq_true rfl) (by kernel_rfl) h
theorem c109 (n lo hi:Int):Sp 109 [.int .i64 n,.int .i64 lo,.int .i64 hi] [] (.bool (outB n lo hi)) []:=s109 n lo hi _ _ (by
 unfold R109 outB
 refine ⟨fun h => ⟨?_,by trivial⟩,fun h => ⟨?_,by trivial⟩⟩
 ·rw [h]; rfl
 ·rw [h]; rfl)
def cityB (c:TSnCity):Bool:=outB c.Lat (-88000000) 88000000 || (outB c.Lon (-180000000) 180000000 || (outB c.Zone (-50400) 50400 || (outB c.Altitude.Hi (-18000000) 0 || outB c.Altitude.Lo (-18000000) c.Altitude.Hi)))
def R60 (c:TSnCity) (S:SpecF) (_Fr:FreshF) (_Sq:SeqF) (Q:PostF):Prop :=
 ∃ b0,S 109 [iN c.Lat,iN (-88000000:Int),iN 88000000] [] (.bool b0) [] ∧ (b0 = true → Q (iN 7) []) ∧ (b0 = false → ∃ b4,S 109 [iN c.Lon,iN (-180000000:Int),iN 180000000] [] (.bool b4) [] ∧ (b4 = true → Q (iN 7) []) ∧ (b4 = false → ∃ b8,S 109 [iN c.Zone,iN (-50400:Int),iN 50400] [] (.bool b8) [] ∧ (b8 = true → Q (iN 7) []) ∧ (b8 = false → ∃ b12,S 109 [iN c.Altitude.Hi,iN (-18000000:Int),iN 0] [] (.bool b12) [] ∧ (b12 = true → Q (iN 7) []) ∧ (b12 = false → ∃ b16,S 109 [iN c.Altitude.Lo,iN (-18000000:Int),iN c.Altitude.Hi] [] (.bool b16) [] ∧ (b16 = true → Q (iN 7) []) ∧ (b16 = false → Q (iN 0) [])))))
theorem s60 (c:TSnCity) (v:AV) (O:List (List AV)) (h:R60 c Sp Fo So (fun r O' => r = v ∧ O' = O)):Sp 60 [c.av] [] v O :=
 spec_by (w:=⟨[],[],[],[],[]⟩) (k:=0) (keep:=⟨[0,1,2,3,30],[],[],[]⟩) (boxes:=[]) mixed (by exact trivial) Tryz.func60 Tryz.call60 rfl rfl rfl (Nat.le_of_ble_eq_true rfl) (by kernel_rfl) h
theorem c60 (c:TSnCity):Sp 60 [c.av] [] (.int .i64 (if cityB c then 7 else 0)) []:=s60 c _ _ (by
 unfold R60 cityB
 refine ⟨_,c109 ..,fun h => ⟨?_,by trivial⟩,fun h1 => ⟨_,c109 ..,fun h => ⟨?_,by trivial⟩,fun h2 => ⟨_,c109 ..,fun h => ⟨?_,by trivial⟩,fun h3 => ⟨_,c109 ..,fun h => ⟨?_,by trivial⟩,fun h4 => ⟨_,c109 ..,fun h => ⟨?_,by trivial⟩,fun h => ⟨?_,by trivial⟩⟩⟩⟩⟩⟩
 ·rw [h]; rfl
 ·rw [h1,h]; rfl
 ·rw [h1,h2,h]; rfl
 ·rw [h1,h2,h3,h]; rfl
 ·rw [h1,h2,h3,h4,h]; rfl
 ·rw [h1,h2,h3,h4,h]; rfl)
def quotE (a b:Int):Int:=if a.tmod b < 0 then IntKind.i64.wrap (IntKind.i64.wrap (a.tdiv b) - 1) else IntKind.i64.wrap (a.tdiv b)
def R181 (a b:Int) (_S:SpecF) (_Fr:FreshF) (_Sq:SeqF) (Q:PostF):Prop :=
 b ≠ 0 ∧ b ≠ 0 ∧ (decide (a.tmod b < 0) = true → Q (iN (IntKind.i64.wrap (IntKind.i64.wrap (a.tdiv b) - 1))) []) ∧ (decide (a.tmod b < 0) = false → Q (iN (IntKind.i64.wrap (a.tdiv b))) [])
theorem s181 (a:Int) (b:Int) (v:AV) (O:List (List AV)) (h:R181 a b Sp Fo So (fun r O' => r = v ∧ O' = O)):Sp 181 [iN a,iN b] [] v O :=
 spec_by (w:=⟨[],[],[],[],[]⟩) (k:=0) (keep:=⟨[0,1,4,5,12],[],[],[]⟩) (boxes:=[]) mixed (by exact trivial) Tryz.func181 Tryz.call181 rfl rfl rfl (Nat.le_of_ble_eq_true rfl) (by kernel_rfl) h
theorem c181 (a b:Int) (hb:b ≠ 0):Sp 181 [.int .i64 a,.int .i64 b] [] (.int .i64 (quotE a b)) []:=s181 a b _ _ (by
 unfold R181 quotE
 refine ⟨hb,hb,fun h => ⟨?_,by trivial⟩,fun h => ⟨?_,by trivial⟩⟩
 ·rw [if_pos (of_decide_eq_true h)]
 ·rw [if_neg (of_decide_eq_false h)])
def scaleE (x:TEncl) (n d:Int):TEncl:=⟨quotE (IntKind.i64.wrap (n * x.Lo)) d,IntKind.i64.wrap (0 - quotE (IntKind.i64.wrap (IntKind.i64.wrap (0 - n) * x.Hi)) d)⟩
def R159 (x:TEncl) (n d:Int) (S:SpecF) (_Fr:FreshF) (_Sq:SeqF) (Q:PostF):Prop :=
 ∃ n0,S 181 [iN (IntKind.i64.wrap (n * x.Lo)),iN d] [] (iN n0) [] ∧ ∃ n2,S 181 [iN (IntKind.i64.wrap (IntKind.i64.wrap ((0:Int) - n) * x.Hi)),iN d] [] (iN n2) [] ∧ Q (.agg [iN n0,iN (IntKind.i64.wrap ((0:Int) - n2))]) []
theorem s159 (x:TEncl) (n:Int) (d:Int) (v:AV) (O:List (List AV)) (h:R159 x n d Sp Fo So (fun r O' => r = v ∧ O' = O)):Sp 159 [x.av,iN n,iN d] [] v O :=
 spec_by (w:=⟨[],[],[],[],[]⟩) (k:=0) (keep:=⟨[0,1,2,3,6],[],[],[]⟩) (boxes:=[]) mixed (by exact trivial) Tryz.func159 Tryz.call159 rfl rfl rfl (Nat.le_of_ble_eq_true rfl) (by kernel_rfl) h
theorem c159 (x:TEncl) (n d:Int) (hd:d ≠ 0):Sp 159 [x.av,.int .i64 n,.int .i64 d] [] (scaleE x n d).av []:=s159 x n d _ _ ⟨_,c181 _ _ hd,_,c181 _ _ hd,rfl,rfl⟩
def moveE (x:TEncl) (n:Int):TEncl:=⟨IntKind.i64.wrap (x.Lo + n),IntKind.i64.wrap (x.Hi + n)⟩
def R158 (x:TEncl) (n:Int) (_S:SpecF) (_Fr:FreshF) (_Sq:SeqF) (Q:PostF):Prop :=
 Q (.agg [iN (IntKind.i64.wrap (x.Lo + n)),iN (IntKind.i64.wrap (x.Hi + n))]) []
theorem s158 (x:TEncl) (n:Int) (v:AV) (O:List (List AV)) (h:R158 x n Sp Fo So (fun r O' => r = v ∧ O' = O)):Sp 158 [x.av,iN n] [] v O :=
 spec_by (w:=⟨[],[],[],[],[]⟩) (k:=0) (keep:=⟨[0,1,2,4],[],[],[]⟩) (boxes:=[]) mixed (by exact trivial) Tryz.func158 Tryz.call158 rfl rfl rfl (Nat.le_of_ble_eq_true rfl) (by kernel_rfl) h
theorem c158 (x:TEncl) (n:Int):Sp 158 [x.av,.int .i64 n] [] (moveE x n).av []:=s158 x n _ _ ⟨rfl,rfl⟩
def addE' (x y:TEncl):TEncl:=⟨IntKind.i64.wrap (x.Lo + y.Lo),IntKind.i64.wrap (x.Hi + y.Hi)⟩
def sumE (l:List TEncl):TEncl:=l.foldl addE' ⟨0,0⟩
def R151 (l:List TEncl) (_S:SpecF) (_Fr:FreshF) (_Sq:SeqF) (Q:PostF):Prop :=
 ∃ (I0:Nat → List AV → Prop),(∃ m2,I0 m2 [iN 0,TEncl.zero.av]) ∧ ∀ (m2:Nat) (n3 n4 n5:Int),I0 m2 [iN n3,.agg [iN n4,iN n5]] → (decide (n3 < (↑(List.map TEncl.av l).length:Int)) = true → ∃ n9 n10,((0:Int) ≤ n3 ∧ (2:Nat) = (2:Nat) ∧ (List.map TEncl.av l)[n3.toNat]? = some (.agg [iN n9,iN n10])) ∧ ∃ k12,k12 < m2 ∧ I0 k12 [iN (IntKind.i64.wrap (n3 + 1)),.agg [iN (IntKind.i64.wrap (n4 + n9)),iN (IntKind.i64.wrap (n5 + n10))]]) ∧ (decide (n3 < (↑(List.map TEncl.av l).length:Int)) = false → Q (.agg [iN n4,iN n5]) [])
theorem s151 (l:List TEncl) (v:AV) (O:List (List AV)) (h:R151 l Sp Fo So (fun r O' => r = v ∧ O' = O)):Sp 151 [.slc 3 (List.map TEncl.av l)] [] v O :=
 spec_by (w:=⟨[],[],[],[],[]⟩) (k:=0) (keep:=⟨[0,2,4,5,6,7,8],[⟨2,[(7,iN 0)],[],[(2,.agg [iN 0,iN 0])],[],[],[]⟩],[],[]⟩) (boxes:=[]) mixed (by exact trivial) Tryz.func151 Tryz.call151 rfl rfl rfl (Nat.le_of_ble_eq_true rfl) (by kernel_rfl) h
theorem c151 (l:List TEncl) (hl:l.length ≤ 1000000):Sp 151 [.slc 3 (l.map TEncl.av)] [] (sumE l).av []:=s151 l _ _ (by
 unfold R151 sumE
 refine ⟨fun m vs => ∃ k:Nat,k ≤ l.length ∧ m = l.length - k ∧ vs = [.int .i64 k,((l.take k).foldl addE' ⟨0,0⟩).av],⟨_,0,by omega,rfl,rfl⟩,?_⟩
 rintro m n3 n4 n5 ⟨k,hk,rfl,hv⟩
 generalize he:(l.take k).foldl addE' ⟨0,0⟩ = e at hv
 have hv':=hv
 unfold TEncl.av TEncl.cs at hv'
 simp only [List.cons.injEq,AV.int.injEq,true_and,AV.agg.injEq,and_true] at hv'
 obtain ⟨rfl,rfl,rfl⟩:=hv'
 simp only [List.length_map]
 refine ⟨fun g => ?_,fun g => ?_⟩
 ·have hlt:k < l.length:=by simpa using g
  obtain ⟨y,hy,hy'⟩:=map_getN (f:=TEncl.av) hlt
  refine ⟨y.Lo,y.Hi,⟨by omega,by trivial,hy'⟩,_,(by omega:l.length - (k + 1) < l.length - k),k + 1,by omega,rfl,?_⟩
  rw [wrapN (by omega),fold_take addE' _ hy,he]; rfl
 ·obtain rfl:k = l.length:=by simp at g; omega
  rw [List.take_length] at he
  subst he
  exact ⟨rfl,by trivial⟩)
def R153 (x:TEncl) (_S:SpecF) (_Fr:FreshF) (_Sq:SeqF) (Q:PostF):Prop :=
 Q (.agg [iN (IntKind.i64.wrap ((0:Int) - x.Hi)),iN (IntKind.i64.wrap ((0:Int) - x.Lo))]) []
theorem s153 (x:TEncl) (v:AV) (O:List (List AV)) (h:R153 x Sp Fo So (fun r O' => r = v ∧ O' = O)):Sp 153 [x.av] [] v O :=
 spec_by (w:=⟨[],[],[],[],[]⟩) (k:=0) (keep:=⟨[0,1,2],[],[],[]⟩) (boxes:=[]) mixed (by exact trivial) Tryz.func153 Tryz.call153 rfl rfl rfl (Nat.le_of_ble_eq_true rfl) (by kernel_rfl) h
theorem c153 (e:TEncl):Sp 153 [e.av] [] (oppE e).av []:=s153 e _ _ ⟨rfl,rfl⟩
def turnE (x:TEncl):TEncl:=moveE x (IntKind.i64.wrap (-360000000 * quotE x.Lo 360000000))
def R168 (x:TEncl) (S:SpecF) (_Fr:FreshF) (_Sq:SeqF) (Q:PostF):Prop :=
 ∃ n0,S 181 [iN x.Lo,iN 360000000] [] (iN n0) [] ∧ ∃ n2 n3,S 158 [x.av,iN (IntKind.i64.wrap ((-360000000:Int) * n0))] [] (.agg [iN n2,iN n3]) [] ∧ Q (.agg [iN n2,iN n3]) []
theorem s168 (x:TEncl) (v:AV) (O:List (List AV)) (h:R168 x Sp Fo So (fun r O' => r = v ∧ O' = O)):Sp 168 [x.av] [] v O :=
 spec_by (w:=⟨[],[],[],[],[]⟩) (k:=0) (keep:=⟨[0,1,2],[],[],[]⟩) (boxes:=[]) mixed (by exact trivial) Tryz.func168 Tryz.call168 rfl rfl rfl (Nat.le_of_ble_eq_true rfl) (by kernel_rfl) h
theorem c168 (x:TEncl):Sp 168 [x.av] [] (turnE x).av []:=s168 x _ _ ⟨_,c181 _ _ (by omega),_,_,c158 _ _,rfl,rfl⟩
def R148 (n:Int) (_S:SpecF) (_Fr:FreshF) (_Sq:SeqF) (Q:PostF):Prop :=
 Q (.agg [iN n,iN n]) []
theorem s148 (n:Int) (v:AV) (O:List (List AV)) (h:R148 n Sp Fo So (fun r O' => r = v ∧ O' = O)):Sp 148 [iN n] [] v O :=
 spec_by (w:=⟨[],[],[],[],[]⟩) (k:=0) (keep:=⟨[0,2],[],[],[]⟩) (boxes:=[]) mixed (by exact trivial) Tryz.func148 Tryz.call148 rfl rfl rfl (Nat.le_of_ble_eq_true rfl) (by kernel_rfl) h
theorem c148 (n:Int):Sp 148 [.int .i64 n] [] (TEncl.mk n n).av []:=s148 n _ _ ⟨rfl,rfl⟩
def slackE:TEncl:=⟨-10000,10000⟩
def R169 (_S:SpecF) (_Fr:FreshF) (_Sq:SeqF) (Q:PostF):Prop :=
 Q (.agg [iN (-10000:Int),iN 10000]) []
theorem s169  (v:AV) (O:List (List AV)) (h:R169  Sp Fo So (fun r O' => r = v ∧ O' = O)):Sp 169 [] [] v O :=
 spec_by (w:=⟨[],[],[],[],[]⟩) (k:=0) (keep:=⟨[0],[],[],[]⟩) (boxes:=[]) mixed (by exact trivial) Tryz.func169 Tryz.call169 rfl rfl rfl (Nat.le_of_ble_eq_true rfl) (by kernel_rfl) h
theorem c169:Sp 169 [] [] slackE.av []:=s169 _ _ ⟨rfl,rfl⟩
def R152 (x:TEncl) (S:SpecF) (_Fr:FreshF) (_Sq:SeqF) (Q:PostF):Prop :=
 ∃ n0 n1 n2,S 171 [x.av] [] (.tup [AV.agg [iN n0,iN n1],iN n2]) [] ∧ Q (.agg [iN n0,iN n1]) []
theorem s152 (x:TEncl) (v:AV) (O:List (List AV)) (h:R152 x Sp Fo So (fun r O' => r = v ∧ O' = O)):Sp 152 [x.av] [] v O :=
 spec_by (w:=⟨[],[],[],[],[]⟩) (k:=0) (keep:=⟨[0,1,2,3],[],[],[]⟩) (boxes:=[]) mixed (by exact trivial) Tryz.func152 Tryz.call152 rfl rfl rfl (Nat.le_of_ble_eq_true rfl) (by kernel_rfl) h
theorem c152 (x:TEncl):Sp 152 [x.av] [] (allR x 0).1.av []:=s152 x _ _ ⟨_,_,_,c171 x,rfl,rfl⟩
def R156 (x:TEncl) (S:SpecF) (_Fr:FreshF) (_Sq:SeqF) (Q:PostF):Prop :=
 ∃ n0 n1 n2,S 176 [x.av] [] (.tup [AV.agg [iN n0,iN n1],iN n2]) [] ∧ Q (.agg [iN n0,iN n1]) []
theorem s156 (x:TEncl) (v:AV) (O:List (List AV)) (h:R156 x Sp Fo So (fun r O' => r = v ∧ O' = O)):Sp 156 [x.av] [] v O :=
 spec_by (w:=⟨[],[],[],[],[]⟩) (k:=0) (keep:=⟨[0,1,2,3],[],[],[]⟩) (boxes:=[]) mixed (by exact trivial) Tryz.func156 Tryz.call156 rfl rfl rfl (Nat.le_of_ble_eq_true rfl) (by kernel_rfl) h
theorem c156 (x:TEncl):Sp 156 [x.av] [] (allR x 90000000).1.av []:=s156 x _ _ ⟨_,_,_,c176 x,rfl,rfl⟩
def prodE (x:TEncl) (l:List TEncl):TEncl:=l.foldl (fun x y => (timesR x y).1) x
def R154 (x:TEncl) (l:List TEncl) (S:SpecF) (_Fr:FreshF) (_Sq:SeqF) (Q:PostF):Prop :=
 ∃ (I0:Nat → List AV → Prop),(∃ m2,I0 m2 [iN 0,x.av]) ∧ ∀ (m2:Nat) (n3 n4 n5:Int),I0 m2 [iN n3,.agg [iN n4,iN n5]] → (decide (n3 < (↑(List.map TEncl.av l).length:Int)) = true → ∃ n9 n10,((0:Int) ≤ n3 ∧ (2:Nat) = (2:Nat) ∧ (List.map TEncl.av l)[n3.toNat]? = some (.agg [iN n9,iN n10])) ∧ ∃ n12 n13 n14,S 172 [AV.agg [iN n4,iN n5],.agg [iN n9,iN n10]] [] (.tup [AV.agg [iN n12,iN n13],iN n14]) [] ∧ TEncl.z0 = TEncl.z0 ∧ ∃ k17,k17 < m2 ∧ I0 k17 [iN (IntKind.i64.wrap (n3 + 1)),.agg [iN n12,iN n13]]) ∧ (decide (n3 < (↑(List.map TEncl.av l).length:Int)) = false → Q (.agg [iN n4,iN n5]) [])
theorem s154 (x:TEncl) (l:List TEncl) (v:AV) (O:List (List AV)) (h:R154 x l Sp Fo So (fun r O' => r = v ∧ O' = O)):Sp 154 [x.av,.slc 3 (List.map TEncl.av l)] [] v O :=
 spec_by (w:=⟨[],[],[],[],[]⟩) (k:=0) (keep:=⟨[0,1,2,4,6,7,8,9,10],[⟨2,[(9,iN 0)],[],[(2,.agg [iN 0,iN 0])],[],[],[]⟩],[],[]⟩) (boxes:=[]) mixed (by exact trivial) Tryz.func154 Tryz.call154 rfl rfl rfl (Nat.le_of_ble_eq_true rfl) (by kernel_rfl) h
theorem c154 (x:TEncl) (l:List TEncl) (hl:l.length ≤ 1000000):Sp 154 [x.av,.slc 3 (l.map TEncl.av)] [] (prodE x l).av []:=s154 x l _ _ (by
 unfold R154 prodE
 refine ⟨fun m vs => ∃ k:Nat,k ≤ l.length ∧ m = l.length - k ∧ vs = [.int .i64 k,((l.take k).foldl (fun x y => (timesR x y).1) x).av],⟨_,0,by omega,rfl,rfl⟩,?_⟩
 rintro m n3 n4 n5 ⟨k,hk,rfl,hv⟩
 generalize he:(l.take k).foldl (fun x y => (timesR x y).1) x = e at hv
 have hv':=hv
 unfold TEncl.av TEncl.cs at hv'
 simp only [List.cons.injEq,AV.int.injEq,true_and,AV.agg.injEq,and_true] at hv'
 obtain ⟨rfl,rfl,rfl⟩:=hv'
 simp only [List.length_map]
 refine ⟨fun g => ?_,fun g => ?_⟩
 ·have hlt:k < l.length:=by simpa using g
  obtain ⟨y,hy,hy'⟩:=map_getN (f:=TEncl.av) hlt
  refine ⟨y.Lo,y.Hi,⟨by omega,by trivial,hy'⟩,_,_,_,c172 e y,by trivial,_,(by omega:l.length - (k + 1) < l.length - k),k + 1,by omega,rfl,?_⟩
  rw [wrapN (by omega),fold_take (fun x y => (timesR x y).1) _ hy,he]; rfl
 ·obtain rfl:k = l.length:=by simp at g; omega
  rw [List.take_length] at he
  subst he
  exact ⟨rfl,by trivial⟩)
def waveE (size times:Int) (x:TEncl):TEncl:=scaleE (allR (scaleE x times 1) 0).1 size 100000000
def R167 (size times:Int) (x:TEncl) (S:SpecF) (_Fr:FreshF) (_Sq:SeqF) (Q:PostF):Prop :=
 ∃ n0 n1,S 159 [x.av,iN times,iN 1] [] (.agg [iN n0,iN n1]) [] ∧ ∃ n3 n4,S 152 [AV.agg [iN n0,iN n1]] [] (.agg [iN n3,iN n4]) [] ∧ ∃ n6 n7,S 159 [AV.agg [iN n3,iN n4],iN size,iN 100000000] [] (.agg [iN n6,iN n7]) [] ∧ Q (.agg [iN n6,iN n7]) []
theorem s167 (size:Int) (times:Int) (x:TEncl) (v:AV) (O:List (List AV)) (h:R167 size times x Sp Fo So (fun r O' => r = v ∧ O' = O)):Sp 167 [iN size,iN times,x.av] [] v O :=
 spec_by (w:=⟨[],[],[],[],[]⟩) (k:=0) (keep:=⟨[0,1,2,5,6],[],[],[]⟩) (boxes:=[]) mixed (by exact trivial) Tryz.func167 Tryz.call167 rfl rfl rfl (Nat.le_of_ble_eq_true rfl) (by kernel_rfl) h
theorem c167 (size times:Int) (x:TEncl):Sp 167 [.int .i64 size,.int .i64 times,x.av] [] (waveE size times x).av []:=s167 size times x _ _ ⟨_,_,c159 x times 1 (by omega),_,_,c152 _,_,_,c159 _ size 100000000 (by omega),rfl,rfl⟩
end Go.Proofs.YtdeeekgohhkdbaaGreatDoor
namespace Go.Proofs.YtdeeekgohhkdbaaGreatDoor
open Go.RowKit
def lonE (w:TEncl):TEncl:=turnE (moveE (scaleE w 98564736 8640000) 280459000)
def anomE (w:TEncl):TEncl:=turnE (moveE (scaleE w 98560028 8640000) 357528000)
def centE (w:TEncl):TEncl:=sumE [waveE 1915000 1 (anomE w),waveE 20000 2 (anomE w)]
def eclE (w:TEncl):TEncl:=turnE (sumE [lonE w,centE w,slackE])
def tiltE (w:TEncl):TEncl:=moveE (oppE (scaleE w 36 8640000)) 23439000
def declE (w:TEncl):TEncl:=prodE (allR (tiltE w) 0).1 [(allR (eclE w) 0).1]
def skyE (w:TEncl):TSky:=⟨declE w,(allR (arcsinR (declE w)).1 90000000).1,sumE [waveE 2466000 2 (eclE w),oppE (centE w),oppE (waveE 53000 4 (eclE w)),slackE]⟩
def R150 (w:TEncl) (S:SpecF) (_Fr:FreshF) (_Sq:SeqF) (Q:PostF):Prop :=
 ∃ n0 n1,S 159 [w.av,iN 98560028,iN 8640000] [] (.agg [iN n0,iN n1]) [] ∧ ∃ n3 n4,S 158 [AV.agg [iN n0,iN n1],iN 357528000] [] (.agg [iN n3,iN n4]) [] ∧ ∃ n6 n7,S 168 [AV.agg [iN n3,iN n4]] [] (.agg [iN n6,iN n7]) [] ∧ ∃ n9 n10,S 159 [w.av,iN 98564736,iN 8640000] [] (.agg [iN n9,iN n10]) [] ∧ ∃ n12 n13,S 158 [AV.agg [iN n9,iN n10],iN 280459000] [] (.agg [iN n12,iN n13]) [] ∧ ∃ n15 n16,S 168 [AV.agg [iN n12,iN n13]] [] (.agg [iN n15,iN n16]) [] ∧ ∃ n18 n19,S 167 [iN 1915000,iN 1,.agg [iN n6,iN n7]] [] (.agg [iN n18,iN n19]) [] ∧ ∃ n21 n22,S 167 [iN 20000,iN 2,.agg [iN n6,iN n7]] [] (.agg [iN n21,iN n22]) [] ∧ ∃ n24 n25,S 151 [AV.slc 3 [AV.agg [iN n18,iN n19],.agg [iN n21,iN n22]]] [] (.agg [iN n24,iN n25]) [] ∧ ∃ n27 n28,S 169 [] [] (.agg [iN n27,iN n28]) [] ∧ ∃ n30 n31,S 151 [AV.slc 3 [AV.agg [iN n15,iN n16],.agg [iN n24,iN n25],.agg [iN n27,iN n28]]] [] (.agg [iN n30,iN n31]) [] ∧ ∃ n33 n34,S 168 [AV.agg [iN n30,iN n31]] [] (.agg [iN n33,iN n34]) [] ∧ ∃ n36 n37,S 159 [w.av,iN 36,iN 8640000] [] (.agg [iN n36,iN n37]) [] ∧ ∃ n39 n40,S 153 [AV.agg [iN n36,iN n37]] [] (.agg [iN n39,iN n40]) [] ∧ ∃ n42 n43,S 158 [AV.agg [iN n39,iN n40],iN 23439000] [] (.agg [iN n42,iN n43]) [] ∧ ∃ n45 n46,S 152 [AV.agg [iN n42,iN n43]] [] (.agg [iN n45,iN n46]) [] ∧ ∃ n48 n49,S 152 [AV.agg [iN n33,iN n34]] [] (.agg [iN n48,iN n49]) [] ∧ ∃ n51 n52,S 154 [AV.agg [iN n45,iN n46],.slc 3 [AV.agg [iN n48,iN n49]]] [] (.agg [iN n51,iN n52]) [] ∧ ∃ n54 n55 n56,S 170 [AV.agg [iN n51,iN n52]] [] (.tup [AV.agg [iN n54,iN n55],iN n56]) [] ∧ ∃ n58 n59,S 156 [AV.agg [iN n54,iN n55]] [] (.agg [iN n58,iN n59]) [] ∧ ∃ n61 n62,S 167 [iN 2466000,iN 2,.agg [iN n33,iN n34]] [] (.agg [iN n61,iN n62]) [] ∧ ∃ n64 n65,S 153 [AV.agg [iN n24,iN n25]] [] (.agg [iN n64,iN n65]) [] ∧ ∃ n67 n68,S 167 [iN 53000,iN 4,.agg [iN n33,iN n34]] [] (.agg [iN n67,iN n68]) [] ∧ ∃ n70 n71,S 153 [AV.agg [iN n67,iN n68]] [] (.agg [iN n70,iN n71]) [] ∧ ∃ n73 n74,S 169 [] [] (.agg [iN n73,iN n74]) [] ∧ ∃ n76 n77,S 151 [AV.slc 3 [AV.agg [iN n61,iN n62],.agg [iN n64,iN n65],.agg [iN n70,iN n71],.agg [iN n73,iN n74]]] [] (.agg [iN n76,iN n77]) [] ∧ Q (.agg [iN n51,iN n52,iN n58,iN n59,iN n76,iN n77]) []
theorem s150 (w:TEncl) (v:AV) (O:List (List AV)) (h:R150 w Sp Fo So (fun r O' => r = v ∧ O' = O)):Sp 150 [w.av] [] v O :=
 spec_by (w:=⟨[],[],[],[],[]⟩) (k:=0) (keep:=⟨[0,1,2,3,4,5,6,7,8,9,10],[],[],[]⟩) (boxes:=[]) mixed (by exact trivial) Tryz.func150 Tryz.call150 rfl rfl rfl (Nat.le_of_ble_eq_true rfl) (by kernel_rfl) h
theorem c150 (w:TEncl):Sp 150 [w.av] [] (skyE w).av []:=s150 w _ _ (by
 unfold R150
 have ha:Sp 168 [(moveE (scaleE w 98560028 8640000) 357528000).av] [] (anomE w).av []:=c168 _
 have hl:Sp 168 [(moveE (scaleE w 98564736 8640000) 280459000).av] [] (lonE w).av []:=c168 _
 have hc:Sp 151 [.slc 3 [(waveE 1915000 1 (anomE w)).av,(waveE 20000 2 (anomE w)).av]] [] (centE w).av []:=c151 [waveE 1915000 1 (anomE w),waveE 20000 2 (anomE w)] (by simp)
 have he:Sp 151 [.slc 3 [(lonE w).av,(centE w).av,slackE.av]] [] (sumE [lonE w,centE w,slackE]).av []:=c151 [lonE w,centE w,slackE] (by simp)
 have he2:Sp 168 [(sumE [lonE w,centE w,slackE]).av] [] (eclE w).av []:=c168 _
 have ht:Sp 158 [(oppE (scaleE w 36 8640000)).av,.int .i64 23439000] [] (tiltE w).av []:=c158 _ _
 have hd:Sp 154 [(allR (tiltE w) 0).1.av,.slc 3 [(allR (eclE w) 0).1.av]] [] (declE w).av []:=c154 (allR (tiltE w) 0).1 [(allR (eclE w) 0).1] (by simp)
 have hq:Sp 151 [.slc 3 [(waveE 2466000 2 (eclE w)).av,(oppE (centE w)).av,(oppE (waveE 53000 4 (eclE w))).av,slackE.av]] [] (skyE w).equation.av []:=c151 [waveE 2466000 2 (eclE w),oppE (centE w),oppE (waveE 53000 4 (eclE w)),slackE] (by simp)
 refine ⟨_,_,c159 w 98560028 8640000 (by omega),_,_,c158 _ _,_,_,ha,_,_,c159 w 98564736 8640000 (by omega),_,_,c158 _ _,_,_,hl,_,_,c167 1915000 1 (anomE w),_,_,c167 20000 2 (anomE w),_,_,hc,_,_,c169,_,_,he,_,_,he2,?_⟩
 refine ⟨_,_,c159 w 36 8640000 (by omega),_,_,c153 _,_,_,ht,_,_,c152 (tiltE w),_,_,c152 (eclE w),_,_,hd,_,_,_,c170 (declE w),?_⟩
 exact ⟨_,_,c156 _,_,_,c167 2466000 2 (eclE w),_,_,c153 (centE w),_,_,c167 53000 4 (eclE w),_,_,c153 _,_,_,c169,_,_,hq,rfl,rfl⟩)
def noonE (h:THalf):TEncl:=moveE (oppE (scaleE ⟨h.c.Lon,h.c.Lon⟩ 3 12500)) (IntKind.i64.wrap (86400 * h.day))
def windowE (h:THalf):TEncl:=if h.rise then sumE [noonE h,⟨-44400,1200⟩] else sumE [noonE h,⟨-1200,44400⟩]
def R147 (h0:THalf) (S:SpecF) (_Fr:FreshF) (_Sq:SeqF) (Q:PostF):Prop :=
 ∃ n0 n1,S 148 [iN h0.c.Lon] [] (.agg [iN n0,iN n1]) [] ∧ ∃ n3 n4,S 159 [AV.agg [iN n0,iN n1],iN 3,iN 12500] [] (.agg [iN n3,iN n4]) [] ∧ ∃ n6 n7,S 153 [AV.agg [iN n3,iN n4]] [] (.agg [iN n6,iN n7]) [] ∧ ∃ n9 n10,S 158 [AV.agg [iN n6,iN n7],iN (IntKind.i64.wrap ((86400:Int) * h0.day))] [] (.agg [iN n9,iN n10]) [] ∧ (h0.rise = true → ∃ n14 n15,S 151 [AV.slc 3 [AV.agg [iN n9,iN n10],.agg [iN (-44400:Int),iN 1200]]] [] (.agg [iN n14,iN n15]) [] ∧ Q (.agg [iN n14,iN n15]) []) ∧ (h0.rise = false → ∃ n14 n15,S 151 [AV.slc 3 [AV.agg [iN n9,iN n10],.agg [iN (-1200:Int),iN 44400]]] [] (.agg [iN n14,iN n15]) [] ∧ Q (.agg [iN n14,iN n15]) [])
theorem s147 (h0:THalf) (v:AV) (O:List (List AV)) (h:R147 h0 Sp Fo So (fun r O' => r = v ∧ O' = O)):Sp 147 [h0.av] [] v O :=
 spec_by (w:=⟨[],[],[],[],[]⟩) (k:=0) (keep:=⟨[0,1,2,3,15],[],[],[]⟩) (boxes:=[]) mixed (by exact trivial) Tryz.func147 Tryz.call147 rfl rfl rfl (Nat.le_of_ble_eq_true rfl) (by kernel_rfl) h
theorem c147 (h:THalf):Sp 147 [h.av] [] (windowE h).av []:=s147 h _ _ (by
 unfold R147 windowE
 have hn:Sp 158 [(oppE (scaleE ⟨h.c.Lon,h.c.Lon⟩ 3 12500)).av,.int .i64 (IntKind.i64.wrap (86400 * h.day))] [] (noonE h).av []:=c158 _ _
 have hs1:Sp 151 [.slc 3 [(noonE h).av,.agg [.int .i64 (-44400),.int .i64 1200]]] [] (sumE [noonE h,⟨-44400,1200⟩]).av []:=c151 [noonE h,⟨-44400,1200⟩] (by simp)
 have hs2:Sp 151 [.slc 3 [(noonE h).av,.agg [.int .i64 (-1200),.int .i64 44400]]] [] (sumE [noonE h,⟨-1200,44400⟩]).av []:=c151 [noonE h,⟨-1200,44400⟩] (by simp)
 generalize sumE [noonE h,⟨-44400,1200⟩] = r1 at *
 generalize sumE [noonE h,⟨-1200,44400⟩] = r2 at *
 generalize noonE h = no at *
 refine ⟨_,_,c148 h.c.Lon,_,_,c159 ⟨h.c.Lon,h.c.Lon⟩ 3 12500 (by omega),_,_,c153 _,_,_,hn,fun g => ⟨_,_,hs1,?_,by trivial⟩,fun g => ⟨_,_,hs2,?_,by trivial⟩⟩
 ·rw [if_pos g]; rfl
 ·rw [if_neg (by rw [g]; simp)]; rfl)
def topS (w:TEncl) (h:THalf) (lat:TEncl):TEncl:=sumE [(allR h.c.Altitude 0).1,oppE (prodE (allR lat 0).1 [(skyE w).sin])]
def ratioE (w:TEncl) (h:THalf) (lat:TEncl):TEncl:=(overR (topS w h lat) (prodE (allR lat 90000000).1 [(skyE w).cos])).1
def hourE (w:TEncl) (h:THalf) (lat:TEncl):TEncl:=if h.rise then oppE (arccosR (ratioE w h lat)).1 else (arccosR (ratioE w h lat)).1
def nextE (w:TEncl) (h:THalf) (lat:TEncl):TEncl:=moveE (scaleE (sumE [hourE w h lat,⟨IntKind.i64.wrap (0 - h.c.Lon),IntKind.i64.wrap (0 - h.c.Lon)⟩,oppE (skyE w).equation]) 3 12500) (IntKind.i64.wrap (86400 * h.day))
def againR (w:TEncl) (h:THalf) (lat:TEncl):Int × TEncl :=
 if (ratioE w h lat).Lo > 100000000 then (1,w) else if (ratioE w h lat).Hi < -100000000 then (2,w) else if (ratioE w h lat).Lo < -100000000 then (3,w) else if (ratioE w h lat).Hi > 100000000 then (3,w) else (0,nextE w h lat)
abbrev R149qa (v1:THalf) (v2:TEncl) (S:SpecF) (Q:PostF) (p0_ p1_ p2_ p3_:Int):Prop :=
 ∃ n49 n50,S 148 [iN (IntKind.i64.wrap ((0:Int) - v1.c.Lon))] [] (.agg [iN n49,iN n50]) [] ∧ ∃ n52 n53,S 153 [AV.agg [iN p0_,iN p1_]] [] (.agg [iN n52,iN n53]) [] ∧ ∃ n55 n56,S 151 [AV.slc 3 [AV.agg [iN p2_,iN p3_],.agg [iN n49,iN n50],.agg [iN n52,iN n53]]] [] (.agg [iN n55,iN n56]) [] ∧ ∃ n58 n59,S 159 [AV.agg [iN n55,iN n56],iN 3,iN 12500] [] (.agg [iN n58,iN n59]) [] ∧ ∃ n61 n62,S 158 [AV.agg [iN n58,iN n59],iN (IntKind.i64.wrap ((86400:Int) * v1.day))] [] (.agg [iN n61,iN n62]) [] ∧ Q (iN 0) [[iN n61,iN n62],v1.cs,v2.cs]
def R149 (v0:TEncl) (v1:THalf) (v2:TEncl) (S:SpecF) (_Fr:FreshF) (_Sq:SeqF) (Q:PostF):Prop :=
 ∃ n0 n1 n2 n3 n4 n5,S 150 [v0.av] [] (.agg [iN n0,iN n1,iN n2,iN n3,iN n4,iN n5]) [] ∧ ∃ n7 n8,S 152 [v1.c.Altitude.av] [] (.agg [iN n7,iN n8]) [] ∧ ∃ n10 n11,S 152 [v2.av] [] (.agg [iN n10,iN n11]) [] ∧ ∃ n13 n14,S 154 [AV.agg [iN n10,iN n11],.slc 3 [AV.agg [iN n0,iN n1]]] [] (.agg [iN n13,iN n14]) [] ∧ ∃ n16 n17,S 153 [AV.agg [iN n13,iN n14]] [] (.agg [iN n16,iN n17]) [] ∧ ∃ n19 n20,S 151 [AV.slc 3 [AV.agg [iN n7,iN n8],.agg [iN n16,iN n17]]] [] (.agg [iN n19,iN n20]) [] ∧ ∃ n22 n23,S 156 [v2.av] [] (.agg [iN n22,iN n23]) [] ∧ ∃ n25 n26,S 154 [AV.agg [iN n22,iN n23],.slc 3 [AV.agg [iN n2,iN n3]]] [] (.agg [iN n25,iN n26]) [] ∧ ∃ n28 n29 n30,S 155 [AV.agg [iN n19,iN n20],.agg [iN n25,iN n26]] [] (.tup [AV.agg [iN n28,iN n29],iN n30]) [] ∧ (decide (n28 > 100000000) = true → Q (iN 1) [v0.cs,v1.cs,v2.cs]) ∧ (decide (n28 > 100000000) = false → (decide (n29 < (-100000000:Int)) = true → Q (iN 2) [v0.cs,v1.cs,v2.cs]) ∧ (decide (n29 < (-100000000:Int)) = false → (decide (n28 < (-100000000:Int)) = true → Q (iN 3) [v0.cs,v1.cs,v2.cs]) ∧ (decide (n28 < (-100000000:Int)) = false → (decide (n29 > 100000000) = true → Q (iN 3) [v0.cs,v1.cs,v2.cs]) ∧ (decide (n29 > 100000000) = false → ∃ n40 n41 n42,S 157 [AV.agg [iN n28,iN n29]] [] (.tup [AV.agg [iN n40,iN n41],iN n42]) [] ∧ (v1.rise = true → ∃ n46 n47,S 153 [AV.agg [iN n40,iN n41]] [] (.agg [iN n46,iN n47]) [] ∧ R149qa v1 v2 S Q n4 n5 n46 n47) ∧ (v1.rise = false → R149qa v1 v2 S Q n4 n5 n40 n41)))))
theorem s149 (v0:TEncl) (v1:THalf) (v2:TEncl) (v:AV) (O:List (List AV)) (h:R149 v0 v1 v2 Sp Fo So (fun r O' => r = v ∧ O' = O)):Sp 149 [.ref 0 0,.ref 1 0,.ref 2 0] [v0.cs,v1.cs,v2.cs] v O :=
 spec_by (w:=⟨[],[],[],[],[]⟩) (k:=0) (keep:=⟨[0,1,2,3,4,5,6,8,36,40,44,59],[],[],[]⟩) (boxes:=[⟨23,false,v0.cs⟩,⟨186,false,v1.cs⟩,⟨23,false,v2.cs⟩]) mixed (by exact trivial) Tryz.func149 Tryz.call149 rfl rfl rfl (Nat.le_of_ble_eq_true rfl) (by kernel_rfl) h
theorem c149 (w:TEncl) (h:THalf) (lat:TEncl):Sp 149 [.ref 0 0,.ref 1 0,.ref 2 0] [w.cs,h.cs,lat.cs] (.int .i64 (againR w h lat).1) [(againR w h lat).2.cs,h.cs,lat.cs]:=s149 w h lat _ _ (by
 unfold R149 R149qa
 have h1:Sp 154 [(allR lat 0).1.av,.slc 3 [(skyE w).sin.av]] [] (prodE (allR lat 0).1 [(skyE w).sin]).av []:=c154 (allR lat 0).1 [(skyE w).sin] (by simp)
 have h2:Sp 151 [.slc 3 [(allR h.c.Altitude 0).1.av,(oppE (prodE (allR lat 0).1 [(skyE w).sin])).av]] [] (topS w h lat).av []:=c151 [(allR h.c.Altitude 0).1,oppE (prodE (allR lat 0).1 [(skyE w).sin])] (by simp)
 have h3:Sp 154 [(allR lat 90000000).1.av,.slc 3 [(skyE w).cos.av]] [] (prodE (allR lat 90000000).1 [(skyE w).cos]).av []:=c154 (allR lat 90000000).1 [(skyE w).cos] (by simp)
 have h4:∃ e,Sp 155 [(topS w h lat).av,(prodE (allR lat 90000000).1 [(skyE w).cos]).av] [] (.tup [(ratioE w h lat).av,.int .i64 e]) []:=⟨_,c155 _ _⟩
 obtain ⟨e4,h4⟩:=h4
 have h5:∃ e,Sp 157 [(ratioE w h lat).av] [] (.tup [(arccosR (ratioE w h lat)).1.av,.int .i64 e]) []:=⟨_,c157 _⟩
 obtain ⟨e5,h5⟩:=h5
 have h6:Sp 158 [(scaleE (sumE [hourE w h lat,⟨IntKind.i64.wrap (0 - h.c.Lon),IntKind.i64.wrap (0 - h.c.Lon)⟩,oppE (skyE w).equation]) 3 12500).av,.int .i64 (IntKind.i64.wrap (86400 * h.day))] [] (nextE w h lat).av []:=c158 _ _
 unfold againR
 refine ⟨_,_,_,_,_,_,c150 w,_,_,c152 h.c.Altitude,_,_,c152 lat,_,_,h1,_,_,c153 _,_,_,h2,_,_,c156 lat,_,_,h3,_,_,_,h4,fun g => ?_,fun g1 => ⟨fun g => ?_,fun g2 => ⟨fun g => ?_,fun g3 => ⟨fun g => ?_,fun g4 => ⟨_,_,_,h5,fun g => ?_,fun g => ?_⟩⟩⟩⟩⟩
 ·rw [if_pos (of_decide_eq_true g)]; exact ⟨rfl,by trivial⟩
 ·rw [if_neg (of_decide_eq_false g1),if_pos (of_decide_eq_true g)]; exact ⟨rfl,by trivial⟩
 ·rw [if_neg (of_decide_eq_false g1),if_neg (of_decide_eq_false g2),if_pos (of_decide_eq_true g)]; exact ⟨rfl,by trivial⟩
 ·rw [if_neg (of_decide_eq_false g1),if_neg (of_decide_eq_false g2),if_neg (of_decide_eq_false g3),if_pos (of_decide_eq_true g)]; exact ⟨rfl,by trivial⟩
 ·rw [if_neg (of_decide_eq_false g1),if_neg (of_decide_eq_false g2),if_neg (of_decide_eq_false g3),if_neg (of_decide_eq_false g4)]
  have hh:hourE w h lat = oppE (arccosR (ratioE w h lat)).1:=by unfold hourE; rw [if_pos g]
  rw [hh] at h6
  exact ⟨_,_,c153 _,_,_,c148 _,_,_,c153 (skyE w).equation,_,_,c151 [oppE (arccosR (ratioE w h lat)).1,⟨IntKind.i64.wrap (0 - h.c.Lon),IntKind.i64.wrap (0 - h.c.Lon)⟩,oppE (skyE w).equation] (by simp),_,_,c159 _ 3 12500 (by omega),_,_,h6,rfl,by trivial⟩
 ·rw [if_neg (of_decide_eq_false g1),if_neg (of_decide_eq_false g2),if_neg (of_decide_eq_false g3),if_neg (of_decide_eq_false g4)]
  have hh:hourE w h lat = (arccosR (ratioE w h lat)).1:=by unfold hourE; rw [if_neg (by rw [g]; simp)]
  rw [hh] at h6
  exact ⟨_,_,c148 _,_,_,c153 (skyE w).equation,_,_,c151 [(arccosR (ratioE w h lat)).1,⟨IntKind.i64.wrap (0 - h.c.Lon),IntKind.i64.wrap (0 - h.c.Lon)⟩,oppE (skyE w).equation] (by simp),_,_,c159 _ 3 12500 (by omega),_,_,h6,rfl,by trivial⟩)
end Go.Proofs.YtdeeekgohhkdbaaGreatDoor
namespace Go.Proofs.YtdeeekgohhkdbaaGreatDoor
open Go.RowKit
def passF (h:THalf):Nat → Int → TEncl → Int × TEncl
 | 0,kd,w => (kd,w)
 | k + 1,_,w => if (againR w h ⟨h.c.Lat,h.c.Lat⟩).1 ≠ 0 then ((againR w h ⟨h.c.Lat,h.c.Lat⟩).1,⟨0,0⟩) else passF h k (againR w h ⟨h.c.Lat,h.c.Lat⟩).1 (againR w h ⟨h.c.Lat,h.c.Lat⟩).2
theorem passF_0 (h:THalf) (kd:Int) (w:TEncl):passF h 0 kd w = (kd,w):=rfl
theorem passF_s (h:THalf) (k:Nat) (kd:Int) (w:TEncl):passF h (k + 1) kd w = if (againR w h ⟨h.c.Lat,h.c.Lat⟩).1 ≠ 0 then ((againR w h ⟨h.c.Lat,h.c.Lat⟩).1,⟨0,0⟩) else passF h k (againR w h ⟨h.c.Lat,h.c.Lat⟩).1 (againR w h ⟨h.c.Lat,h.c.Lat⟩).2:=rfl
def passR (h:THalf):Int × TEncl:=passF h 3 0 (windowE h)
def R133 (h0:THalf) (S:SpecF) (_Fr:FreshF) (_Sq:SeqF) (Q:PostF):Prop :=
 ∃ n0 n1,S 147 [h0.av] [] (.agg [iN n0,iN n1]) [] ∧ ∃ n3 n4,S 148 [iN h0.c.Lat] [] (.agg [iN n3,iN n4]) [] ∧ ∃ (I6:Nat → List AV → Prop),(∃ m8,I6 m8 [iN 0,iN 0,h0.av,.agg [iN n0,iN n1],.agg [iN n3,iN n4]]) ∧ ∀ (m8:Nat) (n9 n10 n11 n12 n13 n14 n15 n16:Int) (b17:Bool) (n18 n19 n20 n21:Int),I6 m8 [iN n9,iN n10,.agg [iN n11,iN n12,iN n13,iN n14,iN n15,iN n16,.bool b17],.agg [iN n18,iN n19],.agg [iN n20,iN n21]] → (decide (n10 < 3) = true → ∃ n25 n26 n27 n28 n29 n30 n31 n32 n33 b34 n35 n36,S 149 [AV.ref 0 0,.ref 1 0,.ref 2 0] [[iN n18,iN n19],[iN n11,iN n12,iN n13,iN n14,iN n15,iN n16,.bool b17],[iN n20,iN n21]] (iN n25) [[iN n26,iN n27],[iN n28,iN n29,iN n30,iN n31,iN n32,iN n33,.bool b34],[iN n35,iN n36]] ∧ ((n25 != 0) = true → Q (.tup [iN n25,TEncl.zero.av]) []) ∧ ((n25 != 0) = false → ∃ k40,k40 < m8 ∧ I6 k40 [iN n25,iN (IntKind.i64.wrap (n10 + 1)),.agg [iN n28,iN n29,iN n30,iN n31,iN n32,iN n33,.bool b34],.agg [iN n26,iN n27],.agg [iN n35,iN n36]])) ∧ (decide (n10 < 3) = false → Q (.tup [iN n9,.agg [iN n18,iN n19]]) [])
theorem s133 (h0:THalf) (v:AV) (O:List (List AV)) (h:R133 h0 Sp Fo So (fun r O' => r = v ∧ O' = O)):Sp 133 [h0.av] [] v O :=
 spec_by (w:=⟨[],[],[],[],[]⟩) (k:=0) (keep:=⟨[0,1,2,3,4,5,13,14,18],[⟨5,[(2,iN 0),(13,iN 0)],[],[(1,.agg [iN 0,iN 0,iN 0,iN 0,iN 0,iN 0,.bool false]),(3,.agg [iN 0,iN 0]),(4,.agg [iN 0,iN 0])],[],[],[]⟩],[],[]⟩) (boxes:=[]) mixed (by exact trivial) Tryz.func133 Tryz.call133 rfl rfl rfl (Nat.le_of_ble_eq_true rfl) (by kernel_rfl) h
theorem c133 (h:THalf):Sp 133 [h.av] [] (.tup [.int .i64 (passR h).1,(passR h).2.av]) []:=s133 h _ _ (by
 unfold R133
 refine ⟨_,_,c147 h,_,_,c148 h.c.Lat,?_⟩
 refine ⟨fun m vs => ∃ (k:Nat) (kd:Int) (w:TEncl),m + k = 3 ∧ vs = [.int .i64 kd,.int .i64 k,h.av,w.av,(TEncl.mk h.c.Lat h.c.Lat).av] ∧ passF h m kd w = passR h,⟨3,0,0,windowE h,rfl,rfl,rfl⟩,?_⟩
 intro m
 intros
 rename_i hJ
 obtain ⟨k,kd,w,hm,hv,hp⟩:=hJ
 unfold TEncl.av TEncl.cs THalf.av THalf.cs at hv
 cases hv
 refine ⟨fun g => ?_,fun g => ?_⟩
 ·have hk:k < 3:=by have:=of_decide_eq_true g; omega
  obtain ⟨j,rfl⟩:∃ j,m = j + 1:=⟨m - 1,by omega⟩
  rw [passF_s] at hp
  refine ⟨_,_,_,_,_,_,_,_,_,_,_,_,c149 w h ⟨h.c.Lat,h.c.Lat⟩,fun g2 => ⟨?_,by trivial⟩,fun g2 => ⟨j,by omega,k + 1,(againR w h ⟨h.c.Lat,h.c.Lat⟩).1,(againR w h ⟨h.c.Lat,h.c.Lat⟩).2,by omega,?_,?_⟩⟩
  ·have g2:(againR w h ⟨h.c.Lat,h.c.Lat⟩).1 ≠ 0:=by simpa using g2
   rw [if_pos g2] at hp
   rw [← hp]; rfl
  ·rw [wrapN (by omega)]; rfl
  ·have g2:(againR w h ⟨h.c.Lat,h.c.Lat⟩).1 = 0:=by simpa using g2
   rw [if_neg (by simp [g2])] at hp
   exact hp
 ·have hk:¬ k < 3:=by have:=of_decide_eq_false g; omega
  obtain rfl:m = 0:=by omega
  rw [passF_0] at hp
  rw [← hp]
  exact ⟨rfl,by trivial⟩)
def localE (c:TSnCity) (day:Int) (w:TEncl):TEncl:=moveE w (IntKind.i64.wrap (IntKind.i64.wrap (43200 + c.Zone) - IntKind.i64.wrap (86400 * day)))
def R134 (c:TSnCity) (day:Int) (w:TEncl) (S:SpecF) (_Fr:FreshF) (_Sq:SeqF) (Q:PostF):Prop :=
 ∃ n0 n1,S 158 [w.av,iN (IntKind.i64.wrap (IntKind.i64.wrap ((43200:Int) + c.Zone) - IntKind.i64.wrap ((86400:Int) * day)))] [] (.agg [iN n0,iN n1]) [] ∧ Q (.agg [iN n0,iN n1]) []
theorem s134 (c:TSnCity) (day:Int) (w:TEncl) (v:AV) (O:List (List AV)) (h:R134 c day w Sp Fo So (fun r O' => r = v ∧ O' = O)):Sp 134 [c.av,iN day,w.av] [] v O :=
 spec_by (w:=⟨[],[],[],[],[]⟩) (k:=0) (keep:=⟨[0,1,2,3,5,6],[],[],[]⟩) (boxes:=[]) mixed (by exact trivial) Tryz.func134 Tryz.call134 rfl rfl rfl (Nat.le_of_ble_eq_true rfl) (by kernel_rfl) h
theorem c134 (c:TSnCity) (day:Int) (w:TEncl):Sp 134 [c.av,.int .i64 day,w.av] [] (localE c day w).av []:=s134 c day w _ _ ⟨_,_,c158 _ _,rfl,rfl⟩
def toldR (h:THalf):Int × TEncl × Int :=
 if cityB h.c then (0,⟨0,0⟩,7) else if outB h.day 0 40000 then (0,⟨0,0⟩,7) else if (passR h).1 = 0 then ((passR h).1,localE h.c h.day (passR h).2,0) else ((passR h).1,⟨0,0⟩,0)
def R118 (h0:THalf) (S:SpecF) (_Fr:FreshF) (_Sq:SeqF) (Q:PostF):Prop :=
 ∃ n0,S 60 [h0.c.av] [] (iN n0) [] ∧ ((n0 != 0) = true → Q (.tup [iN 0,TEncl.zero.av,iN 7]) []) ∧ ((n0 != 0) = false → ∃ b4,S 109 [iN h0.day,iN 0,iN 40000] [] (.bool b4) [] ∧ (b4 = true → Q (.tup [iN 0,TEncl.zero.av,iN 7]) []) ∧ (b4 = false → ∃ n8 n9 n10,S 133 [h0.av] [] (.tup [iN n8,.agg [iN n9,iN n10]]) [] ∧ ((n8 == 0) = true → ∃ n14 n15,S 134 [h0.c.av,iN h0.day,.agg [iN n9,iN n10]] [] (.agg [iN n14,iN n15]) [] ∧ Q (.tup [iN n8,.agg [iN n14,iN n15],iN 0]) []) ∧ ((n8 == 0) = false → Q (.tup [iN n8,TEncl.zero.av,iN 0]) [])))
theorem s118 (h0:THalf) (v:AV) (O:List (List AV)) (h:R118 h0 Sp Fo So (fun r O' => r = v ∧ O' = O)):Sp 118 [h0.av] [] v O :=
 spec_by (w:=⟨[],[],[],[],[]⟩) (k:=0) (keep:=⟨[0,1,2,3,4,5,14,22],[],[],[]⟩) (boxes:=[]) mixed (by exact trivial) Tryz.func118 Tryz.call118 rfl rfl rfl (Nat.le_of_ble_eq_true rfl) (by kernel_rfl) h
theorem c118 (h:THalf):Sp 118 [h.av] [] (.tup [.int .i64 (toldR h).1,(toldR h).2.1.av,.int .i64 (toldR h).2.2]) []:=s118 h _ _ (by
 unfold R118 toldR
 refine ⟨_,c60 h.c,fun g => ⟨?_,by trivial⟩,fun g => ⟨_,c109 ..,fun g2 => ⟨?_,by trivial⟩,fun g2 => ⟨_,_,_,c133 h,fun g3 => ⟨_,_,c134 h.c h.day (passR h).2,?_,by trivial⟩,fun g3 => ⟨?_,by trivial⟩⟩⟩⟩
 ·cases hc:cityB h.c with
  | true => rfl
  | false => rw [hc] at g; simp at g
 all_goals
  cases hc:cityB h.c with
  | true => rw [hc] at g; simp at g
  | false => ?_
 ·rw [if_neg (by simp),if_pos g2]; rfl
 ·have g3:(passR h).1 = 0:=by simpa using g3
  rw [if_neg (by simp),if_neg (by rw [g2]; simp),if_pos g3]; rfl
 ·have g3:¬ (passR h).1 = 0:=by simpa using g3
  rw [if_neg (by simp),if_neg (by rw [g2]; simp),if_neg g3]; rfl)
def R83 (c:TSnCity) (day:Int) (S:SpecF) (_Fr:FreshF) (_Sq:SeqF) (Q:PostF):Prop :=
 ∃ n0 n1 n2 n3,S 118 [AV.agg [iN c.Lat,iN c.Lon,iN c.Zone,iN c.Altitude.Lo,iN c.Altitude.Hi,iN day,.bool true]] [] (.tup [iN n0,.agg [iN n1,iN n2],iN n3]) [] ∧ Q (.tup [iN n0,.agg [iN n1,iN n2],iN n3]) []
theorem s83 (c:TSnCity) (day:Int) (v:AV) (O:List (List AV)) (h:R83 c day Sp Fo So (fun r O' => r = v ∧ O' = O)):Sp 83 [c.av,iN day] [] v O :=
 spec_by (w:=⟨[],[],[],[],[]⟩) (k:=0) (keep:=⟨[0,1,2,4,5,6],[],[],[]⟩) (boxes:=[]) mixed (by exact trivial) Tryz.func83 Tryz.call83 rfl rfl rfl (Nat.le_of_ble_eq_true rfl) (by kernel_rfl) h
theorem c83 (c:TSnCity) (day:Int):Sp 83 [c.av,.int .i64 day] [] (.tup [.int .i64 (toldR ⟨c,day,true⟩).1,(toldR ⟨c,day,true⟩).2.1.av,.int .i64 (toldR ⟨c,day,true⟩).2.2]) []:=s83 c day _ _ ⟨_,_,_,_,c118 ⟨c,day,true⟩,rfl,rfl⟩
def R84 (c:TSnCity) (day:Int) (S:SpecF) (_Fr:FreshF) (_Sq:SeqF) (Q:PostF):Prop :=
 ∃ n0 n1 n2 n3,S 118 [AV.agg [iN c.Lat,iN c.Lon,iN c.Zone,iN c.Altitude.Lo,iN c.Altitude.Hi,iN day,.bool false]] [] (.tup [iN n0,.agg [iN n1,iN n2],iN n3]) [] ∧ Q (.tup [iN n0,.agg [iN n1,iN n2],iN n3]) []
theorem s84 (c:TSnCity) (day:Int) (v:AV) (O:List (List AV)) (h:R84 c day Sp Fo So (fun r O' => r = v ∧ O' = O)):Sp 84 [c.av,iN day] [] v O :=
 spec_by (w:=⟨[],[],[],[],[]⟩) (k:=0) (keep:=⟨[0,1,2,4,5,6],[],[],[]⟩) (boxes:=[]) mixed (by exact trivial) Tryz.func84 Tryz.call84 rfl rfl rfl (Nat.le_of_ble_eq_true rfl) (by kernel_rfl) h
theorem c84 (c:TSnCity) (day:Int):Sp 84 [c.av,.int .i64 day] [] (.tup [.int .i64 (toldR ⟨c,day,false⟩).1,(toldR ⟨c,day,false⟩).2.1.av,.int .i64 (toldR ⟨c,day,false⟩).2.2]) []:=s84 c day _ _ ⟨_,_,_,_,c118 ⟨c,day,false⟩,rfl,rfl⟩
end Go.Proofs.YtdeeekgohhkdbaaGreatDoor
