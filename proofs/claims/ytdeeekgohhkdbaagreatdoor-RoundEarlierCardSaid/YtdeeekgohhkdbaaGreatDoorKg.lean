/- Contract: RoundEarlier. -/
import Derived.Test.YtdeeekgohhkdbaaGreatDoorKe
import Derived.Test.YtdeeekgohhkdbaaGreatDoorKf
namespace Go.Proofs.YtdeeekgohhkdbaaGreatDoor
open Go.RowKit
theorem ne_no {a b:Int} (h:(a != b) = true) (e:a = b):False:=by subst e; simp at h
theorem dec_no {p:Prop} [Decidable p] (h:decide p = true) (e:¬ p):False:=e (of_decide_eq_true h)
def R21 (a b:List TRoStop) (_S:SpecF) (_Fr:FreshF) (_Sq:SeqF) (Q:PostF):Prop :=
 (((↑(List.map TRoStop.av a).length:Int) != (↑(List.map TRoStop.av b).length:Int)) = true → Q (.bool false) []) ∧ (((↑(List.map TRoStop.av a).length:Int) != (↑(List.map TRoStop.av b).length:Int)) = false → ∃ (I2:Nat → List AV → Prop),(∃ m4,I2 m4 [iN 0]) ∧ ∀ (m4:Nat) (n5:Int),I2 m4 [iN n5] → (decide (n5 < (↑(List.map TRoStop.av a).length:Int)) = true → ∃ n9 n10 n11 n12,((0:Int) ≤ n5 ∧ (4:Nat) = (4:Nat) ∧ (List.map TRoStop.av a)[n5.toNat]? = some (.agg [iN n9,iN n10,iN n11,iN n12])) ∧ ∃ n14 n15 n16 n17,((0:Int) ≤ n5 ∧ (4:Nat) = (4:Nat) ∧ (List.map TRoStop.av b)[n5.toNat]? = some (.agg [iN n14,iN n15,iN n16,iN n17])) ∧ ((!(n9 == n14 && (n10 == n15 && (n11 == n16 && (n12 == n17 && true))))) = true → Q (.bool false) []) ∧ ((!(n9 == n14 && (n10 == n15 && (n11 == n16 && (n12 == n17 && true))))) = false → ∃ k21,k21 < m4 ∧ I2 k21 [iN (IntKind.i64.wrap (n5 + 1))])) ∧ (decide (n5 < (↑(List.map TRoStop.av a).length:Int)) = false → Q (.bool true) []))
theorem s21 (a:List TRoStop) (b:List TRoStop) (v:AV) (O:List (List AV)) (h:R21 a b Sp Fo So (fun r O' => r = v ∧ O' = O)):Sp 21 [.slc 3 (List.map TRoStop.av a),.slc 3 (List.map TRoStop.av b)] [] v O :=
 spec_by (w:=⟨[],[],[],[],[]⟩) (k:=0) (keep:=⟨[0,1,4,5,10,14,25],[⟨4,[(5,iN 0)],[],[],[],[],[]⟩],[],[]⟩) (boxes:=[]) mixed (by exact trivial) Tryz.func21 Tryz.call21 rfl rfl rfl (Nat.le_of_ble_eq_true rfl) (by kernel_rfl) h
theorem stops_same (a:List TRoStop) (hl:a.length ≤ 4611686018427387904):Sp 21 [.slc 3 (a.map TRoStop.av),.slc 3 (a.map TRoStop.av)] [] (.bool true) []:=s21 a a _ _ (by
 unfold R21
 refine ⟨fun h => (ne_no h rfl).elim,fun _ => ⟨fun m vs => ∃ k:Nat,vs = [.int .i64 k] ∧ k ≤ a.length ∧ m = a.length - k,⟨_,0,rfl,by omega,rfl⟩,?_⟩⟩
 rintro m n5 ⟨k,hk,hle,rfl⟩
 cases hk
 rw [List.length_map]
 refine ⟨fun h => ?_,fun _ => ⟨rfl,by trivial⟩⟩
 have h:k < a.length:=by have:=of_decide_eq_true h; omega
 obtain ⟨x,hx,hx'⟩:=map_getN (f:=TRoStop.av) h
 refine ⟨_,_,_,_,⟨by omega,by trivial,hx'⟩,_,_,_,_,⟨by omega,by trivial,hx'⟩,fun g => absurd g (by simp),fun _ => ?_⟩
 exact ⟨_,(by omega:a.length - (k + 1) < a.length - k),k + 1,by rw [wrapN (by omega)],by omega,rfl⟩)
theorem lor_cs:∀ x:TRoLorry,TRoLorry.av x = .agg (TRoLorry.cs x):=fun _ => rfl
theorem lor_len:∀ x:TRoLorry,(TRoLorry.cs x).length = 6:=fun _ => rfl
theorem lor_one:∀ x:TRoLorry,ones (TRoLorry.cs x) = true:=fun _ => rfl
theorem agg49':isAggT Tryz.prog 49 = true:=by kernel_rfl
theorem und3':Tryz.prog.underlying 3 = some (.int .i64):=by kernel_rfl
theorem lor_idx {t:TRoTask} {k:Nat} (hk:k < t.Lorries.length):t.Lorries[k]? = some (lorAt t k):=by
 unfold lorAt
 rw [Int.toNat_natCast,List.getD_eq_getElem?_getD,List.getElem?_eq_getElem hk]; rfl
abbrev R4qa (t:TRoTask) (x:TLate) (Q:PostF) (p0_ p1_:Int) (p2_:List AV → Prop):Prop :=
 decide (p0_ ≥ 0) = true → (decide (p1_ < 0) = true → Q (.bool false) []) ∧ (decide (p1_ < 0) = false → (decide (p1_ > p0_) = true → Q (.bool false) []) ∧ (decide (p1_ > p0_) = false → t.cs = t.cs ∧ x.cs = x.cs ∧ Same [iN t.City.Lat,iN t.City.Lon,iN t.City.Zone,iN t.City.Altitude.Lo,iN t.City.Altitude.Hi,iN t.Day,iN t.X,iN t.Y,iN t.Pace,.slc 3 (List.map TRoKind.av t.Kinds),.slc 3 (List.map TRoSpan.av t.Closures),.aslc (53:Nat) (0:Nat) ((0:Nat) + (List.map TRoLorry.av t.Lorries).length) (6:Nat) (isAggT Tryz.prog (49:Nat)),.slc 3 (List.map TRoJob.av t.Jobs)] ∧ p2_ []))
abbrev R4qb (t:TRoTask) (x:TLate) (p0_:Int) (p1_:List AV → Prop):Prop :=
 decide (p0_ ≥ 0) = false → t.cs = t.cs ∧ x.cs = x.cs ∧ Same [iN t.City.Lat,iN t.City.Lon,iN t.City.Zone,iN t.City.Altitude.Lo,iN t.City.Altitude.Hi,iN t.Day,iN t.X,iN t.Y,iN t.Pace,.slc 3 (List.map TRoKind.av t.Kinds),.slc 3 (List.map TRoSpan.av t.Closures),.aslc (53:Nat) (0:Nat) ((0:Nat) + (List.map TRoLorry.av t.Lorries).length) (6:Nat) (isAggT Tryz.prog (49:Nat)),.slc 3 (List.map TRoJob.av t.Jobs)] ∧ p1_ []
def R4 (t:TRoTask) (lorry:Int) (x:TLate) (S:SpecF) (_Fr:FreshF) (_Sq:SeqF) (Q:PostF):Prop :=
 ∃ es0 n1 n2,S 20 [t.av,iN lorry,.slc 3 (List.map (AV.int IntKind.i64) x.Jobs)] [] (.tup [AV.slc 3 es0,iN n1,iN n2]) [] ∧ ((n2 != 0) = true → ((n2 != 0) = true → ∃ b8,S 17 [] [] (.bool b8) [] ∧ Q (.bool b8) []) ∧ ((n2 != 0) = false → Q (.bool false) [])) ∧ ((n2 != 0) = false → (decide (lorry < 0) = true → ((n2 != 0) = true → ∃ b10,S 17 [] [] (.bool b10) [] ∧ Q (.bool b10) []) ∧ ((n2 != 0) = false → Q (.bool false) [])) ∧ (decide (lorry < 0) = false → (decide (lorry ≥ (↑(List.map TRoLorry.av t.Lorries).length:Int)) = true → ((n2 != 0) = true → ∃ b12,S 17 [] [] (.bool b12) [] ∧ Q (.bool b12) []) ∧ ((n2 != 0) = false → Q (.bool false) [])) ∧ (decide (lorry ≥ (↑(List.map TRoLorry.av t.Lorries).length:Int)) = false → (decide ((↑es0.length:Int) > (↑(List.map (AV.int IntKind.i64) x.Jobs).length:Int)) = true → ((n2 != 0) = true → ∃ b14,S 17 [] [] (.bool b14) [] ∧ Q (.bool b14) []) ∧ ((n2 != 0) = false → Q (.bool false) [])) ∧ (decide ((↑es0.length:Int) > (↑(List.map (AV.int IntKind.i64) x.Jobs).length:Int)) = false → elemsOf (6:Nat) (List.map TRoLorry.av t.Lorries) ∧ ((([]:List AV) = [] ∨ (0:Nat) < (List.map TRoLorry.av t.Lorries).length) ∧ ((0:Nat) + (List.map TRoLorry.av t.Lorries).length + (512:Nat)) * 281 ≤ (1125899906842624:Nat) ∧ elemsOf (6:Nat) [] ∧ ones (List.flatMap AV.cells (List.map TRoLorry.av t.Lorries)) = true ∧ ones [] = true) ∧ ((0:Int) ≤ lorry ∧ lorry < (↑((0:Nat) + (List.map TRoLorry.av t.Lorries).length):Int) ∧ (6:Nat) = (6:Nat)) ∧ ∃ n15,Option.map AV.norm (partA Tryz.prog (3:Nat) ([] ++ List.flatMap AV.cells (List.map TRoLorry.av t.Lorries)) ((0:Nat) + lorry.toNat * 6 + (3:Nat))) = some (iN n15) ∧ ((0:Int) ≤ lorry ∧ lorry < (↑((0:Nat) + (List.map TRoLorry.av t.Lorries).length):Int) ∧ (6:Nat) = (6:Nat)) ∧ (0:Nat) + lorry.toNat * 6 + (3:Nat) + (1:Nat) ≤ ([] ++ List.flatMap AV.cells (List.map TRoLorry.av t.Lorries)).length ∧ (0:Nat) + ((0:Nat) + (List.map TRoLorry.av t.Lorries).length) * 6 ≤ (setCells ([] ++ List.flatMap AV.cells (List.map TRoLorry.av t.Lorries)) ((0:Nat) + lorry.toNat * 6 + (3:Nat)) [iN (if IntKind.i64.wrap (n15 - IntKind.i64.wrap x.By) > 0 then IntKind.i64.wrap (n15 - IntKind.i64.wrap x.By) else (0:Int))]).length ∧ ∃ es20 n21 n22,S 20 [AV.agg [iN t.City.Lat,iN t.City.Lon,iN t.City.Zone,iN t.City.Altitude.Lo,iN t.City.Altitude.Hi,iN t.Day,iN t.X,iN t.Y,iN t.Pace,.slc 3 (List.map TRoKind.av t.Kinds),.slc 3 (List.map TRoSpan.av t.Closures),.slc 3 (chunks (6:Nat) (isAggT Tryz.prog (49:Nat)) ((0:Nat) + (List.map TRoLorry.av t.Lorries).length) (List.drop (0:Nat) (setCells ([] ++ List.flatMap AV.cells (List.map TRoLorry.av t.Lorries)) ((0:Nat) + lorry.toNat * 6 + (3:Nat)) [iN (if IntKind.i64.wrap (n15 - IntKind.i64.wrap x.By) > 0 then IntKind.i64.wrap (n15 - IntKind.i64.wrap x.By) else (0:Int))]))),.slc 3 (List.map TRoJob.av t.Jobs)],iN lorry,.slc 3 (List.map (AV.int IntKind.i64) x.Jobs)] [] (.tup [AV.slc 3 es20,iN n21,iN n22]) [] ∧ ∃ (J24:List AV → Prop),(((n22 != 0) = true → Q (.bool false) []) ∧ ((n22 != 0) = false → (decide ((↑es20.length:Int) < (↑es0.length:Int)) = true → Q (.bool false) []) ∧ (decide ((↑es20.length:Int) < (↑es0.length:Int)) = false → (R4qa t x Q n1 n21 J24) ∧ (R4qb t x n1 J24)))) ∧ (J24 [] → ∃ (I27:Nat → List AV → Prop),(∃ m29,I27 m29 [iN 0]) ∧ ∀ (m29:Nat) (n30:Int),I27 m29 [iN n30] → (decide (n30 < (↑es0.length:Int)) = true → ∃ n34 n35 n36 n37,((0:Int) ≤ n30 ∧ (4:Nat) = (4:Nat) ∧ es20[n30.toNat]? = some (.agg [iN n34,iN n35,iN n36,iN n37])) ∧ ∃ n39 n40 n41 n42,((0:Int) ≤ n30 ∧ (4:Nat) = (4:Nat) ∧ es0[n30.toNat]? = some (.agg [iN n39,iN n40,iN n41,iN n42])) ∧ ((n34 != n39) = true → Q (.bool false) []) ∧ ((n34 != n39) = false → ∃ n46 n47 n48 n49,((0:Int) ≤ n30 ∧ (4:Nat) = (4:Nat) ∧ es20[n30.toNat]? = some (.agg [iN n46,iN n47,iN n48,iN n49])) ∧ ∃ n51 n52 n53 n54,((0:Int) ≤ n30 ∧ (4:Nat) = (4:Nat) ∧ es0[n30.toNat]? = some (.agg [iN n51,iN n52,iN n53,iN n54])) ∧ (decide (n47 > n52) = true → Q (.bool false) []) ∧ (decide (n47 > n52) = false → ∃ n58 n59 n60 n61,((0:Int) ≤ n30 ∧ (4:Nat) = (4:Nat) ∧ es20[n30.toNat]? = some (.agg [iN n58,iN n59,iN n60,iN n61])) ∧ ∃ n63 n64 n65 n66,((0:Int) ≤ n30 ∧ (4:Nat) = (4:Nat) ∧ es0[n30.toNat]? = some (.agg [iN n63,iN n64,iN n65,iN n66])) ∧ (decide (n60 > n65) = true → Q (.bool false) []) ∧ (decide (n60 > n65) = false → ∃ n70 n71 n72 n73,((0:Int) ≤ n30 ∧ (4:Nat) = (4:Nat) ∧ es20[n30.toNat]? = some (.agg [iN n70,iN n71,iN n72,iN n73])) ∧ ∃ n75 n76 n77 n78,((0:Int) ≤ n30 ∧ (4:Nat) = (4:Nat) ∧ es0[n30.toNat]? = some (.agg [iN n75,iN n76,iN n77,iN n78])) ∧ (decide (n73 > n78) = true → Q (.bool false) []) ∧ (decide (n73 > n78) = false → t.cs = t.cs ∧ x.cs = x.cs ∧ Same [iN t.City.Lat,iN t.City.Lon,iN t.City.Zone,iN t.City.Altitude.Lo,iN t.City.Altitude.Hi,iN t.Day,iN t.X,iN t.Y,iN t.Pace,.slc 3 (List.map TRoKind.av t.Kinds),.slc 3 (List.map TRoSpan.av t.Closures),.aslc (53:Nat) (0:Nat) ((0:Nat) + (List.map TRoLorry.av t.Lorries).length) (6:Nat) (isAggT Tryz.prog (49:Nat)),.slc 3 (List.map TRoJob.av t.Jobs)] ∧ ∃ k85,k85 < m29 ∧ I27 k85 [iN (IntKind.i64.wrap (n30 + 1))]))))) ∧ (decide (n30 < (↑es0.length:Int)) = false → (((↑(List.map (AV.int IntKind.i64) x.Jobs).length:Int) == (0:Int)) = true → ∃ b36,S 17 [] [] (.bool b36) [] ∧ Q (.bool b36) []) ∧ (((↑(List.map (AV.int IntKind.i64) x.Jobs).length:Int) == (0:Int)) = false → ((0:Int) ≤ IntKind.i64.wrap ((↑(List.map (AV.int IntKind.i64) x.Jobs).length:Int) - (1:Int)) ∧ IntKind.i64.wrap ((↑(List.map (AV.int IntKind.i64) x.Jobs).length:Int) - (1:Int)) ≤ (↑(List.map (AV.int IntKind.i64) x.Jobs).length:Int)) ∧ ∃ es37 n38 n39,S 20 [t.av,iN lorry,.slc 3 (List.take (IntKind.i64.wrap ((↑(List.map (AV.int IntKind.i64) x.Jobs).length:Int) - (1:Int))).toNat (List.map (AV.int IntKind.i64) x.Jobs))] [] (.tup [AV.slc 3 es37,iN n38,iN n39]) [] ∧ ∃ (J41:List AV → Prop),(((n39 != 0) = true → Q (.bool false) []) ∧ ((n39 != 0) = false → (((↑es37.length:Int) != if IntKind.i64.wrap ((↑(List.map (AV.int IntKind.i64) x.Jobs).length:Int) - (1:Int)) < (↑es0.length:Int) then IntKind.i64.wrap ((↑(List.map (AV.int IntKind.i64) x.Jobs).length:Int) - (1:Int)) else (↑es0.length:Int)) = true → Q (.bool false) []) ∧ (((↑es37.length:Int) != if IntKind.i64.wrap ((↑(List.map (AV.int IntKind.i64) x.Jobs).length:Int) - (1:Int)) < (↑es0.length:Int) then IntKind.i64.wrap ((↑(List.map (AV.int IntKind.i64) x.Jobs).length:Int) - (1:Int)) else (↑es0.length:Int)) = false → (R4qa t x Q n1 n38 J41) ∧ (R4qb t x n1 J41)))) ∧ (J41 [] → ((0:Int) ≤ (↑es37.length:Int) ∧ (↑es37.length:Int) ≤ (↑es0.length:Int)) ∧ ∃ b45,S 21 [AV.slc 3 es37,.slc 3 (List.take (↑es37.length:Int).toNat es0)] [] (.bool b45) [] ∧ (b45 = true → ∃ b49,S 17 [] [] (.bool b49) [] ∧ Q (.bool b49) []) ∧ (b45 = false → Q (.bool false) [])))))))))
theorem s4 (t:TRoTask) (lorry:Int) (x:TLate) (v:AV) (O:List (List AV)) (h:R4 t lorry x Sp Fo So (fun r O' => r = v ∧ O' = O)):Sp 4 [t.av,iN lorry,x.av] [] v O :=
 spec_by (w:=⟨[],[],[21,994000000],[],[]⟩) (k:=0) (keep:=⟨[0,1,2,3,5,6,7,8,9,10,11,12,13,43,101,105,157,161,203],[⟨11,[(13,iN 0)],[],[],[],[],[]⟩],[⟨10,[],[],[],[],[],[]⟩,⟨20,[],[],[],[],[],[]⟩],[]⟩) (boxes:=[]) mixed (by exact trivial) Tryz.func4 Tryz.call4 rfl rfl rfl (Nat.le_of_ble_eq_true rfl) (by kernel_rfl) h
theorem c4 (t:TRoTask) (ht:t.Ok) (lorry:Int) (x:TLate) (hx:x.Jobs.length ≤ 17592186043904) (hb:0 ≤ x.By ∧ x.By < 65536):Sp 4 [t.av,.int .i64 lorry,x.av] [] (.bool true) []:=s4 t lorry x _ _ (by
 have hti:=taskIn_of ht
 obtain ⟨J,B⟩:=x
 have hx:J.length ≤ 17592186043904:=hx
 have hb:0 ≤ B ∧ B < 65536:=hb
 unfold R4 R4qb R4qa
 dsimp only
 have awake:∃ b:Bool,Sp 17 [] [] (.bool b) [] ∧ (AV.bool b = .bool true ∧ ([]:List (List AV)) = []):=⟨_,awake_ok,rfl,rfl⟩
 have hT:=times_ok t hti lorry J hx
 unfold tableV at hT
 by_cases h0:(tableR t lorry J).2.2 = 0
 case neg => exact ⟨_,_,_,hT,fun _ => ⟨fun _ => awake,fun h' => absurd (by simpa using h') h0⟩,fun h => absurd (by simpa using h) h0⟩
 obtain ⟨he,hn,ho,hd,e⟩:=table_conv h0
 have hv:=task_ok he
 have hll:=hv.ll
 have hjl:=hv.jl
 have ho:=outB_false.1 ho
 obtain ⟨k,rfl⟩:∃ k:Nat,lorry = k:=⟨lorry.toNat,by omega⟩
 have hk:k < t.Lorries.length:=by omega
 have hJ:=avNone hv hn
 have hfew:J.length ≤ t.Jobs.length:=dup_few hd hJ
 have hlor:=lor_idx hk
 obtain ⟨l1,l2,l3,l4,l5⟩:=lor_ok hv (lor_get (t:=t) (k:=(k:Int)) (by omega) (by omega)).2
 rw [e] at hT
 dsimp only at hT
 obtain ⟨f,hf⟩:∃ f:Int,f = if IntKind.i64.wrap ((lorAt t k).From - IntKind.i64.wrap B) > 0 then IntKind.i64.wrap ((lorAt t k).From - IntKind.i64.wrap B) else 0:=⟨_,rfl⟩
 have hf01:0 ≤ f ∧ f ≤ (lorAt t k).From:=by
  rw [hf,i64 (n:=B) (by omega),i64 (n:=(lorAt t k).From - B) (by omega)]
  split <;> omega
 have he2:=early_ok he hk hf01.1 hf01.2
 have hv2:=task_ok he2
 have hll2:(earlyT t k f).Lorries.length = t.Lorries.length:=by show (t.Lorries.set k _).length = _; rw [List.length_set]
 have hw:WideT t (earlyT t k f):=early_wide
 have r1:=leave_ok hv hk
 have r2:=leave_ok hv2 (show k < (earlyT t k f).Lorries.length by omega)
 have hnow:(leaveE (depE (earlyT t k f)) k).now ≤ (leaveE (depE t) k).now:=by
  show (lorAt (earlyT t k f) k).From ≤ (lorAt t k).From
  rw [early_at hk]; exact hf01.2
 obtain ⟨s1,s2,s3⟩:=soon_table hv hv2 hw J _ _ 0 0 r1 r2 (by omega) (by omega) hnow rfl rfl (fun i x y h _ => absurd h (by simp [leaveE])) hJ
 have hT2:=times_ok (earlyT t k f) (early_in hti hk) k J hx
 unfold tableV at hT2
 rw [table_some he2 (show J.any (noneB (earlyT t k f) 0) = false from hn) (by rw [hll2]; exact outB_false.2 ho) hd] at hT2
 dsimp only at hT2
 have la:=table_len (d:=depE t) J (leaveE (depE t) k)
 generalize tableF (depE (earlyT t k f)) (leaveE (depE (earlyT t k f)) k) J = Y at *
 generalize hX:tableF (depE t) (leaveE (depE t) k) J = X at *
 have la:X.1.length ≤ 0 + J.length:=la
 have elems6:=elemsOf_map lor_cs lor_len t.Lorries
 have len6:=flat_size lor_cs lor_len t.Lorries
 have ones6:=flat_ones lor_cs lor_one t.Lorries
 have hpart:Option.map AV.norm (partA Tryz.prog 3 ([] ++ List.flatMap AV.cells (List.map TRoLorry.av t.Lorries)) (0 + ((k:Int)).toNat * 6 + 3)) = some (.int .i64 (lorAt t k).From):=by
  unfold partA
  rw [und3',List.nil_append,Int.toNat_natCast,show 0 + k * 6 + 3 = k * 6 + 3 by omega]
  dsimp only
  rw [flat_nth lor_cs lor_len hlor (by omega)]; rfl
 have hset:setCells ([] ++ List.flatMap AV.cells (List.map TRoLorry.av t.Lorries)) (0 + ((k:Int)).toNat * 6 + 3) [AV.int .i64 f] = List.flatMap AV.cells (List.map TRoLorry.av (earlyT t k f).Lorries):=by
  rw [List.nil_append,Int.toNat_natCast,show 0 + k * 6 + 3 = k * 6 + 3 by omega]
  exact setCells_at lor_cs lor_len hlor (by omega) rfl
 have hset2:=hset
 rw [hf] at hset2
 have len62:=flat_size lor_cs lor_len (earlyT t k f).Lorries
 have ech:chunks 6 (isAggT Tryz.prog 49) (0 + (List.map TRoLorry.av t.Lorries).length) (List.drop 0 (List.flatMap AV.cells (List.map TRoLorry.av (earlyT t k f).Lorries))) = List.map TRoLorry.av (earlyT t k f).Lorries:=by
  rw [agg49',Nat.zero_add,List.length_map,← hll2]
  exact chunks_map lor_cs lor_len _
 refine ⟨_,_,_,hT,fun h => (ne_no h rfl).elim,fun _ => ⟨fun g => (dec_no g (by omega)).elim,fun _ => ⟨fun g => (dec_no g (by rw [List.length_map]; omega)).elim,fun _ => ⟨fun g => (dec_no g (by rw [List.length_map,List.length_map]; omega)).elim,fun _ => ⟨elems6,⟨.inl rfl,by rw [List.length_map]; omega,fun v hv => (by cases hv),ones6,rfl⟩,⟨by omega,by rw [List.length_map]; omega,by trivial⟩,_,hpart,⟨by omega,by rw [List.length_map]; omega,by trivial⟩,by rw [List.nil_append,len6]; omega,?_,?_⟩⟩⟩⟩⟩
 ·rw [← hf,hset,len62,hll2,List.length_map]; omega
 rw [← hf,hset,ech]
 refine ⟨_,_,_,hT2,fun _ => True,⟨fun h => (ne_no h rfl).elim,fun _ => ⟨fun g => (dec_no g (by rw [List.length_map,List.length_map]; omega)).elim,fun _ => ⟨fun g => ?_,fun _ => ?_⟩⟩⟩,fun _ => ?_⟩
 ·have g:=s3 (of_decide_eq_true g)
  exact ⟨fun g' => (dec_no g' (by show ¬ Y.2 < 0; omega)).elim,fun _ => ⟨fun g' => (dec_no g' (by show ¬ Y.2 > X.2; omega)).elim,fun _ => ⟨rfl,rfl,rfl,trivial⟩⟩⟩
 ·exact ⟨rfl,rfl,rfl,trivial⟩
 refine ⟨fun m vs => ∃ j:Nat,vs = [.int .i64 j] ∧ j ≤ X.1.length ∧ m = X.1.length - j,⟨_,0,rfl,by omega,rfl⟩,?_⟩
 rintro m n30 ⟨j,hj,hle,rfl⟩
 cases hj
 refine ⟨fun h => ?_,fun h => ?_⟩
 ·have h:j < X.1.length:=by have:=of_decide_eq_true h; rw [List.length_map] at this; omega
  obtain ⟨a,ha,ha'⟩:=map_getN (f:=TRoStop.av) h
  obtain ⟨b,hb,hb'⟩:=map_getN (f:=TRoStop.av) (show j < Y.1.length by omega)
  obtain ⟨q1,q2,q3,q4⟩:=s2 j a b ha hb
  refine ⟨_,_,_,_,⟨by omega,by trivial,hb'⟩,_,_,_,_,⟨by omega,by trivial,ha'⟩,fun g => (ne_no g q1).elim,fun _ => ⟨_,_,_,_,⟨by omega,by trivial,hb'⟩,_,_,_,_,⟨by omega,by trivial,ha'⟩,fun g => (dec_no g (by omega)).elim,fun _ => ⟨_,_,_,_,⟨by omega,by trivial,hb'⟩,_,_,_,_,⟨by omega,by trivial,ha'⟩,fun g => (dec_no g (by omega)).elim,fun _ => ⟨_,_,_,_,⟨by omega,by trivial,hb'⟩,_,_,_,_,⟨by omega,by trivial,ha'⟩,fun g => (dec_no g (by omega)).elim,fun _ => ?_⟩⟩⟩⟩
  refine ⟨rfl,rfl,rfl,X.1.length - (j + 1),by omega,j + 1,?_,by omega,rfl⟩
  rw [i64 (n:=(j:Int) + 1) (by omega)]; rfl
 refine ⟨fun _ => awake,fun h => ?_⟩
 have hne:J ≠ []:=fun h' => by subst h'; simp at h
 obtain ⟨L,y,rfl⟩:∃ L y,J = L ++ [y]:=⟨J.dropLast,J.getLast hne,(List.dropLast_concat_getLast hne).symm⟩
 have elen:(L ++ [y]).length = L.length + 1:=by rw [List.length_append]; rfl
 have ew:IntKind.i64.wrap ((((L ++ [y]).map (AV.int .i64)).length:Int) - 1) = (L.length:Int):=by
  rw [List.length_map,elen,i64 (by omega)]; omega
 have etk:List.take ((L.length:Int)).toNat ((L ++ [y]).map (AV.int .i64)) = L.map (AV.int .i64):=by
  rw [Int.toNat_natCast,List.map_append,List.take_append_of_le_length (by rw [List.length_map]; exact Nat.le_refl _),List.take_of_length_le (by rw [List.length_map]; exact Nat.le_refl _)]
 rw [ew,etk]
 obtain ⟨y0,y1⟩:=hJ y (List.mem_append_right _ List.mem_cons_self)
 have hJL:∀ z ∈ L,0 ≤ z ∧ z < t.Jobs.length:=fun z hz => hJ z (List.mem_append_left _ hz)
 obtain ⟨d1,d2,d3⟩:=drop_table hv y0 y1 L (leaveE (depE t) k) 0 r1 (by omega) hJL
 have hT3:=times_ok t hti k L (by omega)
 unfold tableV at hT3
 have hn3:L.any (noneB t 0) = false:=by
  rw [List.any_append,Bool.or_eq_false_iff] at hn; exact hn.1
 have hd3:dupB L = false:=dup_iff.2 (List.nodup_append.1 (dup_iff.1 hd)).1
 rw [table_some he hn3 (outB_false.2 ho) hd3] at hT3
 dsimp only at hT3
 rw [hX] at d1 d2 d3
 generalize tableF (depE t) (leaveE (depE t) k) L = Z at *
 have d1:Z.1.length = min X.1.length (0 + L.length):=d1
 refine ⟨⟨by omega,by rw [List.length_map,elen]; omega⟩,_,_,_,hT3,fun _ => True,⟨fun h => (ne_no h rfl).elim,fun _ => ⟨fun g => (ne_no g ?_).elim,fun _ => ⟨fun g => ?_,fun _ => ?_⟩⟩⟩,fun _ => ?_⟩
 ·rw [List.length_map,List.length_map]
  split <;> omega
 ·have g:=d3 (of_decide_eq_true g)
  exact ⟨fun g' => (dec_no g' (by show ¬ Z.2 < 0; omega)).elim,fun _ => ⟨fun g' => (dec_no g' (by show ¬ Z.2 > X.2; omega)).elim,fun _ => ⟨rfl,rfl,rfl,trivial⟩⟩⟩
 ·exact ⟨rfl,rfl,rfl,trivial⟩
 have etk2:List.take (((Z.1.map TRoStop.av).length:Int)).toNat (X.1.map TRoStop.av) = Z.1.map TRoStop.av:=by
  rw [Int.toNat_natCast,List.length_map,← List.map_take,← d2]
 rw [etk2]
 exact ⟨⟨by omega,by rw [List.length_map,List.length_map]; omega⟩,true,stops_same Z.1 (by omega),fun _ => awake,fun h => (by cases h)⟩)
end Go.Proofs.YtdeeekgohhkdbaaGreatDoor
