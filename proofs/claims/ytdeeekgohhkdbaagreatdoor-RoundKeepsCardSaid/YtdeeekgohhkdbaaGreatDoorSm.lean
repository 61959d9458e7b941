/- Contracts: ways and spans, as they are asked for. -/
import Derived.Test.YtdeeekgohhkdbaaGreatDoorSl
namespace Go.Proofs.YtdeeekgohhkdbaaGreatDoor
open Go.RowKit
def travelR (t:TRoTask) (a b:Int):Int × Int :=
 if (taskE t).2.2 ≠ 0 then (0,(taskE t).2.2) else if [a,b].any (noneB t (-1)) then (0,4) else (wayE t a b,0)
def R28 (t:TRoTask) (from' to:Int) (S:SpecF) (_Fr:FreshF) (_Sq:SeqF) (Q:PostF):Prop :=
 (∃ n1,S 52 [t.av,iN (-1:Int),.slc 3 [iN from',iN to]] [] (.tup [AV.nilp,iN n1]) [] ∧ ((n1 != 0) = true → Q (.tup [iN 0,iN n1]) []) ∧ ((n1 != 0) = false → ∃ n5,S 82 [AV.nilp,iN from',iN to] [] (iN n5) [] ∧ Q (.tup [iN n5,iN 0]) [])) ∨ ∃ n1 n2 n3 n4 n5 n6 n7 n8 n9 es10 es11 es12 es13 es14 n15,S 52 [t.av,iN (-1:Int),.slc 3 [iN from',iN to]] [] (.tup [AV.eptr [iN n1,iN n2,iN n3,iN n4,iN n5,iN n6,iN n7,iN n8,iN n9,.slc 3 es10,.slc 3 es11,.slc 3 es12,.slc 3 es13,.slc 3 es14] (0:Nat),iN n15]) [] ∧ ((n15 != 0) = true → Q (.tup [iN 0,iN n15]) []) ∧ ((n15 != 0) = false → ∃ n19,S 82 [AV.eptr [iN n1,iN n2,iN n3,iN n4,iN n5,iN n6,iN n7,iN n8,iN n9,.slc 3 es10,.slc 3 es11,.slc 3 es12,.slc 3 es13,.slc 3 es14] (0:Nat),iN from',iN to] [] (iN n19) [] ∧ Q (.tup [iN n19,iN 0]) [])
theorem s28 (t:TRoTask) (from':Int) (to:Int) (v:AV) (O:List (List AV)) (h:R28 t from' to Sp Fo So (fun r O' => r = v ∧ O' = O)):Sp 28 [t.av,iN from',iN to] [] v O :=
 spec_by (w:=⟨[],[(52,[.tup [.nilp,iN 0],.tup [.eptr [iN 0,iN 0,iN 0,iN 0,iN 0,iN 0,iN 0,iN 0,iN 0,.slc 3 [],.slc 3 [],.slc 3 [],.slc 3 [],.slc 3 []] 0,iN 0]])],[],[],[]⟩) (k:=0) (keep:=⟨[0,1,2,3,6,7,8,9,19],[],[],[]⟩) (boxes:=[]) mixed (by exact trivial) Tryz.func28 Tryz.call28 rfl rfl rfl (Nat.le_of_ble_eq_true rfl) (by kernel_rfl) h
theorem c28 (t:TRoTask) (ht:TaskIn t) (a b:Int):Sp 28 [t.av,.int .i64 a,.int .i64 b] [] (.tup [.int .i64 (travelR t a b).1,.int .i64 (travelR t a b).2]) []:=s28 t a b _ _ (by
 unfold R28
 have hj:=c52 t ht (-1) [a,b] (by show 2 ≤ _; omega)
 unfold jobsV at hj
 by_cases he:(taskE t).2.2 ≠ 0
 ·rw [if_pos he] at hj
  have hE:travelR t a b = (0,(taskE t).2.2):=if_pos he
  refine .inl ⟨_,hj,fun _ => ⟨by rw [hE],by trivial⟩,fun h => absurd h (by simpa using he)⟩
 rw [if_neg he] at hj
 have hE:travelR t a b = if [a,b].any (noneB t (-1)) then (0,4) else (wayE t a b,0):=if_neg he
 have hv:=task_ok (Decidable.not_not.1 he)
 have hjl:=hv.jl
 refine .inr ⟨_,_,_,_,_,_,_,_,_,_,_,_,_,_,_,hj,fun h => ?_,fun h => ?_⟩
 ·by_cases hn:[a,b].any (noneB t (-1)) = true
  ·rw [if_pos hn] at hE
   exact ⟨by rw [hE,if_pos hn],by trivial⟩
  ·rw [if_neg hn] at h; simp at h
 ·have hn:¬ [a,b].any (noneB t (-1)) = true:=fun hn => by rw [if_pos hn] at h; simp at h
  rw [if_neg hn] at hE
  have hn:[a,b].any (noneB t (-1)) = false:=by simpa using hn
  have h1:noneB t (-1) a = false:=by simpa using List.any_eq_false.1 hn a List.mem_cons_self
  have h2:noneB t (-1) b = false:=by simpa using List.any_eq_false.1 hn b (List.mem_cons_of_mem _ List.mem_cons_self)
  unfold noneB at h1 h2
  rw [i64 (by omega)] at h1 h2
  have h1:=outB_false.1 h1
  have h2:=outB_false.1 h2
  refine ⟨_,c82 (depE t) a b (by show a < (t.Jobs.length:Int); omega) (by show b < (t.Jobs.length:Int); omega),?_,by trivial⟩
  rw [hE]; rfl)
def spanR (t:TRoTask) (n:Int):TRoSpan × Bool × Int :=
 if (taskE t).2.2 ≠ 0 then (⟨0,0⟩,false,(taskE t).2.2) else if noneB t 0 n then (⟨0,0⟩,false,4) else if neverB (spanE t (jobAt t n)) then (⟨0,0⟩,false,0) else (spanE t (jobAt t n),true,0)
def R27 (t:TRoTask) (job:Int) (S:SpecF) (_Fr:FreshF) (_Sq:SeqF) (Q:PostF):Prop :=
 (∃ n1,S 52 [t.av,iN 0,.slc 3 [iN job]] [] (.tup [AV.nilp,iN n1]) [] ∧ ((n1 != 0) = true → Q (.tup [TEncl.zero.av,.bool false,iN n1]) []) ∧ ((n1 != 0) = false → False)) ∨ ∃ n1 n2 n3 n4 n5 n6 n7 n8 n9 es10 es11 es12 es13 es14 n15,S 52 [t.av,iN 0,.slc 3 [iN job]] [] (.tup [AV.eptr [iN n1,iN n2,iN n3,iN n4,iN n5,iN n6,iN n7,iN n8,iN n9,.slc 3 es10,.slc 3 es11,.slc 3 es12,.slc 3 es13,.slc 3 es14] (0:Nat),iN n15]) [] ∧ ((n15 != 0) = true → Q (.tup [TEncl.zero.av,.bool false,iN n15]) []) ∧ ((n15 != 0) = false → ∃ n19 n20,((0:Int) ≤ job ∧ (2:Nat) = (2:Nat) ∧ es14[job.toNat]? = some (.agg [iN n19,iN n20])) ∧ ((n19 == 1 && (n20 == 0 && true)) = true → Q (.tup [TEncl.zero.av,.bool false,iN 0]) []) ∧ ((n19 == 1 && (n20 == 0 && true)) = false → Q (.tup [AV.agg [iN n19,iN n20],.bool true,iN 0]) []))
theorem s27 (t:TRoTask) (job:Int) (v:AV) (O:List (List AV)) (h:R27 t job Sp Fo So (fun r O' => r = v ∧ O' = O)):Sp 27 [t.av,iN job] [] v O :=
 spec_by (w:=⟨[],[(52,[.tup [.nilp,iN 0],.tup [.eptr [iN 0,iN 0,iN 0,iN 0,iN 0,iN 0,iN 0,iN 0,iN 0,.slc 3 [],.slc 3 [],.slc 3 [],.slc 3 [],.slc 3 []] 0,iN 0]])],[],[],[]⟩) (k:=0) (keep:=⟨[0,1,2,4,5,6,7,16,28],[],[],[]⟩) (boxes:=[]) mixed (by exact trivial) Tryz.func27 Tryz.call27 rfl rfl rfl (Nat.le_of_ble_eq_true rfl) (by kernel_rfl) h
theorem c27 (t:TRoTask) (ht:TaskIn t) (n:Int):Sp 27 [t.av,.int .i64 n] [] (.tup [(spanR t n).1.av,.bool (spanR t n).2.1,.int .i64 (spanR t n).2.2]) []:=s27 t n _ _ (by
 unfold R27
 have hj:=c52 t ht 0 [n] (by show 1 ≤ _; omega)
 unfold jobsV at hj
 by_cases he:(taskE t).2.2 ≠ 0
 ·rw [if_pos he] at hj
  have hE:spanR t n = (⟨0,0⟩,false,(taskE t).2.2):=if_pos he
  refine .inl ⟨_,hj,fun _ => ⟨by rw [hE]; rfl,by trivial⟩,fun h => absurd h (by simpa using he)⟩
 rw [if_neg he] at hj
 have hE:spanR t n = if noneB t 0 n then (⟨0,0⟩,false,4) else if neverB (spanE t (jobAt t n)) then (⟨0,0⟩,false,0) else (spanE t (jobAt t n),true,0):=if_neg he
 have hv:=task_ok (Decidable.not_not.1 he)
 have hjl:=hv.jl
 have ha:[n].any (noneB t 0) = noneB t 0 n:=by simp
 rw [ha] at hj
 refine .inr ⟨_,_,_,_,_,_,_,_,_,_,_,_,_,_,_,hj,fun h => ?_,fun h => ?_⟩
 ·by_cases hn:noneB t 0 n = true
  ·rw [if_pos hn] at hE
   exact ⟨by rw [hE,if_pos hn]; rfl,by trivial⟩
  ·rw [if_neg hn] at h; simp at h
 ·have hn:¬ noneB t 0 n = true:=fun hn => by rw [if_pos hn] at h; simp at h
  rw [if_neg hn] at hE
  have h1:noneB t 0 n = false:=by simpa using hn
  unfold noneB at h1
  rw [i64 (by omega)] at h1
  have h1:=outB_false.1 h1
  have hs:=span_get (d:=depE t) (k:=n) h1.1 (by show n < ((t.Jobs.map (spanE t)).length:Int); rw [List.length_map]; omega)
  have hsp:spanAt (depE t) n = spanE t (jobAt t n):=by
   have hl:n.toNat < t.Jobs.length:=by omega
   unfold spanAt depE jobAt
   rw [List.getD_eq_getElem?_getD,List.getD_eq_getElem?_getD,List.getElem?_map,List.getElem?_eq_getElem hl]; rfl
  rw [hsp] at hs
  refine ⟨_,_,⟨h1.1,by trivial,hs⟩,fun g => ?_,fun g => ?_⟩
  ·have g:neverB (spanE t (jobAt t n)) = true:=g
   rw [if_pos g] at hE
   exact ⟨by rw [hE]; rfl,by trivial⟩
  ·have g:neverB (spanE t (jobAt t n)) = false:=g
   rw [if_neg (by rw [g]; simp)] at hE
   exact ⟨by rw [hE]; rfl,by trivial⟩)
def lightB (t:TRoTask) (a b:Int):Bool :=
 if (toldR ⟨t.City,t.Day,true⟩).2.2 ≠ 0 then false else if (toldR ⟨t.City,t.Day,false⟩).2.2 ≠ 0 then false else
  (decide ((toldR ⟨t.City,t.Day,true⟩).1 = 2) || decide ((toldR ⟨t.City,t.Day,true⟩).1 = 0) && decide (a ≥ (toldR ⟨t.City,t.Day,true⟩).2.1.Hi)) && (decide ((toldR ⟨t.City,t.Day,false⟩).1 = 2) || decide ((toldR ⟨t.City,t.Day,false⟩).1 = 0) && decide (b ≤ (toldR ⟨t.City,t.Day,false⟩).2.1.Lo))
def R29 (t:TRoTask) (from' to:Int) (S:SpecF) (_Fr:FreshF) (_Sq:SeqF) (Q:PostF):Prop :=
 ∃ n0 n1 n2 n3,S 83 [t.City.av,iN t.Day] [] (.tup [iN n0,.agg [iN n1,iN n2],iN n3]) [] ∧ ∃ n5 n6 n7 n8,S 84 [t.City.av,iN t.Day] [] (.tup [iN n5,.agg [iN n6,iN n7],iN n8]) [] ∧ ((n3 != 0) = true → Q (.bool false) []) ∧ ((n3 != 0) = false → ((n8 != 0) = true → Q (.bool false) []) ∧ ((n8 != 0) = false → ((n0 == 2) = true → ((n5 == 2) = true → Q (.bool true) []) ∧ ((n5 == 2) = false → ((n5 == 0) = true → Q (.bool (decide (to ≤ n6))) []) ∧ ((n5 == 0) = false → Q (.bool false) []))) ∧ ((n0 == 2) = false → ((n0 == 0) = true → ((n5 == 2) = true → (decide (from' ≥ n2) = true → Q (.bool true) []) ∧ (decide (from' ≥ n2) = false → Q (.bool false) [])) ∧ ((n5 == 2) = false → ((n5 == 0) = true → (decide (from' ≥ n2) = true → Q (.bool (decide (to ≤ n6))) []) ∧ (decide (from' ≥ n2) = false → Q (.bool false) [])) ∧ ((n5 == 0) = false → (decide (from' ≥ n2) = true → Q (.bool false) []) ∧ (decide (from' ≥ n2) = false → Q (.bool false) [])))) ∧ ((n0 == 0) = false → ((n5 == 2) = true → Q (.bool false) []) ∧ ((n5 == 2) = false → ((n5 == 0) = true → Q (.bool false) []) ∧ ((n5 == 0) = false → Q (.bool false) []))))))
theorem s29 (t:TRoTask) (from':Int) (to:Int) (v:AV) (O:List (List AV)) (h:R29 t from' to Sp Fo So (fun r O' => r = v ∧ O' = O)):Sp 29 [t.av,iN from',iN to] [] v O :=
 spec_by (w:=⟨[],[],[],[],[]⟩) (k:=0) (keep:=⟨[0,1,2,3,6,7,8,9,10,11,12,13,14,38],[],[],[]⟩) (boxes:=[]) mixed (by exact trivial) Tryz.func29 Tryz.call29 rfl rfl rfl (Nat.le_of_ble_eq_true rfl) (by kernel_rfl) h
theorem c29 (t:TRoTask) (a b:Int):Sp 29 [t.av,.int .i64 a,.int .i64 b] [] (.bool (lightB t a b)) []:=s29 t a b _ _ (by
 unfold R29 lightB
 refine ⟨_,_,_,_,c83 t.City t.Day,_,_,_,_,c84 t.City t.Day,?_⟩
 generalize toldR ⟨t.City,t.Day,true⟩ = r
 generalize toldR ⟨t.City,t.Day,false⟩ = s
 refine ⟨fun h => ⟨by rw [if_pos (by simpa using h)],by trivial⟩,fun h => ?_⟩
 rw [if_neg (by simpa using h)]
 refine ⟨fun h => ⟨by rw [if_pos (by simpa using h)],by trivial⟩,fun h => ?_⟩
 rw [if_neg (by simpa using h)]
 refine ⟨fun h1 => ⟨fun h2 => ⟨?_,by trivial⟩,fun h2 => ⟨fun h3 => ⟨?_,by trivial⟩,fun h3 => ⟨?_,by trivial⟩⟩⟩,fun h1 => ⟨fun h0 => ⟨fun h2 => ⟨fun h4 => ⟨?_,by trivial⟩,fun h4 => ⟨?_,by trivial⟩⟩,fun h2 => ⟨fun h3 => ⟨fun h4 => ⟨?_,by trivial⟩,fun h4 => ⟨?_,by trivial⟩⟩,fun h3 => ⟨fun h4 => ⟨?_,by trivial⟩,fun h4 => ⟨?_,by trivial⟩⟩⟩⟩,fun h0 => ⟨fun h2 => ⟨?_,by trivial⟩,fun h2 => ⟨fun h3 => ⟨?_,by trivial⟩,fun h3 => ⟨?_,by trivial⟩⟩⟩⟩⟩
 all_goals
  simp only [beq_iff_eq,beq_eq_false_iff_ne,ne_eq,decide_eq_true_eq,decide_eq_false_iff_not] at *
  simp [*])
end Go.Proofs.YtdeeekgohhkdbaaGreatDoor
