/- Contracts: ways and spans, as they are asked for. -/
import Derived.Test.YtdeeekgohhkdbaaGreatDoorSl
namespace Go.Proofs.YtdeeekgohhkdbaaGreatDoor
open Go.RowKit
def travelR (t:TRoTask) (a b:Int):Int × Int :=
 if (taskE t).2.2 ≠ 0 then (0,(taskE t).2.2) else if [a,b].any (noneB t (-1)) then (0,4) else (wayE t a b,0)
def spanR (t:TRoTask) (n:Int):TRoSpan × Bool × Int :=
 if (taskE t).2.2 ≠ 0 then (⟨0,0⟩,false,(taskE t).2.2) else if noneB t 0 n then (⟨0,0⟩,false,4) else if neverB (spanE t (jobAt t n)) then (⟨0,0⟩,false,0) else (spanE t (jobAt t n),true,0)
def R27 (t:TRoTask) (job:Int) (S:SpecF) (_Fr:FreshF) (_Sq:SeqF) (Q:PostF):Prop :=
 (∃ n1,S 52 [t.av,iN 0,.slc 3 [iN job]] [] (.tup [AV.nilp,iN n1]) [] ∧ ((n1 != 0) = true → Q (.tup [TEncl.zero.av,.bool false,iN n1]) []) ∧ ((n1 != 0) = false → False)) ∨ ∃ n1 n2 n3 n4 n5 n6 n7 n8 n9 es10 es11 es12 es13 es14 n15,S 52 [t.av,iN 0,.slc 3 [iN job]] [] (.tup [AV.eptr [iN n1,iN n2,iN n3,iN n4,iN n5,iN n6,iN n7,iN n8,iN n9,.slc 3 es10,.slc 3 es11,.slc 3 es12,.slc 3 es13,.slc 3 es14] (0:Nat),iN n15]) [] ∧ ((n15 != 0) = true → Q (.tup [TEncl.zero.av,.bool false,iN n15]) []) ∧ ((n15 != 0) = false → ∃ n19 n20,((0:Int) ≤ job ∧ (2:Nat) = (2:Nat) ∧ es14[job.toNat]? = some (.agg [iN n19,iN n20])) ∧ ((n19 == 1 && (n20 == 0 && true)) = true → Q (.tup [TEncl.zero.av,.bool false,iN 0]) []) ∧ ((n19 == 1 && (n20 == 0 && true)) = false → Q (.tup [AV.agg [iN n19,iN n20],.bool true,iN 0]) []))
theorem s27 (t:TRoTask) (job:Int) (v:AV) (O:List (List AV)) (h:R27 t job Sp Fo So (fun r O' => r = v ∧ O' = O)):Sp 27 [t.av,iN job] [] v O :=
 spec_by (w:=⟨[],[(52,[.tup [.nilp,iN 0],.tup [.eptr [iN 0,iN 0,iN 0,iN 0,iN 0,iN 0,iN 0,iN 0,iN 0,.slc 3 [],.slc 3 [],.slc 3 [],.slc 3 [],.slc 3 []] 0,iN 0]])],[],[],[]⟩) (k:=0) (keep:=⟨[0,1,2,4,5,6,7,16,28],[],[],[]⟩) (boxes:=[]) mixed (by exact trivial) Tryz.func27 Tryz.call27 rfl rfl rfl (Nat.le_of_ble_eq_true rfl) (by kernel_rfl) h
def lightB (t:TRoTask) (a b:Int):Bool :=
 if (toldR ⟨t.City,t.Day,true⟩).2.2 ≠ 0 then false else if (toldR ⟨t.City,t.Day,false⟩).2.2 ≠ 0 then false else
  (decide ((toldR ⟨t.City,t.Day,true⟩).1 = 2) || decide ((toldR ⟨t.City,t.Day,true⟩).1 = 0) && decide (a ≥ (toldR ⟨t.City,t.Day,true⟩).2.1.Hi)) && (decide ((toldR ⟨t.City,t.Day,false⟩).1 = 2) || decide ((toldR ⟨t.City,t.Day,false⟩).1 = 0) && decide (b ≤ (toldR ⟨t.City,t.Day,false⟩).2.1.Lo))
end Go.Proofs.YtdeeekgohhkdbaaGreatDoor
