/- Plain: what is so of a programme that is valid; the benefit of an inspection, without bounds. Contracts: the document's answers about programmes. -/
import Derived.Test.YtdeeekgohhkdbaaGreatDoorPa
import Derived.Test.YtdeeekgohhkdbaaGreatDoorRq
namespace Go.Proofs.YtdeeekgohhkdbaaGreatDoor
structure ProgV (p:TRoProgramme):Prop where
 al:p.Assets.length ≤ 6
 bl:p.Budgets.length ≤ 3
 first:0 ≤ p.First ∧ p.First ≤ 40000
 days:1 ≤ p.Days ∧ p.Days ≤ 4000
 bud:∀ n ∈ p.Budgets,0 ≤ n ∧ n ≤ 10000000
 ass:∀ x ∈ p.Assets,(0 ≤ x.Cost ∧ x.Cost ≤ 1000000) ∧ (0 ≤ x.Rate ∧ x.Rate ≤ 1000) ∧ (0 ≤ x.Harm ∧ x.Harm ≤ 10000000) ∧ (0 ≤ x.Last ∧ x.Last ≤ p.First)
end Go.Proofs.YtdeeekgohhkdbaaGreatDoor
namespace Go.Proofs.YtdeeekgohhkdbaaGreatDoor
open Go.RowKit
theorem inB_not (n lo hi:Int):inB n lo hi = !outB n lo hi:=by
 rw [Bool.eq_iff_iff,inB_iff,Bool.not_eq_true',outC]
def R78 (n low high:Int) (_S:SpecF) (_Fr:FreshF) (_Sq:SeqF) (Q:PostF):Prop :=
 (decide (n ≥ low) = true → Q (.bool (decide (n ≤ high))) []) ∧ (decide (n ≥ low) = false → Q (.bool false) [])
theorem s78 (n:Int) (low:Int) (high:Int) (v:AV) (O:List (List AV)) (h:R78 n low high Sp Fo So (fun r O' => r = v ∧ O' = O)):Sp 78 [iN n,iN low,iN high] [] v O :=
 spec_by (w:=⟨[],[],[],[],[]⟩) (k:=0) (keep:=⟨[0,1,2,6],[],[],[]⟩) (boxes:=[]) mixed (by exact trivial) Tryz.func78 Tryz.call78 rfl rfl rfl (Nat.le_of_ble_eq_true rfl) (by kernel_rfl) h
theorem c78 (n lo hi:Int):Sp 78 [.int .i64 n,.int .i64 lo,.int .i64 hi] [] (.bool (!outB n lo hi)) []:=s78 n lo hi _ _ (by
 unfold R78
 rw [← inB_not]
 refine ⟨fun h => ⟨?_,rfl⟩,fun h => ⟨?_,rfl⟩⟩
 ·have h:=of_decide_eq_true h
  unfold inB; rw [decide_eq_true (show lo ≤ n from h),Bool.true_and]
 ·have h:=of_decide_eq_false h
  unfold inB; rw [decide_eq_false (show ¬ lo ≤ n from h),Bool.false_and])
end Go.Proofs.YtdeeekgohhkdbaaGreatDoor
