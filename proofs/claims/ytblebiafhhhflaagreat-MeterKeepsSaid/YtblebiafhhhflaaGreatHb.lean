/- Contracts: profiles: levels, what is valid, what holds at a second. Contracts: sums, days, what an inventory's parts are like. -/
import Derived.Test.YtblebiafhhhflaaGreatGe
namespace Go.Proofs.YtblebiafhhhflaaGreat
open Go.RowKit
theorem isAgg151:isAggT Tryz.prog 151 = false:=by kernel_rfl
def stepV (s:TMtStep):AV:=.iface 185 s.av
theorem flatV (l:List TMtStep):(l.map stepV).flatMap AV.cells = l.map stepV:=by
 induction l with
 | nil => rfl
 | cons x r ih => rw [List.map_cons,List.flatMap_cons,ih]; rfl
theorem onesV (l:List TMtStep):ones (l.map stepV) = true:=by
 unfold ones
 rw [List.all_eq_true]
 intro v hv
 obtain ⟨x,_,rfl⟩:=List.mem_map.1 hv
 rfl
def R200 (s:TMtStep) (_S:SpecF) (_Fr:FreshF) (_Sq:SeqF) (Q:AV → List (List AV) → Prop):Prop :=
 Q (.int .i64 s.From) []
theorem r200 (s:TMtStep) (S:SpecF) (Fr:FreshF) (Sq:SeqF) (Q:AV → List (List AV) → Prop):awpF Tryz.prog (mkS Tryz.prog S Fr Sq ⟨[],[],[],[],[]⟩ 0) 0 ⟨[0,1,2],[],[],[]⟩ Tryz.f200 [s.av] [] Q = R200 s S Fr Sq Q:=by kernel_rfl
theorem s200 (s:TMtStep) (v:AV) (O:List (List AV)) (h:R200 s (SpecOf Tryz.prog) (FreshOf Tryz.prog) (SeqOf Tryz.prog) (fun r O' => r = v ∧ O' = O)):SpecOf Tryz.prog 200 [s.av] [] v O :=
 spec_by (boxes:=[]) mixed (by exact trivial) Tryz.func200 Tryz.call200 rfl rfl rfl (Nat.le_of_ble_eq_true rfl) (r200 s (SpecOf Tryz.prog) (FreshOf Tryz.prog) (SeqOf Tryz.prog) _) h
theorem c200 (s:TMtStep):Sp 200 [s.av] [] (.int .i64 s.From) []:=s200 s _ _ ⟨rfl,rfl⟩
def R199 (s:TMtStep) (_S:SpecF) (_Fr:FreshF) (_Sq:SeqF) (Q:AV → List (List AV) → Prop):Prop :=
 Q (.int .i64 s.Level) []
theorem r199 (s:TMtStep) (S:SpecF) (Fr:FreshF) (Sq:SeqF) (Q:AV → List (List AV) → Prop):awpF Tryz.prog (mkS Tryz.prog S Fr Sq ⟨[],[],[],[],[]⟩ 0) 0 ⟨[0,1,2],[],[],[]⟩ Tryz.f199 [s.av] [] Q = R199 s S Fr Sq Q:=by kernel_rfl
theorem s199 (s:TMtStep) (v:AV) (O:List (List AV)) (h:R199 s (SpecOf Tryz.prog) (FreshOf Tryz.prog) (SeqOf Tryz.prog) (fun r O' => r = v ∧ O' = O)):SpecOf Tryz.prog 199 [s.av] [] v O :=
 spec_by (boxes:=[]) mixed (by exact trivial) Tryz.func199 Tryz.call199 rfl rfl rfl (Nat.le_of_ble_eq_true rfl) (r199 s (SpecOf Tryz.prog) (FreshOf Tryz.prog) (SeqOf Tryz.prog) _) h
theorem c199 (s:TMtStep):Sp 199 [s.av] [] (.int .i64 s.Level) []:=s199 s _ _ ⟨rfl,rfl⟩
def R38 (n:Int) (lo:Int) (hi:Int) (_S:SpecF) (_Fr:FreshF) (_Sq:SeqF) (Q:AV → List (List AV) → Prop):Prop :=
 (decide (n < lo) = true → Q (.bool true) []) ∧ (decide (n < lo) = false → Q (.bool (decide (n > hi))) [])
theorem r38 (n:Int) (lo:Int) (hi:Int) (S:SpecF) (Fr:FreshF) (Sq:SeqF) (Q:AV → List (List AV) → Prop):awpF Tryz.prog (mkS Tryz.prog S Fr Sq ⟨[],[],[],[],[]⟩ 0) 0 ⟨[0,1,2,6],[],[],[]⟩ Tryz.f38 [.int .i64 n,.int .i64 lo,.int .i64 hi] [] Q = R38 n lo hi S Fr Sq Q:=by kernel_rfl
theorem s38 (n:Int) (lo:Int) (hi:Int) (v:AV) (O:List (List AV)) (h:R38 n lo hi (SpecOf Tryz.prog) (FreshOf Tryz.prog) (SeqOf Tryz.prog) (fun r O' => r = v ∧ O' = O)):SpecOf Tryz.prog 38 [.int .i64 n,.int .i64 lo,.int .i64 hi] [] v O :=
 spec_by (boxes:=[]) mixed (by exact trivial) Tryz.func38 Tryz.call38 rfl rfl rfl (Nat.le_of_ble_eq_true rfl) (r38 n lo hi (SpecOf Tryz.prog) (FreshOf Tryz.prog) (SeqOf Tryz.prog) _) h
theorem c38 (n lo hi:Int):Sp 38 [.int .i64 n,.int .i64 lo,.int .i64 hi] [] (.bool (outB n lo hi)) []:=s38 n lo hi _ _ (by
 unfold R38 outB
 refine ⟨fun h => ⟨?_,by trivial⟩,fun h => ⟨?_,by trivial⟩⟩
 ·rw [h]; rfl
 ·rw [h]; rfl)
def R63 (p:TMtProfile) (_S:SpecF) (_Fr:FreshF) (_Sq:SeqF) (Q:AV → List (List AV) → Prop):Prop :=
 ∃ (I0:Nat → List AV → Prop),(∃ m2,I0 m2 [AV.int .i64 0,.slc 3 []]) ∧ ∀ (m2:Nat) (n3:Int) (es4:List AV),I0 m2 [AV.int .i64 n3,.slc 3 es4] → (decide (n3 < (↑(List.map TMtStep.av p.Steps).length:Int)) = true → ∃ n8 n9,((0:Int) ≤ n3 ∧ (2:Nat) = (2:Nat) ∧ (List.map TMtStep.av p.Steps)[n3.toNat]? = some (.agg [AV.int .i64 n8,.int .i64 n9])) ∧ elemsOf (1:Nat) [AV.iface 185 (.agg [AV.int .i64 n8,.int .i64 n9])] ∧ ((List.flatMap AV.cells es4).length = es4.length * 1 ∧ (es4.length + 1 + (512:Nat)) * 81 ≤ (1125899906842624:Nat) ∧ ones [AV.iface 185 (.agg [AV.int .i64 n8,.int .i64 n9])] = true ∧ ones (List.flatMap AV.cells es4) = true) ∧ p.cs = p.cs ∧ ∃ es14,(es14.length = es4.length + 1 ∧ List.flatMap AV.cells es14 = List.flatMap AV.cells es4 ++ [AV.iface 185 (.agg [AV.int .i64 n8,.int .i64 n9])]) ∧ ∃ k16,k16 < m2 ∧ I0 k16 [AV.int .i64 (IntKind.i64.wrap (n3 + 1)),.slc 3 es14]) ∧ (decide (n3 < (↑(List.map TMtStep.av p.Steps).length:Int)) = false → ((0:Nat) + es4.length * 1 ≤ (List.flatMap AV.cells es4).length ∧ ones (List.flatMap AV.cells es4) = true) ∧ Q (.slc 3 (chunks (1:Nat) (isAggT Tryz.prog (151:Nat)) es4.length (List.drop (0:Nat) (List.flatMap AV.cells es4)))) [])
theorem r63 (p:TMtProfile) (S:SpecF) (Fr:FreshF) (Sq:SeqF) (Q:AV → List (List AV) → Prop):awpF Tryz.prog (mkS Tryz.prog S Fr Sq ⟨[],[],[],[],[]⟩ 0) 0 ⟨[0,1,2,4,6,7,8,9],[⟨2,[(8,.int .i64 0)],[(2,151)],[],[],[]⟩],[],[]⟩ Tryz.f63 [p.av] [] Q = R63 p S Fr Sq Q:=by kernel_rfl
theorem s63 (p:TMtProfile) (v:AV) (O:List (List AV)) (h:R63 p (SpecOf Tryz.prog) (FreshOf Tryz.prog) (SeqOf Tryz.prog) (fun r O' => r = v ∧ O' = O)):SpecOf Tryz.prog 63 [p.av] [] v O :=
 spec_by (boxes:=[]) mixed (by exact trivial) Tryz.func63 Tryz.call63 rfl rfl rfl (Nat.le_of_ble_eq_true rfl) (r63 p (SpecOf Tryz.prog) (FreshOf Tryz.prog) (SeqOf Tryz.prog) _) h
theorem c63 (p:TMtProfile) (hl:p.Steps.length ≤ 2 ^ 43):Sp 63 [p.av] [] (.slc 3 (p.Steps.map stepV)) []:=s63 p _ _ (by
 unfold R63
 refine ⟨fun m vs => ∃ k:Nat,k ≤ p.Steps.length ∧ m = p.Steps.length - k ∧ vs = [.int .i64 k,.slc 3 ((p.Steps.take k).map stepV)],⟨_,0,by omega,rfl,rfl⟩,?_⟩
 rintro m n3 es ⟨k,hk,rfl,hv⟩
 cases hv
 rw [flatV]
 simp only [List.length_map,List.length_take,Nat.min_eq_left hk]
 refine ⟨fun g => ?_,fun g => ?_⟩
 ·have hlt:k < p.Steps.length:=by have:=of_decide_eq_true g; omega
  obtain ⟨x,hx,hx'⟩:=map_getN (f:=TMtStep.av) hlt
  refine ⟨x.From,x.Level,⟨by omega,by trivial,hx'⟩,fun v hv => (by rw [List.mem_singleton] at hv; rw [hv]; rfl),⟨by omega,by omega,rfl,onesV _⟩,by trivial,(p.Steps.take (k + 1)).map stepV,⟨by rw [List.length_map,List.length_take]; omega,?_⟩,_,(by omega:p.Steps.length - (k + 1) < p.Steps.length - k),k + 1,by omega,rfl,by rw [wrapN (by omega)]⟩
  rw [flatV,List.take_add_one,hx,List.map_append]; rfl
 ·obtain rfl:k = p.Steps.length:=by have:=of_decide_eq_false g; omega
  rw [List.take_length]
  refine ⟨⟨by omega,onesV _⟩,?_,by trivial⟩
  rw [isAgg151]
  simp only [chunks,List.drop_zero]
  rw [if_neg (by simp),List.take_of_length_le (by simp)])
def validF:List TMtStep → Bool → Int → Int → Bool
 | [],good,_,_ => good
 | s :: r,good,before,most => validF r (good && (!outB s.From (IntKind.i64.wrap (before + 1)) 86399 && !outB s.Level 0 most)) s.From most
theorem validF_at {l:List TMtStep} {k:Nat} {x:TMtStep} (h:l[k]? = some x) (good:Bool) (before most:Int):validF (l.drop k) good before most = validF (l.drop (k + 1)) (good && (!outB x.From (IntKind.i64.wrap (before + 1)) 86399 && !outB x.Level 0 most)) x.From most:=by
 obtain ⟨hk,rfl⟩:=List.getElem?_eq_some_iff.1 h
 rw [List.drop_eq_getElem_cons hk]; rfl
def R120 (l:List AV) (many:Int) (most:Int) (S:SpecF) (_Fr:FreshF) (_Sq:SeqF) (Q:AV → List (List AV) → Prop):Prop :=
 ∃ (I0:Nat → List AV → Prop),(∃ m2,I0 m2 [AV.bool true,.int .i64 (-1:Int),.int .i64 0]) ∧ ∀ (m2:Nat) (b3:Bool) (n4 n5:Int),I0 m2 [AV.bool b3,.int .i64 n4,.int .i64 n5] → (decide (n5 < (↑(List.map id l).length:Int)) = true → ∃ n9 n10,((0:Int) ≤ n5 ∧ (1:Nat) = (1:Nat) ∧ (List.map id l)[n5.toNat]? = some (.iface 185 (.agg [AV.int .i64 n9,.int .i64 n10]))) ∧ (b3 = true → ∃ n14,S 200 [AV.agg [AV.int .i64 n9,.int .i64 n10]] [] (.int .i64 n14) [] ∧ ∃ b16,S 38 [AV.int .i64 n14,.int .i64 (IntKind.i64.wrap (n4 + 1)),.int .i64 86399] [] (.bool b16) [] ∧ ((!b16) = true → ∃ n20,S 199 [AV.agg [AV.int .i64 n9,.int .i64 n10]] [] (.int .i64 n20) [] ∧ ∃ b22,S 38 [AV.int .i64 n20,.int .i64 0,.int .i64 most] [] (.bool b22) [] ∧ ∃ n24,S 200 [AV.agg [AV.int .i64 n9,.int .i64 n10]] [] (.int .i64 n24) [] ∧ ∃ k26,k26 < m2 ∧ I0 k26 [AV.bool !b22,.int .i64 n24,.int .i64 (IntKind.i64.wrap (n5 + 1))]) ∧ ((!b16) = false → ∃ n20,S 200 [AV.agg [AV.int .i64 n9,.int .i64 n10]] [] (.int .i64 n20) [] ∧ ∃ k22,k22 < m2 ∧ I0 k22 [AV.bool false,.int .i64 n20,.int .i64 (IntKind.i64.wrap (n5 + 1))])) ∧ (b3 = false → ∃ n14,S 200 [AV.agg [AV.int .i64 n9,.int .i64 n10]] [] (.int .i64 n14) [] ∧ ∃ k16,k16 < m2 ∧ I0 k16 [AV.bool false,.int .i64 n14,.int .i64 (IntKind.i64.wrap (n5 + 1))])) ∧ (decide (n5 < (↑(List.map id l).length:Int)) = false → ∃ b9,S 38 [AV.int .i64 (↑(List.map id l).length:Int),.int .i64 1,.int .i64 many] [] (.bool b9) [] ∧ Q (.tup [AV.bool !b9,.bool b3]) [])
theorem r120 (l:List AV) (many:Int) (most:Int) (S:SpecF) (Fr:FreshF) (Sq:SeqF) (Q:AV → List (List AV) → Prop):awpF Tryz.prog (mkS Tryz.prog S Fr Sq ⟨[],[(1000151,[.iface 185 (.agg [.int .i64 0,.int .i64 0])])],[],[],[]⟩ 0) 0 ⟨[0,1,2,6,7,8,10,11,12,13,14],[⟨4,[(7,.bool false),(8,.int .i64 0),(13,.int .i64 0)],[],[],[],[]⟩],[],[]⟩ Tryz.f120 [.slc 3 (List.map id l),.int .i64 many,.int .i64 most] [] Q = R120 l many most S Fr Sq Q:=by kernel_rfl
theorem s120 (l:List AV) (many:Int) (most:Int) (v:AV) (O:List (List AV)) (h:R120 l many most (SpecOf Tryz.prog) (FreshOf Tryz.prog) (SeqOf Tryz.prog) (fun r O' => r = v ∧ O' = O)):SpecOf Tryz.prog 120 [.slc 3 (List.map id l),.int .i64 many,.int .i64 most] [] v O :=
 spec_by (boxes:=[]) mixed (by exact trivial) Tryz.func120 Tryz.call120 rfl rfl rfl (Nat.le_of_ble_eq_true rfl) (r120 l many most (SpecOf Tryz.prog) (FreshOf Tryz.prog) (SeqOf Tryz.prog) _) h
theorem c120 (l:List TMtStep) (hl:l.length ≤ 2 ^ 43) (many most:Int):Sp 120 [.slc 3 (l.map stepV),.int .i64 many,.int .i64 most] [] (.tup [.bool (!outB l.length 1 many),.bool (validF l true (-1) most)]) []:=by
 have:=s120 (l.map stepV) many most
 rw [List.map_id] at this
 refine this _ _ ?_
 unfold R120
 rw [List.map_id]
 refine ⟨fun m vs => ∃ (k:Nat) (good:Bool) (before:Int),k ≤ l.length ∧ m = l.length - k ∧ vs = [.bool good,.int .i64 before,.int .i64 k] ∧ validF (l.drop k) good before most = validF l true (-1) most,⟨_,0,true,-1,by omega,rfl,rfl,rfl⟩,?_⟩
 rintro m b3 n4 n5 ⟨k,good,before,hk,rfl,hv,hf⟩
 cases hv
 simp only [List.length_map]
 refine ⟨fun g => ?_,fun g => ?_⟩
 ·have hlt:k < l.length:=by have:=of_decide_eq_true g; omega
  obtain ⟨x,hx,hx'⟩:=map_getN (f:=stepV) hlt
  rw [validF_at hx] at hf
  refine ⟨x.From,x.Level,⟨by omega,by trivial,hx'⟩,fun hg => ⟨_,c200 x,_,c38 ..,fun h1 => ⟨_,c199 x,_,c38 ..,_,c200 x,_,(by omega:l.length - (k + 1) < l.length - k),k + 1,_,x.From,by omega,rfl,by rw [wrapN (by omega)],?_⟩,fun h1 => ⟨_,c200 x,_,(by omega:l.length - (k + 1) < l.length - k),k + 1,false,x.From,by omega,rfl,by rw [wrapN (by omega)],?_⟩⟩,fun hg => ⟨_,c200 x,_,(by omega:l.length - (k + 1) < l.length - k),k + 1,false,x.From,by omega,rfl,by rw [wrapN (by omega)],?_⟩⟩
  ·rw [← hf,hg,h1]; rfl
  ·rw [← hf,hg,h1]; rfl
  ·rw [← hf,hg]; rfl
 ·obtain rfl:k = l.length:=by have:=of_decide_eq_false g; omega
  rw [List.drop_length] at hf
  rw [← hf]
  exact ⟨_,c38 ..,rfl,by trivial⟩
def R93 (s:List AV) (_S:SpecF) (_Fr:FreshF) (_Sq:SeqF) (Q:AV → List (List AV) → Prop):Prop :=
 Q (AV.fn (121:Nat) [] [AV.eptr [AV.slc 3 (List.map id s)] (0:Nat)]) []
theorem r93 (s:List AV) (S:SpecF) (Fr:FreshF) (Sq:SeqF) (Q:AV → List (List AV) → Prop):awpF Tryz.prog (mkS Tryz.prog S Fr Sq ⟨[],[(1000151,[.iface 185 (.agg [.int .i64 0,.int .i64 0])])],[],[],[]⟩ 0) 0 ⟨[0,1,2],[],[],[]⟩ Tryz.f93 [.slc 3 (List.map id s)] [] Q = R93 s S Fr Sq Q:=by kernel_rfl
theorem s93 (s:List AV) (v:AV) (O:List (List AV)) (h:R93 s (SpecOf Tryz.prog) (FreshOf Tryz.prog) (SeqOf Tryz.prog) (fun r O' => r = v ∧ O' = O)):SpecOf Tryz.prog 93 [.slc 3 (List.map id s)] [] v O :=
 spec_by (boxes:=[]) mixed (by exact trivial) Tryz.func93 Tryz.call93 rfl rfl rfl (Nat.le_of_ble_eq_true rfl) (r93 s (SpecOf Tryz.prog) (FreshOf Tryz.prog) (SeqOf Tryz.prog) _) h
theorem c93 (l:List TMtStep):Sp 93 [.slc 3 (l.map stepV)] [] (.fn 121 [] [.eptr [.slc 3 (l.map stepV)] 0]) []:=by
 have:=s93 (l.map stepV)
 rw [List.map_id] at this
 exact this _ _ (by unfold R93; rw [List.map_id]; exact ⟨rfl,rfl⟩)
def backL (l:List TMtStep):List (List AV):=((List.range l.length).map fun i => [AV.int .i64 ((l.length - 1 - i:Nat):Int),((l.map stepV).getD (l.length - 1 - i) .undef)])
theorem backL_len (l:List TMtStep):(backL l).length = l.length:=by simp [backL]
theorem backL_at {l:List TMtStep} {i:Nat} {x:TMtStep} (hi:i < l.length) (hx:l[l.length - 1 - i]? = some x):(backL l)[i]? = some [AV.int .i64 ((l.length - 1 - i:Nat):Int),stepV x]:=by
 unfold backL
 rw [List.getElem?_map,List.getElem?_range hi]
 simp only [Option.map_some]
 rw [List.getD,List.getElem?_map,hx]; rfl
def RY121 (v0:List AV) (_S:SpecF) (_Fr:FreshF) (_Sq:SeqF) (l:Nat) (Y:Nat → List AV → Prop) (len:Nat):Prop :=
 ∃ (I0:Nat → Nat → List AV → Prop),(∃ m2,I0 m2 (0:Nat) [AV.int .i64 (IntKind.i64.wrap ((↑(List.map id v0).length:Int) - (1:Int)))]) ∧ ∀ (m2 i3:Nat) (n4:Int),I0 m2 i3 [AV.int .i64 n4] → (decide (n4 ≥ 0) = true → ∃ n8 n9,((0:Int) ≤ n4 ∧ (1:Nat) = (1:Nat) ∧ (List.map id v0)[n4.toNat]? = some (.iface 185 (.agg [AV.int .i64 n8,.int .i64 n9]))) ∧ l = l ∧ Y i3 [AV.int .i64 n4,.iface 185 (.agg [AV.int .i64 n8,.int .i64 n9])] ∧ (((19:Nat) = (19:Nat) ∧ AV.yld l = AV.yld l ∧ .eptr [AV.slc 3 (List.map id v0)] (0:Nat) = AV.eptr [AV.slc 3 (List.map id v0)] (0:Nat) ∧ True) ∧ ∃ k15,k15 < m2 ∧ I0 k15 (i3 + 1) [AV.int .i64 (IntKind.i64.wrap (n4 - 1))]) ∧ True) ∧ (decide (n4 ≥ 0) = false → i3 = len)
theorem ry121 (v0:List AV) (S:SpecF) (Fr:FreshF) (Sq:SeqF) (l:Nat) (Y:Nat → List AV → Prop) (len:Nat):awpS Tryz.prog (mkS Tryz.prog S Fr Sq ⟨[],[(1000151,[.iface 185 (.agg [.int .i64 0,.int .i64 0])])],[],[],[]⟩ 0) 0 l Y ⟨[0,1,3,8,18],[⟨1,[(3,.int .i64 0)],[],[],[],[]⟩],[],[]⟩ Tryz.f121 [.eptr [.slc 3 (List.map id v0)] 0] [] len = RY121 v0 S Fr Sq l Y len:=by kernel_rfl
theorem sq121 (v0:List AV) (xs:List (List AV)) (h:∀ l,RY121 v0 (SpecOf Tryz.prog) (FreshOf Tryz.prog) (SeqOf Tryz.prog) l (fun i x => xs[i]? = some x) xs.length):SeqOf Tryz.prog 121 [.eptr [.slc 3 (List.map id v0)] 0] [] xs :=
 seq_by (boxes:=[]) Tryz.func121 Tryz.call121 rfl rfl rfl rfl (fun l => ry121 v0 (SpecOf Tryz.prog) (FreshOf Tryz.prog) (SeqOf Tryz.prog) l _ _) h
theorem sqB (l:List TMtStep) (hl:l.length ≤ 2 ^ 43):SeqOf Tryz.prog 121 [.eptr [.slc 3 (l.map stepV)] 0] [] (backL l):=by
 have:=sq121 (l.map stepV) (backL l)
 rw [List.map_id] at this
 refine this fun y => ?_
 unfold RY121
 rw [List.map_id,backL_len,List.length_map]
 refine ⟨fun m i vs => ∃ k:Nat,k ≤ l.length ∧ m = k ∧ i = l.length - k ∧ vs = [.int .i64 ((k:Int) - 1)],⟨_,l.length,by omega,rfl,by omega,by rw [i64 (by omega)]⟩,?_⟩
 rintro m i n4 ⟨k,hk,rfl,rfl,hv⟩
 cases hv
 refine ⟨fun g => ?_,fun g => ?_⟩
 ·have hk0:0 < m:=by have:=of_decide_eq_true g; omega
  obtain ⟨x,hx,hx'⟩:=map_getN (f:=stepV) (l:=l) (k:=m - 1) (by omega)
  have e:((m:Int) - 1) = ((m - 1:Nat):Int):=by omega
  have hb:=backL_at (l:=l) (i:=l.length - m) (by omega) (by rw [show l.length - 1 - (l.length - m) = m - 1 by omega]; exact hx)
  rw [show l.length - 1 - (l.length - m) = m - 1 by omega] at hb
  rw [e]
  refine ⟨x.From,x.Level,⟨by omega,by trivial,hx'⟩,by trivial,hb,⟨by trivial,m - 1,by omega,m - 1,by omega,rfl,by omega,?_⟩,by trivial⟩
  rw [i64 (by omega)]
 ·have:m = 0:=by have:=of_decide_eq_false g; omega
  omega
def atF (second:Int):Nat → List TMtStep → Nat
 | 0,l => l.length - 1
 | k + 1,l => match l[k]? with
  | some x => if x.From ≤ second then k else atF second k l
  | none => atF second k l
theorem atF_at {second:Int} {k:Nat} {l:List TMtStep} {x:TMtStep} (h:l[k]? = some x):atF second (k + 1) l = if x.From ≤ second then k else atF second k l:=by
 rw [atF,h]
theorem backL_mem {l:List TMtStep}:∀ v ∈ backL l,∃ (n:Int) (x:TMtStep),v = [.int .i64 n,stepV x]:=by
 intro v hv
 obtain ⟨i,hi⟩:=List.getElem?_of_mem hv
 have hlt:i < l.length:=by rw [← backL_len l]; exact (List.getElem?_eq_some_iff.1 hi).1
 obtain ⟨x,hx⟩:∃ x,l[l.length - 1 - i]? = some x:=⟨_,List.getElem?_eq_getElem (by omega)⟩
 rw [backL_at hlt hx] at hi
 exact ⟨_,x,(Option.some.inj hi).symm⟩
def R65 (l:List AV) (second:Int) (S:SpecF) (_Fr:FreshF) (Sq:SeqF) (Q:AV → List (List AV) → Prop):Prop :=
 ∃ es0,S 93 [AV.slc 3 (List.map id l)] [] (AV.fn (121:FuncId) [] [AV.eptr [AV.slc 3 es0] (0:Nat)]) [] ∧ ∃ xs2,Sq (121:FuncId) [AV.eptr [AV.slc 3 es0] (0:Nat)] [] xs2 ∧ (∀ (x5:List AV),x5 ∈ xs2 → fitL [AV.int .i64 0,.iface 185 (TEncl.zero.av)] x5 = true ∧ AV.treeL x5 = true) ∧ ∃ (I5:Nat → List AV → Prop),I5 (0:Nat) [AV.agg [AV.int .i64 0]] ∧ (∀ (i8:Nat) (n9 n10 n11:Int),xs2[i8]? = some [AV.int .i64 n9,.iface 185 (.agg [AV.int .i64 n10,.int .i64 n11])] → ∀ (n13:Int),I5 i8 [AV.agg [AV.int .i64 n13]] → ∃ n15,S 200 [AV.agg [AV.int .i64 n10,.int .i64 n11]] [] (.int .i64 n15) [] ∧ (decide (n15 ≤ second) = true → Q (.int .i64 n9) []) ∧ (decide (n15 ≤ second) = false → Same [AV.int .i64 second] ∧ I5 (i8 + 1) [AV.agg [AV.int .i64 n13]])) ∧ ∀ (n8:Int),I5 xs2.length [AV.agg [AV.int .i64 n8]] → Q (.int .i64 (IntKind.i64.wrap ((↑(List.map id l).length:Int) - (1:Int)))) []
theorem r65 (l:List AV) (second:Int) (S:SpecF) (Fr:FreshF) (Sq:SeqF) (Q:AV → List (List AV) → Prop):awpF Tryz.prog (mkS Tryz.prog S Fr Sq ⟨[],[(1000151,[.iface 185 (.agg [.int .i64 0,.int .i64 0])]),(93,[.fn 121 [] [.eptr [.slc 3 []] 0]])],[],[],[]⟩ 0) 0 ⟨[0,1,3,4,5,6,8,9,10,14],[⟨4,[],[],[(4,.agg [.int .i64 0])],[],[.int .i64 0,.iface 185 (.agg [.int .i64 0,.int .i64 0])]⟩],[],[]⟩ Tryz.f65 [.slc 3 (List.map id l),.int .i64 second] [] Q = R65 l second S Fr Sq Q:=by kernel_rfl
theorem s65 (l:List AV) (second:Int) (v:AV) (O:List (List AV)) (h:R65 l second (SpecOf Tryz.prog) (FreshOf Tryz.prog) (SeqOf Tryz.prog) (fun r O' => r = v ∧ O' = O)):SpecOf Tryz.prog 65 [.slc 3 (List.map id l),.int .i64 second] [] v O :=
 spec_by (boxes:=[]) mixed (by exact trivial) Tryz.func65 Tryz.call65 rfl rfl rfl (Nat.le_of_ble_eq_true rfl) (r65 l second (SpecOf Tryz.prog) (FreshOf Tryz.prog) (SeqOf Tryz.prog) _) h
theorem c65 (l:List TMtStep) (hl:l.length ≤ 2 ^ 43) (second:Int):Sp 65 [.slc 3 (l.map stepV),.int .i64 second] [] (.int .i64 (if l.length = 0 then -1 else (atF second l.length l:Nat))) []:=by
 have:=s65 (l.map stepV) second
 rw [List.map_id] at this
 refine this _ _ ?_
 unfold R65
 rw [List.map_id]
 refine ⟨_,c93 l,backL l,sqB l hl,fun v hv => ?_,?_⟩
 ·obtain ⟨n,x,rfl⟩:=backL_mem v hv
  exact ⟨rfl,rfl⟩
 refine ⟨fun i _ => i ≤ l.length ∧ atF second (l.length - i) l = atF second l.length l,⟨by omega,rfl⟩,?_,?_⟩
 ·rintro i n9 n10 n11 hx n13 ⟨hi,hf⟩
  have hlt:i < l.length:=by rw [← backL_len l]; exact (List.getElem?_eq_some_iff.1 hx).1
  obtain ⟨x,hx2⟩:∃ x,l[l.length - 1 - i]? = some x:=⟨_,List.getElem?_eq_getElem (by omega)⟩
  rw [backL_at hlt hx2] at hx
  cases hx
  have hk:l.length - i = (l.length - 1 - i) + 1:=by omega
  rw [hk,atF_at hx2] at hf
  refine ⟨_,c200 x,fun g => ⟨?_,by trivial⟩,fun g => ⟨by trivial,by omega,?_⟩⟩
  ·rw [if_pos (of_decide_eq_true g)] at hf
   rw [if_neg (by omega),← hf]
  ·rw [if_neg (of_decide_eq_false g)] at hf
   rw [← hf]; congr 1; omega
 ·rintro n8 ⟨hi,hf⟩
  rw [backL_len,Nat.sub_self] at hf
  rw [List.length_map]
  refine ⟨?_,by trivial⟩
  have hf:l.length - 1 = atF second l.length l:=hf
  rw [← hf,i64 (by omega)]
  split
  ·rename_i h; rw [h]; rfl
  ·congr 1; omega
end Go.Proofs.YtblebiafhhhflaaGreat
namespace Go.Proofs.YtblebiafhhhflaaGreat
open Go.RowKit
def addS (s:TSum) (x:TEncl) (t:Int):TSum:=⟨⟨IntKind.i64.wrap (s.Encl.Lo + IntKind.i64.wrap (t * x.Lo)),IntKind.i64.wrap (s.Encl.Hi + IntKind.i64.wrap (t * x.Hi))⟩⟩
def R27 (s:TSum) (x:TEncl) (times:Int) (_S:SpecF) (_Fr:FreshF) (_Sq:SeqF) (Q:AV → List (List AV) → Prop):Prop :=
 Q (.tup []) [[AV.int .i64 (IntKind.i64.wrap (s.Encl.Lo + IntKind.i64.wrap (times * x.Lo))),.int .i64 (IntKind.i64.wrap (s.Encl.Hi + IntKind.i64.wrap (times * x.Hi)))]]
theorem r27 (s:TSum) (x:TEncl) (times:Int) (S:SpecF) (Fr:FreshF) (Sq:SeqF) (Q:AV → List (List AV) → Prop):awpF Tryz.prog (mkS Tryz.prog S Fr Sq ⟨[],[],[],[],[]⟩ 0) 1 ⟨[0,1,2,4],[],[],[]⟩ Tryz.f27 [.ref 0 0,x.av,.int .i64 times] [⟨91,false,s.cs⟩] Q = R27 s x times S Fr Sq Q:=by kernel_rfl
theorem s27 (s:TSum) (x:TEncl) (times:Int) (v:AV) (O:List (List AV)) (h:R27 s x times (SpecOf Tryz.prog) (FreshOf Tryz.prog) (SeqOf Tryz.prog) (fun r O' => r = v ∧ O' = O)):SpecOf Tryz.prog 27 [.ref 0 0,x.av,.int .i64 times] [s.cs] v O :=
 spec_by (boxes:=[⟨91,false,s.cs⟩]) mixed (by exact trivial) Tryz.func27 Tryz.call27 rfl rfl rfl (Nat.le_of_ble_eq_true rfl) (r27 s x times (SpecOf Tryz.prog) (FreshOf Tryz.prog) (SeqOf Tryz.prog) _) h
theorem c27 (s:TSum) (x:TEncl) (t:Int):Sp 27 [.ref 0 0,x.av,.int .i64 t] [s.cs] (.tup []) [(addS s x t).cs]:=s27 s x t _ _ ⟨rfl,rfl⟩
def hoursE (s:TSum):TEncl:=⟨IntKind.i64.wrap (s.Encl.Lo.tdiv 3600),IntKind.i64.wrap ((IntKind.i64.wrap (s.Encl.Hi + 3599)).tdiv 3600)⟩
def R48 (s:TSum) (_S:SpecF) (_Fr:FreshF) (_Sq:SeqF) (Q:AV → List (List AV) → Prop):Prop :=
 Q (.agg [AV.int .i64 (IntKind.i64.wrap (s.Encl.Lo.tdiv (3600:Int))),.int .i64 (IntKind.i64.wrap ((IntKind.i64.wrap (s.Encl.Hi + 3599)).tdiv (3600:Int)))]) []
theorem r48 (s:TSum) (S:SpecF) (Fr:FreshF) (Sq:SeqF) (Q:AV → List (List AV) → Prop):awpF Tryz.prog (mkS Tryz.prog S Fr Sq ⟨[],[],[],[],[]⟩ 0) 0 ⟨[0,1,2],[],[],[]⟩ Tryz.f48 [s.av] [] Q = R48 s S Fr Sq Q:=by kernel_rfl
theorem s48 (s:TSum) (v:AV) (O:List (List AV)) (h:R48 s (SpecOf Tryz.prog) (FreshOf Tryz.prog) (SeqOf Tryz.prog) (fun r O' => r = v ∧ O' = O)):SpecOf Tryz.prog 48 [s.av] [] v O :=
 spec_by (boxes:=[]) mixed (by exact trivial) Tryz.func48 Tryz.call48 rfl rfl rfl (Nat.le_of_ble_eq_true rfl) (r48 s (SpecOf Tryz.prog) (FreshOf Tryz.prog) (SeqOf Tryz.prog) _) h
theorem c48 (s:TSum):Sp 48 [s.av] [] (hoursE s).av []:=s48 s _ _ ⟨rfl,rfl⟩
def daylessB (day:Int):Bool:=outB day 2 39998
def R26 (day:Int) (S:SpecF) (_Fr:FreshF) (_Sq:SeqF) (Q:AV → List (List AV) → Prop):Prop :=
 ∃ b0,S 38 [AV.int .i64 day,.int .i64 2,.int .i64 39998] [] (.bool b0) [] ∧ Q (.bool b0) []
theorem r26 (day:Int) (S:SpecF) (Fr:FreshF) (Sq:SeqF) (Q:AV → List (List AV) → Prop):awpF Tryz.prog (mkS Tryz.prog S Fr Sq ⟨[],[],[],[],[]⟩ 0) 0 ⟨[0,2],[],[],[]⟩ Tryz.f26 [.int .i64 day] [] Q = R26 day S Fr Sq Q:=by kernel_rfl
theorem s26 (day:Int) (v:AV) (O:List (List AV)) (h:R26 day (SpecOf Tryz.prog) (FreshOf Tryz.prog) (SeqOf Tryz.prog) (fun r O' => r = v ∧ O' = O)):SpecOf Tryz.prog 26 [.int .i64 day] [] v O :=
 spec_by (boxes:=[]) mixed (by exact trivial) Tryz.func26 Tryz.call26 rfl rfl rfl (Nat.le_of_ble_eq_true rfl) (r26 day (SpecOf Tryz.prog) (FreshOf Tryz.prog) (SeqOf Tryz.prog) _) h
theorem c26 (day:Int):Sp 26 [.int .i64 day] [] (.bool (daylessB day)) []:=s26 day _ _ ⟨_,c38 ..,rfl,rfl⟩
def goneB (x:TMtItem) (day:Int):Bool:=outB day x.From (IntKind.i64.wrap (x.Until - 1))
def R31 (x:TMtItem) (day:Int) (S:SpecF) (_Fr:FreshF) (_Sq:SeqF) (Q:AV → List (List AV) → Prop):Prop :=
 ∃ b0,S 38 [AV.int .i64 day,.int .i64 x.From,.int .i64 (IntKind.i64.wrap (x.Until - 1))] [] (.bool b0) [] ∧ Q (.bool b0) []
theorem r31 (x:TMtItem) (day:Int) (S:SpecF) (Fr:FreshF) (Sq:SeqF) (Q:AV → List (List AV) → Prop):awpF Tryz.prog (mkS Tryz.prog S Fr Sq ⟨[],[],[],[],[]⟩ 0) 0 ⟨[0,1,2,4],[],[],[]⟩ Tryz.f31 [x.av,.int .i64 day] [] Q = R31 x day S Fr Sq Q:=by kernel_rfl
theorem s31 (x:TMtItem) (day:Int) (v:AV) (O:List (List AV)) (h:R31 x day (SpecOf Tryz.prog) (FreshOf Tryz.prog) (SeqOf Tryz.prog) (fun r O' => r = v ∧ O' = O)):SpecOf Tryz.prog 31 [x.av,.int .i64 day] [] v O :=
 spec_by (boxes:=[]) mixed (by exact trivial) Tryz.func31 Tryz.call31 rfl rfl rfl (Nat.le_of_ble_eq_true rfl) (r31 x day (SpecOf Tryz.prog) (FreshOf Tryz.prog) (SeqOf Tryz.prog) _) h
theorem c31 (x:TMtItem) (day:Int):Sp 31 [x.av,.int .i64 day] [] (.bool (goneB x day)) []:=s31 x day _ _ ⟨_,c38 ..,rfl,rfl⟩
def R84 (p:TMtProfile) (_S:SpecF) (_Fr:FreshF) (_Sq:SeqF) (Q:AV → List (List AV) → Prop):Prop :=
 Q (.str p.Name) []
theorem r84 (p:TMtProfile) (S:SpecF) (Fr:FreshF) (Sq:SeqF) (Q:AV → List (List AV) → Prop):awpF Tryz.prog (mkS Tryz.prog S Fr Sq ⟨[],[],[],[],[]⟩ 0) 0 ⟨[0,1,2],[],[],[]⟩ Tryz.f84 [p.av] [] Q = R84 p S Fr Sq Q:=by kernel_rfl
theorem s84 (p:TMtProfile) (v:AV) (O:List (List AV)) (h:R84 p (SpecOf Tryz.prog) (FreshOf Tryz.prog) (SeqOf Tryz.prog) (fun r O' => r = v ∧ O' = O)):SpecOf Tryz.prog 84 [p.av] [] v O :=
 spec_by (boxes:=[]) mixed (by exact trivial) Tryz.func84 Tryz.call84 rfl rfl rfl (Nat.le_of_ble_eq_true rfl) (r84 p (SpecOf Tryz.prog) (FreshOf Tryz.prog) (SeqOf Tryz.prog) _) h
theorem c84 (p:TMtProfile):Sp 84 [p.av] [] (.str p.Name) []:=s84 p _ _ ⟨rfl,rfl⟩
def R87 (m:TMtMeter) (_S:SpecF) (_Fr:FreshF) (_Sq:SeqF) (Q:AV → List (List AV) → Prop):Prop :=
 Q (.str m.Name) []
theorem r87 (m:TMtMeter) (S:SpecF) (Fr:FreshF) (Sq:SeqF) (Q:AV → List (List AV) → Prop):awpF Tryz.prog (mkS Tryz.prog S Fr Sq ⟨[],[],[],[],[]⟩ 0) 0 ⟨[0,1,2],[],[],[]⟩ Tryz.f87 [m.av] [] Q = R87 m S Fr Sq Q:=by kernel_rfl
theorem s87 (m:TMtMeter) (v:AV) (O:List (List AV)) (h:R87 m (SpecOf Tryz.prog) (FreshOf Tryz.prog) (SeqOf Tryz.prog) (fun r O' => r = v ∧ O' = O)):SpecOf Tryz.prog 87 [m.av] [] v O :=
 spec_by (boxes:=[]) mixed (by exact trivial) Tryz.func87 Tryz.call87 rfl rfl rfl (Nat.le_of_ble_eq_true rfl) (r87 m (SpecOf Tryz.prog) (FreshOf Tryz.prog) (SeqOf Tryz.prog) _) h
theorem c87 (p:TMtMeter):Sp 87 [p.av] [] (.str p.Name) []:=s87 p _ _ ⟨rfl,rfl⟩
def R90 (x:TMtItem) (_S:SpecF) (_Fr:FreshF) (_Sq:SeqF) (Q:AV → List (List AV) → Prop):Prop :=
 Q (.str x.Name) []
theorem r90 (x:TMtItem) (S:SpecF) (Fr:FreshF) (Sq:SeqF) (Q:AV → List (List AV) → Prop):awpF Tryz.prog (mkS Tryz.prog S Fr Sq ⟨[],[],[],[],[]⟩ 0) 0 ⟨[0,1,2],[],[],[]⟩ Tryz.f90 [x.av] [] Q = R90 x S Fr Sq Q:=by kernel_rfl
theorem s90 (x:TMtItem) (v:AV) (O:List (List AV)) (h:R90 x (SpecOf Tryz.prog) (FreshOf Tryz.prog) (SeqOf Tryz.prog) (fun r O' => r = v ∧ O' = O)):SpecOf Tryz.prog 90 [x.av] [] v O :=
 spec_by (boxes:=[]) mixed (by exact trivial) Tryz.func90 Tryz.call90 rfl rfl rfl (Nat.le_of_ble_eq_true rfl) (r90 x (SpecOf Tryz.prog) (FreshOf Tryz.prog) (SeqOf Tryz.prog) _) h
theorem c90 (p:TMtItem):Sp 90 [p.av] [] (.str p.Name) []:=s90 p _ _ ⟨rfl,rfl⟩
def profE (p:TMtProfile):Int:=if outB p.Steps.length 1 8 then 3 else if validF p.Steps true (-1) 1000 then 0 else 7
def R85 (p:TMtProfile) (S:SpecF) (_Fr:FreshF) (_Sq:SeqF) (Q:AV → List (List AV) → Prop):Prop :=
 ∃ es0,S 63 [p.av] [] (.slc 3 es0) [] ∧ ∃ b2 b3,S 120 [AV.slc 3 es0,.int .i64 8,.int .i64 1000] [] (.tup [AV.bool b2,.bool b3]) [] ∧ ((!b2) = true → Q (.int .i64 3) []) ∧ ((!b2) = false → ((!b3) = true → Q (.int .i64 7) []) ∧ ((!b3) = false → Q (.int .i64 0) []))
theorem r85 (p:TMtProfile) (S:SpecF) (Fr:FreshF) (Sq:SeqF) (Q:AV → List (List AV) → Prop):awpF Tryz.prog (mkS Tryz.prog S Fr Sq ⟨[],[],[],[],[]⟩ 0) 0 ⟨[0,1,2,3,4,11,14],[],[],[]⟩ Tryz.f85 [p.av] [] Q = R85 p S Fr Sq Q:=by kernel_rfl
theorem s85 (p:TMtProfile) (v:AV) (O:List (List AV)) (h:R85 p (SpecOf Tryz.prog) (FreshOf Tryz.prog) (SeqOf Tryz.prog) (fun r O' => r = v ∧ O' = O)):SpecOf Tryz.prog 85 [p.av] [] v O :=
 spec_by (boxes:=[]) mixed (by exact trivial) Tryz.func85 Tryz.call85 rfl rfl rfl (Nat.le_of_ble_eq_true rfl) (r85 p (SpecOf Tryz.prog) (FreshOf Tryz.prog) (SeqOf Tryz.prog) _) h
theorem c85 (p:TMtProfile) (hl:p.Steps.length ≤ 2 ^ 43):Sp 85 [p.av] [] (.int .i64 (profE p)) []:=s85 p _ _ (by
 unfold R85 profE
 refine ⟨_,c63 p hl,_,_,c120 p.Steps hl _ _,fun h => ⟨?_,rfl⟩,fun h => ⟨fun h2 => ⟨?_,rfl⟩,fun h2 => ⟨?_,rfl⟩⟩⟩
 ·rw [Bool.not_not] at h; rw [if_pos h]
 ·rw [Bool.not_not] at h; rw [if_neg (by simp [h]),if_neg (by simpa using h2)]
 ·rw [Bool.not_not] at h; rw [if_neg (by simp [h]),if_pos (by simpa using h2)])
def itemE (t:TMtTask) (x:TMtItem):Int :=
 if outB x.Lamp 0 (IntKind.i64.wrap (t.Catalog.Lamps.length - 1)) then 4
 else if outB x.Profile 0 (IntKind.i64.wrap (t.Profiles.length - 1)) then 4
 else if outB x.Meter (-1) (IntKind.i64.wrap (t.Meters.length - 1)) then 4
 else if outB x.Count 1 1000 then 7
 else if outB x.Declared 0 500000 then 7
 else if outB x.Until 0 40000 then 7
 else if outB x.From 0 x.Until then 7 else 0
def R91 (x:TMtItem) (v0:TMtTask) (S:SpecF) (_Fr:FreshF) (_Sq:SeqF) (Q:AV → List (List AV) → Prop):Prop :=
 ∃ b0,S 38 [AV.int .i64 x.Lamp,.int .i64 0,.int .i64 (IntKind.i64.wrap ((↑(List.map TLmLamp.av v0.Catalog.Lamps).length:Int) - (1:Int)))] [] (.bool b0) [] ∧ (b0 = true → Q (.int .i64 4) [v0.cs]) ∧ (b0 = false → ∃ b4,S 38 [AV.int .i64 x.Profile,.int .i64 0,.int .i64 (IntKind.i64.wrap ((↑(List.map TMtProfile.av v0.Profiles).length:Int) - (1:Int)))] [] (.bool b4) [] ∧ (b4 = true → Q (.int .i64 4) [v0.cs]) ∧ (b4 = false → ∃ b8,S 38 [AV.int .i64 x.Meter,.int .i64 (-1:Int),.int .i64 (IntKind.i64.wrap ((↑(List.map TMtMeter.av v0.Meters).length:Int) - (1:Int)))] [] (.bool b8) [] ∧ (b8 = true → Q (.int .i64 4) [v0.cs]) ∧ (b8 = false → ∃ b12,S 38 [AV.int .i64 x.Count,.int .i64 1,.int .i64 1000] [] (.bool b12) [] ∧ (b12 = true → Q (.int .i64 7) [v0.cs]) ∧ (b12 = false → ∃ b16,S 38 [AV.int .i64 x.Declared,.int .i64 0,.int .i64 500000] [] (.bool b16) [] ∧ (b16 = true → Q (.int .i64 7) [v0.cs]) ∧ (b16 = false → ∃ b20,S 38 [AV.int .i64 x.Until,.int .i64 0,.int .i64 40000] [] (.bool b20) [] ∧ (b20 = true → Q (.int .i64 7) [v0.cs]) ∧ (b20 = false → ∃ b24,S 38 [AV.int .i64 x.From,.int .i64 0,.int .i64 x.Until] [] (.bool b24) [] ∧ (b24 = true → Q (.int .i64 7) [v0.cs]) ∧ (b24 = false → Q (.int .i64 0) [v0.cs])))))))
theorem r91 (x:TMtItem) (v0:TMtTask) (S:SpecF) (Fr:FreshF) (Sq:SeqF) (Q:AV → List (List AV) → Prop):awpF Tryz.prog (mkS Tryz.prog S Fr Sq ⟨[],[],[],[],[]⟩ 0) 1 ⟨[0,1,2,3,4,31],[],[],[]⟩ Tryz.f91 [x.av,.ref 0 0] [⟨34,false,v0.cs⟩] Q = R91 x v0 S Fr Sq Q:=by kernel_rfl
theorem s91 (x:TMtItem) (v0:TMtTask) (v:AV) (O:List (List AV)) (h:R91 x v0 (SpecOf Tryz.prog) (FreshOf Tryz.prog) (SeqOf Tryz.prog) (fun r O' => r = v ∧ O' = O)):SpecOf Tryz.prog 91 [x.av,.ref 0 0] [v0.cs] v O :=
 spec_by (boxes:=[⟨34,false,v0.cs⟩]) mixed (by exact trivial) Tryz.func91 Tryz.call91 rfl rfl rfl (Nat.le_of_ble_eq_true rfl) (r91 x v0 (SpecOf Tryz.prog) (FreshOf Tryz.prog) (SeqOf Tryz.prog) _) h
theorem c91 (t:TMtTask) (x:TMtItem):Sp 91 [x.av,.ref 0 0] [t.cs] (.int .i64 (itemE t x)) [t.cs]:=s91 x t _ _ (by
 unfold R91 itemE
 rw [List.length_map,List.length_map,List.length_map]
 refine ⟨_,c38 ..,fun h1 => ⟨?_,rfl⟩,fun h1 => ⟨_,c38 ..,fun h2 => ⟨?_,rfl⟩,fun h2 => ⟨_,c38 ..,fun h3 => ⟨?_,rfl⟩,fun h3 => ⟨_,c38 ..,fun h4 => ⟨?_,rfl⟩,fun h4 => ⟨_,c38 ..,fun h5 => ⟨?_,rfl⟩,fun h5 => ⟨_,c38 ..,fun h6 => ⟨?_,rfl⟩,fun h6 => ⟨_,c38 ..,fun h7 => ⟨?_,rfl⟩,fun h7 => ⟨?_,rfl⟩⟩⟩⟩⟩⟩⟩⟩
 all_goals simp only [*]
 all_goals rfl)
def readE (m:TMtMeter):Option TMtReading → List TMtReading → Int
 | _,[] => 0
 | before,r :: l => if daylessB r.Day then 7 else if outB r.Value 0 (IntKind.i64.wrap (m.Modulus - 1)) then 7 else
  match before with
  | none => readE m (some r) l
  | some b => if outB (IntKind.i64.wrap (r.Day - b.Day)) 1 200 then 7 else readE m (some r) l
theorem readE_at {m:TMtMeter} {b:Option TMtReading} {l:List TMtReading} {k:Nat} {r:TMtReading} (h:l[k]? = some r):readE m b (l.drop k) = if daylessB r.Day then 7 else if outB r.Value 0 (IntKind.i64.wrap (m.Modulus - 1)) then 7 else
  match b with
  | none => readE m (some r) (l.drop (k + 1))
  | some b => if outB (IntKind.i64.wrap (r.Day - b.Day)) 1 200 then 7 else readE m (some r) (l.drop (k + 1)):=by
 obtain ⟨hk,rfl⟩:=List.getElem?_eq_some_iff.1 h
 rw [List.drop_eq_getElem_cons hk]; rfl
def beforeR (l:List TMtReading):Nat → Option TMtReading
 | 0 => none
 | k + 1 => l[k]?
def meterE (m:TMtMeter):Int :=
 if outB m.Step 1 1000000 then 7 else if outB m.Modulus 2 1000000000 then 7 else if outB m.Error 0 100 then 7
 else if decide ((m.Readings.length:Int) > 30) then 3 else readE m none m.Readings
def R88 (m:TMtMeter) (S:SpecF) (_Fr:FreshF) (_Sq:SeqF) (Q:AV → List (List AV) → Prop):Prop :=
 ∃ b0,S 38 [AV.int .i64 m.Step,.int .i64 1,.int .i64 1000000] [] (.bool b0) [] ∧ (b0 = true → Q (.int .i64 7) []) ∧ (b0 = false → ∃ b4,S 38 [AV.int .i64 m.Modulus,.int .i64 2,.int .i64 1000000000] [] (.bool b4) [] ∧ (b4 = true → Q (.int .i64 7) []) ∧ (b4 = false → ∃ b8,S 38 [AV.int .i64 m.Error,.int .i64 0,.int .i64 100] [] (.bool b8) [] ∧ (b8 = true → Q (.int .i64 7) []) ∧ (b8 = false → (decide ((↑(List.map TMtReading.av m.Readings).length:Int) > (30:Int)) = true → Q (.int .i64 3) []) ∧ (decide ((↑(List.map TMtReading.av m.Readings).length:Int) > (30:Int)) = false → ∃ (I14:Nat → List AV → Prop),(∃ m16,I14 m16 [AV.int .i64 0]) ∧ ∀ (m16:Nat) (n17:Int),I14 m16 [AV.int .i64 n17] → (decide (n17 < (↑(List.map TMtReading.av m.Readings).length:Int)) = true → ∃ n21 n22,((0:Int) ≤ n17 ∧ (2:Nat) = (2:Nat) ∧ (List.map TMtReading.av m.Readings)[n17.toNat]? = some (.agg [AV.int .i64 n21,.int .i64 n22])) ∧ ∃ b24,S 26 [AV.int .i64 n21] [] (.bool b24) [] ∧ (b24 = true → Q (.int .i64 7) []) ∧ (b24 = false → ∃ b28,S 38 [AV.int .i64 n22,.int .i64 0,.int .i64 (IntKind.i64.wrap (m.Modulus - 1))] [] (.bool b28) [] ∧ (b28 = true → Q (.int .i64 7) []) ∧ (b28 = false → (decide (n17 > 0) = true → ∃ n34 n35,((0:Int) ≤ IntKind.i64.wrap (n17 - 1) ∧ (2:Nat) = (2:Nat) ∧ (List.map TMtReading.av m.Readings)[(IntKind.i64.wrap (n17 - 1)).toNat]? = some (.agg [AV.int .i64 n34,.int .i64 n35])) ∧ ∃ b37,S 38 [AV.int .i64 (IntKind.i64.wrap (n21 - n34)),.int .i64 1,.int .i64 200] [] (.bool b37) [] ∧ (b37 = true → Q (.int .i64 7) []) ∧ (b37 = false → m.cs = m.cs ∧ ∃ k42,k42 < m16 ∧ I14 k42 [AV.int .i64 (IntKind.i64.wrap (n17 + 1))])) ∧ (decide (n17 > 0) = false → m.cs = m.cs ∧ ∃ k35,k35 < m16 ∧ I14 k35 [AV.int .i64 (IntKind.i64.wrap (n17 + 1))])))) ∧ (decide (n17 < (↑(List.map TMtReading.av m.Readings).length:Int)) = false → Q (.int .i64 0) [])))))
theorem r88 (m:TMtMeter) (S:SpecF) (Fr:FreshF) (Sq:SeqF) (Q:AV → List (List AV) → Prop):awpF Tryz.prog (mkS Tryz.prog S Fr Sq ⟨[],[],[],[],[]⟩ 0) 0 ⟨[0,1,2,3,4,5,19,25,26,27,28,59],[⟨6,[(27,.int .i64 0)],[],[],[],[]⟩],[],[]⟩ Tryz.f88 [m.av] [] Q = R88 m S Fr Sq Q:=by kernel_rfl
theorem s88 (m:TMtMeter) (v:AV) (O:List (List AV)) (h:R88 m (SpecOf Tryz.prog) (FreshOf Tryz.prog) (SeqOf Tryz.prog) (fun r O' => r = v ∧ O' = O)):SpecOf Tryz.prog 88 [m.av] [] v O :=
 spec_by (boxes:=[]) mixed (by exact trivial) Tryz.func88 Tryz.call88 rfl rfl rfl (Nat.le_of_ble_eq_true rfl) (r88 m (SpecOf Tryz.prog) (FreshOf Tryz.prog) (SeqOf Tryz.prog) _) h
theorem c88 (m:TMtMeter):Sp 88 [m.av] [] (.int .i64 (meterE m)) []:=s88 m _ _ (by
 unfold R88 meterE
 rw [List.length_map]
 refine ⟨_,c38 ..,fun h1 => ⟨by simp only [*]; rfl,rfl⟩,fun h1 => ⟨_,c38 ..,fun h2 => ⟨by simp only [*]; rfl,rfl⟩,fun h2 => ⟨_,c38 ..,fun h3 => ⟨by simp only [*]; rfl,rfl⟩,fun h3 => ⟨fun h4 => ⟨by simp only [*]; rfl,rfl⟩,fun h4 => ?_⟩⟩⟩⟩
 simp only [h1,h2,h3,h4]
 have hl:m.Readings.length ≤ 30:=by have:=of_decide_eq_false h4; omega
 refine ⟨fun a vs => ∃ k:Nat,k ≤ m.Readings.length ∧ a = m.Readings.length - k ∧ vs = [.int .i64 k] ∧ readE m (beforeR m.Readings k) (m.Readings.drop k) = readE m none m.Readings,⟨_,0,by omega,rfl,rfl,rfl⟩,?_⟩
 rintro a n ⟨k,hk,rfl,hv,hf⟩
 cases hv
 refine ⟨fun g => ?_,fun g => ?_⟩
 ·have hlt:k < m.Readings.length:=by have:=of_decide_eq_true g; omega
  obtain ⟨r,hr,hr'⟩:=map_getN (f:=TMtReading.av) hlt
  rw [readE_at hr] at hf
  refine ⟨r.Day,r.Value,⟨by omega,by trivial,hr'⟩,_,c26 ..,fun g1 => ⟨?_,by trivial⟩,fun g1 => ⟨_,c38 ..,fun g2 => ⟨?_,by trivial⟩,fun g2 => ⟨fun g3 => ?_,fun g3 => ?_⟩⟩⟩
  ·rw [if_pos g1] at hf; rw [← hf]; rfl
  ·rw [if_neg (by rw [g1]; decide),if_pos g2] at hf; rw [← hf]; rfl
  ·have h0:0 < k:=by have:=of_decide_eq_true g3; omega
   obtain ⟨j,rfl⟩:∃ j,k = j + 1:=⟨k - 1,by omega⟩
   obtain ⟨b,hb,hb'⟩:=map_getN (f:=TMtReading.av) (l:=m.Readings) (k:=j) (by omega)
   have e:IntKind.i64.wrap (((j + 1:Nat):Int) - 1) = (j:Int):=by rw [show ((j + 1:Nat):Int) - 1 = j by omega]; exact i64 (by omega)
   rw [e]
   rw [if_neg (by rw [g1]; decide),if_neg (by rw [g2]; decide)] at hf
   simp only [beforeR,hb] at hf
   refine ⟨b.Day,b.Value,⟨by omega,by trivial,hb'⟩,_,c38 ..,fun g4 => ⟨?_,by trivial⟩,fun g4 => ⟨by trivial,m.Readings.length - (j + 1 + 1),by omega,j + 1 + 1,by omega,rfl,by rw [wrapN (by omega)],?_⟩⟩
   ·rw [if_pos g4] at hf; rw [← hf]; rfl
   ·rw [if_neg (by rw [g4]; decide)] at hf
    rw [← hf,beforeR,hr]
  ·have h0:k = 0:=by have:=of_decide_eq_false g3; omega
   subst h0
   rw [if_neg (by rw [g1]; decide),if_neg (by rw [g2]; decide)] at hf
   simp only [beforeR] at hf
   refine ⟨by trivial,m.Readings.length - (0 + 1),by omega,0 + 1,by omega,rfl,by rw [wrapN (by omega)],?_⟩
   rw [← hf,beforeR,hr]
 ·obtain rfl:k = m.Readings.length:=by have:=of_decide_eq_false g; omega
  rw [List.drop_length] at hf
  rw [← hf]
  exact ⟨by simp [readE],by trivial⟩)
end Go.Proofs.YtblebiafhhhflaaGreat
