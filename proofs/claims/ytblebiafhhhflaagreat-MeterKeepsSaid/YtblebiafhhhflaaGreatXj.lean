/- Contracts: an inventory with other lamps. Contracts: energy of items on some days; what is asked of days. Plain laws: an inventory in which lamps are replaced on a day. -/
import Derived.Test.YtblebiafhhhflaaGreatXg
import Derived.Test.YtblebiafhhhflaaGreatHp
import Derived.Test.YtblebiafhhhflaaGreatIh
namespace Go.Proofs.YtblebiafhhhflaaGreat
open Go.RowKit
theorem chunk1 {es:List AV} (h:ones es = true):chunks 1 false es.length (es.flatMap AV.cells) = es:=by
 unfold chunks; rw [if_neg (by simp),ones_cells h,List.take_of_length_le (Nat.le_refl _)]
theorem elems1 {es:List AV} (h:ones es = true):elemsOf 1 es:=fun v hv => by rw [one_cells (List.all_eq_true.1 h v hv)]; rfl
theorem agg3':isAggT Tryz.prog 3 = false:=by kernel_rfl
theorem agg61':isAggT Tryz.prog 61 = false:=by kernel_rfl
def G55 (s:List Int) (_S:SpecF) (_Fr:FreshF) (_Sq:SeqF) (Q:List AV → Prop):Prop :=
 ∀ (b0:Bool),(List.map (AV.int IntKind.i64) s ≠ [] → b0 = !true) → (b0 = true → Q []) ∧ (b0 = false → elemsOf (1:Nat) (List.map (AV.int IntKind.i64) s) ∧ ((([]:List AV) = [] ∨ (0:Nat) < (List.map (AV.int IntKind.i64) s).length) ∧ ((0:Nat) + (List.map (AV.int IntKind.i64) s).length + (512:Nat)) * 41 ≤ (1125899906842624:Nat) ∧ elemsOf (1:Nat) [] ∧ ones (List.flatMap AV.cells (List.map (AV.int IntKind.i64) s)) = true ∧ ones [] = true) ∧ (([] ++ List.flatMap AV.cells (List.map (AV.int IntKind.i64) s)).length = ((0:Nat) + (List.map (AV.int IntKind.i64) s).length) * 1 ∧ (isAggT Tryz.prog (3:Nat) = false → (1:Nat) = (1:Nat) ∧ ones ([] ++ List.flatMap AV.cells (List.map (AV.int IntKind.i64) s)) = true)) ∧ Q (chunks (1:Nat) (isAggT Tryz.prog (3:Nat)) ((0:Nat) + (List.map (AV.int IntKind.i64) s).length) ([] ++ List.flatMap AV.cells (List.map (AV.int IntKind.i64) s))))
theorem g55 (s:List Int) (S:SpecF) (Fr:FreshF) (Sq:SeqF) (Q:List AV → Prop):awpG Tryz.prog (mkS Tryz.prog S Fr Sq ⟨[],[],[],[],[]⟩ 0) ⟨[0,2,4],[],[],[]⟩ Tryz.f55 [.slc 3 (List.map (AV.int .i64) s)] 1 Q = G55 s S Fr Sq Q:=by kernel_rfl
theorem fr55 (s:List Int) (es:List AV) (h:G55 s (SpecOf Tryz.prog) (FreshOf Tryz.prog) (SeqOf Tryz.prog) (fun r => r = es)):FreshOf Tryz.prog 55 [.slc 3 (List.map (AV.int .i64) s)] 1 es :=
 fresh_by mixed (by exact trivial) Tryz.func55 Tryz.call55 (Nat.le_of_ble_eq_true rfl) (g55 s (SpecOf Tryz.prog) (FreshOf Tryz.prog) (SeqOf Tryz.prog) _) h
theorem cloneI (l:List Int) (hl:l.length ≤ 1000000):FreshOf0 Tryz.prog 55 [intsA l] 1 (l.map (AV.int .i64)):=freshOf_0 (fr55 l _ (by
 unfold G55
 intro b hb
 have h1:=ones_ints l
 refine ⟨fun h => ?_,fun h => ⟨elems1 h1,⟨.inl rfl,by rw [List.length_map]; omega,fun v hv => (by cases hv),by rw [ones_cells h1]; exact h1,rfl⟩,⟨by rw [List.nil_append,ones_cells h1]; omega,fun _ => ⟨rfl,by rw [List.nil_append,ones_cells h1]; exact h1⟩⟩,?_⟩⟩
 ·rcases Classical.em (l = []) with rfl | hne
  ·rfl
  ·exact absurd (hb (by simpa using hne)) (by simp [h])
 ·rw [List.nil_append,Nat.zero_add,agg3']; exact chunk1 h1)) rfl
def G56 (s:List (List Int)) (_S:SpecF) (_Fr:FreshF) (_Sq:SeqF) (Q:List AV → Prop):Prop :=
 ∀ (b0:Bool),(List.map (fun x => AV.slc 3 (List.map (AV.int IntKind.i64) x)) s ≠ [] → b0 = !true) → (b0 = true → Q []) ∧ (b0 = false → elemsOf (1:Nat) (List.map (fun x => AV.slc 3 (List.map (AV.int IntKind.i64) x)) s) ∧ ((([]:List AV) = [] ∨ (0:Nat) < (List.map (fun x => AV.slc 3 (List.map (AV.int IntKind.i64) x)) s).length) ∧ ((0:Nat) + (List.map (fun x => AV.slc 3 (List.map (AV.int IntKind.i64) x)) s).length + (512:Nat)) * 121 ≤ (1125899906842624:Nat) ∧ elemsOf (1:Nat) [] ∧ ones (List.flatMap AV.cells (List.map (fun x => AV.slc 3 (List.map (AV.int IntKind.i64) x)) s)) = true ∧ ones [] = true) ∧ (([] ++ List.flatMap AV.cells (List.map (fun x => AV.slc 3 (List.map (AV.int IntKind.i64) x)) s)).length = ((0:Nat) + (List.map (fun x => AV.slc 3 (List.map (AV.int IntKind.i64) x)) s).length) * 1 ∧ (isAggT Tryz.prog (61:Nat) = false → (1:Nat) = (1:Nat) ∧ ones ([] ++ List.flatMap AV.cells (List.map (fun x => AV.slc 3 (List.map (AV.int IntKind.i64) x)) s)) = true)) ∧ Q (chunks (1:Nat) (isAggT Tryz.prog (61:Nat)) ((0:Nat) + (List.map (fun x => AV.slc 3 (List.map (AV.int IntKind.i64) x)) s).length) ([] ++ List.flatMap AV.cells (List.map (fun x => AV.slc 3 (List.map (AV.int IntKind.i64) x)) s))))
theorem g56 (s:List (List Int)) (S:SpecF) (Fr:FreshF) (Sq:SeqF) (Q:List AV → Prop):awpG Tryz.prog (mkS Tryz.prog S Fr Sq ⟨[],[],[],[],[]⟩ 0) ⟨[0,2,4],[],[],[]⟩ Tryz.f56 [.slc 3 (List.map (fun x => .slc 3 (List.map (AV.int .i64) x)) s)] 1 Q = G56 s S Fr Sq Q:=by kernel_rfl
theorem fr56 (s:List (List Int)) (es:List AV) (h:G56 s (SpecOf Tryz.prog) (FreshOf Tryz.prog) (SeqOf Tryz.prog) (fun r => r = es)):FreshOf Tryz.prog 56 [.slc 3 (List.map (fun x => .slc 3 (List.map (AV.int .i64) x)) s)] 1 es :=
 fresh_by mixed (by exact trivial) Tryz.func56 Tryz.call56 (Nat.le_of_ble_eq_true rfl) (g56 s (SpecOf Tryz.prog) (FreshOf Tryz.prog) (SeqOf Tryz.prog) _) h
theorem cloneR (l:List (List Int)) (hl:l.length ≤ 1000000):FreshOf0 Tryz.prog 56 [.slc 3 (rowsA l)] 1 (rowsA l):=freshOf_0 (fr56 l _ (by
 unfold G56
 intro b hb
 have h1:ones (List.map (fun x => AV.slc 3 (List.map (AV.int .i64) x)) l) = true:=ones_rows l
 refine ⟨fun h => ?_,fun h => ⟨elems1 h1,⟨.inl rfl,by rw [List.length_map]; omega,fun v hv => (by cases hv),by rw [ones_cells h1]; exact h1,rfl⟩,⟨by rw [List.nil_append,ones_cells h1]; omega,fun _ => ⟨rfl,by rw [List.nil_append,ones_cells h1]; exact h1⟩⟩,?_⟩⟩
 ·rcases Classical.em (l = []) with rfl | hne
  ·rfl
  ·exact absurd (hb (by simpa using hne)) (by simp [h])
 ·rw [List.nil_append,Nat.zero_add,agg61']; exact chunk1 h1)) rfl
theorem ag135:isAggT Tryz.prog 135 = true:=by kernel_rfl
theorem fmLmTable (l:List TLmTable):elemsOf 6 (l.map TLmTable.av) ∧ ((l.map TLmTable.av).flatMap AV.cells).length = l.length * 6 ∧ ones ((l.map TLmTable.av).flatMap AV.cells) = true ∧ chunkA 6 l.length ((l.map TLmTable.av).flatMap AV.cells) = l.map TLmTable.av:=flat_map (f:=TLmTable.av) (g:=TLmTable.cs) (k:=6) (fun _ => rfl) (fun _ => rfl) (fun _ => rfl) l
theorem chLmTable (l:List TLmTable):chunks 6 true l.length (List.flatMap AV.cells (l.map TLmTable.av)) = l.map TLmTable.av:=by
 have:=chunkM (f:=TLmTable.av) (g:=TLmTable.cs) (k:=6) (fun _ => rfl) (fun _ => rfl) (fun _ => rfl) l
 rw [List.length_map,List.drop_zero] at this; exact this
def G53 (s:List TLmTable) (_S:SpecF) (_Fr:FreshF) (_Sq:SeqF) (Q:List AV → Prop):Prop :=
 ∀ (b0:Bool),(List.map TLmTable.av s ≠ [] → b0 = !true) → (b0 = true → Q []) ∧ (b0 = false → elemsOf (6:Nat) (List.map TLmTable.av s) ∧ ((([]:List AV) = [] ∨ (0:Nat) < (List.map TLmTable.av s).length) ∧ ((0:Nat) + (List.map TLmTable.av s).length + (512:Nat)) * 521 ≤ (1125899906842624:Nat) ∧ elemsOf (6:Nat) [] ∧ ones (List.flatMap AV.cells (List.map TLmTable.av s)) = true ∧ ones [] = true) ∧ (([] ++ List.flatMap AV.cells (List.map TLmTable.av s)).length = ((0:Nat) + (List.map TLmTable.av s).length) * 6 ∧ (isAggT Tryz.prog (135:Nat) = false → (6:Nat) = (1:Nat) ∧ ones ([] ++ List.flatMap AV.cells (List.map TLmTable.av s)) = true)) ∧ Q (chunks (6:Nat) (isAggT Tryz.prog (135:Nat)) ((0:Nat) + (List.map TLmTable.av s).length) ([] ++ List.flatMap AV.cells (List.map TLmTable.av s))))
theorem g53 (s:List TLmTable) (S:SpecF) (Fr:FreshF) (Sq:SeqF) (Q:List AV → Prop):awpG Tryz.prog (mkS Tryz.prog S Fr Sq ⟨[],[],[],[],[]⟩ 0) ⟨[0,2,4],[],[],[]⟩ Tryz.f53 [.slc 3 (List.map TLmTable.av s)] 6 Q = G53 s S Fr Sq Q:=by kernel_rfl
theorem fr53 (s:List TLmTable) (es:List AV) (h:G53 s (SpecOf Tryz.prog) (FreshOf Tryz.prog) (SeqOf Tryz.prog) (fun r => r = es)):FreshOf Tryz.prog 53 [.slc 3 (List.map TLmTable.av s)] 6 es :=
 fresh_by mixed (by exact trivial) Tryz.func53 Tryz.call53 (Nat.le_of_ble_eq_true rfl) (g53 s (SpecOf Tryz.prog) (FreshOf Tryz.prog) (SeqOf Tryz.prog) _) h
theorem cfLmTable (l:List TLmTable) (hl:l.length ≤ 1000000):FreshOf Tryz.prog 53 [.slc 3 (l.map TLmTable.av)] 6 (l.map TLmTable.av):=fr53 l _ (by
 unfold G53
 intro b hb
 have hF:=fmLmTable l
 refine ⟨fun h => ?_,fun h => ⟨hF.1,⟨.inl rfl,by rw [List.length_map]; omega,fun v hv => (by cases hv),hF.2.2.1,rfl⟩,⟨?_,fun h => ?_⟩,?_⟩⟩
 ·rcases Classical.em (l = []) with rfl | hne
  ·rfl
  ·exact absurd (hb (by simpa using hne)) (by simp [h])
 ·rw [List.nil_append,Nat.zero_add,List.length_map]; exact hF.2.1
 ·rw [ag135] at h; cases h
 ·rw [List.nil_append,Nat.zero_add,List.length_map,ag135]; exact chLmTable l)
theorem ag64:isAggT Tryz.prog 64 = true:=by kernel_rfl
theorem fmLmLamp (l:List TLmLamp):elemsOf 14 (l.map TLmLamp.av) ∧ ((l.map TLmLamp.av).flatMap AV.cells).length = l.length * 14 ∧ ones ((l.map TLmLamp.av).flatMap AV.cells) = true ∧ chunkA 14 l.length ((l.map TLmLamp.av).flatMap AV.cells) = l.map TLmLamp.av:=flat_map (f:=TLmLamp.av) (g:=TLmLamp.cs) (k:=14) (fun _ => rfl) (fun _ => rfl) (fun _ => rfl) l
theorem chLmLamp (l:List TLmLamp):chunks 14 true l.length (List.flatMap AV.cells (l.map TLmLamp.av)) = l.map TLmLamp.av:=by
 have:=chunkM (f:=TLmLamp.av) (g:=TLmLamp.cs) (k:=14) (fun _ => rfl) (fun _ => rfl) (fun _ => rfl) l
 rw [List.length_map,List.drop_zero] at this; exact this
def G54 (s:List TLmLamp) (_S:SpecF) (_Fr:FreshF) (_Sq:SeqF) (Q:List AV → Prop):Prop :=
 ∀ (b0:Bool),(List.map TLmLamp.av s ≠ [] → b0 = !true) → (b0 = true → Q []) ∧ (b0 = false → elemsOf (14:Nat) (List.map TLmLamp.av s) ∧ ((([]:List AV) = [] ∨ (0:Nat) < (List.map TLmLamp.av s).length) ∧ ((0:Nat) + (List.map TLmLamp.av s).length + (512:Nat)) * 601 ≤ (1125899906842624:Nat) ∧ elemsOf (14:Nat) [] ∧ ones (List.flatMap AV.cells (List.map TLmLamp.av s)) = true ∧ ones [] = true) ∧ (([] ++ List.flatMap AV.cells (List.map TLmLamp.av s)).length = ((0:Nat) + (List.map TLmLamp.av s).length) * 14 ∧ (isAggT Tryz.prog (64:Nat) = false → (14:Nat) = (1:Nat) ∧ ones ([] ++ List.flatMap AV.cells (List.map TLmLamp.av s)) = true)) ∧ Q (chunks (14:Nat) (isAggT Tryz.prog (64:Nat)) ((0:Nat) + (List.map TLmLamp.av s).length) ([] ++ List.flatMap AV.cells (List.map TLmLamp.av s))))
theorem g54 (s:List TLmLamp) (S:SpecF) (Fr:FreshF) (Sq:SeqF) (Q:List AV → Prop):awpG Tryz.prog (mkS Tryz.prog S Fr Sq ⟨[],[],[],[],[]⟩ 0) ⟨[0,2,4],[],[],[]⟩ Tryz.f54 [.slc 3 (List.map TLmLamp.av s)] 14 Q = G54 s S Fr Sq Q:=by kernel_rfl
theorem fr54 (s:List TLmLamp) (es:List AV) (h:G54 s (SpecOf Tryz.prog) (FreshOf Tryz.prog) (SeqOf Tryz.prog) (fun r => r = es)):FreshOf Tryz.prog 54 [.slc 3 (List.map TLmLamp.av s)] 14 es :=
 fresh_by mixed (by exact trivial) Tryz.func54 Tryz.call54 (Nat.le_of_ble_eq_true rfl) (g54 s (SpecOf Tryz.prog) (FreshOf Tryz.prog) (SeqOf Tryz.prog) _) h
theorem cfLmLamp (l:List TLmLamp) (hl:l.length ≤ 1000000):FreshOf Tryz.prog 54 [.slc 3 (l.map TLmLamp.av)] 14 (l.map TLmLamp.av):=fr54 l _ (by
 unfold G54
 intro b hb
 have hF:=fmLmLamp l
 refine ⟨fun h => ?_,fun h => ⟨hF.1,⟨.inl rfl,by rw [List.length_map]; omega,fun v hv => (by cases hv),hF.2.2.1,rfl⟩,⟨?_,fun h => ?_⟩,?_⟩⟩
 ·rcases Classical.em (l = []) with rfl | hne
  ·rfl
  ·exact absurd (hb (by simpa using hne)) (by simp [h])
 ·rw [List.nil_append,Nat.zero_add,List.length_map]; exact hF.2.1
 ·rw [ag64] at h; cases h
 ·rw [List.nil_append,Nat.zero_add,List.length_map,ag64]; exact chLmLamp l)
theorem ag50:isAggT Tryz.prog 50 = true:=by kernel_rfl
theorem fmMtProfile (l:List TMtProfile):elemsOf 2 (l.map TMtProfile.av) ∧ ((l.map TMtProfile.av).flatMap AV.cells).length = l.length * 2 ∧ ones ((l.map TMtProfile.av).flatMap AV.cells) = true ∧ chunkA 2 l.length ((l.map TMtProfile.av).flatMap AV.cells) = l.map TMtProfile.av:=flat_map (f:=TMtProfile.av) (g:=TMtProfile.cs) (k:=2) (fun _ => rfl) (fun _ => rfl) (fun _ => rfl) l
theorem chMtProfile (l:List TMtProfile):chunks 2 true l.length (List.flatMap AV.cells (l.map TMtProfile.av)) = l.map TMtProfile.av:=by
 have:=chunkM (f:=TMtProfile.av) (g:=TMtProfile.cs) (k:=2) (fun _ => rfl) (fun _ => rfl) (fun _ => rfl) l
 rw [List.length_map,List.drop_zero] at this; exact this
def G57 (s:List TMtProfile) (_S:SpecF) (_Fr:FreshF) (_Sq:SeqF) (Q:List AV → Prop):Prop :=
 ∀ (b0:Bool),(List.map TMtProfile.av s ≠ [] → b0 = !true) → (b0 = true → Q []) ∧ (b0 = false → elemsOf (2:Nat) (List.map TMtProfile.av s) ∧ ((([]:List AV) = [] ∨ (0:Nat) < (List.map TMtProfile.av s).length) ∧ ((0:Nat) + (List.map TMtProfile.av s).length + (512:Nat)) * 201 ≤ (1125899906842624:Nat) ∧ elemsOf (2:Nat) [] ∧ ones (List.flatMap AV.cells (List.map TMtProfile.av s)) = true ∧ ones [] = true) ∧ (([] ++ List.flatMap AV.cells (List.map TMtProfile.av s)).length = ((0:Nat) + (List.map TMtProfile.av s).length) * 2 ∧ (isAggT Tryz.prog (50:Nat) = false → (2:Nat) = (1:Nat) ∧ ones ([] ++ List.flatMap AV.cells (List.map TMtProfile.av s)) = true)) ∧ Q (chunks (2:Nat) (isAggT Tryz.prog (50:Nat)) ((0:Nat) + (List.map TMtProfile.av s).length) ([] ++ List.flatMap AV.cells (List.map TMtProfile.av s))))
theorem g57 (s:List TMtProfile) (S:SpecF) (Fr:FreshF) (Sq:SeqF) (Q:List AV → Prop):awpG Tryz.prog (mkS Tryz.prog S Fr Sq ⟨[],[],[],[],[]⟩ 0) ⟨[0,2,4],[],[],[]⟩ Tryz.f57 [.slc 3 (List.map TMtProfile.av s)] 2 Q = G57 s S Fr Sq Q:=by kernel_rfl
theorem fr57 (s:List TMtProfile) (es:List AV) (h:G57 s (SpecOf Tryz.prog) (FreshOf Tryz.prog) (SeqOf Tryz.prog) (fun r => r = es)):FreshOf Tryz.prog 57 [.slc 3 (List.map TMtProfile.av s)] 2 es :=
 fresh_by mixed (by exact trivial) Tryz.func57 Tryz.call57 (Nat.le_of_ble_eq_true rfl) (g57 s (SpecOf Tryz.prog) (FreshOf Tryz.prog) (SeqOf Tryz.prog) _) h
theorem cfMtProfile (l:List TMtProfile) (hl:l.length ≤ 1000000):FreshOf Tryz.prog 57 [.slc 3 (l.map TMtProfile.av)] 2 (l.map TMtProfile.av):=fr57 l _ (by
 unfold G57
 intro b hb
 have hF:=fmMtProfile l
 refine ⟨fun h => ?_,fun h => ⟨hF.1,⟨.inl rfl,by rw [List.length_map]; omega,fun v hv => (by cases hv),hF.2.2.1,rfl⟩,⟨?_,fun h => ?_⟩,?_⟩⟩
 ·rcases Classical.em (l = []) with rfl | hne
  ·rfl
  ·exact absurd (hb (by simpa using hne)) (by simp [h])
 ·rw [List.nil_append,Nat.zero_add,List.length_map]; exact hF.2.1
 ·rw [ag50] at h; cases h
 ·rw [List.nil_append,Nat.zero_add,List.length_map,ag50]; exact chMtProfile l)
theorem ag106:isAggT Tryz.prog 106 = true:=by kernel_rfl
theorem fmMtMeter (l:List TMtMeter):elemsOf 5 (l.map TMtMeter.av) ∧ ((l.map TMtMeter.av).flatMap AV.cells).length = l.length * 5 ∧ ones ((l.map TMtMeter.av).flatMap AV.cells) = true ∧ chunkA 5 l.length ((l.map TMtMeter.av).flatMap AV.cells) = l.map TMtMeter.av:=flat_map (f:=TMtMeter.av) (g:=TMtMeter.cs) (k:=5) (fun _ => rfl) (fun _ => rfl) (fun _ => rfl) l
theorem chMtMeter (l:List TMtMeter):chunks 5 true l.length (List.flatMap AV.cells (l.map TMtMeter.av)) = l.map TMtMeter.av:=by
 have:=chunkM (f:=TMtMeter.av) (g:=TMtMeter.cs) (k:=5) (fun _ => rfl) (fun _ => rfl) (fun _ => rfl) l
 rw [List.length_map,List.drop_zero] at this; exact this
def G58 (s:List TMtMeter) (_S:SpecF) (_Fr:FreshF) (_Sq:SeqF) (Q:List AV → Prop):Prop :=
 ∀ (b0:Bool),(List.map TMtMeter.av s ≠ [] → b0 = !true) → (b0 = true → Q []) ∧ (b0 = false → elemsOf (5:Nat) (List.map TMtMeter.av s) ∧ ((([]:List AV) = [] ∨ (0:Nat) < (List.map TMtMeter.av s).length) ∧ ((0:Nat) + (List.map TMtMeter.av s).length + (512:Nat)) * 321 ≤ (1125899906842624:Nat) ∧ elemsOf (5:Nat) [] ∧ ones (List.flatMap AV.cells (List.map TMtMeter.av s)) = true ∧ ones [] = true) ∧ (([] ++ List.flatMap AV.cells (List.map TMtMeter.av s)).length = ((0:Nat) + (List.map TMtMeter.av s).length) * 5 ∧ (isAggT Tryz.prog (106:Nat) = false → (5:Nat) = (1:Nat) ∧ ones ([] ++ List.flatMap AV.cells (List.map TMtMeter.av s)) = true)) ∧ Q (chunks (5:Nat) (isAggT Tryz.prog (106:Nat)) ((0:Nat) + (List.map TMtMeter.av s).length) ([] ++ List.flatMap AV.cells (List.map TMtMeter.av s))))
theorem g58 (s:List TMtMeter) (S:SpecF) (Fr:FreshF) (Sq:SeqF) (Q:List AV → Prop):awpG Tryz.prog (mkS Tryz.prog S Fr Sq ⟨[],[],[],[],[]⟩ 0) ⟨[0,2,4],[],[],[]⟩ Tryz.f58 [.slc 3 (List.map TMtMeter.av s)] 5 Q = G58 s S Fr Sq Q:=by kernel_rfl
theorem fr58 (s:List TMtMeter) (es:List AV) (h:G58 s (SpecOf Tryz.prog) (FreshOf Tryz.prog) (SeqOf Tryz.prog) (fun r => r = es)):FreshOf Tryz.prog 58 [.slc 3 (List.map TMtMeter.av s)] 5 es :=
 fresh_by mixed (by exact trivial) Tryz.func58 Tryz.call58 (Nat.le_of_ble_eq_true rfl) (g58 s (SpecOf Tryz.prog) (FreshOf Tryz.prog) (SeqOf Tryz.prog) _) h
theorem cfMtMeter (l:List TMtMeter) (hl:l.length ≤ 1000000):FreshOf Tryz.prog 58 [.slc 3 (l.map TMtMeter.av)] 5 (l.map TMtMeter.av):=fr58 l _ (by
 unfold G58
 intro b hb
 have hF:=fmMtMeter l
 refine ⟨fun h => ?_,fun h => ⟨hF.1,⟨.inl rfl,by rw [List.length_map]; omega,fun v hv => (by cases hv),hF.2.2.1,rfl⟩,⟨?_,fun h => ?_⟩,?_⟩⟩
 ·rcases Classical.em (l = []) with rfl | hne
  ·rfl
  ·exact absurd (hb (by simpa using hne)) (by simp [h])
 ·rw [List.nil_append,Nat.zero_add,List.length_map]; exact hF.2.1
 ·rw [ag106] at h; cases h
 ·rw [List.nil_append,Nat.zero_add,List.length_map,ag106]; exact chMtMeter l)
def R59 (s:List TMtStep) (_S:SpecF) (_Fr:FreshF) (_Sq:SeqF) (Q:AV → List (List AV) → Prop):Prop :=
 ∀ (b0:Bool),(List.map TMtStep.av s ≠ [] → b0 = !true) → (b0 = true → Q (.slc 3 []) []) ∧ (b0 = false → elemsOf (2:Nat) (List.map TMtStep.av s) ∧ ((([]:List AV) = [] ∨ (0:Nat) < (List.map TMtStep.av s).length) ∧ ((0:Nat) + (List.map TMtStep.av s).length + (512:Nat)) * 81 ≤ (1125899906842624:Nat) ∧ elemsOf (2:Nat) [] ∧ ones (List.flatMap AV.cells (List.map TMtStep.av s)) = true ∧ ones [] = true) ∧ (0:Nat) + ((0:Nat) + (List.map TMtStep.av s).length) * 2 ≤ ([] ++ List.flatMap AV.cells (List.map TMtStep.av s)).length ∧ Q (.slc 3 (chunks (2:Nat) (isAggT Tryz.prog (52:Nat)) ((0:Nat) + (List.map TMtStep.av s).length) (List.drop (0:Nat) ([] ++ List.flatMap AV.cells (List.map TMtStep.av s))))) [])
theorem r59 (s:List TMtStep) (S:SpecF) (Fr:FreshF) (Sq:SeqF) (Q:AV → List (List AV) → Prop):awpF Tryz.prog (mkS Tryz.prog S Fr Sq ⟨[],[],[],[],[]⟩ 0) 0 ⟨[0,2,4],[],[],[]⟩ Tryz.f59 [.slc 3 (List.map TMtStep.av s)] [] Q = R59 s S Fr Sq Q:=by kernel_rfl
theorem s59 (s:List TMtStep) (v:AV) (O:List (List AV)) (h:R59 s (SpecOf Tryz.prog) (FreshOf Tryz.prog) (SeqOf Tryz.prog) (fun r O' => r = v ∧ O' = O)):SpecOf Tryz.prog 59 [.slc 3 (List.map TMtStep.av s)] [] v O :=
 spec_by (boxes:=[]) mixed (by exact trivial) Tryz.func59 Tryz.call59 rfl rfl rfl (Nat.le_of_ble_eq_true rfl) (r59 s (SpecOf Tryz.prog) (FreshOf Tryz.prog) (SeqOf Tryz.prog) _) h
theorem c59 (l:List TMtStep) (hl:l.length ≤ 1000000):Sp 59 [.slc 3 (l.map TMtStep.av)] [] (.slc 3 (l.map TMtStep.av)) []:=s59 l _ _ (by
 unfold R59
 intro b hb
 have hF:elemsOf 2 (l.map TMtStep.av) ∧ ((l.map TMtStep.av).flatMap AV.cells).length = l.length * 2 ∧ ones ((l.map TMtStep.av).flatMap AV.cells) = true ∧ chunkA 2 l.length ((l.map TMtStep.av).flatMap AV.cells) = l.map TMtStep.av:=flat_map (f:=TMtStep.av) (g:=TMtStep.cs) (k:=2) (fun _ => rfl) (fun _ => rfl) (fun _ => rfl) l
 have hc:=chunkM (f:=TMtStep.av) (g:=TMtStep.cs) (k:=2) (fun _ => rfl) (fun _ => rfl) (fun _ => rfl) l
 refine ⟨fun h => ?_,fun h => ⟨hF.1,⟨.inl rfl,by rw [List.length_map]; omega,fun v hv => (by cases hv),hF.2.2.1,rfl⟩,?_,?_,rfl⟩⟩
 ·rcases Classical.em (l = []) with rfl | hne
  ·exact ⟨rfl,rfl⟩
  ·exact absurd (hb (by simpa using hne)) (by simp [h])
 ·rw [List.nil_append,Nat.zero_add,Nat.zero_add,List.length_map,hF.2.1]; omega
 ·rw [List.nil_append,Nat.zero_add,show isAggT Tryz.prog 52 = true by kernel_rfl]; exact congrArg (AV.slc 3) hc)
def R60 (s:List TMtReading) (_S:SpecF) (_Fr:FreshF) (_Sq:SeqF) (Q:AV → List (List AV) → Prop):Prop :=
 ∀ (b0:Bool),(List.map TMtReading.av s ≠ [] → b0 = !true) → (b0 = true → Q (.slc 3 []) []) ∧ (b0 = false → elemsOf (2:Nat) (List.map TMtReading.av s) ∧ ((([]:List AV) = [] ∨ (0:Nat) < (List.map TMtReading.av s).length) ∧ ((0:Nat) + (List.map TMtReading.av s).length + (512:Nat)) * 81 ≤ (1125899906842624:Nat) ∧ elemsOf (2:Nat) [] ∧ ones (List.flatMap AV.cells (List.map TMtReading.av s)) = true ∧ ones [] = true) ∧ (0:Nat) + ((0:Nat) + (List.map TMtReading.av s).length) * 2 ≤ ([] ++ List.flatMap AV.cells (List.map TMtReading.av s)).length ∧ Q (.slc 3 (chunks (2:Nat) (isAggT Tryz.prog (108:Nat)) ((0:Nat) + (List.map TMtReading.av s).length) (List.drop (0:Nat) ([] ++ List.flatMap AV.cells (List.map TMtReading.av s))))) [])
theorem r60 (s:List TMtReading) (S:SpecF) (Fr:FreshF) (Sq:SeqF) (Q:AV → List (List AV) → Prop):awpF Tryz.prog (mkS Tryz.prog S Fr Sq ⟨[],[],[],[],[]⟩ 0) 0 ⟨[0,2,4],[],[],[]⟩ Tryz.f60 [.slc 3 (List.map TMtReading.av s)] [] Q = R60 s S Fr Sq Q:=by kernel_rfl
theorem s60 (s:List TMtReading) (v:AV) (O:List (List AV)) (h:R60 s (SpecOf Tryz.prog) (FreshOf Tryz.prog) (SeqOf Tryz.prog) (fun r O' => r = v ∧ O' = O)):SpecOf Tryz.prog 60 [.slc 3 (List.map TMtReading.av s)] [] v O :=
 spec_by (boxes:=[]) mixed (by exact trivial) Tryz.func60 Tryz.call60 rfl rfl rfl (Nat.le_of_ble_eq_true rfl) (r60 s (SpecOf Tryz.prog) (FreshOf Tryz.prog) (SeqOf Tryz.prog) _) h
theorem c60 (l:List TMtReading) (hl:l.length ≤ 1000000):Sp 60 [.slc 3 (l.map TMtReading.av)] [] (.slc 3 (l.map TMtReading.av)) []:=s60 l _ _ (by
 unfold R60
 intro b hb
 have hF:elemsOf 2 (l.map TMtReading.av) ∧ ((l.map TMtReading.av).flatMap AV.cells).length = l.length * 2 ∧ ones ((l.map TMtReading.av).flatMap AV.cells) = true ∧ chunkA 2 l.length ((l.map TMtReading.av).flatMap AV.cells) = l.map TMtReading.av:=flat_map (f:=TMtReading.av) (g:=TMtReading.cs) (k:=2) (fun _ => rfl) (fun _ => rfl) (fun _ => rfl) l
 have hc:=chunkM (f:=TMtReading.av) (g:=TMtReading.cs) (k:=2) (fun _ => rfl) (fun _ => rfl) (fun _ => rfl) l
 refine ⟨fun h => ?_,fun h => ⟨hF.1,⟨.inl rfl,by rw [List.length_map]; omega,fun v hv => (by cases hv),hF.2.2.1,rfl⟩,?_,?_,rfl⟩⟩
 ·rcases Classical.em (l = []) with rfl | hne
  ·exact ⟨rfl,rfl⟩
  ·exact absurd (hb (by simpa using hne)) (by simp [h])
 ·rw [List.nil_append,Nat.zero_add,Nat.zero_add,List.length_map,hF.2.1]; omega
 ·rw [List.nil_append,Nat.zero_add,show isAggT Tryz.prog 108 = true by kernel_rfl]; exact congrArg (AV.slc 3) hc)
theorem flat_at {α:Type} {f:α → AV} {g:α → List AV} {k:Nat} (hf:∀ x,f x = .agg (g x)) (hk:∀ x,(g x).length = k):∀ {l:List α} {i j:Nat} {x:α},l[i]? = some x → j < k → ((l.map f).flatMap AV.cells)[i * k + j]? = (g x)[j]?
 | [],i,j,x,hi,_ => by simp at hi
 | y :: r,0,j,x,hi,hj => by
  simp only [List.getElem?_cons_zero,Option.some.injEq] at hi
  subst hi
  simp only [List.map_cons,List.flatMap_cons,hf,AV.cells,Nat.zero_mul,Nat.zero_add]
  rw [List.getElem?_append_left (by rw [hk]; exact hj)]
 | y :: r,i + 1,j,x,hi,hj => by
  simp only [List.getElem?_cons_succ] at hi
  simp only [List.map_cons,List.flatMap_cons]
  have e:(f y).cells.length = k:=by rw [hf]; exact hk y
  rw [List.getElem?_append_right (by rw [e,Nat.succ_mul]; omega),e,show (i + 1) * k + j - k = i * k + j by rw [Nat.succ_mul]; omega]
  exact flat_at hf hk hi hj
theorem norm_flat {α:Type} {f:α → AV} {g:α → List AV} (hf:∀ x,f x = .agg (g x)) (hn:∀ x,AV.normL (g x) = g x):∀ l:List α,AV.normL ((l.map f).flatMap AV.cells) = (l.map f).flatMap AV.cells
 | [] => rfl
 | x :: r => by
  rw [List.map_cons,List.flatMap_cons,normL_append,norm_flat hf hn r,hf]
  show AV.normL (g x) ++ _ = _
  rw [hn]; rfl
theorem set_same {α:Type} {l:List α} {i:Nat} {x:α} (h:l[i]? = some x):l.set i x = l:=by
 obtain ⟨hl,rfl⟩:=List.getElem?_eq_some_iff.1 h
 exact List.set_getElem_self hl
def newItem (x:TMtItem) (day lamp:Int) (name:ByteArray):TMtItem:=⟨name,lamp,x.Count,x.Profile,x.Meter,x.Declared,day,x.Until⟩
def oldItem (x:TMtItem) (day:Int):TMtItem:=⟨x.Name,x.Lamp,x.Count,x.Profile,x.Meter,x.Declared,x.From,day⟩
def changeT (t:TMtTask) (item day lamp:Int) (name:ByteArray):TMtTask:=⟨t.City,t.Catalog,t.Profiles,(t.Items ++ [newItem (itemAt t item) day lamp name]).set item.toNat (oldItem (itemAt t item) day),t.Meters⟩
def changeR (t:TMtTask) (item day lamp:Int) (name:ByteArray):TMtTask × Int :=
 if accE t item 0 t.Items.length ≠ 0 then (TMtTask.zero,accE t item 0 t.Items.length) else if outB day (itemAt t item).From (itemAt t item).Until then (TMtTask.zero,7) else
 if (taskR (changeT t item day lamp name)).2.2 ≠ 0 then (TMtTask.zero,(taskR (changeT t item day lamp name)).2.2) else (changeT t item day lamp name,0)
theorem changeT_ok {t:TMtTask} (ht:TaskOK t) {item day lamp:Int} (h0:0 ≤ item) (h1:item < t.Items.length) {name:ByteArray} (hn:name.size ≤ 9223372036854775807):TaskOK (changeT t item day lamp name):=by
 obtain ⟨_,hm,_⟩:=item_get h0 h1
 refine ⟨ht.cat,ht.prn,ht.men,fun z hz => ?_,ht.stl⟩
 rcases List.mem_or_eq_of_mem_set hz with hz | rfl
 ·rcases List.mem_append.1 hz with hz | hz
  ·exact ht.itn z hz
  ·rw [List.mem_singleton.1 hz]; exact hn
 ·exact ht.itn (itemAt t item) hm
theorem tables_few {c:TLmCatalog} (h:(catR c).2.2 = 0) {x:TLmTable} (hx:x ∈ c.Tables):x.Us.length ≤ 12 ∧ x.Vs.length ≤ 12 ∧ x.Values.length ≤ 12 ∧ ∀ r ∈ x.Values,r.length ≤ 12:=by
 have h0:(firstR TLmTable.Name tableS c.Tables).2 = 0:=by
  unfold catR at h
  split at h
  ·simp at h
  split at h
  ·simp at h
  split at h
  ·rename_i h3; exact absurd h h3
  ·rename_i h3; exact Decidable.byContradiction h3
 obtain ⟨i,hi⟩:=List.mem_iff_getElem?.1 hx
 have hl:=(List.getElem?_eq_some_iff.1 hi).1
 have h1:=firstE_ok h0 i (by omega) (by omega)
 rw [errAt_some hi] at h1
 split at h1
 ·simp at h1
 split at h1
 ·simp at h1
 unfold tableS at h1
 repeat' split at h1
 all_goals first | (simp at h1; done) | skip
 rename_i a1 a2 _ _ _ _ a7 a8 _ _
 have b1:inB x.Us.length 2 12 = true:=by simpa using a1
 have b2:inB x.Vs.length 2 12 = true:=by simpa using a2
 rw [inB_iff] at b1 b2
 have b7:x.Values.length = x.Us.length:=by simpa using a7
 refine ⟨by omega,by omega,by omega,fun r hr => ?_⟩
 have b8:∀ r ∈ x.Values,r.length = x.Vs.length:=by simpa using a8
 rw [b8 r hr]; omega
theorem tabOK {c:TLmCatalog} (h:(catR c).2.2 = 0) {x:TLmTable} (hx:x ∈ c.Tables):TabOK x:=by
 obtain ⟨h1,h2,h3,h4⟩:=tables_few h hx
 exact ⟨cloneI _ (by omega),cloneI _ (by omega),cloneR _ (by omega),fun r hr => cloneI _ (by have:=h4 r hr; omega),by omega⟩
theorem part48 (cs:List AV) (off:Nat):partA Tryz.prog 48 cs off = cs[off]?:=by
 have:Tryz.prog.underlying 48 = some (.slice 52):=by kernel_rfl
 simp only [partA,this]
theorem part104 (cs:List AV) (off:Nat):∃ e,Tryz.prog.underlying 104 = some (.slice e) ∧ partA Tryz.prog 104 cs off = cs[off]?:=by
 refine ⟨_,Tryz.underlying104,?_⟩
 simp only [partA,Tryz.underlying104]
def R23 (t:TMtTask) (item:Int) (day:Int) (lamp:Int) (name:ByteArray) (S:SpecF) (Fr:FreshF) (_Sq:SeqF) (Q:AV → List (List AV) → Prop):Prop :=
 ∃ n0 n1 n2,S 52 [t.av] [] (.tup [AV.int .i64 n0,.int .i64 n1,.int .i64 n2]) [] ∧ ∃ (J4:List AV → Prop),(((n2 == 0) = true → ∃ b8,S 38 [AV.int .i64 item,.int .i64 0,.int .i64 (IntKind.i64.wrap ((↑(List.map TMtItem.av t.Items).length:Int) - (1:Int)))] [] (.bool b8) [] ∧ (b8 = true → t.cs = t.cs ∧ TMtTask.z0 = TMtTask.z0 ∧ t.cs = t.cs ∧ t.cs = t.cs ∧ Same [AV.iface 1000000 (.slc 3 [])] ∧ Same [AV.int .i64 t.City.Lat,.int .i64 t.City.Lon,.int .i64 t.City.Zone,.int .i64 t.City.Altitude.Lo,.int .i64 t.City.Altitude.Hi,.slc 3 (List.map TLmTable.av t.Catalog.Tables),.slc 3 (List.map TLmLamp.av t.Catalog.Lamps),.slc 3 (List.map TMtProfile.av t.Profiles),.slc 3 (List.map TMtItem.av t.Items),.slc 3 (List.map TMtMeter.av t.Meters),.map ((258:Nat) + (14:Nat))] ∧ J4 [AV.int .i64 4]) ∧ (b8 = false → t.cs = t.cs ∧ TMtTask.z0 = TMtTask.z0 ∧ t.cs = t.cs ∧ t.cs = t.cs ∧ Same [AV.iface 1000000 (.slc 3 [])] ∧ Same [AV.int .i64 t.City.Lat,.int .i64 t.City.Lon,.int .i64 t.City.Zone,.int .i64 t.City.Altitude.Lo,.int .i64 t.City.Altitude.Hi,.slc 3 (List.map TLmTable.av t.Catalog.Tables),.slc 3 (List.map TLmLamp.av t.Catalog.Lamps),.slc 3 (List.map TMtProfile.av t.Profiles),.slc 3 (List.map TMtItem.av t.Items),.slc 3 (List.map TMtMeter.av t.Meters),.map ((258:Nat) + (14:Nat))] ∧ J4 [AV.int .i64 n2])) ∧ ((n2 == 0) = false → t.cs = t.cs ∧ TMtTask.z0 = TMtTask.z0 ∧ t.cs = t.cs ∧ t.cs = t.cs ∧ Same [AV.iface 1000000 (.slc 3 [])] ∧ Same [AV.int .i64 t.City.Lat,.int .i64 t.City.Lon,.int .i64 t.City.Zone,.int .i64 t.City.Altitude.Lo,.int .i64 t.City.Altitude.Hi,.slc 3 (List.map TLmTable.av t.Catalog.Tables),.slc 3 (List.map TLmLamp.av t.Catalog.Lamps),.slc 3 (List.map TMtProfile.av t.Profiles),.slc 3 (List.map TMtItem.av t.Items),.slc 3 (List.map TMtMeter.av t.Meters),.map ((258:Nat) + (14:Nat))] ∧ J4 [AV.int .i64 n2])) ∧ ∀ (n6:Int),J4 [AV.int .i64 n6] → ((n6 != 0) = true → Q (.tup [TMtTask.zero.av,.int .i64 n6]) []) ∧ ((n6 != 0) = false → ∃ s10 n11 n12 n13 n14 n15 n16 n17,((0:Int) ≤ item ∧ (8:Nat) = (8:Nat) ∧ (List.map TMtItem.av t.Items)[item.toNat]? = some (.agg [AV.str s10,.int .i64 n11,.int .i64 n12,.int .i64 n13,.int .i64 n14,.int .i64 n15,.int .i64 n16,.int .i64 n17])) ∧ ∃ s19 n20 n21 n22 n23 n24 n25 n26,((0:Int) ≤ item ∧ (8:Nat) = (8:Nat) ∧ (List.map TMtItem.av t.Items)[item.toNat]? = some (.agg [AV.str s19,.int .i64 n20,.int .i64 n21,.int .i64 n22,.int .i64 n23,.int .i64 n24,.int .i64 n25,.int .i64 n26])) ∧ ∃ b28,S 38 [AV.int .i64 day,.int .i64 n16,.int .i64 n26] [] (.bool b28) [] ∧ (b28 = true → Q (.tup [TMtTask.zero.av,.int .i64 7]) []) ∧ (b28 = false → ∃ s32 n33 n34 n35 n36 n37 n38 n39,((0:Int) ≤ item ∧ (8:Nat) = (8:Nat) ∧ (List.map TMtItem.av t.Items)[item.toNat]? = some (.agg [AV.str s32,.int .i64 n33,.int .i64 n34,.int .i64 n35,.int .i64 n36,.int .i64 n37,.int .i64 n38,.int .i64 n39])) ∧ ∃ es41,Fr (39:Nat) [AV.slc 3 (List.map TMtItem.av t.Items)] (8:Nat) es41 ∧ elemsOf (8:Nat) [AV.agg [AV.str name,.int .i64 lamp,.int .i64 n34,.int .i64 n35,.int .i64 n36,.int .i64 n37,.int .i64 day,.int .i64 n39]] ∧ ((List.flatMap AV.cells es41).length = es41.length * 8 ∧ (es41.length + 1 + (512:Nat)) * 361 ≤ (1125899906842624:Nat) ∧ ones [AV.str name,.int .i64 lamp,.int .i64 n34,.int .i64 n35,.int .i64 n36,.int .i64 n37,.int .i64 day,.int .i64 n39] = true ∧ ones (List.flatMap AV.cells es41) = true) ∧ ((0:Int) ≤ item ∧ item < (↑(es41.length + 1):Int) ∧ (8:Nat) = (8:Nat)) ∧ (0:Nat) + item.toNat * 8 + (7:Nat) + (1:Nat) ≤ (List.flatMap AV.cells es41 ++ [AV.str name,.int .i64 lamp,.int .i64 n34,.int .i64 n35,.int .i64 n36,.int .i64 n37,.int .i64 day,.int .i64 n39]).length ∧ (0:Nat) + (es41.length + 1) * 8 ≤ (setCells (List.flatMap AV.cells es41 ++ [AV.str name,.int .i64 lamp,.int .i64 n34,.int .i64 n35,.int .i64 n36,.int .i64 n37,.int .i64 day,.int .i64 n39]) ((0:Nat) + item.toNat * 8 + (7:Nat)) [AV.int .i64 day]).length ∧ ∃ es48,(es48.length = es41.length + 1 ∧ List.flatMap AV.cells es48 = List.drop (0:Nat) (setCells (List.flatMap AV.cells es41 ++ [AV.str name,.int .i64 lamp,.int .i64 n34,.int .i64 n35,.int .i64 n36,.int .i64 n37,.int .i64 day,.int .i64 n39]) ((0:Nat) + item.toNat * 8 + (7:Nat)) [AV.int .i64 day]) ∧ elemsA (8:Nat) (isAggT Tryz.prog (44:Nat)) es48) ∧ ∃ n50 n51 n52,S 52 [AV.agg [AV.int .i64 t.City.Lat,.int .i64 t.City.Lon,.int .i64 t.City.Zone,.int .i64 t.City.Altitude.Lo,.int .i64 t.City.Altitude.Hi,.slc 3 (List.map TLmTable.av t.Catalog.Tables),.slc 3 (List.map TLmLamp.av t.Catalog.Lamps),.slc 3 (List.map TMtProfile.av t.Profiles),.slc 3 es48,.slc 3 (List.map TMtMeter.av t.Meters)]] [] (.tup [AV.int .i64 n50,.int .i64 n51,.int .i64 n52]) [] ∧ ((n52 != 0) = true → Q (.tup [TMtTask.zero.av,.int .i64 n52]) []) ∧ ((n52 != 0) = false → ∃ es56,Fr (53:Nat) [AV.slc 3 (List.map TLmTable.av t.Catalog.Tables)] (6:Nat) es56 ∧ ∃ es58,Fr (54:Nat) [AV.slc 3 (List.map TLmLamp.av t.Catalog.Lamps)] (14:Nat) es58 ∧ ∃ L60,(List.flatMap AV.cells es56 = List.flatMap TLmTable.cs L60 ∧ es56.length = L60.length ∧ L60.length ≤ 100000 ∧ ∀ (x65:TLmTable),x65 ∈ L60 → TabOK x65) ∧ ∃ es62,Fr (57:Nat) [AV.slc 3 (List.map TMtProfile.av t.Profiles)] (2:Nat) es62 ∧ ∃ es64,Fr (58:Nat) [AV.slc 3 (List.map TMtMeter.av t.Meters)] (5:Nat) es64 ∧ ∃ (I66:Nat → List AV → Prop),(∃ m68,I66 m68 [AV.int .i64 0,.agg (AV.normL (List.flatMap AV.cells es62))]) ∧ ∀ (m68:Nat) (n69:Int) (cs70:List AV),I66 m68 [AV.int .i64 n69,.agg cs70] → (decide (n69 < (↑es62.length:Int)) = true → ((0:Int) ≤ n69 ∧ n69 < (↑es62.length:Int) ∧ (2:Nat) = (2:Nat)) ∧ ∃ es75,Option.map AV.norm (partA Tryz.prog (48:Nat) (AV.agg cs70).cells ((0:Nat) + n69.toNat * 2 + (1:Nat))) = some (.slc 3 es75) ∧ ∃ es77,S 59 [AV.slc 3 es75] [] (.slc 3 es77) [] ∧ ((0:Int) ≤ n69 ∧ n69 < (↑es62.length:Int) ∧ (2:Nat) = (2:Nat)) ∧ (0:Nat) + n69.toNat * 2 + (1:Nat) + (1:Nat) ≤ (AV.agg cs70).cells.length ∧ Same [AV.int .i64 t.City.Lat,.int .i64 t.City.Lon,.int .i64 t.City.Zone,.int .i64 t.City.Altitude.Lo,.int .i64 t.City.Altitude.Hi,.aslc (95:Nat) (0:Nat) es56.length (6:Nat) (isAggT Tryz.prog (135:Nat)),.aslc (100:Nat) (0:Nat) es58.length (14:Nat) (isAggT Tryz.prog (64:Nat)),.aslc (169:Nat) (0:Nat) es62.length (2:Nat) (isAggT Tryz.prog (50:Nat)),.slc 3 es48,.aslc (172:Nat) (0:Nat) es64.length (5:Nat) (isAggT Tryz.prog (106:Nat))] ∧ TMtTask.z0 = TMtTask.z0 ∧ Same [AV.str name,.int .i64 lamp,.int .i64 n34,.int .i64 n35,.int .i64 n36,.int .i64 n37,.int .i64 day,.int .i64 n39] ∧ List.flatMap AV.cells es56 = List.flatMap AV.cells es56 ∧ List.flatMap AV.cells es58 = List.flatMap AV.cells es58 ∧ List.flatMap AV.cells es64 = List.flatMap AV.cells es64 ∧ t.cs = t.cs ∧ t.cs = t.cs ∧ Same [AV.iface 1000000 (.slc 3 [])] ∧ Same [AV.int .i64 t.City.Lat,.int .i64 t.City.Lon,.int .i64 t.City.Zone,.int .i64 t.City.Altitude.Lo,.int .i64 t.City.Altitude.Hi,.slc 3 (List.map TLmTable.av t.Catalog.Tables),.slc 3 (List.map TLmLamp.av t.Catalog.Lamps),.slc 3 (List.map TMtProfile.av t.Profiles),.slc 3 (List.map TMtItem.av t.Items),.slc 3 (List.map TMtMeter.av t.Meters),.map ((258:Nat) + (14:Nat))] ∧ ∃ k91,k91 < m68 ∧ I66 k91 [AV.int .i64 (IntKind.i64.wrap (n69 + 1)),.agg (AV.normL (setCells (AV.agg cs70).cells ((0:Nat) + n69.toNat * 2 + (1:Nat)) [AV.slc 3 es77]))]) ∧ (decide (n69 < (↑es62.length:Int)) = false → ∃ (I74:Nat → List AV → Prop),(∃ m76,I74 m76 [AV.int .i64 0,.agg (AV.normL (List.flatMap AV.cells es64))]) ∧ ∀ (m76:Nat) (n77:Int) (cs78:List AV),I74 m76 [AV.int .i64 n77,.agg cs78] → (decide (n77 < (↑es64.length:Int)) = true → ((0:Int) ≤ n77 ∧ n77 < (↑es64.length:Int) ∧ (5:Nat) = (5:Nat)) ∧ ∃ es83,Option.map AV.norm (partA Tryz.prog (104:Nat) (AV.agg cs78).cells ((0:Nat) + n77.toNat * 5 + (4:Nat))) = some (.slc 3 es83) ∧ ∃ es85,S 60 [AV.slc 3 es83] [] (.slc 3 es85) [] ∧ ((0:Int) ≤ n77 ∧ n77 < (↑es64.length:Int) ∧ (5:Nat) = (5:Nat)) ∧ (0:Nat) + n77.toNat * 5 + (4:Nat) + (1:Nat) ≤ (AV.agg cs78).cells.length ∧ Same [AV.int .i64 t.City.Lat,.int .i64 t.City.Lon,.int .i64 t.City.Zone,.int .i64 t.City.Altitude.Lo,.int .i64 t.City.Altitude.Hi,.aslc (95:Nat) (0:Nat) es56.length (6:Nat) (isAggT Tryz.prog (135:Nat)),.aslc (100:Nat) (0:Nat) es58.length (14:Nat) (isAggT Tryz.prog (64:Nat)),.aslc (169:Nat) (0:Nat) es62.length (2:Nat) (isAggT Tryz.prog (50:Nat)),.slc 3 es48,.aslc (172:Nat) (0:Nat) es64.length (5:Nat) (isAggT Tryz.prog (106:Nat))] ∧ TMtTask.z0 = TMtTask.z0 ∧ Same [AV.str name,.int .i64 lamp,.int .i64 n34,.int .i64 n35,.int .i64 n36,.int .i64 n37,.int .i64 day,.int .i64 n39] ∧ List.flatMap AV.cells es56 = List.flatMap AV.cells es56 ∧ List.flatMap AV.cells es58 = List.flatMap AV.cells es58 ∧ (AV.agg cs70).cells = (AV.agg cs70).cells ∧ t.cs = t.cs ∧ t.cs = t.cs ∧ Same [AV.iface 1000000 (.slc 3 [])] ∧ Same [AV.int .i64 t.City.Lat,.int .i64 t.City.Lon,.int .i64 t.City.Zone,.int .i64 t.City.Altitude.Lo,.int .i64 t.City.Altitude.Hi,.slc 3 (List.map TLmTable.av t.Catalog.Tables),.slc 3 (List.map TLmLamp.av t.Catalog.Lamps),.slc 3 (List.map TMtProfile.av t.Profiles),.slc 3 (List.map TMtItem.av t.Items),.slc 3 (List.map TMtMeter.av t.Meters),.map ((258:Nat) + (14:Nat))] ∧ ∃ k99,k99 < m76 ∧ I74 k99 [AV.int .i64 (IntKind.i64.wrap (n77 + 1)),.agg (AV.normL (setCells (AV.agg cs78).cells ((0:Nat) + n77.toNat * 5 + (4:Nat)) [AV.slc 3 es85]))]) ∧ (decide (n77 < (↑es64.length:Int)) = false → (0:Nat) + es56.length * 6 ≤ (List.flatMap AV.cells es56).length ∧ (0:Nat) + es58.length * 14 ≤ (List.flatMap AV.cells es58).length ∧ (0:Nat) + es62.length * 2 ≤ (AV.agg cs70).cells.length ∧ (0:Nat) + es64.length * 5 ≤ (AV.agg cs78).cells.length ∧ Q (.tup [AV.agg [AV.int .i64 t.City.Lat,.int .i64 t.City.Lon,.int .i64 t.City.Zone,.int .i64 t.City.Altitude.Lo,.int .i64 t.City.Altitude.Hi,.slc 3 (chunks (6:Nat) (isAggT Tryz.prog (135:Nat)) es56.length (List.drop (0:Nat) (List.flatMap AV.cells es56))),.slc 3 (chunks (14:Nat) (isAggT Tryz.prog (64:Nat)) es58.length (List.drop (0:Nat) (List.flatMap AV.cells es58))),.slc 3 (chunks (2:Nat) (isAggT Tryz.prog (50:Nat)) es62.length (List.drop (0:Nat) (AV.agg cs70).cells)),.slc 3 es48,.slc 3 (chunks (5:Nat) (isAggT Tryz.prog (106:Nat)) es64.length (List.drop (0:Nat) (AV.agg cs78).cells))],.int .i64 0]) [])))))
theorem r23 (t:TMtTask) (item:Int) (day:Int) (lamp:Int) (name:ByteArray) (S:SpecF) (Fr:FreshF) (Sq:SeqF) (Q:AV → List (List AV) → Prop):awpFH Tryz.prog (mkS Tryz.prog S Fr Sq ⟨[39,53,54,57,58],[],[],[(25,⟨[0,1,2,3,4,8,9,10,11,25],[],[⟨4,[(11,.int .i64 0)],[],[],[],[]⟩],[]⟩),(62,⟨[0,1,2,3,6],[],[],[]⟩)],[]⟩ 4) ⟨[0,1,2,3,4,5,10,11,13,14,17,18,19,20,21,22,23,33,38,85,109,110,111,147,148,149,177,178,179,196,197,198],[⟨16,[(110,.int .i64 0)],[],[],[],[]⟩,⟨21,[(148,.int .i64 0)],[],[],[],[]⟩,⟨28,[(178,.int .i64 0)],[],[(169,.tup [])],[],[]⟩,⟨33,[(197,.int .i64 0)],[],[(172,.tup [])],[],[]⟩],[],[(10,2008000005)]⟩ Tryz.f23 [t.av,.int .i64 item,.int .i64 day,.int .i64 lamp,.str name] 15 Q = R23 t item day lamp name S Fr Sq Q:=by kernel_rfl
theorem s23 (t:TMtTask) (item:Int) (day:Int) (lamp:Int) (name:ByteArray) (v:AV) (O:List (List AV)) (h:R23 t item day lamp name (SpecOf Tryz.prog) (FreshOf Tryz.prog) (SeqOf Tryz.prog) (fun r O' => r = v ∧ O' = O)):SpecOf Tryz.prog 23 [t.av,.int .i64 item,.int .i64 day,.int .i64 lamp,.str name] [] v O :=
 cut_by mixed (by exact ⟨Tryz.call25,⟨Tryz.call62,trivial⟩⟩) Tryz.func23 Tryz.call23 hk15 (r23 t item day lamp name (SpecOf Tryz.prog) (FreshOf Tryz.prog) (SeqOf Tryz.prog) _) h
theorem c23 (t:TMtTask) (ht:TaskOK t) (hn:t.Items.length ≤ 2 ^ 62) (item day lamp:Int) (name:ByteArray) (hname:name.size ≤ 9223372036854775807):Sp 23 [t.av,.int .i64 item,.int .i64 day,.int .i64 lamp,.str name] [] (.tup [(changeR t item day lamp name).1.av,.int .i64 (changeR t item day lamp name).2]) []:=s23 t item day lamp name _ _ (by
 unfold R23
 simp only [List.length_map]
 refine ⟨_,_,_,c52 t ht,fun vs => vs = [.int .i64 (accE t item 0 t.Items.length)],⟨fun h => ⟨_,c38 ..,fun h2 => ⟨(by trivial),(by trivial),(by trivial),(by trivial),(by trivial),(by trivial),?_⟩,fun h2 => ⟨(by trivial),(by trivial),(by trivial),(by trivial),(by trivial),(by trivial),?_⟩⟩,fun h => ⟨(by trivial),(by trivial),(by trivial),(by trivial),(by trivial),(by trivial),?_⟩⟩,?_⟩
 ·unfold accE; rw [withE_out h h2]
 ·unfold accE; rw [withE_in h2]
 ·unfold accE; rw [withE_bad h]
 intro n6 hv
 cases hv
 unfold changeR
 refine ⟨fun h => ⟨?_,(by trivial)⟩,fun h => ?_⟩
 ·rw [if_pos (by simpa using h)]
 have h:accE t item 0 t.Items.length = 0:=by simpa using h
 obtain ⟨hv,h0,h1⟩:=accE_zero hn h
 obtain ⟨hg,hm,hx⟩:=item_get h0 h1
 rw [if_neg (by simp [h])]
 have hK:=c52 (changeT t item day lamp name) (changeT_ok ht h0 h1 hname)
 unfold changeT at hK ⊢
 generalize itemAt t item = x at *
 refine ⟨x.Name,x.Lamp,x.Count,x.Profile,x.Meter,x.Declared,x.From,x.Until,⟨h0,(by trivial),hx⟩,x.Name,x.Lamp,x.Count,x.Profile,x.Meter,x.Declared,x.From,x.Until,⟨h0,(by trivial),hx⟩,_,c38 day x.From x.Until,fun h2 => ⟨?_,(by trivial)⟩,fun h2 => ?_⟩
 ·rw [if_pos h2]
 rw [if_neg (by simp [h2])]
 have hni:=hv.ni
 have hF:=itemS t.Items
 have hF2:=itemS (t.Items ++ [newItem x day lamp name])
 have hset:=setCells_at (f:=TMtItem.av) (g:=TMtItem.cs) (k:=8) (fun _ => rfl) (fun _ => rfl) (l:=t.Items ++ [newItem x day lamp name]) (i:=item.toNat) (j:=7) (x:=x) (x':=oldItem x day) (v:=.int .i64 day) (by rw [List.getElem?_append_left (by omega)]; exact hg) (by decide) rfl
 have hfl:List.flatMap AV.cells (t.Items.map TMtItem.av) ++ (newItem x day lamp name).cs = ((t.Items ++ [newItem x day lamp name]).map TMtItem.av).flatMap AV.cells:=(nextM (f:=TMtItem.av) (g:=TMtItem.cs) (fun _ => rfl) t.Items (newItem x day lamp name)).2.symm
 have hcs:(newItem x day lamp name).cs = [.str name,.int .i64 lamp,.int .i64 x.Count,.int .i64 x.Profile,.int .i64 x.Meter,.int .i64 x.Declared,.int .i64 day,.int .i64 x.Until]:=rfl
 refine ⟨x.Name,x.Lamp,x.Count,x.Profile,x.Meter,x.Declared,x.From,x.Until,⟨h0,(by trivial),hx⟩,_,c39 t.Items (by omega),?_⟩
 rw [← hcs]
 refine ⟨?_,⟨?_,?_,rfl,?_⟩,⟨h0,?_,(by trivial)⟩,?_,?_,((t.Items ++ [newItem x day lamp name]).set item.toNat (oldItem x day)).map TMtItem.av,⟨?_,?_,?_⟩,_,_,_,hK,fun h3 => ⟨?_,(by trivial)⟩,fun h3 => ?_⟩
 ·exact (itemS [newItem x day lamp name]).1
 ·rw [List.length_map]; exact hF.2.1
 ·rw [List.length_map]; omega
 ·exact hF.2.2.1
 ·rw [List.length_map]; omega
 ·rw [hfl,hF2.2.1,List.length_append,List.length_singleton]; omega
 ·rw [hfl,Nat.zero_add,Nat.zero_add,hset,(itemS _).2.1,List.length_set,List.length_append,List.length_map,List.length_singleton]; omega
 ·rw [List.length_map,List.length_set,List.length_append,List.length_map]; rfl
 ·rw [hfl,Nat.zero_add,hset,List.drop_zero]
 ·rw [agg44]; exact elemsA_map (f:=TMtItem.av) (g:=TMtItem.cs) (fun _ => rfl) (fun _ => rfl) _
 ·rw [if_pos (by simpa using h3)]
 rw [if_neg (by simpa using h3)]
 have hnp:=hv.np
 have hnm:=hv.nm
 have hct:t.Catalog.Tables.length ≤ 10 ∧ t.Catalog.Lamps.length ≤ 20:=by
  have hc:=hv.cat
  unfold catR at hc
  split at hc
  ·simp at hc
  split at hc
  ·simp at hc
  ·omega
 have hT:=fmLmTable t.Catalog.Tables
 have hLm:=fmLmLamp t.Catalog.Lamps
 have hP:=fmMtProfile t.Profiles
 have hM:=fmMtMeter t.Meters
 have nP:AV.normL ((t.Profiles.map TMtProfile.av).flatMap AV.cells) = (t.Profiles.map TMtProfile.av).flatMap AV.cells:=norm_flat (f:=TMtProfile.av) (g:=TMtProfile.cs) (fun _ => rfl) (fun _ => rfl) _
 have nM:AV.normL ((t.Meters.map TMtMeter.av).flatMap AV.cells) = (t.Meters.map TMtMeter.av).flatMap AV.cells:=norm_flat (f:=TMtMeter.av) (g:=TMtMeter.cs) (fun _ => rfl) (fun _ => rfl) _
 refine ⟨_,cfLmTable t.Catalog.Tables (by omega),_,cfLmLamp t.Catalog.Lamps (by omega),t.Catalog.Tables,⟨?_,by rw [List.length_map],by omega,fun y hy => tabOK hv.cat hy⟩,_,cfMtProfile t.Profiles (by omega),_,cfMtMeter t.Meters (by omega),fun m vs => ∃ k:Nat,k ≤ t.Profiles.length ∧ m = t.Profiles.length - k ∧ vs = [.int .i64 k,.agg ((t.Profiles.map TMtProfile.av).flatMap AV.cells)],⟨_,0,by omega,rfl,?_⟩,?_⟩
 ·rw [List.flatMap_map]; rfl
 ·rw [nP]; rfl
 rintro m1 n1 cs1 ⟨k,hk,rfl,hvk⟩
 cases hvk
 rw [List.length_map]
 refine ⟨fun g => ?_,fun g => ?_⟩
 ·have hlt:k < t.Profiles.length:=by have:=of_decide_eq_true g; omega
  have hp:t.Profiles[k]? = some t.Profiles[k]:=List.getElem?_eq_getElem hlt
  have hpv:=hv.prof (List.mem_of_getElem? hp)
  generalize t.Profiles[k] = p at *
  have hat:=flat_at (f:=TMtProfile.av) (g:=TMtProfile.cs) (k:=2) (fun _ => rfl) (fun _ => rfl) (j:=1) hp (by decide)
  have hst:=setCells_at (f:=TMtProfile.av) (g:=TMtProfile.cs) (k:=2) (fun _ => rfl) (fun _ => rfl) (j:=1) (x':=p) (v:=.slc 3 (p.Steps.map TMtStep.av)) hp (by decide) rfl
  rw [set_same hp] at hst
  simp only [AV.cells,Int.toNat_natCast,Nat.zero_add]
  refine ⟨⟨by omega,by omega,(by trivial)⟩,p.Steps.map TMtStep.av,by rw [part48,hat]; rfl,_,c59 p.Steps (by omega),⟨by omega,by omega,(by trivial)⟩,by rw [hP.2.1]; omega,(by trivial),(by trivial),(by trivial),(by trivial),(by trivial),(by trivial),(by trivial),(by trivial),(by trivial),(by trivial),t.Profiles.length - (k + 1),by omega,k + 1,by omega,rfl,?_⟩
  rw [hst,nP,i64 (by omega)]; rfl
 ·refine ⟨fun m vs => ∃ k:Nat,k ≤ t.Meters.length ∧ m = t.Meters.length - k ∧ vs = [.int .i64 k,.agg ((t.Meters.map TMtMeter.av).flatMap AV.cells)],⟨_,0,by omega,rfl,?_⟩,?_⟩
  ·rw [nM]; rfl
  rintro m2 n2 cs2 ⟨k2,hk2,rfl,hvk2⟩
  cases hvk2
  rw [List.length_map]
  refine ⟨fun g => ?_,fun g => ?_⟩
  ·have hlt:k2 < t.Meters.length:=by have:=of_decide_eq_true g; omega
   have hp:t.Meters[k2]? = some t.Meters[k2]:=List.getElem?_eq_getElem hlt
   have hpv:=hv.meter (List.mem_of_getElem? hp)
   generalize t.Meters[k2] = p at *
   have hnum:=hpv.number
   have hat:=flat_at (f:=TMtMeter.av) (g:=TMtMeter.cs) (k:=5) (fun _ => rfl) (fun _ => rfl) (j:=4) hp (by decide)
   have hst:=setCells_at (f:=TMtMeter.av) (g:=TMtMeter.cs) (k:=5) (fun _ => rfl) (fun _ => rfl) (j:=4) (x':=p) (v:=.slc 3 (p.Readings.map TMtReading.av)) hp (by decide) rfl
   rw [set_same hp] at hst
   simp only [AV.cells,Int.toNat_natCast,Nat.zero_add]
   obtain ⟨_,_,p104⟩:=part104 ((t.Meters.map TMtMeter.av).flatMap AV.cells) (k2 * 5 + 4)
   refine ⟨⟨by omega,by omega,(by trivial)⟩,p.Readings.map TMtReading.av,by rw [p104,hat]; rfl,_,c60 p.Readings (by omega),⟨by omega,by omega,(by trivial)⟩,by rw [hM.2.1]; omega,(by trivial),(by trivial),(by trivial),(by trivial),(by trivial),(by trivial),(by trivial),(by trivial),(by trivial),(by trivial),t.Meters.length - (k2 + 1),by omega,k2 + 1,by omega,rfl,?_⟩
   rw [hst,nM,i64 (by omega)]; rfl
  ·simp only [AV.cells,List.drop_zero,Nat.zero_add,List.length_map]
   refine ⟨by rw [hT.2.1]; omega,by rw [hLm.2.1]; omega,by rw [hP.2.1]; omega,by rw [hM.2.1]; omega,?_,(by trivial)⟩
   rw [ag135,ag64,ag50,ag106,chLmTable,chLmLamp,chMtProfile,chMtMeter]; rfl)
end Go.Proofs.YtblebiafhhhflaaGreat
namespace Go.Proofs.YtblebiafhhhflaaGreat
open Go.RowKit
def R22 (t:TMtTask) (days:Int) (most:Int) (_S:SpecF) (_Fr:FreshF) (_Sq:SeqF) (Q:AV → List (List AV) → Prop):Prop :=
 (decide (days ≤ most) = true → (decide ((↑(List.map TMtItem.av t.Items).length:Int) ≤ (8:Int)) = true → Q (.bool true) []) ∧ (decide ((↑(List.map TMtItem.av t.Items).length:Int) ≤ (8:Int)) = false → Q (.bool (decide ((↑(List.map TMtItem.av t.Items).length:Int) > (20:Int)))) [])) ∧ (decide (days ≤ most) = false → (decide (days > 200) = true → (decide ((↑(List.map TMtItem.av t.Items).length:Int) ≤ (8:Int)) = true → Q (.bool true) []) ∧ (decide ((↑(List.map TMtItem.av t.Items).length:Int) ≤ (8:Int)) = false → Q (.bool (decide ((↑(List.map TMtItem.av t.Items).length:Int) > (20:Int)))) [])) ∧ (decide (days > 200) = false → Q (.bool false) []))
theorem r22 (t:TMtTask) (days:Int) (most:Int) (S:SpecF) (Fr:FreshF) (Sq:SeqF) (Q:AV → List (List AV) → Prop):awpF Tryz.prog (mkS Tryz.prog S Fr Sq ⟨[],[],[],[],[]⟩ 0) 0 ⟨[0,1,2,3,6],[],[],[]⟩ Tryz.f22 [t.av,.int .i64 days,.int .i64 most] [] Q = R22 t days most S Fr Sq Q:=by kernel_rfl
theorem s22 (t:TMtTask) (days:Int) (most:Int) (v:AV) (O:List (List AV)) (h:R22 t days most (SpecOf Tryz.prog) (FreshOf Tryz.prog) (SeqOf Tryz.prog) (fun r O' => r = v ∧ O' = O)):SpecOf Tryz.prog 22 [t.av,.int .i64 days,.int .i64 most] [] v O :=
 spec_by (boxes:=[]) mixed (by exact trivial) Tryz.func22 Tryz.call22 rfl rfl rfl (Nat.le_of_ble_eq_true rfl) (r22 t days most (SpecOf Tryz.prog) (FreshOf Tryz.prog) (SeqOf Tryz.prog) _) h
def someB (t:TMtTask) (days most:Int):Bool:=(decide (days ≤ most) || decide (days > 200)) && (decide ((t.Items.length:Int) ≤ 8) || decide ((t.Items.length:Int) > 20))
theorem c22 (t:TMtTask) (days most:Int):Sp 22 [t.av,.int .i64 days,.int .i64 most] [] (.bool (someB t days most)) []:=s22 t days most _ _ (by
 unfold R22 someB
 rw [List.length_map]
 refine ⟨fun h => ?_,fun h => ⟨fun h2 => ?_,fun h2 => ?_⟩⟩
 ·rw [h]; exact ⟨fun h3 => by rw [h3]; exact ⟨rfl,rfl⟩,fun h3 => by rw [h3]; exact ⟨rfl,rfl⟩⟩
 ·rw [h,h2]; exact ⟨fun h3 => by rw [h3]; exact ⟨rfl,rfl⟩,fun h3 => by rw [h3]; exact ⟨rfl,rfl⟩⟩
 ·rw [h,h2]; exact ⟨rfl,rfl⟩)
def R61 (first:Int) (days:Int) (S:SpecF) (_Fr:FreshF) (_Sq:SeqF) (Q:AV → List (List AV) → Prop):Prop :=
 ∃ b0,S 38 [AV.int .i64 days,.int .i64 0,.int .i64 200] [] (.bool b0) [] ∧ (b0 = true → Q (.bool true) []) ∧ (b0 = false → (decide (days > 0) = true → ∃ b6,S 26 [AV.int .i64 first] [] (.bool b6) [] ∧ (b6 = true → Q (.bool true) []) ∧ (b6 = false → ∃ b10,S 26 [AV.int .i64 (IntKind.i64.wrap (IntKind.i64.wrap (first + days) - 1))] [] (.bool b10) [] ∧ Q (.bool b10) [])) ∧ (decide (days > 0) = false → Q (.bool false) []))
theorem r61 (first:Int) (days:Int) (S:SpecF) (Fr:FreshF) (Sq:SeqF) (Q:AV → List (List AV) → Prop):awpF Tryz.prog (mkS Tryz.prog S Fr Sq ⟨[],[],[],[],[]⟩ 0) 0 ⟨[0,1,4],[],[],[]⟩ Tryz.f61 [.int .i64 first,.int .i64 days] [] Q = R61 first days S Fr Sq Q:=by kernel_rfl
theorem s61 (first:Int) (days:Int) (v:AV) (O:List (List AV)) (h:R61 first days (SpecOf Tryz.prog) (FreshOf Tryz.prog) (SeqOf Tryz.prog) (fun r O' => r = v ∧ O' = O)):SpecOf Tryz.prog 61 [.int .i64 first,.int .i64 days] [] v O :=
 spec_by (boxes:=[]) mixed (by exact trivial) Tryz.func61 Tryz.call61 rfl rfl rfl (Nat.le_of_ble_eq_true rfl) (r61 first days (SpecOf Tryz.prog) (FreshOf Tryz.prog) (SeqOf Tryz.prog) _) h
def wildD (first days:Int):Bool:=outB days 0 200 || (decide (days > 0) && (daylessB first || daylessB (IntKind.i64.wrap (IntKind.i64.wrap (first + days) - 1))))
theorem c61 (first days:Int):Sp 61 [.int .i64 first,.int .i64 days] [] (.bool (wildD first days)) []:=s61 first days _ _ (by
 unfold R61 wildD
 refine ⟨_,c38 ..,fun h => by rw [h]; exact ⟨rfl,rfl⟩,fun h => ⟨fun h2 => ⟨_,c26 ..,fun h3 => ?_,fun h3 => ⟨_,c26 ..,?_⟩⟩,fun h2 => ?_⟩⟩
 ·rw [h,h2,h3]; exact ⟨rfl,rfl⟩
 ·rw [h,h2,h3]; exact ⟨rfl,rfl⟩
 ·rw [h,h2]; exact ⟨rfl,rfl⟩)
def reckonR (t:TMtTask) (meter first days:Int):TEncl × Int :=
 if accE t meter (-1) t.Meters.length ≠ 0 then (⟨0,0⟩,accE t meter (-1) t.Meters.length) else if wildD first days then (⟨0,0⟩,7) else (hoursE (reckS t meter first days.toNat),0)
def R24 (t:TMtTask) (meter:Int) (first:Int) (days:Int) (S:SpecF) (_Fr:FreshF) (_Sq:SeqF) (Q:AV → List (List AV) → Prop):Prop :=
 ∃ n0 n1 n2,S 52 [t.av] [] (.tup [AV.int .i64 n0,.int .i64 n1,.int .i64 n2]) [] ∧ ∃ (J4:List AV → Prop),(((n2 == 0) = true → ∃ b8,S 38 [AV.int .i64 meter,.int .i64 (-1:Int),.int .i64 (IntKind.i64.wrap ((↑(List.map TMtMeter.av t.Meters).length:Int) - (1:Int)))] [] (.bool b8) [] ∧ (b8 = true → t.cs = t.cs ∧ TEncl.z0 = TEncl.z0 ∧ t.cs = t.cs ∧ t.cs = t.cs ∧ Same [AV.iface 1000000 (.slc 3 [])] ∧ Same [AV.int .i64 t.City.Lat,.int .i64 t.City.Lon,.int .i64 t.City.Zone,.int .i64 t.City.Altitude.Lo,.int .i64 t.City.Altitude.Hi,.slc 3 (List.map TLmTable.av t.Catalog.Tables),.slc 3 (List.map TLmLamp.av t.Catalog.Lamps),.slc 3 (List.map TMtProfile.av t.Profiles),.slc 3 (List.map TMtItem.av t.Items),.slc 3 (List.map TMtMeter.av t.Meters),.map ((81:Nat) + (14:Nat))] ∧ J4 [AV.int .i64 4]) ∧ (b8 = false → t.cs = t.cs ∧ TEncl.z0 = TEncl.z0 ∧ t.cs = t.cs ∧ t.cs = t.cs ∧ Same [AV.iface 1000000 (.slc 3 [])] ∧ Same [AV.int .i64 t.City.Lat,.int .i64 t.City.Lon,.int .i64 t.City.Zone,.int .i64 t.City.Altitude.Lo,.int .i64 t.City.Altitude.Hi,.slc 3 (List.map TLmTable.av t.Catalog.Tables),.slc 3 (List.map TLmLamp.av t.Catalog.Lamps),.slc 3 (List.map TMtProfile.av t.Profiles),.slc 3 (List.map TMtItem.av t.Items),.slc 3 (List.map TMtMeter.av t.Meters),.map ((81:Nat) + (14:Nat))] ∧ J4 [AV.int .i64 n2])) ∧ ((n2 == 0) = false → t.cs = t.cs ∧ TEncl.z0 = TEncl.z0 ∧ t.cs = t.cs ∧ t.cs = t.cs ∧ Same [AV.iface 1000000 (.slc 3 [])] ∧ Same [AV.int .i64 t.City.Lat,.int .i64 t.City.Lon,.int .i64 t.City.Zone,.int .i64 t.City.Altitude.Lo,.int .i64 t.City.Altitude.Hi,.slc 3 (List.map TLmTable.av t.Catalog.Tables),.slc 3 (List.map TLmLamp.av t.Catalog.Lamps),.slc 3 (List.map TMtProfile.av t.Profiles),.slc 3 (List.map TMtItem.av t.Items),.slc 3 (List.map TMtMeter.av t.Meters),.map ((81:Nat) + (14:Nat))] ∧ J4 [AV.int .i64 n2])) ∧ ∀ (n6:Int),J4 [AV.int .i64 n6] → ((n6 != 0) = true → Q (.tup [TEncl.zero.av,.int .i64 n6]) []) ∧ ((n6 != 0) = false → ∃ b10,S 61 [AV.int .i64 first,.int .i64 days] [] (.bool b10) [] ∧ (b10 = true → Q (.tup [TEncl.zero.av,.int .i64 7]) []) ∧ (b10 = false → ∃ n14 n15 es16,S 45 [AV.ref 0 0,.int .i64 meter,.int .i64 first,.int .i64 days] [(TAccount.mk t (.map 1)).cs,[AV.iface 1000000 (.slc 3 [])]] (.agg [AV.int .i64 n14,.int .i64 n15]) [(TAccount.mk t (.map 1)).cs,[AV.iface 1000000 (.slc 3 es16)]] ∧ ∃ n18 n19,S 48 [AV.agg [AV.int .i64 n14,.int .i64 n15]] [] (.agg [AV.int .i64 n18,.int .i64 n19]) [] ∧ Q (.tup [AV.agg [AV.int .i64 n18,.int .i64 n19],.int .i64 0]) []))
theorem r24 (t:TMtTask) (meter:Int) (first:Int) (days:Int) (S:SpecF) (Fr:FreshF) (Sq:SeqF) (Q:AV → List (List AV) → Prop):awpF Tryz.prog (mkS Tryz.prog S Fr Sq ⟨[],[],[1000045],[(25,⟨[0,1,2,3,4,8,9,10,11,25],[],[⟨4,[(11,.int .i64 0)],[],[],[],[]⟩],[]⟩),(62,⟨[0,1,2,3,6],[],[],[]⟩)],[]⟩ 4) 0 ⟨[0,1,2,3,4,8,9,10,11,21,26],[],[],[]⟩ Tryz.f24 [t.av,.int .i64 meter,.int .i64 first,.int .i64 days] [] Q = R24 t meter first days S Fr Sq Q:=by kernel_rfl
theorem s24 (t:TMtTask) (meter:Int) (first:Int) (days:Int) (v:AV) (O:List (List AV)) (h:R24 t meter first days (SpecOf Tryz.prog) (FreshOf Tryz.prog) (SeqOf Tryz.prog) (fun r O' => r = v ∧ O' = O)):SpecOf Tryz.prog 24 [t.av,.int .i64 meter,.int .i64 first,.int .i64 days] [] v O :=
 spec_by (boxes:=[]) mixed (by exact ⟨Tryz.call25,⟨Tryz.call62,trivial⟩⟩) Tryz.func24 Tryz.call24 rfl rfl rfl (Nat.le_of_ble_eq_true rfl) (r24 t meter first days (SpecOf Tryz.prog) (FreshOf Tryz.prog) (SeqOf Tryz.prog) _) h
theorem c24 (t:TMtTask) (ht:TaskOK t) (hn:t.Items.length ≤ 2 ^ 62) (hn2:t.Meters.length ≤ 2 ^ 62) (meter first days:Int) (hd:days ≤ 2 ^ 62):Sp 24 [t.av,.int .i64 meter,.int .i64 first,.int .i64 days] [] (.tup [(reckonR t meter first days).1.av,.int .i64 (reckonR t meter first days).2]) []:=s24 t meter first days _ _ (by
 unfold R24
 rw [List.length_map]
 refine ⟨_,_,_,c52 t ht,fun vs => vs = [.int .i64 (accE t meter (-1) t.Meters.length)],⟨fun h => ⟨_,c38 ..,fun h2 => ⟨rfl,rfl,rfl,rfl,rfl,rfl,?_⟩,fun h2 => ⟨rfl,rfl,rfl,rfl,rfl,rfl,?_⟩⟩,fun h => ⟨rfl,rfl,rfl,rfl,rfl,rfl,?_⟩⟩,?_⟩
 ·unfold accE; rw [withE_out h h2]
 ·unfold accE; rw [withE_in h2]
 ·unfold accE; rw [withE_bad h]
 intro n6 hv
 cases hv
 unfold reckonR
 refine ⟨fun h => ⟨?_,rfl⟩,fun h => ⟨_,c61 first days,fun h2 => ⟨?_,rfl⟩,fun h2 => ?_⟩⟩
 ·rw [if_pos (by simpa using h)]; rfl
 ·rw [if_neg (by simpa using h),if_pos h2]; rfl
 ·have h:accE t meter (-1) t.Meters.length = 0:=by simpa using h
  obtain ⟨hv,h0,h1⟩:=accE_zero hn2 h
  rw [if_neg (by simp [h]),if_neg (by simp [h2])]
  exact ⟨_,_,_,c45 t (fun x hx => hv.itemOK ht.cat hx) hn meter first days hd [] List.nodup_nil,_,_,c48 _,rfl,rfl⟩)
end Go.Proofs.YtblebiafhhhflaaGreat
namespace Go.Proofs.YtblebiafhhhflaaGreat
open Go.RowKit
def lampItem (x:TMtItem) (lamp:Int):TMtItem:=⟨x.Name,lamp,x.Count,x.Profile,x.Meter,x.Declared,x.From,x.Until⟩
def withT (t:TMtTask) (item lamp:Int):TMtTask:=⟨t.City,t.Catalog,t.Profiles,t.Items.set item.toNat (lampItem (itemAt t item) lamp),t.Meters⟩
theorem withT_ok {t:TMtTask} (ht:TaskOK t) {item lamp:Int} (h0:0 ≤ item) (h1:item < t.Items.length):TaskOK (withT t item lamp):=by
 obtain ⟨_,hm,_⟩:=item_get h0 h1
 refine ⟨ht.cat,ht.prn,ht.men,fun z hz => ?_,ht.stl⟩
 rcases List.mem_or_eq_of_mem_set hz with hz | rfl
 ·exact ht.itn z hz
 ·exact ht.itn (itemAt t item) hm
theorem gone_old {x:TMtItem} {day d:Int} (h0:0 ≤ x.From) (h1:x.From ≤ d) (h2:d ≤ x.Until) (h3:x.Until ≤ 40000):(day < d → goneB (oldItem x d) day = goneB x day) ∧ (¬ day < d → goneB (oldItem x d) day = true):=by
 have e1:IntKind.i64.wrap (d - 1) = d - 1:=i64 (by omega)
 have e2:IntKind.i64.wrap (x.Until - 1) = x.Until - 1:=i64 (by omega)
 unfold goneB oldItem outB
 rw [e1,e2]
 refine ⟨fun h => ?_,fun h => ?_⟩
 ·rw [decide_eq_false (show ¬ day > d - 1 by omega),decide_eq_false (show ¬ day > x.Until - 1 by omega)]
 ·rw [decide_eq_true (show day > d - 1 by omega),Bool.or_true]
theorem gone_new {x:TMtItem} {day d lamp:Int} {name:ByteArray} (h0:0 ≤ x.From) (h1:x.From ≤ d) (h2:d ≤ x.Until) (h3:x.Until ≤ 40000):(day < d → goneB (newItem x d lamp name) day = true) ∧ (¬ day < d → goneB (newItem x d lamp name) day = goneB x day):=by
 unfold goneB newItem outB
 refine ⟨fun h => ?_,fun h => ?_⟩
 ·rw [decide_eq_true (show day < d by omega),Bool.true_or]
 ·rw [decide_eq_false (show ¬ day < d by omega),decide_eq_false (show ¬ day < x.From by omega)]
theorem oneS_gone {t:TMtTask} {x:TMtItem} {day:Int} (h:goneB x day = true):oneS t x day = sum0:=by unfold oneS; rw [if_pos h]
theorem one_old {t:TMtTask} {x:TMtItem} {day d:Int} (h:goneB (oldItem x d) day = goneB x day):oneS t (oldItem x d) day = oneS t x day:=by
 unfold oneS; rw [h]; rfl
theorem one_new {t:TMtTask} {x:TMtItem} {day d lamp:Int} {name:ByteArray} (h:goneB (newItem x d lamp name) day = goneB x day):oneS t (newItem x d lamp name) day = oneS t (lampItem x lamp) day:=by
 have e:goneB (lampItem x lamp) day = goneB x day:=rfl
 unfold oneS; rw [h,e]; rfl
theorem energy_zero {t:TMtTask} {x:TMtItem} {day:Int} (h:oneS t x day = sum0):energyE t x day = ⟨0,0⟩:=by
 rw [energyE_val,h]
 show (⟨IntKind.i64.wrap (x.Count * 0),IntKind.i64.wrap (x.Count * 0)⟩:TEncl) = _
 rw [Int.mul_zero]; rfl
theorem sumL_app {f:TMtItem → Int}:∀ (a b:List TMtItem),sumL f (a ++ b) = sumL f a + sumL f b
 | [],b => by simp [sumL]
 | x :: r,b => by
  show f x + sumL f (r ++ b) = f x + sumL f r + sumL f b
  rw [sumL_app r b]; omega
theorem lamps1 (t:TMtTask) (x:TMtItem) {day:Int} (h0:2 ≤ day) (h1:day ≤ 39998):lampsS t x day 1 = addS sum0 (oneS t x day).Encl 1:=by
 have e:IntKind.i64.wrap (day + ((0:Nat):Int)) = day:=by rw [i64 (by omega)]; omega
 show addS sum0 (oneS t x (IntKind.i64.wrap (day + ((0:Nat):Int)))).Encl 1 = _
 rw [e]
theorem keeps {t:TMtTask} {item d lamp day:Int} {name:ByteArray} (hn:t.Items.length ≤ 2 ^ 62) (h:(changeR t item d lamp name).2 = 0) (hE:(energyR t item day).2 = 0) :
  (energyR (withT t item lamp) item day).2 = 0 ∧ (energyR (changeT t item d lamp name) item day).2 = 0 ∧ (energyR (changeT t item d lamp name) t.Items.length day).2 = 0 ∧
  (day < d → (energyR (changeT t item d lamp name) item day).1 = (energyR t item day).1 ∧ (energyR (changeT t item d lamp name) t.Items.length day).1 = ⟨0,0⟩) ∧
  (¬ day < d → (energyR (changeT t item d lamp name) item day).1 = ⟨0,0⟩ ∧ (energyR (changeT t item d lamp name) t.Items.length day).1 = (energyR (withT t item lamp) item day).1) ∧
  (lamp = (itemAt t item).Lamp → (reckonR t (itemAt t item).Meter day 1).2 = 0 ∧ reckonR (changeT t item d lamp name) (itemAt t item).Meter day 1 = reckonR t (itemAt t item).Meter day 1):=by
 obtain ⟨hv,h0,h1,hd,hval⟩:=energyR_ok hn hE
 have hdd:=outF.1 hd
 obtain ⟨hg,hm,_⟩:=item_get h0 h1
 have hv':TaskV (changeT t item d lamp name) ∧ outB d (itemAt t item).From (itemAt t item).Until = false:=by
  unfold changeR at h
  split at h
  ·rename_i hq; exact absurd h hq
  split at h
  ·simp at h
  rename_i ho
  split at h
  ·rename_i hq; exact absurd h hq
  ·rename_i hq; exact ⟨taskV_of (Decidable.byContradiction hq),by simpa using ho⟩
 obtain ⟨hv',ho⟩:=hv'
 have ho:=outF.1 ho
 have hni:=hv.ni
 have hni':=hv'.ni
 have hlen:(changeT t item d lamp name).Items.length = t.Items.length + 1:=by unfold changeT; simp
 have hi1:itemAt (changeT t item d lamp name) item = oldItem (itemAt t item) d:=by
  generalize hx:itemAt t item = x
  unfold itemAt changeT
  rw [hx]
  simp only
  rw [List.getElem?_set_self (by simp; omega)]; rfl
 have hi2:(changeT t item d lamp name).Items[t.Items.length]? = some (newItem (itemAt t item) d lamp name):=by
  unfold changeT
  simp only
  rw [List.getElem?_set_ne (by omega),List.getElem?_append_right (Nat.le_refl _),Nat.sub_self]; rfl
 have hi3:itemAt (changeT t item d lamp name) t.Items.length = newItem (itemAt t item) d lamp name:=by
  show ((changeT t item d lamp name).Items[((t.Items.length:Nat):Int).toNat]?).getD noItem = _
  rw [Int.toNat_natCast,hi2]; rfl
 have hnew:=hv'.item (List.mem_of_getElem? hi2)
 have hlamp:0 ≤ lamp ∧ lamp < t.Catalog.Lamps.length:=hnew.lamp
 have hx:=hv.item hm
 have L:=hv.lens
 have hw:TaskV (withT t item lamp):=by
  obtain ⟨a1,a2⟩:=errM_zero hv.it
  refine ⟨hv.city,hv.cat,hv.np,by unfold withT; simp only [List.length_set]; exact hv.ni,hv.nm,hv.pr,hv.me,?_⟩
  have hnames:(withT t item lamp).Items.map TMtItem.Name = t.Items.map TMtItem.Name:=by
   unfold withT
   rw [List.map_set]
   exact List.ext_getElem? fun j => by
    by_cases hj:item.toNat = j
    ·subst hj
     rw [List.getElem?_set_self (by simp; omega),List.getElem?_map,hg]; rfl
    ·rw [List.getElem?_set_ne hj]
  have:=errM_good (nm:=TMtItem.Name) (rest:=itemE (withT t item lamp)) (l:=(withT t item lamp).Items) (fun y hy => ?_) (by rw [hnames]; exact a2)
  ·rw [this]
  ·rcases List.mem_or_eq_of_mem_set hy with hy | rfl
   ·exact a1 y hy
   ·exact ⟨(a1 _ hm).1,(itemV_iff L.1 L.2.1 L.2.2).2 ⟨hlamp,hx.prof,hx.meter,hx.count,hx.decl,hx.until',hx.from'⟩⟩
 have hwi:itemAt (withT t item lamp) item = lampItem (itemAt t item) lamp:=by
  generalize hx:itemAt t item = x
  unfold itemAt withT
  rw [hx]
  simp only
  rw [List.getElem?_set_self (by omega)]; rfl
 have hwl:(withT t item lamp).Items.length = t.Items.length:=by unfold withT; simp
 rw [energyR_good (by omega) hw h0 (by omega) hd,energyR_good (by omega) hv' h0 (by omega) hd,energyR_good (by omega) hv' (by omega) (by omega) hd,hi1,hi3,hwi,hval]
 have ec:∀ y,energyE (changeT t item d lamp name) y day = energyE t y day:=fun _ => rfl
 have ew:∀ y,energyE (withT t item lamp) y day = energyE t y day:=fun _ => rfl
 simp only [ec,ew]
 have g1:=gone_old (x:=itemAt t item) (day:=day) (d:=d) hx.from'.1 ho.1 ho.2 hx.until'.2
 have g2:=gone_new (x:=itemAt t item) (day:=day) (d:=d) (lamp:=lamp) (name:=name) hx.from'.1 ho.1 ho.2 hx.until'.2
 refine ⟨(by trivial),(by trivial),(by trivial),fun hlt => ⟨?_,energy_zero (oneS_gone (g2.1 hlt))⟩,fun hge => ⟨energy_zero (oneS_gone (g1.2 hge)),?_⟩,fun hl => ?_⟩
 ·rw [energyE_val,energyE_val,one_old (g1.1 hlt)]; rfl
 ·rw [energyE_val,energyE_val,one_new (g2.2 hge)]; rfl
 ·have hnm:=hv.nm
  have a1:=accE_good (t:=t) (i:=(itemAt t item).Meter) (lo:=-1) (n:=t.Meters.length) (by omega) hv hx.meter.1 hx.meter.2
  have a2:=accE_good (t:=changeT t item d lamp name) (i:=(itemAt t item).Meter) (lo:=-1) (n:=t.Meters.length) (by omega) hv' hx.meter.1 hx.meter.2
  have hw1:wildD day 1 = false:=by
   have e:IntKind.i64.wrap (IntKind.i64.wrap (day + 1) - 1) = day:=by rw [i64 (n:=day + 1) (by omega),i64 (by omega)]; omega
   unfold wildD
   rw [e,hd]; rfl
  have r1:reckonR t (itemAt t item).Meter day 1 = (hoursE (reckS t (itemAt t item).Meter day 1),0):=by unfold reckonR; rw [if_neg (by rw [a1]; simp),if_neg (by simp [hw1])]; rfl
  have r2:reckonR (changeT t item d lamp name) (itemAt t item).Meter day 1 = (hoursE (reckS (changeT t item d lamp name) (itemAt t item).Meter day 1),0):=by
   unfold reckonR
   show (if accE (changeT t item d lamp name) (itemAt t item).Meter (-1) t.Meters.length ≠ 0 then _ else _) = _
   rw [if_neg (by rw [a2]; simp),if_neg (by simp [hw1])]; rfl
  rw [r1,r2]
  refine ⟨rfl,?_⟩
  have e:reckS (changeT t item d lamp name) (itemAt t item).Meter day 1 = reckS t (itemAt t item).Meter day 1:=by
   rw [(reckS_val hv'.allLit (itemAt t item).Meter day (k:=1) (by decide)).1,(reckS_val hv.allLit (itemAt t item).Meter day (k:=1) (by decide)).1]
   have key:∀ f:TMtItem → Int,f (newItem (itemAt t item) d lamp name) + f (oldItem (itemAt t item) d) = f (itemAt t item) → sumL f (changeT t item d lamp name).Items = sumL f t.Items:=by
    intro f hf
    unfold changeT
    simp only
    rw [sumL_set (x:=itemAt t item) (by rw [List.getElem?_append_left (by omega)]; exact hg),sumL_app]
    simp only [sumL]
    omega
   have hrc:∀ y,recX (changeT t item d lamp name) (itemAt t item).Meter day 1 y = recX t (itemAt t item).Meter day 1 y:=fun _ => rfl
   simp only [hrc]
   have rx:∀ y:TMtItem,y.Meter = (itemAt t item).Meter → recX t (itemAt t item).Meter day 1 y = ⟨y.Count * (addS sum0 (oneS t y day).Encl 1).Encl.Lo,y.Count * (addS sum0 (oneS t y day).Encl 1).Encl.Hi⟩:=fun y hy => by
    unfold recX; rw [if_pos (by rw [hy]; simp),lamps1 t y hdd.1 hdd.2]
   have z:(addS sum0 sum0.Encl 1) = sum0:=by rfl
   have z0:sum0.Encl.Lo = 0 ∧ sum0.Encl.Hi = 0:=⟨rfl,rfl⟩
   by_cases hlt:day < d
   ·have o1:oneS t (oldItem (itemAt t item) d) day = oneS t (itemAt t item) day:=one_old (g1.1 hlt)
    have o2:oneS t (newItem (itemAt t item) d lamp name) day = sum0:=oneS_gone (g2.1 hlt)
    rw [key _ (by rw [rx (newItem (itemAt t item) d lamp name) rfl,rx (oldItem (itemAt t item) d) rfl,rx (itemAt t item) rfl,o1,o2,z,z0.1]; simp only [Int.mul_zero,Int.zero_add]; rfl),key _ (by rw [rx (newItem (itemAt t item) d lamp name) rfl,rx (oldItem (itemAt t item) d) rfl,rx (itemAt t item) rfl,o1,o2,z,z0.2]; simp only [Int.mul_zero,Int.zero_add]; rfl)]
   ·have o1:oneS t (oldItem (itemAt t item) d) day = sum0:=oneS_gone (g1.2 hlt)
    have o2:oneS t (newItem (itemAt t item) d lamp name) day = oneS t (itemAt t item) day:=by
     rw [one_new (g2.2 hlt),hl]; rfl
    rw [key _ (by rw [rx (newItem (itemAt t item) d lamp name) rfl,rx (oldItem (itemAt t item) d) rfl,rx (itemAt t item) rfl,o1,o2,z,z0.1]; simp only [Int.mul_zero,Int.add_zero]; rfl),key _ (by rw [rx (newItem (itemAt t item) d lamp name) rfl,rx (oldItem (itemAt t item) d) rfl,rx (itemAt t item) rfl,o1,o2,z,z0.2]; simp only [Int.mul_zero,Int.add_zero]; rfl)]
  rw [e]
end Go.Proofs.YtblebiafhhhflaaGreat
