/- Contract: RoundMore. -/
import Derived.Test.YtdeeekgohhkdbaaGreatDoorKd
import Derived.Test.YtdeeekgohhkdbaaGreatDoorKf
import Derived.Test.YtdeeekgohhkdbaaGreatDoorKh
namespace Go.Proofs.YtdeeekgohhkdbaaGreatDoor
open Go.RowKit
theorem chunks_zero {k:Nat} {ag:Bool} {cs:List AV}:(chunks k ag 0 cs).length = 0:=by
 unfold chunks
 cases ag <;> rfl
theorem never_le {s:TRoSpan} (h:s.From ≤ s.Until):neverB s = false:=by
 cases hn:neverB s with
 | false => rfl
 | true =>
  unfold neverB at hn
  rw [Bool.and_eq_true,Bool.and_true,beq_iff_eq,beq_iff_eq] at hn
  omega
def HoldsS (a b:TRoSpan):Prop:=b.From ≤ a.From ∧ a.Until ≤ b.Until
theorem both_wide {a b a' b':TRoSpan} (ha:HoldsS a a') (hb:HoldsS b b') (h:neverB (bothE a b) = false):neverB (bothE a' b') = false ∧ HoldsS (bothE a b) (bothE a' b'):=by
 obtain ⟨h1,h2⟩:=never_no h
 have m1:maxE a'.From b'.From ≤ maxE a.From b.From:=max_le ha.1 hb.1
 have m2:minE a.Until b.Until ≤ minE a'.Until b'.Until:=min_mono ha.2 hb.2
 have e:bothE a' b' = ⟨maxE a'.From b'.From,minE a'.Until b'.Until⟩:=if_neg (by omega)
 rw [e,h2]
 exact ⟨never_le (by show maxE a'.From b'.From ≤ minE a'.Until b'.Until; omega),m1,m2⟩
theorem never_left {a b:TRoSpan} (h:neverB (bothE a b) = false):neverB a = false:=by
 cases ha:neverB a with
 | false => rfl
 | true => exact (both_never h ha).elim
def WideC (C D:List TRoSpan):Prop:=D.length = C.length ∧ ∀ i:Nat,i < C.length → HoldsS (C.getD i TRoSpan.zero) (D.getD i TRoSpan.zero)
theorem wideC_refl (C:List TRoSpan):WideC C C:=⟨rfl,fun _ _ => ⟨Int.le_refl _,Int.le_refl _⟩⟩
theorem span_wide {t m:TRoTask} (hc:m.City = t.City) (hd:m.Day = t.Day) (hw:WideC t.Closures m.Closures) {x:TRoJob} (hx:x.Closure < t.Closures.length) (h:neverB (spanE t x) = false) :
  neverB (spanE m x) = false ∧ (spanE m x).From ≤ (spanE t x).From ∧ (spanE t x).Until ≤ (spanE m x).Until:=by
 have hl:lightE m = lightE t:=by unfold lightE; rw [hc,hd]
 have hclo:x.Closure ≥ 0 → HoldsS (cloAt t x.Closure) (cloAt m x.Closure):=fun h0 => hw.2 x.Closure.toNat (by omega)
 have base:∀ s:TRoSpan,HoldsS s s:=fun s => ⟨Int.le_refl _,Int.le_refl _⟩
 unfold spanE at h ⊢
 rw [hl]
 by_cases hdl:x.Daylight = true
 ·rw [if_pos hdl] at h ⊢
  rw [if_pos hdl]
  by_cases h0:x.Closure ≥ 0
  ·rw [if_pos h0] at h ⊢
   rw [if_pos h0]
   exact both_wide (both_wide (base _) (hclo h0) (never_left h)).2 (base _) h
  ·rw [if_neg h0] at h ⊢
   rw [if_neg h0]
   exact both_wide (base _) (base _) h
 ·rw [if_neg hdl] at h ⊢
  rw [if_neg hdl]
  by_cases h0:x.Closure ≥ 0
  ·rw [if_pos h0] at h ⊢
   rw [if_pos h0]
   exact both_wide (base _) (hclo h0) h
  ·rw [if_neg h0] at h ⊢
   rw [if_neg h0]
   exact ⟨h,base _⟩
theorem getD_app {α:Type} {L:List α} {y d:α} {i:Nat} (h:i < L.length):(L ++ [y]).getD i d = L.getD i d:=by
 rw [List.getD_eq_getElem?_getD,List.getD_eq_getElem?_getD,List.getElem?_append_left h]
theorem getD_set {α:Type} {L:List α} {y d:α} {k i:Nat} (h:k < L.length):(L.set k y).getD i d = if k = i then y else L.getD i d:=by
 rw [List.getD_eq_getElem?_getD,List.getD_eq_getElem?_getD,List.getElem?_set]
 by_cases hi:k = i
 ·rw [if_pos hi,if_pos hi,if_pos (hi ▸ h)]; rfl
 ·rw [if_neg hi,if_neg hi]
theorem wide_task {t:TRoTask} (hv:TaskV t) {C:List TRoSpan} {L:List TRoLorry} {J:List TRoJob} (hC:WideC t.Closures C) (hJ:J = t.Jobs ∨ ∃ y,J = t.Jobs ++ [y]):WideT t { t with Closures:=C,Lorries:=L,Jobs:=J }:=by
 have hj:∀ n:Int,0 ≤ n → n < t.Jobs.length → jobAt { t with Closures:=C,Lorries:=L,Jobs:=J } n = jobAt t n:=fun n h0 hn => by
  rcases hJ with h | ⟨y,h⟩
  ·subst h; rfl
  ·subst h; exact getD_app (by omega)
 refine ⟨rfl,rfl,rfl,rfl,?_,hj,fun n h0 hn h => ?_⟩
 ·rcases hJ with h | ⟨y,h⟩
  ·subst h; exact Nat.le_refl _
  ·subst h; show _ ≤ (t.Jobs ++ [y]).length; rw [List.length_append]; omega
 ·exact span_wide (t:=t) (m:={ t with Closures:=C,Lorries:=L,Jobs:=J }) rfl rfl hC (hv.clo (job_get h0 hn).2) h
def betterL (a b:TRoLorry):Prop:=b.From ≤ a.From ∧ a.Room ≤ b.Room ∧ a.Lift ≤ b.Lift ∧ a.Until ≤ b.Until
theorem wideL_set {t:TRoTask} {C:List TRoSpan} {J:List TRoJob} {k:Nat} {y:TRoLorry} (hk:k < t.Lorries.length) (hy:betterL (lorAt t k) y):WideL t { t with Closures:=C,Lorries:=t.Lorries.set k y,Jobs:=J }:=by
 refine ⟨by show _ ≤ (t.Lorries.set k y).length; rw [List.length_set]; exact Nat.le_refl _,fun i hi => ?_⟩
 have e:lorAt { t with Closures:=C,Lorries:=t.Lorries.set k y,Jobs:=J } i = if k = i then y else lorAt t i:=by
  show (t.Lorries.set k y).getD ((i:Int)).toNat _ = _
  rw [Int.toNat_natCast,getD_set hk]; rfl
 rw [e]
 by_cases hki:k = i
 ·rw [if_pos hki,← hki]; exact hy
 ·rw [if_neg hki]; exact ⟨Int.le_refl _,Int.le_refl _,Int.le_refl _,Int.le_refl _⟩
theorem wideL_same {t:TRoTask} {C:List TRoSpan} {J:List TRoJob}:WideL t { t with Closures:=C,Lorries:=t.Lorries,Jobs:=J } :=
 ⟨Nat.le_refl _,fun _ _ => ⟨Int.le_refl _,Int.le_refl _,Int.le_refl _,Int.le_refl _⟩⟩
theorem wideL_app {t:TRoTask} {C:List TRoSpan} {J:List TRoJob} {y:TRoLorry}:WideL t { t with Closures:=C,Lorries:=t.Lorries ++ [y],Jobs:=J }:=by
 refine ⟨by show _ ≤ (t.Lorries ++ [y]).length; rw [List.length_append]; omega,fun i hi => ?_⟩
 have e:lorAt { t with Closures:=C,Lorries:=t.Lorries ++ [y],Jobs:=J } i = lorAt t i:=by
  show (t.Lorries ++ [y]).getD ((i:Int)).toNat _ = _
  rw [Int.toNat_natCast,getD_app hi]; rfl
 rw [e]; exact ⟨Int.le_refl _,Int.le_refl _,Int.le_refl _,Int.le_refl _⟩
theorem tail5 {m:TRoTask} (hm:TaskIn m) {N v:Int} (hv:(taskE m).2.2 = 0 → v ≤ (worthE m (bestP m)).1) :
  ∃ a b c:Int,Sp 22 [m.av] [] (.tup [.int .i64 a,.int .i64 b,.int .i64 c]) [] ∧ ((c != 0) = true → ∃ b0:Bool,Sp 17 [] [] (.bool b0) [] ∧ (AV.bool b0 = .bool true ∧ ([]:List (List AV)) = [])) ∧ ((c != 0) = false →
   (decide (N > 7) = true → ∃ b0:Bool,Sp 17 [] [] (.bool b0) [] ∧ (AV.bool b0 = .bool true ∧ ([]:List (List AV)) = [])) ∧ (decide (N > 7) = false →
    ∃ (es:List AV) (n:Int),Sp 18 [m.av] [] (.tup [.slc 3 es,.int .i64 n]) [] ∧ ((n != 0) = true → (AV.bool false = .bool true ∧ ([]:List (List AV)) = [])) ∧ ((n != 0) = false →
     ∃ p q r:Int,Sp 19 [m.av,.slc 3 es] [] (.tup [.int .i64 p,.int .i64 q,.int .i64 r]) [] ∧ ((r == 0) = true → (decide (p ≥ v) = true → ∃ b0:Bool,Sp 17 [] [] (.bool b0) [] ∧ (AV.bool b0 = .bool true ∧ ([]:List (List AV)) = [])) ∧ (decide (p ≥ v) = false → (AV.bool false = .bool true ∧ ([]:List (List AV)) = []))) ∧ ((r == 0) = false → (AV.bool false = .bool true ∧ ([]:List (List AV)) = []))))):=by
 have awake:∃ b:Bool,Sp 17 [] [] (.bool b) [] ∧ (AV.bool b = .bool true ∧ ([]:List (List AV)) = []):=⟨_,awake_ok,rfl,rfl⟩
 refine ⟨_,_,_,c22 m hm,fun _ => awake,fun h => ⟨fun _ => awake,fun _ => ⟨_,_,c18 m hm,fun h' => absurd (h.symm.trans h') (by decide),fun _ => ?_⟩⟩⟩
 have he:(taskE m).2.2 = 0:=by simpa using h
 obtain ⟨_,_,b3,_⟩:=best_fine he
 refine ⟨_,_,_,c19 m hm (bestP m),fun _ => ⟨fun _ => awake,fun g => ?_⟩,fun g => ?_⟩
 ·have:=hv he
  have:=of_decide_eq_false g
  omega
 ·rw [b3] at g; exact absurd g (by decide)
theorem sp_cs:∀ x:TRoSpan,TRoSpan.av x = .agg (TRoSpan.cs x):=fun _ => rfl
theorem sp_len:∀ x:TRoSpan,(TRoSpan.cs x).length = 2:=fun _ => rfl
theorem sp_one:∀ x:TRoSpan,ones (TRoSpan.cs x) = true:=fun _ => rfl
theorem lo_cs:∀ x:TRoLorry,TRoLorry.av x = .agg (TRoLorry.cs x):=fun _ => rfl
theorem lo_len:∀ x:TRoLorry,(TRoLorry.cs x).length = 6:=fun _ => rfl
theorem lo_one:∀ x:TRoLorry,ones (TRoLorry.cs x) = true:=fun _ => rfl
theorem jo_cs:∀ x:TRoJob,TRoJob.av x = .agg (TRoJob.cs x):=fun _ => rfl
theorem jo_len:∀ x:TRoJob,(TRoJob.cs x).length = 9:=fun _ => rfl
theorem jo_one:∀ x:TRoJob,ones (TRoJob.cs x) = true:=fun _ => rfl
theorem agg49m:isAggT Tryz.prog 49 = true:=by kernel_rfl
theorem agg60m:isAggT Tryz.prog 60 = true:=by kernel_rfl
theorem agg55m:isAggT Tryz.prog 55 = true:=by kernel_rfl
theorem und3m:Tryz.prog.underlying 3 = some (.int .i64):=by kernel_rfl
theorem span_norm (C:List TRoSpan):AV.normL ((C.map TRoSpan.av).flatMap AV.cells) = (C.map TRoSpan.av).flatMap AV.cells:=by
 rw [normL_eq]
 induction C with
 | nil => rfl
 | cons x r ih =>
  rw [List.map_cons,List.flatMap_cons,List.map_append,ih]; rfl
theorem named_es {α:Type} {f:α → AV} {g:α → List AV} {k:Nat} (hf:∀ x,f x = .agg (g x)) (hk:∀ x,(g x).length = k) {ag:Bool} (ha:ag = true) (l:List α) {n:Nat} (hn:n = l.length) {cs:List AV} (hc:cs = (l.map f).flatMap AV.cells) :
  (l.map f).length = n ∧ List.flatMap AV.cells (l.map f) = List.drop 0 cs ∧ elemsA k ag (l.map f):=by
 subst hn hc ha
 exact ⟨List.length_map ..,rfl,elemsA_map hf hk l⟩
theorem ne_no5 {a b:Int} (h:(a != b) = true) (e:a = b):False:=by subst e; simp at h
theorem taskIn_more {t:TRoTask} (h:TaskIn t) {C:List TRoSpan} {L:List TRoLorry} {J:List TRoJob} (hL:∀ x ∈ L,x.Name.size ≤ 9223372036854775807) (hJ:∀ x ∈ J,x.Name.size ≤ 9223372036854775807):TaskIn { t with Closures:=C,Lorries:=L,Jobs:=J }:=⟨hL,hJ⟩
theorem int_at {cs:List AV} {off:Nat} {n:Int} (h:cs[off]? = some (.int .i64 n)):Option.map AV.norm (partA Tryz.prog 3 cs off) = some (.int .i64 n):=by
 unfold partA
 rw [und3m]
 dsimp only
 rw [h]; rfl
theorem lor_idx5 {t:TRoTask} {k:Nat} (hk:k < t.Lorries.length):t.Lorries[k]? = some (lorAt t k):=by
 unfold lorAt
 rw [Int.toNat_natCast,List.getD_eq_getElem?_getD,List.getElem?_eq_getElem hk]; rfl
abbrev R5qa (t:TRoTask) (S:SpecF) (Q:PostF) (p0_ p1_:List AV) (p2_:Int):Prop :=
 ∃ n29 n30 n31,S 22 [AV.agg [iN t.City.Lat,iN t.City.Lon,iN t.City.Zone,iN t.City.Altitude.Lo,iN t.City.Altitude.Hi,iN t.Day,iN t.X,iN t.Y,iN t.Pace,.slc 3 (List.map TRoKind.av t.Kinds),.slc 3 p0_,.slc 3 p1_,.slc 3 (List.map TRoJob.av t.Jobs)]] [] (.tup [iN n29,iN n30,iN n31]) [] ∧ ((n31 != 0) = true → ∃ b35,S 17 [] [] (.bool b35) [] ∧ Q (.bool b35) []) ∧ ((n31 != 0) = false → (decide (IntKind.i64.wrap ((↑(List.map TRoJob.av t.Jobs).length:Int) + (↑p1_.length:Int)) > 7) = true → ∃ b37,S 17 [] [] (.bool b37) [] ∧ Q (.bool b37) []) ∧ (decide (IntKind.i64.wrap ((↑(List.map TRoJob.av t.Jobs).length:Int) + (↑p1_.length:Int)) > 7) = false → ∃ es37 n38,S 18 [AV.agg [iN t.City.Lat,iN t.City.Lon,iN t.City.Zone,iN t.City.Altitude.Lo,iN t.City.Altitude.Hi,iN t.Day,iN t.X,iN t.Y,iN t.Pace,.slc 3 (List.map TRoKind.av t.Kinds),.slc 3 p0_,.slc 3 p1_,.slc 3 (List.map TRoJob.av t.Jobs)]] [] (.tup [AV.slc 3 es37,iN n38]) [] ∧ ((n38 != 0) = true → Q (.bool false) []) ∧ ((n38 != 0) = false → ∃ n42 n43 n44,S 19 [AV.agg [iN t.City.Lat,iN t.City.Lon,iN t.City.Zone,iN t.City.Altitude.Lo,iN t.City.Altitude.Hi,iN t.Day,iN t.X,iN t.Y,iN t.Pace,.slc 3 (List.map TRoKind.av t.Kinds),.slc 3 p0_,.slc 3 p1_,.slc 3 (List.map TRoJob.av t.Jobs)],.slc 3 es37] [] (.tup [iN n42,iN n43,iN n44]) [] ∧ ((n44 == 0) = true → (decide (n42 ≥ p2_) = true → ∃ b50,S 17 [] [] (.bool b50) [] ∧ Q (.bool b50) []) ∧ (decide (n42 ≥ p2_) = false → Q (.bool false) [])) ∧ ((n44 == 0) = false → Q (.bool false) []))))
abbrev R5qb (t:TRoTask) (S:SpecF) (Q:PostF) (p0_:List AV) (p1_:Int):Prop :=
 ∃ es38,(es38.length = (0:Nat) + (List.map TRoSpan.av t.Closures).length ∧ List.flatMap AV.cells es38 = List.drop (0:Nat) (AV.agg p0_).cells ∧ elemsA (2:Nat) (isAggT Tryz.prog (60:Nat)) es38) ∧ (0:Nat) + ((0:Nat) + (List.map TRoLorry.av t.Lorries).length) * 6 ≤ ([] ++ List.flatMap AV.cells (List.map TRoLorry.av t.Lorries)).length ∧ ∃ es41,(es41.length = (0:Nat) + (List.map TRoLorry.av t.Lorries).length ∧ List.flatMap AV.cells es41 = List.drop (0:Nat) ([] ++ List.flatMap AV.cells (List.map TRoLorry.av t.Lorries)) ∧ elemsA (6:Nat) (isAggT Tryz.prog (49:Nat)) es41) ∧ R5qa t S Q es38 es41 p1_
def R5 (t:TRoTask) (x:TMore) (S:SpecF) (_Fr:FreshF) (_Sq:SeqF) (Q:PostF):Prop :=
 ∃ es0 n1,S 18 [t.av] [] (.tup [AV.slc 3 es0,iN n1]) [] ∧ ∃ b3,S 16 [t.av] [] (.bool b3) [] ∧ (b3 = true → ∃ b7,S 17 [] [] (.bool b7) [] ∧ Q (.bool b7) []) ∧ (b3 = false → ((n1 != 0) = true → ∃ b9,S 17 [] [] (.bool b9) [] ∧ Q (.bool b9) []) ∧ ((n1 != 0) = false → ∃ n9 n10 n11,S 19 [t.av,.slc 3 es0] [] (.tup [iN n9,iN n10,iN n11]) [] ∧ ((n11 != 0) = true → Q (.bool false) []) ∧ ((n11 != 0) = false → elemsOf (6:Nat) (List.map TRoLorry.av t.Lorries) ∧ ((([]:List AV) = [] ∨ (0:Nat) < (List.map TRoLorry.av t.Lorries).length) ∧ ((0:Nat) + (List.map TRoLorry.av t.Lorries).length + (512:Nat)) * 281 ≤ (1125899906842624:Nat) ∧ elemsOf (6:Nat) [] ∧ ones (List.flatMap AV.cells (List.map TRoLorry.av t.Lorries)) = true ∧ ones [] = true) ∧ elemsOf (2:Nat) (List.map TRoSpan.av t.Closures) ∧ ((([]:List AV) = [] ∨ (0:Nat) < (List.map TRoSpan.av t.Closures).length) ∧ ((0:Nat) + (List.map TRoSpan.av t.Closures).length + (512:Nat)) * 81 ≤ (1125899906842624:Nat) ∧ elemsOf (2:Nat) [] ∧ ones (List.flatMap AV.cells (List.map TRoSpan.av t.Closures)) = true ∧ ones [] = true) ∧ ((x.Kind.tmod (6:Int) == (0:Int)) = true → elemsOf (6:Nat) [x.Lorry.av] ∧ (([] ++ List.flatMap AV.cells (List.map TRoLorry.av t.Lorries)).length = ((0:Nat) + (List.map TRoLorry.av t.Lorries).length) * 6 ∧ ((0:Nat) + (List.map TRoLorry.av t.Lorries).length + (1:Nat) + (512:Nat)) * 281 ≤ (1125899906842624:Nat) ∧ ones x.Lorry.cs = true ∧ ones ([] ++ List.flatMap AV.cells (List.map TRoLorry.av t.Lorries)) = true) ∧ (0:Nat) + ((0:Nat) + (List.map TRoSpan.av t.Closures).length) * 2 ≤ ([] ++ List.flatMap AV.cells (List.map TRoSpan.av t.Closures)).length ∧ ∃ es24,(es24.length = (0:Nat) + (List.map TRoSpan.av t.Closures).length ∧ List.flatMap AV.cells es24 = List.drop (0:Nat) ([] ++ List.flatMap AV.cells (List.map TRoSpan.av t.Closures)) ∧ elemsA (2:Nat) (isAggT Tryz.prog (60:Nat)) es24) ∧ (0:Nat) + ((0:Nat) + (List.map TRoLorry.av t.Lorries).length + (1:Nat)) * 6 ≤ ([] ++ List.flatMap AV.cells (List.map TRoLorry.av t.Lorries) ++ x.Lorry.cs).length ∧ ∃ es27,(es27.length = (0:Nat) + (List.map TRoLorry.av t.Lorries).length + (1:Nat) ∧ List.flatMap AV.cells es27 = List.drop (0:Nat) ([] ++ List.flatMap AV.cells (List.map TRoLorry.av t.Lorries) ++ x.Lorry.cs) ∧ elemsA (6:Nat) (isAggT Tryz.prog (49:Nat)) es27) ∧ R5qa t S Q es24 es27 n9) ∧ ((x.Kind.tmod (6:Int) == (0:Int)) = false → ((x.Kind.tmod (6:Int) == (1:Int)) = true → elemsOf (9:Nat) (List.map TRoJob.av t.Jobs) ∧ ((([]:List AV) = [] ∨ (0:Nat) < (List.map TRoJob.av t.Jobs).length) ∧ ((0:Nat) + (List.map TRoJob.av t.Jobs).length + (512:Nat)) * 481 ≤ (1125899906842624:Nat) ∧ elemsOf (9:Nat) [] ∧ ones (List.flatMap AV.cells (List.map TRoJob.av t.Jobs)) = true ∧ ones [] = true) ∧ elemsOf (9:Nat) [x.Job.av] ∧ (([] ++ List.flatMap AV.cells (List.map TRoJob.av t.Jobs)).length = ((0:Nat) + (List.map TRoJob.av t.Jobs).length) * 9 ∧ ((0:Nat) + (List.map TRoJob.av t.Jobs).length + (1:Nat) + (512:Nat)) * 481 ≤ (1125899906842624:Nat) ∧ ones x.Job.cs = true ∧ ones ([] ++ List.flatMap AV.cells (List.map TRoJob.av t.Jobs)) = true) ∧ (0:Nat) + ((0:Nat) + (List.map TRoSpan.av t.Closures).length) * 2 ≤ ([] ++ List.flatMap AV.cells (List.map TRoSpan.av t.Closures)).length ∧ ∃ es28,(es28.length = (0:Nat) + (List.map TRoSpan.av t.Closures).length ∧ List.flatMap AV.cells es28 = List.drop (0:Nat) ([] ++ List.flatMap AV.cells (List.map TRoSpan.av t.Closures)) ∧ elemsA (2:Nat) (isAggT Tryz.prog (60:Nat)) es28) ∧ (0:Nat) + ((0:Nat) + (List.map TRoLorry.av t.Lorries).length) * 6 ≤ ([] ++ List.flatMap AV.cells (List.map TRoLorry.av t.Lorries)).length ∧ ∃ es31,(es31.length = (0:Nat) + (List.map TRoLorry.av t.Lorries).length ∧ List.flatMap AV.cells es31 = List.drop (0:Nat) ([] ++ List.flatMap AV.cells (List.map TRoLorry.av t.Lorries)) ∧ elemsA (6:Nat) (isAggT Tryz.prog (49:Nat)) es31) ∧ (0:Nat) + ((0:Nat) + (List.map TRoJob.av t.Jobs).length + (1:Nat)) * 9 ≤ ([] ++ List.flatMap AV.cells (List.map TRoJob.av t.Jobs) ++ x.Job.cs).length ∧ ∃ es34,(es34.length = (0:Nat) + (List.map TRoJob.av t.Jobs).length + (1:Nat) ∧ List.flatMap AV.cells es34 = List.drop (0:Nat) ([] ++ List.flatMap AV.cells (List.map TRoJob.av t.Jobs) ++ x.Job.cs) ∧ elemsA (9:Nat) (isAggT Tryz.prog (55:Nat)) es34) ∧ ∃ n36 n37 n38,S 22 [AV.agg [iN t.City.Lat,iN t.City.Lon,iN t.City.Zone,iN t.City.Altitude.Lo,iN t.City.Altitude.Hi,iN t.Day,iN t.X,iN t.Y,iN t.Pace,.slc 3 (List.map TRoKind.av t.Kinds),.slc 3 es28,.slc 3 es31,.slc 3 es34]] [] (.tup [iN n36,iN n37,iN n38]) [] ∧ ((n38 != 0) = true → ∃ b42,S 17 [] [] (.bool b42) [] ∧ Q (.bool b42) []) ∧ ((n38 != 0) = false → (decide (IntKind.i64.wrap ((↑es34.length:Int) + (↑es31.length:Int)) > 7) = true → ∃ b44,S 17 [] [] (.bool b44) [] ∧ Q (.bool b44) []) ∧ (decide (IntKind.i64.wrap ((↑es34.length:Int) + (↑es31.length:Int)) > 7) = false → ∃ es44 n45,S 18 [AV.agg [iN t.City.Lat,iN t.City.Lon,iN t.City.Zone,iN t.City.Altitude.Lo,iN t.City.Altitude.Hi,iN t.Day,iN t.X,iN t.Y,iN t.Pace,.slc 3 (List.map TRoKind.av t.Kinds),.slc 3 es28,.slc 3 es31,.slc 3 es34]] [] (.tup [AV.slc 3 es44,iN n45]) [] ∧ ((n45 != 0) = true → Q (.bool false) []) ∧ ((n45 != 0) = false → ∃ n49 n50 n51,S 19 [AV.agg [iN t.City.Lat,iN t.City.Lon,iN t.City.Zone,iN t.City.Altitude.Lo,iN t.City.Altitude.Hi,iN t.Day,iN t.X,iN t.Y,iN t.Pace,.slc 3 (List.map TRoKind.av t.Kinds),.slc 3 es28,.slc 3 es31,.slc 3 es34],.slc 3 es44] [] (.tup [iN n49,iN n50,iN n51]) [] ∧ ((n51 == 0) = true → (decide (n49 ≥ n9) = true → ∃ b57,S 17 [] [] (.bool b57) [] ∧ Q (.bool b57) []) ∧ (decide (n49 ≥ n9) = false → Q (.bool false) [])) ∧ ((n51 == 0) = false → Q (.bool false) []))))) ∧ ((x.Kind.tmod (6:Int) == (1:Int)) = false → ∃ (J23:List AV → Prop),((decide ((↑((chunks (Tryz.prog.cellsOf (60:Nat)) (isAggT Tryz.prog (60:Nat)) (0:Nat) (AV.normL (List.replicate (0:Nat) (ofV (Value.agg #[Value.int IntKind.i64 (0:Int),Value.int IntKind.i64 (0:Int)])).cells).flatten)).length + (List.map TRoSpan.av t.Closures).length):Int) > (0:Int)) = true → (↑((0:Nat) + (List.map TRoSpan.av t.Closures).length):Int) ≠ (0:Int) ∧ ((0:Int) ≤ (IntKind.i64.wrap x.Index).tmod (↑((0:Nat) + (List.map TRoSpan.av t.Closures).length):Int) ∧ (IntKind.i64.wrap x.Index).tmod (↑((0:Nat) + (List.map TRoSpan.av t.Closures).length):Int) < (↑((0:Nat) + (List.map TRoSpan.av t.Closures).length):Int) ∧ (2:Nat) = (2:Nat)) ∧ ((x.Kind.tmod (6:Int) == (2:Int)) = true → ∃ n31,Option.map AV.norm (partA Tryz.prog (3:Nat) ([] ++ List.flatMap AV.cells (List.map TRoSpan.av t.Closures)) ((0:Nat) + ((IntKind.i64.wrap x.Index).tmod (↑((0:Nat) + (List.map TRoSpan.av t.Closures).length):Int)).toNat * (2:Nat) + (0:Nat))) = some (iN n31) ∧ ∃ n33,Option.map AV.norm (partA Tryz.prog (3:Nat) ([] ++ List.flatMap AV.cells (List.map TRoSpan.av t.Closures)) ((0:Nat) + ((IntKind.i64.wrap x.Index).tmod (↑((0:Nat) + (List.map TRoSpan.av t.Closures).length):Int)).toNat * (2:Nat) + (1:Nat))) = some (iN n33) ∧ (0:Nat) + ((IntKind.i64.wrap x.Index).tmod (↑((0:Nat) + (List.map TRoSpan.av t.Closures).length):Int)).toNat * (2:Nat) + (0:Nat) + (1:Nat) ≤ ([] ++ List.flatMap AV.cells (List.map TRoSpan.av t.Closures)).length ∧ (0:Nat) + ((IntKind.i64.wrap x.Index).tmod (↑((0:Nat) + (List.map TRoSpan.av t.Closures).length):Int)).toNat * (2:Nat) + (1:Nat) + (1:Nat) ≤ (setCells ([] ++ List.flatMap AV.cells (List.map TRoSpan.av t.Closures)) ((0:Nat) + ((IntKind.i64.wrap x.Index).tmod (↑((0:Nat) + (List.map TRoSpan.av t.Closures).length):Int)).toNat * (2:Nat) + (0:Nat)) [iN (if IntKind.i64.wrap (n31 - IntKind.i64.wrap x.By) > 0 then IntKind.i64.wrap (n31 - IntKind.i64.wrap x.By) else (0:Int))]).length ∧ t.cs = t.cs ∧ x.cs = x.cs ∧ Same [iN t.City.Lat,iN t.City.Lon,iN t.City.Zone,iN t.City.Altitude.Lo,iN t.City.Altitude.Hi,iN t.Day,iN t.X,iN t.Y,iN t.Pace,.slc 3 (List.map TRoKind.av t.Kinds),.aslc (45:Nat) (0:Nat) ((0:Nat) + (List.map TRoSpan.av t.Closures).length) (2:Nat) (isAggT Tryz.prog (60:Nat)),.aslc (41:Nat) (0:Nat) ((0:Nat) + (List.map TRoLorry.av t.Lorries).length) (6:Nat) (isAggT Tryz.prog (49:Nat)),.slc 3 (List.map TRoJob.av t.Jobs)] ∧ [] ++ List.flatMap AV.cells (List.map TRoLorry.av t.Lorries) = [] ++ List.flatMap AV.cells (List.map TRoLorry.av t.Lorries) ∧ J23 [AV.agg (AV.normL (setCells (setCells ([] ++ List.flatMap AV.cells (List.map TRoSpan.av t.Closures)) ((0:Nat) + ((IntKind.i64.wrap x.Index).tmod (↑((0:Nat) + (List.map TRoSpan.av t.Closures).length):Int)).toNat * (2:Nat) + (0:Nat)) [iN (if IntKind.i64.wrap (n31 - IntKind.i64.wrap x.By) > 0 then IntKind.i64.wrap (n31 - IntKind.i64.wrap x.By) else (0:Int))]) ((0:Nat) + ((IntKind.i64.wrap x.Index).tmod (↑((0:Nat) + (List.map TRoSpan.av t.Closures).length):Int)).toNat * (2:Nat) + (1:Nat)) [iN (if IntKind.i64.wrap (n33 + IntKind.i64.wrap x.By) < 172800 then IntKind.i64.wrap (n33 + IntKind.i64.wrap x.By) else (172800:Int))]))]) ∧ ((x.Kind.tmod (6:Int) == (2:Int)) = false → t.cs = t.cs ∧ x.cs = x.cs ∧ Same [iN t.City.Lat,iN t.City.Lon,iN t.City.Zone,iN t.City.Altitude.Lo,iN t.City.Altitude.Hi,iN t.Day,iN t.X,iN t.Y,iN t.Pace,.slc 3 (List.map TRoKind.av t.Kinds),.aslc (45:Nat) (0:Nat) ((0:Nat) + (List.map TRoSpan.av t.Closures).length) (2:Nat) (isAggT Tryz.prog (60:Nat)),.aslc (41:Nat) (0:Nat) ((0:Nat) + (List.map TRoLorry.av t.Lorries).length) (6:Nat) (isAggT Tryz.prog (49:Nat)),.slc 3 (List.map TRoJob.av t.Jobs)] ∧ [] ++ List.flatMap AV.cells (List.map TRoLorry.av t.Lorries) = [] ++ List.flatMap AV.cells (List.map TRoLorry.av t.Lorries) ∧ J23 [AV.agg (AV.normL ([] ++ List.flatMap AV.cells (List.map TRoSpan.av t.Closures)))])) ∧ (decide ((↑((chunks (Tryz.prog.cellsOf (60:Nat)) (isAggT Tryz.prog (60:Nat)) (0:Nat) (AV.normL (List.replicate (0:Nat) (ofV (Value.agg #[Value.int IntKind.i64 (0:Int),Value.int IntKind.i64 (0:Int)])).cells).flatten)).length + (List.map TRoSpan.av t.Closures).length):Int) > (0:Int)) = false → t.cs = t.cs ∧ x.cs = x.cs ∧ Same [iN t.City.Lat,iN t.City.Lon,iN t.City.Zone,iN t.City.Altitude.Lo,iN t.City.Altitude.Hi,iN t.Day,iN t.X,iN t.Y,iN t.Pace,.slc 3 (List.map TRoKind.av t.Kinds),.aslc (45:Nat) (0:Nat) ((0:Nat) + (List.map TRoSpan.av t.Closures).length) (2:Nat) (isAggT Tryz.prog (60:Nat)),.aslc (41:Nat) (0:Nat) ((0:Nat) + (List.map TRoLorry.av t.Lorries).length) (6:Nat) (isAggT Tryz.prog (49:Nat)),.slc 3 (List.map TRoJob.av t.Jobs)] ∧ [] ++ List.flatMap AV.cells (List.map TRoLorry.av t.Lorries) = [] ++ List.flatMap AV.cells (List.map TRoLorry.av t.Lorries) ∧ J23 [AV.agg (AV.normL ([] ++ List.flatMap AV.cells (List.map TRoSpan.av t.Closures)))])) ∧ ∀ (cs25:List AV),J23 [AV.agg cs25] → (decide ((↑((chunks (Tryz.prog.cellsOf (49:Nat)) (isAggT Tryz.prog (49:Nat)) (0:Nat) (AV.normL (List.replicate (0:Nat) (ofV (Value.agg #[Value.string (ByteArray.mk #[]),Value.int IntKind.i64 (0:Int),Value.int IntKind.i64 (0:Int),Value.int IntKind.i64 (0:Int),Value.int IntKind.i64 (0:Int),Value.int IntKind.i64 (0:Int)])).cells).flatten)).length + (List.map TRoLorry.av t.Lorries).length):Int) > (0:Int)) = true → (↑((0:Nat) + (List.map TRoLorry.av t.Lorries).length):Int) ≠ (0:Int) ∧ ((0:Int) ≤ (IntKind.i64.wrap x.Index).tmod (↑((0:Nat) + (List.map TRoLorry.av t.Lorries).length):Int) ∧ (IntKind.i64.wrap x.Index).tmod (↑((0:Nat) + (List.map TRoLorry.av t.Lorries).length):Int) < (↑((0:Nat) + (List.map TRoLorry.av t.Lorries).length):Int) ∧ (6:Nat) = (6:Nat)) ∧ ((x.Kind.tmod (6:Int) == (3:Int)) = true → ∃ n33,Option.map AV.norm (partA Tryz.prog (3:Nat) ([] ++ List.flatMap AV.cells (List.map TRoLorry.av t.Lorries)) ((0:Nat) + ((IntKind.i64.wrap x.Index).tmod (↑((0:Nat) + (List.map TRoLorry.av t.Lorries).length):Int)).toNat * (6:Nat) + (2:Nat))) = some (iN n33) ∧ (0:Nat) + ((IntKind.i64.wrap x.Index).tmod (↑((0:Nat) + (List.map TRoLorry.av t.Lorries).length):Int)).toNat * (6:Nat) + (2:Nat) + (1:Nat) ≤ ([] ++ List.flatMap AV.cells (List.map TRoLorry.av t.Lorries)).length ∧ (0:Nat) + ((0:Nat) + (List.map TRoSpan.av t.Closures).length) * 2 ≤ (AV.agg cs25).cells.length ∧ ∃ es37,(es37.length = (0:Nat) + (List.map TRoSpan.av t.Closures).length ∧ List.flatMap AV.cells es37 = List.drop (0:Nat) (AV.agg cs25).cells ∧ elemsA (2:Nat) (isAggT Tryz.prog (60:Nat)) es37) ∧ (0:Nat) + ((0:Nat) + (List.map TRoLorry.av t.Lorries).length) * 6 ≤ (setCells ([] ++ List.flatMap AV.cells (List.map TRoLorry.av t.Lorries)) ((0:Nat) + ((IntKind.i64.wrap x.Index).tmod (↑((0:Nat) + (List.map TRoLorry.av t.Lorries).length):Int)).toNat * (6:Nat) + (2:Nat)) [iN (if IntKind.i64.wrap (n33 + IntKind.i64.wrap x.By) < 1000000 then IntKind.i64.wrap (n33 + IntKind.i64.wrap x.By) else (1000000:Int))]).length ∧ ∃ es40,(es40.length = (0:Nat) + (List.map TRoLorry.av t.Lorries).length ∧ List.flatMap AV.cells es40 = List.drop (0:Nat) (setCells ([] ++ List.flatMap AV.cells (List.map TRoLorry.av t.Lorries)) ((0:Nat) + ((IntKind.i64.wrap x.Index).tmod (↑((0:Nat) + (List.map TRoLorry.av t.Lorries).length):Int)).toNat * (6:Nat) + (2:Nat)) [iN (if IntKind.i64.wrap (n33 + IntKind.i64.wrap x.By) < 1000000 then IntKind.i64.wrap (n33 + IntKind.i64.wrap x.By) else (1000000:Int))]) ∧ elemsA (6:Nat) (isAggT Tryz.prog (49:Nat)) es40) ∧ R5qa t S Q es37 es40 n9) ∧ ((x.Kind.tmod (6:Int) == (3:Int)) = false → ((x.Kind.tmod (6:Int) == (4:Int)) = true → ∃ n35,Option.map AV.norm (partA Tryz.prog (3:Nat) ([] ++ List.flatMap AV.cells (List.map TRoLorry.av t.Lorries)) ((0:Nat) + ((IntKind.i64.wrap x.Index).tmod (↑((0:Nat) + (List.map TRoLorry.av t.Lorries).length):Int)).toNat * (6:Nat) + (1:Nat))) = some (iN n35) ∧ (0:Nat) + ((IntKind.i64.wrap x.Index).tmod (↑((0:Nat) + (List.map TRoLorry.av t.Lorries).length):Int)).toNat * (6:Nat) + (1:Nat) + (1:Nat) ≤ ([] ++ List.flatMap AV.cells (List.map TRoLorry.av t.Lorries)).length ∧ (0:Nat) + ((0:Nat) + (List.map TRoSpan.av t.Closures).length) * 2 ≤ (AV.agg cs25).cells.length ∧ ∃ es39,(es39.length = (0:Nat) + (List.map TRoSpan.av t.Closures).length ∧ List.flatMap AV.cells es39 = List.drop (0:Nat) (AV.agg cs25).cells ∧ elemsA (2:Nat) (isAggT Tryz.prog (60:Nat)) es39) ∧ (0:Nat) + ((0:Nat) + (List.map TRoLorry.av t.Lorries).length) * 6 ≤ (setCells ([] ++ List.flatMap AV.cells (List.map TRoLorry.av t.Lorries)) ((0:Nat) + ((IntKind.i64.wrap x.Index).tmod (↑((0:Nat) + (List.map TRoLorry.av t.Lorries).length):Int)).toNat * (6:Nat) + (1:Nat)) [iN (if IntKind.i64.wrap (n35 + IntKind.i64.wrap x.By) < 200 then IntKind.i64.wrap (n35 + IntKind.i64.wrap x.By) else (200:Int))]).length ∧ ∃ es42,(es42.length = (0:Nat) + (List.map TRoLorry.av t.Lorries).length ∧ List.flatMap AV.cells es42 = List.drop (0:Nat) (setCells ([] ++ List.flatMap AV.cells (List.map TRoLorry.av t.Lorries)) ((0:Nat) + ((IntKind.i64.wrap x.Index).tmod (↑((0:Nat) + (List.map TRoLorry.av t.Lorries).length):Int)).toNat * (6:Nat) + (1:Nat)) [iN (if IntKind.i64.wrap (n35 + IntKind.i64.wrap x.By) < 200 then IntKind.i64.wrap (n35 + IntKind.i64.wrap x.By) else (200:Int))]) ∧ elemsA (6:Nat) (isAggT Tryz.prog (49:Nat)) es42) ∧ R5qa t S Q es39 es42 n9) ∧ ((x.Kind.tmod (6:Int) == (4:Int)) = false → ((x.Kind.tmod (6:Int) == (5:Int)) = true → ∃ n37,Option.map AV.norm (partA Tryz.prog (3:Nat) ([] ++ List.flatMap AV.cells (List.map TRoLorry.av t.Lorries)) ((0:Nat) + ((IntKind.i64.wrap x.Index).tmod (↑((0:Nat) + (List.map TRoLorry.av t.Lorries).length):Int)).toNat * (6:Nat) + (4:Nat))) = some (iN n37) ∧ (0:Nat) + ((IntKind.i64.wrap x.Index).tmod (↑((0:Nat) + (List.map TRoLorry.av t.Lorries).length):Int)).toNat * (6:Nat) + (4:Nat) + (1:Nat) ≤ ([] ++ List.flatMap AV.cells (List.map TRoLorry.av t.Lorries)).length ∧ (0:Nat) + ((0:Nat) + (List.map TRoSpan.av t.Closures).length) * 2 ≤ (AV.agg cs25).cells.length ∧ ∃ es41,(es41.length = (0:Nat) + (List.map TRoSpan.av t.Closures).length ∧ List.flatMap AV.cells es41 = List.drop (0:Nat) (AV.agg cs25).cells ∧ elemsA (2:Nat) (isAggT Tryz.prog (60:Nat)) es41) ∧ (0:Nat) + ((0:Nat) + (List.map TRoLorry.av t.Lorries).length) * 6 ≤ (setCells ([] ++ List.flatMap AV.cells (List.map TRoLorry.av t.Lorries)) ((0:Nat) + ((IntKind.i64.wrap x.Index).tmod (↑((0:Nat) + (List.map TRoLorry.av t.Lorries).length):Int)).toNat * (6:Nat) + (4:Nat)) [iN (if IntKind.i64.wrap (n37 + IntKind.i64.wrap x.By) < 172800 then IntKind.i64.wrap (n37 + IntKind.i64.wrap x.By) else (172800:Int))]).length ∧ ∃ es44,(es44.length = (0:Nat) + (List.map TRoLorry.av t.Lorries).length ∧ List.flatMap AV.cells es44 = List.drop (0:Nat) (setCells ([] ++ List.flatMap AV.cells (List.map TRoLorry.av t.Lorries)) ((0:Nat) + ((IntKind.i64.wrap x.Index).tmod (↑((0:Nat) + (List.map TRoLorry.av t.Lorries).length):Int)).toNat * (6:Nat) + (4:Nat)) [iN (if IntKind.i64.wrap (n37 + IntKind.i64.wrap x.By) < 172800 then IntKind.i64.wrap (n37 + IntKind.i64.wrap x.By) else (172800:Int))]) ∧ elemsA (6:Nat) (isAggT Tryz.prog (49:Nat)) es44) ∧ R5qa t S Q es41 es44 n9) ∧ ((x.Kind.tmod (6:Int) == (5:Int)) = false → (0:Nat) + ((0:Nat) + (List.map TRoSpan.av t.Closures).length) * 2 ≤ (AV.agg cs25).cells.length ∧ R5qb t S Q cs25 n9)))) ∧ (decide ((↑((chunks (Tryz.prog.cellsOf (49:Nat)) (isAggT Tryz.prog (49:Nat)) (0:Nat) (AV.normL (List.replicate (0:Nat) (ofV (Value.agg #[Value.string (ByteArray.mk #[]),Value.int IntKind.i64 (0:Int),Value.int IntKind.i64 (0:Int),Value.int IntKind.i64 (0:Int),Value.int IntKind.i64 (0:Int),Value.int IntKind.i64 (0:Int)])).cells).flatten)).length + (List.map TRoLorry.av t.Lorries).length):Int) > (0:Int)) = false → (0:Nat) + ((0:Nat) + (List.map TRoSpan.av t.Closures).length) * 2 ≤ (AV.agg cs25).cells.length ∧ R5qb t S Q cs25 n9))))))
theorem s5 (t:TRoTask) (x:TMore) (v:AV) (O:List (List AV)) (h:R5 t x Sp Fo So (fun r O' => r = v ∧ O' = O)):Sp 5 [t.av,x.av] [] v O :=
 spec_by (w:=⟨[],[],[],[],[]⟩) (k:=0) (keep:=⟨[0,1,2,3,4,5,6,7,9,10,11,12,13,14,26,36,53,57,71,95,108,109,121,133,145,154,182,190],[],[⟨15,[],[],[(45,.tup [])],[],[],[]⟩],[(28,2010000009),(28,2011000009),(28,2012000009)]⟩) (boxes:=[]) mixed (by exact trivial) Tryz.func5 Tryz.call5 rfl rfl rfl (Nat.le_of_ble_eq_true rfl) (by kernel_rfl) h
set_option maxRecDepth 10000 in
theorem c5 (t:TRoTask) (ht:t.Ok) (x:TMore) (hx:x.Ok):Sp 5 [t.av,x.av] [] (.bool true) []:=s5 t x _ _ (by
 have hti:=taskIn_of ht
 unfold R5 R5qb R5qa
 have awake:∃ b:Bool,Sp 17 [] [] (.bool b) [] ∧ (AV.bool b = .bool true ∧ ([]:List (List AV)) = []):=⟨_,awake_ok,rfl,rfl⟩
 refine ⟨_,_,c18 t hti,_,c16 t,fun _ => awake,fun _ => ⟨fun _ => awake,fun h => ?_⟩⟩
 have he:(taskE t).2.2 = 0:=by simpa using h
 have hv:=task_ok he
 have hll:=hv.ll
 have hjl:=hv.jl
 have hcl:=hv.cl
 obtain ⟨_,_,b3,_⟩:=best_fine he
 have hby:=hx.by_
 have hix:=hx.index
 have eL:=elemsOf_map lo_cs lo_len t.Lorries
 have nL:=flat_size lo_cs lo_len t.Lorries
 have oL:=flat_ones lo_cs lo_one t.Lorries
 have eC:=elemsOf_map sp_cs sp_len t.Closures
 have nC:=flat_size sp_cs sp_len t.Closures
 have oC:=flat_ones sp_cs sp_one t.Closures
 have eJ:=elemsOf_map jo_cs jo_len t.Jobs
 have nJ:=flat_size jo_cs jo_len t.Jobs
 have oJ:=flat_ones jo_cs jo_one t.Jobs
 have hlN:x.Lorry.Name.size ≤ 9223372036854775807:=hx.lorry.1
 have hjN:x.Job.Name.size ≤ 9223372036854775807:=hx.job.1
 have tail:∀ {C:List TRoSpan} {L:List TRoLorry} {J:List TRoJob},(∀ y ∈ L,y.Name.size ≤ 9223372036854775807) → (∀ y ∈ J,y.Name.size ≤ 9223372036854775807) → WideC t.Closures C → (J = t.Jobs ∨ ∃ y,J = t.Jobs ++ [y]) → WideL t { t with Closures:=C,Lorries:=L,Jobs:=J } → L.length ≤ t.Lorries.length + 1 →
   TaskIn { t with Closures:=C,Lorries:=L,Jobs:=J } ∧ ((taskE { t with Closures:=C,Lorries:=L,Jobs:=J }).2.2 = 0 → (worthE t (bestP t)).1 ≤ (worthE { t with Closures:=C,Lorries:=L,Jobs:=J } (bestP { t with Closures:=C,Lorries:=L,Jobs:=J })).1) :=
  fun hL hJ hC hJ2 hWL hlen => ⟨taskIn_more hti hL hJ,fun hm => more_law he hm (wide_task hv hC hJ2) hWL hlen⟩
 refine ⟨_,_,_,c19 t hti (bestP t),fun g => (ne_no5 g b3).elim,fun _ => ⟨eL,⟨.inl rfl,by rw [List.length_map]; omega,fun v hv => (by cases hv),oL,rfl⟩,eC,⟨.inl rfl,by rw [List.length_map]; omega,fun v hv => (by cases hv),oC,rfl⟩,fun _ => ?_,fun _ => ⟨fun _ => ?_,fun _ => ?_⟩⟩⟩
 ·-- a lorry more
  have q:=tail (C:=t.Closures) (L:=t.Lorries ++ [x.Lorry]) (J:=t.Jobs) (fun y hy => (List.mem_append.1 hy).elim (hti.lo y) fun h => by rw [List.mem_singleton.1 h]; exact hlN) hti.jo (wideC_refl _) (.inl rfl) wideL_app (by rw [List.length_append]; exact Nat.le_refl _)
  have e2:[] ++ List.flatMap AV.cells (List.map TRoLorry.av t.Lorries) ++ x.Lorry.cs = List.flatMap AV.cells (List.map TRoLorry.av (t.Lorries ++ [x.Lorry])):=by
   rw [List.nil_append,List.map_append,List.flatMap_append]
   simp [lo_cs,AV.cells]
  have n2:=flat_size lo_cs lo_len (t.Lorries ++ [x.Lorry])
  rw [e2]
  refine ⟨fun v hv => by rw [List.mem_singleton.1 hv]; rfl,⟨by rw [List.nil_append,nL,List.length_map]; omega,by rw [List.length_map]; omega,rfl,oL⟩,by rw [List.nil_append,nC,List.length_map]; omega,_,named_es sp_cs sp_len agg60m t.Closures (by rw [List.length_map]; omega) (List.nil_append _),by rw [n2,List.length_map,List.length_append]; show _ ≤ (_ + 1) * 6; omega,_,named_es lo_cs lo_len agg49m (t.Lorries ++ [x.Lorry]) (by rw [List.length_map,List.length_append]; show _ = _ + 1; omega) rfl,?_⟩
  exact tail5 (m:={ t with Closures:=t.Closures,Lorries:=t.Lorries ++ [x.Lorry],Jobs:=t.Jobs }) q.1 q.2
 ·-- a job more
  have q:=tail (C:=t.Closures) (L:=t.Lorries) (J:=t.Jobs ++ [x.Job]) hti.lo (fun y hy => (List.mem_append.1 hy).elim (hti.jo y) fun h => by rw [List.mem_singleton.1 h]; exact hjN) (wideC_refl _) (.inr ⟨_,rfl⟩) wideL_same (Nat.le_succ _)
  have e2:[] ++ List.flatMap AV.cells (List.map TRoJob.av t.Jobs) ++ x.Job.cs = List.flatMap AV.cells (List.map TRoJob.av (t.Jobs ++ [x.Job])):=by
   rw [List.nil_append,List.map_append,List.flatMap_append]
   simp [jo_cs,AV.cells]
  have n2:=flat_size jo_cs jo_len (t.Jobs ++ [x.Job])
  rw [e2]
  refine ⟨eJ,⟨.inl rfl,by rw [List.length_map]; omega,fun v hv => (by cases hv),oJ,rfl⟩,fun v hv => by rw [List.mem_singleton.1 hv]; rfl,⟨by rw [List.nil_append,nJ,List.length_map]; omega,by rw [List.length_map]; omega,rfl,oJ⟩,by rw [List.nil_append,nC,List.length_map]; omega,_,named_es sp_cs sp_len agg60m t.Closures (by rw [List.length_map]; omega) (List.nil_append _),by rw [List.nil_append,nL,List.length_map]; omega,_,named_es lo_cs lo_len agg49m t.Lorries (by rw [List.length_map]; omega) (List.nil_append _),by rw [n2,List.length_map,List.length_append]; show _ ≤ (_ + 1) * 9; omega,_,named_es jo_cs jo_len agg55m (t.Jobs ++ [x.Job]) (by rw [List.length_map,List.length_append]; show _ = _ + 1; omega) rfl,?_⟩
  exact tail5 (m:={ t with Closures:=t.Closures,Lorries:=t.Lorries,Jobs:=t.Jobs ++ [x.Job] }) q.1 q.2
 ·-- longer closures, better lorries
  refine ⟨fun vs => ∃ C:List TRoSpan,vs = [.agg (List.flatMap AV.cells (List.map TRoSpan.av C))] ∧ WideC t.Closures C,⟨fun h0 => ?_,fun _ => ⟨rfl,rfl,rfl,rfl,t.Closures,by rw [List.nil_append,span_norm],wideC_refl _⟩⟩,?_⟩
  ·have h0:0 < t.Closures.length:=by
    have:=of_decide_eq_true h0
    rw [chunks_zero,List.length_map] at this
    omega
   have hW:IntKind.i64.wrap x.Index = x.Index:=i64 (by omega)
   obtain ⟨k,hk,hkl⟩:∃ k:Nat,(IntKind.i64.wrap x.Index).tmod ((0 + (List.map TRoSpan.av t.Closures).length:Nat):Int) = (k:Int) ∧ k < t.Closures.length:=by
    rw [hW,List.length_map,Nat.zero_add,Int.tmod_eq_emod_of_nonneg (by omega)]
    have:=Int.emod_nonneg x.Index (show ((t.Closures.length:Nat):Int) ≠ 0 by omega)
    have:=Int.emod_lt_of_pos x.Index (show (0:Int) < (t.Closures.length:Nat) by omega)
    exact ⟨(x.Index % (t.Closures.length:Nat)).toNat,by omega,by omega⟩
   have hidx:t.Closures[k]? = some (t.Closures.getD k TRoSpan.zero):=by rw [List.getD_eq_getElem?_getD,List.getElem?_eq_getElem hkl]; rfl
   have hmem:t.Closures.getD k TRoSpan.zero ∈ t.Closures:=List.mem_of_getElem? hidx
   have hwild:=hv.clos _ hmem
   unfold wildS at hwild
   rw [Bool.or_eq_false_iff] at hwild
   have w1:=outB_false.1 hwild.1
   have w2:=outB_false.1 hwild.2
   rw [hk]
   refine ⟨by rw [List.length_map]; omega,⟨by omega,by rw [List.length_map]; omega,by trivial⟩,fun _ => ?_,fun _ => ⟨rfl,rfl,rfl,rfl,t.Closures,by rw [List.nil_append,span_norm],wideC_refl _⟩⟩
   have a0:([] ++ List.flatMap AV.cells (List.map TRoSpan.av t.Closures))[0 + ((k:Int)).toNat * 2 + 0]? = some (.int .i64 (t.Closures.getD k TRoSpan.zero).From):=by
    rw [List.nil_append,Int.toNat_natCast,show 0 + k * 2 + 0 = k * 2 + 0 by omega,flat_nth sp_cs sp_len hidx (by omega)]; rfl
   have a1:([] ++ List.flatMap AV.cells (List.map TRoSpan.av t.Closures))[0 + ((k:Int)).toNat * 2 + 1]? = some (.int .i64 (t.Closures.getD k TRoSpan.zero).Until):=by
    rw [List.nil_append,Int.toNat_natCast,show 0 + k * 2 + 1 = k * 2 + 1 by omega,flat_nth sp_cs sp_len hidx (by omega)]; rfl
   refine ⟨_,int_at a0,_,int_at a1,by rw [List.nil_append,nC]; omega,?_,rfl,rfl,rfl,rfl,?_⟩
   ·rw [setCells_one _ (by rw [List.nil_append,nC]; omega),List.length_set,List.nil_append,nC]; omega
   generalize t.Closures.getD k TRoSpan.zero = s at *
   obtain ⟨F,U⟩:=s
   dsimp only at *
   rw [i64 (n:=x.By) (by omega),i64 (n:=F - x.By) (by omega),i64 (n:=U + x.By) (by omega)]
   generalize hf:(if F - x.By > 0 then F - x.By else 0) = f
   generalize hu:(if U + x.By < 172800 then U + x.By else 172800) = u
   have hfF:f ≤ F:=by rw [← hf]; split <;> omega
   have huU:U ≤ u:=by rw [← hu]; split <;> omega
   have e1:setCells ([] ++ List.flatMap AV.cells (List.map TRoSpan.av t.Closures)) (0 + ((k:Int)).toNat * 2 + 0) [AV.int .i64 f] = List.flatMap AV.cells (List.map TRoSpan.av (t.Closures.set k ⟨f,U⟩)):=by
    rw [List.nil_append,Int.toNat_natCast,show 0 + k * 2 + 0 = k * 2 + 0 by omega]
    exact setCells_at sp_cs sp_len hidx (by omega) rfl
   have e2:setCells (List.flatMap AV.cells (List.map TRoSpan.av (t.Closures.set k ⟨f,U⟩))) (0 + ((k:Int)).toNat * 2 + 1) [AV.int .i64 u] = List.flatMap AV.cells (List.map TRoSpan.av ((t.Closures.set k ⟨f,U⟩).set k ⟨f,u⟩)):=by
    rw [Int.toNat_natCast,show 0 + k * 2 + 1 = k * 2 + 1 by omega]
    exact setCells_at sp_cs sp_len (x:=⟨f,U⟩) (List.getElem?_set_self hkl) (by omega) rfl
   rw [e1,e2,span_norm,List.set_set]
   refine ⟨t.Closures.set k ⟨f,u⟩,rfl,List.length_set ..,fun i hi => ?_⟩
   rw [getD_set hkl]
   by_cases hki:k = i
   ·rw [if_pos hki,← hki,List.getD_eq_getElem?_getD,hidx]; exact ⟨hfF,huU⟩
   ·rw [if_neg hki]; exact ⟨Int.le_refl _,Int.le_refl _⟩
  rintro cs25 ⟨C,hC,hwC⟩
  cases hC
  have nC2:=flat_size sp_cs sp_len C
  have hCl:=hwC.1
  have stay:∀ {N:Int},_:=fun {N} => tail5 (m:={ t with Closures:=C,Lorries:=t.Lorries,Jobs:=t.Jobs }) (N:=N) (tail (C:=C) (L:=t.Lorries) (J:=t.Jobs) hti.lo hti.jo hwC (.inl rfl) wideL_same (Nat.le_succ _)).1 (tail (C:=C) (L:=t.Lorries) (J:=t.Jobs) hti.lo hti.jo hwC (.inl rfl) wideL_same (Nat.le_succ _)).2
  have cl1:0 + (0 + (List.map TRoSpan.av t.Closures).length) * 2 ≤ (AV.agg (List.flatMap AV.cells (List.map TRoSpan.av C))).cells.length:=by
   show _ ≤ (List.flatMap AV.cells (List.map TRoSpan.av C)).length
   rw [nC2,List.length_map,hCl]; omega
  have cl2:(List.map TRoSpan.av C).length = 0 + (List.map TRoSpan.av t.Closures).length ∧ List.flatMap AV.cells (List.map TRoSpan.av C) = List.drop 0 (AV.agg (List.flatMap AV.cells (List.map TRoSpan.av C))).cells ∧ elemsA 2 (isAggT Tryz.prog 60) (List.map TRoSpan.av C) :=
   named_es sp_cs sp_len agg60m C (by rw [List.length_map]; omega) rfl
  have ll1:0 + (0 + (List.map TRoLorry.av t.Lorries).length) * 6 ≤ ([] ++ List.flatMap AV.cells (List.map TRoLorry.av t.Lorries)).length:=by rw [List.nil_append,nL,List.length_map]; omega
  have ll2:(List.map TRoLorry.av t.Lorries).length = 0 + (List.map TRoLorry.av t.Lorries).length ∧ List.flatMap AV.cells (List.map TRoLorry.av t.Lorries) = List.drop 0 ([] ++ List.flatMap AV.cells (List.map TRoLorry.av t.Lorries)) ∧ elemsA 6 (isAggT Tryz.prog 49) (List.map TRoLorry.av t.Lorries) :=
   named_es lo_cs lo_len agg49m t.Lorries (by rw [List.length_map]; omega) (List.nil_append _)
  refine ⟨fun h0 => ?_,fun _ => ⟨cl1,_,cl2,ll1,_,ll2,stay⟩⟩
  have h0:0 < t.Lorries.length:=by
   have:=of_decide_eq_true h0
   rw [chunks_zero,List.length_map] at this
   omega
  have hW:IntKind.i64.wrap x.Index = x.Index:=i64 (by omega)
  obtain ⟨k,hk,hkl⟩:∃ k:Nat,(IntKind.i64.wrap x.Index).tmod ((0 + (List.map TRoLorry.av t.Lorries).length:Nat):Int) = (k:Int) ∧ k < t.Lorries.length:=by
   rw [hW,List.length_map,Nat.zero_add,Int.tmod_eq_emod_of_nonneg (by omega)]
   have:=Int.emod_nonneg x.Index (show ((t.Lorries.length:Nat):Int) ≠ 0 by omega)
   have:=Int.emod_lt_of_pos x.Index (show (0:Int) < (t.Lorries.length:Nat) by omega)
   exact ⟨(x.Index % (t.Lorries.length:Nat)).toNat,by omega,by omega⟩
  have hidx:=lor_idx5 hkl
  have hmem:lorAt t k ∈ t.Lorries:=List.mem_of_getElem? hidx
  obtain ⟨l1,l2,l3,l4,l5⟩:=lor_ok hv hmem
  have hnm:=hti.lo _ hmem
  rw [hk]
  have at_:∀ {j:Nat} {n:Int},j < 6 → (lorAt t k).cs[j]? = some (.int .i64 n) → ([] ++ List.flatMap AV.cells (List.map TRoLorry.av t.Lorries))[0 + ((k:Int)).toNat * 6 + j]? = some (.int .i64 n):=fun {j n} hj h => by
   rw [List.nil_append,Int.toNat_natCast,show 0 + k * 6 + j = k * 6 + j by omega,flat_nth lo_cs lo_len hidx hj,h]
  have set_:∀ {j:Nat} {v:AV} {y:TRoLorry},j < 6 → y.cs = (lorAt t k).cs.set j v → setCells ([] ++ List.flatMap AV.cells (List.map TRoLorry.av t.Lorries)) (0 + ((k:Int)).toNat * 6 + j) [v] = List.flatMap AV.cells (List.map TRoLorry.av (t.Lorries.set k y)):=fun {j v y} hj h => by
   rw [List.nil_append,Int.toNat_natCast,show 0 + k * 6 + j = k * 6 + j by omega]
   exact setCells_at lo_cs lo_len hidx hj h
  have room:∀ {j:Nat},j < 6 → 0 + ((k:Int)).toNat * 6 + j + 1 ≤ ([] ++ List.flatMap AV.cells (List.map TRoLorry.av t.Lorries)).length:=fun {j} hj => by rw [List.nil_append,nL]; omega
  have better:∀ {y:TRoLorry},betterL (lorAt t k) y → y.Name = (lorAt t k).Name → ∀ {N:Int},(0 + (0 + (List.map TRoLorry.av t.Lorries).length) * 6 ≤ (List.flatMap AV.cells (List.map TRoLorry.av (t.Lorries.set k y))).length) ∧ ((List.map TRoLorry.av (t.Lorries.set k y)).length = 0 + (List.map TRoLorry.av t.Lorries).length ∧ List.flatMap AV.cells (List.map TRoLorry.av (t.Lorries.set k y)) = List.drop 0 (List.flatMap AV.cells (List.map TRoLorry.av (t.Lorries.set k y))) ∧ elemsA 6 (isAggT Tryz.prog 49) (List.map TRoLorry.av (t.Lorries.set k y))) ∧ _:=fun {y} hb hn {N} => by
   have n3:=flat_size lo_cs lo_len (t.Lorries.set k y)
   have q:=tail (C:=C) (L:=t.Lorries.set k y) (J:=t.Jobs) (fun z hz => (List.mem_or_eq_of_mem_set hz).elim (hti.lo z) fun h => by rw [h,hn]; exact hnm) hti.jo hwC (.inl rfl) (wideL_set hkl hb) (by rw [List.length_set]; exact Nat.le_succ _)
   refine ⟨by rw [n3,List.length_map,List.length_set]; omega,named_es lo_cs lo_len agg49m (t.Lorries.set k y) (by rw [List.length_map,List.length_set]; omega) rfl,tail5 (m:={ t with Closures:=C,Lorries:=t.Lorries.set k y,Jobs:=t.Jobs }) (N:=N) q.1 q.2⟩
  refine ⟨by rw [List.length_map]; omega,⟨by omega,by rw [List.length_map]; omega,by trivial⟩,fun _ => ?_,fun _ => ⟨fun _ => ?_,fun _ => ⟨fun _ => ?_,fun _ => ⟨cl1,_,cl2,ll1,_,ll2,stay⟩⟩⟩⟩
  ·refine ⟨_,int_at (at_ (j:=2) (n:=(lorAt t k).Room) (by omega) rfl),room (by omega),cl1,_,cl2,?_⟩
   rw [i64 (n:=x.By) (by omega),i64 (n:=(lorAt t k).Room + x.By) (by omega)]
   generalize hf:(if (lorAt t k).Room + x.By < 1000000 then (lorAt t k).Room + x.By else 1000000) = f
   have hF:(lorAt t k).Room ≤ f:=by rw [← hf]; split <;> omega
   rw [set_ (j:=2) (y:={ lorAt t k with Room:=f }) (by omega) rfl]
   obtain ⟨q1,q2,q3⟩:=better (y:={ lorAt t k with Room:=f }) ⟨Int.le_refl _,hF,Int.le_refl _,Int.le_refl _⟩ rfl
   exact ⟨q1,_,q2,q3⟩
  ·refine ⟨_,int_at (at_ (j:=1) (n:=(lorAt t k).Lift) (by omega) rfl),room (by omega),cl1,_,cl2,?_⟩
   rw [i64 (n:=x.By) (by omega),i64 (n:=(lorAt t k).Lift + x.By) (by omega)]
   generalize hf:(if (lorAt t k).Lift + x.By < 200 then (lorAt t k).Lift + x.By else 200) = f
   have hF:(lorAt t k).Lift ≤ f:=by rw [← hf]; split <;> omega
   rw [set_ (j:=1) (y:={ lorAt t k with Lift:=f }) (by omega) rfl]
   obtain ⟨q1,q2,q3⟩:=better (y:={ lorAt t k with Lift:=f }) ⟨Int.le_refl _,Int.le_refl _,hF,Int.le_refl _⟩ rfl
   exact ⟨q1,_,q2,q3⟩
  ·refine ⟨_,int_at (at_ (j:=4) (n:=(lorAt t k).Until) (by omega) rfl),room (by omega),cl1,_,cl2,?_⟩
   rw [i64 (n:=x.By) (by omega),i64 (n:=(lorAt t k).Until + x.By) (by omega)]
   generalize hf:(if (lorAt t k).Until + x.By < 172800 then (lorAt t k).Until + x.By else 172800) = f
   have hF:(lorAt t k).Until ≤ f:=by rw [← hf]; split <;> omega
   rw [set_ (j:=4) (y:={ lorAt t k with Until:=f }) (by omega) rfl]
   obtain ⟨q1,q2,q3⟩:=better (y:={ lorAt t k with Until:=f }) ⟨Int.le_refl _,Int.le_refl _,Int.le_refl _,hF⟩ rfl
   exact ⟨q1,_,q2,q3⟩)
end Go.Proofs.YtdeeekgohhkdbaaGreatDoor
