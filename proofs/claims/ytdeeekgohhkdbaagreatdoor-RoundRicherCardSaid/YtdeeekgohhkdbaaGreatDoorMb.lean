/- Plain: what the search of programmes finds is the best; no bound is below it; greater budgets. -/
import Derived.Test.YtdeeekgohhkdbaaGreatDoorMa
namespace Go.Proofs.YtdeeekgohhkdbaaGreatDoor
inductive Feas (p:TRoProgramme):List TRoAsset → List Int → List Int → Int → Prop
 | nil (left):Feas p [] left [] 0
 | none {x r left per v}:Feas p r left per v → Feas p (x :: r) left (-1 :: per) v
 | some {x r left per v} (i:Nat) (hi:i < left.length) (hc:¬ left.getD i 0 < x.Cost):Feas p r (left.set i (left.getD i 0 - x.Cost)) per v → Feas p (x :: r) left ((i:Int) :: per) (benE p x i + v)
theorem chN_spec (p:TRoProgramme):∀ (xs:List TRoAsset) (now left:List Int) (so:Int) (st:ChK),
  st.1 ≤ (chN p xs now left so st).1 ∧ (∀ per v,Feas p xs left per v → so + v ≤ (chN p xs now left so st).1) ∧ (chN p xs now left so st = st ∨ ∃ per v,Feas p xs left per v ∧ chN p xs now left so st = (so + v,now ++ per)):=by
 intro xs
 induction xs with
 | nil =>
  intro now left so st
  simp only [chN]
  refine ⟨?_,fun per v h => ?_,?_⟩
  ·split <;> omega
  ·cases h
   split <;> omega
  ·split
   ·exact .inr ⟨[],0,.nil _,by simp⟩
   ·exact .inl rfl
 | cons x r ih =>
  intro now left so st
  simp only [chN]
  obtain ⟨a1,a2,a3⟩:=ih (now ++ [-1]) left so st
  generalize chN p r (now ++ [-1]) left so st = st0 at *
  have key:∀ (n i:Nat) (s:ChK),n + i = left.length →
    let s':=chL x.Cost left (fun i => chN p r (now ++ [(i:Int)]) (left.set i (left.getD i 0 - x.Cost)) (so + benE p x i)) n i s
    s.1 ≤ s'.1 ∧ (∀ j per v,i ≤ j → j < left.length → ¬ left.getD j 0 < x.Cost → Feas p r (left.set j (left.getD j 0 - x.Cost)) per v → so + benE p x j + v ≤ s'.1) ∧
     (s' = s ∨ ∃ j per v,j < left.length ∧ ¬ left.getD j 0 < x.Cost ∧ Feas p r (left.set j (left.getD j 0 - x.Cost)) per v ∧ s' = (so + benE p x j + v,now ++ [(j:Int)] ++ per)):=by
   intro n
   induction n with
   | zero => intro i s hn; exact ⟨Int.le_refl _,fun j per v h1 h2 => absurd h2 (by omega),.inl rfl⟩
   | succ n ihn =>
    intro i s hn
    simp only [chL]
    by_cases hc:left.getD i 0 < x.Cost
    ·rw [if_pos hc]
     obtain ⟨b1,b2,b3⟩:=ihn (i + 1) s (by omega)
     refine ⟨b1,fun j per v h1 h2 h3 h4 => ?_,b3⟩
     rcases Nat.lt_or_eq_of_le h1 with h | rfl
     ·exact b2 j per v h h2 h3 h4
     ·exact absurd hc h3
    ·rw [if_neg hc]
     obtain ⟨c1,c2,c3⟩:=ih (now ++ [(i:Int)]) (left.set i (left.getD i 0 - x.Cost)) (so + benE p x i) s
     generalize chN p r (now ++ [(i:Int)]) (left.set i (left.getD i 0 - x.Cost)) (so + benE p x i) s = s1 at *
     obtain ⟨b1,b2,b3⟩:=ihn (i + 1) s1 (by omega)
     refine ⟨Int.le_trans c1 b1,fun j per v h1 h2 h3 h4 => ?_,?_⟩
     ·rcases Nat.lt_or_eq_of_le h1 with h | rfl
      ·exact b2 j per v h h2 h3 h4
      ·exact Int.le_trans (c2 per v h4) b1
     ·rcases b3 with b3 | b3
      ·rw [b3]
       rcases c3 with c3 | ⟨per,v,h1,h2⟩
       ·exact .inl c3
       ·exact .inr ⟨i,per,v,by omega,hc,h1,h2⟩
      ·exact .inr b3
  obtain ⟨b1,b2,b3⟩:=key left.length 0 st0 (by omega)
  refine ⟨Int.le_trans a1 b1,fun per v h => ?_,?_⟩
  ·cases h with
   | none h => exact Int.le_trans (a2 _ _ h) b1
   | some i hi hc h => have:=b2 i _ _ (by omega) hi hc h; omega
  ·rcases b3 with b3 | ⟨j,per,v,h1,h2,h3,h4⟩
   ·rw [b3]
    rcases a3 with a3 | ⟨per,v,h1,h2⟩
    ·exact .inl a3
    ·exact .inr ⟨_,_,.none h1,by rw [h2]; simp⟩
   ·exact .inr ⟨_,_,.some j h1 h2 h3,by rw [h4]; simp; omega⟩
theorem feas_none (p:TRoProgramme) (left:List Int):∀ xs:List TRoAsset,∃ per,Feas p xs left per 0:=by
 intro xs
 induction xs with
 | nil => exact ⟨_,.nil _⟩
 | cons x r ih => obtain ⟨per,h⟩:=ih; exact ⟨_,.none h⟩
theorem choose_best (p:TRoProgramme):(∀ per v,Feas p p.Assets p.Budgets per v → v ≤ (chooseN p).1) ∧ 0 ≤ (chooseN p).1 ∧ Feas p p.Assets p.Budgets (chooseN p).2 (chooseN p).1:=by
 obtain ⟨-,h2,h3⟩:=chN_spec p p.Assets [] p.Budgets 0 (-1,[])
 obtain ⟨per0,h0⟩:=feas_none p p.Budgets p.Assets
 have h4:=h2 _ _ h0
 unfold chooseN
 refine ⟨fun per v h => by have:=h2 _ _ h; omega,by omega,?_⟩
 rcases h3 with h3 | ⟨per,v,h5,h6⟩
 ·rw [h3] at h4; simp at h4
 ·rw [h6]; simpa using h5
def sumN:List Int → List Int → Int
 | n :: r,b :: s => n * b + sumN r s
 | _,_ => 0
def mostN (p:TRoProgramme) (x:TRoAsset):List Int → Nat → Int → Int
 | [],_,a => a
 | n :: r,i,a => mostN p x r (i + 1) (max a (1000 * benE p x i - n * x.Cost))
def allN (p:TRoProgramme) (P:List Int):List TRoAsset → Int
 | [] => 0
 | x :: r => mostN p x P 0 0 + allN p P r
theorem sumN_set:∀ (P left:List Int) (i:Nat) (v:Int),i < left.length → sumN P (left.set i v) = sumN P left + P.getD i 0 * (v - left.getD i 0):=by
 intro P
 induction P with
 | nil => intro left i v _; simp [sumN]
 | cons n r ih =>
  intro left i v hi
  cases left with
  | nil => simp at hi
  | cons b s =>
   cases i with
   | zero => simp only [List.set_cons_zero,sumN,List.getD_cons_zero]; grind
   | succ i =>
    simp only [List.set_cons_succ,sumN,List.getD_cons_succ]
    rw [ih s i v (by simpa using hi)]; omega
end Go.Proofs.YtdeeekgohhkdbaaGreatDoor
