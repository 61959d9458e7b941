/- Plain: one field of one of some structures in memory is rewritten. -/
import Derived.Test.YtdeeekgohhkdbaaGreatDoorT
namespace Go.Proofs.YtdeeekgohhkdbaaGreatDoor
open Go.RowKit
section
variable {α:Type} {f:α → AV} {g:α → List AV} {k:Nat}
theorem setCells_one {cs:List AV} {off:Nat} (v:AV) (h:off < cs.length):setCells cs off [v] = cs.set off v:=by
 unfold setCells
 rw [List.set_eq_take_append_cons_drop,if_pos h]; rfl
theorem flat_size (hf:∀ x,f x = .agg (g x)) (hk:∀ x,(g x).length = k) (l:List α):((l.map f).flatMap AV.cells).length = l.length * k:=by
 induction l with
 | nil => simp
 | cons y r ih => simp only [List.map_cons,List.flatMap_cons,List.length_append,ih,hf,AV.cells,hk,List.length_cons,Nat.succ_mul,Nat.add_comm]
theorem flat_ones (hf:∀ x,f x = .agg (g x)) (ho:∀ x,ones (g x) = true) (l:List α):ones ((l.map f).flatMap AV.cells) = true:=by
 unfold ones
 rw [List.all_eq_true]
 intro v hv
 obtain ⟨a,ha,hva⟩:=List.mem_flatMap.1 hv
 obtain ⟨x,_,rfl⟩:=List.mem_map.1 ha
 rw [hf] at hva
 exact List.all_eq_true.1 (ho x) v hva
theorem flat_nth (hf:∀ x,f x = .agg (g x)) (hk:∀ x,(g x).length = k):∀ {l:List α} {i j:Nat} {x:α},l[i]? = some x → j < k → ((l.map f).flatMap AV.cells)[i * k + j]? = (g x)[j]?
 | [],i,j,x,hi,_ => by simp at hi
 | y :: r,0,j,x,hi,hj => by
  simp only [List.getElem?_cons_zero,Option.some.injEq] at hi
  subst hi
  simp only [List.map_cons,List.flatMap_cons,hf,AV.cells,Nat.zero_mul,Nat.zero_add]
  rw [List.getElem?_append_left (by rw [hk]; exact hj)]
 | y :: r,i + 1,j,x,hi,hj => by
  simp only [List.getElem?_cons_succ] at hi
  simp only [List.map_cons,List.flatMap_cons]
  have e:(f y).cells.length = k:=by rw [hf]; exact hk y
  rw [List.getElem?_append_right (by rw [e,Nat.succ_mul]; omega),e,show (i + 1) * k + j - k = i * k + j by rw [Nat.succ_mul]; omega,flat_nth hf hk hi hj]
theorem set_at (hf:∀ x,f x = .agg (g x)) (hk:∀ x,(g x).length = k):∀ {l:List α} {i j:Nat} {x x':α} {v:AV},l[i]? = some x → j < k → g x' = (g x).set j v →
  ((l.map f).flatMap AV.cells).set (i * k + j) v = ((l.set i x').map f).flatMap AV.cells
 | [],i,j,x,x',v,hi,_,_ => by simp at hi
 | y :: r,0,j,x,x',v,hi,hj,hx => by
  simp only [List.getElem?_cons_zero,Option.some.injEq] at hi
  subst hi
  simp only [List.map_cons,List.flatMap_cons,List.set_cons_zero,hf,AV.cells,Nat.zero_mul,Nat.zero_add]
  rw [List.set_append,if_pos (by rw [hk]; exact hj),hx]
 | y :: r,i + 1,j,x,x',v,hi,hj,hx => by
  simp only [List.getElem?_cons_succ] at hi
  simp only [List.map_cons,List.flatMap_cons,List.set_cons_succ]
  have e:(f y).cells.length = k:=by rw [hf]; exact hk y
  rw [List.set_append,if_neg (by rw [e,Nat.succ_mul]; omega),e,show (i + 1) * k + j - k = i * k + j by rw [Nat.succ_mul]; omega,set_at hf hk hi hj hx]
theorem setCells_at (hf:∀ x,f x = .agg (g x)) (hk:∀ x,(g x).length = k) {l:List α} {i j:Nat} {x x':α} {v:AV} (hi:l[i]? = some x) (hj:j < k) (hx:g x' = (g x).set j v) :
  setCells ((l.map f).flatMap AV.cells) (i * k + j) [v] = ((l.set i x').map f).flatMap AV.cells:=by
 have hl:i < l.length:=(List.getElem?_eq_some_iff.1 hi).1
 rw [setCells_one _ (by
  rw [flat_size hf hk]
  have:(i + 1) * k ≤ l.length * k:=Nat.mul_le_mul_right _ hl
  rw [Nat.succ_mul] at this; omega)]
 exact set_at hf hk hi hj hx
theorem elemsA_map (hf:∀ x,f x = .agg (g x)) (hk:∀ x,(g x).length = k) (l:List α):elemsA k true (l.map f):=by
 intro v hv
 obtain ⟨x,_,rfl⟩:=List.mem_map.1 hv
 exact ⟨_,hf x,hk x⟩
theorem elemsOf_map (hf:∀ x,f x = .agg (g x)) (hk:∀ x,(g x).length = k) (l:List α):elemsOf k (l.map f):=by
 intro v hv
 obtain ⟨x,_,rfl⟩:=List.mem_map.1 hv
 rw [hf]; exact hk x
end
end Go.Proofs.YtdeeekgohhkdbaaGreatDoor
