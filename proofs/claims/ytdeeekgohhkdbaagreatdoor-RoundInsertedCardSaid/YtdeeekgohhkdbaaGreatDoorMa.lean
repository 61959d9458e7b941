/- Plain: the search of the best programme: the program's and the document's are the same. -/
import Derived.Test.YtdeeekgohhkdbaaGreatDoorPd
namespace Go.Proofs.YtdeeekgohhkdbaaGreatDoor
def uP:List TRoAsset->List Int->Int->Int
 | x::l,q::per,i=>(if q=i then x.Cost else 0)+uP l per i
 | _,_,_=>0
def PO (p:TRoProgramme) (per:List Int):Bool:=(List.range p.Budgets.length).all fun i=>decide (uP p.Assets per i<=p.Budgets.getD i 0)
theorem Wp {x:TRoAsset} {r:List TRoAsset}:∀ (pre:List TRoAsset) (per:List Int),pre.length=per.length->∀ q i:Int,uP (pre++x::r) (per++[q]) i=uP (pre++x::r) per i+if q=i then x.Cost else 0:=by
 intro pre
 induction pre with
 | nil =>
  intro per hl q i
  cases per with
  | nil=>simp [uP]
  | cons a b=>simp at hl
 | cons y pre ih =>
  intro per hl q i
  cases per with
  | nil=>simp at hl
  | cons a b =>
   simp only [List.cons_append,uP]
   rw [ih b (by simpa using hl)]
   omega
theorem PQ {p:TRoProgramme} {per:List Int}:PO p per=true↔∀ i,i<p.Budgets.length->uP p.Assets per i<=p.Budgets.getD i 0:=by
 unfold PO
 rw [List.all_eq_true]
 constructor
 ·intro h i hi; exact zt_ (h i (List.mem_range.2 hi))
 ·intro h i hi; exact decide_eq_true (h i (List.mem_range.1 hi))
structure um (p:TRoProgramme) (per left:List Int):Prop where
 len:left.length=p.Budgets.length
 eq:∀ i,i<p.Budgets.length->left.getD i 0=p.Budgets.getD i 0-uP p.Assets per i
 pos:∀ i,i<p.Budgets.length->0<=left.getD i 0
theorem um.keeps {p:TRoProgramme} {per left:List Int} (h:um p per left):PO p per=true:=PQ.2 fun i hi=>by
 have h1:=h.eq i hi
 have h2:=h.pos i hi
 omega
theorem SZ (l:List Int) (i j:Nat) (v:Int) (hi:i<l.length):(l.set i v).getD j 0=if j=i then v else l.getD j 0:=by
 simp only [List.getD,List.getElem?_set]
 by_cases h:i=j
 ·subst h; simp [hi]
 ·rw [if_neg h,if_neg (fun h'=>h h'.symm)]
theorem um.none {p:TRoProgramme} {pre r:List TRoAsset} {x:TRoAsset} {per left:List Int} (h:um p per left) (hp:p.Assets=pre++x::r) (hl:pre.length=per.length):um p (per++[-1]) left:=by
 refine ⟨h.len,fun i hi=>?_,h.pos⟩
 rw [hp,Wp pre per hl,<- hp,if_neg (by omega),h.eq i hi]; omega
theorem um.some {p:TRoProgramme} {pre r:List TRoAsset} {x:TRoAsset} {per left:List Int} (h:um p per left) (hp:p.Assets=pre++x::r) (hl:pre.length=per.length) {i:Nat} (hi:i<p.Budgets.length) (hc:¬ left.getD i 0<x.Cost) :
  um p (per++[(i:Int)]) (left.set i (left.getD i 0-x.Cost)):=by
 have hil:i<left.length:=by rw [h.len]; exact hi
 refine ⟨by rw [List.length_set]; exact h.len,fun j hj=>?_,fun j hj=>?_⟩
 ·rw [hp,Wp pre per hl,<- hp,SZ _ _ _ _ hil]
  by_cases hji:j=i
  ·subst hji; rw [if_pos rfl,if_pos rfl,h.eq j hj]; omega
  ·rw [if_neg hji,if_neg (by omega),h.eq j hj]; omega
 ·rw [SZ _ _ _ _ hil]
  by_cases hji:j=i
  ·subst hji; rw [if_pos rfl]; omega
  ·rw [if_neg hji]; exact h.pos j hj
end Go.Proofs.YtdeeekgohhkdbaaGreatDoor
