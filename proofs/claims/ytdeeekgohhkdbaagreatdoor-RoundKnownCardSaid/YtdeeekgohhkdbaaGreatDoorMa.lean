/- Plain: the search of the best programme: the program's and the document's are the same. -/
import Derived.Test.YtdeeekgohhkdbaaGreatDoorPd
namespace Go.Proofs.YtdeeekgohhkdbaaGreatDoor
abbrev ChK:=Int × List Int
def chL {α:Type} (cost:Int) (left:List Int) (g:Nat->α->α):Nat->Nat->α->α
 |0,_,st=>st
 |n+1,i,st=>chL cost left g n (i+1) (if left.getD i 0<cost then st else g i st)
def chN (p:TRoProgramme):List TRoAsset->List Int->List Int->Int->ChK->ChK
 |[],now,_,so,st=>if so>st.1 then (so,now) else st
 |x::r,now,left,so,st =>
  chL x.Cost left (fun i=>chN p r (now++[(i:Int)]) (left.set i (left.getD i 0-x.Cost)) (so+YF p x i)) left.length 0 (chN p r (now++[-1]) left so st)
def ud:List TRoAsset->List Int->Int->Int
 |x::l,q::per,i=>(if q=i then x.Cost else 0)+ud l per i
 |_,_,_=>0
def Nn (p:TRoProgramme) (per:List Int):Bool:=(List.range p.Budgets.length).all fun i=>decide (ud p.Assets per i<=p.Budgets.getD i 0)
theorem WA {x:TRoAsset} {r:List TRoAsset}:∀(pre:List TRoAsset) (per:List Int),pre.length=per.length->∀q i:Int,ud (pre++x::r) (per++[q]) i=ud (pre++x::r) per i+if q=i then x.Cost else 0:=by
 intro pre;induction pre with
 |nil =>
  intro per hl q i;cases per with
  |nil=>simp[ud]
  |cons a b=>simp at hl
 |cons y pre ih =>
  intro per hl q i;cases per with
  |nil=>simp at hl
  |cons a b =>
   simp only[List.cons_append,ud];rw[ih b (by simpa using hl)];omega
theorem Np {p:TRoProgramme} {per:List Int}:Nn p per=true↔∀i,i<p.Budgets.length->ud p.Assets per i<=p.Budgets.getD i 0:=by
 unfold Nn;rw[List.all_eq_true];constructor
 ·intro h i hi;exact zt_ (h i (List.mem_range.2 hi))
 ·intro h i hi;exact decide_eq_true (h i (List.mem_range.1 hi))
structure vI (p:TRoProgramme) (per left:List Int):Prop where
 len:left.length=p.Budgets.length
 eq:∀i,i<p.Budgets.length->left.getD i 0=p.Budgets.getD i 0-ud p.Assets per i
 pos:∀i,i<p.Budgets.length->0<=left.getD i 0
theorem vI.keeps {p:TRoProgramme} {per left:List Int} (h:vI p per left):Nn p per=true:=Np.2 fun i hi=>by
 have h1:=h.eq i hi;have h2:=h.pos i hi;omega
theorem Xv (l:List Int) (i j:Nat) (v:Int) (hi:i<l.length):(l.set i v).getD j 0=if j=i then v else l.getD j 0:=by
 simp only[List.getD,List.getElem?_set];by_cases h:i=j
 ·subst h;simp[hi]
 ·rw[if_neg h,if_neg (fun h'=>h h'.symm)]
theorem vI.none {p:TRoProgramme} {pre r:List TRoAsset} {x:TRoAsset} {per left:List Int} (h:vI p per left) (hp:p.Assets=pre++x::r) (hl:pre.length=per.length):vI p (per++[-1]) left:=by
 refine⟨h.len,fun i hi=>?_,h.pos⟩;rw[hp,WA pre per hl,<- hp,if_neg (by omega),h.eq i hi];omega
theorem vI.some {p:TRoProgramme} {pre r:List TRoAsset} {x:TRoAsset} {per left:List Int} (h:vI p per left) (hp:p.Assets=pre++x::r) (hl:pre.length=per.length) {i:Nat} (hi:i<p.Budgets.length) (hc:¬ left.getD i 0<x.Cost) :
  vI p (per++[(i:Int)]) (left.set i (left.getD i 0-x.Cost)):=by
 have hil:i<left.length:=by rw[h.len];exact hi
 refine⟨by rw[List.length_set];exact h.len,fun j hj=>?_,fun j hj=>?_⟩
 ·rw[hp,WA pre per hl,<- hp,Xv _ _ _ _ hil];by_cases hji:j=i
  ·subst hji;rw[if_pos rfl,if_pos rfl,h.eq j hj];omega
  ·rw[if_neg hji,if_neg (by omega),h.eq j hj];omega
 ·rw[Xv _ _ _ _ hil];by_cases hji:j=i
  ·subst hji;rw[if_pos rfl];omega
  ·rw[if_neg hji];exact h.pos j hj
theorem NO (l:List TRoAsset) (i:Int):ud l [] i=0:=by cases l<;>rfl
theorem Qr {p:TRoProgramme} (hv:QU p):vI p [] p.Budgets:=by
 refine⟨rfl,fun i hi=>by rw[NO];omega,fun i hi=>?_⟩;have:p.Budgets.getD i 0∈p.Budgets:=by simp only[List.getD,List.getElem?_eq_getElem hi,Option.getD_some];exact List.getElem_mem hi
 exact(hv.bud _ this).1
def Mi (p:TRoProgramme):ChK:=chN p p.Assets [] p.Budgets 0 (-1,[])
end Go.Proofs.YtdeeekgohhkdbaaGreatDoor
