/- Plain: the search of the best programme: the program's and the document's are the same. -/
import Derived.Test.YtdeeekgohhkdbaaGreatDoorPd
namespace Go.Proofs.YtdeeekgohhkdbaaGreatDoor
abbrev ChK:=Int × List Int
def chL {α:Type} (cost:Int) (left:List Int) (g:Nat → α → α):Nat → Nat → α → α
 | 0,_,st => st
 | n + 1,i,st => chL cost left g n (i + 1) (if left.getD i 0 < cost then st else g i st)
def chN (p:TRoProgramme):List TRoAsset → List Int → List Int → Int → ChK → ChK
 | [],now,_,so,st => if so > st.1 then (so,now) else st
 | x :: r,now,left,so,st =>
  chL x.Cost left (fun i => chN p r (now ++ [(i:Int)]) (left.set i (left.getD i 0 - x.Cost)) (so + benE p x i)) left.length 0 (chN p r (now ++ [-1]) left so st)
def spentI:List TRoAsset → List Int → Int → Int
 | x :: l,q :: per,i => (if q = i then x.Cost else 0) + spentI l per i
 | _,_,_ => 0
def keepsB (p:TRoProgramme) (per:List Int):Bool:=(List.range p.Budgets.length).all fun i => decide (spentI p.Assets per i ≤ p.Budgets.getD i 0)
def rfL (g:Int → ChK → ChK):Nat → Int → ChK → ChK
 | 0,_,st => st
 | n + 1,i,st => rfL g n (i + 1) (g i st)
def rfN (p:TRoProgramme):List TRoAsset → List Int → Int → ChK → ChK
 | [],per,sum,st => if keepsB p per then (if sum > st.1 then (sum,per) else st) else st
 | x :: r,per,sum,st => if keepsB p per then rfL (fun i => rfN p r (per ++ [i]) (sum + if 0 ≤ i then benE p x i else 0)) (p.Budgets.length + 1) (-1) st else st
theorem rfN_no {p:TRoProgramme} {per:List Int} (h:keepsB p per = false) (xs:List TRoAsset) (sum:Int) (st:ChK):rfN p xs per sum st = st:=by
 cases xs <;> simp [rfN,h]
theorem spentI_snoc {x:TRoAsset} {r:List TRoAsset}:∀ (pre:List TRoAsset) (per:List Int),pre.length = per.length → ∀ q i:Int,spentI (pre ++ x :: r) (per ++ [q]) i = spentI (pre ++ x :: r) per i + if q = i then x.Cost else 0:=by
 intro pre
 induction pre with
 | nil =>
  intro per hl q i
  cases per with
  | nil => simp [spentI]
  | cons a b => simp at hl
 | cons y pre ih =>
  intro per hl q i
  cases per with
  | nil => simp at hl
  | cons a b =>
   simp only [List.cons_append,spentI]
   rw [ih b (by simpa using hl)]
   omega
theorem keepsB_iff {p:TRoProgramme} {per:List Int}:keepsB p per = true ↔ ∀ i,i < p.Budgets.length → spentI p.Assets per i ≤ p.Budgets.getD i 0:=by
 unfold keepsB
 rw [List.all_eq_true]
 constructor
 ·intro h i hi; exact of_decide_eq_true (h i (List.mem_range.2 hi))
 ·intro h i hi; exact decide_eq_true (h i (List.mem_range.1 hi))
structure LeftOK (p:TRoProgramme) (per left:List Int):Prop where
 len:left.length = p.Budgets.length
 eq:∀ i,i < p.Budgets.length → left.getD i 0 = p.Budgets.getD i 0 - spentI p.Assets per i
 pos:∀ i,i < p.Budgets.length → 0 ≤ left.getD i 0
theorem LeftOK.keeps {p:TRoProgramme} {per left:List Int} (h:LeftOK p per left):keepsB p per = true:=keepsB_iff.2 fun i hi => by
 have h1:=h.eq i hi
 have h2:=h.pos i hi
 omega
theorem getD_set (l:List Int) (i j:Nat) (v:Int) (hi:i < l.length):(l.set i v).getD j 0 = if j = i then v else l.getD j 0:=by
 simp only [List.getD,List.getElem?_set]
 by_cases h:i = j
 ·subst h; simp [hi]
 ·rw [if_neg h,if_neg (fun h' => h h'.symm)]
theorem LeftOK.none {p:TRoProgramme} {pre r:List TRoAsset} {x:TRoAsset} {per left:List Int} (h:LeftOK p per left) (hp:p.Assets = pre ++ x :: r) (hl:pre.length = per.length):LeftOK p (per ++ [-1]) left:=by
 refine ⟨h.len,fun i hi => ?_,h.pos⟩
 rw [hp,spentI_snoc pre per hl,← hp,if_neg (by omega),h.eq i hi]; omega
theorem LeftOK.some {p:TRoProgramme} {pre r:List TRoAsset} {x:TRoAsset} {per left:List Int} (h:LeftOK p per left) (hp:p.Assets = pre ++ x :: r) (hl:pre.length = per.length) {i:Nat} (hi:i < p.Budgets.length) (hc:¬ left.getD i 0 < x.Cost) :
  LeftOK p (per ++ [(i:Int)]) (left.set i (left.getD i 0 - x.Cost)):=by
 have hil:i < left.length:=by rw [h.len]; exact hi
 refine ⟨by rw [List.length_set]; exact h.len,fun j hj => ?_,fun j hj => ?_⟩
 ·rw [hp,spentI_snoc pre per hl,← hp,getD_set _ _ _ _ hil]
  by_cases hji:j = i
  ·subst hji; rw [if_pos rfl,if_pos rfl,h.eq j hj]; omega
  ·rw [if_neg hji,if_neg (by omega),h.eq j hj]; omega
 ·rw [getD_set _ _ _ _ hil]
  by_cases hji:j = i
  ·subst hji; rw [if_pos rfl]; omega
  ·rw [if_neg hji]; exact h.pos j hj
theorem ch_rf (p:TRoProgramme):∀ (xs pre:List TRoAsset) (per left:List Int) (so:Int) (st:ChK),p.Assets = pre ++ xs → pre.length = per.length → LeftOK p per left → chN p xs per left so st = rfN p xs per so st:=by
 intro xs
 induction xs with
 | nil => intro pre per left so st hp hl h; simp only [chN,rfN]; rw [if_pos h.keeps]
 | cons x r ih =>
  intro pre per left so st hp hl h
  simp only [chN,rfN]
  rw [if_pos h.keeps]
  have hp':p.Assets = (pre ++ [x]) ++ r:=by rw [hp]; simp
  have hlen:∀ q:Int,(pre ++ [x]).length = (per ++ [q]).length:=fun q => by simp [hl]
  have hR:∀ (G:Int → ChK → ChK),rfL G (p.Budgets.length + 1) (-1) st = rfL G p.Budgets.length 0 (G (-1) st):=fun G => rfl
  rw [hR,ih (pre ++ [x]) (per ++ [-1]) left so st hp' (hlen _) (h.none hp hl)]
  show _ = rfL _ p.Budgets.length 0 (rfN p r (per ++ [-1]) (so + if (0:Int) ≤ -1 then benE p x (-1) else 0) st)
  rw [if_neg (by omega),Int.add_zero]
  generalize rfN p r (per ++ [-1]) so st = st1
  have key:∀ (n i:Nat) (st:ChK),n + i = p.Budgets.length → chL x.Cost left (fun i => chN p r (per ++ [(i:Int)]) (left.set i (left.getD i 0 - x.Cost)) (so + benE p x i)) n i st = rfL (fun i => rfN p r (per ++ [i]) (so + if 0 ≤ i then benE p x i else 0)) n i st:=by
   intro n
   induction n with
   | zero => intro i st _; rfl
   | succ n ihn =>
    intro i st hni
    simp only [chL,rfL]
    rw [ihn (i + 1) _ (by omega)]
    congr 1
    rw [if_pos (by omega:(0:Int) ≤ i)]
    by_cases hc:left.getD i 0 < x.Cost
    ·rw [if_pos hc,rfN_no]
     rw [← Bool.not_eq_true,keepsB_iff]
     intro hk
     have h1:=hk i (by omega)
     have h2:=h.eq i (by omega)
     rw [hp,spentI_snoc pre per hl,← hp,if_pos rfl] at h1
     omega
    ·rw [if_neg hc]
     exact ih (pre ++ [x]) (per ++ [(i:Int)]) _ _ st hp' (hlen _) (h.some hp hl (by omega) hc)
  rw [h.len]
  exact key p.Budgets.length 0 st1 (by omega)
theorem spentI_nil (l:List TRoAsset) (i:Int):spentI l [] i = 0:=by cases l <;> rfl
theorem left_budgets {p:TRoProgramme} (hv:ProgV p):LeftOK p [] p.Budgets:=by
 refine ⟨rfl,fun i hi => by rw [spentI_nil]; omega,fun i hi => ?_⟩
 have:p.Budgets.getD i 0 ∈ p.Budgets:=by simp only [List.getD,List.getElem?_eq_getElem hi,Option.getD_some]; exact List.getElem_mem hi
 exact (hv.bud _ this).1
def chooseN (p:TRoProgramme):ChK:=chN p p.Assets [] p.Budgets 0 (-1,[])
end Go.Proofs.YtdeeekgohhkdbaaGreatDoor
