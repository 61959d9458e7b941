/- Plain laws: items in two. Contracts: what is saved. -/
import Derived.Test.YtblebiafhhhflaaGreatHm
import Derived.Test.YtblebiafhhhflaaGreatHo
namespace Go.Proofs.YtblebiafhhhflaaGreat
open Go.RowKit
theorem setCells_one {cs:List AV} {off:Nat} (v:AV) (h:off < cs.length):setCells cs off [v] = cs.set off v:=by
 unfold setCells
 rw [List.set_eq_take_append_cons_drop,if_pos h]; rfl
theorem set_at {α:Type} {f:α → AV} {g:α → List AV} {k:Nat} (hf:∀ x,f x = .agg (g x)) (hk:∀ x,(g x).length = k):∀ {l:List α} {i j:Nat} {x x':α} {v:AV},l[i]? = some x → j < k → g x' = (g x).set j v →
  ((l.map f).flatMap AV.cells).set (i * k + j) v = ((l.set i x').map f).flatMap AV.cells
 | [],i,j,x,x',v,hi,_,_ => by simp at hi
 | y :: r,0,j,x,x',v,hi,hj,hx => by
  simp only [List.getElem?_cons_zero,Option.some.injEq] at hi
  subst hi
  simp only [List.map_cons,List.flatMap_cons,List.set_cons_zero,hf,AV.cells,Nat.zero_mul,Nat.zero_add]
  rw [List.set_append,if_pos (by rw [hk]; exact hj),hx]
 | y :: r,i + 1,j,x,x',v,hi,hj,hx => by
  simp only [List.getElem?_cons_succ] at hi
  simp only [List.map_cons,List.flatMap_cons,List.set_cons_succ]
  have e:(f y).cells.length = k:=by rw [hf]; exact hk y
  rw [List.set_append,if_neg (by rw [e,Nat.succ_mul]; omega),e,show (i + 1) * k + j - k = i * k + j by rw [Nat.succ_mul]; omega,set_at hf hk hi hj hx]
theorem setCells_at {α:Type} {f:α → AV} {g:α → List AV} {k:Nat} (hf:∀ x,f x = .agg (g x)) (hk:∀ x,(g x).length = k) {l:List α} {i j:Nat} {x x':α} {v:AV} (hi:l[i]? = some x) (hj:j < k) (hx:g x' = (g x).set j v) :
  setCells ((l.map f).flatMap AV.cells) (i * k + j) [v] = ((l.set i x').map f).flatMap AV.cells:=by
 have hl:i < l.length:=(List.getElem?_eq_some_iff.1 hi).1
 have e:((l.map f).flatMap AV.cells).length = l.length * k:=by
  clear hi hl
  induction l with
  | nil => simp
  | cons y r ih => simp only [List.map_cons,List.flatMap_cons,List.length_append,ih,hf,AV.cells,hk,List.length_cons,Nat.succ_mul,Nat.add_comm]
 rw [setCells_one _ (by
  rw [e]
  have:(i + 1) * k ≤ l.length * k:=Nat.mul_le_mul_right _ hl
  rw [Nat.succ_mul] at this; omega)]
 exact set_at hf hk hi hj hx
theorem elemsA_map {α:Type} {f:α → AV} {g:α → List AV} {k:Nat} (hf:∀ x,f x = .agg (g x)) (hk:∀ x,(g x).length = k) (l:List α):elemsA k true (l.map f):=by
 intro v hv
 obtain ⟨x,_,rfl⟩:=List.mem_map.1 hv
 exact ⟨_,hf x,hk x⟩
theorem wrap_0add (a:Int):IntKind.i64.wrap (0 + IntKind.i64.wrap a) = IntKind.i64.wrap a:=by
 simp only [IntKind.wrap_i64]; omega
theorem energyR_ok {t:TMtTask} {item day:Int} (hn:t.Items.length ≤ 2 ^ 62) (h:(energyR t item day).2 = 0):TaskV t ∧ 0 ≤ item ∧ item < t.Items.length ∧ daylessB day = false ∧ (energyR t item day).1 = energyE t (itemAt t item) day:=by
 unfold energyR at h ⊢
 split at h
 ·rename_i h1; exact absurd h h1
 rename_i h1
 split at h
 ·simp at h
 rename_i h2
 obtain ⟨hv,h3,h4⟩:=accE_zero hn (Decidable.byContradiction h1)
 refine ⟨hv,h3,h4,by simpa using h2,?_⟩
 rw [if_neg h1,if_neg h2]
theorem energyR_good {t:TMtTask} {item day:Int} (hn:t.Items.length ≤ 2 ^ 62) (hv:TaskV t) (h1:0 ≤ item) (h2:item < t.Items.length) (h3:daylessB day = false):energyR t item day = (energyE t (itemAt t item) day,0):=by
 unfold energyR
 rw [if_neg (by rw [accE_good hn hv h1 h2]; simp),if_neg (by simp [h3])]
theorem energyE_val (t:TMtTask) (x:TMtItem) (day:Int):energyE t x day = ⟨IntKind.i64.wrap (x.Count * (oneS t x day).Encl.Lo),IntKind.i64.wrap (x.Count * (oneS t x day).Encl.Hi)⟩:=by
 unfold energyE addS sum0
 rw [wrap_0add,wrap_0add]
end Go.Proofs.YtblebiafhhhflaaGreat
namespace Go.Proofs.YtblebiafhhhflaaGreat
open Go.RowKit
theorem agg44:isAggT Tryz.prog 44 = true:=by kernel_rfl
theorem itemS (l:List TMtItem):elemsOf 8 (l.map TMtItem.av) ∧ ((l.map TMtItem.av).flatMap AV.cells).length = l.length * 8 ∧ ones ((l.map TMtItem.av).flatMap AV.cells) = true ∧ chunkA 8 l.length ((l.map TMtItem.av).flatMap AV.cells) = l.map TMtItem.av:=flat_map (f:=TMtItem.av) (g:=TMtItem.cs) (k:=8) (fun _ => rfl) (fun _ => rfl) (fun _ => rfl) l
theorem chunkA8 (l:List TMtItem):chunks 8 true l.length (List.flatMap AV.cells (l.map TMtItem.av)) = l.map TMtItem.av:=by
 have:=chunkM (f:=TMtItem.av) (g:=TMtItem.cs) (k:=8) (fun _ => rfl) (fun _ => rfl) (fun _ => rfl) l
 rw [List.length_map,List.drop_zero] at this; exact this
def G39 (s:List TMtItem) (_S:SpecF) (_Fr:FreshF) (_Sq:SeqF) (Q:List AV → Prop):Prop :=
 ∀ (b0:Bool),(List.map TMtItem.av s ≠ [] → b0 = !true) → (b0 = true → Q []) ∧ (b0 = false → elemsOf (8:Nat) (List.map TMtItem.av s) ∧ ((([]:List AV) = [] ∨ (0:Nat) < (List.map TMtItem.av s).length) ∧ ((0:Nat) + (List.map TMtItem.av s).length + (512:Nat)) * 361 ≤ (1125899906842624:Nat) ∧ elemsOf (8:Nat) [] ∧ ones (List.flatMap AV.cells (List.map TMtItem.av s)) = true ∧ ones [] = true) ∧ (([] ++ List.flatMap AV.cells (List.map TMtItem.av s)).length = ((0:Nat) + (List.map TMtItem.av s).length) * 8 ∧ (isAggT Tryz.prog (44:Nat) = false → (8:Nat) = (1:Nat) ∧ ones ([] ++ List.flatMap AV.cells (List.map TMtItem.av s)) = true)) ∧ Q (chunks (8:Nat) (isAggT Tryz.prog (44:Nat)) ((0:Nat) + (List.map TMtItem.av s).length) ([] ++ List.flatMap AV.cells (List.map TMtItem.av s))))
theorem g39 (s:List TMtItem) (S:SpecF) (Fr:FreshF) (Sq:SeqF) (Q:List AV → Prop):awpG Tryz.prog (mkS Tryz.prog S Fr Sq ⟨[],[],[],[],[]⟩ 0) ⟨[0,2,4],[],[],[]⟩ Tryz.f39 [.slc 3 (List.map TMtItem.av s)] 8 Q = G39 s S Fr Sq Q:=by kernel_rfl
theorem fr39 (s:List TMtItem) (es:List AV) (h:G39 s (SpecOf Tryz.prog) (FreshOf Tryz.prog) (SeqOf Tryz.prog) (fun r => r = es)):FreshOf Tryz.prog 39 [.slc 3 (List.map TMtItem.av s)] 8 es :=
 fresh_by mixed (by exact trivial) Tryz.func39 Tryz.call39 (Nat.le_of_ble_eq_true rfl) (g39 s (SpecOf Tryz.prog) (FreshOf Tryz.prog) (SeqOf Tryz.prog) _) h
theorem c39 (l:List TMtItem) (hl:l.length ≤ 1000000):FreshOf Tryz.prog 39 [.slc 3 (l.map TMtItem.av)] 8 (l.map TMtItem.av):=fr39 l _ (by
 unfold G39
 intro b hb
 have hF:=itemS l
 refine ⟨fun h => ?_,fun h => ⟨hF.1,⟨.inl rfl,by rw [List.length_map]; omega,fun v hv => (by cases hv),hF.2.2.1,rfl⟩,⟨?_,fun h => ?_⟩,?_⟩⟩
 ·rcases Classical.em (l = []) with rfl | hne
  ·rfl
  ·exact absurd (hb (by simpa using hne)) (by simp [h])
 ·rw [List.nil_append,Nat.zero_add,List.length_map]; exact hF.2.1
 ·rw [agg44] at h; cases h
 ·rw [List.nil_append,Nat.zero_add,List.length_map,agg44]; exact chunkA8 l)
theorem normL_append (a b:List AV):AV.normL (a ++ b) = AV.normL a ++ AV.normL b:=by rw [normL_eq,normL_eq,normL_eq,List.map_append]
end Go.Proofs.YtblebiafhhhflaaGreat
