/- Contracts: sorting and compacting ints, by the library's contracts. -/
import Derived.Shelf.Sort.Plain
import Derived.Shelf.Slices.CompactI
import Derived.Test.YtblebiafhhhflaaGreatR10
import Derived.Test.YtblebiafhhhflaaGreatT
namespace Go.Proofs.YtblebiafhhhflaaGreat
open Go.RowKit
def shSortR:Go.Shelf.Ren:=⟨fun x => match x with | 189 => 70 | 125 => 98 | 257 => 97 | 128 => 131 | 129 => 132 | 294 => 122 | 295 => 123 | 296 => 124 | 297 => 125 | 298 => 126 | 299 => 127 | 216 => 128 | 300 => 129 | 301 => 130 | 328 => 156 | 329 => 157 | 330 => 158 | 331 => 159 | 332 => 160 | 215 => 161 | 343 => 173 | n => n,fun x => match x with | 28 => 61 | 3 => 3 | 46 => 174 | 0 => 0 | 51 => 227 | 53 => 229 | 4 => 4 | 183 => 220 | 182 => 219 | 131 => 224 | 5 => 5 | 9 => 9 | 218 => 242 | 222 => 246 | 228 => 254 | 229 => 122 | n => n,fun x => x⟩
theorem shSortL:Go.Proofs.Lays.n189 Tryz.prog shSortR where
 mixed:=by kernel_rfl
 f125:=Tryz.func98.trans (by kernel_rfl)
 f128:=Tryz.func131.trans (by kernel_rfl)
 f129:=Tryz.func132.trans (by kernel_rfl)
 f189:=Tryz.func70.trans (by kernel_rfl)
 f215:=Tryz.func161.trans (by kernel_rfl)
 f216:=Tryz.func128.trans (by kernel_rfl)
 f257:=Tryz.func97.trans (by kernel_rfl)
 f294:=Tryz.func122.trans (by kernel_rfl)
 f295:=Tryz.func123.trans (by kernel_rfl)
 f296:=Tryz.func124.trans (by kernel_rfl)
 f297:=Tryz.func125.trans (by kernel_rfl)
 f298:=Tryz.func126.trans (by kernel_rfl)
 f299:=Tryz.func127.trans (by kernel_rfl)
 f300:=Tryz.func129.trans (by kernel_rfl)
 f301:=Tryz.func130.trans (by kernel_rfl)
 f328:=Tryz.func156.trans (by kernel_rfl)
 f329:=Tryz.func157.trans (by kernel_rfl)
 f330:=Tryz.func158.trans (by kernel_rfl)
 f331:=Tryz.func159.trans (by kernel_rfl)
 f332:=Tryz.func160.trans (by kernel_rfl)
 f343:=Tryz.func173.trans (by kernel_rfl)
 t0:=Tryz.underlying0
 a0:=Tryz.isAgg0
 z0:=Tryz.sizeOf0
 v0:=Tryz.zeroValue0
 t3:=Tryz.underlying3
 a3:=Tryz.isAgg3
 z3:=Tryz.sizeOf3
 v3:=Tryz.zeroValue3
 t4:=Tryz.underlying4
 a4:=Tryz.isAgg4
 z4:=Tryz.sizeOf4
 v4:=Tryz.zeroValue4
 t5:=Tryz.underlying5
 a5:=Tryz.isAgg5
 z5:=Tryz.sizeOf5
 v5:=Tryz.zeroValue5
 t9:=Tryz.underlying9
 a9:=Tryz.isAgg9
 z9:=Tryz.sizeOf9
 v9:=Tryz.zeroValue9
 t28:=Tryz.underlying61
 a28:=Tryz.isAgg61
 z28:=Tryz.sizeOf61
 v28:=Tryz.zeroValue61
 t46:=Tryz.underlying174
 a46:=Tryz.isAgg174
 z46:=Tryz.sizeOf174
 v46:=Tryz.zeroValue174
 t51:=Tryz.underlying227
 a51:=Tryz.isAgg227
 z51:=Tryz.sizeOf227
 v51:=Tryz.zeroValue227
 t53:=Tryz.underlying229
 a53:=Tryz.isAgg229
 z53:=Tryz.sizeOf229
 v53:=Tryz.zeroValue229
 t131:=Tryz.underlying224
 a131:=Tryz.isAgg224
 z131:=Tryz.sizeOf224
 v131:=Tryz.zeroValue224
 t182:=Tryz.underlying219
 a182:=Tryz.isAgg219
 z182:=Tryz.sizeOf219
 v182:=Tryz.zeroValue219
 t183:=Tryz.underlying220
 a183:=Tryz.isAgg220
 z183:=Tryz.sizeOf220
 v183:=Tryz.zeroValue220
 t218:=Tryz.underlying242
 a218:=Tryz.isAgg242
 z218:=Tryz.sizeOf242
 v218:=Tryz.zeroValue242
 t222:=Tryz.underlying246
 a222:=Tryz.isAgg246
 z222:=Tryz.sizeOf246
 v222:=Tryz.zeroValue246
 t228:=Tryz.underlying254
 a228:=Tryz.isAgg254
 z228:=Tryz.sizeOf254
 v228:=Tryz.zeroValue254
 t229:=Tryz.underlying122
 a229:=Tryz.isAgg122
 z229:=Tryz.sizeOf122
 v229:=Tryz.zeroValue122
def shCompR:Go.Shelf.Ren:=⟨fun x => match x with | 20 => 71 | n => n,fun x => match x with | 22 => 61 | 3 => 3 | 4 => 4 | 0 => 0 | n => n,fun x => x⟩
theorem shCompL:Go.Proofs.Lays2.n20 Tryz.prog shCompR where
 mixed:=by kernel_rfl
 f20:=Tryz.func71.trans (by kernel_rfl)
 t0:=Tryz.underlying0
 a0:=Tryz.isAgg0
 z0:=Tryz.sizeOf0
 v0:=Tryz.zeroValue0
 t3:=Tryz.underlying3
 a3:=Tryz.isAgg3
 z3:=Tryz.sizeOf3
 v3:=Tryz.zeroValue3
 t4:=Tryz.underlying4
 a4:=Tryz.isAgg4
 z4:=Tryz.sizeOf4
 v4:=Tryz.zeroValue4
 t22:=Tryz.underlying61
 a22:=Tryz.isAgg61
 z22:=Tryz.sizeOf61
 v22:=Tryz.zeroValue61
 i3:=by kernel_rfl
theorem holds_of {zs:List Int} {w:World} {B:Nat} {c:Array Value} {e:TypeId} (h:w.heap[B]? = some (.cells c e (0,0))) (hl:zs.length ≤ c.size) (hc:∀ j,j < zs.length → c.getD j Go.undef = .int .i64 (zs.getD j 0)):Go.Sort.Holds (Value.int .i64) w B 0 zs.toArray:=by
 intro j hj
 have hj:j < zs.length:=by simpa using hj
 have hj':j < c.size:=by omega
 constructor
 ·have:=hc j hj
  simp only [World.cell?,h,Nat.zero_add,Array.getElem?_eq_getElem hj']
  simp only [Array.getD,hj',dite_true,Array.getInternal_eq_getElem] at this
  rw [this]
  simp [List.getD,hj]
 ·simp [World.frozen?,h]
theorem mut_end {ys:List Int} {w w':World} {B n:Nat} {os:Array Obj} {c:Array Value} {e:TypeId} (h:w.heap[B]? = some (.cells c e (0,0))) (hl:ys.length ≤ c.size) (hw:w' = Go.Sort.grow (Go.Sort.putRow (Value.int .i64) (Go.Sort.ahead w n) B 0 ys.toArray) os) :
  w'.os = w.os ∧ w'.tape = w.tape ∧ w'.output = w.output ∧ w.heap.size ≤ w'.heap.size ∧ (∀ i,i < w.heap.size → i ≠ B → w'.heap[i]? = w.heap[i]?) ∧
   ∃ c',w'.heap[B]? = some (.cells c' e (0,0)) ∧ c'.size = c.size ∧ ∀ j,j < ys.length → c'.getD j Go.undef = .int .i64 (ys.getD j 0):=by
 subst hw
 have hB:B < w.heap.size:=(Array.getElem?_eq_some_iff.1 h).1
 have hb:w.heap[B] = .cells c e (0,0):=by rw [Array.getElem?_eq_getElem hB] at h; exact Option.some.inj h
 refine ⟨rfl,rfl,rfl,?_,fun i hi hne => ?_,Go.Sort.putCells (Value.int .i64) 0 ys.toArray c,?_,?_,fun j hj => ?_⟩
 ·simp [Go.Sort.grow,Go.Sort.putRow,Go.Sort.mapBlock,Go.Sort.ahead]
 ·simp only [Go.Sort.grow,Go.Sort.putRow,Go.Sort.mapBlock,Go.Sort.ahead]
  rw [Array.getElem?_append_left (by simpa using hi),Array.getElem?_modify,if_neg (fun h => hne h.symm)]
 ·simp only [Go.Sort.grow,Go.Sort.putRow,Go.Sort.mapBlock,Go.Sort.ahead]
  rw [Array.getElem?_append_left (by simpa using hB),Array.getElem?_modify,if_pos rfl,h]
  rfl
 ·simp [Go.Sort.putCells]
 ·have hj':j < c.size:=by omega
  simp [Array.getD,Go.Sort.putCells,hj',hj,List.getD]
def sortL (zs:List Int):List Int:=zs.mergeSort fun x y => decide (x ≤ y)
theorem sortL_len (zs:List Int):(sortL zs).length = zs.length:=by unfold sortL; exact List.length_mergeSort zs
theorem mutSort (zs:List Int) (hz:zs.length ≤ 2 ^ 60):FreshOf Tryz.prog 70 [.tup (zs.map (AV.int .i64))] 0 ((sortL zs).map (AV.int .i64)):=by
 have inj:∀ {a b:List Int},a.map (AV.int .i64) = b.map (AV.int .i64) → b = a:=fun h => ((List.map_inj_right (fun x y h => (by injection h))).1 h).symm
 refine (⟨Tryz.call70,fun zs1 zs' w B cap c e h1 h2 h3 h4 h5 h6 h7 h8 => ?_⟩:MutOf _ _ _ _ _)
 obtain rfl:=inj h1
 obtain rfl:=inj h2
 have hB:B < w.heap.size:=(Array.getElem?_eq_some_iff.1 h5).1
 refine (Any.slices_Sort_int shSortL B 0 cap zs1 w (holds_of h5 (by omega) h8) hB (by omega)).mono ?_
 rintro en w' ⟨rfl,n,os,hw⟩
 refine ⟨rfl,?_⟩
 have:=mut_end (ys:=sortL zs1) h5 (by rw [sortL_len]; omega) hw
 rw [sortL_len] at this
 exact this
theorem compact_le (zs:List Int):(Go.Lib.compact zs).length ≤ zs.length:=by
 unfold Go.Lib.compact Go.Lib.compactUpTo
 rw [List.length_map]
 exact Nat.le_trans (List.length_filter_le ..) (by rw [List.length_range]; exact Nat.le_refl _)
def compL (zs:List Int):List Int:=Go.Lib.compact zs ++ List.replicate (zs.length - (Go.Lib.compact zs).length) 0
theorem compL_len (zs:List Int):(compL zs).length = zs.length:=by
 unfold compL; rw [List.length_append,List.length_replicate]; have:=compact_le zs; omega
theorem mutComp (zs:List Int) (hz:zs.length ≤ 2 ^ 60):FreshOf Tryz.prog 71 [.tup (zs.map (AV.int .i64))] ((Go.Lib.compact zs).length + 1) ((compL zs).map (AV.int .i64)):=by
 have inj:∀ {a b:List Int},a.map (AV.int .i64) = b.map (AV.int .i64) → b = a:=fun h => ((List.map_inj_right (fun x y h => (by injection h))).1 h).symm
 refine (⟨Tryz.call71,fun zs1 zs' w B cap c e h1 h2 h3 h4 h5 h6 h7 h8 => ?_⟩:MutOf _ _ _ _ _)
 obtain rfl:=inj h1
 obtain rfl:=inj h2
 refine (Any.slices_Compact_int shCompL B 0 cap zs1 w (holds_of h5 (by omega) h8) (by omega) h6).mono ?_
 rintro en w' ⟨rfl,n,hw⟩
 refine ⟨rfl,?_⟩
 have:=mut_end (w':=w') (ys:=compL zs1) (os:=#[]) h5 (by rw [compL_len]; omega) (by rw [Go.Sort.grow_empty]; exact hw)
 rw [compL_len] at this
 exact this
theorem sortL_mem {zs:List Int} {x:Int}:x ∈ sortL zs ↔ x ∈ zs:=by unfold sortL; exact List.mem_mergeSort
theorem sortL_asc (zs:List Int):(sortL zs).Pairwise (· ≤ ·):=by
 have:=List.pairwise_mergeSort (le:=fun x y:Int => decide (x ≤ y)) (fun a b c h1 h2 => by simp only [decide_eq_true_eq] at *; omega) (fun a b => by simp only [Bool.or_eq_true,decide_eq_true_eq]; omega) zs
 exact this.imp fun h => of_decide_eq_true h
theorem comp_asc {zs:List Int} (h:zs.Pairwise (· ≤ ·)):(Go.Lib.compact zs).Pairwise (· < ·):=by
 have hs:∀ i j:Nat,i ≤ j → j < zs.length → zs.toArray[i]! ≤ zs.toArray[j]!:=by
  intro i j hij hj
  rcases Nat.lt_or_eq_of_le hij with h1 | rfl
  ·have:=List.pairwise_iff_getElem.1 h i j (by omega) hj h1
   simpa [getElem!_pos,hj,show i < zs.length by omega] using this
  ·exact Int.le_refl _
 unfold Go.Lib.compact Go.Lib.compactUpTo
 rw [List.pairwise_map,List.pairwise_filter]
 refine (List.pairwise_iff_getElem.2 fun i j hi hj hij _ hk => ?_)
 simp only [List.length_range] at hi hj
 simp only [List.getElem_range] at hk ⊢
 have h1:=hs i (j - 1) (by omega) (by omega)
 have h2:=hs (j - 1) j (by omega) hj
 have h3:zs.toArray[j]! ≠ zs.toArray[j - 1]!:=by
  have:=of_decide_eq_true hk
  rcases this with h0 | h0
  ·omega
  ·exact h0
 omega
theorem comp_mem {zs:List Int} {x:Int}:x ∈ Go.Lib.compact zs ↔ x ∈ zs:=by
 have key:∀ j,j < zs.length → zs.toArray[j]! ∈ Go.Lib.compact zs:=by
  intro j
  induction j with
  | zero =>
   intro hj
   unfold Go.Lib.compact Go.Lib.compactUpTo
   exact List.mem_map.2 ⟨0,List.mem_filter.2 ⟨List.mem_range.2 hj,by simp [Go.Lib.keeps]⟩,rfl⟩
  | succ j ih =>
   intro hj
   by_cases h:zs.toArray[j + 1]! = zs.toArray[j]!
   ·rw [h]; exact ih (by omega)
   ·unfold Go.Lib.compact Go.Lib.compactUpTo
    exact List.mem_map.2 ⟨j + 1,List.mem_filter.2 ⟨List.mem_range.2 hj,by simpa [Go.Lib.keeps] using h⟩,rfl⟩
 constructor
 ·intro h
  unfold Go.Lib.compact Go.Lib.compactUpTo at h
  obtain ⟨j,hj,rfl⟩:=List.mem_map.1 h
  have hj:=List.mem_range.1 (List.mem_filter.1 hj).1
  simp [hj]
 ·intro h
  obtain ⟨j,hj,rfl⟩:=List.mem_iff_getElem.1 h
  have:=key j hj
  simpa [hj] using this
def insU (x:Int):List Int → List Int
 | [] => [x]
 | y :: r => if x < y then x :: y :: r else if x = y then y :: r else y :: insU x r
theorem insU_mem {x y:Int}:∀ {l:List Int},y ∈ insU x l ↔ y = x ∨ y ∈ l
 | [] => by simp [insU]
 | z :: r => by
  unfold insU
  split
  ·simp
  ·split
   ·rename_i h; subst h; simp
   ·simp only [List.mem_cons,insU_mem (l:=r)]
    constructor
    ·rintro (h | h | h) <;> simp [h]
    ·rintro (h | h | h) <;> simp [h]
theorem insU_asc {x:Int}:∀ {l:List Int},l.Pairwise (· < ·) → (insU x l).Pairwise (· < ·)
 | [],_ => by simp [insU]
 | z :: r,h => by
  rw [List.pairwise_cons] at h
  unfold insU
  split
  ·rename_i hl
   refine List.pairwise_cons.2 ⟨fun a ha => ?_,List.pairwise_cons.2 h⟩
   rcases List.mem_cons.1 ha with rfl | ha
   ·exact hl
   ·have:=h.1 a ha; omega
  ·split
   ·exact List.pairwise_cons.2 h
   ·refine List.pairwise_cons.2 ⟨fun a ha => ?_,insU_asc h.2⟩
    rcases insU_mem.1 ha with rfl | ha
    ·omega
    ·exact h.1 a ha
def uniq (zs:List Int):List Int:=zs.foldr insU []
theorem uniq_mem {zs:List Int} {x:Int}:x ∈ uniq zs ↔ x ∈ zs:=by
 unfold uniq
 induction zs with
 | nil => simp
 | cons y r ih => rw [List.foldr_cons,insU_mem,ih,List.mem_cons]
theorem uniq_asc (zs:List Int):(uniq zs).Pairwise (· < ·):=by
 unfold uniq
 induction zs with
 | nil => simp
 | cons y r ih => exact insU_asc ih
theorem asc_ext:∀ {l m:List Int},l.Pairwise (· < ·) → m.Pairwise (· < ·) → (∀ x,x ∈ l ↔ x ∈ m) → l = m
 | [],[],_,_,_ => rfl
 | [],y :: m,_,_,h => absurd ((h y).2 List.mem_cons_self) (by simp)
 | x :: l,[],_,_,h => absurd ((h x).1 List.mem_cons_self) (by simp)
 | x :: l,y :: m,hl,hm,h => by
  rw [List.pairwise_cons] at hl hm
  have e:x = y:=by
   rcases List.mem_cons.1 ((h x).1 List.mem_cons_self) with h1 | h1
   ·exact h1
   ·rcases List.mem_cons.1 ((h y).2 List.mem_cons_self) with h2 | h2
    ·exact h2.symm
    ·have:=hl.1 y h2; have:=hm.1 x h1; omega
  subst e
  rw [asc_ext hl.2 hm.2 fun z => ?_]
  have:=h z
  simp only [List.mem_cons] at this
  constructor
  ·intro hz
   rcases this.1 (.inr hz) with rfl | h1
   ·have:=hl.1 z hz; omega
   ·exact h1
  ·intro hz
   rcases this.2 (.inr hz) with rfl | h1
   ·have:=hm.1 z hz; omega
   ·exact h1
theorem comp_sort (zs:List Int):Go.Lib.compact (sortL zs) = uniq zs :=
 asc_ext (comp_asc (sortL_asc zs)) (uniq_asc zs) fun x => by rw [comp_mem,sortL_mem,uniq_mem]

end Go.Proofs.YtblebiafhhhflaaGreat
