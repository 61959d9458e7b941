/- Contracts: the first of some things that has an error. Contracts: what an inventory is like. Contracts: the nights of an account. -/
import Derived.Test.YtblebiafhhhflaaGreatHb
namespace Go.Proofs.YtblebiafhhhflaaGreat
open Go.RowKit
instance decB:DecidableEq ByteArray:=fun a b => decidable_of_iff (a.data.toList = b.data.toList) ⟨fun h => ByteArray.ext (Array.toList_inj.1 h),fun h => by rw [h]⟩
def hasB (L:List ByteArray) (s:ByteArray):Bool:=L.any fun y => decide (y = s)
theorem hasB_iff {L:List ByteArray} {s:ByteArray}:hasB L s = true ↔ s ∈ L:=by simp [hasB]
theorem hasB_not {L:List ByteArray} {s:ByteArray}:hasB L s = false ↔ s ∉ L:=by rw [← hasB_iff,Bool.not_eq_true]
def errM {α:Type} (nm:α → ByteArray) (rest:α → Int) (l:List α) (i:Nat):Int :=
 match l[i]? with
 | none => 0
 | some x => if !nameB (nm x) then 6 else if hasB ((l.take i).map nm) (nm x) then 5 else rest x
theorem errM_some {α:Type} {nm:α → ByteArray} {rest:α → Int} {l:List α} {i:Nat} {x:α} (h:l[i]? = some x) :
  errM nm rest l i = if !nameB (nm x) then 6 else if hasB ((l.take i).map nm) (nm x) then 5 else rest x:=by unfold errM; rw [h]
def entS (s:ByteArray):AV:=.agg [.str s,.bool true]
theorem keyV9 (c:Value):KeyV Tryz.prog 9 c = MapKept.IsKey .string c:=by kernel_rfl
theorem keyS (s:ByteArray):KeyIs Tryz.prog 9 (.str s):=⟨.string s,rfl,by rw [keyV9]; trivial⟩
theorem keysS (L:List ByteArray):KeysOK Tryz.prog 9 (L.map entS):=by
 intro x hx
 obtain ⟨q,hq,rfl⟩:=List.mem_map.1 hx
 exact ⟨_,_,rfl,keyS q⟩
theorem entS_at {L:List ByteArray} {q:ByteArray} {j:Nat} {v:AV} (h:(L.map entS)[j]? = some (.agg [.str q,v])):L[j]? = some q ∧ v = .bool true:=by
 rw [List.getElem?_map] at h
 obtain ⟨q',h1,h2⟩:=Option.map_eq_some_iff.1 h
 simp only [entS,AV.agg.injEq,List.cons.injEq,and_true,AV.str.injEq] at h2
 rw [h1,h2.1]
 exact ⟨rfl,h2.2.symm⟩
theorem entS_mem {L:List ByteArray} {q:ByteArray} {v:AV} (h:AV.agg [.str q,v] ∈ L.map entS):q ∈ L:=by
 obtain ⟨j,hj⟩:=List.mem_iff_getElem?.1 h
 exact List.mem_of_getElem? (entS_at hj).1
theorem mputS {L:List ByteArray} {q:ByteArray} (hc:q ∉ L):MapPut (L.map entS) (.str q) (.bool true) ((L ++ [q]).map entS) :=
 .inr ⟨fun v' hm => hc (entS_mem hm),by rw [List.map_append]; rfl⟩
theorem mgetS {L:List ByteArray} (h:L.Nodup) (q:ByteArray):MapGet (.bool false) (L.map entS) (.str q) (hasB L q) (.bool (hasB L q)):=by
 by_cases hc:q ∈ L
 ·obtain ⟨i,hi⟩:=List.mem_iff_getElem?.1 hc
  have hl:i < L.length:=(List.getElem?_eq_some_iff.1 hi).1
  rw [hasB_iff.2 hc]
  exact ⟨i,by rw [List.getElem?_map,hi]; rfl,fun j v' hj => ((List.getElem?_inj hl h).1 (by rw [hi,(entS_at hj).1])).symm⟩
 ·rw [hasB_not.2 hc]
  exact ⟨fun v' hm => hc (entS_mem hm),rfl⟩
theorem nodup_snoc {L:List ByteArray} {q:ByteArray} (h:L.Nodup) (hc:q ∉ L):(L ++ [q]).Nodup :=
 List.nodup_append.2 ⟨h,by simp,fun a ha b hb => by rw [List.mem_singleton] at hb; rintro rfl; exact hc (hb ▸ ha)⟩
def R83 (l:List TMtProfile) (S:SpecF) (_Fr:FreshF) (_Sq:SeqF) (Q:AV → List (List AV) → Prop):Prop :=
 ∃ (I0:Nat → List AV → Prop),(∃ m2,I0 m2 [AV.int .i64 0,.agg [AV.iface 1000000 (.slc 3 [])]]) ∧ ∀ (m2:Nat) (n3:Int) (es4:List AV),I0 m2 [AV.int .i64 n3,.agg [AV.iface 1000000 (.slc 3 es4)]] → (decide (n3 < (↑(List.map TMtProfile.av l).length:Int)) = true → ∃ s8 es9,((0:Int) ≤ n3 ∧ (2:Nat) = (2:Nat) ∧ (List.map TMtProfile.av l)[n3.toNat]? = some (.agg [AV.str s8,.slc 3 es9])) ∧ ∃ n11,S 85 [AV.agg [AV.str s8,.slc 3 es9]] [] (.int .i64 n11) [] ∧ ∃ s13,S 84 [AV.agg [AV.str s8,.slc 3 es9]] [] (.str s13) [] ∧ ∃ b15,S 119 [AV.str s13] [] (.bool b15) [] ∧ ((!b15) = true → Q (.tup [AV.int .i64 n3,.int .i64 6]) []) ∧ ((!b15) = false → ∃ s19,S 84 [AV.agg [AV.str s8,.slc 3 es9]] [] (.str s19) [] ∧ KeysOK Tryz.prog (9:Nat) es4 ∧ KeyIs Tryz.prog (9:Nat) (.str s19) ∧ ∃ b23 f24,MapGet (.bool false) es4 (.str s19) f24 (.bool b23) ∧ (b23 = true → Q (.tup [AV.int .i64 n3,.int .i64 5]) []) ∧ (b23 = false → ((n11 != 0) = true → Q (.tup [AV.int .i64 n3,.int .i64 n11]) []) ∧ ((n11 != 0) = false → ∃ s30,S 84 [AV.agg [AV.str s8,.slc 3 es9]] [] (.str s30) [] ∧ KeysOK Tryz.prog (9:Nat) es4 ∧ KeyIs Tryz.prog (9:Nat) (.str s30) ∧ ∃ es'34,MapPut es4 (.str s30) (.bool true) es'34 ∧ ∃ k36,k36 < m2 ∧ I0 k36 [AV.int .i64 (IntKind.i64.wrap (n3 + 1)),.agg [AV.iface 1000000 (.slc 3 es'34)]])))) ∧ (decide (n3 < (↑(List.map TMtProfile.av l).length:Int)) = false → Q (.tup TEncl.zero.cs) [])
theorem r83 (l:List TMtProfile) (S:SpecF) (Fr:FreshF) (Sq:SeqF) (Q:AV → List (List AV) → Prop):awpF Tryz.prog (mkS Tryz.prog S Fr Sq ⟨[],[],[],[],[]⟩ 0) 0 ⟨[0,1,2,6,7,8,9,10,11,13,14,15,16,23,29,36],[⟨3,[(15,.int .i64 0)],[],[(12,.agg [.iface 1000000 (.slc 3 [])])],[],[]⟩],[],[]⟩ Tryz.f83 [.slc 3 (List.map TMtProfile.av l),.fn 84 [] [],.fn 85 [] []] [] Q = R83 l S Fr Sq Q:=by kernel_rfl
theorem s83 (l:List TMtProfile) (v:AV) (O:List (List AV)) (h:R83 l (SpecOf Tryz.prog) (FreshOf Tryz.prog) (SeqOf Tryz.prog) (fun r O' => r = v ∧ O' = O)):SpecOf Tryz.prog 83 [.slc 3 (List.map TMtProfile.av l),.fn 84 [] [],.fn 85 [] []] [] v O :=
 spec_by (boxes:=[]) mixed (by exact trivial) Tryz.func83 Tryz.call83 rfl rfl rfl (Nat.le_of_ble_eq_true rfl) (r83 l (SpecOf Tryz.prog) (FreshOf Tryz.prog) (SeqOf Tryz.prog) _) h
theorem c83 (l:List TMtProfile) (hl:l.length ≤ 2 ^ 43) (hs:∀ x ∈ l,x.Steps.length ≤ 2 ^ 43) (hnm:∀ x ∈ l,x.Name.size ≤ 9223372036854775807):Sp 83 [.slc 3 (List.map TMtProfile.av l),.fn 84 [] [],.fn 85 [] []] [] (.tup [.int .i64 (firstE (errM TMtProfile.Name profE l) l.length 0).1,.int .i64 (firstE (errM TMtProfile.Name profE l) l.length 0).2]) []:=s83 l _ _ (by
 unfold R83
 refine ⟨fun m vs => ∃ n:Nat,vs = [.int .i64 n,.agg [.iface 1000000 (.slc 3 (((l.take n).map TMtProfile.Name).map entS))]] ∧ n ≤ l.length ∧ m = l.length - n ∧ ((l.take n).map TMtProfile.Name).Nodup ∧ firstE (errM TMtProfile.Name profE l) (l.length - n) n = firstE (errM TMtProfile.Name profE l) l.length 0,⟨_,0,rfl,by omega,rfl,List.nodup_nil,rfl⟩,?_⟩
 rintro m n3 es ⟨k,hk,hle,rfl,hnd,hn⟩
 cases hk
 rw [List.length_map]
 refine ⟨fun h3 => ?_,fun h3 => ⟨?_,by trivial⟩⟩
 ·have h3:k < l.length:=by have:=of_decide_eq_true h3; omega
  obtain ⟨x,hx,hx'⟩:=map_getN (f:=TMtProfile.av) h3
  have hat:=errM_some (nm:=TMtProfile.Name) (rest:=profE) hx
  have hf:=firstE_at (e:=errM TMtProfile.Name profE l) h3
  have hmem:x ∈ l:=List.mem_of_getElem? hx
  have htake:(l.take (k + 1)).map TMtProfile.Name = (l.take k).map TMtProfile.Name ++ [x.Name]:=by
   rw [List.take_add_one,hx,List.map_append]; rfl
  refine ⟨x.Name,List.map TMtStep.av x.Steps,⟨by omega,by trivial,hx'⟩,_,c85 x (hs x hmem),_,c84 x,_,c119 _ (hnm x hmem),fun h4 => ⟨?_,by trivial⟩,fun h4 => ⟨_,c84 x,keysS _,keyS _,hasB ((l.take k).map TMtProfile.Name) x.Name,_,mgetS hnd x.Name,fun h5 => ⟨?_,by trivial⟩,fun h5 => ⟨fun h6 => ⟨?_,by trivial⟩,fun h6 => ?_⟩⟩⟩
  ·have he:errM TMtProfile.Name profE l k = 6:=by rw [hat,if_pos h4]
   rw [← hn,hf,he]; rfl
  ·have h4':¬ (!nameB x.Name) = true:=by rw [h4]; simp
   have he:errM TMtProfile.Name profE l k = 5:=by rw [hat,if_neg h4',if_pos h5]
   rw [← hn,hf,he]; rfl
  ·have h4':¬ (!nameB x.Name) = true:=by rw [h4]; simp
   have h5':¬ hasB ((l.take k).map TMtProfile.Name) x.Name = true:=by rw [h5]; simp
   have he:errM TMtProfile.Name profE l k = profE x:=by rw [hat,if_neg h4',if_neg h5']
   have h6:profE x ≠ 0:=by simpa using h6
   rw [← hn,hf,he,if_pos h6]
  ·have h4':¬ (!nameB x.Name) = true:=by rw [h4]; simp
   have h5':¬ hasB ((l.take k).map TMtProfile.Name) x.Name = true:=by rw [h5]; simp
   have he:errM TMtProfile.Name profE l k = profE x:=by rw [hat,if_neg h4',if_neg h5']
   have h6:profE x = 0:=by simpa using h6
   have h7:=hasB_not.1 h5
   refine ⟨_,c84 x,keysS _,keyS _,_,mputS h7,l.length - (k + 1),by omega,k + 1,?_,by omega,rfl,?_,?_⟩
   ·rw [wrapN (by omega),htake] <;> rfl
   ·rw [htake]; exact nodup_snoc hnd h7
   ·rw [← hn,hf,he,if_neg (by simp [h6])]
 ·have:k = l.length:=by have:=of_decide_eq_false h3; omega
  rw [← hn,this,Nat.sub_self]; rfl)
def R86 (l:List TMtMeter) (S:SpecF) (_Fr:FreshF) (_Sq:SeqF) (Q:AV → List (List AV) → Prop):Prop :=
 ∃ (I0:Nat → List AV → Prop),(∃ m2,I0 m2 [AV.int .i64 0,.agg [AV.iface 1000000 (.slc 3 [])]]) ∧ ∀ (m2:Nat) (n3:Int) (es4:List AV),I0 m2 [AV.int .i64 n3,.agg [AV.iface 1000000 (.slc 3 es4)]] → (decide (n3 < (↑(List.map TMtMeter.av l).length:Int)) = true → ∃ s8 n9 n10 n11 es12,((0:Int) ≤ n3 ∧ (5:Nat) = (5:Nat) ∧ (List.map TMtMeter.av l)[n3.toNat]? = some (.agg [AV.str s8,.int .i64 n9,.int .i64 n10,.int .i64 n11,.slc 3 es12])) ∧ ∃ n14,S 88 [AV.agg [AV.str s8,.int .i64 n9,.int .i64 n10,.int .i64 n11,.slc 3 es12]] [] (.int .i64 n14) [] ∧ ∃ s16,S 87 [AV.agg [AV.str s8,.int .i64 n9,.int .i64 n10,.int .i64 n11,.slc 3 es12]] [] (.str s16) [] ∧ ∃ b18,S 119 [AV.str s16] [] (.bool b18) [] ∧ ((!b18) = true → Q (.tup [AV.int .i64 n3,.int .i64 6]) []) ∧ ((!b18) = false → ∃ s22,S 87 [AV.agg [AV.str s8,.int .i64 n9,.int .i64 n10,.int .i64 n11,.slc 3 es12]] [] (.str s22) [] ∧ KeysOK Tryz.prog (9:Nat) es4 ∧ KeyIs Tryz.prog (9:Nat) (.str s22) ∧ ∃ b26 f27,MapGet (.bool false) es4 (.str s22) f27 (.bool b26) ∧ (b26 = true → Q (.tup [AV.int .i64 n3,.int .i64 5]) []) ∧ (b26 = false → ((n14 != 0) = true → Q (.tup [AV.int .i64 n3,.int .i64 n14]) []) ∧ ((n14 != 0) = false → ∃ s33,S 87 [AV.agg [AV.str s8,.int .i64 n9,.int .i64 n10,.int .i64 n11,.slc 3 es12]] [] (.str s33) [] ∧ KeysOK Tryz.prog (9:Nat) es4 ∧ KeyIs Tryz.prog (9:Nat) (.str s33) ∧ ∃ es'37,MapPut es4 (.str s33) (.bool true) es'37 ∧ ∃ k39,k39 < m2 ∧ I0 k39 [AV.int .i64 (IntKind.i64.wrap (n3 + 1)),.agg [AV.iface 1000000 (.slc 3 es'37)]])))) ∧ (decide (n3 < (↑(List.map TMtMeter.av l).length:Int)) = false → Q (.tup TEncl.zero.cs) [])
theorem r86 (l:List TMtMeter) (S:SpecF) (Fr:FreshF) (Sq:SeqF) (Q:AV → List (List AV) → Prop):awpF Tryz.prog (mkS Tryz.prog S Fr Sq ⟨[],[],[],[],[]⟩ 0) 0 ⟨[0,1,2,6,7,8,9,10,11,13,14,15,16,23,29,36],[⟨3,[(15,.int .i64 0)],[],[(12,.agg [.iface 1000000 (.slc 3 [])])],[],[]⟩],[],[]⟩ Tryz.f86 [.slc 3 (List.map TMtMeter.av l),.fn 87 [] [],.fn 88 [] []] [] Q = R86 l S Fr Sq Q:=by kernel_rfl
theorem s86 (l:List TMtMeter) (v:AV) (O:List (List AV)) (h:R86 l (SpecOf Tryz.prog) (FreshOf Tryz.prog) (SeqOf Tryz.prog) (fun r O' => r = v ∧ O' = O)):SpecOf Tryz.prog 86 [.slc 3 (List.map TMtMeter.av l),.fn 87 [] [],.fn 88 [] []] [] v O :=
 spec_by (boxes:=[]) mixed (by exact trivial) Tryz.func86 Tryz.call86 rfl rfl rfl (Nat.le_of_ble_eq_true rfl) (r86 l (SpecOf Tryz.prog) (FreshOf Tryz.prog) (SeqOf Tryz.prog) _) h
theorem c86 (l:List TMtMeter) (hl:l.length ≤ 2 ^ 43) (hnm:∀ x ∈ l,x.Name.size ≤ 9223372036854775807):Sp 86 [.slc 3 (List.map TMtMeter.av l),.fn 87 [] [],.fn 88 [] []] [] (.tup [.int .i64 (firstE (errM TMtMeter.Name meterE l) l.length 0).1,.int .i64 (firstE (errM TMtMeter.Name meterE l) l.length 0).2]) []:=s86 l _ _ (by
 unfold R86
 refine ⟨fun m vs => ∃ n:Nat,vs = [.int .i64 n,.agg [.iface 1000000 (.slc 3 (((l.take n).map TMtMeter.Name).map entS))]] ∧ n ≤ l.length ∧ m = l.length - n ∧ ((l.take n).map TMtMeter.Name).Nodup ∧ firstE (errM TMtMeter.Name meterE l) (l.length - n) n = firstE (errM TMtMeter.Name meterE l) l.length 0,⟨_,0,rfl,by omega,rfl,List.nodup_nil,rfl⟩,?_⟩
 rintro m n3 es ⟨k,hk,hle,rfl,hnd,hn⟩
 cases hk
 rw [List.length_map]
 refine ⟨fun h3 => ?_,fun h3 => ⟨?_,by trivial⟩⟩
 ·have h3:k < l.length:=by have:=of_decide_eq_true h3; omega
  obtain ⟨x,hx,hx'⟩:=map_getN (f:=TMtMeter.av) h3
  have hat:=errM_some (nm:=TMtMeter.Name) (rest:=meterE) hx
  have hf:=firstE_at (e:=errM TMtMeter.Name meterE l) h3
  have hmem:x ∈ l:=List.mem_of_getElem? hx
  have htake:(l.take (k + 1)).map TMtMeter.Name = (l.take k).map TMtMeter.Name ++ [x.Name]:=by
   rw [List.take_add_one,hx,List.map_append]; rfl
  refine ⟨x.Name,x.Step,x.Modulus,x.Error,List.map TMtReading.av x.Readings,⟨by omega,by trivial,hx'⟩,_,c88 x,_,c87 x,_,c119 _ (hnm x hmem),fun h4 => ⟨?_,by trivial⟩,fun h4 => ⟨_,c87 x,keysS _,keyS _,hasB ((l.take k).map TMtMeter.Name) x.Name,_,mgetS hnd x.Name,fun h5 => ⟨?_,by trivial⟩,fun h5 => ⟨fun h6 => ⟨?_,by trivial⟩,fun h6 => ?_⟩⟩⟩
  ·have he:errM TMtMeter.Name meterE l k = 6:=by rw [hat,if_pos h4]
   rw [← hn,hf,he]; rfl
  ·have h4':¬ (!nameB x.Name) = true:=by rw [h4]; simp
   have he:errM TMtMeter.Name meterE l k = 5:=by rw [hat,if_neg h4',if_pos h5]
   rw [← hn,hf,he]; rfl
  ·have h4':¬ (!nameB x.Name) = true:=by rw [h4]; simp
   have h5':¬ hasB ((l.take k).map TMtMeter.Name) x.Name = true:=by rw [h5]; simp
   have he:errM TMtMeter.Name meterE l k = meterE x:=by rw [hat,if_neg h4',if_neg h5']
   have h6:meterE x ≠ 0:=by simpa using h6
   rw [← hn,hf,he,if_pos h6]
  ·have h4':¬ (!nameB x.Name) = true:=by rw [h4]; simp
   have h5':¬ hasB ((l.take k).map TMtMeter.Name) x.Name = true:=by rw [h5]; simp
   have he:errM TMtMeter.Name meterE l k = meterE x:=by rw [hat,if_neg h4',if_neg h5']
   have h6:meterE x = 0:=by simpa using h6
   have h7:=hasB_not.1 h5
   refine ⟨_,c87 x,keysS _,keyS _,_,mputS h7,l.length - (k + 1),by omega,k + 1,?_,by omega,rfl,?_,?_⟩
   ·rw [wrapN (by omega),htake] <;> rfl
   ·rw [htake]; exact nodup_snoc hnd h7
   ·rw [← hn,hf,he,if_neg (by simp [h6])]
 ·have:k = l.length:=by have:=of_decide_eq_false h3; omega
  rw [← hn,this,Nat.sub_self]; rfl)
def R89 (l:List TMtItem) (rest0:TMtTask) (S:SpecF) (_Fr:FreshF) (_Sq:SeqF) (Q:AV → List (List AV) → Prop):Prop :=
 ∃ (I0:Nat → List AV → Prop),(∃ m2,I0 m2 [AV.int .i64 0,rest0.av,.agg [AV.iface 1000000 (.slc 3 [])]]) ∧ ∀ (m2:Nat) (n3 n4 n5 n6 n7 n8:Int) (es9 es10 es11 es12 es13 es14:List AV),I0 m2 [AV.int .i64 n3,.agg [AV.int .i64 n4,.int .i64 n5,.int .i64 n6,.int .i64 n7,.int .i64 n8,.slc 3 es9,.slc 3 es10,.slc 3 es11,.slc 3 es12,.slc 3 es13],.agg [AV.iface 1000000 (.slc 3 es14)]] → (decide (n3 < (↑(List.map TMtItem.av l).length:Int)) = true → ∃ s18 n19 n20 n21 n22 n23 n24 n25,((0:Int) ≤ n3 ∧ (8:Nat) = (8:Nat) ∧ (List.map TMtItem.av l)[n3.toNat]? = some (.agg [AV.str s18,.int .i64 n19,.int .i64 n20,.int .i64 n21,.int .i64 n22,.int .i64 n23,.int .i64 n24,.int .i64 n25])) ∧ ∃ n27,S 91 [AV.agg [AV.str s18,.int .i64 n19,.int .i64 n20,.int .i64 n21,.int .i64 n22,.int .i64 n23,.int .i64 n24,.int .i64 n25],.ref 0 0] [[AV.int .i64 n4,.int .i64 n5,.int .i64 n6,.int .i64 n7,.int .i64 n8,.slc 3 es9,.slc 3 es10,.slc 3 es11,.slc 3 es12,.slc 3 es13]] (.int .i64 n27) [[AV.int .i64 n4,.int .i64 n5,.int .i64 n6,.int .i64 n7,.int .i64 n8,.slc 3 es9,.slc 3 es10,.slc 3 es11,.slc 3 es12,.slc 3 es13]] ∧ ∃ s29,S 90 [AV.agg [AV.str s18,.int .i64 n19,.int .i64 n20,.int .i64 n21,.int .i64 n22,.int .i64 n23,.int .i64 n24,.int .i64 n25]] [] (.str s29) [] ∧ ∃ b31,S 119 [AV.str s29] [] (.bool b31) [] ∧ ((!b31) = true → Q (.tup [AV.int .i64 n3,.int .i64 6]) [[AV.int .i64 n4,.int .i64 n5,.int .i64 n6,.int .i64 n7,.int .i64 n8,.slc 3 es9,.slc 3 es10,.slc 3 es11,.slc 3 es12,.slc 3 es13]]) ∧ ((!b31) = false → ∃ s35,S 90 [AV.agg [AV.str s18,.int .i64 n19,.int .i64 n20,.int .i64 n21,.int .i64 n22,.int .i64 n23,.int .i64 n24,.int .i64 n25]] [] (.str s35) [] ∧ KeysOK Tryz.prog (9:Nat) es14 ∧ KeyIs Tryz.prog (9:Nat) (.str s35) ∧ ∃ b39 f40,MapGet (.bool false) es14 (.str s35) f40 (.bool b39) ∧ (b39 = true → Q (.tup [AV.int .i64 n3,.int .i64 5]) [[AV.int .i64 n4,.int .i64 n5,.int .i64 n6,.int .i64 n7,.int .i64 n8,.slc 3 es9,.slc 3 es10,.slc 3 es11,.slc 3 es12,.slc 3 es13]]) ∧ (b39 = false → ((n27 != 0) = true → Q (.tup [AV.int .i64 n3,.int .i64 n27]) [[AV.int .i64 n4,.int .i64 n5,.int .i64 n6,.int .i64 n7,.int .i64 n8,.slc 3 es9,.slc 3 es10,.slc 3 es11,.slc 3 es12,.slc 3 es13]]) ∧ ((n27 != 0) = false → ∃ s46,S 90 [AV.agg [AV.str s18,.int .i64 n19,.int .i64 n20,.int .i64 n21,.int .i64 n22,.int .i64 n23,.int .i64 n24,.int .i64 n25]] [] (.str s46) [] ∧ KeysOK Tryz.prog (9:Nat) es14 ∧ KeyIs Tryz.prog (9:Nat) (.str s46) ∧ ∃ es'50,MapPut es14 (.str s46) (.bool true) es'50 ∧ ∃ k52,k52 < m2 ∧ I0 k52 [AV.int .i64 (IntKind.i64.wrap (n3 + 1)),.agg [AV.int .i64 n4,.int .i64 n5,.int .i64 n6,.int .i64 n7,.int .i64 n8,.slc 3 es9,.slc 3 es10,.slc 3 es11,.slc 3 es12,.slc 3 es13],.agg [AV.iface 1000000 (.slc 3 es'50)]])))) ∧ (decide (n3 < (↑(List.map TMtItem.av l).length:Int)) = false → Q (.tup TEncl.zero.cs) [[AV.int .i64 n4,.int .i64 n5,.int .i64 n6,.int .i64 n7,.int .i64 n8,.slc 3 es9,.slc 3 es10,.slc 3 es11,.slc 3 es12,.slc 3 es13]])
theorem r89 (l:List TMtItem) (rest0:TMtTask) (S:SpecF) (Fr:FreshF) (Sq:SeqF) (Q:AV → List (List AV) → Prop):awpF Tryz.prog (mkS Tryz.prog S Fr Sq ⟨[],[],[91],[],[]⟩ 0) 1 ⟨[0,1,2,6,7,8,9,10,11,13,14,15,16,23,29,36],[⟨3,[(15,.int .i64 0)],[],[(1000000,.agg [.int .i64 0,.int .i64 0,.int .i64 0,.int .i64 0,.int .i64 0,.slc 3 [],.slc 3 [],.slc 3 [],.slc 3 [],.slc 3 []]),(12,.agg [.iface 1000000 (.slc 3 [])])],[],[]⟩],[],[]⟩ Tryz.f89 [.slc 3 (List.map TMtItem.av l),.fn 90 [] [],.fn 91 [] [.ref 0 0]] [⟨34,false,rest0.cs⟩] Q = R89 l rest0 S Fr Sq Q:=by kernel_rfl
theorem s89 (l:List TMtItem) (rest0:TMtTask) (v:AV) (O:List (List AV)) (h:R89 l rest0 (SpecOf Tryz.prog) (FreshOf Tryz.prog) (SeqOf Tryz.prog) (fun r O' => r = v ∧ O' = O)):SpecOf Tryz.prog 89 [.slc 3 (List.map TMtItem.av l),.fn 90 [] [],.fn 91 [] [.ref 0 0]] [rest0.cs] v O :=
 spec_by (boxes:=[⟨34,false,rest0.cs⟩]) mixed (by exact trivial) Tryz.func89 Tryz.call89 rfl rfl rfl (Nat.le_of_ble_eq_true rfl) (r89 l rest0 (SpecOf Tryz.prog) (FreshOf Tryz.prog) (SeqOf Tryz.prog) _) h
theorem c89 (l:List TMtItem) (hl:l.length ≤ 2 ^ 43) (hnm:∀ x ∈ l,x.Name.size ≤ 9223372036854775807) (t:TMtTask):Sp 89 [.slc 3 (List.map TMtItem.av l),.fn 90 [] [],.fn 91 [] [.ref 0 0]] [t.cs] (.tup [.int .i64 (firstE (errM TMtItem.Name (itemE t) l) l.length 0).1,.int .i64 (firstE (errM TMtItem.Name (itemE t) l) l.length 0).2]) [t.cs]:=s89 l t _ _ (by
 unfold R89
 refine ⟨fun m vs => ∃ n:Nat,vs = [.int .i64 n,t.av,.agg [.iface 1000000 (.slc 3 (((l.take n).map TMtItem.Name).map entS))]] ∧ n ≤ l.length ∧ m = l.length - n ∧ ((l.take n).map TMtItem.Name).Nodup ∧ firstE (errM TMtItem.Name (itemE t) l) (l.length - n) n = firstE (errM TMtItem.Name (itemE t) l) l.length 0,⟨_,0,rfl,by omega,rfl,List.nodup_nil,rfl⟩,?_⟩
 intro m
 intros
 rename_i hJ
 obtain ⟨k,hk,hle,rfl,hnd,hn⟩:=hJ
 unfold TMtTask.av TMtTask.cs at hk
 cases hk
 rw [List.length_map]
 refine ⟨fun h3 => ?_,fun h3 => ⟨?_,by trivial⟩⟩
 ·have h3:k < l.length:=by have:=of_decide_eq_true h3; omega
  obtain ⟨x,hx,hx'⟩:=map_getN (f:=TMtItem.av) h3
  have hat:=errM_some (nm:=TMtItem.Name) (rest:=(itemE t)) hx
  have hf:=firstE_at (e:=errM TMtItem.Name (itemE t) l) h3
  have hmem:x ∈ l:=List.mem_of_getElem? hx
  have htake:(l.take (k + 1)).map TMtItem.Name = (l.take k).map TMtItem.Name ++ [x.Name]:=by
   rw [List.take_add_one,hx,List.map_append]; rfl
  refine ⟨x.Name,x.Lamp,x.Count,x.Profile,x.Meter,x.Declared,x.From,x.Until,⟨by omega,by trivial,hx'⟩,_,c91 t x,_,c90 x,_,c119 _ (hnm x hmem),fun h4 => ⟨?_,by trivial⟩,fun h4 => ⟨_,c90 x,keysS _,keyS _,hasB ((l.take k).map TMtItem.Name) x.Name,_,mgetS hnd x.Name,fun h5 => ⟨?_,by trivial⟩,fun h5 => ⟨fun h6 => ⟨?_,by trivial⟩,fun h6 => ?_⟩⟩⟩
  ·have he:errM TMtItem.Name (itemE t) l k = 6:=by rw [hat,if_pos h4]
   rw [← hn,hf,he]; rfl
  ·have h4':¬ (!nameB x.Name) = true:=by rw [h4]; simp
   have he:errM TMtItem.Name (itemE t) l k = 5:=by rw [hat,if_neg h4',if_pos h5]
   rw [← hn,hf,he]; rfl
  ·have h4':¬ (!nameB x.Name) = true:=by rw [h4]; simp
   have h5':¬ hasB ((l.take k).map TMtItem.Name) x.Name = true:=by rw [h5]; simp
   have he:errM TMtItem.Name (itemE t) l k = (itemE t) x:=by rw [hat,if_neg h4',if_neg h5']
   have h6:(itemE t) x ≠ 0:=by simpa using h6
   rw [← hn,hf,he,if_pos h6]
  ·have h4':¬ (!nameB x.Name) = true:=by rw [h4]; simp
   have h5':¬ hasB ((l.take k).map TMtItem.Name) x.Name = true:=by rw [h5]; simp
   have he:errM TMtItem.Name (itemE t) l k = (itemE t) x:=by rw [hat,if_neg h4',if_neg h5']
   have h6:(itemE t) x = 0:=by simpa using h6
   have h7:=hasB_not.1 h5
   refine ⟨_,c90 x,keysS _,keyS _,_,mputS h7,l.length - (k + 1),by omega,k + 1,?_,by omega,rfl,?_,?_⟩
   ·rw [wrapN (by omega),htake] <;> rfl
   ·rw [htake]; exact nodup_snoc hnd h7
   ·rw [← hn,hf,he,if_neg (by simp [h6])]
 ·have:k = l.length:=by have:=of_decide_eq_false h3; omega
  rw [← hn,this,Nat.sub_self]; rfl)
end Go.Proofs.YtblebiafhhhflaaGreat
namespace Go.Proofs.YtblebiafhhhflaaGreat
open Go.RowKit
structure TaskOK (t:TMtTask):Prop where
 cat:CatOK t.Catalog
 prn:∀ x ∈ t.Profiles,x.Name.size ≤ 9223372036854775807
 men:∀ x ∈ t.Meters,x.Name.size ≤ 9223372036854775807
 itn:∀ x ∈ t.Items,x.Name.size ≤ 9223372036854775807
 stl:∀ x ∈ t.Profiles,x.Steps.length ≤ 2 ^ 43
def taskR (t:TMtTask):Int × Int × Int :=
 if cityB t.City then (1,0,7)
 else if (catR t.Catalog).2.2 ≠ 0 then (2,0,(catR t.Catalog).2.2)
 else if t.Profiles.length > 6 then (3,0,3)
 else if t.Items.length > 20 then (3,0,3)
 else if t.Meters.length > 4 then (3,0,3)
 else if (firstE (errM TMtProfile.Name profE t.Profiles) t.Profiles.length 0).2 ≠ 0 then (4,firstE (errM TMtProfile.Name profE t.Profiles) t.Profiles.length 0)
 else if (firstE (errM TMtMeter.Name meterE t.Meters) t.Meters.length 0).2 ≠ 0 then (5,firstE (errM TMtMeter.Name meterE t.Meters) t.Meters.length 0)
 else if (firstE (errM TMtItem.Name (itemE t) t.Items) t.Items.length 0).2 ≠ 0 then (6,firstE (errM TMtItem.Name (itemE t) t.Items) t.Items.length 0)
 else (0,0,0)
def R52 (t:TMtTask) (S:SpecF) (_Fr:FreshF) (_Sq:SeqF) (Q:AV → List (List AV) → Prop):Prop :=
 ∃ n0,S 33 [t.City.av] [] (.int .i64 n0) [] ∧ ((n0 != 0) = true → Q (.tup [AV.int .i64 1,.int .i64 0,.int .i64 n0]) []) ∧ ((n0 != 0) = false → ∃ n4 n5 n6,S 82 [t.Catalog.av] [] (.tup [AV.int .i64 n4,.int .i64 n5,.int .i64 n6]) [] ∧ ((n6 != 0) = true → Q (.tup [AV.int .i64 2,.int .i64 0,.int .i64 n6]) []) ∧ ((n6 != 0) = false → (decide ((↑(List.map TMtProfile.av t.Profiles).length:Int) > (6:Int)) = true → Q (.tup [AV.int .i64 3,.int .i64 0,.int .i64 3]) []) ∧ (decide ((↑(List.map TMtProfile.av t.Profiles).length:Int) > (6:Int)) = false → (decide ((↑(List.map TMtItem.av t.Items).length:Int) > (20:Int)) = true → Q (.tup [AV.int .i64 3,.int .i64 0,.int .i64 3]) []) ∧ (decide ((↑(List.map TMtItem.av t.Items).length:Int) > (20:Int)) = false → (decide ((↑(List.map TMtMeter.av t.Meters).length:Int) > (4:Int)) = true → Q (.tup [AV.int .i64 3,.int .i64 0,.int .i64 3]) []) ∧ (decide ((↑(List.map TMtMeter.av t.Meters).length:Int) > (4:Int)) = false → ∃ n16 n17,S 83 [AV.slc 3 (List.map TMtProfile.av t.Profiles),AV.fn (84:Nat) [] [],AV.fn (85:Nat) [] []] [] (.tup [AV.int .i64 n16,.int .i64 n17]) [] ∧ ((n17 != 0) = true → Q (.tup [AV.int .i64 4,.int .i64 n16,.int .i64 n17]) []) ∧ ((n17 != 0) = false → ∃ n21 n22,S 86 [AV.slc 3 (List.map TMtMeter.av t.Meters),AV.fn (87:Nat) [] [],AV.fn (88:Nat) [] []] [] (.tup [AV.int .i64 n21,.int .i64 n22]) [] ∧ ((n22 != 0) = true → Q (.tup [AV.int .i64 5,.int .i64 n21,.int .i64 n22]) []) ∧ ((n22 != 0) = false → ∃ n26 n27 n28 n29 n30 n31 n32 es33 es34 es35 es36 es37,S 89 [AV.slc 3 (List.map TMtItem.av t.Items),AV.fn (90:Nat) [] [],AV.fn (91:Nat) [] [AV.ref 0 0]] [t.cs] (.tup [AV.int .i64 n26,.int .i64 n27]) [[AV.int .i64 n28,.int .i64 n29,.int .i64 n30,.int .i64 n31,.int .i64 n32,.slc 3 es33,.slc 3 es34,.slc 3 es35,.slc 3 es36,.slc 3 es37]] ∧ ((n27 != 0) = true → Q (.tup [AV.int .i64 6,.int .i64 n26,.int .i64 n27]) []) ∧ ((n27 != 0) = false → Q (.tup TAsk.zero.cs) []))))))))
theorem r52 (t:TMtTask) (S:SpecF) (Fr:FreshF) (Sq:SeqF) (Q:AV → List (List AV) → Prop):awpF Tryz.prog (mkS Tryz.prog S Fr Sq ⟨[],[],[],[],[]⟩ 0) 0 ⟨[0,1,2,3,4,9,19,36,44,54,65],[],[],[]⟩ Tryz.f52 [t.av] [] Q = R52 t S Fr Sq Q:=by kernel_rfl
theorem s52 (t:TMtTask) (v:AV) (O:List (List AV)) (h:R52 t (SpecOf Tryz.prog) (FreshOf Tryz.prog) (SeqOf Tryz.prog) (fun r O' => r = v ∧ O' = O)):SpecOf Tryz.prog 52 [t.av] [] v O :=
 spec_by (boxes:=[]) mixed (by exact trivial) Tryz.func52 Tryz.call52 rfl rfl rfl (Nat.le_of_ble_eq_true rfl) (r52 t (SpecOf Tryz.prog) (FreshOf Tryz.prog) (SeqOf Tryz.prog) _) h
theorem c52 (t:TMtTask) (ht:TaskOK t):Sp 52 [t.av] [] (.tup [.int .i64 (taskR t).1,.int .i64 (taskR t).2.1,.int .i64 (taskR t).2.2]) []:=s52 t _ _ (by
 unfold R52 taskR
 simp only [List.length_map]
 refine ⟨_,c33 t.City,fun h => ⟨?_,by trivial⟩,fun h => ?_⟩
 ·have h:cityB t.City = true:=by
   cases hb:cityB t.City with
   | true => rfl
   | false => rw [hb] at h; simp at h
  rw [h]; rfl
 have h0:¬ cityB t.City = true:=by
  intro hb; rw [hb] at h; simp at h
 rw [if_neg h0]
 refine ⟨_,_,_,c82 t.Catalog ht.cat,fun h => ⟨?_,by trivial⟩,fun h => ?_⟩
 ·rw [if_pos (by simpa using h)]
 rw [if_neg (by simpa using h)]
 refine ⟨fun h => ⟨?_,by trivial⟩,fun h1 => ⟨fun h => ⟨?_,by trivial⟩,fun h2 => ⟨fun h => ⟨?_,by trivial⟩,fun h3 => ?_⟩⟩⟩
 ·rw [if_pos (by have:=of_decide_eq_true h; omega)]
 ·rw [if_neg (by have:=of_decide_eq_false h1; omega),if_pos (by have:=of_decide_eq_true h; omega)]
 ·rw [if_neg (by have:=of_decide_eq_false h1; omega),if_neg (by have:=of_decide_eq_false h2; omega),if_pos (by have:=of_decide_eq_true h; omega)]
 have h1:¬ t.Profiles.length > 6:=by have:=of_decide_eq_false h1; omega
 have h2:¬ t.Items.length > 20:=by have:=of_decide_eq_false h2; omega
 have h3:¬ t.Meters.length > 4:=by have:=of_decide_eq_false h3; omega
 rw [if_neg h1,if_neg h2,if_neg h3]
 refine ⟨_,_,c83 t.Profiles (by omega) ht.stl ht.prn,fun h => ⟨?_,by trivial⟩,fun h => ?_⟩
 ·rw [if_pos (by simpa using h)]
 rw [if_neg (by simpa using h)]
 refine ⟨_,_,c86 t.Meters (by omega) ht.men,fun h => ⟨?_,by trivial⟩,fun h => ?_⟩
 ·rw [if_pos (by simpa using h)]
 rw [if_neg (by simpa using h)]
 refine ⟨_,_,_,_,_,_,_,_,_,_,_,_,c89 t.Items (by omega) ht.itn t,fun h => ⟨?_,by trivial⟩,fun h => ⟨?_,by trivial⟩⟩
 ·rw [if_pos (by simpa using h)]
 ·rw [if_neg (by simpa using h)]; rfl)
end Go.Proofs.YtblebiafhhhflaaGreat
namespace Go.Proofs.YtblebiafhhhflaaGreat
open Go.RowKit
theorem flat_map {α:Type} {f:α → AV} {g:α → List AV} {k:Nat} (hf:∀ x,f x = .agg (g x)) (hk:∀ x,(g x).length = k) (ho:∀ x,ones (g x) = true) (s:List α) :
  elemsOf k (s.map f) ∧ ((s.map f).flatMap AV.cells).length = s.length * k ∧ ones ((s.map f).flatMap AV.cells) = true ∧ chunkA k s.length ((s.map f).flatMap AV.cells) = s.map f:=by
 induction s with
 | nil => exact ⟨by intro v hv; simp at hv,by simp,rfl,rfl⟩
 | cons x r ih =>
  obtain ⟨h1,h2,h3,h4⟩:=ih
  refine ⟨fun v hv => ?_,?_,?_,?_⟩
  ·rcases List.mem_cons.1 hv with rfl | hv
   ·rw [hf]; exact hk x
   ·exact h1 v hv
  ·simp only [List.map_cons,List.flatMap_cons,List.length_append,h2,hf,AV.cells,hk,List.length_cons,Nat.succ_mul,Nat.add_comm]
  ·simp only [List.map_cons,List.flatMap_cons,hf,AV.cells,ones,List.all_append,Bool.and_eq_true]
   exact ⟨ho x,h3⟩
  ·simp only [List.map_cons,List.flatMap_cons,List.length_cons,hf,AV.cells,chunkA]
   rw [List.take_append_of_le_length (by rw [hk]; exact Nat.le_refl _),List.take_of_length_le (by rw [hk]; exact Nat.le_refl _),List.drop_append_of_le_length (by rw [hk]; exact Nat.le_refl _),List.drop_of_length_le (by rw [hk]; exact Nat.le_refl _),List.nil_append,h4]
theorem flatN (s:List TSnNight):elemsOf 2 (s.map TSnNight.av) ∧ ((s.map TSnNight.av).flatMap AV.cells).length = s.length * 2 ∧ ones ((s.map TSnNight.av).flatMap AV.cells) = true ∧ chunkA 2 s.length ((s.map TSnNight.av).flatMap AV.cells) = s.map TSnNight.av :=
 flat_map (f:=TSnNight.av) (g:=TSnNight.cs) (k:=2) (fun _ => rfl) (fun _ => rfl) (fun _ => rfl) s
theorem agg57:isAggT Tryz.prog 57 = true:=by kernel_rfl
theorem chunksN (s:List TSnNight):chunks 2 (isAggT Tryz.prog 57) (s.map TSnNight.av).length (List.drop 0 (List.flatMap AV.cells (s.map TSnNight.av))) = s.map TSnNight.av:=by
 rw [agg57]; simp only [chunks,if_true,List.drop_zero,List.length_map]; exact (flatN s).2.2.2
theorem appN_ok {L:List TSnNight} (h:L.length ≤ 1000000) (i o:Int):elemsOf 2 [.agg [.int .i64 i,.int .i64 o]] ∧ ((List.flatMap AV.cells (L.map TSnNight.av)).length = (L.map TSnNight.av).length * 2 ∧
  ((L.map TSnNight.av).length + 1 + 512) * 81 ≤ 1125899906842624 ∧ ones [.int .i64 i,.int .i64 o] = true ∧ ones (List.flatMap AV.cells (L.map TSnNight.av)) = true):=by
 refine ⟨fun v hv => ?_,?_,?_,rfl,(flatN L).2.2.1⟩
 ·rw [List.mem_singleton] at hv; rw [hv]; rfl
 ·rw [List.length_map]; exact (flatN L).2.1
 ·rw [List.length_map]; omega
theorem appN_next (L:List TSnNight) (i o:Int):((L ++ [(⟨i,o⟩:TSnNight)]).map TSnNight.av).length = (L.map TSnNight.av).length + 1 ∧
  List.flatMap AV.cells ((L ++ [(⟨i,o⟩:TSnNight)]).map TSnNight.av) = List.flatMap AV.cells (L.map TSnNight.av) ++ [.int .i64 i,.int .i64 o]:=by
 refine ⟨by simp,?_⟩
 rw [List.map_append,List.flatMap_append]; rfl
def entN (c:TSnCity) (d:Int):AV:=.agg [.int .i64 d,(nightR c d).1.av]
theorem keyV3 (c:Value):KeyV Tryz.prog 3 c = MapKept.IsKey (.int .i64) c:=by kernel_rfl
theorem keyN (d:Int):KeyIs Tryz.prog 3 (.int .i64 d):=⟨.int .i64 d,rfl,by rw [keyV3]; rfl⟩
theorem keysN (c:TSnCity) (L:List Int):KeysOK Tryz.prog 3 (L.map (entN c)):=by
 intro x hx
 obtain ⟨q,hq,rfl⟩:=List.mem_map.1 hx
 exact ⟨_,_,rfl,keyN q⟩
theorem entN_at {c:TSnCity} {L:List Int} {q:Int} {j:Nat} {v:AV} (h:(L.map (entN c))[j]? = some (.agg [.int .i64 q,v])):L[j]? = some q ∧ v = (nightR c q).1.av:=by
 rw [List.getElem?_map] at h
 obtain ⟨q',h1,h2⟩:=Option.map_eq_some_iff.1 h
 simp only [entN,AV.agg.injEq,List.cons.injEq,and_true,AV.int.injEq,true_and] at h2
 obtain ⟨rfl,h2⟩:=h2
 exact ⟨h1,h2.symm⟩
theorem entN_mem {c:TSnCity} {L:List Int} {q:Int} {v:AV} (h:AV.agg [.int .i64 q,v] ∈ L.map (entN c)):q ∈ L:=by
 obtain ⟨j,hj⟩:=List.mem_iff_getElem?.1 h
 exact List.mem_of_getElem? (entN_at hj).1
theorem mputN {c:TSnCity} {L:List Int} {q:Int} (hc:q ∉ L):MapPut (L.map (entN c)) (.int .i64 q) (nightR c q).1.av ((L ++ [q]).map (entN c)) :=
 .inr ⟨fun v' hm => hc (entN_mem hm),by rw [List.map_append]; rfl⟩
theorem mgetN {c:TSnCity} {L:List Int} {q:Int} (h:L.Nodup) (hc:q ∈ L) (z:AV):MapGet z (L.map (entN c)) (.int .i64 q) true (nightR c q).1.av:=by
 obtain ⟨i,hi⟩:=List.mem_iff_getElem?.1 hc
 have hl:i < L.length:=(List.getElem?_eq_some_iff.1 hi).1
 exact ⟨i,by rw [List.getElem?_map,hi]; rfl,fun j v' hj => ((List.getElem?_inj hl h).1 (by rw [hi,(entN_at hj).1])).symm⟩
theorem mgetN' {c:TSnCity} {L:List Int} {q:Int} (hc:q ∉ L) (z:AV):MapGet z (L.map (entN c)) (.int .i64 q) false z :=
 ⟨fun _v' hm => hc (entN_mem hm),rfl⟩
def putN (L:List Int) (d:Int):List Int:=if d ∈ L then L else L ++ [d]
theorem putN_nodup {L:List Int} {d:Int} (h:L.Nodup):(putN L d).Nodup:=by
 unfold putN
 split
 ·exact h
 ·rename_i hc
  exact List.nodup_append.2 ⟨h,by simp,fun a ha b hb => by rw [List.mem_singleton] at hb; rintro rfl; exact hc (hb ▸ ha)⟩
def dayK (day:Int) (i:Nat):Int:=IntKind.i64.wrap (day - (2 - i))
def memK (L:List Int) (day:Int):Nat → List Int
 | 0 => L
 | i + 1 => putN (memK L day i) (dayK day i)
theorem memK_nodup {L:List Int} {day:Int} (h:L.Nodup):∀ i,(memK L day i).Nodup
 | 0 => h
 | i + 1 => putN_nodup (memK_nodup h i)
def darkK (c:TSnCity) (day:Int) (i:Nat):TSnNight:=⟨IntKind.i64.wrap ((nightR c (dayK day i)).1.On - IntKind.i64.wrap (86400 * (2 - i))),IntKind.i64.wrap ((nightR c (dayK day i)).1.Off - IntKind.i64.wrap (86400 * (2 - i)))⟩
def darkL (c:TSnCity) (day:Int):Nat → List TSnNight
 | 0 => []
 | i + 1 => darkL c day i ++ [darkK c day i]
theorem darkL_len (c:TSnCity) (day:Int):∀ i,(darkL c day i).length = i
 | 0 => rfl
 | i + 1 => by rw [darkL,List.length_append,darkL_len c day i]; rfl
def memA (c:TSnCity) (L:List Int):List AV:=[.iface 1000000 (.slc 3 (L.map (entN c)))]
def R68 (t:TMtTask) (day:Int) (M:List AV) (S:SpecF) (_Fr:FreshF) (_Sq:SeqF) (Q:AV → List (List AV) → Prop):Prop :=
 ∃ (I0:Nat → List AV → Prop),(∃ m2,I0 m2 [AV.int .i64 2,.slc 3 [],.agg [AV.iface 1000000 (.slc 3 M)]]) ∧ ∀ (m2:Nat) (n3:Int) (es4 es5:List AV),I0 m2 [AV.int .i64 n3,.slc 3 es4,.agg [AV.iface 1000000 (.slc 3 es5)]] → (decide (n3 ≥ (-1:Int)) = true → KeysOK Tryz.prog (3:Nat) es5 ∧ KeyIs Tryz.prog (3:Nat) (.int .i64 (IntKind.i64.wrap (day - n3))) ∧ ∃ n11 n12 f13,MapGet (TEncl.zero.av) es5 (.int .i64 (IntKind.i64.wrap (day - n3))) f13 (.agg [AV.int .i64 n11,.int .i64 n12]) ∧ ((!f13) = true → ∃ n17 n18 n19,S 15 [AV.agg [AV.int .i64 (TAccount.mk t (.map (1:Nat))).MtTask.City.Lat,.int .i64 (TAccount.mk t (.map (1:Nat))).MtTask.City.Lon,.int .i64 (TAccount.mk t (.map (1:Nat))).MtTask.City.Zone,.int .i64 (TAccount.mk t (.map (1:Nat))).MtTask.City.Altitude.Lo,.int .i64 (TAccount.mk t (.map (1:Nat))).MtTask.City.Altitude.Hi],.int .i64 (IntKind.i64.wrap (day - n3))] [] (.tup [AV.agg [AV.int .i64 n17,.int .i64 n18],.int .i64 n19]) [] ∧ KeysOK Tryz.prog (3:Nat) es5 ∧ KeyIs Tryz.prog (3:Nat) (.int .i64 (IntKind.i64.wrap (day - n3))) ∧ ∃ es'23,MapPut es5 (.int .i64 (IntKind.i64.wrap (day - n3))) (.agg [AV.int .i64 n17,.int .i64 n18]) es'23 ∧ elemsOf (2:Nat) [AV.agg [AV.int .i64 (IntKind.i64.wrap (n17 - IntKind.i64.wrap ((86400:Int) * n3))),.int .i64 (IntKind.i64.wrap (n18 - IntKind.i64.wrap ((86400:Int) * n3)))]] ∧ ((List.flatMap AV.cells es4).length = es4.length * 2 ∧ (es4.length + 1 + (512:Nat)) * 81 ≤ (1125899906842624:Nat) ∧ ones [AV.int .i64 (IntKind.i64.wrap (n17 - IntKind.i64.wrap ((86400:Int) * n3))),.int .i64 (IntKind.i64.wrap (n18 - IntKind.i64.wrap ((86400:Int) * n3)))] = true ∧ ones (List.flatMap AV.cells es4) = true) ∧ (TAccount.mk t (.map 1)).cs = (TAccount.mk t (.map 1)).cs ∧ ∃ es28,(es28.length = es4.length + 1 ∧ List.flatMap AV.cells es28 = List.flatMap AV.cells es4 ++ [AV.int .i64 (IntKind.i64.wrap (n17 - IntKind.i64.wrap ((86400:Int) * n3))),.int .i64 (IntKind.i64.wrap (n18 - IntKind.i64.wrap ((86400:Int) * n3)))]) ∧ ∃ k30,k30 < m2 ∧ I0 k30 [AV.int .i64 (IntKind.i64.wrap (n3 - 1)),.slc 3 es28,.agg [AV.iface 1000000 (.slc 3 es'23)]]) ∧ ((!f13) = false → elemsOf (2:Nat) [AV.agg [AV.int .i64 (IntKind.i64.wrap (n11 - IntKind.i64.wrap ((86400:Int) * n3))),.int .i64 (IntKind.i64.wrap (n12 - IntKind.i64.wrap ((86400:Int) * n3)))]] ∧ ((List.flatMap AV.cells es4).length = es4.length * 2 ∧ (es4.length + 1 + (512:Nat)) * 81 ≤ (1125899906842624:Nat) ∧ ones [AV.int .i64 (IntKind.i64.wrap (n11 - IntKind.i64.wrap ((86400:Int) * n3))),.int .i64 (IntKind.i64.wrap (n12 - IntKind.i64.wrap ((86400:Int) * n3)))] = true ∧ ones (List.flatMap AV.cells es4) = true) ∧ (TAccount.mk t (.map 1)).cs = (TAccount.mk t (.map 1)).cs ∧ ∃ es20,(es20.length = es4.length + 1 ∧ List.flatMap AV.cells es20 = List.flatMap AV.cells es4 ++ [AV.int .i64 (IntKind.i64.wrap (n11 - IntKind.i64.wrap ((86400:Int) * n3))),.int .i64 (IntKind.i64.wrap (n12 - IntKind.i64.wrap ((86400:Int) * n3)))]) ∧ ∃ k22,k22 < m2 ∧ I0 k22 [AV.int .i64 (IntKind.i64.wrap (n3 - 1)),.slc 3 es20,.agg [AV.iface 1000000 (.slc 3 es5)]])) ∧ (decide (n3 ≥ (-1:Int)) = false → (0:Nat) + es4.length * 2 ≤ (List.flatMap AV.cells es4).length ∧ Q (.slc 3 (chunks (2:Nat) (isAggT Tryz.prog (57:Nat)) es4.length (List.drop (0:Nat) (List.flatMap AV.cells es4)))) [(TAccount.mk t (.map 1)).cs,[AV.iface 1000000 (.slc 3 es5)]])
theorem r68 (t:TMtTask) (day:Int) (M:List AV) (S:SpecF) (Fr:FreshF) (Sq:SeqF) (Q:AV → List (List AV) → Prop):awpF Tryz.prog (mkS Tryz.prog S Fr Sq ⟨[],[],[],[],[]⟩ 0) 2 ⟨[0,1,4,5,6,7,9,24],[⟨2,[(5,.int .i64 0)],[(4,57)],[(1000001,.agg [.iface 1000000 (.slc 3 [])])],[],[]⟩],[],[]⟩ Tryz.f68 [.ref 0 0,.int .i64 day] [⟨113,false,(TAccount.mk t (.map 1)).cs⟩,⟨111,false,[.iface 1000000 (.slc 3 M)]⟩] Q = R68 t day M S Fr Sq Q:=by kernel_rfl
theorem s68 (t:TMtTask) (day:Int) (M:List AV) (v:AV) (O:List (List AV)) (h:R68 t day M (SpecOf Tryz.prog) (FreshOf Tryz.prog) (SeqOf Tryz.prog) (fun r O' => r = v ∧ O' = O)):SpecOf Tryz.prog 68 [.ref 0 0,.int .i64 day] [(TAccount.mk t (.map 1)).cs,[.iface 1000000 (.slc 3 M)]] v O :=
 spec_by (boxes:=[⟨113,false,(TAccount.mk t (.map 1)).cs⟩,⟨111,false,[.iface 1000000 (.slc 3 M)]⟩]) mixed (by exact trivial) Tryz.func68 Tryz.call68 rfl rfl rfl (Nat.le_of_ble_eq_true rfl) (r68 t day M (SpecOf Tryz.prog) (FreshOf Tryz.prog) (SeqOf Tryz.prog) _) h
theorem c68 (t:TMtTask) (day:Int) (L:List Int) (hL:L.Nodup):Sp 68 [.ref 0 0,.int .i64 day] [(TAccount.mk t (.map 1)).cs,memA t.City L] (.slc 3 ((darkL t.City day 4).map TSnNight.av)) [(TAccount.mk t (.map 1)).cs,memA t.City (memK L day 4)]:=s68 t day (L.map (entN t.City)) _ _ (by
 unfold R68
 refine ⟨fun m vs => ∃ k:Nat,k ≤ 4 ∧ m = 4 - k ∧ vs = [.int .i64 (2 - k),.slc 3 ((darkL t.City day k).map TSnNight.av),.agg (memA t.City (memK L day k))],⟨_,0,by omega,rfl,rfl⟩,?_⟩
 rintro m n es es' ⟨k,hk,rfl,hv⟩
 simp only [memA,List.cons.injEq,AV.int.injEq,true_and,AV.agg.injEq,AV.iface.injEq,AV.slc.injEq,and_true] at hv
 obtain ⟨rfl,rfl,rfl⟩:=hv
 have hl:(darkL t.City day k).length ≤ 1000000:=by rw [darkL_len]; omega
 have hnext:∀ (M:List Int),M = memK L day (k + 1) → k < 4 → ∃ k30,k30 < 4 - k ∧ ∃ k':Nat,k' ≤ 4 ∧ k30 = 4 - k' ∧ [AV.int .i64 (IntKind.i64.wrap ((2:Int) - k - 1)),AV.slc 3 ((darkL t.City day k ++ [darkK t.City day k]).map TSnNight.av),.agg [.iface 1000000 (.slc 3 (M.map (entN t.City)))]] = [.int .i64 (2 - k'),.slc 3 ((darkL t.City day k').map TSnNight.av),.agg (memA t.City (memK L day k'))]:=by
  rintro _ rfl h
  refine ⟨4 - (k + 1),by omega,k + 1,by omega,rfl,?_⟩
  rw [show (2:Int) - k - 1 = 2 - ((k + 1:Nat):Int) by omega,i64 (by omega)]; rfl
 refine ⟨fun g => ?_,fun g => ?_⟩
 ·have hlt:k < 4:=by have:=of_decide_eq_true g; omega
  refine ⟨keysN _ _,keyN _,?_⟩
  by_cases hc:dayK day k ∈ memK L day k
  ·refine ⟨_,_,true,mgetN (memK_nodup hL k) hc _,fun g => (by cases g),fun _ => ⟨(appN_ok hl _ _).1,(appN_ok hl _ _).2,by trivial,_,appN_next _ _ _,hnext _ ?_ hlt⟩⟩
   simp only [memK,putN,if_pos hc]
  ·refine ⟨_,_,false,mgetN' hc _,fun _ => ⟨_,_,_,c15 t.City (dayK day k),keysN _ _,keyN _,_,mputN hc,(appN_ok hl _ _).1,(appN_ok hl _ _).2,by trivial,_,appN_next _ _ _,hnext _ ?_ hlt⟩,fun g => (by cases g)⟩
   rw [memK,putN,if_neg hc]; rfl
 ·have:k = 4:=by have:=of_decide_eq_false g; omega
  subst this
  refine ⟨?_,?_,rfl⟩
  ·rw [List.length_map,(flatN _).2.1]; omega
  ·rw [chunksN])
end Go.Proofs.YtblebiafhhhflaaGreat
