/- Contracts: the stretches of a day. Contracts: the energy of one lamp on a day. -/
import Derived.Test.YtblebiafhhhflaaGreatHh
import Derived.Test.YtblebiafhhhflaaGreatSh
namespace Go.Proofs.YtblebiafhhhflaaGreat
open Go.RowKit
theorem cellsOf3:Tryz.prog.cellsOf 3 = 1:=by kernel_rfl
theorem flatI (zs:List Int):(zs.map (AV.int .i64)).flatMap AV.cells = zs.map (AV.int .i64):=by
 induction zs with
 | nil => rfl
 | cons x r ih => rw [List.map_cons,List.flatMap_cons,ih]; rfl
theorem onesI (zs:List Int):ones (zs.map (AV.int .i64)) = true:=by
 unfold ones
 rw [List.all_eq_true]
 intro v hv
 obtain ⟨x,_,rfl⟩:=List.mem_map.1 hv
 rfl
theorem elI (x:Int):elemsOf 1 [AV.int .i64 x]:=fun v hv => (by rw [List.mem_singleton] at hv; rw [hv]; rfl)
theorem apI {zs:List Int} (h:zs.length ≤ 1000000) (x:Int):elemsOf 1 [AV.int .i64 x] ∧ ((List.flatMap AV.cells (zs.map (AV.int .i64))).length = (zs.map (AV.int .i64)).length * Tryz.prog.cellsOf 3 ∧
  ((zs.map (AV.int .i64)).length + 1 + 512) * 41 ≤ 1125899906842624 ∧ ones [AV.int .i64 x] = true ∧ ones (List.flatMap AV.cells (zs.map (AV.int .i64))) = true):=by
 refine ⟨elI x,?_,?_,rfl,?_⟩
 ·rw [flatI,cellsOf3,Nat.mul_one]
 ·rw [List.length_map]; omega
 ·rw [flatI]; exact onesI zs
theorem apI2 {zs:List Int} (h:zs.length ≤ 1000000) (y x:Int):elemsOf 1 [AV.int .i64 x] ∧ ((List.flatMap AV.cells (zs.map (AV.int .i64)) ++ [AV.int .i64 y]).length = ((zs.map (AV.int .i64)).length + 1) * Tryz.prog.cellsOf 3 ∧
  ((zs.map (AV.int .i64)).length + 1 + 1 + 512) * 41 ≤ 1125899906842624 ∧ ones [AV.int .i64 x] = true ∧ ones (List.flatMap AV.cells (zs.map (AV.int .i64)) ++ [AV.int .i64 y]) = true):=by
 refine ⟨elI x,?_,?_,rfl,?_⟩
 ·rw [flatI,cellsOf3,Nat.mul_one,List.length_append]; rfl
 ·rw [List.length_map]; omega
 ·rw [flatI,show zs.map (AV.int .i64) ++ [AV.int .i64 y] = (zs ++ [y]).map (AV.int .i64) by simp]; exact onesI _
theorem nxI (zs:List Int) (x:Int):((zs ++ [x]).map (AV.int .i64)).length = (zs.map (AV.int .i64)).length + 1 ∧ List.flatMap AV.cells ((zs ++ [x]).map (AV.int .i64)) = List.flatMap AV.cells (zs.map (AV.int .i64)) ++ [AV.int .i64 x]:=by
 refine ⟨by simp,?_⟩
 rw [flatI,flatI]; simp
theorem nxI2 (zs:List Int) (x y:Int):((zs ++ [x] ++ [y]).map (AV.int .i64)).length = (zs.map (AV.int .i64)).length + 1 + 1 ∧ List.flatMap AV.cells ((zs ++ [x] ++ [y]).map (AV.int .i64)) = List.flatMap AV.cells (zs.map (AV.int .i64)) ++ [AV.int .i64 x] ++ [AV.int .i64 y]:=by
 refine ⟨by simp,?_⟩
 rw [flatI,flatI]; simp
def addC (zs:List Int) (x:Int):List Int:=if outB x 1 86399 then zs else zs ++ [x]
def cutN (zs:List Int) (n:TSnNight):List Int:=addC (addC zs n.On) n.Off
def cutD (D:List TSnNight):List Int:=D.foldl cutN [0,86400]
def cutS (zs:List Int) (l:List TMtStep):List Int:=l.foldl (fun zs s => addC zs s.From) zs
def cutR (D:List TSnNight) (ls:List (List TMtStep)):List Int:=ls.foldl cutS (cutD D)
def cutsL (D:List TSnNight) (ls:List (List TMtStep)):List Int:=uniq (cutR D ls)
theorem addC_len (zs:List Int) (x:Int):zs.length ≤ (addC zs x).length ∧ (addC zs x).length ≤ zs.length + 1:=by
 unfold addC
 split
 ·omega
 ·simp
theorem foldTake {α β:Type} {f:β → α → β} {b:β} {l:List α} {k:Nat} {x:α} (h:l[k]? = some x):(l.take (k + 1)).foldl f b = f ((l.take k).foldl f b) x:=by
 rw [List.take_add_one,h,List.foldl_append]; rfl
def R32 (t:TMtTask) (day:Int) (M:List AV) (A:List AV) (S:SpecF) (Fr:FreshF) (_Sq:SeqF) (Q:AV → List (List AV) → Prop):Prop :=
 ∃ es0 es1,S 68 [AV.ref 0 0,.int .i64 day] [(TAccount.mk t (.map 1)).cs,[AV.iface 1000000 (.slc 3 M)]] (.slc 3 es0) [(TAccount.mk t (.map 1)).cs,[AV.iface 1000000 (.slc 3 es1)]] ∧ ∃ (I3:Nat → List AV → Prop),(∃ es5,(es5.length = (2:Nat) ∧ List.flatMap AV.cells es5 = [AV.int .i64 0,.int .i64 86400]) ∧ ∃ m7,I3 m7 [AV.int .i64 0,.slc 3 es5]) ∧ ∀ (m5:Nat) (n6:Int) (es7:List AV),I3 m5 [AV.int .i64 n6,.slc 3 es7] → (decide (n6 < (↑es0.length:Int)) = true → ∃ n11 n12,((0:Int) ≤ n6 ∧ (2:Nat) = (2:Nat) ∧ es0[n6.toNat]? = some (.agg [AV.int .i64 n11,.int .i64 n12])) ∧ ∃ b14,S 38 [AV.int .i64 n11,.int .i64 1,.int .i64 86399] [] (.bool b14) [] ∧ ((!b14) = true → elemsOf (1:Nat) [AV.int .i64 n11] ∧ ((List.flatMap AV.cells es7).length = es7.length * Tryz.prog.cellsOf (3:Nat) ∧ (es7.length + 1 + (512:Nat)) * 41 ≤ (1125899906842624:Nat) ∧ ones [AV.int .i64 n11] = true ∧ ones (List.flatMap AV.cells es7) = true) ∧ ∃ b20,S 38 [AV.int .i64 n12,.int .i64 1,.int .i64 86399] [] (.bool b20) [] ∧ ((!b20) = true → elemsOf (1:Nat) [AV.int .i64 n12] ∧ ((List.flatMap AV.cells es7 ++ [AV.int .i64 n11]).length = (es7.length + 1) * Tryz.prog.cellsOf (3:Nat) ∧ (es7.length + 1 + (1:Nat) + (512:Nat)) * 41 ≤ (1125899906842624:Nat) ∧ ones [AV.int .i64 n12] = true ∧ ones (List.flatMap AV.cells es7 ++ [AV.int .i64 n11]) = true) ∧ (TAccount.mk t (.map 1)).cs = (TAccount.mk t (.map 1)).cs ∧ Same [AV.iface 1000000 (.slc 3 es1)] ∧ Same [AV.slc 3 es0] ∧ Same [AV.undef] ∧ ∃ es30,(es30.length = es7.length + 1 + (1:Nat) ∧ List.flatMap AV.cells es30 = List.flatMap AV.cells es7 ++ [AV.int .i64 n11] ++ [AV.int .i64 n12]) ∧ ∃ k32,k32 < m5 ∧ I3 k32 [AV.int .i64 (IntKind.i64.wrap (n6 + 1)),.slc 3 es30]) ∧ ((!b20) = false → (TAccount.mk t (.map 1)).cs = (TAccount.mk t (.map 1)).cs ∧ Same [AV.iface 1000000 (.slc 3 es1)] ∧ Same [AV.slc 3 es0] ∧ Same [AV.undef] ∧ ∃ es28,(es28.length = es7.length + 1 ∧ List.flatMap AV.cells es28 = List.flatMap AV.cells es7 ++ [AV.int .i64 n11]) ∧ ∃ k30,k30 < m5 ∧ I3 k30 [AV.int .i64 (IntKind.i64.wrap (n6 + 1)),.slc 3 es28])) ∧ ((!b14) = false → ∃ b18,S 38 [AV.int .i64 n12,.int .i64 1,.int .i64 86399] [] (.bool b18) [] ∧ ((!b18) = true → elemsOf (1:Nat) [AV.int .i64 n12] ∧ ((List.flatMap AV.cells es7).length = es7.length * Tryz.prog.cellsOf (3:Nat) ∧ (es7.length + 1 + (512:Nat)) * 41 ≤ (1125899906842624:Nat) ∧ ones [AV.int .i64 n12] = true ∧ ones (List.flatMap AV.cells es7) = true) ∧ (TAccount.mk t (.map 1)).cs = (TAccount.mk t (.map 1)).cs ∧ Same [AV.iface 1000000 (.slc 3 es1)] ∧ Same [AV.slc 3 es0] ∧ Same [AV.undef] ∧ ∃ es28,(es28.length = es7.length + 1 ∧ List.flatMap AV.cells es28 = List.flatMap AV.cells es7 ++ [AV.int .i64 n12]) ∧ ∃ k30,k30 < m5 ∧ I3 k30 [AV.int .i64 (IntKind.i64.wrap (n6 + 1)),.slc 3 es28]) ∧ ((!b18) = false → (TAccount.mk t (.map 1)).cs = (TAccount.mk t (.map 1)).cs ∧ Same [AV.iface 1000000 (.slc 3 es1)] ∧ Same [AV.slc 3 es0] ∧ Same [AV.undef] ∧ ∃ es26,(es26.length = es7.length ∧ List.flatMap AV.cells es26 = List.flatMap AV.cells es7) ∧ ∃ k28,k28 < m5 ∧ I3 k28 [AV.int .i64 (IntKind.i64.wrap (n6 + 1)),.slc 3 es26]))) ∧ (decide (n6 < (↑es0.length:Int)) = false → ∃ (I11:Nat → List AV → Prop),(∃ es13,(es13.length = es7.length ∧ List.flatMap AV.cells es13 = List.flatMap AV.cells es7) ∧ ∃ m15,I11 m15 [AV.int .i64 0,.slc 3 es13]) ∧ ∀ (m13:Nat) (n14:Int) (es15:List AV),I11 m13 [AV.int .i64 n14,.slc 3 es15] → (decide (n14 < (↑A.length:Int)) = true → ∃ es19,((0:Int) ≤ n14 ∧ (1:Nat) = (1:Nat) ∧ A[n14.toNat]? = some (.slc 3 es19)) ∧ ∃ (I21:Nat → List AV → Prop),(∃ es23,(es23.length = es15.length ∧ List.flatMap AV.cells es23 = List.flatMap AV.cells es15) ∧ ∃ m25,I21 m25 [AV.int .i64 0,.slc 3 es23]) ∧ ∀ (m23:Nat) (n24:Int) (es25:List AV),I21 m23 [AV.int .i64 n24,.slc 3 es25] → (decide (n24 < (↑es19.length:Int)) = true → ∃ n29 n30,((0:Int) ≤ n24 ∧ (1:Nat) = (1:Nat) ∧ es19[n24.toNat]? = some (.iface 185 (.agg [AV.int .i64 n29,.int .i64 n30]))) ∧ ∃ n32,S 200 [AV.agg [AV.int .i64 n29,.int .i64 n30]] [] (.int .i64 n32) [] ∧ ∃ b34,S 38 [AV.int .i64 n32,.int .i64 1,.int .i64 86399] [] (.bool b34) [] ∧ ((!b34) = true → elemsOf (1:Nat) [AV.int .i64 n32] ∧ ((List.flatMap AV.cells es25).length = es25.length * Tryz.prog.cellsOf (3:Nat) ∧ (es25.length + 1 + (512:Nat)) * 41 ≤ (1125899906842624:Nat) ∧ ones [AV.int .i64 n32] = true ∧ ones (List.flatMap AV.cells es25) = true) ∧ (TAccount.mk t (.map 1)).cs = (TAccount.mk t (.map 1)).cs ∧ Same [AV.iface 1000000 (.slc 3 es1)] ∧ Same [AV.slc 3 es0] ∧ Same [AV.undef] ∧ ∃ es44,(es44.length = es25.length + 1 ∧ List.flatMap AV.cells es44 = List.flatMap AV.cells es25 ++ [AV.int .i64 n32]) ∧ ∃ k46,k46 < m23 ∧ I21 k46 [AV.int .i64 (IntKind.i64.wrap (n24 + 1)),.slc 3 es44]) ∧ ((!b34) = false → (TAccount.mk t (.map 1)).cs = (TAccount.mk t (.map 1)).cs ∧ Same [AV.iface 1000000 (.slc 3 es1)] ∧ Same [AV.slc 3 es0] ∧ Same [AV.undef] ∧ ∃ es42,(es42.length = es25.length ∧ List.flatMap AV.cells es42 = List.flatMap AV.cells es25) ∧ ∃ k44,k44 < m23 ∧ I21 k44 [AV.int .i64 (IntKind.i64.wrap (n24 + 1)),.slc 3 es42])) ∧ (decide (n24 < (↑es19.length:Int)) = false → (TAccount.mk t (.map 1)).cs = (TAccount.mk t (.map 1)).cs ∧ Same [AV.iface 1000000 (.slc 3 es1)] ∧ Same [AV.slc 3 es0] ∧ Same [AV.undef] ∧ ∃ es33,(es33.length = es25.length ∧ List.flatMap AV.cells es33 = List.flatMap AV.cells es25) ∧ ∃ k35,k35 < m13 ∧ I11 k35 [AV.int .i64 (IntKind.i64.wrap (n14 + 1)),.slc 3 es33])) ∧ (decide (n14 < (↑A.length:Int)) = false → ∃ zs19 zs'20,(List.flatMap AV.cells es15 = List.map (AV.int IntKind.i64) zs19 ∧ zs19.length = es15.length ∧ (0:Nat) < es15.length ∧ zs'20.length = es15.length ∧ Fr (70:Nat) [AV.tup (List.map (AV.int IntKind.i64) zs19)] (0:Nat) (List.map (AV.int IntKind.i64) zs'20)) ∧ ∃ m22,m22 ≤ es15.length ∧ ∃ zs24 zs'25,(List.map (AV.int IntKind.i64) zs'20 = List.map (AV.int IntKind.i64) zs24 ∧ zs24.length = es15.length ∧ (0:Nat) < es15.length ∧ zs'25.length = es15.length ∧ Fr (71:Nat) [AV.tup (List.map (AV.int IntKind.i64) zs24)] (m22 + 1) (List.map (AV.int IntKind.i64) zs'25)) ∧ ((0:Nat) + m22 * 1 ≤ (List.map (AV.int IntKind.i64) zs'25).length ∧ ones (List.map (AV.int IntKind.i64) zs'25) = true) ∧ Q (AV.fn (72:Nat) [] [AV.eptr [AV.slc 3 (chunks (1:Nat) false m22 (List.drop (0:Nat) (List.map (AV.int IntKind.i64) zs'25)))] (0:Nat),.eptr [AV.slc 3 es0] (0:Nat)]) [(TAccount.mk t (.map 1)).cs,[AV.iface 1000000 (.slc 3 es1)]]))
theorem r32 (t:TMtTask) (day:Int) (M:List AV) (A:List AV) (S:SpecF) (Fr:FreshF) (Sq:SeqF) (Q:AV → List (List AV) → Prop):awpF Tryz.prog (mkS Tryz.prog S Fr Sq ⟨[70,71],[(1000151,[.iface 185 (.agg [.int .i64 0,.int .i64 0])])],[1000068],[(69,⟨[0,1,5],[],[],[]⟩)],[19]⟩ 4) 2 ⟨[0,1,2,6,7,8,9,11,13,15,21,22,23,24,36,37,38,39,42,43,44,45],[⟨5,[(23,.int .i64 0)],[],[],[(8,0,3)],[]⟩,⟨11,[(38,.int .i64 0)],[],[],[(8,0,3)],[]⟩,⟨14,[(44,.int .i64 0)],[],[],[(8,0,3)],[]⟩],[],[(21,1000000008)]⟩ Tryz.f32 [.ref 0 0,.int .i64 day,.slc 3 A] [⟨113,false,(TAccount.mk t (.map 1)).cs⟩,⟨111,false,[.iface 1000000 (.slc 3 M)]⟩] Q = R32 t day M A S Fr Sq Q:=by kernel_rfl
theorem s32 (t:TMtTask) (day:Int) (M:List AV) (A:List AV) (v:AV) (O:List (List AV)) (h:R32 t day M A (SpecOf Tryz.prog) (FreshOf Tryz.prog) (SeqOf Tryz.prog) (fun r O' => r = v ∧ O' = O)):SpecOf Tryz.prog 32 [.ref 0 0,.int .i64 day,.slc 3 A] [(TAccount.mk t (.map 1)).cs,[.iface 1000000 (.slc 3 M)]] v O :=
 spec_by (boxes:=[⟨113,false,(TAccount.mk t (.map 1)).cs⟩,⟨111,false,[.iface 1000000 (.slc 3 M)]⟩]) mixed (by exact ⟨Tryz.call69,trivial⟩) Tryz.func32 Tryz.call32 rfl rfl rfl (Nat.le_of_ble_eq_true rfl) (r32 t day M A (SpecOf Tryz.prog) (FreshOf Tryz.prog) (SeqOf Tryz.prog) _) h
def stretchF (D:List TSnNight) (cuts:List Int):AV:=.fn 72 [] [.eptr [.slc 3 (cuts.map (AV.int .i64))] 0,.eptr [.slc 3 (D.map TSnNight.av)] 0]
theorem c32 (t:TMtTask) (day:Int) (L:List Int) (hL:L.Nodup) (ls:List (List TMtStep)) (h4:ls.length ≤ 4) (hs:∀ l ∈ ls,l.length ≤ 1000) :
  Sp 32 [.ref 0 0,.int .i64 day,.slc 3 (ls.map fun l => .slc 3 (l.map stepV))] [(TAccount.mk t (.map 1)).cs,memA t.City L] (stretchF (darkL t.City day 4) (cutsL (darkL t.City day 4) ls)) [(TAccount.mk t (.map 1)).cs,memA t.City (memK L day 4)]:=s32 t day (L.map (entN t.City)) (ls.map fun l => .slc 3 (l.map stepV)) _ _ (by
 unfold R32
 have hD:(darkL t.City day 4).length = 4:=darkL_len ..
 refine ⟨_,_,c68 t day L hL,?_⟩
 generalize darkL t.City day 4 = D at hD
 refine ⟨fun m vs => ∃ k:Nat,k ≤ 4 ∧ m = 4 - k ∧ 2 ≤ ((D.take k).foldl cutN [0,86400]).length ∧ ((D.take k).foldl cutN [0,86400]).length ≤ 2 + 2 * k ∧ vs = [.int .i64 k,.slc 3 (((D.take k).foldl cutN [0,86400]).map (AV.int .i64))],⟨[.int .i64 0,.int .i64 86400],⟨rfl,rfl⟩,_,0,by omega,rfl,by simp,by simp,rfl⟩,?_⟩
 rintro m n es ⟨k,hk,rfl,h2,hm,hv⟩
 cases hv
 generalize hz:(D.take k).foldl cutN [0,86400] = zs at h2 hm
 refine ⟨fun g => ?_,fun g => ?_⟩
 ·have hlt:k < D.length:=by have:=of_decide_eq_true g; rw [List.length_map] at this; omega
  obtain ⟨x,hx,hx'⟩:=map_getN (f:=TSnNight.av) hlt
  have hnext:∀ ys:List Int,ys = cutN zs x → ∃ k32,k32 < 4 - k ∧ ∃ k':Nat,k' ≤ 4 ∧ k32 = 4 - k' ∧ 2 ≤ ((D.take k').foldl cutN [0,86400]).length ∧ ((D.take k').foldl cutN [0,86400]).length ≤ 2 + 2 * k' ∧ [AV.int .i64 (IntKind.i64.wrap ((k:Int) + 1)),AV.slc 3 (ys.map (AV.int .i64))] = [.int .i64 k',.slc 3 (((D.take k').foldl cutN [0,86400]).map (AV.int .i64))]:=by
   rintro _ rfl
   have h1:=addC_len zs x.On
   have h3:=addC_len (addC zs x.On) x.Off
   refine ⟨4 - (k + 1),by omega,k + 1,by omega,rfl,?_,?_,?_⟩
   ·rw [foldTake hx,hz]; unfold cutN; omega
   ·rw [foldTake hx,hz]; unfold cutN; omega
   ·rw [foldTake hx,hz,wrapN (by omega)]
  refine ⟨x.On,x.Off,⟨by omega,rfl,hx'⟩,_,c38 ..,fun h1 => ?_,fun h1 => ?_⟩
  ·have h1:outB x.On 1 86399 = false:=by simpa using h1
   refine ⟨(apI (zs:=zs) (by omega) _).1,(apI (zs:=zs) (by omega) _).2,_,c38 ..,fun h3 => ?_,fun h3 => ?_⟩
   ·have h3:outB x.Off 1 86399 = false:=by simpa using h3
    refine ⟨(apI2 (zs:=zs) (by omega) x.On _).1,(apI2 (zs:=zs) (by omega) x.On _).2,rfl,rfl,rfl,rfl,(zs ++ [x.On] ++ [x.Off]).map (AV.int .i64),nxI2 ..,hnext _ ?_⟩
    unfold cutN addC; rw [h1,h3]; rfl
   ·have h3:outB x.Off 1 86399 = true:=by simpa using h3
    refine ⟨rfl,rfl,rfl,rfl,(zs ++ [x.On]).map (AV.int .i64),nxI ..,hnext _ ?_⟩
    unfold cutN addC; rw [h1,h3]; rfl
  ·have h1:outB x.On 1 86399 = true:=by simpa using h1
   refine ⟨_,c38 ..,fun h3 => ?_,fun h3 => ?_⟩
   ·have h3:outB x.Off 1 86399 = false:=by simpa using h3
    refine ⟨(apI (zs:=zs) (by omega) _).1,(apI (zs:=zs) (by omega) _).2,rfl,rfl,rfl,rfl,(zs ++ [x.Off]).map (AV.int .i64),nxI ..,hnext _ ?_⟩
    unfold cutN addC; rw [h1,h3]; rfl
   ·have h3:outB x.Off 1 86399 = true:=by simpa using h3
    refine ⟨rfl,rfl,rfl,rfl,zs.map (AV.int .i64),⟨rfl,rfl⟩,hnext _ ?_⟩
    unfold cutN addC; rw [h1,h3]; rfl
 ·obtain rfl:k = 4:=by have:=of_decide_eq_false g; rw [List.length_map] at this; omega
  have hz:cutD D = zs:=by unfold cutD; rw [← hz,List.take_of_length_le (by omega)]
  refine ⟨fun m vs => ∃ k:Nat,k ≤ ls.length ∧ m = ls.length - k ∧ 2 ≤ ((ls.take k).foldl cutS (cutD D)).length ∧ ((ls.take k).foldl cutS (cutD D)).length ≤ 10 + 1000 * k ∧ vs = [.int .i64 k,.slc 3 (((ls.take k).foldl cutS (cutD D)).map (AV.int .i64))],⟨zs.map (AV.int .i64),⟨rfl,rfl⟩,_,0,by omega,rfl,by rw [← hz] at h2; exact h2,by rw [← hz] at hm; exact hm,by rw [← hz]; rfl⟩,?_⟩
  clear hm h2 g hk
  rintro m n es ⟨k,hk,rfl,h2,hm,hv⟩
  cases hv
  generalize hz:(ls.take k).foldl cutS (cutD D) = zs at h2 hm
  refine ⟨fun g => ?_,fun g => ?_⟩
  ·have hlt:k < ls.length:=by have:=of_decide_eq_true g; rw [List.length_map] at this; omega
   obtain ⟨l,hl,hl'⟩:=map_getN (f:=fun l:List TMtStep => AV.slc 3 (l.map stepV)) hlt
   have hll:l.length ≤ 1000:=hs l (List.mem_of_getElem? hl)
   refine ⟨l.map stepV,⟨by omega,rfl,hl'⟩,fun m vs => ∃ j:Nat,j ≤ l.length ∧ m = l.length - j ∧ 2 ≤ (cutS zs (l.take j)).length ∧ (cutS zs (l.take j)).length ≤ 10 + 1000 * k + j ∧ vs = [.int .i64 j,.slc 3 ((cutS zs (l.take j)).map (AV.int .i64))],⟨zs.map (AV.int .i64),⟨rfl,rfl⟩,_,0,by omega,rfl,h2,hm,rfl⟩,?_⟩
   rintro m n es ⟨j,hj,rfl,k2,km,hv⟩
   cases hv
   generalize hy:cutS zs (l.take j) = ys at k2 km
   refine ⟨fun g => ?_,fun g => ?_⟩
   ·have hjl:j < l.length:=by have:=of_decide_eq_true g; rw [List.length_map] at this; omega
    obtain ⟨x,hx,hx'⟩:=map_getN (f:=stepV) hjl
    have hnext:∀ us:List Int,us = addC ys x.From → ∃ k46,k46 < l.length - j ∧ ∃ j':Nat,j' ≤ l.length ∧ k46 = l.length - j' ∧ 2 ≤ (cutS zs (l.take j')).length ∧ (cutS zs (l.take j')).length ≤ 10 + 1000 * k + j' ∧ [AV.int .i64 (IntKind.i64.wrap ((j:Int) + 1)),AV.slc 3 (us.map (AV.int .i64))] = [.int .i64 j',.slc 3 ((cutS zs (l.take j')).map (AV.int .i64))]:=by
     rintro _ rfl
     have h1:=addC_len ys x.From
     have e:cutS zs (l.take (j + 1)) = addC ys x.From:=by unfold cutS at hy ⊢; rw [foldTake hx,hy]
     exact ⟨l.length - (j + 1),by omega,j + 1,by omega,rfl,by rw [e]; omega,by rw [e]; omega,by rw [e,wrapN (by omega)]⟩
    refine ⟨x.From,x.Level,⟨by omega,rfl,hx'⟩,_,c200 x,_,c38 ..,fun h1 => ?_,fun h1 => ?_⟩
    ·have h1:outB x.From 1 86399 = false:=by simpa using h1
     refine ⟨(apI (zs:=ys) (by omega) _).1,(apI (zs:=ys) (by omega) _).2,rfl,rfl,rfl,rfl,(ys ++ [x.From]).map (AV.int .i64),nxI ..,hnext _ ?_⟩
     unfold addC; rw [h1]; rfl
    ·have h1:outB x.From 1 86399 = true:=by simpa using h1
     refine ⟨rfl,rfl,rfl,rfl,ys.map (AV.int .i64),⟨rfl,rfl⟩,hnext _ ?_⟩
     unfold addC; rw [h1]; rfl
   ·obtain rfl:j = l.length:=by have:=of_decide_eq_false g; rw [List.length_map] at this; omega
    rw [List.take_of_length_le (Nat.le_refl _)] at hy
    have e:(ls.take (k + 1)).foldl cutS (cutD D) = ys:=by rw [foldTake hl,hz,hy]
    exact ⟨rfl,rfl,rfl,rfl,ys.map (AV.int .i64),⟨rfl,rfl⟩,ls.length - (k + 1),by omega,k + 1,by omega,rfl,by rw [e]; omega,by rw [e]; omega,by rw [e,wrapN (by omega)]⟩
  ·obtain rfl:k = ls.length:=by have:=of_decide_eq_false g; rw [List.length_map] at this; omega
   rw [List.take_of_length_le (Nat.le_refl _)] at hz
   refine ⟨zs,sortL zs,⟨flatI zs,by simp,by rw [List.length_map]; omega,by rw [sortL_len]; simp,mutSort zs (by omega)⟩,(Go.Lib.compact (sortL zs)).length,?_,sortL zs,compL (sortL zs),⟨rfl,by rw [sortL_len]; simp,by rw [List.length_map]; omega,by rw [compL_len,sortL_len]; simp,mutComp _ (by rw [sortL_len]; omega)⟩,⟨?_,onesI _⟩,?_,rfl⟩
   ·have:=compact_le (sortL zs); rw [sortL_len] at this; rw [List.length_map]; exact this
   ·have:=compact_le (sortL zs); rw [List.length_map,compL_len]; omega
   ·simp only [chunks,List.drop_zero]
    rw [if_neg (by simp),← List.map_take]
    have e:(compL (sortL zs)).take (Go.Lib.compact (sortL zs)).length = cutsL D ls:=by
     unfold compL cutsL cutR
     rw [List.take_left,comp_sort,hz]
    rw [e]; rfl)
end Go.Proofs.YtblebiafhhhflaaGreat
namespace Go.Proofs.YtblebiafhhhflaaGreat
open Go.RowKit
structure Part where
 from':Int
 long:Int
 burns:Bool
def Part.cells (p:Part):List AV:=[.agg [.int .i64 p.from',.int .i64 p.long,.bool p.burns]]
def partAt (D:List TSnNight) (cuts:List Int) (i:Nat):Part:=⟨cuts.getD i 0,IntKind.i64.wrap (cuts.getD (i + 1) 0 - cuts.getD i 0),D.any (litN (cuts.getD i 0))⟩
def partL (D:List TSnNight) (cuts:List Int):List Part:=(List.range (cuts.length - 1)).map (partAt D cuts)
theorem strL_part (D:List TSnNight) (cuts:List Int):strL D cuts = (partL D cuts).map Part.cells:=by
 unfold strL partL
 rw [List.map_map]; rfl
def dayP (t:TMtTask) (day:Int) (ls:List (List TMtStep)):List Part:=partL (darkL t.City day 4) (cutsL (darkL t.City day 4) ls)
def noStep:TMtStep:=⟨0,0⟩
def noProf:TMtProfile:=⟨ByteArray.mk #[],[]⟩
def profAt (t:TMtTask) (k:Int):TMtProfile:=(t.Profiles[k.toNat]?).getD noProf
def wantAt (l:List TMtStep) (second:Int):Int:=(l.getD (atF second l.length l) noStep).Level
def levAt (t:TMtTask) (x:TMtItem) (p:Part):Int:=if p.burns then (levelR t.Catalog x.Lamp (wantAt (profAt t x.Profile).Steps p.from')).1 else 0
def powAt (t:TMtTask) (x:TMtItem) (p:Part):TEncl:=(powerR t.Catalog x.Lamp (levAt t x p)).1
def partS (t:TMtTask) (x:TMtItem) (s:TSum) (p:Part):TSum:=addS s (powAt t x p) p.long
def sum0:TSum:=⟨⟨0,0⟩⟩
def oneS (t:TMtTask) (x:TMtItem) (day:Int):TSum:=if goneB x day then sum0 else (dayP t day [(profAt t x.Profile).Steps]).foldl (partS t x) sum0
def memO (x:TMtItem) (L:List Int) (day:Int):List Int:=if goneB x day then L else memK L day 4
theorem memO_nodup {x:TMtItem} {L:List Int} {day:Int} (h:L.Nodup):(memO x L day).Nodup:=by
 unfold memO
 split
 ·exact h
 ·exact memK_nodup h 4
theorem atF_lt (second:Int) {l:List TMtStep} (h:1 ≤ l.length):∀ k,k ≤ l.length → atF second k l < l.length
 | 0,_ => by unfold atF; omega
 | k + 1,hk => by
  unfold atF
  split
  ·split
   ·omega
   ·exact atF_lt second h k (by omega)
  ·exact atF_lt second h k (by omega)
theorem cutR_len2 (D:List TSnNight) (ls:List (List TMtStep)):(0:Int) ∈ cutR D ls:=by
 have add:∀ {zs:List Int} {x:Int},(0:Int) ∈ zs → (0:Int) ∈ addC zs x:=by
  intro zs x h
  unfold addC
  split
  ·exact h
  ·exact List.mem_append_left _ h
 unfold cutR
 have hd:(0:Int) ∈ cutD D:=by
  unfold cutD
  have:∀ (D:List TSnNight) (zs:List Int),(0:Int) ∈ zs → (0:Int) ∈ D.foldl cutN zs:=by
   intro D
   induction D with
   | nil => exact fun _ h => h
   | cons n r ih => exact fun zs h => ih _ (add (add h))
  exact this D _ (by simp)
 have hs:∀ (l:List TMtStep) (zs:List Int),(0:Int) ∈ zs → (0:Int) ∈ cutS zs l:=by
  intro l
  induction l with
  | nil => exact fun _ h => h
  | cons n r ih => exact fun zs h => ih _ (add h)
 have:∀ (ls:List (List TMtStep)) (zs:List Int),(0:Int) ∈ zs → (0:Int) ∈ ls.foldl cutS zs:=by
  intro ls
  induction ls with
  | nil => exact fun _ h => h
  | cons n r ih => exact fun zs h => ih _ (hs n zs h)
 exact this ls _ hd
theorem addC_in {x:Int} {zs:List Int} (h:∀ z ∈ zs,0 ≤ z ∧ z ≤ 86400):∀ z ∈ addC zs x,0 ≤ z ∧ z ≤ 86400:=by
 intro z hz
 unfold addC at hz
 split at hz
 ·exact h z hz
 ·rename_i ho
  rcases List.mem_append.1 hz with hz | hz
  ·exact h z hz
  ·rw [List.mem_singleton] at hz; subst hz
   unfold outB at ho
   simp only [Bool.or_eq_true,decide_eq_true_eq,not_or] at ho
   omega
theorem foldIn {α:Type} {f:List Int → α → List Int} (hf:∀ zs x,(∀ z ∈ zs,0 ≤ z ∧ z ≤ 86400) → ∀ z ∈ f zs x,0 ≤ z ∧ z ≤ 86400):∀ (l:List α) (zs:List Int),(∀ z ∈ zs,0 ≤ z ∧ z ≤ 86400) → ∀ z ∈ l.foldl f zs,0 ≤ z ∧ z ≤ 86400
 | [],_,h => h
 | x :: r,zs,h => foldIn hf r (f zs x) (hf zs x h)
theorem cutR_in (D:List TSnNight) (ls:List (List TMtStep)):∀ z ∈ cutR D ls,0 ≤ z ∧ z ≤ 86400:=by
 unfold cutR cutD
 refine foldIn (fun zs l h => foldIn (fun zs s h => addC_in h) l zs h) ls _ (foldIn (fun zs n h => addC_in (addC_in h)) D _ ?_)
 intro z hz
 simp only [List.mem_cons,List.not_mem_nil,or_false] at hz
 omega
theorem cutsL_asc (D:List TSnNight) (ls:List (List TMtStep)):(cutsL D ls).Pairwise (· < ·):=uniq_asc _
theorem cutsL_in {D:List TSnNight} {ls:List (List TMtStep)}:∀ z ∈ cutsL D ls,0 ≤ z ∧ z ≤ 86400:=fun z hz => cutR_in D ls z (uniq_mem.1 hz)
theorem asc_len:∀ {l:List Int} {lo hi:Int},l.Pairwise (· < ·) → (∀ z ∈ l,lo ≤ z ∧ z ≤ hi) → (l.length:Int) ≤ max 0 (hi - lo + 1)
 | [],_,_,_,_ => by simp only [List.length_nil]; omega
 | x :: r,lo,hi,hp,h => by
  rw [List.pairwise_cons] at hp
  have:=asc_len (lo:=x + 1) (hi:=hi) hp.2 fun z hz => ⟨by have:=hp.1 z hz; omega,(h z (List.mem_cons_of_mem _ hz)).2⟩
  have hx:=h x List.mem_cons_self
  rw [List.length_cons]; omega
theorem cutsL_len (D:List TSnNight) (ls:List (List TMtStep)):1 ≤ (cutsL D ls).length ∧ (cutsL D ls).length ≤ 86401:=by
 constructor
 ·have:(0:Int) ∈ cutsL D ls:=uniq_mem.2 (cutR_len2 D ls)
  exact List.length_pos_of_mem this
 ·have:=asc_len (cutsL_asc D ls) (cutsL_in (D:=D) (ls:=ls))
  omega
theorem sqDay (t:TMtTask) (day:Int) (ls:List (List TMtStep)):SeqOf Tryz.prog 72 [.eptr [.slc 3 ((cutsL (darkL t.City day 4) ls).map (AV.int .i64))] 0,.eptr [.slc 3 ((darkL t.City day 4).map TSnNight.av)] 0] [] ((dayP t day ls).map Part.cells):=by
 have hl:=cutsL_len (darkL t.City day 4) ls
 unfold dayP
 rw [← strL_part]
 exact sqStr _ hl.1 (by omega) _ (by rw [darkL_len]; omega)
theorem dayP_fit {t:TMtTask} {day:Int} {ls:List (List TMtStep)}:∀ x ∈ (dayP t day ls).map Part.cells,∃ p:Part,p ∈ dayP t day ls ∧ x = p.cells:=by
 intro x hx
 obtain ⟨p,h,rfl⟩:=List.mem_map.1 hx
 exact ⟨p,h,rfl⟩
theorem dayP_get {t:TMtTask} {day:Int} {ls:List (List TMtStep)} {i:Nat} {a b:Int} {c:Bool} (h:((dayP t day ls).map Part.cells)[i]? = some [AV.agg [.int .i64 a,.int .i64 b,.bool c]]):(dayP t day ls)[i]? = some ⟨a,b,c⟩:=by
 rw [List.getElem?_map] at h
 obtain ⟨p,h1,h2⟩:=Option.map_eq_some_iff.1 h
 cases h2
 exact h1
structure ItemOK (t:TMtTask) (x:TMtItem):Prop where
 cat:CatOK t.Catalog
 prof:0 ≤ x.Profile ∧ x.Profile < t.Profiles.length
 steps:1 ≤ (profAt t x.Profile).Steps.length ∧ (profAt t x.Profile).Steps.length ≤ 1000
def R28 (t:TMtTask) (x:TMtItem) (day:Int) (M:List AV) (S:SpecF) (_Fr:FreshF) (Sq:SeqF) (Q:AV → List (List AV) → Prop):Prop :=
 ∃ b0,S 31 [x.av,.int .i64 day] [] (.bool b0) [] ∧ (b0 = true → Q (TEncl.zero.av) [(TAccount.mk t (.map 1)).cs,[AV.iface 1000000 (.slc 3 M)]]) ∧ (b0 = false → ∃ s4 es5,((0:Int) ≤ x.Profile ∧ (2:Nat) = (2:Nat) ∧ (List.map TMtProfile.av (TAccount.mk t (.map (1:Nat))).MtTask.Profiles)[x.Profile.toNat]? = some (.agg [AV.str s4,.slc 3 es5])) ∧ ∃ es7,S 63 [AV.agg [AV.str s4,.slc 3 es5]] [] (.slc 3 es7) [] ∧ ∃ es9 es10 es11,S 32 [AV.ref 0 0,.int .i64 day,.slc 3 [AV.slc 3 es7]] [(TAccount.mk t (.map 1)).cs,[AV.iface 1000000 (.slc 3 M)]] (AV.fn (72:FuncId) [] [AV.eptr [AV.slc 3 es9] (0:Nat),.eptr [AV.slc 3 es10] (0:Nat)]) [(TAccount.mk t (.map 1)).cs,[AV.iface 1000000 (.slc 3 es11)]] ∧ ∃ xs13,Sq (72:FuncId) [AV.eptr [AV.slc 3 es9] (0:Nat),.eptr [AV.slc 3 es10] (0:Nat)] [] xs13 ∧ (∀ (x16:List AV),x16 ∈ xs13 → fitL [TStretch.zero.av] x16 = true ∧ AV.treeL x16 = true) ∧ ∃ (I16:Nat → List AV → Prop),I16 (0:Nat) [TEncl.zero.av] ∧ (∀ (i19:Nat) (n20 n21:Int) (b22:Bool),xs13[i19]? = some [AV.agg [AV.int .i64 n20,.int .i64 n21,.bool b22]] → ∀ (n24 n25:Int),I16 i19 [AV.agg [AV.int .i64 n24,.int .i64 n25]] → (b22 = true → ∃ n29,S 65 [AV.slc 3 es7,.int .i64 n20] [] (.int .i64 n29) [] ∧ ∃ n31 n32,((0:Int) ≤ n29 ∧ (1:Nat) = (1:Nat) ∧ es7[n29.toNat]? = some (.iface 185 (.agg [AV.int .i64 n31,.int .i64 n32]))) ∧ ∃ n34,S 199 [AV.agg [AV.int .i64 n31,.int .i64 n32]] [] (.int .i64 n34) [] ∧ ∃ n36 n37,S 64 [AV.agg [AV.slc 3 (List.map TLmTable.av (TAccount.mk t (.map (1:Nat))).MtTask.Catalog.Tables),.slc 3 (List.map TLmLamp.av (TAccount.mk t (.map (1:Nat))).MtTask.Catalog.Lamps)],.int .i64 x.Lamp,.int .i64 n34] [] (.tup [AV.int .i64 n36,.int .i64 n37]) [] ∧ ∃ n39 n40 n41,S 66 [AV.agg [AV.slc 3 (List.map TLmTable.av (TAccount.mk t (.map (1:Nat))).MtTask.Catalog.Tables),.slc 3 (List.map TLmLamp.av (TAccount.mk t (.map (1:Nat))).MtTask.Catalog.Lamps)],.int .i64 x.Lamp,.int .i64 n36] [] (.tup [AV.agg [AV.int .i64 n39,.int .i64 n40],.int .i64 n41]) [] ∧ ∃ n43 n44,S 27 [AV.ref 0 0,.agg [AV.int .i64 n39,.int .i64 n40],.int .i64 n21] [[AV.int .i64 n24,.int .i64 n25]] (.tup []) [[AV.int .i64 n43,.int .i64 n44]] ∧ (TAccount.mk t (.map 1)).cs = (TAccount.mk t (.map 1)).cs ∧ Same [AV.iface 1000000 (.slc 3 es11)] ∧ Same [AV.ref 0 0] ∧ x.cs = x.cs ∧ Same [AV.slc 3 es7] ∧ I16 (i19 + 1) [AV.agg [AV.int .i64 n43,.int .i64 n44]]) ∧ (b22 = false → ∃ n29 n30 n31,S 66 [AV.agg [AV.slc 3 (List.map TLmTable.av (TAccount.mk t (.map (1:Nat))).MtTask.Catalog.Tables),.slc 3 (List.map TLmLamp.av (TAccount.mk t (.map (1:Nat))).MtTask.Catalog.Lamps)],.int .i64 x.Lamp,.int .i64 0] [] (.tup [AV.agg [AV.int .i64 n29,.int .i64 n30],.int .i64 n31]) [] ∧ ∃ n33 n34,S 27 [AV.ref 0 0,.agg [AV.int .i64 n29,.int .i64 n30],.int .i64 n21] [[AV.int .i64 n24,.int .i64 n25]] (.tup []) [[AV.int .i64 n33,.int .i64 n34]] ∧ (TAccount.mk t (.map 1)).cs = (TAccount.mk t (.map 1)).cs ∧ Same [AV.iface 1000000 (.slc 3 es11)] ∧ Same [AV.ref 0 0] ∧ x.cs = x.cs ∧ Same [AV.slc 3 es7] ∧ I16 (i19 + 1) [AV.agg [AV.int .i64 n33,.int .i64 n34]])) ∧ ∀ (n19 n20:Int),I16 xs13.length [AV.agg [AV.int .i64 n19,.int .i64 n20]] → Q (.agg [AV.int .i64 n19,.int .i64 n20]) [(TAccount.mk t (.map 1)).cs,[AV.iface 1000000 (.slc 3 es11)]])
theorem r28 (t:TMtTask) (x:TMtItem) (day:Int) (M:List AV) (S:SpecF) (Fr:FreshF) (Sq:SeqF) (Q:AV → List (List AV) → Prop):awpF Tryz.prog (mkS Tryz.prog S Fr Sq ⟨[],[(1000151,[.iface 185 (.agg [.int .i64 0,.int .i64 0])]),(32,[.fn 72 [] [.eptr [.slc 3 []] 0,.eptr [.slc 3 []] 0]])],[1000032],[],[]⟩ 0) 2 ⟨[0,1,2,3,4,6,7,8,9,10,14,30,31,33],[⟨6,[],[],[(6,.agg [.int .i64 0,.int .i64 0])],[],[.agg [.int .i64 0,.int .i64 0,.bool false]]⟩],[],[]⟩ Tryz.f28 [.ref 0 0,x.av,.int .i64 day] [⟨113,false,(TAccount.mk t (.map 1)).cs⟩,⟨111,false,[.iface 1000000 (.slc 3 M)]⟩] Q = R28 t x day M S Fr Sq Q:=by kernel_rfl
theorem s28 (t:TMtTask) (x:TMtItem) (day:Int) (M:List AV) (v:AV) (O:List (List AV)) (h:R28 t x day M (SpecOf Tryz.prog) (FreshOf Tryz.prog) (SeqOf Tryz.prog) (fun r O' => r = v ∧ O' = O)):SpecOf Tryz.prog 28 [.ref 0 0,x.av,.int .i64 day] [(TAccount.mk t (.map 1)).cs,[.iface 1000000 (.slc 3 M)]] v O :=
 spec_by (boxes:=[⟨113,false,(TAccount.mk t (.map 1)).cs⟩,⟨111,false,[.iface 1000000 (.slc 3 M)]⟩]) mixed (by exact trivial) Tryz.func28 Tryz.call28 rfl rfl rfl (Nat.le_of_ble_eq_true rfl) (r28 t x day M (SpecOf Tryz.prog) (FreshOf Tryz.prog) (SeqOf Tryz.prog) _) h
theorem c28 (t:TMtTask) (x:TMtItem) (hx:ItemOK t x) (day:Int) (L:List Int) (hL:L.Nodup):Sp 28 [.ref 0 0,x.av,.int .i64 day] [(TAccount.mk t (.map 1)).cs,memA t.City L] (oneS t x day).av [(TAccount.mk t (.map 1)).cs,memA t.City (memO x L day)]:=s28 t x day (L.map (entN t.City)) _ _ (by
 unfold R28
 refine ⟨_,c31 x day,fun h => ?_,fun h => ?_⟩
 ·unfold oneS memO; rw [if_pos h,if_pos h]; exact ⟨rfl,rfl⟩
 unfold oneS memO
 rw [if_neg (by simp [h]),if_neg (by simp [h])]
 obtain ⟨k,hk⟩:∃ k:Nat,x.Profile = k:=⟨x.Profile.toNat,by have:=hx.prof; omega⟩
 have hkl:k < t.Profiles.length:=by have:=hx.prof; omega
 obtain ⟨p,hp,hp'⟩:=map_getN (f:=TMtProfile.av) hkl
 have hpa:profAt t x.Profile = p:=by unfold profAt; rw [hk,Int.toNat_natCast,hp]; rfl
 have h1:=hx.steps
 rw [hpa] at h1 ⊢
 refine ⟨p.Name,p.Steps.map TMtStep.av,⟨hx.prof.1,rfl,by rw [hk]; exact hp'⟩,_,c63 p (by omega),_,_,_,c32 t day L hL [p.Steps] (by simp) (by simpa using h1.2),_,sqDay t day [p.Steps],fun v hv => ?_,?_⟩
 ·obtain ⟨q,_,rfl⟩:=dayP_fit v hv; exact ⟨rfl,rfl⟩
 refine ⟨fun i vs => vs = [(((dayP t day [p.Steps]).take i).foldl (partS t x) sum0).av],rfl,?_,?_⟩
 ·rintro i n20 n21 b22 hi n24 n25 hv
  have hq:=dayP_get hi
  generalize hs:((dayP t day [p.Steps]).take i).foldl (partS t x) sum0 = s at hv
  cases hv
  have hnext:[(addS s (powAt t x ⟨n20,n21,b22⟩) n21).av] = [(((dayP t day [p.Steps]).take (i + 1)).foldl (partS t x) sum0).av]:=by
   rw [foldTake hq,hs]; rfl
  refine ⟨fun hb => ?_,fun hb => ?_⟩
  ·subst hb
   have hat:=atF_lt n20 h1.1 _ (Nat.le_refl _)
   obtain ⟨z,hz,hz'⟩:=map_getN (f:=stepV) hat
   have hw:wantAt p.Steps n20 = z.Level:=by unfold wantAt; rw [List.getD,hz]; rfl
   have c65:=c65 p.Steps (by omega) n20
   rw [if_neg (by omega)] at c65
   refine ⟨_,c65,z.From,z.Level,⟨by omega,rfl,hz'⟩,_,c199 z,_,_,c64 t.Catalog hx.cat x.Lamp z.Level,_,_,_,c66 t.Catalog hx.cat x.Lamp _,_,_,c27 s _ n21,rfl,rfl,rfl,rfl,rfl,?_⟩
   refine Eq.trans ?_ hnext
   unfold powAt levAt
   rw [hpa,if_pos rfl,hw]; rfl
  ·subst hb
   refine ⟨_,_,_,c66 t.Catalog hx.cat x.Lamp 0,_,_,c27 s _ n21,rfl,rfl,rfl,rfl,rfl,?_⟩
   refine Eq.trans ?_ hnext; rfl
 ·rintro n19 n20 hv
  rw [List.length_map,List.take_of_length_le (Nat.le_refl _)] at hv
  refine ⟨?_,rfl⟩
  injection hv)
end Go.Proofs.YtblebiafhhhflaaGreat
