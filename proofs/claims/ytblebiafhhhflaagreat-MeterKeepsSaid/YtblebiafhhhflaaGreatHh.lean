/- Contracts: whether lamps burn at a second. Contracts: the stretches of a day, cut by cut. Contracts: a meter's pairs of readings. -/
import Derived.Test.YtblebiafhhhflaaGreatHe
import Derived.Test.YtblebiafhhhflaaGreatY1
namespace Go.Proofs.YtblebiafhhhflaaGreat
open Go.RowKit
def litN (v:Int) (n:TSnNight):Bool:=decide (n.On ≤ v) && decide (v < n.Off)
def R74 (n:TSnNight) (v0:Int) (_S:SpecF) (_Fr:FreshF) (_Sq:SeqF) (Q:AV → List (List AV) → Prop):Prop :=
 (decide (n.On ≤ v0) = true → Q (.bool (decide (v0 < n.Off))) [[AV.int .i64 v0]]) ∧ (decide (n.On ≤ v0) = false → Q (.bool false) [[AV.int .i64 v0]])
theorem r74 (n:TSnNight) (v0:Int) (S:SpecF) (Fr:FreshF) (Sq:SeqF) (Q:AV → List (List AV) → Prop):awpF Tryz.prog (mkS Tryz.prog S Fr Sq ⟨[],[],[],[],[]⟩ 0) 1 ⟨[0,1,2,3],[],[],[]⟩ Tryz.f74 [n.av,.ref 0 0] [⟨3,false,[.int .i64 v0]⟩] Q = R74 n v0 S Fr Sq Q:=by kernel_rfl
theorem s74 (n:TSnNight) (v0:Int) (v:AV) (O:List (List AV)) (h:R74 n v0 (SpecOf Tryz.prog) (FreshOf Tryz.prog) (SeqOf Tryz.prog) (fun r O' => r = v ∧ O' = O)):SpecOf Tryz.prog 74 [n.av,.ref 0 0] [[.int .i64 v0]] v O :=
 spec_by (boxes:=[⟨3,false,[.int .i64 v0]⟩]) mixed (by exact trivial) Tryz.func74 Tryz.call74 rfl rfl rfl (Nat.le_of_ble_eq_true rfl) (r74 n v0 (SpecOf Tryz.prog) (FreshOf Tryz.prog) (SeqOf Tryz.prog) _) h
theorem c74 (n:TSnNight) (v:Int):Sp 74 [n.av,.ref 0 0] [[.int .i64 v]] (.bool (litN v n)) [[.int .i64 v]]:=s74 n v _ _ (by
 unfold R74 litN
 refine ⟨fun h => ⟨?_,by trivial⟩,fun h => ⟨?_,by trivial⟩⟩
 ·rw [h]; rfl
 ·rw [h]; rfl)
def R99 (s:List TSnNight) (f0:Int) (S:SpecF) (_Fr:FreshF) (_Sq:SeqF) (Q:AV → List (List AV) → Prop):Prop :=
 ∃ (I0:Nat → List AV → Prop),(∃ m2,I0 m2 [AV.int .i64 0,.agg [AV.int .i64 f0]]) ∧ ∀ (m2:Nat) (n3 n4:Int),I0 m2 [AV.int .i64 n3,.agg [AV.int .i64 n4]] → (decide (n3 < (↑(List.map TSnNight.av s).length:Int)) = true → ∃ n8 n9,((0:Int) ≤ n3 ∧ (2:Nat) = (2:Nat) ∧ (List.map TSnNight.av s)[n3.toNat]? = some (.agg [AV.int .i64 n8,.int .i64 n9])) ∧ ∃ b11,S 74 [AV.agg [AV.int .i64 n8,.int .i64 n9],.ref 0 0] [[AV.int .i64 n4]] (.bool b11) [[AV.int .i64 n4]] ∧ (b11 = true → Q (.int .i64 n3) [[AV.int .i64 n4]]) ∧ (b11 = false → ∃ k15,k15 < m2 ∧ I0 k15 [AV.int .i64 (IntKind.i64.wrap (n3 + 1)),.agg [AV.int .i64 n4]])) ∧ (decide (n3 < (↑(List.map TSnNight.av s).length:Int)) = false → Q (.int .i64 (-1:Int)) [[AV.int .i64 n4]])
theorem r99 (s:List TSnNight) (f0:Int) (S:SpecF) (Fr:FreshF) (Sq:SeqF) (Q:AV → List (List AV) → Prop):awpF Tryz.prog (mkS Tryz.prog S Fr Sq ⟨[],[],[74],[],[]⟩ 0) 1 ⟨[0,1,4,5,7,8,9,16],[⟨2,[(8,.int .i64 0)],[],[(1000000,.agg [.int .i64 0])],[],[]⟩],[],[]⟩ Tryz.f99 [.slc 3 (List.map TSnNight.av s),.fn 74 [] [.ref 0 0]] [⟨3,false,[.int .i64 f0]⟩] Q = R99 s f0 S Fr Sq Q:=by kernel_rfl
theorem s99 (s:List TSnNight) (f0:Int) (v:AV) (O:List (List AV)) (h:R99 s f0 (SpecOf Tryz.prog) (FreshOf Tryz.prog) (SeqOf Tryz.prog) (fun r O' => r = v ∧ O' = O)):SpecOf Tryz.prog 99 [.slc 3 (List.map TSnNight.av s),.fn 74 [] [.ref 0 0]] [[.int .i64 f0]] v O :=
 spec_by (boxes:=[⟨3,false,[.int .i64 f0]⟩]) mixed (by exact trivial) Tryz.func99 Tryz.call99 rfl rfl rfl (Nat.le_of_ble_eq_true rfl) (r99 s f0 (SpecOf Tryz.prog) (FreshOf Tryz.prog) (SeqOf Tryz.prog) _) h
theorem c99 (s:List TSnNight) (v:Int) (hl:s.length ≤ 1000000):Sp 99 [.slc 3 (List.map TSnNight.av s),.fn 74 [] [.ref 0 0]] [[.int .i64 v]] (.int .i64 (findI (litN v) 0 s)) [[.int .i64 v]]:=s99 s v _ _ (by
 unfold R99
 refine ⟨fun m vs => ∃ n:Nat,vs = [.int .i64 n,.agg [.int .i64 v]] ∧ n ≤ s.length ∧ m = s.length - n ∧ findI (litN v) n (s.drop n) = findI (litN v) 0 s,⟨_,0,rfl,by omega,rfl,rfl⟩,?_⟩
 rintro m n n4 ⟨k,hk,hle,rfl,hn⟩
 cases hk
 refine ⟨fun h3 => ?_,fun h3 => ⟨?_,by trivial⟩⟩
 ·have h3:k < s.length:=by simpa using h3
  obtain ⟨x,hx,hx'⟩:=map_getN (f:=TSnNight.av) h3
  have hat:=findI_at (f:=litN v) hx
  refine ⟨x.On,x.Off,⟨by omega,by trivial,hx'⟩,_,c74 x v,fun h4 => ⟨?_,by trivial⟩,fun h4 => ⟨s.length - (k + 1),by omega,k + 1,?_,by omega,rfl,?_⟩⟩
  ·rw [← hn,hat,h4]; rfl
  ·rw [wrapN (by omega)]
  ·rw [← hn,hat,h4]; rfl
 ·have:k = s.length:=by simp at h3; omega
  rw [← hn,this,List.drop_length]; rfl)
def R73 (s:List TSnNight) (f0:Int) (S:SpecF) (_Fr:FreshF) (_Sq:SeqF) (Q:AV → List (List AV) → Prop):Prop :=
 ∃ n0,S 99 [AV.slc 3 (List.map TSnNight.av s),AV.fn (74:FuncId) [] [AV.ref 0 0]] [[AV.int .i64 f0]] (.int .i64 n0) [[AV.int .i64 f0]] ∧ Q (.bool (decide (n0 ≥ 0))) [[AV.int .i64 f0]]
theorem r73 (s:List TSnNight) (f0:Int) (S:SpecF) (Fr:FreshF) (Sq:SeqF) (Q:AV → List (List AV) → Prop):awpF Tryz.prog (mkS Tryz.prog S Fr Sq ⟨[],[],[99,74],[],[]⟩ 0) 1 ⟨[0,1,4],[],[],[]⟩ Tryz.f73 [.slc 3 (List.map TSnNight.av s),.fn 74 [] [.ref 0 0]] [⟨3,false,[.int .i64 f0]⟩] Q = R73 s f0 S Fr Sq Q:=by kernel_rfl
theorem s73 (s:List TSnNight) (f0:Int) (v:AV) (O:List (List AV)) (h:R73 s f0 (SpecOf Tryz.prog) (FreshOf Tryz.prog) (SeqOf Tryz.prog) (fun r O' => r = v ∧ O' = O)):SpecOf Tryz.prog 73 [.slc 3 (List.map TSnNight.av s),.fn 74 [] [.ref 0 0]] [[.int .i64 f0]] v O :=
 spec_by (boxes:=[⟨3,false,[.int .i64 f0]⟩]) mixed (by exact trivial) Tryz.func73 Tryz.call73 rfl rfl rfl (Nat.le_of_ble_eq_true rfl) (r73 s f0 (SpecOf Tryz.prog) (FreshOf Tryz.prog) (SeqOf Tryz.prog) _) h
theorem c73 (s:List TSnNight) (v:Int) (hl:s.length ≤ 1000000):Sp 73 [.slc 3 (List.map TSnNight.av s),.fn 74 [] [.ref 0 0]] [[.int .i64 v]] (.bool (s.any (litN v))) [[.int .i64 v]]:=s73 s v _ _ (by
 unfold R73
 refine ⟨_,c99 s v hl,?_,by trivial⟩
 rw [findI_any])
end Go.Proofs.YtblebiafhhhflaaGreat
namespace Go.Proofs.YtblebiafhhhflaaGreat
open Go.RowKit
def strA (dark:List TSnNight) (a b:Int):AV:=.agg [.int .i64 a,.int .i64 (IntKind.i64.wrap (b - a)),.bool (dark.any (litN a))]
def strL (dark:List TSnNight) (cuts:List Int):List (List AV):=(List.range (cuts.length - 1)).map fun i => [strA dark (cuts.getD i 0) (cuts.getD (i + 1) 0)]
theorem strL_len (dark:List TSnNight) (cuts:List Int):(strL dark cuts).length = cuts.length - 1:=by simp [strL]
theorem strL_at {dark:List TSnNight} {cuts:List Int} {i:Nat} {x y:Int} (hx:cuts[i]? = some x) (hy:cuts[i + 1]? = some y):(strL dark cuts)[i]? = some [strA dark x y]:=by
 have h1:=(List.getElem?_eq_some_iff.1 hy).1
 unfold strL
 rw [List.getElem?_map,List.getElem?_range (by omega)]
 simp only [Option.map_some,List.getD,hx,hy,Option.getD_some]
def RY72 (v0:List Int) (v1:List TSnNight) (S:SpecF) (_Fr:FreshF) (_Sq:SeqF) (l:Nat) (Y:Nat → List AV → Prop) (len:Nat):Prop :=
 ((0:Int) ≤ IntKind.i64.wrap ((↑(List.map (AV.int IntKind.i64) v0).length:Int) - (1:Int)) ∧ IntKind.i64.wrap ((↑(List.map (AV.int IntKind.i64) v0).length:Int) - (1:Int)) ≤ (↑(List.map (AV.int IntKind.i64) v0).length:Int)) ∧ ∃ (I1:Nat → Nat → List AV → Prop),(∃ m3,I1 m3 (0:Nat) [AV.int .i64 0]) ∧ ∀ (m3 i4:Nat) (n5:Int),I1 m3 i4 [AV.int .i64 n5] → (decide (n5 < (↑(List.take (IntKind.i64.wrap ((↑(List.map (AV.int IntKind.i64) v0).length:Int) - (1:Int))).toNat (List.map (AV.int IntKind.i64) v0)).length:Int)) = true → ∃ n9,((0:Int) ≤ n5 ∧ (1:Nat) = (1:Nat) ∧ (List.take (IntKind.i64.wrap ((↑(List.map (AV.int IntKind.i64) v0).length:Int) - (1:Int))).toNat (List.map (AV.int IntKind.i64) v0))[n5.toNat]? = some (.int .i64 n9)) ∧ ∃ b11,S 73 [AV.slc 3 (List.map TSnNight.av v1),AV.fn (74:Nat) [] [AV.ref 0 0]] [[AV.int .i64 n9]] (.bool b11) [[AV.int .i64 n9]] ∧ ∃ n13,((0:Int) ≤ IntKind.i64.wrap (n5 + 1) ∧ (1:Nat) = (1:Nat) ∧ (List.map (AV.int IntKind.i64) v0)[(IntKind.i64.wrap (n5 + 1)).toNat]? = some (.int .i64 n13)) ∧ l = l ∧ Y i4 [AV.agg [AV.int .i64 n9,.int .i64 (IntKind.i64.wrap (n13 - n9)),.bool b11]] ∧ (((35:Nat) = (35:Nat) ∧ AV.yld l = AV.yld l ∧ .eptr [AV.slc 3 (List.map (AV.int IntKind.i64) v0)] (0:Nat) = AV.eptr [AV.slc 3 (List.map (AV.int IntKind.i64) v0)] (0:Nat) ∧ .eptr [AV.slc 3 (List.map TSnNight.av v1)] (0:Nat) = AV.eptr [AV.slc 3 (List.map TSnNight.av v1)] (0:Nat) ∧ .slc 3 (List.take (IntKind.i64.wrap ((↑(List.map (AV.int IntKind.i64) v0).length:Int) - (1:Int))).toNat (List.map (AV.int IntKind.i64) v0)) = AV.slc 3 (List.take (IntKind.i64.wrap ((↑(List.map (AV.int IntKind.i64) v0).length:Int) - (1:Int))).toNat (List.map (AV.int IntKind.i64) v0)) ∧ .int .i64 (↑(List.take (IntKind.i64.wrap ((↑(List.map (AV.int IntKind.i64) v0).length:Int) - (1:Int))).toNat (List.map (AV.int IntKind.i64) v0)).length:Int) = AV.int .i64 (↑(List.take (IntKind.i64.wrap ((↑(List.map (AV.int IntKind.i64) v0).length:Int) - (1:Int))).toNat (List.map (AV.int IntKind.i64) v0)).length:Int) ∧ True) ∧ ∃ k19,k19 < m3 ∧ I1 k19 (i4 + 1) [AV.int .i64 (IntKind.i64.wrap (n5 + 1))]) ∧ True) ∧ (decide (n5 < (↑(List.take (IntKind.i64.wrap ((↑(List.map (AV.int IntKind.i64) v0).length:Int) - (1:Int))).toNat (List.map (AV.int IntKind.i64) v0)).length:Int)) = false → i4 = len)
theorem ry72 (v0:List Int) (v1:List TSnNight) (S:SpecF) (Fr:FreshF) (Sq:SeqF) (l:Nat) (Y:Nat → List AV → Prop) (len:Nat):awpS Tryz.prog (mkS Tryz.prog S Fr Sq ⟨[],[],[73],[],[]⟩ 0) 0 l Y ⟨[0,1,2,4,5,6,11,12,13,14,33],[⟨1,[(13,.int .i64 0)],[],[],[],[]⟩],[],[]⟩ Tryz.f72 [.eptr [.slc 3 (List.map (AV.int .i64) v0)] 0,.eptr [.slc 3 (List.map TSnNight.av v1)] 0] [] len = RY72 v0 v1 S Fr Sq l Y len:=by kernel_rfl
theorem sq72 (v0:List Int) (v1:List TSnNight) (xs:List (List AV)) (h:∀ l,RY72 v0 v1 (SpecOf Tryz.prog) (FreshOf Tryz.prog) (SeqOf Tryz.prog) l (fun i x => xs[i]? = some x) xs.length):SeqOf Tryz.prog 72 [.eptr [.slc 3 (List.map (AV.int .i64) v0)] 0,.eptr [.slc 3 (List.map TSnNight.av v1)] 0] [] xs :=
 seq_by (boxes:=[]) Tryz.func72 Tryz.call72 rfl rfl rfl rfl (fun l => ry72 v0 v1 (SpecOf Tryz.prog) (FreshOf Tryz.prog) (SeqOf Tryz.prog) l _ _) h
theorem sqStr (cuts:List Int) (h1:1 ≤ cuts.length) (h2:cuts.length ≤ 2 ^ 43) (dark:List TSnNight) (hd:dark.length ≤ 1000000):SeqOf Tryz.prog 72 [.eptr [.slc 3 (cuts.map (AV.int .i64))] 0,.eptr [.slc 3 (dark.map TSnNight.av)] 0] [] (strL dark cuts):=by
 refine sq72 cuts dark (strL dark cuts) fun y => ?_
 unfold RY72
 have e0:IntKind.i64.wrap (((List.map (AV.int .i64) cuts).length:Int) - 1) = ((cuts.length - 1:Nat):Int):=by
  rw [List.length_map,show ((cuts.length:Int) - 1) = ((cuts.length - 1:Nat):Int) by omega]; exact i64 (by omega)
 rw [e0,strL_len]
 simp only [Int.toNat_natCast,List.length_take,List.length_map,Nat.min_eq_left (show cuts.length - 1 ≤ cuts.length by omega)]
 refine ⟨⟨by omega,by omega⟩,fun m i vs => ∃ k:Nat,k ≤ cuts.length - 1 ∧ m = cuts.length - 1 - k ∧ i = k ∧ vs = [.int .i64 k],⟨_,0,by omega,rfl,rfl,rfl⟩,?_⟩
 rintro m i n ⟨k,hk,rfl,rfl,hv⟩
 cases hv
 refine ⟨fun g => ?_,fun g => ?_⟩
 ·have hlt:i < cuts.length - 1:=by have:=of_decide_eq_true g; omega
  obtain ⟨x,hx,hx'⟩:=map_getN (f:=AV.int .i64) (l:=cuts) (k:=i) (by omega)
  obtain ⟨z,hz,hz'⟩:=map_getN (f:=AV.int .i64) (l:=cuts) (k:=i + 1) (by omega)
  have e1:IntKind.i64.wrap ((i:Int) + 1) = ((i + 1:Nat):Int):=wrapN (by omega)
  rw [e1]
  refine ⟨x,⟨by omega,by trivial,?_⟩,_,c73 dark x hd,z,⟨by omega,by trivial,hz'⟩,by trivial,strL_at hx hz,⟨by simp,cuts.length - 1 - (i + 1),by omega,i + 1,by omega,rfl,rfl,rfl⟩,by trivial⟩
  rw [Int.toNat_natCast,List.getElem?_take_of_lt hlt]
  rw [Int.toNat_natCast] at hx'; exact hx'
 ·have:i = cuts.length - 1:=by have:=of_decide_eq_false g; omega
  exact this
end Go.Proofs.YtblebiafhhhflaaGreat
namespace Go.Proofs.YtblebiafhhhflaaGreat
open Go.RowKit
def pairA (m:TMtMeter) (a b:TMtReading):AV:=.agg [.str m.Name,.int .i64 m.Step,.int .i64 m.Modulus,.int .i64 m.Error,.slc 3 (List.map TMtReading.av m.Readings),.int .i64 a.Day,.int .i64 a.Value,.int .i64 b.Day,.int .i64 b.Value]
def pairL (m:TMtMeter):List (List AV):=(List.range (m.Readings.length - 1)).map fun i => [.int .i64 (i:Nat),pairA m (m.Readings.getD i ⟨0,0⟩) (m.Readings.getD (i + 1) ⟨0,0⟩)]
theorem pairL_len (m:TMtMeter):(pairL m).length = m.Readings.length - 1:=by simp [pairL]
theorem pairL_at {m:TMtMeter} {i:Nat} {x y:TMtReading} (hx:m.Readings[i]? = some x) (hy:m.Readings[i + 1]? = some y):(pairL m)[i]? = some [.int .i64 (i:Nat),pairA m x y]:=by
 have h1:=(List.getElem?_eq_some_iff.1 hy).1
 unfold pairL
 rw [List.getElem?_map,List.getElem?_range (by omega)]
 simp only [Option.map_some,List.getD,hx,hy,Option.getD_some]
def RY80 (v0:TMtMeter) (_S:SpecF) (_Fr:FreshF) (_Sq:SeqF) (l:Nat) (Y:Nat → List AV → Prop) (len:Nat):Prop :=
 ∃ (I0:Nat → Nat → List AV → Prop),(∃ m2,I0 m2 (0:Nat) [AV.int .i64 1]) ∧ ∀ (m2 i3:Nat) (n4:Int),I0 m2 i3 [AV.int .i64 n4] → (decide (n4 < (↑(List.map TMtReading.av v0.Readings).length:Int)) = true → ∃ n8 n9,((0:Int) ≤ IntKind.i64.wrap (n4 - 1) ∧ (2:Nat) = (2:Nat) ∧ (List.map TMtReading.av v0.Readings)[(IntKind.i64.wrap (n4 - 1)).toNat]? = some (.agg [AV.int .i64 n8,.int .i64 n9])) ∧ ∃ n11 n12,((0:Int) ≤ n4 ∧ (2:Nat) = (2:Nat) ∧ (List.map TMtReading.av v0.Readings)[n4.toNat]? = some (.agg [AV.int .i64 n11,.int .i64 n12])) ∧ l = l ∧ Y i3 [AV.int .i64 (IntKind.i64.wrap (n4 - 1)),.agg [AV.str v0.Name,.int .i64 v0.Step,.int .i64 v0.Modulus,.int .i64 v0.Error,.slc 3 (List.map TMtReading.av v0.Readings),.int .i64 n8,.int .i64 n9,.int .i64 n11,.int .i64 n12]] ∧ (((29:Nat) = (29:Nat) ∧ AV.yld l = AV.yld l ∧ .eptr v0.cs (0:Nat) = AV.eptr v0.cs (0:Nat) ∧ True) ∧ ∃ k18,k18 < m2 ∧ I0 k18 (i3 + 1) [AV.int .i64 (IntKind.i64.wrap (n4 + 1))]) ∧ True) ∧ (decide (n4 < (↑(List.map TMtReading.av v0.Readings).length:Int)) = false → i3 = len)
theorem ry80 (v0:TMtMeter) (S:SpecF) (Fr:FreshF) (Sq:SeqF) (l:Nat) (Y:Nat → List AV → Prop) (len:Nat):awpS Tryz.prog (mkS Tryz.prog S Fr Sq ⟨[],[],[],[],[]⟩ 0) 0 l Y ⟨[0,1,3,8,28],[⟨1,[(3,.int .i64 0)],[],[],[],[]⟩],[],[]⟩ Tryz.f80 [.eptr v0.cs 0] [] len = RY80 v0 S Fr Sq l Y len:=by kernel_rfl
theorem sq80 (v0:TMtMeter) (xs:List (List AV)) (h:∀ l,RY80 v0 (SpecOf Tryz.prog) (FreshOf Tryz.prog) (SeqOf Tryz.prog) l (fun i x => xs[i]? = some x) xs.length):SeqOf Tryz.prog 80 [.eptr v0.cs 0] [] xs :=
 seq_by (boxes:=[]) Tryz.func80 Tryz.call80 rfl rfl rfl rfl (fun l => ry80 v0 (SpecOf Tryz.prog) (FreshOf Tryz.prog) (SeqOf Tryz.prog) l _ _) h
theorem sqPairs (m:TMtMeter) (h2:m.Readings.length ≤ 2 ^ 43):SeqOf Tryz.prog 80 [.eptr m.cs 0] [] (pairL m):=by
 refine sq80 m (pairL m) fun y => ?_
 unfold RY80
 rw [pairL_len,List.length_map]
 refine ⟨fun a i vs => ∃ k:Nat,i = k ∧ (k = 0 ∨ k ≤ m.Readings.length - 1) ∧ a = m.Readings.length - k ∧ vs = [.int .i64 ((k + 1:Nat):Int)],⟨_,0,rfl,.inl rfl,rfl,rfl⟩,?_⟩
 rintro a i n ⟨k,rfl,hk,rfl,hv⟩
 cases hv
 refine ⟨fun g => ?_,fun g => ?_⟩
 ·have hlt:i + 1 < m.Readings.length:=by have:=of_decide_eq_true g; omega
  obtain ⟨x,hx,hx'⟩:=map_getN (f:=TMtReading.av) (l:=m.Readings) (k:=i) (by omega)
  obtain ⟨z,hz,hz'⟩:=map_getN (f:=TMtReading.av) (l:=m.Readings) (k:=i + 1) (by omega)
  have e1:IntKind.i64.wrap (((i + 1:Nat):Int) - 1) = ((i:Nat):Int):=by rw [show ((i + 1:Nat):Int) - 1 = (i:Nat) by omega]; exact i64 (by omega)
  have e2:IntKind.i64.wrap (((i + 1:Nat):Int) + 1) = ((i + 1 + 1:Nat):Int):=wrapN (by omega)
  rw [e1,e2]
  exact ⟨x.Day,x.Value,⟨by omega,by trivial,hx'⟩,z.Day,z.Value,⟨by omega,by trivial,hz'⟩,by trivial,pairL_at hx hz,⟨by simp,m.Readings.length - (i + 1),by omega,i + 1,rfl,.inr (by omega),rfl,rfl⟩,by trivial⟩
 ·have:=of_decide_eq_false g
  omega
end Go.Proofs.YtblebiafhhhflaaGreat
