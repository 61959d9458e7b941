/- Contracts: tables, lamps, catalogues. Contracts: lamps of a catalogue. Contracts: catalogues, levels and power of lamps. -/
import Derived.Test.YtblebiafhhhflaaGreatGb
namespace Go.Proofs.YtblebiafhhhflaaGreat
open Go.RowKit
def tableS (_:Nat) (t:TLmTable):Int :=
 if !inB t.Us.length 2 12 then 3 else if !inB t.Vs.length 2 12 then 3 else if !rangedB t.Us (-5000) 5000 then 7 else if !rangedB t.Vs (-5000) 5000 then 7 else if !risingB t.Us then 2 else if !risingB t.Vs then 2 else
 if !decide (t.Values.length = t.Us.length) then 6 else if t.Values.any (fun x => !decide (x.length = t.Vs.length)) then 6 else if t.Values.any (fun x => !rangedB x 0 10000000) then 7 else if !rangedB [t.Side,t.Sky] 0 10000000 then 7 else 0
def R114 (t:TLmTable) (S:SpecF) (_Fr:FreshF) (_Sq:SeqF) (Q:AV → List (List AV) → Prop):Prop :=
 ∃ b0,S 94 [AV.int .i64 (↑(List.map (AV.int IntKind.i64) t.Us).length:Int),.int .i64 2,.int .i64 12] [] (.bool b0) [] ∧ ((!b0) = true → Q (.int .i64 3) []) ∧ ((!b0) = false → ∃ b4,S 94 [AV.int .i64 (↑(List.map (AV.int IntKind.i64) t.Vs).length:Int),.int .i64 2,.int .i64 12] [] (.bool b4) [] ∧ ((!b4) = true → Q (.int .i64 3) []) ∧ ((!b4) = false → ∃ b8,S 151 [AV.slc 3 (List.map (AV.int IntKind.i64) t.Us),.int .i64 (-5000:Int),.int .i64 5000] [] (.bool b8) [] ∧ ((!b8) = true → Q (.int .i64 7) []) ∧ ((!b8) = false → ∃ b12,S 151 [AV.slc 3 (List.map (AV.int IntKind.i64) t.Vs),.int .i64 (-5000:Int),.int .i64 5000] [] (.bool b12) [] ∧ ((!b12) = true → Q (.int .i64 7) []) ∧ ((!b12) = false → ∃ b16,S 152 [AV.slc 3 (List.map (AV.int IntKind.i64) t.Us)] [] (.bool b16) [] ∧ ((!b16) = true → Q (.int .i64 2) []) ∧ ((!b16) = false → ∃ b20,S 152 [AV.slc 3 (List.map (AV.int IntKind.i64) t.Vs)] [] (.bool b20) [] ∧ ((!b20) = true → Q (.int .i64 2) []) ∧ ((!b20) = false → (((↑(List.map (fun x => AV.slc 3 (List.map (AV.int IntKind.i64) x)) t.Values).length:Int) != (↑(List.map (AV.int IntKind.i64) t.Us).length:Int)) = true → Q (.int .i64 6) []) ∧ (((↑(List.map (fun x => AV.slc 3 (List.map (AV.int IntKind.i64) x)) t.Values).length:Int) != (↑(List.map (AV.int IntKind.i64) t.Us).length:Int)) = false → ∃ b26,S 153 [AV.slc 3 (List.map (fun x => AV.slc 3 (List.map (AV.int IntKind.i64) x)) t.Values),AV.fn (149:Nat) [] [AV.ref 0 0]] [[AV.str t.Name,.slc 3 (List.map (AV.int IntKind.i64) t.Us),.slc 3 (List.map (AV.int IntKind.i64) t.Vs),.slc 3 (List.map (fun x => AV.slc 3 (List.map (AV.int IntKind.i64) x)) t.Values),.int .i64 t.Side,.int .i64 t.Sky]] (.bool b26) [[AV.str t.Name,.slc 3 (List.map (AV.int IntKind.i64) t.Us),.slc 3 (List.map (AV.int IntKind.i64) t.Vs),.slc 3 (List.map (fun x => AV.slc 3 (List.map (AV.int IntKind.i64) x)) t.Values),.int .i64 t.Side,.int .i64 t.Sky]] ∧ (b26 = true → Q (.int .i64 6) []) ∧ (b26 = false → ∃ b30,S 153 [AV.slc 3 (List.map (fun x => AV.slc 3 (List.map (AV.int IntKind.i64) x)) t.Values),AV.fn (150:Nat) [] []] [] (.bool b30) [] ∧ (b30 = true → Q (.int .i64 7) []) ∧ (b30 = false → ∃ b34,S 150 [AV.slc 3 [AV.int .i64 t.Side,.int .i64 t.Sky]] [] (.bool b34) [] ∧ (b34 = true → Q (.int .i64 7) []) ∧ (b34 = false → Q (.int .i64 0) []))))))))))
theorem r114 (t:TLmTable) (S:SpecF) (Fr:FreshF) (Sq:SeqF) (Q:AV → List (List AV) → Prop):awpF Tryz.prog (mkS Tryz.prog S Fr Sq ⟨[],[],[153],[],[]⟩ 0) 0 ⟨[0,1,2,3,4,6,19,30,41,55],[],[],[]⟩ Tryz.f114 [t.av] [] Q = R114 t S Fr Sq Q:=by kernel_rfl
theorem s114 (t:TLmTable) (v:AV) (O:List (List AV)) (h:R114 t (SpecOf Tryz.prog) (FreshOf Tryz.prog) (SeqOf Tryz.prog) (fun r O' => r = v ∧ O' = O)):SpecOf Tryz.prog 114 [t.av] [] v O :=
 spec_by (boxes:=[]) mixed (by exact trivial) Tryz.func114 Tryz.call114 rfl rfl rfl (Nat.le_of_ble_eq_true rfl) (r114 t (SpecOf Tryz.prog) (FreshOf Tryz.prog) (SeqOf Tryz.prog) _) h
theorem c114 (k:Nat) (t:TLmTable):Sp 114 [t.av] [] (.int .i64 (tableS k t)) []:=s114 t _ _ (by
 unfold R114 tableS
 simp only [List.length_map]
 refine ⟨_,c94 ..,fun h => ⟨by rw [if_pos h],by trivial⟩,fun h1 => ⟨_,c94 ..,fun h => ⟨by rw [if_neg (by rw [h1]; simp),if_pos h],by trivial⟩,fun h2 => ?_⟩⟩
 rw [if_neg (by rw [h1]; simp),if_neg (by rw [h2]; simp)]
 have h1:inB t.Us.length 2 12 = true:=by simpa using h1
 have h2:inB t.Vs.length 2 12 = true:=by simpa using h2
 rw [inB_iff] at h1 h2
 refine ⟨_,c151 t.Us (by omega) ..,fun h => ⟨by rw [if_pos h],by trivial⟩,fun h3 => ⟨_,c151 t.Vs (by omega) ..,fun h => ⟨by rw [if_neg (by rw [h3]; simp),if_pos h],by trivial⟩,fun h4 => ?_⟩⟩
 rw [if_neg (by rw [h3]; simp),if_neg (by rw [h4]; simp)]
 refine ⟨_,c152 t.Us (by omega),fun h => ⟨by rw [if_pos h],by trivial⟩,fun h5 => ⟨_,c152 t.Vs (by omega),fun h => ⟨by rw [if_neg (by rw [h5]; simp),if_pos h],by trivial⟩,fun h6 => ?_⟩⟩
 rw [if_neg (by rw [h5]; simp),if_neg (by rw [h6]; simp)]
 have hd:((((t.Values.length:Nat):Int)) != ((t.Us.length:Nat):Int)) = !decide (t.Values.length = t.Us.length):=by rw [Bool.eq_iff_iff]; simp; omega
 rw [hd]
 refine ⟨fun h => ⟨by rw [if_pos h],by trivial⟩,fun h7 => ?_⟩
 rw [if_neg (by rw [h7]; simp)]
 have h7:t.Values.length = t.Us.length:=by simpa using h7
 refine ⟨_,c153a t.Values (by omega) t,fun h => ⟨by rw [if_pos h],by trivial⟩,fun h8 => ?_⟩
 rw [if_neg (by rw [h8]; simp)]
 have hr:∀ x ∈ t.Values,x.length ≤ 1000000:=fun x hx => by
  have:=List.any_eq_false.1 h8 x hx
  have:x.length = t.Vs.length:=by simpa using this
  omega
 refine ⟨_,c153b t.Values (by omega) hr,fun h => ⟨by rw [if_pos h],by trivial⟩,fun h9 => ⟨_,c150 [t.Side,t.Sky] (by simp),fun h => ⟨by rw [if_neg (by rw [h9]; simp),if_pos h],by trivial⟩,fun h10 => ⟨by rw [if_neg (by rw [h9]; simp),if_neg (by rw [h10]; simp)],by trivial⟩⟩⟩)
def R113 (t:TLmTable) (_S:SpecF) (_Fr:FreshF) (_Sq:SeqF) (Q:AV → List (List AV) → Prop):Prop :=
 Q (.str t.Name) []
theorem r113 (t:TLmTable) (S:SpecF) (Fr:FreshF) (Sq:SeqF) (Q:AV → List (List AV) → Prop):awpF Tryz.prog (mkS Tryz.prog S Fr Sq ⟨[],[],[],[],[]⟩ 0) 0 ⟨[0,1,2],[],[],[]⟩ Tryz.f113 [t.av] [] Q = R113 t S Fr Sq Q:=by kernel_rfl
theorem s113 (t:TLmTable) (v:AV) (O:List (List AV)) (h:R113 t (SpecOf Tryz.prog) (FreshOf Tryz.prog) (SeqOf Tryz.prog) (fun r O' => r = v ∧ O' = O)):SpecOf Tryz.prog 113 [t.av] [] v O :=
 spec_by (boxes:=[]) mixed (by exact trivial) Tryz.func113 Tryz.call113 rfl rfl rfl (Nat.le_of_ble_eq_true rfl) (r113 t (SpecOf Tryz.prog) (FreshOf Tryz.prog) (SeqOf Tryz.prog) _) h
theorem c113 (x:TLmTable):Sp 113 [x.av] [] (.str x.Name) []:=s113 x _ _ ⟨rfl,rfl⟩
def R147 (y:TLmTable) (v1:TLmTable) (S:SpecF) (_Fr:FreshF) (_Sq:SeqF) (Q:AV → List (List AV) → Prop):Prop :=
 ∃ s0,S 113 [AV.agg [AV.str y.Name,.slc 3 (List.map (AV.int IntKind.i64) y.Us),.slc 3 (List.map (AV.int IntKind.i64) y.Vs),.slc 3 (List.map (fun x => AV.slc 3 (List.map (AV.int IntKind.i64) x)) y.Values),.int .i64 y.Side,.int .i64 y.Sky]] [] (.str s0) [] ∧ ∃ s2,S 113 [AV.agg [AV.str v1.Name,.slc 3 (List.map (AV.int IntKind.i64) v1.Us),.slc 3 (List.map (AV.int IntKind.i64) v1.Vs),.slc 3 (List.map (fun x => AV.slc 3 (List.map (AV.int IntKind.i64) x)) v1.Values),.int .i64 v1.Side,.int .i64 v1.Sky]] [] (.str s2) [] ∧ Q (.bool (s0.toList == s2.toList)) [[AV.fn (113:FuncId) [] []],[AV.str v1.Name,.slc 3 (List.map (AV.int IntKind.i64) v1.Us),.slc 3 (List.map (AV.int IntKind.i64) v1.Vs),.slc 3 (List.map (fun x => AV.slc 3 (List.map (AV.int IntKind.i64) x)) v1.Values),.int .i64 v1.Side,.int .i64 v1.Sky]]
theorem r147 (y:TLmTable) (v1:TLmTable) (S:SpecF) (Fr:FreshF) (Sq:SeqF) (Q:AV → List (List AV) → Prop):awpF Tryz.prog (mkS Tryz.prog S Fr Sq ⟨[],[],[],[],[]⟩ 0) 2 ⟨[0,1,2,3,4],[],[],[]⟩ Tryz.f147 [y.av,.ref 0 0,.ref 1 0] [⟨207,false,[.fn 113 [] []]⟩,⟨135,false,v1.cs⟩] Q = R147 y v1 S Fr Sq Q:=by kernel_rfl
theorem s147 (y:TLmTable) (v1:TLmTable) (v:AV) (O:List (List AV)) (h:R147 y v1 (SpecOf Tryz.prog) (FreshOf Tryz.prog) (SeqOf Tryz.prog) (fun r O' => r = v ∧ O' = O)):SpecOf Tryz.prog 147 [y.av,.ref 0 0,.ref 1 0] [[.fn 113 [] []],v1.cs] v O :=
 spec_by (boxes:=[⟨207,false,[.fn 113 [] []]⟩,⟨135,false,v1.cs⟩]) mixed (by exact trivial) Tryz.func147 Tryz.call147 rfl rfl rfl (Nat.le_of_ble_eq_true rfl) (r147 y v1 (SpecOf Tryz.prog) (FreshOf Tryz.prog) (SeqOf Tryz.prog) _) h
theorem c147 (x y:TLmTable):Sp 147 [x.av,.ref 0 0,.ref 1 0] [[.fn 113 [] []],y.cs] (.bool (twinB x.Name y.Name)) [[.fn 113 [] []],y.cs]:=s147 x y _ _ ⟨_,c113 x,_,c113 y,rfl,rfl⟩
def R169 (s:List TLmTable) (f1:TLmTable) (S:SpecF) (_Fr:FreshF) (_Sq:SeqF) (Q:AV → List (List AV) → Prop):Prop :=
 ∃ (I0:Nat → List AV → Prop),(∃ m2,I0 m2 [AV.int .i64 0]) ∧ ∀ (m2:Nat) (n3:Int),I0 m2 [AV.int .i64 n3] → (decide (n3 < (↑(List.map TLmTable.av s).length:Int)) = true → ∃ s7 es8 es9 es10 n11 n12,((0:Int) ≤ n3 ∧ (6:Nat) = (6:Nat) ∧ (List.map TLmTable.av s)[n3.toNat]? = some (.agg [AV.str s7,.slc 3 es8,.slc 3 es9,.slc 3 es10,.int .i64 n11,.int .i64 n12])) ∧ ∃ b14 s15 es16 es17 es18 n19 n20,S 147 [AV.agg [AV.str s7,.slc 3 es8,.slc 3 es9,.slc 3 es10,.int .i64 n11,.int .i64 n12],.ref 0 0,.ref 1 0] [[AV.fn (113:FuncId) [] []],[AV.str f1.Name,.slc 3 (List.map (AV.int IntKind.i64) f1.Us),.slc 3 (List.map (AV.int IntKind.i64) f1.Vs),.slc 3 (List.map (fun x => AV.slc 3 (List.map (AV.int IntKind.i64) x)) f1.Values),.int .i64 f1.Side,.int .i64 f1.Sky]] (.bool b14) [[AV.fn (113:FuncId) [] []],[AV.str s15,.slc 3 es16,.slc 3 es17,.slc 3 es18,.int .i64 n19,.int .i64 n20]] ∧ (b14 = true → Q (.int .i64 n3) [[AV.fn (113:FuncId) [] []],[AV.str s15,.slc 3 es16,.slc 3 es17,.slc 3 es18,.int .i64 n19,.int .i64 n20]]) ∧ (b14 = false → Same [AV.fn (113:FuncId) [] []] ∧ [AV.str s15,.slc 3 es16,.slc 3 es17,.slc 3 es18,.int .i64 n19,.int .i64 n20] = [AV.str f1.Name,.slc 3 (List.map (AV.int IntKind.i64) f1.Us),.slc 3 (List.map (AV.int IntKind.i64) f1.Vs),.slc 3 (List.map (fun x => AV.slc 3 (List.map (AV.int IntKind.i64) x)) f1.Values),.int .i64 f1.Side,.int .i64 f1.Sky] ∧ ∃ k26,k26 < m2 ∧ I0 k26 [AV.int .i64 (IntKind.i64.wrap (n3 + 1))])) ∧ (decide (n3 < (↑(List.map TLmTable.av s).length:Int)) = false → Q (.int .i64 (-1:Int)) [[AV.fn (113:FuncId) [] []],[AV.str f1.Name,.slc 3 (List.map (AV.int IntKind.i64) f1.Us),.slc 3 (List.map (AV.int IntKind.i64) f1.Vs),.slc 3 (List.map (fun x => AV.slc 3 (List.map (AV.int IntKind.i64) x)) f1.Values),.int .i64 f1.Side,.int .i64 f1.Sky]])
theorem r169 (s:List TLmTable) (f1:TLmTable) (S:SpecF) (Fr:FreshF) (Sq:SeqF) (Q:AV → List (List AV) → Prop):awpF Tryz.prog (mkS Tryz.prog S Fr Sq ⟨[],[],[],[],[]⟩ 0) 2 ⟨[0,1,4,5,7,8,9,16],[⟨2,[(8,.int .i64 0)],[],[],[],[]⟩],[],[]⟩ Tryz.f169 [.slc 3 (List.map TLmTable.av s),.fn 147 [] [.ref 0 0,.ref 1 0]] [⟨207,false,[.fn 113 [] []]⟩,⟨135,false,f1.cs⟩] Q = R169 s f1 S Fr Sq Q:=by kernel_rfl
theorem s169 (s:List TLmTable) (f1:TLmTable) (v:AV) (O:List (List AV)) (h:R169 s f1 (SpecOf Tryz.prog) (FreshOf Tryz.prog) (SeqOf Tryz.prog) (fun r O' => r = v ∧ O' = O)):SpecOf Tryz.prog 169 [.slc 3 (List.map TLmTable.av s),.fn 147 [] [.ref 0 0,.ref 1 0]] [[.fn 113 [] []],f1.cs] v O :=
 spec_by (boxes:=[⟨207,false,[.fn 113 [] []]⟩,⟨135,false,f1.cs⟩]) mixed (by exact trivial) Tryz.func169 Tryz.call169 rfl rfl rfl (Nat.le_of_ble_eq_true rfl) (r169 s f1 (SpecOf Tryz.prog) (FreshOf Tryz.prog) (SeqOf Tryz.prog) _) h
theorem c169 (s:List TLmTable) (y:TLmTable) (hl:s.length ≤ 1000000):Sp 169 [.slc 3 (List.map TLmTable.av s),.fn 147 [] [.ref 0 0,.ref 1 0]] [[.fn 113 [] []],y.cs] (.int .i64 (findI (fun x => twinB x.Name y.Name) 0 s)) [[.fn 113 [] []],y.cs]:=s169 s y _ _ (by
 refine ⟨fun m vs => ∃ n:Nat,vs = [.int .i64 n] ∧ n ≤ s.length ∧ m = s.length - n ∧ findI (fun x => twinB x.Name y.Name) n (s.drop n) = findI (fun x => twinB x.Name y.Name) 0 s,⟨_,0,rfl,by omega,rfl,rfl⟩,?_⟩
 rintro m n ⟨k,hk,hle,rfl,hn⟩
 cases hk
 refine ⟨fun h3 => ?_,fun h3 => ⟨?_,rfl⟩⟩
 ·have h3:k < s.length:=by simpa using h3
  obtain ⟨x,hx,hx'⟩:=map_getN (f:=TLmTable.av) h3
  have hat:=findI_at (f:=(fun x => twinB x.Name y.Name)) hx
  refine ⟨x.Name,List.map (AV.int .i64) x.Us,List.map (AV.int .i64) x.Vs,List.map (fun x => AV.slc 3 (List.map (AV.int .i64) x)) x.Values,x.Side,x.Sky,⟨by omega,rfl,hx'⟩,_,y.Name,List.map (AV.int .i64) y.Us,List.map (AV.int .i64) y.Vs,List.map (fun x => AV.slc 3 (List.map (AV.int .i64) x)) y.Values,y.Side,y.Sky,c147 x y,fun h4 => ⟨?_,rfl⟩,fun h4 => ⟨rfl,rfl,_,?_,k + 1,?_,by omega,rfl,?_⟩⟩
  ·rw [← hn,hat,h4]; rfl
  ·omega
  ·rw [wrapN (by omega)]
  ·rw [← hn,hat,h4]; rfl
 ·have:k = s.length:=by simp at h3; omega
  rw [← hn,this,List.drop_length]; rfl)
def R148 (s:List TLmTable) (f1:TLmTable) (S:SpecF) (_Fr:FreshF) (_Sq:SeqF) (Q:AV → List (List AV) → Prop):Prop :=
 ∃ n0 s1 es2 es3 es4 n5 n6,S 169 [AV.slc 3 (List.map TLmTable.av s),AV.fn (147:FuncId) [] [AV.ref 0 0,.ref 1 0]] [[AV.fn (113:FuncId) [] []],[AV.str f1.Name,.slc 3 (List.map (AV.int IntKind.i64) f1.Us),.slc 3 (List.map (AV.int IntKind.i64) f1.Vs),.slc 3 (List.map (fun x => AV.slc 3 (List.map (AV.int IntKind.i64) x)) f1.Values),.int .i64 f1.Side,.int .i64 f1.Sky]] (.int .i64 n0) [[AV.fn (113:FuncId) [] []],[AV.str s1,.slc 3 es2,.slc 3 es3,.slc 3 es4,.int .i64 n5,.int .i64 n6]] ∧ Q (.bool (decide (n0 ≥ 0))) [[AV.fn (113:FuncId) [] []],[AV.str s1,.slc 3 es2,.slc 3 es3,.slc 3 es4,.int .i64 n5,.int .i64 n6]]
theorem r148 (s:List TLmTable) (f1:TLmTable) (S:SpecF) (Fr:FreshF) (Sq:SeqF) (Q:AV → List (List AV) → Prop):awpF Tryz.prog (mkS Tryz.prog S Fr Sq ⟨[],[],[],[],[]⟩ 0) 2 ⟨[0,1,4],[],[],[]⟩ Tryz.f148 [.slc 3 (List.map TLmTable.av s),.fn 147 [] [.ref 0 0,.ref 1 0]] [⟨207,false,[.fn 113 [] []]⟩,⟨135,false,f1.cs⟩] Q = R148 s f1 S Fr Sq Q:=by kernel_rfl
theorem s148 (s:List TLmTable) (f1:TLmTable) (v:AV) (O:List (List AV)) (h:R148 s f1 (SpecOf Tryz.prog) (FreshOf Tryz.prog) (SeqOf Tryz.prog) (fun r O' => r = v ∧ O' = O)):SpecOf Tryz.prog 148 [.slc 3 (List.map TLmTable.av s),.fn 147 [] [.ref 0 0,.ref 1 0]] [[.fn 113 [] []],f1.cs] v O :=
 spec_by (boxes:=[⟨207,false,[.fn 113 [] []]⟩,⟨135,false,f1.cs⟩]) mixed (by exact trivial) Tryz.func148 Tryz.call148 rfl rfl rfl (Nat.le_of_ble_eq_true rfl) (r148 s f1 (SpecOf Tryz.prog) (FreshOf Tryz.prog) (SeqOf Tryz.prog) _) h
theorem c148 (s:List TLmTable) (y:TLmTable) (hl:s.length ≤ 1000000):Sp 148 [.slc 3 (List.map TLmTable.av s),.fn 147 [] [.ref 0 0,.ref 1 0]] [[.fn 113 [] []],y.cs] (.bool (s.any (fun x => twinB x.Name y.Name))) [[.fn 113 [] []],y.cs]:=s148 s y _ _ (by
 refine ⟨_,y.Name,List.map (AV.int .i64) y.Us,List.map (AV.int .i64) y.Vs,List.map (fun x => AV.slc 3 (List.map (AV.int .i64) x)) y.Values,y.Side,y.Sky,c169 s y hl,?_,rfl⟩
 rw [findI_any])
def R116 (x:TLmLamp) (_S:SpecF) (_Fr:FreshF) (_Sq:SeqF) (Q:AV → List (List AV) → Prop):Prop :=
 Q (.str x.Name) []
theorem r116 (x:TLmLamp) (S:SpecF) (Fr:FreshF) (Sq:SeqF) (Q:AV → List (List AV) → Prop):awpF Tryz.prog (mkS Tryz.prog S Fr Sq ⟨[],[],[],[],[]⟩ 0) 0 ⟨[0,1,2],[],[],[]⟩ Tryz.f116 [x.av] [] Q = R116 x S Fr Sq Q:=by kernel_rfl
theorem s116 (x:TLmLamp) (v:AV) (O:List (List AV)) (h:R116 x (SpecOf Tryz.prog) (FreshOf Tryz.prog) (SeqOf Tryz.prog) (fun r O' => r = v ∧ O' = O)):SpecOf Tryz.prog 116 [x.av] [] v O :=
 spec_by (boxes:=[]) mixed (by exact trivial) Tryz.func116 Tryz.call116 rfl rfl rfl (Nat.le_of_ble_eq_true rfl) (r116 x (SpecOf Tryz.prog) (FreshOf Tryz.prog) (SeqOf Tryz.prog) _) h
theorem c116 (x:TLmLamp):Sp 116 [x.av] [] (.str x.Name) []:=s116 x _ _ ⟨rfl,rfl⟩
def R154 (y:TLmLamp) (v1:TLmLamp) (S:SpecF) (_Fr:FreshF) (_Sq:SeqF) (Q:AV → List (List AV) → Prop):Prop :=
 ∃ s0,S 116 [y.av] [] (.str s0) [] ∧ ∃ s2,S 116 [v1.av] [] (.str s2) [] ∧ Q (.bool (s0.toList == s2.toList)) [[AV.fn (116:FuncId) [] []],v1.cs]
theorem r154 (y:TLmLamp) (v1:TLmLamp) (S:SpecF) (Fr:FreshF) (Sq:SeqF) (Q:AV → List (List AV) → Prop):awpF Tryz.prog (mkS Tryz.prog S Fr Sq ⟨[],[],[],[],[]⟩ 0) 2 ⟨[0,1,2,3,4],[],[],[]⟩ Tryz.f154 [y.av,.ref 0 0,.ref 1 0] [⟨210,false,[.fn 116 [] []]⟩,⟨64,false,v1.cs⟩] Q = R154 y v1 S Fr Sq Q:=by kernel_rfl
theorem s154 (y:TLmLamp) (v1:TLmLamp) (v:AV) (O:List (List AV)) (h:R154 y v1 (SpecOf Tryz.prog) (FreshOf Tryz.prog) (SeqOf Tryz.prog) (fun r O' => r = v ∧ O' = O)):SpecOf Tryz.prog 154 [y.av,.ref 0 0,.ref 1 0] [[.fn 116 [] []],v1.cs] v O :=
 spec_by (boxes:=[⟨210,false,[.fn 116 [] []]⟩,⟨64,false,v1.cs⟩]) mixed (by exact trivial) Tryz.func154 Tryz.call154 rfl rfl rfl (Nat.le_of_ble_eq_true rfl) (r154 y v1 (SpecOf Tryz.prog) (FreshOf Tryz.prog) (SeqOf Tryz.prog) _) h
theorem c154 (x y:TLmLamp):Sp 154 [x.av,.ref 0 0,.ref 1 0] [[.fn 116 [] []],y.cs] (.bool (twinB x.Name y.Name)) [[.fn 116 [] []],y.cs]:=s154 x y _ _ ⟨_,c116 x,_,c116 y,rfl,rfl⟩
def R172 (s:List TLmLamp) (f1:TLmLamp) (S:SpecF) (_Fr:FreshF) (_Sq:SeqF) (Q:AV → List (List AV) → Prop):Prop :=
 ∃ (I0:Nat → List AV → Prop),(∃ m2,I0 m2 [AV.int .i64 0]) ∧ ∀ (m2:Nat) (n3:Int),I0 m2 [AV.int .i64 n3] → (decide (n3 < (↑(List.map TLmLamp.av s).length:Int)) = true → ∃ s7 n8 n9 n10 n11 n12 n13 n14 n15 n16 n17 n18 n19 n20,((0:Int) ≤ n3 ∧ (14:Nat) = (14:Nat) ∧ (List.map TLmLamp.av s)[n3.toNat]? = some (.agg [AV.str s7,.int .i64 n8,.int .i64 n9,.int .i64 n10,.int .i64 n11,.int .i64 n12,.int .i64 n13,.int .i64 n14,.int .i64 n15,.int .i64 n16,.int .i64 n17,.int .i64 n18,.int .i64 n19,.int .i64 n20])) ∧ ∃ b22 s23 n24 n25 n26 n27 n28 n29 n30 n31 n32 n33 n34 n35 n36,S 154 [AV.agg [AV.str s7,.int .i64 n8,.int .i64 n9,.int .i64 n10,.int .i64 n11,.int .i64 n12,.int .i64 n13,.int .i64 n14,.int .i64 n15,.int .i64 n16,.int .i64 n17,.int .i64 n18,.int .i64 n19,.int .i64 n20],.ref 0 0,.ref 1 0] [[AV.fn (116:FuncId) [] []],f1.cs] (.bool b22) [[AV.fn (116:FuncId) [] []],[AV.str s23,.int .i64 n24,.int .i64 n25,.int .i64 n26,.int .i64 n27,.int .i64 n28,.int .i64 n29,.int .i64 n30,.int .i64 n31,.int .i64 n32,.int .i64 n33,.int .i64 n34,.int .i64 n35,.int .i64 n36]] ∧ (b22 = true → Q (.int .i64 n3) [[AV.fn (116:FuncId) [] []],[AV.str s23,.int .i64 n24,.int .i64 n25,.int .i64 n26,.int .i64 n27,.int .i64 n28,.int .i64 n29,.int .i64 n30,.int .i64 n31,.int .i64 n32,.int .i64 n33,.int .i64 n34,.int .i64 n35,.int .i64 n36]]) ∧ (b22 = false → Same [AV.fn (116:FuncId) [] []] ∧ [AV.str s23,.int .i64 n24,.int .i64 n25,.int .i64 n26,.int .i64 n27,.int .i64 n28,.int .i64 n29,.int .i64 n30,.int .i64 n31,.int .i64 n32,.int .i64 n33,.int .i64 n34,.int .i64 n35,.int .i64 n36] = f1.cs ∧ ∃ k42,k42 < m2 ∧ I0 k42 [AV.int .i64 (IntKind.i64.wrap (n3 + 1))])) ∧ (decide (n3 < (↑(List.map TLmLamp.av s).length:Int)) = false → Q (.int .i64 (-1:Int)) [[AV.fn (116:FuncId) [] []],f1.cs])
theorem r172 (s:List TLmLamp) (f1:TLmLamp) (S:SpecF) (Fr:FreshF) (Sq:SeqF) (Q:AV → List (List AV) → Prop):awpF Tryz.prog (mkS Tryz.prog S Fr Sq ⟨[],[],[],[],[]⟩ 0) 2 ⟨[0,1,4,5,7,8,9,16],[⟨2,[(8,.int .i64 0)],[],[],[],[]⟩],[],[]⟩ Tryz.f172 [.slc 3 (List.map TLmLamp.av s),.fn 154 [] [.ref 0 0,.ref 1 0]] [⟨210,false,[.fn 116 [] []]⟩,⟨64,false,f1.cs⟩] Q = R172 s f1 S Fr Sq Q:=by kernel_rfl
theorem s172 (s:List TLmLamp) (f1:TLmLamp) (v:AV) (O:List (List AV)) (h:R172 s f1 (SpecOf Tryz.prog) (FreshOf Tryz.prog) (SeqOf Tryz.prog) (fun r O' => r = v ∧ O' = O)):SpecOf Tryz.prog 172 [.slc 3 (List.map TLmLamp.av s),.fn 154 [] [.ref 0 0,.ref 1 0]] [[.fn 116 [] []],f1.cs] v O :=
 spec_by (boxes:=[⟨210,false,[.fn 116 [] []]⟩,⟨64,false,f1.cs⟩]) mixed (by exact trivial) Tryz.func172 Tryz.call172 rfl rfl rfl (Nat.le_of_ble_eq_true rfl) (r172 s f1 (SpecOf Tryz.prog) (FreshOf Tryz.prog) (SeqOf Tryz.prog) _) h
theorem c172 (s:List TLmLamp) (y:TLmLamp) (hl:s.length ≤ 1000000):Sp 172 [.slc 3 (List.map TLmLamp.av s),.fn 154 [] [.ref 0 0,.ref 1 0]] [[.fn 116 [] []],y.cs] (.int .i64 (findI (fun x => twinB x.Name y.Name) 0 s)) [[.fn 116 [] []],y.cs]:=s172 s y _ _ (by
 refine ⟨fun m vs => ∃ n:Nat,vs = [.int .i64 n] ∧ n ≤ s.length ∧ m = s.length - n ∧ findI (fun x => twinB x.Name y.Name) n (s.drop n) = findI (fun x => twinB x.Name y.Name) 0 s,⟨_,0,rfl,by omega,rfl,rfl⟩,?_⟩
 rintro m n ⟨k,hk,hle,rfl,hn⟩
 cases hk
 refine ⟨fun h3 => ?_,fun h3 => ⟨?_,rfl⟩⟩
 ·have h3:k < s.length:=by simpa using h3
  obtain ⟨x,hx,hx'⟩:=map_getN (f:=TLmLamp.av) h3
  have hat:=findI_at (f:=(fun x => twinB x.Name y.Name)) hx
  refine ⟨x.Name,x.Table,x.Kind,x.Lumens,x.Power,x.Standing,x.Tolerance,x.Ageing.Lo,x.Ageing.Hi,x.Dirt.Lo,x.Dirt.Hi,x.Life,x.Dim,x.Restrike,⟨by omega,rfl,hx'⟩,_,y.Name,y.Table,y.Kind,y.Lumens,y.Power,y.Standing,y.Tolerance,y.Ageing.Lo,y.Ageing.Hi,y.Dirt.Lo,y.Dirt.Hi,y.Life,y.Dim,y.Restrike,c154 x y,fun h4 => ⟨?_,rfl⟩,fun h4 => ⟨rfl,rfl,_,?_,k + 1,?_,by omega,rfl,?_⟩⟩
  ·rw [← hn,hat,h4]; rfl
  ·omega
  ·rw [wrapN (by omega)]
  ·rw [← hn,hat,h4]; rfl
 ·have:k = s.length:=by simp at h3; omega
  rw [← hn,this,List.drop_length]; rfl)
def R155 (s:List TLmLamp) (f1:TLmLamp) (S:SpecF) (_Fr:FreshF) (_Sq:SeqF) (Q:AV → List (List AV) → Prop):Prop :=
 ∃ n0 s1 n2 n3 n4 n5 n6 n7 n8 n9 n10 n11 n12 n13 n14,S 172 [AV.slc 3 (List.map TLmLamp.av s),AV.fn (154:FuncId) [] [AV.ref 0 0,.ref 1 0]] [[AV.fn (116:FuncId) [] []],f1.cs] (.int .i64 n0) [[AV.fn (116:FuncId) [] []],[AV.str s1,.int .i64 n2,.int .i64 n3,.int .i64 n4,.int .i64 n5,.int .i64 n6,.int .i64 n7,.int .i64 n8,.int .i64 n9,.int .i64 n10,.int .i64 n11,.int .i64 n12,.int .i64 n13,.int .i64 n14]] ∧ Q (.bool (decide (n0 ≥ 0))) [[AV.fn (116:FuncId) [] []],[AV.str s1,.int .i64 n2,.int .i64 n3,.int .i64 n4,.int .i64 n5,.int .i64 n6,.int .i64 n7,.int .i64 n8,.int .i64 n9,.int .i64 n10,.int .i64 n11,.int .i64 n12,.int .i64 n13,.int .i64 n14]]
theorem r155 (s:List TLmLamp) (f1:TLmLamp) (S:SpecF) (Fr:FreshF) (Sq:SeqF) (Q:AV → List (List AV) → Prop):awpF Tryz.prog (mkS Tryz.prog S Fr Sq ⟨[],[],[],[],[]⟩ 0) 2 ⟨[0,1,4],[],[],[]⟩ Tryz.f155 [.slc 3 (List.map TLmLamp.av s),.fn 154 [] [.ref 0 0,.ref 1 0]] [⟨210,false,[.fn 116 [] []]⟩,⟨64,false,f1.cs⟩] Q = R155 s f1 S Fr Sq Q:=by kernel_rfl
theorem s155 (s:List TLmLamp) (f1:TLmLamp) (v:AV) (O:List (List AV)) (h:R155 s f1 (SpecOf Tryz.prog) (FreshOf Tryz.prog) (SeqOf Tryz.prog) (fun r O' => r = v ∧ O' = O)):SpecOf Tryz.prog 155 [.slc 3 (List.map TLmLamp.av s),.fn 154 [] [.ref 0 0,.ref 1 0]] [[.fn 116 [] []],f1.cs] v O :=
 spec_by (boxes:=[⟨210,false,[.fn 116 [] []]⟩,⟨64,false,f1.cs⟩]) mixed (by exact trivial) Tryz.func155 Tryz.call155 rfl rfl rfl (Nat.le_of_ble_eq_true rfl) (r155 s f1 (SpecOf Tryz.prog) (FreshOf Tryz.prog) (SeqOf Tryz.prog) _) h
theorem c155 (s:List TLmLamp) (y:TLmLamp) (hl:s.length ≤ 1000000):Sp 155 [.slc 3 (List.map TLmLamp.av s),.fn 154 [] [.ref 0 0,.ref 1 0]] [[.fn 116 [] []],y.cs] (.bool (s.any (fun x => twinB x.Name y.Name))) [[.fn 116 [] []],y.cs]:=s155 s y _ _ (by
 refine ⟨_,y.Name,y.Table,y.Kind,y.Lumens,y.Power,y.Standing,y.Tolerance,y.Ageing.Lo,y.Ageing.Hi,y.Dirt.Lo,y.Dirt.Hi,y.Life,y.Dim,y.Restrike,c172 s y hl,?_,rfl⟩
 rw [findI_any])
end Go.Proofs.YtblebiafhhhflaaGreat
namespace Go.Proofs.YtblebiafhhhflaaGreat
open Go.RowKit
def numB (x:TLmLamp):Bool:=inB x.Lumens 1 1000000 && (inB x.Power 1 5000000 && (inB x.Standing 0 x.Power && (inB x.Tolerance 0 1000 && (wiB x.Ageing 0 1000 && (wiB x.Dirt 0 1000 && (inB x.Life 1 200000 && (inB x.Dim 0 1000 && inB x.Restrike 0 3600)))))))
def lampS (n:Int) (_:Nat) (x:TLmLamp):Int:=if !inB x.Table 0 n then 4 else if !inB x.Kind 1 3 then 2 else if !numB x then 7 else if x.Kind == 1 && decide (x.Restrike > 0) then 2 else 0
theorem lampTail (x:TLmLamp) (k:Nat) (n:Int) (h:numB x = false):∃ b,Sp 94 [.int .i64 x.Table,.int .i64 0,.int .i64 n] [] (.bool b) [] ∧ ((!b) = true → AV.int .i64 4 = .int .i64 (lampS n k x) ∧ True) ∧
  ((!b) = false → ∃ b,Sp 94 [.int .i64 x.Kind,.int .i64 1,.int .i64 3] [] (.bool b) [] ∧ ((!b) = true → AV.int .i64 2 = .int .i64 (lampS n k x) ∧ True) ∧ ((!b) = false → AV.int .i64 7 = .int .i64 (lampS n k x) ∧ True)):=by
 unfold lampS
 refine ⟨_,c94 ..,fun g => ⟨by rw [if_pos g],trivial⟩,fun g => ⟨_,c94 ..,fun g2 => ⟨by rw [if_neg (by rw [g]; simp),if_pos g2],trivial⟩,fun g2 => ⟨by rw [if_neg (by rw [g]; simp),if_neg (by rw [g2]; simp),if_pos (by rw [h]; rfl)],trivial⟩⟩⟩
def R117 (x:TLmLamp) (v0:TLmCatalog) (S:SpecF) (_Fr:FreshF) (_Sq:SeqF) (Q:AV → List (List AV) → Prop):Prop :=
 ∃ b0,S 94 [AV.int .i64 x.Lumens,.int .i64 1,.int .i64 1000000] [] (.bool b0) [] ∧ (b0 = true → ∃ b4,S 94 [AV.int .i64 x.Power,.int .i64 1,.int .i64 5000000] [] (.bool b4) [] ∧ (b4 = true → ∃ b8,S 94 [AV.int .i64 x.Standing,.int .i64 0,.int .i64 x.Power] [] (.bool b8) [] ∧ (b8 = true → ∃ b12,S 94 [AV.int .i64 x.Tolerance,.int .i64 0,.int .i64 1000] [] (.bool b12) [] ∧ (b12 = true → ∃ b16,S 118 [x.Ageing.av,.int .i64 0,.int .i64 1000] [] (.bool b16) [] ∧ (b16 = true → ∃ b20,S 118 [x.Dirt.av,.int .i64 0,.int .i64 1000] [] (.bool b20) [] ∧ (b20 = true → ∃ b24,S 94 [AV.int .i64 x.Life,.int .i64 1,.int .i64 200000] [] (.bool b24) [] ∧ (b24 = true → ∃ b28,S 94 [AV.int .i64 x.Dim,.int .i64 0,.int .i64 1000] [] (.bool b28) [] ∧ (b28 = true → ∃ b32,S 94 [AV.int .i64 x.Restrike,.int .i64 0,.int .i64 3600] [] (.bool b32) [] ∧ ∃ b34,S 94 [AV.int .i64 x.Table,.int .i64 0,.int .i64 (IntKind.i64.wrap ((↑(List.map TLmTable.av v0.Tables).length:Int) - (1:Int)))] [] (.bool b34) [] ∧ ((!b34) = true → Q (.int .i64 4) [v0.cs]) ∧ ((!b34) = false → ∃ b38,S 94 [AV.int .i64 x.Kind,.int .i64 1,.int .i64 3] [] (.bool b38) [] ∧ ((!b38) = true → Q (.int .i64 2) [v0.cs]) ∧ ((!b38) = false → ((!b32) = true → Q (.int .i64 7) [v0.cs]) ∧ ((!b32) = false → ((x.Kind == 1) = true → (decide (x.Restrike > 0) = true → Q (.int .i64 2) [v0.cs]) ∧ (decide (x.Restrike > 0) = false → Q (.int .i64 0) [v0.cs])) ∧ ((x.Kind == 1) = false → Q (.int .i64 0) [v0.cs]))))) ∧ (b28 = false → ∃ b32,S 94 [AV.int .i64 x.Table,.int .i64 0,.int .i64 (IntKind.i64.wrap ((↑(List.map TLmTable.av v0.Tables).length:Int) - (1:Int)))] [] (.bool b32) [] ∧ ((!b32) = true → Q (.int .i64 4) [v0.cs]) ∧ ((!b32) = false → ∃ b36,S 94 [AV.int .i64 x.Kind,.int .i64 1,.int .i64 3] [] (.bool b36) [] ∧ ((!b36) = true → Q (.int .i64 2) [v0.cs]) ∧ ((!b36) = false → Q (.int .i64 7) [v0.cs])))) ∧ (b24 = false → ∃ b28,S 94 [AV.int .i64 x.Table,.int .i64 0,.int .i64 (IntKind.i64.wrap ((↑(List.map TLmTable.av v0.Tables).length:Int) - (1:Int)))] [] (.bool b28) [] ∧ ((!b28) = true → Q (.int .i64 4) [v0.cs]) ∧ ((!b28) = false → ∃ b32,S 94 [AV.int .i64 x.Kind,.int .i64 1,.int .i64 3] [] (.bool b32) [] ∧ ((!b32) = true → Q (.int .i64 2) [v0.cs]) ∧ ((!b32) = false → Q (.int .i64 7) [v0.cs])))) ∧ (b20 = false → ∃ b24,S 94 [AV.int .i64 x.Table,.int .i64 0,.int .i64 (IntKind.i64.wrap ((↑(List.map TLmTable.av v0.Tables).length:Int) - (1:Int)))] [] (.bool b24) [] ∧ ((!b24) = true → Q (.int .i64 4) [v0.cs]) ∧ ((!b24) = false → ∃ b28,S 94 [AV.int .i64 x.Kind,.int .i64 1,.int .i64 3] [] (.bool b28) [] ∧ ((!b28) = true → Q (.int .i64 2) [v0.cs]) ∧ ((!b28) = false → Q (.int .i64 7) [v0.cs])))) ∧ (b16 = false → ∃ b20,S 94 [AV.int .i64 x.Table,.int .i64 0,.int .i64 (IntKind.i64.wrap ((↑(List.map TLmTable.av v0.Tables).length:Int) - (1:Int)))] [] (.bool b20) [] ∧ ((!b20) = true → Q (.int .i64 4) [v0.cs]) ∧ ((!b20) = false → ∃ b24,S 94 [AV.int .i64 x.Kind,.int .i64 1,.int .i64 3] [] (.bool b24) [] ∧ ((!b24) = true → Q (.int .i64 2) [v0.cs]) ∧ ((!b24) = false → Q (.int .i64 7) [v0.cs])))) ∧ (b12 = false → ∃ b16,S 94 [AV.int .i64 x.Table,.int .i64 0,.int .i64 (IntKind.i64.wrap ((↑(List.map TLmTable.av v0.Tables).length:Int) - (1:Int)))] [] (.bool b16) [] ∧ ((!b16) = true → Q (.int .i64 4) [v0.cs]) ∧ ((!b16) = false → ∃ b20,S 94 [AV.int .i64 x.Kind,.int .i64 1,.int .i64 3] [] (.bool b20) [] ∧ ((!b20) = true → Q (.int .i64 2) [v0.cs]) ∧ ((!b20) = false → Q (.int .i64 7) [v0.cs])))) ∧ (b8 = false → ∃ b12,S 94 [AV.int .i64 x.Table,.int .i64 0,.int .i64 (IntKind.i64.wrap ((↑(List.map TLmTable.av v0.Tables).length:Int) - (1:Int)))] [] (.bool b12) [] ∧ ((!b12) = true → Q (.int .i64 4) [v0.cs]) ∧ ((!b12) = false → ∃ b16,S 94 [AV.int .i64 x.Kind,.int .i64 1,.int .i64 3] [] (.bool b16) [] ∧ ((!b16) = true → Q (.int .i64 2) [v0.cs]) ∧ ((!b16) = false → Q (.int .i64 7) [v0.cs])))) ∧ (b4 = false → ∃ b8,S 94 [AV.int .i64 x.Table,.int .i64 0,.int .i64 (IntKind.i64.wrap ((↑(List.map TLmTable.av v0.Tables).length:Int) - (1:Int)))] [] (.bool b8) [] ∧ ((!b8) = true → Q (.int .i64 4) [v0.cs]) ∧ ((!b8) = false → ∃ b12,S 94 [AV.int .i64 x.Kind,.int .i64 1,.int .i64 3] [] (.bool b12) [] ∧ ((!b12) = true → Q (.int .i64 2) [v0.cs]) ∧ ((!b12) = false → Q (.int .i64 7) [v0.cs])))) ∧ (b0 = false → ∃ b4,S 94 [AV.int .i64 x.Table,.int .i64 0,.int .i64 (IntKind.i64.wrap ((↑(List.map TLmTable.av v0.Tables).length:Int) - (1:Int)))] [] (.bool b4) [] ∧ ((!b4) = true → Q (.int .i64 4) [v0.cs]) ∧ ((!b4) = false → ∃ b8,S 94 [AV.int .i64 x.Kind,.int .i64 1,.int .i64 3] [] (.bool b8) [] ∧ ((!b8) = true → Q (.int .i64 2) [v0.cs]) ∧ ((!b8) = false → Q (.int .i64 7) [v0.cs])))
theorem r117 (x:TLmLamp) (v0:TLmCatalog) (S:SpecF) (Fr:FreshF) (Sq:SeqF) (Q:AV → List (List AV) → Prop):awpF Tryz.prog (mkS Tryz.prog S Fr Sq ⟨[],[],[],[],[]⟩ 0) 1 ⟨[0,1,2,3,4,51,60,65,68],[],[],[]⟩ Tryz.f117 [x.av,.ref 0 0] [⟨29,false,v0.cs⟩] Q = R117 x v0 S Fr Sq Q:=by kernel_rfl
theorem s117 (x:TLmLamp) (v0:TLmCatalog) (v:AV) (O:List (List AV)) (h:R117 x v0 (SpecOf Tryz.prog) (FreshOf Tryz.prog) (SeqOf Tryz.prog) (fun r O' => r = v ∧ O' = O)):SpecOf Tryz.prog 117 [x.av,.ref 0 0] [v0.cs] v O :=
 spec_by (boxes:=[⟨29,false,v0.cs⟩]) mixed (by exact trivial) Tryz.func117 Tryz.call117 rfl rfl rfl (Nat.le_of_ble_eq_true rfl) (r117 x v0 (SpecOf Tryz.prog) (FreshOf Tryz.prog) (SeqOf Tryz.prog) _) h
theorem c117 (k:Nat) (x:TLmLamp) (c:TLmCatalog) (hc:c.Tables.length ≤ 1000000):Sp 117 [x.av,.ref 0 0] [c.cs] (.int .i64 (lampS (c.Tables.length - 1) k x)) [c.cs]:=s117 x c _ _ (by
 unfold R117
 have e:IntKind.i64.wrap (((List.map TLmTable.av c.Tables).length:Int) - 1) = (c.Tables.length:Int) - 1:=by rw [List.length_map]; exact i64 (by omega)
 simp only [e]
 have tl:=lampTail x k ((c.Tables.length:Int) - 1)
 refine ⟨_,c94 ..,fun h1 => ⟨_,c94 ..,fun h2 => ⟨_,c94 ..,fun h3 => ⟨_,c94 ..,fun h4 => ⟨_,c118 ..,fun h5 => ⟨_,c118 ..,fun h6 => ⟨_,c94 ..,fun h7 => ⟨_,c94 ..,fun h8 => ⟨_,c94 ..,?_⟩,fun h => tl (by unfold numB; rw [h1,h2,h3,h4,h5,h6,h7,h]; rfl)⟩,fun h => tl (by unfold numB; rw [h1,h2,h3,h4,h5,h6,h]; rfl)⟩,fun h => tl (by unfold numB; rw [h1,h2,h3,h4,h5,h]; rfl)⟩,fun h => tl (by unfold numB; rw [h1,h2,h3,h4,h]; rfl)⟩,fun h => tl (by unfold numB; rw [h1,h2,h3,h]; rfl)⟩,fun h => tl (by unfold numB; rw [h1,h2,h]; rfl)⟩,fun h => tl (by unfold numB; rw [h1,h]; rfl)⟩,fun h => tl (by unfold numB; rw [h]; rfl)⟩
 have hn:numB x = inB x.Restrike 0 3600:=by unfold numB; rw [h1,h2,h3,h4,h5,h6,h7,h8]; rfl
 unfold lampS
 rw [hn]
 refine ⟨_,c94 ..,fun g => ⟨by rw [if_pos g],by trivial⟩,fun g => ⟨_,c94 ..,fun g2 => ⟨by rw [if_neg (by rw [g]; simp),if_pos g2],by trivial⟩,fun g2 => ?_⟩⟩
 rw [if_neg (by rw [g]; simp),if_neg (by rw [g2]; simp)]
 refine ⟨fun g3 => ⟨by rw [if_pos g3],by trivial⟩,fun g3 => ?_⟩
 rw [if_neg (by rw [g3]; simp)]
 refine ⟨fun g4 => ⟨fun g5 => ⟨by rw [g4,g5]; rfl,by trivial⟩,fun g5 => ⟨by rw [g4,g5]; rfl,by trivial⟩⟩,fun g4 => ⟨by rw [g4]; rfl,by trivial⟩⟩)
def firstR {α:Type} (nm:α → ByteArray) (rest:Nat → α → Int) (l:List α):Int × Int:=firstE (errAt nm rest l) l.length 0
def R112 (l:List TLmTable) (S:SpecF) (_Fr:FreshF) (_Sq:SeqF) (Q:AV → List (List AV) → Prop):Prop :=
 ∃ (I0:Nat → List AV → Prop),(∃ m2,I0 m2 [AV.int .i64 0]) ∧ ∀ (m2:Nat) (n3:Int),I0 m2 [AV.int .i64 n3] → (decide (n3 < (↑(List.map TLmTable.av l).length:Int)) = true → ∃ s7 es8 es9 es10 n11 n12,((0:Int) ≤ n3 ∧ (6:Nat) = (6:Nat) ∧ (List.map TLmTable.av l)[n3.toNat]? = some (.agg [AV.str s7,.slc 3 es8,.slc 3 es9,.slc 3 es10,.int .i64 n11,.int .i64 n12])) ∧ ∃ n14,S 114 [AV.agg [AV.str s7,.slc 3 es8,.slc 3 es9,.slc 3 es10,.int .i64 n11,.int .i64 n12]] [] (.int .i64 n14) [] ∧ ∃ s16,S 113 [AV.agg [AV.str s7,.slc 3 es8,.slc 3 es9,.slc 3 es10,.int .i64 n11,.int .i64 n12]] [] (.str s16) [] ∧ ∃ b18,S 119 [AV.str s16] [] (.bool b18) [] ∧ ((!b18) = true → Q (.tup [AV.int .i64 n3,.int .i64 6]) []) ∧ ((!b18) = false → ((0:Int) ≤ n3 ∧ n3 ≤ (↑(List.map TLmTable.av l).length:Int)) ∧ ∃ b23,S 148 [AV.slc 3 (List.take n3.toNat (List.map TLmTable.av l)),AV.fn (147:Nat) [] [AV.ref 0 0,.ref 1 0]] [[AV.fn (113:FuncId) [] []],[AV.str s7,.slc 3 es8,.slc 3 es9,.slc 3 es10,.int .i64 n11,.int .i64 n12]] (.bool b23) [[AV.fn (113:FuncId) [] []],[AV.str s7,.slc 3 es8,.slc 3 es9,.slc 3 es10,.int .i64 n11,.int .i64 n12]] ∧ (b23 = true → Q (.tup [AV.int .i64 n3,.int .i64 5]) []) ∧ (b23 = false → ((n14 != 0) = true → Q (.tup [AV.int .i64 n3,.int .i64 n14]) []) ∧ ((n14 != 0) = false → Same [AV.fn (113:FuncId) [] []] ∧ ∃ k30,k30 < m2 ∧ I0 k30 [AV.int .i64 (IntKind.i64.wrap (n3 + 1))])))) ∧ (decide (n3 < (↑(List.map TLmTable.av l).length:Int)) = false → Q (.tup TEncl.zero.cs) [])
theorem r112 (l:List TLmTable) (S:SpecF) (Fr:FreshF) (Sq:SeqF) (Q:AV → List (List AV) → Prop):awpF Tryz.prog (mkS Tryz.prog S Fr Sq ⟨[],[],[148,147],[],[]⟩ 0) 0 ⟨[0,1,2,4,6,7,8,9,10,11,12,13,14,15,23,29,36],[⟨2,[(14,.int .i64 0)],[],[],[],[]⟩],[],[]⟩ Tryz.f112 [.slc 3 (List.map TLmTable.av l),.fn 113 [] [],.fn 114 [] []] [] Q = R112 l S Fr Sq Q:=by kernel_rfl
theorem s112 (l:List TLmTable) (v:AV) (O:List (List AV)) (h:R112 l (SpecOf Tryz.prog) (FreshOf Tryz.prog) (SeqOf Tryz.prog) (fun r O' => r = v ∧ O' = O)):SpecOf Tryz.prog 112 [.slc 3 (List.map TLmTable.av l),.fn 113 [] [],.fn 114 [] []] [] v O :=
 spec_by (boxes:=[]) mixed (by exact trivial) Tryz.func112 Tryz.call112 rfl rfl rfl (Nat.le_of_ble_eq_true rfl) (r112 l (SpecOf Tryz.prog) (FreshOf Tryz.prog) (SeqOf Tryz.prog) _) h
theorem c112 (l:List TLmTable) (hl:l.length ≤ 1000) (hnm:∀ x ∈ l,x.Name.size ≤ 9223372036854775807):Sp 112 [.slc 3 (List.map TLmTable.av l),.fn 113 [] [],.fn 114 [] []] [] (.tup [.int .i64 (firstE (errAt TLmTable.Name tableS l) l.length 0).1,.int .i64 (firstE (errAt TLmTable.Name tableS l) l.length 0).2]) []:=s112 l _ _ (by
 unfold R112
 refine ⟨fun m vs => ∃ n:Nat,vs = [.int .i64 n] ∧ n ≤ l.length ∧ m = l.length - n ∧ firstE (errAt TLmTable.Name tableS l) (l.length - n) n = firstE (errAt TLmTable.Name tableS l) l.length 0,⟨_,0,rfl,by omega,rfl,rfl⟩,?_⟩
 rintro m n ⟨k,hk,hle,rfl,hn⟩
 cases hk
 refine ⟨fun h3 => ?_,fun h3 => ⟨?_,by trivial⟩⟩
 ·have h3:k < l.length:=by simpa using h3
  obtain ⟨x,hx,hx'⟩:=map_getN (f:=TLmTable.av) h3
  have hat:=errAt_some (nm:=TLmTable.Name) (rest:=tableS) hx
  have hf:=firstE_at (e:=errAt TLmTable.Name tableS l) h3
  have hmem:x ∈ l:=List.mem_of_getElem? hx
  have htake:List.take (k:Int).toNat (List.map TLmTable.av l) = List.map TLmTable.av (l.take k):=by rw [Int.toNat_natCast,List.map_take]
  refine ⟨x.Name,List.map (AV.int .i64) x.Us,List.map (AV.int .i64) x.Vs,List.map (fun x => AV.slc 3 (List.map (AV.int .i64) x)) x.Values,x.Side,x.Sky,⟨by omega,rfl,hx'⟩,_,c114 k x,_,c113 x,_,c119 _ (hnm x hmem),fun h4 => ⟨?_,by trivial⟩,fun h4 => ⟨⟨by omega,by simp; omega⟩,((l.take k).any fun z => twinB z.Name x.Name),(by rw [htake]; exact c148 (l.take k) x (by rw [List.length_take]; omega)),fun h5 => ⟨?_,by trivial⟩,fun h5 => ⟨fun h6 => ⟨?_,by trivial⟩,fun h6 => ⟨by trivial,_,(by omega:l.length - (k + 1) < l.length - k),k + 1,?_,by omega,rfl,?_⟩⟩⟩⟩
  ·have he:errAt TLmTable.Name tableS l k = 6:=by rw [hat,if_pos h4]
   rw [← hn,hf,he]; rfl
  ·have h4':¬ (!nameB x.Name) = true:=by rw [h4]; simp
   have he:errAt TLmTable.Name tableS l k = 5:=by rw [hat,if_neg h4',if_pos h5]
   rw [← hn,hf,he]; rfl
  ·have h4':¬ (!nameB x.Name) = true:=by rw [h4]; simp
   have h5':¬ ((l.take k).any fun z => twinB z.Name x.Name) = true:=by rw [h5]; simp
   have he:errAt TLmTable.Name tableS l k = tableS k x:=by rw [hat,if_neg h4',if_neg h5']
   have h6:tableS k x ≠ 0:=by simpa using h6
   rw [← hn,hf,he,if_pos h6]
  ·rw [wrapN (by omega)] <;> rfl
  ·have h4':¬ (!nameB x.Name) = true:=by rw [h4]; simp
   have h5':¬ ((l.take k).any fun z => twinB z.Name x.Name) = true:=by rw [h5]; simp
   have he:errAt TLmTable.Name tableS l k = tableS k x:=by rw [hat,if_neg h4',if_neg h5']
   have h6:tableS k x = 0:=by simpa using h6
   rw [← hn,hf,he,if_neg (by simp [h6])]
 ·have:k = l.length:=by simp at h3; omega
  rw [← hn,this,Nat.sub_self]; rfl)
def R115 (l:List TLmLamp) (rest0:TLmCatalog) (S:SpecF) (_Fr:FreshF) (_Sq:SeqF) (Q:AV → List (List AV) → Prop):Prop :=
 ∃ (I0:Nat → List AV → Prop),(∃ m2,I0 m2 [AV.int .i64 0,rest0.av]) ∧ ∀ (m2:Nat) (n3:Int) (es4 es5:List AV),I0 m2 [AV.int .i64 n3,.agg [AV.slc 3 es4,.slc 3 es5]] → (decide (n3 < (↑(List.map TLmLamp.av l).length:Int)) = true → ∃ s9 n10 n11 n12 n13 n14 n15 n16 n17 n18 n19 n20 n21 n22,((0:Int) ≤ n3 ∧ (14:Nat) = (14:Nat) ∧ (List.map TLmLamp.av l)[n3.toNat]? = some (.agg [AV.str s9,.int .i64 n10,.int .i64 n11,.int .i64 n12,.int .i64 n13,.int .i64 n14,.int .i64 n15,.int .i64 n16,.int .i64 n17,.int .i64 n18,.int .i64 n19,.int .i64 n20,.int .i64 n21,.int .i64 n22])) ∧ ∃ n24,S 117 [AV.agg [AV.str s9,.int .i64 n10,.int .i64 n11,.int .i64 n12,.int .i64 n13,.int .i64 n14,.int .i64 n15,.int .i64 n16,.int .i64 n17,.int .i64 n18,.int .i64 n19,.int .i64 n20,.int .i64 n21,.int .i64 n22],.ref 0 0] [[AV.slc 3 es4,.slc 3 es5]] (.int .i64 n24) [[AV.slc 3 es4,.slc 3 es5]] ∧ ∃ s26,S 116 [AV.agg [AV.str s9,.int .i64 n10,.int .i64 n11,.int .i64 n12,.int .i64 n13,.int .i64 n14,.int .i64 n15,.int .i64 n16,.int .i64 n17,.int .i64 n18,.int .i64 n19,.int .i64 n20,.int .i64 n21,.int .i64 n22]] [] (.str s26) [] ∧ ∃ b28,S 119 [AV.str s26] [] (.bool b28) [] ∧ ((!b28) = true → Q (.tup [AV.int .i64 n3,.int .i64 6]) [[AV.slc 3 es4,.slc 3 es5]]) ∧ ((!b28) = false → ((0:Int) ≤ n3 ∧ n3 ≤ (↑(List.map TLmLamp.av l).length:Int)) ∧ ∃ b33,S 155 [AV.slc 3 (List.take n3.toNat (List.map TLmLamp.av l)),AV.fn (154:Nat) [] [AV.ref 0 0,.ref 1 0]] [[AV.fn (116:FuncId) [] []],[AV.str s9,.int .i64 n10,.int .i64 n11,.int .i64 n12,.int .i64 n13,.int .i64 n14,.int .i64 n15,.int .i64 n16,.int .i64 n17,.int .i64 n18,.int .i64 n19,.int .i64 n20,.int .i64 n21,.int .i64 n22]] (.bool b33) [[AV.fn (116:FuncId) [] []],[AV.str s9,.int .i64 n10,.int .i64 n11,.int .i64 n12,.int .i64 n13,.int .i64 n14,.int .i64 n15,.int .i64 n16,.int .i64 n17,.int .i64 n18,.int .i64 n19,.int .i64 n20,.int .i64 n21,.int .i64 n22]] ∧ (b33 = true → Q (.tup [AV.int .i64 n3,.int .i64 5]) [[AV.slc 3 es4,.slc 3 es5]]) ∧ (b33 = false → ((n24 != 0) = true → Q (.tup [AV.int .i64 n3,.int .i64 n24]) [[AV.slc 3 es4,.slc 3 es5]]) ∧ ((n24 != 0) = false → Same [AV.fn (116:FuncId) [] []] ∧ ∃ k40,k40 < m2 ∧ I0 k40 [AV.int .i64 (IntKind.i64.wrap (n3 + 1)),.agg [AV.slc 3 es4,.slc 3 es5]])))) ∧ (decide (n3 < (↑(List.map TLmLamp.av l).length:Int)) = false → Q (.tup TEncl.zero.cs) [[AV.slc 3 es4,.slc 3 es5]])
theorem r115 (l:List TLmLamp) (rest0:TLmCatalog) (S:SpecF) (Fr:FreshF) (Sq:SeqF) (Q:AV → List (List AV) → Prop):awpF Tryz.prog (mkS Tryz.prog S Fr Sq ⟨[],[],[155,154,117],[],[]⟩ 0) 1 ⟨[0,1,2,4,6,7,8,9,10,11,12,13,14,15,23,29,36],[⟨2,[(14,.int .i64 0)],[],[(1000000,.agg [.slc 3 [],.slc 3 []])],[],[]⟩],[],[]⟩ Tryz.f115 [.slc 3 (List.map TLmLamp.av l),.fn 116 [] [],.fn 117 [] [.ref 0 0]] [⟨29,false,rest0.cs⟩] Q = R115 l rest0 S Fr Sq Q:=by kernel_rfl
theorem s115 (l:List TLmLamp) (rest0:TLmCatalog) (v:AV) (O:List (List AV)) (h:R115 l rest0 (SpecOf Tryz.prog) (FreshOf Tryz.prog) (SeqOf Tryz.prog) (fun r O' => r = v ∧ O' = O)):SpecOf Tryz.prog 115 [.slc 3 (List.map TLmLamp.av l),.fn 116 [] [],.fn 117 [] [.ref 0 0]] [rest0.cs] v O :=
 spec_by (boxes:=[⟨29,false,rest0.cs⟩]) mixed (by exact trivial) Tryz.func115 Tryz.call115 rfl rfl rfl (Nat.le_of_ble_eq_true rfl) (r115 l rest0 (SpecOf Tryz.prog) (FreshOf Tryz.prog) (SeqOf Tryz.prog) _) h
theorem c115 (l:List TLmLamp) (hl:l.length ≤ 1000) (hnm:∀ x ∈ l,x.Name.size ≤ 9223372036854775807) (c:TLmCatalog) (hc:c.Tables.length ≤ 1000000):Sp 115 [.slc 3 (List.map TLmLamp.av l),.fn 116 [] [],.fn 117 [] [.ref 0 0]] [c.cs] (.tup [.int .i64 (firstE (errAt TLmLamp.Name (lampS (c.Tables.length - 1)) l) l.length 0).1,.int .i64 (firstE (errAt TLmLamp.Name (lampS (c.Tables.length - 1)) l) l.length 0).2]) [c.cs]:=s115 l c _ _ (by
 unfold R115
 refine ⟨fun m vs => ∃ n:Nat,vs = [.int .i64 n,c.av] ∧ n ≤ l.length ∧ m = l.length - n ∧ firstE (errAt TLmLamp.Name (lampS (c.Tables.length - 1)) l) (l.length - n) n = firstE (errAt TLmLamp.Name (lampS (c.Tables.length - 1)) l) l.length 0,⟨_,0,rfl,by omega,rfl,rfl⟩,?_⟩
 intro m
 intros
 rename_i hJ
 obtain ⟨k,hk,hle,rfl,hn⟩:=hJ
 unfold TLmCatalog.av TLmCatalog.cs at hk
 cases hk
 refine ⟨fun h3 => ?_,fun h3 => ⟨?_,by trivial⟩⟩
 ·have h3:k < l.length:=by simpa using h3
  obtain ⟨x,hx,hx'⟩:=map_getN (f:=TLmLamp.av) h3
  have hat:=errAt_some (nm:=TLmLamp.Name) (rest:=(lampS (c.Tables.length - 1))) hx
  have hf:=firstE_at (e:=errAt TLmLamp.Name (lampS (c.Tables.length - 1)) l) h3
  have hmem:x ∈ l:=List.mem_of_getElem? hx
  have htake:List.take (k:Int).toNat (List.map TLmLamp.av l) = List.map TLmLamp.av (l.take k):=by rw [Int.toNat_natCast,List.map_take]
  refine ⟨x.Name,x.Table,x.Kind,x.Lumens,x.Power,x.Standing,x.Tolerance,x.Ageing.Lo,x.Ageing.Hi,x.Dirt.Lo,x.Dirt.Hi,x.Life,x.Dim,x.Restrike,⟨by omega,rfl,hx'⟩,_,c117 k x c hc,_,c116 x,_,c119 _ (hnm x hmem),fun h4 => ⟨?_,by trivial⟩,fun h4 => ⟨⟨by omega,by simp; omega⟩,((l.take k).any fun z => twinB z.Name x.Name),(by rw [htake]; exact c155 (l.take k) x (by rw [List.length_take]; omega)),fun h5 => ⟨?_,by trivial⟩,fun h5 => ⟨fun h6 => ⟨?_,by trivial⟩,fun h6 => ⟨by trivial,_,(by omega:l.length - (k + 1) < l.length - k),k + 1,?_,by omega,rfl,?_⟩⟩⟩⟩
  ·have he:errAt TLmLamp.Name (lampS (c.Tables.length - 1)) l k = 6:=by rw [hat,if_pos h4]
   rw [← hn,hf,he]; rfl
  ·have h4':¬ (!nameB x.Name) = true:=by rw [h4]; simp
   have he:errAt TLmLamp.Name (lampS (c.Tables.length - 1)) l k = 5:=by rw [hat,if_neg h4',if_pos h5]
   rw [← hn,hf,he]; rfl
  ·have h4':¬ (!nameB x.Name) = true:=by rw [h4]; simp
   have h5':¬ ((l.take k).any fun z => twinB z.Name x.Name) = true:=by rw [h5]; simp
   have he:errAt TLmLamp.Name (lampS (c.Tables.length - 1)) l k = (lampS (c.Tables.length - 1)) k x:=by rw [hat,if_neg h4',if_neg h5']
   have h6:(lampS (c.Tables.length - 1)) k x ≠ 0:=by simpa using h6
   rw [← hn,hf,he,if_pos h6]
  ·rw [wrapN (by omega)] <;> rfl
  ·have h4':¬ (!nameB x.Name) = true:=by rw [h4]; simp
   have h5':¬ ((l.take k).any fun z => twinB z.Name x.Name) = true:=by rw [h5]; simp
   have he:errAt TLmLamp.Name (lampS (c.Tables.length - 1)) l k = (lampS (c.Tables.length - 1)) k x:=by rw [hat,if_neg h4',if_neg h5']
   have h6:(lampS (c.Tables.length - 1)) k x = 0:=by simpa using h6
   rw [← hn,hf,he,if_neg (by simp [h6])]
 ·have:k = l.length:=by simp at h3; omega
  rw [← hn,this,Nat.sub_self]; rfl)
def catR (c:TLmCatalog):Int × Int × Int :=
 if c.Tables.length > 10 then (0,0,3) else if c.Lamps.length > 20 then (0,0,3) else
 if (firstR TLmTable.Name tableS c.Tables).2 ≠ 0 then (1,(firstR TLmTable.Name tableS c.Tables).1,(firstR TLmTable.Name tableS c.Tables).2) else
 if (firstR TLmLamp.Name (lampS (c.Tables.length - 1)) c.Lamps).2 ≠ 0 then (2,(firstR TLmLamp.Name (lampS (c.Tables.length - 1)) c.Lamps).1,(firstR TLmLamp.Name (lampS (c.Tables.length - 1)) c.Lamps).2) else (0,0,0)
def CatOK (c:TLmCatalog):Prop:=(∀ x ∈ c.Tables,x.Name.size ≤ 9223372036854775807) ∧ (∀ x ∈ c.Lamps,x.Name.size ≤ 9223372036854775807) ∧ c.Tables.length ≤ 9223372036854775806 ∧ c.Lamps.length ≤ 9223372036854775806
end Go.Proofs.YtblebiafhhhflaaGreat
namespace Go.Proofs.YtblebiafhhhflaaGreat
open Go.RowKit
def R82 (c:TLmCatalog) (S:SpecF) (_Fr:FreshF) (_Sq:SeqF) (Q:AV → List (List AV) → Prop):Prop :=
 (decide ((↑(List.map TLmTable.av c.Tables).length:Int) > (10:Int)) = true → Q (.tup [AV.int .i64 0,.int .i64 0,.int .i64 3]) []) ∧ (decide ((↑(List.map TLmTable.av c.Tables).length:Int) > (10:Int)) = false → (decide ((↑(List.map TLmLamp.av c.Lamps).length:Int) > (20:Int)) = true → Q (.tup [AV.int .i64 0,.int .i64 0,.int .i64 3]) []) ∧ (decide ((↑(List.map TLmLamp.av c.Lamps).length:Int) > (20:Int)) = false → ∃ n4 n5,S 112 [AV.slc 3 (List.map TLmTable.av c.Tables),AV.fn (113:Nat) [] [],AV.fn (114:Nat) [] []] [] (.tup [AV.int .i64 n4,.int .i64 n5]) [] ∧ ((n5 != 0) = true → Q (.tup [AV.int .i64 1,.int .i64 n4,.int .i64 n5]) []) ∧ ((n5 != 0) = false → ∃ n9 n10 es11 es12,S 115 [AV.slc 3 (List.map TLmLamp.av c.Lamps),AV.fn (116:Nat) [] [],AV.fn (117:Nat) [] [AV.ref 0 0]] [c.cs] (.tup [AV.int .i64 n9,.int .i64 n10]) [[AV.slc 3 es11,.slc 3 es12]] ∧ ((n10 != 0) = true → Q (.tup [AV.int .i64 2,.int .i64 n9,.int .i64 n10]) []) ∧ ((n10 != 0) = false → Q (.tup TAsk.zero.cs) []))))
theorem r82 (c:TLmCatalog) (S:SpecF) (Fr:FreshF) (Sq:SeqF) (Q:AV → List (List AV) → Prop):awpF Tryz.prog (mkS Tryz.prog S Fr Sq ⟨[],[],[],[],[]⟩ 0) 0 ⟨[0,1,2,3,4,14,22,33],[],[],[]⟩ Tryz.f82 [c.av] [] Q = R82 c S Fr Sq Q:=by kernel_rfl
theorem s82 (c:TLmCatalog) (v:AV) (O:List (List AV)) (h:R82 c (SpecOf Tryz.prog) (FreshOf Tryz.prog) (SeqOf Tryz.prog) (fun r O' => r = v ∧ O' = O)):SpecOf Tryz.prog 82 [c.av] [] v O :=
 spec_by (boxes:=[]) mixed (by exact trivial) Tryz.func82 Tryz.call82 rfl rfl rfl (Nat.le_of_ble_eq_true rfl) (r82 c (SpecOf Tryz.prog) (FreshOf Tryz.prog) (SeqOf Tryz.prog) _) h
theorem c82 (c:TLmCatalog) (hn:CatOK c):Sp 82 [c.av] [] (.tup [.int .i64 (catR c).1,.int .i64 (catR c).2.1,.int .i64 (catR c).2.2]) []:=s82 c _ _ (by
 unfold R82 catR
 simp only [List.length_map]
 refine ⟨fun h => ⟨by rw [if_pos (by have:=of_decide_eq_true h; omega)],by trivial⟩,fun h1 => ⟨fun h => ⟨by rw [if_neg (by have:=of_decide_eq_false h1; omega),if_pos (by have:=of_decide_eq_true h; omega)],by trivial⟩,fun h2 => ?_⟩⟩
 have h1:¬ c.Tables.length > 10:=by have:=of_decide_eq_false h1; omega
 have h2:¬ c.Lamps.length > 20:=by have:=of_decide_eq_false h2; omega
 rw [if_neg h1,if_neg h2]
 have k1:=c112 c.Tables (by omega) hn.1
 have k2:=c115 c.Lamps (by omega) hn.2.1 c (by omega)
 have k1:Sp 112 _ _ (.tup [.int .i64 (firstR TLmTable.Name tableS c.Tables).1,.int .i64 (firstR TLmTable.Name tableS c.Tables).2]) _:=k1
 have k2:Sp 115 _ _ (.tup [.int .i64 (firstR TLmLamp.Name (lampS (c.Tables.length - 1)) c.Lamps).1,.int .i64 (firstR TLmLamp.Name (lampS (c.Tables.length - 1)) c.Lamps).2]) _:=k2
 refine ⟨_,_,k1,fun h => ⟨?_,by trivial⟩,fun h => ⟨_,_,_,_,k2,fun g => ⟨?_,by trivial⟩,fun g => ⟨?_,by trivial⟩⟩⟩
 ·have h:(firstR TLmTable.Name tableS c.Tables).2 ≠ 0:=by simpa using h
  rw [if_pos h]
 ·have h:(firstR TLmTable.Name tableS c.Tables).2 = 0:=by simpa using h
  have g:(firstR TLmLamp.Name (lampS (c.Tables.length - 1)) c.Lamps).2 ≠ 0:=by simpa using g
  rw [if_neg (by simp [h]),if_pos g]
 ·have h:(firstR TLmTable.Name tableS c.Tables).2 = 0:=by simpa using h
  have g:(firstR TLmLamp.Name (lampS (c.Tables.length - 1)) c.Lamps).2 = 0:=by simpa using g
  rw [if_neg (by simp [h]),if_neg (by simp [g])]; rfl)
def noLamp:TLmLamp:=⟨ByteArray.mk #[],0,0,0,0,0,0,⟨0,0⟩,⟨0,0⟩,0,0,0⟩
def lampAt (c:TLmCatalog) (i:Int):TLmLamp:=(c.Lamps[i.toNat]?).getD noLamp
def lampedR (c:TLmCatalog) (i:Int):TLmLamp × Int:=if (catR c).2.2 ≠ 0 then (noLamp,(catR c).2.2) else if !inB i 0 (c.Lamps.length - 1) then (noLamp,4) else (lampAt c i,0)
def R92 (c:TLmCatalog) (lamp:Int) (S:SpecF) (_Fr:FreshF) (_Sq:SeqF) (Q:AV → List (List AV) → Prop):Prop :=
 ∃ n0 n1 n2,S 82 [c.av] [] (.tup [AV.int .i64 n0,.int .i64 n1,.int .i64 n2]) [] ∧ ((n2 != 0) = true → Q (.tup [AV.agg [AV.str (ByteArray.mk #[]),.int .i64 0,.int .i64 0,.int .i64 0,.int .i64 0,.int .i64 0,.int .i64 0,.int .i64 0,.int .i64 0,.int .i64 0,.int .i64 0,.int .i64 0,.int .i64 0,.int .i64 0],.int .i64 n2]) []) ∧ ((n2 != 0) = false → ∃ b6,S 94 [AV.int .i64 lamp,.int .i64 0,.int .i64 (IntKind.i64.wrap ((↑(List.map TLmLamp.av c.Lamps).length:Int) - (1:Int)))] [] (.bool b6) [] ∧ ((!b6) = true → Q (.tup [AV.agg [AV.str (ByteArray.mk #[]),.int .i64 0,.int .i64 0,.int .i64 0,.int .i64 0,.int .i64 0,.int .i64 0,.int .i64 0,.int .i64 0,.int .i64 0,.int .i64 0,.int .i64 0,.int .i64 0,.int .i64 0],.int .i64 4]) []) ∧ ((!b6) = false → ∃ s10 n11 n12 n13 n14 n15 n16 n17 n18 n19 n20 n21 n22 n23,((0:Int) ≤ lamp ∧ (14:Nat) = (14:Nat) ∧ (List.map TLmLamp.av c.Lamps)[lamp.toNat]? = some (.agg [AV.str s10,.int .i64 n11,.int .i64 n12,.int .i64 n13,.int .i64 n14,.int .i64 n15,.int .i64 n16,.int .i64 n17,.int .i64 n18,.int .i64 n19,.int .i64 n20,.int .i64 n21,.int .i64 n22,.int .i64 n23])) ∧ Q (.tup [AV.agg [AV.str s10,.int .i64 n11,.int .i64 n12,.int .i64 n13,.int .i64 n14,.int .i64 n15,.int .i64 n16,.int .i64 n17,.int .i64 n18,.int .i64 n19,.int .i64 n20,.int .i64 n21,.int .i64 n22,.int .i64 n23],.int .i64 0]) []))
theorem r92 (c:TLmCatalog) (lamp:Int) (S:SpecF) (Fr:FreshF) (Sq:SeqF) (Q:AV → List (List AV) → Prop):awpF Tryz.prog (mkS Tryz.prog S Fr Sq ⟨[],[],[],[],[]⟩ 0) 0 ⟨[0,1,2,4,5,8,15,20],[],[],[]⟩ Tryz.f92 [c.av,.int .i64 lamp] [] Q = R92 c lamp S Fr Sq Q:=by kernel_rfl
theorem s92 (c:TLmCatalog) (lamp:Int) (v:AV) (O:List (List AV)) (h:R92 c lamp (SpecOf Tryz.prog) (FreshOf Tryz.prog) (SeqOf Tryz.prog) (fun r O' => r = v ∧ O' = O)):SpecOf Tryz.prog 92 [c.av,.int .i64 lamp] [] v O :=
 spec_by (boxes:=[]) mixed (by exact trivial) Tryz.func92 Tryz.call92 rfl rfl rfl (Nat.le_of_ble_eq_true rfl) (r92 c lamp (SpecOf Tryz.prog) (FreshOf Tryz.prog) (SeqOf Tryz.prog) _) h
theorem c92 (c:TLmCatalog) (hn:CatOK c) (i:Int):Sp 92 [c.av,.int .i64 i] [] (.tup [(lampedR c i).1.av,.int .i64 (lampedR c i).2]) []:=s92 c i _ _ (by
 unfold R92 lampedR
 simp only [List.length_map]
 have e:IntKind.i64.wrap ((c.Lamps.length:Int) - 1) = (c.Lamps.length:Int) - 1:=i64 (by have:=hn.2.2.2; omega)
 simp only [e]
 refine ⟨_,_,_,c82 c hn,fun h => ⟨?_,by trivial⟩,fun h => ⟨_,c94 ..,fun g => ⟨?_,by trivial⟩,fun g => ?_⟩⟩
 ·have h:(catR c).2.2 ≠ 0:=by simpa using h
  rw [if_pos h]; rfl
 ·have h:(catR c).2.2 = 0:=by simpa using h
  rw [if_neg (by simp [h]),if_pos g]; rfl
 ·have h:(catR c).2.2 = 0:=by simpa using h
  rw [if_neg (by simp [h]),if_neg (by rw [g]; simp)]
  have g:inB i 0 (c.Lamps.length - 1) = true:=by simpa using g
  rw [inB_iff] at g
  obtain ⟨k,rfl⟩:∃ k:Nat,i = k:=⟨i.toNat,by omega⟩
  obtain ⟨x,hx,hx'⟩:=map_getN (f:=TLmLamp.av) (l:=c.Lamps) (k:=k) (by omega)
  have hl:lampAt c k = x:=by unfold lampAt; rw [Int.toNat_natCast,hx]; rfl
  rw [hl]
  exact ⟨x.Name,x.Table,x.Kind,x.Lumens,x.Power,x.Standing,x.Tolerance,x.Ageing.Lo,x.Ageing.Hi,x.Dirt.Lo,x.Dirt.Hi,x.Life,x.Dim,x.Restrike,⟨by omega,by trivial,hx'⟩,rfl,by trivial⟩)
def powerE (x:TLmLamp) (level:Int):TEncl :=
 ⟨floorE (IntKind.i64.wrap (IntKind.i64.wrap (IntKind.i64.wrap (x.Standing * 1000) + IntKind.i64.wrap (IntKind.i64.wrap (x.Power - x.Standing) * level)) * IntKind.i64.wrap (1000 - x.Tolerance))) 1000000,
  ceilE (IntKind.i64.wrap (IntKind.i64.wrap (IntKind.i64.wrap (x.Standing * 1000) + IntKind.i64.wrap (IntKind.i64.wrap (x.Power - x.Standing) * level)) * IntKind.i64.wrap (1000 + x.Tolerance))) 1000000⟩
def powerR (c:TLmCatalog) (i level:Int):TEncl × Int:=if (lampedR c i).2 ≠ 0 then (⟨0,0⟩,(lampedR c i).2) else if !inB level 0 1000 then (⟨0,0⟩,7) else (powerE (lampedR c i).1 level,0)
def R66 (c:TLmCatalog) (lamp:Int) (level:Int) (S:SpecF) (_Fr:FreshF) (_Sq:SeqF) (Q:AV → List (List AV) → Prop):Prop :=
 ∃ s0 n1 n2 n3 n4 n5 n6 n7 n8 n9 n10 n11 n12 n13 n14,S 92 [c.av,.int .i64 lamp] [] (.tup [AV.agg [AV.str s0,.int .i64 n1,.int .i64 n2,.int .i64 n3,.int .i64 n4,.int .i64 n5,.int .i64 n6,.int .i64 n7,.int .i64 n8,.int .i64 n9,.int .i64 n10,.int .i64 n11,.int .i64 n12,.int .i64 n13],.int .i64 n14]) [] ∧ ((n14 != 0) = true → Q (.tup [TEncl.zero.av,.int .i64 n14]) []) ∧ ((n14 != 0) = false → ∃ b18,S 94 [AV.int .i64 level,.int .i64 0,.int .i64 1000] [] (.bool b18) [] ∧ ((!b18) = true → Q (.tup [TEncl.zero.av,.int .i64 7]) []) ∧ ((!b18) = false → ∃ n22,S 95 [AV.int .i64 (IntKind.i64.wrap (IntKind.i64.wrap (IntKind.i64.wrap (n5 * 1000) + IntKind.i64.wrap (IntKind.i64.wrap (n4 - n5) * level)) * IntKind.i64.wrap ((1000:Int) - n6))),.int .i64 1000000] [] (.int .i64 n22) [] ∧ ∃ n24,S 96 [AV.int .i64 (IntKind.i64.wrap (IntKind.i64.wrap (IntKind.i64.wrap (n5 * 1000) + IntKind.i64.wrap (IntKind.i64.wrap (n4 - n5) * level)) * IntKind.i64.wrap ((1000:Int) + n6))),.int .i64 1000000] [] (.int .i64 n24) [] ∧ Q (.tup [AV.agg [AV.int .i64 n22,.int .i64 n24],.int .i64 0]) []))
theorem r66 (c:TLmCatalog) (lamp:Int) (level:Int) (S:SpecF) (Fr:FreshF) (Sq:SeqF) (Q:AV → List (List AV) → Prop):awpF Tryz.prog (mkS Tryz.prog S Fr Sq ⟨[],[],[],[],[]⟩ 0) 0 ⟨[0,1,2,3,6,7,8,9,10,17,22],[],[],[]⟩ Tryz.f66 [c.av,.int .i64 lamp,.int .i64 level] [] Q = R66 c lamp level S Fr Sq Q:=by kernel_rfl
theorem s66 (c:TLmCatalog) (lamp:Int) (level:Int) (v:AV) (O:List (List AV)) (h:R66 c lamp level (SpecOf Tryz.prog) (FreshOf Tryz.prog) (SeqOf Tryz.prog) (fun r O' => r = v ∧ O' = O)):SpecOf Tryz.prog 66 [c.av,.int .i64 lamp,.int .i64 level] [] v O :=
 spec_by (boxes:=[]) mixed (by exact trivial) Tryz.func66 Tryz.call66 rfl rfl rfl (Nat.le_of_ble_eq_true rfl) (r66 c lamp level (SpecOf Tryz.prog) (FreshOf Tryz.prog) (SeqOf Tryz.prog) _) h
theorem c66 (c:TLmCatalog) (hn:CatOK c) (i level:Int):Sp 66 [c.av,.int .i64 i,.int .i64 level] [] (.tup [(powerR c i level).1.av,.int .i64 (powerR c i level).2]) []:=s66 c i level _ _ (by
 unfold R66 powerR
 refine ⟨_,_,_,_,_,_,_,_,_,_,_,_,_,_,_,c92 c hn i,fun h => ⟨?_,by trivial⟩,fun h => ⟨_,c94 ..,fun g => ⟨?_,by trivial⟩,fun g => ⟨_,c95 _ _ (by omega),_,c96 _ _ (by omega),?_,by trivial⟩⟩⟩
 ·have h:(lampedR c i).2 ≠ 0:=by simpa using h
  rw [if_pos h]; rfl
 ·have h:(lampedR c i).2 = 0:=by simpa using h
  rw [if_neg (by simp [h]),if_pos g]; rfl
 ·have h:(lampedR c i).2 = 0:=by simpa using h
  rw [if_neg (by simp [h]),if_neg (by rw [g]; simp)]; rfl)
def maxI (a b:Int):Int:=if b > a then b else a
def levelE (x:TLmLamp) (want:Int):Int:=if 1000 < maxI (maxI want 1) x.Dim then 1000 else maxI (maxI want 1) x.Dim
def levelR (c:TLmCatalog) (i want:Int):Int × Int:=if (lampedR c i).2 ≠ 0 then (0,(lampedR c i).2) else if want ≤ 0 then (0,0) else (levelE (lampedR c i).1 want,0)
def R64 (c:TLmCatalog) (lamp:Int) (want:Int) (S:SpecF) (_Fr:FreshF) (_Sq:SeqF) (Q:AV → List (List AV) → Prop):Prop :=
 ∃ s0 n1 n2 n3 n4 n5 n6 n7 n8 n9 n10 n11 n12 n13 n14,S 92 [c.av,.int .i64 lamp] [] (.tup [AV.agg [AV.str s0,.int .i64 n1,.int .i64 n2,.int .i64 n3,.int .i64 n4,.int .i64 n5,.int .i64 n6,.int .i64 n7,.int .i64 n8,.int .i64 n9,.int .i64 n10,.int .i64 n11,.int .i64 n12,.int .i64 n13],.int .i64 n14]) [] ∧ ((n14 != 0) = true → Q (.tup [AV.int .i64 0,.int .i64 n14]) []) ∧ ((n14 != 0) = false → (decide (want ≤ 0) = true → Q (.tup [AV.int .i64 0,.int .i64 n14]) []) ∧ (decide (want ≤ 0) = false → Q (.tup [AV.int .i64 (if (1000:Int) < if true = true then if n12 > if true = true then if (1:Int) > want then (1:Int) else want else if (1:Int) < want then (1:Int) else want then n12 else if true = true then if (1:Int) > want then (1:Int) else want else if (1:Int) < want then (1:Int) else want else if n12 < if true = true then if (1:Int) > want then (1:Int) else want else if (1:Int) < want then (1:Int) else want then n12 else if true = true then if (1:Int) > want then (1:Int) else want else if (1:Int) < want then (1:Int) else want then (1000:Int) else if n12 > if true = true then if (1:Int) > want then (1:Int) else want else if (1:Int) < want then (1:Int) else want then n12 else if (1:Int) > want then (1:Int) else want),.int .i64 0]) []))
theorem r64 (c:TLmCatalog) (lamp:Int) (want:Int) (S:SpecF) (Fr:FreshF) (Sq:SeqF) (Q:AV → List (List AV) → Prop):awpF Tryz.prog (mkS Tryz.prog S Fr Sq ⟨[],[],[],[],[]⟩ 0) 0 ⟨[0,1,2,3,6,7,8,9,21],[],[],[]⟩ Tryz.f64 [c.av,.int .i64 lamp,.int .i64 want] [] Q = R64 c lamp want S Fr Sq Q:=by kernel_rfl
theorem s64 (c:TLmCatalog) (lamp:Int) (want:Int) (v:AV) (O:List (List AV)) (h:R64 c lamp want (SpecOf Tryz.prog) (FreshOf Tryz.prog) (SeqOf Tryz.prog) (fun r O' => r = v ∧ O' = O)):SpecOf Tryz.prog 64 [c.av,.int .i64 lamp,.int .i64 want] [] v O :=
 spec_by (boxes:=[]) mixed (by exact trivial) Tryz.func64 Tryz.call64 rfl rfl rfl (Nat.le_of_ble_eq_true rfl) (r64 c lamp want (SpecOf Tryz.prog) (FreshOf Tryz.prog) (SeqOf Tryz.prog) _) h
theorem c64 (c:TLmCatalog) (hn:CatOK c) (i want:Int):Sp 64 [c.av,.int .i64 i,.int .i64 want] [] (.tup [.int .i64 (levelR c i want).1,.int .i64 (levelR c i want).2]) []:=s64 c i want _ _ (by
 unfold R64 levelR
 refine ⟨_,_,_,_,_,_,_,_,_,_,_,_,_,_,_,c92 c hn i,fun h => ⟨?_,by trivial⟩,fun h => ⟨fun g => ⟨?_,by trivial⟩,fun g => ⟨?_,by trivial⟩⟩⟩
 ·have h:(lampedR c i).2 ≠ 0:=by simpa using h
  rw [if_pos h]
 ·have h:(lampedR c i).2 = 0:=by simpa using h
  rw [if_neg (by simp [h]),if_pos (of_decide_eq_true g),h]
 ·have h:(lampedR c i).2 = 0:=by simpa using h
  rw [if_neg (c:=(lampedR c i).2 ≠ 0) (by simp [h]),if_neg (c:=want ≤ 0) (of_decide_eq_false g)]
  simp only [if_true]
  rfl)
end Go.Proofs.YtblebiafhhhflaaGreat
