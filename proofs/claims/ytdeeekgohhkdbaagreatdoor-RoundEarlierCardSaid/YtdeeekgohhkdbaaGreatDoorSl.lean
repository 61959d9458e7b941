/- Contracts: the timetable of a round. -/
import Derived.Test.YtdeeekgohhkdbaaGreatDoorSk
import Derived.Test.YtdeeekgohhkdbaaGreatDoorSh
namespace Go.Proofs.YtdeeekgohhkdbaaGreatDoor
open Go.RowKit
def tableF (d:TDepot):TTour → List Int → List TRoStop × Int
 | r,[] => (r.stops,backE d r)
 | r,n :: L => if visitB d r n then tableF d (visitT d r n) L else (r.stops,-1)
def dupB (l:List Int):Bool:=decide ((Go.Lib.compact (sortL l)).length < l.length)
def tableR (t:TRoTask) (lorry:Int) (l:List Int):List TRoStop × Int × Int :=
 if (taskE t).2.2 ≠ 0 then ([],0,(taskE t).2.2) else if l.any (noneB t 0) then ([],0,4) else if outB lorry 0 ((t.Lorries.length:Int) - 1) then ([],0,4) else if dupB l then ([],0,5) else
  ((tableF (depE t) (leaveE (depE t) lorry) l).1,(tableF (depE t) (leaveE (depE t) lorry) l).2,0)
def tableV (t:TRoTask) (lorry:Int) (l:List Int):AV:=.tup [.slc 3 ((tableR t lorry l).1.map TRoStop.av),.int .i64 (tableR t lorry l).2.1,.int .i64 (tableR t lorry l).2.2]
def encI (n:Int):List AV:=[.int .i64 n]
def RY107 (v0:List Int) (_S:SpecF) (_Fr:FreshF) (_Sq:SeqF) (l:Nat) (Y:Nat → List AV → Prop) (_Sg:FuncId → List AV → List (List AV) → List (List AV) → Prop) (len:Nat):Prop :=
 ∃ (I0:Nat → Nat → List AV → Prop),(∃ m2,I0 m2 (0:Nat) [iN 0]) ∧ ∀ (m2 i3:Nat) (n4:Int),I0 m2 i3 [iN n4] → (decide (n4 < (↑(List.map (AV.int IntKind.i64) v0).length:Int)) = true → ∃ n8,((0:Int) ≤ n4 ∧ (1:Nat) = (1:Nat) ∧ (List.map (AV.int IntKind.i64) v0)[n4.toNat]? = some (iN n8)) ∧ l = l ∧ Y i3 [iN n8] ∧ (((16:Nat) = (16:Nat) ∧ AV.yld l = AV.yld l ∧ .ref 0 0 = AV.ref 0 0 ∧ .slc 3 (List.map (AV.int IntKind.i64) v0) = AV.slc 3 (List.map (AV.int IntKind.i64) v0) ∧ iN (↑(List.map (AV.int IntKind.i64) v0).length:Int) = iN (↑(List.map (AV.int IntKind.i64) v0).length:Int) ∧ True) ∧ Same [AV.slc 3 (List.map (AV.int IntKind.i64) v0)] ∧ ∃ k15,k15 < m2 ∧ I0 k15 (i3 + 1) [iN (IntKind.i64.wrap (n4 + 1))]) ∧ True) ∧ (decide (n4 < (↑(List.map (AV.int IntKind.i64) v0).length:Int)) = false → i3 = len)
theorem ry107 (v0:List Int) (S:SpecF) (Fr:FreshF) (Sq:SeqF) (l:Nat) (Y:Nat → List AV → Prop) (Sg:FuncId → List AV → List (List AV) → List (List AV) → Prop) (len:Nat):awpSq Tryz.prog (mkS Tryz.prog S Fr Sq ⟨[],[],[],[],[]⟩ 0) 1 24 l Y Sg ⟨[0,1,4,5,6,7,8,14],[⟨1,[(7,.int .i64 0)],[],[],[],[],[]⟩],[],[]⟩ Tryz.f107 [.ref 0 0] [⟨41,false,[.slc 3 (List.map (AV.int .i64) v0)]⟩] len = RY107 v0 S Fr Sq l Y Sg len:=by kernel_rfl
theorem sq107 (v0:List Int) (xs:List (List AV)) (h:∀ l,RY107 v0 Sp Fo So l (fun i x => xs[i]? = some x) (SegOf Tryz.prog l) xs.length):SeqOf Tryz.prog 107 [.ref 0 0] [[.slc 3 (List.map (AV.int .i64) v0)]] xs :=
 seq_by (boxes:=[⟨41,false,[.slc 3 (List.map (AV.int .i64) v0)]⟩]) mixed (by exact trivial) Tryz.func107 Tryz.call107 rfl rfl rfl rfl (fun l => ry107 v0 Sp Fo So l _ _ _) h
theorem values_seq (l:List Int) (hl:l.length ≤ 4611686018427387904):SeqOf Tryz.prog 107 [.ref 0 0] [[.slc 3 (intsT l)]] (l.map encI):=sq107 l _ (fun w => by
 unfold RY107
 refine ⟨fun m i vs => vs = [.int .i64 i] ∧ i ≤ l.length ∧ m = l.length - i,⟨_,rfl,by omega,rfl⟩,?_⟩
 rintro m i n4 ⟨hk,hle,rfl⟩
 cases hk
 rw [List.length_map,List.length_map]
 refine ⟨fun h3 => ?_,fun h3 => ?_⟩
 ·have h3:i < l.length:=by have:=of_decide_eq_true h3; omega
  refine ⟨_,⟨by omega,rfl,ints_get h3⟩,rfl,?_,⟨⟨rfl,rfl,rfl,rfl,rfl,trivial⟩,?_⟩,trivial⟩
  ·show (l.map encI)[i]? = _
   rw [List.getElem?_map,List.getElem?_eq_getElem h3]; rfl
  ·repeat (first | refine And.intro rfl ?_ | refine And.intro trivial ?_)
   exact ⟨_,(by omega:l.length - (i + 1) < l.length - i),by rw [wrapN (by omega)],by omega,rfl⟩
 ·have:=of_decide_eq_false h3
  omega)
theorem asc_len:∀ (l:List Int) (lo hi:Int),lo ≤ hi → l.Pairwise (· < ·) → (∀ x ∈ l,lo ≤ x ∧ x < hi) → (l.length:Int) ≤ hi - lo
 | [],lo,hi,h,_,_ => by show (0:Int) ≤ _; omega
 | x :: r,lo,hi,_,h,hx => by
  obtain ⟨h1,h2⟩:=List.pairwise_cons.1 h
  obtain ⟨x0,x1⟩:=hx x List.mem_cons_self
  have:=asc_len r (x + 1) hi (by omega) h2 fun y hy => ⟨by have:=h1 y hy; omega,(hx y (List.mem_cons_of_mem _ hy)).2⟩
  rw [List.length_cons]; omega
theorem dup_few {l:List Int} {n:Nat} (h:dupB l = false) (hx:∀ x ∈ l,0 ≤ x ∧ x < n):l.length ≤ n:=by
 unfold dupB at h
 have h:=of_decide_eq_false h
 have:=asc_len (Go.Lib.compact (sortL l)) 0 n (by omega) (comp_asc (sortL_asc l)) fun x hx' => hx x (sortL_mem.1 (comp_mem.1 hx'))
 omega
theorem cells3:Tryz.prog.cellsOf 3 = 1:=by kernel_rfl
theorem ints_step (J:List Int) (hJ:J.length ≤ 17592186043904) (x:Int) :
  elemsOf 1 [AV.int .i64 x] ∧ ((List.flatMap AV.cells (intsT J)).length = (intsT J).length * Tryz.prog.cellsOf 3 ∧ ((intsT J).length + 1 + 512) * 41 ≤ 1125899906842624 ∧ ones [AV.int .i64 x] = true ∧ ones (List.flatMap AV.cells (intsT J)) = true):=by
 rw [flat1 ints_cells,cells3,intsT_len]
 exact ⟨fun v hv => by rw [List.mem_singleton.1 hv]; rfl,by omega,by omega,rfl,ints_ones J⟩
theorem take_int {l:List Int} {i:Nat} {n:Int} (h:(l.map encI)[i]? = some [.int .i64 n]):i < l.length ∧ intsT (l.take (i + 1)) = intsT (l.take i) ++ [.int .i64 n]:=by
 rw [List.getElem?_map] at h
 obtain ⟨x,hx,hxe⟩:=Option.map_eq_some_iff.1 h
 cases hxe
 refine ⟨(List.getElem?_eq_some_iff.1 hx).1,?_⟩
 rw [List.take_add_one,hx,intsT_append]; rfl
theorem avNone {t:TRoTask} (hv:TaskV t) {l:List Int} (h:l.any (noneB t 0) = false):∀ x ∈ l,0 ≤ x ∧ x < t.Jobs.length:=fun x hx => by
 have hjl:=hv.jl
 have h4:noneB t 0 x = false:=by simpa using List.any_eq_false.1 h x hx
 unfold noneB at h4
 rw [i64 (by omega)] at h4
 have:=outB_false.1 h4
 omega
abbrev R20qa (t:TRoTask) (list:List Int) (S:SpecF) (Q:PostF) (p0_:ByteArray) (p1_ p2_ p3_ p4_ p5_ p6_ p7_ p8_ p9_ p10_ p11_ p12_ p13_ p14_:Int) (p15_ p16_ p17_ p18_ p19_:List AV) (p20_ p21_:Int) (p22_:List AV) (p23_ p24_ p25_:Int) (p26_:List AV) (p27_:List Int):Prop :=
 ∃ (I54:Nat → List AV → Prop),(∃ m56,I54 m56 [iN 0,.agg [AV.str p0_,iN p1_,iN p2_,iN p3_,iN p4_,iN p5_,.eptr [iN p6_,iN p7_,iN p8_,iN p9_,iN p10_,iN p11_,iN p12_,iN p13_,iN p14_,.slc 3 p15_,.slc 3 p16_,.slc 3 p17_,.slc 3 p18_,.slc 3 p19_] (0:Nat),iN p20_,iN p21_,.slc 3 p22_,iN p23_,iN p24_,iN p25_]]) ∧ ∀ (m56:Nat) (n57:Int) (s58:ByteArray) (n59 n60 n61 n62 n63 n64 n65 n66 n67 n68 n69 n70 n71 n72:Int) (es73 es74 es75 es76 es77:List AV) (n78 n79:Int) (es80:List AV) (n81 n82 n83:Int),I54 m56 [iN n57,.agg [AV.str s58,iN n59,iN n60,iN n61,iN n62,iN n63,.eptr [iN n64,iN n65,iN n66,iN n67,iN n68,iN n69,iN n70,iN n71,iN n72,.slc 3 es73,.slc 3 es74,.slc 3 es75,.slc 3 es76,.slc 3 es77] (0:Nat),iN n78,iN n79,.slc 3 es80,iN n81,iN n82,iN n83]] → (decide (n57 < (↑(List.map (AV.int IntKind.i64) list).length:Int)) = true → ∃ n87,((0:Int) ≤ n57 ∧ (1:Nat) = (1:Nat) ∧ (List.map (AV.int IntKind.i64) list)[n57.toNat]? = some (iN n87)) ∧ ∃ b89 s90 n91 n92 n93 n94 n95,∃ v96:AV,∃ n97 n98 es99 n100 n101 n102,S 58 [AV.ref 0 0,iN n87] [[AV.str s58,iN n59,iN n60,iN n61,iN n62,iN n63,.eptr [iN n64,iN n65,iN n66,iN n67,iN n68,iN n69,iN n70,iN n71,iN n72,.slc 3 es73,.slc 3 es74,.slc 3 es75,.slc 3 es76,.slc 3 es77] (0:Nat),iN n78,iN n79,.slc 3 es80,iN n81,iN n82,iN n83]] (.bool b89) [[AV.str s90,iN n91,iN n92,iN n93,iN n94,iN n95,.eptr [iN n64,iN n65,iN n66,iN n67,iN n68,iN n69,iN n70,iN n71,iN n72,.slc 3 es73,.slc 3 es74,.slc 3 es75,.slc 3 es76,.slc 3 es77] (0:Nat),iN n97,iN n98,.slc 3 es99,iN n100,iN n101,iN n102]] ∧ ((!b89) = true → Q (.tup [AV.slc 3 es99,iN (-1:Int),iN 0]) []) ∧ ((!b89) = false → t.cs = t.cs ∧ Same [AV.aslc ((108:Nat) + ((13:Nat) + nat_lit 0,nat_lit 3).fst) (0:Nat) p26_.length (Tryz.prog.cellsOf (3:Nat)) (isAggT Tryz.prog (3:Nat))] ∧ List.map (AV.int IntKind.i64) p27_ = List.map (AV.int IntKind.i64) p27_ ∧ ∃ k109,k109 < m56 ∧ I54 k109 [iN (IntKind.i64.wrap (n57 + 1)),.agg [AV.str s90,iN n91,iN n92,iN n93,iN n94,iN n95,.eptr [iN n64,iN n65,iN n66,iN n67,iN n68,iN n69,iN n70,iN n71,iN n72,.slc 3 es73,.slc 3 es74,.slc 3 es75,.slc 3 es76,.slc 3 es77] (0:Nat),iN n97,iN n98,.slc 3 es99,iN n100,iN n101,iN n102]])) ∧ (decide (n57 < (↑(List.map (AV.int IntKind.i64) list).length:Int)) = false → ∃ n87,S 59 [AV.ref 0 0] [[AV.str s58,iN n59,iN n60,iN n61,iN n62,iN n63,.eptr [iN n64,iN n65,iN n66,iN n67,iN n68,iN n69,iN n70,iN n71,iN n72,.slc 3 es73,.slc 3 es74,.slc 3 es75,.slc 3 es76,.slc 3 es77] (0:Nat),iN n78,iN n79,.slc 3 es80,iN n81,iN n82,iN n83]] (iN n87) [[AV.str s58,iN n59,iN n60,iN n61,iN n62,iN n63,.eptr [iN n64,iN n65,iN n66,iN n67,iN n68,iN n69,iN n70,iN n71,iN n72,.slc 3 es73,.slc 3 es74,.slc 3 es75,.slc 3 es76,.slc 3 es77] (0:Nat),iN n78,iN n79,.slc 3 es80,iN n81,iN n82,iN n83]] ∧ Q (.tup [AV.slc 3 es80,iN n87,iN 0]) [])
abbrev R20qb (t:TRoTask) (p0_:List (List AV)) (p1_:Nat → List AV → Prop):Prop :=
 ∀ (i15:Nat) (n16:Int),p0_[i15]? = some [iN n16] → ∀ (es18:List AV),p1_ i15 [AV.slc 3 es18] → elemsOf (1:Nat) [iN n16] ∧ ((List.flatMap AV.cells es18).length = es18.length * Tryz.prog.cellsOf (3:Nat) ∧ (es18.length + 1 + (512:Nat)) * 41 ≤ (1125899906842624:Nat) ∧ ones [iN n16] = true ∧ ones (List.flatMap AV.cells es18) = true) ∧ t.cs = t.cs ∧ Same [AV.undef] ∧ ∃ es24,(es24.length = es18.length + 1 ∧ List.flatMap AV.cells es24 = List.flatMap AV.cells es18 ++ [iN n16]) ∧ p1_ (i15 + 1) [AV.slc 3 es24]
def R20 (t:TRoTask) (lorry:Int) (list:List Int) (S:SpecF) (Fr:FreshF) (Sq:SeqF) (Q:PostF):Prop :=
 (∃ n1,S 52 [t.av,iN 0,.slc 3 (List.map (AV.int IntKind.i64) list)] [] (.tup [AV.nilp,iN n1]) [] ∧ ((n1 != 0) = true → Q (.tup [AV.slc 3 [],iN 0,iN n1]) []) ∧ ((n1 != 0) = false → ∃ b5,S 53 [iN lorry,iN 0,iN (IntKind.i64.wrap ((↑(List.map TRoLorry.av t.Lorries).length:Int) - (1:Int)))] [] (.bool b5) [] ∧ (b5 = true → Q (.tup [AV.slc 3 [],iN 0,iN 4]) []) ∧ (b5 = false → ∃ xs9,Sq (107:Nat) [AV.ref 0 0] [[AV.slc 3 (List.map (AV.int IntKind.i64) list)]] xs9 ∧ (∀ (x12:List AV),x12 ∈ xs9 → fitL [iN 0] x12 = true ∧ AV.treeL x12 = true) ∧ ∃ (I12:Nat → List AV → Prop),I12 (0:Nat) [AV.slc 3 []] ∧ (R20qb t xs9 I12) ∧ ∀ (es15:List AV),I12 xs9.length [AV.slc 3 es15] → ∃ zs17 zs'18,(List.flatMap AV.cells es15 = List.map (AV.int IntKind.i64) zs17 ∧ zs17.length = es15.length ∧ (0:Nat) < es15.length ∧ zs'18.length = es15.length ∧ Fr (106:Nat) [AV.tup (List.map (AV.int IntKind.i64) zs17)] (0:Nat) (List.map (AV.int IntKind.i64) zs'18)) ∧ ∃ m20,m20 ≤ es15.length ∧ ∃ zs22 zs'23,(List.map (AV.int IntKind.i64) zs'18 = List.map (AV.int IntKind.i64) zs22 ∧ zs22.length = es15.length ∧ (0:Nat) < es15.length ∧ zs'23.length = es15.length ∧ Fr (56:Nat) [AV.tup (List.map (AV.int IntKind.i64) zs22)] (m20 + 1) (List.map (AV.int IntKind.i64) zs'23)) ∧ (decide ((↑m20:Int) < (↑(List.map (AV.int IntKind.i64) list).length:Int)) = true → Q (.tup [AV.slc 3 [],iN 0,iN 5]) []) ∧ (decide ((↑m20:Int) < (↑(List.map (AV.int IntKind.i64) list).length:Int)) = false → ∃ s27 n28 n29 n30 n31 n32 n33 n34 n35 n36 n37 n38 n39 n40 n41 es42 es43 es44 es45 es46 n47 n48 es49 n50 n51 n52,S 57 [AV.nilp,iN lorry] [] (.agg [AV.str s27,iN n28,iN n29,iN n30,iN n31,iN n32,.eptr [iN n33,iN n34,iN n35,iN n36,iN n37,iN n38,iN n39,iN n40,iN n41,.slc 3 es42,.slc 3 es43,.slc 3 es44,.slc 3 es45,.slc 3 es46] (0:Nat),iN n47,iN n48,.slc 3 es49,iN n50,iN n51,iN n52]) [] ∧ R20qa t list S Q s27 n28 n29 n30 n31 n32 n33 n34 n35 n36 n37 n38 n39 n40 n41 es42 es43 es44 es45 es46 n47 n48 es49 n50 n51 n52 es15 zs'23)))) ∨ ∃ n1 n2 n3 n4 n5 n6 n7 n8 n9 es10 es11 es12 es13 es14 n15,S 52 [t.av,iN 0,.slc 3 (List.map (AV.int IntKind.i64) list)] [] (.tup [AV.eptr [iN n1,iN n2,iN n3,iN n4,iN n5,iN n6,iN n7,iN n8,iN n9,.slc 3 es10,.slc 3 es11,.slc 3 es12,.slc 3 es13,.slc 3 es14] (0:Nat),iN n15]) [] ∧ ((n15 != 0) = true → Q (.tup [AV.slc 3 [],iN 0,iN n15]) []) ∧ ((n15 != 0) = false → ∃ b19,S 53 [iN lorry,iN 0,iN (IntKind.i64.wrap ((↑(List.map TRoLorry.av t.Lorries).length:Int) - (1:Int)))] [] (.bool b19) [] ∧ (b19 = true → Q (.tup [AV.slc 3 [],iN 0,iN 4]) []) ∧ (b19 = false → ∃ xs23,Sq (107:Nat) [AV.ref 0 0] [[AV.slc 3 (List.map (AV.int IntKind.i64) list)]] xs23 ∧ (∀ (x26:List AV),x26 ∈ xs23 → fitL [iN 0] x26 = true ∧ AV.treeL x26 = true) ∧ ∃ (I26:Nat → List AV → Prop),I26 (0:Nat) [AV.slc 3 []] ∧ (R20qb t xs23 I26) ∧ ∀ (es29:List AV),I26 xs23.length [AV.slc 3 es29] → ∃ zs31 zs'32,(List.flatMap AV.cells es29 = List.map (AV.int IntKind.i64) zs31 ∧ zs31.length = es29.length ∧ (0:Nat) < es29.length ∧ zs'32.length = es29.length ∧ Fr (106:Nat) [AV.tup (List.map (AV.int IntKind.i64) zs31)] (0:Nat) (List.map (AV.int IntKind.i64) zs'32)) ∧ ∃ m34,m34 ≤ es29.length ∧ ∃ zs36 zs'37,(List.map (AV.int IntKind.i64) zs'32 = List.map (AV.int IntKind.i64) zs36 ∧ zs36.length = es29.length ∧ (0:Nat) < es29.length ∧ zs'37.length = es29.length ∧ Fr (56:Nat) [AV.tup (List.map (AV.int IntKind.i64) zs36)] (m34 + 1) (List.map (AV.int IntKind.i64) zs'37)) ∧ (decide ((↑m34:Int) < (↑(List.map (AV.int IntKind.i64) list).length:Int)) = true → Q (.tup [AV.slc 3 [],iN 0,iN 5]) []) ∧ (decide ((↑m34:Int) < (↑(List.map (AV.int IntKind.i64) list).length:Int)) = false → ∃ s41 n42 n43 n44 n45 n46 n47 n48 n49 n50 n51 n52 n53 n54 n55 es56 es57 es58 es59 es60 n61 n62 es63 n64 n65 n66,S 57 [AV.eptr [iN n1,iN n2,iN n3,iN n4,iN n5,iN n6,iN n7,iN n8,iN n9,.slc 3 es10,.slc 3 es11,.slc 3 es12,.slc 3 es13,.slc 3 es14] (0:Nat),iN lorry] [] (.agg [AV.str s41,iN n42,iN n43,iN n44,iN n45,iN n46,.eptr [iN n47,iN n48,iN n49,iN n50,iN n51,iN n52,iN n53,iN n54,iN n55,.slc 3 es56,.slc 3 es57,.slc 3 es58,.slc 3 es59,.slc 3 es60] (0:Nat),iN n61,iN n62,.slc 3 es63,iN n64,iN n65,iN n66]) [] ∧ R20qa t list S Q s41 n42 n43 n44 n45 n46 n47 n48 n49 n50 n51 n52 n53 n54 n55 es56 es57 es58 es59 es60 n61 n62 es63 n64 n65 n66 es29 zs'37)))
theorem s20 (t:TRoTask) (lorry:Int) (list:List Int) (v:AV) (O:List (List AV)) (h:R20 t lorry list Sp Fo So (fun r O' => r = v ∧ O' = O)):Sp 20 [t.av,iN lorry,.slc 3 (List.map (AV.int .i64) list)] [] v O :=
 spec_by (w:=⟨[106,56],[(57,[.agg [.str default,iN 0,iN 0,iN 0,iN 0,iN 0,.eptr [iN 0,iN 0,iN 0,iN 0,iN 0,iN 0,iN 0,iN 0,iN 0,.slc 3 [],.slc 3 [],.slc 3 [],.slc 3 [],.slc 3 []] 0,iN 0,iN 0,.slc 3 [],iN 0,iN 0,iN 0]]),(52,[.tup [.nilp,iN 0],.tup [.eptr [iN 0,iN 0,iN 0,iN 0,iN 0,iN 0,iN 0,iN 0,iN 0,.slc 3 [],.slc 3 [],.slc 3 [],.slc 3 [],.slc 3 []] 0,iN 0]])],[59],[(54,⟨[0,2,3],[],[],[]⟩),(105,⟨[0,2],[],[],[]⟩),(127,⟨[0,1,2,4,5,6,7],[⟨3,[],[],[],[(2,0,3)],[iN 0],[]⟩],[],[(2,1)]⟩),(55,⟨[0,1,2],[],[],[]⟩)],[]⟩) (k:=4) (keep:=⟨[0,1,2,3,6,7,8,9,10,11,13,20,24,39,43,44,45,46,51],[⟨11,[(45,iN 0)],[],[(11,.agg [.str default,iN 0,iN 0,iN 0,iN 0,iN 0,.eptr [iN 0,iN 0,iN 0,iN 0,iN 0,iN 0,iN 0,iN 0,iN 0,.slc 3 [],.slc 3 [],.slc 3 [],.slc 3 [],.slc 3 []] 0,iN 0,iN 0,.slc 3 [],iN 0,iN 0,iN 0])],[],[],[]⟩],[],[]⟩) (boxes:=[]) mixed (by exact ⟨Tryz.call54,⟨Tryz.call105,⟨Tryz.call127,⟨Tryz.call55,trivial⟩⟩⟩⟩) Tryz.func20 Tryz.call20 rfl rfl rfl (Nat.le_of_ble_eq_true rfl) (by kernel_rfl) h
theorem times_some (t:TRoTask) (ht:TaskIn t) (lorry:Int) (l:List Int) (hl:l.length ≤ 17592186043904) (hne:l ≠ []):Sp 20 [t.av,.int .i64 lorry,.slc 3 (intsT l)] [] (tableV t lorry l) []:=s20 t lorry l _ _ (by
 have hpos:0 < l.length:=List.length_pos_iff.2 hne
 unfold R20 R20qb R20qa
 have hj:=c52 t ht 0 l (by omega)
 unfold jobsV at hj
 by_cases he:(taskE t).2.2 ≠ 0
 ·rw [if_pos he] at hj
  refine .inl ⟨_,hj,fun _ => ⟨by unfold tableV tableR; rw [if_pos he]; rfl,by trivial⟩,fun h => absurd h (by simpa using he)⟩
 rw [if_neg he] at hj
 have hE0:tableR t lorry l = _:=if_neg he
 have he:=Decidable.not_not.1 he
 have hv:=task_ok he
 have hd:=depIn hv
 have hll:=hv.ll
 have hjl:=hv.jl
 refine .inr ⟨_,_,_,_,_,_,_,_,_,_,_,_,_,_,_,hj,fun h => ?_,fun h => ⟨_,c53 ..,?_⟩⟩
 ·by_cases hn:l.any (noneB t 0) = true
  ·rw [if_pos hn] at hE0
   exact ⟨by unfold tableV; rw [hE0,if_pos hn]; rfl,by trivial⟩
  ·rw [if_neg hn] at h; simp at h
 have hn:¬ l.any (noneB t 0) = true:=fun hn => by rw [if_pos hn] at h; simp at h
 rw [if_neg hn] at hE0
 have hin:=avNone hv (by simpa using hn)
 rw [List.length_map,i64 (by omega)]
 refine ⟨fun g => ?_,fun g => ?_⟩
 ·rw [if_pos g] at hE0
  exact ⟨by unfold tableV; rw [hE0]; rfl,by trivial⟩
 rw [if_neg (by rw [g]; simp)] at hE0
 have g1:=outB_false.1 g
 refine ⟨_,values_seq l (by omega),fun x hx => ?_,fun i vs => vs = [.slc 3 (intsT (l.take i))],rfl,fun i n hx es hI => ?_,fun es hI => ?_⟩
 ·obtain ⟨y,_,rfl⟩:=List.mem_map.1 hx
  exact ⟨rfl,rfl⟩
 ·cases hI
  obtain ⟨h1,h2⟩:=take_int hx
  have hs:=ints_step (l.take i) (by rw [List.length_take]; omega) n
  refine ⟨hs.1,hs.2,?_⟩
  repeat (first | refine And.intro rfl ?_ | refine And.intro trivial ?_)
  exact ⟨intsT (l.take (i + 1)),⟨by rw [h2,List.length_append]; rfl,by rw [h2,List.flatMap_append]; rfl⟩,rfl⟩
 ·rw [List.length_map,List.take_length] at hI
  cases hI
  have hsl:=sortL_len l
  have hcl:=compL_len (sortL l)
  refine ⟨l,sortL l,⟨by rw [flat1 ints_cells]; rfl,(intsT_len l).symm,by rw [intsT_len]; exact hpos,by rw [intsT_len]; exact hsl,mutSort l (by omega)⟩,(Go.Lib.compact (sortL l)).length,by rw [intsT_len,← hsl]; exact compact_le _,sortL l,compL (sortL l),⟨rfl,by rw [intsT_len]; exact hsl,by rw [intsT_len]; exact hpos,by rw [intsT_len,hcl]; exact hsl,mutComp (sortL l) (by omega)⟩,?_⟩
  rw [List.length_map]
  have hdd:decide (((Go.Lib.compact (sortL l)).length:Int) < (l.length:Int)) = dupB l:=by unfold dupB; rw [Bool.eq_iff_iff,decide_eq_true_eq,decide_eq_true_eq]; omega
  rw [hdd]
  refine ⟨fun q => ?_,fun q => ?_⟩
  ·rw [if_pos q] at hE0
   exact ⟨by unfold tableV; rw [hE0]; rfl,by trivial⟩
  rw [if_neg (by rw [q]; simp)] at hE0
  have hE:=hE0
  have hfew:=dup_few q hin
  refine ⟨_,_,_,_,_,_,_,_,_,_,_,_,_,_,_,_,_,_,_,_,_,_,_,_,_,_,c57 (depE t) lorry g1.1 (by show lorry < (t.Lorries.length:Int); omega),?_⟩
  refine ⟨fun m vs => ∃ (k:Nat) (r:TTour),vs = [.int .i64 k,(r.on (depE t)).av] ∧ k ≤ l.length ∧ m = l.length - k ∧ tableF (depE t) r (l.drop k) = tableF (depE t) (leaveE (depE t) lorry) l ∧ r.last < t.Jobs.length ∧ r.stops.length ≤ k,⟨_,0,leaveE (depE t) lorry,rfl,by omega,rfl,rfl,by show (-1:Int) < _; omega,Nat.le_refl _⟩,?_⟩
  intro m
  intros
  rename_i hJ
  obtain ⟨k,r,hk,hle,rfl,ht,hrl,hrs⟩:=hJ
  cases hk
  refine ⟨fun h3 => ?_,fun h3 => ?_⟩
  ·have h3:k < l.length:=by have:=of_decide_eq_true h3; (try rw [List.length_map] at this); omega
   obtain ⟨x0,x1⟩:=hin _ (List.getElem_mem h3)
   rw [List.drop_eq_getElem_cons h3] at ht
   have hgk:(intsT l)[((k:Nat):Int).toNat]? = some (.int .i64 l[k]):=ints_get h3
   refine ⟨_,⟨by omega,by trivial,hgk⟩,_,_,_,_,_,_,_,.undef,_,_,_,_,_,_,c58 (depE t) hd r l[k] x0 x1 hrl (by omega),fun f1 => ⟨?_,by trivial⟩,fun f1 => ?_⟩
   ·have f1:visitB (depE t) r l[k] = false:=by simpa using f1
    have e:tableF (depE t) (leaveE (depE t) lorry) l = (r.stops,-1):=by rw [← ht]; unfold tableF; rw [if_neg (by rw [f1]; simp)]
    have e2:(visitT (depE t) r l[k]).stops = r.stops:=by unfold visitT; rw [if_neg (by rw [f1]; simp)]; rfl
    show AV.tup [.slc 3 (List.map TRoStop.av (visitT (depE t) r l[k]).stops),_,_] = tableV t lorry l
    unfold tableV
    rw [hE,e,e2]
   ·have f1:visitB (depE t) r l[k] = true:=by simpa using f1
    have e:tableF (depE t) (visitT (depE t) r l[k]) (l.drop (k + 1)) = tableF (depE t) (leaveE (depE t) lorry) l:=by rw [← ht]; conv => rhs; unfold tableF; rw [if_pos f1]
    obtain ⟨v1,v2⟩:=visitT_last f1
    repeat (first | refine And.intro rfl ?_ | refine And.intro trivial ?_)
    exact ⟨_,(by omega:l.length - (k + 1) < l.length - k),k + 1,visitT (depE t) r l[k],by rw [wrapN (by omega)]; rfl,by omega,rfl,e,by rw [v1]; exact x1,by rw [v2]; omega⟩
  ·have h3:k = l.length:=by have:=of_decide_eq_false h3; (try rw [List.length_map] at this); omega
   subst h3
   rw [List.drop_length] at ht
   have e:tableF (depE t) (leaveE (depE t) lorry) l = (r.stops,backE (depE t) r):=ht.symm
   refine ⟨_,c59 (depE t) r hrl,?_,by trivial⟩
   show AV.tup [.slc 3 (List.map TRoStop.av r.stops),_,_] = tableV t lorry l
   unfold tableV
   rw [hE,e])
theorem spec_lits {P:Program} {f:FuncId} {a:AV} {r:List AV} {x y:Int} {v:AV} {O':List (List AV)} (h:SpecOf P f (a :: .lit .i64 x :: .lit .i64 y :: r) [] v O'):SpecOf P f (a :: .int .i64 x :: .int .i64 y :: r) [] v O' :=
 ⟨h.enter,fun ρ μ w vs h1 h2 h3 h4 h5 hargs => h.run ρ μ w vs h1 h2 h3 h4 h5 ⟨hargs.1,fun j => by
  match j with
  | 0 => exact hargs.2 0
  | 1 =>
   have h0:Rv ρ (some μ) (.int .i64 x) (vs.getD 1 Go.undef):=hargs.2 1
   show Rv ρ (some μ) (.lit .i64 x) (vs.getD 1 Go.undef)
   generalize vs.getD 1 Go.undef = c at h0 ⊢
   cases h0; exact .lit ..
  | 2 =>
   have h0:Rv ρ (some μ) (.int .i64 y) (vs.getD 2 Go.undef):=hargs.2 2
   show Rv ρ (some μ) (.lit .i64 y) (vs.getD 2 Go.undef)
   generalize vs.getD 2 Go.undef = c at h0 ⊢
   cases h0; exact .lit ..
  | j + 3 => exact hargs.2 (j + 3)⟩⟩
def R136 (_k:Int) (S:SpecF) (_Fr:FreshF) (_Sq:SeqF) (Q:PostF):Prop :=
 ∃ (I0:Nat → List AV → Prop),(∃ m2,I0 m2 [iN 1]) ∧ ∀ (m2:Nat) (n3:Int),I0 m2 [iN n3] → (decide (n3 < 0) = true → ∃ (I7:Nat → List AV → Prop),(∃ m9,I7 m9 [iN n3]) ∧ ∀ (m9:Nat) (n10:Int),I7 m9 [iN n10] → (decide (n10 > 0) = true → ∃ n14,((0:Int) ≤ n10 ∧ (1:Nat) = (1:Nat) ∧ ([]:List AV)[n10.toNat]? = some (iN n14)) ∧ ∃ n16,((0:Int) ≤ IntKind.i64.wrap (n10 - 1) ∧ (1:Nat) = (1:Nat) ∧ [][(IntKind.i64.wrap (n10 - 1)).toNat]? = some (iN n16)) ∧ ∃ b18,S 142 [iN n14,iN n16] [] (.bool b18) [] ∧ (b18 = true → ∃ n22,((0:Int) ≤ IntKind.i64.wrap (n10 - 1) ∧ (1:Nat) = (1:Nat) ∧ [][(IntKind.i64.wrap (n10 - 1)).toNat]? = some (iN n22)) ∧ ∃ n24,((0:Int) ≤ n10 ∧ (1:Nat) = (1:Nat) ∧ ([]:List AV)[n10.toNat]? = some (iN n24)) ∧ ∃ n26,((0:Int) ≤ n10 ∧ (1:Nat) = (1:Nat) ∧ ([]:List AV)[n10.toNat]? = some (iN n26)) ∧ False) ∧ (b18 = false → ∃ k22,k22 < m2 ∧ I0 k22 [iN (IntKind.i64.wrap (n3 + 1))])) ∧ (decide (n10 > 0) = false → ∃ k14,k14 < m2 ∧ I0 k14 [iN (IntKind.i64.wrap (n3 + 1))])) ∧ (decide (n3 < 0) = false → Q (.tup []) [])
theorem s136 (k:Int) (v:AV) (O:List (List AV)) (h:R136 k Sp Fo So (fun r O' => r = v ∧ O' = O)):Sp 136 [.slc 3 [],.lit .i64 0,.lit .i64 0] [] v O :=
 spec_by (w:=⟨[],[],[],[],[]⟩) (k:=0) (keep:=⟨[0,1,2,6,7,12,30],[⟨1,[(6,iN 0)],[],[],[],[],[]⟩,⟨4,[(7,iN 0)],[],[],[],[],[]⟩],[],[]⟩) (boxes:=[]) mixed (by exact trivial) Tryz.func136 Tryz.call136 rfl rfl rfl (Nat.le_of_ble_eq_true rfl) (by kernel_rfl) h
theorem insert_none:Sp 136 [.slc 3 [],.int .i64 0,.int .i64 0] [] (.tup []) []:=spec_lits (s136 0 _ _ (by
 unfold R136
 refine ⟨fun _ vs => vs = [.int .i64 1],⟨0,rfl⟩,?_⟩
 rintro m n h
 cases h
 exact ⟨fun h => absurd h (by decide),fun _ => ⟨rfl,rfl⟩⟩))
def R128 (_k:Int) (S:SpecF) (_Fr:FreshF) (_Sq:SeqF) (Q:PostF):Prop :=
 S (136:Nat) TTail.zero.cs [] (.tup []) [] ∧ Q (.tup []) []
theorem s128 (k:Int) (v:AV) (O:List (List AV)) (h:R128 k Sp Fo So (fun r O' => r = v ∧ O' = O)):Sp 128 [.slc 3 [],.lit .i64 0,.lit .i64 0,iN k] [] v O :=
 spec_by (w:=⟨[],[],[],[],[]⟩) (k:=0) (keep:=⟨[0,1,2,3,8,9,10,11,12,13,14,15,16,17,18,23,29,35,50,68,72,87,113],[],[],[]⟩) (boxes:=[]) mixed (by exact trivial) Tryz.func128 Tryz.call128 rfl rfl rfl (Nat.le_of_ble_eq_true rfl) (by kernel_rfl) h
theorem pdq_none (k:Int):Sp 128 [.slc 3 [],.int .i64 0,.int .i64 0,.int .i64 k] [] (.tup []) []:=spec_lits (s128 k _ _ (by
 unfold R128
 exact ⟨insert_none,rfl,rfl⟩))
def R129 (x:Int) (S:SpecF) (_Fr:FreshF) (_Sq:SeqF) (Q:PostF):Prop :=
 ∃ n0,S 146 [AV.int IntKind.u64 x] [] (iN n0) [] ∧ Q (iN n0) []
theorem s129 (x:Int) (v:AV) (O:List (List AV)) (h:R129 x Sp Fo So (fun r O' => r = v ∧ O' = O)):Sp 129 [.int .u64 x] [] v O :=
 spec_by (w:=⟨[],[],[],[],[]⟩) (k:=0) (keep:=⟨[0,2],[],[],[]⟩) (boxes:=[]) mixed (by exact trivial) Tryz.func129 Tryz.call129 rfl rfl rfl (Nat.le_of_ble_eq_true rfl) (by kernel_rfl) h
def R106 (x:List Int) (S:SpecF) (_Fr:FreshF) (_Sq:SeqF) (Q:PostF):Prop :=
 ∃ n0,S 129 [AV.int IntKind.u64 (IntKind.u64.wrap (↑(List.map (AV.int IntKind.i64) x).length:Int))] [] (iN n0) [] ∧ S 128 [AV.slc 3 (List.map (AV.int IntKind.i64) x),iN 0,iN (↑(List.map (AV.int IntKind.i64) x).length:Int),iN n0] [] (.tup []) [] ∧ Q (.tup []) []
theorem s106 (x:List Int) (v:AV) (O:List (List AV)) (h:R106 x Sp Fo So (fun r O' => r = v ∧ O' = O)):Sp 106 [.slc 3 (List.map (AV.int .i64) x)] [] v O :=
 spec_by (w:=⟨[],[],[],[],[]⟩) (k:=0) (keep:=⟨[0,2],[],[],[]⟩) (boxes:=[]) mixed (by exact trivial) Tryz.func106 Tryz.call106 rfl rfl rfl (Nat.le_of_ble_eq_true rfl) (by kernel_rfl) h
theorem sort_none:Sp 106 [.slc 3 []] [] (.tup []) []:=s106 [] _ _ (by
 obtain ⟨n,hn,_⟩:=c146 0 (by decide)
 unfold R106
 exact ⟨_,s129 0 _ _ (by
  unfold R129
  exact ⟨_,hn,rfl,rfl⟩),pdq_none _,rfl,rfl⟩)
def R56 (s:List Int) (_S:SpecF) (_Fr:FreshF) (_Sq:SeqF) (Q:PostF):Prop :=
 (decide ((↑(List.map (AV.int IntKind.i64) s).length:Int) < (2:Int)) = true → Q (.slc 3 (List.map (AV.int IntKind.i64) s)) []) ∧ (decide ((↑(List.map (AV.int IntKind.i64) s).length:Int) < (2:Int)) = false → ∃ (I2:Nat → List AV → Prop),(∃ m4,I2 m4 [iN 1]) ∧ ∀ (m4:Nat) (n5:Int),I2 m4 [iN n5] → (decide (n5 < (↑(List.map (AV.int IntKind.i64) s).length:Int)) = true → ∃ n9,((0:Int) ≤ n5 ∧ (1:Nat) = (1:Nat) ∧ (List.map (AV.int IntKind.i64) s)[n5.toNat]? = some (iN n9)) ∧ ∃ n11,((0:Int) ≤ IntKind.i64.wrap (n5 - 1) ∧ (1:Nat) = (1:Nat) ∧ (List.map (AV.int IntKind.i64) s)[(IntKind.i64.wrap (n5 - 1)).toNat]? = some (iN n11)) ∧ ((n9 == n11) = true → ((0:Int) ≤ n5 ∧ n5 ≤ (↑(List.map (AV.int IntKind.i64) s).length:Int) ∧ (↑(List.map (AV.int IntKind.i64) s).length:Int) ≤ (↑(List.map (AV.int IntKind.i64) s).length:Int) ∧ elemsOf (1:Nat) (List.map (AV.int IntKind.i64) s)) ∧ ∃ (I16:Nat → List AV → Prop),(∃ m18,I16 m18 [iN n5,iN 1]) ∧ ∀ (m18:Nat) (n19 n20:Int),I16 m18 [iN n19,iN n20] → (decide (n20 < (↑(List.take ((↑(List.map (AV.int IntKind.i64) s).length:Int).toNat - n5.toNat) (List.drop n5.toNat (List.map (AV.int IntKind.i64) s))).length:Int)) = true → ∃ n24,((0:Int) ≤ n20 ∧ (1:Nat) = (1:Nat) ∧ (List.take ((↑(List.map (AV.int IntKind.i64) s).length:Int).toNat - n5.toNat) (List.drop n5.toNat (List.map (AV.int IntKind.i64) s)))[n20.toNat]? = some (iN n24)) ∧ ∃ n26,((0:Int) ≤ IntKind.i64.wrap (n20 - 1) ∧ (1:Nat) = (1:Nat) ∧ (List.take ((↑(List.map (AV.int IntKind.i64) s).length:Int).toNat - n5.toNat) (List.drop n5.toNat (List.map (AV.int IntKind.i64) s)))[(IntKind.i64.wrap (n20 - 1)).toNat]? = some (iN n26)) ∧ ((n24 != n26) = true → ∃ n30,((0:Int) ≤ n20 ∧ (1:Nat) = (1:Nat) ∧ (List.take ((↑(List.map (AV.int IntKind.i64) s).length:Int).toNat - n5.toNat) (List.drop n5.toNat (List.map (AV.int IntKind.i64) s)))[n20.toNat]? = some (iN n30)) ∧ ∃ n32,((0:Int) ≤ n19 ∧ (1:Nat) = (1:Nat) ∧ (List.map (AV.int IntKind.i64) s)[n19.toNat]? = some (iN n32)) ∧ False) ∧ ((n24 != n26) = false → ∃ k30,k30 < m18 ∧ I16 k30 [iN n19,iN (IntKind.i64.wrap (n20 + 1))])) ∧ (decide (n20 < (↑(List.take ((↑(List.map (AV.int IntKind.i64) s).length:Int).toNat - n5.toNat) (List.drop n5.toNat (List.map (AV.int IntKind.i64) s))).length:Int)) = false → ((0:Int) ≤ n19 ∧ n19 ≤ (↑(List.map (AV.int IntKind.i64) s).length:Int) ∧ (↑(List.map (AV.int IntKind.i64) s).length:Int) ≤ (↑(List.map (AV.int IntKind.i64) s).length:Int) ∧ elemsOf (1:Nat) (List.map (AV.int IntKind.i64) s)) ∧ False)) ∧ ((n9 == n11) = false → ∃ k15,k15 < m4 ∧ I2 k15 [iN (IntKind.i64.wrap (n5 + 1))])) ∧ (decide (n5 < (↑(List.map (AV.int IntKind.i64) s).length:Int)) = false → Q (.slc 3 (List.map (AV.int IntKind.i64) s)) []))
theorem s56 (s:List Int) (v:AV) (O:List (List AV)) (h:R56 s Sp Fo So (fun r O' => r = v ∧ O' = O)):Sp 56 [.slc 3 (List.map (AV.int .i64) s)] [] v O :=
 spec_by (w:=⟨[],[],[],[],[]⟩) (k:=0) (keep:=⟨[0,2,3,4,5,8,13,25,32,44],[⟨4,[(3,iN 0)],[],[],[],[],[]⟩,⟨9,[(3,iN 0),(5,iN 0)],[],[],[],[],[]⟩],[],[]⟩) (boxes:=[]) mixed (by exact trivial) Tryz.func56 Tryz.call56 rfl rfl rfl (Nat.le_of_ble_eq_true rfl) (by kernel_rfl) h
theorem compact_none:Sp 56 [.slc 3 []] [] (.slc 3 []) []:=s56 [] _ _ (by
 unfold R56
 exact ⟨fun _ => ⟨rfl,rfl⟩,fun h => absurd h (by decide)⟩)
abbrev R20mqa (t:TRoTask) (S:SpecF) (Q:PostF) (p0_:ByteArray) (p1_ p2_ p3_ p4_ p5_ p6_ p7_ p8_ p9_ p10_ p11_ p12_ p13_ p14_:Int) (p15_ p16_ p17_ p18_ p19_:List AV) (p20_ p21_:Int) (p22_:List AV) (p23_ p24_ p25_:Int) (p26_:List AV):Prop :=
 ∃ (I51:Nat → List AV → Prop),(∃ m53,I51 m53 [iN 0,.agg [AV.str p0_,iN p1_,iN p2_,iN p3_,iN p4_,iN p5_,.eptr [iN p6_,iN p7_,iN p8_,iN p9_,iN p10_,iN p11_,iN p12_,iN p13_,iN p14_,.slc 3 p15_,.slc 3 p16_,.slc 3 p17_,.slc 3 p18_,.slc 3 p19_] (0:Nat),iN p20_,iN p21_,.slc 3 p22_,iN p23_,iN p24_,iN p25_]]) ∧ ∀ (m53:Nat) (n54:Int) (s55:ByteArray) (n56 n57 n58 n59 n60 n61 n62 n63 n64 n65 n66 n67 n68 n69:Int) (es70 es71 es72 es73 es74:List AV) (n75 n76:Int) (es77:List AV) (n78 n79 n80:Int),I51 m53 [iN n54,.agg [AV.str s55,iN n56,iN n57,iN n58,iN n59,iN n60,.eptr [iN n61,iN n62,iN n63,iN n64,iN n65,iN n66,iN n67,iN n68,iN n69,.slc 3 es70,.slc 3 es71,.slc 3 es72,.slc 3 es73,.slc 3 es74] (0:Nat),iN n75,iN n76,.slc 3 es77,iN n78,iN n79,iN n80]] → (decide (n54 < (↑([]:List AV).length:Int)) = true → ∃ n84,((0:Int) ≤ n54 ∧ (1:Nat) = (1:Nat) ∧ ([]:List AV)[n54.toNat]? = some (iN n84)) ∧ ∃ b86 s87 n88 n89 n90 n91 n92,∃ v93:AV,∃ n94 n95 es96 n97 n98 n99,S 58 [AV.ref 0 0,iN n84] [[AV.str s55,iN n56,iN n57,iN n58,iN n59,iN n60,.eptr [iN n61,iN n62,iN n63,iN n64,iN n65,iN n66,iN n67,iN n68,iN n69,.slc 3 es70,.slc 3 es71,.slc 3 es72,.slc 3 es73,.slc 3 es74] (0:Nat),iN n75,iN n76,.slc 3 es77,iN n78,iN n79,iN n80]] (.bool b86) [[AV.str s87,iN n88,iN n89,iN n90,iN n91,iN n92,.eptr [iN n61,iN n62,iN n63,iN n64,iN n65,iN n66,iN n67,iN n68,iN n69,.slc 3 es70,.slc 3 es71,.slc 3 es72,.slc 3 es73,.slc 3 es74] (0:Nat),iN n94,iN n95,.slc 3 es96,iN n97,iN n98,iN n99]] ∧ ((!b86) = true → Q (.tup [AV.slc 3 es96,iN (-1:Int),iN 0]) []) ∧ ((!b86) = false → t.cs = t.cs ∧ Same [AV.aslc ((108:Nat) + ((13:Nat) + nat_lit 0,nat_lit 3).fst) (0:Nat) p26_.length (Tryz.prog.cellsOf (3:Nat)) (isAggT Tryz.prog (3:Nat))] ∧ ∃ k105,k105 < m53 ∧ I51 k105 [iN (IntKind.i64.wrap (n54 + 1)),.agg [AV.str s87,iN n88,iN n89,iN n90,iN n91,iN n92,.eptr [iN n61,iN n62,iN n63,iN n64,iN n65,iN n66,iN n67,iN n68,iN n69,.slc 3 es70,.slc 3 es71,.slc 3 es72,.slc 3 es73,.slc 3 es74] (0:Nat),iN n94,iN n95,.slc 3 es96,iN n97,iN n98,iN n99]])) ∧ (decide (n54 < (↑([]:List AV).length:Int)) = false → ∃ n84,S 59 [AV.ref 0 0] [[AV.str s55,iN n56,iN n57,iN n58,iN n59,iN n60,.eptr [iN n61,iN n62,iN n63,iN n64,iN n65,iN n66,iN n67,iN n68,iN n69,.slc 3 es70,.slc 3 es71,.slc 3 es72,.slc 3 es73,.slc 3 es74] (0:Nat),iN n75,iN n76,.slc 3 es77,iN n78,iN n79,iN n80]] (iN n84) [[AV.str s55,iN n56,iN n57,iN n58,iN n59,iN n60,.eptr [iN n61,iN n62,iN n63,iN n64,iN n65,iN n66,iN n67,iN n68,iN n69,.slc 3 es70,.slc 3 es71,.slc 3 es72,.slc 3 es73,.slc 3 es74] (0:Nat),iN n75,iN n76,.slc 3 es77,iN n78,iN n79,iN n80]] ∧ Q (.tup [AV.slc 3 es77,iN n84,iN 0]) [])
abbrev R20mqb (t:TRoTask) (p0_:List (List AV)) (p1_:Nat → List AV → Prop):Prop :=
 ∀ (i15:Nat) (n16:Int),p0_[i15]? = some [iN n16] → ∀ (es18:List AV),p1_ i15 [AV.slc 3 es18] → elemsOf (1:Nat) [iN n16] ∧ ((List.flatMap AV.cells es18).length = es18.length * Tryz.prog.cellsOf (3:Nat) ∧ (es18.length + 1 + (512:Nat)) * 41 ≤ (1125899906842624:Nat) ∧ ones [iN n16] = true ∧ ones (List.flatMap AV.cells es18) = true) ∧ t.cs = t.cs ∧ Same [AV.undef] ∧ ∃ es24,(es24.length = es18.length + 1 ∧ List.flatMap AV.cells es24 = List.flatMap AV.cells es18 ++ [iN n16]) ∧ p1_ (i15 + 1) [AV.slc 3 es24]
def R20m (t:TRoTask) (lorry:Int) (S:SpecF) (_Fr:FreshF) (Sq:SeqF) (Q:PostF):Prop :=
 (∃ n1,S 52 [t.av,iN 0,.slc 3 []] [] (.tup [AV.nilp,iN n1]) [] ∧ ((n1 != 0) = true → Q (.tup [AV.slc 3 [],iN 0,iN n1]) []) ∧ ((n1 != 0) = false → ∃ b5,S 53 [iN lorry,iN 0,iN (IntKind.i64.wrap ((↑(List.map TRoLorry.av t.Lorries).length:Int) - (1:Int)))] [] (.bool b5) [] ∧ (b5 = true → Q (.tup [AV.slc 3 [],iN 0,iN 4]) []) ∧ (b5 = false → ∃ xs9,Sq (107:Nat) [AV.ref 0 0] [[AV.slc 3 []]] xs9 ∧ (∀ (x12:List AV),x12 ∈ xs9 → fitL [iN 0] x12 = true ∧ AV.treeL x12 = true) ∧ ∃ (I12:Nat → List AV → Prop),I12 (0:Nat) [AV.slc 3 []] ∧ (R20mqb t xs9 I12) ∧ ∀ (es15:List AV),I12 xs9.length [AV.slc 3 es15] → ((0:Nat) + es15.length * Tryz.prog.cellsOf (3:Nat) ≤ (List.flatMap AV.cells es15).length ∧ ones (List.flatMap AV.cells es15) = true) ∧ S 106 [AV.slc 3 (chunks (Tryz.prog.cellsOf (3:Nat)) (isAggT Tryz.prog (3:Nat)) es15.length (List.drop (0:Nat) (List.flatMap AV.cells es15)))] [] (.tup []) [] ∧ ((0:Nat) + es15.length * Tryz.prog.cellsOf (3:Nat) ≤ (List.flatMap AV.cells es15).length ∧ ones (List.flatMap AV.cells es15) = true) ∧ ∃ es20,S 56 [AV.slc 3 (chunks (Tryz.prog.cellsOf (3:Nat)) (isAggT Tryz.prog (3:Nat)) es15.length (List.drop (0:Nat) (List.flatMap AV.cells es15)))] [] (.slc 3 es20) [] ∧ (decide ((↑es20.length:Int) < (↑([]:List AV).length:Int)) = true → Q (.tup [AV.slc 3 [],iN 0,iN 5]) []) ∧ (decide ((↑es20.length:Int) < (↑([]:List AV).length:Int)) = false → ∃ s24 n25 n26 n27 n28 n29 n30 n31 n32 n33 n34 n35 n36 n37 n38 es39 es40 es41 es42 es43 n44 n45 es46 n47 n48 n49,S 57 [AV.nilp,iN lorry] [] (.agg [AV.str s24,iN n25,iN n26,iN n27,iN n28,iN n29,.eptr [iN n30,iN n31,iN n32,iN n33,iN n34,iN n35,iN n36,iN n37,iN n38,.slc 3 es39,.slc 3 es40,.slc 3 es41,.slc 3 es42,.slc 3 es43] (0:Nat),iN n44,iN n45,.slc 3 es46,iN n47,iN n48,iN n49]) [] ∧ R20mqa t S Q s24 n25 n26 n27 n28 n29 n30 n31 n32 n33 n34 n35 n36 n37 n38 es39 es40 es41 es42 es43 n44 n45 es46 n47 n48 n49 es15)))) ∨ ∃ n1 n2 n3 n4 n5 n6 n7 n8 n9 es10 es11 es12 es13 es14 n15,S 52 [t.av,iN 0,.slc 3 []] [] (.tup [AV.eptr [iN n1,iN n2,iN n3,iN n4,iN n5,iN n6,iN n7,iN n8,iN n9,.slc 3 es10,.slc 3 es11,.slc 3 es12,.slc 3 es13,.slc 3 es14] (0:Nat),iN n15]) [] ∧ ((n15 != 0) = true → Q (.tup [AV.slc 3 [],iN 0,iN n15]) []) ∧ ((n15 != 0) = false → ∃ b19,S 53 [iN lorry,iN 0,iN (IntKind.i64.wrap ((↑(List.map TRoLorry.av t.Lorries).length:Int) - (1:Int)))] [] (.bool b19) [] ∧ (b19 = true → Q (.tup [AV.slc 3 [],iN 0,iN 4]) []) ∧ (b19 = false → ∃ xs23,Sq (107:Nat) [AV.ref 0 0] [[AV.slc 3 []]] xs23 ∧ (∀ (x26:List AV),x26 ∈ xs23 → fitL [iN 0] x26 = true ∧ AV.treeL x26 = true) ∧ ∃ (I26:Nat → List AV → Prop),I26 (0:Nat) [AV.slc 3 []] ∧ (R20mqb t xs23 I26) ∧ ∀ (es29:List AV),I26 xs23.length [AV.slc 3 es29] → ((0:Nat) + es29.length * Tryz.prog.cellsOf (3:Nat) ≤ (List.flatMap AV.cells es29).length ∧ ones (List.flatMap AV.cells es29) = true) ∧ S 106 [AV.slc 3 (chunks (Tryz.prog.cellsOf (3:Nat)) (isAggT Tryz.prog (3:Nat)) es29.length (List.drop (0:Nat) (List.flatMap AV.cells es29)))] [] (.tup []) [] ∧ ((0:Nat) + es29.length * Tryz.prog.cellsOf (3:Nat) ≤ (List.flatMap AV.cells es29).length ∧ ones (List.flatMap AV.cells es29) = true) ∧ ∃ es34,S 56 [AV.slc 3 (chunks (Tryz.prog.cellsOf (3:Nat)) (isAggT Tryz.prog (3:Nat)) es29.length (List.drop (0:Nat) (List.flatMap AV.cells es29)))] [] (.slc 3 es34) [] ∧ (decide ((↑es34.length:Int) < (↑([]:List AV).length:Int)) = true → Q (.tup [AV.slc 3 [],iN 0,iN 5]) []) ∧ (decide ((↑es34.length:Int) < (↑([]:List AV).length:Int)) = false → ∃ s38 n39 n40 n41 n42 n43 n44 n45 n46 n47 n48 n49 n50 n51 n52 es53 es54 es55 es56 es57 n58 n59 es60 n61 n62 n63,S 57 [AV.eptr [iN n1,iN n2,iN n3,iN n4,iN n5,iN n6,iN n7,iN n8,iN n9,.slc 3 es10,.slc 3 es11,.slc 3 es12,.slc 3 es13,.slc 3 es14] (0:Nat),iN lorry] [] (.agg [AV.str s38,iN n39,iN n40,iN n41,iN n42,iN n43,.eptr [iN n44,iN n45,iN n46,iN n47,iN n48,iN n49,iN n50,iN n51,iN n52,.slc 3 es53,.slc 3 es54,.slc 3 es55,.slc 3 es56,.slc 3 es57] (0:Nat),iN n58,iN n59,.slc 3 es60,iN n61,iN n62,iN n63]) [] ∧ R20mqa t S Q s38 n39 n40 n41 n42 n43 n44 n45 n46 n47 n48 n49 n50 n51 n52 es53 es54 es55 es56 es57 n58 n59 es60 n61 n62 n63 es29)))
theorem s20m (t:TRoTask) (lorry:Int) (v:AV) (O:List (List AV)) (h:R20m t lorry Sp Fo So (fun r O' => r = v ∧ O' = O)):Sp 20 [t.av,iN lorry,.slc 3 []] [] v O :=
 spec_by (w:=⟨[],[(57,[.agg [.str default,iN 0,iN 0,iN 0,iN 0,iN 0,.eptr [iN 0,iN 0,iN 0,iN 0,iN 0,iN 0,iN 0,iN 0,iN 0,.slc 3 [],.slc 3 [],.slc 3 [],.slc 3 [],.slc 3 []] 0,iN 0,iN 0,.slc 3 [],iN 0,iN 0,iN 0]]),(52,[.tup [.nilp,iN 0],.tup [.eptr [iN 0,iN 0,iN 0,iN 0,iN 0,iN 0,iN 0,iN 0,iN 0,.slc 3 [],.slc 3 [],.slc 3 [],.slc 3 [],.slc 3 []] 0,iN 0]])],[59],[(54,⟨[0,2,3],[],[],[]⟩),(105,⟨[0,2],[],[],[]⟩),(127,⟨[0,1,2,4,5,6,7],[⟨3,[],[],[],[(2,0,3)],[iN 0],[]⟩],[],[(2,1)]⟩),(55,⟨[0,1,2],[],[],[]⟩)],[]⟩) (k:=4) (keep:=⟨[0,1,2,3,6,7,8,9,10,11,13,20,24,39,43,44,45,46,51],[⟨11,[(45,iN 0)],[],[(11,.agg [.str default,iN 0,iN 0,iN 0,iN 0,iN 0,.eptr [iN 0,iN 0,iN 0,iN 0,iN 0,iN 0,iN 0,iN 0,iN 0,.slc 3 [],.slc 3 [],.slc 3 [],.slc 3 [],.slc 3 []] 0,iN 0,iN 0,.slc 3 [],iN 0,iN 0,iN 0])],[],[],[]⟩],[],[]⟩) (boxes:=[]) mixed (by exact ⟨Tryz.call54,⟨Tryz.call105,⟨Tryz.call127,⟨Tryz.call55,trivial⟩⟩⟩⟩) Tryz.func20 Tryz.call20 rfl rfl rfl (Nat.le_of_ble_eq_true rfl) (by kernel_rfl) h
theorem times_none (t:TRoTask) (ht:TaskIn t) (lorry:Int):Sp 20 [t.av,.int .i64 lorry,.slc 3 []] [] (tableV t lorry []) []:=s20m t lorry _ _ (by
 unfold R20m R20mqb R20mqa
 have hj:=c52 t ht 0 [] (Nat.zero_le _)
 unfold jobsV at hj
 by_cases he:(taskE t).2.2 ≠ 0
 ·rw [if_pos he] at hj
  refine .inl ⟨_,hj,fun _ => ⟨by unfold tableV tableR; rw [if_pos he]; rfl,by trivial⟩,fun h => absurd h (by simpa using he)⟩
 rw [if_neg he] at hj
 have hE0:tableR t lorry [] = _:=if_neg he
 have he:=Decidable.not_not.1 he
 have hv:=task_ok he
 have hd:=depIn hv
 have hll:=hv.ll
 have hjl:=hv.jl
 have hin:∀ x ∈ ([]:List Int),0 ≤ x ∧ x < t.Jobs.length:=fun x hx => (by cases hx)
 refine .inr ⟨_,_,_,_,_,_,_,_,_,_,_,_,_,_,_,hj,fun h => by simp at h,fun _ => ⟨_,c53 ..,?_⟩⟩
 rw [if_neg (by simp)] at hE0
 rw [List.length_map,i64 (by omega)]
 refine ⟨fun g => ?_,fun g => ?_⟩
 ·rw [if_pos g] at hE0
  exact ⟨by unfold tableV; rw [hE0]; rfl,by trivial⟩
 rw [if_neg (by rw [g]; simp)] at hE0
 have g1:=outB_false.1 g
 refine ⟨_,values_seq [] (Nat.zero_le _),fun x hx => (by cases hx),fun i vs => vs = [.slc 3 []],rfl,fun i n hx => (by cases hx),fun es hI => ?_⟩
 cases hI
 refine ⟨⟨by simp,rfl⟩,?_⟩
 rw [show chunks (Tryz.prog.cellsOf 3) (isAggT Tryz.prog 3) ([]:List AV).length (List.drop 0 (List.flatMap AV.cells [])) = [] by rw [agg3]; rfl]
 refine ⟨sort_none,⟨by simp,rfl⟩,_,compact_none,fun h => absurd h (by decide),fun _ => ?_⟩
 have hdd:dupB [] = false:=by decide +kernel
 rw [if_neg (by rw [hdd]; simp)] at hE0
 have hE:=hE0
 have hfew:([]:List Int).length = 0:=rfl
 refine ⟨_,_,_,_,_,_,_,_,_,_,_,_,_,_,_,_,_,_,_,_,_,_,_,_,_,_,c57 (depE t) lorry g1.1 (by show lorry < (t.Lorries.length:Int); omega),?_⟩
 refine ⟨fun m vs => ∃ (k:Nat) (r:TTour),vs = [.int .i64 k,(r.on (depE t)).av] ∧ k ≤ ([]:List Int).length ∧ m = ([]:List Int).length - k ∧ tableF (depE t) r (([]:List Int).drop k) = tableF (depE t) (leaveE (depE t) lorry) ([]:List Int) ∧ r.last < t.Jobs.length ∧ r.stops.length ≤ k,⟨_,0,leaveE (depE t) lorry,rfl,by omega,rfl,rfl,by show (-1:Int) < _; omega,Nat.le_refl _⟩,?_⟩
 intro m
 intros
 rename_i hJ
 obtain ⟨k,r,hk,hle,rfl,ht,hrl,hrs⟩:=hJ
 cases hk
 refine ⟨fun h3 => ?_,fun h3 => ?_⟩
 ·have h3:k < ([]:List Int).length:=by have:=of_decide_eq_true h3; skip; omega
  obtain ⟨x0,x1⟩:=hin _ (List.getElem_mem h3)
  rw [List.drop_eq_getElem_cons h3] at ht
  have hgk:(intsT ([]:List Int))[((k:Nat):Int).toNat]? = some (.int .i64 ([]:List Int)[k]):=ints_get h3
  refine ⟨_,⟨by omega,by trivial,hgk⟩,_,_,_,_,_,_,_,.undef,_,_,_,_,_,_,c58 (depE t) hd r ([]:List Int)[k] x0 x1 hrl (by omega),fun f1 => ⟨?_,by trivial⟩,fun f1 => ?_⟩
  ·have f1:visitB (depE t) r ([]:List Int)[k] = false:=by simpa using f1
   have e:tableF (depE t) (leaveE (depE t) lorry) ([]:List Int) = (r.stops,-1):=by rw [← ht]; unfold tableF; rw [if_neg (by rw [f1]; simp)]
   have e2:(visitT (depE t) r ([]:List Int)[k]).stops = r.stops:=by unfold visitT; rw [if_neg (by rw [f1]; simp)]; rfl
   show AV.tup [.slc 3 (List.map TRoStop.av (visitT (depE t) r ([]:List Int)[k]).stops),_,_] = tableV t lorry ([]:List Int)
   unfold tableV
   rw [hE,e,e2]
  ·have f1:visitB (depE t) r ([]:List Int)[k] = true:=by simpa using f1
   have e:tableF (depE t) (visitT (depE t) r ([]:List Int)[k]) (([]:List Int).drop (k + 1)) = tableF (depE t) (leaveE (depE t) lorry) ([]:List Int):=by rw [← ht]; conv => rhs; unfold tableF; rw [if_pos f1]
   obtain ⟨v1,v2⟩:=visitT_last f1
   repeat (first | refine And.intro rfl ?_ | refine And.intro trivial ?_)
   exact ⟨_,(by omega:([]:List Int).length - (k + 1) < ([]:List Int).length - k),k + 1,visitT (depE t) r ([]:List Int)[k],by rw [wrapN (by omega)]; rfl,by omega,rfl,e,by rw [v1]; exact x1,by rw [v2]; omega⟩
 ·have h3:k = ([]:List Int).length:=by have:=of_decide_eq_false h3; skip; omega
  subst h3
  rw [List.drop_length] at ht
  have e:tableF (depE t) (leaveE (depE t) lorry) ([]:List Int) = (r.stops,backE (depE t) r):=ht.symm
  refine ⟨_,c59 (depE t) r hrl,?_,by trivial⟩
  show AV.tup [.slc 3 (List.map TRoStop.av r.stops),_,_] = tableV t lorry ([]:List Int)
  unfold tableV
  rw [hE,e])
theorem times_ok (t:TRoTask) (ht:TaskIn t) (lorry:Int) (l:List Int) (hl:l.length ≤ 17592186043904):Sp 20 [t.av,.int .i64 lorry,.slc 3 (intsT l)] [] (tableV t lorry l) []:=by
 by_cases h:l = []
 ·subst h; exact times_none t ht lorry
 ·exact times_some t ht lorry l hl h
end Go.Proofs.YtdeeekgohhkdbaaGreatDoor
