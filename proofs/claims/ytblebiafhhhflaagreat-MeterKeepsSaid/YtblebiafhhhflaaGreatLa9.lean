/- MeterKeeps: Change leaves the energy of an item on days before as it is, on the others it is that with the new lamp; a change to the same lamp changes nothing that is reckoned: for any inventory. -/
import Derived.Test.YtblebiafhhhflaaGreatXj
import Derived.Test.YtblebiafhhhflaaGreatOa
namespace Go.Proofs.YtblebiafhhhflaaGreat.meterKeepsDone
open Go.ChangeShapes Go.WideShapes Go.ChangeAt Go.RowKit Go.Proofs.YtblebiafhhhflaaGreat
theorem own:ownKnob Tryz.prog.godebug = none:=by kernel_rfl
theorem laidOut:laidOutB Tryz.prog = true:=by kernel_rfl
theorem un4:Tryz.prog.underlying 4 = some .bool:=by kernel_rfl
theorem psL:Tryz.f9.params.toList = [34,81,3]:=by kernel_rfl
theorem items_few {t:TMtTask} (h:t.Ok):t.Items.length ≤ 2 ^ 41:=by
 have e:reachBytes = 140737488351232:=by rfl
 unfold TMtTask.Ok at h
 rw [e] at h
 have:=h.2.2.2.1.2.2
 omega
theorem changeR_ok {t:TMtTask} {item d lamp:Int} {name:ByteArray} (hn:t.Items.length ≤ 2 ^ 62) (h:(changeR t item d lamp name).2 = 0):(changeR t item d lamp name).1 = changeT t item d lamp name ∧ TaskV t ∧ 0 ≤ item ∧ item < t.Items.length:=by
 unfold changeR at h ⊢
 split at h
 ·rename_i hq; exact absurd h hq
 rename_i h1
 rw [if_neg h1]
 obtain ⟨hv,h2,h3⟩:=accE_zero hn (Decidable.byContradiction h1)
 split at h
 ·simp at h
 rename_i h4
 rw [if_neg h4]
 split at h
 ·rename_i hq; exact absurd h hq
 ·rename_i h5; rw [if_neg h5]; exact ⟨rfl,hv,h2,h3⟩
def R9 (t:TMtTask) (x:TNew) (day:Int) (S:SpecF) (_Fr:FreshF) (_Sq:SeqF) (Q:AV → List (List AV) → Prop):Prop :=
 ∃ b0,S 22 [t.av,.int .i64 1,.int .i64 3] [] (.bool b0) [] ∧ ((!b0) = true → ∃ b4,S 12 [] [] (.bool b4) [] ∧ Q (.bool b4) []) ∧ ((!b0) = false → ∃ n4 n5 n6 n7 n8 es9 es10 es11 es12 es13 n14,S 23 [t.av,.int .i64 x.Item,.int .i64 x.Day,.int .i64 x.Lamp,.str x.Name] [] (.tup [AV.agg [AV.int .i64 n4,.int .i64 n5,.int .i64 n6,.int .i64 n7,.int .i64 n8,.slc 3 es9,.slc 3 es10,.slc 3 es11,.slc 3 es12,.slc 3 es13],.int .i64 n14]) [] ∧ ((n14 != 0) = true → ∃ b18,S 12 [] [] (.bool b18) [] ∧ Q (.bool b18) []) ∧ ((n14 != 0) = false → ∃ b18,S 13 [t.av,.int .i64 x.Item] [] (.bool b18) [] ∧ ((!b18) = true → ∃ b22,S 12 [] [] (.bool b22) [] ∧ Q (.bool b22) []) ∧ ((!b18) = false → elemsOf (8:Nat) (List.map TMtItem.av t.Items) ∧ ((([]:List AV) = [] ∨ (0:Nat) < (List.map TMtItem.av t.Items).length) ∧ ((0:Nat) + (List.map TMtItem.av t.Items).length + (512:Nat)) * 361 ≤ (1125899906842624:Nat) ∧ elemsOf (8:Nat) [] ∧ ones (List.flatMap AV.cells (List.map TMtItem.av t.Items)) = true ∧ ones [] = true) ∧ ((0:Int) ≤ x.Item ∧ x.Item < (↑((0:Nat) + (List.map TMtItem.av t.Items).length):Int) ∧ (8:Nat) = (8:Nat)) ∧ (0:Nat) + x.Item.toNat * 8 + (1:Nat) + (1:Nat) ≤ ([] ++ List.flatMap AV.cells (List.map TMtItem.av t.Items)).length ∧ ∃ n26 n27 n28,S 10 [t.av,.int .i64 x.Item,.int .i64 day] [] (.tup [AV.agg [AV.int .i64 n26,.int .i64 n27],.int .i64 n28]) [] ∧ ((n28 != 0) = true → ∃ b32,S 12 [] [] (.bool b32) [] ∧ Q (.bool b32) []) ∧ ((n28 != 0) = false → (0:Nat) + ((0:Nat) + (List.map TMtItem.av t.Items).length) * 8 ≤ (setCells ([] ++ List.flatMap AV.cells (List.map TMtItem.av t.Items)) ((0:Nat) + x.Item.toNat * 8 + (1:Nat)) [AV.int .i64 x.Lamp]).length ∧ ∃ es33,(es33.length = (0:Nat) + (List.map TMtItem.av t.Items).length ∧ List.flatMap AV.cells es33 = List.drop (0:Nat) (setCells ([] ++ List.flatMap AV.cells (List.map TMtItem.av t.Items)) ((0:Nat) + x.Item.toNat * 8 + (1:Nat)) [AV.int .i64 x.Lamp]) ∧ elemsA (8:Nat) (isAggT Tryz.prog (44:Nat)) es33) ∧ ∃ n35 n36 n37,S 10 [AV.agg [AV.int .i64 t.City.Lat,.int .i64 t.City.Lon,.int .i64 t.City.Zone,.int .i64 t.City.Altitude.Lo,.int .i64 t.City.Altitude.Hi,.slc 3 (List.map TLmTable.av t.Catalog.Tables),.slc 3 (List.map TLmLamp.av t.Catalog.Lamps),.slc 3 (List.map TMtProfile.av t.Profiles),.slc 3 es33,.slc 3 (List.map TMtMeter.av t.Meters)],.int .i64 x.Item,.int .i64 day] [] (.tup [AV.agg [AV.int .i64 n35,.int .i64 n36],.int .i64 n37]) [] ∧ ∃ n39 n40 n41,S 10 [AV.agg [AV.int .i64 n4,.int .i64 n5,.int .i64 n6,.int .i64 n7,.int .i64 n8,.slc 3 es9,.slc 3 es10,.slc 3 es11,.slc 3 es12,.slc 3 es13],.int .i64 x.Item,.int .i64 day] [] (.tup [AV.agg [AV.int .i64 n39,.int .i64 n40],.int .i64 n41]) [] ∧ ∃ n43 n44 n45,S 10 [AV.agg [AV.int .i64 n4,.int .i64 n5,.int .i64 n6,.int .i64 n7,.int .i64 n8,.slc 3 es9,.slc 3 es10,.slc 3 es11,.slc 3 es12,.slc 3 es13],.int .i64 (↑(List.map TMtItem.av t.Items).length:Int),.int .i64 day] [] (.tup [AV.agg [AV.int .i64 n43,.int .i64 n44],.int .i64 n45]) [] ∧ ((n37 != 0) = true → Q (.bool false) []) ∧ ((n37 != 0) = false → ((n41 != 0) = true → Q (.bool false) []) ∧ ((n41 != 0) = false → ((n45 != 0) = true → Q (.bool false) []) ∧ ((n45 != 0) = false → (((↑es12.length:Int) != IntKind.i64.wrap ((↑(List.map TMtItem.av t.Items).length:Int) + (1:Int))) = true → Q (.bool false) []) ∧ (((↑es12.length:Int) != IntKind.i64.wrap ((↑(List.map TMtItem.av t.Items).length:Int) + (1:Int))) = false → (decide (day < x.Day) = true → ((!(n39 == n26 && (n40 == n27 && true))) = true → Q (.bool false) []) ∧ ((!(n39 == n26 && (n40 == n27 && true))) = false → ((!(n43 == 0 && (n44 == 0 && true))) = true → Q (.bool false) []) ∧ ((!(n43 == 0 && (n44 == 0 && true))) = false → (decide (day ≥ x.Day) = true → ((!(n39 == 0 && (n40 == 0 && true))) = true → Q (.bool false) []) ∧ ((!(n39 == 0 && (n40 == 0 && true))) = false → ((!(n43 == n35 && (n44 == n36 && true))) = true → Q (.bool false) []) ∧ ((!(n43 == n35 && (n44 == n36 && true))) = false → ∃ s67 n68 n69 n70 n71 n72 n73 n74,((0:Int) ≤ x.Item ∧ (8:Nat) = (8:Nat) ∧ (List.map TMtItem.av t.Items)[x.Item.toNat]? = some (.agg [AV.str s67,.int .i64 n68,.int .i64 n69,.int .i64 n70,.int .i64 n71,.int .i64 n72,.int .i64 n73,.int .i64 n74])) ∧ ((x.Lamp != n68) = true → ∃ b78,S 12 [] [] (.bool b78) [] ∧ Q (.bool b78) []) ∧ ((x.Lamp != n68) = false → ∃ s78 n79 n80 n81 n82 n83 n84 n85,((0:Int) ≤ x.Item ∧ (8:Nat) = (8:Nat) ∧ (List.map TMtItem.av t.Items)[x.Item.toNat]? = some (.agg [AV.str s78,.int .i64 n79,.int .i64 n80,.int .i64 n81,.int .i64 n82,.int .i64 n83,.int .i64 n84,.int .i64 n85])) ∧ ∃ n87 n88 n89,S 24 [t.av,.int .i64 n82,.int .i64 day,.int .i64 1] [] (.tup [AV.agg [AV.int .i64 n87,.int .i64 n88],.int .i64 n89]) [] ∧ ∃ s91 n92 n93 n94 n95 n96 n97 n98,((0:Int) ≤ x.Item ∧ (8:Nat) = (8:Nat) ∧ (List.map TMtItem.av t.Items)[x.Item.toNat]? = some (.agg [AV.str s91,.int .i64 n92,.int .i64 n93,.int .i64 n94,.int .i64 n95,.int .i64 n96,.int .i64 n97,.int .i64 n98])) ∧ ∃ n100 n101 n102,S 24 [AV.agg [AV.int .i64 n4,.int .i64 n5,.int .i64 n6,.int .i64 n7,.int .i64 n8,.slc 3 es9,.slc 3 es10,.slc 3 es11,.slc 3 es12,.slc 3 es13],.int .i64 n95,.int .i64 day,.int .i64 1] [] (.tup [AV.agg [AV.int .i64 n100,.int .i64 n101],.int .i64 n102]) [] ∧ ((n89 == 0) = true → ((n102 == 0) = true → ((n87 == n100 && (n88 == n101 && true)) = true → ∃ b110,S 12 [] [] (.bool b110) [] ∧ Q (.bool b110) []) ∧ ((n87 == n100 && (n88 == n101 && true)) = false → Q (.bool false) [])) ∧ ((n102 == 0) = false → Q (.bool false) [])) ∧ ((n89 == 0) = false → Q (.bool false) []))))) ∧ (decide (day ≥ x.Day) = false → ∃ s63 n64 n65 n66 n67 n68 n69 n70,((0:Int) ≤ x.Item ∧ (8:Nat) = (8:Nat) ∧ (List.map TMtItem.av t.Items)[x.Item.toNat]? = some (.agg [AV.str s63,.int .i64 n64,.int .i64 n65,.int .i64 n66,.int .i64 n67,.int .i64 n68,.int .i64 n69,.int .i64 n70])) ∧ ((x.Lamp != n64) = true → ∃ b74,S 12 [] [] (.bool b74) [] ∧ Q (.bool b74) []) ∧ ((x.Lamp != n64) = false → ∃ s74 n75 n76 n77 n78 n79 n80 n81,((0:Int) ≤ x.Item ∧ (8:Nat) = (8:Nat) ∧ (List.map TMtItem.av t.Items)[x.Item.toNat]? = some (.agg [AV.str s74,.int .i64 n75,.int .i64 n76,.int .i64 n77,.int .i64 n78,.int .i64 n79,.int .i64 n80,.int .i64 n81])) ∧ ∃ n83 n84 n85,S 24 [t.av,.int .i64 n78,.int .i64 day,.int .i64 1] [] (.tup [AV.agg [AV.int .i64 n83,.int .i64 n84],.int .i64 n85]) [] ∧ ∃ s87 n88 n89 n90 n91 n92 n93 n94,((0:Int) ≤ x.Item ∧ (8:Nat) = (8:Nat) ∧ (List.map TMtItem.av t.Items)[x.Item.toNat]? = some (.agg [AV.str s87,.int .i64 n88,.int .i64 n89,.int .i64 n90,.int .i64 n91,.int .i64 n92,.int .i64 n93,.int .i64 n94])) ∧ ∃ n96 n97 n98,S 24 [AV.agg [AV.int .i64 n4,.int .i64 n5,.int .i64 n6,.int .i64 n7,.int .i64 n8,.slc 3 es9,.slc 3 es10,.slc 3 es11,.slc 3 es12,.slc 3 es13],.int .i64 n91,.int .i64 day,.int .i64 1] [] (.tup [AV.agg [AV.int .i64 n96,.int .i64 n97],.int .i64 n98]) [] ∧ ((n85 == 0) = true → ((n98 == 0) = true → ((n83 == n96 && (n84 == n97 && true)) = true → ∃ b106,S 12 [] [] (.bool b106) [] ∧ Q (.bool b106) []) ∧ ((n83 == n96 && (n84 == n97 && true)) = false → Q (.bool false) [])) ∧ ((n98 == 0) = false → Q (.bool false) [])) ∧ ((n85 == 0) = false → Q (.bool false) [])))))) ∧ (decide (day < x.Day) = false → (decide (day ≥ x.Day) = true → ((!(n39 == 0 && (n40 == 0 && true))) = true → Q (.bool false) []) ∧ ((!(n39 == 0 && (n40 == 0 && true))) = false → ((!(n43 == n35 && (n44 == n36 && true))) = true → Q (.bool false) []) ∧ ((!(n43 == n35 && (n44 == n36 && true))) = false → ∃ s63 n64 n65 n66 n67 n68 n69 n70,((0:Int) ≤ x.Item ∧ (8:Nat) = (8:Nat) ∧ (List.map TMtItem.av t.Items)[x.Item.toNat]? = some (.agg [AV.str s63,.int .i64 n64,.int .i64 n65,.int .i64 n66,.int .i64 n67,.int .i64 n68,.int .i64 n69,.int .i64 n70])) ∧ ((x.Lamp != n64) = true → ∃ b74,S 12 [] [] (.bool b74) [] ∧ Q (.bool b74) []) ∧ ((x.Lamp != n64) = false → ∃ s74 n75 n76 n77 n78 n79 n80 n81,((0:Int) ≤ x.Item ∧ (8:Nat) = (8:Nat) ∧ (List.map TMtItem.av t.Items)[x.Item.toNat]? = some (.agg [AV.str s74,.int .i64 n75,.int .i64 n76,.int .i64 n77,.int .i64 n78,.int .i64 n79,.int .i64 n80,.int .i64 n81])) ∧ ∃ n83 n84 n85,S 24 [t.av,.int .i64 n78,.int .i64 day,.int .i64 1] [] (.tup [AV.agg [AV.int .i64 n83,.int .i64 n84],.int .i64 n85]) [] ∧ ∃ s87 n88 n89 n90 n91 n92 n93 n94,((0:Int) ≤ x.Item ∧ (8:Nat) = (8:Nat) ∧ (List.map TMtItem.av t.Items)[x.Item.toNat]? = some (.agg [AV.str s87,.int .i64 n88,.int .i64 n89,.int .i64 n90,.int .i64 n91,.int .i64 n92,.int .i64 n93,.int .i64 n94])) ∧ ∃ n96 n97 n98,S 24 [AV.agg [AV.int .i64 n4,.int .i64 n5,.int .i64 n6,.int .i64 n7,.int .i64 n8,.slc 3 es9,.slc 3 es10,.slc 3 es11,.slc 3 es12,.slc 3 es13],.int .i64 n91,.int .i64 day,.int .i64 1] [] (.tup [AV.agg [AV.int .i64 n96,.int .i64 n97],.int .i64 n98]) [] ∧ ((n85 == 0) = true → ((n98 == 0) = true → ((n83 == n96 && (n84 == n97 && true)) = true → ∃ b106,S 12 [] [] (.bool b106) [] ∧ Q (.bool b106) []) ∧ ((n83 == n96 && (n84 == n97 && true)) = false → Q (.bool false) [])) ∧ ((n98 == 0) = false → Q (.bool false) [])) ∧ ((n85 == 0) = false → Q (.bool false) []))))) ∧ (decide (day ≥ x.Day) = false → ∃ s59 n60 n61 n62 n63 n64 n65 n66,((0:Int) ≤ x.Item ∧ (8:Nat) = (8:Nat) ∧ (List.map TMtItem.av t.Items)[x.Item.toNat]? = some (.agg [AV.str s59,.int .i64 n60,.int .i64 n61,.int .i64 n62,.int .i64 n63,.int .i64 n64,.int .i64 n65,.int .i64 n66])) ∧ ((x.Lamp != n60) = true → ∃ b70,S 12 [] [] (.bool b70) [] ∧ Q (.bool b70) []) ∧ ((x.Lamp != n60) = false → ∃ s70 n71 n72 n73 n74 n75 n76 n77,((0:Int) ≤ x.Item ∧ (8:Nat) = (8:Nat) ∧ (List.map TMtItem.av t.Items)[x.Item.toNat]? = some (.agg [AV.str s70,.int .i64 n71,.int .i64 n72,.int .i64 n73,.int .i64 n74,.int .i64 n75,.int .i64 n76,.int .i64 n77])) ∧ ∃ n79 n80 n81,S 24 [t.av,.int .i64 n74,.int .i64 day,.int .i64 1] [] (.tup [AV.agg [AV.int .i64 n79,.int .i64 n80],.int .i64 n81]) [] ∧ ∃ s83 n84 n85 n86 n87 n88 n89 n90,((0:Int) ≤ x.Item ∧ (8:Nat) = (8:Nat) ∧ (List.map TMtItem.av t.Items)[x.Item.toNat]? = some (.agg [AV.str s83,.int .i64 n84,.int .i64 n85,.int .i64 n86,.int .i64 n87,.int .i64 n88,.int .i64 n89,.int .i64 n90])) ∧ ∃ n92 n93 n94,S 24 [AV.agg [AV.int .i64 n4,.int .i64 n5,.int .i64 n6,.int .i64 n7,.int .i64 n8,.slc 3 es9,.slc 3 es10,.slc 3 es11,.slc 3 es12,.slc 3 es13],.int .i64 n87,.int .i64 day,.int .i64 1] [] (.tup [AV.agg [AV.int .i64 n92,.int .i64 n93],.int .i64 n94]) [] ∧ ((n81 == 0) = true → ((n94 == 0) = true → ((n79 == n92 && (n80 == n93 && true)) = true → ∃ b102,S 12 [] [] (.bool b102) [] ∧ Q (.bool b102) []) ∧ ((n79 == n92 && (n80 == n93 && true)) = false → Q (.bool false) [])) ∧ ((n94 == 0) = false → Q (.bool false) [])) ∧ ((n81 == 0) = false → Q (.bool false) []))))))))))))
theorem r9 (t:TMtTask) (x:TNew) (day:Int) (S:SpecF) (Fr:FreshF) (Sq:SeqF) (Q:AV → List (List AV) → Prop):awpF Tryz.prog (mkS Tryz.prog S Fr Sq ⟨[],[],[],[],[]⟩ 0) 0 ⟨[0,1,2,3,4,6,7,8,9,10,11,12,13,14,15,16,17,20,43,68,114,144,154],[],[],[(12,2008000009)]⟩ Tryz.f9 [t.av,x.av,.int .i64 day] [] Q = R9 t x day S Fr Sq Q:=by kernel_rfl
theorem s9 (t:TMtTask) (x:TNew) (day:Int) (v:AV) (O:List (List AV)) (h:R9 t x day (SpecOf Tryz.prog) (FreshOf Tryz.prog) (SeqOf Tryz.prog) (fun r O' => r = v ∧ O' = O)):SpecOf Tryz.prog 9 [t.av,x.av,.int .i64 day] [] v O :=
 spec_by (boxes:=[]) mixed (by exact trivial) Tryz.func9 Tryz.call9 rfl rfl rfl (Nat.le_of_ble_eq_true rfl) (r9 t x day (SpecOf Tryz.prog) (FreshOf Tryz.prog) (SeqOf Tryz.prog) _) h
theorem c9 (t:TMtTask) (ht:t.Ok) (x:TNew) (hx:x.Ok) (day:Int):Sp 9 [t.av,x.av,.int .i64 day] [] (.bool true) []:=s9 t x day _ _ (by
 obtain ⟨hT,_,_,hmn⟩:=taskOK_of ht
 have hi':=items_few ht
 have hname:x.Name.size ≤ 9223372036854775807:=by
  have:=hx.2.2.2
  rw [show maxLen = 9223372036854775807 by rfl] at this; exact this
 unfold R9
 simp only [List.length_map,Nat.zero_add,List.nil_append]
 have aw:∃ b:Bool,Sp 12 [] [] (.bool b) [] ∧ (AV.bool b = .bool true ∧ True):=⟨_,c12,rfl,trivial⟩
 refine ⟨_,c22 t 1 3,fun _ => aw,fun _ => ⟨_,_,_,_,_,_,_,_,_,_,_,c23 t hT (by omega) x.Item x.Day x.Lamp x.Name hname,fun _ => aw,fun h => ?_⟩⟩
 have h:(changeR t x.Item x.Day x.Lamp x.Name).2 = 0:=by simpa using h
 obtain ⟨he,hv,h0,h1⟩:=changeR_ok (by omega) h
 rw [he]
 have hni:=hv.ni
 have hF:=itemS t.Items
 obtain ⟨hg,hm,hxx⟩:=item_get h0 h1
 refine ⟨_,c13 t x.Item,fun _ => aw,fun _ => ⟨hF.1,⟨.inl (by trivial),by omega,fun v hv => (by cases hv),hF.2.2.1,by trivial⟩,⟨h0,h1,by trivial⟩,by rw [hF.2.1]; omega,_,_,_,c10 t hT (by omega) x.Item day,fun _ => aw,fun hE => ?_⟩⟩
 have hE:(energyR t x.Item day).2 = 0:=by simpa using hE
 obtain ⟨k1,k2,k3,k4,k5,k6⟩:=keeps (by omega) h hE
 have hset:=setCells_at (f:=TMtItem.av) (g:=TMtItem.cs) (k:=8) (fun _ => rfl) (fun _ => rfl) (j:=1) (x':=lampItem (itemAt t x.Item) x.Lamp) (v:=.int .i64 x.Lamp) hg (by decide) rfl
 have hlen:(changeT t x.Item x.Day x.Lamp x.Name).Items.length = t.Items.length + 1:=by unfold changeT; simp
 have hTc:=changeT_ok hT h0 h1 (day:=x.Day) (lamp:=x.Lamp) hname
 have hTw:=withT_ok hT h0 h1 (lamp:=x.Lamp)
 have hwl:(withT t x.Item x.Lamp).Items.length = t.Items.length:=by unfold withT; simp
 have q1:=c10 (withT t x.Item x.Lamp) hTw (by omega) x.Item day
 have q2:=c10 (changeT t x.Item x.Day x.Lamp x.Name) hTc (by omega) x.Item day
 have q3:=c10 (changeT t x.Item x.Day x.Lamp x.Name) hTc (by omega) t.Items.length day
 have q4:=c24 t hT (by omega) (by omega) (itemAt t x.Item).Meter day 1 (by decide)
 have q5:=c24 (changeT t x.Item x.Day x.Lamp x.Name) hTc (by omega) (by show t.Meters.length ≤ _; omega) (itemAt t x.Item).Meter day 1 (by decide)
 refine ⟨by rw [hset,(itemS _).2.1,List.length_set]; omega,(withT t x.Item x.Lamp).Items.map TMtItem.av,⟨?_,?_,?_⟩,_,_,_,q1,_,_,_,q2,_,_,_,q3,fun q => ?_,fun _ => ⟨fun q => ?_,fun _ => ⟨fun q => ?_,fun _ => ⟨fun q => ?_,fun _ => ?_⟩⟩⟩⟩
 ·rw [List.length_map]; exact hwl
 ·rw [List.drop_zero,hset]; rfl
 ·rw [agg44]; exact elemsA_map (f:=TMtItem.av) (g:=TMtItem.cs) (fun _ => rfl) (fun _ => rfl) _
 ·rw [k1] at q; cases q
 ·rw [k2] at q; cases q
 ·rw [k3] at q; cases q
 ·rw [List.length_map,hlen,i64 (by omega)] at q; simp at q
 generalize itemAt t x.Item = y at *
 generalize energyR t x.Item day = E0 at *
 generalize energyR (withT t x.Item x.Lamp) x.Item day = E1 at *
 generalize energyR (changeT t x.Item x.Day x.Lamp x.Name) x.Item day = E2 at *
 generalize energyR (changeT t x.Item x.Day x.Lamp x.Name) t.Items.length day = E3 at *
 refine ⟨fun hd => ?_,fun hd => ?_⟩
 ·have hd:=of_decide_eq_true hd
  obtain ⟨e2,e3⟩:=k4 hd
  refine ⟨fun q => ?_,fun _ => ⟨fun q => ?_,fun _ => ⟨fun q => absurd (of_decide_eq_true q) (by omega),fun _ => ?_⟩⟩⟩
  ·rw [e2] at q; simp at q
  ·rw [e3] at q; simp at q
  refine ⟨y.Name,y.Lamp,y.Count,y.Profile,y.Meter,y.Declared,y.From,y.Until,⟨h0,by trivial,hxx⟩,fun _ => aw,fun hl => ?_⟩
  obtain ⟨r1,r2⟩:=k6 (by simpa using hl)
  rw [r2] at q5
  generalize reckonR t y.Meter day 1 = G at *
  exact ⟨y.Name,y.Lamp,y.Count,y.Profile,y.Meter,y.Declared,y.From,y.Until,⟨h0,by trivial,hxx⟩,_,_,_,q4,y.Name,y.Lamp,y.Count,y.Profile,y.Meter,y.Declared,y.From,y.Until,⟨h0,by trivial,hxx⟩,_,_,_,q5,fun _ => ⟨fun _ => ⟨fun _ => aw,fun q => by simp at q⟩,fun q => by rw [r1] at q; cases q⟩,fun q => by rw [r1] at q; cases q⟩
 ·have hd:=of_decide_eq_false hd
  obtain ⟨e2,e3⟩:=k5 hd
  refine ⟨fun _ => ⟨fun q => ?_,fun _ => ⟨fun q => ?_,fun _ => ?_⟩⟩,fun q => absurd (of_decide_eq_false q) (by omega)⟩
  ·rw [e2] at q; simp at q
  ·rw [e3] at q; simp at q
  refine ⟨y.Name,y.Lamp,y.Count,y.Profile,y.Meter,y.Declared,y.From,y.Until,⟨h0,by trivial,hxx⟩,fun _ => aw,fun hl => ?_⟩
  obtain ⟨r1,r2⟩:=k6 (by simpa using hl)
  rw [r2] at q5
  generalize reckonR t y.Meter day 1 = G at *
  exact ⟨y.Name,y.Lamp,y.Count,y.Profile,y.Meter,y.Declared,y.From,y.Until,⟨h0,by trivial,hxx⟩,_,_,_,q4,y.Name,y.Lamp,y.Count,y.Profile,y.Meter,y.Declared,y.From,y.Until,⟨h0,by trivial,hxx⟩,_,_,_,q5,fun _ => ⟨fun _ => ⟨fun _ => aw,fun q => by simp at q⟩,fun q => by rw [r1] at q; cases q⟩,fun q => by rw [r1] at q; cases q⟩)
set_option maxRecDepth 100000 in
theorem lifted (os:Os) (started:os.Started) (H:Type) (enc:TypeId × Value → H) :
  ReturnsInHanded {} Tryz.checked os 9 .any (Rows.meterKeepsSpec.pre6 enc Tryz.prog Tryz.f9 Rows.meterKeepsRow.domain false) (Rows.meterKeepsSpec.post enc Tryz.prog Tryz.f9 false true false false):=by
 refine returnsInHanded_of_change_sized (C:=Tryz.checked) own started (by kernel_rfl) Tryz.func9
  (ChangeSpec.witness6 (enc:=enc) (C:=Tryz.checked) false ⟨#[],#[.agg #[.int .i64 0,.int .i64 0,.int .i64 0,.int .i64 0,.int .i64 0,.slice none 0 0,.slice none 0 0,.slice none 0 0,.slice none 0 0,.slice none 0 0],.agg #[.int .i64 0,.int .i64 0,.int .i64 0,.string (ByteArray.mk #[])],.int .i64 0],[]⟩ 8 (by kernel_rfl) (by kernel_rfl) (by kernel_rfl) (by kernel_rfl)) ?_
 intro W base args ds gs before hval0 hW hcnd hsz _
 have hval:∀ (j:Nat) t v,Tryz.f9.params[j]? = some t → args[j]? = some v → Value.okWide Tryz.prog W .any base t v:=hval0
 have hW':=hW
 obtain ⟨p,q,hA0,hV,rfl,hfz,hnd⟩:=hW
 have hA:DataW.TrodAll enc Tryz.prog W 0 (fun _ => true) true Tryz.f9.params.toList args.toList ds p:=hA0
 rw [psL] at hA
 have hval:∀ (j:Nat) t v,([34,81,3]:List TypeId)[j]? = some t → args.toList[j]? = some v → Value.okWide Tryz.prog W .any base t v:=fun j t v h1 h2 => hval j t v (by rw [← Array.getElem?_toList,psL]; exact h1) (by rw [← Array.getElem?_toList]; exact h2)
 have r:=hA
 obtain ⟨v0,vs0,d0,ds0,p0,q0,hargs,rfl,rfl,h0,r⟩:=trodAll_cons r
 obtain ⟨v1,vs1,d1,ds1,p1,q1,rfl,rfl,rfl,h1,r⟩:=trodAll_cons r
 obtain ⟨v2,vs2,d2,ds2,p2,q2,rfl,rfl,rfl,h2,r⟩:=trodAll_cons r
 obtain ⟨rfl,rfl,rfl⟩:=trodAll_nil r
 obtain rfl:args = #[v0,v1,v2]:=by cases args; simp_all
 obtain ⟨rfl,rfl⟩:=trodVars_none hV
 have lt0:∀ x ∈ p0,x.block < W.heap.size:=by obtain ⟨m,hm⟩:=h0; exact DataW.trod_lt m _ _ _ hm
 obtain ⟨_,a0,c0,e0⟩:=arg_open (D:=8) (by kernel_rfl) h0 (fun n hn => of_decide_eq_true (List.all_eq_true.1 hsz n (DataW.weights_mem_each (j:=0) (t:=34) (by kernel_rfl) rfl n hn))) (hval 0 34 v0 rfl rfl)
 rw [show isAggT Tryz.prog 34 = true by kernel_rfl] at e0
 obtain ⟨t,rfl,ht⟩:=op34 c0
 have lt1:∀ x ∈ p1,x.block < W.heap.size:=by obtain ⟨m,hm⟩:=h1; exact DataW.trod_lt m _ _ _ hm
 obtain ⟨_,a1,c1,e1⟩:=arg_open (D:=8) (by kernel_rfl) h1 (fun n hn => of_decide_eq_true (List.all_eq_true.1 hsz n (DataW.weights_mem_each (j:=1) (t:=81) (by kernel_rfl) rfl n hn))) (hval 1 81 v1 rfl rfl)
 rw [show isAggT Tryz.prog 81 = true by kernel_rfl] at e1
 obtain ⟨x,rfl,hx⟩:=op81 c1
 have lt2:∀ x ∈ p2,x.block < W.heap.size:=by obtain ⟨m,hm⟩:=h2; exact DataW.trod_lt m _ _ _ hm
 obtain ⟨_,a2,c2,e2⟩:=arg_open (D:=8) (by kernel_rfl) h2 (fun n hn => of_decide_eq_true (List.all_eq_true.1 hsz n (DataW.weights_mem_each (j:=2) (t:=3) (by kernel_rfl) rfl n hn))) (hval 2 3 v2 rfl rfl)
 rw [show isAggT Tryz.prog 3 = false by kernel_rfl] at e2
 obtain ⟨n2,rfl,hn2⟩:=cells_int (k:=.i64) (by kernel_rfl) c2
 have hr:Rvs (ofHeap W) none [t.av,x.av,.int .i64 n2] #[v0,v1,v2]:=⟨rfl,fun j => by
  match j with
  | 0 => exact e0
  | 1 => exact e1
  | 2 => exact e2
  | j + 3 => exact .undef ..⟩
 refine (law_calls (c9 t ht x hx n2) hr).mono fun e W' ⟨he,bel⟩ => ?_
 subst he
 exact ⟨_,rfl,_,_,_,[],_,[],hW',trodAll_mk1 (shut_bool un4 _),(trodAll_cons_mk (Below.trod laidOut (by kernel_rfl) (of_decide_eq_true (by kernel_rfl)) h0 bel lt0) (trodAll_cons_mk (Below.trod laidOut (by kernel_rfl) (of_decide_eq_true (by kernel_rfl)) h1 bel lt1) (trodAll_cons_mk (Below.trod laidOut (by kernel_rfl) (of_decide_eq_true (by kernel_rfl)) h2 bel lt2) trodAll_mk0))),rfl,bel.frame _,fun h => by cases h⟩
theorem over:Rows.meterKeepsRow.holds Tryz.pinned (OpenSpec.ofChange Rows.meterKeepsSpec) :=
 OpenClaim.holds_of_wide 9 Tryz.f9 rfl rfl rfl rfl rfl rfl rfl ⟨rfl,rfl,rfl,rfl,rfl⟩ rfl rfl rfl rfl rfl (by kernel_rfl) Tryz.func9 (by kernel_rfl)
  (of_decide_eq_true (by kernel_rfl)) (by unfold Func.isWrapper; first | (rw [if_pos (by decide +kernel)]; kernel_rfl) | (rw [if_neg (by decide +kernel)]; exact ⟨rfl,rfl⟩))
  (fun os started H enc _ => lifted os started H enc)
theorem proved:Rows.MeterKeepsSaid:=over
#print axioms proved
end Go.Proofs.YtblebiafhhhflaaGreat.meterKeepsDone
