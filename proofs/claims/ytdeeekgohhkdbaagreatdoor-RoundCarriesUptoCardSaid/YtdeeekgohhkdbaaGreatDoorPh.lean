/- Contracts: the document's Carry; RoundCarries. -/
import Derived.Test.YtdeeekgohhkdbaaGreatDoorPg
import Derived.Test.YtdeeekgohhkdbaaGreatDoorPd
namespace Go.Proofs.YtdeeekgohhkdbaaGreatDoor
open Go.RowKit
def R94 (l:List Int) (n:Int) (_S:SpecF) (_Fr:FreshF) (_Sq:SeqF) (Q:PostF):Prop :=
 ∃ (I0:Nat → List AV → Prop),(∃ m2,I0 m2 [iN 0]) ∧ ∀ (m2:Nat) (n3:Int),I0 m2 [iN n3] → (decide (n3 < (↑(List.map (AV.int IntKind.i64) l).length:Int)) = true → ∃ n7,((0:Int) ≤ n3 ∧ (1:Nat) = (1:Nat) ∧ (List.map (AV.int IntKind.i64) l)[n3.toNat]? = some (iN n7)) ∧ ((n7 == n) = true → Q (.bool true) []) ∧ ((n7 == n) = false → ∃ k11,k11 < m2 ∧ I0 k11 [iN (IntKind.i64.wrap (n3 + 1))])) ∧ (decide (n3 < (↑(List.map (AV.int IntKind.i64) l).length:Int)) = false → Q (.bool false) [])
theorem s94 (l:List Int) (n:Int) (v:AV) (O:List (List AV)) (h:R94 l n Sp Fo So (fun r O' => r = v ∧ O' = O)):Sp 94 [.slc 3 (List.map (AV.int .i64) l),iN n] [] v O :=
 spec_by (w:=⟨[],[],[],[],[]⟩) (k:=0) (keep:=⟨[0,1,4,5,9,17],[⟨2,[(5,iN 0)],[],[],[],[],[]⟩],[],[]⟩) (boxes:=[]) mixed (by exact trivial) Tryz.func94 Tryz.call94 rfl rfl rfl (Nat.le_of_ble_eq_true rfl) (by kernel_rfl) h
theorem c94 (l:List Int) (n:Int) (hl:l.length ≤ 4611686018427387904):Sp 94 [.slc 3 (intsT l),.int .i64 n] [] (.bool (decide (n ∈ l))) []:=s94 l n _ _ (by
 unfold R94
 refine ⟨fun m vs => ∃ k:Nat,vs = [.int .i64 k] ∧ k ≤ l.length ∧ m = l.length - k ∧ ∀ i,i < k → l.getD i 0 ≠ n,⟨_,0,rfl,by omega,rfl,fun i hi => by omega⟩,?_⟩
 rintro m n3 ⟨k,hk,hkl,rfl,hok⟩
 cases hk
 rw [List.length_map]
 refine ⟨fun h => ?_,fun h => ?_⟩
 ·have hk:k < l.length:=by have:=of_decide_eq_true h; omega
  have ge:=get_of hk
  refine ⟨_,⟨by omega,by trivial,by rw [Int.toNat_natCast,List.getElem?_map,ge]; rfl⟩,fun g => ⟨?_,by trivial⟩,fun g => ⟨_,(by omega:l.length - (k + 1) < l.length - k),k + 1,by rw [i64 (n:=(k:Int) + 1) (by omega)]; rfl,by omega,rfl,fun i hi => ?_⟩⟩
  ·rw [decide_eq_true (by rw [← eq_of_beq g]; exact List.mem_of_getElem? ge)]
  ·by_cases hik:i = k
   ·subst hik; intro he; rw [he] at g; simp at g
   ·exact hok i (by omega)
 ·have hk:k = l.length:=by have:=of_decide_eq_false h; omega
  subst hk
  refine ⟨?_,by trivial⟩
  rw [decide_eq_false]
  intro hm
  obtain ⟨i,hi,he⟩:=List.getElem_of_mem hm
  exact hok i hi (by rw [List.getD_eq_getElem?_getD,List.getElem?_eq_getElem hi]; exact he))
theorem any_drop {α:Type} {f:α → Bool} {S:List α} {j:Nat} (h:j < S.length):(S.drop j).any f = (f S[j] || (S.drop (j + 1)).any f):=by
 rw [List.drop_eq_getElem_cons h,List.any_cons]
theorem flat_drop {f:Int → Bool} {S:List (List Int)} {j:Nat} (h:j < S.length):(S.drop j).flatten.any f = (S[j].any f || (S.drop (j + 1)).flatten.any f):=by
 rw [List.drop_eq_getElem_cons h,List.flatten_cons,List.any_append]
theorem nodup_lenC:∀ (u l:List Int),u.Nodup → (∀ x ∈ u,x ∈ l) → u.length ≤ l.length:=by
 intro u
 induction u with
 | nil => intro l _ _; exact Nat.zero_le _
 | cons a u ih =>
  intro l h hs
  obtain ⟨h1,h2⟩:=List.nodup_cons.1 h
  have ha:=hs a List.mem_cons_self
  have:=ih (l.erase a) h2 fun x hx => (List.mem_erase_of_ne (fun e => h1 (by rw [e] at hx; exact hx))).2 (hs x (List.mem_cons_of_mem _ hx))
  rw [List.length_erase_of_mem ha] at this
  have hp:=List.length_pos_of_mem ha
  rw [List.length_cons]; omega
theorem nodup_ofC:∀ (l u:List Int),u.Nodup → (∀ x ∈ u,x ∈ l) → l.length ≤ u.length → l.Nodup:=by
 intro l
 induction l with
 | nil => intro u _ _ _; exact List.nodup_nil
 | cons a l ih =>
  intro u h hs hl
  rw [List.length_cons] at hl
  by_cases ha:a ∈ l
  ·have:=nodup_lenC u l h fun x hx => (List.mem_cons.1 (hs x hx)).elim (fun e => by rw [e]; exact ha) id
   omega
  ·refine List.nodup_cons.2 ⟨ha,ih (u.erase a) (h.erase a) (fun x hx => ?_) ?_⟩
   ·have hne:x ≠ a:=fun e => (h.not_mem_erase) (by rw [e] at hx; exact hx)
    exact (List.mem_cons.1 (hs x (List.mem_of_mem_erase hx))).elim (fun e => absurd e hne) id
   ·rw [List.length_erase]; split <;> omega
theorem dup_noC {L:List Int} (h:L.Nodup):dupB L = false:=by
 unfold dupB
 have hp:(sortL L).Perm L:=by unfold sortL; exact List.mergeSort_perm L _
 have hn:(sortL L).Nodup:=hp.nodup_iff.2 h
 have ha:(sortL L).Pairwise (· < ·):=by
  have h1:=sortL_asc L
  have:=h1.and hn
  exact this.imp fun ⟨g1,g2⟩ => by omega
 have e:Go.Lib.compact (sortL L) = sortL L:=asc_ext (comp_asc (sortL_asc L)) ha fun x => comp_mem
 rw [e,sortL_len,decide_eq_false (by omega)]
theorem dup_iffC {l:List Int}:dupB l = false ↔ l.Nodup:=by
 refine ⟨fun h => ?_,dup_noC⟩
 unfold dupB at h
 have h:=of_decide_eq_false h
 exact nodup_ofC l _ ((comp_asc (sortL_asc l)).imp fun h => by omega) (fun x hx => sortL_mem.1 (comp_mem.1 hx)) (by omega)
theorem dup_at {l:List Int} {k:Nat} (hk:k < l.length) (h:l[k] ∈ l.take k):dupB l = true:=by
 cases hd:dupB l with
 | true => rfl
 | false =>
  exfalso
  have hn:=dup_iffC.1 hd
  obtain ⟨i,hi,he⟩:=List.getElem_of_mem h
  rw [List.length_take] at hi
  rw [List.getElem_take] at he
  have:=(List.getElem_inj hn).1 he
  omega
theorem dup_none {l:List Int} (h:∀ (k:Nat) (hk:k < l.length),l[k] ∉ l.take k):dupB l = false:=by
 refine dup_iffC.2 ?_
 rw [List.nodup_iff_pairwise_ne,List.pairwise_iff_getElem]
 intro i j hi hj hij he
 exact h j hj (by rw [← he]; exact List.mem_take_iff_getElem.2 ⟨i,by omega,rfl⟩)
def outL (needs sets:List (List Int)) (k:Nat):List Int:=(List.range k).map fun i => mostK needs i sets 0
theorem outL_len (needs sets:List (List Int)) (k:Nat):(outL needs sets k).length = k:=by unfold outL; rw [List.length_map,List.length_range]
theorem outL_next (needs sets:List (List Int)) (k:Nat):outL needs sets (k + 1) = outL needs sets k ++ [mostK needs k sets 0]:=by
 unfold outL; rw [List.range_succ,List.map_append]; rfl
theorem outL_all {needs sets:List (List Int)} (V:CarryV needs sets):outL needs sets (needs.getD 0 []).length = enoughL needs (zeroL needs) sets (zeroL needs):=by
 have hz:(zeroL needs).length = (needs.getD 0 []).length:=by unfold zeroL; rw [List.length_replicate]
 have hl:=enough_len V sets (zeroL needs) (fun s h => h) hz
 refine List.ext_getElem? fun k => ?_
 by_cases hk:k < (needs.getD 0 []).length
 ·have h1:=get_of (l:=outL needs sets (needs.getD 0 []).length) (k:=k) (by rw [outL_len]; exact hk)
  have h2:=get_of (l:=enoughL needs (zeroL needs) sets (zeroL needs)) (k:=k) (by omega)
  rw [h1,h2,enough_get V hk sets (zeroL needs) hz (fun s h => h)]
  have e0:(zeroL needs).getD k 0 = 0:=by unfold zeroL; rw [List.getD_eq_getElem?_getD,List.getElem?_replicate]; split <;> rfl
  rw [e0]
  unfold outL
  rw [List.getD_eq_getElem?_getD,List.getElem?_map,List.getElem?_range hk]; rfl
 ·rw [List.getElem?_eq_none (by rw [outL_len]; omega),List.getElem?_eq_none (by omega)]
theorem mostK_take {needs:List (List Int)} {k:Nat} {S:List (List Int)} {e:Int} {p:Nat} (h:p < S.length):mostK needs k (S.take (p + 1)) e = mostI (mostK needs k (S.take p) e) (sumK needs k S[p] 0):=by
 unfold mostK
 rw [List.take_add_one,List.getElem?_eq_getElem h,List.foldl_append]; rfl
def R36 (needs sets:List (List Int)) (S:SpecF) (_Fr:FreshF) (_Sq:SeqF) (Q:PostF):Prop :=
 (decide ((↑(List.map (fun x => AV.slc 3 (List.map (AV.int IntKind.i64) x)) sets).length:Int) > (200:Int)) = true → Q (.tup [AV.slc 3 [],iN 3]) []) ∧ (decide ((↑(List.map (fun x => AV.slc 3 (List.map (AV.int IntKind.i64) x)) sets).length:Int) > (200:Int)) = false → (decide ((↑(List.map (fun x => AV.slc 3 (List.map (AV.int IntKind.i64) x)) needs).length:Int) > (100:Int)) = true → Q (.tup [AV.slc 3 [],iN 3]) []) ∧ (decide ((↑(List.map (fun x => AV.slc 3 (List.map (AV.int IntKind.i64) x)) needs).length:Int) > (100:Int)) = false → ∃ (I4:Nat → List AV → Prop),(∃ m6,I4 m6 [iN 0]) ∧ ∀ (m6:Nat) (n7:Int),I4 m6 [iN n7] → (decide (n7 < (↑(List.map (fun x => AV.slc 3 (List.map (AV.int IntKind.i64) x)) needs).length:Int)) = true → ∃ es11,((0:Int) ≤ n7 ∧ (1:Nat) = (1:Nat) ∧ (List.map (fun x => AV.slc 3 (List.map (AV.int IntKind.i64) x)) needs)[n7.toNat]? = some (.slc 3 es11)) ∧ ∃ es13,((0:Int) ≤ (0:Int) ∧ (1:Nat) = (1:Nat) ∧ (List.map (fun x => AV.slc 3 (List.map (AV.int IntKind.i64) x)) needs)[(0:Nat)]? = some (.slc 3 es13)) ∧ (((↑es11.length:Int) != (↑es13.length:Int)) = true → Q (.tup [AV.slc 3 [],iN 2]) []) ∧ (((↑es11.length:Int) != (↑es13.length:Int)) = false → ∃ es17,((0:Int) ≤ n7 ∧ (1:Nat) = (1:Nat) ∧ (List.map (fun x => AV.slc 3 (List.map (AV.int IntKind.i64) x)) needs)[n7.toNat]? = some (.slc 3 es17)) ∧ (decide ((↑es17.length:Int) > (4:Int)) = true → Q (.tup [AV.slc 3 [],iN 2]) []) ∧ (decide ((↑es17.length:Int) > (4:Int)) = false → ∃ k21,k21 < m6 ∧ I4 k21 [iN (IntKind.i64.wrap (n7 + 1))]))) ∧ (decide (n7 < (↑(List.map (fun x => AV.slc 3 (List.map (AV.int IntKind.i64) x)) needs).length:Int)) = false → ∃ (I11:Nat → List AV → Prop),(∃ m13,I11 m13 [iN 0]) ∧ ∀ (m13:Nat) (n14:Int),I11 m13 [iN n14] → (decide (n14 < (↑(List.map (fun x => AV.slc 3 (List.map (AV.int IntKind.i64) x)) needs).length:Int)) = true → ∃ (I18:Nat → List AV → Prop),(∃ m20,I18 m20 [iN 0]) ∧ ∀ (m20:Nat) (n21:Int),I18 m20 [iN n21] → ∃ es23,((0:Int) ≤ n14 ∧ (1:Nat) = (1:Nat) ∧ (List.map (fun x => AV.slc 3 (List.map (AV.int IntKind.i64) x)) needs)[n14.toNat]? = some (.slc 3 es23)) ∧ (decide (n21 < (↑es23.length:Int)) = true → ∃ es27,((0:Int) ≤ n14 ∧ (1:Nat) = (1:Nat) ∧ (List.map (fun x => AV.slc 3 (List.map (AV.int IntKind.i64) x)) needs)[n14.toNat]? = some (.slc 3 es27)) ∧ ∃ n29,((0:Int) ≤ n21 ∧ (1:Nat) = (1:Nat) ∧ es27[n21.toNat]? = some (iN n29)) ∧ ∃ b31,S 78 [iN n29,iN 0,iN 20] [] (.bool b31) [] ∧ ((!b31) = true → Q (.tup [AV.slc 3 [],iN 7]) []) ∧ ((!b31) = false → ∃ k35,k35 < m20 ∧ I18 k35 [iN (IntKind.i64.wrap (n21 + 1))])) ∧ (decide (n21 < (↑es23.length:Int)) = false → ∃ k27,k27 < m13 ∧ I11 k27 [iN (IntKind.i64.wrap (n14 + 1))])) ∧ (decide (n14 < (↑(List.map (fun x => AV.slc 3 (List.map (AV.int IntKind.i64) x)) needs).length:Int)) = false → ∃ (I18:Nat → List AV → Prop),(∃ m20,I18 m20 [iN 0]) ∧ ∀ (m20:Nat) (n21:Int),I18 m20 [iN n21] → (decide (n21 < (↑(List.map (fun x => AV.slc 3 (List.map (AV.int IntKind.i64) x)) sets).length:Int)) = true → ∃ (I25:Nat → List AV → Prop),(∃ m27,I25 m27 [iN 0]) ∧ ∀ (m27:Nat) (n28:Int),I25 m27 [iN n28] → ∃ es30,((0:Int) ≤ n21 ∧ (1:Nat) = (1:Nat) ∧ (List.map (fun x => AV.slc 3 (List.map (AV.int IntKind.i64) x)) sets)[n21.toNat]? = some (.slc 3 es30)) ∧ (decide (n28 < (↑es30.length:Int)) = true → ∃ es34,((0:Int) ≤ n21 ∧ (1:Nat) = (1:Nat) ∧ (List.map (fun x => AV.slc 3 (List.map (AV.int IntKind.i64) x)) sets)[n21.toNat]? = some (.slc 3 es34)) ∧ ∃ n36,((0:Int) ≤ n28 ∧ (1:Nat) = (1:Nat) ∧ es34[n28.toNat]? = some (iN n36)) ∧ ∃ b38,S 78 [iN n36,iN 0,iN (IntKind.i64.wrap ((↑(List.map (fun x => AV.slc 3 (List.map (AV.int IntKind.i64) x)) needs).length:Int) - (1:Int)))] [] (.bool b38) [] ∧ ((!b38) = true → Q (.tup [AV.slc 3 [],iN 4]) []) ∧ ((!b38) = false → ∃ k42,k42 < m27 ∧ I25 k42 [iN (IntKind.i64.wrap (n28 + 1))])) ∧ (decide (n28 < (↑es30.length:Int)) = false → ∃ k34,k34 < m20 ∧ I18 k34 [iN (IntKind.i64.wrap (n21 + 1))])) ∧ (decide (n21 < (↑(List.map (fun x => AV.slc 3 (List.map (AV.int IntKind.i64) x)) sets).length:Int)) = false → ∃ (I25:Nat → List AV → Prop),(∃ m27,I25 m27 [iN 0]) ∧ ∀ (m27:Nat) (n28:Int),I25 m27 [iN n28] → (decide (n28 < (↑(List.map (fun x => AV.slc 3 (List.map (AV.int IntKind.i64) x)) sets).length:Int)) = true → ∃ (I32:Nat → List AV → Prop),(∃ m34,I32 m34 [iN 0]) ∧ ∀ (m34:Nat) (n35:Int),I32 m34 [iN n35] → ∃ es37,((0:Int) ≤ n28 ∧ (1:Nat) = (1:Nat) ∧ (List.map (fun x => AV.slc 3 (List.map (AV.int IntKind.i64) x)) sets)[n28.toNat]? = some (.slc 3 es37)) ∧ (decide (n35 < (↑es37.length:Int)) = true → ∃ es41,((0:Int) ≤ n28 ∧ (1:Nat) = (1:Nat) ∧ (List.map (fun x => AV.slc 3 (List.map (AV.int IntKind.i64) x)) sets)[n28.toNat]? = some (.slc 3 es41)) ∧ ((0:Int) ≤ n35 ∧ n35 ≤ (↑es41.length:Int)) ∧ ∃ es44,((0:Int) ≤ n28 ∧ (1:Nat) = (1:Nat) ∧ (List.map (fun x => AV.slc 3 (List.map (AV.int IntKind.i64) x)) sets)[n28.toNat]? = some (.slc 3 es44)) ∧ ∃ n46,((0:Int) ≤ n35 ∧ (1:Nat) = (1:Nat) ∧ es44[n35.toNat]? = some (iN n46)) ∧ ∃ b48,S 94 [AV.slc 3 (List.take n35.toNat es41),iN n46] [] (.bool b48) [] ∧ (b48 = true → Q (.tup [AV.slc 3 [],iN 5]) []) ∧ (b48 = false → ∃ k52,k52 < m34 ∧ I32 k52 [iN (IntKind.i64.wrap (n35 + 1))])) ∧ (decide (n35 < (↑es37.length:Int)) = false → ∃ k41,k41 < m27 ∧ I25 k41 [iN (IntKind.i64.wrap (n28 + 1))])) ∧ (decide (n28 < (↑(List.map (fun x => AV.slc 3 (List.map (AV.int IntKind.i64) x)) sets).length:Int)) = false → (((↑(List.map (fun x => AV.slc 3 (List.map (AV.int IntKind.i64) x)) needs).length:Int) == (0:Int)) = true → Q (.tup [AV.slc 3 [],iN 0]) []) ∧ (((↑(List.map (fun x => AV.slc 3 (List.map (AV.int IntKind.i64) x)) needs).length:Int) == (0:Int)) = false → ∃ (I34:Nat → List AV → Prop),(∃ m36,I34 m36 [iN 0,.slc 3 []]) ∧ ∀ (m36:Nat) (n37:Int) (es38:List AV),I34 m36 [iN n37,.slc 3 es38] → ∃ es40,((0:Int) ≤ (0:Int) ∧ (1:Nat) = (1:Nat) ∧ (List.map (fun x => AV.slc 3 (List.map (AV.int IntKind.i64) x)) needs)[(0:Nat)]? = some (.slc 3 es40)) ∧ (decide (n37 < (↑es40.length:Int)) = true → ∃ (I44:Nat → List AV → Prop),(∃ m46,I44 m46 TEncl.zero.cs) ∧ ∀ (m46:Nat) (n47 n48:Int),I44 m46 [iN n47,iN n48] → (decide (n48 < (↑(List.map (fun x => AV.slc 3 (List.map (AV.int IntKind.i64) x)) sets).length:Int)) = true → ∃ (I52:Nat → List AV → Prop),(∃ m54,I52 m54 TEncl.zero.cs) ∧ ∀ (m54:Nat) (n55 n56:Int),I52 m54 [iN n55,iN n56] → ∃ es58,((0:Int) ≤ n48 ∧ (1:Nat) = (1:Nat) ∧ (List.map (fun x => AV.slc 3 (List.map (AV.int IntKind.i64) x)) sets)[n48.toNat]? = some (.slc 3 es58)) ∧ (decide (n56 < (↑es58.length:Int)) = true → ∃ es62,((0:Int) ≤ n48 ∧ (1:Nat) = (1:Nat) ∧ (List.map (fun x => AV.slc 3 (List.map (AV.int IntKind.i64) x)) sets)[n48.toNat]? = some (.slc 3 es62)) ∧ ∃ n64,((0:Int) ≤ n56 ∧ (1:Nat) = (1:Nat) ∧ es62[n56.toNat]? = some (iN n64)) ∧ ∃ es66,((0:Int) ≤ n64 ∧ (1:Nat) = (1:Nat) ∧ (List.map (fun x => AV.slc 3 (List.map (AV.int IntKind.i64) x)) needs)[n64.toNat]? = some (.slc 3 es66)) ∧ ∃ n68,((0:Int) ≤ n37 ∧ (1:Nat) = (1:Nat) ∧ es66[n37.toNat]? = some (iN n68)) ∧ List.flatMap AV.cells es38 = List.flatMap AV.cells es38 ∧ ∃ k71,k71 < m54 ∧ I52 k71 [iN (IntKind.i64.wrap (n55 + n68)),iN (IntKind.i64.wrap (n56 + 1))]) ∧ (decide (n56 < (↑es58.length:Int)) = false → List.flatMap AV.cells es38 = List.flatMap AV.cells es38 ∧ ∃ k63,k63 < m46 ∧ I44 k63 [iN (if n55 > n47 then n55 else n47),iN (IntKind.i64.wrap (n48 + 1))])) ∧ (decide (n48 < (↑(List.map (fun x => AV.slc 3 (List.map (AV.int IntKind.i64) x)) sets).length:Int)) = false → elemsOf (1:Nat) [iN n47] ∧ ((List.flatMap AV.cells es38).length = es38.length * 1 ∧ (es38.length + 1 + (512:Nat)) * 41 ≤ (1125899906842624:Nat) ∧ ones [iN n47] = true ∧ ones (List.flatMap AV.cells es38) = true) ∧ ∃ es54,(es54.length = es38.length + 1 ∧ List.flatMap AV.cells es54 = List.flatMap AV.cells es38 ++ [iN n47]) ∧ ∃ k56,k56 < m36 ∧ I34 k56 [iN (IntKind.i64.wrap (n37 + 1)),.slc 3 es54])) ∧ (decide (n37 < (↑es40.length:Int)) = false → ((0:Nat) + es38.length * 1 ≤ (List.flatMap AV.cells es38).length ∧ ones (List.flatMap AV.cells es38) = true) ∧ Q (.tup [AV.slc 3 (chunks (1:Nat) (isAggT Tryz.prog (3:Nat)) es38.length (List.drop (0:Nat) (List.flatMap AV.cells es38))),iN 0]) []))))))))
theorem s36 (needs:List (List Int)) (sets:List (List Int)) (v:AV) (O:List (List AV)) (h:R36 needs sets Sp Fo So (fun r O' => r = v ∧ O' = O)):Sp 36 [.slc 3 (List.map (fun x => .slc 3 (List.map (AV.int .i64) x)) needs),.slc 3 (List.map (fun x => .slc 3 (List.map (AV.int .i64) x)) sets)] [] v O :=
 spec_by (w:=⟨[],[],[994000000,94],[],[]⟩) (k:=0) (keep:=⟨[0,1,4,5,6,7,8,9,10,11,12,13,14,15,16,17,18,26,30,50,54,63,74,78,87,101,105,114,130,133,139,145,154],[⟨4,[(6,iN 0)],[],[],[],[],[]⟩,⟨9,[(7,iN 0)],[],[],[],[],[]⟩,⟨12,[(8,iN 0)],[],[],[],[],[]⟩,⟨17,[(9,iN 0)],[],[],[],[],[]⟩,⟨20,[(10,iN 0)],[],[],[],[],[]⟩,⟨25,[(11,iN 0)],[],[],[],[],[]⟩,⟨28,[(12,iN 0)],[],[],[],[],[]⟩,⟨36,[(14,iN 0)],[(13,3)],[],[],[],[]⟩,⟨40,[(15,iN 0),(16,iN 0)],[],[],[],[],[]⟩,⟨44,[(17,iN 0),(18,iN 0)],[],[],[],[],[]⟩],[],[]⟩) (boxes:=[]) mixed (by exact trivial) Tryz.func36 Tryz.call36 rfl rfl rfl (Nat.le_of_ble_eq_true rfl) (by kernel_rfl) h
theorem c36 (needs sets:List (List Int)) (hsm:∀ l ∈ sets,l.length ≤ 17592186043904) (hnm:∀ l ∈ needs,l.length ≤ 17592186043904):Sp 36 [.slc 3 (planA needs),.slc 3 (planA sets)] [] (carrierV needs sets) []:=s36 needs sets _ _ (by
 unfold R36
 rw [List.length_map,List.length_map]
 refine ⟨fun h => ⟨by unfold carrierV carryN; rw [if_pos (by have:=of_decide_eq_true h; omega)]; rfl,by trivial⟩,fun h => ?_⟩
 have h0:¬ sets.length > 200:=by have:=of_decide_eq_false h; omega
 have hE:carryN needs sets = _:=if_neg h0
 refine ⟨fun h => ⟨by unfold carrierV; rw [hE,if_pos (by have:=of_decide_eq_true h; omega)]; rfl,by trivial⟩,fun h => ?_⟩
 have h1:¬ needs.length > 100:=by have:=of_decide_eq_false h; omega
 rw [if_neg h1] at hE
 refine ⟨fun m vs => ∃ j:Nat,vs = [.int .i64 j] ∧ j ≤ needs.length ∧ m = needs.length - j ∧ (needs.drop j).any (otherB needs) = needs.any (otherB needs),⟨_,0,rfl,by omega,rfl,rfl⟩,?_⟩
 rintro m6 n7 ⟨j,hj,hjl,rfl,hq⟩
 cases hj
 refine ⟨fun h => ?_,fun h => ?_⟩
 ·have hj:j < needs.length:=by have:=of_decide_eq_true h; omega
  rw [any_drop hj] at hq
  have hp0:=plan_get (P:=needs) (k:=0) (by omega)
  have e0:needs[0]'(by omega) = needs.getD 0 []:=by rw [List.getD_eq_getElem?_getD,List.getElem?_eq_getElem (by omega)]; rfl
  rw [e0] at hp0
  have hob:otherB needs needs[j] = if needs[j].length ≠ (needs.getD 0 []).length then true else decide ((needs[j].length:Int) > 4):=rfl
  refine ⟨_,⟨by omega,by trivial,plan_get hj⟩,_,⟨by omega,by trivial,hp0⟩,fun g => ⟨?_,by trivial⟩,fun g => ⟨_,⟨by omega,by trivial,plan_get hj⟩,fun g2 => ⟨?_,by trivial⟩,fun g2 => ?_⟩⟩
  ·have g:=bne_iff_ne.1 g
   rw [intsT_len,intsT_len] at g
   rw [if_pos (by omega)] at hob
   rw [hob,Bool.true_or] at hq
   unfold carrierV; rw [hE,if_pos hq.symm]; rfl
  ·rw [bne_eq_false_iff_eq,intsT_len,intsT_len] at g
   rw [intsT_len] at g2
   rw [if_neg (by omega),g2] at hob
   rw [hob,Bool.true_or] at hq
   unfold carrierV; rw [hE,if_pos hq.symm]; rfl
  ·rw [bne_eq_false_iff_eq,intsT_len,intsT_len] at g
   rw [intsT_len] at g2
   rw [if_neg (by omega),g2] at hob
   rw [hob,Bool.false_or] at hq
   exact ⟨_,(by omega:needs.length - (j + 1) < needs.length - j),j + 1,by rw [i64 (n:=(j:Int) + 1) (by omega)]; rfl,by omega,rfl,hq⟩
 have hj:j = needs.length:=by have:=of_decide_eq_false h; omega
 subst hj
 rw [List.drop_length] at hq
 have h2:needs.any (otherB needs) = false:=hq.symm
 rw [if_neg (by rw [h2]; simp)] at hE
 refine ⟨fun m vs => ∃ j:Nat,vs = [.int .i64 j] ∧ j ≤ needs.length ∧ m = needs.length - j ∧ (needs.drop j).flatten.any manyC = needs.flatten.any manyC,⟨_,0,rfl,by omega,rfl,rfl⟩,?_⟩
 rintro m13 n14 ⟨j,hj,hjl,rfl,hq⟩
 cases hj
 refine ⟨fun h => ?_,fun h => ?_⟩
 ·have hj:j < needs.length:=by have:=of_decide_eq_true h; omega
  have hsj:=hnm _ (List.getElem_mem hj)
  rw [flat_drop hj] at hq
  refine ⟨fun m vs => ∃ p:Nat,vs = [.int .i64 p] ∧ p ≤ needs[j].length ∧ m = needs[j].length - p ∧ ((needs[j].drop p).any manyC || (needs.drop (j + 1)).flatten.any manyC) = needs.flatten.any manyC,⟨_,0,rfl,by omega,rfl,hq⟩,?_⟩
  rintro m20 n21 ⟨p,hp,hpl,rfl,hr⟩
  cases hp
  refine ⟨_,⟨by omega,by trivial,plan_get hj⟩,?_⟩
  rw [intsT_len]
  refine ⟨fun h => ?_,fun h => ?_⟩
  ·have hp:p < needs[j].length:=by have:=of_decide_eq_true h; omega
   rw [any_drop hp] at hr
   refine ⟨_,⟨by omega,by trivial,plan_get hj⟩,_,⟨by omega,by trivial,ints_get hp⟩,_,c78 ..,fun g => ⟨?_,by trivial⟩,fun g => ?_⟩
   ·have g:manyC needs[j][p] = true:=by unfold manyC; simpa using g
    rw [g,Bool.true_or,Bool.true_or] at hr
    unfold carrierV; rw [hE,if_pos hr.symm]; rfl
   ·have g:manyC needs[j][p] = false:=by unfold manyC; simpa using g
    rw [g,Bool.false_or] at hr
    exact ⟨_,(by omega:needs[j].length - (p + 1) < needs[j].length - p),p + 1,by rw [i64 (n:=(p:Int) + 1) (by omega)]; rfl,by omega,rfl,hr⟩
  ·have hp:p = needs[j].length:=by have:=of_decide_eq_false h; omega
   subst hp
   rw [List.drop_length] at hr
   exact ⟨_,(by omega:needs.length - (j + 1) < needs.length - j),j + 1,by rw [i64 (n:=(j:Int) + 1) (by omega)]; rfl,by omega,rfl,hr⟩
 have hj:j = needs.length:=by have:=of_decide_eq_false h; omega
 subst hj
 rw [List.drop_length] at hq
 have h3:needs.flatten.any manyC = false:=hq.symm
 rw [if_neg (by rw [h3]; simp)] at hE
 refine ⟨fun m vs => ∃ j:Nat,vs = [.int .i64 j] ∧ j ≤ sets.length ∧ m = sets.length - j ∧ (sets.drop j).flatten.any (noneC needs) = sets.flatten.any (noneC needs),⟨_,0,rfl,by omega,rfl,rfl⟩,?_⟩
 rintro m20 n21 ⟨j,hj,hjl,rfl,hq⟩
 cases hj
 refine ⟨fun h => ?_,fun h => ?_⟩
 ·have hj:j < sets.length:=by have:=of_decide_eq_true h; omega
  have hsj:=hsm _ (List.getElem_mem hj)
  rw [flat_drop hj] at hq
  refine ⟨fun m vs => ∃ p:Nat,vs = [.int .i64 p] ∧ p ≤ sets[j].length ∧ m = sets[j].length - p ∧ ((sets[j].drop p).any (noneC needs) || (sets.drop (j + 1)).flatten.any (noneC needs)) = sets.flatten.any (noneC needs),⟨_,0,rfl,by omega,rfl,hq⟩,?_⟩
  rintro m27 n28 ⟨p,hp,hpl,rfl,hr⟩
  cases hp
  refine ⟨_,⟨by omega,by trivial,plan_get hj⟩,?_⟩
  rw [intsT_len]
  refine ⟨fun h => ?_,fun h => ?_⟩
  ·have hp:p < sets[j].length:=by have:=of_decide_eq_true h; omega
   rw [any_drop hp] at hr
   refine ⟨_,⟨by omega,by trivial,plan_get hj⟩,_,⟨by omega,by trivial,ints_get hp⟩,_,c78 ..,fun g => ⟨?_,by trivial⟩,fun g => ?_⟩
   ·have g:noneC needs sets[j][p] = true:=by unfold noneC; simpa using g
    rw [g,Bool.true_or,Bool.true_or] at hr
    unfold carrierV; rw [hE,if_pos hr.symm]; rfl
   ·have g:noneC needs sets[j][p] = false:=by unfold noneC; simpa using g
    rw [g,Bool.false_or] at hr
    exact ⟨_,(by omega:sets[j].length - (p + 1) < sets[j].length - p),p + 1,by rw [i64 (n:=(p:Int) + 1) (by omega)]; rfl,by omega,rfl,hr⟩
  ·have hp:p = sets[j].length:=by have:=of_decide_eq_false h; omega
   subst hp
   rw [List.drop_length] at hr
   exact ⟨_,(by omega:sets.length - (j + 1) < sets.length - j),j + 1,by rw [i64 (n:=(j:Int) + 1) (by omega)]; rfl,by omega,rfl,hr⟩
 have hj:j = sets.length:=by have:=of_decide_eq_false h; omega
 subst hj
 rw [List.drop_length] at hq
 have h4:sets.flatten.any (noneC needs) = false:=hq.symm
 rw [if_neg (by rw [h4]; simp)] at hE
 refine ⟨fun m vs => ∃ j:Nat,vs = [.int .i64 j] ∧ j ≤ sets.length ∧ m = sets.length - j ∧ (sets.drop j).any dupB = sets.any dupB,⟨_,0,rfl,by omega,rfl,rfl⟩,?_⟩
 rintro m27 n28 ⟨j,hj,hjl,rfl,hq⟩
 cases hj
 refine ⟨fun h => ?_,fun h => ?_⟩
 ·have hj:j < sets.length:=by have:=of_decide_eq_true h; omega
  have hsj:=hsm _ (List.getElem_mem hj)
  rw [any_drop hj] at hq
  refine ⟨fun m vs => ∃ p:Nat,vs = [.int .i64 p] ∧ p ≤ sets[j].length ∧ m = sets[j].length - p ∧ ∀ (k:Nat) (hk:k < sets[j].length),k < p → sets[j][k] ∉ sets[j].take k,⟨_,0,rfl,by omega,rfl,fun k hk h => by omega⟩,?_⟩
  rintro m34 n35 ⟨p,hp,hpl,rfl,hr⟩
  cases hp
  refine ⟨_,⟨by omega,by trivial,plan_get hj⟩,?_⟩
  rw [intsT_len]
  refine ⟨fun h => ?_,fun h => ?_⟩
  ·have hp:p < sets[j].length:=by have:=of_decide_eq_true h; omega
   have htk:List.take ((p:Nat):Int).toNat (intsT sets[j]) = intsT (sets[j].take p):=by unfold intsT; rw [Int.toNat_natCast,List.map_take]
   refine ⟨_,⟨by omega,by trivial,plan_get hj⟩,⟨by omega,by rw [intsT_len]; omega⟩,_,⟨by omega,by trivial,plan_get hj⟩,_,⟨by omega,by trivial,ints_get hp⟩,?_⟩
   rw [htk]
   refine ⟨_,c94 (sets[j].take p) sets[j][p] (by rw [List.length_take]; omega),fun g => ⟨?_,by trivial⟩,fun g => ⟨_,(by omega:sets[j].length - (p + 1) < sets[j].length - p),p + 1,by rw [i64 (n:=(p:Int) + 1) (by omega)]; rfl,by omega,rfl,fun k hk hkp => ?_⟩⟩
   ·rw [dup_at hp (of_decide_eq_true g),Bool.true_or] at hq
    unfold carrierV; rw [hE,if_pos hq.symm]; rfl
   ·by_cases hkk:k = p
    ·subst hkk; exact of_decide_eq_false g
    ·exact hr k hk (by omega)
  ·have hp:p = sets[j].length:=by have:=of_decide_eq_false h; omega
   subst hp
   rw [dup_none fun k hk => hr k hk hk,Bool.false_or] at hq
   exact ⟨_,(by omega:sets.length - (j + 1) < sets.length - j),j + 1,by rw [i64 (n:=(j:Int) + 1) (by omega)]; rfl,by omega,rfl,hq⟩
 have hj:j = sets.length:=by have:=of_decide_eq_false h; omega
 subst hj
 rw [List.drop_length] at hq
 have h5:sets.any dupB = false:=hq.symm
 rw [if_neg (by rw [h5]; simp)] at hE
 refine ⟨fun h => ⟨by unfold carrierV; rw [hE,if_pos (by have:=eq_of_beq h; omega)]; rfl,by trivial⟩,fun h => ?_⟩
 have h6:needs.length ≠ 0:=by
  intro h'
  rw [h'] at h; simp at h
 rw [if_neg h6] at hE
 have V:=carry_v h0 h1 h2 h3 h4 h5 h6
 have hfour:=V.four
 have hp0:=plan_get (P:=needs) (k:=0) (by omega)
 have e0:needs[0]'(by omega) = needs.getD 0 []:=by rw [List.getD_eq_getElem?_getD,List.getElem?_eq_getElem (by omega)]; rfl
 rw [e0] at hp0
 refine ⟨fun m vs => ∃ k:Nat,vs = [.int .i64 k,.slc 3 (intsT (outL needs sets k))] ∧ k ≤ (needs.getD 0 []).length ∧ m = (needs.getD 0 []).length - k,⟨_,0,rfl,by omega,rfl⟩,?_⟩
 rintro m36 n37 es38 ⟨k,hk,hkl,rfl⟩
 cases hk
 refine ⟨_,⟨by omega,by trivial,hp0⟩,?_⟩
 rw [intsT_len]
 have hfl:List.flatMap AV.cells (intsT (outL needs sets k)) = intsT (outL needs sets k):=flat1 ints_cells
 refine ⟨fun h => ?_,fun h => ?_⟩
 ·have hk:k < (needs.getD 0 []).length:=by have:=of_decide_eq_true h; omega
  refine ⟨fun m vs => ∃ j:Nat,vs = [.int .i64 (mostK needs k (sets.take j) 0),.int .i64 j] ∧ j ≤ sets.length ∧ m = sets.length - j,⟨_,0,rfl,by omega,rfl⟩,?_⟩
  rintro m46 n47 n48 ⟨j,hj,hjl,rfl⟩
  cases hj
  refine ⟨fun h => ?_,fun h => ?_⟩
  ·have hj:j < sets.length:=by have:=of_decide_eq_true h; omega
   have hset:=V.one _ (List.getElem_mem hj)
   have hsj:=hsm _ (List.getElem_mem hj)
   refine ⟨fun m vs => ∃ p:Nat,vs = [.int .i64 (sumK needs k (sets[j].take p) 0),.int .i64 p] ∧ p ≤ sets[j].length ∧ m = sets[j].length - p,⟨_,0,rfl,by omega,rfl⟩,?_⟩
   rintro m54 n55 n56 ⟨p,hp',hpl,rfl⟩
   cases hp'
   refine ⟨_,⟨by omega,by trivial,plan_get hj⟩,?_⟩
   rw [intsT_len]
   refine ⟨fun h => ?_,fun h => ?_⟩
   ·have hp':p < sets[j].length:=by have:=of_decide_eq_true h; omega
    obtain ⟨x0,x1⟩:=hset _ (List.getElem_mem hp')
    obtain ⟨g1,g2,g3⟩:=V.need x0 x1
    have g1':(planA needs)[(sets[j][p]).toNat]? = some (.slc 3 (intsT (needAt needs sets[j][p]))):=by unfold planA; rw [List.getElem?_map,g1]; rfl
    have qb:=get_of (l:=needAt needs sets[j][p]) (k:=k) (by omega)
    have qb':(intsT (needAt needs sets[j][p]))[((k:Nat):Int).toNat]? = some (.int .i64 ((needAt needs sets[j][p]).getD k 0)):=by unfold intsT; rw [Int.toNat_natCast,List.getElem?_map,qb]; rfl
    refine ⟨_,⟨by omega,by trivial,plan_get hj⟩,_,⟨by omega,by trivial,ints_get hp'⟩,_,⟨x0,by trivial,g1'⟩,_,⟨by omega,by trivial,qb'⟩,rfl,sets[j].length - (p + 1),by omega,p + 1,?_,by omega,rfl⟩
    rw [sumK_take hp',i64 (n:=(p:Int) + 1) (by omega)]; rfl
   ·have hp':p = sets[j].length:=by have:=of_decide_eq_false h; omega
    subst hp'
    rw [List.take_length]
    refine ⟨rfl,sets.length - (j + 1),by omega,j + 1,?_,by omega,rfl⟩
    rw [mostK_take hj,i64 (n:=(j:Int) + 1) (by omega)]; rfl
  ·have hj:j = sets.length:=by have:=of_decide_eq_false h; omega
   subst hj
   rw [List.take_length,hfl,intsT_len,outL_len]
   refine ⟨fun v hv => by rw [List.mem_singleton.1 hv]; rfl,⟨by omega,by omega,rfl,ints_ones _⟩,intsT (outL needs sets (k + 1)),⟨by rw [intsT_len,outL_len],by rw [flat1 ints_cells,outL_next,intsT_append]; rfl⟩,(needs.getD 0 []).length - (k + 1),by omega,k + 1,?_,by omega,rfl⟩
   rw [i64 (n:=(k:Int) + 1) (by omega)]; rfl
 ·have hk:k = (needs.getD 0 []).length:=by have:=of_decide_eq_false h; omega
  subst hk
  rw [hfl]
  refine ⟨⟨by omega,ints_ones _⟩,?_,by trivial⟩
  rw [outL_all V]
  unfold carrierV
  rw [hE]
  have hch:chunks 1 (isAggT Tryz.prog 3) (intsT (enoughL needs (zeroL needs) sets (zeroL needs))).length (List.drop 0 (intsT (enoughL needs (zeroL needs) sets (zeroL needs)))) = intsT (enoughL needs (zeroL needs) sets (zeroL needs)):=by
   rw [agg3,List.drop_zero]
   show (intsT (enoughL needs (zeroL needs) sets (zeroL needs))).take _ = _
   rw [List.take_length]
  exact congrArg (fun z => AV.tup [.slc 3 z,.int .i64 0]) hch)
def R11 (needs sets:List (List Int)) (S:SpecF) (_Fr:FreshF) (_Sq:SeqF) (Q:PostF):Prop :=
 ∃ es0 n1,S 35 [AV.slc 3 (List.map (fun x => AV.slc 3 (List.map (AV.int IntKind.i64) x)) needs),.slc 3 (List.map (fun x => AV.slc 3 (List.map (AV.int IntKind.i64) x)) sets)] [] (.tup [AV.slc 3 es0,iN n1]) [] ∧ ∃ es3 n4,S 36 [AV.slc 3 (List.map (fun x => AV.slc 3 (List.map (AV.int IntKind.i64) x)) needs),.slc 3 (List.map (fun x => AV.slc 3 (List.map (AV.int IntKind.i64) x)) sets)] [] (.tup [AV.slc 3 es3,iN n4]) [] ∧ ∃ b6,S 32 [AV.slc 3 es0,.slc 3 es3] [] (.bool b6) [] ∧ (b6 = true → ((n1 == n4) = true → ∃ b12,S 17 [] [] (.bool b12) [] ∧ Q (.bool b12) []) ∧ ((n1 == n4) = false → Q (.bool false) [])) ∧ (b6 = false → Q (.bool false) [])
theorem s11 (needs:List (List Int)) (sets:List (List Int)) (v:AV) (O:List (List AV)) (h:R11 needs sets Sp Fo So (fun r O' => r = v ∧ O' = O)):Sp 11 [.slc 3 (List.map (fun x => .slc 3 (List.map (AV.int .i64) x)) needs),.slc 3 (List.map (fun x => .slc 3 (List.map (AV.int .i64) x)) sets)] [] v O :=
 spec_by (w:=⟨[],[],[],[],[]⟩) (k:=0) (keep:=⟨[0,1,4,5,6,7,8],[],[],[]⟩) (boxes:=[]) mixed (by exact trivial) Tryz.func11 Tryz.call11 rfl rfl rfl (Nat.le_of_ble_eq_true rfl) (by kernel_rfl) h
theorem c11 (needs sets:List (List Int)) (hs:sets.length + sets.flatten.length ≤ 1048576) (hn:needs.length + needs.flatten.length ≤ 1048576):Sp 11 [.slc 3 (planA needs),.slc 3 (planA sets)] [] (.bool true) []:=s11 needs sets _ _ (by
 have small:∀ {P:List (List Int)},P.length + P.flatten.length ≤ 1048576 → ∀ l ∈ P,l.length ≤ 17592186043904:=fun {P} hP l hl => by
  obtain ⟨i,hi,rfl⟩:=List.getElem_of_mem hl
  have h1:=flat_step hi
  have h2:=flat_le (P:=P) (i + 1)
  rw [h1,List.length_append] at h2
  omega
 unfold R11
 have awake:∃ b:Bool,Sp 17 [] [] (.bool b) [] ∧ (AV.bool b = .bool true ∧ ([]:List (List AV)) = []):=⟨_,awake_ok,rfl,rfl⟩
 have hl:(carryN needs sets).1.length ≤ 4611686018427387904:=by
  by_cases hz:(carryN needs sets).2 = 0
  ·rcases carry_zero hz with ⟨_,h1⟩ | ⟨_,V,hE⟩
   ·rw [h1]; exact Nat.zero_le _
   ·have h4:=V.four
    have:=enough_len V sets (zeroL needs) (fun s h => h) (by unfold zeroL; rw [List.length_replicate])
    rw [hE]
    show (enoughL needs (zeroL needs) sets (zeroL needs)).length ≤ _
    omega
  ·rw [carry_bad hz]; exact Nat.zero_le _
 refine ⟨_,_,c35 needs sets hs hn,_,_,c36 needs sets (small hs) (small hn),_,c32 _ _ hl,fun _ => ⟨fun _ => awake,fun h => absurd h (by simp)⟩,fun h => ?_⟩
 exact absurd (of_decide_eq_false h) (by simp))
end Go.Proofs.YtdeeekgohhkdbaaGreatDoor
