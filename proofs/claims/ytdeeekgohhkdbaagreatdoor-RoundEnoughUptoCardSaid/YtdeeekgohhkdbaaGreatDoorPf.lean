/- Contracts: parts for a diagnosis. -/
import Derived.Test.YtdeeekgohhkdbaaGreatDoorPe
namespace Go.Proofs.YtdeeekgohhkdbaaGreatDoor
open Go.RowKit
def addI (a b:Int):Int:=IntKind.i64.wrap (a + b)
def mostI (a b:Int):Int:=if b > a then b else a
def needAt (needs:List (List Int)) (n:Int):List Int:=needs.getD n.toNat []
def sumL (needs:List (List Int)) (z set:List Int):List Int:=set.foldl (fun a n => List.zipWith addI a (needAt needs n)) z
def enoughL (needs:List (List Int)) (z:List Int) (sets:List (List Int)) (e:List Int):List Int:=sets.foldl (fun e s => List.zipWith mostI e (sumL needs z s)) e
def zeroL (needs:List (List Int)):List Int:=List.replicate (needs.getD 0 []).length 0
def carryN (needs sets:List (List Int)):List Int × Int :=
 if sets.length > 200 then ([],3) else if needs.length > 100 then ([],3) else if needs.any (otherB needs) then ([],2) else if needs.flatten.any manyC then ([],7) else if sets.flatten.any (noneC needs) then ([],4) else if sets.any dupB then ([],5) else
 if needs.length = 0 then ([],0) else (enoughL needs (zeroL needs) sets (zeroL needs),0)
structure CarryV (needs sets:List (List Int)):Prop where
 same:∀ l ∈ needs,l.length = (needs.getD 0 []).length
 four:(needs.getD 0 []).length ≤ 4
 hundred:needs.length ≤ 100
 many:∀ l ∈ needs,∀ n ∈ l,0 ≤ n ∧ n ≤ 20
 sl:sets.length ≤ 200
 one:∀ s ∈ sets,∀ n ∈ s,0 ≤ n ∧ n < needs.length
 dup:∀ s ∈ sets,dupB s = false
theorem carry_v {needs sets:List (List Int)} (h0:¬ sets.length > 200) (h1:¬ needs.length > 100) (h2:needs.any (otherB needs) = false) (h3:needs.flatten.any manyC = false) (h4:sets.flatten.any (noneC needs) = false) (h5:sets.any dupB = false) (h6:needs.length ≠ 0):CarryV needs sets:=by
 have other:∀ l ∈ needs,l.length = (needs.getD 0 []).length ∧ l.length ≤ 4:=fun l hl => by
  have:=List.any_eq_false.1 h2 l hl
  unfold otherB at this
  by_cases he:l.length ≠ (needs.getD 0 []).length
  ·rw [if_pos he] at this; exact absurd rfl this
  ·rw [if_neg he] at this
   have:(l.length:Int) ≤ 4:=by simpa using this
   exact ⟨by omega,by omega⟩
 have h0':needs.getD 0 [] ∈ needs:=by
  rw [List.getD_eq_getElem?_getD,List.getElem?_eq_getElem (show 0 < needs.length by omega)]
  exact List.getElem_mem _
 refine ⟨fun l hl => (other l hl).1,(other _ h0').2,by omega,fun l hl n hn => ?_,by omega,fun s hs n hn => ?_,fun s hs => by simpa using List.any_eq_false.1 h5 s hs⟩
 ·have:=List.any_eq_false.1 h3 n (List.mem_flatten.2 ⟨l,hl,hn⟩)
  unfold manyC at this
  exact outB_false.1 (by simpa using this)
 ·have:=List.any_eq_false.1 h4 n (List.mem_flatten.2 ⟨s,hs,hn⟩)
  unfold noneC at this
  rw [i64 (by omega)] at this
  have:=outB_false.1 (by simpa using this)
  omega
theorem CarryV.need {needs sets:List (List Int)} (h:CarryV needs sets) {n:Int} (h0:0 ≤ n) (h1:n < needs.length):needs[n.toNat]? = some (needAt needs n) ∧ needAt needs n ∈ needs ∧ (needAt needs n).length = (needs.getD 0 []).length:=by
 have hl:n.toNat < needs.length:=by omega
 have e:needAt needs n = needs[n.toNat]:=by unfold needAt; rw [List.getD_eq_getElem?_getD,List.getElem?_eq_getElem hl]; rfl
 rw [e]
 exact ⟨List.getElem?_eq_getElem hl,List.getElem_mem hl,h.same _ (List.getElem_mem hl)⟩
theorem sum_len {needs sets:List (List Int)} (h:CarryV needs sets) {z:List Int} (hz:z.length = (needs.getD 0 []).length):∀ s:List Int,(∀ n ∈ s,0 ≤ n ∧ n < needs.length) → (sumL needs z s).length = (needs.getD 0 []).length:=by
 intro s
 induction s generalizing z with
 | nil => intro _; exact hz
 | cons n s ih =>
  intro hs
  obtain ⟨n0,n1⟩:=hs n List.mem_cons_self
  have:=(h.need n0 n1).2.2
  exact ih (by rw [List.length_zipWith]; omega) fun m hm => hs m (List.mem_cons_of_mem _ hm)
theorem enough_len {needs sets:List (List Int)} (h:CarryV needs sets):∀ (S:List (List Int)) (e:List Int),(∀ s ∈ S,s ∈ sets) → e.length = (needs.getD 0 []).length → (enoughL needs (zeroL needs) S e).length = (needs.getD 0 []).length:=by
 intro S
 induction S with
 | nil => intro e _ he; exact he
 | cons s S ih =>
  intro e hS he
  have:=sum_len h (z:=zeroL needs) (by unfold zeroL; rw [List.length_replicate]) s (h.one s (hS s List.mem_cons_self))
  exact ih _ (fun m hm => hS m (List.mem_cons_of_mem _ hm)) (by rw [List.length_zipWith]; omega)
theorem sum_take {needs:List (List Int)} {z s:List Int} {p:Nat} (h:p < s.length):sumL needs z (s.take (p + 1)) = List.zipWith addI (sumL needs z (s.take p)) (needAt needs s[p]):=by
 unfold sumL
 rw [List.take_add_one,List.getElem?_eq_getElem h,List.foldl_append]; rfl
theorem enough_take {needs:List (List Int)} {z:List Int} {S:List (List Int)} {e:List Int} {p:Nat} (h:p < S.length):enoughL needs z (S.take (p + 1)) e = List.zipWith mostI (enoughL needs z (S.take p) e) (sumL needs z S[p]):=by
 unfold enoughL
 rw [List.take_add_one,List.getElem?_eq_getElem h,List.foldl_append]; rfl
theorem get_of {l:List Int} {k:Nat} (h:k < l.length):l[k]? = some (l.getD k 0):=by rw [List.getD_eq_getElem?_getD,List.getElem?_eq_getElem h]; rfl
def carrierV (needs sets:List (List Int)):AV:=.tup [.slc 3 (intsT (carryN needs sets).1),.int .i64 (carryN needs sets).2]
def R35 (needs sets:List (List Int)) (S:SpecF) (_Fr:FreshF) (_Sq:SeqF) (Q:PostF):Prop :=
 ∃ es0,S 88 [AV.slc 3 (List.map (fun x => AV.slc 3 (List.map (AV.int IntKind.i64) x)) sets)] [] (.slc 3 es0) [] ∧ (decide ((↑(List.map (fun x => AV.slc 3 (List.map (AV.int IntKind.i64) x)) sets).length:Int) > (200:Int)) = true → Q (.tup [AV.slc 3 [],iN 3]) []) ∧ (decide ((↑(List.map (fun x => AV.slc 3 (List.map (AV.int IntKind.i64) x)) sets).length:Int) > (200:Int)) = false → (decide ((↑(List.map (fun x => AV.slc 3 (List.map (AV.int IntKind.i64) x)) needs).length:Int) > (100:Int)) = true → Q (.tup [AV.slc 3 [],iN 3]) []) ∧ (decide ((↑(List.map (fun x => AV.slc 3 (List.map (AV.int IntKind.i64) x)) needs).length:Int) > (100:Int)) = false → ∃ b6,S 93 [AV.slc 3 (List.map (fun x => AV.slc 3 (List.map (AV.int IntKind.i64) x)) needs),AV.fn (90:Nat) [] [AV.ref 0 0]] [[AV.slc 3 (List.map (fun x => AV.slc 3 (List.map (AV.int IntKind.i64) x)) needs)]] (.bool b6) [[AV.slc 3 (List.map (fun x => AV.slc 3 (List.map (AV.int IntKind.i64) x)) needs)]] ∧ (b6 = true → Q (.tup [AV.slc 3 [],iN 2]) []) ∧ (b6 = false → ∃ es10,S 88 [AV.slc 3 (List.map (fun x => AV.slc 3 (List.map (AV.int IntKind.i64) x)) needs)] [] (.slc 3 es10) [] ∧ ∃ b12,S 73 [AV.slc 3 es10,AV.fn (91:Nat) [] []] [] (.bool b12) [] ∧ (b12 = true → Q (.tup [AV.slc 3 [],iN 7]) []) ∧ (b12 = false → ∃ b16,S 73 [AV.slc 3 es0,AV.fn (89:Nat) [] [AV.ref 0 0]] [[AV.slc 3 (List.map (fun x => AV.slc 3 (List.map (AV.int IntKind.i64) x)) needs)]] (.bool b16) [[AV.slc 3 (List.map (fun x => AV.slc 3 (List.map (AV.int IntKind.i64) x)) needs)]] ∧ (b16 = true → Q (.tup [AV.slc 3 [],iN 4]) []) ∧ (b16 = false → ∃ b20,S 93 [AV.slc 3 (List.map (fun x => AV.slc 3 (List.map (AV.int IntKind.i64) x)) sets),AV.fn (92:Nat) [] []] [] (.bool b20) [] ∧ (b20 = true → Q (.tup [AV.slc 3 [],iN 5]) []) ∧ (b20 = false → (((↑(List.map (fun x => AV.slc 3 (List.map (AV.int IntKind.i64) x)) needs).length:Int) == (0:Int)) = true → Q (.tup [AV.slc 3 [],iN 0]) []) ∧ (((↑(List.map (fun x => AV.slc 3 (List.map (AV.int IntKind.i64) x)) needs).length:Int) == (0:Int)) = false → ∃ es26,((0:Int) ≤ (0:Int) ∧ (1:Nat) = (1:Nat) ∧ (List.map (fun x => AV.slc 3 (List.map (AV.int IntKind.i64) x)) needs)[(0:Nat)]? = some (.slc 3 es26)) ∧ ((0:Int) ≤ (↑es26.length:Int) ∧ (↑es26.length:Int) ≤ (↑es26.length:Int) ∧ ((↑es26.length:Int) + (1:Int)) * 9 ≤ (281474976710656:Int)) ∧ ∃ (I29:Nat → List AV → Prop),(∃ m31,I29 m31 [iN 0,.agg (AV.normL (List.replicate (↑es26.length:Int).toNat [iN 0]).flatten)]) ∧ ∀ (m31:Nat) (n32:Int) (cs33:List AV),I29 m31 [iN n32,.agg cs33] → (decide (n32 < (↑(List.map (fun x => AV.slc 3 (List.map (AV.int IntKind.i64) x)) sets).length:Int)) = true → ∃ es37,((0:Int) ≤ n32 ∧ (1:Nat) = (1:Nat) ∧ (List.map (fun x => AV.slc 3 (List.map (AV.int IntKind.i64) x)) sets)[n32.toNat]? = some (.slc 3 es37)) ∧ ((0:Int) ≤ (↑(↑es26.length:Int).toNat:Int) ∧ (↑(↑es26.length:Int).toNat:Int) ≤ (↑(↑es26.length:Int).toNat:Int) ∧ ((↑(↑es26.length:Int).toNat:Int) + (1:Int)) * 9 ≤ (281474976710656:Int)) ∧ ∃ (I40:Nat → List AV → Prop),(∃ m42,I40 m42 [iN 0,.agg (AV.normL (List.replicate (↑(↑es26.length:Int).toNat:Int).toNat [iN 0]).flatten)]) ∧ ∀ (m42:Nat) (n43:Int) (cs44:List AV),I40 m42 [iN n43,.agg cs44] → (decide (n43 < (↑es37.length:Int)) = true → ∃ n48,((0:Int) ≤ n43 ∧ (1:Nat) = (1:Nat) ∧ es37[n43.toNat]? = some (iN n48)) ∧ ∃ es50,((0:Int) ≤ n48 ∧ (1:Nat) = (1:Nat) ∧ (List.map (fun x => AV.slc 3 (List.map (AV.int IntKind.i64) x)) needs)[n48.toNat]? = some (.slc 3 es50)) ∧ ∃ (I52:Nat → List AV → Prop),(∃ m54,I52 m54 [iN 0,.agg (AV.normL (AV.agg cs44).cells)]) ∧ ∀ (m54:Nat) (n55:Int) (cs56:List AV),I52 m54 [iN n55,.agg cs56] → (decide (n55 < (↑es50.length:Int)) = true → ∃ n60,((0:Int) ≤ n55 ∧ (1:Nat) = (1:Nat) ∧ es50[n55.toNat]? = some (iN n60)) ∧ ((0:Int) ≤ n55 ∧ n55 < (↑(↑(↑es26.length:Int).toNat:Int).toNat:Int) ∧ (1:Nat) = (1:Nat)) ∧ ∃ n63,Option.map AV.norm (partA Tryz.prog (3:Nat) (AV.agg cs56).cells ((0:Nat) + n55.toNat * 1)) = some (iN n63) ∧ ((0:Int) ≤ n55 ∧ n55 < (↑(↑(↑es26.length:Int).toNat:Int).toNat:Int) ∧ (1:Nat) = (1:Nat)) ∧ (0:Nat) + n55.toNat * 1 + (1:Nat) ≤ (AV.agg cs56).cells.length ∧ Same [AV.slc 3 (List.map (fun x => AV.slc 3 (List.map (AV.int IntKind.i64) x)) needs)] ∧ (AV.agg cs33).cells = (AV.agg cs33).cells ∧ ∃ k69,k69 < m54 ∧ I52 k69 [iN (IntKind.i64.wrap (n55 + 1)),.agg (AV.normL (setCells (AV.agg cs56).cells ((0:Nat) + n55.toNat * 1) [iN (IntKind.i64.wrap (n63 + n60))]))]) ∧ (decide (n55 < (↑es50.length:Int)) = false → Same [AV.slc 3 (List.map (fun x => AV.slc 3 (List.map (AV.int IntKind.i64) x)) needs)] ∧ (AV.agg cs33).cells = (AV.agg cs33).cells ∧ ∃ k62,k62 < m42 ∧ I40 k62 [iN (IntKind.i64.wrap (n43 + 1)),.agg (AV.normL (AV.agg cs56).cells)])) ∧ (decide (n43 < (↑es37.length:Int)) = false → ∃ (I48:Nat → List AV → Prop),(∃ m50,I48 m50 [iN 0,.agg (AV.normL (AV.agg cs33).cells)]) ∧ ∀ (m50:Nat) (n51:Int) (cs52:List AV),I48 m50 [iN n51,.agg cs52] → (decide (n51 < (↑(↑(↑es26.length:Int).toNat:Int).toNat:Int)) = true → ((0:Int) ≤ n51 ∧ n51 < (↑(↑(↑es26.length:Int).toNat:Int).toNat:Int) ∧ (1:Nat) = (1:Nat)) ∧ ∃ n57,Option.map AV.norm (partA Tryz.prog (3:Nat) (AV.agg cs44).cells ((0:Nat) + n51.toNat * 1)) = some (iN n57) ∧ ((0:Int) ≤ n51 ∧ n51 < (↑(↑es26.length:Int).toNat:Int) ∧ (1:Nat) = (1:Nat)) ∧ ∃ n60,Option.map AV.norm (partA Tryz.prog (3:Nat) (AV.agg cs52).cells ((0:Nat) + n51.toNat * 1)) = some (iN n60) ∧ ((0:Int) ≤ n51 ∧ n51 < (↑(↑es26.length:Int).toNat:Int) ∧ (1:Nat) = (1:Nat)) ∧ (0:Nat) + n51.toNat * 1 + (1:Nat) ≤ (AV.agg cs52).cells.length ∧ Same [AV.slc 3 (List.map (fun x => AV.slc 3 (List.map (AV.int IntKind.i64) x)) needs)] ∧ (AV.agg cs44).cells = (AV.agg cs44).cells ∧ ∃ k66,k66 < m50 ∧ I48 k66 [iN (IntKind.i64.wrap (n51 + 1)),.agg (AV.normL (setCells (AV.agg cs52).cells ((0:Nat) + n51.toNat * 1) [iN (if n57 > n60 then n57 else n60)]))]) ∧ (decide (n51 < (↑(↑(↑es26.length:Int).toNat:Int).toNat:Int)) = false → Same [AV.slc 3 (List.map (fun x => AV.slc 3 (List.map (AV.int IntKind.i64) x)) needs)] ∧ ∃ k57,k57 < m31 ∧ I29 k57 [iN (IntKind.i64.wrap (n32 + 1)),.agg (AV.normL (AV.agg cs52).cells)]))) ∧ (decide (n32 < (↑(List.map (fun x => AV.slc 3 (List.map (AV.int IntKind.i64) x)) sets).length:Int)) = false → ((0:Nat) + (↑es26.length:Int).toNat * (1:Nat) ≤ (AV.agg cs33).cells.length ∧ ones (AV.agg cs33).cells = true) ∧ Q (.tup [AV.slc 3 (chunks (1:Nat) (isAggT Tryz.prog (3:Nat)) (↑es26.length:Int).toNat (List.drop (0:Nat) (AV.agg cs33).cells)),iN 0]) []))))))))
theorem s35 (needs:List (List Int)) (sets:List (List Int)) (v:AV) (O:List (List AV)) (h:R35 needs sets Sp Fo So (fun r O' => r = v ∧ O' = O)):Sp 35 [.slc 3 (List.map (fun x => .slc 3 (List.map (AV.int .i64) x)) needs),.slc 3 (List.map (fun x => .slc 3 (List.map (AV.int .i64) x)) sets)] [] v O :=
 spec_by (w:=⟨[],[],[93,73],[],[]⟩) (k:=0) (keep:=⟨[0,1,2,4,5,6,7,8,9,10,11,13,14,16,17,18,19,20,25,34,38,43,47,51,60,61,62,63,69,70,71,72,78,79,80,81,94,95,96,97],[⟨20,[(62,iN 0)],[],[(59,.tup [])],[],[],[]⟩,⟨24,[(71,iN 0)],[],[(68,.tup [])],[],[],[]⟩,⟨27,[(80,iN 0)],[],[(68,.tup [])],[],[],[]⟩,⟨33,[(96,iN 0)],[],[(59,.tup [])],[],[],[]⟩],[],[]⟩) (boxes:=[]) mixed (by exact trivial) Tryz.func35 Tryz.call35 rfl rfl rfl (Nat.le_of_ble_eq_true rfl) (by kernel_rfl) h
theorem c35 (needs sets:List (List Int)) (hs:sets.length + sets.flatten.length ≤ 1048576) (hn:needs.length + needs.flatten.length ≤ 1048576):Sp 35 [.slc 3 (planA needs),.slc 3 (planA sets)] [] (carrierV needs sets) []:=s35 needs sets _ _ (by
 have hsm:∀ l ∈ sets,l.length ≤ 17592186043904:=fun l hl => by
  obtain ⟨i,hi,rfl⟩:=List.getElem_of_mem hl
  have h1:=flat_step hi
  have h2:=flat_le (P:=sets) (i + 1)
  rw [h1,List.length_append] at h2
  omega
 unfold R35
 refine ⟨_,c88 sets (by omega) (by omega),?_⟩
 rw [List.length_map,List.length_map]
 refine ⟨fun h => ⟨by unfold carrierV carryN; rw [if_pos (by have:=of_decide_eq_true h; omega)]; rfl,by trivial⟩,fun h => ?_⟩
 have h0:¬ sets.length > 200:=by have:=of_decide_eq_false h; omega
 have hE:carryN needs sets = _:=if_neg h0
 refine ⟨fun h => ⟨by unfold carrierV; rw [hE,if_pos (by have:=of_decide_eq_true h; omega)]; rfl,by trivial⟩,fun h => ?_⟩
 have h1:¬ needs.length > 100:=by have:=of_decide_eq_false h; omega
 rw [if_neg h1] at hE
 refine ⟨_,c93b needs (by omega),fun h => ⟨by unfold carrierV; rw [hE,if_pos h]; rfl,by trivial⟩,fun h2 => ?_⟩
 rw [if_neg (by rw [h2]; simp)] at hE
 refine ⟨_,c88 needs (by omega) (by omega),_,c73g needs.flatten (by omega),fun h => ⟨by unfold carrierV; rw [hE,if_pos h]; rfl,by trivial⟩,fun h3 => ?_⟩
 rw [if_neg (by rw [h3]; simp)] at hE
 refine ⟨_,c73f sets.flatten needs (by omega),fun h => ⟨by unfold carrierV; rw [hE,if_pos h]; rfl,by trivial⟩,fun h4 => ?_⟩
 rw [if_neg (by rw [h4]; simp)] at hE
 refine ⟨_,c93c sets (by omega) hsm,fun h => ⟨by unfold carrierV; rw [hE,if_pos h]; rfl,by trivial⟩,fun h5 => ?_⟩
 rw [if_neg (by rw [h5]; simp)] at hE
 refine ⟨fun h => ⟨by unfold carrierV; rw [hE,if_pos (by have:=eq_of_beq h; omega)]; rfl,by trivial⟩,fun h => ?_⟩
 have h6:needs.length ≠ 0:=by
  intro h'
  rw [h'] at h; simp at h
 rw [if_neg h6] at hE
 have V:=carry_v h0 h1 h2 h3 h4 h5 h6
 have h4':=V.four
 have hp0:=plan_get (P:=needs) (k:=0) (by omega)
 have e0:needs[0]'(by omega) = needs.getD 0 []:=by rw [List.getD_eq_getElem?_getD,List.getElem?_eq_getElem (by omega)]; rfl
 rw [e0] at hp0
 have hz:(zeroL needs).length = (needs.getD 0 []).length:=by unfold zeroL; rw [List.length_replicate]
 generalize hK:(needs.getD 0 []).length = K at *
 have hlen:(intsT (needs.getD 0 [])).length = K:=by rw [intsT_len]; exact hK
 refine ⟨_,⟨by omega,by trivial,hp0⟩,?_⟩
 rw [hlen]
 refine ⟨⟨by omega,by omega,by omega⟩,fun m vs => ∃ j:Nat,vs = [.int .i64 j,.agg (intsT (enoughL needs (zeroL needs) (sets.take j) (zeroL needs)))] ∧ j ≤ sets.length ∧ m = sets.length - j,⟨_,0,by rw [ints_zero]; unfold zeroL; rw [hK]; rfl,by omega,rfl⟩,?_⟩
 rintro m31 n32 cs33 ⟨j,hj,hjl,rfl⟩
 cases hj
 have le:=enough_len V (sets.take j) (zeroL needs) (fun s h => List.mem_of_mem_take h) (by rw [hz,hK])
 rw [hK] at le
 refine ⟨fun h => ?_,fun h => ?_⟩
 ·have hj:j < sets.length:=by have:=of_decide_eq_true h; omega
  have hset:=V.one _ (List.getElem_mem hj)
  have hsj:=hsm _ (List.getElem_mem hj)
  refine ⟨_,⟨by omega,by trivial,plan_get hj⟩,⟨by omega,by omega,by omega⟩,fun m vs => ∃ p:Nat,vs = [.int .i64 p,.agg (intsT (sumL needs (zeroL needs) (sets[j].take p)))] ∧ p ≤ sets[j].length ∧ m = sets[j].length - p,⟨_,0,by rw [show ((((K:Nat):Int).toNat:Nat):Int) = (K:Int) by omega,ints_zero]; unfold zeroL; rw [hK]; rfl,by omega,rfl⟩,?_⟩
  rintro m42 n43 cs44 ⟨p,hp,hpl,rfl⟩
  cases hp
  have ls:=sum_len V (z:=zeroL needs) (by rw [hz,hK]) (sets[j].take p) (fun n hn => hset n (List.mem_of_mem_take hn))
  rw [hK] at ls
  rw [intsT_len]
  refine ⟨fun h => ?_,fun h => ?_⟩
  ·have hp:p < sets[j].length:=by have:=of_decide_eq_true h; omega
   obtain ⟨x0,x1⟩:=hset _ (List.getElem_mem hp)
   obtain ⟨g1,g2,g3⟩:=V.need x0 x1
   rw [hK] at g3
   have g1':(planA needs)[(sets[j][p]).toNat]? = some (.slc 3 (intsT (needAt needs sets[j][p]))):=by unfold planA; rw [List.getElem?_map,g1]; rfl
   have hst:=sum_take (needs:=needs) (z:=zeroL needs) hp
   refine ⟨_,⟨by omega,by trivial,ints_get hp⟩,_,⟨x0,by trivial,g1'⟩,?_⟩
   generalize needAt needs sets[j][p] = b at *
   generalize hA:sumL needs (zeroL needs) (sets[j].take p) = a at *
   refine ⟨fun m vs => ∃ k:Nat,vs = [.int .i64 k,.agg (intsT (mixL addI a b k))] ∧ k ≤ K ∧ m = K - k,⟨_,0,by show _ = [AV.int .i64 0,AV.agg (intsT (mixL addI a b 0))]; rw [mix_zero]; show [AV.int .i64 0,AV.agg (AV.normL (intsT a))] = _; rw [ints_norm],by omega,rfl⟩,?_⟩
   rintro m54 n55 cs56 ⟨k,hk,hkl,rfl⟩
   cases hk
   rw [intsT_len,g3]
   have lm:=mix_len (f:=addI) (a:=a) (b:=b) (k:=k) (by omega) (by omega)
   refine ⟨fun h => ?_,fun h => ?_⟩
   ·have hk:k < K:=by have:=of_decide_eq_true h; omega
    have q1:=mix_get (f:=addI) (a:=a) (b:=b) (k:=k) (j:=k) (by omega) (by omega) (by omega)
    rw [if_neg (by omega)] at q1
    have q2:=mix_set (f:=addI) (a:=a) (b:=b) (k:=k) (by omega) (by omega)
    have qb:=get_of (l:=b) (k:=k) (by omega)
    have qb':(intsT b)[((k:Nat):Int).toNat]? = some (.int .i64 (b.getD k 0)):=by unfold intsT; rw [Int.toNat_natCast,List.getElem?_map,qb]; rfl
    refine ⟨_,⟨by omega,by trivial,qb'⟩,⟨by omega,by omega,by trivial⟩,_,ints_part q1,⟨by omega,by omega,by trivial⟩,?_,rfl,rfl,K - (k + 1),by omega,k + 1,?_,by omega,rfl⟩
    ·show 0 + ((k:Nat):Int).toNat * 1 + 1 ≤ (intsT (mixL addI a b k)).length
     rw [intsT_len,lm]; omega
    ·show [AV.int .i64 (IntKind.i64.wrap ((k:Int) + 1)),AV.agg (AV.normL (setCells (intsT (mixL addI a b k)) (0 + ((k:Nat):Int).toNat * 1) [AV.int .i64 (addI (a.getD k 0) (b.getD k 0))]))] = _
     rw [ints_set (by rw [lm]; omega),q2,ints_norm,i64 (n:=(k:Int) + 1) (by omega)]; rfl
   ·have hk:k = K:=by have:=of_decide_eq_false h; omega
    subst hk
    refine ⟨rfl,rfl,sets[j].length - (p + 1),by omega,p + 1,?_,by omega,rfl⟩
    show [AV.int .i64 (IntKind.i64.wrap ((p:Int) + 1)),AV.agg (AV.normL (intsT (mixL addI a b k)))] = _
    rw [ints_norm,hst,i64 (n:=(p:Int) + 1) (by omega),show k = a.length by omega,mix_full (by omega)]; rfl
  ·have hp:p = sets[j].length:=by have:=of_decide_eq_false h; omega
   subst hp
   rw [List.take_length] at ls ⊢
   have het:=enough_take (needs:=needs) (z:=zeroL needs) (e:=zeroL needs) hj
   generalize sumL needs (zeroL needs) sets[j] = b at *
   generalize hA:enoughL needs (zeroL needs) (sets.take j) (zeroL needs) = a at *
   refine ⟨fun m vs => ∃ k:Nat,vs = [.int .i64 k,.agg (intsT (mixL mostI a b k))] ∧ k ≤ K ∧ m = K - k,⟨_,0,by show _ = [AV.int .i64 0,AV.agg (intsT (mixL mostI a b 0))]; rw [mix_zero]; show [AV.int .i64 0,AV.agg (AV.normL (intsT a))] = _; rw [ints_norm],by omega,rfl⟩,?_⟩
   rintro m50 n51 cs52 ⟨k,hk,hkl,rfl⟩
   cases hk
   have lm:=mix_len (f:=mostI) (a:=a) (b:=b) (k:=k) (by omega) (by omega)
   refine ⟨fun h => ?_,fun h => ?_⟩
   ·have hk:k < K:=by have:=of_decide_eq_true h; omega
    have q1:=mix_get (f:=mostI) (a:=a) (b:=b) (k:=k) (j:=k) (by omega) (by omega) (by omega)
    rw [if_neg (by omega)] at q1
    have q2:=mix_set (f:=mostI) (a:=a) (b:=b) (k:=k) (by omega) (by omega)
    refine ⟨⟨by omega,by omega,by trivial⟩,_,ints_part (get_of (by omega)),⟨by omega,by omega,by trivial⟩,_,ints_part q1,⟨by omega,by omega,by trivial⟩,?_,rfl,rfl,K - (k + 1),by omega,k + 1,?_,by omega,rfl⟩
    ·show 0 + ((k:Nat):Int).toNat * 1 + 1 ≤ (intsT (mixL mostI a b k)).length
     rw [intsT_len,lm]; omega
    ·show [AV.int .i64 (IntKind.i64.wrap ((k:Int) + 1)),AV.agg (AV.normL (setCells (intsT (mixL mostI a b k)) (0 + ((k:Nat):Int).toNat * 1) [AV.int .i64 (mostI (a.getD k 0) (b.getD k 0))]))] = _
     rw [ints_set (by rw [lm]; omega),q2,ints_norm,i64 (n:=(k:Int) + 1) (by omega)]; rfl
   ·have hk:k = K:=by have:=of_decide_eq_false h; omega
    subst hk
    refine ⟨rfl,sets.length - (j + 1),by omega,j + 1,?_,by omega,rfl⟩
    show [AV.int .i64 (IntKind.i64.wrap ((j:Int) + 1)),AV.agg (AV.normL (intsT (mixL mostI a b k)))] = _
    rw [ints_norm,het,i64 (n:=(j:Int) + 1) (by omega),show k = a.length by omega,mix_full (by omega)]; rfl
 ·have hj:j = sets.length:=by have:=of_decide_eq_false h; omega
  subst hj
  rw [List.take_length] at le ⊢
  refine ⟨⟨?_,ints_ones _⟩,?_,by trivial⟩
  ·show _ ≤ (intsT (enoughL needs (zeroL needs) sets (zeroL needs))).length
   rw [intsT_len,le]; omega
  ·unfold carrierV
   rw [hE,agg3,List.drop_zero]
   show AV.tup [.slc 3 ((intsT (enoughL needs (zeroL needs) sets (zeroL needs))).take (((K:Nat):Int).toNat)),_] = _
   rw [List.take_of_length_le (by rw [intsT_len,le]; omega)])
end Go.Proofs.YtdeeekgohhkdbaaGreatDoor
