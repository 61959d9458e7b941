/- Plain: what is so of a programme that is valid; the benefit of an inspection, without bounds. Contracts: the document's answers about programmes. Contracts: the document's check of a programme, and its benefit. -/
import Derived.Test.YtdeeekgohhkdbaaGreatDoorPa
import Derived.Test.YtdeeekgohhkdbaaGreatDoorRq
import Derived.Test.YtdeeekgohhkdbaaGreatDoorSk
namespace Go.Proofs.YtdeeekgohhkdbaaGreatDoor
structure ProgV (p:TRoProgramme):Prop where
 al:p.Assets.length ≤ 6
 bl:p.Budgets.length ≤ 3
 first:0 ≤ p.First ∧ p.First ≤ 40000
 days:1 ≤ p.Days ∧ p.Days ≤ 4000
 bud:∀ n ∈ p.Budgets,0 ≤ n ∧ n ≤ 10000000
 ass:∀ x ∈ p.Assets,(0 ≤ x.Cost ∧ x.Cost ≤ 1000000) ∧ (0 ≤ x.Rate ∧ x.Rate ≤ 1000) ∧ (0 ≤ x.Harm ∧ x.Harm ≤ 10000000) ∧ (0 ≤ x.Last ∧ x.Last ≤ p.First)
theorem prog_ok {p:TRoProgramme} (h:(progE p).2 = 0):ProgV p:=by
 unfold progE at h
 by_cases h0:p.Assets.length > 6
 ·rw [if_pos h0] at h; exact absurd h (by simp)
 rw [if_neg h0] at h
 by_cases h1:p.Budgets.length > 3
 ·rw [if_pos h1] at h; exact absurd h (by simp)
 rw [if_neg h1] at h
 by_cases h2:outB p.First 0 40000 = true
 ·rw [if_pos h2] at h; exact absurd h (by simp)
 rw [if_neg h2] at h
 by_cases h3:outB p.Days 1 4000 = true
 ·rw [if_pos h3] at h; exact absurd h (by simp)
 rw [if_neg h3] at h
 by_cases h4:p.Budgets.any richB = true
 ·rw [if_pos h4] at h; exact absurd h (by simp)
 rw [if_neg h4] at h
 have h4:p.Budgets.any richB = false:=by simpa using h4
 refine ⟨by omega,by omega,outC.1 (by simpa using h2),outC.1 (by simpa using h3),fun n hn => ?_,fun x hx => ?_⟩
 ·have h5:richB n = false:=by simpa using List.any_eq_false.1 h4 n hn
  exact outC.1 h5
 ·obtain ⟨_,hi⟩:=errAt_zero h x hx
  have hi:assetE p x = 0:=hi
  unfold assetE at hi
  by_cases g0:outB x.Cost 0 1000000 = true
  ·rw [if_pos g0] at hi; exact absurd hi (by simp)
  rw [if_neg g0] at hi
  by_cases g1:outB x.Rate 0 1000 = true
  ·rw [if_pos g1] at hi; exact absurd hi (by simp)
  rw [if_neg g1] at hi
  by_cases g2:outB x.Harm 0 10000000 = true
  ·rw [if_pos g2] at hi; exact absurd hi (by simp)
  rw [if_neg g2] at hi
  by_cases g3:outB x.Last 0 p.First = true
  ·rw [if_pos g3] at hi; exact absurd hi (by simp)
  exact ⟨outC.1 (by simpa using g0),outC.1 (by simpa using g1),outC.1 (by simpa using g2),outC.1 (by simpa using g3)⟩
theorem mul_bd {a b A B:Int} (h0:0 ≤ a) (h1:a ≤ A) (h2:0 ≤ b) (h3:b ≤ B):0 ≤ a * b ∧ a * b ≤ A * B:=⟨Int.mul_nonneg h0 h2,Int.mul_le_mul h1 h3 h2 (by omega)⟩
def benN (L a R:Int):Int:=(L * a * R).tdiv 1000000000
def leftN (p:TRoProgramme) (k:Int):Int:=((p.Budgets.length:Int) - k) * p.Days
def sinceN (p:TRoProgramme) (x:TRoAsset) (k:Int):Int:=p.First + k * p.Days - x.Last
theorem ben_ok {p:TRoProgramme} (hv:ProgV p) {x:TRoAsset} (hx:x ∈ p.Assets) {k:Int} (h0:0 ≤ k) (h1:k < p.Budgets.length) :
  benE p x k = benN (leftN p k) (sinceN p x k) (x.Rate * x.Harm) ∧ (0 ≤ leftN p k ∧ leftN p k ≤ 12000) ∧ (0 ≤ sinceN p x k ∧ sinceN p x k ≤ 48000) ∧ (0 ≤ x.Rate * x.Harm ∧ x.Rate * x.Harm ≤ 10000000000) ∧
   (0 ≤ leftN p k * sinceN p x k ∧ leftN p k * sinceN p x k ≤ 576000000) ∧ (0 ≤ leftN p k * sinceN p x k * (x.Rate * x.Harm) ∧ leftN p k * sinceN p x k * (x.Rate * x.Harm) ≤ 5760000000000000000) ∧ (0 ≤ k * p.Days ∧ k * p.Days ≤ 8000):=by
 have hbl:=hv.bl
 have hd:=hv.days
 have hf:=hv.first
 obtain ⟨_,hr,hh,hl⟩:=hv.ass x hx
 have b1:=mul_bd (a:=(p.Budgets.length:Int) - k) (b:=p.Days) (A:=3) (B:=4000) (by omega) (by omega) (by omega) (by omega)
 have b2:=mul_bd (a:=k) (b:=p.Days) (A:=2) (B:=4000) (by omega) (by omega) (by omega) (by omega)
 have b3:=mul_bd hr.1 hr.2 hh.1 hh.2
 have b4:0 ≤ sinceN p x k ∧ sinceN p x k ≤ 48000:=by unfold sinceN; generalize k * p.Days = z at *; omega
 have b5:=mul_bd (a:=leftN p k) (b:=sinceN p x k) (A:=12000) (B:=48000) b1.1 b1.2 b4.1 b4.2
 have b6:=mul_bd (a:=leftN p k * sinceN p x k) (b:=x.Rate * x.Harm) (A:=576000000) (B:=10000000000) b5.1 b5.2 b3.1 b3.2
 refine ⟨?_,b1,b4,b3,b5,b6,b2⟩
 unfold benE benF benN
 have w1:IntKind.i64.wrap ((p.Budgets.length:Int) - k) = (p.Budgets.length:Int) - k:=i64 (by omega)
 rw [w1]
 have w2:IntKind.i64.wrap (((p.Budgets.length:Int) - k) * p.Days) = leftN p k:=by
  show _ = ((p.Budgets.length:Int) - k) * p.Days
  generalize ((p.Budgets.length:Int) - k) * p.Days = z at b1
  exact i64 (by omega)
 have w3:IntKind.i64.wrap (k * p.Days) = k * p.Days:=by generalize k * p.Days = z at b2; exact i64 (by omega)
 have w4:IntKind.i64.wrap (p.First + k * p.Days) = p.First + k * p.Days:=by generalize k * p.Days = z at b2; exact i64 (by omega)
 have w5:IntKind.i64.wrap (p.First + k * p.Days - x.Last) = sinceN p x k:=by show _ = p.First + k * p.Days - x.Last; generalize k * p.Days = z at b2; exact i64 (by omega)
 have w6:IntKind.i64.wrap (x.Rate * x.Harm) = x.Rate * x.Harm:=by generalize x.Rate * x.Harm = z at b3; exact i64 (by omega)
 rw [w2,w3,w4,w5,w6]
 have w7:IntKind.i64.wrap (leftN p k * sinceN p x k) = leftN p k * sinceN p x k:=by generalize leftN p k * sinceN p x k = z at b5; exact i64 (by omega)
 rw [w7]
 have w8:IntKind.i64.wrap (leftN p k * sinceN p x k * (x.Rate * x.Harm)) = leftN p k * sinceN p x k * (x.Rate * x.Harm):=by generalize leftN p k * sinceN p x k * (x.Rate * x.Harm) = z at b6; exact i64 (by omega)
 rw [w8]
 generalize leftN p k * sinceN p x k * (x.Rate * x.Harm) = z at b6
 have:z.tdiv 1000000000 = z / 1000000000:=Int.tdiv_eq_ediv_of_nonneg b6.1
 rw [this]
 exact i64 (by omega)
end Go.Proofs.YtdeeekgohhkdbaaGreatDoor
namespace Go.Proofs.YtdeeekgohhkdbaaGreatDoor
open Go.RowKit
theorem inB_not (n lo hi:Int):inB n lo hi = !outB n lo hi:=by
 rw [Bool.eq_iff_iff,inB_iff,Bool.not_eq_true',outC]
def R78 (n low high:Int) (_S:SpecF) (_Fr:FreshF) (_Sq:SeqF) (Q:PostF):Prop :=
 (decide (n ≥ low) = true → Q (.bool (decide (n ≤ high))) []) ∧ (decide (n ≥ low) = false → Q (.bool false) [])
theorem s78 (n:Int) (low:Int) (high:Int) (v:AV) (O:List (List AV)) (h:R78 n low high Sp Fo So (fun r O' => r = v ∧ O' = O)):Sp 78 [iN n,iN low,iN high] [] v O :=
 spec_by (w:=⟨[],[],[],[],[]⟩) (k:=0) (keep:=⟨[0,1,2,6],[],[],[]⟩) (boxes:=[]) mixed (by exact trivial) Tryz.func78 Tryz.call78 rfl rfl rfl (Nat.le_of_ble_eq_true rfl) (by kernel_rfl) h
theorem c78 (n lo hi:Int):Sp 78 [.int .i64 n,.int .i64 lo,.int .i64 hi] [] (.bool (!outB n lo hi)) []:=s78 n lo hi _ _ (by
 unfold R78
 rw [← inB_not]
 refine ⟨fun h => ⟨?_,rfl⟩,fun h => ⟨?_,rfl⟩⟩
 ·have h:=of_decide_eq_true h
  unfold inB; rw [decide_eq_true (show lo ≤ n from h),Bool.true_and]
 ·have h:=of_decide_eq_false h
  unfold inB; rw [decide_eq_false (show ¬ lo ≤ n from h),Bool.false_and])
theorem byte_get {s:ByteArray} {k:Nat} (h:k < s.size):∃ c:UInt8,s[((k:Nat):Int).toNat]? = some c ∧ (bsOf s)[k]? = some (c.toNat:Int):=by
 refine ⟨s[k],?_,?_⟩
 ·rw [Int.toNat_natCast]; exact getElem?_pos s k h
 ·unfold bsOf
  have hl:k < s.data.toList.length:=by simpa using h
  rw [List.getElem?_map,List.getElem?_eq_getElem hl]; rfl
def R79 (s:ByteArray) (_S:SpecF) (_Fr:FreshF) (_Sq:SeqF) (Q:PostF):Prop :=
 (decide ((↑s.size:Int) < (1:Int)) = true → Q (.bool false) []) ∧ (decide ((↑s.size:Int) < (1:Int)) = false → (decide ((↑s.size:Int) > (24:Int)) = true → Q (.bool false) []) ∧ (decide ((↑s.size:Int) > (24:Int)) = false → ∃ c4,((0:Int) ≤ (0:Int) ∧ s[(0:Nat)]? = some c4) ∧ (decide ((↑c4.toNat:Int) < (97:Int)) = true → Q (.bool false) []) ∧ (decide ((↑c4.toNat:Int) < (97:Int)) = false → ∃ c8,((0:Int) ≤ (0:Int) ∧ s[(0:Nat)]? = some c8) ∧ (decide ((↑c8.toNat:Int) > (122:Int)) = true → Q (.bool false) []) ∧ (decide ((↑c8.toNat:Int) > (122:Int)) = false → ∃ (I12:Nat → List AV → Prop),(∃ m14,I12 m14 [iN 0]) ∧ ∀ (m14:Nat) (n15:Int),I12 m14 [iN n15] → (decide (n15 < (↑s.size:Int)) = true → ∃ c19,((0:Int) ≤ n15 ∧ s[n15.toNat]? = some c19) ∧ (decide ((↑c19.toNat:Int) ≥ (97:Int)) = true → ∃ c23,((0:Int) ≤ n15 ∧ s[n15.toNat]? = some c23) ∧ (decide ((↑c23.toNat:Int) ≤ (122:Int)) = true → ∃ k27,k27 < m14 ∧ I12 k27 [iN (IntKind.i64.wrap (n15 + 1))]) ∧ (decide ((↑c23.toNat:Int) ≤ (122:Int)) = false → ∃ c27,((0:Int) ≤ n15 ∧ s[n15.toNat]? = some c27) ∧ (decide ((↑c27.toNat:Int) ≥ (48:Int)) = true → ∃ c31,((0:Int) ≤ n15 ∧ s[n15.toNat]? = some c31) ∧ (decide ((↑c31.toNat:Int) ≤ (57:Int)) = true → ∃ k35,k35 < m14 ∧ I12 k35 [iN (IntKind.i64.wrap (n15 + 1))]) ∧ (decide ((↑c31.toNat:Int) ≤ (57:Int)) = false → ∃ c35,((0:Int) ≤ n15 ∧ s[n15.toNat]? = some c35) ∧ ((!(↑c35.toNat:Int) == (45:Int)) = true → Q (.bool false) []) ∧ ((!(↑c35.toNat:Int) == (45:Int)) = false → ∃ k39,k39 < m14 ∧ I12 k39 [iN (IntKind.i64.wrap (n15 + 1))]))) ∧ (decide ((↑c27.toNat:Int) ≥ (48:Int)) = false → ∃ c31,((0:Int) ≤ n15 ∧ s[n15.toNat]? = some c31) ∧ ((!(↑c31.toNat:Int) == (45:Int)) = true → Q (.bool false) []) ∧ ((!(↑c31.toNat:Int) == (45:Int)) = false → ∃ k35,k35 < m14 ∧ I12 k35 [iN (IntKind.i64.wrap (n15 + 1))])))) ∧ (decide ((↑c19.toNat:Int) ≥ (97:Int)) = false → ∃ c23,((0:Int) ≤ n15 ∧ s[n15.toNat]? = some c23) ∧ (decide ((↑c23.toNat:Int) ≥ (48:Int)) = true → ∃ c27,((0:Int) ≤ n15 ∧ s[n15.toNat]? = some c27) ∧ (decide ((↑c27.toNat:Int) ≤ (57:Int)) = true → ∃ k31,k31 < m14 ∧ I12 k31 [iN (IntKind.i64.wrap (n15 + 1))]) ∧ (decide ((↑c27.toNat:Int) ≤ (57:Int)) = false → ∃ c31,((0:Int) ≤ n15 ∧ s[n15.toNat]? = some c31) ∧ ((!(↑c31.toNat:Int) == (45:Int)) = true → Q (.bool false) []) ∧ ((!(↑c31.toNat:Int) == (45:Int)) = false → ∃ k35,k35 < m14 ∧ I12 k35 [iN (IntKind.i64.wrap (n15 + 1))]))) ∧ (decide ((↑c23.toNat:Int) ≥ (48:Int)) = false → ∃ c27,((0:Int) ≤ n15 ∧ s[n15.toNat]? = some c27) ∧ ((!(↑c27.toNat:Int) == (45:Int)) = true → Q (.bool false) []) ∧ ((!(↑c27.toNat:Int) == (45:Int)) = false → ∃ k31,k31 < m14 ∧ I12 k31 [iN (IntKind.i64.wrap (n15 + 1))])))) ∧ (decide (n15 < (↑s.size:Int)) = false → Q (.bool true) [])))))
theorem s79 (s:ByteArray) (v:AV) (O:List (List AV)) (h:R79 s Sp Fo So (fun r O' => r = v ∧ O' = O)):Sp 79 [.str s] [] v O :=
 spec_by (w:=⟨[],[],[],[],[]⟩) (k:=0) (keep:=⟨[0,2,3,21,25,56],[⟨4,[(3,iN 0)],[],[],[],[],[]⟩],[],[]⟩) (boxes:=[]) mixed (by exact trivial) Tryz.func79 Tryz.call79 rfl rfl rfl (Nat.le_of_ble_eq_true rfl) (by kernel_rfl) h
theorem c79 (s:ByteArray) (hl:s.size ≤ 9223372036854775807):Sp 79 [.str s] [] (.bool (nameB s)) []:=s79 s _ _ (by
 unfold R79
 have hlen:(bsOf s).length = s.size:=bsOf_len s
 refine ⟨fun h => ⟨?_,rfl⟩,fun h => ⟨fun h1 => ⟨?_,rfl⟩,fun h1 => ?_⟩⟩
 ·have h:s.size = 0:=by have:=of_decide_eq_true h; omega
  have:bsOf s = []:=List.length_eq_zero_iff.1 (by omega)
  unfold nameB; rw [this]; rfl
 ·have h1:¬ s.size ≤ 24:=by have:=of_decide_eq_true h1; omega
  unfold nameB; rw [decide_eq_false h1,Bool.and_false,Bool.false_and]
 ·have h:0 < s.size:=by have:=of_decide_eq_false h; omega
  have h1:s.size ≤ 24:=by have:=of_decide_eq_false h1; omega
  have hne:(bsOf s).isEmpty = false:=by
   cases hb:bsOf s with
   | nil => rw [hb,List.length_nil] at hlen; omega
   | cons a r => rfl
  have hN:nameB s = okL 0 (bsOf s):=by unfold nameB; rw [hne,decide_eq_true h1]; rfl
  rw [hN]
  obtain ⟨c,hc,hc'⟩:=byte_get h
  have hc:s[(0:Nat)]? = some c:=hc
  have hat0:=okL_at hc'
  rw [List.drop_zero,if_pos rfl] at hat0
  refine ⟨c,⟨by omega,hc⟩,fun g => ⟨?_,rfl⟩,fun g => ⟨c,⟨by omega,hc⟩,fun g1 => ⟨?_,rfl⟩,fun g1 => ?_⟩⟩
  ·have g:=of_decide_eq_true g
   rw [hat0]; unfold letB inB; rw [decide_eq_false (show ¬ (97:Int) ≤ c.toNat by omega)]; rfl
  ·have g1:=of_decide_eq_true g1
   rw [hat0]; unfold letB inB; rw [decide_eq_false (show ¬ (c.toNat:Int) ≤ 122 by omega),Bool.and_false]; rfl
  ·have g:=of_decide_eq_false g
   have g1:=of_decide_eq_false g1
   have hl0:letB (c.toNat:Int) = true:=inB_iff.2 ⟨by omega,by omega⟩
   refine ⟨fun m vs => ∃ k:Nat,vs = [.int .i64 k] ∧ k ≤ s.size ∧ m = s.size - k ∧ okL k ((bsOf s).drop k) = okL 0 (bsOf s),⟨_,0,rfl,by omega,rfl,rfl⟩,?_⟩
   rintro m n ⟨k,hk,hle,rfl,hn⟩
   cases hk
   refine ⟨fun h3 => ?_,fun h3 => ⟨?_,rfl⟩⟩
   ·have h3:k < s.size:=by have:=of_decide_eq_true h3; omega
    obtain ⟨x,hx,hx'⟩:=byte_get h3
    have hat:=okL_at hx'
    rw [hn] at hat
    have htl:(if k = 0 then letB (x.toNat:Int) else tailB x.toNat) = tailB x.toNat:=by
     by_cases hk0:k = 0
     ·subst hk0
      rw [hc'] at hx'
      have e:(x.toNat:Int) = c.toNat:=(Option.some.inj hx').symm
      rw [if_pos rfl,e]
      unfold tailB; rw [hl0]; rfl
     ·rw [if_neg hk0]
    rw [htl] at hat
    have next:tailB x.toNat = true → ∃ k',k' < s.size - k ∧ ∃ j:Nat,[AV.int .i64 (IntKind.i64.wrap ((k:Int) + 1))] = [.int .i64 j] ∧ j ≤ s.size ∧ k' = s.size - j ∧ okL j ((bsOf s).drop j) = okL 0 (bsOf s):=fun ht =>
     ⟨_,(by omega:s.size - (k + 1) < s.size - k),k + 1,by rw [wrapN (by omega)],by omega,rfl,by rw [hat,ht]; rfl⟩
    have bad:tailB x.toNat = false → AV.bool false = .bool (okL 0 (bsOf s)):=fun ht => by rw [hat,ht]; rfl
    have ht:tailB (x.toNat:Int) = ((decide ((97:Int) ≤ x.toNat) && decide ((x.toNat:Int) ≤ 122)) || (decide ((48:Int) ≤ x.toNat) && decide ((x.toNat:Int) ≤ 57)) || ((x.toNat:Int) == 45)):=rfl
    have look:(0:Int) ≤ (k:Int) ∧ s[((k:Nat):Int).toNat]? = some x:=⟨by omega,hx⟩
    generalize hT:tailB (x.toNat:Int) = T at *
    refine ⟨x,look,fun a1 => ⟨x,look,fun a2 => next ?_,fun a2 => ⟨x,look,fun a3 => ⟨x,look,fun a4 => next ?_,fun a4 => ⟨x,look,fun a5 => ⟨bad ?_,rfl⟩,fun a5 => next ?_⟩⟩,fun a3 => ⟨x,look,fun a5 => ⟨bad ?_,rfl⟩,fun a5 => next ?_⟩⟩⟩,fun a1 => ⟨x,look,fun a3 => ⟨x,look,fun a4 => next ?_,fun a4 => ⟨x,look,fun a5 => ⟨bad ?_,rfl⟩,fun a5 => next ?_⟩⟩,fun a3 => ⟨x,look,fun a5 => ⟨bad ?_,rfl⟩,fun a5 => next ?_⟩⟩⟩
    all_goals
     simp only [ge_iff_le,decide_eq_true_eq,decide_eq_false_iff_not,Bool.not_eq_true',Bool.not_eq_false',beq_iff_eq,beq_eq_false_iff_ne,ne_eq] at *
     rw [ht]
     simp only [Bool.or_eq_true,Bool.or_eq_false_iff,Bool.and_eq_true,Bool.and_eq_false_iff,decide_eq_true_eq,decide_eq_false_iff_not,beq_iff_eq,beq_eq_false_iff_ne,ne_eq]
     omega
   ·have:k = s.size:=by have:=of_decide_eq_false h3; omega
    rw [← hn,this,← hlen,List.drop_length]; rfl)
end Go.Proofs.YtdeeekgohhkdbaaGreatDoor
namespace Go.Proofs.YtdeeekgohhkdbaaGreatDoor
open Go.RowKit
theorem all_step {P:Int → Bool} {l:List Int} {k:Nat} {x:Int} (h:l[k]? = some x):(l.take (k + 1)).any P = ((l.take k).any P || P x):=by
 rw [List.take_add_one,h,List.any_append]; simp
theorem any_step {α:Type} {P:α → Bool} {l:List α} {k:Nat} {x:α} (h:l[k]? = some x):(l.take (k + 1)).any P = ((l.take k).any P || P x):=by
 rw [List.take_add_one,h,List.any_append]; simp
def goodB (p:TRoProgramme):Bool:=!outB p.First 0 40000 && !outB p.Days 1 4000
def R24 (p:TRoProgramme) (S:SpecF) (_Fr:FreshF) (_Sq:SeqF) (Q:PostF):Prop :=
 (decide ((↑(List.map TRoAsset.av p.Assets).length:Int) > (6:Int)) = true → Q (.tup [iN (-1:Int),iN 3]) []) ∧ (decide ((↑(List.map TRoAsset.av p.Assets).length:Int) > (6:Int)) = false → (decide ((↑(List.map (AV.int IntKind.i64) p.Budgets).length:Int) > (3:Int)) = true → Q (.tup [iN (-1:Int),iN 3]) []) ∧ (decide ((↑(List.map (AV.int IntKind.i64) p.Budgets).length:Int) > (3:Int)) = false → ∃ (J4:List AV → Prop),(∃ b6,S 78 [iN p.First,iN 0,iN 40000] [] (.bool b6) [] ∧ (b6 = true → ∃ b10,S 78 [iN p.Days,iN 1,iN 4000] [] (.bool b10) [] ∧ p.cs = p.cs ∧ J4 [AV.bool b10]) ∧ (b6 = false → p.cs = p.cs ∧ J4 [AV.bool false])) ∧ ∀ (b6:Bool),J4 [AV.bool b6] → ∃ (I8:Nat → List AV → Prop),(∃ m10,I8 m10 [AV.bool b6,iN 0]) ∧ ∀ (m10:Nat) (b11:Bool) (n12:Int),I8 m10 [AV.bool b11,iN n12] → (decide (n12 < (↑(List.map (AV.int IntKind.i64) p.Budgets).length:Int)) = true → (b11 = true → ∃ n18,((0:Int) ≤ n12 ∧ (1:Nat) = (1:Nat) ∧ (List.map (AV.int IntKind.i64) p.Budgets)[n12.toNat]? = some (iN n18)) ∧ ∃ b20,S 78 [iN n18,iN 0,iN 10000000] [] (.bool b20) [] ∧ p.cs = p.cs ∧ ∃ k23,k23 < m10 ∧ I8 k23 [AV.bool b20,iN (IntKind.i64.wrap (n12 + 1))]) ∧ (b11 = false → p.cs = p.cs ∧ ∃ k19,k19 < m10 ∧ I8 k19 [AV.bool false,iN (IntKind.i64.wrap (n12 + 1))])) ∧ (decide (n12 < (↑(List.map (AV.int IntKind.i64) p.Budgets).length:Int)) = false → ((!b11) = true → Q (.tup [iN (-1:Int),iN 7]) []) ∧ ((!b11) = false → ∃ (I18:Nat → List AV → Prop),(∃ m20,I18 m20 [iN 0]) ∧ ∀ (m20:Nat) (n21:Int),I18 m20 [iN n21] → (decide (n21 < (↑(List.map TRoAsset.av p.Assets).length:Int)) = true → ∃ s25 n26 n27 n28 n29,((0:Int) ≤ n21 ∧ (5:Nat) = (5:Nat) ∧ (List.map TRoAsset.av p.Assets)[n21.toNat]? = some (.agg [AV.str s25,iN n26,iN n27,iN n28,iN n29])) ∧ ∃ b31,S 79 [AV.str s25] [] (.bool b31) [] ∧ ((!b31) = true → Q (.tup [iN n21,iN 6]) []) ∧ ((!b31) = false → ∃ (I35:Nat → List AV → Prop),(∃ m37,I35 m37 [iN 0]) ∧ ∀ (m37:Nat) (n38:Int),I35 m37 [iN n38] → (decide (n38 < n21) = true → ∃ s42 n43 n44 n45 n46,((0:Int) ≤ n38 ∧ (5:Nat) = (5:Nat) ∧ (List.map TRoAsset.av p.Assets)[n38.toNat]? = some (.agg [AV.str s42,iN n43,iN n44,iN n45,iN n46])) ∧ ((s42.toList == s25.toList) = true → Q (.tup [iN n21,iN 5]) []) ∧ ((s42.toList == s25.toList) = false → p.cs = p.cs ∧ Same [AV.str s25,iN n26,iN n27,iN n28,iN n29] ∧ ∃ k52,k52 < m37 ∧ I35 k52 [iN (IntKind.i64.wrap (n38 + 1))])) ∧ (decide (n38 < n21) = false → ∃ b42,S 78 [iN n26,iN 0,iN 1000000] [] (.bool b42) [] ∧ ((!b42) = true → Q (.tup [iN n21,iN 7]) []) ∧ ((!b42) = false → ∃ b46,S 78 [iN n27,iN 0,iN 1000] [] (.bool b46) [] ∧ ((!b46) = true → Q (.tup [iN n21,iN 7]) []) ∧ ((!b46) = false → ∃ b50,S 78 [iN n28,iN 0,iN 10000000] [] (.bool b50) [] ∧ ((!b50) = true → Q (.tup [iN n21,iN 7]) []) ∧ ((!b50) = false → ∃ b54,S 78 [iN n29,iN 0,iN p.First] [] (.bool b54) [] ∧ ((!b54) = true → Q (.tup [iN n21,iN 7]) []) ∧ ((!b54) = false → p.cs = p.cs ∧ ∃ k59,k59 < m20 ∧ I18 k59 [iN (IntKind.i64.wrap (n21 + 1))]))))))) ∧ (decide (n21 < (↑(List.map TRoAsset.av p.Assets).length:Int)) = false → Q (.tup TEncl.zero.cs) [])))))
theorem s24 (p:TRoProgramme) (v:AV) (O:List (List AV)) (h:R24 p Sp Fo So (fun r O' => r = v ∧ O' = O)):Sp 24 [p.av] [] v O :=
 spec_by (w:=⟨[],[],[],[],[]⟩) (k:=0) (keep:=⟨[0,1,2,3,4,5,6,7,8,18,31,44,49,60,64,75,100],[⟨5,[(4,.bool false),(5,iN 0)],[],[],[],[],[]⟩,⟨11,[(6,iN 0)],[],[],[],[],[]⟩,⟨17,[(8,iN 0)],[],[],[],[],[]⟩],[⟨4,[(4,.bool false)],[],[],[],[],[]⟩],[]⟩) (boxes:=[]) mixed (by exact trivial) Tryz.func24 Tryz.call24 rfl rfl rfl (Nat.le_of_ble_eq_true rfl) (by kernel_rfl) h
theorem c24 (p:TRoProgramme) (hp:ProgIn p):Sp 24 [p.av] [] (.tup [.int .i64 (progE p).1,.int .i64 (progE p).2]) []:=s24 p _ _ (by
 unfold R24
 simp only [List.length_map]
 refine ⟨fun h => ⟨by unfold progE; rw [if_pos (by have:=of_decide_eq_true h; omega)],by trivial⟩,fun h1 => ⟨fun h => ⟨?_,by trivial⟩,fun h2 => ?_⟩⟩
 ·unfold progE; rw [if_neg (by have:=of_decide_eq_false h1; omega),if_pos (by have:=of_decide_eq_true h; omega)]
 have h1:p.Assets.length ≤ 6:=by have:=of_decide_eq_false h1; omega
 have h2:p.Budgets.length ≤ 3:=by have:=of_decide_eq_false h2; omega
 have hE:progE p = if outB p.First 0 40000 then (-1,7) else if outB p.Days 1 4000 then (-1,7) else if p.Budgets.any richB then (-1,7) else firstE (errAt TRoAsset.Name (assetS p) p.Assets) p.Assets.length 0:=by
  unfold progE; rw [if_neg (by omega),if_neg (by omega)]
 have hE2:progE p = if goodB p && !p.Budgets.any richB then firstE (errAt TRoAsset.Name (assetS p) p.Assets) p.Assets.length 0 else (-1,7):=by
  rw [hE]; unfold goodB
  cases outB p.First 0 40000 <;> cases outB p.Days 1 4000 <;> cases p.Budgets.any richB <;> rfl
 refine ⟨fun vs => vs = [.bool (goodB p)],⟨_,c78 ..,fun g => ⟨_,c78 ..,?_⟩,fun g => ?_⟩,?_⟩
 ·repeat (first | refine And.intro rfl ?_ | refine And.intro trivial ?_)
  show _ = [AV.bool (goodB p)]
  unfold goodB; rw [g]; rfl
 ·repeat (first | refine And.intro rfl ?_ | refine And.intro trivial ?_)
  show _ = [AV.bool (goodB p)]
  unfold goodB; rw [g]; rfl
 ·intro b4 hJ
  cases hJ
  refine ⟨fun m vs => ∃ k:Nat,vs = [.bool (goodB p && !(p.Budgets.take k).any richB),.int .i64 k] ∧ k ≤ p.Budgets.length ∧ m = p.Budgets.length - k,⟨_,0,by simp,by omega,rfl⟩,?_⟩
  rintro m b13 n14 ⟨k,hk,hle,rfl⟩
  cases hk
  refine ⟨fun h3 => ⟨fun g => ?_,fun g => ?_⟩,fun h3 => ?_⟩
  ·have h3:k < p.Budgets.length:=by have:=of_decide_eq_true h3; omega
   refine ⟨_,⟨by omega,by trivial,ints_get h3⟩,_,c78 ..,?_⟩
   repeat (first | refine And.intro rfl ?_ | refine And.intro trivial ?_)
   refine ⟨_,(by omega:p.Budgets.length - (k + 1) < p.Budgets.length - k),k + 1,?_,by omega,rfl⟩
   rw [wrapN (by omega),all_step (List.getElem?_eq_getElem h3),Bool.not_or,← Bool.and_assoc,g,Bool.true_and]; rfl
  ·have h3:k < p.Budgets.length:=by have:=of_decide_eq_true h3; omega
   repeat (first | refine And.intro rfl ?_ | refine And.intro trivial ?_)
   refine ⟨_,(by omega:p.Budgets.length - (k + 1) < p.Budgets.length - k),k + 1,?_,by omega,rfl⟩
   rw [wrapN (by omega),all_step (List.getElem?_eq_getElem h3),Bool.not_or,← Bool.and_assoc,g,Bool.false_and]
  ·have h3:k = p.Budgets.length:=by have:=of_decide_eq_false h3; omega
   subst h3
   rw [List.take_length]
   refine ⟨fun g => ⟨?_,by trivial⟩,fun g => ?_⟩
   ·rw [hE2,if_neg (by rw [Bool.not_eq_true'] at g; rw [g]; simp)]
   have hE3:progE p = firstE (errAt TRoAsset.Name (assetS p) p.Assets) p.Assets.length 0:=by rw [hE2,if_pos (by rw [Bool.not_eq_false'] at g; exact g)]
   rw [hE3]
   refine ⟨fun m vs => ∃ k:Nat,vs = [.int .i64 k] ∧ k ≤ p.Assets.length ∧ m = p.Assets.length - k ∧ firstE (errAt TRoAsset.Name (assetS p) p.Assets) (p.Assets.length - k) k = firstE (errAt TRoAsset.Name (assetS p) p.Assets) p.Assets.length 0,⟨_,0,rfl,by omega,rfl,rfl⟩,?_⟩
   rintro m n ⟨k,hk,hle,rfl,hn⟩
   cases hk
   refine ⟨fun h3 => ?_,fun h3 => ?_⟩
   ·have h3:k < p.Assets.length:=by have:=of_decide_eq_true h3; omega
    obtain ⟨x,hx,hx'⟩:=map_getN (f:=TRoAsset.av) h3
    have hat:=errAt_some (nm:=TRoAsset.Name) (rest:=assetS p) hx
    have hf:=firstE_at (e:=errAt TRoAsset.Name (assetS p) p.Assets) h3
    have hmem:x ∈ p.Assets:=List.mem_of_getElem? hx
    have err:∀ e:Int,e ≠ 0 → errAt TRoAsset.Name (assetS p) p.Assets k = e → AV.tup [.int .i64 k,.int .i64 e] = .tup [.int .i64 (firstE (errAt TRoAsset.Name (assetS p) p.Assets) p.Assets.length 0).1,.int .i64 (firstE (errAt TRoAsset.Name (assetS p) p.Assets) p.Assets.length 0).2]:=fun e he h => by
     rw [← hn,hf,if_pos (by rw [h]; exact he),h]
    refine ⟨_,_,_,_,_,⟨by omega,by trivial,hx'⟩,_,c79 x.Name (hp x hmem),fun g1 => ⟨err 6 (by decide) (by rw [hat,if_pos g1]),by trivial⟩,fun g1 => ?_⟩
    rw [if_neg (by rw [g1]; simp)] at hat
    refine ⟨fun m vs => ∃ j:Nat,vs = [.int .i64 j] ∧ j ≤ k ∧ m = k - j ∧ (p.Assets.take j).any (fun y => twinB y.Name x.Name) = false,⟨_,0,rfl,by omega,rfl,rfl⟩,?_⟩
    rintro m n ⟨j,hj,hjl,rfl,hjt⟩
    cases hj
    refine ⟨fun h4 => ?_,fun h4 => ?_⟩
    ·have h4:j < k:=by have:=of_decide_eq_true h4; omega
     obtain ⟨y,hy,hy'⟩:=map_getN (f:=TRoAsset.av) (l:=p.Assets) (k:=j) (by omega)
     have hst:=any_step (P:=fun y => twinB y.Name x.Name) hy
     rw [hjt,Bool.false_or] at hst
     refine ⟨_,_,_,_,_,⟨by omega,by trivial,hy'⟩,fun g2 => ⟨err 5 (by decide) ?_,by trivial⟩,fun g2 => ?_⟩
     ·have ht:twinB y.Name x.Name = true:=g2
      rw [hat,if_pos]
      rw [List.any_eq_true]
      refine ⟨y,?_,ht⟩
      rw [List.mem_iff_getElem?]
      exact ⟨j,by rw [List.getElem?_take_of_lt h4]; exact hy⟩
     ·have ht:twinB y.Name x.Name = false:=g2
      repeat (first | refine And.intro rfl ?_ | refine And.intro trivial ?_)
      exact ⟨_,(by omega:k - (j + 1) < k - j),j + 1,by rw [wrapN (by omega)],by omega,rfl,by rw [hst]; exact ht⟩
    ·have h4:j = k:=by have:=of_decide_eq_false h4; omega
     subst h4
     rw [if_neg (by rw [hjt]; simp)] at hat
     have hat:errAt TRoAsset.Name (assetS p) p.Assets j = assetE p x:=hat
     unfold assetE at hat
     refine ⟨_,c78 ..,fun q => ⟨err 7 (by decide) (by rw [hat,if_pos (by simpa using q)]),by trivial⟩,fun q => ?_⟩
     rw [if_neg (by simpa using q)] at hat
     refine ⟨_,c78 ..,fun q => ⟨err 7 (by decide) (by rw [hat,if_pos (by simpa using q)]),by trivial⟩,fun q => ?_⟩
     rw [if_neg (by simpa using q)] at hat
     refine ⟨_,c78 ..,fun q => ⟨err 7 (by decide) (by rw [hat,if_pos (by simpa using q)]),by trivial⟩,fun q => ?_⟩
     rw [if_neg (by simpa using q)] at hat
     refine ⟨_,c78 ..,fun q => ⟨err 7 (by decide) (by rw [hat,if_pos (by simpa using q)]),by trivial⟩,fun q => ?_⟩
     rw [if_neg (by simpa using q)] at hat
     repeat (first | refine And.intro rfl ?_ | refine And.intro trivial ?_)
     exact ⟨_,(by omega:p.Assets.length - (j + 1) < p.Assets.length - j),j + 1,by rw [wrapN (by omega)],by omega,rfl,by rw [← hn,hf,if_neg (by rw [hat]; simp)]⟩
   ·have h3:k = p.Assets.length:=by have:=of_decide_eq_false h3; omega
    subst h3
    rw [← hn,Nat.sub_self]
    exact ⟨rfl,by trivial⟩)
def R81 (p:TRoProgramme) (asset period:Int) (_S:SpecF) (_Fr:FreshF) (_Sq:SeqF) (Q:PostF):Prop :=
 ∃ s0 n1 n2 n3 n4,((0:Int) ≤ asset ∧ (5:Nat) = (5:Nat) ∧ (List.map TRoAsset.av p.Assets)[asset.toNat]? = some (.agg [AV.str s0,iN n1,iN n2,iN n3,iN n4])) ∧ Q (iN (IntKind.i64.wrap ((IntKind.i64.wrap (IntKind.i64.wrap (IntKind.i64.wrap (IntKind.i64.wrap (IntKind.i64.wrap (p.First + IntKind.i64.wrap ((↑(List.map (AV.int IntKind.i64) p.Budgets).length:Int) * p.Days)) - IntKind.i64.wrap (p.First + IntKind.i64.wrap (period * p.Days))) * IntKind.i64.wrap (IntKind.i64.wrap (p.First + IntKind.i64.wrap (period * p.Days)) - n4)) * n2) * n3)).tdiv (1000000000:Int)))) []
theorem s81 (p:TRoProgramme) (asset:Int) (period:Int) (v:AV) (O:List (List AV)) (h:R81 p asset period Sp Fo So (fun r O' => r = v ∧ O' = O)):Sp 81 [p.av,iN asset,iN period] [] v O :=
 spec_by (w:=⟨[],[],[],[],[]⟩) (k:=0) (keep:=⟨[0,1,2,3,6,7,8,9],[],[],[]⟩) (boxes:=[]) mixed (by exact trivial) Tryz.func81 Tryz.call81 rfl rfl rfl (Nat.le_of_ble_eq_true rfl) (by kernel_rfl) h
theorem c81 (p:TRoProgramme) (hv:ProgV p) (asset period:Int) (a0:0 ≤ asset) (a1:asset < p.Assets.length) (k0:0 ≤ period) (k1:period < p.Budgets.length):Sp 81 [p.av,.int .i64 asset,.int .i64 period] [] (.int .i64 (benE p (assetAt p asset) period)) []:=s81 p asset period _ _ (by
 unfold R81
 rw [List.length_map]
 obtain ⟨hx,hmem⟩:=asset_get a0 a1
 obtain ⟨e1,e2,e3,e4,e5,e6,e7⟩:=ben_ok hv hmem k0 k1
 refine ⟨_,_,_,_,_,⟨a0,by trivial,hx⟩,?_,by trivial⟩
 have hd:=hv.days
 have hf:=hv.first
 have hbl:=hv.bl
 obtain ⟨_,hr,hh,hl⟩:=hv.ass _ hmem
 have b0:=mul_bd (a:=(p.Budgets.length:Int)) (b:=p.Days) (A:=3) (B:=4000) (by omega) (by omega) (by omega) (by omega)
 have w3:IntKind.i64.wrap (period * p.Days) = period * p.Days:=by generalize period * p.Days = z at e7; exact i64 (by omega)
 have w4:IntKind.i64.wrap (p.First + period * p.Days) = p.First + period * p.Days:=by generalize period * p.Days = z at e7; exact i64 (by omega)
 have w5:IntKind.i64.wrap ((p.Budgets.length:Int) * p.Days) = (p.Budgets.length:Int) * p.Days:=by generalize (p.Budgets.length:Int) * p.Days = z at b0; exact i64 (by omega)
 have w6:IntKind.i64.wrap (p.First + (p.Budgets.length:Int) * p.Days) = p.First + (p.Budgets.length:Int) * p.Days:=by generalize (p.Budgets.length:Int) * p.Days = z at b0; exact i64 (by omega)
 rw [w3,w4,w5,w6,e1]
 have hL:leftN p period = (p.Budgets.length:Int) * p.Days - period * p.Days:=by unfold leftN; rw [Int.sub_mul]
 have hS:sinceN p (assetAt p asset) period = p.First + period * p.Days - (assetAt p asset).Last:=rfl
 generalize assetAt p asset = x at *
 have w7:IntKind.i64.wrap (p.First + (p.Budgets.length:Int) * p.Days - (p.First + period * p.Days)) = leftN p period:=by
  rw [hL]; rw [hL] at e2
  generalize (p.Budgets.length:Int) * p.Days = y at *
  generalize period * p.Days = z at *
  rw [show p.First + y - (p.First + z) = y - z by omega]; exact i64 (by omega)
 have w8:IntKind.i64.wrap (p.First + period * p.Days - x.Last) = sinceN p x period:=by rw [← hS]; generalize sinceN p x period = z at e3; exact i64 (by omega)
 rw [w7,w8]
 have w9:IntKind.i64.wrap (leftN p period * sinceN p x period) = leftN p period * sinceN p x period:=by generalize leftN p period * sinceN p x period = z at e5; exact i64 (by omega)
 rw [w9]
 have bR:=mul_bd (a:=leftN p period * sinceN p x period) (b:=x.Rate) (A:=576000000) (B:=1000) e5.1 e5.2 hr.1 hr.2
 have w10:IntKind.i64.wrap (leftN p period * sinceN p x period * x.Rate) = leftN p period * sinceN p x period * x.Rate:=by generalize leftN p period * sinceN p x period * x.Rate = z at bR; exact i64 (by omega)
 rw [w10,Int.mul_assoc (leftN p period * sinceN p x period) x.Rate x.Harm]
 unfold benN
 have w11:IntKind.i64.wrap (leftN p period * sinceN p x period * (x.Rate * x.Harm)) = leftN p period * sinceN p x period * (x.Rate * x.Harm):=by generalize leftN p period * sinceN p x period * (x.Rate * x.Harm) = z at e6; exact i64 (by omega)
 rw [w11]
 generalize leftN p period * sinceN p x period * (x.Rate * x.Harm) = z at e6
 rw [Int.tdiv_eq_ediv_of_nonneg e6.1,i64 (by omega)])
def R26 (p:TRoProgramme) (asset period:Int) (S:SpecF) (_Fr:FreshF) (_Sq:SeqF) (Q:PostF):Prop :=
 ∃ n0 n1,S 24 [p.av] [] (.tup [iN n0,iN n1]) [] ∧ ((n1 == 0) = true → ∃ b5,S 78 [iN asset,iN 0,iN (IntKind.i64.wrap ((↑(List.map TRoAsset.av p.Assets).length:Int) - (1:Int)))] [] (.bool b5) [] ∧ ((!b5) = true → Q (.tup [iN 0,iN 4]) []) ∧ ((!b5) = false → ∃ b9,S 78 [iN period,iN 0,iN (IntKind.i64.wrap ((↑(List.map (AV.int IntKind.i64) p.Budgets).length:Int) - (1:Int)))] [] (.bool b9) [] ∧ ((!b9) = true → Q (.tup [iN 0,iN 4]) []) ∧ ((!b9) = false → ((n1 != 0) = true → Q (.tup [iN 0,iN n1]) []) ∧ ((n1 != 0) = false → ∃ n15,S 81 [p.av,iN asset,iN period] [] (iN n15) [] ∧ Q (.tup [iN n15,iN 0]) [])))) ∧ ((n1 == 0) = false → ((n1 != 0) = true → Q (.tup [iN 0,iN n1]) []) ∧ ((n1 != 0) = false → ∃ n7,S 81 [p.av,iN asset,iN period] [] (iN n7) [] ∧ Q (.tup [iN n7,iN 0]) []))
theorem s26 (p:TRoProgramme) (asset:Int) (period:Int) (v:AV) (O:List (List AV)) (h:R26 p asset period Sp Fo So (fun r O' => r = v ∧ O' = O)):Sp 26 [p.av,iN asset,iN period] [] v O :=
 spec_by (w:=⟨[],[],[],[],[]⟩) (k:=0) (keep:=⟨[0,1,2,3,6,7,9,34,36],[],[],[]⟩) (boxes:=[]) mixed (by exact trivial) Tryz.func26 Tryz.call26 rfl rfl rfl (Nat.le_of_ble_eq_true rfl) (by kernel_rfl) h
end Go.Proofs.YtdeeekgohhkdbaaGreatDoor
