/- Contract: RoundKeeps. -/
import Derived.Test.YtdeeekgohhkdbaaGreatDoorKb
import Derived.Test.YtdeeekgohhkdbaaGreatDoorKb0
namespace Go.Proofs.YtdeeekgohhkdbaaGreatDoor
open Go.RowKit
theorem ne_no {a b:Int} (h:(a != b) = true) (e:a = b):False:=by subst e; simp at h
theorem dec_no {p:Prop} [Decidable p] (h:decide p = true) (e:¬ p):False:=e (of_decide_eq_true h)
theorem task_zero {t:TRoTask} {plan:List (List Int)} (h:planE t plan = 0):(taskE t).2.2 = 0:=Decidable.byContradiction fun he => by
 unfold planE at h
 rw [if_pos he] at h
 exact he h
theorem parts_end {P:List Int} {K:List TRoKind} {i:Nat} (hp:P.length ≤ i) (a b:Int):partsF (P.drop i) (K.drop i) a b = (a,b):=by
 rw [List.drop_of_length_le hp]
 cases K.drop i <;> rfl
set_option maxRecDepth 10000 in
theorem c8 (t:TRoTask) (ht:t.Ok) (plan:List (List Int)):Sp 8 [t.av,.slc 3 (planA plan)] [] (.bool true) []:=s8 t plan _ _ (by
 have hti:=taskIn_of ht
 unfold R8
 have awake:∃ b:Bool,Sp 17 [] [] (.bool b) [] ∧ (AV.bool b = .bool true ∧ ([]:List (List AV)) = []):=⟨_,awake_ok,rfl,rfl⟩
 refine ⟨_,_,_,c19 t hti plan,fun h => ⟨fun _ => awake,fun h' => absurd (h.symm.trans h') (by decide)⟩,fun h => ?_⟩
 have hw:(worthE t plan).2.2 = 0:=by simpa using h
 obtain ⟨hz,hg⟩:=worth_conv hw
 have he:=task_zero hz
 obtain ⟨hv,hp⟩:=plan_in hz
 have hl:=plan_len hz
 have hll:=hv.ll
 have hjl:=hv.jl
 have hkl:=hv.kl
 simp only [List.length_map]
 have awake':∃ b:Bool,Sp 17 [] [] (.bool b) [] ∧ (AV.bool b = .bool true ∧ True):=⟨_,awake_ok,rfl,trivial⟩
 refine ⟨fun g => (ne_no g (by omega)).elim,fun _ => ⟨⟨by omega,by omega,by omega⟩,fun m vs => ∃ (k:Nat) (D:List Int),vs = [.int .i64 k,.agg (markV t.Jobs.length D)] ∧ k ≤ plan.length ∧ m = plan.length - k ∧ goodP (depE t) k D (plan.drop k),⟨_,0,[],by rw [mark_nil]; rfl,by omega,rfl,hg⟩,?_⟩⟩
 rintro m n12 cs13 ⟨k,D,hk,hle,rfl,hgp⟩
 cases hk
 refine ⟨fun h3 => ?_,fun _ => awake'⟩
 have h3:k < plan.length:=by have:=of_decide_eq_true h3; omega
 obtain ⟨L,hL⟩:∃ L,plan[k]? = some L:=⟨_,List.getElem?_eq_getElem h3⟩
 have hmem:L ∈ plan:=List.mem_of_getElem? hL
 have hget:(List.map (fun x => AV.slc 3 (List.map (AV.int .i64) x)) plan)[(k:Int).toNat]? = some (.slc 3 (intsT L)):=by rw [Int.toNat_natCast,List.getElem?_map,hL]; rfl
 have hd:plan.drop k = L :: plan.drop (k + 1):=by rw [List.drop_eq_getElem_cons h3,(List.getElem?_eq_some_iff.1 hL).2]
 obtain ⟨hG,hR⟩:GoodR (depE t) k D L ∧ goodP (depE t) (k + 1) (D ++ L) (plan.drop (k + 1)):=by rw [hd] at hgp; exact hgp
 have hs6:=hp.small L hmem
 have hx:∀ x ∈ L,0 ≤ x ∧ x < t.Jobs.length:=hp.jobs L hmem
 obtain ⟨nd,nD⟩:=new_nodup L D hG.new
 have hT:=times_ok t hti k L (by omega)
 unfold tableV at hT
 rw [times_good he (by omega) hG hx] at hT
 obtain ⟨S,s1,s2,s3⟩:=stops_run L _ hG.can
 have s1:(runJ (depE t) (leaveE (depE t) k) L).stops = S:=s1
 rw [s1] at hT
 have hlor:=(lor_get (t:=t) (k:=(k:Int)) (by omega) (by omega)).1
 refine ⟨_,⟨by omega,by trivial,hget⟩,_,_,_,hT,fun h => (ne_no h rfl).elim,fun _ => ⟨_,⟨by omega,by trivial,hget⟩,fun h => ?_,fun _ => ?_⟩⟩
 ·exact (ne_no h (by rw [List.length_map,intsT_len,s2])).elim
 refine ⟨_,_,_,_,_,_,⟨by omega,by trivial,hlor⟩,fun m vs => ∃ (j:Nat),vs = [.int .i64 (runJ (depE t) (leaveE (depE t) k) (L.take j)).now,.int .i64 (runJ (depE t) (leaveE (depE t) k) (L.take j)).last,.int .i64 ((lorAt t k).Room - (runJ (depE t) (leaveE (depE t) k) (L.take j)).room),.int .i64 j,.agg (markV t.Jobs.length (D ++ L.take j))] ∧ j ≤ L.length ∧ m = L.length - j,⟨_,0,?_,by omega,rfl⟩,?_⟩
 ·have e1:(lorAt t k).Room - (runJ (depE t) (leaveE (depE t) k) (L.take 0)).room = 0:=Int.sub_self (lorAt t k).Room
  have e2:AV.normL (AV.agg (markV t.Jobs.length D)).cells = markV t.Jobs.length (D ++ L.take 0):=by rw [List.take_zero,List.append_nil]; exact mark_norm ..
  rw [e1,e2]; rfl
 rintro m2 n39 n40 n41 n42 cs43 ⟨j,hj,hjL,rfl⟩
 cases hj
 rw [List.length_map,s2]
 have hlr:(runJ (depE t) (leaveE (depE t) k) (L.take j)).RoLorry = lorAt t k:=run_lor _ _
 have hr:=tour_at hv (show k < t.Lorries.length by omega) hG hs6 hx j
 refine ⟨fun h4 => ?_,fun h4 => ?_⟩
 ·have h4:j < L.length:=by have:=of_decide_eq_true h4; omega
  have hc:=can_at L _ j h4 hG.can
  have hnx:=run_take (d:=depE t) (r:=leaveE (depE t) k) h4
  have hst:=s3 j h4
  have hLj:L[j]? = some L[j]:=List.getElem?_eq_getElem h4
  have hnew:L[j] ∉ D ++ L.take j:=by
   intro hm
   rcases List.mem_append.1 hm with hm | hm
   ·exact nD _ (List.getElem_mem h4) hm
   ·have hp:=nd
    rw [← List.take_append_drop j L,List.nodup_append] at hp
    exact hp.2.2 _ hm _ (by rw [List.drop_eq_getElem_cons h4]; exact List.mem_cons_self) rfl
  have htk:L.take (j + 1) = L.take j ++ [L[j]]:=by rw [List.take_add_one,hLj]; rfl
  have hN:=hx _ (List.getElem_mem h4)
  rw [htk] at hnx
  generalize L[j] = n at *
  generalize runJ (depE t) (leaveE (depE t) k) (L.take j) = r at *
  have K:=keep_job he hr hN hc
  have hS:=c27 t hti n
  rw [K.span] at hS
  have hW:=c28 t hti r.last n
  rw [K.way] at hW
  have hLf:=c29 t (startE (depE t) r n) (endE (depE t) r n)
  have hlift:(jobAt t n).Height ≤ (lorAt t k).Lift:=by rw [← hlr]; exact K.lift
  have hst':(S.map TRoStop.av)[(j:Int).toNat]? = some (stopE (depE t) r n).av:=by rw [Int.toNat_natCast,List.getElem?_map,hst]; rfl
  have hLn:(intsT L)[(j:Int).toNat]? = some (.int .i64 n):=by unfold intsT; rw [Int.toNat_natCast,List.getElem?_map,hLj]; rfl
  have hjob:=job_get K.job.1 K.job.2
  obtain ⟨p1,_,_,_,_,_,p7⟩:=job_ok (hv.job _ hjob.2)
  have st:∀ {x},(S.map TRoStop.av)[(j:Int).toNat]? = some x → (0:Int) ≤ j ∧ True ∧ (S.map TRoStop.av)[(j:Int).toNat]? = some x:=fun h => ⟨by omega,trivial,h⟩
  refine ⟨_,⟨by omega,by trivial,hget⟩,n,⟨by omega,by trivial,hLn⟩,fun h => (dec_no h (by omega)).elim,fun _ => ⟨fun h => (dec_no h (by omega)).elim,fun _ => ⟨⟨K.job.1,by omega,by trivial⟩,_,mark_at K.job.1 K.job.2,fun h => (dec_no h hnew).elim,fun _ => ⟨_,_,_,_,st hst',fun h => (ne_no h rfl).elim,fun _ => ⟨⟨K.job.1,by omega,by trivial⟩,?_,_,_,_,_,_,_,_,_,_,⟨K.job.1,by trivial,hjob.1⟩,_,_,_,_,hS,_,_,hW,fun h => (ne_no h rfl).elim,fun _ => ⟨fun h => (ne_no h rfl).elim,fun _ => ⟨fun h => absurd h (show ¬ (!true) = true by decide),fun _ => ⟨_,_,_,_,_,_,⟨by omega,by trivial,hlor⟩,fun h => (dec_no h (by omega)).elim,fun _ => ⟨_,_,_,_,st hst',fun h => (ne_no h rfl).elim,fun _ => ⟨_,_,_,_,st hst',_,_,_,_,st hst',fun h => (dec_no h (Int.not_lt.2 K.arr)).elim,fun _ => ⟨_,_,_,_,st hst',fun h => (dec_no h (Int.not_lt.2 K.frm)).elim,fun _ => ⟨_,_,_,_,st hst',_,_,_,_,st hst',fun h => (ne_no h rfl).elim,fun _ => ⟨_,_,_,_,st hst',fun h => (dec_no h (Int.not_lt.2 K.til)).elim,fun _ => ⟨fun _ => True,⟨fun h5 => ?_,fun _ => ?_⟩,fun _ => ?_⟩⟩⟩⟩⟩⟩⟩⟩⟩⟩⟩⟩⟩⟩
  ·show 0 + n.toNat * 1 + 1 ≤ (markV t.Jobs.length (D ++ L.take j)).length
   rw [mark_len]; omega
  ·obtain ⟨q1,q2,q3⟩:=K.clo (of_decide_eq_true h5)
   have hcl:=clo_get (t:=t) (of_decide_eq_true h5) q1
   refine ⟨_,_,_,_,st hst',_,_,⟨of_decide_eq_true h5,by trivial,hcl⟩,fun h => (dec_no h (Int.not_lt.2 q2)).elim,fun _ => ⟨_,_,_,_,st hst',_,_,⟨of_decide_eq_true h5,by trivial,hcl⟩,fun h => (dec_no h (Int.not_lt.2 q3)).elim,fun _ => ⟨fun h6 => ⟨_,_,_,_,st hst',_,_,_,_,st hst',_,hLf,fun h => ?_,fun _ => ⟨trivial,trivial,trivial,trivial,trivial⟩⟩,fun _ => ⟨trivial,trivial,trivial,trivial,trivial⟩⟩⟩⟩
   rw [K.day h6] at h; exact absurd h (by decide)
  ·refine ⟨fun h6 => ⟨_,_,_,_,st hst',_,_,_,_,st hst',_,hLf,fun h => ?_,fun _ => ⟨trivial,trivial,trivial,trivial,trivial⟩⟩,fun _ => ⟨trivial,trivial,trivial,trivial,trivial⟩⟩
   rw [K.day h6] at h; exact absurd h (by decide)
  ·have hroom:=hr.room
   have hlen:(L.take j).length ≤ 6:=by rw [List.length_take]; omega
   obtain ⟨_,l2,_⟩:=lor_ok hv (lor_get (t:=t) (k:=(k:Int)) (by omega) (by omega)).2
   refine ⟨fun m vs => ∃ (i:Nat) (a b:Int),vs = [.int .i64 ((lorAt t k).Room - a),.int .i64 i] ∧ i ≤ t.Kinds.length ∧ m = t.Kinds.length - i ∧ partsF ((jobAt t n).Parts.drop i) (t.Kinds.drop i) a b = loadF (depE t) r n ∧ r.room - 20000 * (i:Int) ≤ a ∧ a ≤ r.room,⟨_,0,r.room,r.price,rfl,by omega,rfl,rfl,by omega,by omega⟩,?_⟩
   rintro m3 n153 n154 ⟨i,a,b,hi,hil,rfl,hpf,ha,ha'⟩
   cases hi
   refine ⟨fun h7 => ?_,fun h7 => ?_⟩
   ·have h7:i < t.Kinds.length:=by have:=of_decide_eq_true h7; omega
    have hP:(jobAt t n).Parts[i]? = some (jobAt t n).Parts[i]:=List.getElem?_eq_getElem _
    have hK:t.Kinds[i]? = some t.Kinds[i]:=List.getElem?_eq_getElem _
    have hpi:=p7 _ (List.getElem_mem (show i < (jobAt t n).Parts.length by omega))
    have hki:=hv.kinds _ (List.getElem_mem h7)
    generalize (jobAt t n).Parts[i] = x at *
    generalize t.Kinds[i] = y at *
    unfold kindB at hki
    rw [Bool.or_eq_false_iff] at hki
    have k1:=outB_false.1 hki.1
    have mb:0 ≤ x * y.Size ∧ x * y.Size ≤ 20 * 1000:=⟨Int.mul_nonneg hpi.1 k1.1,Int.mul_le_mul hpi.2 k1.2 k1.1 (by omega)⟩
    rw [partsF_at hP hK] at hpf
    refine ⟨x,⟨by omega,by trivial,by rw [Int.toNat_natCast,List.getElem?_map,hP]; rfl⟩,y.Size,y.Price,⟨by omega,by trivial,by rw [Int.toNat_natCast,List.getElem?_map,hK]; rfl⟩,trivial,trivial,trivial,trivial,t.Kinds.length - (i + 1),by omega,i + 1,a - x * y.Size,IntKind.i64.wrap (b + IntKind.i64.wrap (x * y.Price)),?_,by omega,rfl,?_,?_,?_⟩
    ·generalize x * y.Size = z at mb
     rw [i64 (n:=z) (by omega),i64 (n:=(lorAt t k).Room - a + z) (by omega),i64 (n:=(i:Int) + 1) (by omega),show (lorAt t k).Room - a + z = (lorAt t k).Room - (a - z) by omega]; rfl
    ·rw [← hpf]
     have e:IntKind.i64.wrap (a - IntKind.i64.wrap (x * y.Size)) = a - x * y.Size:=by
      generalize x * y.Size = z at mb
      rw [i64 (n:=z) (by omega),i64 (n:=a - z) (by omega)]
     rw [e]
    ·generalize x * y.Size = z at mb
     omega
    ·generalize x * y.Size = z at mb
     omega
   ·have h7:i = t.Kinds.length:=by have:=of_decide_eq_false h7; omega
    rw [parts_end (by omega)] at hpf
    have hab:a = (loadF (depE t) r n).1:=by rw [← hpf]
    have hvt:visitT (depE t) r n = doneE (depE t) r n:=if_pos (can_iff.1 hc).2
    rw [hvt] at hnx
    refine ⟨_,_,_,_,st hst',trivial,L.length - (j + 1),by omega,j + 1,?_,by omega,rfl⟩
    have e2:AV.normL (setCells (AV.agg (markV t.Jobs.length (D ++ L.take j))).cells (0 + n.toNat * 1) [AV.bool true]) = markV t.Jobs.length (D ++ L.take (j + 1)):=by
     rw [htk,← List.append_assoc,← mark_set K.job.1 K.job.2]
     exact (congrArg AV.normL (mark_set K.job.1 K.job.2)).trans ((mark_norm ..).trans (mark_set K.job.1 K.job.2).symm)
    rw [e2,i64 (n:=(j:Int) + 1) (by omega),htk,hnx,hab]; rfl
 ·have h4:j = L.length:=by have:=of_decide_eq_false h4; omega
  subst h4
  rw [List.take_of_length_le (Nat.le_refl _)] at *
  have hG2:=goes_iff.1 hG.goes
  generalize runJ (depE t) (leaveE (depE t) k) L = r at *
  rw [hlr] at hG2
  have hW:=c28 t hti r.last (-1)
  rw [way_in he hr.last ⟨by omega,by omega⟩] at hW
  refine ⟨_,_,hW,fun h => (ne_no h rfl).elim,fun _ => ⟨fun h => (ne_no h rfl).elim,fun _ => ⟨_,_,_,_,_,_,⟨by omega,by trivial,hlor⟩,fun h => (dec_no h (Int.not_lt.2 hG2.1)).elim,fun _ => ⟨_,_,_,_,_,_,⟨by omega,by trivial,hlor⟩,fun h => (dec_no h (by omega)).elim,fun _ => ⟨trivial,plan.length - (k + 1),by omega,k + 1,D ++ L,?_,by omega,rfl,hR⟩⟩⟩⟩⟩
  have e2:AV.normL (AV.agg (markV t.Jobs.length (D ++ L))).cells = markV t.Jobs.length (D ++ L):=mark_norm ..
  rw [e2,i64 (n:=(k:Int) + 1) (by omega)]; rfl)
end Go.Proofs.YtdeeekgohhkdbaaGreatDoor
