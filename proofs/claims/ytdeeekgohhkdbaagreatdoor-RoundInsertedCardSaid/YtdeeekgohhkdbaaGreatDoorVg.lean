/- Contracts: a list without a number; whether a list has one. Plain: what is found is the cheapest plan with the job more. Plain: what a plan with a job more is worth. Plain: the rows of a plan with a job more. The law RoundInserted: its walk. -/
import Derived.Test.YtdeeekgohhkdbaaGreatDoorVb
import Derived.Test.YtdeeekgohhkdbaaGreatDoorQd
namespace Go.Proofs.YtdeeekgohhkdbaaGreatDoor
open Go.RowKit
def LP (l:List Int) (n:Int):Bool:=l.any fun x=>x == n
theorem IF {l:List Int} {k:Nat} {f:Int->Bool} (h:k<l.length):(l.drop k).any f=(f l[k] || (l.drop (k+1)).any f):=by
 rw [List.drop_eq_getElem_cons h,List.any_cons]
theorem vX {l:List Int} {k:Nat} (h:k<l.length):(List.map (AV.int .i64) l)[((k:Nat):Int).toNat]?=some (.int .i64 l[k]):=by
 rw [Int.toNat_natCast,List.getElem?_map,List.getElem?_eq_getElem h]; rfl
def R40 (l:List Int) (n:Int) (_S:SpecF) (_Fr:FreshF) (_Sq:SeqF) (Q:yj):Prop :=
 ∃ (I0:Nat->List AV->Prop),(∃ m2,I0 m2 [iN 0])/\∀ (m2:Nat) (n3:Int),I0 m2 [iN n3]->(decide (n3<(↑(List.map (AV.int IntKind.i64) l).length:Int))=true->∃ n7,((0:Int)<=n3/\(1:Nat)=(1:Nat)/\(List.map (AV.int IntKind.i64) l)[n3.toNat]?=some (iN n7))/\((n7 == n)=true->Q (.bool true) [])/\((n7 == n)=false->∃ k11,k11<m2/\I0 k11 [iN (IntKind.i64.wrap (n3+1))]))/\(decide (n3<(↑(List.map (AV.int IntKind.i64) l).length:Int))=false->Q (.bool false) [])
theorem s40 (l:List Int) (n:Int) (v:AV) (O:List (List AV)) (h:R40 l n Sp Fo So (fun r O'=>r=v/\O'=O)):Sp 40 [.slc 3 (List.map (AV.int .i64) l),iN n] [] v O :=
 ye (w:=⟨[],[],[],[],[]⟩) (k:=0) (keep:=⟨[0,1,4,5,9,17],[⟨2,[(5,iN 0)],[],[],[],[],[]⟩],[],[]⟩) (boxes:=[]) mixed (by exact trivial) Tryz.func40 Tryz.call40 rfl rfl rfl (Nat.le_of_ble_eq_true rfl) (by kernel_rfl) h
theorem c40 (l:List Int) (n:Int) (hl:l.length<=4611686018427387904):Sp 40 [.slc 3 (ym l),.int .i64 n] [] (.bool (LP l n)) []:=s40 l n _ _ (by
 unfold R40
 refine ⟨fun m vs=>∃ k:Nat,vs=[.int .i64 k]/\k<=l.length/\m=l.length-k/\(l.drop k).any (fun x=>x == n)=LP l n,⟨_,0,rfl,by omega,rfl,rfl⟩,?_⟩
 rintro m n3 ⟨k,hk,hle,rfl,hn⟩
 cases hk
 simp only [List.length_map]
 refine ⟨fun h3=>?_,fun h3=>⟨?_,by trivial⟩⟩
 ·have h3:k<l.length:=by have:=zt_ h3; omega
  have hat:=IF (f:=fun x=>x == n) h3
  refine ⟨_,⟨by omega,by trivial,vX h3⟩,fun h4=>⟨?_,by trivial⟩,fun h4=>⟨_,?_,k+1,?_,by omega,rfl,?_⟩⟩
  ·rw [<- hn,hat,h4]; rfl
  ·omega
  ·rw [yq (by omega)]
  ·rw [<- hn,hat,h4]; rfl
 ·have:k=l.length:=by have:=zf_ h3; omega
  rw [<- hn,this,List.drop_length]; rfl)
def yP (l:List Int) (n:Int):List Int:=l.filter fun x=>x != n
theorem NF {l:List Int} {k:Nat} {f:Int->Bool} (h:k<l.length):(l.take (k+1)).filter f=(l.take k).filter f++(if f l[k] then [l[k]] else []):=by
 rw [List.take_add_one,List.getElem?_eq_getElem h,List.filter_append]
 cases hf:f l[k]<;>simp [hf]
def R41 (l:List Int) (n:Int) (_S:SpecF) (_Fr:FreshF) (_Sq:SeqF) (Q:yj):Prop :=
 ∃ (I0:Nat->List AV->Prop),(∃ m2,I0 m2 [iN 0,.slc 3 []])/\∀ (m2:Nat) (n3:Int) (es4:List AV),I0 m2 [iN n3,.slc 3 es4]->(decide (n3<(↑(List.map (AV.int IntKind.i64) l).length:Int))=true->∃ n8,((0:Int)<=n3/\(1:Nat)=(1:Nat)/\(List.map (AV.int IntKind.i64) l)[n3.toNat]?=some (iN n8))/\((n8 != n)=true->∃ n12,((0:Int)<=n3/\(1:Nat)=(1:Nat)/\(List.map (AV.int IntKind.i64) l)[n3.toNat]?=some (iN n12))/\yx (1:Nat) [iN n12]/\((List.flatMap AV.cells es4).length=es4.length*1/\(es4.length+1+(512:Nat))*41<=(1125899906842624:Nat)/\yw [iN n12]=true/\yw (List.flatMap AV.cells es4)=true)/\∃ es16,(es16.length=es4.length+1/\List.flatMap AV.cells es16=List.flatMap AV.cells es4++[iN n12])/\∃ k18,k18<m2/\I0 k18 [iN (IntKind.i64.wrap (n3+1)),.slc 3 es16])/\((n8 != n)=false->∃ es12,(es12.length=es4.length/\List.flatMap AV.cells es12=List.flatMap AV.cells es4)/\∃ k14,k14<m2/\I0 k14 [iN (IntKind.i64.wrap (n3+1)),.slc 3 es12]))/\(decide (n3<(↑(List.map (AV.int IntKind.i64) l).length:Int))=false->((0:Nat)+es4.length*1<=(List.flatMap AV.cells es4).length/\yw (List.flatMap AV.cells es4)=true)/\Q (.slc 3 (chunks (1:Nat) (yk Tryz.prog (3:Nat)) es4.length (List.drop (0:Nat) (List.flatMap AV.cells es4)))) [])
theorem s41 (l:List Int) (n:Int) (v:AV) (O:List (List AV)) (h:R41 l n Sp Fo So (fun r O'=>r=v/\O'=O)):Sp 41 [.slc 3 (List.map (AV.int .i64) l),iN n] [] v O :=
 ye (w:=⟨[],[],[],[],[]⟩) (k:=0) (keep:=⟨[0,1,4,5,6,10,18],[⟨3,[(6,iN 0)],[(5,3)],[],[],[],[]⟩],[],[]⟩) (boxes:=[]) mixed (by exact trivial) Tryz.func41 Tryz.call41 rfl rfl rfl (Nat.le_of_ble_eq_true rfl) (by kernel_rfl) h
theorem c41 (l:List Int) (n:Int) (hl:l.length<=1000):Sp 41 [.slc 3 (ym l),.int .i64 n] [] (.slc 3 (ym (yP l n))) []:=s41 l n _ _ (by
 unfold R41
 refine ⟨fun m vs=>∃ k:Nat,vs=[.int .i64 k,.slc 3 (ym (yP (l.take k) n))]/\k<=l.length/\m=l.length-k,⟨_,0,rfl,by omega,rfl⟩,?_⟩
 rintro m n3 es4 ⟨k,hk,hle,rfl⟩
 cases hk
 simp only [List.length_map]
 have hb:(yP (l.take k) n).length<=l.length:=Nat.le_trans (List.length_filter_le ..) (by rw [List.length_take]; omega)
 have hc:(List.flatMap AV.cells (ym (yP (l.take k) n))).length=(yP (l.take k) n).length:=by rw [xj yT,yu]
 have ho:yw (List.flatMap AV.cells (ym (yP (l.take k) n)))=true:=by rw [xj yT]; exact qX _
 refine ⟨fun h3=>?_,fun h3=>?_⟩
 ·have h3:k<l.length:=by have:=zt_ h3; omega
  have hf:=NF (f:=fun x=>x != n) h3
  refine ⟨_,⟨by omega,by trivial,vX h3⟩,fun h4=>?_,fun h4=>?_⟩
  ·have e:yP (l.take (k+1)) n=yP (l.take k) n++[l[k]]:=by unfold yP; rw [hf,h4]; rfl
   refine ⟨_,⟨by omega,by trivial,vX h3⟩,fun v hv=>(by rw [List.mem_singleton.1 hv]; rfl),⟨by rw [hc,yu,Nat.mul_one],by rw [yu]; omega,rfl,ho⟩,ym (yP (l.take (k+1)) n),⟨by rw [e,yu,yu,List.length_append]; rfl,by rw [e,wY,List.flatMap_append]; rfl⟩,_,(by omega:l.length-(k+1)<l.length-k),k+1,by rw [yq (by omega)],by omega,rfl⟩
  ·have e:yP (l.take (k+1)) n=yP (l.take k) n:=by unfold yP; rw [hf,h4]; exact List.append_nil _
   refine ⟨ym (yP (l.take (k+1)) n),⟨by rw [e],by rw [e]⟩,_,(by omega:l.length-(k+1)<l.length-k),k+1,by rw [yq (by omega)],by omega,rfl⟩
 ·have h3:k=l.length:=by have:=zf_ h3; omega
  subst h3
  rw [List.take_length] at *
  refine ⟨⟨by rw [hc,yu]; omega,ho⟩,?_,by trivial⟩
  rw [MU,List.drop_zero,show chunks 1 false (ym (yP l n)).length (List.flatMap AV.cells (ym (yP l n)))=ym (yP l n) from vl (Vc yT)])
section
variable {d:TDepot} {plan:List (List Int)} {job:Int}
def vI (d:TDepot) (plan:List (List Int)) (job:Int) (S:Nat->Nat->Prop) (s:InS):Prop :=
 (∀ p,s.1=some p->∃ i k,S i k/\p=yL plan i k job/\(yD d p).faults.length=0/\s.2=(yD d p).cost) /\
 ∀ i k,S i k->(yD d (yL plan i k job)).faults.length=0->s.1≠none/\s.2<=(yD d (yL plan i k job)).cost
theorem vI.weak {S S':Nat->Nat->Prop} {s:InS} (h:vI d plan job S s) (hS:∀ i k,S i k↔S' i k):vI d plan job S' s :=
 ⟨fun p hp=>by obtain ⟨i,k,h1,h2⟩:=h.1 p hp; exact ⟨i,k,(hS i k).1 h1,h2⟩,fun i k hk=>h.2 i k ((hS i k).2 hk)⟩
theorem TS {S:Nat->Nat->Prop} {s:InS} {i k:Nat} (h:vI d plan job S s):vI d plan job (fun a b=>S a b\/(a=i/\b=k)) (kC d plan job i s k):=by
 unfold kC
 split
 ·rename_i hc
  obtain ⟨h1,h2⟩:=hc
  refine ⟨fun p hp=>⟨i,k,.inr ⟨rfl,rfl⟩,?_⟩,fun a b hab hf=>⟨by simp,?_⟩⟩
  ·cases hp; exact ⟨rfl,h1,rfl⟩
  ·rcases hab with hab | ⟨rfl,rfl⟩
   ·obtain ⟨h3,h4⟩:=h.2 a b hab hf
    rcases h2 with h2 | h2
    ·exact absurd h2 h3
    ·exact Int.le_trans (Int.le_of_lt h2) h4
   ·exact Int.le_refl _
 ·rename_i hc
  refine ⟨fun p hp=>?_,fun a b hab hf=>?_⟩
  ·obtain ⟨a,b,h1,h2⟩:=h.1 p hp
   exact ⟨a,b,.inl h1,h2⟩
  ·rcases hab with hab | ⟨rfl,rfl⟩
   ·exact h.2 a b hab hf
   ·by_cases hn:s.1=none
    ·exact absurd ⟨hf,.inl hn⟩ hc
    ·refine ⟨hn,?_⟩
     by_cases hl:(yD d (yL plan a b job)).cost<s.2
     ·exact absurd ⟨hf,.inr hl⟩ hc
     ·omega
theorem Qa {i:Nat}:∀ (n k:Nat) {S:Nat->Nat->Prop} {s:InS},vI d plan job S s->vI d plan job (fun a b=>S a b\/(a=i/\k<=b/\b<k+n)) (xY d plan job i s k n):=by
 intro n
 induction n with
 | zero=>intro k S s h; exact h.weak fun a b=>⟨.inl,fun h=>h.elim id fun h=>by omega⟩
 | succ n ih =>
  intro k S s h
  rw [UN]
  refine (ih (k+1) (TS (i:=i) (k:=k) h)).weak fun a b=>⟨?_,?_⟩
  ·rintro ((h | ⟨h1,h2⟩) | ⟨h1,h2⟩)
   ·exact .inl h
   ·exact .inr ⟨h1,by omega⟩
   ·exact .inr ⟨h1,by omega⟩
  ·rintro (h | ⟨h1,h2⟩)
   ·exact .inl (.inl h)
   ·by_cases hb:b=k
    ·exact .inl (.inr ⟨h1,hb⟩)
    ·exact .inr ⟨h1,by omega⟩
theorem S9:∀ (n i:Nat) {S:Nat->Nat->Prop} {s:InS},vI d plan job S s->vI d plan job (fun a b=>S a b\/((i<=a/\a<i+n)/\b<(plan.getD a []).length+1)) (xX d plan job s i n):=by
 intro n
 induction n with
 | zero=>intro i S s h; exact h.weak fun a b=>⟨.inl,fun h=>h.elim id fun h=>by omega⟩
 | succ n ih =>
  intro i S s h
  rw [UM]
  refine (ih (i+1) (Qa (i:=i) _ 0 h)).weak fun a b=>⟨?_,?_⟩
  ·rintro ((h | ⟨rfl,h2⟩) | ⟨h1,h2⟩)
   ·exact .inl h
   ·exact .inr ⟨by omega,by omega⟩
   ·exact .inr ⟨by omega,h2⟩
  ·rintro (h | ⟨h1,h2⟩)
   ·exact .inl (.inl h)
   ·by_cases hb:a=i
    ·subst hb; exact .inl (.inr ⟨rfl,by omega,by omega⟩)
    ·exact .inr ⟨by omega,h2⟩
end
theorem PK {t:TRoTask} {plan p:List (List Int)} {job:Int} (h:yY t plan job=(p,0)) :
  jv t plan=0/\(yD (yg t) plan).faults.length=0/\qu job 0 (IntKind.i64.wrap ((t.Jobs.length:Int)-1))=false/\job∉plan.flatten /\
  (∃ i k,i<plan.length/\k<=(plan.getD i []).length/\p=yL plan i k job)/\(yD (yg t) p).faults.length=0 /\
  ∀ i k,i<plan.length->k<=(plan.getD i []).length->(yD (yg t) (yL plan i k job)).faults.length=0->(yD (yg t) p).cost<=(yD (yg t) (yL plan i k job)).cost:=by
 unfold yY at h
 by_cases h1:jv t plan≠0
 ·rw [if_pos h1] at h; exact absurd (congrArg Prod.snd h) h1
 rw [if_neg h1] at h
 by_cases h2:(yD (yg t) plan).faults.length>0
 ·rw [if_pos h2] at h; exact absurd (congrArg Prod.snd h) (by simp)
 rw [if_neg h2] at h
 by_cases h3:qu job 0 (IntKind.i64.wrap ((t.Jobs.length:Int)-1))=true
 ·rw [if_pos h3] at h; exact absurd (congrArg Prod.snd h) (by simp)
 rw [if_neg h3] at h
 by_cases h4:job∈plan.flatten
 ·rw [if_pos h4] at h; exact absurd (congrArg Prod.snd h) (by simp)
 rw [if_neg h4] at h
 have hb:=S9 (d:=yg t) (plan:=plan) (job:=job) plan.length 0 (S:=fun _ _=>False) (s:=(none,0)) ⟨fun p hp=>(by cases hp),fun _ _ h=>h.elim⟩
 generalize xX (yg t) plan job (none,0) 0 plan.length=R at h hb
 cases hR:R.1 with
 | none=>rw [hR] at h; exact absurd (congrArg Prod.snd h) (by simp)
 | some q =>
  rw [hR] at h
  obtain rfl:q=p:=congrArg Prod.fst h
  obtain ⟨i,k,h5,h6,h7,h8⟩:=hb.1 q hR
  rcases h5 with h5 | ⟨h5,h9⟩
  ·exact h5.elim
  refine ⟨Decidable.not_not.1 h1,by omega,by simpa using h3,h4,⟨i,k,by omega,by omega,h6⟩,h7,fun a b ha hb' hf=>?_⟩
  have:=(hb.2 a b (.inr ⟨by omega,by omega⟩) hf).2
  rw [h8] at this
  exact this
def Xt (t:TRoTask) (L:List Int):Int:=(L.map fun n=>(yZ t n).Value).sum
theorem kh (t:TRoTask) (a b:List Int):Xt t (a++b)=Xt t a+Xt t b:=by simp [Xt,List.map_append,List.sum_append]
theorem Tg (t:TRoTask) (n:Int) (L:List Int):Xt t (n::L)=(yZ t n).Value+Xt t L:=rfl
theorem Mm {t:TRoTask} (hv:kp t):∀ (L:List Int) (r:TTour) (m:Nat),YX t r m->m+L.length<=10->(∀ n∈L,0<=n/\n<t.Jobs.length)->V6 (yg t) r L=true->(wD (yg t) r L).value=r.value+Xt t L:=by
 intro L
 induction L with
 | nil=>intro r m _ _ _ _; show r.value=r.value+0; omega
 | cons n L ih =>
  intro r m hr hm hx hc
  rw [List.length_cons] at hm
  unfold V6 at hc
  rw [Bool.and_eq_true] at hc
  obtain ⟨h0,h1⟩:=hx n List.mem_cons_self
  have hb:=hc.1
  unfold SH at hb
  rw [Bool.and_eq_true] at hb
  obtain ⟨v1,_,_,_,_,v6⟩:=QW hv hr (by omega) h0 h1 hb.2
  have:=ih _ (m+1) v1 (by omega) (fun x hx'=>hx x (List.mem_cons_of_mem _ hx')) hc.2
  show (wD (yg t) (qb (yg t) r n) L).value=_
  rw [this,v6,Tg]
  omega
theorem Th {t:TRoTask} (hv:kp t):∀ (P:List (List Int)) (i:Nat) (D:List Int),i+P.length=t.Lorries.length->ue (yg t) i D P->X7 t P->Xu (yg t) i P=Xt t P.flatten:=by
 intro P
 induction P with
 | nil=>intro i D _ _ _; rfl
 | cons L P ih =>
  intro i D hl hg hP
  rw [List.length_cons] at hl
  obtain ⟨p1,p2⟩:=hP L List.mem_cons_self
  have h1:=Mm hv L _ 0 (Qn hv (show i<t.Lorries.length by omega)) (by omega) p2 hg.1.can
  have h2:=ih (i+1) _ (by omega) hg.2 fun M hM=>hP M (List.mem_cons_of_mem _ hM)
  show (wD (yg t) (yI (yg t) i) L).value+Xu (yg t) (i+1) P=_
  have h0:(yI (yg t) i).value=0:=rfl
  rw [h1,h2,List.flatten_cons,kh,h0]
  omega
theorem J4 {t:TRoTask}:∀ (P:List (List Int)) (i:Nat) (M:List Int),i<P.length->Xt t (P.set i M).flatten=Xt t P.flatten-Xt t (P.getD i [])+Xt t M:=by
 intro P
 induction P with
 | nil=>intro i M h; simp at h
 | cons L P ih =>
  intro i M h
  cases i with
  | zero=>simp only [List.set_cons_zero,List.flatten_cons,kh,List.getD_cons_zero]; omega
  | succ i =>
   rw [List.set_cons_succ,List.flatten_cons,List.flatten_cons,kh,kh,List.getD_cons_succ,ih i M (by simpa using h)]
   omega
theorem J3 {t:TRoTask} {P:List (List Int)} {i k:Nat} {job:Int} (h:i<P.length):Xt t (yL P i k job).flatten=Xt t P.flatten+(yZ t job).Value:=by
 unfold yL
 rw [J4 P i _ h,kh,Tg]
 have:=kh t ((P.getD i []).take k) ((P.getD i []).drop k)
 rw [List.take_append_drop] at this
 omega
theorem PW:∀ (L D:List Int),Qt D L=true->L.Nodup/\∀ x∈L,x∉D:=by
 intro L
 induction L with
 | nil=>intro D _; exact ⟨List.nodup_nil,fun x hx=>(by cases hx)⟩
 | cons n L ih =>
  intro D h
  unfold Qt at h
  rw [Bool.and_eq_true] at h
  obtain ⟨h1,h2⟩:=ih _ h.2
  refine ⟨List.nodup_cons.2 ⟨fun hn=>h2 n hn (List.mem_append.2 (.inr (List.mem_singleton.2 rfl))),h1⟩,fun x hx=>?_⟩
  rcases List.mem_cons.1 hx with rfl | hx
  ·simpa using h.1
  ·exact fun hd=>h2 x hx (List.mem_append.2 (.inl hd))
theorem PB {d:TDepot}:∀ (P:List (List Int)) (i:Nat) (D:List Int),ue d i D P->∀ L∈P,L.Nodup:=by
 intro P
 induction P with
 | nil=>intro i D _ L h; cases h
 | cons M P ih =>
  intro i D hg L h
  rcases List.mem_cons.1 h with rfl | h
  ·exact (PW _ _ hg.1.new).1
  ·exact ih _ _ hg.2 L h
theorem Md:∀ (n:Nat) (L:List Int),L.Nodup->(∀ x∈L,0<=x/\x<n)->L.length<=n:=by
 intro n
 induction n with
 | zero =>
  intro L _ h
  cases L with
  | nil=>exact Nat.le_refl _
  | cons x r=>have:=h x List.mem_cons_self; omega
 | succ n ih =>
  intro L hd h
  by_cases hm:(n:Int)∈L
  ·have h1:=ih (L.erase n) (hd.erase _) fun x hx=>by
    have h2:=h x (List.mem_of_mem_erase hx)
    have h3:x≠n:=fun he=>by rw [he] at hx; exact (hd.mem_erase_iff.1 hx).1 rfl
    omega
   have h4:=List.length_erase_of_mem hm
   omega
  ·have:=ih L hd fun x hx=>by
    have h2:=h x hx
    have h3:x≠n:=fun he=>hm (he▸hx)
    omega
   omega
theorem LV {t:TRoTask} {plan:List (List Int)} {job:Int} (hz:jv t plan=0) (hj:0<=job/\job<t.Jobs.length) {i k:Nat} (hi:i<plan.length) (hk:k<=(plan.getD i []).length) (hf:(yD (yg t) (yL plan i k job)).faults.length=0) :
  jv t (yL plan i k job)=0/\ue (yg t) 0 [] (yL plan i k job)/\X7 t (yL plan i k job):=by
 obtain ⟨hv,hp⟩:=Xm hz
 have h7:=LU hp (job:=job) hj hi hk
 have hg:ue (yg t) 0 [] (yL plan i k job):=Vz _ 0 ⟨[],0,0,[]⟩ (fun L hL n hn=>(h7.jobs L hL n hn).1) (by show (yD (yg t) (yL plan i k job)).faults.length<=0; omega)
 have hr:X7 t (yL plan i k job):=fun L hL=>⟨Nat.le_trans (Md t.Jobs.length L (PB _ _ _ hg L hL) (h7.jobs L hL)) hv.jl,h7.jobs L hL⟩
 have he:(jx t).2.2=0:=by
  unfold jv at hz
  by_cases h0:(jx t).2.2≠0
  ·rw [if_pos h0] at hz; exact absurd hz h0
  ·exact Decidable.not_not.1 h0
 exact ⟨Mg he (by rw [xk]; exact Xn hz) hr,hg,hr⟩
section
variable {plan:List (List Int)} {job:Int} {i0 k0 i:Nat}
theorem P9:(yL plan i0 k0 job).getD i []=if i=i0/\i<plan.length then (plan.getD i0 []).take k0++job::(plan.getD i0 []).drop k0 else plan.getD i []:=by
 unfold yL
 rw [List.getD_eq_getElem?_getD,List.getD_eq_getElem?_getD,List.getElem?_set]
 by_cases h:i0=i
 ·subst h
  by_cases hl:i0<plan.length
  ·simp [hl]
  ·simp [hl]
 ·rw [if_neg h,if_neg (fun hh=>h hh.1.symm)]
  simp
theorem S0 (hi:i<plan.length):∀ x∈plan.getD i [],x∈plan.flatten:=fun x hx=>List.mem_flatten.2 ⟨_,(vq hi).1,hx⟩
theorem YS {l:List Int} {n:Int} (h:n∉l):yP l n=l:=by
 unfold yP
 rw [List.filter_eq_self]
 intro x hx
 have:x≠n:=fun he=>h (he▸hx)
 simpa using this
theorem QH (hi:i<plan.length) (hj:job∉plan.flatten):yP ((yL plan i0 k0 job).getD i []) job=plan.getD i []:=by
 have hn:job∉plan.getD i []:=fun h=>hj (S0 hi _ h)
 rw [P9]
 split
 ·rename_i h
  obtain ⟨rfl,-⟩:=h
  have h1:yP ((plan.getD i []).take k0) job=(plan.getD i []).take k0:=YS fun h=>hn (List.mem_of_mem_take h)
  have h2:yP ((plan.getD i []).drop k0) job=(plan.getD i []).drop k0:=YS fun h=>hn (List.mem_of_mem_drop h)
  have h3:yP ((plan.getD i []).take k0++job::(plan.getD i []).drop k0) job=yP ((plan.getD i []).take k0) job++yP ((plan.getD i []).drop k0) job:=by
   unfold yP
   rw [List.filter_append,List.filter_cons,if_neg (by simp)]
  rw [h3,h1,h2,List.take_append_drop]
 ·exact YS hn
theorem JV (hi:i<plan.length) (hj:job∉plan.flatten):LP ((yL plan i0 k0 job).getD i []) job=decide (i=i0):=by
 have hn:job∉plan.getD i []:=fun h=>hj (S0 hi _ h)
 unfold LP
 rw [P9,Bool.eq_iff_iff,List.any_eq_true]
 split
 ·rename_i h
  exact ⟨fun _=>by simpa using h.1,fun _=>⟨job,by simp,by simp⟩⟩
 ·rename_i h
  refine ⟨fun ⟨x,h1,h2⟩=>?_,fun h1=>?_⟩
  ·have:x=job:=by simpa using h2
   exact absurd (this▸h1) hn
  ·exact absurd ⟨by simpa using h1,hi⟩ h
theorem JW (hi:i<plan.length) (hk:k0<=(plan.getD i0 []).length):((yL plan i0 k0 job).getD i []).length<=(plan.getD i []).length+1:=by
 rw [P9]
 split
 ·rename_i h
  obtain ⟨rfl,-⟩:=h
  simp only [List.length_append,List.length_take,List.length_cons,List.length_drop]
  omega
 ·omega
end
theorem Ju {α β:Type} (x:α × β) {a:α} {b:β} (h1:x.1=a) (h2:x.2=b):x=(a,b):=by cases x; cases h1; cases h2; rfl
theorem U9 (P:List (List Int)):(yz P).length=P.length:=List.length_map ..
theorem KM {P:List (List Int)} {a:Nat} {M:List Int} (h:a<P.length):setCells (yz P) a [.slc 3 (ym M)]=yz (P.set a M):=by
 unfold setCells yz
 rw [List.map_set,List.set_eq_take_append_cons_drop,if_pos (by rw [List.length_map]; exact h)]
 rfl
theorem Uu {n:Nat} {l:List AV} (h:l.length=n):chunks 1 false n (List.drop 0 l)=l:=by
 unfold chunks; rw [if_neg (by simp),List.drop_zero]; exact List.take_of_length_le (by omega)
theorem V0 {t:TRoTask} {plan:List (List Int)} (h:(js t plan).2.2=0):(yD (yg t) plan).faults.length=0/\(js t plan).2.1=(yD (yg t) plan).cost:=by
 unfold js at h ⊢
 by_cases h0:jv t plan≠0
 ·rw [if_pos h0] at h; exact absurd h h0
 rw [if_neg h0] at h ⊢
 by_cases h1:(yD (yg t) plan).faults.length>0
 ·rw [if_pos h1] at h; exact absurd h (by simp)
 ·rw [if_neg h1]; exact ⟨by omega,rfl⟩
abbrev MF (t:TRoTask) (plan:List (List Int)) (x0 x1 x2:Int) (Q:yj) (p0_:Int) (p1_:List AV) (p2_:Int) (p3_:Nat) (p4_:Nat->List AV->Prop):Prop :=
 decide (p0_<(↑p1_.length:Int))=true->∃ n68,((0:Int)<=p0_/\(1:Nat)=(1:Nat)/\p1_[p0_.toNat]?=some (iN n68))/\∃ es70,((0:Int)<=p2_/\(1:Nat)=(1:Nat)/\(List.map (fun x=>AV.slc 3 (List.map (AV.int IntKind.i64) x)) plan)[p2_.toNat]?=some (.slc 3 es70))/\∃ n72,((0:Int)<=p0_/\(1:Nat)=(1:Nat)/\es70[p0_.toNat]?=some (iN n72))/\((n68 != n72)=true->Q (.bool false) [])/\((n68 != n72)=false->t.cs=t.cs/\yi [iN x0,iN x1,iN x2]/\∃ k78,k78<p3_/\p4_ k78 [iN (IntKind.i64.wrap (p0_+1))])
def R14 (t:TRoTask) (plan:List (List Int)) (x0 x1 x2:Int) (S:SpecF) (_Fr:FreshF) (_Sq:SeqF) (Q:yj):Prop :=
 ∃ es0 n1,S 39 [t.av,.slc 3 (List.map (fun x=>AV.slc 3 (List.map (AV.int IntKind.i64) x)) plan),iN x0] [] (.tup [AV.slc 3 es0,iN n1]) []/\((n1 != 0)=true->((n1 != 0)=true->∃ b7,S 17 [] [] (.bool b7) []/\Q (.bool b7) [])/\((n1 != 0)=false->Q (.bool false) []))/\((n1 != 0)=false->(decide (x0<0)=true->((n1 != 0)=true->∃ b9,S 17 [] [] (.bool b9) []/\Q (.bool b9) [])/\((n1 != 0)=false->Q (.bool false) []))/\(decide (x0<0)=false->(decide (x0>=(↑(List.map TRoJob.av t.Jobs).length:Int))=true->((n1 != 0)=true->∃ b11,S 17 [] [] (.bool b11) []/\Q (.bool b11) [])/\((n1 != 0)=false->Q (.bool false) []))/\(decide (x0>=(↑(List.map TRoJob.av t.Jobs).length:Int))=false->∃ n9 n10 n11,S 19 [t.av,.slc 3 (List.map (fun x=>AV.slc 3 (List.map (AV.int IntKind.i64) x)) plan)] [] (.tup [iN n9,iN n10,iN n11]) []/\∃ n13 n14 n15,S 19 [t.av,.slc 3 es0] [] (.tup [iN n13,iN n14,iN n15]) []/\((n11 != 0)=true->Q (.bool false) [])/\((n11 != 0)=false->((n15 != 0)=true->Q (.bool false) [])/\((n15 != 0)=false->(((↑es0.length:Int) != (↑(List.map (fun x=>AV.slc 3 (List.map (AV.int IntKind.i64) x)) plan).length:Int))=true->Q (.bool false) [])/\(((↑es0.length:Int) != (↑(List.map (fun x=>AV.slc 3 (List.map (AV.int IntKind.i64) x)) plan).length:Int))=false->∃ s23 n24 n25 n26 n27 es28 n29 b30 n31,((0:Int)<=x0/\(9:Nat)=(9:Nat)/\(List.map TRoJob.av t.Jobs)[x0.toNat]?=some (.agg [AV.str s23,iN n24,iN n25,iN n26,iN n27,.slc 3 es28,iN n29,.bool b30,iN n31]))/\((n13 != IntKind.i64.wrap (n9+n31))=true->Q (.bool false) [])/\((n13 != IntKind.i64.wrap (n9+n31))=false->∃ (I35:Nat->List AV->Prop),(∃ m37,I35 m37 TEncl.zero.cs)/\∀ (m37:Nat) (n38 n39:Int),I35 m37 [iN n38,iN n39]->(decide (n39<(↑es0.length:Int))=true->∃ es43,((0:Int)<=n39/\(1:Nat)=(1:Nat)/\es0[n39.toNat]?=some (.slc 3 es43))/\∃ b45,S 40 [AV.slc 3 es43,iN x0] [] (.bool b45) []/\(b45=true->∃ es49,((0:Int)<=n39/\(1:Nat)=(1:Nat)/\es0[n39.toNat]?=some (.slc 3 es49))/\∃ es51,S 41 [AV.slc 3 es49,iN x0] [] (.slc 3 es51) []/\∃ es53,((0:Int)<=n39/\(1:Nat)=(1:Nat)/\(List.map (fun x=>AV.slc 3 (List.map (AV.int IntKind.i64) x)) plan)[n39.toNat]?=some (.slc 3 es53))/\(((↑es51.length:Int) != (↑es53.length:Int))=true->Q (.bool false) [])/\(((↑es51.length:Int) != (↑es53.length:Int))=false->∃ es57,((0:Int)<=n39/\(1:Nat)=(1:Nat)/\es0[n39.toNat]?=some (.slc 3 es57))/\(decide ((↑es57.length:Int)>IntKind.i64.wrap ((↑es51.length:Int)+(1:Int)))=true->Q (.bool false) [])/\(decide ((↑es57.length:Int)>IntKind.i64.wrap ((↑es51.length:Int)+(1:Int)))=false->∃ (I61:Nat->List AV->Prop),(∃ m63,I61 m63 [iN 0])/\∀ (m63:Nat) (n64:Int),I61 m63 [iN n64]->(MF t plan x0 x1 x2 Q n64 es51 n39 m63 I61)/\(decide (n64<(↑es51.length:Int))=false->t.cs=t.cs/\yi [iN x0,iN x1,iN x2]/\∃ k70,k70<m37/\I35 k70 [iN (IntKind.i64.wrap (n38+1)),iN (IntKind.i64.wrap (n39+1))]))))/\(b45=false->∃ es49,((0:Int)<=n39/\(1:Nat)=(1:Nat)/\es0[n39.toNat]?=some (.slc 3 es49))/\∃ es51,S 41 [AV.slc 3 es49,iN x0] [] (.slc 3 es51) []/\∃ es53,((0:Int)<=n39/\(1:Nat)=(1:Nat)/\(List.map (fun x=>AV.slc 3 (List.map (AV.int IntKind.i64) x)) plan)[n39.toNat]?=some (.slc 3 es53))/\(((↑es51.length:Int) != (↑es53.length:Int))=true->Q (.bool false) [])/\(((↑es51.length:Int) != (↑es53.length:Int))=false->∃ es57,((0:Int)<=n39/\(1:Nat)=(1:Nat)/\es0[n39.toNat]?=some (.slc 3 es57))/\(decide ((↑es57.length:Int)>IntKind.i64.wrap ((↑es51.length:Int)+(1:Int)))=true->Q (.bool false) [])/\(decide ((↑es57.length:Int)>IntKind.i64.wrap ((↑es51.length:Int)+(1:Int)))=false->∃ (I61:Nat->List AV->Prop),(∃ m63,I61 m63 [iN 0])/\∀ (m63:Nat) (n64:Int),I61 m63 [iN n64]->(MF t plan x0 x1 x2 Q n64 es51 n39 m63 I61)/\(decide (n64<(↑es51.length:Int))=false->t.cs=t.cs/\yi [iN x0,iN x1,iN x2]/\∃ k70,k70<m37/\I35 k70 [iN n38,iN (IntKind.i64.wrap (n39+1))])))))/\(decide (n39<(↑es0.length:Int))=false->((n38 != 1)=true->Q (.bool false) [])/\((n38 != 1)=false->(decide (x1<0)=true->∃ b47,S 17 [] [] (.bool b47) []/\Q (.bool b47) [])/\(decide (x1<0)=false->(decide (x1>=(↑(List.map (fun x=>AV.slc 3 (List.map (AV.int IntKind.i64) x)) plan).length:Int))=true->∃ b49,S 17 [] [] (.bool b49) []/\Q (.bool b49) [])/\(decide (x1>=(↑(List.map (fun x=>AV.slc 3 (List.map (AV.int IntKind.i64) x)) plan).length:Int))=false->(decide (x2<0)=true->∃ b51,S 17 [] [] (.bool b51) []/\Q (.bool b51) [])/\(decide (x2<0)=false->∃ es51,((0:Int)<=x1/\(1:Nat)=(1:Nat)/\(List.map (fun x=>AV.slc 3 (List.map (AV.int IntKind.i64) x)) plan)[x1.toNat]?=some (.slc 3 es51))/\(decide (x2>(↑es51.length:Int))=true->∃ b55,S 17 [] [] (.bool b55) []/\Q (.bool b55) [])/\(decide (x2>(↑es51.length:Int))=false->yx (1:Nat) (List.map (fun x=>AV.slc 3 (List.map (AV.int IntKind.i64) x)) plan)/\((([]:List AV)=[]\/(0:Nat)<(List.map (fun x=>AV.slc 3 (List.map (AV.int IntKind.i64) x)) plan).length)/\((0:Nat)+(List.map (fun x=>AV.slc 3 (List.map (AV.int IntKind.i64) x)) plan).length+(512:Nat))*121<=(1125899906842624:Nat)/\yx (1:Nat) []/\yw (List.flatMap AV.cells (List.map (fun x=>AV.slc 3 (List.map (AV.int IntKind.i64) x)) plan))=true/\yw []=true)/\∃ es57,((0:Int)<=x1/\(1:Nat)=(1:Nat)/\(List.map (fun x=>AV.slc 3 (List.map (AV.int IntKind.i64) x)) plan)[x1.toNat]?=some (.slc 3 es57))/\((0:Int)<=x2/\x2<=(↑es57.length:Int))/\yx (1:Nat) (List.take x2.toNat es57)/\((([]:List AV)=[]\/(0:Nat)<(List.take x2.toNat es57).length)/\((0:Nat)+(List.take x2.toNat es57).length+(512:Nat))*41<=(1125899906842624:Nat)/\yx (1:Nat) []/\yw (List.flatMap AV.cells (List.take x2.toNat es57))=true/\yw []=true)/\yx (1:Nat) [iN x0]/\(([]++List.flatMap AV.cells (List.take x2.toNat es57)).length=((0:Nat)+(List.take x2.toNat es57).length)*1/\((0:Nat)+(List.take x2.toNat es57).length+(1:Nat)+(512:Nat))*41<=(1125899906842624:Nat)/\yw [iN x0]=true/\yw ([]++List.flatMap AV.cells (List.take x2.toNat es57))=true)/\∃ es64,((0:Int)<=x1/\(1:Nat)=(1:Nat)/\(List.map (fun x=>AV.slc 3 (List.map (AV.int IntKind.i64) x)) plan)[x1.toNat]?=some (.slc 3 es64))/\((0:Int)<=x2/\x2<=(↑es64.length:Int)/\(↑es64.length:Int)<=(↑es64.length:Int)/\yx (1:Nat) es64)/\yx (1:Nat) (List.take ((↑es64.length:Int).toNat-x2.toNat) (List.drop x2.toNat es64))/\(([]++List.flatMap AV.cells (List.take x2.toNat es57)++[iN x0]).length=((0:Nat)+(List.take x2.toNat es57).length+(1:Nat))*1/\((0:Nat)+(List.take x2.toNat es57).length+(1:Nat)+(List.take ((↑es64.length:Int).toNat-x2.toNat) (List.drop x2.toNat es64)).length+(512:Nat))*41<=(1125899906842624:Nat)/\yw (List.flatMap AV.cells (List.take ((↑es64.length:Int).toNat-x2.toNat) (List.drop x2.toNat es64)))=true/\yw ([]++List.flatMap AV.cells (List.take x2.toNat es57)++[iN x0])=true)/\((0:Int)<=x1/\x1<(↑((0:Nat)+(List.map (fun x=>AV.slc 3 (List.map (AV.int IntKind.i64) x)) plan).length):Int)/\(1:Nat)=(1:Nat))/\((0:Nat)+((0:Nat)+(List.take x2.toNat es57).length+(1:Nat)+(List.take ((↑es64.length:Int).toNat-x2.toNat) (List.drop x2.toNat es64)).length)*1<=([]++List.flatMap AV.cells (List.take x2.toNat es57)++[iN x0]++List.flatMap AV.cells (List.take ((↑es64.length:Int).toNat-x2.toNat) (List.drop x2.toNat es64))).length/\yw ([]++List.flatMap AV.cells (List.take x2.toNat es57)++[iN x0]++List.flatMap AV.cells (List.take ((↑es64.length:Int).toNat-x2.toNat) (List.drop x2.toNat es64)))=true)/\(0:Nat)+x1.toNat*1+(1:Nat)<=([]++List.flatMap AV.cells (List.map (fun x=>AV.slc 3 (List.map (AV.int IntKind.i64) x)) plan)).length/\((0:Nat)+((0:Nat)+(List.map (fun x=>AV.slc 3 (List.map (AV.int IntKind.i64) x)) plan).length)*1<=(setCells ([]++List.flatMap AV.cells (List.map (fun x=>AV.slc 3 (List.map (AV.int IntKind.i64) x)) plan)) ((0:Nat)+x1.toNat*1) [AV.slc 3 (chunks (1:Nat) (yk Tryz.prog (3:Nat)) ((0:Nat)+(List.take x2.toNat es57).length+(1:Nat)+(List.take ((↑es64.length:Int).toNat-x2.toNat) (List.drop x2.toNat es64)).length) (List.drop (0:Nat) ([]++List.flatMap AV.cells (List.take x2.toNat es57)++[iN x0]++List.flatMap AV.cells (List.take ((↑es64.length:Int).toNat-x2.toNat) (List.drop x2.toNat es64)))))]).length/\yw (setCells ([]++List.flatMap AV.cells (List.map (fun x=>AV.slc 3 (List.map (AV.int IntKind.i64) x)) plan)) ((0:Nat)+x1.toNat*1) [AV.slc 3 (chunks (1:Nat) (yk Tryz.prog (3:Nat)) ((0:Nat)+(List.take x2.toNat es57).length+(1:Nat)+(List.take ((↑es64.length:Int).toNat-x2.toNat) (List.drop x2.toNat es64)).length) (List.drop (0:Nat) ([]++List.flatMap AV.cells (List.take x2.toNat es57)++[iN x0]++List.flatMap AV.cells (List.take ((↑es64.length:Int).toNat-x2.toNat) (List.drop x2.toNat es64)))))])=true)/\∃ n73 n74 n75,S 19 [t.av,.slc 3 (chunks (1:Nat) (yk Tryz.prog (41:Nat)) ((0:Nat)+(List.map (fun x=>AV.slc 3 (List.map (AV.int IntKind.i64) x)) plan).length) (List.drop (0:Nat) (setCells ([]++List.flatMap AV.cells (List.map (fun x=>AV.slc 3 (List.map (AV.int IntKind.i64) x)) plan)) ((0:Nat)+x1.toNat*1) [AV.slc 3 (chunks (1:Nat) (yk Tryz.prog (3:Nat)) ((0:Nat)+(List.take x2.toNat es57).length+(1:Nat)+(List.take ((↑es64.length:Int).toNat-x2.toNat) (List.drop x2.toNat es64)).length) (List.drop (0:Nat) ([]++List.flatMap AV.cells (List.take x2.toNat es57)++[iN x0]++List.flatMap AV.cells (List.take ((↑es64.length:Int).toNat-x2.toNat) (List.drop x2.toNat es64)))))])))] [] (.tup [iN n73,iN n74,iN n75]) []/\((n75 != 0)=true->∃ b79,S 17 [] [] (.bool b79) []/\Q (.bool b79) [])/\((n75 != 0)=false->(decide (n74>=n14)=true->∃ b81,S 17 [] [] (.bool b81) []/\Q (.bool b81) [])/\(decide (n74>=n14)=false->Q (.bool false) [])))))))))))))))
theorem s14 (t:TRoTask) (plan:List (List Int)) (x0:Int) (x1:Int) (x2:Int) (v:AV) (O:List (List AV)) (h:R14 t plan x0 x1 x2 Sp Fo So (fun r O'=>r=v/\O'=O)):Sp 14 [t.av,.slc 3 (List.map (fun x=>.slc 3 (List.map (AV.int .i64) x)) plan),.agg [iN x0,iN x1,iN x2]] [] v O :=
 ye (w:=⟨[],[],[994000000,989000000],[],[]⟩) (k:=0) (keep:=⟨[0,1,2,3,5,6,7,8,9,10,11,12,14,15,16,17,18,19,20,21,23,49,93,97,105,132,136,150,152,173],[⟨11,[(17,iN 0),(18,iN 0)],[],[],[],[],[]⟩,⟨19,[(20,iN 0)],[],[],[],[],[]⟩],[],[(29,21)]⟩) (boxes:=[]) mixed (by exact trivial) Tryz.func14 Tryz.call14 rfl rfl rfl (Nat.le_of_ble_eq_true rfl) (by kernel_rfl) h
theorem c14 (t:TRoTask) (ht:t.Ok) (plan:List (List Int)) (x0 x1 x2:Int):Sp 14 [t.av,.slc 3 (yz plan),.agg [.int .i64 x0,.int .i64 x1,.int .i64 x2]] [] (.bool true) []:=s14 t plan x0 x1 x2 _ _ (by
 have hti:=Mu ht
 unfold R14 MF
 have awake:∃ b:Bool,Sp 17 [] [] (.bool b) []/\(AV.bool b=.bool true/\([]:List (List AV))=[]):=⟨_,WY,rfl,rfl⟩
 refine ⟨_,_,c39 t hti plan x0,fun h=>⟨fun _=>awake,fun h'=>absurd h (by rw [h']; simp)⟩,fun h=>?_⟩
 have h0:(yY t plan x0).2=0:=by simpa using h
 obtain ⟨hz,hf,hout,hnot,⟨i0,k0,hi0,hk0,hp⟩,hpf,hmin⟩:=PK (Ju (yY t plan x0) rfl h0)
 obtain ⟨hv,hpin⟩:=Xm hz
 have hjl:=hv.jl
 rw [i64 (by omega)] at hout
 have hj:=yU.1 hout
 have hj':0<=x0/\x0<t.Jobs.length:=by omega
 refine ⟨fun g=>absurd (zt_ g) (by omega),fun _=>⟨fun g=>absurd (zt_ g) (by rw [List.length_map]; omega),fun _=>?_⟩⟩
 obtain ⟨z1,z2,z3⟩:=LV hz hj' hi0 hk0 (by rw [<- hp]; exact hpf)
 rw [<- hp] at z1 z2 z3
 have g0:ue (yg t) 0 [] plan:=Vz plan 0 ⟨[],0,0,[]⟩ (fun L hL n hn=>(hpin.jobs L hL n hn).1) (by show (yD (yg t) plan).faults.length<=0; omega)
 obtain ⟨w1,w2⟩:=Ti hz g0
 obtain ⟨w3,w4⟩:=Ti z1 z2
 have hpl:=Xn hz
 have hpl2:=Xn z1
 refine ⟨_,_,_,c19 t hti plan,_,_,_,c19 t hti (yY t plan x0).1,fun g=>absurd g (by rw [w1]; simp),fun _=>⟨fun g=>absurd g (by rw [w3]; simp),fun _=>⟨fun g=>absurd g ?_,fun _=>?_⟩⟩⟩
 ·have:(yz (yY t plan x0).1).length=plan.length:=by unfold yz; rw [List.length_map]; omega
  rw [this,List.length_map]; simp
 have hval:(js t (yY t plan x0).1).1=(js t plan).1+(yZ t x0).Value:=by
  rw [w1,w3]
  show Xu (yg t) 0 (yY t plan x0).1=Xu (yg t) 0 plan+_
  rw [Th hv _ 0 [] (by omega) z2 z3,Th hv _ 0 [] (by omega) g0 w2,hp,J3 hi0]
 have hb1:=(O9 hv plan 0 [] (by omega) g0 w2).1
 have hb2:=(O9 hv (yY t plan x0).1 0 [] (by omega) z2 z3).1
 have hll:=hv.ll
 have hv1:(js t plan).1=Xu (yg t) 0 plan:=by rw [w1]
 have hv2:(js t (yY t plan x0).1).1=Xu (yg t) 0 (yY t plan x0).1:=by rw [w3]
 refine ⟨_,_,_,_,_,_,_,_,_,⟨hj'.1,by trivial,(wZ hj'.1 hj'.2).1⟩,fun g=>absurd g ?_,fun _=>?_⟩
 ·rw [hval,i64 (by omega)]; simp
 have hpa:∀ i:Nat,i<plan.length->(yz (yY t plan x0).1)[((i:Nat):Int).toNat]?=some (.slc 3 (ym ((yY t plan x0).1.getD i []))):=fun i hi=>by
  rw [Int.toNat_natCast]; unfold yz; rw [List.getElem?_map,(vq (show i<(yY t plan x0).1.length by omega)).2]; rfl
 have hpb:∀ i:Nat,i<plan.length->(yz plan)[((i:Nat):Int).toNat]?=some (.slc 3 (ym (plan.getD i []))):=fun i hi=>by
  rw [Int.toNat_natCast]; unfold yz; rw [List.getElem?_map,(vq hi).2]; rfl
 have hpal:(yz (yY t plan x0).1).length=plan.length:=by unfold yz; rw [List.length_map]; omega
 have r1:∀ i,i<plan.length->LP ((yY t plan x0).1.getD i []) x0=decide (i=i0):=fun i hi=>by rw [hp]; exact JV hi hnot
 have r2:∀ i,i<plan.length->yP ((yY t plan x0).1.getD i []) x0=plan.getD i []:=fun i hi=>by rw [hp]; exact QH hi hnot
 have r3:∀ i,i<plan.length->((yY t plan x0).1.getD i []).length<=(plan.getD i []).length+1:=fun i hi=>by rw [hp]; exact JW hi hk0
 have r4:∀ i,i<plan.length->(plan.getD i []).length<=6:=fun i hi=>hpin.small _ (vq hi).1
 rw [hpal]
 refine ⟨fun m vs=>∃ i:Nat,vs=[.int .i64 (if i0<i then 1 else 0),.int .i64 i]/\i<=plan.length/\m=plan.length-i,⟨_,0,rfl,by omega,rfl⟩,?_⟩
 rintro m n n' ⟨i,hvs,hile,rfl⟩
 cases hvs
 refine ⟨fun h3=>?_,fun h3=>?_⟩
 ·have hi:i<plan.length:=by have:=zt_ h3; omega
  have l1:=r3 i hi
  have l2:=r4 i hi
  refine ⟨_,⟨by omega,by trivial,hpa i hi⟩,_,c40 _ x0 (by omega),fun hb=>?_,fun hb=>?_⟩
  ·have hb:i=i0:=by rw [r1 i hi] at hb; exact zt_ hb
   refine ⟨_,⟨by omega,by trivial,hpa i hi⟩,_,c41 _ x0 (by omega),_,⟨by omega,by trivial,hpb i hi⟩,fun g=>absurd g ?_,fun _=>⟨_,⟨by omega,by trivial,hpa i hi⟩,fun g=>absurd (zt_ g) ?_,fun _=>?_⟩⟩
   ·rw [r2 i hi]; simp
   ·rw [r2 i hi,yu,yu,yq (by omega)]; omega
   rw [r2 i hi,yu]
   refine ⟨fun m vs=>∃ k:Nat,vs=[.int .i64 k]/\k<=(plan.getD i []).length/\m=(plan.getD i []).length-k,⟨_,0,rfl,by omega,rfl⟩,?_⟩
   rintro m n ⟨k,hk,hkle,rfl⟩
   cases hk
   refine ⟨fun h5=>?_,fun h5=>?_⟩
   ·have hk:k<(plan.getD i []).length:=by have:=zt_ h5; omega
    exact ⟨_,⟨by omega,by trivial,vX hk⟩,_,⟨by omega,by trivial,hpb i hi⟩,_,⟨by omega,by trivial,vX hk⟩,fun g=>absurd g (by simp),fun _=>⟨by trivial,by trivial,_,(by omega:(plan.getD i []).length-(k+1)<(plan.getD i []).length-k),k+1,by rw [yq (by omega)],by omega,rfl⟩⟩
   ·exact ⟨by trivial,by trivial,_,(by omega:plan.length-(i+1)<plan.length-i),i+1,by rw [yq (by omega),if_neg (by omega),if_pos (by omega)]; rfl,by omega,rfl⟩
  ·have hb:¬ i=i0:=by rw [r1 i hi] at hb; exact zf_ hb
   have ecnt:(if i0<i then (1:Int) else 0)=if i0<i+1 then 1 else 0:=by split<;>split<;>omega
   refine ⟨_,⟨by omega,by trivial,hpa i hi⟩,_,c41 _ x0 (by omega),_,⟨by omega,by trivial,hpb i hi⟩,fun g=>absurd g ?_,fun _=>⟨_,⟨by omega,by trivial,hpa i hi⟩,fun g=>absurd (zt_ g) ?_,fun _=>?_⟩⟩
   ·rw [r2 i hi]; simp
   ·rw [r2 i hi,yu,yu,yq (by omega)]; omega
   rw [r2 i hi,yu]
   refine ⟨fun m vs=>∃ k:Nat,vs=[.int .i64 k]/\k<=(plan.getD i []).length/\m=(plan.getD i []).length-k,⟨_,0,rfl,by omega,rfl⟩,?_⟩
   rintro m n ⟨k,hk,hkle,rfl⟩
   cases hk
   refine ⟨fun h5=>?_,fun h5=>?_⟩
   ·have hk:k<(plan.getD i []).length:=by have:=zt_ h5; omega
    exact ⟨_,⟨by omega,by trivial,vX hk⟩,_,⟨by omega,by trivial,hpb i hi⟩,_,⟨by omega,by trivial,vX hk⟩,fun g=>absurd g (by simp),fun _=>⟨by trivial,by trivial,_,(by omega:(plan.getD i []).length-(k+1)<(plan.getD i []).length-k),k+1,by rw [yq (by omega)],by omega,rfl⟩⟩
   ·exact ⟨by trivial,by trivial,_,(by omega:plan.length-(i+1)<plan.length-i),i+1,by rw [yq (by omega),ecnt],by omega,rfl⟩
 ·have hi:i=plan.length:=by have:=zf_ h3; omega
  subst hi
  rw [if_pos hi0]
  refine ⟨fun g=>absurd g (by simp),fun _=>⟨fun _=>awake,fun g1=>⟨fun _=>awake,fun g2=>⟨fun _=>awake,fun g3=>?_⟩⟩⟩⟩
  have g1:=zf_ g1
  have g2:=zf_ g2
  have g3:=zf_ g3
  rw [List.length_map] at g2
  obtain ⟨a,rfl⟩:∃ a:Nat,x1=a:=⟨x1.toNat,by omega⟩
  obtain ⟨b,rfl⟩:∃ b:Nat,x2=b:=⟨x2.toNat,by omega⟩
  have ha:a<plan.length:=by omega
  refine ⟨_,⟨by omega,by trivial,hpb a ha⟩,fun _=>awake,fun g4=>?_⟩
  have g4:=zf_ g4
  rw [yu] at g4
  have hbl:b<=(plan.getD a []).length:=by omega
  have hc:=hmin a b ha hbl
  have hpa3:plan.length<=3:=by omega
  have ra:=r4 a ha
  have et:List.take b (ym (plan.getD a []))=ym ((plan.getD a []).take b):=(List.map_take ..).symm
  have ed:List.drop b (ym (plan.getD a []))=ym ((plan.getD a []).drop b):=(List.map_drop ..).symm
  have ef:∀ l:List Int,List.flatMap AV.cells (ym l)=ym l:=fun l=>xj yT
  have eP:List.flatMap AV.cells (yz plan)=yz plan:=xj j8
  refine ⟨YL j8,⟨.inl (by trivial),by rw [List.length_map]; omega,fun v hv=>(by cases hv),(congrArg yw eP).trans (vz plan),rfl⟩,_,⟨by omega,by trivial,hpb a ha⟩,⟨by omega,by rw [yu]; omega⟩,?_⟩
  simp only [Int.toNat_natCast,et]
  refine ⟨YL yT,⟨.inl (by trivial),by rw [yu,List.length_take]; omega,fun v hv=>(by cases hv),by rw [ef]; exact qX _,rfl⟩,fun v hv=>(by rw [List.mem_singleton.1 hv]; rfl),⟨?_,by rw [yu,List.length_take]; omega,rfl,?_⟩,?_⟩
  ·rw [ef,List.nil_append,Nat.zero_add,Nat.mul_one]
  ·rw [List.nil_append,ef]; exact qX _
  refine ⟨_,⟨by omega,by trivial,hpb a ha⟩,?_⟩
  have et2:List.take ((ym (plan.getD a [])).length-b) (ym ((plan.getD a []).drop b))=ym ((plan.getD a []).drop b):=List.take_of_length_le (by rw [yu,yu,List.length_drop]; omega)
  simp only [ed,et2]
  refine ⟨⟨by omega,by rw [yu]; omega,Int.le_refl _,YL yT⟩,YL yT,?_⟩
  have hrow:([]++List.flatMap AV.cells (ym ((plan.getD a []).take b))++[AV.int .i64 x0]++List.flatMap AV.cells (ym ((plan.getD a []).drop b)))=ym ((plan.getD a []).take b++x0::(plan.getD a []).drop b):=by
   rw [ef,ef,List.nil_append,List.append_assoc]; exact (wY _ (x0::(plan.getD a []).drop b)).symm
  refine ⟨⟨by rw [ef,List.nil_append,List.length_append]; simp,by rw [yu,yu,List.length_take,List.length_drop]; omega,by rw [ef]; exact qX _,by rw [ef,List.nil_append]; exact (congrArg yw (wY ((plan.getD a []).take b) [x0]).symm).trans (qX _)⟩,?_⟩
  have hlen:0+(ym ((plan.getD a []).take b)).length+1+(ym ((plan.getD a []).drop b)).length=(ym ((plan.getD a []).take b++x0::(plan.getD a []).drop b)).length:=by
   simp only [yu,List.length_append,List.length_take,List.length_drop,List.length_cons]; omega
  have eP':List.flatMap AV.cells (List.map (fun x=>AV.slc 3 (List.map (AV.int .i64) x)) plan)=yz plan:=eP
  have el:(List.map (fun x=>AV.slc 3 (List.map (AV.int .i64) x)) plan).length=plan.length:=List.length_map ..
  have es:yz (plan.set a ((plan.getD a []).take b++x0::(plan.getD a []).drop b))=yz (yL plan a b x0):=rfl
  have e41:yk Tryz.prog 41=false:=MV
  have e3:yk Tryz.prog 3=false:=MU
  have eq:(yz (yL plan a b x0)).length=0+plan.length:=by rw [U9]; unfold yL; rw [List.length_set]; omega
  rw [hrow,hlen,e3,Uu rfl,eP',el,List.nil_append,show 0+a*1=a by omega,KM ha,es,e41,Uu eq]
  refine ⟨⟨by omega,by omega,trivial⟩,⟨by omega,qX _⟩,by rw [U9]; omega,⟨by omega,vz _⟩,_,_,_,c19 t hti (yL plan a b x0),fun _=>⟨_,WY,rfl,trivial⟩,fun g=>⟨fun _=>⟨_,WY,rfl,trivial⟩,fun g'=>?_⟩⟩
  have k0:(js t (yL plan a b x0)).2.2=0:=by simpa using g
  obtain ⟨k1,k2⟩:=V0 k0
  have k3:=hc k1
  obtain ⟨k4,k5⟩:=V0 (t:=t) (plan:=(yY t plan x0).1) (by rw [w3])
  have:=zf_ g'
  omega)
end Go.Proofs.YtdeeekgohhkdbaaGreatDoor
