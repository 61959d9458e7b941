/- Contracts: the document's timetables are the program's. -/
import Derived.Test.YtkojpnkknehhmaaGreatDoorYl
namespace Go.Proofs.YtkojpnkknehhmaaGreatDoor
open Go.IntKind (wrap i64 u64)
open Go.RowKit
theorem QW {α:Type} {f:α->AV} {g:α->List AV} {k:Nat} (hf:∀x,f x=.agg (g x)) (hk:∀x,(g x).length=k) (ho:∀x,yn (g x)=true) (s:List α) :
  yk k (s.map f)/\((s.map f).flatMap AV.cells).length=s.length*k/\yn ((s.map f).flatMap AV.cells)=true/\kf k s.length ((s.map f).flatMap AV.cells)=s.map f:=by
 induction s with
 |nil=>exact⟨by intro v hv;simp at hv,by simp,rfl,rfl⟩
 |cons x r ih =>
  obtain ⟨h1,h2,h3,h4⟩:=ih;refine⟨fun v hv=>?_,?_,?_,?_⟩
  ·rcases List.mem_cons.1 hv with rfl | hv
   ·rw[hf];exact hk x
   ·exact h1 v hv
  ·simp only[List.map_cons,List.flatMap_cons,List.length_append,h2,hf,AV.cells,hk,List.length_cons,Nat.succ_mul,Nat.add_comm]
  ·simp only[List.map_cons,List.flatMap_cons,hf,AV.cells,yn,List.all_append,Bool.and_eq_true];exact⟨ho x,h3⟩
  ·simp only[List.map_cons,List.flatMap_cons,List.length_cons,hf,AV.cells,kf];rw[List.take_append_of_le_length (by rw[hk];exact Nat.le_refl _),List.take_of_length_le (by rw[hk];exact Nat.le_refl _),List.drop_append_of_le_length (by rw[hk];exact Nat.le_refl _),List.drop_of_length_le (by rw[hk];exact Nat.le_refl _),List.nil_append,h4]
theorem OO:∀(u l:List Int),u.Nodup->(∀x∈u,x∈l)->u.length<=l.length:=by
 intro u;induction u with
 |nil=>intro l _ _;exact Nat.zero_le _
 |cons a u ih =>
  intro l h hs;obtain ⟨h1,h2⟩:=List.nodup_cons.1 h;have ha:=hs a List.mem_cons_self;have:=ih (l.erase a) h2 fun x hx=>(List.mem_erase_of_ne (fun e=>h1 (by rw[e] at hx;exact hx))).2 (hs x (List.mem_cons_of_mem _ hx))
  rw[List.length_erase_of_mem ha] at this;have hp:=List.length_pos_of_mem ha;rw[List.length_cons];omega
theorem M4:∀(l u:List Int),u.Nodup->(∀x∈u,x∈l)->l.length<=u.length->l.Nodup:=by
 intro l;induction l with
 |nil=>intro u _ _ _;exact List.nodup_nil
 |cons a l ih =>
  intro u h hs hl;rw[List.length_cons] at hl;by_cases ha:a∈l
  ·have:=OO u l h fun x hx=>(List.mem_cons.1 (hs x hx)).elim (fun e=>by rw[e];exact ha) id
   omega
  ·refine List.nodup_cons.2 ⟨ha,ih (u.erase a) (h.erase a) (fun x hx=>?_) ?_⟩
   ·have hne:x≠a:=fun e=>(h.not_mem_erase) (by rw[e] at hx;exact hx)
    exact(List.mem_cons.1 (hs x (List.mem_of_mem_erase hx))).elim (fun e=>absurd e hne) id
   ·rw[List.length_erase];split<;>omega
theorem Is {L:List Int} (h:L.Nodup):Yz L=false:=by
 unfold Yz;have hp:(jH L).Perm L:=by unfold jH;exact List.mergeSort_perm L _
 have hn:(jH L).Nodup:=hp.nodup_iff.2 h;have ha:(jH L).Pairwise (·<·):=by
  have h1:=Yb L;have:=h1.and hn;exact this.imp fun⟨g1,g2⟩=>by omega
 have e:Go.Lib.compact (jH L)=jH L:=Nq (W7 (Yb L)) ha fun x=>W8
 rw[e,Yc,decide_eq_false (by omega)]
theorem QN {l:List Int}:Yz l=false↔l.Nodup:=by
 refine⟨fun h=>?_,Is⟩;unfold Yz at h;have h:=zf_ h;exact M4 l _ ((W7 (Yb l)).imp fun h=>by omega) (fun x hx=>Sf.1 (W8.1 hx)) (by omega)
def R63 (t:TRoTask) (jobs:List Int) (Q:yc):Prop :=
 ∃(I0:Nat->List AV->Prop),(∃m2,I0 m2 [iN 0])/\∀(m2:Nat) (n3:Int),I0 m2 [iN n3]->(decide (n3<(↑(List.map (AV.int i64) jobs).length:Int))=true->∃n7,((0:Int)<=n3/\(1:Nat)=(1:Nat)/\(List.map (AV.int i64) jobs)[n3.toNat]? = some (iN n7))/\∃b9,Sp 44 [iN n7,iN 0,iN (wrap i64 ((↑(List.map TRoJob.av t.Jobs).length:Int)-(1:Int)))] [] (.bool b9) []/\((!b9)=true->Q (.bool false) [])/\((!b9)=false->t.cs=t.cs/\∃k14,k14<m2/\I0 k14 [iN (wrap i64 (n3+1))]))/\(decide (n3<(↑(List.map (AV.int i64) jobs).length:Int))=false->Q (.bool true) [])
theorem s63 (t:TRoTask) (jobs:List Int) (v O) (h:R63 t jobs (fun r O'=>r=v/\O'=O)):Sp 63 [t.av,.slc 3 (List.map (AV.int .i64) jobs)] [] v O :=
 zS ⟨[0,1,2,4,5,9,21],[⟨2,[(5,iN 0)],[],[],[],[],[]⟩],[],[]⟩ Tryz.func63 Tryz.call63 rfl (by kernel_rfl) h
theorem c63 (t:TRoTask) (jobs:List Int) (hl:jobs.length<=1000000) (hj:t.Jobs.length<=1000):Sp 63 [t.av,.slc 3 (yg jobs)] [] (.bool (!jobs.any (y8 t 0))) []:=s63 t jobs _ _ (by
 unfold R63;simp only[List.length_map];refine⟨fun m vs=>∃k:Nat,k<=jobs.length/\m=jobs.length-k/\vs=[.int .i64 k]/\(jobs.take k).any (y8 t 0)=false,⟨_,0,by omega,rfl,rfl,rfl⟩,?_⟩;rintro m n ⟨k,hk,rfl,hv,hn⟩;cases hv;refine⟨fun h=>?_,fun h=>⟨?_,by trivial⟩⟩
 ·have h:k<jobs.length:=by have:=zt_ h;omega
  obtain ⟨x,hx,hx'⟩:=yq (f:=AV.int .i64) h;have kb:=c44 x 0 ((t.Jobs.length:Int)-1);rw[<- Pu t 0 x (by omega)] at kb;rw[zw6 (n:=(t.Jobs.length:Int)-1) (by omega)];refine⟨_,⟨by omega,by trivial,hx'⟩,_,kb,fun g=>⟨?_,by trivial⟩,fun g=>⟨by trivial,jobs.length-(k+1),by omega,k+1,by omega,rfl,by rw[yr (by omega)],?_⟩⟩
  ·have:=WT hx h (by simpa using g);rw[List.take_length] at this;rw[this];rfl
  ·rw[ue hx,hn];simpa using g
 ·obtain rfl:k=jobs.length:=by have:=zf_ h;omega
  rw[List.take_length] at hn;rw[hn];rfl)
theorem JD {t:TRoTask} (hv:w7 t) {x:TRoJob} (hx:x∈t.Jobs):xV (yR t x)=decide ((yR t x).From>(yR t x).Until):=by
 obtain ⟨h1,h2⟩:=NZ hv hx;have key:∀s:TRoSpan,s=⟨1,0⟩\/s.From<=s.Until->xV s=decide (s.From>s.Until):=fun s hs=>by
  rcases hs with rfl | hs
  ·rfl
  ·rw[decide_eq_false (by omega)];cases hn:xV s with
   |false=>rfl
   |true=>rw[(XX s).1 hn] at hs;exact absurd hs (by decide)
 refine key _ ?_;rw[h2];split
 ·by_cases hm:xr (kO t x).From (wD t).From<=vK (kO t x).Until (wD t).Until
  ·exact .inr (by rw[XC hm];exact hm)
  ·exact .inl (WX hm)
 ·exact .inr h1
theorem Jk {t:TRoTask} {x:TRoJob}:((!(kz t x).2)=true->yR t x=⟨1,0⟩)/\((!(kz t x).2)=false->(kz t x).1=yR t x):=by
 unfold kz;split
 ·rename_i h;exact⟨fun _=>(XX _).1 h,fun g=>(by cases g)⟩
 ·exact⟨fun g=>(by cases g),fun _=>rfl⟩
theorem D4 (s:List TRoSpan):yk 2 (s.map TRoSpan.av)/\((s.map TRoSpan.av).flatMap AV.cells).length=s.length*2/\yn ((s.map TRoSpan.av).flatMap AV.cells)=true/\kf 2 s.length ((s.map TRoSpan.av).flatMap AV.cells)=s.map TRoSpan.av :=
 QW (f:=TRoSpan.av) (g:=TRoSpan.cs) (k:=2) (fun _=>rfl) (fun _=>rfl) (fun _=>rfl) s
theorem D5 (s:List TRoStop):yk 4 (s.map TRoStop.av)/\((s.map TRoStop.av).flatMap AV.cells).length=s.length*4/\yn ((s.map TRoStop.av).flatMap AV.cells)=true/\kf 4 s.length ((s.map TRoStop.av).flatMap AV.cells)=s.map TRoStop.av :=
 QW (f:=TRoStop.av) (g:=TRoStop.cs) (k:=4) (fun _=>rfl) (fun _=>rfl) (fun _=>rfl) s
theorem W6 {e:TypeId} {k:Nat} (h:yf Tryz.prog e=true) {s:List AV} {n:Nat} (hs:s.length=n) (hc:kf k n (s.flatMap AV.cells)=s):chunks k (yf Tryz.prog e) s.length (List.drop 0 (s.flatMap AV.cells))=s:=by
 rw[h,hs];simp only[chunks,if_true,List.drop_zero];exact hc
def R65 (t:TRoTask) (Q:yc):Prop :=
 ∃(I0:Nat->List AV->Prop),(∃m2,I0 m2 [iN 0,.slc 3 []])/\∀(m2:Nat) (n3:Int) (es4:List AV),I0 m2 [iN n3,.slc 3 es4]->(decide (n3<(↑(List.map TRoJob.av t.Jobs).length:Int))=true->∃n8 n9 b10,Sp 53 [t.av,iN n3] [] (.tup [AV.agg [iN n8,iN n9],.bool b10]) []/\∃(J12:List AV->Prop),(((!b10)=true->t.cs=t.cs/\List.flatMap AV.cells es4=List.flatMap AV.cells es4/\J12 [AV.agg [iN 1,iN 0]])/\((!b10)=false->t.cs=t.cs/\List.flatMap AV.cells es4=List.flatMap AV.cells es4/\J12 [AV.agg [iN n8,iN n9]]))/\∀(n14 n15:Int),J12 [AV.agg [iN n14,iN n15]]->yk (2:Nat) [AV.agg [iN n14,iN n15]]/\((List.flatMap AV.cells es4).length=es4.length*2/\(es4.length+1+(512:Nat))*81<=(1125899906842624:Nat)/\yn [iN n14,iN n15]=true/\yn (List.flatMap AV.cells es4)=true)/\t.cs=t.cs/\∃es20,(es20.length=es4.length+1/\List.flatMap AV.cells es20=List.flatMap AV.cells es4++[iN n14,iN n15])/\∃k22,k22<m2/\I0 k22 [iN (wrap i64 (n3+1)),.slc 3 es20])/\(decide (n3<(↑(List.map TRoJob.av t.Jobs).length:Int))=false->(0:Nat)+es4.length*2<=(List.flatMap AV.cells es4).length/\Q (.slc 3 (chunks (2:Nat) (yf Tryz.prog (39:Nat)) es4.length (List.drop (0:Nat) (List.flatMap AV.cells es4)))) [])
theorem s65 (t:TRoTask) (v O) (h:R65 t (fun r O'=>r=v/\O'=O)):Sp 65 [t.av] [] v O :=
 zS ⟨[0,1,2,3,4,5,6,11,21],[⟨3,[(4,iN 0)],[(3,39)],[],[],[],[]⟩],[⟨8,[],[],[(5,.agg [iN 0,iN 0])],[],[],[]⟩],[]⟩ Tryz.func65 Tryz.call65 rfl (by kernel_rfl) h
theorem c65 (t:TRoTask) (hv:w7 t):Sp 65 [t.av] [] (.slc 3 ((t.Jobs.map (yR t)).map TRoSpan.av)) []:=s65 t _ _ (by
 unfold R65;have hjl:=hv.jl;refine⟨fun m vs=>∃k:Nat,k<=t.Jobs.length/\m=t.Jobs.length-k/\vs=[.int .i64 k,.slc 3 (((t.Jobs.take k).map (yR t)).map TRoSpan.av)],⟨_,0,by omega,rfl,rfl⟩,?_⟩;rintro m n es ⟨k,hk,rfl,h⟩;cases h;obtain ⟨f1,f2,f3,f4⟩:=D4 ((t.Jobs.take k).map (yR t));have hlen:((t.Jobs.take k).map (yR t)).length=k:=by rw[List.length_map,List.length_take];omega
 refine⟨fun h=>?_,fun h=>?_⟩
 ·have h:k<t.Jobs.length:=by simpa using h
  obtain ⟨r1,r2⟩:=Jk (t:=t) (x:=qk t k);have hx:t.Jobs[k]? = some (qk t k):=by unfold qk;rw[Int.toNat_natCast,List.getD_eq_getElem?_getD,List.getElem?_eq_getElem h];rfl
  have ks:=c53 t hv k (by omega) (by omega);refine⟨_,_,_,ks,fun vs=>vs=[(yR t (qk t k)).av],⟨fun g=>⟨rfl,rfl,by rw[r1 g];rfl⟩,fun g=>⟨rfl,rfl,by rw[<- r2 g];rfl⟩⟩,?_⟩;rintro a b hab;have hab:[AV.agg [.int .i64 a,.int .i64 b]]=[.agg [.int .i64 (yR t (qk t k)).From,.int .i64 (yR t (qk t k)).Until]]:=hab;simp only[List.cons.injEq,AV.agg.injEq,AV.int.injEq,true_and,and_true] at hab;obtain ⟨rfl,rfl⟩:=hab;have hnext:((t.Jobs.take (k+1)).map (yR t)).map TRoSpan.av=((t.Jobs.take k).map (yR t)).map TRoSpan.av++[(yR t (qk t k)).av]:=by
   rw[List.take_add_one,hx,List.map_append,List.map_append];rfl
  refine⟨fun v hv=>by rw[List.mem_singleton.1 hv];rfl,⟨by rw[List.length_map];exact f2,by rw[List.length_map];omega,rfl,f3⟩,rfl,_,⟨?_,?_⟩,t.Jobs.length-(k+1),by omega,k+1,by omega,rfl,by rw[yr (by omega)]⟩
  ·rw[hnext,List.length_append];rfl
  ·rw[hnext,List.flatMap_append];rfl
 ·obtain rfl:k=t.Jobs.length:=by simp at h;omega
  rw[List.take_length] at *;refine⟨by rw[List.length_map,f2];omega,?_,rfl⟩;rw[W6 Hz (List.length_map ..) f4])
theorem Hf {t:TRoTask} {x:Int} (h0:0<=x) (h1:x<t.Jobs.length):je (ye t) x=yR t (qk t x):=by
 have hl:x.toNat<t.Jobs.length:=by omega
 unfold je qk ye;rw[List.getD_eq_getElem?_getD,List.getElem?_map,List.getD_eq_getElem?_getD,List.getElem?_eq_getElem hl];rfl
theorem Ja {t:TRoTask} {x:Int} (hl:t.Jobs.length<=1000) (h:y8 t 0 x=false):0<=x/\x<t.Jobs.length:=by
 rw[Pu t 0 x hl] at h;have:=y7.1 h;omega
def R64 (t:TRoTask) (lorry:Int) (jobs:List Int) (when:List TRoSpan) (Q:yc):Prop :=
 ∃s0 n1 n2 n3 n4 n5,((0:Int)<=lorry/\(6:Nat)=(6:Nat)/\(List.map TRoLorry.av t.Lorries)[lorry.toNat]? = some (.agg [AV.str s0,iN n1,iN n2,iN n3,iN n4,iN n5]))/\∃(I7:Nat->List AV->Prop),(∃m9,I7 m9 [iN n3,iN (-1:Int),iN 0,.slc 3 []])/\∀(m9:Nat) (n10 n11 n12:Int) (es13:List AV),I7 m9 [iN n10,iN n11,iN n12,.slc 3 es13]->(decide (n12<(↑(List.map (AV.int i64) jobs).length:Int))=true->∃n17,((0:Int)<=n12/\(1:Nat)=(1:Nat)/\(List.map (AV.int i64) jobs)[n12.toNat]? = some (iN n17))/\∃n19 n20,((0:Int)<=n17/\(2:Nat)=(2:Nat)/\(List.map TRoSpan.av when)[n17.toNat]? = some (.agg [iN n19,iN n20]))/\∃n22,((0:Int)<=n12/\(1:Nat)=(1:Nat)/\(List.map (AV.int i64) jobs)[n12.toNat]? = some (iN n22))/\∃n24,((0:Int)<=n12/\(1:Nat)=(1:Nat)/\(List.map (AV.int i64) jobs)[n12.toNat]? = some (iN n24))/\∃n26,Sp 52 [t.av,iN n11,iN n24] [] (iN n26) []/\∃n28,((0:Int)<=n12/\(1:Nat)=(1:Nat)/\(List.map (AV.int i64) jobs)[n12.toNat]? = some (iN n28))/\∃s30 n31 n32 n33 n34 es35 n36 b37 n38,((0:Int)<=n28/\(9:Nat)=(9:Nat)/\(List.map TRoJob.av t.Jobs)[n28.toNat]? = some (.agg [AV.str s30,iN n31,iN n32,iN n33,iN n34,.slc 3 es35,iN n36,.bool b37,iN n38]))/\(decide (n19>n20)=true->(0:Nat)+es13.length*4<=(List.flatMap AV.cells es13).length/\Q (.tup [AV.slc 3 (chunks (4:Nat) (yf Tryz.prog (116:Nat)) es13.length (List.drop (0:Nat) (List.flatMap AV.cells es13))),iN (-1:Int)]) [])/\(decide (n19>n20)=false->(decide (wrap i64 ((if true=true then if n19>wrap i64 (n10+n26) then n19 else wrap i64 (n10+n26) else if n19<wrap i64 (n10+n26) then n19 else wrap i64 (n10+n26))+n34)>n20)=true->(0:Nat)+es13.length*4<=(List.flatMap AV.cells es13).length/\Q (.tup [AV.slc 3 (chunks (4:Nat) (yf Tryz.prog (116:Nat)) es13.length (List.drop (0:Nat) (List.flatMap AV.cells es13))),iN (-1:Int)]) [])/\(decide (wrap i64 ((if true=true then if n19>wrap i64 (n10+n26) then n19 else wrap i64 (n10+n26) else if n19<wrap i64 (n10+n26) then n19 else wrap i64 (n10+n26))+n34)>n20)=false->yk (4:Nat) [AV.agg [iN n22,iN (wrap i64 (n10+n26)),iN (if n19>wrap i64 (n10+n26) then n19 else wrap i64 (n10+n26)),iN (wrap i64 ((if n19>wrap i64 (n10+n26) then n19 else wrap i64 (n10+n26))+n34))]]/\((List.flatMap AV.cells es13).length=es13.length*4/\(es13.length+1+(512:Nat))*161<=(1125899906842624:Nat)/\yn [iN n22,iN (wrap i64 (n10+n26)),iN (if n19>wrap i64 (n10+n26) then n19 else wrap i64 (n10+n26)),iN (wrap i64 ((if n19>wrap i64 (n10+n26) then n19 else wrap i64 (n10+n26))+n34))]=true/\yn (List.flatMap AV.cells es13)=true)/\∃n46,((0:Int)<=n12/\(1:Nat)=(1:Nat)/\(List.map (AV.int i64) jobs)[n12.toNat]? = some (iN n46))/\t.cs=t.cs/\∃es49,(es49.length=es13.length+1/\List.flatMap AV.cells es49=List.flatMap AV.cells es13++[iN n22,iN (wrap i64 (n10+n26)),iN (if n19>wrap i64 (n10+n26) then n19 else wrap i64 (n10+n26)),iN (wrap i64 ((if n19>wrap i64 (n10+n26) then n19 else wrap i64 (n10+n26))+n34))])/\∃k51,k51<m9/\I7 k51 [iN (wrap i64 ((if n19>wrap i64 (n10+n26) then n19 else wrap i64 (n10+n26))+n34)),iN n46,iN (wrap i64 (n12+1)),.slc 3 es49])))/\(decide (n12<(↑(List.map (AV.int i64) jobs).length:Int))=false->∃n17,Sp 52 [t.av,iN n11,iN (-1:Int)] [] (iN n17) []/\(0:Nat)+es13.length*4<=(List.flatMap AV.cells es13).length/\Q (.tup [AV.slc 3 (chunks (4:Nat) (yf Tryz.prog (116:Nat)) es13.length (List.drop (0:Nat) (List.flatMap AV.cells es13))),iN (wrap i64 (n10+n17))]) [])
theorem s64 (t:TRoTask) (lorry:Int) (jobs:List Int) (when:List TRoSpan) (v O) (h:R64 t lorry jobs when (fun r O'=>r=v/\O'=O)):Sp 64 [t.av,iN lorry,.slc 3 (List.map (AV.int .i64) jobs),.slc 3 (List.map TRoSpan.av when)] [] v O :=
 zS ⟨[0,1,2,3,4,8,9,10,11,12,13,14,15,25,79],[⟨4,[(11,iN 0),(12,iN 0),(13,iN 0)],[(10,116)],[],[],[],[]⟩],[],[]⟩ Tryz.func64 Tryz.call64 rfl (by kernel_rfl) h
theorem c64 (t:TRoTask) (hv:w7 t) (lorry:Int) (h0:0<=lorry) (h1:lorry<t.Lorries.length) (jobs:List Int) (hl:jobs.length<=1000000) (hn:jobs.any (y8 t 0)=false) :
  Sp 64 [t.av,.int .i64 lorry,.slc 3 (yg jobs),.slc 3 ((t.Jobs.map (yR t)).map TRoSpan.av)] [] (.tup [.slc 3 ((yV (ye t) (yF (ye t) lorry) jobs).1.map TRoStop.av),.int .i64 (yV (ye t) (yF (ye t) lorry) jobs).2]) []:=s64 t lorry jobs _ _ _ (by
 unfold R64;have hjl:=hv.jl;refine⟨_,_,_,_,_,_,⟨h0,rfl,(NV h0 h1).1⟩,fun m vs=>∃(k:Nat) (r:TTour),k<=jobs.length/\m=jobs.length-k/\vs=[.int .i64 r.now,.int .i64 r.last,.int .i64 k,.slc 3 (r.stops.map TRoStop.av)]/\yV (ye t) r (jobs.drop k)=yV (ye t) (yF (ye t) lorry) jobs/\r.last<t.Jobs.length/\r.stops.length<=k,
  ⟨_,0,yF (ye t) lorry,by omega,rfl,rfl,rfl,by show (-1:Int)<_;omega,Nat.zero_le _⟩,?_⟩
 rintro m n a b es ⟨k,r,hk,rfl,h,ht,hrl,hrs⟩;cases h;obtain ⟨f1,f2,f3,f4⟩:=D5 r.stops;have hch:=W6 (e:=116) Hy (List.length_map ..) f4;have hz:0+(r.stops.map TRoStop.av).length*4<=((r.stops.map TRoStop.av).flatMap AV.cells).length:=by rw[List.length_map,f2];omega
 refine⟨fun h=>?_,fun h=>?_⟩
 ·have h:k<jobs.length:=by simpa using h
  obtain ⟨x,hx,hx'⟩:=yq (f:=AV.int .i64) h;have hxm:x∈jobs:=List.mem_of_getElem? hx;obtain ⟨x0,x1⟩:=Ja (by omega) (by simpa using List.any_eq_false.1 hn x hxm:y8 t 0 x=false);obtain ⟨hj,hjm⟩:=kV x0 x1;have hsp:=Hf x0 x1;have hs:((t.Jobs.map (yR t)).map TRoSpan.av)[x.toNat]? = some (je (ye t) x).av:=PH (d:=ye t) x0 (by show x<((t.Jobs.map (yR t)).length:Int);rw[List.length_map];exact x1);have hnv:xV (je (ye t) x)=decide ((je (ye t) x).From>(je (ye t) x).Until):=by rw[hsp];exact JD hv hjm
  have hdrop:jobs.drop k=x::jobs.drop (k+1):=by
   obtain ⟨_,rfl⟩:=List.getElem?_eq_some_iff.1 hx;exact List.drop_eq_getElem_cons h
  rw[hdrop] at ht;have hget:(0:Int)<=(k:Int)/\(1:Nat)=1/\(yg jobs)[((k:Nat):Int).toNat]? = some (.int .i64 x):=⟨by omega,rfl,hx'⟩;have hm:(if (je (ye t) x).From>wrap i64 (r.now+Qj t r.last x) then (je (ye t) x).From else wrap i64 (r.now+Qj t r.last x))=Qe (ye t) r x:=rfl;have bad:qe (ye t) r x=false->AV.tup [.slc 3 (r.stops.map TRoStop.av),.int .i64 (-1)]=.tup [.slc 3 ((yV (ye t) (yF (ye t) lorry) jobs).1.map TRoStop.av),.int .i64 (yV (ye t) (yF (ye t) lorry) jobs).2]:=fun hb=>by
   rw[<- ht];show _=AV.tup [.slc 3 ((if qe (ye t) r x then yV (ye t) (yN (ye t) r x) (jobs.drop (k+1)) else (r.stops,-1)).1.map TRoStop.av),.int .i64 (if qe (ye t) r x then yV (ye t) (yN (ye t) r x) (jobs.drop (k+1)) else (r.stops,-1)).2];rw[if_neg (by rw[hb];simp)]
  refine⟨_,hget,_,_,⟨x0,rfl,hs⟩,_,hget,_,hget,_,c52 t hv r.last x hrl x1,_,hget,_,_,_,_,_,_,_,_,_,⟨x0,rfl,hj⟩,?_⟩;rw[if_pos rfl,hm,hch];refine⟨fun g=>⟨hz,bad ?_,rfl⟩,fun g=>⟨fun g2=>⟨hz,bad ?_,rfl⟩,fun g2=>?_⟩⟩
  ·unfold qe;rw[hnv,g];rfl
  ·unfold qe;have g2:decide (On (ye t) r x>(je (ye t) x).Until)=true:=g2;rw[g2,Bool.not_true,Bool.and_false]
  ·have g2:decide (On (ye t) r x>(je (ye t) x).Until)=false:=g2;have hb:qe (ye t) r x=true:=by unfold qe;rw[hnv,g,g2];rfl
   have hvt:yN (ye t) r x=QL (ye t) r x:=by unfold yN;rw[if_pos hb]
   have hnext:(r.stops++[Xq (ye t) r x]).map TRoStop.av=r.stops.map TRoStop.av++[(Xq (ye t) r x).av]:=by rw[List.map_append];rfl
   refine⟨fun v hv=>by rw[List.mem_singleton.1 hv];rfl,⟨by rw[List.length_map];exact f2,by rw[List.length_map];omega,rfl,f3⟩,_,hget,rfl,((QL (ye t) r x).stops.map TRoStop.av),⟨?_,?_⟩,jobs.length-(k+1),by omega,k+1,QL (ye t) r x,by omega,rfl,by rw[yr (by omega)];rfl,?_,x1,?_⟩
   ·show ((r.stops++[Xq (ye t) r x]).map TRoStop.av).length=_;rw[hnext,List.length_append];rfl
   ·show ((r.stops++[Xq (ye t) r x]).map TRoStop.av).flatMap AV.cells=_;rw[hnext,List.flatMap_append];rfl
   ·rw[<- ht,<- hvt];show _=if qe (ye t) r x then _ else _
    rw[if_pos hb]
   ·show (r.stops++[Xq (ye t) r x]).length<=_;rw[List.length_append];show _+1<=_;omega
 ·obtain rfl:k=jobs.length:=by simp at h;omega
  rw[List.drop_length] at ht;refine⟨_,c52 t hv r.last (-1) hrl (by omega),hz,?_,rfl⟩;rw[hch,<- ht];rfl)
def QM (l:List Int) (i:Nat):Int:=if (l.take i).Nodup then 0 else 5
theorem Mu {l:List Int} {i:Nat} (hi:i<l.length):QM l (i+1)=if QM l i≠0 then 5 else if l[i]∈l.take i then 5 else 0:=by
 unfold QM;have e:l.take (i+1)=l.take i++[l[i]]:=by rw[List.take_add_one,List.getElem?_eq_getElem hi];rfl
 have e2:(l.take (i+1)).Nodup↔(l.take i).Nodup/\l[i]∉l.take i:=by
  rw[e,List.nodup_append];constructor
  ·rintro ⟨a,b,c⟩;exact⟨a,fun h=>c _ h _ (by simp) rfl⟩
  ·rintro ⟨a,b⟩;exact⟨a,by simp,fun x hx y hy=>by rw[List.mem_singleton.1 hy];exact fun e=>b (by rw[<- e];exact hx)⟩
 simp only[e2];by_cases h1:(l.take i).Nodup<;>by_cases h2:l[i]∈l.take i<;>simp[h1,h2]
def Wt (e:Int) (l:List Int) (i:Nat):Int:=if e≠0 then e else QM l i
def R16 (t:TRoTask) (lorry:Int) (jobs:List Int) (Q:yc):Prop :=
 ∃n0,Sp 51 [t.av] [] (iN n0) []/\∃(J2:List AV->Prop),(((n0 == 0)=true->∃b6,Sp 44 [iN lorry,iN 0,iN (wrap i64 ((↑(List.map TRoLorry.av t.Lorries).length:Int)-(1:Int)))] [] (.bool b6) []/\((!b6)=true->t.cs=t.cs/\J2 [iN 4])/\((!b6)=false->∃b10,Sp 63 [t.av,.slc 3 (List.map (AV.int i64) jobs)] [] (.bool b10) []/\((!b10)=true->t.cs=t.cs/\J2 [iN 4])/\((!b10)=false->t.cs=t.cs/\J2 [iN n0])))/\((n0 == 0)=false->t.cs=t.cs/\J2 [iN n0]))/\∀(n4:Int),J2 [iN n4]->∃(I6:Nat->List AV->Prop),(∃m8,I6 m8 [iN n4,iN 0])/\∀(m8:Nat) (n9 n10:Int),I6 m8 [iN n9,iN n10]->(decide (n10<(↑(List.map (AV.int i64) jobs).length:Int))=true->∃(I14:Nat->List AV->Prop),(∃m16,I14 m16 [iN n9,iN 0])/\∀(m16:Nat) (n17 n18:Int),I14 m16 [iN n17,iN n18]->(decide (n18<n10)=true->((n17 == 0)=true->∃n24,((0:Int)<=n18/\(1:Nat)=(1:Nat)/\(List.map (AV.int i64) jobs)[n18.toNat]? = some (iN n24))/\∃n26,((0:Int)<=n10/\(1:Nat)=(1:Nat)/\(List.map (AV.int i64) jobs)[n10.toNat]? = some (iN n26))/\((n24 == n26)=true->t.cs=t.cs/\∃k31,k31<m16/\I14 k31 [iN 5,iN (wrap i64 (n18+1))])/\((n24 == n26)=false->t.cs=t.cs/\∃k31,k31<m16/\I14 k31 [iN n17,iN (wrap i64 (n18+1))]))/\((n17 == 0)=false->t.cs=t.cs/\∃k25,k25<m8/\I6 k25 [iN n17,iN (wrap i64 (n10+1))]))/\(decide (n18<n10)=false->t.cs=t.cs/\∃k23,k23<m8/\I6 k23 [iN n17,iN (wrap i64 (n10+1))]))/\(decide (n10<(↑(List.map (AV.int i64) jobs).length:Int))=false->((n9 != 0)=true->Q (.tup [AV.slc 3 [],iN 0,iN n9]) [])/\((n9 != 0)=false->∃es16,Sp 65 [t.av] [] (.slc 3 es16) []/\∃es18 n19,Sp 64 [t.av,iN lorry,.slc 3 (List.map (AV.int i64) jobs),.slc 3 es16] [] (.tup [AV.slc 3 es18,iN n19]) []/\Q (.tup [AV.slc 3 es18,iN n19,iN 0]) []))
theorem s16 (t:TRoTask) (lorry:Int) (jobs:List Int) (v O) (h:R16 t lorry jobs (fun r O'=>r=v/\O'=O)):Sp 16 [t.av,iN lorry,.slc 3 (List.map (AV.int .i64) jobs)] [] v O :=
 zS ⟨[0,1,2,3,6,7,8,9,10,11,12,13,32,36,45,56,58],[⟨5,[(9,iN 0),(10,iN 0)],[],[],[],[],[]⟩,⟨8,[(9,iN 0),(11,iN 0)],[],[],[],[],[]⟩],[⟨4,[(9,iN 0)],[],[],[],[],[]⟩],[]⟩ Tryz.func16 Tryz.call16 rfl (by kernel_rfl) h
theorem c16 (t:TRoTask) (ht:jw t) (lorry:Int) (jobs:List Int) (hl:jobs.length<=1000000):Sp 16 [t.av,.int .i64 lorry,.slc 3 (yg jobs)] [] (jf t lorry jobs) []:=s16 t lorry jobs _ _ (by
 unfold R16;obtain ⟨e,hE⟩:∃e:Int,e=if (qg t).2.2≠0 then (qg t).2.2 else if jobs.any (y8 t 0) then 4 else if yz lorry 0 ((t.Lorries.length:Int)-1) then 4 else 0:=⟨_,rfl⟩
 have hT:xm t lorry jobs=if e≠0 then ([],0,e) else if Yz jobs then ([],0,5) else ((yV (ye t) (yF (ye t) lorry) jobs).1,(yV (ye t) (yF (ye t) lorry) jobs).2,0):=by
  unfold xm;rw[hE];by_cases h1:(qg t).2.2≠0
  ·rw[if_pos h1,if_pos h1,if_pos h1]
  rw[if_neg h1,if_neg h1];cases jobs.any (y8 t 0)<;>cases yz lorry 0 ((t.Lorries.length:Int)-1)<;>rfl
 simp only[List.length_map];refine⟨_,c51 t ht,fun vs=>vs=[.int .i64 e],⟨fun g=>?_,fun g=>⟨by trivial,?_⟩⟩,?_⟩
 ·have g:(qg t).2.2=0:=by simpa using g
  have hv:=xK g;have hll:=hv.ll;have hjl:=hv.jl;rw[if_neg (by rw[g];simp)] at hE;rw[zw6 (n:=(t.Lorries.length:Int)-1) (by omega)];refine⟨_,c44 ..,fun g2=>⟨by trivial,?_⟩,fun g2=>⟨_,c63 t jobs hl (by omega),fun g3=>⟨by trivial,?_⟩,fun g3=>⟨by trivial,?_⟩⟩⟩;all_goals (simp only[Bool.not_not,Bool.not_eq_false'] at *;rw[hE])
  ·rw[g2];split<;>rfl
  ·rw[g3];rfl
  ·rw[g2,g3,g];rfl
 ·have g:(qg t).2.2≠0:=by simpa using g
  rw[hE,if_pos g]
 rintro _ ⟨⟩;refine⟨fun m vs=>∃i:Nat,i<=jobs.length/\m=jobs.length-i/\vs=[.int .i64 (Wt e jobs i),.int .i64 i],⟨_,0,by omega,rfl,?_⟩,?_⟩
 ·have:Wt e jobs 0=e:=by unfold Wt QM;split<;>simp_all
  rw[this];rfl
 rintro m a b ⟨i,hi,rfl,h⟩;cases h;refine⟨fun h=>?_,fun h=>?_⟩
 ·have h:i<jobs.length:=by have:=zt_ h;omega
  have hstep:Wt e jobs (i+1)=if Wt e jobs i≠0 then Wt e jobs i else if jobs[i]∈jobs.take i then 5 else 0:=by
   unfold Wt;by_cases he:e≠0
   ·rw[if_pos he,if_pos he,if_pos he]
   ·rw[if_neg he,if_neg he,Mu h];by_cases hd:QM jobs i≠0
    ·rw[if_pos hd,if_pos hd];unfold QM at hd ⊢;split
     ·rename_i h2;rw[if_pos h2] at hd;exact absurd rfl hd
     ·rfl
    ·rw[if_neg hd,if_neg hd]
  have hgi:(0:Int)<=(i:Int)/\True/\(yg jobs)[((i:Nat):Int).toNat]? = some (.int .i64 jobs[i]):=⟨by omega,trivial,xd h⟩;generalize Wt e jobs i=f at *;refine⟨fun m vs=>∃k:Nat,k<=i/\m=i-k/\vs=[.int .i64 (if f≠0 then f else if jobs[i]∈jobs.take k then 5 else 0),.int .i64 k],⟨_,0,by omega,rfl,?_⟩,?_⟩
  ·have:(if f≠0 then f else if jobs[i]∈jobs.take 0 then 5 else 0)=f:=by split<;>simp_all
   rw[this];rfl
  rintro m a b ⟨k,hk,rfl,h2⟩;cases h2;have fin:∀v:Int,v=Wt e jobs (i+1)->∃k',k'<jobs.length-i/\∃j:Nat,j<=jobs.length/\k'=jobs.length-j/\[AV.int .i64 v,.int .i64 (wrap i64 ((i:Int)+1))]=[.int .i64 (Wt e jobs j),.int .i64 j]:=fun v hv=>⟨jobs.length-(i+1),by omega,i+1,by omega,rfl,by rw[hv,yr (by omega)]⟩
  refine⟨fun h3=>⟨fun g=>?_,fun g=>⟨by trivial,fin _ ?_⟩⟩,fun h3=>⟨by trivial,fin _ ?_⟩⟩
  ·have h3:k<i:=by have:=zt_ h3;omega
   have hk':k<jobs.length:=by omega
   have g:=eq_of_beq g;have hf:¬ f≠0:=fun hf=>by rw[if_pos hf] at g;exact hf g
   rw[if_neg hf] at g ⊢;have hnm:jobs[i]∉jobs.take k:=fun hm=>by rw[if_pos hm] at g;cases g
   have etk:jobs.take (k+1)=jobs.take k++[jobs[k]]:=by rw[List.take_add_one,List.getElem?_eq_getElem hk'];rfl
   refine⟨_,⟨by omega,by trivial,xd hk'⟩,_,hgi,fun g2=>⟨by trivial,i-(k+1),by omega,k+1,by omega,rfl,?_⟩,fun g2=>⟨by trivial,i-(k+1),by omega,k+1,by omega,rfl,?_⟩⟩
   ·have g2:=eq_of_beq g2;rw[if_neg hf,if_pos (by rw[etk,g2];simp),yr (by omega)]
   ·have g2:jobs[k]≠jobs[i]:=fun e=>by rw[e] at g2;simp at g2
    rw[if_neg hf,if_neg hnm,if_neg (by rw[etk,List.mem_append,List.mem_singleton];rintro (q | q);exact hnm q;exact g2 q.symm),yr (by omega)]
  ·rw[hstep];have h3:k<i:=by have:=zt_ h3;omega
   by_cases hf:f≠0
   ·rw[if_pos hf,if_pos hf]
   ·rw[if_neg hf,if_neg hf];rw[if_neg hf] at g;have hm:jobs[i]∈jobs.take k:=by
     by_cases hm:jobs[i]∈jobs.take k
     ·exact hm
     ·rw[if_neg hm] at g;cases g
    rw[if_pos hm,if_pos ((List.take_sublist_take_left (show k<=i by omega)).subset hm)]
  ·obtain rfl:k=i:=by have:=zf_ h3;omega
   rw[hstep]
 ·obtain rfl:i=jobs.length:=by have:=zf_ h;omega
  have hd:Wt e jobs jobs.length=if e≠0 then e else if Yz jobs then 5 else 0:=by
   unfold Wt QM;rw[List.take_length];by_cases hn:jobs.Nodup
   ·rw[if_pos hn,QN.2 hn];rfl
   ·have hb:Yz jobs=true:=by cases hb:Yz jobs with | true=>rfl | false=>exact absurd (QN.1 hb) hn
    rw[if_neg hn,hb];rfl
  rw[hd];unfold jf;rw[hT];by_cases he:e≠0
  ·rw[if_pos he,if_pos he];exact⟨fun _=>⟨rfl,by trivial⟩,fun g=>absurd (by simpa using g) he⟩
  rw[if_neg he,if_neg he];cases hb:Yz jobs with
  |true=>exact⟨fun _=>⟨rfl,by trivial⟩,fun g=>(by cases g)⟩
  |false =>
   have he:e=0:=Decidable.not_not.1 he;rw[hE] at he;by_cases h1:(qg t).2.2≠0
   ·rw[if_pos h1] at he;exact absurd he h1
   rw[if_neg h1] at he;have hv:=xK (Decidable.not_not.1 h1);cases h2:jobs.any (y8 t 0) with
   |true=>rw[h2] at he;cases he
   |false =>
    cases h3:yz lorry 0 ((t.Lorries.length:Int)-1) with
    |true=>rw[h2,h3] at he;cases he
    |false =>
     have h3:=y7.1 h3;exact⟨fun g=>(by cases g),fun _=>⟨_,c65 t hv,_,_,c64 t hv lorry h3.1 (by omega) jobs hl h2,rfl,by trivial⟩⟩)
def R17 (a b:List TRoStop) (Q:yc):Prop :=
 (((↑(List.map TRoStop.av a).length:Int) != (↑(List.map TRoStop.av b).length:Int))=true->Q (.bool false) [])/\(((↑(List.map TRoStop.av a).length:Int) != (↑(List.map TRoStop.av b).length:Int))=false->∃(I2:Nat->List AV->Prop),(∃m4,I2 m4 [iN 0])/\∀(m4:Nat) (n5:Int),I2 m4 [iN n5]->(decide (n5<(↑(List.map TRoStop.av a).length:Int))=true->∃n9 n10 n11 n12,((0:Int)<=n5/\(4:Nat)=(4:Nat)/\(List.map TRoStop.av a)[n5.toNat]? = some (.agg [iN n9,iN n10,iN n11,iN n12]))/\∃n14 n15 n16 n17,((0:Int)<=n5/\(4:Nat)=(4:Nat)/\(List.map TRoStop.av b)[n5.toNat]? = some (.agg [iN n14,iN n15,iN n16,iN n17]))/\((!(n9 == n14 && (n10 == n15 && (n11 == n16 && (n12 == n17 && true)))))=true->Q (.bool false) [])/\((!(n9 == n14 && (n10 == n15 && (n11 == n16 && (n12 == n17 && true)))))=false->∃k21,k21<m4/\I2 k21 [iN (wrap i64 (n5+1))]))/\(decide (n5<(↑(List.map TRoStop.av a).length:Int))=false->Q (.bool true) []))
theorem s17 (a:List TRoStop) (b:List TRoStop) (v O) (h:R17 a b (fun r O'=>r=v/\O'=O)):Sp 17 [.slc 3 (List.map TRoStop.av a),.slc 3 (List.map TRoStop.av b)] [] v O :=
 zS ⟨[0,1,4,5,10,14,25],[⟨4,[(5,iN 0)],[],[],[],[],[]⟩],[],[]⟩ Tryz.func17 Tryz.call17 rfl (by kernel_rfl) h
theorem c17 (a:List TRoStop) (hl:a.length<=1000000):Sp 17 [.slc 3 (a.map TRoStop.av),.slc 3 (a.map TRoStop.av)] [] (.bool true) []:=s17 a a _ _ (by
 unfold R17;refine⟨fun g=>by simp at g,fun _=>⟨fun m vs=>∃k:Nat,k<=a.length/\m=a.length-k/\vs=[.int .i64 k],⟨_,0,by omega,rfl,rfl⟩,?_⟩⟩;rintro m n ⟨k,hk,rfl,hv⟩;cases hv;refine⟨fun h=>?_,fun h=>⟨rfl,rfl⟩⟩;have h:k<a.length:=by simpa using h
 obtain ⟨x,hx,hx'⟩:=yq (f:=TRoStop.av) h;refine⟨_,_,_,_,⟨by omega,rfl,hx'⟩,_,_,_,_,⟨by omega,rfl,hx'⟩,fun g=>by simp at g,fun _=>⟨a.length-(k+1),by omega,k+1,by omega,rfl,by rw[yr (by omega)]⟩⟩)
theorem Sj (d:TDepot):∀(l:List Int) (r:TTour),(yV d r l).1.length<=r.stops.length+l.length
 |[],r=>by show r.stops.length<=_;omega
 |n::l,r=>by
  show (if qe d r n then yV d (yN d r n) l else (r.stops,-1)).1.length<=_;split
  ·rename_i h;have:=Sj d l (yN d r n);have e:(yN d r n).stops=r.stops++[Xq d r n]:=by unfold yN;rw[if_pos h];rfl
   rw[e,List.length_append] at this;rw[List.length_cons];have:[Xq d r n].length=1:=rfl;omega
  ·show r.stops.length<=_;omega
def R4 (t:TRoTask) (lorry:Int) (jobs:List Int) (Q:yc):Prop :=
 (decide ((↑(List.map (AV.int i64) jobs).length:Int)>(40:Int))=true->∃b2,Sp 14 [] [] (.bool b2) []/\Q (.bool b2) [])/\(decide ((↑(List.map (AV.int i64) jobs).length:Int)>(40:Int))=false->∃es2 n3 n4,Sp 15 [t.av,iN lorry,.slc 3 (List.map (AV.int i64) jobs)] [] (.tup [AV.slc 3 es2,iN n3,iN n4]) []/\∃es6 n7 n8,Sp 16 [t.av,iN lorry,.slc 3 (List.map (AV.int i64) jobs)] [] (.tup [AV.slc 3 es6,iN n7,iN n8]) []/\∃b10,Sp 17 [AV.slc 3 es2,.slc 3 es6] [] (.bool b10) []/\(b10=true->((n3 == n7)=true->((n4 == n8)=true->∃b18,Sp 14 [] [] (.bool b18) []/\Q (.bool b18) [])/\((n4 == n8)=false->Q (.bool false) []))/\((n3 == n7)=false->Q (.bool false) []))/\(b10=false->Q (.bool false) []))
theorem s4 (t:TRoTask) (lorry:Int) (jobs:List Int) (v O) (h:R4 t lorry jobs (fun r O'=>r=v/\O'=O)):Sp 4 [t.av,iN lorry,.slc 3 (List.map (AV.int .i64) jobs)] [] v O :=
 zS ⟨[0,1,2,3,6,7,8,9,10,11,12,15],[],[],[]⟩ Tryz.func4 Tryz.call4 rfl (by kernel_rfl) h
theorem cL4 (t:TRoTask) (ht:jw t) (lorry:Int) (jobs:List Int):Sp 4 [t.av,.int .i64 lorry,.slc 3 (jobs.map (AV.int .i64))] [] (.bool true) []:=s4 t lorry jobs _ _ (by
 unfold R4;simp only[List.length_map];refine⟨fun _=>⟨_,Qr,rfl,by trivial⟩,fun h=>?_⟩;have h:jobs.length<=40:=by have:=zf_ h;omega
 have hlen:(xm t lorry jobs).1.length<=40:=by
  unfold xm;split
  ·exact Nat.zero_le _
  split
  ·exact Nat.zero_le _
  split
  ·exact Nat.zero_le _
  split
  ·exact Nat.zero_le _
  have:=Sj (ye t) jobs (yF (ye t) lorry);have e:(yF (ye t) lorry).stops.length=0:=rfl;show (yV (ye t) (yF (ye t) lorry) jobs).1.length<=40;omega
 refine⟨_,_,_,JM t ht lorry jobs (by omega),_,_,_,c16 t ht lorry jobs (by omega),_,c17 _ (by omega),fun _=>⟨fun _=>⟨fun _=>⟨_,Qr,rfl,by trivial⟩,fun g=>?_⟩,fun g=>?_⟩,fun g=>?_⟩;all_goals simp at g)
end Go.Proofs.YtkojpnkknehhmaaGreatDoor
