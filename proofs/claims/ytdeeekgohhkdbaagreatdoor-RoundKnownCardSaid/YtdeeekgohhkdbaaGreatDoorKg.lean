/- Plain: a task that is wider than another: what goes there goes here, too. -/
import Derived.Test.YtdeeekgohhkdbaaGreatDoorKb
namespace Go.Proofs.YtdeeekgohhkdbaaGreatDoor
structure N4 (t m:TRoTask):Prop where
 x:m.X=t.X
 y:m.Y=t.Y
 pace:m.Pace=t.Pace
 kinds:m.Kinds=t.Kinds
 jl:t.Jobs.length<=m.Jobs.length
 job:∀n:Int,0<=n->n<t.Jobs.length->qd m n=qd t n
 span:∀n:Int,0<=n->n<t.Jobs.length->vZ (yk t (qd t n))=false->vZ (yk m (qd t n))=false/\(yk m (qd t n)).From<=(yk t (qd t n)).From/\(yk t (qd t n)).Until<=(yk m (qd t n)).Until
theorem N4.at {t m:TRoTask} (w:N4 t m) {k:Int} (hk:k<t.Jobs.length):atX m k=atX t k/\atY m k=atY t k:=by
 by_cases h:k>=0
 ·rw[Xc h,Xc h,Xe h,Xe h,w.job k h hk];exact⟨rfl,rfl⟩
 ·rw[Xb h,Xb h,Xd h,Xd h,w.x,w.y];exact⟨rfl,rfl⟩
theorem N4.yi {t m:TRoTask} (w:N4 t m) {a b:Int} (ha:a<t.Jobs.length) (hb:b<t.Jobs.length):Tm m a b=Tm t a b:=by
 unfold Tm;rw[(w.at ha).1,(w.at ha).2,(w.at hb).1,(w.at hb).2,w.pace]
theorem LP:∀(u l:List Int),u.Nodup->(∀x∈u,x∈l)->u.length<=l.length:=by
 intro u;induction u with
 |nil=>intro l _ _;exact Nat.zero_le _
 |cons a u ih =>
  intro l h hs;obtain ⟨h1,h2⟩:=List.nodup_cons.1 h;have ha:=hs a List.mem_cons_self;have:=ih (l.erase a) h2 fun x hx=>(List.mem_erase_of_ne (fun e=>h1 (by rw[e] at hx;exact hx))).2 (hs x (List.mem_cons_of_mem _ hx))
  rw[List.length_erase_of_mem ha] at this;have hp:=List.length_pos_of_mem ha;rw[List.length_cons];omega
theorem JP:∀(l u:List Int),u.Nodup->(∀x∈u,x∈l)->l.length<=u.length->l.Nodup:=by
 intro l;induction l with
 |nil=>intro u _ _ _;exact List.nodup_nil
 |cons a l ih =>
  intro u h hs hl;rw[List.length_cons] at hl;by_cases ha:a∈l
  ·have:=LP u l h fun x hx=>(List.mem_cons.1 (hs x hx)).elim (fun e=>by rw[e];exact ha) id
   omega
  ·refine List.nodup_cons.2 ⟨ha,ih (u.erase a) (h.erase a) (fun x hx=>?_) ?_⟩
   ·have hne:x≠a:=fun e=>(h.not_mem_erase) (by rw[e] at hx;exact hx)
    exact(List.mem_cons.1 (hs x (List.mem_of_mem_erase hx))).elim (fun e=>absurd e hne) id
   ·rw[List.length_erase];split<;>omega
theorem IZ {l:List Int}:k9 l=false↔l.Nodup:=by
 refine⟨fun h=>?_,GR⟩;unfold k9 at h;have h:=zf_ h;exact JP l _ ((Uu (Yi l)).imp fun h=>by omega) (fun x hx=>SP.1 (Uv.1 hx)) (by omega)
section
variable {α:Type} {f:α->AV} {g:α->List AV} {k:Nat}
end
theorem DQ {a b:Int} (h:(a != b)=true) (e:a=b):False:=by subst e;simp at h
def R21 (a b:List TRoStop) (_S:SpecF) (_Fr:FreshF) (_Sq:SeqF) (Q:ym):Prop :=
 (((↑(List.map TRoStop.av a).length:Int) != (↑(List.map TRoStop.av b).length:Int))=true->Q (.bool false) [])/\(((↑(List.map TRoStop.av a).length:Int) != (↑(List.map TRoStop.av b).length:Int))=false->∃(I2:Nat->List AV->Prop),(∃m4,I2 m4 [iN 0])/\∀(m4:Nat) (n5:Int),I2 m4 [iN n5]->(decide (n5<(↑(List.map TRoStop.av a).length:Int))=true->∃n9 n10 n11 n12,((0:Int)<=n5/\(4:Nat)=(4:Nat)/\(List.map TRoStop.av a)[n5.toNat]? = some (.agg [iN n9,iN n10,iN n11,iN n12]))/\∃n14 n15 n16 n17,((0:Int)<=n5/\(4:Nat)=(4:Nat)/\(List.map TRoStop.av b)[n5.toNat]? = some (.agg [iN n14,iN n15,iN n16,iN n17]))/\((!(n9 == n14 && (n10 == n15 && (n11 == n16 && (n12 == n17 && true)))))=true->Q (.bool false) [])/\((!(n9 == n14 && (n10 == n15 && (n11 == n16 && (n12 == n17 && true)))))=false->∃k21,k21<m4/\I2 k21 [iN (IntKind.i64.wrap (n5+1))]))/\(decide (n5<(↑(List.map TRoStop.av a).length:Int))=false->Q (.bool true) []))
theorem s21 (a:List TRoStop) (b:List TRoStop) (v:AV) (O:List (List AV)) (h:R21 a b Sp Fo So (fun r O'=>r=v/\O'=O)):Sp 21 [.slc 3 (List.map TRoStop.av a),.slc 3 (List.map TRoStop.av b)] [] v O :=
 yj (w:=⟨[],[],[],[],[]⟩) (k:=0) (keep:=⟨[0,1,4,5,10,14,25],[⟨4,[(5,iN 0)],[],[],[],[],[]⟩],[],[]⟩) (boxes:=[]) mixed (by exact trivial) Tryz.func21 Tryz.call21 rfl rfl rfl (Nat.le_of_ble_eq_true rfl) (by kernel_rfl) h
theorem Tk (a:List TRoStop) (hl:a.length<=4611686018427387904):Sp 21 [.slc 3 (a.map TRoStop.av),.slc 3 (a.map TRoStop.av)] [] (.bool true) []:=s21 a a _ _ (by
 unfold R21;refine⟨fun h=>(DQ h rfl).elim,fun _=>⟨fun m vs=>∃k:Nat,vs=[.int .i64 k]/\k<=a.length/\m=a.length-k,⟨_,0,rfl,by omega,rfl⟩,?_⟩⟩;rintro m n5 ⟨k,hk,hle,rfl⟩;cases hk;rw[List.length_map];refine⟨fun h=>?_,fun _=>⟨rfl,by trivial⟩⟩;have h:k<a.length:=by have:=zt_ h;omega
 obtain ⟨x,hx,hx'⟩:=yH (f:=TRoStop.av) h;refine⟨_,_,_,_,⟨by omega,by trivial,hx'⟩,_,_,_,_,⟨by omega,by trivial,hx'⟩,fun g=>absurd g (by simp),fun _=>?_⟩;exact⟨_,(by omega:a.length-(k+1)<a.length-k),k+1,by rw[yx (by omega)],by omega,rfl⟩)
end Go.Proofs.YtdeeekgohhkdbaaGreatDoor
