/- Contracts: the document's checks of tasks are the program's. -/
import Derived.Test.YtkojpnkknehhmaaGreatDoorYi
import Derived.Test.YtkojpnkknehhmaaGreatDoorPd
namespace Go.Proofs.YtkojpnkknehhmaaGreatDoor
open Go.IntKind (wrap i64 u64)
open Go.RowKit
def R45 (x y:Int) (Q:yc):Prop :=
 ∃b0,Sp 44 [iN x,iN (-50000:Int),iN 50000] [] (.bool b0) []/\(b0=true->∃b4,Sp 44 [iN y,iN (-50000:Int),iN 50000] [] (.bool b4) []/\Q (.bool b4) [])/\(b0=false->Q (.bool false) [])
theorem s45 (x y:Int) (v O) (h:R45 x y (fun r O'=>r=v/\O'=O)):Sp 45 [iN x,iN y] [] v O :=
 zS ⟨[0,1,4],[],[],[]⟩ Tryz.func45 Tryz.call45 rfl (by kernel_rfl) h
theorem c45 (x y:Int):Sp 45 [.int .i64 x,.int .i64 y] [] (.bool (!wa x y)) []:=s45 x y _ _ (by
 unfold R45 wa;refine⟨_,c44 ..,fun g=>⟨_,c44 ..,?_,rfl⟩,fun g=>⟨?_,rfl⟩⟩
 ·have g:yz x (-50000) 50000=false:=by simpa using g
  rw[g];rfl
 ·have g:yz x (-50000) 50000=true:=by simpa using g
  rw[g];rfl)
def R46 (a b:Int) (Q:yc):Prop :=
 ∃b0,Sp 44 [iN a,iN 0,iN 172800] [] (.bool b0) []/\(b0=true->∃b4,Sp 44 [iN b,iN a,iN 172800] [] (.bool b4) []/\Q (.bool b4) [])/\(b0=false->Q (.bool false) [])
theorem s46 (a b:Int) (v O) (h:R46 a b (fun r O'=>r=v/\O'=O)):Sp 46 [iN a,iN b] [] v O :=
 zS ⟨[0,1,4],[],[],[]⟩ Tryz.func46 Tryz.call46 rfl (by kernel_rfl) h
theorem c46 (a b:Int):Sp 46 [.int .i64 a,.int .i64 b] [] (.bool (!j7 ⟨a,b⟩)) []:=s46 a b _ _ (by
 unfold R46;have e:j7 ⟨a,b⟩=(yz a 0 172800 || yz b a 172800):=by
  unfold j7 yz;rw[Bool.eq_iff_iff];simp only[Bool.or_eq_true,decide_eq_true_eq];omega
 rw[e];refine⟨_,c44 ..,fun g=>⟨_,c44 ..,?_,rfl⟩,fun g=>⟨?_,rfl⟩⟩
 ·have g:yz a 0 172800=false:=by simpa using g
  rw[g];rfl
 ·have g:yz a 0 172800=true:=by simpa using g
  rw[g];rfl)
theorem ue {α:Type} {f:α->Bool} {l:List α} {k:Nat} {x:α} (h:l[k]? = some x):(l.take (k+1)).any f=((l.take k).any f || f x):=by
 rw[List.take_add_one,h,List.any_append];show _=(_ || f x);rw[show ((some x:Option α).toList).any f=f x by simp]
theorem WT {α:Type} {f:α->Bool} {l:List α} {k i:Nat} {x:α} (h:l[k]? = some x) (hk:k<i) (hf:f x=true):(l.take i).any f=true:=by
 rw[List.any_eq_true];exact⟨x,List.mem_of_getElem? (by rw[List.getElem?_take_of_lt hk];exact h),hf⟩
def R47 (t:TRoTask) (i:Int) (Q:yc):Prop :=
 ∃s0 n1 n2 n3 n4 n5,((0:Int)<=i/\(6:Nat)=(6:Nat)/\(List.map TRoLorry.av t.Lorries)[i.toNat]? = some (.agg [AV.str s0,iN n1,iN n2,iN n3,iN n4,iN n5]))/\∃b7,Sp 89 [AV.str s0] [] (.bool b7) []/\((!b7)=true->Q (iN 6) [])/\((!b7)=false->∃(I11:Nat->List AV->Prop),(∃m13,I11 m13 [iN 0])/\∀(m13:Nat) (n14:Int),I11 m13 [iN n14]->(decide (n14<i)=true->∃s18 n19 n20 n21 n22 n23,((0:Int)<=n14/\(6:Nat)=(6:Nat)/\(List.map TRoLorry.av t.Lorries)[n14.toNat]? = some (.agg [AV.str s18,iN n19,iN n20,iN n21,iN n22,iN n23]))/\((s18.toList == s0.toList)=true->Q (iN 5) [])/\((s18.toList == s0.toList)=false->t.cs=t.cs/\yd [AV.str s0,iN n1,iN n2,iN n3,iN n4,iN n5]/\∃k29,k29<m13/\I11 k29 [iN (wrap i64 (n14+1))]))/\(decide (n14<i)=false->∃b18,Sp 44 [iN n1,iN 0,iN 200] [] (.bool b18) []/\((!b18)=true->Q (iN 7) [])/\((!b18)=false->∃b22,Sp 44 [iN n2,iN 0,iN 1000000] [] (.bool b22) []/\((!b22)=true->Q (iN 7) [])/\((!b22)=false->∃b26,Sp 46 [iN n3,iN n4] [] (.bool b26) []/\((!b26)=true->Q (iN 7) [])/\((!b26)=false->∃b30,Sp 44 [iN n5,iN 0,iN 1000000] [] (.bool b30) []/\((!b30)=true->Q (iN 7) [])/\((!b30)=false->Q (iN 0) []))))))
theorem s47 (t:TRoTask) (i:Int) (v O) (h:R47 t i (fun r O'=>r=v/\O'=O)):Sp 47 [t.av,iN i] [] v O :=
 zS ⟨[0,1,2,4,5,6,15,18,29,53],[⟨5,[(6,iN 0)],[],[],[],[],[]⟩],[],[]⟩ Tryz.func47 Tryz.call47 rfl (by kernel_rfl) h
theorem c47 (t:TRoTask) (ht:jw t) (i:Nat) (hi:i<t.Lorries.length) (hl:t.Lorries.length<=1000):Sp 47 [t.av,.int .i64 i] [] (.int .i64 (yE TRoLorry.Name qd t.Lorries i)) []:=s47 t i _ _ (by
 unfold R47;obtain ⟨x,hx,hx'⟩:=yq (f:=TRoLorry.av) hi;have hat:=kM (nm:=TRoLorry.Name) (rest:=qd) hx;have hmem:x∈t.Lorries:=List.mem_of_getElem? hx;refine⟨_,_,_,_,_,_,⟨by omega,rfl,hx'⟩,_,c89 _ (ht.lo x hmem),fun g=>⟨by rw[hat,if_pos g],rfl⟩,fun g=>?_⟩;rw[if_neg (by rw[g];simp)] at hat;refine⟨fun m vs=>∃k:Nat,k<=i/\m=i-k/\vs=[.int .i64 k]/\(t.Lorries.take k).any (fun y=>qG y.Name x.Name)=false,⟨_,0,by omega,rfl,rfl,rfl⟩,?_⟩;rintro m n ⟨k,hk,rfl,hv,hn⟩;cases hv;refine⟨fun h=>?_,fun h=>?_⟩
 ·have h:k<i:=by have:=zt_ h;omega
  obtain ⟨y,hy,hy'⟩:=yq (f:=TRoLorry.av) (show k<t.Lorries.length by omega);refine⟨_,_,_,_,_,_,⟨by omega,rfl,hy'⟩,fun g2=>⟨?_,rfl⟩,fun g2=>⟨rfl,rfl,i-(k+1),by omega,k+1,by omega,rfl,by rw[yr (by omega)],?_⟩⟩
  ·rw[hat,if_pos (WT hy h g2)]
  ·rw[ue hy,hn];exact g2
 ·obtain rfl:k=i:=by have:=zf_ h;omega
  rw[if_neg (by rw[hn];simp)] at hat;rw[hat];unfold qd S0;refine⟨_,c44 ..,fun h=>⟨?_,rfl⟩,fun h1=>⟨_,c44 ..,fun h=>⟨?_,rfl⟩,fun h2=>⟨_,c46 ..,fun h=>⟨?_,rfl⟩,fun h3=>⟨_,c44 ..,fun h=>⟨?_,rfl⟩,fun h4=>⟨?_,rfl⟩⟩⟩⟩⟩;all_goals (simp only[Bool.not_not,Bool.not_eq_false'] at *;simp[*]))
def R48 (t:TRoTask) (i:Int) (Q:yc):Prop :=
 ∃s0 n1 n2 n3 n4 es5 n6 b7 n8,((0:Int)<=i/\(9:Nat)=(9:Nat)/\(List.map TRoJob.av t.Jobs)[i.toNat]? = some (.agg [AV.str s0,iN n1,iN n2,iN n3,iN n4,.slc 3 es5,iN n6,.bool b7,iN n8]))/\∃b10,Sp 89 [AV.str s0] [] (.bool b10) []/\((!b10)=true->Q (iN 6) [])/\((!b10)=false->∃(I14:Nat->List AV->Prop),(∃m16,I14 m16 [iN 0])/\∀(m16:Nat) (n17:Int),I14 m16 [iN n17]->(decide (n17<i)=true->∃s21 n22 n23 n24 n25 es26 n27 b28 n29,((0:Int)<=n17/\(9:Nat)=(9:Nat)/\(List.map TRoJob.av t.Jobs)[n17.toNat]? = some (.agg [AV.str s21,iN n22,iN n23,iN n24,iN n25,.slc 3 es26,iN n27,.bool b28,iN n29]))/\((s21.toList == s0.toList)=true->Q (iN 5) [])/\((s21.toList == s0.toList)=false->t.cs=t.cs/\yd [AV.str s0,iN n1,iN n2,iN n3,iN n4,.slc 3 es5,iN n6,.bool b7,iN n8]/\∃k35,k35<m16/\I14 k35 [iN (wrap i64 (n17+1))]))/\(decide (n17<i)=false->(((↑es5.length:Int) != (↑(List.map TRoKind.av t.Kinds).length:Int))=true->Q (iN 2) [])/\(((↑es5.length:Int) != (↑(List.map TRoKind.av t.Kinds).length:Int))=false->∃b23,Sp 44 [iN n6,iN (-1:Int),iN (wrap i64 ((↑(List.map TRoSpan.av t.Closures).length:Int)-(1:Int)))] [] (.bool b23) []/\((!b23)=true->Q (iN 4) [])/\((!b23)=false->∃(J27:List AV->Prop),(∃b29,Sp 45 [iN n1,iN n2] [] (.bool b29) []/\(b29=true->∃b33,Sp 44 [iN n3,iN 0,iN 200] [] (.bool b33) []/\(b33=true->∃b37,Sp 44 [iN n4,iN 0,iN 86400] [] (.bool b37) []/\(b37=true->∃b41,Sp 44 [iN n8,iN 0,iN 1000000] [] (.bool b41) []/\t.cs=t.cs/\yd [AV.str s0,iN n1,iN n2,iN n3,iN n4,.slc 3 es5,iN n6,.bool b7,iN n8]/\J27 [AV.bool b41])/\(b37=false->t.cs=t.cs/\yd [AV.str s0,iN n1,iN n2,iN n3,iN n4,.slc 3 es5,iN n6,.bool b7,iN n8]/\J27 [AV.bool false]))/\(b33=false->t.cs=t.cs/\yd [AV.str s0,iN n1,iN n2,iN n3,iN n4,.slc 3 es5,iN n6,.bool b7,iN n8]/\J27 [AV.bool false]))/\(b29=false->t.cs=t.cs/\yd [AV.str s0,iN n1,iN n2,iN n3,iN n4,.slc 3 es5,iN n6,.bool b7,iN n8]/\J27 [AV.bool false]))/\∀(b29:Bool),J27 [AV.bool b29]->∃(I31:Nat->List AV->Prop),(∃m33,I31 m33 [AV.bool b29,iN 0])/\∀(m33:Nat) (b34:Bool) (n35:Int),I31 m33 [AV.bool b34,iN n35]->(decide (n35<(↑es5.length:Int))=true->(b34=true->∃n41,((0:Int)<=n35/\(1:Nat)=(1:Nat)/\es5[n35.toNat]? = some (iN n41))/\∃b43,Sp 44 [iN n41,iN 0,iN 20] [] (.bool b43) []/\t.cs=t.cs/\yd [AV.str s0,iN n1,iN n2,iN n3,iN n4,.slc 3 es5,iN n6,.bool b7,iN n8]/\∃k47,k47<m33/\I31 k47 [AV.bool b43,iN (wrap i64 (n35+1))])/\(b34=false->t.cs=t.cs/\yd [AV.str s0,iN n1,iN n2,iN n3,iN n4,.slc 3 es5,iN n6,.bool b7,iN n8]/\∃k43,k43<m33/\I31 k43 [AV.bool false,iN (wrap i64 (n35+1))]))/\(decide (n35<(↑es5.length:Int))=false->((!b34)=true->Q (iN 7) [])/\((!b34)=false->Q (iN 0) []))))))
theorem s48 (t:TRoTask) (i:Int) (v O) (h:R48 t i (fun r O'=>r=v/\O'=O)):Sp 48 [t.av,iN i] [] v O :=
 zS ⟨[0,1,2,4,5,6,7,8,17,20,31,38,46,71,84],[⟨5,[(6,iN 0)],[],[],[],[],[]⟩,⟨15,[(7,.bool false),(8,iN 0)],[],[],[],[],[]⟩],[⟨14,[(7,.bool false)],[],[],[],[],[]⟩],[]⟩ Tryz.func48 Tryz.call48 rfl (by kernel_rfl) h
theorem c48 (t:TRoTask) (ht:jw t) (i:Nat) (hi:i<t.Jobs.length) (hl:t.Jobs.length<=1000) (hk:t.Kinds.length<=1000) (hc:t.Closures.length<=1000):Sp 48 [t.av,.int .i64 i] [] (.int .i64 (yE TRoJob.Name (kE t) t.Jobs i)) []:=s48 t i _ _ (by
 unfold R48;obtain ⟨x,hx,hx'⟩:=yq (f:=TRoJob.av) hi;have hat:=kM (nm:=TRoJob.Name) (rest:=kE t) hx;have hmem:x∈t.Jobs:=List.mem_of_getElem? hx;refine⟨_,_,_,_,_,_,_,_,_,⟨by omega,rfl,hx'⟩,_,c89 _ (ht.jo x hmem),fun g=>⟨by rw[hat,if_pos g],rfl⟩,fun g=>?_⟩;rw[if_neg (by rw[g];simp)] at hat;refine⟨fun m vs=>∃k:Nat,k<=i/\m=i-k/\vs=[.int .i64 k]/\(t.Jobs.take k).any (fun y=>qG y.Name x.Name)=false,⟨_,0,by omega,rfl,rfl,rfl⟩,?_⟩;rintro m n ⟨k,hk',rfl,hv,hn⟩;cases hv;refine⟨fun h=>?_,fun h=>?_⟩
 ·have h:k<i:=by have:=zt_ h;omega
  obtain ⟨y,hy,hy'⟩:=yq (f:=TRoJob.av) (show k<t.Jobs.length by omega);refine⟨_,_,_,_,_,_,_,_,_,⟨by omega,rfl,hy'⟩,fun g2=>⟨?_,rfl⟩,fun g2=>⟨rfl,rfl,i-(k+1),by omega,k+1,by omega,rfl,by rw[yr (by omega)],?_⟩⟩
  ·rw[hat,if_pos (WT hy h g2)]
  ·rw[ue hy,hn];exact g2
 obtain rfl:k=i:=by have:=zf_ h;omega
 rw[if_neg (by rw[hn];simp)] at hat;rw[hat];unfold kE MQ;simp only[List.length_map];have hd:((x.Parts.length:Int) != (t.Kinds.length:Int))=decide (x.Parts.length≠t.Kinds.length):=by rw[Bool.eq_iff_iff];simp;omega
 rw[hd,zw6 (n:=(t.Closures.length:Int)-1) (by omega)];refine⟨fun h=>⟨by rw[if_pos (zt_ h)],by trivial⟩,fun h0=>?_⟩;have h0:¬ x.Parts.length≠t.Kinds.length:=zf_ h0;rw[if_neg h0];refine⟨_,c44 ..,fun h=>⟨?_,by trivial⟩,fun h1=>?_⟩
 ·rw[if_pos (by simpa using h)]
 have h1:yz x.Closure (-1) ((t.Closures.length:Int)-1)=false:=by simpa using h1
 rw[if_neg (by rw[h1];simp)];have hb:∃b,b=(!wa x.X x.Y && (!yz x.Height 0 200 && (!yz x.Seconds 0 86400 && !yz x.Value 0 1000000))):=⟨_,rfl⟩;obtain ⟨b,hb⟩:=hb;refine⟨fun vs=>vs=[.bool b],⟨_,c45 ..,fun g1=>⟨_,c44 ..,fun g2=>⟨_,c44 ..,fun g3=>⟨_,c44 ..,by trivial,by trivial,?_⟩,fun g3=>⟨by trivial,by trivial,?_⟩⟩,fun g2=>⟨by trivial,by trivial,?_⟩⟩,fun g1=>⟨by trivial,by trivial,?_⟩⟩,?_⟩
 ·rw[hb,g1,g2,g3];rfl
 ·rw[hb,g1,g2,g3];rfl
 ·rw[hb,g1,g2];rfl
 ·rw[hb,g1];rfl
 rintro _ ⟨⟩;refine⟨fun m vs=>∃k:Nat,k<=x.Parts.length/\m=x.Parts.length-k/\vs=[.bool (b && !(x.Parts.take k).any kL),.int .i64 k],⟨_,0,by omega,rfl,by simp⟩,?_⟩;rintro m c n ⟨k,hk2,rfl,hv⟩;cases hv;refine⟨fun h=>?_,fun h=>?_⟩
 ·have h:k<x.Parts.length:=by simpa using h
  obtain ⟨y,hy,hy'⟩:=yq (f:=AV.int .i64) h;refine⟨fun g2=>⟨_,⟨by omega,by trivial,hy'⟩,_,c44 ..,by trivial,by trivial,x.Parts.length-(k+1),by omega,k+1,by omega,rfl,?_⟩,fun g2=>⟨by trivial,by trivial,x.Parts.length-(k+1),by omega,k+1,by omega,rfl,?_⟩⟩
  ·rw[ue hy,Bool.not_or,<- Bool.and_assoc,g2,yr (by omega)];rfl
  ·rw[ue hy,Bool.not_or,<- Bool.and_assoc,g2,yr (by omega)];rfl
 ·obtain rfl:k=x.Parts.length:=by simp at h;omega
  rw[List.take_length,hb];refine⟨fun h=>⟨?_,by trivial⟩,fun h=>⟨?_,by trivial⟩⟩
  ·cases a1:wa x.X x.Y<;>cases a2:yz x.Height 0 200<;>cases a3:yz x.Seconds 0 86400<;>cases a4:yz x.Value 0 1000000<;>cases a5:x.Parts.any kL<;>first | rfl | (rw[a1,a2,a3,a4,a5] at h;cases h)
  ·cases a1:wa x.X x.Y<;>cases a2:yz x.Height 0 200<;>cases a3:yz x.Seconds 0 86400<;>cases a4:yz x.Value 0 1000000<;>cases a5:x.Parts.any kL<;>first | rfl | (rw[a1,a2,a3,a4,a5] at h;cases h))
theorem QU {α:Type} {f:α->Bool} {l:List α} {k:Nat} (hn:yx f k (l.drop k)=yx f 0 l) (h:¬ k<l.length):¬ yx f 0 l>=0:=by
 rw[List.drop_eq_nil_of_le (by omega)] at hn;rw[<- hn];show ¬ (-1:Int)>=0;omega
def R9 (t:TRoTask) (Q:yc):Prop :=
 ∃n0,Sp 43 [t.City.av] [] (iN n0) []/\∃(J2:List AV->Prop),(((n0 == 0)=true->∃b6,Sp 44 [iN t.Day,iN 0,iN 40000] [] (.bool b6) []/\((!b6)=true->t.cs=t.cs/\J2 [iN 7])/\((!b6)=false->∃b10,Sp 45 [iN t.X,iN t.Y] [] (.bool b10) []/\((!b10)=true->t.cs=t.cs/\J2 [iN 7])/\((!b10)=false->∃b14,Sp 44 [iN t.Pace,iN 0,iN 3600] [] (.bool b14) []/\((!b14)=true->t.cs=t.cs/\J2 [iN 7])/\((!b14)=false->t.cs=t.cs/\J2 [iN n0]))))/\((n0 == 0)=false->t.cs=t.cs/\J2 [iN n0]))/\∀(n4:Int),J2 [iN n4]->((n4 != 0)=true->Q (.tup [iN 1,iN 0,iN n4]) [])/\((n4 != 0)=false->(decide ((↑(List.map TRoKind.av t.Kinds).length:Int)>(4:Int))=true->Q (.tup [iN 2,iN 0,iN 3]) [])/\(decide ((↑(List.map TRoKind.av t.Kinds).length:Int)>(4:Int))=false->(decide ((↑(List.map TRoSpan.av t.Closures).length:Int)>(4:Int))=true->Q (.tup [iN 2,iN 0,iN 3]) [])/\(decide ((↑(List.map TRoSpan.av t.Closures).length:Int)>(4:Int))=false->(decide ((↑(List.map TRoLorry.av t.Lorries).length:Int)>(3:Int))=true->Q (.tup [iN 2,iN 0,iN 3]) [])/\(decide ((↑(List.map TRoLorry.av t.Lorries).length:Int)>(3:Int))=false->(decide ((↑(List.map TRoJob.av t.Jobs).length:Int)>(6:Int))=true->Q (.tup [iN 2,iN 0,iN 3]) [])/\(decide ((↑(List.map TRoJob.av t.Jobs).length:Int)>(6:Int))=false->∃(I16:Nat->List AV->Prop),(∃m18,I16 m18 [iN 0])/\∀(m18:Nat) (n19:Int),I16 m18 [iN n19]->(decide (n19<(↑(List.map TRoKind.av t.Kinds).length:Int))=true->∃n23 n24,((0:Int)<=n19/\(2:Nat)=(2:Nat)/\(List.map TRoKind.av t.Kinds)[n19.toNat]? = some (.agg [iN n23,iN n24]))/\∃b26,Sp 44 [iN n23,iN 0,iN 1000] [] (.bool b26) []/\((!b26)=true->Q (.tup [iN 3,iN n19,iN 7]) [])/\((!b26)=false->∃n30 n31,((0:Int)<=n19/\(2:Nat)=(2:Nat)/\(List.map TRoKind.av t.Kinds)[n19.toNat]? = some (.agg [iN n30,iN n31]))/\∃b33,Sp 44 [iN n31,iN 0,iN 1000000] [] (.bool b33) []/\((!b33)=true->Q (.tup [iN 3,iN n19,iN 7]) [])/\((!b33)=false->t.cs=t.cs/\∃k38,k38<m18/\I16 k38 [iN (wrap i64 (n19+1))])))/\(decide (n19<(↑(List.map TRoKind.av t.Kinds).length:Int))=false->∃(I23:Nat->List AV->Prop),(∃m25,I23 m25 [iN 0])/\∀(m25:Nat) (n26:Int),I23 m25 [iN n26]->(decide (n26<(↑(List.map TRoSpan.av t.Closures).length:Int))=true->∃n30 n31,((0:Int)<=n26/\(2:Nat)=(2:Nat)/\(List.map TRoSpan.av t.Closures)[n26.toNat]? = some (.agg [iN n30,iN n31]))/\∃n33 n34,((0:Int)<=n26/\(2:Nat)=(2:Nat)/\(List.map TRoSpan.av t.Closures)[n26.toNat]? = some (.agg [iN n33,iN n34]))/\∃b36,Sp 46 [iN n30,iN n34] [] (.bool b36) []/\((!b36)=true->Q (.tup [iN 4,iN n26,iN 7]) [])/\((!b36)=false->t.cs=t.cs/\∃k41,k41<m25/\I23 k41 [iN (wrap i64 (n26+1))]))/\(decide (n26<(↑(List.map TRoSpan.av t.Closures).length:Int))=false->∃(I30:Nat->List AV->Prop),(∃m32,I30 m32 [iN 0])/\∀(m32:Nat) (n33:Int),I30 m32 [iN n33]->(decide (n33<(↑(List.map TRoLorry.av t.Lorries).length:Int))=true->∃n37,Sp 47 [t.av,iN n33] [] (iN n37) []/\((n37 != 0)=true->Q (.tup [iN 5,iN n33,iN n37]) [])/\((n37 != 0)=false->t.cs=t.cs/\∃k42,k42<m32/\I30 k42 [iN (wrap i64 (n33+1))]))/\(decide (n33<(↑(List.map TRoLorry.av t.Lorries).length:Int))=false->∃(I37:Nat->List AV->Prop),(∃m39,I37 m39 [iN 0])/\∀(m39:Nat) (n40:Int),I37 m39 [iN n40]->(decide (n40<(↑(List.map TRoJob.av t.Jobs).length:Int))=true->∃n44,Sp 48 [t.av,iN n40] [] (iN n44) []/\((n44 != 0)=true->Q (.tup [iN 6,iN n40,iN n44]) [])/\((n44 != 0)=false->t.cs=t.cs/\∃k49,k49<m39/\I37 k49 [iN (wrap i64 (n40+1))]))/\(decide (n40<(↑(List.map TRoJob.av t.Jobs).length:Int))=false->Q (.tup TRoFault.zero.cs) [])))))))))
theorem s9 (t:TRoTask) (v O) (h:R9 t (fun r O'=>r=v/\O'=O)):Sp 9 [t.av] [] v O :=
 zS ⟨[0,1,2,3,4,5,6,7,8,9,10,11,36,38,61,66,86,92,108,114,121,128,135],[⟨9,[(6,iN 0)],[],[],[],[],[]⟩,⟨14,[(7,iN 0)],[],[],[],[],[]⟩,⟨19,[(8,iN 0)],[],[],[],[],[]⟩,⟨25,[(10,iN 0)],[],[],[],[],[]⟩],[⟨4,[(5,iN 0)],[],[],[],[],[]⟩],[]⟩ Tryz.func9 Tryz.call9 rfl (by kernel_rfl) h
theorem c9 (t:TRoTask) (ht:jw t):Sp 9 [t.av] [] (.tup [.int .i64 (qg t).1,.int .i64 (qg t).2.1,.int .i64 (qg t).2.2]) []:=s9 t _ _ (by
 unfold R9;simp only[List.length_map];obtain ⟨e,he⟩:∃e:Int,e=if wI t.City then 7 else if yz t.Day 0 40000 then 7 else if wa t.X t.Y then 7 else if yz t.Pace 0 3600 then 7 else 0:=⟨_,rfl⟩
 have hE:qg t=if e≠0 then (1,0,e) else
   if t.Kinds.length>4 then (2,0,3) else if t.Closures.length>4 then (2,0,3) else if t.Lorries.length>3 then (2,0,3) else if t.Jobs.length>6 then (2,0,3) else
   if yx j5 0 t.Kinds>=0 then (3,yx j5 0 t.Kinds,7) else if yx j7 0 t.Closures>=0 then (4,yx j7 0 t.Closures,7) else
   if (yO (yE TRoLorry.Name qd t.Lorries) t.Lorries.length 0).2≠0 then (5,yO (yE TRoLorry.Name qd t.Lorries) t.Lorries.length 0) else
   if (yO (yE TRoJob.Name (kE t) t.Jobs) t.Jobs.length 0).2≠0 then (6,yO (yE TRoJob.Name (kE t) t.Jobs) t.Jobs.length 0) else (0,0,0):=by
  unfold qg;rw[he];cases wI t.City<;>cases yz t.Day 0 40000<;>cases wa t.X t.Y<;>cases yz t.Pace 0 3600<;>rfl
 refine⟨_,c43 t.City,fun vs=>vs=[.int .i64 e],?_,?_⟩
 ·cases hc:wI t.City with
  |true=>rw[hc] at he;exact⟨fun q=>(by simp at q),fun _=>⟨by trivial,by rw[he];rfl⟩⟩
  |false =>
   rw[hc] at he;refine⟨fun _=>⟨_,c44 ..,fun g=>⟨by trivial,?_⟩,fun g1=>⟨_,c45 ..,fun g=>⟨by trivial,?_⟩,fun g2=>⟨_,c44 ..,fun g=>⟨by trivial,?_⟩,fun g3=>⟨by trivial,?_⟩⟩⟩⟩,fun q=>(by simp at q)⟩;all_goals (simp only[Bool.not_not,Bool.not_eq_false'] at *;rw[he];simp[*])
 rintro _ ⟨⟩;refine⟨fun g=>⟨?_,by trivial⟩,fun g=>?_⟩
 ·rw[hE,if_pos (by simpa using g)]
 rw[if_neg (by simpa using g)] at hE;refine⟨fun h=>⟨by rw[hE,if_pos (by have:=zt_ h;omega)],by trivial⟩,fun h4=>?_⟩;have h4:¬ t.Kinds.length>4:=by have:=zf_ h4;omega
 rw[if_neg h4] at hE;refine⟨fun h=>⟨by rw[hE,if_pos (by have:=zt_ h;omega)],by trivial⟩,fun h5=>?_⟩;have h5:¬ t.Closures.length>4:=by have:=zf_ h5;omega
 rw[if_neg h5] at hE;refine⟨fun h=>⟨by rw[hE,if_pos (by have:=zt_ h;omega)],by trivial⟩,fun h6=>?_⟩;have h6:¬ t.Lorries.length>3:=by have:=zf_ h6;omega
 rw[if_neg h6] at hE;refine⟨fun h=>⟨by rw[hE,if_pos (by have:=zt_ h;omega)],by trivial⟩,fun h7=>?_⟩;have h7:¬ t.Jobs.length>6:=by have:=zf_ h7;omega
 rw[if_neg h7] at hE;refine⟨fun m vs=>∃k:Nat,vs=[.int .i64 k]/\k<=t.Kinds.length/\m=t.Kinds.length-k/\yx j5 k (t.Kinds.drop k)=yx j5 0 t.Kinds,⟨_,0,rfl,by omega,rfl,rfl⟩,?_⟩;rintro m n ⟨k,hk,hle,rfl,hn⟩;cases hk;refine⟨fun h=>?_,fun h=>?_⟩
 ·have h:k<t.Kinds.length:=by have:=zt_ h;omega
  obtain ⟨x,hx,hx'⟩:=yq (f:=TRoKind.av) h;rw[qY hx] at hn;have look:(0:Int)<=(k:Int)/\True/\(t.Kinds.map TRoKind.av)[((k:Nat):Int).toNat]? = some (.agg [.int .i64 x.Size,.int .i64 x.Price]):=⟨by omega,trivial,hx'⟩;refine⟨_,_,look,_,c44 ..,fun g=>⟨?_,by trivial⟩,fun g1=>⟨_,_,look,_,c44 ..,fun g=>⟨?_,by trivial⟩,fun g2=>⟨by trivial,t.Kinds.length-(k+1),by omega,k+1,by rw[yr (by omega)],by omega,rfl,?_⟩⟩⟩
  ·have hb:j5 x=true:=by unfold j5;rw[show yz x.Size 0 1000=true by simpa using g];rfl
   rw[if_pos hb] at hn;rw[hE,<- hn,if_pos (by omega)]
  ·have hb:j5 x=true:=by unfold j5;rw[show yz x.Price 0 1000000=true by simpa using g,Bool.or_true]
   rw[if_pos hb] at hn;rw[hE,<- hn,if_pos (by omega)]
  ·have hb:j5 x=false:=by unfold j5;rw[show yz x.Size 0 1000=false by simpa using g1,show yz x.Price 0 1000000=false by simpa using g2];rfl
   rw[if_neg (by rw[hb];simp)] at hn;exact hn
 rw[if_neg (QU hn (by simpa using h))] at hE;clear hn h;refine⟨fun m vs=>∃k:Nat,vs=[.int .i64 k]/\k<=t.Closures.length/\m=t.Closures.length-k/\yx j7 k (t.Closures.drop k)=yx j7 0 t.Closures,⟨_,0,rfl,by omega,rfl,rfl⟩,?_⟩;rintro m n ⟨k,hk,hle,rfl,hn⟩;cases hk;refine⟨fun h=>?_,fun h=>?_⟩
 ·have h:k<t.Closures.length:=by have:=zt_ h;omega
  obtain ⟨x,hx,hx'⟩:=yq (f:=TRoSpan.av) h;rw[qY hx] at hn;have look:(0:Int)<=(k:Int)/\True/\(t.Closures.map TRoSpan.av)[((k:Nat):Int).toNat]? = some (.agg [.int .i64 x.From,.int .i64 x.Until]):=⟨by omega,trivial,hx'⟩;refine⟨_,_,look,_,_,look,_,c46 ..,fun g=>⟨?_,by trivial⟩,fun g2=>⟨by trivial,t.Closures.length-(k+1),by omega,k+1,by rw[yr (by omega)],by omega,rfl,?_⟩⟩
  ·rw[if_pos (by simpa using g)] at hn;rw[hE,<- hn,if_pos (by omega)]
  ·rw[if_neg (by simpa using g2)] at hn;exact hn
 rw[if_neg (QU hn (by simpa using h))] at hE;clear hn h;refine⟨fun m vs=>∃k:Nat,vs=[.int .i64 k]/\k<=t.Lorries.length/\m=t.Lorries.length-k/\yO (yE TRoLorry.Name qd t.Lorries) (t.Lorries.length-k) k=yO (yE TRoLorry.Name qd t.Lorries) t.Lorries.length 0,⟨_,0,rfl,by omega,rfl,rfl⟩,?_⟩;rintro m n ⟨k,hk,hle,rfl,hn⟩;cases hk;refine⟨fun h=>?_,fun h=>?_⟩
 ·have h:k<t.Lorries.length:=by have:=zt_ h;omega
  rw[vb h] at hn;refine⟨_,c47 t ht k h (by omega),fun g=>⟨?_,by trivial⟩,fun g2=>⟨by trivial,t.Lorries.length-(k+1),by omega,k+1,by rw[yr (by omega)],by omega,rfl,?_⟩⟩
  ·have g:yE TRoLorry.Name qd t.Lorries k≠0:=by simpa using g
   rw[if_pos g] at hn;rw[hE,<- hn,if_pos g]
  ·rw[if_neg (by simpa using g2)] at hn;exact hn
 have hz:(yO (yE TRoLorry.Name qd t.Lorries) t.Lorries.length 0).2=0:=by
  rw[<- hn,show t.Lorries.length-k=0 by have:=zf_ h;omega];rfl
 rw[if_neg (by rw[hz];simp)] at hE;clear hn h hz;refine⟨fun m vs=>∃k:Nat,vs=[.int .i64 k]/\k<=t.Jobs.length/\m=t.Jobs.length-k/\yO (yE TRoJob.Name (kE t) t.Jobs) (t.Jobs.length-k) k=yO (yE TRoJob.Name (kE t) t.Jobs) t.Jobs.length 0,⟨_,0,rfl,by omega,rfl,rfl⟩,?_⟩;rintro m n ⟨k,hk,hle,rfl,hn⟩;cases hk;refine⟨fun h=>?_,fun h=>?_⟩
 ·have h:k<t.Jobs.length:=by have:=zt_ h;omega
  rw[vb h] at hn;refine⟨_,c48 t ht k h (by omega) (by omega) (by omega),fun g=>⟨?_,by trivial⟩,fun g2=>⟨by trivial,t.Jobs.length-(k+1),by omega,k+1,by rw[yr (by omega)],by omega,rfl,?_⟩⟩
  ·have g:yE TRoJob.Name (kE t) t.Jobs k≠0:=by simpa using g
   rw[if_pos g] at hn;rw[hE,<- hn,if_pos g]
  ·rw[if_neg (by simpa using g2)] at hn;exact hn
 have hz:(yO (yE TRoJob.Name (kE t) t.Jobs) t.Jobs.length 0).2=0:=by
  rw[<- hn,show t.Jobs.length-k=0 by have:=zf_ h;omega];rfl
 rw[if_neg (by rw[hz];simp)] at hE;rw[hE];exact⟨rfl,by trivial⟩)
end Go.Proofs.YtkojpnkknehhmaaGreatDoor
