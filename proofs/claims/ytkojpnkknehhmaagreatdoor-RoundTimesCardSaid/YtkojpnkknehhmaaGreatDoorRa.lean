/- Contracts: names; the first of some things. Contracts: what tasks are checked for. -/
import Derived.Test.YtkojpnkknehhmaaGreatDoorEg
namespace Go.Proofs.YtkojpnkknehhmaaGreatDoor
open Go.IntKind (wrap i64 u64)
open Go.RowKit
def inB (n lo hi:Int):Bool:=decide (lo<=n) && decide (n<=hi)
theorem NP {n lo hi:Int}:inB n lo hi=true↔lo<=n/\n<=hi:=by simp[inB]
def Tm (c:Int):Bool:=inB c 97 122
def vY (c:Int):Bool:=Tm c || inB c 48 57 || c == 45
def okL:Nat->List Int->Bool
 |_,[]=>true
 |i,c::r=>(if i=0 then Tm c else vY c) && okL (i+1) r
def j8 (s:ByteArray):List Int:=s.data.toList.map fun b=>(b.toNat:Int)
def jO (s:ByteArray):Bool:=!(j8 s).isEmpty && decide (s.size<=24) && okL 0 (j8 s)
theorem Mk (s:ByteArray):wC s=(j8 s).map (AV.int .u8):=by simp[wC,j8]
theorem Y2 (s:ByteArray):(j8 s).length=s.size:=by simp[j8]
theorem OP {l:List Int} {k:Nat} {c:Int} (h:l[k]? = some c):okL k (l.drop k)=((if k=0 then Tm c else vY c) && okL (k+1) (l.drop (k+1))):=by
 obtain ⟨hk,rfl⟩:=List.getElem?_eq_some_iff.1 h;rw[List.drop_eq_getElem_cons hk];rfl
def yO (e:Nat->Int):Nat->Nat->Int × Int
 |0,_=>(0,0)
 |k+1,i=>if e i≠0 then ((i:Int),e i) else yO e k (i+1)
theorem vb {e:Nat->Int} {n k:Nat} (h:k<n):yO e (n-k) k=if e k≠0 then ((k:Int),e k) else yO e (n-(k+1)) (k+1):=by
 have:n-k=(n-(k+1))+1:=by omega
 rw[this];rfl
theorem Mz {e:Nat->Int}:∀ {k i:Nat},(yO e k i).2=0->∀j,i<=j->j<i+k->e j=0:=by
 intro k;induction k with
 |zero=>intro i _ j h1 h2;omega
 |succ k ih =>
  intro i h j h1 h2;simp only[yO] at h;split at h
  ·rename_i hne;exact absurd h hne
  ·rename_i hne;by_cases hj:j=i
   ·subst hj;exact Decidable.byContradiction hne
   ·exact ih h j (by omega) (by omega)
def qG (x y:ByteArray):Bool:=x.toList == y.toList
def yE {α:Type} (nm:α->ByteArray) (rest:Nat->α->Int) (l:List α) (i:Nat):Int :=
 match l[i]? with
 |none=>0
 |some x=>if !jO (nm x) then 6 else if (l.take i).any (fun y=>qG (nm y) (nm x)) then 5 else rest i x
theorem kM {α:Type} {nm:α->ByteArray} {rest:Nat->α->Int} {l:List α} {i:Nat} {x:α} (h:l[i]? = some x) :
  yE nm rest l i=if !jO (nm x) then 6 else if (l.take i).any (fun y=>qG (nm y) (nm x)) then 5 else rest i x:=by unfold yE;rw[h]
def R82 (s:ByteArray) (Q:yc):Prop :=
 ∃(I0:Nat->List AV->Prop),(∃m2,I0 m2 [iN 0])/\∀(m2:Nat) (n3:Int),I0 m2 [iN n3]->(decide (n3<(↑(wC s).length:Int))=true->∃n7,((0:Int)<=n3/\(1:Nat)=(1:Nat)/\(wC s)[n3.toNat]? = some (.int IntKind.u8 n7))/\(decide (n7>=97)=true->((!decide (n7<=122))=true->((n3 == 0)=true->Q (.bool false) [])/\((n3 == 0)=false->(decide (n7>=48)=true->((!decide (n7<=57))=true->((n7 != 45)=true->Q (.bool false) [])/\((n7 != 45)=false->∃k21,k21<m2/\I0 k21 [iN (wrap i64 (n3+1))]))/\((!decide (n7<=57))=false->∃k19,k19<m2/\I0 k19 [iN (wrap i64 (n3+1))]))/\(decide (n7>=48)=false->((n7 != 45)=true->Q (.bool false) [])/\((n7 != 45)=false->∃k19,k19<m2/\I0 k19 [iN (wrap i64 (n3+1))]))))/\((!decide (n7<=122))=false->∃k13,k13<m2/\I0 k13 [iN (wrap i64 (n3+1))]))/\(decide (n7>=97)=false->((n3 == 0)=true->Q (.bool false) [])/\((n3 == 0)=false->(decide (n7>=48)=true->((!decide (n7<=57))=true->((n7 != 45)=true->Q (.bool false) [])/\((n7 != 45)=false->∃k19,k19<m2/\I0 k19 [iN (wrap i64 (n3+1))]))/\((!decide (n7<=57))=false->∃k17,k17<m2/\I0 k17 [iN (wrap i64 (n3+1))]))/\(decide (n7>=48)=false->((n7 != 45)=true->Q (.bool false) [])/\((n7 != 45)=false->∃k17,k17<m2/\I0 k17 [iN (wrap i64 (n3+1))])))))/\(decide (n3<(↑(wC s).length:Int))=false->((!s.toList == (ByteArray.mk #[]).toList)=true->Q (.bool (decide ((↑s.size:Int)<=(24:Int)))) [])/\((!s.toList == (ByteArray.mk #[]).toList)=false->Q (.bool false) []))
theorem s82 (s:ByteArray) (v O) (h:R82 s (fun r O'=>r=v/\O'=O)):Sp 82 [.str s] [] v O :=
 zS ⟨[0,2,3,4,5,7,8,9,10,38],[⟨2,[(9,iN 0)],[],[],[],[],[]⟩],[],[]⟩ Tryz.func82 Tryz.call82 rfl (by kernel_rfl) h
theorem c82 (s:ByteArray) (hl:s.size<=9223372036854775807):Sp 82 [.str s] [] (.bool (jO s)) []:=s82 s _ _ (by
 unfold R82;simp only[Mk,List.length_map,Y2];refine⟨fun m vs=>∃n:Nat,vs=[.int .i64 n]/\n<=s.size/\m=s.size-n/\okL n ((j8 s).drop n)=okL 0 (j8 s),⟨_,0,rfl,by omega,rfl,rfl⟩,?_⟩;rintro m n ⟨k,hk,hle,rfl,hn⟩;cases hk;refine⟨fun h3=>?_,fun h3=>?_⟩
 ·have h3:k<s.size:=by simpa using h3
  obtain ⟨c,hc,hc'⟩:=yq (f:=AV.int .u8) (l:=j8 s) (k:=k) (by rw[Y2];exact h3);have hat:=OP hc;refine⟨c,⟨by omega,trivial,hc'⟩,?_⟩;rw[yr (by omega)];have bad:(if k=0 then Tm c else vY c)=false->jO s=false:=fun hb=>by
   have:okL 0 (j8 s)=false:=by rw[<- hn,hat,hb];rfl
   simp only[jO,this,Bool.and_false]
  have good:(if k=0 then Tm c else vY c)=true->∃m',m'<s.size-k/\∃n:Nat,[AV.int .i64 ((k+1:Nat):Int)]=[.int .i64 n]/\n<=s.size/\m'=s.size-n/\okL n ((j8 s).drop n)=okL 0 (j8 s):=fun hg =>
   ⟨_,(by omega:s.size-(k+1)<s.size-k),k+1,rfl,by omega,rfl,by rw[<- hn,hat,hg];rfl⟩
  have hk0:((k:Int) == 0)=decide (k=0):=by rw[Bool.eq_iff_iff];simp
  rw[hk0];generalize (∃m',m'<s.size-k/\∃n:Nat,[AV.int .i64 ((k+1:Nat):Int)]=[.int .i64 n]/\n<=s.size/\m'=s.size-n/\okL n ((j8 s).drop n)=okL 0 (j8 s))=G at good ⊢;simp only[vY,Tm,inB] at good bad;simp only[decide_eq_true_eq,decide_eq_false_iff_not,Bool.not_eq_true',Bool.not_eq_false',ge_iff_le,bne_iff_ne,ne_eq,bne_eq_false_iff_eq];by_cases hk:k=0
  ·simp only[hk,if_true] at good bad ⊢;by_cases h1:97<=c<;>by_cases h2:c<=122<;>simp_all<;>omega
  ·simp only[hk,if_false] at good bad ⊢;by_cases h1:97<=c<;>by_cases h2:c<=122<;>by_cases h3:48<=c<;>by_cases h4:c<=57<;>by_cases h5:c=45<;>simp_all<;>omega
 ·have hk:k=s.size:=by simp at h3;omega
  have hd:(j8 s).drop k=[]:=by rw[hk,<- Y2,List.drop_length]
  rw[hd] at hn;have hok:okL 0 (j8 s)=true:=by rw[<- hn];rfl
  have he:(s.toList == (ByteArray.mk #[]).toList)=(j8 s).isEmpty:=by
   rw[Bool.eq_iff_iff,beq_iff_eq,List.isEmpty_iff];simp only[ByteArray.toList_eq,j8,List.map_eq_nil_iff]
  refine⟨fun h=>⟨?_,trivial⟩,fun h=>⟨?_,trivial⟩⟩
  ·rw[he] at h;simp only[jO,hok,h,Bool.true_and,Bool.and_true];congr 1;rw[Bool.eq_iff_iff];simp;omega
  ·rw[he] at h;simp only[jO,h,Bool.false_and])
def yx {α:Type} (f:α->Bool):Nat->List α->Int
 |_,[] => -1
 |i,x::r=>if f x then (i:Int) else yx f (i+1) r
theorem qY {α:Type} {f:α->Bool} {l:List α} {k:Nat} {x:α} (h:l[k]? = some x):yx f k (l.drop k)=if f x then (k:Int) else yx f (k+1) (l.drop (k+1)):=by
 obtain ⟨hk,rfl⟩:=List.getElem?_eq_some_iff.1 h;rw[List.drop_eq_getElem_cons hk];rfl
theorem jn {α:Type} (f:α->Bool):∀(l:List α) (i:Nat),decide (yx f i l>=0)=l.any f:=by
 intro l;induction l with
 |nil=>intro i;rfl
 |cons x r ih =>
  intro i;rw[yx,List.any_cons];cases f x with
  |true=>simp
  |false=>simpa using ih (i+1)
def R29 (n lo hi:Int) (Q:yc):Prop :=
 (decide (n<lo)=true->Q (.bool true) [])/\(decide (n<lo)=false->Q (.bool (decide (n>hi))) [])
theorem s29 (n lo hi:Int) (v O) (h:R29 n lo hi (fun r O'=>r=v/\O'=O)):Sp 29 [iN n,iN lo,iN hi] [] v O :=
 zS ⟨[0,1,2,6],[],[],[]⟩ Tryz.func29 Tryz.call29 rfl (by kernel_rfl) h
theorem c29 (n lo hi:Int):Sp 29 [.int .i64 n,.int .i64 lo,.int .i64 hi] [] (.bool (yz n lo hi)) []:=s29 n lo hi _ _ (by
 unfold R29 yz;refine⟨fun h=>⟨?_,by trivial⟩,fun h=>⟨?_,by trivial⟩⟩
 ·rw[h];rfl
 ·rw[h];rfl)
def wa (x y:Int):Bool:=yz x (-50000) 50000 || yz y (-50000) 50000
def R30 (x y:Int) (Q:yc):Prop :=
 ∃b0,Sp 29 [iN x,iN (-50000:Int),iN 50000] [] (.bool b0) []/\(b0=true->Q (.bool true) [])/\(b0=false->∃b4,Sp 29 [iN y,iN (-50000:Int),iN 50000] [] (.bool b4) []/\Q (.bool b4) [])
theorem s30 (x y:Int) (v O) (h:R30 x y (fun r O'=>r=v/\O'=O)):Sp 30 [iN x,iN y] [] v O :=
 zS ⟨[0,1,4],[],[],[]⟩ Tryz.func30 Tryz.call30 rfl (by kernel_rfl) h
theorem c30 (x y:Int):Sp 30 [.int .i64 x,.int .i64 y] [] (.bool (wa x y)) []:=s30 x y _ _ (by
 unfold R30 wa;refine⟨_,c29 ..,fun h=>⟨?_,by trivial⟩,fun h=>⟨_,c29 ..,?_,by trivial⟩⟩
 ·rw[h];rfl
 ·rw[h];rfl)
def j7 (s:TRoSpan):Bool:=yz s.Until 0 172800 || yz s.From 0 s.Until
def R34 (s:TRoSpan) (Q:yc):Prop :=
 ∃b0,Sp 29 [iN s.Until,iN 0,iN 172800] [] (.bool b0) []/\(b0=true->Q (.bool true) [])/\(b0=false->∃b4,Sp 29 [iN s.From,iN 0,iN s.Until] [] (.bool b4) []/\Q (.bool b4) [])
theorem s34 (s:TRoSpan) (v O) (h:R34 s (fun r O'=>r=v/\O'=O)):Sp 34 [s.av] [] v O :=
 zS ⟨[0,1,2],[],[],[]⟩ Tryz.func34 Tryz.call34 rfl (by kernel_rfl) h
theorem c34 (s:TRoSpan):Sp 34 [s.av] [] (.bool (j7 s)) []:=s34 s _ _ (by
 unfold R34 j7;refine⟨_,c29 ..,fun h=>⟨?_,by trivial⟩,fun h=>⟨_,c29 ..,?_,by trivial⟩⟩
 ·rw[h];rfl
 ·rw[h];rfl)
def j5 (k:TRoKind):Bool:=yz k.Size 0 1000 || yz k.Price 0 1000000
def R31 (k:TRoKind) (Q:yc):Prop :=
 ∃b0,Sp 29 [iN k.Size,iN 0,iN 1000] [] (.bool b0) []/\(b0=true->Q (.bool true) [])/\(b0=false->∃b4,Sp 29 [iN k.Price,iN 0,iN 1000000] [] (.bool b4) []/\Q (.bool b4) [])
theorem s31 (k:TRoKind) (v O) (h:R31 k (fun r O'=>r=v/\O'=O)):Sp 31 [k.av] [] v O :=
 zS ⟨[0,1,2],[],[],[]⟩ Tryz.func31 Tryz.call31 rfl (by kernel_rfl) h
theorem c31 (k:TRoKind):Sp 31 [k.av] [] (.bool (j5 k)) []:=s31 k _ _ (by
 unfold R31 j5;refine⟨_,c29 ..,fun h=>⟨?_,by trivial⟩,fun h=>⟨_,c29 ..,?_,by trivial⟩⟩
 ·rw[h];rfl
 ·rw[h];rfl)
def R32 (s:List TRoKind) (Q:yc):Prop :=
 ∃(I0:Nat->List AV->Prop),(∃m2,I0 m2 [iN 0])/\∀(m2:Nat) (n3:Int),I0 m2 [iN n3]->(decide (n3<(↑(List.map TRoKind.av s).length:Int))=true->∃n7 n8,((0:Int)<=n3/\(2:Nat)=(2:Nat)/\(List.map TRoKind.av s)[n3.toNat]? = some (.agg [iN n7,iN n8]))/\∃b10,Sp 31 [AV.agg [iN n7,iN n8]] [] (.bool b10) []/\(b10=true->Q (iN n3) [])/\(b10=false->∃k14,k14<m2/\I0 k14 [iN (wrap i64 (n3+1))]))/\(decide (n3<(↑(List.map TRoKind.av s).length:Int))=false->Q (iN (-1:Int)) [])
theorem s32 (s:List TRoKind) (v O) (h:R32 s (fun r O'=>r=v/\O'=O)):Sp 32 [.slc 3 (List.map TRoKind.av s),.fn 31 [] []] [] v O :=
 zX ⟨[],[],[31],[],[]⟩ 0 ⟨[0,1,4,5,7,8,9,16],[⟨2,[(8,iN 0)],[],[],[],[],[]⟩],[],[]⟩ [] (by exact trivial) Tryz.func32 Tryz.call32 rfl rfl rfl (by kernel_rfl) h
theorem c32 (s:List TRoKind) (hl:s.length<=1000000):Sp 32 [.slc 3 (s.map TRoKind.av),.fn 31 [] []] [] (.int .i64 (yx j5 0 s)) []:=s32 s _ _ (by
 unfold R32;refine⟨fun m vs=>∃k:Nat,vs=[.int .i64 k]/\k<=s.length/\m=s.length-k/\yx j5 k (s.drop k)=yx j5 0 s,⟨_,0,rfl,by omega,rfl,rfl⟩,?_⟩;rintro m n ⟨k,hk,hle,rfl,hn⟩;cases hk;simp only[List.length_map];refine⟨fun h3=>?_,fun h3=>⟨?_,by trivial⟩⟩
 ·have h3:k<s.length:=by have:=zt_ h3;omega
  obtain ⟨x,hx,hx'⟩:=yq (f:=TRoKind.av) h3;have hat:=qY (f:=j5) hx;refine⟨x.Size,x.Price,⟨by omega,by trivial,hx'⟩,_,c31 x,fun h4=>⟨?_,by trivial⟩,fun h4=>⟨_,?_,k+1,?_,by omega,rfl,?_⟩⟩
  ·rw[<- hn,hat,h4];rfl
  ·omega
  ·rw[yr (by omega)]
  ·rw[<- hn,hat,h4];rfl
 ·have:k=s.length:=by have:=zf_ h3;omega
  rw[<- hn,this,List.drop_length];rfl)
def R33 (s:List TRoSpan) (Q:yc):Prop :=
 ∃(I0:Nat->List AV->Prop),(∃m2,I0 m2 [iN 0])/\∀(m2:Nat) (n3:Int),I0 m2 [iN n3]->(decide (n3<(↑(List.map TRoSpan.av s).length:Int))=true->∃n7 n8,((0:Int)<=n3/\(2:Nat)=(2:Nat)/\(List.map TRoSpan.av s)[n3.toNat]? = some (.agg [iN n7,iN n8]))/\∃b10,Sp 34 [AV.agg [iN n7,iN n8]] [] (.bool b10) []/\(b10=true->Q (iN n3) [])/\(b10=false->∃k14,k14<m2/\I0 k14 [iN (wrap i64 (n3+1))]))/\(decide (n3<(↑(List.map TRoSpan.av s).length:Int))=false->Q (iN (-1:Int)) [])
theorem s33 (s:List TRoSpan) (v O) (h:R33 s (fun r O'=>r=v/\O'=O)):Sp 33 [.slc 3 (List.map TRoSpan.av s),.fn 34 [] []] [] v O :=
 zX ⟨[],[],[34],[],[]⟩ 0 ⟨[0,1,4,5,7,8,9,16],[⟨2,[(8,iN 0)],[],[],[],[],[]⟩],[],[]⟩ [] (by exact trivial) Tryz.func33 Tryz.call33 rfl rfl rfl (by kernel_rfl) h
theorem c33 (s:List TRoSpan) (hl:s.length<=1000000):Sp 33 [.slc 3 (s.map TRoSpan.av),.fn 34 [] []] [] (.int .i64 (yx j7 0 s)) []:=s33 s _ _ (by
 unfold R33;refine⟨fun m vs=>∃k:Nat,vs=[.int .i64 k]/\k<=s.length/\m=s.length-k/\yx j7 k (s.drop k)=yx j7 0 s,⟨_,0,rfl,by omega,rfl,rfl⟩,?_⟩;rintro m n ⟨k,hk,hle,rfl,hn⟩;cases hk;simp only[List.length_map];refine⟨fun h3=>?_,fun h3=>⟨?_,by trivial⟩⟩
 ·have h3:k<s.length:=by have:=zt_ h3;omega
  obtain ⟨x,hx,hx'⟩:=yq (f:=TRoSpan.av) h3;have hat:=qY (f:=j7) hx;refine⟨x.From,x.Until,⟨by omega,by trivial,hx'⟩,_,c34 x,fun h4=>⟨?_,by trivial⟩,fun h4=>⟨_,?_,k+1,?_,by omega,rfl,?_⟩⟩
  ·rw[<- hn,hat,h4];rfl
  ·omega
  ·rw[yr (by omega)]
  ·rw[<- hn,hat,h4];rfl
 ·have:k=s.length:=by have:=zf_ h3;omega
  rw[<- hn,this,List.drop_length];rfl)
def S0 (x:TRoLorry):Int:=if yz x.Lift 0 200 then 7 else if yz x.Room 0 1000000 then 7 else if j7 ⟨x.From,x.Until⟩ then 7 else if yz x.PerHour 0 1000000 then 7 else 0
def qd (_:Nat) (x:TRoLorry):Int:=S0 x
def R37 (x:TRoLorry) (Q:yc):Prop :=
 ∃b0,Sp 29 [iN x.Lift,iN 0,iN 200] [] (.bool b0) []/\(b0=true->Q (iN 7) [])/\(b0=false->∃b4,Sp 29 [iN x.Room,iN 0,iN 1000000] [] (.bool b4) []/\(b4=true->Q (iN 7) [])/\(b4=false->∃b8,Sp 34 [AV.agg [iN x.From,iN x.Until]] [] (.bool b8) []/\(b8=true->Q (iN 7) [])/\(b8=false->∃b12,Sp 29 [iN x.PerHour,iN 0,iN 1000000] [] (.bool b12) []/\(b12=true->Q (iN 7) [])/\(b12=false->Q (iN 0) []))))
theorem s37 (x:TRoLorry) (v O) (h:R37 x (fun r O'=>r=v/\O'=O)):Sp 37 [x.av] [] v O :=
 zS ⟨[0,1,2,23],[],[],[]⟩ Tryz.func37 Tryz.call37 rfl (by kernel_rfl) h
theorem c37 (k:Nat) (x:TRoLorry):Sp 37 [x.av] [] (.int .i64 (qd k x)) []:=s37 x _ _ (by
 unfold R37 qd S0;refine⟨_,c29 ..,fun h=>⟨?_,by trivial⟩,fun h1=>⟨_,c29 ..,fun h=>⟨?_,by trivial⟩,fun h2=>⟨_,c34 ⟨x.From,x.Until⟩,fun h=>⟨?_,by trivial⟩,fun h3=>⟨_,c29 ..,fun h=>⟨?_,by trivial⟩,fun h4=>⟨?_,by trivial⟩⟩⟩⟩⟩
 ·rw[if_pos h]
 ·rw[if_neg (by rw[h1];simp),if_pos h]
 ·rw[if_neg (by rw[h1];simp),if_neg (by rw[h2];simp),if_pos h]
 ·rw[if_neg (by rw[h1];simp),if_neg (by rw[h2];simp),if_neg (by rw[h3];simp),if_pos h]
 ·rw[if_neg (by rw[h1];simp),if_neg (by rw[h2];simp),if_neg (by rw[h3];simp),if_neg (by rw[h4];simp)])
def kL (n:Int):Bool:=yz n 0 20
def R41 (n:Int) (Q:yc):Prop :=
 ∃b0,Sp 29 [iN n,iN 0,iN 20] [] (.bool b0) []/\Q (.bool b0) []
theorem s41 (n:Int) (v O) (h:R41 n (fun r O'=>r=v/\O'=O)):Sp 41 [iN n] [] v O :=
 zS ⟨[0,2],[],[],[]⟩ Tryz.func41 Tryz.call41 rfl (by kernel_rfl) h
theorem c41 (n:Int):Sp 41 [.int .i64 n] [] (.bool (kL n)) []:=s41 n _ _ ⟨_,c29 ..,rfl,rfl⟩
def Dl (s:List Int) (Q:yc):Prop :=
 ∃(I0:Nat->List AV->Prop),(∃m2,I0 m2 [iN 0])/\∀(m2:Nat) (n3:Int),I0 m2 [iN n3]->(decide (n3<(↑(List.map (AV.int i64) s).length:Int))=true->∃n7,((0:Int)<=n3/\(1:Nat)=(1:Nat)/\(List.map (AV.int i64) s)[n3.toNat]? = some (iN n7))/\∃b9,Sp 41 [iN n7] [] (.bool b9) []/\(b9=true->Q (iN n3) [])/\(b9=false->∃k13,k13<m2/\I0 k13 [iN (wrap i64 (n3+1))]))/\(decide (n3<(↑(List.map (AV.int i64) s).length:Int))=false->Q (iN (-1:Int)) [])
theorem zeu (s:List Int) (v O) (h:Dl s (fun r O'=>r=v/\O'=O)):Sp 87 [.slc 3 (List.map (AV.int .i64) s),.fn 41 [] []] [] v O :=
 zX ⟨[],[],[41],[],[]⟩ 0 ⟨[0,1,4,5,7,8,9,16],[⟨2,[(8,iN 0)],[],[],[],[],[]⟩],[],[]⟩ [] (by exact trivial) Tryz.func87 Tryz.call87 rfl rfl rfl (by kernel_rfl) h
theorem zcp (s:List Int) (hl:s.length<=1000000):Sp 87 [.slc 3 (s.map (AV.int .i64)),.fn 41 [] []] [] (.int .i64 (yx kL 0 s)) []:=zeu s _ _ (by
 unfold Dl;refine⟨fun m vs=>∃k:Nat,vs=[.int .i64 k]/\k<=s.length/\m=s.length-k/\yx kL k (s.drop k)=yx kL 0 s,⟨_,0,rfl,by omega,rfl,rfl⟩,?_⟩;rintro m n ⟨k,hk,hle,rfl,hn⟩;cases hk;simp only[List.length_map];refine⟨fun h3=>?_,fun h3=>⟨?_,by trivial⟩⟩
 ·have h3:k<s.length:=by have:=zt_ h3;omega
  obtain ⟨x,hx,hx'⟩:=yq (f:=(AV.int .i64)) h3;have hat:=qY (f:=kL) hx;refine⟨x,⟨by omega,by trivial,hx'⟩,_,c41 x,fun h4=>⟨?_,by trivial⟩,fun h4=>⟨_,?_,k+1,?_,by omega,rfl,?_⟩⟩
  ·rw[<- hn,hat,h4];rfl
  ·omega
  ·rw[yr (by omega)]
  ·rw[<- hn,hat,h4];rfl
 ·have:k=s.length:=by have:=zf_ h3;omega
  rw[<- hn,this,List.drop_length];rfl)
def zbu (s:List Int) (Q:yc):Prop :=
 ∃n0,Sp 87 [AV.slc 3 (List.map (AV.int i64) s),AV.fn (41:FuncId) [] []] [] (iN n0) []/\Q (.bool (decide (n0>=0))) []
theorem zep (s:List Int) (v O) (h:zbu s (fun r O'=>r=v/\O'=O)):Sp 42 [.slc 3 (List.map (AV.int .i64) s),.fn 41 [] []] [] v O :=
 zX ⟨[],[],[87],[],[]⟩ 0 ⟨[0,1,4],[],[],[]⟩ [] (by exact trivial) Tryz.func42 Tryz.call42 rfl rfl rfl (by kernel_rfl) h
theorem zck (s:List Int) (hl:s.length<=1000000):Sp 42 [.slc 3 (s.map (AV.int .i64)),.fn 41 [] []] [] (.bool (s.any kL)) []:=zep s _ _ ⟨_,zcp s hl,by rw[jn],rfl⟩
def MQ (t:TRoTask) (x:TRoJob):Int :=
 if x.Parts.length≠t.Kinds.length then 2 else if yz x.Closure (-1) ((t.Closures.length:Int)-1) then 4 else if wa x.X x.Y then 7 else if yz x.Height 0 200 then 7 else if yz x.Seconds 0 86400 then 7 else if yz x.Value 0 1000000 then 7 else if x.Parts.any kL then 7 else 0
def kE (t:TRoTask) (_:Nat) (x:TRoJob):Int:=MQ t x
def R40 (x:TRoJob) (v0:TRoTask) (Q:yc):Prop :=
 (((↑(List.map (AV.int i64) x.Parts).length:Int) != (↑(List.map TRoKind.av v0.Kinds).length:Int))=true->Q (iN 2) [v0.cs])/\(((↑(List.map (AV.int i64) x.Parts).length:Int) != (↑(List.map TRoKind.av v0.Kinds).length:Int))=false->∃b2,Sp 29 [iN x.Closure,iN (-1:Int),iN (wrap i64 ((↑(List.map TRoSpan.av v0.Closures).length:Int)-(1:Int)))] [] (.bool b2) []/\(b2=true->Q (iN 4) [v0.cs])/\(b2=false->∃b6,Sp 30 [iN x.X,iN x.Y] [] (.bool b6) []/\(b6=true->Q (iN 7) [v0.cs])/\(b6=false->∃b10,Sp 29 [iN x.Height,iN 0,iN 200] [] (.bool b10) []/\(b10=true->Q (iN 7) [v0.cs])/\(b10=false->∃b14,Sp 29 [iN x.Seconds,iN 0,iN 86400] [] (.bool b14) []/\(b14=true->Q (iN 7) [v0.cs])/\(b14=false->∃b18,Sp 29 [iN x.Value,iN 0,iN 1000000] [] (.bool b18) []/\(b18=true->Q (iN 7) [v0.cs])/\(b18=false->∃b22,Sp 42 [AV.slc 3 (List.map (AV.int i64) x.Parts),AV.fn (41:Nat) [] []] [] (.bool b22) []/\(b22=true->Q (iN 7) [v0.cs])/\(b22=false->Q (iN 0) [v0.cs])))))))
theorem s40 (x:TRoJob) (v0:TRoTask) (v O) (h:R40 x v0 (fun r O'=>r=v/\O'=O)):Sp 40 [x.av,.ref 0 0] [v0.cs] v O :=
 zX ⟨[],[],[],[],[]⟩ 0 ⟨[0,1,2,3,4,5,13,21],[],[],[]⟩ [⟨31,false,v0.cs⟩] (by exact trivial) Tryz.func40 Tryz.call40 rfl rfl rfl (by kernel_rfl) h
theorem c40 (k:Nat) (x:TRoJob) (t:TRoTask) (hk:t.Kinds.length<=1000) (hc:t.Closures.length<=1000):Sp 40 [x.av,.ref 0 0] [t.cs] (.int .i64 (kE t k x)) [t.cs]:=s40 x t _ _ (by
 unfold R40 kE MQ;simp only[List.length_map];have hd:((x.Parts.length:Int) != (t.Kinds.length:Int))=decide (x.Parts.length≠t.Kinds.length):=by rw[Bool.eq_iff_iff];simp;omega
 rw[hd,zw6 (by omega)];refine⟨fun h=>⟨by rw[if_pos (zt_ h)],by trivial⟩,fun h0=>?_⟩;have h0:¬ x.Parts.length≠t.Kinds.length:=zf_ h0;rw[if_neg h0];have hp:x.Parts.length<=1000000:=by omega
 refine⟨_,c29 ..,fun h=>⟨?_,by trivial⟩,fun h1=>⟨_,c30 ..,fun h=>⟨?_,by trivial⟩,fun h2=>⟨_,c29 ..,fun h=>⟨?_,by trivial⟩,fun h3=>⟨_,c29 ..,fun h=>⟨?_,by trivial⟩,fun h4=>⟨_,c29 ..,fun h=>⟨?_,by trivial⟩,fun h5=>⟨_,zck x.Parts hp,fun h=>⟨?_,by trivial⟩,fun h6=>⟨?_,by trivial⟩⟩⟩⟩⟩⟩⟩
 ·rw[if_pos h]
 ·rw[if_neg (by rw[h1];simp),if_pos h]
 ·rw[if_neg (by rw[h1];simp),if_neg (by rw[h2];simp),if_pos h]
 ·rw[if_neg (by rw[h1];simp),if_neg (by rw[h2];simp),if_neg (by rw[h3];simp),if_pos h]
 ·rw[if_neg (by rw[h1];simp),if_neg (by rw[h2];simp),if_neg (by rw[h3];simp),if_neg (by rw[h4];simp),if_pos h]
 ·rw[if_neg (by rw[h1];simp),if_neg (by rw[h2];simp),if_neg (by rw[h3];simp),if_neg (by rw[h4];simp),if_neg (by rw[h5];simp),if_pos h]
 ·rw[if_neg (by rw[h1];simp),if_neg (by rw[h2];simp),if_neg (by rw[h3];simp),if_neg (by rw[h4];simp),if_neg (by rw[h5];simp),if_neg (by rw[h6];simp)])
end Go.Proofs.YtkojpnkknehhmaaGreatDoor
