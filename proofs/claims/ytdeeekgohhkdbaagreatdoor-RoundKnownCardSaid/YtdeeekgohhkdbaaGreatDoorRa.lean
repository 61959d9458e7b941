/- Contracts: names; the first of some things. -/
import Derived.Test.YtdeeekgohhkdbaaGreatDoorEg
namespace Go.Proofs.YtdeeekgohhkdbaaGreatDoor
open Go.IntKind (wrap i64 u64)
open Go.RowKit
def inB (n lo hi:Int):Bool:=decide (lo<=n) && decide (n<=hi)
def LC (c:Int):Bool:=inB c 97 122
def Oh (c:Int):Bool:=LC c || inB c 48 57 || c == 45
def okL:Nat->List Int->Bool
 |_,[]=>true
 |i,c::r=>(if i=0 then LC c else Oh c) && okL (i+1) r
def uk (s:ByteArray):List Int:=s.data.toList.map fun b=>(b.toNat:Int)
def w9 (s:ByteArray):Bool:=!(uk s).isEmpty && decide (s.size<=24) && okL 0 (uk s)
theorem M1 (s:ByteArray):wP s=(uk s).map (AV.int .u8):=by simp[wP,uk]
theorem Un (s:ByteArray):(uk s).length=s.size:=by simp[uk]
theorem Ff {l:List Int} {k:Nat} {c:Int} (h:l[k]? = some c):okL k (l.drop k)=((if k=0 then LC c else Oh c) && okL (k+1) (l.drop (k+1))):=by
 obtain ⟨hk,rfl⟩:=List.getElem?_eq_some_iff.1 h;rw[List.drop_eq_getElem_cons hk];rfl
def qC (e:Nat->Int):Nat->Nat->Int × Int
 |0,_=>(0,0)
 |k+1,i=>if e i≠0 then ((i:Int),e i) else qC e k (i+1)
theorem XZ {e:Nat->Int} {n k:Nat} (h:k<n):qC e (n-k) k=if e k≠0 then ((k:Int),e k) else qC e (n-(k+1)) (k+1):=by
 have:n-k=(n-(k+1))+1:=by omega
 rw[this];rfl
theorem Le {e:Nat->Int}:∀ {k i:Nat},(qC e k i).2=0->∀j,i<=j->j<i+k->e j=0:=by
 intro k;induction k with
 |zero=>intro i _ j h1 h2;omega
 |succ k ih =>
  intro i h j h1 h2;simp only[qC] at h;split at h
  ·rename_i hne;exact absurd h hne
  ·rename_i hne;by_cases hj:j=i
   ·subst hj;exact Decidable.byContradiction hne
   ·exact ih h j (by omega) (by omega)
def qX (x y:ByteArray):Bool:=x.toList == y.toList
def qj {α:Type} (nm:α->ByteArray) (rest:Nat->α->Int) (l:List α) (i:Nat):Int :=
 match l[i]? with
 |none=>0
 |some x=>if !w9 (nm x) then 6 else if (l.take i).any (fun y=>qX (nm y) (nm x)) then 5 else rest i x
theorem vM {α:Type} {nm:α->ByteArray} {rest:Nat->α->Int} {l:List α} {i:Nat} {x:α} (h:l[i]? = some x) :
  qj nm rest l i=if !w9 (nm x) then 6 else if (l.take i).any (fun y=>qX (nm y) (nm x)) then 5 else rest i x:=by unfold qj;rw[h]
def FH (s:ByteArray) (_S:SpecF) (_Fr:FreshF) (_Sq:SeqF) (Q:ym):Prop :=
 ∃(I0:Nat->List AV->Prop),(∃m2,I0 m2 [iN 0])/\∀(m2:Nat) (n3:Int),I0 m2 [iN n3]->(decide (n3<(↑(wP s).length:Int))=true->∃n7,((0:Int)<=n3/\(1:Nat)=(1:Nat)/\(wP s)[n3.toNat]? = some (.int IntKind.u8 n7))/\(decide (n7>=97)=true->((!decide (n7<=122))=true->((n3 == 0)=true->Q (.bool false) [])/\((n3 == 0)=false->(decide (n7>=48)=true->((!decide (n7<=57))=true->((n7 != 45)=true->Q (.bool false) [])/\((n7 != 45)=false->∃k21,k21<m2/\I0 k21 [iN (wrap i64 (n3+1))]))/\((!decide (n7<=57))=false->∃k19,k19<m2/\I0 k19 [iN (wrap i64 (n3+1))]))/\(decide (n7>=48)=false->((n7 != 45)=true->Q (.bool false) [])/\((n7 != 45)=false->∃k19,k19<m2/\I0 k19 [iN (wrap i64 (n3+1))]))))/\((!decide (n7<=122))=false->∃k13,k13<m2/\I0 k13 [iN (wrap i64 (n3+1))]))/\(decide (n7>=97)=false->((n3 == 0)=true->Q (.bool false) [])/\((n3 == 0)=false->(decide (n7>=48)=true->((!decide (n7<=57))=true->((n7 != 45)=true->Q (.bool false) [])/\((n7 != 45)=false->∃k19,k19<m2/\I0 k19 [iN (wrap i64 (n3+1))]))/\((!decide (n7<=57))=false->∃k17,k17<m2/\I0 k17 [iN (wrap i64 (n3+1))]))/\(decide (n7>=48)=false->((n7 != 45)=true->Q (.bool false) [])/\((n7 != 45)=false->∃k17,k17<m2/\I0 k17 [iN (wrap i64 (n3+1))])))))/\(decide (n3<(↑(wP s).length:Int))=false->((!s.toList == (ByteArray.mk #[]).toList)=true->Q (.bool (decide ((↑s.size:Int)<=(24:Int)))) [])/\((!s.toList == (ByteArray.mk #[]).toList)=false->Q (.bool false) []))
theorem zb2 (s:ByteArray) (v:AV) (O:List (List AV)) (h:FH s Sp Fo So (fun r O'=>r=v/\O'=O)):Sp 110 [.str s] [] v O :=
 yj (w:=⟨[],[],[],[],[]⟩) (k:=0) (keep:=⟨[0,2,3,4,5,7,8,9,10,38],[⟨2,[(9,iN 0)],[],[],[],[],[]⟩],[],[]⟩) (boxes:=[]) mixed (by exact trivial) Tryz.func110 Tryz.call110 rfl rfl rfl (Nat.le_of_ble_eq_true rfl) (by kernel_rfl) h
theorem GF (s:ByteArray) (hl:s.size<=9223372036854775807):Sp 110 [.str s] [] (.bool (w9 s)) []:=zb2 s _ _ (by
 unfold FH;simp only[M1,List.length_map,Un];refine⟨fun m vs=>∃n:Nat,vs=[.int .i64 n]/\n<=s.size/\m=s.size-n/\okL n ((uk s).drop n)=okL 0 (uk s),⟨_,0,rfl,by omega,rfl,rfl⟩,?_⟩;rintro m n ⟨k,hk,hle,rfl,hn⟩;cases hk;refine⟨fun h3=>?_,fun h3=>?_⟩
 ·have h3:k<s.size:=by simpa using h3
  obtain ⟨c,hc,hc'⟩:=yH (f:=AV.int .u8) (l:=uk s) (k:=k) (by rw[Un];exact h3);have hat:=Ff hc;refine⟨c,⟨by omega,trivial,hc'⟩,?_⟩;rw[yx (by omega)];have bad:(if k=0 then LC c else Oh c)=false->w9 s=false:=fun hb=>by
   have:okL 0 (uk s)=false:=by rw[<- hn,hat,hb];rfl
   simp only[w9,this,Bool.and_false]
  have good:(if k=0 then LC c else Oh c)=true->∃m',m'<s.size-k/\∃n:Nat,[AV.int .i64 ((k+1:Nat):Int)]=[.int .i64 n]/\n<=s.size/\m'=s.size-n/\okL n ((uk s).drop n)=okL 0 (uk s):=fun hg =>
   ⟨_,(by omega:s.size-(k+1)<s.size-k),k+1,rfl,by omega,rfl,by rw[<- hn,hat,hg];rfl⟩
  have hk0:((k:Int) == 0)=decide (k=0):=by rw[Bool.eq_iff_iff];simp
  rw[hk0];generalize (∃m',m'<s.size-k/\∃n:Nat,[AV.int .i64 ((k+1:Nat):Int)]=[.int .i64 n]/\n<=s.size/\m'=s.size-n/\okL n ((uk s).drop n)=okL 0 (uk s))=G at good ⊢;simp only[Oh,LC,inB] at good bad;simp only[decide_eq_true_eq,decide_eq_false_iff_not,Bool.not_eq_true',Bool.not_eq_false',ge_iff_le,bne_iff_ne,ne_eq,bne_eq_false_iff_eq];by_cases hk:k=0
  ·simp only[hk,if_true] at good bad ⊢;by_cases h1:97<=c<;>by_cases h2:c<=122<;>simp_all<;>omega
  ·simp only[hk,if_false] at good bad ⊢;by_cases h1:97<=c<;>by_cases h2:c<=122<;>by_cases h3:48<=c<;>by_cases h4:c<=57<;>by_cases h5:c=45<;>simp_all<;>omega
 ·have hk:k=s.size:=by simp at h3;omega
  have hd:(uk s).drop k=[]:=by rw[hk,<- Un,List.drop_length]
  rw[hd] at hn;have hok:okL 0 (uk s)=true:=by rw[<- hn];rfl
  have he:(s.toList == (ByteArray.mk #[]).toList)=(uk s).isEmpty:=by
   rw[Bool.eq_iff_iff,beq_iff_eq,List.isEmpty_iff];simp only[ByteArray.toList_eq,uk,List.map_eq_nil_iff]
  refine⟨fun h=>⟨?_,trivial⟩,fun h=>⟨?_,trivial⟩⟩
  ·rw[he] at h;simp only[w9,hok,h,Bool.true_and,Bool.and_true];congr 1;rw[Bool.eq_iff_iff];simp;omega
  ·rw[he] at h;simp only[w9,h,Bool.false_and])
def yI {α:Type} (f:α->Bool):Nat->List α->Int
 |_,[] => -1
 |i,x::r=>if f x then (i:Int) else yI f (i+1) r
theorem qE {α:Type} {f:α->Bool} {l:List α} {k:Nat} {x:α} (h:l[k]? = some x):yI f k (l.drop k)=if f x then (k:Int) else yI f (k+1) (l.drop (k+1)):=by
 obtain ⟨hk,rfl⟩:=List.getElem?_eq_some_iff.1 h;rw[List.drop_eq_getElem_cons hk];rfl
theorem qk {α:Type} (f:α->Bool):∀(l:List α) (i:Nat),decide (yI f i l>=0)=l.any f:=by
 intro l;induction l with
 |nil=>intro i;rfl
 |cons x r ih =>
  intro i;rw[yI,List.any_cons];cases f x with
  |true=>simp
  |false=>simpa using ih (i+1)
def R53 (n lo hi:Int) (_S:SpecF) (_Fr:FreshF) (_Sq:SeqF) (Q:ym):Prop :=
 (decide (n<lo)=true->Q (.bool true) [])/\(decide (n<lo)=false->Q (.bool (decide (n>hi))) [])
theorem s53 (n:Int) (lo:Int) (hi:Int) (v:AV) (O:List (List AV)) (h:R53 n lo hi Sp Fo So (fun r O'=>r=v/\O'=O)):Sp 53 [iN n,iN lo,iN hi] [] v O :=
 yj (w:=⟨[],[],[],[],[]⟩) (k:=0) (keep:=⟨[0,1,2,6],[],[],[]⟩) (boxes:=[]) mixed (by exact trivial) Tryz.func53 Tryz.call53 rfl rfl rfl (Nat.le_of_ble_eq_true rfl) (by kernel_rfl) h
theorem c53 (n lo hi:Int):Sp 53 [.int .i64 n,.int .i64 lo,.int .i64 hi] [] (.bool (qa n lo hi)) []:=s53 n lo hi _ _ (by
 unfold R53 qa;refine⟨fun h=>⟨?_,by trivial⟩,fun h=>⟨?_,by trivial⟩⟩
 ·rw[h];rfl
 ·rw[h];rfl)
def Wj (x y:Int):Bool:=qa x (-50000) 50000 || qa y (-50000) 50000
def R61 (x y:Int) (S:SpecF) (_Fr:FreshF) (_Sq:SeqF) (Q:ym):Prop :=
 ∃b0,S 53 [iN x,iN (-50000:Int),iN 50000] [] (.bool b0) []/\(b0=true->Q (.bool true) [])/\(b0=false->∃b4,S 53 [iN y,iN (-50000:Int),iN 50000] [] (.bool b4) []/\Q (.bool b4) [])
theorem s61 (x:Int) (y:Int) (v:AV) (O:List (List AV)) (h:R61 x y Sp Fo So (fun r O'=>r=v/\O'=O)):Sp 61 [iN x,iN y] [] v O :=
 yj (w:=⟨[],[],[],[],[]⟩) (k:=0) (keep:=⟨[0,1,4],[],[],[]⟩) (boxes:=[]) mixed (by exact trivial) Tryz.func61 Tryz.call61 rfl rfl rfl (Nat.le_of_ble_eq_true rfl) (by kernel_rfl) h
theorem c61 (x y:Int):Sp 61 [.int .i64 x,.int .i64 y] [] (.bool (Wj x y)) []:=s61 x y _ _ (by
 unfold R61 Wj;refine⟨_,c53 ..,fun h=>⟨?_,by trivial⟩,fun h=>⟨_,c53 ..,?_,by trivial⟩⟩
 ·rw[h];rfl
 ·rw[h];rfl)
def uS (s:TRoSpan):Bool:=qa s.Until 0 172800 || qa s.From 0 s.Until
def R65 (s:TRoSpan) (S:SpecF) (_Fr:FreshF) (_Sq:SeqF) (Q:ym):Prop :=
 ∃b0,S 53 [iN s.Until,iN 0,iN 172800] [] (.bool b0) []/\(b0=true->Q (.bool true) [])/\(b0=false->∃b4,S 53 [iN s.From,iN 0,iN s.Until] [] (.bool b4) []/\Q (.bool b4) [])
theorem s65 (s:TRoSpan) (v:AV) (O:List (List AV)) (h:R65 s Sp Fo So (fun r O'=>r=v/\O'=O)):Sp 65 [s.av] [] v O :=
 yj (w:=⟨[],[],[],[],[]⟩) (k:=0) (keep:=⟨[0,1,2],[],[],[]⟩) (boxes:=[]) mixed (by exact trivial) Tryz.func65 Tryz.call65 rfl rfl rfl (Nat.le_of_ble_eq_true rfl) (by kernel_rfl) h
theorem c65 (s:TRoSpan):Sp 65 [s.av] [] (.bool (uS s)) []:=s65 s _ _ (by
 unfold R65 uS;refine⟨_,c53 ..,fun h=>⟨?_,by trivial⟩,fun h=>⟨_,c53 ..,?_,by trivial⟩⟩
 ·rw[h];rfl
 ·rw[h];rfl)
def Yu (k:TRoKind):Bool:=qa k.Size 0 1000 || qa k.Price 0 1000000
def R62 (k:TRoKind) (S:SpecF) (_Fr:FreshF) (_Sq:SeqF) (Q:ym):Prop :=
 ∃b0,S 53 [iN k.Size,iN 0,iN 1000] [] (.bool b0) []/\(b0=true->Q (.bool true) [])/\(b0=false->∃b4,S 53 [iN k.Price,iN 0,iN 1000000] [] (.bool b4) []/\Q (.bool b4) [])
theorem s62 (k:TRoKind) (v:AV) (O:List (List AV)) (h:R62 k Sp Fo So (fun r O'=>r=v/\O'=O)):Sp 62 [k.av] [] v O :=
 yj (w:=⟨[],[],[],[],[]⟩) (k:=0) (keep:=⟨[0,1,2],[],[],[]⟩) (boxes:=[]) mixed (by exact trivial) Tryz.func62 Tryz.call62 rfl rfl rfl (Nat.le_of_ble_eq_true rfl) (by kernel_rfl) h
theorem c62 (k:TRoKind):Sp 62 [k.av] [] (.bool (Yu k)) []:=s62 k _ _ (by
 unfold R62 Yu;refine⟨_,c53 ..,fun h=>⟨?_,by trivial⟩,fun h=>⟨_,c53 ..,?_,by trivial⟩⟩
 ·rw[h];rfl
 ·rw[h];rfl)
def R63 (s:List TRoKind) (S:SpecF) (_Fr:FreshF) (_Sq:SeqF) (Q:ym):Prop :=
 ∃(I0:Nat->List AV->Prop),(∃m2,I0 m2 [iN 0])/\∀(m2:Nat) (n3:Int),I0 m2 [iN n3]->(decide (n3<(↑(List.map TRoKind.av s).length:Int))=true->∃n7 n8,((0:Int)<=n3/\(2:Nat)=(2:Nat)/\(List.map TRoKind.av s)[n3.toNat]? = some (.agg [iN n7,iN n8]))/\∃b10,S 62 [AV.agg [iN n7,iN n8]] [] (.bool b10) []/\(b10=true->Q (iN n3) [])/\(b10=false->∃k14,k14<m2/\I0 k14 [iN (wrap i64 (n3+1))]))/\(decide (n3<(↑(List.map TRoKind.av s).length:Int))=false->Q (iN (-1:Int)) [])
theorem s63 (s:List TRoKind) (v:AV) (O:List (List AV)) (h:R63 s Sp Fo So (fun r O'=>r=v/\O'=O)):Sp 63 [.slc 3 (List.map TRoKind.av s),.fn 62 [] []] [] v O :=
 yj (w:=⟨[],[],[62],[],[]⟩) (k:=0) (keep:=⟨[0,1,4,5,7,8,9,16],[⟨2,[(8,iN 0)],[],[],[],[],[]⟩],[],[]⟩) (boxes:=[]) mixed (by exact trivial) Tryz.func63 Tryz.call63 rfl rfl rfl (Nat.le_of_ble_eq_true rfl) (by kernel_rfl) h
theorem c63 (s:List TRoKind) (hl:s.length<=1000000):Sp 63 [.slc 3 (s.map TRoKind.av),.fn 62 [] []] [] (.int .i64 (yI Yu 0 s)) []:=s63 s _ _ (by
 unfold R63;refine⟨fun m vs=>∃k:Nat,vs=[.int .i64 k]/\k<=s.length/\m=s.length-k/\yI Yu k (s.drop k)=yI Yu 0 s,⟨_,0,rfl,by omega,rfl,rfl⟩,?_⟩;rintro m n ⟨k,hk,hle,rfl,hn⟩;cases hk;simp only[List.length_map];refine⟨fun h3=>?_,fun h3=>⟨?_,by trivial⟩⟩
 ·have h3:k<s.length:=by have:=zt_ h3;omega
  obtain ⟨x,hx,hx'⟩:=yH (f:=TRoKind.av) h3;have hat:=qE (f:=Yu) hx;refine⟨x.Size,x.Price,⟨by omega,by trivial,hx'⟩,_,c62 x,fun h4=>⟨?_,by trivial⟩,fun h4=>⟨_,?_,k+1,?_,by omega,rfl,?_⟩⟩
  ·rw[<- hn,hat,h4];rfl
  ·omega
  ·rw[yx (by omega)]
  ·rw[<- hn,hat,h4];rfl
 ·have:k=s.length:=by have:=zf_ h3;omega
  rw[<- hn,this,List.drop_length];rfl)
def R64 (s:List TRoSpan) (S:SpecF) (_Fr:FreshF) (_Sq:SeqF) (Q:ym):Prop :=
 ∃(I0:Nat->List AV->Prop),(∃m2,I0 m2 [iN 0])/\∀(m2:Nat) (n3:Int),I0 m2 [iN n3]->(decide (n3<(↑(List.map TRoSpan.av s).length:Int))=true->∃n7 n8,((0:Int)<=n3/\(2:Nat)=(2:Nat)/\(List.map TRoSpan.av s)[n3.toNat]? = some (.agg [iN n7,iN n8]))/\∃b10,S 65 [AV.agg [iN n7,iN n8]] [] (.bool b10) []/\(b10=true->Q (iN n3) [])/\(b10=false->∃k14,k14<m2/\I0 k14 [iN (wrap i64 (n3+1))]))/\(decide (n3<(↑(List.map TRoSpan.av s).length:Int))=false->Q (iN (-1:Int)) [])
theorem s64 (s:List TRoSpan) (v:AV) (O:List (List AV)) (h:R64 s Sp Fo So (fun r O'=>r=v/\O'=O)):Sp 64 [.slc 3 (List.map TRoSpan.av s),.fn 65 [] []] [] v O :=
 yj (w:=⟨[],[],[65],[],[]⟩) (k:=0) (keep:=⟨[0,1,4,5,7,8,9,16],[⟨2,[(8,iN 0)],[],[],[],[],[]⟩],[],[]⟩) (boxes:=[]) mixed (by exact trivial) Tryz.func64 Tryz.call64 rfl rfl rfl (Nat.le_of_ble_eq_true rfl) (by kernel_rfl) h
theorem c64 (s:List TRoSpan) (hl:s.length<=1000000):Sp 64 [.slc 3 (s.map TRoSpan.av),.fn 65 [] []] [] (.int .i64 (yI uS 0 s)) []:=s64 s _ _ (by
 unfold R64;refine⟨fun m vs=>∃k:Nat,vs=[.int .i64 k]/\k<=s.length/\m=s.length-k/\yI uS k (s.drop k)=yI uS 0 s,⟨_,0,rfl,by omega,rfl,rfl⟩,?_⟩;rintro m n ⟨k,hk,hle,rfl,hn⟩;cases hk;simp only[List.length_map];refine⟨fun h3=>?_,fun h3=>⟨?_,by trivial⟩⟩
 ·have h3:k<s.length:=by have:=zt_ h3;omega
  obtain ⟨x,hx,hx'⟩:=yH (f:=TRoSpan.av) h3;have hat:=qE (f:=uS) hx;refine⟨x.From,x.Until,⟨by omega,by trivial,hx'⟩,_,c65 x,fun h4=>⟨?_,by trivial⟩,fun h4=>⟨_,?_,k+1,?_,by omega,rfl,?_⟩⟩
  ·rw[<- hn,hat,h4];rfl
  ·omega
  ·rw[yx (by omega)]
  ·rw[<- hn,hat,h4];rfl
 ·have:k=s.length:=by have:=zf_ h3;omega
  rw[<- hn,this,List.drop_length];rfl)
def Ns (x:TRoLorry):Int:=if qa x.Lift 0 200 then 7 else if qa x.Room 0 1000000 then 7 else if uS ⟨x.From,x.Until⟩ then 7 else if qa x.PerHour 0 1000000 then 7 else 0
def jm (_:Nat) (x:TRoLorry):Int:=Ns x
def R68 (x:TRoLorry) (S:SpecF) (_Fr:FreshF) (_Sq:SeqF) (Q:ym):Prop :=
 ∃b0,S 53 [iN x.Lift,iN 0,iN 200] [] (.bool b0) []/\(b0=true->Q (iN 7) [])/\(b0=false->∃b4,S 53 [iN x.Room,iN 0,iN 1000000] [] (.bool b4) []/\(b4=true->Q (iN 7) [])/\(b4=false->∃b8,S 65 [AV.agg [iN x.From,iN x.Until]] [] (.bool b8) []/\(b8=true->Q (iN 7) [])/\(b8=false->∃b12,S 53 [iN x.PerHour,iN 0,iN 1000000] [] (.bool b12) []/\(b12=true->Q (iN 7) [])/\(b12=false->Q (iN 0) []))))
theorem s68 (x:TRoLorry) (v:AV) (O:List (List AV)) (h:R68 x Sp Fo So (fun r O'=>r=v/\O'=O)):Sp 68 [x.av] [] v O :=
 yj (w:=⟨[],[],[],[],[]⟩) (k:=0) (keep:=⟨[0,1,2,23],[],[],[]⟩) (boxes:=[]) mixed (by exact trivial) Tryz.func68 Tryz.call68 rfl rfl rfl (Nat.le_of_ble_eq_true rfl) (by kernel_rfl) h
theorem c68 (k:Nat) (x:TRoLorry):Sp 68 [x.av] [] (.int .i64 (jm k x)) []:=s68 x _ _ (by
 unfold R68 jm Ns;refine⟨_,c53 ..,fun h=>⟨?_,by trivial⟩,fun h1=>⟨_,c53 ..,fun h=>⟨?_,by trivial⟩,fun h2=>⟨_,c65 ⟨x.From,x.Until⟩,fun h=>⟨?_,by trivial⟩,fun h3=>⟨_,c53 ..,fun h=>⟨?_,by trivial⟩,fun h4=>⟨?_,by trivial⟩⟩⟩⟩⟩
 ·rw[if_pos h]
 ·rw[if_neg (by rw[h1];simp),if_pos h]
 ·rw[if_neg (by rw[h1];simp),if_neg (by rw[h2];simp),if_pos h]
 ·rw[if_neg (by rw[h1];simp),if_neg (by rw[h2];simp),if_neg (by rw[h3];simp),if_pos h]
 ·rw[if_neg (by rw[h1];simp),if_neg (by rw[h2];simp),if_neg (by rw[h3];simp),if_neg (by rw[h4];simp)])
def x7 (n:Int):Bool:=qa n 0 20
def R72 (n:Int) (S:SpecF) (_Fr:FreshF) (_Sq:SeqF) (Q:ym):Prop :=
 ∃b0,S 53 [iN n,iN 0,iN 20] [] (.bool b0) []/\Q (.bool b0) []
theorem s72 (n:Int) (v:AV) (O:List (List AV)) (h:R72 n Sp Fo So (fun r O'=>r=v/\O'=O)):Sp 72 [iN n] [] v O :=
 yj (w:=⟨[],[],[],[],[]⟩) (k:=0) (keep:=⟨[0,2],[],[],[]⟩) (boxes:=[]) mixed (by exact trivial) Tryz.func72 Tryz.call72 rfl rfl rfl (Nat.le_of_ble_eq_true rfl) (by kernel_rfl) h
theorem c72 (n:Int):Sp 72 [.int .i64 n] [] (.bool (x7 n)) []:=s72 n _ _ ⟨_,c53 ..,rfl,rfl⟩
def H2 (s:List Int) (S:SpecF) (_Fr:FreshF) (_Sq:SeqF) (Q:ym):Prop :=
 ∃(I0:Nat->List AV->Prop),(∃m2,I0 m2 [iN 0])/\∀(m2:Nat) (n3:Int),I0 m2 [iN n3]->(decide (n3<(↑(List.map (AV.int i64) s).length:Int))=true->∃n7,((0:Int)<=n3/\(1:Nat)=(1:Nat)/\(List.map (AV.int i64) s)[n3.toNat]? = some (iN n7))/\∃b9,S 72 [iN n7] [] (.bool b9) []/\(b9=true->Q (iN n3) [])/\(b9=false->∃k13,k13<m2/\I0 k13 [iN (wrap i64 (n3+1))]))/\(decide (n3<(↑(List.map (AV.int i64) s).length:Int))=false->Q (iN (-1:Int)) [])
theorem D3 (s:List Int) (v:AV) (O:List (List AV)) (h:H2 s Sp Fo So (fun r O'=>r=v/\O'=O)):Sp 115 [.slc 3 (List.map (AV.int .i64) s),.fn 72 [] []] [] v O :=
 yj (w:=⟨[],[],[72],[],[]⟩) (k:=0) (keep:=⟨[0,1,4,5,7,8,9,16],[⟨2,[(8,iN 0)],[],[],[],[],[]⟩],[],[]⟩) (boxes:=[]) mixed (by exact trivial) Tryz.func115 Tryz.call115 rfl rfl rfl (Nat.le_of_ble_eq_true rfl) (by kernel_rfl) h
theorem Dh (s:List Int) (hl:s.length<=1000000):Sp 115 [.slc 3 (s.map (AV.int .i64)),.fn 72 [] []] [] (.int .i64 (yI x7 0 s)) []:=D3 s _ _ (by
 unfold H2;refine⟨fun m vs=>∃k:Nat,vs=[.int .i64 k]/\k<=s.length/\m=s.length-k/\yI x7 k (s.drop k)=yI x7 0 s,⟨_,0,rfl,by omega,rfl,rfl⟩,?_⟩;rintro m n ⟨k,hk,hle,rfl,hn⟩;cases hk;simp only[List.length_map];refine⟨fun h3=>?_,fun h3=>⟨?_,by trivial⟩⟩
 ·have h3:k<s.length:=by have:=zt_ h3;omega
  obtain ⟨x,hx,hx'⟩:=yH (f:=(AV.int .i64)) h3;have hat:=qE (f:=x7) hx;refine⟨x,⟨by omega,by trivial,hx'⟩,_,c72 x,fun h4=>⟨?_,by trivial⟩,fun h4=>⟨_,?_,k+1,?_,by omega,rfl,?_⟩⟩
  ·rw[<- hn,hat,h4];rfl
  ·omega
  ·rw[yx (by omega)]
  ·rw[<- hn,hat,h4];rfl
 ·have:k=s.length:=by have:=zf_ h3;omega
  rw[<- hn,this,List.drop_length];rfl)
def zaW (s:List Int) (S:SpecF) (_Fr:FreshF) (_Sq:SeqF) (Q:ym):Prop :=
 ∃n0,S 115 [AV.slc 3 (List.map (AV.int i64) s),AV.fn (72:FuncId) [] []] [] (iN n0) []/\Q (.bool (decide (n0>=0))) []
theorem zcZ (s:List Int) (v:AV) (O:List (List AV)) (h:zaW s Sp Fo So (fun r O'=>r=v/\O'=O)):Sp 73 [.slc 3 (List.map (AV.int .i64) s),.fn 72 [] []] [] v O :=
 yj (w:=⟨[],[],[115],[],[]⟩) (k:=0) (keep:=⟨[0,1,4],[],[],[]⟩) (boxes:=[]) mixed (by exact trivial) Tryz.func73 Tryz.call73 rfl rfl rfl (Nat.le_of_ble_eq_true rfl) (by kernel_rfl) h
theorem zbD (s:List Int) (hl:s.length<=1000000):Sp 73 [.slc 3 (s.map (AV.int .i64)),.fn 72 [] []] [] (.bool (s.any x7)) []:=zcZ s _ _ ⟨_,Dh s hl,by rw[qk],rfl⟩
def Jn (t:TRoTask) (x:TRoJob):Int :=
 if x.Parts.length≠t.Kinds.length then 2 else if qa x.Closure (-1) ((t.Closures.length:Int)-1) then 4 else if Wj x.X x.Y then 7 else if qa x.Height 0 200 then 7 else if qa x.Seconds 0 86400 then 7 else if qa x.Value 0 1000000 then 7 else if x.Parts.any x7 then 7 else 0
def vU (t:TRoTask) (_:Nat) (x:TRoJob):Int:=Jn t x
def R71 (x:TRoJob) (v0:TRoTask) (S:SpecF) (_Fr:FreshF) (_Sq:SeqF) (Q:ym):Prop :=
 (((↑(List.map (AV.int i64) x.Parts).length:Int) != (↑(List.map TRoKind.av v0.Kinds).length:Int))=true->Q (iN 2) [v0.cs])/\(((↑(List.map (AV.int i64) x.Parts).length:Int) != (↑(List.map TRoKind.av v0.Kinds).length:Int))=false->∃b2,S 53 [iN x.Closure,iN (-1:Int),iN (wrap i64 ((↑(List.map TRoSpan.av v0.Closures).length:Int)-(1:Int)))] [] (.bool b2) []/\(b2=true->Q (iN 4) [v0.cs])/\(b2=false->∃b6,S 61 [iN x.X,iN x.Y] [] (.bool b6) []/\(b6=true->Q (iN 7) [v0.cs])/\(b6=false->∃b10,S 53 [iN x.Height,iN 0,iN 200] [] (.bool b10) []/\(b10=true->Q (iN 7) [v0.cs])/\(b10=false->∃b14,S 53 [iN x.Seconds,iN 0,iN 86400] [] (.bool b14) []/\(b14=true->Q (iN 7) [v0.cs])/\(b14=false->∃b18,S 53 [iN x.Value,iN 0,iN 1000000] [] (.bool b18) []/\(b18=true->Q (iN 7) [v0.cs])/\(b18=false->∃b22,S 73 [AV.slc 3 (List.map (AV.int i64) x.Parts),AV.fn (72:Nat) [] []] [] (.bool b22) []/\(b22=true->Q (iN 7) [v0.cs])/\(b22=false->Q (iN 0) [v0.cs])))))))
theorem s71 (x:TRoJob) (v0:TRoTask) (v:AV) (O:List (List AV)) (h:R71 x v0 Sp Fo So (fun r O'=>r=v/\O'=O)):Sp 71 [x.av,.ref 0 0] [v0.cs] v O :=
 yj (w:=⟨[],[],[],[],[]⟩) (k:=0) (keep:=⟨[0,1,2,3,4,5,13,21],[],[],[]⟩) (boxes:=[⟨31,false,v0.cs⟩]) mixed (by exact trivial) Tryz.func71 Tryz.call71 rfl rfl rfl (Nat.le_of_ble_eq_true rfl) (by kernel_rfl) h
theorem c71 (k:Nat) (x:TRoJob) (t:TRoTask) (hk:t.Kinds.length<=1000) (hc:t.Closures.length<=1000):Sp 71 [x.av,.ref 0 0] [t.cs] (.int .i64 (vU t k x)) [t.cs]:=s71 x t _ _ (by
 unfold R71 vU Jn;simp only[List.length_map];have hd:((x.Parts.length:Int) != (t.Kinds.length:Int))=decide (x.Parts.length≠t.Kinds.length):=by rw[Bool.eq_iff_iff];simp;omega
 rw[hd,zw6 (by omega)];refine⟨fun h=>⟨by rw[if_pos (zt_ h)],by trivial⟩,fun h0=>?_⟩;have h0:¬ x.Parts.length≠t.Kinds.length:=zf_ h0;rw[if_neg h0];have hp:x.Parts.length<=1000000:=by omega
 refine⟨_,c53 ..,fun h=>⟨?_,by trivial⟩,fun h1=>⟨_,c61 ..,fun h=>⟨?_,by trivial⟩,fun h2=>⟨_,c53 ..,fun h=>⟨?_,by trivial⟩,fun h3=>⟨_,c53 ..,fun h=>⟨?_,by trivial⟩,fun h4=>⟨_,c53 ..,fun h=>⟨?_,by trivial⟩,fun h5=>⟨_,zbD x.Parts hp,fun h=>⟨?_,by trivial⟩,fun h6=>⟨?_,by trivial⟩⟩⟩⟩⟩⟩⟩
 ·rw[if_pos h]
 ·rw[if_neg (by rw[h1];simp),if_pos h]
 ·rw[if_neg (by rw[h1];simp),if_neg (by rw[h2];simp),if_pos h]
 ·rw[if_neg (by rw[h1];simp),if_neg (by rw[h2];simp),if_neg (by rw[h3];simp),if_pos h]
 ·rw[if_neg (by rw[h1];simp),if_neg (by rw[h2];simp),if_neg (by rw[h3];simp),if_neg (by rw[h4];simp),if_pos h]
 ·rw[if_neg (by rw[h1];simp),if_neg (by rw[h2];simp),if_neg (by rw[h3];simp),if_neg (by rw[h4];simp),if_neg (by rw[h5];simp),if_pos h]
 ·rw[if_neg (by rw[h1];simp),if_neg (by rw[h2];simp),if_neg (by rw[h3];simp),if_neg (by rw[h4];simp),if_neg (by rw[h5];simp),if_neg (by rw[h6];simp)])
end Go.Proofs.YtdeeekgohhkdbaaGreatDoor
