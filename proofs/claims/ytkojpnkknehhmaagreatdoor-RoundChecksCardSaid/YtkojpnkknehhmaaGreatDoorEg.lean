/- Contracts: where the sun is. Contracts: when the sun sets and rises, nights. Contracts: when the sun rises, and sets. -/
import Derived.Test.YtkojpnkknehhmaaGreatDoorEc
namespace Go.Proofs.YtkojpnkknehhmaaGreatDoor
open Go.IntKind (wrap i64 u64)
open Go.RowKit
def yD (n lo hi:Int):Bool:=decide (n<lo) || decide (n>hi)
def R81 (n lo hi:Int) (_S:SpecF) (_Fr:FreshF) (_Sq:SeqF) (Q:yc):Prop :=
 (decide (n<lo)=true->Q (.bool true) [])/\(decide (n<lo)=false->Q (.bool (decide (n>hi))) [])
theorem s81 (n:Int) (lo:Int) (hi:Int) (v:AV) (O:List (List AV)) (h:R81 n lo hi Sp Fo So (fun r O'=>r=v/\O'=O)):Sp 81 [iN n,iN lo,iN hi] [] v O :=
 yb (w:=⟨[],[],[],[],[]⟩) (k:=0) (keep:=⟨[0,1,2,6],[],[],[]⟩) (boxes:=[]) mixed (by exact trivial) Tryz.func81 Tryz.call81 rfl rfl rfl (Nat.le_of_ble_eq_true rfl) (by kernel_rfl) h
theorem c81 (n lo hi:Int):Sp 81 [.int .i64 n,.int .i64 lo,.int .i64 hi] [] (.bool (yD n lo hi)) []:=s81 n lo hi _ _ (by
 unfold R81 yD;refine⟨fun h=>⟨?_,by trivial⟩,fun h=>⟨?_,by trivial⟩⟩
 ·rw[h];rfl
 ·rw[h];rfl)
def wE (c:TSnCity):Bool:=yD c.Lat (-88000000) 88000000 || (yD c.Lon (-180000000) 180000000 || (yD c.Zone (-50400) 50400 || (yD c.Altitude.Hi (-18000000) 0 || yD c.Altitude.Lo (-18000000) c.Altitude.Hi)))
def R28 (c:TSnCity) (S:SpecF) (_Fr:FreshF) (_Sq:SeqF) (Q:yc):Prop :=
 ∃b0,S 81 [iN c.Lat,iN (-88000000:Int),iN 88000000] [] (.bool b0) []/\(b0=true->Q (iN 7) [])/\(b0=false->∃b4,S 81 [iN c.Lon,iN (-180000000:Int),iN 180000000] [] (.bool b4) []/\(b4=true->Q (iN 7) [])/\(b4=false->∃b8,S 81 [iN c.Zone,iN (-50400:Int),iN 50400] [] (.bool b8) []/\(b8=true->Q (iN 7) [])/\(b8=false->∃b12,S 81 [iN c.Altitude.Hi,iN (-18000000:Int),iN 0] [] (.bool b12) []/\(b12=true->Q (iN 7) [])/\(b12=false->∃b16,S 81 [iN c.Altitude.Lo,iN (-18000000:Int),iN c.Altitude.Hi] [] (.bool b16) []/\(b16=true->Q (iN 7) [])/\(b16=false->Q (iN 0) [])))))
theorem s28 (c:TSnCity) (v:AV) (O:List (List AV)) (h:R28 c Sp Fo So (fun r O'=>r=v/\O'=O)):Sp 28 [c.av] [] v O :=
 yb (w:=⟨[],[],[],[],[]⟩) (k:=0) (keep:=⟨[0,1,2,3,30],[],[],[]⟩) (boxes:=[]) mixed (by exact trivial) Tryz.func28 Tryz.call28 rfl rfl rfl (Nat.le_of_ble_eq_true rfl) (by kernel_rfl) h
theorem c28 (c:TSnCity):Sp 28 [c.av] [] (.int .i64 (if wE c then 7 else 0)) []:=s28 c _ _ (by
 unfold R28 wE;refine⟨_,c81 ..,fun h=>⟨?_,by trivial⟩,fun h1=>⟨_,c81 ..,fun h=>⟨?_,by trivial⟩,fun h2=>⟨_,c81 ..,fun h=>⟨?_,by trivial⟩,fun h3=>⟨_,c81 ..,fun h=>⟨?_,by trivial⟩,fun h4=>⟨_,c81 ..,fun h=>⟨?_,by trivial⟩,fun h=>⟨?_,by trivial⟩⟩⟩⟩⟩⟩
 ·rw[h];rfl
 ·rw[h1,h];rfl
 ·rw[h1,h2,h];rfl
 ·rw[h1,h2,h3,h];rfl
 ·rw[h1,h2,h3,h4,h];rfl
 ·rw[h1,h2,h3,h4,h];rfl)
def qM (a b:Int):Int:=if a.tmod b<0 then wrap i64 (wrap i64 (a.tdiv b)-1) else wrap i64 (a.tdiv b)
def GN (a b:Int) (_S:SpecF) (_Fr:FreshF) (_Sq:SeqF) (Q:yc):Prop :=
 b≠0/\b≠0/\(decide (a.tmod b<0)=true->Q (iN (wrap i64 (wrap i64 (a.tdiv b)-1))) [])/\(decide (a.tmod b<0)=false->Q (iN (wrap i64 (a.tdiv b))) [])
theorem zcR (a:Int) (b:Int) (v:AV) (O:List (List AV)) (h:GN a b Sp Fo So (fun r O'=>r=v/\O'=O)):Sp 209 [iN a,iN b] [] v O :=
 yb (w:=⟨[],[],[],[],[]⟩) (k:=0) (keep:=⟨[0,1,4,5,12],[],[],[]⟩) (boxes:=[]) mixed (by exact trivial) Tryz.func209 Tryz.call209 rfl rfl rfl (Nat.le_of_ble_eq_true rfl) (by kernel_rfl) h
theorem Hh (a b:Int) (hb:b≠0):Sp 209 [.int .i64 a,.int .i64 b] [] (.int .i64 (qM a b)) []:=zcR a b _ _ (by
 unfold GN qM;refine⟨hb,hb,fun h=>⟨?_,by trivial⟩,fun h=>⟨?_,by trivial⟩⟩
 ·rw[if_pos (zt_ h)]
 ·rw[if_neg (zf_ h)])
def yL (x:TEncl) (n d:Int):TEncl:=⟨qM (wrap i64 (n*x.Lo)) d,wrap i64 (0-qM (wrap i64 (wrap i64 (0-n)*x.Hi)) d)⟩
def DY (x:TEncl) (n d:Int) (S:SpecF) (_Fr:FreshF) (_Sq:SeqF) (Q:yc):Prop :=
 ∃n0,S 209 [iN (wrap i64 (n*x.Lo)),iN d] [] (iN n0) []/\∃n2,S 209 [iN (wrap i64 (wrap i64 ((0:Int)-n)*x.Hi)),iN d] [] (iN n2) []/\Q (.agg [iN n0,iN (wrap i64 ((0:Int)-n2))]) []
theorem zcq (x:TEncl) (n:Int) (d:Int) (v:AV) (O:List (List AV)) (h:DY x n d Sp Fo So (fun r O'=>r=v/\O'=O)):Sp 180 [x.av,iN n,iN d] [] v O :=
 yb (w:=⟨[],[],[],[],[]⟩) (k:=0) (keep:=⟨[0,1,2,3,6],[],[],[]⟩) (boxes:=[]) mixed (by exact trivial) Tryz.func180 Tryz.call180 rfl rfl rfl (Nat.le_of_ble_eq_true rfl) (by kernel_rfl) h
theorem Qi (x:TEncl) (n d:Int) (hd:d≠0):Sp 180 [x.av,.int .i64 n,.int .i64 d] [] (yL x n d).av []:=zcq x n d _ _ ⟨_,Hh _ _ hd,_,Hh _ _ hd,rfl,rfl⟩
def jN (x:TEncl) (n:Int):TEncl:=⟨wrap i64 (x.Lo+n),wrap i64 (x.Hi+n)⟩
def DX (x:TEncl) (n:Int) (_S:SpecF) (_Fr:FreshF) (_Sq:SeqF) (Q:yc):Prop :=
 Q (.agg [iN (wrap i64 (x.Lo+n)),iN (wrap i64 (x.Hi+n))]) []
theorem zcp (x:TEncl) (n:Int) (v:AV) (O:List (List AV)) (h:DX x n Sp Fo So (fun r O'=>r=v/\O'=O)):Sp 179 [x.av,iN n] [] v O :=
 yb (w:=⟨[],[],[],[],[]⟩) (k:=0) (keep:=⟨[0,1,2,4],[],[],[]⟩) (boxes:=[]) mixed (by exact trivial) Tryz.func179 Tryz.call179 rfl rfl rfl (Nat.le_of_ble_eq_true rfl) (by kernel_rfl) h
theorem PH (x:TEncl) (n:Int):Sp 179 [x.av,.int .i64 n] [] (jN x n).av []:=zcp x n _ _ ⟨rfl,rfl⟩
def q8 (x y:TEncl):TEncl:=⟨wrap i64 (x.Lo+y.Lo),wrap i64 (x.Hi+y.Hi)⟩
def wu (l:List TEncl):TEncl:=l.foldl q8 ⟨0,0⟩
def GB (l:List TEncl) (_S:SpecF) (_Fr:FreshF) (_Sq:SeqF) (Q:yc):Prop :=
 ∃(I0:Nat->List AV->Prop),(∃m2,I0 m2 [iN 0,TEncl.zero.av])/\∀(m2:Nat) (n3 n4 n5:Int),I0 m2 [iN n3,.agg [iN n4,iN n5]]->(decide (n3<(↑(List.map TEncl.av l).length:Int))=true->∃n9 n10,((0:Int)<=n3/\(2:Nat)=(2:Nat)/\(List.map TEncl.av l)[n3.toNat]? = some (.agg [iN n9,iN n10]))/\∃k12,k12<m2/\I0 k12 [iN (wrap i64 (n3+1)),.agg [iN (wrap i64 (n4+n9)),iN (wrap i64 (n5+n10))]])/\(decide (n3<(↑(List.map TEncl.av l).length:Int))=false->Q (.agg [iN n4,iN n5]) [])
theorem zci (l:List TEncl) (v:AV) (O:List (List AV)) (h:GB l Sp Fo So (fun r O'=>r=v/\O'=O)):Sp 172 [.slc 3 (List.map TEncl.av l)] [] v O :=
 yb (w:=⟨[],[],[],[],[]⟩) (k:=0) (keep:=⟨[0,2,4,5,6,7,8],[⟨2,[(7,iN 0)],[],[(2,.agg [iN 0,iN 0])],[],[],[]⟩],[],[]⟩) (boxes:=[]) mixed (by exact trivial) Tryz.func172 Tryz.call172 rfl rfl rfl (Nat.le_of_ble_eq_true rfl) (by kernel_rfl) h
theorem Qg (l:List TEncl) (hl:l.length<=1000000):Sp 172 [.slc 3 (l.map TEncl.av)] [] (wu l).av []:=zci l _ _ (by
 unfold GB wu;refine⟨fun m vs=>∃k:Nat,k<=l.length/\m=l.length-k/\vs=[.int .i64 k,((l.take k).foldl q8 ⟨0,0⟩).av],⟨_,0,by omega,rfl,rfl⟩,?_⟩;rintro m n3 n4 n5 ⟨k,hk,rfl,hv⟩;generalize he:(l.take k).foldl q8 ⟨0,0⟩=e at hv;have hv':=hv;unfold TEncl.av TEncl.cs at hv';simp only[List.cons.injEq,AV.int.injEq,true_and,AV.agg.injEq,and_true] at hv';obtain ⟨rfl,rfl,rfl⟩:=hv';simp only[List.length_map];refine⟨fun g=>?_,fun g=>?_⟩
 ·have hlt:k<l.length:=by simpa using g
  obtain ⟨y,hy,hy'⟩:=ym (f:=TEncl.av) hlt;refine⟨y.Lo,y.Hi,⟨by omega,by trivial,hy'⟩,_,(by omega:l.length-(k+1)<l.length-k),k+1,by omega,rfl,?_⟩;rw[yg (by omega),XH q8 _ hy,he];rfl
 ·obtain rfl:k=l.length:=by simp at g;omega
  rw[List.take_length] at he;subst he;exact⟨rfl,by trivial⟩)
def DV (x:TEncl) (_S:SpecF) (_Fr:FreshF) (_Sq:SeqF) (Q:yc):Prop :=
 Q (.agg [iN (wrap i64 ((0:Int)-x.Hi)),iN (wrap i64 ((0:Int)-x.Lo))]) []
theorem zck (x:TEncl) (v:AV) (O:List (List AV)) (h:DV x Sp Fo So (fun r O'=>r=v/\O'=O)):Sp 174 [x.av] [] v O :=
 yb (w:=⟨[],[],[],[],[]⟩) (k:=0) (keep:=⟨[0,1,2],[],[],[]⟩) (boxes:=[]) mixed (by exact trivial) Tryz.func174 Tryz.call174 rfl rfl rfl (Nat.le_of_ble_eq_true rfl) (by kernel_rfl) h
theorem Qh (e:TEncl):Sp 174 [e.av] [] (ql e).av []:=zck e _ _ ⟨rfl,rfl⟩
def Xs (x:TEncl):TEncl:=jN x (wrap i64 (-360000000*qM x.Lo 360000000))
def zaa (x:TEncl) (S:SpecF) (_Fr:FreshF) (_Sq:SeqF) (Q:yc):Prop :=
 ∃n0,S 209 [iN x.Lo,iN 360000000] [] (iN n0) []/\∃n2 n3,S 179 [x.av,iN (wrap i64 ((-360000000:Int)*n0))] [] (.agg [iN n2,iN n3]) []/\Q (.agg [iN n2,iN n3]) []
theorem zcG (x:TEncl) (v:AV) (O:List (List AV)) (h:zaa x Sp Fo So (fun r O'=>r=v/\O'=O)):Sp 196 [x.av] [] v O :=
 yb (w:=⟨[],[],[],[],[]⟩) (k:=0) (keep:=⟨[0,1,2],[],[],[]⟩) (boxes:=[]) mixed (by exact trivial) Tryz.func196 Tryz.call196 rfl rfl rfl (Nat.le_of_ble_eq_true rfl) (by kernel_rfl) h
theorem Hg (x:TEncl):Sp 196 [x.av] [] (Xs x).av []:=zcG x _ _ ⟨_,Hh _ _ (by omega),_,_,PH _ _,rfl,rfl⟩
def DT (n:Int) (_S:SpecF) (_Fr:FreshF) (_Sq:SeqF) (Q:yc):Prop :=
 Q (.agg [iN n,iN n]) []
theorem zcf (n:Int) (v:AV) (O:List (List AV)) (h:DT n Sp Fo So (fun r O'=>r=v/\O'=O)):Sp 169 [iN n] [] v O :=
 yb (w:=⟨[],[],[],[],[]⟩) (k:=0) (keep:=⟨[0,2],[],[],[]⟩) (boxes:=[]) mixed (by exact trivial) Tryz.func169 Tryz.call169 rfl rfl rfl (Nat.le_of_ble_eq_true rfl) (by kernel_rfl) h
theorem Jj (n:Int):Sp 169 [.int .i64 n] [] (TEncl.mk n n).av []:=zcf n _ _ ⟨rfl,rfl⟩
def kQ:TEncl:=⟨-10000,10000⟩
def zab (_S:SpecF) (_Fr:FreshF) (_Sq:SeqF) (Q:yc):Prop :=
 Q (.agg [iN (-10000:Int),iN 10000]) []
theorem zcH  (v:AV) (O:List (List AV)) (h:zab  Sp Fo So (fun r O'=>r=v/\O'=O)):Sp 197 [] [] v O :=
 yb (w:=⟨[],[],[],[],[]⟩) (k:=0) (keep:=⟨[0],[],[],[]⟩) (boxes:=[]) mixed (by exact trivial) Tryz.func197 Tryz.call197 rfl rfl rfl (Nat.le_of_ble_eq_true rfl) (by kernel_rfl) h
theorem FJ:Sp 197 [] [] kQ.av []:=zcH _ _ ⟨rfl,rfl⟩
def DU (x:TEncl) (S:SpecF) (_Fr:FreshF) (_Sq:SeqF) (Q:yc):Prop :=
 ∃n0 n1 n2,S 199 [x.av] [] (.tup [AV.agg [iN n0,iN n1],iN n2]) []/\Q (.agg [iN n0,iN n1]) []
theorem zcj (x:TEncl) (v:AV) (O:List (List AV)) (h:DU x Sp Fo So (fun r O'=>r=v/\O'=O)):Sp 173 [x.av] [] v O :=
 yb (w:=⟨[],[],[],[],[]⟩) (k:=0) (keep:=⟨[0,1,2,3],[],[],[]⟩) (boxes:=[]) mixed (by exact trivial) Tryz.func173 Tryz.call173 rfl rfl rfl (Nat.le_of_ble_eq_true rfl) (by kernel_rfl) h
theorem Ln (x:TEncl):Sp 173 [x.av] [] (yY x 0).1.av []:=zcj x _ _ ⟨_,_,_,zaZ x,rfl,rfl⟩
def DW (x:TEncl) (S:SpecF) (_Fr:FreshF) (_Sq:SeqF) (Q:yc):Prop :=
 ∃n0 n1 n2,S 204 [x.av] [] (.tup [AV.agg [iN n0,iN n1],iN n2]) []/\Q (.agg [iN n0,iN n1]) []
theorem zcn (x:TEncl) (v:AV) (O:List (List AV)) (h:DW x Sp Fo So (fun r O'=>r=v/\O'=O)):Sp 177 [x.av] [] v O :=
 yb (w:=⟨[],[],[],[],[]⟩) (k:=0) (keep:=⟨[0,1,2,3],[],[],[]⟩) (boxes:=[]) mixed (by exact trivial) Tryz.func177 Tryz.call177 rfl rfl rfl (Nat.le_of_ble_eq_true rfl) (by kernel_rfl) h
theorem FB (x:TEncl):Sp 177 [x.av] [] (yY x 90000000).1.av []:=zcn x _ _ ⟨_,_,_,za2 x,rfl,rfl⟩
def vT (x:TEncl) (l:List TEncl):TEncl:=l.foldl (fun x y=>(jE x y).1) x
def GC (x:TEncl) (l:List TEncl) (S:SpecF) (_Fr:FreshF) (_Sq:SeqF) (Q:yc):Prop :=
 ∃(I0:Nat->List AV->Prop),(∃m2,I0 m2 [iN 0,x.av])/\∀(m2:Nat) (n3 n4 n5:Int),I0 m2 [iN n3,.agg [iN n4,iN n5]]->(decide (n3<(↑(List.map TEncl.av l).length:Int))=true->∃n9 n10,((0:Int)<=n3/\(2:Nat)=(2:Nat)/\(List.map TEncl.av l)[n3.toNat]? = some (.agg [iN n9,iN n10]))/\∃n12 n13 n14,S 200 [AV.agg [iN n4,iN n5],.agg [iN n9,iN n10]] [] (.tup [AV.agg [iN n12,iN n13],iN n14]) []/\TEncl.z0=TEncl.z0/\∃k17,k17<m2/\I0 k17 [iN (wrap i64 (n3+1)),.agg [iN n12,iN n13]])/\(decide (n3<(↑(List.map TEncl.av l).length:Int))=false->Q (.agg [iN n4,iN n5]) [])
theorem zcl (x:TEncl) (l:List TEncl) (v:AV) (O:List (List AV)) (h:GC x l Sp Fo So (fun r O'=>r=v/\O'=O)):Sp 175 [x.av,.slc 3 (List.map TEncl.av l)] [] v O :=
 yb (w:=⟨[],[],[],[],[]⟩) (k:=0) (keep:=⟨[0,1,2,4,6,7,8,9,10],[⟨2,[(9,iN 0)],[],[(2,.agg [iN 0,iN 0])],[],[],[]⟩],[],[]⟩) (boxes:=[]) mixed (by exact trivial) Tryz.func175 Tryz.call175 rfl rfl rfl (Nat.le_of_ble_eq_true rfl) (by kernel_rfl) h
theorem Hc (x:TEncl) (l:List TEncl) (hl:l.length<=1000000):Sp 175 [x.av,.slc 3 (l.map TEncl.av)] [] (vT x l).av []:=zcl x l _ _ (by
 unfold GC vT;refine⟨fun m vs=>∃k:Nat,k<=l.length/\m=l.length-k/\vs=[.int .i64 k,((l.take k).foldl (fun x y=>(jE x y).1) x).av],⟨_,0,by omega,rfl,rfl⟩,?_⟩;rintro m n3 n4 n5 ⟨k,hk,rfl,hv⟩;generalize he:(l.take k).foldl (fun x y=>(jE x y).1) x=e at hv;have hv':=hv;unfold TEncl.av TEncl.cs at hv';simp only[List.cons.injEq,AV.int.injEq,true_and,AV.agg.injEq,and_true] at hv';obtain ⟨rfl,rfl,rfl⟩:=hv';simp only[List.length_map];refine⟨fun g=>?_,fun g=>?_⟩
 ·have hlt:k<l.length:=by simpa using g
  obtain ⟨y,hy,hy'⟩:=ym (f:=TEncl.av) hlt;refine⟨y.Lo,y.Hi,⟨by omega,by trivial,hy'⟩,_,_,_,za0 e y,by trivial,_,(by omega:l.length-(k+1)<l.length-k),k+1,by omega,rfl,?_⟩;rw[yg (by omega),XH (fun x y=>(jE x y).1) _ hy,he];rfl
 ·obtain rfl:k=l.length:=by simp at g;omega
  rw[List.take_length] at he;subst he;exact⟨rfl,by trivial⟩)
def xH (size times:Int) (x:TEncl):TEncl:=yL (yY (yL x times 1) 0).1 size 100000000
def D9 (size times:Int) (x:TEncl) (S:SpecF) (_Fr:FreshF) (_Sq:SeqF) (Q:yc):Prop :=
 ∃n0 n1,S 180 [x.av,iN times,iN 1] [] (.agg [iN n0,iN n1]) []/\∃n3 n4,S 173 [AV.agg [iN n0,iN n1]] [] (.agg [iN n3,iN n4]) []/\∃n6 n7,S 180 [AV.agg [iN n3,iN n4],iN size,iN 100000000] [] (.agg [iN n6,iN n7]) []/\Q (.agg [iN n6,iN n7]) []
theorem zcF (size:Int) (times:Int) (x:TEncl) (v:AV) (O:List (List AV)) (h:D9 size times x Sp Fo So (fun r O'=>r=v/\O'=O)):Sp 195 [iN size,iN times,x.av] [] v O :=
 yb (w:=⟨[],[],[],[],[]⟩) (k:=0) (keep:=⟨[0,1,2,5,6],[],[],[]⟩) (boxes:=[]) mixed (by exact trivial) Tryz.func195 Tryz.call195 rfl rfl rfl (Nat.le_of_ble_eq_true rfl) (by kernel_rfl) h
theorem Jl (size times:Int) (x:TEncl):Sp 195 [.int .i64 size,.int .i64 times,x.av] [] (xH size times x).av []:=zcF size times x _ _ ⟨_,_,Qi x times 1 (by omega),_,_,Ln _,_,_,Qi _ size 100000000 (by omega),rfl,rfl⟩
def U7 (w:TEncl):TEncl:=Xs (jN (yL w 98564736 8640000) 280459000)
def kY (w:TEncl):TEncl:=Xs (jN (yL w 98560028 8640000) 357528000)
def wa (w:TEncl):TEncl:=wu [xH 1915000 1 (kY w),xH 20000 2 (kY w)]
def xm (w:TEncl):TEncl:=Xs (wu [U7 w,wa w,kQ])
def Xq (w:TEncl):TEncl:=jN (ql (yL w 36 8640000)) 23439000
def O2 (w:TEncl):TEncl:=vT (yY (Xq w) 0).1 [(yY (xm w) 0).1]
def jj (w:TEncl):TSky:=⟨O2 w,(yY (xp (O2 w)).1 90000000).1,wu [xH 2466000 2 (xm w),ql (wa w),ql (xH 53000 4 (xm w)),kQ]⟩
def GA (w:TEncl) (S:SpecF) (_Fr:FreshF) (_Sq:SeqF) (Q:yc):Prop :=
 ∃n0 n1,S 180 [w.av,iN 98560028,iN 8640000] [] (.agg [iN n0,iN n1]) []/\∃n3 n4,S 179 [AV.agg [iN n0,iN n1],iN 357528000] [] (.agg [iN n3,iN n4]) []/\∃n6 n7,S 196 [AV.agg [iN n3,iN n4]] [] (.agg [iN n6,iN n7]) []/\∃n9 n10,S 180 [w.av,iN 98564736,iN 8640000] [] (.agg [iN n9,iN n10]) []/\∃n12 n13,S 179 [AV.agg [iN n9,iN n10],iN 280459000] [] (.agg [iN n12,iN n13]) []/\∃n15 n16,S 196 [AV.agg [iN n12,iN n13]] [] (.agg [iN n15,iN n16]) []/\∃n18 n19,S 195 [iN 1915000,iN 1,.agg [iN n6,iN n7]] [] (.agg [iN n18,iN n19]) []/\∃n21 n22,S 195 [iN 20000,iN 2,.agg [iN n6,iN n7]] [] (.agg [iN n21,iN n22]) []/\∃n24 n25,S 172 [AV.slc 3 [AV.agg [iN n18,iN n19],.agg [iN n21,iN n22]]] [] (.agg [iN n24,iN n25]) []/\∃n27 n28,S 197 [] [] (.agg [iN n27,iN n28]) []/\∃n30 n31,S 172 [AV.slc 3 [AV.agg [iN n15,iN n16],.agg [iN n24,iN n25],.agg [iN n27,iN n28]]] [] (.agg [iN n30,iN n31]) []/\∃n33 n34,S 196 [AV.agg [iN n30,iN n31]] [] (.agg [iN n33,iN n34]) []/\∃n36 n37,S 180 [w.av,iN 36,iN 8640000] [] (.agg [iN n36,iN n37]) []/\∃n39 n40,S 174 [AV.agg [iN n36,iN n37]] [] (.agg [iN n39,iN n40]) []/\∃n42 n43,S 179 [AV.agg [iN n39,iN n40],iN 23439000] [] (.agg [iN n42,iN n43]) []/\∃n45 n46,S 173 [AV.agg [iN n42,iN n43]] [] (.agg [iN n45,iN n46]) []/\∃n48 n49,S 173 [AV.agg [iN n33,iN n34]] [] (.agg [iN n48,iN n49]) []/\∃n51 n52,S 175 [AV.agg [iN n45,iN n46],.slc 3 [AV.agg [iN n48,iN n49]]] [] (.agg [iN n51,iN n52]) []/\∃n54 n55 n56,S 198 [AV.agg [iN n51,iN n52]] [] (.tup [AV.agg [iN n54,iN n55],iN n56]) []/\∃n58 n59,S 177 [AV.agg [iN n54,iN n55]] [] (.agg [iN n58,iN n59]) []/\∃n61 n62,S 195 [iN 2466000,iN 2,.agg [iN n33,iN n34]] [] (.agg [iN n61,iN n62]) []/\∃n64 n65,S 174 [AV.agg [iN n24,iN n25]] [] (.agg [iN n64,iN n65]) []/\∃n67 n68,S 195 [iN 53000,iN 4,.agg [iN n33,iN n34]] [] (.agg [iN n67,iN n68]) []/\∃n70 n71,S 174 [AV.agg [iN n67,iN n68]] [] (.agg [iN n70,iN n71]) []/\∃n73 n74,S 197 [] [] (.agg [iN n73,iN n74]) []/\∃n76 n77,S 172 [AV.slc 3 [AV.agg [iN n61,iN n62],.agg [iN n64,iN n65],.agg [iN n70,iN n71],.agg [iN n73,iN n74]]] [] (.agg [iN n76,iN n77]) []/\Q (.agg [iN n51,iN n52,iN n58,iN n59,iN n76,iN n77]) []
theorem zch (w:TEncl) (v:AV) (O:List (List AV)) (h:GA w Sp Fo So (fun r O'=>r=v/\O'=O)):Sp 171 [w.av] [] v O :=
 yb (w:=⟨[],[],[],[],[]⟩) (k:=0) (keep:=⟨[0,1,2,3,4,5,6,7,8,9,10],[],[],[]⟩) (boxes:=[]) mixed (by exact trivial) Tryz.func171 Tryz.call171 rfl rfl rfl (Nat.le_of_ble_eq_true rfl) (by kernel_rfl) h
theorem zaS (w:TEncl):Sp 171 [w.av] [] (jj w).av []:=zch w _ _ (by
 unfold GA;have ha:Sp 196 [(jN (yL w 98560028 8640000) 357528000).av] [] (kY w).av []:=Hg _;have hl:Sp 196 [(jN (yL w 98564736 8640000) 280459000).av] [] (U7 w).av []:=Hg _;have hc:Sp 172 [.slc 3 [(xH 1915000 1 (kY w)).av,(xH 20000 2 (kY w)).av]] [] (wa w).av []:=Qg [xH 1915000 1 (kY w),xH 20000 2 (kY w)] (by simp);have he:Sp 172 [.slc 3 [(U7 w).av,(wa w).av,kQ.av]] [] (wu [U7 w,wa w,kQ]).av []:=Qg [U7 w,wa w,kQ] (by simp);have he2:Sp 196 [(wu [U7 w,wa w,kQ]).av] [] (xm w).av []:=Hg _;have ht:Sp 179 [(ql (yL w 36 8640000)).av,.int .i64 23439000] [] (Xq w).av []:=PH _ _;have hd:Sp 175 [(yY (Xq w) 0).1.av,.slc 3 [(yY (xm w) 0).1.av]] [] (O2 w).av []:=Hc (yY (Xq w) 0).1 [(yY (xm w) 0).1] (by simp);have hq:Sp 172 [.slc 3 [(xH 2466000 2 (xm w)).av,(ql (wa w)).av,(ql (xH 53000 4 (xm w))).av,kQ.av]] [] (jj w).equation.av []:=Qg [xH 2466000 2 (xm w),ql (wa w),ql (xH 53000 4 (xm w)),kQ] (by simp);refine⟨_,_,Qi w 98560028 8640000 (by omega),_,_,PH _ _,_,_,ha,_,_,Qi w 98564736 8640000 (by omega),_,_,PH _ _,_,_,hl,_,_,Jl 1915000 1 (kY w),_,_,Jl 20000 2 (kY w),_,_,hc,_,_,FJ,_,_,he,_,_,he2,?_⟩;refine⟨_,_,Qi w 36 8640000 (by omega),_,_,Qh _,_,_,ht,_,_,Ln (Xq w),_,_,Ln (xm w),_,_,hd,_,_,_,zaY (O2 w),?_⟩;exact⟨_,_,FB _,_,_,Jl 2466000 2 (xm w),_,_,Qh (wa w),_,_,Jl 53000 4 (xm w),_,_,Qh _,_,_,FJ,_,_,hq,rfl,rfl⟩)
def xb (h:THalf):TEncl:=jN (ql (yL ⟨h.c.Lon,h.c.Lon⟩ 3 12500)) (wrap i64 (86400*h.day))
def vM (h:THalf):TEncl:=if h.rise then wu [xb h,⟨-44400,1200⟩] else wu [xb h,⟨-1200,44400⟩]
def Gy (h0:THalf) (S:SpecF) (_Fr:FreshF) (_Sq:SeqF) (Q:yc):Prop :=
 ∃n0 n1,S 169 [iN h0.c.Lon] [] (.agg [iN n0,iN n1]) []/\∃n3 n4,S 180 [AV.agg [iN n0,iN n1],iN 3,iN 12500] [] (.agg [iN n3,iN n4]) []/\∃n6 n7,S 174 [AV.agg [iN n3,iN n4]] [] (.agg [iN n6,iN n7]) []/\∃n9 n10,S 179 [AV.agg [iN n6,iN n7],iN (wrap i64 ((86400:Int)*h0.day))] [] (.agg [iN n9,iN n10]) []/\(h0.rise=true->∃n14 n15,S 172 [AV.slc 3 [AV.agg [iN n9,iN n10],.agg [iN (-44400:Int),iN 1200]]] [] (.agg [iN n14,iN n15]) []/\Q (.agg [iN n14,iN n15]) [])/\(h0.rise=false->∃n14 n15,S 172 [AV.slc 3 [AV.agg [iN n9,iN n10],.agg [iN (-1200:Int),iN 44400]]] [] (.agg [iN n14,iN n15]) []/\Q (.agg [iN n14,iN n15]) [])
theorem zce (h0:THalf) (v:AV) (O:List (List AV)) (h:Gy h0 Sp Fo So (fun r O'=>r=v/\O'=O)):Sp 168 [h0.av] [] v O :=
 yb (w:=⟨[],[],[],[],[]⟩) (k:=0) (keep:=⟨[0,1,2,3,15],[],[],[]⟩) (boxes:=[]) mixed (by exact trivial) Tryz.func168 Tryz.call168 rfl rfl rfl (Nat.le_of_ble_eq_true rfl) (by kernel_rfl) h
theorem zaQ (h:THalf):Sp 168 [h.av] [] (vM h).av []:=zce h _ _ (by
 unfold Gy vM;have hn:Sp 179 [(ql (yL ⟨h.c.Lon,h.c.Lon⟩ 3 12500)).av,.int .i64 (wrap i64 (86400*h.day))] [] (xb h).av []:=PH _ _;have hs1:Sp 172 [.slc 3 [(xb h).av,.agg [.int .i64 (-44400),.int .i64 1200]]] [] (wu [xb h,⟨-44400,1200⟩]).av []:=Qg [xb h,⟨-44400,1200⟩] (by simp);have hs2:Sp 172 [.slc 3 [(xb h).av,.agg [.int .i64 (-1200),.int .i64 44400]]] [] (wu [xb h,⟨-1200,44400⟩]).av []:=Qg [xb h,⟨-1200,44400⟩] (by simp);generalize wu [xb h,⟨-44400,1200⟩]=r1 at *;generalize wu [xb h,⟨-1200,44400⟩]=r2 at *;generalize xb h=no at *;refine⟨_,_,Jj h.c.Lon,_,_,Qi ⟨h.c.Lon,h.c.Lon⟩ 3 12500 (by omega),_,_,Qh _,_,_,hn,fun g=>⟨_,_,hs1,?_,by trivial⟩,fun g=>⟨_,_,hs2,?_,by trivial⟩⟩
 ·rw[if_pos g];rfl
 ·rw[if_neg (by rw[g];simp)];rfl)
def K1 (w:TEncl) (h:THalf) (lat:TEncl):TEncl:=wu [(yY h.c.Altitude 0).1,ql (vT (yY lat 0).1 [(jj w).sin])]
def qR (w:TEncl) (h:THalf) (lat:TEncl):TEncl:=(xx (K1 w h lat) (vT (yY lat 90000000).1 [(jj w).cos])).1
def uw (w:TEncl) (h:THalf) (lat:TEncl):TEncl:=if h.rise then ql (yZ (qR w h lat)).1 else (yZ (qR w h lat)).1
def Nk (w:TEncl) (h:THalf) (lat:TEncl):TEncl:=jN (yL (wu [uw w h lat,⟨wrap i64 (0-h.c.Lon),wrap i64 (0-h.c.Lon)⟩,ql (jj w).equation]) 3 12500) (wrap i64 (86400*h.day))
def qJ (w:TEncl) (h:THalf) (lat:TEncl):Int × TEncl :=
 if (qR w h lat).Lo>100000000 then (1,w) else if (qR w h lat).Hi < -100000000 then (2,w) else if (qR w h lat).Lo < -100000000 then (3,w) else if (qR w h lat).Hi>100000000 then (3,w) else (0,Nk w h lat)
abbrev Pt (v1:THalf) (v2:TEncl) (S:SpecF) (Q:yc) (p0_ p1_ p2_ p3_:Int):Prop :=
 ∃n49 n50,S 169 [iN (wrap i64 ((0:Int)-v1.c.Lon))] [] (.agg [iN n49,iN n50]) []/\∃n52 n53,S 174 [AV.agg [iN p0_,iN p1_]] [] (.agg [iN n52,iN n53]) []/\∃n55 n56,S 172 [AV.slc 3 [AV.agg [iN p2_,iN p3_],.agg [iN n49,iN n50],.agg [iN n52,iN n53]]] [] (.agg [iN n55,iN n56]) []/\∃n58 n59,S 180 [AV.agg [iN n55,iN n56],iN 3,iN 12500] [] (.agg [iN n58,iN n59]) []/\∃n61 n62,S 179 [AV.agg [iN n58,iN n59],iN (wrap i64 ((86400:Int)*v1.day))] [] (.agg [iN n61,iN n62]) []/\Q (iN 0) [[iN n61,iN n62],v1.cs,v2.cs]
def Gz (v0:TEncl) (v1:THalf) (v2:TEncl) (S:SpecF) (_Fr:FreshF) (_Sq:SeqF) (Q:yc):Prop :=
 ∃n0 n1 n2 n3 n4 n5,S 171 [v0.av] [] (.agg [iN n0,iN n1,iN n2,iN n3,iN n4,iN n5]) []/\∃n7 n8,S 173 [v1.c.Altitude.av] [] (.agg [iN n7,iN n8]) []/\∃n10 n11,S 173 [v2.av] [] (.agg [iN n10,iN n11]) []/\∃n13 n14,S 175 [AV.agg [iN n10,iN n11],.slc 3 [AV.agg [iN n0,iN n1]]] [] (.agg [iN n13,iN n14]) []/\∃n16 n17,S 174 [AV.agg [iN n13,iN n14]] [] (.agg [iN n16,iN n17]) []/\∃n19 n20,S 172 [AV.slc 3 [AV.agg [iN n7,iN n8],.agg [iN n16,iN n17]]] [] (.agg [iN n19,iN n20]) []/\∃n22 n23,S 177 [v2.av] [] (.agg [iN n22,iN n23]) []/\∃n25 n26,S 175 [AV.agg [iN n22,iN n23],.slc 3 [AV.agg [iN n2,iN n3]]] [] (.agg [iN n25,iN n26]) []/\∃n28 n29 n30,S 176 [AV.agg [iN n19,iN n20],.agg [iN n25,iN n26]] [] (.tup [AV.agg [iN n28,iN n29],iN n30]) []/\(decide (n28>100000000)=true->Q (iN 1) [v0.cs,v1.cs,v2.cs])/\(decide (n28>100000000)=false->(decide (n29<(-100000000:Int))=true->Q (iN 2) [v0.cs,v1.cs,v2.cs])/\(decide (n29<(-100000000:Int))=false->(decide (n28<(-100000000:Int))=true->Q (iN 3) [v0.cs,v1.cs,v2.cs])/\(decide (n28<(-100000000:Int))=false->(decide (n29>100000000)=true->Q (iN 3) [v0.cs,v1.cs,v2.cs])/\(decide (n29>100000000)=false->∃n40 n41 n42,S 178 [AV.agg [iN n28,iN n29]] [] (.tup [AV.agg [iN n40,iN n41],iN n42]) []/\(v1.rise=true->∃n46 n47,S 174 [AV.agg [iN n40,iN n41]] [] (.agg [iN n46,iN n47]) []/\Pt v1 v2 S Q n4 n5 n46 n47)/\(v1.rise=false->Pt v1 v2 S Q n4 n5 n40 n41)))))
theorem zcg (v0:TEncl) (v1:THalf) (v2:TEncl) (v:AV) (O:List (List AV)) (h:Gz v0 v1 v2 Sp Fo So (fun r O'=>r=v/\O'=O)):Sp 170 [.ref 0 0,.ref 1 0,.ref 2 0] [v0.cs,v1.cs,v2.cs] v O :=
 yb (w:=⟨[],[],[],[],[]⟩) (k:=0) (keep:=⟨[0,1,2,3,4,5,6,8,36,40,44,59],[],[],[]⟩) (boxes:=[⟨23,false,v0.cs⟩,⟨201,false,v1.cs⟩,⟨23,false,v2.cs⟩]) mixed (by exact trivial) Tryz.func170 Tryz.call170 rfl rfl rfl (Nat.le_of_ble_eq_true rfl) (by kernel_rfl) h
theorem zaR (w:TEncl) (h:THalf) (lat:TEncl):Sp 170 [.ref 0 0,.ref 1 0,.ref 2 0] [w.cs,h.cs,lat.cs] (.int .i64 (qJ w h lat).1) [(qJ w h lat).2.cs,h.cs,lat.cs]:=zcg w h lat _ _ (by
 unfold Gz Pt;have h1:Sp 175 [(yY lat 0).1.av,.slc 3 [(jj w).sin.av]] [] (vT (yY lat 0).1 [(jj w).sin]).av []:=Hc (yY lat 0).1 [(jj w).sin] (by simp);have h2:Sp 172 [.slc 3 [(yY h.c.Altitude 0).1.av,(ql (vT (yY lat 0).1 [(jj w).sin])).av]] [] (K1 w h lat).av []:=Qg [(yY h.c.Altitude 0).1,ql (vT (yY lat 0).1 [(jj w).sin])] (by simp);have h3:Sp 175 [(yY lat 90000000).1.av,.slc 3 [(jj w).cos.av]] [] (vT (yY lat 90000000).1 [(jj w).cos]).av []:=Hc (yY lat 90000000).1 [(jj w).cos] (by simp);have h4:∃e,Sp 176 [(K1 w h lat).av,(vT (yY lat 90000000).1 [(jj w).cos]).av] [] (.tup [(qR w h lat).av,.int .i64 e]) []:=⟨_,zaT _ _⟩;obtain ⟨e4,h4⟩:=h4;have h5:∃e,Sp 178 [(qR w h lat).av] [] (.tup [(yZ (qR w h lat)).1.av,.int .i64 e]) []:=⟨_,FC _⟩;obtain ⟨e5,h5⟩:=h5;have h6:Sp 179 [(yL (wu [uw w h lat,⟨wrap i64 (0-h.c.Lon),wrap i64 (0-h.c.Lon)⟩,ql (jj w).equation]) 3 12500).av,.int .i64 (wrap i64 (86400*h.day))] [] (Nk w h lat).av []:=PH _ _;unfold qJ;refine⟨_,_,_,_,_,_,zaS w,_,_,Ln h.c.Altitude,_,_,Ln lat,_,_,h1,_,_,Qh _,_,_,h2,_,_,FB lat,_,_,h3,_,_,_,h4,fun g=>?_,fun g1=>⟨fun g=>?_,fun g2=>⟨fun g=>?_,fun g3=>⟨fun g=>?_,fun g4=>⟨_,_,_,h5,fun g=>?_,fun g=>?_⟩⟩⟩⟩⟩
 ·rw[if_pos (zt_ g)];exact⟨rfl,by trivial⟩
 ·rw[if_neg (zf_ g1),if_pos (zt_ g)];exact⟨rfl,by trivial⟩
 ·rw[if_neg (zf_ g1),if_neg (zf_ g2),if_pos (zt_ g)];exact⟨rfl,by trivial⟩
 ·rw[if_neg (zf_ g1),if_neg (zf_ g2),if_neg (zf_ g3),if_pos (zt_ g)];exact⟨rfl,by trivial⟩
 ·rw[if_neg (zf_ g1),if_neg (zf_ g2),if_neg (zf_ g3),if_neg (zf_ g4)];have hh:uw w h lat=ql (yZ (qR w h lat)).1:=by unfold uw;rw[if_pos g]
  rw[hh] at h6;exact⟨_,_,Qh _,_,_,Jj _,_,_,Qh (jj w).equation,_,_,Qg [ql (yZ (qR w h lat)).1,⟨wrap i64 (0-h.c.Lon),wrap i64 (0-h.c.Lon)⟩,ql (jj w).equation] (by simp),_,_,Qi _ 3 12500 (by omega),_,_,h6,rfl,by trivial⟩
 ·rw[if_neg (zf_ g1),if_neg (zf_ g2),if_neg (zf_ g3),if_neg (zf_ g4)];have hh:uw w h lat=(yZ (qR w h lat)).1:=by unfold uw;rw[if_neg (by rw[g];simp)]
  rw[hh] at h6;exact⟨_,_,Jj _,_,_,Qh (jj w).equation,_,_,Qg [(yZ (qR w h lat)).1,⟨wrap i64 (0-h.c.Lon),wrap i64 (0-h.c.Lon)⟩,ql (jj w).equation] (by simp),_,_,Qi _ 3 12500 (by omega),_,_,h6,rfl,by trivial⟩)
def Uy (h:THalf):Nat->Int->TEncl->Int × TEncl
 |0,kd,w=>(kd,w)
 |k+1,_,w=>if (qJ w h ⟨h.c.Lat,h.c.Lat⟩).1≠0 then ((qJ w h ⟨h.c.Lat,h.c.Lat⟩).1,⟨0,0⟩) else Uy h k (qJ w h ⟨h.c.Lat,h.c.Lat⟩).1 (qJ w h ⟨h.c.Lat,h.c.Lat⟩).2
theorem Nn (h:THalf) (kd:Int) (w:TEncl):Uy h 0 kd w=(kd,w):=rfl
theorem Np (h:THalf) (k:Nat) (kd:Int) (w:TEncl):Uy h (k+1) kd w=if (qJ w h ⟨h.c.Lat,h.c.Lat⟩).1≠0 then ((qJ w h ⟨h.c.Lat,h.c.Lat⟩).1,⟨0,0⟩) else Uy h k (qJ w h ⟨h.c.Lat,h.c.Lat⟩).1 (qJ w h ⟨h.c.Lat,h.c.Lat⟩).2:=rfl
def xy (h:THalf):Int × TEncl:=Uy h 3 0 (vM h)
def Gr (h0:THalf) (S:SpecF) (_Fr:FreshF) (_Sq:SeqF) (Q:yc):Prop :=
 ∃n0 n1,S 168 [h0.av] [] (.agg [iN n0,iN n1]) []/\∃n3 n4,S 169 [iN h0.c.Lat] [] (.agg [iN n3,iN n4]) []/\∃(I6:Nat->List AV->Prop),(∃m8,I6 m8 [iN 0,iN 0,h0.av,.agg [iN n0,iN n1],.agg [iN n3,iN n4]])/\∀(m8:Nat) (n9 n10 n11 n12 n13 n14 n15 n16:Int) (b17:Bool) (n18 n19 n20 n21:Int),I6 m8 [iN n9,iN n10,.agg [iN n11,iN n12,iN n13,iN n14,iN n15,iN n16,.bool b17],.agg [iN n18,iN n19],.agg [iN n20,iN n21]]->(decide (n10<3)=true->∃n25 n26 n27 n28 n29 n30 n31 n32 n33 b34 n35 n36,S 170 [AV.ref 0 0,.ref 1 0,.ref 2 0] [[iN n18,iN n19],[iN n11,iN n12,iN n13,iN n14,iN n15,iN n16,.bool b17],[iN n20,iN n21]] (iN n25) [[iN n26,iN n27],[iN n28,iN n29,iN n30,iN n31,iN n32,iN n33,.bool b34],[iN n35,iN n36]]/\((n25 != 0)=true->Q (.tup [iN n25,TEncl.zero.av]) [])/\((n25 != 0)=false->∃k40,k40<m8/\I6 k40 [iN n25,iN (wrap i64 (n10+1)),.agg [iN n28,iN n29,iN n30,iN n31,iN n32,iN n33,.bool b34],.agg [iN n26,iN n27],.agg [iN n35,iN n36]]))/\(decide (n10<3)=false->Q (.tup [iN n9,.agg [iN n18,iN n19]]) [])
theorem zb3 (h0:THalf) (v:AV) (O:List (List AV)) (h:Gr h0 Sp Fo So (fun r O'=>r=v/\O'=O)):Sp 157 [h0.av] [] v O :=
 yb (w:=⟨[],[],[],[],[]⟩) (k:=0) (keep:=⟨[0,1,2,3,4,5,13,14,18],[⟨5,[(2,iN 0),(13,iN 0)],[],[(1,.agg [iN 0,iN 0,iN 0,iN 0,iN 0,iN 0,.bool false]),(3,.agg [iN 0,iN 0]),(4,.agg [iN 0,iN 0])],[],[],[]⟩],[],[]⟩) (boxes:=[]) mixed (by exact trivial) Tryz.func157 Tryz.call157 rfl rfl rfl (Nat.le_of_ble_eq_true rfl) (by kernel_rfl) h
theorem zaL (h:THalf):Sp 157 [h.av] [] (.tup [.int .i64 (xy h).1,(xy h).2.av]) []:=zb3 h _ _ (by
 unfold Gr;refine⟨_,_,zaQ h,_,_,Jj h.c.Lat,?_⟩;refine⟨fun m vs=>∃(k:Nat) (kd:Int) (w:TEncl),m+k=3/\vs=[.int .i64 kd,.int .i64 k,h.av,w.av,(TEncl.mk h.c.Lat h.c.Lat).av]/\Uy h m kd w=xy h,⟨3,0,0,vM h,rfl,rfl,rfl⟩,?_⟩;intro m;intros;rename_i hJ;obtain ⟨k,kd,w,hm,hv,hp⟩:=hJ;unfold TEncl.av TEncl.cs THalf.av THalf.cs at hv;cases hv;refine⟨fun g=>?_,fun g=>?_⟩
 ·have hk:k<3:=by have:=zt_ g;omega
  obtain ⟨j,rfl⟩:∃j,m=j+1:=⟨m-1,by omega⟩;rw[Np] at hp;refine⟨_,_,_,_,_,_,_,_,_,_,_,_,zaR w h ⟨h.c.Lat,h.c.Lat⟩,fun g2=>⟨?_,by trivial⟩,fun g2=>⟨j,by omega,k+1,(qJ w h ⟨h.c.Lat,h.c.Lat⟩).1,(qJ w h ⟨h.c.Lat,h.c.Lat⟩).2,by omega,?_,?_⟩⟩
  ·have g2:(qJ w h ⟨h.c.Lat,h.c.Lat⟩).1≠0:=by simpa using g2
   rw[if_pos g2] at hp;rw[<- hp];rfl
  ·rw[yg (by omega)];rfl
  ·have g2:(qJ w h ⟨h.c.Lat,h.c.Lat⟩).1=0:=by simpa using g2
   rw[if_neg (by simp[g2])] at hp;exact hp
 ·have hk:¬ k<3:=by have:=zf_ g;omega
  obtain rfl:m=0:=by omega
  rw[Nn] at hp;rw[<- hp];exact⟨rfl,by trivial⟩)
def Ke (c:TSnCity) (day:Int) (w:TEncl):TEncl:=jN w (wrap i64 (wrap i64 (43200+c.Zone)-wrap i64 (86400*day)))
def DP (c:TSnCity) (day:Int) (w:TEncl) (S:SpecF) (_Fr:FreshF) (_Sq:SeqF) (Q:yc):Prop :=
 ∃n0 n1,S 179 [w.av,iN (wrap i64 (wrap i64 ((43200:Int)+c.Zone)-wrap i64 ((86400:Int)*day)))] [] (.agg [iN n0,iN n1]) []/\Q (.agg [iN n0,iN n1]) []
theorem zb4 (c:TSnCity) (day:Int) (w:TEncl) (v:AV) (O:List (List AV)) (h:DP c day w Sp Fo So (fun r O'=>r=v/\O'=O)):Sp 158 [c.av,iN day,w.av] [] v O :=
 yb (w:=⟨[],[],[],[],[]⟩) (k:=0) (keep:=⟨[0,1,2,3,5,6],[],[],[]⟩) (boxes:=[]) mixed (by exact trivial) Tryz.func158 Tryz.call158 rfl rfl rfl (Nat.le_of_ble_eq_true rfl) (by kernel_rfl) h
theorem zaM (c:TSnCity) (day:Int) (w:TEncl):Sp 158 [c.av,.int .i64 day,w.av] [] (Ke c day w).av []:=zb4 c day w _ _ ⟨_,_,PH _ _,rfl,rfl⟩
def y8 (h:THalf):Int × TEncl × Int :=
 if wE h.c then (0,⟨0,0⟩,7) else if yD h.day 0 40000 then (0,⟨0,0⟩,7) else if (xy h).1=0 then ((xy h).1,Ke h.c h.day (xy h).2,0) else ((xy h).1,⟨0,0⟩,0)
def Gp (h0:THalf) (S:SpecF) (_Fr:FreshF) (_Sq:SeqF) (Q:yc):Prop :=
 ∃n0,S 28 [h0.c.av] [] (iN n0) []/\((n0 != 0)=true->Q (.tup [iN 0,TEncl.zero.av,iN 7]) [])/\((n0 != 0)=false->∃b4,S 81 [iN h0.day,iN 0,iN 40000] [] (.bool b4) []/\(b4=true->Q (.tup [iN 0,TEncl.zero.av,iN 7]) [])/\(b4=false->∃n8 n9 n10,S 157 [h0.av] [] (.tup [iN n8,.agg [iN n9,iN n10]]) []/\((n8 == 0)=true->∃n14 n15,S 158 [h0.c.av,iN h0.day,.agg [iN n9,iN n10]] [] (.agg [iN n14,iN n15]) []/\Q (.tup [iN n8,.agg [iN n14,iN n15],iN 0]) [])/\((n8 == 0)=false->Q (.tup [iN n8,TEncl.zero.av,iN 0]) [])))
theorem zbZ (h0:THalf) (v:AV) (O:List (List AV)) (h:Gp h0 Sp Fo So (fun r O'=>r=v/\O'=O)):Sp 146 [h0.av] [] v O :=
 yb (w:=⟨[],[],[],[],[]⟩) (k:=0) (keep:=⟨[0,1,2,3,4,5,14,22],[],[],[]⟩) (boxes:=[]) mixed (by exact trivial) Tryz.func146 Tryz.call146 rfl rfl rfl (Nat.le_of_ble_eq_true rfl) (by kernel_rfl) h
theorem Fz (h:THalf):Sp 146 [h.av] [] (.tup [.int .i64 (y8 h).1,(y8 h).2.1.av,.int .i64 (y8 h).2.2]) []:=zbZ h _ _ (by
 unfold Gp y8;refine⟨_,c28 h.c,fun g=>⟨?_,by trivial⟩,fun g=>⟨_,c81 ..,fun g2=>⟨?_,by trivial⟩,fun g2=>⟨_,_,_,zaL h,fun g3=>⟨_,_,zaM h.c h.day (xy h).2,?_,by trivial⟩,fun g3=>⟨?_,by trivial⟩⟩⟩⟩
 ·cases hc:wE h.c with
  |true=>rfl
  |false=>rw[hc] at g;simp at g
 all_goals
  cases hc:wE h.c with
  |true=>rw[hc] at g;simp at g
  |false=>?_
 ·rw[if_neg (by simp),if_pos g2];rfl
 ·have g3:(xy h).1=0:=by simpa using g3
  rw[if_neg (by simp),if_neg (by rw[g2];simp),if_pos g3];rfl
 ·have g3:¬ (xy h).1=0:=by simpa using g3
  rw[if_neg (by simp),if_neg (by rw[g2];simp),if_neg g3];rfl)
def DI (c:TSnCity) (day:Int) (S:SpecF) (_Fr:FreshF) (_Sq:SeqF) (Q:yc):Prop :=
 ∃n0 n1 n2 n3,S 146 [AV.agg [iN c.Lat,iN c.Lon,iN c.Zone,iN c.Altitude.Lo,iN c.Altitude.Hi,iN day,.bool true]] [] (.tup [iN n0,.agg [iN n1,iN n2],iN n3]) []/\Q (.tup [iN n0,.agg [iN n1,iN n2],iN n3]) []
theorem zbU (c:TSnCity) (day:Int) (v:AV) (O:List (List AV)) (h:DI c day Sp Fo So (fun r O'=>r=v/\O'=O)):Sp 127 [c.av,iN day] [] v O :=
 yb (w:=⟨[],[],[],[],[]⟩) (k:=0) (keep:=⟨[0,1,2,4,5,6],[],[],[]⟩) (boxes:=[]) mixed (by exact trivial) Tryz.func127 Tryz.call127 rfl rfl rfl (Nat.le_of_ble_eq_true rfl) (by kernel_rfl) h
theorem zaD (c:TSnCity) (day:Int):Sp 127 [c.av,.int .i64 day] [] (.tup [.int .i64 (y8 ⟨c,day,true⟩).1,(y8 ⟨c,day,true⟩).2.1.av,.int .i64 (y8 ⟨c,day,true⟩).2.2]) []:=zbU c day _ _ ⟨_,_,_,_,Fz ⟨c,day,true⟩,rfl,rfl⟩
def DJ (c:TSnCity) (day:Int) (S:SpecF) (_Fr:FreshF) (_Sq:SeqF) (Q:yc):Prop :=
 ∃n0 n1 n2 n3,S 146 [AV.agg [iN c.Lat,iN c.Lon,iN c.Zone,iN c.Altitude.Lo,iN c.Altitude.Hi,iN day,.bool false]] [] (.tup [iN n0,.agg [iN n1,iN n2],iN n3]) []/\Q (.tup [iN n0,.agg [iN n1,iN n2],iN n3]) []
theorem zbV (c:TSnCity) (day:Int) (v:AV) (O:List (List AV)) (h:DJ c day Sp Fo So (fun r O'=>r=v/\O'=O)):Sp 128 [c.av,iN day] [] v O :=
 yb (w:=⟨[],[],[],[],[]⟩) (k:=0) (keep:=⟨[0,1,2,4,5,6],[],[],[]⟩) (boxes:=[]) mixed (by exact trivial) Tryz.func128 Tryz.call128 rfl rfl rfl (Nat.le_of_ble_eq_true rfl) (by kernel_rfl) h
theorem zaE (c:TSnCity) (day:Int):Sp 128 [c.av,.int .i64 day] [] (.tup [.int .i64 (y8 ⟨c,day,false⟩).1,(y8 ⟨c,day,false⟩).2.1.av,.int .i64 (y8 ⟨c,day,false⟩).2.2]) []:=zbV c day _ _ ⟨_,_,_,_,Fz ⟨c,day,false⟩,rfl,rfl⟩
end Go.Proofs.YtkojpnkknehhmaaGreatDoor
