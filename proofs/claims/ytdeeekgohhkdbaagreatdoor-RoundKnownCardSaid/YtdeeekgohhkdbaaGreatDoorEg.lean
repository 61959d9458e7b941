/- Contracts: where the sun is. -/
import Derived.Test.YtdeeekgohhkdbaaGreatDoorEc
namespace Go.Proofs.YtdeeekgohhkdbaaGreatDoor
open Go.IntKind (wrap i64 u64)
open Go.RowKit
def qa (n lo hi:Int):Bool:=decide (n<lo) || decide (n>hi)
def FG (n lo hi:Int) (_S:SpecF) (_Fr:FreshF) (_Sq:SeqF) (Q:ym):Prop :=
 (decide (n<lo)=true->Q (.bool true) [])/\(decide (n<lo)=false->Q (.bool (decide (n>hi))) [])
theorem zb1 (n:Int) (lo:Int) (hi:Int) (v:AV) (O:List (List AV)) (h:FG n lo hi Sp Fo So (fun r O'=>r=v/\O'=O)):Sp 109 [iN n,iN lo,iN hi] [] v O :=
 yj (w:=⟨[],[],[],[],[]⟩) (k:=0) (keep:=⟨[0,1,2,6],[],[],[]⟩) (boxes:=[]) mixed (by exact trivial) Tryz.func109 Tryz.call109 rfl rfl rfl (Nat.le_of_ble_eq_true rfl) (by kernel_rfl) h
theorem M3 (n lo hi:Int):Sp 109 [.int .i64 n,.int .i64 lo,.int .i64 hi] [] (.bool (qa n lo hi)) []:=zb1 n lo hi _ _ (by
 unfold FG qa;refine⟨fun h=>⟨?_,by trivial⟩,fun h=>⟨?_,by trivial⟩⟩
 ·rw[h];rfl
 ·rw[h];rfl)
def Xk (c:TSnCity):Bool:=qa c.Lat (-88000000) 88000000 || (qa c.Lon (-180000000) 180000000 || (qa c.Zone (-50400) 50400 || (qa c.Altitude.Hi (-18000000) 0 || qa c.Altitude.Lo (-18000000) c.Altitude.Hi)))
def R60 (c:TSnCity) (S:SpecF) (_Fr:FreshF) (_Sq:SeqF) (Q:ym):Prop :=
 ∃b0,S 109 [iN c.Lat,iN (-88000000:Int),iN 88000000] [] (.bool b0) []/\(b0=true->Q (iN 7) [])/\(b0=false->∃b4,S 109 [iN c.Lon,iN (-180000000:Int),iN 180000000] [] (.bool b4) []/\(b4=true->Q (iN 7) [])/\(b4=false->∃b8,S 109 [iN c.Zone,iN (-50400:Int),iN 50400] [] (.bool b8) []/\(b8=true->Q (iN 7) [])/\(b8=false->∃b12,S 109 [iN c.Altitude.Hi,iN (-18000000:Int),iN 0] [] (.bool b12) []/\(b12=true->Q (iN 7) [])/\(b12=false->∃b16,S 109 [iN c.Altitude.Lo,iN (-18000000:Int),iN c.Altitude.Hi] [] (.bool b16) []/\(b16=true->Q (iN 7) [])/\(b16=false->Q (iN 0) [])))))
theorem s60 (c:TSnCity) (v:AV) (O:List (List AV)) (h:R60 c Sp Fo So (fun r O'=>r=v/\O'=O)):Sp 60 [c.av] [] v O :=
 yj (w:=⟨[],[],[],[],[]⟩) (k:=0) (keep:=⟨[0,1,2,3,30],[],[],[]⟩) (boxes:=[]) mixed (by exact trivial) Tryz.func60 Tryz.call60 rfl rfl rfl (Nat.le_of_ble_eq_true rfl) (by kernel_rfl) h
theorem c60 (c:TSnCity):Sp 60 [c.av] [] (.int .i64 (if Xk c then 7 else 0)) []:=s60 c _ _ (by
 unfold R60 Xk;refine⟨_,M3 ..,fun h=>⟨?_,by trivial⟩,fun h1=>⟨_,M3 ..,fun h=>⟨?_,by trivial⟩,fun h2=>⟨_,M3 ..,fun h=>⟨?_,by trivial⟩,fun h3=>⟨_,M3 ..,fun h=>⟨?_,by trivial⟩,fun h4=>⟨_,M3 ..,fun h=>⟨?_,by trivial⟩,fun h=>⟨?_,by trivial⟩⟩⟩⟩⟩⟩
 ·rw[h];rfl
 ·rw[h1,h];rfl
 ·rw[h1,h2,h];rfl
 ·rw[h1,h2,h3,h];rfl
 ·rw[h1,h2,h3,h4,h];rfl
 ·rw[h1,h2,h3,h4,h];rfl)
def P4 (a b:Int):Int:=if a.tmod b<0 then wrap i64 (wrap i64 (a.tdiv b)-1) else wrap i64 (a.tdiv b)
def FZ (a b:Int) (_S:SpecF) (_Fr:FreshF) (_Sq:SeqF) (Q:ym):Prop :=
 b≠0/\b≠0/\(decide (a.tmod b<0)=true->Q (iN (wrap i64 (wrap i64 (a.tdiv b)-1))) [])/\(decide (a.tmod b<0)=false->Q (iN (wrap i64 (a.tdiv b))) [])
theorem zcI (a:Int) (b:Int) (v:AV) (O:List (List AV)) (h:FZ a b Sp Fo So (fun r O'=>r=v/\O'=O)):Sp 181 [iN a,iN b] [] v O :=
 yj (w:=⟨[],[],[],[],[]⟩) (k:=0) (keep:=⟨[0,1,4,5,12],[],[],[]⟩) (boxes:=[]) mixed (by exact trivial) Tryz.func181 Tryz.call181 rfl rfl rfl (Nat.le_of_ble_eq_true rfl) (by kernel_rfl) h
theorem GI (a b:Int) (hb:b≠0):Sp 181 [.int .i64 a,.int .i64 b] [] (.int .i64 (P4 a b)) []:=zcI a b _ _ (by
 unfold FZ P4;refine⟨hb,hb,fun h=>⟨?_,by trivial⟩,fun h=>⟨?_,by trivial⟩⟩
 ·rw[if_pos (zt_ h)]
 ·rw[if_neg (zf_ h)])
def wi (x:TEncl) (n d:Int):TEncl:=⟨P4 (wrap i64 (n*x.Lo)) d,wrap i64 (0-P4 (wrap i64 (wrap i64 (0-n)*x.Hi)) d)⟩
def zaI (x:TEncl) (n d:Int) (S:SpecF) (_Fr:FreshF) (_Sq:SeqF) (Q:ym):Prop :=
 ∃n0,S 181 [iN (wrap i64 (n*x.Lo)),iN d] [] (iN n0) []/\∃n2,S 181 [iN (wrap i64 (wrap i64 ((0:Int)-n)*x.Hi)),iN d] [] (iN n2) []/\Q (.agg [iN n0,iN (wrap i64 ((0:Int)-n2))]) []
theorem zcv (x:TEncl) (n:Int) (d:Int) (v:AV) (O:List (List AV)) (h:zaI x n d Sp Fo So (fun r O'=>r=v/\O'=O)):Sp 159 [x.av,iN n,iN d] [] v O :=
 yj (w:=⟨[],[],[],[],[]⟩) (k:=0) (keep:=⟨[0,1,2,3,6],[],[],[]⟩) (boxes:=[]) mixed (by exact trivial) Tryz.func159 Tryz.call159 rfl rfl rfl (Nat.le_of_ble_eq_true rfl) (by kernel_rfl) h
theorem Q6 (x:TEncl) (n d:Int) (hd:d≠0):Sp 159 [x.av,.int .i64 n,.int .i64 d] [] (wi x n d).av []:=zcv x n d _ _ ⟨_,GI _ _ hd,_,GI _ _ hd,rfl,rfl⟩
def Yw (x:TEncl) (n:Int):TEncl:=⟨wrap i64 (x.Lo+n),wrap i64 (x.Hi+n)⟩
def zaH (x:TEncl) (n:Int) (_S:SpecF) (_Fr:FreshF) (_Sq:SeqF) (Q:ym):Prop :=
 Q (.agg [iN (wrap i64 (x.Lo+n)),iN (wrap i64 (x.Hi+n))]) []
theorem zcu (x:TEncl) (n:Int) (v:AV) (O:List (List AV)) (h:zaH x n Sp Fo So (fun r O'=>r=v/\O'=O)):Sp 158 [x.av,iN n] [] v O :=
 yj (w:=⟨[],[],[],[],[]⟩) (k:=0) (keep:=⟨[0,1,2,4],[],[],[]⟩) (boxes:=[]) mixed (by exact trivial) Tryz.func158 Tryz.call158 rfl rfl rfl (Nat.le_of_ble_eq_true rfl) (by kernel_rfl) h
theorem OP (x:TEncl) (n:Int):Sp 158 [x.av,.int .i64 n] [] (Yw x n).av []:=zcu x n _ _ ⟨rfl,rfl⟩
def N5 (x y:TEncl):TEncl:=⟨wrap i64 (x.Lo+y.Lo),wrap i64 (x.Hi+y.Hi)⟩
def Yn (l:List TEncl):TEncl:=l.foldl N5 ⟨0,0⟩
def FR (l:List TEncl) (_S:SpecF) (_Fr:FreshF) (_Sq:SeqF) (Q:ym):Prop :=
 ∃(I0:Nat->List AV->Prop),(∃m2,I0 m2 [iN 0,TEncl.zero.av])/\∀(m2:Nat) (n3 n4 n5:Int),I0 m2 [iN n3,.agg [iN n4,iN n5]]->(decide (n3<(↑(List.map TEncl.av l).length:Int))=true->∃n9 n10,((0:Int)<=n3/\(2:Nat)=(2:Nat)/\(List.map TEncl.av l)[n3.toNat]? = some (.agg [iN n9,iN n10]))/\∃k12,k12<m2/\I0 k12 [iN (wrap i64 (n3+1)),.agg [iN (wrap i64 (n4+n9)),iN (wrap i64 (n5+n10))]])/\(decide (n3<(↑(List.map TEncl.av l).length:Int))=false->Q (.agg [iN n4,iN n5]) [])
theorem zcn (l:List TEncl) (v:AV) (O:List (List AV)) (h:FR l Sp Fo So (fun r O'=>r=v/\O'=O)):Sp 151 [.slc 3 (List.map TEncl.av l)] [] v O :=
 yj (w:=⟨[],[],[],[],[]⟩) (k:=0) (keep:=⟨[0,2,4,5,6,7,8],[⟨2,[(7,iN 0)],[],[(2,.agg [iN 0,iN 0])],[],[],[]⟩],[],[]⟩) (boxes:=[]) mixed (by exact trivial) Tryz.func151 Tryz.call151 rfl rfl rfl (Nat.le_of_ble_eq_true rfl) (by kernel_rfl) h
theorem Q4 (l:List TEncl) (hl:l.length<=1000000):Sp 151 [.slc 3 (l.map TEncl.av)] [] (Yn l).av []:=zcn l _ _ (by
 unfold FR Yn;refine⟨fun m vs=>∃k:Nat,k<=l.length/\m=l.length-k/\vs=[.int .i64 k,((l.take k).foldl N5 ⟨0,0⟩).av],⟨_,0,by omega,rfl,rfl⟩,?_⟩;rintro m n3 n4 n5 ⟨k,hk,rfl,hv⟩;generalize he:(l.take k).foldl N5 ⟨0,0⟩=e at hv;have hv':=hv;unfold TEncl.av TEncl.cs at hv';simp only[List.cons.injEq,AV.int.injEq,true_and,AV.agg.injEq,and_true] at hv';obtain ⟨rfl,rfl,rfl⟩:=hv';simp only[List.length_map];refine⟨fun g=>?_,fun g=>?_⟩
 ·have hlt:k<l.length:=by simpa using g
  obtain ⟨y,hy,hy'⟩:=yH (f:=TEncl.av) hlt;refine⟨y.Lo,y.Hi,⟨by omega,by trivial,hy'⟩,_,(by omega:l.length-(k+1)<l.length-k),k+1,by omega,rfl,?_⟩;rw[yx (by omega),X1 N5 _ hy,he];rfl
 ·obtain rfl:k=l.length:=by simp at g;omega
  rw[List.take_length] at he;subst he;exact⟨rfl,by trivial⟩)
def zaF (x:TEncl) (_S:SpecF) (_Fr:FreshF) (_Sq:SeqF) (Q:ym):Prop :=
 Q (.agg [iN (wrap i64 ((0:Int)-x.Hi)),iN (wrap i64 ((0:Int)-x.Lo))]) []
theorem zcp (x:TEncl) (v:AV) (O:List (List AV)) (h:zaF x Sp Fo So (fun r O'=>r=v/\O'=O)):Sp 153 [x.av] [] v O :=
 yj (w:=⟨[],[],[],[],[]⟩) (k:=0) (keep:=⟨[0,1,2],[],[],[]⟩) (boxes:=[]) mixed (by exact trivial) Tryz.func153 Tryz.call153 rfl rfl rfl (Nat.le_of_ble_eq_true rfl) (by kernel_rfl) h
theorem Q5 (e:TEncl):Sp 153 [e.av] [] (xF e).av []:=zcp e _ _ ⟨rfl,rfl⟩
def MP (x:TEncl):TEncl:=Yw x (wrap i64 (-360000000*P4 x.Lo 360000000))
def zaK (x:TEncl) (S:SpecF) (_Fr:FreshF) (_Sq:SeqF) (Q:ym):Prop :=
 ∃n0,S 181 [iN x.Lo,iN 360000000] [] (iN n0) []/\∃n2 n3,S 158 [x.av,iN (wrap i64 ((-360000000:Int)*n0))] [] (.agg [iN n2,iN n3]) []/\Q (.agg [iN n2,iN n3]) []
theorem zcx (x:TEncl) (v:AV) (O:List (List AV)) (h:zaK x Sp Fo So (fun r O'=>r=v/\O'=O)):Sp 168 [x.av] [] v O :=
 yj (w:=⟨[],[],[],[],[]⟩) (k:=0) (keep:=⟨[0,1,2],[],[],[]⟩) (boxes:=[]) mixed (by exact trivial) Tryz.func168 Tryz.call168 rfl rfl rfl (Nat.le_of_ble_eq_true rfl) (by kernel_rfl) h
theorem GH (x:TEncl):Sp 168 [x.av] [] (MP x).av []:=zcx x _ _ ⟨_,GI _ _ (by omega),_,_,OP _ _,rfl,rfl⟩
def zaD (n:Int) (_S:SpecF) (_Fr:FreshF) (_Sq:SeqF) (Q:ym):Prop :=
 Q (.agg [iN n,iN n]) []
theorem zck (n:Int) (v:AV) (O:List (List AV)) (h:zaD n Sp Fo So (fun r O'=>r=v/\O'=O)):Sp 148 [iN n] [] v O :=
 yj (w:=⟨[],[],[],[],[]⟩) (k:=0) (keep:=⟨[0,2],[],[],[]⟩) (boxes:=[]) mixed (by exact trivial) Tryz.func148 Tryz.call148 rfl rfl rfl (Nat.le_of_ble_eq_true rfl) (by kernel_rfl) h
theorem IF (n:Int):Sp 148 [.int .i64 n] [] (TEncl.mk n n).av []:=zck n _ _ ⟨rfl,rfl⟩
def uc:TEncl:=⟨-10000,10000⟩
def zaL (_S:SpecF) (_Fr:FreshF) (_Sq:SeqF) (Q:ym):Prop :=
 Q (.agg [iN (-10000:Int),iN 10000]) []
theorem zcy  (v:AV) (O:List (List AV)) (h:zaL  Sp Fo So (fun r O'=>r=v/\O'=O)):Sp 169 [] [] v O :=
 yj (w:=⟨[],[],[],[],[]⟩) (k:=0) (keep:=⟨[0],[],[],[]⟩) (boxes:=[]) mixed (by exact trivial) Tryz.func169 Tryz.call169 rfl rfl rfl (Nat.le_of_ble_eq_true rfl) (by kernel_rfl) h
theorem Dx:Sp 169 [] [] uc.av []:=zcy _ _ ⟨rfl,rfl⟩
def zaE (x:TEncl) (S:SpecF) (_Fr:FreshF) (_Sq:SeqF) (Q:ym):Prop :=
 ∃n0 n1 n2,S 171 [x.av] [] (.tup [AV.agg [iN n0,iN n1],iN n2]) []/\Q (.agg [iN n0,iN n1]) []
theorem zco (x:TEncl) (v:AV) (O:List (List AV)) (h:zaE x Sp Fo So (fun r O'=>r=v/\O'=O)):Sp 152 [x.av] [] v O :=
 yj (w:=⟨[],[],[],[],[]⟩) (k:=0) (keep:=⟨[0,1,2,3],[],[],[]⟩) (boxes:=[]) mixed (by exact trivial) Tryz.func152 Tryz.call152 rfl rfl rfl (Nat.le_of_ble_eq_true rfl) (by kernel_rfl) h
theorem KH (x:TEncl):Sp 152 [x.av] [] (jU x 0).1.av []:=zco x _ _ ⟨_,_,_,zbs x,rfl,rfl⟩
def zaG (x:TEncl) (S:SpecF) (_Fr:FreshF) (_Sq:SeqF) (Q:ym):Prop :=
 ∃n0 n1 n2,S 176 [x.av] [] (.tup [AV.agg [iN n0,iN n1],iN n2]) []/\Q (.agg [iN n0,iN n1]) []
theorem zcs (x:TEncl) (v:AV) (O:List (List AV)) (h:zaG x Sp Fo So (fun r O'=>r=v/\O'=O)):Sp 156 [x.av] [] v O :=
 yj (w:=⟨[],[],[],[],[]⟩) (k:=0) (keep:=⟨[0,1,2,3],[],[],[]⟩) (boxes:=[]) mixed (by exact trivial) Tryz.func156 Tryz.call156 rfl rfl rfl (Nat.le_of_ble_eq_true rfl) (by kernel_rfl) h
theorem Dv (x:TEncl):Sp 156 [x.av] [] (jU x 90000000).1.av []:=zcs x _ _ ⟨_,_,_,zbv x,rfl,rfl⟩
def Yz (x:TEncl) (l:List TEncl):TEncl:=l.foldl (fun x y=>(Y1 x y).1) x
def FT (x:TEncl) (l:List TEncl) (S:SpecF) (_Fr:FreshF) (_Sq:SeqF) (Q:ym):Prop :=
 ∃(I0:Nat->List AV->Prop),(∃m2,I0 m2 [iN 0,x.av])/\∀(m2:Nat) (n3 n4 n5:Int),I0 m2 [iN n3,.agg [iN n4,iN n5]]->(decide (n3<(↑(List.map TEncl.av l).length:Int))=true->∃n9 n10,((0:Int)<=n3/\(2:Nat)=(2:Nat)/\(List.map TEncl.av l)[n3.toNat]? = some (.agg [iN n9,iN n10]))/\∃n12 n13 n14,S 172 [AV.agg [iN n4,iN n5],.agg [iN n9,iN n10]] [] (.tup [AV.agg [iN n12,iN n13],iN n14]) []/\TEncl.z0=TEncl.z0/\∃k17,k17<m2/\I0 k17 [iN (wrap i64 (n3+1)),.agg [iN n12,iN n13]])/\(decide (n3<(↑(List.map TEncl.av l).length:Int))=false->Q (.agg [iN n4,iN n5]) [])
theorem zcq (x:TEncl) (l:List TEncl) (v:AV) (O:List (List AV)) (h:FT x l Sp Fo So (fun r O'=>r=v/\O'=O)):Sp 154 [x.av,.slc 3 (List.map TEncl.av l)] [] v O :=
 yj (w:=⟨[],[],[],[],[]⟩) (k:=0) (keep:=⟨[0,1,2,4,6,7,8,9,10],[⟨2,[(9,iN 0)],[],[(2,.agg [iN 0,iN 0])],[],[],[]⟩],[],[]⟩) (boxes:=[]) mixed (by exact trivial) Tryz.func154 Tryz.call154 rfl rfl rfl (Nat.le_of_ble_eq_true rfl) (by kernel_rfl) h
theorem GG (x:TEncl) (l:List TEncl) (hl:l.length<=1000000):Sp 154 [x.av,.slc 3 (l.map TEncl.av)] [] (Yz x l).av []:=zcq x l _ _ (by
 unfold FT Yz;refine⟨fun m vs=>∃k:Nat,k<=l.length/\m=l.length-k/\vs=[.int .i64 k,((l.take k).foldl (fun x y=>(Y1 x y).1) x).av],⟨_,0,by omega,rfl,rfl⟩,?_⟩;rintro m n3 n4 n5 ⟨k,hk,rfl,hv⟩;generalize he:(l.take k).foldl (fun x y=>(Y1 x y).1) x=e at hv;have hv':=hv;unfold TEncl.av TEncl.cs at hv';simp only[List.cons.injEq,AV.int.injEq,true_and,AV.agg.injEq,and_true] at hv';obtain ⟨rfl,rfl,rfl⟩:=hv';simp only[List.length_map];refine⟨fun g=>?_,fun g=>?_⟩
 ·have hlt:k<l.length:=by simpa using g
  obtain ⟨y,hy,hy'⟩:=yH (f:=TEncl.av) hlt;refine⟨y.Lo,y.Hi,⟨by omega,by trivial,hy'⟩,_,_,_,zbt e y,by trivial,_,(by omega:l.length-(k+1)<l.length-k),k+1,by omega,rfl,?_⟩;rw[yx (by omega),X1 (fun x y=>(Y1 x y).1) _ hy,he];rfl
 ·obtain rfl:k=l.length:=by simp at g;omega
  rw[List.take_length] at he;subst he;exact⟨rfl,by trivial⟩)
def vF (size times:Int) (x:TEncl):TEncl:=wi (jU (wi x times 1) 0).1 size 100000000
def zaJ (size times:Int) (x:TEncl) (S:SpecF) (_Fr:FreshF) (_Sq:SeqF) (Q:ym):Prop :=
 ∃n0 n1,S 159 [x.av,iN times,iN 1] [] (.agg [iN n0,iN n1]) []/\∃n3 n4,S 152 [AV.agg [iN n0,iN n1]] [] (.agg [iN n3,iN n4]) []/\∃n6 n7,S 159 [AV.agg [iN n3,iN n4],iN size,iN 100000000] [] (.agg [iN n6,iN n7]) []/\Q (.agg [iN n6,iN n7]) []
theorem zcw (size:Int) (times:Int) (x:TEncl) (v:AV) (O:List (List AV)) (h:zaJ size times x Sp Fo So (fun r O'=>r=v/\O'=O)):Sp 167 [iN size,iN times,x.av] [] v O :=
 yj (w:=⟨[],[],[],[],[]⟩) (k:=0) (keep:=⟨[0,1,2,5,6],[],[],[]⟩) (boxes:=[]) mixed (by exact trivial) Tryz.func167 Tryz.call167 rfl rfl rfl (Nat.le_of_ble_eq_true rfl) (by kernel_rfl) h
theorem IG (size times:Int) (x:TEncl):Sp 167 [.int .i64 size,.int .i64 times,x.av] [] (vF size times x).av []:=zcw size times x _ _ ⟨_,_,Q6 x times 1 (by omega),_,_,KH _,_,_,Q6 _ size 100000000 (by omega),rfl,rfl⟩
def LF (w:TEncl):TEncl:=MP (Yw (wi w 98564736 8640000) 280459000)
def Y6 (w:TEncl):TEncl:=MP (Yw (wi w 98560028 8640000) 357528000)
def Yr (w:TEncl):TEncl:=Yn [vF 1915000 1 (Y6 w),vF 20000 2 (Y6 w)]
def XX (w:TEncl):TEncl:=MP (Yn [LF w,Yr w,uc])
def Om (w:TEncl):TEncl:=Yw (xF (wi w 36 8640000)) 23439000
def Ml (w:TEncl):TEncl:=Yz (jU (Om w) 0).1 [(jU (XX w) 0).1]
def ub (w:TEncl):TSky:=⟨Ml w,(jU (WN (Ml w)).1 90000000).1,Yn [vF 2466000 2 (XX w),xF (Yr w),xF (vF 53000 4 (XX w)),uc]⟩
def FQ (w:TEncl) (S:SpecF) (_Fr:FreshF) (_Sq:SeqF) (Q:ym):Prop :=
 ∃n0 n1,S 159 [w.av,iN 98560028,iN 8640000] [] (.agg [iN n0,iN n1]) []/\∃n3 n4,S 158 [AV.agg [iN n0,iN n1],iN 357528000] [] (.agg [iN n3,iN n4]) []/\∃n6 n7,S 168 [AV.agg [iN n3,iN n4]] [] (.agg [iN n6,iN n7]) []/\∃n9 n10,S 159 [w.av,iN 98564736,iN 8640000] [] (.agg [iN n9,iN n10]) []/\∃n12 n13,S 158 [AV.agg [iN n9,iN n10],iN 280459000] [] (.agg [iN n12,iN n13]) []/\∃n15 n16,S 168 [AV.agg [iN n12,iN n13]] [] (.agg [iN n15,iN n16]) []/\∃n18 n19,S 167 [iN 1915000,iN 1,.agg [iN n6,iN n7]] [] (.agg [iN n18,iN n19]) []/\∃n21 n22,S 167 [iN 20000,iN 2,.agg [iN n6,iN n7]] [] (.agg [iN n21,iN n22]) []/\∃n24 n25,S 151 [AV.slc 3 [AV.agg [iN n18,iN n19],.agg [iN n21,iN n22]]] [] (.agg [iN n24,iN n25]) []/\∃n27 n28,S 169 [] [] (.agg [iN n27,iN n28]) []/\∃n30 n31,S 151 [AV.slc 3 [AV.agg [iN n15,iN n16],.agg [iN n24,iN n25],.agg [iN n27,iN n28]]] [] (.agg [iN n30,iN n31]) []/\∃n33 n34,S 168 [AV.agg [iN n30,iN n31]] [] (.agg [iN n33,iN n34]) []/\∃n36 n37,S 159 [w.av,iN 36,iN 8640000] [] (.agg [iN n36,iN n37]) []/\∃n39 n40,S 153 [AV.agg [iN n36,iN n37]] [] (.agg [iN n39,iN n40]) []/\∃n42 n43,S 158 [AV.agg [iN n39,iN n40],iN 23439000] [] (.agg [iN n42,iN n43]) []/\∃n45 n46,S 152 [AV.agg [iN n42,iN n43]] [] (.agg [iN n45,iN n46]) []/\∃n48 n49,S 152 [AV.agg [iN n33,iN n34]] [] (.agg [iN n48,iN n49]) []/\∃n51 n52,S 154 [AV.agg [iN n45,iN n46],.slc 3 [AV.agg [iN n48,iN n49]]] [] (.agg [iN n51,iN n52]) []/\∃n54 n55 n56,S 170 [AV.agg [iN n51,iN n52]] [] (.tup [AV.agg [iN n54,iN n55],iN n56]) []/\∃n58 n59,S 156 [AV.agg [iN n54,iN n55]] [] (.agg [iN n58,iN n59]) []/\∃n61 n62,S 167 [iN 2466000,iN 2,.agg [iN n33,iN n34]] [] (.agg [iN n61,iN n62]) []/\∃n64 n65,S 153 [AV.agg [iN n24,iN n25]] [] (.agg [iN n64,iN n65]) []/\∃n67 n68,S 167 [iN 53000,iN 4,.agg [iN n33,iN n34]] [] (.agg [iN n67,iN n68]) []/\∃n70 n71,S 153 [AV.agg [iN n67,iN n68]] [] (.agg [iN n70,iN n71]) []/\∃n73 n74,S 169 [] [] (.agg [iN n73,iN n74]) []/\∃n76 n77,S 151 [AV.slc 3 [AV.agg [iN n61,iN n62],.agg [iN n64,iN n65],.agg [iN n70,iN n71],.agg [iN n73,iN n74]]] [] (.agg [iN n76,iN n77]) []/\Q (.agg [iN n51,iN n52,iN n58,iN n59,iN n76,iN n77]) []
theorem zcm (w:TEncl) (v:AV) (O:List (List AV)) (h:FQ w Sp Fo So (fun r O'=>r=v/\O'=O)):Sp 150 [w.av] [] v O :=
 yj (w:=⟨[],[],[],[],[]⟩) (k:=0) (keep:=⟨[0,1,2,3,4,5,6,7,8,9,10],[],[],[]⟩) (boxes:=[]) mixed (by exact trivial) Tryz.func150 Tryz.call150 rfl rfl rfl (Nat.le_of_ble_eq_true rfl) (by kernel_rfl) h
theorem zbp (w:TEncl):Sp 150 [w.av] [] (ub w).av []:=zcm w _ _ (by
 unfold FQ;have ha:Sp 168 [(Yw (wi w 98560028 8640000) 357528000).av] [] (Y6 w).av []:=GH _;have hl:Sp 168 [(Yw (wi w 98564736 8640000) 280459000).av] [] (LF w).av []:=GH _;have hc:Sp 151 [.slc 3 [(vF 1915000 1 (Y6 w)).av,(vF 20000 2 (Y6 w)).av]] [] (Yr w).av []:=Q4 [vF 1915000 1 (Y6 w),vF 20000 2 (Y6 w)] (by simp);have he:Sp 151 [.slc 3 [(LF w).av,(Yr w).av,uc.av]] [] (Yn [LF w,Yr w,uc]).av []:=Q4 [LF w,Yr w,uc] (by simp);have he2:Sp 168 [(Yn [LF w,Yr w,uc]).av] [] (XX w).av []:=GH _;have ht:Sp 158 [(xF (wi w 36 8640000)).av,.int .i64 23439000] [] (Om w).av []:=OP _ _;have hd:Sp 154 [(jU (Om w) 0).1.av,.slc 3 [(jU (XX w) 0).1.av]] [] (Ml w).av []:=GG (jU (Om w) 0).1 [(jU (XX w) 0).1] (by simp);have hq:Sp 151 [.slc 3 [(vF 2466000 2 (XX w)).av,(xF (Yr w)).av,(xF (vF 53000 4 (XX w))).av,uc.av]] [] (ub w).equation.av []:=Q4 [vF 2466000 2 (XX w),xF (Yr w),xF (vF 53000 4 (XX w)),uc] (by simp);refine⟨_,_,Q6 w 98560028 8640000 (by omega),_,_,OP _ _,_,_,ha,_,_,Q6 w 98564736 8640000 (by omega),_,_,OP _ _,_,_,hl,_,_,IG 1915000 1 (Y6 w),_,_,IG 20000 2 (Y6 w),_,_,hc,_,_,Dx,_,_,he,_,_,he2,?_⟩;refine⟨_,_,Q6 w 36 8640000 (by omega),_,_,Q5 _,_,_,ht,_,_,KH (Om w),_,_,KH (XX w),_,_,hd,_,_,_,zbr (Ml w),?_⟩;exact⟨_,_,Dv _,_,_,IG 2466000 2 (XX w),_,_,Q5 (Yr w),_,_,IG 53000 4 (XX w),_,_,Q5 _,_,_,Dx,_,_,hq,rfl,rfl⟩)
def ui (h:THalf):TEncl:=Yw (xF (wi ⟨h.c.Lon,h.c.Lon⟩ 3 12500)) (wrap i64 (86400*h.day))
def W3 (h:THalf):TEncl:=if h.rise then Yn [ui h,⟨-44400,1200⟩] else Yn [ui h,⟨-1200,44400⟩]
def FO (h0:THalf) (S:SpecF) (_Fr:FreshF) (_Sq:SeqF) (Q:ym):Prop :=
 ∃n0 n1,S 148 [iN h0.c.Lon] [] (.agg [iN n0,iN n1]) []/\∃n3 n4,S 159 [AV.agg [iN n0,iN n1],iN 3,iN 12500] [] (.agg [iN n3,iN n4]) []/\∃n6 n7,S 153 [AV.agg [iN n3,iN n4]] [] (.agg [iN n6,iN n7]) []/\∃n9 n10,S 158 [AV.agg [iN n6,iN n7],iN (wrap i64 ((86400:Int)*h0.day))] [] (.agg [iN n9,iN n10]) []/\(h0.rise=true->∃n14 n15,S 151 [AV.slc 3 [AV.agg [iN n9,iN n10],.agg [iN (-44400:Int),iN 1200]]] [] (.agg [iN n14,iN n15]) []/\Q (.agg [iN n14,iN n15]) [])/\(h0.rise=false->∃n14 n15,S 151 [AV.slc 3 [AV.agg [iN n9,iN n10],.agg [iN (-1200:Int),iN 44400]]] [] (.agg [iN n14,iN n15]) []/\Q (.agg [iN n14,iN n15]) [])
theorem zcj (h0:THalf) (v:AV) (O:List (List AV)) (h:FO h0 Sp Fo So (fun r O'=>r=v/\O'=O)):Sp 147 [h0.av] [] v O :=
 yj (w:=⟨[],[],[],[],[]⟩) (k:=0) (keep:=⟨[0,1,2,3,15],[],[],[]⟩) (boxes:=[]) mixed (by exact trivial) Tryz.func147 Tryz.call147 rfl rfl rfl (Nat.le_of_ble_eq_true rfl) (by kernel_rfl) h
theorem zbn (h:THalf):Sp 147 [h.av] [] (W3 h).av []:=zcj h _ _ (by
 unfold FO W3;have hn:Sp 158 [(xF (wi ⟨h.c.Lon,h.c.Lon⟩ 3 12500)).av,.int .i64 (wrap i64 (86400*h.day))] [] (ui h).av []:=OP _ _;have hs1:Sp 151 [.slc 3 [(ui h).av,.agg [.int .i64 (-44400),.int .i64 1200]]] [] (Yn [ui h,⟨-44400,1200⟩]).av []:=Q4 [ui h,⟨-44400,1200⟩] (by simp);have hs2:Sp 151 [.slc 3 [(ui h).av,.agg [.int .i64 (-1200),.int .i64 44400]]] [] (Yn [ui h,⟨-1200,44400⟩]).av []:=Q4 [ui h,⟨-1200,44400⟩] (by simp);generalize Yn [ui h,⟨-44400,1200⟩]=r1 at *;generalize Yn [ui h,⟨-1200,44400⟩]=r2 at *;generalize ui h=no at *;refine⟨_,_,IF h.c.Lon,_,_,Q6 ⟨h.c.Lon,h.c.Lon⟩ 3 12500 (by omega),_,_,Q5 _,_,_,hn,fun g=>⟨_,_,hs1,?_,by trivial⟩,fun g=>⟨_,_,hs2,?_,by trivial⟩⟩
 ·rw[if_pos g];rfl
 ·rw[if_neg (by rw[g];simp)];rfl)
def Fv (w:TEncl) (h:THalf) (lat:TEncl):TEncl:=Yn [(jU h.c.Altitude 0).1,xF (Yz (jU lat 0).1 [(ub w).sin])]
def we (w:TEncl) (h:THalf) (lat:TEncl):TEncl:=(SK (Fv w h lat) (Yz (jU lat 90000000).1 [(ub w).cos])).1
def Sf (w:TEncl) (h:THalf) (lat:TEncl):TEncl:=if h.rise then xF (jf (we w h lat)).1 else (jf (we w h lat)).1
def Gp (w:TEncl) (h:THalf) (lat:TEncl):TEncl:=Yw (wi (Yn [Sf w h lat,⟨wrap i64 (0-h.c.Lon),wrap i64 (0-h.c.Lon)⟩,xF (ub w).equation]) 3 12500) (wrap i64 (86400*h.day))
def ke (w:TEncl) (h:THalf) (lat:TEncl):Int × TEncl :=
 if (we w h lat).Lo>100000000 then (1,w) else if (we w h lat).Hi < -100000000 then (2,w) else if (we w h lat).Lo < -100000000 then (3,w) else if (we w h lat).Hi>100000000 then (3,w) else (0,Gp w h lat)
abbrev Oy (v1:THalf) (v2:TEncl) (S:SpecF) (Q:ym) (p0_ p1_ p2_ p3_:Int):Prop :=
 ∃n49 n50,S 148 [iN (wrap i64 ((0:Int)-v1.c.Lon))] [] (.agg [iN n49,iN n50]) []/\∃n52 n53,S 153 [AV.agg [iN p0_,iN p1_]] [] (.agg [iN n52,iN n53]) []/\∃n55 n56,S 151 [AV.slc 3 [AV.agg [iN p2_,iN p3_],.agg [iN n49,iN n50],.agg [iN n52,iN n53]]] [] (.agg [iN n55,iN n56]) []/\∃n58 n59,S 159 [AV.agg [iN n55,iN n56],iN 3,iN 12500] [] (.agg [iN n58,iN n59]) []/\∃n61 n62,S 158 [AV.agg [iN n58,iN n59],iN (wrap i64 ((86400:Int)*v1.day))] [] (.agg [iN n61,iN n62]) []/\Q (iN 0) [[iN n61,iN n62],v1.cs,v2.cs]
def FP (v0:TEncl) (v1:THalf) (v2:TEncl) (S:SpecF) (_Fr:FreshF) (_Sq:SeqF) (Q:ym):Prop :=
 ∃n0 n1 n2 n3 n4 n5,S 150 [v0.av] [] (.agg [iN n0,iN n1,iN n2,iN n3,iN n4,iN n5]) []/\∃n7 n8,S 152 [v1.c.Altitude.av] [] (.agg [iN n7,iN n8]) []/\∃n10 n11,S 152 [v2.av] [] (.agg [iN n10,iN n11]) []/\∃n13 n14,S 154 [AV.agg [iN n10,iN n11],.slc 3 [AV.agg [iN n0,iN n1]]] [] (.agg [iN n13,iN n14]) []/\∃n16 n17,S 153 [AV.agg [iN n13,iN n14]] [] (.agg [iN n16,iN n17]) []/\∃n19 n20,S 151 [AV.slc 3 [AV.agg [iN n7,iN n8],.agg [iN n16,iN n17]]] [] (.agg [iN n19,iN n20]) []/\∃n22 n23,S 156 [v2.av] [] (.agg [iN n22,iN n23]) []/\∃n25 n26,S 154 [AV.agg [iN n22,iN n23],.slc 3 [AV.agg [iN n2,iN n3]]] [] (.agg [iN n25,iN n26]) []/\∃n28 n29 n30,S 155 [AV.agg [iN n19,iN n20],.agg [iN n25,iN n26]] [] (.tup [AV.agg [iN n28,iN n29],iN n30]) []/\(decide (n28>100000000)=true->Q (iN 1) [v0.cs,v1.cs,v2.cs])/\(decide (n28>100000000)=false->(decide (n29<(-100000000:Int))=true->Q (iN 2) [v0.cs,v1.cs,v2.cs])/\(decide (n29<(-100000000:Int))=false->(decide (n28<(-100000000:Int))=true->Q (iN 3) [v0.cs,v1.cs,v2.cs])/\(decide (n28<(-100000000:Int))=false->(decide (n29>100000000)=true->Q (iN 3) [v0.cs,v1.cs,v2.cs])/\(decide (n29>100000000)=false->∃n40 n41 n42,S 157 [AV.agg [iN n28,iN n29]] [] (.tup [AV.agg [iN n40,iN n41],iN n42]) []/\(v1.rise=true->∃n46 n47,S 153 [AV.agg [iN n40,iN n41]] [] (.agg [iN n46,iN n47]) []/\Oy v1 v2 S Q n4 n5 n46 n47)/\(v1.rise=false->Oy v1 v2 S Q n4 n5 n40 n41)))))
theorem zcl (v0:TEncl) (v1:THalf) (v2:TEncl) (v:AV) (O:List (List AV)) (h:FP v0 v1 v2 Sp Fo So (fun r O'=>r=v/\O'=O)):Sp 149 [.ref 0 0,.ref 1 0,.ref 2 0] [v0.cs,v1.cs,v2.cs] v O :=
 yj (w:=⟨[],[],[],[],[]⟩) (k:=0) (keep:=⟨[0,1,2,3,4,5,6,8,36,40,44,59],[],[],[]⟩) (boxes:=[⟨23,false,v0.cs⟩,⟨186,false,v1.cs⟩,⟨23,false,v2.cs⟩]) mixed (by exact trivial) Tryz.func149 Tryz.call149 rfl rfl rfl (Nat.le_of_ble_eq_true rfl) (by kernel_rfl) h
theorem zbo (w:TEncl) (h:THalf) (lat:TEncl):Sp 149 [.ref 0 0,.ref 1 0,.ref 2 0] [w.cs,h.cs,lat.cs] (.int .i64 (ke w h lat).1) [(ke w h lat).2.cs,h.cs,lat.cs]:=zcl w h lat _ _ (by
 unfold FP Oy;have h1:Sp 154 [(jU lat 0).1.av,.slc 3 [(ub w).sin.av]] [] (Yz (jU lat 0).1 [(ub w).sin]).av []:=GG (jU lat 0).1 [(ub w).sin] (by simp);have h2:Sp 151 [.slc 3 [(jU h.c.Altitude 0).1.av,(xF (Yz (jU lat 0).1 [(ub w).sin])).av]] [] (Fv w h lat).av []:=Q4 [(jU h.c.Altitude 0).1,xF (Yz (jU lat 0).1 [(ub w).sin])] (by simp);have h3:Sp 154 [(jU lat 90000000).1.av,.slc 3 [(ub w).cos.av]] [] (Yz (jU lat 90000000).1 [(ub w).cos]).av []:=GG (jU lat 90000000).1 [(ub w).cos] (by simp);have h4:∃e,Sp 155 [(Fv w h lat).av,(Yz (jU lat 90000000).1 [(ub w).cos]).av] [] (.tup [(we w h lat).av,.int .i64 e]) []:=⟨_,zbq _ _⟩;obtain ⟨e4,h4⟩:=h4;have h5:∃e,Sp 157 [(we w h lat).av] [] (.tup [(jf (we w h lat)).1.av,.int .i64 e]) []:=⟨_,Dw _⟩;obtain ⟨e5,h5⟩:=h5;have h6:Sp 158 [(wi (Yn [Sf w h lat,⟨wrap i64 (0-h.c.Lon),wrap i64 (0-h.c.Lon)⟩,xF (ub w).equation]) 3 12500).av,.int .i64 (wrap i64 (86400*h.day))] [] (Gp w h lat).av []:=OP _ _;unfold ke;refine⟨_,_,_,_,_,_,zbp w,_,_,KH h.c.Altitude,_,_,KH lat,_,_,h1,_,_,Q5 _,_,_,h2,_,_,Dv lat,_,_,h3,_,_,_,h4,fun g=>?_,fun g1=>⟨fun g=>?_,fun g2=>⟨fun g=>?_,fun g3=>⟨fun g=>?_,fun g4=>⟨_,_,_,h5,fun g=>?_,fun g=>?_⟩⟩⟩⟩⟩
 ·rw[if_pos (zt_ g)];exact⟨rfl,by trivial⟩
 ·rw[if_neg (zf_ g1),if_pos (zt_ g)];exact⟨rfl,by trivial⟩
 ·rw[if_neg (zf_ g1),if_neg (zf_ g2),if_pos (zt_ g)];exact⟨rfl,by trivial⟩
 ·rw[if_neg (zf_ g1),if_neg (zf_ g2),if_neg (zf_ g3),if_pos (zt_ g)];exact⟨rfl,by trivial⟩
 ·rw[if_neg (zf_ g1),if_neg (zf_ g2),if_neg (zf_ g3),if_neg (zf_ g4)];have hh:Sf w h lat=xF (jf (we w h lat)).1:=by unfold Sf;rw[if_pos g]
  rw[hh] at h6;exact⟨_,_,Q5 _,_,_,IF _,_,_,Q5 (ub w).equation,_,_,Q4 [xF (jf (we w h lat)).1,⟨wrap i64 (0-h.c.Lon),wrap i64 (0-h.c.Lon)⟩,xF (ub w).equation] (by simp),_,_,Q6 _ 3 12500 (by omega),_,_,h6,rfl,by trivial⟩
 ·rw[if_neg (zf_ g1),if_neg (zf_ g2),if_neg (zf_ g3),if_neg (zf_ g4)];have hh:Sf w h lat=(jf (we w h lat)).1:=by unfold Sf;rw[if_neg (by rw[g];simp)]
  rw[hh] at h6;exact⟨_,_,IF _,_,_,Q5 (ub w).equation,_,_,Q4 [(jf (we w h lat)).1,⟨wrap i64 (0-h.c.Lon),wrap i64 (0-h.c.Lon)⟩,xF (ub w).equation] (by simp),_,_,Q6 _ 3 12500 (by omega),_,_,h6,rfl,by trivial⟩)
def SL (h:THalf):Nat->Int->TEncl->Int × TEncl
 |0,kd,w=>(kd,w)
 |k+1,_,w=>if (ke w h ⟨h.c.Lat,h.c.Lat⟩).1≠0 then ((ke w h ⟨h.c.Lat,h.c.Lat⟩).1,⟨0,0⟩) else SL h k (ke w h ⟨h.c.Lat,h.c.Lat⟩).1 (ke w h ⟨h.c.Lat,h.c.Lat⟩).2
theorem Hz (h:THalf) (kd:Int) (w:TEncl):SL h 0 kd w=(kd,w):=rfl
theorem HA (h:THalf) (k:Nat) (kd:Int) (w:TEncl):SL h (k+1) kd w=if (ke w h ⟨h.c.Lat,h.c.Lat⟩).1≠0 then ((ke w h ⟨h.c.Lat,h.c.Lat⟩).1,⟨0,0⟩) else SL h k (ke w h ⟨h.c.Lat,h.c.Lat⟩).1 (ke w h ⟨h.c.Lat,h.c.Lat⟩).2:=rfl
def Yy (h:THalf):Int × TEncl:=SL h 3 0 (W3 h)
def FM (h0:THalf) (S:SpecF) (_Fr:FreshF) (_Sq:SeqF) (Q:ym):Prop :=
 ∃n0 n1,S 147 [h0.av] [] (.agg [iN n0,iN n1]) []/\∃n3 n4,S 148 [iN h0.c.Lat] [] (.agg [iN n3,iN n4]) []/\∃(I6:Nat->List AV->Prop),(∃m8,I6 m8 [iN 0,iN 0,h0.av,.agg [iN n0,iN n1],.agg [iN n3,iN n4]])/\∀(m8:Nat) (n9 n10 n11 n12 n13 n14 n15 n16:Int) (b17:Bool) (n18 n19 n20 n21:Int),I6 m8 [iN n9,iN n10,.agg [iN n11,iN n12,iN n13,iN n14,iN n15,iN n16,.bool b17],.agg [iN n18,iN n19],.agg [iN n20,iN n21]]->(decide (n10<3)=true->∃n25 n26 n27 n28 n29 n30 n31 n32 n33 b34 n35 n36,S 149 [AV.ref 0 0,.ref 1 0,.ref 2 0] [[iN n18,iN n19],[iN n11,iN n12,iN n13,iN n14,iN n15,iN n16,.bool b17],[iN n20,iN n21]] (iN n25) [[iN n26,iN n27],[iN n28,iN n29,iN n30,iN n31,iN n32,iN n33,.bool b34],[iN n35,iN n36]]/\((n25 != 0)=true->Q (.tup [iN n25,TEncl.zero.av]) [])/\((n25 != 0)=false->∃k40,k40<m8/\I6 k40 [iN n25,iN (wrap i64 (n10+1)),.agg [iN n28,iN n29,iN n30,iN n31,iN n32,iN n33,.bool b34],.agg [iN n26,iN n27],.agg [iN n35,iN n36]]))/\(decide (n10<3)=false->Q (.tup [iN n9,.agg [iN n18,iN n19]]) [])
theorem zcg (h0:THalf) (v:AV) (O:List (List AV)) (h:FM h0 Sp Fo So (fun r O'=>r=v/\O'=O)):Sp 133 [h0.av] [] v O :=
 yj (w:=⟨[],[],[],[],[]⟩) (k:=0) (keep:=⟨[0,1,2,3,4,5,13,14,18],[⟨5,[(2,iN 0),(13,iN 0)],[],[(1,.agg [iN 0,iN 0,iN 0,iN 0,iN 0,iN 0,.bool false]),(3,.agg [iN 0,iN 0]),(4,.agg [iN 0,iN 0])],[],[],[]⟩],[],[]⟩) (boxes:=[]) mixed (by exact trivial) Tryz.func133 Tryz.call133 rfl rfl rfl (Nat.le_of_ble_eq_true rfl) (by kernel_rfl) h
theorem zbl (h:THalf):Sp 133 [h.av] [] (.tup [.int .i64 (Yy h).1,(Yy h).2.av]) []:=zcg h _ _ (by
 unfold FM;refine⟨_,_,zbn h,_,_,IF h.c.Lat,?_⟩;refine⟨fun m vs=>∃(k:Nat) (kd:Int) (w:TEncl),m+k=3/\vs=[.int .i64 kd,.int .i64 k,h.av,w.av,(TEncl.mk h.c.Lat h.c.Lat).av]/\SL h m kd w=Yy h,⟨3,0,0,W3 h,rfl,rfl,rfl⟩,?_⟩;intro m;intros;rename_i hJ;obtain ⟨k,kd,w,hm,hv,hp⟩:=hJ;unfold TEncl.av TEncl.cs THalf.av THalf.cs at hv;cases hv;refine⟨fun g=>?_,fun g=>?_⟩
 ·have hk:k<3:=by have:=zt_ g;omega
  obtain ⟨j,rfl⟩:∃j,m=j+1:=⟨m-1,by omega⟩;rw[HA] at hp;refine⟨_,_,_,_,_,_,_,_,_,_,_,_,zbo w h ⟨h.c.Lat,h.c.Lat⟩,fun g2=>⟨?_,by trivial⟩,fun g2=>⟨j,by omega,k+1,(ke w h ⟨h.c.Lat,h.c.Lat⟩).1,(ke w h ⟨h.c.Lat,h.c.Lat⟩).2,by omega,?_,?_⟩⟩
  ·have g2:(ke w h ⟨h.c.Lat,h.c.Lat⟩).1≠0:=by simpa using g2
   rw[if_pos g2] at hp;rw[<- hp];rfl
  ·rw[yx (by omega)];rfl
  ·have g2:(ke w h ⟨h.c.Lat,h.c.Lat⟩).1=0:=by simpa using g2
   rw[if_neg (by simp[g2])] at hp;exact hp
 ·have hk:¬ k<3:=by have:=zf_ g;omega
  obtain rfl:m=0:=by omega
  rw[Hz] at hp;rw[<- hp];exact⟨rfl,by trivial⟩)
def Jv (c:TSnCity) (day:Int) (w:TEncl):TEncl:=Yw w (wrap i64 (wrap i64 (43200+c.Zone)-wrap i64 (86400*day)))
def zaB (c:TSnCity) (day:Int) (w:TEncl) (S:SpecF) (_Fr:FreshF) (_Sq:SeqF) (Q:ym):Prop :=
 ∃n0 n1,S 158 [w.av,iN (wrap i64 (wrap i64 ((43200:Int)+c.Zone)-wrap i64 ((86400:Int)*day)))] [] (.agg [iN n0,iN n1]) []/\Q (.agg [iN n0,iN n1]) []
theorem zch (c:TSnCity) (day:Int) (w:TEncl) (v:AV) (O:List (List AV)) (h:zaB c day w Sp Fo So (fun r O'=>r=v/\O'=O)):Sp 134 [c.av,iN day,w.av] [] v O :=
 yj (w:=⟨[],[],[],[],[]⟩) (k:=0) (keep:=⟨[0,1,2,3,5,6],[],[],[]⟩) (boxes:=[]) mixed (by exact trivial) Tryz.func134 Tryz.call134 rfl rfl rfl (Nat.le_of_ble_eq_true rfl) (by kernel_rfl) h
theorem zbm (c:TSnCity) (day:Int) (w:TEncl):Sp 134 [c.av,.int .i64 day,w.av] [] (Jv c day w).av []:=zch c day w _ _ ⟨_,_,OP _ _,rfl,rfl⟩
def kv (h:THalf):Int × TEncl × Int :=
 if Xk h.c then (0,⟨0,0⟩,7) else if qa h.day 0 40000 then (0,⟨0,0⟩,7) else if (Yy h).1=0 then ((Yy h).1,Jv h.c h.day (Yy h).2,0) else ((Yy h).1,⟨0,0⟩,0)
def FI (h0:THalf) (S:SpecF) (_Fr:FreshF) (_Sq:SeqF) (Q:ym):Prop :=
 ∃n0,S 60 [h0.c.av] [] (iN n0) []/\((n0 != 0)=true->Q (.tup [iN 0,TEncl.zero.av,iN 7]) [])/\((n0 != 0)=false->∃b4,S 109 [iN h0.day,iN 0,iN 40000] [] (.bool b4) []/\(b4=true->Q (.tup [iN 0,TEncl.zero.av,iN 7]) [])/\(b4=false->∃n8 n9 n10,S 133 [h0.av] [] (.tup [iN n8,.agg [iN n9,iN n10]]) []/\((n8 == 0)=true->∃n14 n15,S 134 [h0.c.av,iN h0.day,.agg [iN n9,iN n10]] [] (.agg [iN n14,iN n15]) []/\Q (.tup [iN n8,.agg [iN n14,iN n15],iN 0]) [])/\((n8 == 0)=false->Q (.tup [iN n8,TEncl.zero.av,iN 0]) [])))
theorem zb9 (h0:THalf) (v:AV) (O:List (List AV)) (h:FI h0 Sp Fo So (fun r O'=>r=v/\O'=O)):Sp 118 [h0.av] [] v O :=
 yj (w:=⟨[],[],[],[],[]⟩) (k:=0) (keep:=⟨[0,1,2,3,4,5,14,22],[],[],[]⟩) (boxes:=[]) mixed (by exact trivial) Tryz.func118 Tryz.call118 rfl rfl rfl (Nat.le_of_ble_eq_true rfl) (by kernel_rfl) h
theorem Dp (h:THalf):Sp 118 [h.av] [] (.tup [.int .i64 (kv h).1,(kv h).2.1.av,.int .i64 (kv h).2.2]) []:=zb9 h _ _ (by
 unfold FI kv;refine⟨_,c60 h.c,fun g=>⟨?_,by trivial⟩,fun g=>⟨_,M3 ..,fun g2=>⟨?_,by trivial⟩,fun g2=>⟨_,_,_,zbl h,fun g3=>⟨_,_,zbm h.c h.day (Yy h).2,?_,by trivial⟩,fun g3=>⟨?_,by trivial⟩⟩⟩⟩
 ·cases hc:Xk h.c with
  |true=>rfl
  |false=>rw[hc] at g;simp at g
 all_goals
  cases hc:Xk h.c with
  |true=>rw[hc] at g;simp at g
  |false=>?_
 ·rw[if_neg (by simp),if_pos g2];rfl
 ·have g3:(Yy h).1=0:=by simpa using g3
  rw[if_neg (by simp),if_neg (by rw[g2];simp),if_pos g3];rfl
 ·have g3:¬ (Yy h).1=0:=by simpa using g3
  rw[if_neg (by simp),if_neg (by rw[g2];simp),if_neg g3];rfl)
def R83 (c:TSnCity) (day:Int) (S:SpecF) (_Fr:FreshF) (_Sq:SeqF) (Q:ym):Prop :=
 ∃n0 n1 n2 n3,S 118 [AV.agg [iN c.Lat,iN c.Lon,iN c.Zone,iN c.Altitude.Lo,iN c.Altitude.Hi,iN day,.bool true]] [] (.tup [iN n0,.agg [iN n1,iN n2],iN n3]) []/\Q (.tup [iN n0,.agg [iN n1,iN n2],iN n3]) []
theorem s83 (c:TSnCity) (day:Int) (v:AV) (O:List (List AV)) (h:R83 c day Sp Fo So (fun r O'=>r=v/\O'=O)):Sp 83 [c.av,iN day] [] v O :=
 yj (w:=⟨[],[],[],[],[]⟩) (k:=0) (keep:=⟨[0,1,2,4,5,6],[],[],[]⟩) (boxes:=[]) mixed (by exact trivial) Tryz.func83 Tryz.call83 rfl rfl rfl (Nat.le_of_ble_eq_true rfl) (by kernel_rfl) h
theorem c83 (c:TSnCity) (day:Int):Sp 83 [c.av,.int .i64 day] [] (.tup [.int .i64 (kv ⟨c,day,true⟩).1,(kv ⟨c,day,true⟩).2.1.av,.int .i64 (kv ⟨c,day,true⟩).2.2]) []:=s83 c day _ _ ⟨_,_,_,_,Dp ⟨c,day,true⟩,rfl,rfl⟩
def R84 (c:TSnCity) (day:Int) (S:SpecF) (_Fr:FreshF) (_Sq:SeqF) (Q:ym):Prop :=
 ∃n0 n1 n2 n3,S 118 [AV.agg [iN c.Lat,iN c.Lon,iN c.Zone,iN c.Altitude.Lo,iN c.Altitude.Hi,iN day,.bool false]] [] (.tup [iN n0,.agg [iN n1,iN n2],iN n3]) []/\Q (.tup [iN n0,.agg [iN n1,iN n2],iN n3]) []
theorem s84 (c:TSnCity) (day:Int) (v:AV) (O:List (List AV)) (h:R84 c day Sp Fo So (fun r O'=>r=v/\O'=O)):Sp 84 [c.av,iN day] [] v O :=
 yj (w:=⟨[],[],[],[],[]⟩) (k:=0) (keep:=⟨[0,1,2,4,5,6],[],[],[]⟩) (boxes:=[]) mixed (by exact trivial) Tryz.func84 Tryz.call84 rfl rfl rfl (Nat.le_of_ble_eq_true rfl) (by kernel_rfl) h
theorem c84 (c:TSnCity) (day:Int):Sp 84 [c.av,.int .i64 day] [] (.tup [.int .i64 (kv ⟨c,day,false⟩).1,(kv ⟨c,day,false⟩).2.1.av,.int .i64 (kv ⟨c,day,false⟩).2.2]) []:=s84 c day _ _ ⟨_,_,_,_,Dp ⟨c,day,false⟩,rfl,rfl⟩
end Go.Proofs.YtdeeekgohhkdbaaGreatDoor
