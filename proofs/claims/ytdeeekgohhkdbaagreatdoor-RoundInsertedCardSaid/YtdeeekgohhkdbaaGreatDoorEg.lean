/- Contracts: where the sun is. Contracts: when the sun sets and rises, nights. Contracts: when the sun rises, and sets. -/
import Derived.Test.YtdeeekgohhkdbaaGreatDoorEc
namespace Go.Proofs.YtdeeekgohhkdbaaGreatDoor
open Go.RowKit
def qu (n lo hi:Int):Bool:=decide (n<lo) || decide (n>hi)
def HJ (n lo hi:Int) (_S:SpecF) (_Fr:FreshF) (_Sq:SeqF) (Q:yj):Prop :=
 (decide (n<lo)=true->Q (.bool true) [])/\(decide (n<lo)=false->Q (.bool (decide (n>hi))) [])
theorem ET (n:Int) (lo:Int) (hi:Int) (v:AV) (O:List (List AV)) (h:HJ n lo hi Sp Fo So (fun r O'=>r=v/\O'=O)):Sp 109 [iN n,iN lo,iN hi] [] v O :=
 ye (w:=⟨[],[],[],[],[]⟩) (k:=0) (keep:=⟨[0,1,2,6],[],[],[]⟩) (boxes:=[]) mixed (by exact trivial) Tryz.func109 Tryz.call109 rfl rfl rfl (Nat.le_of_ble_eq_true rfl) (by kernel_rfl) h
theorem Nr (n lo hi:Int):Sp 109 [.int .i64 n,.int .i64 lo,.int .i64 hi] [] (.bool (qu n lo hi)) []:=ET n lo hi _ _ (by
 unfold HJ qu
 refine ⟨fun h=>⟨?_,by trivial⟩,fun h=>⟨?_,by trivial⟩⟩
 ·rw [h]; rfl
 ·rw [h]; rfl)
def Y8 (c:TSnCity):Bool:=qu c.Lat (-88000000) 88000000 || (qu c.Lon (-180000000) 180000000 || (qu c.Zone (-50400) 50400 || (qu c.Altitude.Hi (-18000000) 0 || qu c.Altitude.Lo (-18000000) c.Altitude.Hi)))
def R60 (c:TSnCity) (S:SpecF) (_Fr:FreshF) (_Sq:SeqF) (Q:yj):Prop :=
 ∃ b0,S 109 [iN c.Lat,iN (-88000000:Int),iN 88000000] [] (.bool b0) []/\(b0=true->Q (iN 7) [])/\(b0=false->∃ b4,S 109 [iN c.Lon,iN (-180000000:Int),iN 180000000] [] (.bool b4) []/\(b4=true->Q (iN 7) [])/\(b4=false->∃ b8,S 109 [iN c.Zone,iN (-50400:Int),iN 50400] [] (.bool b8) []/\(b8=true->Q (iN 7) [])/\(b8=false->∃ b12,S 109 [iN c.Altitude.Hi,iN (-18000000:Int),iN 0] [] (.bool b12) []/\(b12=true->Q (iN 7) [])/\(b12=false->∃ b16,S 109 [iN c.Altitude.Lo,iN (-18000000:Int),iN c.Altitude.Hi] [] (.bool b16) []/\(b16=true->Q (iN 7) [])/\(b16=false->Q (iN 0) [])))))
theorem s60 (c:TSnCity) (v:AV) (O:List (List AV)) (h:R60 c Sp Fo So (fun r O'=>r=v/\O'=O)):Sp 60 [c.av] [] v O :=
 ye (w:=⟨[],[],[],[],[]⟩) (k:=0) (keep:=⟨[0,1,2,3,30],[],[],[]⟩) (boxes:=[]) mixed (by exact trivial) Tryz.func60 Tryz.call60 rfl rfl rfl (Nat.le_of_ble_eq_true rfl) (by kernel_rfl) h
theorem c60 (c:TSnCity):Sp 60 [c.av] [] (.int .i64 (if Y8 c then 7 else 0)) []:=s60 c _ _ (by
 unfold R60 Y8
 refine ⟨_,Nr ..,fun h=>⟨?_,by trivial⟩,fun h1=>⟨_,Nr ..,fun h=>⟨?_,by trivial⟩,fun h2=>⟨_,Nr ..,fun h=>⟨?_,by trivial⟩,fun h3=>⟨_,Nr ..,fun h=>⟨?_,by trivial⟩,fun h4=>⟨_,Nr ..,fun h=>⟨?_,by trivial⟩,fun h=>⟨?_,by trivial⟩⟩⟩⟩⟩⟩
 ·rw [h]; rfl
 ·rw [h1,h]; rfl
 ·rw [h1,h2,h]; rfl
 ·rw [h1,h2,h3,h]; rfl
 ·rw [h1,h2,h3,h4,h]; rfl
 ·rw [h1,h2,h3,h4,h]; rfl)
def QB (a b:Int):Int:=if a.tmod b<0 then IntKind.i64.wrap (IntKind.i64.wrap (a.tdiv b)-1) else IntKind.i64.wrap (a.tdiv b)
def HY (a b:Int) (_S:SpecF) (_Fr:FreshF) (_Sq:SeqF) (Q:yj):Prop :=
 b≠0/\b≠0/\(decide (a.tmod b<0)=true->Q (iN (IntKind.i64.wrap (IntKind.i64.wrap (a.tdiv b)-1))) [])/\(decide (a.tmod b<0)=false->Q (iN (IntKind.i64.wrap (a.tdiv b))) [])
theorem Dz (a:Int) (b:Int) (v:AV) (O:List (List AV)) (h:HY a b Sp Fo So (fun r O'=>r=v/\O'=O)):Sp 181 [iN a,iN b] [] v O :=
 ye (w:=⟨[],[],[],[],[]⟩) (k:=0) (keep:=⟨[0,1,4,5,12],[],[],[]⟩) (boxes:=[]) mixed (by exact trivial) Tryz.func181 Tryz.call181 rfl rfl rfl (Nat.le_of_ble_eq_true rfl) (by kernel_rfl) h
theorem IJ (a b:Int) (hb:b≠0):Sp 181 [.int .i64 a,.int .i64 b] [] (.int .i64 (QB a b)) []:=Dz a b _ _ (by
 unfold HY QB
 refine ⟨hb,hb,fun h=>⟨?_,by trivial⟩,fun h=>⟨?_,by trivial⟩⟩
 ·rw [if_pos (zt_ h)]
 ·rw [if_neg (zf_ h)])
def k9 (x:TEncl) (n d:Int):TEncl:=⟨QB (IntKind.i64.wrap (n*x.Lo)) d,IntKind.i64.wrap (0-QB (IntKind.i64.wrap (IntKind.i64.wrap (0-n)*x.Hi)) d)⟩
def Fy (x:TEncl) (n d:Int) (S:SpecF) (_Fr:FreshF) (_Sq:SeqF) (Q:yj):Prop :=
 ∃ n0,S 181 [iN (IntKind.i64.wrap (n*x.Lo)),iN d] [] (iN n0) []/\∃ n2,S 181 [iN (IntKind.i64.wrap (IntKind.i64.wrap ((0:Int)-n)*x.Hi)),iN d] [] (iN n2) []/\Q (.agg [iN n0,iN (IntKind.i64.wrap ((0:Int)-n2))]) []
theorem Dk (x:TEncl) (n:Int) (d:Int) (v:AV) (O:List (List AV)) (h:Fy x n d Sp Fo So (fun r O'=>r=v/\O'=O)):Sp 159 [x.av,iN n,iN d] [] v O :=
 ye (w:=⟨[],[],[],[],[]⟩) (k:=0) (keep:=⟨[0,1,2,3,6],[],[],[]⟩) (boxes:=[]) mixed (by exact trivial) Tryz.func159 Tryz.call159 rfl rfl rfl (Nat.le_of_ble_eq_true rfl) (by kernel_rfl) h
theorem SC (x:TEncl) (n d:Int) (hd:d≠0):Sp 159 [x.av,.int .i64 n,.int .i64 d] [] (k9 x n d).av []:=Dk x n d _ _ ⟨_,IJ _ _ hd,_,IJ _ _ hd,rfl,rfl⟩
def Yr (x:TEncl) (n:Int):TEncl:=⟨IntKind.i64.wrap (x.Lo+n),IntKind.i64.wrap (x.Hi+n)⟩
def Fx (x:TEncl) (n:Int) (_S:SpecF) (_Fr:FreshF) (_Sq:SeqF) (Q:yj):Prop :=
 Q (.agg [iN (IntKind.i64.wrap (x.Lo+n)),iN (IntKind.i64.wrap (x.Hi+n))]) []
theorem Dj (x:TEncl) (n:Int) (v:AV) (O:List (List AV)) (h:Fx x n Sp Fo So (fun r O'=>r=v/\O'=O)):Sp 158 [x.av,iN n] [] v O :=
 ye (w:=⟨[],[],[],[],[]⟩) (k:=0) (keep:=⟨[0,1,2,4],[],[],[]⟩) (boxes:=[]) mixed (by exact trivial) Tryz.func158 Tryz.call158 rfl rfl rfl (Nat.le_of_ble_eq_true rfl) (by kernel_rfl) h
theorem Pe (x:TEncl) (n:Int):Sp 158 [x.av,.int .i64 n] [] (Yr x n).av []:=Dj x n _ _ ⟨rfl,rfl⟩
def Ov (x y:TEncl):TEncl:=⟨IntKind.i64.wrap (x.Lo+y.Lo),IntKind.i64.wrap (x.Hi+y.Hi)⟩
def Yh (l:List TEncl):TEncl:=l.foldl Ov ⟨0,0⟩
def HR (l:List TEncl) (_S:SpecF) (_Fr:FreshF) (_Sq:SeqF) (Q:yj):Prop :=
 ∃ (I0:Nat->List AV->Prop),(∃ m2,I0 m2 [iN 0,TEncl.zero.av])/\∀ (m2:Nat) (n3 n4 n5:Int),I0 m2 [iN n3,.agg [iN n4,iN n5]]->(decide (n3<(↑(List.map TEncl.av l).length:Int))=true->∃ n9 n10,((0:Int)<=n3/\(2:Nat)=(2:Nat)/\(List.map TEncl.av l)[n3.toNat]?=some (.agg [iN n9,iN n10]))/\∃ k12,k12<m2/\I0 k12 [iN (IntKind.i64.wrap (n3+1)),.agg [iN (IntKind.i64.wrap (n4+n9)),iN (IntKind.i64.wrap (n5+n10))]])/\(decide (n3<(↑(List.map TEncl.av l).length:Int))=false->Q (.agg [iN n4,iN n5]) [])
theorem Dc (l:List TEncl) (v:AV) (O:List (List AV)) (h:HR l Sp Fo So (fun r O'=>r=v/\O'=O)):Sp 151 [.slc 3 (List.map TEncl.av l)] [] v O :=
 ye (w:=⟨[],[],[],[],[]⟩) (k:=0) (keep:=⟨[0,2,4,5,6,7,8],[⟨2,[(7,iN 0)],[],[(2,.agg [iN 0,iN 0])],[],[],[]⟩],[],[]⟩) (boxes:=[]) mixed (by exact trivial) Tryz.func151 Tryz.call151 rfl rfl rfl (Nat.le_of_ble_eq_true rfl) (by kernel_rfl) h
theorem SA (l:List TEncl) (hl:l.length<=1000000):Sp 151 [.slc 3 (l.map TEncl.av)] [] (Yh l).av []:=Dc l _ _ (by
 unfold HR Yh
 refine ⟨fun m vs=>∃ k:Nat,k<=l.length/\m=l.length-k/\vs=[.int .i64 k,((l.take k).foldl Ov ⟨0,0⟩).av],⟨_,0,by omega,rfl,rfl⟩,?_⟩
 rintro m n3 n4 n5 ⟨k,hk,rfl,hv⟩
 generalize he:(l.take k).foldl Ov ⟨0,0⟩=e at hv
 have hv':=hv
 unfold TEncl.av TEncl.cs at hv'
 simp only [List.cons.injEq,AV.int.injEq,true_and,AV.agg.injEq,and_true] at hv'
 obtain ⟨rfl,rfl,rfl⟩:=hv'
 simp only [List.length_map]
 refine ⟨fun g=>?_,fun g=>?_⟩
 ·have hlt:k<l.length:=by simpa using g
  obtain ⟨y,hy,hy'⟩:=yE (f:=TEncl.av) hlt
  refine ⟨y.Lo,y.Hi,⟨by omega,by trivial,hy'⟩,_,(by omega:l.length-(k+1)<l.length-k),k+1,by omega,rfl,?_⟩
  rw [yq (by omega),XR Ov _ hy,he]; rfl
 ·obtain rfl:k=l.length:=by simp at g; omega
  rw [List.take_length] at he
  subst he
  exact ⟨rfl,by trivial⟩)
def Fv (x:TEncl) (_S:SpecF) (_Fr:FreshF) (_Sq:SeqF) (Q:yj):Prop :=
 Q (.agg [iN (IntKind.i64.wrap ((0:Int)-x.Hi)),iN (IntKind.i64.wrap ((0:Int)-x.Lo))]) []
theorem De (x:TEncl) (v:AV) (O:List (List AV)) (h:Fv x Sp Fo So (fun r O'=>r=v/\O'=O)):Sp 153 [x.av] [] v O :=
 ye (w:=⟨[],[],[],[],[]⟩) (k:=0) (keep:=⟨[0,1,2],[],[],[]⟩) (boxes:=[]) mixed (by exact trivial) Tryz.func153 Tryz.call153 rfl rfl rfl (Nat.le_of_ble_eq_true rfl) (by kernel_rfl) h
theorem SB (e:TEncl):Sp 153 [e.av] [] (xq e).av []:=De e _ _ ⟨rfl,rfl⟩
def Nd (x:TEncl):TEncl:=Yr x (IntKind.i64.wrap (-360000000*QB x.Lo 360000000))
def FA (x:TEncl) (S:SpecF) (_Fr:FreshF) (_Sq:SeqF) (Q:yj):Prop :=
 ∃ n0,S 181 [iN x.Lo,iN 360000000] [] (iN n0) []/\∃ n2 n3,S 158 [x.av,iN (IntKind.i64.wrap ((-360000000:Int)*n0))] [] (.agg [iN n2,iN n3]) []/\Q (.agg [iN n2,iN n3]) []
theorem Dm (x:TEncl) (v:AV) (O:List (List AV)) (h:FA x Sp Fo So (fun r O'=>r=v/\O'=O)):Sp 168 [x.av] [] v O :=
 ye (w:=⟨[],[],[],[],[]⟩) (k:=0) (keep:=⟨[0,1,2],[],[],[]⟩) (boxes:=[]) mixed (by exact trivial) Tryz.func168 Tryz.call168 rfl rfl rfl (Nat.le_of_ble_eq_true rfl) (by kernel_rfl) h
theorem II (x:TEncl):Sp 168 [x.av] [] (Nd x).av []:=Dm x _ _ ⟨_,IJ _ _ (by omega),_,_,Pe _ _,rfl,rfl⟩
def Ft (n:Int) (_S:SpecF) (_Fr:FreshF) (_Sq:SeqF) (Q:yj):Prop :=
 Q (.agg [iN n,iN n]) []
theorem E9 (n:Int) (v:AV) (O:List (List AV)) (h:Ft n Sp Fo So (fun r O'=>r=v/\O'=O)):Sp 148 [iN n] [] v O :=
 ye (w:=⟨[],[],[],[],[]⟩) (k:=0) (keep:=⟨[0,2],[],[],[]⟩) (boxes:=[]) mixed (by exact trivial) Tryz.func148 Tryz.call148 rfl rfl rfl (Nat.le_of_ble_eq_true rfl) (by kernel_rfl) h
theorem K8 (n:Int):Sp 148 [.int .i64 n] [] (TEncl.mk n n).av []:=E9 n _ _ ⟨rfl,rfl⟩
def uc:TEncl:=⟨-10000,10000⟩
def FB (_S:SpecF) (_Fr:FreshF) (_Sq:SeqF) (Q:yj):Prop :=
 Q (.agg [iN (-10000:Int),iN 10000]) []
theorem Dn  (v:AV) (O:List (List AV)) (h:FB  Sp Fo So (fun r O'=>r=v/\O'=O)):Sp 169 [] [] v O :=
 ye (w:=⟨[],[],[],[],[]⟩) (k:=0) (keep:=⟨[0],[],[],[]⟩) (boxes:=[]) mixed (by exact trivial) Tryz.func169 Tryz.call169 rfl rfl rfl (Nat.le_of_ble_eq_true rfl) (by kernel_rfl) h
theorem Gr:Sp 169 [] [] uc.av []:=Dn _ _ ⟨rfl,rfl⟩
def Fu (x:TEncl) (S:SpecF) (_Fr:FreshF) (_Sq:SeqF) (Q:yj):Prop :=
 ∃ n0 n1 n2,S 171 [x.av] [] (.tup [AV.agg [iN n0,iN n1],iN n2]) []/\Q (.agg [iN n0,iN n1]) []
theorem Dd (x:TEncl) (v:AV) (O:List (List AV)) (h:Fu x Sp Fo So (fun r O'=>r=v/\O'=O)):Sp 152 [x.av] [] v O :=
 ye (w:=⟨[],[],[],[],[]⟩) (k:=0) (keep:=⟨[0,1,2,3],[],[],[]⟩) (boxes:=[]) mixed (by exact trivial) Tryz.func152 Tryz.call152 rfl rfl rfl (Nat.le_of_ble_eq_true rfl) (by kernel_rfl) h
theorem Lb (x:TEncl):Sp 152 [x.av] [] (jN x 0).1.av []:=Dd x _ _ ⟨_,_,_,Eg x,rfl,rfl⟩
def Fw (x:TEncl) (S:SpecF) (_Fr:FreshF) (_Sq:SeqF) (Q:yj):Prop :=
 ∃ n0 n1 n2,S 176 [x.av] [] (.tup [AV.agg [iN n0,iN n1],iN n2]) []/\Q (.agg [iN n0,iN n1]) []
theorem Dh (x:TEncl) (v:AV) (O:List (List AV)) (h:Fw x Sp Fo So (fun r O'=>r=v/\O'=O)):Sp 156 [x.av] [] v O :=
 ye (w:=⟨[],[],[],[],[]⟩) (k:=0) (keep:=⟨[0,1,2,3],[],[],[]⟩) (boxes:=[]) mixed (by exact trivial) Tryz.func156 Tryz.call156 rfl rfl rfl (Nat.le_of_ble_eq_true rfl) (by kernel_rfl) h
theorem Gp (x:TEncl):Sp 156 [x.av] [] (jN x 90000000).1.av []:=Dh x _ _ ⟨_,_,_,Ej x,rfl,rfl⟩
def Yt (x:TEncl) (l:List TEncl):TEncl:=l.foldl (fun x y=>(YQ x y).1) x
def HS (x:TEncl) (l:List TEncl) (S:SpecF) (_Fr:FreshF) (_Sq:SeqF) (Q:yj):Prop :=
 ∃ (I0:Nat->List AV->Prop),(∃ m2,I0 m2 [iN 0,x.av])/\∀ (m2:Nat) (n3 n4 n5:Int),I0 m2 [iN n3,.agg [iN n4,iN n5]]->(decide (n3<(↑(List.map TEncl.av l).length:Int))=true->∃ n9 n10,((0:Int)<=n3/\(2:Nat)=(2:Nat)/\(List.map TEncl.av l)[n3.toNat]?=some (.agg [iN n9,iN n10]))/\∃ n12 n13 n14,S 172 [AV.agg [iN n4,iN n5],.agg [iN n9,iN n10]] [] (.tup [AV.agg [iN n12,iN n13],iN n14]) []/\TEncl.z0=TEncl.z0/\∃ k17,k17<m2/\I0 k17 [iN (IntKind.i64.wrap (n3+1)),.agg [iN n12,iN n13]])/\(decide (n3<(↑(List.map TEncl.av l).length:Int))=false->Q (.agg [iN n4,iN n5]) [])
theorem Df (x:TEncl) (l:List TEncl) (v:AV) (O:List (List AV)) (h:HS x l Sp Fo So (fun r O'=>r=v/\O'=O)):Sp 154 [x.av,.slc 3 (List.map TEncl.av l)] [] v O :=
 ye (w:=⟨[],[],[],[],[]⟩) (k:=0) (keep:=⟨[0,1,2,4,6,7,8,9,10],[⟨2,[(9,iN 0)],[],[(2,.agg [iN 0,iN 0])],[],[],[]⟩],[],[]⟩) (boxes:=[]) mixed (by exact trivial) Tryz.func154 Tryz.call154 rfl rfl rfl (Nat.le_of_ble_eq_true rfl) (by kernel_rfl) h
theorem IH (x:TEncl) (l:List TEncl) (hl:l.length<=1000000):Sp 154 [x.av,.slc 3 (l.map TEncl.av)] [] (Yt x l).av []:=Df x l _ _ (by
 unfold HS Yt
 refine ⟨fun m vs=>∃ k:Nat,k<=l.length/\m=l.length-k/\vs=[.int .i64 k,((l.take k).foldl (fun x y=>(YQ x y).1) x).av],⟨_,0,by omega,rfl,rfl⟩,?_⟩
 rintro m n3 n4 n5 ⟨k,hk,rfl,hv⟩
 generalize he:(l.take k).foldl (fun x y=>(YQ x y).1) x=e at hv
 have hv':=hv
 unfold TEncl.av TEncl.cs at hv'
 simp only [List.cons.injEq,AV.int.injEq,true_and,AV.agg.injEq,and_true] at hv'
 obtain ⟨rfl,rfl,rfl⟩:=hv'
 simp only [List.length_map]
 refine ⟨fun g=>?_,fun g=>?_⟩
 ·have hlt:k<l.length:=by simpa using g
  obtain ⟨y,hy,hy'⟩:=yE (f:=TEncl.av) hlt
  refine ⟨y.Lo,y.Hi,⟨by omega,by trivial,hy'⟩,_,_,_,Eh e y,by trivial,_,(by omega:l.length-(k+1)<l.length-k),k+1,by omega,rfl,?_⟩
  rw [yq (by omega),XR (fun x y=>(YQ x y).1) _ hy,he]; rfl
 ·obtain rfl:k=l.length:=by simp at g; omega
  rw [List.take_length] at he
  subst he
  exact ⟨rfl,by trivial⟩)
def vF (size times:Int) (x:TEncl):TEncl:=k9 (jN (k9 x times 1) 0).1 size 100000000
def Fz (size times:Int) (x:TEncl) (S:SpecF) (_Fr:FreshF) (_Sq:SeqF) (Q:yj):Prop :=
 ∃ n0 n1,S 159 [x.av,iN times,iN 1] [] (.agg [iN n0,iN n1]) []/\∃ n3 n4,S 152 [AV.agg [iN n0,iN n1]] [] (.agg [iN n3,iN n4]) []/\∃ n6 n7,S 159 [AV.agg [iN n3,iN n4],iN size,iN 100000000] [] (.agg [iN n6,iN n7]) []/\Q (.agg [iN n6,iN n7]) []
theorem Dl (size:Int) (times:Int) (x:TEncl) (v:AV) (O:List (List AV)) (h:Fz size times x Sp Fo So (fun r O'=>r=v/\O'=O)):Sp 167 [iN size,iN times,x.av] [] v O :=
 ye (w:=⟨[],[],[],[],[]⟩) (k:=0) (keep:=⟨[0,1,2,5,6],[],[],[]⟩) (boxes:=[]) mixed (by exact trivial) Tryz.func167 Tryz.call167 rfl rfl rfl (Nat.le_of_ble_eq_true rfl) (by kernel_rfl) h
theorem K9 (size times:Int) (x:TEncl):Sp 167 [.int .i64 size,.int .i64 times,x.av] [] (vF size times x).av []:=Dl size times x _ _ ⟨_,_,SC x times 1 (by omega),_,_,Lb _,_,_,SC _ size 100000000 (by omega),rfl,rfl⟩
def N4 (w:TEncl):TEncl:=Nd (Yr (k9 w 98564736 8640000) 280459000)
def YZ (w:TEncl):TEncl:=Nd (Yr (k9 w 98560028 8640000) 357528000)
def Yn (w:TEncl):TEncl:=Yh [vF 1915000 1 (YZ w),vF 20000 2 (YZ w)]
def XM (w:TEncl):TEncl:=Nd (Yh [N4 w,Yn w,uc])
def QS (w:TEncl):TEncl:=Yr (xq (k9 w 36 8640000)) 23439000
def OJ (w:TEncl):TEncl:=Yt (jN (QS w) 0).1 [(jN (XM w) 0).1]
def ub (w:TEncl):TSky:=⟨OJ w,(jN (Wy (OJ w)).1 90000000).1,Yh [vF 2466000 2 (XM w),xq (Yn w),xq (vF 53000 4 (XM w)),uc]⟩
def HQ (w:TEncl) (S:SpecF) (_Fr:FreshF) (_Sq:SeqF) (Q:yj):Prop :=
 ∃ n0 n1,S 159 [w.av,iN 98560028,iN 8640000] [] (.agg [iN n0,iN n1]) []/\∃ n3 n4,S 158 [AV.agg [iN n0,iN n1],iN 357528000] [] (.agg [iN n3,iN n4]) []/\∃ n6 n7,S 168 [AV.agg [iN n3,iN n4]] [] (.agg [iN n6,iN n7]) []/\∃ n9 n10,S 159 [w.av,iN 98564736,iN 8640000] [] (.agg [iN n9,iN n10]) []/\∃ n12 n13,S 158 [AV.agg [iN n9,iN n10],iN 280459000] [] (.agg [iN n12,iN n13]) []/\∃ n15 n16,S 168 [AV.agg [iN n12,iN n13]] [] (.agg [iN n15,iN n16]) []/\∃ n18 n19,S 167 [iN 1915000,iN 1,.agg [iN n6,iN n7]] [] (.agg [iN n18,iN n19]) []/\∃ n21 n22,S 167 [iN 20000,iN 2,.agg [iN n6,iN n7]] [] (.agg [iN n21,iN n22]) []/\∃ n24 n25,S 151 [AV.slc 3 [AV.agg [iN n18,iN n19],.agg [iN n21,iN n22]]] [] (.agg [iN n24,iN n25]) []/\∃ n27 n28,S 169 [] [] (.agg [iN n27,iN n28]) []/\∃ n30 n31,S 151 [AV.slc 3 [AV.agg [iN n15,iN n16],.agg [iN n24,iN n25],.agg [iN n27,iN n28]]] [] (.agg [iN n30,iN n31]) []/\∃ n33 n34,S 168 [AV.agg [iN n30,iN n31]] [] (.agg [iN n33,iN n34]) []/\∃ n36 n37,S 159 [w.av,iN 36,iN 8640000] [] (.agg [iN n36,iN n37]) []/\∃ n39 n40,S 153 [AV.agg [iN n36,iN n37]] [] (.agg [iN n39,iN n40]) []/\∃ n42 n43,S 158 [AV.agg [iN n39,iN n40],iN 23439000] [] (.agg [iN n42,iN n43]) []/\∃ n45 n46,S 152 [AV.agg [iN n42,iN n43]] [] (.agg [iN n45,iN n46]) []/\∃ n48 n49,S 152 [AV.agg [iN n33,iN n34]] [] (.agg [iN n48,iN n49]) []/\∃ n51 n52,S 154 [AV.agg [iN n45,iN n46],.slc 3 [AV.agg [iN n48,iN n49]]] [] (.agg [iN n51,iN n52]) []/\∃ n54 n55 n56,S 170 [AV.agg [iN n51,iN n52]] [] (.tup [AV.agg [iN n54,iN n55],iN n56]) []/\∃ n58 n59,S 156 [AV.agg [iN n54,iN n55]] [] (.agg [iN n58,iN n59]) []/\∃ n61 n62,S 167 [iN 2466000,iN 2,.agg [iN n33,iN n34]] [] (.agg [iN n61,iN n62]) []/\∃ n64 n65,S 153 [AV.agg [iN n24,iN n25]] [] (.agg [iN n64,iN n65]) []/\∃ n67 n68,S 167 [iN 53000,iN 4,.agg [iN n33,iN n34]] [] (.agg [iN n67,iN n68]) []/\∃ n70 n71,S 153 [AV.agg [iN n67,iN n68]] [] (.agg [iN n70,iN n71]) []/\∃ n73 n74,S 169 [] [] (.agg [iN n73,iN n74]) []/\∃ n76 n77,S 151 [AV.slc 3 [AV.agg [iN n61,iN n62],.agg [iN n64,iN n65],.agg [iN n70,iN n71],.agg [iN n73,iN n74]]] [] (.agg [iN n76,iN n77]) []/\Q (.agg [iN n51,iN n52,iN n58,iN n59,iN n76,iN n77]) []
theorem Db (w:TEncl) (v:AV) (O:List (List AV)) (h:HQ w Sp Fo So (fun r O'=>r=v/\O'=O)):Sp 150 [w.av] [] v O :=
 ye (w:=⟨[],[],[],[],[]⟩) (k:=0) (keep:=⟨[0,1,2,3,4,5,6,7,8,9,10],[],[],[]⟩) (boxes:=[]) mixed (by exact trivial) Tryz.func150 Tryz.call150 rfl rfl rfl (Nat.le_of_ble_eq_true rfl) (by kernel_rfl) h
theorem Ed (w:TEncl):Sp 150 [w.av] [] (ub w).av []:=Db w _ _ (by
 unfold HQ
 have ha:Sp 168 [(Yr (k9 w 98560028 8640000) 357528000).av] [] (YZ w).av []:=II _
 have hl:Sp 168 [(Yr (k9 w 98564736 8640000) 280459000).av] [] (N4 w).av []:=II _
 have hc:Sp 151 [.slc 3 [(vF 1915000 1 (YZ w)).av,(vF 20000 2 (YZ w)).av]] [] (Yn w).av []:=SA [vF 1915000 1 (YZ w),vF 20000 2 (YZ w)] (by simp)
 have he:Sp 151 [.slc 3 [(N4 w).av,(Yn w).av,uc.av]] [] (Yh [N4 w,Yn w,uc]).av []:=SA [N4 w,Yn w,uc] (by simp)
 have he2:Sp 168 [(Yh [N4 w,Yn w,uc]).av] [] (XM w).av []:=II _
 have ht:Sp 158 [(xq (k9 w 36 8640000)).av,.int .i64 23439000] [] (QS w).av []:=Pe _ _
 have hd:Sp 154 [(jN (QS w) 0).1.av,.slc 3 [(jN (XM w) 0).1.av]] [] (OJ w).av []:=IH (jN (QS w) 0).1 [(jN (XM w) 0).1] (by simp)
 have hq:Sp 151 [.slc 3 [(vF 2466000 2 (XM w)).av,(xq (Yn w)).av,(xq (vF 53000 4 (XM w))).av,uc.av]] [] (ub w).equation.av []:=SA [vF 2466000 2 (XM w),xq (Yn w),xq (vF 53000 4 (XM w)),uc] (by simp)
 refine ⟨_,_,SC w 98560028 8640000 (by omega),_,_,Pe _ _,_,_,ha,_,_,SC w 98564736 8640000 (by omega),_,_,Pe _ _,_,_,hl,_,_,K9 1915000 1 (YZ w),_,_,K9 20000 2 (YZ w),_,_,hc,_,_,Gr,_,_,he,_,_,he2,?_⟩
 refine ⟨_,_,SC w 36 8640000 (by omega),_,_,SB _,_,_,ht,_,_,Lb (QS w),_,_,Lb (XM w),_,_,hd,_,_,_,Ef (OJ w),?_⟩
 exact ⟨_,_,Gp _,_,_,K9 2466000 2 (XM w),_,_,SB (Yn w),_,_,K9 53000 4 (XM w),_,_,SB _,_,_,Gr,_,_,hq,rfl,rfl⟩)
def ui (h:THalf):TEncl:=Yr (xq (k9 ⟨h.c.Lon,h.c.Lon⟩ 3 12500)) (IntKind.i64.wrap (86400*h.day))
def WM (h:THalf):TEncl:=if h.rise then Yh [ui h,⟨-44400,1200⟩] else Yh [ui h,⟨-1200,44400⟩]
def HO (h0:THalf) (S:SpecF) (_Fr:FreshF) (_Sq:SeqF) (Q:yj):Prop :=
 ∃ n0 n1,S 148 [iN h0.c.Lon] [] (.agg [iN n0,iN n1]) []/\∃ n3 n4,S 159 [AV.agg [iN n0,iN n1],iN 3,iN 12500] [] (.agg [iN n3,iN n4]) []/\∃ n6 n7,S 153 [AV.agg [iN n3,iN n4]] [] (.agg [iN n6,iN n7]) []/\∃ n9 n10,S 158 [AV.agg [iN n6,iN n7],iN (IntKind.i64.wrap ((86400:Int)*h0.day))] [] (.agg [iN n9,iN n10]) []/\(h0.rise=true->∃ n14 n15,S 151 [AV.slc 3 [AV.agg [iN n9,iN n10],.agg [iN (-44400:Int),iN 1200]]] [] (.agg [iN n14,iN n15]) []/\Q (.agg [iN n14,iN n15]) [])/\(h0.rise=false->∃ n14 n15,S 151 [AV.slc 3 [AV.agg [iN n9,iN n10],.agg [iN (-1200:Int),iN 44400]]] [] (.agg [iN n14,iN n15]) []/\Q (.agg [iN n14,iN n15]) [])
theorem E8 (h0:THalf) (v:AV) (O:List (List AV)) (h:HO h0 Sp Fo So (fun r O'=>r=v/\O'=O)):Sp 147 [h0.av] [] v O :=
 ye (w:=⟨[],[],[],[],[]⟩) (k:=0) (keep:=⟨[0,1,2,3,15],[],[],[]⟩) (boxes:=[]) mixed (by exact trivial) Tryz.func147 Tryz.call147 rfl rfl rfl (Nat.le_of_ble_eq_true rfl) (by kernel_rfl) h
theorem Eb (h:THalf):Sp 147 [h.av] [] (WM h).av []:=E8 h _ _ (by
 unfold HO WM
 have hn:Sp 158 [(xq (k9 ⟨h.c.Lon,h.c.Lon⟩ 3 12500)).av,.int .i64 (IntKind.i64.wrap (86400*h.day))] [] (ui h).av []:=Pe _ _
 have hs1:Sp 151 [.slc 3 [(ui h).av,.agg [.int .i64 (-44400),.int .i64 1200]]] [] (Yh [ui h,⟨-44400,1200⟩]).av []:=SA [ui h,⟨-44400,1200⟩] (by simp)
 have hs2:Sp 151 [.slc 3 [(ui h).av,.agg [.int .i64 (-1200),.int .i64 44400]]] [] (Yh [ui h,⟨-1200,44400⟩]).av []:=SA [ui h,⟨-1200,44400⟩] (by simp)
 generalize Yh [ui h,⟨-44400,1200⟩]=r1 at *
 generalize Yh [ui h,⟨-1200,44400⟩]=r2 at *
 generalize ui h=no at *
 refine ⟨_,_,K8 h.c.Lon,_,_,SC ⟨h.c.Lon,h.c.Lon⟩ 3 12500 (by omega),_,_,SB _,_,_,hn,fun g=>⟨_,_,hs1,?_,by trivial⟩,fun g=>⟨_,_,hs2,?_,by trivial⟩⟩
 ·rw [if_pos g]; rfl
 ·rw [if_neg (by rw [g]; simp)]; rfl)
def Hw (w:TEncl) (h:THalf) (lat:TEncl):TEncl:=Yh [(jN h.c.Altitude 0).1,xq (Yt (jN lat 0).1 [(ub w).sin])]
def kX (w:TEncl) (h:THalf) (lat:TEncl):TEncl:=(U7 (Hw w h lat) (Yt (jN lat 90000000).1 [(ub w).cos])).1
def UJ (w:TEncl) (h:THalf) (lat:TEncl):TEncl:=if h.rise then xq (qV (kX w h lat)).1 else (qV (kX w h lat)).1
def Iu (w:TEncl) (h:THalf) (lat:TEncl):TEncl:=Yr (k9 (Yh [UJ w h lat,⟨IntKind.i64.wrap (0-h.c.Lon),IntKind.i64.wrap (0-h.c.Lon)⟩,xq (ub w).equation]) 3 12500) (IntKind.i64.wrap (86400*h.day))
def jY (w:TEncl) (h:THalf) (lat:TEncl):Int × TEncl :=
 if (kX w h lat).Lo>100000000 then (1,w) else if (kX w h lat).Hi < -100000000 then (2,w) else if (kX w h lat).Lo < -100000000 then (3,w) else if (kX w h lat).Hi>100000000 then (3,w) else (0,Iu w h lat)
abbrev Q2 (v1:THalf) (v2:TEncl) (S:SpecF) (Q:yj) (p0_ p1_ p2_ p3_:Int):Prop :=
 ∃ n49 n50,S 148 [iN (IntKind.i64.wrap ((0:Int)-v1.c.Lon))] [] (.agg [iN n49,iN n50]) []/\∃ n52 n53,S 153 [AV.agg [iN p0_,iN p1_]] [] (.agg [iN n52,iN n53]) []/\∃ n55 n56,S 151 [AV.slc 3 [AV.agg [iN p2_,iN p3_],.agg [iN n49,iN n50],.agg [iN n52,iN n53]]] [] (.agg [iN n55,iN n56]) []/\∃ n58 n59,S 159 [AV.agg [iN n55,iN n56],iN 3,iN 12500] [] (.agg [iN n58,iN n59]) []/\∃ n61 n62,S 158 [AV.agg [iN n58,iN n59],iN (IntKind.i64.wrap ((86400:Int)*v1.day))] [] (.agg [iN n61,iN n62]) []/\Q (iN 0) [[iN n61,iN n62],v1.cs,v2.cs]
def HP (v0:TEncl) (v1:THalf) (v2:TEncl) (S:SpecF) (_Fr:FreshF) (_Sq:SeqF) (Q:yj):Prop :=
 ∃ n0 n1 n2 n3 n4 n5,S 150 [v0.av] [] (.agg [iN n0,iN n1,iN n2,iN n3,iN n4,iN n5]) []/\∃ n7 n8,S 152 [v1.c.Altitude.av] [] (.agg [iN n7,iN n8]) []/\∃ n10 n11,S 152 [v2.av] [] (.agg [iN n10,iN n11]) []/\∃ n13 n14,S 154 [AV.agg [iN n10,iN n11],.slc 3 [AV.agg [iN n0,iN n1]]] [] (.agg [iN n13,iN n14]) []/\∃ n16 n17,S 153 [AV.agg [iN n13,iN n14]] [] (.agg [iN n16,iN n17]) []/\∃ n19 n20,S 151 [AV.slc 3 [AV.agg [iN n7,iN n8],.agg [iN n16,iN n17]]] [] (.agg [iN n19,iN n20]) []/\∃ n22 n23,S 156 [v2.av] [] (.agg [iN n22,iN n23]) []/\∃ n25 n26,S 154 [AV.agg [iN n22,iN n23],.slc 3 [AV.agg [iN n2,iN n3]]] [] (.agg [iN n25,iN n26]) []/\∃ n28 n29 n30,S 155 [AV.agg [iN n19,iN n20],.agg [iN n25,iN n26]] [] (.tup [AV.agg [iN n28,iN n29],iN n30]) []/\(decide (n28>100000000)=true->Q (iN 1) [v0.cs,v1.cs,v2.cs])/\(decide (n28>100000000)=false->(decide (n29<(-100000000:Int))=true->Q (iN 2) [v0.cs,v1.cs,v2.cs])/\(decide (n29<(-100000000:Int))=false->(decide (n28<(-100000000:Int))=true->Q (iN 3) [v0.cs,v1.cs,v2.cs])/\(decide (n28<(-100000000:Int))=false->(decide (n29>100000000)=true->Q (iN 3) [v0.cs,v1.cs,v2.cs])/\(decide (n29>100000000)=false->∃ n40 n41 n42,S 157 [AV.agg [iN n28,iN n29]] [] (.tup [AV.agg [iN n40,iN n41],iN n42]) []/\(v1.rise=true->∃ n46 n47,S 153 [AV.agg [iN n40,iN n41]] [] (.agg [iN n46,iN n47]) []/\Q2 v1 v2 S Q n4 n5 n46 n47)/\(v1.rise=false->Q2 v1 v2 S Q n4 n5 n40 n41)))))
theorem Da (v0:TEncl) (v1:THalf) (v2:TEncl) (v:AV) (O:List (List AV)) (h:HP v0 v1 v2 Sp Fo So (fun r O'=>r=v/\O'=O)):Sp 149 [.ref 0 0,.ref 1 0,.ref 2 0] [v0.cs,v1.cs,v2.cs] v O :=
 ye (w:=⟨[],[],[],[],[]⟩) (k:=0) (keep:=⟨[0,1,2,3,4,5,6,8,36,40,44,59],[],[],[]⟩) (boxes:=[⟨23,false,v0.cs⟩,⟨186,false,v1.cs⟩,⟨23,false,v2.cs⟩]) mixed (by exact trivial) Tryz.func149 Tryz.call149 rfl rfl rfl (Nat.le_of_ble_eq_true rfl) (by kernel_rfl) h
theorem Ec (w:TEncl) (h:THalf) (lat:TEncl):Sp 149 [.ref 0 0,.ref 1 0,.ref 2 0] [w.cs,h.cs,lat.cs] (.int .i64 (jY w h lat).1) [(jY w h lat).2.cs,h.cs,lat.cs]:=Da w h lat _ _ (by
 unfold HP Q2
 have h1:Sp 154 [(jN lat 0).1.av,.slc 3 [(ub w).sin.av]] [] (Yt (jN lat 0).1 [(ub w).sin]).av []:=IH (jN lat 0).1 [(ub w).sin] (by simp)
 have h2:Sp 151 [.slc 3 [(jN h.c.Altitude 0).1.av,(xq (Yt (jN lat 0).1 [(ub w).sin])).av]] [] (Hw w h lat).av []:=SA [(jN h.c.Altitude 0).1,xq (Yt (jN lat 0).1 [(ub w).sin])] (by simp)
 have h3:Sp 154 [(jN lat 90000000).1.av,.slc 3 [(ub w).cos.av]] [] (Yt (jN lat 90000000).1 [(ub w).cos]).av []:=IH (jN lat 90000000).1 [(ub w).cos] (by simp)
 have h4:∃ e,Sp 155 [(Hw w h lat).av,(Yt (jN lat 90000000).1 [(ub w).cos]).av] [] (.tup [(kX w h lat).av,.int .i64 e]) []:=⟨_,Ee _ _⟩
 obtain ⟨e4,h4⟩:=h4
 have h5:∃ e,Sp 157 [(kX w h lat).av] [] (.tup [(qV (kX w h lat)).1.av,.int .i64 e]) []:=⟨_,Gq _⟩
 obtain ⟨e5,h5⟩:=h5
 have h6:Sp 158 [(k9 (Yh [UJ w h lat,⟨IntKind.i64.wrap (0-h.c.Lon),IntKind.i64.wrap (0-h.c.Lon)⟩,xq (ub w).equation]) 3 12500).av,.int .i64 (IntKind.i64.wrap (86400*h.day))] [] (Iu w h lat).av []:=Pe _ _
 unfold jY
 refine ⟨_,_,_,_,_,_,Ed w,_,_,Lb h.c.Altitude,_,_,Lb lat,_,_,h1,_,_,SB _,_,_,h2,_,_,Gp lat,_,_,h3,_,_,_,h4,fun g=>?_,fun g1=>⟨fun g=>?_,fun g2=>⟨fun g=>?_,fun g3=>⟨fun g=>?_,fun g4=>⟨_,_,_,h5,fun g=>?_,fun g=>?_⟩⟩⟩⟩⟩
 ·rw [if_pos (zt_ g)]; exact ⟨rfl,by trivial⟩
 ·rw [if_neg (zf_ g1),if_pos (zt_ g)]; exact ⟨rfl,by trivial⟩
 ·rw [if_neg (zf_ g1),if_neg (zf_ g2),if_pos (zt_ g)]; exact ⟨rfl,by trivial⟩
 ·rw [if_neg (zf_ g1),if_neg (zf_ g2),if_neg (zf_ g3),if_pos (zt_ g)]; exact ⟨rfl,by trivial⟩
 ·rw [if_neg (zf_ g1),if_neg (zf_ g2),if_neg (zf_ g3),if_neg (zf_ g4)]
  have hh:UJ w h lat=xq (qV (kX w h lat)).1:=by unfold UJ; rw [if_pos g]
  rw [hh] at h6
  exact ⟨_,_,SB _,_,_,K8 _,_,_,SB (ub w).equation,_,_,SA [xq (qV (kX w h lat)).1,⟨IntKind.i64.wrap (0-h.c.Lon),IntKind.i64.wrap (0-h.c.Lon)⟩,xq (ub w).equation] (by simp),_,_,SC _ 3 12500 (by omega),_,_,h6,rfl,by trivial⟩
 ·rw [if_neg (zf_ g1),if_neg (zf_ g2),if_neg (zf_ g3),if_neg (zf_ g4)]
  have hh:UJ w h lat=(qV (kX w h lat)).1:=by unfold UJ; rw [if_neg (by rw [g]; simp)]
  rw [hh] at h6
  exact ⟨_,_,K8 _,_,_,SB (ub w).equation,_,_,SA [(qV (kX w h lat)).1,⟨IntKind.i64.wrap (0-h.c.Lon),IntKind.i64.wrap (0-h.c.Lon)⟩,xq (ub w).equation] (by simp),_,_,SC _ 3 12500 (by omega),_,_,h6,rfl,by trivial⟩)
def U8 (h:THalf):Nat->Int->TEncl->Int × TEncl
 | 0,kd,w=>(kd,w)
 | k+1,_,w=>if (jY w h ⟨h.c.Lat,h.c.Lat⟩).1≠0 then ((jY w h ⟨h.c.Lat,h.c.Lat⟩).1,⟨0,0⟩) else U8 h k (jY w h ⟨h.c.Lat,h.c.Lat⟩).1 (jY w h ⟨h.c.Lat,h.c.Lat⟩).2
theorem JJ (h:THalf) (kd:Int) (w:TEncl):U8 h 0 kd w=(kd,w):=rfl
theorem JK (h:THalf) (k:Nat) (kd:Int) (w:TEncl):U8 h (k+1) kd w=if (jY w h ⟨h.c.Lat,h.c.Lat⟩).1≠0 then ((jY w h ⟨h.c.Lat,h.c.Lat⟩).1,⟨0,0⟩) else U8 h k (jY w h ⟨h.c.Lat,h.c.Lat⟩).1 (jY w h ⟨h.c.Lat,h.c.Lat⟩).2:=rfl
def Ys (h:THalf):Int × TEncl:=U8 h 3 0 (WM h)
def HN (h0:THalf) (S:SpecF) (_Fr:FreshF) (_Sq:SeqF) (Q:yj):Prop :=
 ∃ n0 n1,S 147 [h0.av] [] (.agg [iN n0,iN n1]) []/\∃ n3 n4,S 148 [iN h0.c.Lat] [] (.agg [iN n3,iN n4]) []/\∃ (I6:Nat->List AV->Prop),(∃ m8,I6 m8 [iN 0,iN 0,h0.av,.agg [iN n0,iN n1],.agg [iN n3,iN n4]])/\∀ (m8:Nat) (n9 n10 n11 n12 n13 n14 n15 n16:Int) (b17:Bool) (n18 n19 n20 n21:Int),I6 m8 [iN n9,iN n10,.agg [iN n11,iN n12,iN n13,iN n14,iN n15,iN n16,.bool b17],.agg [iN n18,iN n19],.agg [iN n20,iN n21]]->(decide (n10<3)=true->∃ n25 n26 n27 n28 n29 n30 n31 n32 n33 b34 n35 n36,S 149 [AV.ref 0 0,.ref 1 0,.ref 2 0] [[iN n18,iN n19],[iN n11,iN n12,iN n13,iN n14,iN n15,iN n16,.bool b17],[iN n20,iN n21]] (iN n25) [[iN n26,iN n27],[iN n28,iN n29,iN n30,iN n31,iN n32,iN n33,.bool b34],[iN n35,iN n36]]/\((n25 != 0)=true->Q (.tup [iN n25,TEncl.zero.av]) [])/\((n25 != 0)=false->∃ k40,k40<m8/\I6 k40 [iN n25,iN (IntKind.i64.wrap (n10+1)),.agg [iN n28,iN n29,iN n30,iN n31,iN n32,iN n33,.bool b34],.agg [iN n26,iN n27],.agg [iN n35,iN n36]]))/\(decide (n10<3)=false->Q (.tup [iN n9,.agg [iN n18,iN n19]]) [])
theorem E6 (h0:THalf) (v:AV) (O:List (List AV)) (h:HN h0 Sp Fo So (fun r O'=>r=v/\O'=O)):Sp 133 [h0.av] [] v O :=
 ye (w:=⟨[],[],[],[],[]⟩) (k:=0) (keep:=⟨[0,1,2,3,4,5,13,14,18],[⟨5,[(2,iN 0),(13,iN 0)],[],[(1,.agg [iN 0,iN 0,iN 0,iN 0,iN 0,iN 0,.bool false]),(3,.agg [iN 0,iN 0]),(4,.agg [iN 0,iN 0])],[],[],[]⟩],[],[]⟩) (boxes:=[]) mixed (by exact trivial) Tryz.func133 Tryz.call133 rfl rfl rfl (Nat.le_of_ble_eq_true rfl) (by kernel_rfl) h
theorem F8 (h:THalf):Sp 133 [h.av] [] (.tup [.int .i64 (Ys h).1,(Ys h).2.av]) []:=E6 h _ _ (by
 unfold HN
 refine ⟨_,_,Eb h,_,_,K8 h.c.Lat,?_⟩
 refine ⟨fun m vs=>∃ (k:Nat) (kd:Int) (w:TEncl),m+k=3/\vs=[.int .i64 kd,.int .i64 k,h.av,w.av,(TEncl.mk h.c.Lat h.c.Lat).av]/\U8 h m kd w=Ys h,⟨3,0,0,WM h,rfl,rfl,rfl⟩,?_⟩
 intro m
 intros
 rename_i hJ
 obtain ⟨k,kd,w,hm,hv,hp⟩:=hJ
 unfold TEncl.av TEncl.cs THalf.av THalf.cs at hv
 cases hv
 refine ⟨fun g=>?_,fun g=>?_⟩
 ·have hk:k<3:=by have:=zt_ g; omega
  obtain ⟨j,rfl⟩:∃ j,m=j+1:=⟨m-1,by omega⟩
  rw [JK] at hp
  refine ⟨_,_,_,_,_,_,_,_,_,_,_,_,Ec w h ⟨h.c.Lat,h.c.Lat⟩,fun g2=>⟨?_,by trivial⟩,fun g2=>⟨j,by omega,k+1,(jY w h ⟨h.c.Lat,h.c.Lat⟩).1,(jY w h ⟨h.c.Lat,h.c.Lat⟩).2,by omega,?_,?_⟩⟩
  ·have g2:(jY w h ⟨h.c.Lat,h.c.Lat⟩).1≠0:=by simpa using g2
   rw [if_pos g2] at hp
   rw [<- hp]; rfl
  ·rw [yq (by omega)]; rfl
  ·have g2:(jY w h ⟨h.c.Lat,h.c.Lat⟩).1=0:=by simpa using g2
   rw [if_neg (by simp [g2])] at hp
   exact hp
 ·have hk:¬ k<3:=by have:=zf_ g; omega
  obtain rfl:m=0:=by omega
  rw [JJ] at hp
  rw [<- hp]
  exact ⟨rfl,by trivial⟩)
def L3 (c:TSnCity) (day:Int) (w:TEncl):TEncl:=Yr w (IntKind.i64.wrap (IntKind.i64.wrap (43200+c.Zone)-IntKind.i64.wrap (86400*day)))
def Fq (c:TSnCity) (day:Int) (w:TEncl) (S:SpecF) (_Fr:FreshF) (_Sq:SeqF) (Q:yj):Prop :=
 ∃ n0 n1,S 158 [w.av,iN (IntKind.i64.wrap (IntKind.i64.wrap ((43200:Int)+c.Zone)-IntKind.i64.wrap ((86400:Int)*day)))] [] (.agg [iN n0,iN n1]) []/\Q (.agg [iN n0,iN n1]) []
theorem E7 (c:TSnCity) (day:Int) (w:TEncl) (v:AV) (O:List (List AV)) (h:Fq c day w Sp Fo So (fun r O'=>r=v/\O'=O)):Sp 134 [c.av,iN day,w.av] [] v O :=
 ye (w:=⟨[],[],[],[],[]⟩) (k:=0) (keep:=⟨[0,1,2,3,5,6],[],[],[]⟩) (boxes:=[]) mixed (by exact trivial) Tryz.func134 Tryz.call134 rfl rfl rfl (Nat.le_of_ble_eq_true rfl) (by kernel_rfl) h
theorem F9 (c:TSnCity) (day:Int) (w:TEncl):Sp 134 [c.av,.int .i64 day,w.av] [] (L3 c day w).av []:=E7 c day w _ _ ⟨_,_,Pe _ _,rfl,rfl⟩
def kj (h:THalf):Int × TEncl × Int :=
 if Y8 h.c then (0,⟨0,0⟩,7) else if qu h.day 0 40000 then (0,⟨0,0⟩,7) else if (Ys h).1=0 then ((Ys h).1,L3 h.c h.day (Ys h).2,0) else ((Ys h).1,⟨0,0⟩,0)
def HL (h0:THalf) (S:SpecF) (_Fr:FreshF) (_Sq:SeqF) (Q:yj):Prop :=
 ∃ n0,S 60 [h0.c.av] [] (iN n0) []/\((n0 != 0)=true->Q (.tup [iN 0,TEncl.zero.av,iN 7]) [])/\((n0 != 0)=false->∃ b4,S 109 [iN h0.day,iN 0,iN 40000] [] (.bool b4) []/\(b4=true->Q (.tup [iN 0,TEncl.zero.av,iN 7]) [])/\(b4=false->∃ n8 n9 n10,S 133 [h0.av] [] (.tup [iN n8,.agg [iN n9,iN n10]]) []/\((n8 == 0)=true->∃ n14 n15,S 134 [h0.c.av,iN h0.day,.agg [iN n9,iN n10]] [] (.agg [iN n14,iN n15]) []/\Q (.tup [iN n8,.agg [iN n14,iN n15],iN 0]) [])/\((n8 == 0)=false->Q (.tup [iN n8,TEncl.zero.av,iN 0]) [])))
theorem E1 (h0:THalf) (v:AV) (O:List (List AV)) (h:HL h0 Sp Fo So (fun r O'=>r=v/\O'=O)):Sp 118 [h0.av] [] v O :=
 ye (w:=⟨[],[],[],[],[]⟩) (k:=0) (keep:=⟨[0,1,2,3,4,5,14,22],[],[],[]⟩) (boxes:=[]) mixed (by exact trivial) Tryz.func118 Tryz.call118 rfl rfl rfl (Nat.le_of_ble_eq_true rfl) (by kernel_rfl) h
theorem Gm (h:THalf):Sp 118 [h.av] [] (.tup [.int .i64 (kj h).1,(kj h).2.1.av,.int .i64 (kj h).2.2]) []:=E1 h _ _ (by
 unfold HL kj
 refine ⟨_,c60 h.c,fun g=>⟨?_,by trivial⟩,fun g=>⟨_,Nr ..,fun g2=>⟨?_,by trivial⟩,fun g2=>⟨_,_,_,F8 h,fun g3=>⟨_,_,F9 h.c h.day (Ys h).2,?_,by trivial⟩,fun g3=>⟨?_,by trivial⟩⟩⟩⟩
 ·cases hc:Y8 h.c with
  | true=>rfl
  | false=>rw [hc] at g; simp at g
 all_goals
  cases hc:Y8 h.c with
  | true=>rw [hc] at g; simp at g
  | false=>?_
 ·rw [if_neg (by simp),if_pos g2]; rfl
 ·have g3:(Ys h).1=0:=by simpa using g3
  rw [if_neg (by simp),if_neg (by rw [g2]; simp),if_pos g3]; rfl
 ·have g3:¬ (Ys h).1=0:=by simpa using g3
  rw [if_neg (by simp),if_neg (by rw [g2]; simp),if_neg g3]; rfl)
def R83 (c:TSnCity) (day:Int) (S:SpecF) (_Fr:FreshF) (_Sq:SeqF) (Q:yj):Prop :=
 ∃ n0 n1 n2 n3,S 118 [AV.agg [iN c.Lat,iN c.Lon,iN c.Zone,iN c.Altitude.Lo,iN c.Altitude.Hi,iN day,.bool true]] [] (.tup [iN n0,.agg [iN n1,iN n2],iN n3]) []/\Q (.tup [iN n0,.agg [iN n1,iN n2],iN n3]) []
theorem s83 (c:TSnCity) (day:Int) (v:AV) (O:List (List AV)) (h:R83 c day Sp Fo So (fun r O'=>r=v/\O'=O)):Sp 83 [c.av,iN day] [] v O :=
 ye (w:=⟨[],[],[],[],[]⟩) (k:=0) (keep:=⟨[0,1,2,4,5,6],[],[],[]⟩) (boxes:=[]) mixed (by exact trivial) Tryz.func83 Tryz.call83 rfl rfl rfl (Nat.le_of_ble_eq_true rfl) (by kernel_rfl) h
theorem c83 (c:TSnCity) (day:Int):Sp 83 [c.av,.int .i64 day] [] (.tup [.int .i64 (kj ⟨c,day,true⟩).1,(kj ⟨c,day,true⟩).2.1.av,.int .i64 (kj ⟨c,day,true⟩).2.2]) []:=s83 c day _ _ ⟨_,_,_,_,Gm ⟨c,day,true⟩,rfl,rfl⟩
def R84 (c:TSnCity) (day:Int) (S:SpecF) (_Fr:FreshF) (_Sq:SeqF) (Q:yj):Prop :=
 ∃ n0 n1 n2 n3,S 118 [AV.agg [iN c.Lat,iN c.Lon,iN c.Zone,iN c.Altitude.Lo,iN c.Altitude.Hi,iN day,.bool false]] [] (.tup [iN n0,.agg [iN n1,iN n2],iN n3]) []/\Q (.tup [iN n0,.agg [iN n1,iN n2],iN n3]) []
theorem s84 (c:TSnCity) (day:Int) (v:AV) (O:List (List AV)) (h:R84 c day Sp Fo So (fun r O'=>r=v/\O'=O)):Sp 84 [c.av,iN day] [] v O :=
 ye (w:=⟨[],[],[],[],[]⟩) (k:=0) (keep:=⟨[0,1,2,4,5,6],[],[],[]⟩) (boxes:=[]) mixed (by exact trivial) Tryz.func84 Tryz.call84 rfl rfl rfl (Nat.le_of_ble_eq_true rfl) (by kernel_rfl) h
theorem c84 (c:TSnCity) (day:Int):Sp 84 [c.av,.int .i64 day] [] (.tup [.int .i64 (kj ⟨c,day,false⟩).1,(kj ⟨c,day,false⟩).2.1.av,.int .i64 (kj ⟨c,day,false⟩).2.2]) []:=s84 c day _ _ ⟨_,_,_,_,Gm ⟨c,day,false⟩,rfl,rfl⟩
end Go.Proofs.YtdeeekgohhkdbaaGreatDoor
