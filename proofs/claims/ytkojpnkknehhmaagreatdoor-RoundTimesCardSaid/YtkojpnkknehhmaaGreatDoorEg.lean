/- Contracts: where the sun is. Contracts: when the sun sets and rises, nights. Contracts: when the sun rises, and sets. -/
import Derived.Test.YtkojpnkknehhmaaGreatDoorEc
namespace Go.Proofs.YtkojpnkknehhmaaGreatDoor
open Go.IntKind (wrap i64 u64)
open Go.RowKit
def yz (n lo hi:Int):Bool:=decide (n<lo) || decide (n>hi)
def R81 (n lo hi:Int) (Q:yc):Prop :=
 (decide (n<lo)=true->Q (.bool true) [])/\(decide (n<lo)=false->Q (.bool (decide (n>hi))) [])
theorem s81 (n lo hi:Int) (v O) (h:R81 n lo hi (fun r O'=>r=v/\O'=O)):Sp 81 [iN n,iN lo,iN hi] [] v O :=
 zS ⟨[0,1,2,6],[],[],[]⟩ Tryz.func81 Tryz.call81 rfl (by kernel_rfl) h
theorem c81 (n lo hi:Int):Sp 81 [.int .i64 n,.int .i64 lo,.int .i64 hi] [] (.bool (yz n lo hi)) []:=s81 n lo hi _ _ (by
 unfold R81 yz;refine⟨fun h=>⟨?_,by trivial⟩,fun h=>⟨?_,by trivial⟩⟩
 ·rw[h];rfl
 ·rw[h];rfl)
def wI (c:TSnCity):Bool:=yz c.Lat (-88000000) 88000000 || (yz c.Lon (-180000000) 180000000 || (yz c.Zone (-50400) 50400 || (yz c.Altitude.Hi (-18000000) 0 || yz c.Altitude.Lo (-18000000) c.Altitude.Hi)))
def R28 (c:TSnCity) (Q:yc):Prop :=
 ∃b0,Sp 81 [iN c.Lat,iN (-88000000:Int),iN 88000000] [] (.bool b0) []/\(b0=true->Q (iN 7) [])/\(b0=false->∃b4,Sp 81 [iN c.Lon,iN (-180000000:Int),iN 180000000] [] (.bool b4) []/\(b4=true->Q (iN 7) [])/\(b4=false->∃b8,Sp 81 [iN c.Zone,iN (-50400:Int),iN 50400] [] (.bool b8) []/\(b8=true->Q (iN 7) [])/\(b8=false->∃b12,Sp 81 [iN c.Altitude.Hi,iN (-18000000:Int),iN 0] [] (.bool b12) []/\(b12=true->Q (iN 7) [])/\(b12=false->∃b16,Sp 81 [iN c.Altitude.Lo,iN (-18000000:Int),iN c.Altitude.Hi] [] (.bool b16) []/\(b16=true->Q (iN 7) [])/\(b16=false->Q (iN 0) [])))))
theorem s28 (c:TSnCity) (v O) (h:R28 c (fun r O'=>r=v/\O'=O)):Sp 28 [c.av] [] v O :=
 zS ⟨[0,1,2,3,30],[],[],[]⟩ Tryz.func28 Tryz.call28 rfl (by kernel_rfl) h
theorem c28 (c:TSnCity):Sp 28 [c.av] [] (.int .i64 (if wI c then 7 else 0)) []:=s28 c _ _ (by
 unfold R28 wI;refine⟨_,c81 ..,fun h=>⟨?_,by trivial⟩,fun h1=>⟨_,c81 ..,fun h=>⟨?_,by trivial⟩,fun h2=>⟨_,c81 ..,fun h=>⟨?_,by trivial⟩,fun h3=>⟨_,c81 ..,fun h=>⟨?_,by trivial⟩,fun h4=>⟨_,c81 ..,fun h=>⟨?_,by trivial⟩,fun h=>⟨?_,by trivial⟩⟩⟩⟩⟩⟩
 ·rw[h];rfl
 ·rw[h1,h];rfl
 ·rw[h1,h2,h];rfl
 ·rw[h1,h2,h3,h];rfl
 ·rw[h1,h2,h3,h4,h];rfl
 ·rw[h1,h2,h3,h4,h];rfl)
def qN (a b:Int):Int:=if a.tmod b<0 then wrap i64 (wrap i64 (a.tdiv b)-1) else wrap i64 (a.tdiv b)
def FW (a b:Int) (Q:yc):Prop :=
 b≠0/\b≠0/\(decide (a.tmod b<0)=true->Q (iN (wrap i64 (wrap i64 (a.tdiv b)-1))) [])/\(decide (a.tmod b<0)=false->Q (iN (wrap i64 (a.tdiv b))) [])
theorem zdT (a b:Int) (v O) (h:FW a b (fun r O'=>r=v/\O'=O)):Sp 209 [iN a,iN b] [] v O :=
 zS ⟨[0,1,4,5,12],[],[],[]⟩ Tryz.func209 Tryz.call209 rfl (by kernel_rfl) h
theorem Gh (a b:Int) (hb:b≠0):Sp 209 [.int .i64 a,.int .i64 b] [] (.int .i64 (qN a b)) []:=zdT a b _ _ (by
 unfold FW qN;refine⟨hb,hb,fun h=>⟨?_,by trivial⟩,fun h=>⟨?_,by trivial⟩⟩
 ·rw[if_pos (zt_ h)]
 ·rw[if_neg (zf_ h)])
def yG (x:TEncl) (n d:Int):TEncl:=⟨qN (wrap i64 (n*x.Lo)) d,wrap i64 (0-qN (wrap i64 (wrap i64 (0-n)*x.Hi)) d)⟩
def za3 (x:TEncl) (n d:Int) (Q:yc):Prop :=
 ∃n0,Sp 209 [iN (wrap i64 (n*x.Lo)),iN d] [] (iN n0) []/\∃n2,Sp 209 [iN (wrap i64 (wrap i64 ((0:Int)-n)*x.Hi)),iN d] [] (iN n2) []/\Q (.agg [iN n0,iN (wrap i64 ((0:Int)-n2))]) []
theorem zds (x:TEncl) (n d:Int) (v O) (h:za3 x n d (fun r O'=>r=v/\O'=O)):Sp 180 [x.av,iN n,iN d] [] v O :=
 zS ⟨[0,1,2,3,6],[],[],[]⟩ Tryz.func180 Tryz.call180 rfl (by kernel_rfl) h
theorem QB (x:TEncl) (n d:Int) (hd:d≠0):Sp 180 [x.av,.int .i64 n,.int .i64 d] [] (yG x n d).av []:=zds x n d _ _ ⟨_,Gh _ _ hd,_,Gh _ _ hd,rfl,rfl⟩
def jN (x:TEncl) (n:Int):TEncl:=⟨wrap i64 (x.Lo+n),wrap i64 (x.Hi+n)⟩
def za2 (x:TEncl) (n:Int) (Q:yc):Prop :=
 Q (.agg [iN (wrap i64 (x.Lo+n)),iN (wrap i64 (x.Hi+n))]) []
theorem zdr (x:TEncl) (n:Int) (v O) (h:za2 x n (fun r O'=>r=v/\O'=O)):Sp 179 [x.av,iN n] [] v O :=
 zS ⟨[0,1,2,4],[],[],[]⟩ Tryz.func179 Tryz.call179 rfl (by kernel_rfl) h
theorem Oa (x:TEncl) (n:Int):Sp 179 [x.av,.int .i64 n] [] (jN x n).av []:=zdr x n _ _ ⟨rfl,rfl⟩
def q9 (x y:TEncl):TEncl:=⟨wrap i64 (x.Lo+y.Lo),wrap i64 (x.Hi+y.Hi)⟩
def wv (l:List TEncl):TEncl:=l.foldl q9 ⟨0,0⟩
def FK (l:List TEncl) (Q:yc):Prop :=
 ∃(I0:Nat->List AV->Prop),(∃m2,I0 m2 [iN 0,TEncl.zero.av])/\∀(m2:Nat) (n3 n4 n5:Int),I0 m2 [iN n3,.agg [iN n4,iN n5]]->(decide (n3<(↑(List.map TEncl.av l).length:Int))=true->∃n9 n10,((0:Int)<=n3/\(2:Nat)=(2:Nat)/\(List.map TEncl.av l)[n3.toNat]? = some (.agg [iN n9,iN n10]))/\∃k12,k12<m2/\I0 k12 [iN (wrap i64 (n3+1)),.agg [iN (wrap i64 (n4+n9)),iN (wrap i64 (n5+n10))]])/\(decide (n3<(↑(List.map TEncl.av l).length:Int))=false->Q (.agg [iN n4,iN n5]) [])
theorem zdk (l:List TEncl) (v O) (h:FK l (fun r O'=>r=v/\O'=O)):Sp 172 [.slc 3 (List.map TEncl.av l)] [] v O :=
 zS ⟨[0,2,4,5,6,7,8],[⟨2,[(7,iN 0)],[],[(2,.agg [iN 0,iN 0])],[],[],[]⟩],[],[]⟩ Tryz.func172 Tryz.call172 rfl (by kernel_rfl) h
theorem Qz (l:List TEncl) (hl:l.length<=1000000):Sp 172 [.slc 3 (l.map TEncl.av)] [] (wv l).av []:=zdk l _ _ (by
 unfold FK wv;refine⟨fun m vs=>∃k:Nat,k<=l.length/\m=l.length-k/\vs=[.int .i64 k,((l.take k).foldl q9 ⟨0,0⟩).av],⟨_,0,by omega,rfl,rfl⟩,?_⟩;rintro m n3 n4 n5 ⟨k,hk,rfl,hv⟩;generalize he:(l.take k).foldl q9 ⟨0,0⟩=e at hv;have hv':=hv;unfold TEncl.av TEncl.cs at hv';simp only[List.cons.injEq,AV.int.injEq,true_and,AV.agg.injEq,and_true] at hv';obtain ⟨rfl,rfl,rfl⟩:=hv';simp only[List.length_map];refine⟨fun g=>?_,fun g=>?_⟩
 ·have hlt:k<l.length:=by simpa using g
  obtain ⟨y,hy,hy'⟩:=yq (f:=TEncl.av) hlt;refine⟨y.Lo,y.Hi,⟨by omega,by trivial,hy'⟩,_,(by omega:l.length-(k+1)<l.length-k),k+1,by omega,rfl,?_⟩;rw[yr (by omega),XN q9 _ hy,he];rfl
 ·obtain rfl:k=l.length:=by simp at g;omega
  rw[List.take_length] at he;subst he;exact⟨rfl,by trivial⟩)
def za0 (x:TEncl) (Q:yc):Prop :=
 Q (.agg [iN (wrap i64 ((0:Int)-x.Hi)),iN (wrap i64 ((0:Int)-x.Lo))]) []
theorem zdm (x:TEncl) (v O) (h:za0 x (fun r O'=>r=v/\O'=O)):Sp 174 [x.av] [] v O :=
 zS ⟨[0,1,2],[],[],[]⟩ Tryz.func174 Tryz.call174 rfl (by kernel_rfl) h
theorem QA (e:TEncl):Sp 174 [e.av] [] (qn e).av []:=zdm e _ _ ⟨rfl,rfl⟩
def Xv (x:TEncl):TEncl:=jN x (wrap i64 (-360000000*qN x.Lo 360000000))
def zbf (x:TEncl) (Q:yc):Prop :=
 ∃n0,Sp 209 [iN x.Lo,iN 360000000] [] (iN n0) []/\∃n2 n3,Sp 179 [x.av,iN (wrap i64 ((-360000000:Int)*n0))] [] (.agg [iN n2,iN n3]) []/\Q (.agg [iN n2,iN n3]) []
theorem zdI (x:TEncl) (v O) (h:zbf x (fun r O'=>r=v/\O'=O)):Sp 196 [x.av] [] v O :=
 zS ⟨[0,1,2],[],[],[]⟩ Tryz.func196 Tryz.call196 rfl (by kernel_rfl) h
theorem Gg (x:TEncl):Sp 196 [x.av] [] (Xv x).av []:=zdI x _ _ ⟨_,Gh _ _ (by omega),_,_,Oa _ _,rfl,rfl⟩
def zaY (n:Int) (Q:yc):Prop :=
 Q (.agg [iN n,iN n]) []
theorem zdh (n:Int) (v O) (h:zaY n (fun r O'=>r=v/\O'=O)):Sp 169 [iN n] [] v O :=
 zS ⟨[0,2],[],[],[]⟩ Tryz.func169 Tryz.call169 rfl (by kernel_rfl) h
theorem J8 (n:Int):Sp 169 [.int .i64 n] [] (TEncl.mk n n).av []:=zdh n _ _ ⟨rfl,rfl⟩
def kR:TEncl:=⟨-10000,10000⟩
def zbg (Q:yc):Prop :=
 Q (.agg [iN (-10000:Int),iN 10000]) []
theorem zdJ  (v O) (h:zbg (fun r O'=>r=v/\O'=O)):Sp 197 [] [] v O :=
 zS ⟨[0],[],[],[]⟩ Tryz.func197 Tryz.call197 rfl (by kernel_rfl) h
theorem DN:Sp 197 [] [] kR.av []:=zdJ _ _ ⟨rfl,rfl⟩
def zaZ (x:TEncl) (Q:yc):Prop :=
 ∃n0 n1 n2,Sp 199 [x.av] [] (.tup [AV.agg [iN n0,iN n1],iN n2]) []/\Q (.agg [iN n0,iN n1]) []
theorem zdl (x:TEncl) (v O) (h:zaZ x (fun r O'=>r=v/\O'=O)):Sp 173 [x.av] [] v O :=
 zS ⟨[0,1,2,3],[],[],[]⟩ Tryz.func173 Tryz.call173 rfl (by kernel_rfl) h
theorem L6 (x:TEncl):Sp 173 [x.av] [] (yW x 0).1.av []:=zdl x _ _ ⟨_,_,_,zb3 x,rfl,rfl⟩
def za1 (x:TEncl) (Q:yc):Prop :=
 ∃n0 n1 n2,Sp 204 [x.av] [] (.tup [AV.agg [iN n0,iN n1],iN n2]) []/\Q (.agg [iN n0,iN n1]) []
theorem zdp (x:TEncl) (v O) (h:za1 x (fun r O'=>r=v/\O'=O)):Sp 177 [x.av] [] v O :=
 zS ⟨[0,1,2,3],[],[],[]⟩ Tryz.func177 Tryz.call177 rfl (by kernel_rfl) h
theorem DF (x:TEncl):Sp 177 [x.av] [] (yW x 90000000).1.av []:=zdp x _ _ ⟨_,_,_,zb6 x,rfl,rfl⟩
def vV (x:TEncl) (l:List TEncl):TEncl:=l.foldl (fun x y=>(jE x y).1) x
def FL (x:TEncl) (l:List TEncl) (Q:yc):Prop :=
 ∃(I0:Nat->List AV->Prop),(∃m2,I0 m2 [iN 0,x.av])/\∀(m2:Nat) (n3 n4 n5:Int),I0 m2 [iN n3,.agg [iN n4,iN n5]]->(decide (n3<(↑(List.map TEncl.av l).length:Int))=true->∃n9 n10,((0:Int)<=n3/\(2:Nat)=(2:Nat)/\(List.map TEncl.av l)[n3.toNat]? = some (.agg [iN n9,iN n10]))/\∃n12 n13 n14,Sp 200 [AV.agg [iN n4,iN n5],.agg [iN n9,iN n10]] [] (.tup [AV.agg [iN n12,iN n13],iN n14]) []/\TEncl.z0=TEncl.z0/\∃k17,k17<m2/\I0 k17 [iN (wrap i64 (n3+1)),.agg [iN n12,iN n13]])/\(decide (n3<(↑(List.map TEncl.av l).length:Int))=false->Q (.agg [iN n4,iN n5]) [])
theorem zdn (x:TEncl) (l:List TEncl) (v O) (h:FL x l (fun r O'=>r=v/\O'=O)):Sp 175 [x.av,.slc 3 (List.map TEncl.av l)] [] v O :=
 zS ⟨[0,1,2,4,6,7,8,9,10],[⟨2,[(9,iN 0)],[],[(2,.agg [iN 0,iN 0])],[],[],[]⟩],[],[]⟩ Tryz.func175 Tryz.call175 rfl (by kernel_rfl) h
theorem Gd (x:TEncl) (l:List TEncl) (hl:l.length<=1000000):Sp 175 [x.av,.slc 3 (l.map TEncl.av)] [] (vV x l).av []:=zdn x l _ _ (by
 unfold FL vV;refine⟨fun m vs=>∃k:Nat,k<=l.length/\m=l.length-k/\vs=[.int .i64 k,((l.take k).foldl (fun x y=>(jE x y).1) x).av],⟨_,0,by omega,rfl,rfl⟩,?_⟩;rintro m n3 n4 n5 ⟨k,hk,rfl,hv⟩;generalize he:(l.take k).foldl (fun x y=>(jE x y).1) x=e at hv;have hv':=hv;unfold TEncl.av TEncl.cs at hv';simp only[List.cons.injEq,AV.int.injEq,true_and,AV.agg.injEq,and_true] at hv';obtain ⟨rfl,rfl,rfl⟩:=hv';simp only[List.length_map];refine⟨fun g=>?_,fun g=>?_⟩
 ·have hlt:k<l.length:=by simpa using g
  obtain ⟨y,hy,hy'⟩:=yq (f:=TEncl.av) hlt;refine⟨y.Lo,y.Hi,⟨by omega,by trivial,hy'⟩,_,_,_,zb4 e y,by trivial,_,(by omega:l.length-(k+1)<l.length-k),k+1,by omega,rfl,?_⟩;rw[yr (by omega),XN (fun x y=>(jE x y).1) _ hy,he];rfl
 ·obtain rfl:k=l.length:=by simp at g;omega
  rw[List.take_length] at he;subst he;exact⟨rfl,by trivial⟩)
def xM (size times:Int) (x:TEncl):TEncl:=yG (yW (yG x times 1) 0).1 size 100000000
def zbe (size times:Int) (x:TEncl) (Q:yc):Prop :=
 ∃n0 n1,Sp 180 [x.av,iN times,iN 1] [] (.agg [iN n0,iN n1]) []/\∃n3 n4,Sp 173 [AV.agg [iN n0,iN n1]] [] (.agg [iN n3,iN n4]) []/\∃n6 n7,Sp 180 [AV.agg [iN n3,iN n4],iN size,iN 100000000] [] (.agg [iN n6,iN n7]) []/\Q (.agg [iN n6,iN n7]) []
theorem zdH (size times:Int) (x:TEncl) (v O) (h:zbe size times x (fun r O'=>r=v/\O'=O)):Sp 195 [iN size,iN times,x.av] [] v O :=
 zS ⟨[0,1,2,5,6],[],[],[]⟩ Tryz.func195 Tryz.call195 rfl (by kernel_rfl) h
theorem Ib (size times:Int) (x:TEncl):Sp 195 [.int .i64 size,.int .i64 times,x.av] [] (xM size times x).av []:=zdH size times x _ _ ⟨_,_,QB x times 1 (by omega),_,_,L6 _,_,_,QB _ size 100000000 (by omega),rfl,rfl⟩
def Tn (w:TEncl):TEncl:=Xv (jN (yG w 98564736 8640000) 280459000)
def kZ (w:TEncl):TEncl:=Xv (jN (yG w 98560028 8640000) 357528000)
def wb (w:TEncl):TEncl:=wv [xM 1915000 1 (kZ w),xM 20000 2 (kZ w)]
def xq (w:TEncl):TEncl:=Xv (wv [Tn w,wb w,kR])
def Xt (w:TEncl):TEncl:=jN (qn (yG w 36 8640000)) 23439000
def ND (w:TEncl):TEncl:=vV (yW (Xt w) 0).1 [(yW (xq w) 0).1]
def jm (w:TEncl):TSky:=⟨ND w,(yW (xx (ND w)).1 90000000).1,wv [xM 2466000 2 (xq w),qn (wb w),qn (xM 53000 4 (xq w)),kR]⟩
def FJ (w:TEncl) (Q:yc):Prop :=
 ∃n0 n1,Sp 180 [w.av,iN 98560028,iN 8640000] [] (.agg [iN n0,iN n1]) []/\∃n3 n4,Sp 179 [AV.agg [iN n0,iN n1],iN 357528000] [] (.agg [iN n3,iN n4]) []/\∃n6 n7,Sp 196 [AV.agg [iN n3,iN n4]] [] (.agg [iN n6,iN n7]) []/\∃n9 n10,Sp 180 [w.av,iN 98564736,iN 8640000] [] (.agg [iN n9,iN n10]) []/\∃n12 n13,Sp 179 [AV.agg [iN n9,iN n10],iN 280459000] [] (.agg [iN n12,iN n13]) []/\∃n15 n16,Sp 196 [AV.agg [iN n12,iN n13]] [] (.agg [iN n15,iN n16]) []/\∃n18 n19,Sp 195 [iN 1915000,iN 1,.agg [iN n6,iN n7]] [] (.agg [iN n18,iN n19]) []/\∃n21 n22,Sp 195 [iN 20000,iN 2,.agg [iN n6,iN n7]] [] (.agg [iN n21,iN n22]) []/\∃n24 n25,Sp 172 [AV.slc 3 [AV.agg [iN n18,iN n19],.agg [iN n21,iN n22]]] [] (.agg [iN n24,iN n25]) []/\∃n27 n28,Sp 197 [] [] (.agg [iN n27,iN n28]) []/\∃n30 n31,Sp 172 [AV.slc 3 [AV.agg [iN n15,iN n16],.agg [iN n24,iN n25],.agg [iN n27,iN n28]]] [] (.agg [iN n30,iN n31]) []/\∃n33 n34,Sp 196 [AV.agg [iN n30,iN n31]] [] (.agg [iN n33,iN n34]) []/\∃n36 n37,Sp 180 [w.av,iN 36,iN 8640000] [] (.agg [iN n36,iN n37]) []/\∃n39 n40,Sp 174 [AV.agg [iN n36,iN n37]] [] (.agg [iN n39,iN n40]) []/\∃n42 n43,Sp 179 [AV.agg [iN n39,iN n40],iN 23439000] [] (.agg [iN n42,iN n43]) []/\∃n45 n46,Sp 173 [AV.agg [iN n42,iN n43]] [] (.agg [iN n45,iN n46]) []/\∃n48 n49,Sp 173 [AV.agg [iN n33,iN n34]] [] (.agg [iN n48,iN n49]) []/\∃n51 n52,Sp 175 [AV.agg [iN n45,iN n46],.slc 3 [AV.agg [iN n48,iN n49]]] [] (.agg [iN n51,iN n52]) []/\∃n54 n55 n56,Sp 198 [AV.agg [iN n51,iN n52]] [] (.tup [AV.agg [iN n54,iN n55],iN n56]) []/\∃n58 n59,Sp 177 [AV.agg [iN n54,iN n55]] [] (.agg [iN n58,iN n59]) []/\∃n61 n62,Sp 195 [iN 2466000,iN 2,.agg [iN n33,iN n34]] [] (.agg [iN n61,iN n62]) []/\∃n64 n65,Sp 174 [AV.agg [iN n24,iN n25]] [] (.agg [iN n64,iN n65]) []/\∃n67 n68,Sp 195 [iN 53000,iN 4,.agg [iN n33,iN n34]] [] (.agg [iN n67,iN n68]) []/\∃n70 n71,Sp 174 [AV.agg [iN n67,iN n68]] [] (.agg [iN n70,iN n71]) []/\∃n73 n74,Sp 197 [] [] (.agg [iN n73,iN n74]) []/\∃n76 n77,Sp 172 [AV.slc 3 [AV.agg [iN n61,iN n62],.agg [iN n64,iN n65],.agg [iN n70,iN n71],.agg [iN n73,iN n74]]] [] (.agg [iN n76,iN n77]) []/\Q (.agg [iN n51,iN n52,iN n58,iN n59,iN n76,iN n77]) []
theorem zdj (w:TEncl) (v O) (h:FJ w (fun r O'=>r=v/\O'=O)):Sp 171 [w.av] [] v O :=
 zS ⟨[0,1,2,3,4,5,6,7,8,9,10],[],[],[]⟩ Tryz.func171 Tryz.call171 rfl (by kernel_rfl) h
theorem zbW (w:TEncl):Sp 171 [w.av] [] (jm w).av []:=zdj w _ _ (by
 unfold FJ;have ha:Sp 196 [(jN (yG w 98560028 8640000) 357528000).av] [] (kZ w).av []:=Gg _;have hl:Sp 196 [(jN (yG w 98564736 8640000) 280459000).av] [] (Tn w).av []:=Gg _;have hc:Sp 172 [.slc 3 [(xM 1915000 1 (kZ w)).av,(xM 20000 2 (kZ w)).av]] [] (wb w).av []:=Qz [xM 1915000 1 (kZ w),xM 20000 2 (kZ w)] (by simp);have he:Sp 172 [.slc 3 [(Tn w).av,(wb w).av,kR.av]] [] (wv [Tn w,wb w,kR]).av []:=Qz [Tn w,wb w,kR] (by simp);have he2:Sp 196 [(wv [Tn w,wb w,kR]).av] [] (xq w).av []:=Gg _;have ht:Sp 179 [(qn (yG w 36 8640000)).av,.int .i64 23439000] [] (Xt w).av []:=Oa _ _;have hd:Sp 175 [(yW (Xt w) 0).1.av,.slc 3 [(yW (xq w) 0).1.av]] [] (ND w).av []:=Gd (yW (Xt w) 0).1 [(yW (xq w) 0).1] (by simp);have hq:Sp 172 [.slc 3 [(xM 2466000 2 (xq w)).av,(qn (wb w)).av,(qn (xM 53000 4 (xq w))).av,kR.av]] [] (jm w).equation.av []:=Qz [xM 2466000 2 (xq w),qn (wb w),qn (xM 53000 4 (xq w)),kR] (by simp);refine⟨_,_,QB w 98560028 8640000 (by omega),_,_,Oa _ _,_,_,ha,_,_,QB w 98564736 8640000 (by omega),_,_,Oa _ _,_,_,hl,_,_,Ib 1915000 1 (kZ w),_,_,Ib 20000 2 (kZ w),_,_,hc,_,_,DN,_,_,he,_,_,he2,?_⟩;refine⟨_,_,QB w 36 8640000 (by omega),_,_,QA _,_,_,ht,_,_,L6 (Xt w),_,_,L6 (xq w),_,_,hd,_,_,_,zb2 (ND w),?_⟩;exact⟨_,_,DF _,_,_,Ib 2466000 2 (xq w),_,_,QA (wb w),_,_,Ib 53000 4 (xq w),_,_,QA _,_,_,DN,_,_,hq,rfl,rfl⟩)
def xf (h:THalf):TEncl:=jN (qn (yG ⟨h.c.Lon,h.c.Lon⟩ 3 12500)) (wrap i64 (86400*h.day))
def vP (h:THalf):TEncl:=if h.rise then wv [xf h,⟨-44400,1200⟩] else wv [xf h,⟨-1200,44400⟩]
def FH (h0:THalf) (Q:yc):Prop :=
 ∃n0 n1,Sp 169 [iN h0.c.Lon] [] (.agg [iN n0,iN n1]) []/\∃n3 n4,Sp 180 [AV.agg [iN n0,iN n1],iN 3,iN 12500] [] (.agg [iN n3,iN n4]) []/\∃n6 n7,Sp 174 [AV.agg [iN n3,iN n4]] [] (.agg [iN n6,iN n7]) []/\∃n9 n10,Sp 179 [AV.agg [iN n6,iN n7],iN (wrap i64 ((86400:Int)*h0.day))] [] (.agg [iN n9,iN n10]) []/\(h0.rise=true->∃n14 n15,Sp 172 [AV.slc 3 [AV.agg [iN n9,iN n10],.agg [iN (-44400:Int),iN 1200]]] [] (.agg [iN n14,iN n15]) []/\Q (.agg [iN n14,iN n15]) [])/\(h0.rise=false->∃n14 n15,Sp 172 [AV.slc 3 [AV.agg [iN n9,iN n10],.agg [iN (-1200:Int),iN 44400]]] [] (.agg [iN n14,iN n15]) []/\Q (.agg [iN n14,iN n15]) [])
theorem zdg (h0:THalf) (v O) (h:FH h0 (fun r O'=>r=v/\O'=O)):Sp 168 [h0.av] [] v O :=
 zS ⟨[0,1,2,3,15],[],[],[]⟩ Tryz.func168 Tryz.call168 rfl (by kernel_rfl) h
theorem zbU (h:THalf):Sp 168 [h.av] [] (vP h).av []:=zdg h _ _ (by
 unfold FH vP;have hn:Sp 179 [(qn (yG ⟨h.c.Lon,h.c.Lon⟩ 3 12500)).av,.int .i64 (wrap i64 (86400*h.day))] [] (xf h).av []:=Oa _ _;have hs1:Sp 172 [.slc 3 [(xf h).av,.agg [.int .i64 (-44400),.int .i64 1200]]] [] (wv [xf h,⟨-44400,1200⟩]).av []:=Qz [xf h,⟨-44400,1200⟩] (by simp);have hs2:Sp 172 [.slc 3 [(xf h).av,.agg [.int .i64 (-1200),.int .i64 44400]]] [] (wv [xf h,⟨-1200,44400⟩]).av []:=Qz [xf h,⟨-1200,44400⟩] (by simp);generalize wv [xf h,⟨-44400,1200⟩]=r1 at *;generalize wv [xf h,⟨-1200,44400⟩]=r2 at *;generalize xf h=no at *;refine⟨_,_,J8 h.c.Lon,_,_,QB ⟨h.c.Lon,h.c.Lon⟩ 3 12500 (by omega),_,_,QA _,_,_,hn,fun g=>⟨_,_,hs1,?_,by trivial⟩,fun g=>⟨_,_,hs2,?_,by trivial⟩⟩
 ·rw[if_pos g];rfl
 ·rw[if_neg (by rw[g];simp)];rfl)
def JN (w:TEncl) (h:THalf) (lat:TEncl):TEncl:=wv [(yW h.c.Altitude 0).1,qn (vV (yW lat 0).1 [(jm w).sin])]
def qS (w:TEncl) (h:THalf) (lat:TEncl):TEncl:=(xF (JN w h lat) (vV (yW lat 90000000).1 [(jm w).cos])).1
def ux (w:TEncl) (h:THalf) (lat:TEncl):TEncl:=if h.rise then qn (yX (qS w h lat)).1 else (yX (qS w h lat)).1
def NX (w:TEncl) (h:THalf) (lat:TEncl):TEncl:=jN (yG (wv [ux w h lat,⟨wrap i64 (0-h.c.Lon),wrap i64 (0-h.c.Lon)⟩,qn (jm w).equation]) 3 12500) (wrap i64 (86400*h.day))
def qK (w:TEncl) (h:THalf) (lat:TEncl):Int × TEncl :=
 if (qS w h lat).Lo>100000000 then (1,w) else if (qS w h lat).Hi < -100000000 then (2,w) else if (qS w h lat).Lo < -100000000 then (3,w) else if (qS w h lat).Hi>100000000 then (3,w) else (0,NX w h lat)
abbrev PW (v1:THalf) (v2:TEncl) (Q:yc) (p0_ p1_ p2_ p3_:Int):Prop :=
 ∃n49 n50,Sp 169 [iN (wrap i64 ((0:Int)-v1.c.Lon))] [] (.agg [iN n49,iN n50]) []/\∃n52 n53,Sp 174 [AV.agg [iN p0_,iN p1_]] [] (.agg [iN n52,iN n53]) []/\∃n55 n56,Sp 172 [AV.slc 3 [AV.agg [iN p2_,iN p3_],.agg [iN n49,iN n50],.agg [iN n52,iN n53]]] [] (.agg [iN n55,iN n56]) []/\∃n58 n59,Sp 180 [AV.agg [iN n55,iN n56],iN 3,iN 12500] [] (.agg [iN n58,iN n59]) []/\∃n61 n62,Sp 179 [AV.agg [iN n58,iN n59],iN (wrap i64 ((86400:Int)*v1.day))] [] (.agg [iN n61,iN n62]) []/\Q (iN 0) [[iN n61,iN n62],v1.cs,v2.cs]
def FI (v0:TEncl) (v1:THalf) (v2:TEncl) (Q:yc):Prop :=
 ∃n0 n1 n2 n3 n4 n5,Sp 171 [v0.av] [] (.agg [iN n0,iN n1,iN n2,iN n3,iN n4,iN n5]) []/\∃n7 n8,Sp 173 [v1.c.Altitude.av] [] (.agg [iN n7,iN n8]) []/\∃n10 n11,Sp 173 [v2.av] [] (.agg [iN n10,iN n11]) []/\∃n13 n14,Sp 175 [AV.agg [iN n10,iN n11],.slc 3 [AV.agg [iN n0,iN n1]]] [] (.agg [iN n13,iN n14]) []/\∃n16 n17,Sp 174 [AV.agg [iN n13,iN n14]] [] (.agg [iN n16,iN n17]) []/\∃n19 n20,Sp 172 [AV.slc 3 [AV.agg [iN n7,iN n8],.agg [iN n16,iN n17]]] [] (.agg [iN n19,iN n20]) []/\∃n22 n23,Sp 177 [v2.av] [] (.agg [iN n22,iN n23]) []/\∃n25 n26,Sp 175 [AV.agg [iN n22,iN n23],.slc 3 [AV.agg [iN n2,iN n3]]] [] (.agg [iN n25,iN n26]) []/\∃n28 n29 n30,Sp 176 [AV.agg [iN n19,iN n20],.agg [iN n25,iN n26]] [] (.tup [AV.agg [iN n28,iN n29],iN n30]) []/\(decide (n28>100000000)=true->Q (iN 1) [v0.cs,v1.cs,v2.cs])/\(decide (n28>100000000)=false->(decide (n29<(-100000000:Int))=true->Q (iN 2) [v0.cs,v1.cs,v2.cs])/\(decide (n29<(-100000000:Int))=false->(decide (n28<(-100000000:Int))=true->Q (iN 3) [v0.cs,v1.cs,v2.cs])/\(decide (n28<(-100000000:Int))=false->(decide (n29>100000000)=true->Q (iN 3) [v0.cs,v1.cs,v2.cs])/\(decide (n29>100000000)=false->∃n40 n41 n42,Sp 178 [AV.agg [iN n28,iN n29]] [] (.tup [AV.agg [iN n40,iN n41],iN n42]) []/\(v1.rise=true->∃n46 n47,Sp 174 [AV.agg [iN n40,iN n41]] [] (.agg [iN n46,iN n47]) []/\PW v1 v2 Q n4 n5 n46 n47)/\(v1.rise=false->PW v1 v2 Q n4 n5 n40 n41)))))
theorem zdi (v0:TEncl) (v1:THalf) (v2:TEncl) (v O) (h:FI v0 v1 v2 (fun r O'=>r=v/\O'=O)):Sp 170 [.ref 0 0,.ref 1 0,.ref 2 0] [v0.cs,v1.cs,v2.cs] v O :=
 zX ⟨[],[],[],[],[]⟩ 0 ⟨[0,1,2,3,4,5,6,8,36,40,44,59],[],[],[]⟩ [⟨23,false,v0.cs⟩,⟨201,false,v1.cs⟩,⟨23,false,v2.cs⟩] (by exact trivial) Tryz.func170 Tryz.call170 rfl rfl rfl (by kernel_rfl) h
theorem zbV (w:TEncl) (h:THalf) (lat:TEncl):Sp 170 [.ref 0 0,.ref 1 0,.ref 2 0] [w.cs,h.cs,lat.cs] (.int .i64 (qK w h lat).1) [(qK w h lat).2.cs,h.cs,lat.cs]:=zdi w h lat _ _ (by
 unfold FI PW;have h1:Sp 175 [(yW lat 0).1.av,.slc 3 [(jm w).sin.av]] [] (vV (yW lat 0).1 [(jm w).sin]).av []:=Gd (yW lat 0).1 [(jm w).sin] (by simp);have h2:Sp 172 [.slc 3 [(yW h.c.Altitude 0).1.av,(qn (vV (yW lat 0).1 [(jm w).sin])).av]] [] (JN w h lat).av []:=Qz [(yW h.c.Altitude 0).1,qn (vV (yW lat 0).1 [(jm w).sin])] (by simp);have h3:Sp 175 [(yW lat 90000000).1.av,.slc 3 [(jm w).cos.av]] [] (vV (yW lat 90000000).1 [(jm w).cos]).av []:=Gd (yW lat 90000000).1 [(jm w).cos] (by simp);have h4:∃e,Sp 176 [(JN w h lat).av,(vV (yW lat 90000000).1 [(jm w).cos]).av] [] (.tup [(qS w h lat).av,.int .i64 e]) []:=⟨_,zbX _ _⟩;obtain ⟨e4,h4⟩:=h4;have h5:∃e,Sp 178 [(qS w h lat).av] [] (.tup [(yX (qS w h lat)).1.av,.int .i64 e]) []:=⟨_,DG _⟩;obtain ⟨e5,h5⟩:=h5;have h6:Sp 179 [(yG (wv [ux w h lat,⟨wrap i64 (0-h.c.Lon),wrap i64 (0-h.c.Lon)⟩,qn (jm w).equation]) 3 12500).av,.int .i64 (wrap i64 (86400*h.day))] [] (NX w h lat).av []:=Oa _ _;unfold qK;refine⟨_,_,_,_,_,_,zbW w,_,_,L6 h.c.Altitude,_,_,L6 lat,_,_,h1,_,_,QA _,_,_,h2,_,_,DF lat,_,_,h3,_,_,_,h4,fun g=>?_,fun g1=>⟨fun g=>?_,fun g2=>⟨fun g=>?_,fun g3=>⟨fun g=>?_,fun g4=>⟨_,_,_,h5,fun g=>?_,fun g=>?_⟩⟩⟩⟩⟩
 ·rw[if_pos (zt_ g)];exact⟨rfl,by trivial⟩
 ·rw[if_neg (zf_ g1),if_pos (zt_ g)];exact⟨rfl,by trivial⟩
 ·rw[if_neg (zf_ g1),if_neg (zf_ g2),if_pos (zt_ g)];exact⟨rfl,by trivial⟩
 ·rw[if_neg (zf_ g1),if_neg (zf_ g2),if_neg (zf_ g3),if_pos (zt_ g)];exact⟨rfl,by trivial⟩
 ·rw[if_neg (zf_ g1),if_neg (zf_ g2),if_neg (zf_ g3),if_neg (zf_ g4)];have hh:ux w h lat=qn (yX (qS w h lat)).1:=by unfold ux;rw[if_pos g]
  rw[hh] at h6;exact⟨_,_,QA _,_,_,J8 _,_,_,QA (jm w).equation,_,_,Qz [qn (yX (qS w h lat)).1,⟨wrap i64 (0-h.c.Lon),wrap i64 (0-h.c.Lon)⟩,qn (jm w).equation] (by simp),_,_,QB _ 3 12500 (by omega),_,_,h6,rfl,by trivial⟩
 ·rw[if_neg (zf_ g1),if_neg (zf_ g2),if_neg (zf_ g3),if_neg (zf_ g4)];have hh:ux w h lat=(yX (qS w h lat)).1:=by unfold ux;rw[if_neg (by rw[g];simp)]
  rw[hh] at h6;exact⟨_,_,J8 _,_,_,QA (jm w).equation,_,_,Qz [(yX (qS w h lat)).1,⟨wrap i64 (0-h.c.Lon),wrap i64 (0-h.c.Lon)⟩,qn (jm w).equation] (by simp),_,_,QB _ 3 12500 (by omega),_,_,h6,rfl,by trivial⟩)
def UM (h:THalf):Nat->Int->TEncl->Int × TEncl
 |0,kd,w=>(kd,w)
 |k+1,_,w=>if (qK w h ⟨h.c.Lat,h.c.Lat⟩).1≠0 then ((qK w h ⟨h.c.Lat,h.c.Lat⟩).1,⟨0,0⟩) else UM h k (qK w h ⟨h.c.Lat,h.c.Lat⟩).1 (qK w h ⟨h.c.Lat,h.c.Lat⟩).2
theorem N0 (h:THalf) (kd:Int) (w:TEncl):UM h 0 kd w=(kd,w):=rfl
theorem N1 (h:THalf) (k:Nat) (kd:Int) (w:TEncl):UM h (k+1) kd w=if (qK w h ⟨h.c.Lat,h.c.Lat⟩).1≠0 then ((qK w h ⟨h.c.Lat,h.c.Lat⟩).1,⟨0,0⟩) else UM h k (qK w h ⟨h.c.Lat,h.c.Lat⟩).1 (qK w h ⟨h.c.Lat,h.c.Lat⟩).2:=rfl
def xG (h:THalf):Int × TEncl:=UM h 3 0 (vP h)
def Fz (h0:THalf) (Q:yc):Prop :=
 ∃n0 n1,Sp 168 [h0.av] [] (.agg [iN n0,iN n1]) []/\∃n3 n4,Sp 169 [iN h0.c.Lat] [] (.agg [iN n3,iN n4]) []/\∃(I6:Nat->List AV->Prop),(∃m8,I6 m8 [iN 0,iN 0,h0.av,.agg [iN n0,iN n1],.agg [iN n3,iN n4]])/\∀(m8:Nat) (n9 n10 n11 n12 n13 n14 n15 n16:Int) (b17:Bool) (n18 n19 n20 n21:Int),I6 m8 [iN n9,iN n10,.agg [iN n11,iN n12,iN n13,iN n14,iN n15,iN n16,.bool b17],.agg [iN n18,iN n19],.agg [iN n20,iN n21]]->(decide (n10<3)=true->∃n25 n26 n27 n28 n29 n30 n31 n32 n33 b34 n35 n36,Sp 170 [AV.ref 0 0,.ref 1 0,.ref 2 0] [[iN n18,iN n19],[iN n11,iN n12,iN n13,iN n14,iN n15,iN n16,.bool b17],[iN n20,iN n21]] (iN n25) [[iN n26,iN n27],[iN n28,iN n29,iN n30,iN n31,iN n32,iN n33,.bool b34],[iN n35,iN n36]]/\((n25 != 0)=true->Q (.tup [iN n25,TEncl.zero.av]) [])/\((n25 != 0)=false->∃k40,k40<m8/\I6 k40 [iN n25,iN (wrap i64 (n10+1)),.agg [iN n28,iN n29,iN n30,iN n31,iN n32,iN n33,.bool b34],.agg [iN n26,iN n27],.agg [iN n35,iN n36]]))/\(decide (n10<3)=false->Q (.tup [iN n9,.agg [iN n18,iN n19]]) [])
theorem zc4 (h0:THalf) (v O) (h:Fz h0 (fun r O'=>r=v/\O'=O)):Sp 157 [h0.av] [] v O :=
 zS ⟨[0,1,2,3,4,5,13,14,18],[⟨5,[(2,iN 0),(13,iN 0)],[],[(1,.agg [iN 0,iN 0,iN 0,iN 0,iN 0,iN 0,.bool false]),(3,.agg [iN 0,iN 0]),(4,.agg [iN 0,iN 0])],[],[],[]⟩],[],[]⟩ Tryz.func157 Tryz.call157 rfl (by kernel_rfl) h
theorem zbP (h:THalf):Sp 157 [h.av] [] (.tup [.int .i64 (xG h).1,(xG h).2.av]) []:=zc4 h _ _ (by
 unfold Fz;refine⟨_,_,zbU h,_,_,J8 h.c.Lat,?_⟩;refine⟨fun m vs=>∃(k:Nat) (kd:Int) (w:TEncl),m+k=3/\vs=[.int .i64 kd,.int .i64 k,h.av,w.av,(TEncl.mk h.c.Lat h.c.Lat).av]/\UM h m kd w=xG h,⟨3,0,0,vP h,rfl,rfl,rfl⟩,?_⟩;intro m;intros;rename_i hJ;obtain ⟨k,kd,w,hm,hv,hp⟩:=hJ;unfold TEncl.av TEncl.cs THalf.av THalf.cs at hv;cases hv;refine⟨fun g=>?_,fun g=>?_⟩
 ·have hk:k<3:=by have:=zt_ g;omega
  obtain ⟨j,rfl⟩:∃j,m=j+1:=⟨m-1,by omega⟩;rw[N1] at hp;refine⟨_,_,_,_,_,_,_,_,_,_,_,_,zbV w h ⟨h.c.Lat,h.c.Lat⟩,fun g2=>⟨?_,by trivial⟩,fun g2=>⟨j,by omega,k+1,(qK w h ⟨h.c.Lat,h.c.Lat⟩).1,(qK w h ⟨h.c.Lat,h.c.Lat⟩).2,by omega,?_,?_⟩⟩
  ·have g2:(qK w h ⟨h.c.Lat,h.c.Lat⟩).1≠0:=by simpa using g2
   rw[if_pos g2] at hp;rw[<- hp];rfl
  ·rw[yr (by omega)];rfl
  ·have g2:(qK w h ⟨h.c.Lat,h.c.Lat⟩).1=0:=by simpa using g2
   rw[if_neg (by simp[g2])] at hp;exact hp
 ·have hk:¬ k<3:=by have:=zf_ g;omega
  obtain rfl:m=0:=by omega
  rw[N0] at hp;rw[<- hp];exact⟨rfl,by trivial⟩)
def KR (c:TSnCity) (day:Int) (w:TEncl):TEncl:=jN w (wrap i64 (wrap i64 (43200+c.Zone)-wrap i64 (86400*day)))
def zaU (c:TSnCity) (day:Int) (w:TEncl) (Q:yc):Prop :=
 ∃n0 n1,Sp 179 [w.av,iN (wrap i64 (wrap i64 ((43200:Int)+c.Zone)-wrap i64 ((86400:Int)*day)))] [] (.agg [iN n0,iN n1]) []/\Q (.agg [iN n0,iN n1]) []
theorem zc5 (c:TSnCity) (day:Int) (w:TEncl) (v O) (h:zaU c day w (fun r O'=>r=v/\O'=O)):Sp 158 [c.av,iN day,w.av] [] v O :=
 zS ⟨[0,1,2,3,5,6],[],[],[]⟩ Tryz.func158 Tryz.call158 rfl (by kernel_rfl) h
theorem zbQ (c:TSnCity) (day:Int) (w:TEncl):Sp 158 [c.av,.int .i64 day,w.av] [] (KR c day w).av []:=zc5 c day w _ _ ⟨_,_,Oa _ _,rfl,rfl⟩
def yZ (h:THalf):Int × TEncl × Int :=
 if wI h.c then (0,⟨0,0⟩,7) else if yz h.day 0 40000 then (0,⟨0,0⟩,7) else if (xG h).1=0 then ((xG h).1,KR h.c h.day (xG h).2,0) else ((xG h).1,⟨0,0⟩,0)
def Fx (h0:THalf) (Q:yc):Prop :=
 ∃n0,Sp 28 [h0.c.av] [] (iN n0) []/\((n0 != 0)=true->Q (.tup [iN 0,TEncl.zero.av,iN 7]) [])/\((n0 != 0)=false->∃b4,Sp 81 [iN h0.day,iN 0,iN 40000] [] (.bool b4) []/\(b4=true->Q (.tup [iN 0,TEncl.zero.av,iN 7]) [])/\(b4=false->∃n8 n9 n10,Sp 157 [h0.av] [] (.tup [iN n8,.agg [iN n9,iN n10]]) []/\((n8 == 0)=true->∃n14 n15,Sp 158 [h0.c.av,iN h0.day,.agg [iN n9,iN n10]] [] (.agg [iN n14,iN n15]) []/\Q (.tup [iN n8,.agg [iN n14,iN n15],iN 0]) [])/\((n8 == 0)=false->Q (.tup [iN n8,TEncl.zero.av,iN 0]) [])))
theorem zc0 (h0:THalf) (v O) (h:Fx h0 (fun r O'=>r=v/\O'=O)):Sp 146 [h0.av] [] v O :=
 zS ⟨[0,1,2,3,4,5,14,22],[],[],[]⟩ Tryz.func146 Tryz.call146 rfl (by kernel_rfl) h
theorem DD (h:THalf):Sp 146 [h.av] [] (.tup [.int .i64 (yZ h).1,(yZ h).2.1.av,.int .i64 (yZ h).2.2]) []:=zc0 h _ _ (by
 unfold Fx yZ;refine⟨_,c28 h.c,fun g=>⟨?_,by trivial⟩,fun g=>⟨_,c81 ..,fun g2=>⟨?_,by trivial⟩,fun g2=>⟨_,_,_,zbP h,fun g3=>⟨_,_,zbQ h.c h.day (xG h).2,?_,by trivial⟩,fun g3=>⟨?_,by trivial⟩⟩⟩⟩
 ·cases hc:wI h.c with
  |true=>rfl
  |false=>rw[hc] at g;simp at g
 all_goals
  cases hc:wI h.c with
  |true=>rw[hc] at g;simp at g
  |false=>?_
 ·rw[if_neg (by simp),if_pos g2];rfl
 ·have g3:(xG h).1=0:=by simpa using g3
  rw[if_neg (by simp),if_neg (by rw[g2];simp),if_pos g3];rfl
 ·have g3:¬ (xG h).1=0:=by simpa using g3
  rw[if_neg (by simp),if_neg (by rw[g2];simp),if_neg g3];rfl)
def zaN (c:TSnCity) (day:Int) (Q:yc):Prop :=
 ∃n0 n1 n2 n3,Sp 146 [AV.agg [iN c.Lat,iN c.Lon,iN c.Zone,iN c.Altitude.Lo,iN c.Altitude.Hi,iN day,.bool true]] [] (.tup [iN n0,.agg [iN n1,iN n2],iN n3]) []/\Q (.tup [iN n0,.agg [iN n1,iN n2],iN n3]) []
theorem zcU (c:TSnCity) (day:Int) (v O) (h:zaN c day (fun r O'=>r=v/\O'=O)):Sp 127 [c.av,iN day] [] v O :=
 zS ⟨[0,1,2,4,5,6],[],[],[]⟩ Tryz.func127 Tryz.call127 rfl (by kernel_rfl) h
theorem zbI (c:TSnCity) (day:Int):Sp 127 [c.av,.int .i64 day] [] (.tup [.int .i64 (yZ ⟨c,day,true⟩).1,(yZ ⟨c,day,true⟩).2.1.av,.int .i64 (yZ ⟨c,day,true⟩).2.2]) []:=zcU c day _ _ ⟨_,_,_,_,DD ⟨c,day,true⟩,rfl,rfl⟩
def zaO (c:TSnCity) (day:Int) (Q:yc):Prop :=
 ∃n0 n1 n2 n3,Sp 146 [AV.agg [iN c.Lat,iN c.Lon,iN c.Zone,iN c.Altitude.Lo,iN c.Altitude.Hi,iN day,.bool false]] [] (.tup [iN n0,.agg [iN n1,iN n2],iN n3]) []/\Q (.tup [iN n0,.agg [iN n1,iN n2],iN n3]) []
theorem zcV (c:TSnCity) (day:Int) (v O) (h:zaO c day (fun r O'=>r=v/\O'=O)):Sp 128 [c.av,iN day] [] v O :=
 zS ⟨[0,1,2,4,5,6],[],[],[]⟩ Tryz.func128 Tryz.call128 rfl (by kernel_rfl) h
theorem zbJ (c:TSnCity) (day:Int):Sp 128 [c.av,.int .i64 day] [] (.tup [.int .i64 (yZ ⟨c,day,false⟩).1,(yZ ⟨c,day,false⟩).2.1.av,.int .i64 (yZ ⟨c,day,false⟩).2.2]) []:=zcV c day _ _ ⟨_,_,_,_,DD ⟨c,day,false⟩,rfl,rfl⟩
end Go.Proofs.YtkojpnkknehhmaaGreatDoor
