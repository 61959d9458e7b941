/- Contracts: the document's sines of angles and of enclosures are the program's. Contracts: the document's products and quotients of enclosures are the program's. -/
import Derived.Test.YtkojpnkknehhmaaGreatDoorYd
import Derived.Test.YtkojpnkknehhmaaGreatDoorEg
namespace Go.Proofs.YtkojpnkknehhmaaGreatDoor
open Go.IntKind (wrap i64 u64)
open Go.RowKit SunQ
def zbn (x:TEncl) (Q:yc):Prop :=
 Q (.agg [iN (wrap i64 ((0:Int)-x.Hi)),iN (wrap i64 ((0:Int)-x.Lo))]) []
theorem zd0 (x:TEncl) (v O) (h:zbn x (fun r O'=>r=v/\O'=O)):Sp 216 [x.av] [] v O :=
 zS ⟨[0,1,2],[],[],[]⟩ Tryz.func216 Tryz.call216 rfl (by kernel_rfl) h
theorem Gk (e:TEncl):Sp 216 [e.av] [] (qn e).av []:=zd0 e _ _ ⟨rfl,rfl⟩
theorem JP {z:Int} (h:0<=z/\z<360000000):qJ z=z:=by
 unfold qJ;rw[Int.tmod_eq_emod_of_nonneg (a:=z) (by omega),Int.tmod_eq_emod_of_nonneg (by omega)];omega
theorem Sl (a:Int):(wrap i64 (a.tmod 360000000+360000000)).tmod 360000000=qJ a:=by
 have h1:=Int.tmod_lt_of_pos a (b:=360000000) (by omega);have h2:=Int.lt_tmod_of_pos a (b:=360000000) (by omega);rw[zw6 (by omega)];rfl
def HY (a:Int) (Q:yc):Prop :=
 (decide ((wrap i64 (a.tmod (360000000:Int)+(360000000:Int))).tmod (360000000:Int)>=(180000000:Int))=true->∃n2 n3,Sp 217 [iN (wrap i64 ((wrap i64 (a.tmod (360000000:Int)+(360000000:Int))).tmod (360000000:Int)-(180000000:Int)))] [] (.agg [iN n2,iN n3]) []/\∃n5 n6,Sp 216 [AV.agg [iN n2,iN n3]] [] (.agg [iN n5,iN n6]) []/\Q (.agg [iN n5,iN n6]) [])/\(decide ((wrap i64 (a.tmod (360000000:Int)+(360000000:Int))).tmod (360000000:Int)>=(180000000:Int))=false->∃n2 n3,Sp 228 [iN (if IntKind.i64.wrap ((180000000:Int)-(wrap i64 (a.tmod (360000000:Int)+(360000000:Int))).tmod (360000000:Int))<(wrap i64 (a.tmod (360000000:Int)+(360000000:Int))).tmod (360000000:Int) then wrap i64 ((180000000:Int)-(wrap i64 (a.tmod (360000000:Int)+(360000000:Int))).tmod (360000000:Int)) else (wrap i64 (a.tmod (360000000:Int)+(360000000:Int))).tmod (360000000:Int))] [] (.agg [iN n2,iN n3]) []/\Q (.agg [iN n2,iN n3]) [])
theorem zaq (a:Int) (v O) (h:HY a (fun r O'=>r=v/\O'=O)):Sp 217 [iN a] [] v O :=
 zS ⟨[0,2,8],[],[],[]⟩ Tryz.func217 Tryz.call217 rfl (by kernel_rfl) h
theorem PC (a:Int) (h:qJ a<180000000):Sp 217 [.int .i64 a] [] (jv a).av []:=zaq a _ _ (by
 unfold HY;rw[Sl];have ht:=Xw a;obtain ⟨f1,f2⟩:=ve a;have e:jv a=upE (yo (qj a)):=by unfold jv;rw[if_neg (by omega)]
 refine⟨fun g=>by have:=zt_ g;omega,fun g=>?_⟩;rw[zw6 (by omega)];have hm:(qJ a).tmod 180000000=qJ a:=by rw[Int.tmod_eq_emod_of_nonneg (by omega)];omega
 rw[hm] at f2;rw[<- f2,e];exact⟨_,_,zce _ f1,rfl,rfl⟩)
theorem Ig (a:Int):Sp 217 [.int .i64 a] [] (jv a).av []:=by
 have ht:=Xw a;by_cases h:qJ a<180000000
 ·exact PC a h
 refine zaq a _ _ ?_;unfold HY;rw[Sl];refine⟨fun g=>?_,fun g=>by have:=zf_ g;omega⟩;rw[zw6 (by omega)];have t2:=JP (z:=qJ a-180000000) (by omega);have hf:qj (qJ a-180000000)=qj a:=by
  have f1:=(ve (qJ a-180000000)).2;have f2:=(ve a).2;rw[t2,Int.tmod_eq_emod_of_nonneg (by omega)] at f1;rw[Int.tmod_eq_emod_of_nonneg (by omega)] at f2;have:(qJ a-180000000) % 180000000=qJ a % 180000000:=by omega
  rw[this,<- f2] at f1;omega
 have e:jv a=qn (jv (qJ a-180000000)):=by unfold jv;rw[if_pos (by omega),t2,if_neg (by omega),hf]
 rw[e];exact⟨_,_,PC _ (by omega),_,_,Gk _,rfl,rfl⟩
def P4 (a:Int):Bool:=decide (a >= -3600000000) && decide (a<=3600000000)
def F7 (a:Int) (Q:yc):Prop :=
 (decide (a>=(-3600000000:Int))=true->Q (.bool (decide (a<=3600000000))) [])/\(decide (a>=(-3600000000:Int))=false->Q (.bool false) [])
theorem zd7 (a:Int) (v O) (h:F7 a (fun r O'=>r=v/\O'=O)):Sp 225 [iN a] [] v O :=
 zS ⟨[0,2],[],[],[]⟩ Tryz.func225 Tryz.call225 rfl (by kernel_rfl) h
theorem Ih (a:Int):Sp 225 [.int .i64 a] [] (.bool (P4 a)) []:=zd7 a _ _ (by
 unfold F7 P4;exact⟨fun g=>⟨by rw[g];rfl,rfl⟩,fun g=>⟨by rw[g];rfl,rfl⟩⟩)
theorem N3 {n d:Int} (hd:0<d):qN n d=if n<0 then (if n.tmod d≠0 then wrap i64 (wrap i64 (n.tdiv d)-1) else wrap i64 (n.tdiv d)) else wrap i64 (n.tdiv d):=by
 unfold qN;by_cases h:n<0
 ·have h1:n.tmod d<=0:=by
   have:=Int.tmod_nonneg d (show 0 <= -n by omega);rw[Int.neg_tmod] at this;omega
  rw[if_pos h];by_cases h2:n.tmod d=0
  ·rw[if_neg (by omega),if_neg (by omega)]
  ·rw[if_pos (by omega),if_pos h2]
 ·rw[if_neg h,if_neg (by have:=Int.tmod_nonneg d (show 0<=n by omega);omega)]
def F9 (n d:Int) (Q:yc):Prop :=
 d≠0/\(decide (n<0)=true->d≠0/\((n.tmod d != 0)=true->Q (iN (wrap i64 (wrap i64 (n.tdiv d)-1))) [])/\((n.tmod d != 0)=false->Q (iN (wrap i64 (n.tdiv d))) []))/\(decide (n<0)=false->Q (iN (wrap i64 (n.tdiv d))) [])
theorem zd9 (n d:Int) (v O) (h:F9 n d (fun r O'=>r=v/\O'=O)):Sp 227 [iN n,iN d] [] v O :=
 zS ⟨[0,1,4,5,16],[],[],[]⟩ Tryz.func227 Tryz.call227 rfl (by kernel_rfl) h
theorem Tb (n d:Int) (hd:0<d):Sp 227 [.int .i64 n,.int .i64 d] [] (.int .i64 (qN n d)) []:=zd9 n d _ _ (by
 unfold F9;rw[N3 hd];have d0:d≠0:=by omega
 refine⟨d0,fun g=>⟨d0,fun g2=>⟨?_,rfl⟩,fun g2=>⟨?_,rfl⟩⟩,fun g=>⟨?_,rfl⟩⟩
 ·rw[if_pos (zt_ g),if_pos (by simpa using g2)]
 ·rw[if_pos (zt_ g),if_neg (by simpa using g2)]
 ·rw[if_neg (zf_ g)])
theorem Xk {n d:Int} (hd:0<d) (h:-9223372036854775807<n/\n<9223372036854775807):qN n d=n / d:=by
 have h1:=Int.mul_tdiv_add_tmod n d;have hb:-9223372036854775807<n.tdiv d/\n.tdiv d<9223372036854775807:=by
  have:=Int.natAbs_tdiv_le_natAbs n d;omega
 unfold qN;by_cases h2:n.tmod d<0
 ·have h3:=Int.lt_tmod_of_pos n hd;rw[if_pos h2,zw6 (n:=n.tdiv d) (by omega),zw6 (by omega)];symm
  rw[Int.ediv_eq_iff_of_pos hd,Int.sub_mul,Int.one_mul,Int.mul_comm (n.tdiv d)];omega
 ·have h3:=Int.tmod_lt_of_pos n hd;rw[if_neg h2,zw6 (by omega)];symm
  rw[Int.ediv_eq_iff_of_pos hd,Int.mul_comm (n.tdiv d)];omega
theorem M1 {lo hi b:Int} (h:-4000000000<=lo/\lo<=4000000000) (h2:-4000000000<=hi/\hi<=4000000000) (hb:0<=b/\b<=360000000) :
  decide (qN (wrap i64 (hi-b)) 360000000>qN (wrap i64 (wrap i64 (lo-1)-b)) 360000000)=decide (Wm b lo<=hi):=by
 unfold Wm;have h3:=Int.tmod_lt_of_pos (b-lo) (b:=360000000) (by omega);have h4:=Int.lt_tmod_of_pos (b-lo) (b:=360000000) (by omega);have h5:((b-lo).tmod 360000000+360000000).tmod 360000000=(b-lo) % 360000000:=by
  rw[Int.tmod_eq_emod_of_nonneg (by omega),Int.tmod_eq_emod];split<;>omega
 rw[zw6 (n:=b-lo) (by omega),zw6 (n:=_+360000000) (by omega),h5,zw6 (n:=hi-b) (by omega),zw6 (n:=lo-1) (by omega),zw6 (n:=lo-1-b) (by omega),zw6 (by omega),Xk (by omega) (by omega),Xk (by omega) (by omega),decide_eq_decide];omega
def zbr (lo hi a:Int) (Q:yc):Prop :=
 ∃n0,Sp 227 [iN (wrap i64 (hi-a)),iN 360000000] [] (iN n0) []/\∃n2,Sp 227 [iN (wrap i64 (wrap i64 (lo-1)-a)),iN 360000000] [] (iN n2) []/\Q (.bool (decide (n0>n2))) []
theorem zeg (lo hi a:Int) (v O) (h:zbr lo hi a (fun r O'=>r=v/\O'=O)):Sp 234 [iN lo,iN hi,iN a] [] v O :=
 zS ⟨[0,1,2,6],[],[],[]⟩ Tryz.func234 Tryz.call234 rfl (by kernel_rfl) h
theorem Gp (lo hi b:Int) (h:-4000000000<=lo/\lo<=4000000000) (h2:-4000000000<=hi/\hi<=4000000000) (hb:0<=b/\b<=360000000):Sp 234 [.int .i64 lo,.int .i64 hi,.int .i64 b] [] (.bool (decide (Wm b lo<=hi))) []:=zeg lo hi b _ _
 ⟨_,Tb _ _ (by omega),_,Tb _ _ (by omega),by rw[M1 h h2 hb],rfl⟩
def Qb (a:TEncl):TEncl:=H9 (decide (Wm 270000000 a.Lo<=a.Hi)) (G6 (decide (Wm 90000000 a.Lo<=a.Hi)) (xb (jv a.Lo) (jv a.Hi)))
def F8 (a:TEncl) (Q:yc):Prop :=
 ∃n0 n1,Sp 217 [iN a.Lo] [] (.agg [iN n0,iN n1]) []/\∃n3 n4,Sp 217 [iN a.Hi] [] (.agg [iN n3,iN n4]) []/\∃b6,Sp 234 [iN a.Lo,iN a.Hi,iN 90000000] [] (.bool b6) []/\(b6=true->∃b10,Sp 234 [iN a.Lo,iN a.Hi,iN 270000000] [] (.bool b10) []/\(b10=true->Q (.agg [iN (-100000000:Int),iN 100000000]) [])/\(b10=false->Q (.agg [iN (if n3<n0 then n3 else n0),iN 100000000]) []))/\(b6=false->∃b10,Sp 234 [iN a.Lo,iN a.Hi,iN 270000000] [] (.bool b10) []/\(b10=true->Q (.agg [iN (-100000000:Int),iN (if n4>n1 then n4 else n1)]) [])/\(b10=false->Q (.agg [iN (if n3<n0 then n3 else n0),iN (if n4>n1 then n4 else n1)]) []))
theorem zd8 (a:TEncl) (v O) (h:F8 a (fun r O'=>r=v/\O'=O)):Sp 226 [a.av] [] v O :=
 zS ⟨[0,1,2,3,4,5,27,33],[],[],[]⟩ Tryz.func226 Tryz.call226 rfl (by kernel_rfl) h
theorem DS (a:TEncl) (h:-4000000000<=a.Lo/\a.Lo<=4000000000) (h2:-4000000000<=a.Hi/\a.Hi<=4000000000):Sp 226 [a.av] [] (Qb a).av []:=zd8 a _ _ (by
 unfold F8 Qb;refine⟨_,_,Ig _,_,_,Ig _,_,Gp _ _ _ h h2 (by omega),fun g=>⟨_,Gp _ _ _ h h2 (by omega),fun g2=>⟨?_,rfl⟩,fun g2=>⟨?_,rfl⟩⟩,fun g=>⟨_,Gp _ _ _ h h2 (by omega),fun g2=>⟨?_,rfl⟩,fun g2=>⟨?_,rfl⟩⟩⟩;all_goals rw[g,g2];rfl)
theorem PR {a:TEncl}:qc a 3600000000=(decide (a.Lo>a.Hi) || (!P4 a.Lo || !P4 a.Hi)):=by
 unfold qc P4;rw[show wrap i64 (0-3600000000) = -3600000000 by rfl,Bool.eq_iff_iff];simp only[Bool.or_eq_true,decide_eq_true_eq,Bool.not_eq_true',Bool.and_eq_false_iff,decide_eq_false_iff_not];omega
def FX (a:TEncl) (Q:yc):Prop :=
 (decide (a.Lo>a.Hi)=true->Q (.tup [TEncl.zero.av,iN 7]) [])/\(decide (a.Lo>a.Hi)=false->∃b2,Sp 225 [iN a.Lo] [] (.bool b2) []/\((!b2)=true->Q (.tup [TEncl.zero.av,iN 7]) [])/\((!b2)=false->∃b6,Sp 225 [iN a.Hi] [] (.bool b6) []/\((!b6)=true->Q (.tup [TEncl.zero.av,iN 7]) [])/\((!b6)=false->∃n10 n11,Sp 226 [a.av] [] (.agg [iN n10,iN n11]) []/\Q (.tup [AV.agg [iN n10,iN n11],iN 0]) [])))
theorem zdU (a:TEncl) (v O) (h:FX a (fun r O'=>r=v/\O'=O)):Sp 210 [a.av] [] v O :=
 zS ⟨[0,1,2,3,20],[],[],[]⟩ Tryz.func210 Tryz.call210 rfl (by kernel_rfl) h
theorem zb9 (a:TEncl):Sp 210 [a.av] [] (.tup [(yW a 0).1.av,.int .i64 (yW a 0).2]) []:=zdU a _ _ (by
 unfold FX yW;rw[PR];refine⟨fun g=>⟨by rw[g];rfl,rfl⟩,fun g=>⟨_,Ih _,fun g2=>⟨by rw[g,g2];rfl,rfl⟩,fun g2=>⟨_,Ih _,fun g3=>⟨by rw[g,g2,g3];rfl,rfl⟩,fun g3=>?_⟩⟩⟩;rw[g,g2,g3];unfold P4 at g2 g3;simp only[Bool.not_eq_false',Bool.and_eq_true,decide_eq_true_eq] at g2 g3;have e:Mc a 0=Qb a:=by unfold Mc Qb;dsimp only;rw[Int.add_zero,Int.add_zero,zw6 (by omega),zw6 (by omega)]
 refine⟨_,_,DS a (by omega) (by omega),?_,rfl⟩;rw[<- e];rfl)
def F1 (a:TEncl) (Q:yc):Prop :=
 (decide (a.Lo>a.Hi)=true->Q (.tup [TEncl.zero.av,iN 7]) [])/\(decide (a.Lo>a.Hi)=false->∃b2,Sp 225 [iN a.Lo] [] (.bool b2) []/\((!b2)=true->Q (.tup [TEncl.zero.av,iN 7]) [])/\((!b2)=false->∃b6,Sp 225 [iN a.Hi] [] (.bool b6) []/\((!b6)=true->Q (.tup [TEncl.zero.av,iN 7]) [])/\((!b6)=false->∃n10 n11,Sp 226 [AV.agg [iN (wrap i64 (a.Lo+90000000)),iN (wrap i64 (a.Hi+90000000))]] [] (.agg [iN n10,iN n11]) []/\Q (.tup [AV.agg [iN n10,iN n11],iN 0]) [])))
theorem zdY (a:TEncl) (v O) (h:F1 a (fun r O'=>r=v/\O'=O)):Sp 214 [a.av] [] v O :=
 zS ⟨[0,1,2,3,20],[],[],[]⟩ Tryz.func214 Tryz.call214 rfl (by kernel_rfl) h
theorem zca (a:TEncl):Sp 214 [a.av] [] (.tup [(yW a 90000000).1.av,.int .i64 (yW a 90000000).2]) []:=zdY a _ _ (by
 unfold F1 yW;rw[PR];refine⟨fun g=>⟨by rw[g];rfl,rfl⟩,fun g=>⟨_,Ih _,fun g2=>⟨by rw[g,g2];rfl,rfl⟩,fun g2=>⟨_,Ih _,fun g3=>⟨by rw[g,g2,g3];rfl,rfl⟩,fun g3=>?_⟩⟩⟩;rw[g,g2,g3];unfold P4 at g2 g3;simp only[Bool.not_eq_false',Bool.and_eq_true,decide_eq_true_eq] at g2 g3;have k:=DS ⟨wrap i64 (a.Lo+90000000),wrap i64 (a.Hi+90000000)⟩ (by dsimp only;rw[zw6 (by omega)];omega) (by dsimp only;rw[zw6 (by omega)];omega);exact⟨_,_,k,rfl,rfl⟩)
open Go.RowKit SunQ
def YI (l:List TEncl):Int:=if l.any (qc · 3000000000) then 7 else 0
theorem HV (x:TEncl):qc x 3000000000=(decide (x.Lo>x.Hi) || (decide (x.Lo < -3000000000) || decide (x.Hi>3000000000))):=rfl
theorem Hp {l:List TEncl} {k:Nat} {x:TEncl} (h:l[k]? = some x):YI (l.drop k)=if qc x 3000000000 then 7 else YI (l.drop (k+1)):=by
 obtain ⟨h1,rfl⟩:=List.getElem?_eq_some_iff.1 h;rw[List.drop_eq_getElem_cons h1];unfold YI;rw[List.any_cons];cases qc l[k] 3000000000<;>rfl
def FY (l:List TEncl) (Q:yc):Prop :=
 ∃(I0:Nat->List AV->Prop),(∃m2,I0 m2 [iN 0])/\∀(m2:Nat) (n3:Int),I0 m2 [iN n3]->(decide (n3<(↑(List.map TEncl.av l).length:Int))=true->∃n7 n8,((0:Int)<=n3/\(2:Nat)=(2:Nat)/\(List.map TEncl.av l)[n3.toNat]? = some (.agg [iN n7,iN n8]))/\∃n10 n11,((0:Int)<=n3/\(2:Nat)=(2:Nat)/\(List.map TEncl.av l)[n3.toNat]? = some (.agg [iN n10,iN n11]))/\(decide (n7>n11)=true->Q (iN 7) [])/\(decide (n7>n11)=false->∃n15 n16,((0:Int)<=n3/\(2:Nat)=(2:Nat)/\(List.map TEncl.av l)[n3.toNat]? = some (.agg [iN n15,iN n16]))/\(decide (n15<(-3000000000:Int))=true->Q (iN 7) [])/\(decide (n15<(-3000000000:Int))=false->∃n20 n21,((0:Int)<=n3/\(2:Nat)=(2:Nat)/\(List.map TEncl.av l)[n3.toNat]? = some (.agg [iN n20,iN n21]))/\(decide (n21>3000000000)=true->Q (iN 7) [])/\(decide (n21>3000000000)=false->∃k25,k25<m2/\I0 k25 [iN (wrap i64 (n3+1))]))))/\(decide (n3<(↑(List.map TEncl.av l).length:Int))=false->Q (iN 0) [])
theorem zdV (l:List TEncl) (v O) (h:FY l (fun r O'=>r=v/\O'=O)):Sp 211 [.slc 3 (List.map TEncl.av l)] [] v O :=
 zS ⟨[0,2,3,7,36],[⟨2,[(3,iN 0)],[],[],[],[],[]⟩],[],[]⟩ Tryz.func211 Tryz.call211 rfl (by kernel_rfl) h
theorem Ie (l:List TEncl) (hl:l.length<=1000000):Sp 211 [.slc 3 (l.map TEncl.av)] [] (.int .i64 (YI l)) []:=zdV l _ _ (by
 unfold FY;refine⟨fun m vs=>∃k:Nat,k<=l.length/\m=l.length-k/\vs=[.int .i64 k]/\YI (l.drop k)=YI l,⟨_,0,by omega,rfl,rfl,rfl⟩,?_⟩;rintro m n ⟨k,hk,rfl,hv,hn⟩;cases hv;simp only[List.length_map];refine⟨fun g=>?_,fun g=>⟨?_,by trivial⟩⟩
 ·have g:k<l.length:=by simpa using g
  obtain ⟨x,hx,hx'⟩:=yq (f:=TEncl.av) g;have hat:=Hp hx;rw[hn,HV] at hat;have look:(0:Int)<=(k:Int)/\True/\(l.map TEncl.av)[((k:Nat):Int).toNat]? = some (.agg [.int .i64 x.Lo,.int .i64 x.Hi]):=⟨by omega,trivial,hx'⟩;refine⟨_,_,look,_,_,look,fun g1=>⟨by rw[hat,g1];rfl,by trivial⟩,fun g1=>⟨_,_,look,fun g2=>⟨by rw[hat,g1,g2];rfl,by trivial⟩,fun g2=>⟨_,_,look,fun g3=>⟨by rw[hat,g1,g2,g3];rfl,by trivial⟩,fun g3=>⟨_,(by omega:l.length-(k+1)<l.length-k),k+1,by omega,rfl,by rw[yr (by omega)],by rw[hat,g1,g2,g3];rfl⟩⟩⟩⟩
 ·have:k=l.length:=by simp at g;omega
  rw[<- hn,this,List.drop_length];rfl)
def OY (x:TEncl):TEncl × Int:=if qc x 3000000000 then (⟨0,0⟩,7) else (x,0)
def FZ (lo hi:Int) (Q:yc):Prop :=
 ∃n0,Sp 211 [AV.slc 3 [AV.agg [iN lo,iN hi]]] [] (iN n0) []/\((n0 != 0)=true->Q (.tup [TEncl.zero.av,iN n0]) [])/\((n0 != 0)=false->Q (.tup [AV.agg [iN lo,iN hi],iN 0]) [])
theorem zdW (lo hi:Int) (v O) (h:FZ lo hi (fun r O'=>r=v/\O'=O)):Sp 212 [iN lo,iN hi] [] v O :=
 zS ⟨[0,1,4,5,6,7,15],[],[],[]⟩ Tryz.func212 Tryz.call212 rfl (by kernel_rfl) h
theorem Gi (lo hi:Int):Sp 212 [.int .i64 lo,.int .i64 hi] [] (.tup [(OY ⟨lo,hi⟩).1.av,.int .i64 (OY ⟨lo,hi⟩).2]) []:=zdW lo hi _ _ (by
 unfold FZ OY;have hv:=Ie [⟨lo,hi⟩] (by simp);unfold YI at hv;rw[List.any_cons,List.any_nil,Bool.or_false] at hv;refine⟨_,hv,fun g=>⟨?_,rfl⟩,fun g=>⟨?_,rfl⟩⟩
 ·cases hw:qc ⟨lo,hi⟩ 3000000000 with
  |true=>rfl
  |false=>rw[hw] at g;cases g
 ·cases hw:qc ⟨lo,hi⟩ 3000000000 with
  |true=>rw[hw] at g;cases g
  |false=>rfl)
def xa (n d:Int):TEncl:=⟨n / d,-((-n) / d)⟩
theorem uW {n d:Int} (hd:0<d) (h:-9000000000000000000<=n/\n<=9000000000000000000):qN n d=(xa n d).Lo/\IntKind.i64.wrap (0-qN (wrap i64 (0-n)) d)=(xa n d).Hi:=by
 have h1:=WB (n:=-n) hd (by omega);rw[zw6 (n:=0-n) (by omega),Xk hd (by omega),Xk hd (by omega),Int.zero_sub,Int.zero_sub,zw6 (by omega)];exact⟨rfl,rfl⟩
def F0 (n0 n1 n2 n3 d0 d1 d2 d3:Int) (Q:yc):Prop :=
 ∃n0_1,Sp 227 [iN n0,iN d0] [] (iN n0_1) []/\∃n2_1,Sp 227 [iN (wrap i64 ((0:Int)-n0)),iN d0] [] (iN n2_1) []/\∃n4,Sp 227 [iN n1,iN d1] [] (iN n4) []/\∃n6,Sp 227 [iN (wrap i64 ((0:Int)-n1)),iN d1] [] (iN n6) []/\∃n8,Sp 227 [iN n2,iN d2] [] (iN n8) []/\∃n10,Sp 227 [iN (wrap i64 ((0:Int)-n2)),iN d2] [] (iN n10) []/\∃n12,Sp 227 [iN n3,iN d3] [] (iN n12) []/\∃n14,Sp 227 [iN (wrap i64 ((0:Int)-n3)),iN d3] [] (iN n14) []/\Q (.tup [iN (if n12<if false=true then if n8>if false=true then if n4>n0_1 then n4 else n0_1 else if n4<n0_1 then n4 else n0_1 then n8 else if false=true then if n4>n0_1 then n4 else n0_1 else if n4<n0_1 then n4 else n0_1 else if n8<if false=true then if n4>n0_1 then n4 else n0_1 else if n4<n0_1 then n4 else n0_1 then n8 else if false=true then if n4>n0_1 then n4 else n0_1 else if n4<n0_1 then n4 else n0_1 then n12 else if n8<if false=true then if n4>n0_1 then n4 else n0_1 else if n4<n0_1 then n4 else n0_1 then n8 else if n4<n0_1 then n4 else n0_1),iN (if IntKind.i64.wrap ((0:Int)-n14)>if true=true then if IntKind.i64.wrap ((0:Int)-n10)>if true=true then if IntKind.i64.wrap ((0:Int)-n6)>wrap i64 ((0:Int)-n2_1) then wrap i64 ((0:Int)-n6) else wrap i64 ((0:Int)-n2_1) else if IntKind.i64.wrap ((0:Int)-n6)<wrap i64 ((0:Int)-n2_1) then wrap i64 ((0:Int)-n6) else wrap i64 ((0:Int)-n2_1) then wrap i64 ((0:Int)-n10) else if true=true then if IntKind.i64.wrap ((0:Int)-n6)>wrap i64 ((0:Int)-n2_1) then wrap i64 ((0:Int)-n6) else wrap i64 ((0:Int)-n2_1) else if IntKind.i64.wrap ((0:Int)-n6)<wrap i64 ((0:Int)-n2_1) then wrap i64 ((0:Int)-n6) else wrap i64 ((0:Int)-n2_1) else if IntKind.i64.wrap ((0:Int)-n10)<if true=true then if IntKind.i64.wrap ((0:Int)-n6)>wrap i64 ((0:Int)-n2_1) then wrap i64 ((0:Int)-n6) else wrap i64 ((0:Int)-n2_1) else if IntKind.i64.wrap ((0:Int)-n6)<wrap i64 ((0:Int)-n2_1) then wrap i64 ((0:Int)-n6) else wrap i64 ((0:Int)-n2_1) then wrap i64 ((0:Int)-n10) else if true=true then if IntKind.i64.wrap ((0:Int)-n6)>wrap i64 ((0:Int)-n2_1) then wrap i64 ((0:Int)-n6) else wrap i64 ((0:Int)-n2_1) else if IntKind.i64.wrap ((0:Int)-n6)<wrap i64 ((0:Int)-n2_1) then wrap i64 ((0:Int)-n6) else wrap i64 ((0:Int)-n2_1) then wrap i64 ((0:Int)-n14) else if IntKind.i64.wrap ((0:Int)-n10)>if true=true then if IntKind.i64.wrap ((0:Int)-n6)>wrap i64 ((0:Int)-n2_1) then wrap i64 ((0:Int)-n6) else wrap i64 ((0:Int)-n2_1) else if IntKind.i64.wrap ((0:Int)-n6)<wrap i64 ((0:Int)-n2_1) then wrap i64 ((0:Int)-n6) else wrap i64 ((0:Int)-n2_1) then wrap i64 ((0:Int)-n10) else if IntKind.i64.wrap ((0:Int)-n6)>wrap i64 ((0:Int)-n2_1) then wrap i64 ((0:Int)-n6) else wrap i64 ((0:Int)-n2_1))]) []
theorem zdX (n0 n1 n2 n3 d0 d1 d2 d3:Int) (v O) (h:F0 n0 n1 n2 n3 d0 d1 d2 d3 (fun r O'=>r=v/\O'=O)):Sp 213 [.agg [iN n0,iN n1,iN n2,iN n3],.agg [iN d0,iN d1,iN d2,iN d3]] [] v O :=
 zS ⟨[0,1,2,3,4,5,6,7,8,22],[],[],[]⟩ Tryz.func213 Tryz.call213 rfl (by kernel_rfl) h
theorem Gj (n0 n1 n2 n3 d0 d1 d2 d3:Int) (h0:-9000000000000000000<=n0/\n0<=9000000000000000000) (h1:-9000000000000000000<=n1/\n1<=9000000000000000000) (h2:-9000000000000000000<=n2/\n2<=9000000000000000000) (h3:-9000000000000000000<=n3/\n3<=9000000000000000000)
  (p0:0<d0) (p1:0<d1) (p2:0<d2) (p3:0<d3) {E:TEncl} (hE:[xa n1 d1,xa n2 d2,xa n3 d3].foldl xb (xa n0 d0)=E) :
  Sp 213 [.agg [.int .i64 n0,.int .i64 n1,.int .i64 n2,.int .i64 n3],.agg [.int .i64 d0,.int .i64 d1,.int .i64 d2,.int .i64 d3]] [] (.tup [.int .i64 E.Lo,.int .i64 E.Hi]) []:=zdX _ _ _ _ _ _ _ _ _ _ (by
 unfold F0;refine⟨_,Tb _ _ p0,_,Tb _ _ p0,_,Tb _ _ p1,_,Tb _ _ p1,_,Tb _ _ p2,_,Tb _ _ p2,_,Tb _ _ p3,_,Tb _ _ p3,?_,rfl⟩;obtain ⟨a0,b0⟩:=uW p0 h0;obtain ⟨a1,b1⟩:=uW p1 h1;obtain ⟨a2,b2⟩:=uW p2 h2;obtain ⟨a3,b3⟩:=uW p3 h3;rw[b0,b1,b2,b3,a0,a1,a2,a3,<- hE];simp only[Bool.false_eq_true,if_false,if_true];rfl)
theorem JS (x y:TEncl):YI [x,y]=if qc x 3000000000 then 7 else if qc y 3000000000 then 7 else 0:=by
 unfold YI;rw[List.any_cons,List.any_cons,List.any_nil];cases qc x 3000000000<;>cases qc y 3000000000<;>rfl
theorem ki {n d:Int} (h:0<d):yJ n d=xa n d:=by unfold yJ xa;rw[if_neg (by omega),if_neg (by omega)]
theorem Xa {n d:Int} (h:d<0):yJ n d=xa (-n) (-d):=by unfold yJ xa;rw[if_neg (by omega),if_pos h,Int.neg_neg]
theorem Sm {x y:TEncl} {P:Prop} (h1:(YI [x,y]≠0)->P) (h2:jJ x->jJ y->qc x 3000000000=false->qc y 3000000000=false->YI [x,y]=0->P):P:=by
 by_cases h:YI [x,y]=0
 ·rw[JS] at h;by_cases a:qc x 3000000000=true
  ·rw[if_pos a] at h;cases h
  by_cases b:qc y 3000000000=true
  ·rw[if_neg a,if_pos b] at h;cases h
  have a:qc x 3000000000=false:=by simpa using a
  have b:qc y 3000000000=false:=by simpa using b
  exact h2 (vu a) (vu b) a b (by rw[JS,a,b];rfl)
 ·exact h1 h
theorem Tu {f:Int->Int->TEncl} {x y:TEncl} (h:YI [x,y]≠0):jr f x y=(⟨0,0⟩,7)/\YI [x,y]=7:=by
 rw[JS] at h ⊢;unfold jr;by_cases a:qc x 3000000000=true
 ·rw[if_pos a,if_pos a];exact⟨rfl,rfl⟩
 by_cases b:qc y 3000000000=true
 ·rw[if_neg a,if_neg a,if_pos b,if_pos b];exact⟨rfl,rfl⟩
 rw[if_neg a,if_neg b] at h;exact absurd rfl h
theorem WV {f:Int->Int->TEncl} {x y:TEncl} (a:qc x 3000000000=false) (b:qc y 3000000000=false):jr f x y=OY (wi f x y):=by
 unfold jr OY;rw[a,b];rfl
def FP (x y:TEncl) (Q:yc):Prop :=
 ∃n0,Sp 211 [AV.slc 3 [x.av,y.av]] [] (iN n0) []/\((n0 != 0)=true->Q (.tup [TEncl.zero.av,iN n0]) [])/\((n0 != 0)=false->∃n4 n5 n6,Sp 212 [iN (wrap i64 (x.Lo-y.Hi)),iN (wrap i64 (x.Hi-y.Lo))] [] (.tup [AV.agg [iN n4,iN n5],iN n6]) []/\Q (.tup [AV.agg [iN n4,iN n5],iN n6]) [])
theorem zdE (x y:TEncl) (v O) (h:FP x y (fun r O'=>r=v/\O'=O)):Sp 192 [x.av,y.av] [] v O :=
 zS ⟨[0,1,2,3,4,5,6,12],[],[],[]⟩ Tryz.func192 Tryz.call192 rfl (by kernel_rfl) h
theorem zb0 (x y:TEncl) (hx:jJ x) (hy:jJ y) (hz:jJ ⟨x.Lo-y.Hi,x.Hi-y.Lo⟩):Sp 192 [x.av,y.av] [] (.tup [(TEncl.mk (x.Lo-y.Hi) (x.Hi-y.Lo)).av,.int .i64 0]) []:=zdE x y _ _ (by
 unfold FP;have w:∀ {z:TEncl},jJ z->qc z 3000000000=false:=fun {z} h=>by
  obtain ⟨h1,h2,h3⟩:=h;rw[HV,decide_eq_false (by omega),decide_eq_false (by omega),decide_eq_false (by omega)];rfl
 have hv:=Ie [x,y] (by simp);have hv0:YI [x,y]=0:=by rw[JS,w hx,w hy];rfl
 rw[hv0] at hv;have hr:=Gi (x.Lo-y.Hi) (x.Hi-y.Lo);unfold OY at hr;rw[w hz] at hr;obtain ⟨a1,a2,a3⟩:=hx;obtain ⟨b1,b2,b3⟩:=hy;refine⟨_,hv,fun g=>(by cases g),fun _=>⟨_,_,_,?_,rfl,rfl⟩⟩;rw[zw6 (by omega),zw6 (by omega)];exact hr)
def FO (x y:TEncl) (Q:yc):Prop :=
 ∃n0,Sp 211 [AV.slc 3 [x.av,y.av]] [] (iN n0) []/\((n0 != 0)=true->Q (.tup [TEncl.zero.av,iN n0]) [])/\((n0 != 0)=false->∃n4 n5,Sp 213 [AV.agg [iN (wrap i64 (x.Lo*y.Lo)),iN (wrap i64 (x.Lo*y.Hi)),iN (wrap i64 (x.Hi*y.Lo)),iN (wrap i64 (x.Hi*y.Hi))],.agg [iN 100000000,iN 100000000,iN 100000000,iN 100000000]] [] (.tup [iN n4,iN n5]) []/\∃n7 n8 n9,Sp 212 [iN n4,iN n5] [] (.tup [AV.agg [iN n7,iN n8],iN n9]) []/\Q (.tup [AV.agg [iN n7,iN n8],iN n9]) [])
theorem zdB (x y:TEncl) (v O) (h:FO x y (fun r O'=>r=v/\O'=O)):Sp 189 [x.av,y.av] [] v O :=
 zS ⟨[0,1,2,3,4,5,6,12],[],[],[]⟩ Tryz.func189 Tryz.call189 rfl (by kernel_rfl) h
theorem Gf (x y:TEncl):Sp 189 [x.av,y.av] [] (.tup [(jE x y).1.av,.int .i64 (jE x y).2]) []:=zdB x y _ _ (by
 unfold FO jE;have hv:=Ie [x,y] (by simp);refine Sm (x:=x) (y:=y) (fun h=>?_) (fun hx hy a b h=>?_)
 ·obtain ⟨e1,e2⟩:=Tu (f:=fun a b=>yJ (a*b) 100000000) h;rw[e2] at hv;exact⟨_,hv,fun _=>⟨by rw[e1];rfl,rfl⟩,fun g=>(by cases g)⟩
 ·rw[h] at hv;rw[WV a b];obtain ⟨x1,x2,x3⟩:=hx;obtain ⟨y1,y2,y3⟩:=hy;have m1:=XW (a:=x.Lo) (b:=y.Lo) (by omega) (by omega);have m2:=XW (a:=x.Lo) (b:=y.Hi) (by omega) (by omega);have m3:=XW (a:=x.Hi) (b:=y.Lo) (by omega) (by omega);have m4:=XW (a:=x.Hi) (b:=y.Hi) (by omega) (by omega);have hq:[xa (x.Lo*y.Hi) 100000000,xa (x.Hi*y.Lo) 100000000,xa (x.Hi*y.Hi) 100000000].foldl xb (xa (x.Lo*y.Lo) 100000000)=wi (fun a b=>yJ (a*b) 100000000) x y:=by
   unfold wi;dsimp only;rw[ki (by decide),ki (by decide),ki (by decide),ki (by decide)]
  have hl:=Gj _ _ _ _ 100000000 100000000 100000000 100000000 m1 m2 m3 m4 (by decide) (by decide) (by decide) (by decide) hq;refine⟨_,hv,fun g=>(by cases g),fun _=>⟨_,_,?_,_,_,_,Gi _ _,rfl,rfl⟩⟩;rw[zw6 (by omega),zw6 (by omega),zw6 (by omega),zw6 (by omega)];exact hl)
theorem KL (a b c d:TEncl):[c,b,a].foldl xb d=[b,c,d].foldl xb a:=by
 simp only[List.foldl_cons,List.foldl_nil];unfold xb;dsimp only;congr 1
 ·repeat' split
  all_goals omega
 ·repeat' split
  all_goals omega
abbrev Ss (x y:TEncl) (Q:yc) (p0_:Int):Prop :=
 (p0_ != 0)=false->(decide (y.Hi<0)=true->∃n12 n13,Sp 216 [x.av] [] (.agg [iN n12,iN n13]) []/\∃n15 n16,Sp 216 [y.av] [] (.agg [iN n15,iN n16]) []/\∃n18 n19,Sp 213 [AV.agg [iN (wrap i64 (n12*100000000)),iN (wrap i64 (n12*100000000)),iN (wrap i64 (n13*100000000)),iN (wrap i64 (n13*100000000))],.agg [iN n15,iN n16,iN n15,iN n16]] [] (.tup [iN n18,iN n19]) []/\∃n21 n22 n23,Sp 212 [iN n18,iN n19] [] (.tup [AV.agg [iN n21,iN n22],iN n23]) []/\Q (.tup [AV.agg [iN n21,iN n22],iN n23]) [])/\(decide (y.Hi<0)=false->∃n12 n13,Sp 213 [AV.agg [iN (wrap i64 (x.Lo*100000000)),iN (wrap i64 (x.Lo*100000000)),iN (wrap i64 (x.Hi*100000000)),iN (wrap i64 (x.Hi*100000000))],.agg [iN y.Lo,iN y.Hi,iN y.Lo,iN y.Hi]] [] (.tup [iN n12,iN n13]) []/\∃n15 n16 n17,Sp 212 [iN n12,iN n13] [] (.tup [AV.agg [iN n15,iN n16],iN n17]) []/\Q (.tup [AV.agg [iN n15,iN n16],iN n17]) [])
def FQ (x y:TEncl) (Q:yc):Prop :=
 ∃n0,Sp 211 [AV.slc 3 [x.av,y.av]] [] (iN n0) []/\((n0 == 0)=true->(decide (y.Lo<=0)=true->(decide (y.Hi>=0)=true->Q (.tup [TEncl.zero.av,iN 8]) [])/\(decide (y.Hi>=0)=false->((n0 != 0)=true->Q (.tup [TEncl.zero.av,iN n0]) [])/\(Ss x y Q n0)))/\(decide (y.Lo<=0)=false->((n0 != 0)=true->Q (.tup [TEncl.zero.av,iN n0]) [])/\(Ss x y Q n0)))/\((n0 == 0)=false->((n0 != 0)=true->Q (.tup [TEncl.zero.av,iN n0]) [])/\(Ss x y Q n0))
theorem zdF (x y:TEncl) (v O) (h:FQ x y (fun r O'=>r=v/\O'=O)):Sp 193 [x.av,y.av] [] v O :=
 zS ⟨[0,1,2,3,4,5,6,22,24,29],[],[],[]⟩ Tryz.func193 Tryz.call193 rfl (by kernel_rfl) h
theorem M7 (x y:TEncl) (hx:jJ x) (hy:jJ y) (hz:¬ (y.Lo<=0/\y.Hi>=0)) {F:TEncl} (hF:wi (fun a b=>yJ (a*100000000) b) x y=F) :
  (decide (y.Hi<0)=true->Sp 213 [.agg [.int .i64 (wrap i64 ((qn x).Lo*100000000)),.int .i64 (wrap i64 ((qn x).Lo*100000000)),.int .i64 (wrap i64 ((qn x).Hi*100000000)),.int .i64 (wrap i64 ((qn x).Hi*100000000))],.agg [.int .i64 (qn y).Lo,.int .i64 (qn y).Hi,.int .i64 (qn y).Lo,.int .i64 (qn y).Hi]] [] (.tup [.int .i64 F.Lo,.int .i64 F.Hi]) []) /\
  (decide (y.Hi<0)=false->Sp 213 [.agg [.int .i64 (wrap i64 (x.Lo*100000000)),.int .i64 (wrap i64 (x.Lo*100000000)),.int .i64 (wrap i64 (x.Hi*100000000)),.int .i64 (wrap i64 (x.Hi*100000000))],.agg [.int .i64 y.Lo,.int .i64 y.Hi,.int .i64 y.Lo,.int .i64 y.Hi]] [] (.tup [.int .i64 F.Lo,.int .i64 F.Hi]) []):=by
 obtain ⟨x1,x2,x3⟩:=hx;obtain ⟨y1,y2,y3⟩:=hy;constructor
 ·intro g;have g:=zt_ g;have ex:qn x=⟨-x.Hi,-x.Lo⟩:=by unfold qn;rw[zw6 (by omega),zw6 (by omega),Int.zero_sub,Int.zero_sub]
  have ey:qn y=⟨-y.Hi,-y.Lo⟩:=by unfold qn;rw[zw6 (by omega),zw6 (by omega),Int.zero_sub,Int.zero_sub]
  rw[ex,ey];dsimp only;rw[zw6 (by omega),zw6 (by omega)];refine Gj _ _ _ _ _ _ _ _ (by omega) (by omega) (by omega) (by omega) (by omega) (by omega) (by omega) (by omega) ?_;rw[<- hF,KL];unfold wi;dsimp only;rw[Xa (by omega),Xa (by omega),Xa (by omega),Xa (by omega),Int.neg_mul,Int.neg_mul]
 ·intro g;have g:=zf_ g;rw[zw6 (by omega),zw6 (by omega)];refine Gj _ _ _ _ _ _ _ _ (by omega) (by omega) (by omega) (by omega) (by omega) (by omega) (by omega) (by omega) ?_;rw[<- hF];unfold wi;dsimp only;rw[ki (by omega),ki (by omega),ki (by omega),ki (by omega)]
theorem zb1 (x y:TEncl):Sp 193 [x.av,y.av] [] (.tup [(xF x y).1.av,.int .i64 (xF x y).2]) []:=zdF x y _ _ (by
 unfold FQ Ss;have hv:=Ie [x,y] (by simp);refine Sm (x:=x) (y:=y) (fun h=>?_) (fun hx hy a b h=>?_)
 ·obtain ⟨e1,e2⟩:=Tu (f:=fun a b=>yJ (a*100000000) b) h;have e3:xF x y=(⟨0,0⟩,7):=by
   unfold xF;rw[if_neg ?_,e1];rw[JS] at h;intro q;simp only[Bool.and_eq_true,Bool.not_eq_true'] at q;rw[q.1.1,q.1.2] at h;exact h rfl
  rw[e2] at hv;exact⟨_,hv,fun g=>(by cases g),fun _=>⟨fun _=>⟨by rw[e3];rfl,rfl⟩,fun g=>(by cases g)⟩⟩
 rw[h] at hv;by_cases hz:y.Lo<=0/\y.Hi>=0
 ·have e3:xF x y=(⟨0,0⟩,8):=by unfold xF;rw[a,b,decide_eq_true hz.1,decide_eq_true hz.2];rfl
  refine⟨_,hv,fun _=>⟨fun _=>⟨fun _=>⟨by rw[e3];rfl,rfl⟩,fun g=>?_⟩,fun g=>?_⟩,fun g=>(by cases g)⟩
  ·exact absurd hz.2 (zf_ g)
  ·exact absurd hz.1 (zf_ g)
 have e3:xF x y=OY (wi (fun a b=>yJ (a*100000000) b) x y):=by
  rw[<- WV a b];unfold xF;rw[if_neg];intro q;simp only[Bool.and_eq_true,decide_eq_true_eq] at q;exact hz q.2
 obtain ⟨t1,t2⟩:=M7 x y hx hy hz rfl;have nx:=Gk x;have ny:=Gk y;rw[e3];have hr:=Gi (wi (fun a b=>yJ (a*100000000) b) x y).Lo (wi (fun a b=>yJ (a*100000000) b) x y).Hi;generalize wi (fun a b=>yJ (a*100000000) b) x y=F at *;have bot:∀ {P:Prop},((0:Int) != 0)=true->P:=fun g=>(by cases g)
 refine⟨_,hv,fun _=>⟨fun g=>⟨fun g2=>absurd ⟨zt_ g,zt_ g2⟩ hz,fun _=>⟨bot,fun _=>⟨fun g=>⟨_,_,nx,_,_,ny,_,_,t1 g,_,_,_,hr,rfl,rfl⟩,fun g=>⟨_,_,t2 g,_,_,_,hr,rfl,rfl⟩⟩⟩⟩,
  fun g=>⟨bot,fun _=>⟨fun g=>⟨_,_,nx,_,_,ny,_,_,t1 g,_,_,_,hr,rfl,rfl⟩,fun g=>⟨_,_,t2 g,_,_,_,hr,rfl,rfl⟩⟩⟩⟩,fun g=>(by cases g)⟩)
end Go.Proofs.YtkojpnkknehhmaaGreatDoor
