/- Contracts: the document's sines of angles and of enclosures are the program's. Contracts: the document's products and quotients of enclosures are the program's. -/
import Derived.Test.YtkojpnkknehhmaaGreatDoorYd
import Derived.Test.YtkojpnkknehhmaaGreatDoorEg
namespace Go.Proofs.YtkojpnkknehhmaaGreatDoor
open Go.IntKind (wrap i64 u64)
open Go.RowKit SunQ
def zai (x:TEncl) (_S:SpecF) (_Fr:FreshF) (_Sq:SeqF) (Q:yc):Prop :=
 Q (.agg [iN (wrap i64 ((0:Int)-x.Hi)),iN (wrap i64 ((0:Int)-x.Lo))]) []
theorem zcY (x:TEncl) (v:AV) (O:List (List AV)) (h:zai x Sp Fo So (fun r O'=>r=v/\O'=O)):Sp 216 [x.av] [] v O :=
 yb (w:=⟨[],[],[],[],[]⟩) (k:=0) (keep:=⟨[0,1,2],[],[],[]⟩) (boxes:=[]) mixed (by exact trivial) Tryz.func216 Tryz.call216 rfl rfl rfl (Nat.le_of_ble_eq_true rfl) (by kernel_rfl) h
theorem Hl (e:TEncl):Sp 216 [e.av] [] (ql e).av []:=zcY e _ _ ⟨rfl,rfl⟩
theorem K3 {z:Int} (h:0<=z/\z<360000000):qI z=z:=by
 unfold qI;rw[Int.tmod_eq_emod_of_nonneg (a:=z) (by omega),Int.tmod_eq_emod_of_nonneg (by omega)];omega
theorem T4 (a:Int):(wrap i64 (a.tmod 360000000+360000000)).tmod 360000000=qI a:=by
 have h1:=Int.tmod_lt_of_pos a (b:=360000000) (by omega);have h2:=Int.lt_tmod_of_pos a (b:=360000000) (by omega);rw[zw6 (by omega)];rfl
def IW (a:Int) (S:SpecF) (_Fr:FreshF) (_Sq:SeqF) (Q:yc):Prop :=
 (decide ((wrap i64 (a.tmod (360000000:Int)+(360000000:Int))).tmod (360000000:Int)>=(180000000:Int))=true->∃n2 n3,S 217 [iN (wrap i64 ((wrap i64 (a.tmod (360000000:Int)+(360000000:Int))).tmod (360000000:Int)-(180000000:Int)))] [] (.agg [iN n2,iN n3]) []/\∃n5 n6,S 216 [AV.agg [iN n2,iN n3]] [] (.agg [iN n5,iN n6]) []/\Q (.agg [iN n5,iN n6]) [])/\(decide ((wrap i64 (a.tmod (360000000:Int)+(360000000:Int))).tmod (360000000:Int)>=(180000000:Int))=false->∃n2 n3,S 228 [iN (if IntKind.i64.wrap ((180000000:Int)-(wrap i64 (a.tmod (360000000:Int)+(360000000:Int))).tmod (360000000:Int))<(wrap i64 (a.tmod (360000000:Int)+(360000000:Int))).tmod (360000000:Int) then wrap i64 ((180000000:Int)-(wrap i64 (a.tmod (360000000:Int)+(360000000:Int))).tmod (360000000:Int)) else (wrap i64 (a.tmod (360000000:Int)+(360000000:Int))).tmod (360000000:Int))] [] (.agg [iN n2,iN n3]) []/\Q (.agg [iN n2,iN n3]) [])
theorem Dj (a:Int) (v:AV) (O:List (List AV)) (h:IW a Sp Fo So (fun r O'=>r=v/\O'=O)):Sp 217 [iN a] [] v O :=
 yb (w:=⟨[],[],[],[],[]⟩) (k:=0) (keep:=⟨[0,2,8],[],[],[]⟩) (boxes:=[]) mixed (by exact trivial) Tryz.func217 Tryz.call217 rfl rfl rfl (Nat.le_of_ble_eq_true rfl) (by kernel_rfl) h
theorem Pb (a:Int) (h:qI a<180000000):Sp 217 [.int .i64 a] [] (jv a).av []:=Dj a _ _ (by
 unfold IW;rw[T4];have ht:=Xt a;obtain ⟨f1,f2⟩:=xZ a;have e:jv a=upE (yp (qh a)):=by unfold jv;rw[if_neg (by omega)]
 refine⟨fun g=>by have:=zt_ g;omega,fun g=>?_⟩;rw[zw6 (by omega)];have hm:(qI a).tmod 180000000=qI a:=by rw[Int.tmod_eq_emod_of_nonneg (by omega)];omega
 rw[hm] at f2;rw[<- f2,e];exact⟨_,_,zba _ f1,rfl,rfl⟩)
theorem Jo (a:Int):Sp 217 [.int .i64 a] [] (jv a).av []:=by
 have ht:=Xt a;by_cases h:qI a<180000000
 ·exact Pb a h
 refine Dj a _ _ ?_;unfold IW;rw[T4];refine⟨fun g=>?_,fun g=>by have:=zf_ g;omega⟩;rw[zw6 (by omega)];have t2:=K3 (z:=qI a-180000000) (by omega);have hf:qh (qI a-180000000)=qh a:=by
  have f1:=(xZ (qI a-180000000)).2;have f2:=(xZ a).2;rw[t2,Int.tmod_eq_emod_of_nonneg (by omega)] at f1;rw[Int.tmod_eq_emod_of_nonneg (by omega)] at f2;have:(qI a-180000000) % 180000000=qI a % 180000000:=by omega
  rw[this,<- f2] at f1;omega
 have e:jv a=ql (jv (qI a-180000000)):=by unfold jv;rw[if_pos (by omega),t2,if_neg (by omega),hf]
 rw[e];exact⟨_,_,Pb _ (by omega),_,_,Hl _,rfl,rfl⟩
def PB (a:Int):Bool:=decide (a >= -3600000000) && decide (a<=3600000000)
def GZ (a:Int) (_S:SpecF) (_Fr:FreshF) (_Sq:SeqF) (Q:yc):Prop :=
 (decide (a>=(-3600000000:Int))=true->Q (.bool (decide (a<=3600000000))) [])/\(decide (a>=(-3600000000:Int))=false->Q (.bool false) [])
theorem zc5 (a:Int) (v:AV) (O:List (List AV)) (h:GZ a Sp Fo So (fun r O'=>r=v/\O'=O)):Sp 225 [iN a] [] v O :=
 yb (w:=⟨[],[],[],[],[]⟩) (k:=0) (keep:=⟨[0,2],[],[],[]⟩) (boxes:=[]) mixed (by exact trivial) Tryz.func225 Tryz.call225 rfl rfl rfl (Nat.le_of_ble_eq_true rfl) (by kernel_rfl) h
theorem Jp (a:Int):Sp 225 [.int .i64 a] [] (.bool (PB a)) []:=zc5 a _ _ (by
 unfold GZ PB;exact⟨fun g=>⟨by rw[g];rfl,rfl⟩,fun g=>⟨by rw[g];rfl,rfl⟩⟩)
theorem Nr {n d:Int} (hd:0<d):qM n d=if n<0 then (if n.tmod d≠0 then wrap i64 (wrap i64 (n.tdiv d)-1) else wrap i64 (n.tdiv d)) else wrap i64 (n.tdiv d):=by
 unfold qM;by_cases h:n<0
 ·have h1:n.tmod d<=0:=by
   have:=Int.tmod_nonneg d (show 0 <= -n by omega);rw[Int.neg_tmod] at this;omega
  rw[if_pos h];by_cases h2:n.tmod d=0
  ·rw[if_neg (by omega),if_neg (by omega)]
  ·rw[if_pos (by omega),if_pos h2]
 ·rw[if_neg h,if_neg (by have:=Int.tmod_nonneg d (show 0<=n by omega);omega)]
def G1 (n d:Int) (_S:SpecF) (_Fr:FreshF) (_Sq:SeqF) (Q:yc):Prop :=
 d≠0/\(decide (n<0)=true->d≠0/\((n.tmod d != 0)=true->Q (iN (wrap i64 (wrap i64 (n.tdiv d)-1))) [])/\((n.tmod d != 0)=false->Q (iN (wrap i64 (n.tdiv d))) []))/\(decide (n<0)=false->Q (iN (wrap i64 (n.tdiv d))) [])
theorem zc7 (n:Int) (d:Int) (v:AV) (O:List (List AV)) (h:G1 n d Sp Fo So (fun r O'=>r=v/\O'=O)):Sp 227 [iN n,iN d] [] v O :=
 yb (w:=⟨[],[],[],[],[]⟩) (k:=0) (keep:=⟨[0,1,4,5,16],[],[],[]⟩) (boxes:=[]) mixed (by exact trivial) Tryz.func227 Tryz.call227 rfl rfl rfl (Nat.le_of_ble_eq_true rfl) (by kernel_rfl) h
theorem UW (n d:Int) (hd:0<d):Sp 227 [.int .i64 n,.int .i64 d] [] (.int .i64 (qM n d)) []:=zc7 n d _ _ (by
 unfold G1;rw[Nr hd];have d0:d≠0:=by omega
 refine⟨d0,fun g=>⟨d0,fun g2=>⟨?_,rfl⟩,fun g2=>⟨?_,rfl⟩⟩,fun g=>⟨?_,rfl⟩⟩
 ·rw[if_pos (zt_ g),if_pos (by simpa using g2)]
 ·rw[if_pos (zt_ g),if_neg (by simpa using g2)]
 ·rw[if_neg (zf_ g)])
theorem Xh {n d:Int} (hd:0<d) (h:-9223372036854775807<n/\n<9223372036854775807):qM n d=n / d:=by
 have h1:=Int.mul_tdiv_add_tmod n d;have hb:-9223372036854775807<n.tdiv d/\n.tdiv d<9223372036854775807:=by
  have:=Int.natAbs_tdiv_le_natAbs n d;omega
 unfold qM;by_cases h2:n.tmod d<0
 ·have h3:=Int.lt_tmod_of_pos n hd;rw[if_pos h2,zw6 (n:=n.tdiv d) (by omega),zw6 (by omega)];symm
  rw[Int.ediv_eq_iff_of_pos hd,Int.sub_mul,Int.one_mul,Int.mul_comm (n.tdiv d)];omega
 ·have h3:=Int.tmod_lt_of_pos n hd;rw[if_neg h2,zw6 (by omega)];symm
  rw[Int.ediv_eq_iff_of_pos hd,Int.mul_comm (n.tdiv d)];omega
theorem Mp {lo hi b:Int} (h:-4000000000<=lo/\lo<=4000000000) (h2:-4000000000<=hi/\hi<=4000000000) (hb:0<=b/\b<=360000000) :
  decide (qM (wrap i64 (hi-b)) 360000000>qM (wrap i64 (wrap i64 (lo-1)-b)) 360000000)=decide (We b lo<=hi):=by
 unfold We;have h3:=Int.tmod_lt_of_pos (b-lo) (b:=360000000) (by omega);have h4:=Int.lt_tmod_of_pos (b-lo) (b:=360000000) (by omega);have h5:((b-lo).tmod 360000000+360000000).tmod 360000000=(b-lo) % 360000000:=by
  rw[Int.tmod_eq_emod_of_nonneg (by omega),Int.tmod_eq_emod];split<;>omega
 rw[zw6 (n:=b-lo) (by omega),zw6 (n:=_+360000000) (by omega),h5,zw6 (n:=hi-b) (by omega),zw6 (n:=lo-1) (by omega),zw6 (n:=lo-1-b) (by omega),zw6 (by omega),Xh (by omega) (by omega),Xh (by omega) (by omega),decide_eq_decide];omega
def zam (lo hi a:Int) (S:SpecF) (_Fr:FreshF) (_Sq:SeqF) (Q:yc):Prop :=
 ∃n0,S 227 [iN (wrap i64 (hi-a)),iN 360000000] [] (iN n0) []/\∃n2,S 227 [iN (wrap i64 (wrap i64 (lo-1)-a)),iN 360000000] [] (iN n2) []/\Q (.bool (decide (n0>n2))) []
theorem zde (lo:Int) (hi:Int) (a:Int) (v:AV) (O:List (List AV)) (h:zam lo hi a Sp Fo So (fun r O'=>r=v/\O'=O)):Sp 234 [iN lo,iN hi,iN a] [] v O :=
 yb (w:=⟨[],[],[],[],[]⟩) (k:=0) (keep:=⟨[0,1,2,6],[],[],[]⟩) (boxes:=[]) mixed (by exact trivial) Tryz.func234 Tryz.call234 rfl rfl rfl (Nat.le_of_ble_eq_true rfl) (by kernel_rfl) h
theorem Hp (lo hi b:Int) (h:-4000000000<=lo/\lo<=4000000000) (h2:-4000000000<=hi/\hi<=4000000000) (hb:0<=b/\b<=360000000):Sp 234 [.int .i64 lo,.int .i64 hi,.int .i64 b] [] (.bool (decide (We b lo<=hi))) []:=zde lo hi b _ _
 ⟨_,UW _ _ (by omega),_,UW _ _ (by omega),by rw[Mp h h2 hb],rfl⟩
def SR (a:TEncl):TEncl:=I8 (decide (We 270000000 a.Lo<=a.Hi)) (H5 (decide (We 90000000 a.Lo<=a.Hi)) (w7 (jv a.Lo) (jv a.Hi)))
def G0 (a:TEncl) (S:SpecF) (_Fr:FreshF) (_Sq:SeqF) (Q:yc):Prop :=
 ∃n0 n1,S 217 [iN a.Lo] [] (.agg [iN n0,iN n1]) []/\∃n3 n4,S 217 [iN a.Hi] [] (.agg [iN n3,iN n4]) []/\∃b6,S 234 [iN a.Lo,iN a.Hi,iN 90000000] [] (.bool b6) []/\(b6=true->∃b10,S 234 [iN a.Lo,iN a.Hi,iN 270000000] [] (.bool b10) []/\(b10=true->Q (.agg [iN (-100000000:Int),iN 100000000]) [])/\(b10=false->Q (.agg [iN (if n3<n0 then n3 else n0),iN 100000000]) []))/\(b6=false->∃b10,S 234 [iN a.Lo,iN a.Hi,iN 270000000] [] (.bool b10) []/\(b10=true->Q (.agg [iN (-100000000:Int),iN (if n4>n1 then n4 else n1)]) [])/\(b10=false->Q (.agg [iN (if n3<n0 then n3 else n0),iN (if n4>n1 then n4 else n1)]) []))
theorem zc6 (a:TEncl) (v:AV) (O:List (List AV)) (h:G0 a Sp Fo So (fun r O'=>r=v/\O'=O)):Sp 226 [a.av] [] v O :=
 yb (w:=⟨[],[],[],[],[]⟩) (k:=0) (keep:=⟨[0,1,2,3,4,5,27,33],[],[],[]⟩) (boxes:=[]) mixed (by exact trivial) Tryz.func226 Tryz.call226 rfl rfl rfl (Nat.le_of_ble_eq_true rfl) (by kernel_rfl) h
theorem FO (a:TEncl) (h:-4000000000<=a.Lo/\a.Lo<=4000000000) (h2:-4000000000<=a.Hi/\a.Hi<=4000000000):Sp 226 [a.av] [] (SR a).av []:=zc6 a _ _ (by
 unfold G0 SR;refine⟨_,_,Jo _,_,_,Jo _,_,Hp _ _ _ h h2 (by omega),fun g=>⟨_,Hp _ _ _ h h2 (by omega),fun g2=>⟨?_,rfl⟩,fun g2=>⟨?_,rfl⟩⟩,fun g=>⟨_,Hp _ _ _ h h2 (by omega),fun g2=>⟨?_,rfl⟩,fun g2=>⟨?_,rfl⟩⟩⟩;all_goals rw[g,g2];rfl)
theorem Pq {a:TEncl}:qc a 3600000000=(decide (a.Lo>a.Hi) || (!PB a.Lo || !PB a.Hi)):=by
 unfold qc PB;rw[show wrap i64 (0-3600000000) = -3600000000 by rfl,Bool.eq_iff_iff];simp only[Bool.or_eq_true,decide_eq_true_eq,Bool.not_eq_true',Bool.and_eq_false_iff,decide_eq_false_iff_not];omega
def GO (a:TEncl) (S:SpecF) (_Fr:FreshF) (_Sq:SeqF) (Q:yc):Prop :=
 (decide (a.Lo>a.Hi)=true->Q (.tup [TEncl.zero.av,iN 7]) [])/\(decide (a.Lo>a.Hi)=false->∃b2,S 225 [iN a.Lo] [] (.bool b2) []/\((!b2)=true->Q (.tup [TEncl.zero.av,iN 7]) [])/\((!b2)=false->∃b6,S 225 [iN a.Hi] [] (.bool b6) []/\((!b6)=true->Q (.tup [TEncl.zero.av,iN 7]) [])/\((!b6)=false->∃n10 n11,S 226 [a.av] [] (.agg [iN n10,iN n11]) []/\Q (.tup [AV.agg [iN n10,iN n11],iN 0]) [])))
theorem zcS (a:TEncl) (v:AV) (O:List (List AV)) (h:GO a Sp Fo So (fun r O'=>r=v/\O'=O)):Sp 210 [a.av] [] v O :=
 yb (w:=⟨[],[],[],[],[]⟩) (k:=0) (keep:=⟨[0,1,2,3,20],[],[],[]⟩) (boxes:=[]) mixed (by exact trivial) Tryz.func210 Tryz.call210 rfl rfl rfl (Nat.le_of_ble_eq_true rfl) (by kernel_rfl) h
theorem za5 (a:TEncl):Sp 210 [a.av] [] (.tup [(yY a 0).1.av,.int .i64 (yY a 0).2]) []:=zcS a _ _ (by
 unfold GO yY;rw[Pq];refine⟨fun g=>⟨by rw[g];rfl,rfl⟩,fun g=>⟨_,Jp _,fun g2=>⟨by rw[g,g2];rfl,rfl⟩,fun g2=>⟨_,Jp _,fun g3=>⟨by rw[g,g2,g3];rfl,rfl⟩,fun g3=>?_⟩⟩⟩;rw[g,g2,g3];unfold PB at g2 g3;simp only[Bool.not_eq_false',Bool.and_eq_true,decide_eq_true_eq] at g2 g3;have e:NA a 0=SR a:=by unfold NA SR;dsimp only;rw[Int.add_zero,Int.add_zero,zw6 (by omega),zw6 (by omega)]
 refine⟨_,_,FO a (by omega) (by omega),?_,rfl⟩;rw[<- e];rfl)
def GS (a:TEncl) (S:SpecF) (_Fr:FreshF) (_Sq:SeqF) (Q:yc):Prop :=
 (decide (a.Lo>a.Hi)=true->Q (.tup [TEncl.zero.av,iN 7]) [])/\(decide (a.Lo>a.Hi)=false->∃b2,S 225 [iN a.Lo] [] (.bool b2) []/\((!b2)=true->Q (.tup [TEncl.zero.av,iN 7]) [])/\((!b2)=false->∃b6,S 225 [iN a.Hi] [] (.bool b6) []/\((!b6)=true->Q (.tup [TEncl.zero.av,iN 7]) [])/\((!b6)=false->∃n10 n11,S 226 [AV.agg [iN (wrap i64 (a.Lo+90000000)),iN (wrap i64 (a.Hi+90000000))]] [] (.agg [iN n10,iN n11]) []/\Q (.tup [AV.agg [iN n10,iN n11],iN 0]) [])))
theorem zcW (a:TEncl) (v:AV) (O:List (List AV)) (h:GS a Sp Fo So (fun r O'=>r=v/\O'=O)):Sp 214 [a.av] [] v O :=
 yb (w:=⟨[],[],[],[],[]⟩) (k:=0) (keep:=⟨[0,1,2,3,20],[],[],[]⟩) (boxes:=[]) mixed (by exact trivial) Tryz.func214 Tryz.call214 rfl rfl rfl (Nat.le_of_ble_eq_true rfl) (by kernel_rfl) h
theorem za6 (a:TEncl):Sp 214 [a.av] [] (.tup [(yY a 90000000).1.av,.int .i64 (yY a 90000000).2]) []:=zcW a _ _ (by
 unfold GS yY;rw[Pq];refine⟨fun g=>⟨by rw[g];rfl,rfl⟩,fun g=>⟨_,Jp _,fun g2=>⟨by rw[g,g2];rfl,rfl⟩,fun g2=>⟨_,Jp _,fun g3=>⟨by rw[g,g2,g3];rfl,rfl⟩,fun g3=>?_⟩⟩⟩;rw[g,g2,g3];unfold PB at g2 g3;simp only[Bool.not_eq_false',Bool.and_eq_true,decide_eq_true_eq] at g2 g3;have k:=FO ⟨wrap i64 (a.Lo+90000000),wrap i64 (a.Hi+90000000)⟩ (by dsimp only;rw[zw6 (by omega)];omega) (by dsimp only;rw[zw6 (by omega)];omega);exact⟨_,_,k,rfl,rfl⟩)
open Go.RowKit SunQ
def YE (l:List TEncl):Int:=if l.any (qc · 3000000000) then 7 else 0
theorem IQ (x:TEncl):qc x 3000000000=(decide (x.Lo>x.Hi) || (decide (x.Lo < -3000000000) || decide (x.Hi>3000000000))):=rfl
theorem Ii {l:List TEncl} {k:Nat} {x:TEncl} (h:l[k]? = some x):YE (l.drop k)=if qc x 3000000000 then 7 else YE (l.drop (k+1)):=by
 obtain ⟨h1,rfl⟩:=List.getElem?_eq_some_iff.1 h;rw[List.drop_eq_getElem_cons h1];unfold YE;rw[List.any_cons];cases qc l[k] 3000000000<;>rfl
def GP (l:List TEncl) (_S:SpecF) (_Fr:FreshF) (_Sq:SeqF) (Q:yc):Prop :=
 ∃(I0:Nat->List AV->Prop),(∃m2,I0 m2 [iN 0])/\∀(m2:Nat) (n3:Int),I0 m2 [iN n3]->(decide (n3<(↑(List.map TEncl.av l).length:Int))=true->∃n7 n8,((0:Int)<=n3/\(2:Nat)=(2:Nat)/\(List.map TEncl.av l)[n3.toNat]? = some (.agg [iN n7,iN n8]))/\∃n10 n11,((0:Int)<=n3/\(2:Nat)=(2:Nat)/\(List.map TEncl.av l)[n3.toNat]? = some (.agg [iN n10,iN n11]))/\(decide (n7>n11)=true->Q (iN 7) [])/\(decide (n7>n11)=false->∃n15 n16,((0:Int)<=n3/\(2:Nat)=(2:Nat)/\(List.map TEncl.av l)[n3.toNat]? = some (.agg [iN n15,iN n16]))/\(decide (n15<(-3000000000:Int))=true->Q (iN 7) [])/\(decide (n15<(-3000000000:Int))=false->∃n20 n21,((0:Int)<=n3/\(2:Nat)=(2:Nat)/\(List.map TEncl.av l)[n3.toNat]? = some (.agg [iN n20,iN n21]))/\(decide (n21>3000000000)=true->Q (iN 7) [])/\(decide (n21>3000000000)=false->∃k25,k25<m2/\I0 k25 [iN (wrap i64 (n3+1))]))))/\(decide (n3<(↑(List.map TEncl.av l).length:Int))=false->Q (iN 0) [])
theorem zcT (l:List TEncl) (v:AV) (O:List (List AV)) (h:GP l Sp Fo So (fun r O'=>r=v/\O'=O)):Sp 211 [.slc 3 (List.map TEncl.av l)] [] v O :=
 yb (w:=⟨[],[],[],[],[]⟩) (k:=0) (keep:=⟨[0,2,3,7,36],[⟨2,[(3,iN 0)],[],[],[],[],[]⟩],[],[]⟩) (boxes:=[]) mixed (by exact trivial) Tryz.func211 Tryz.call211 rfl rfl rfl (Nat.le_of_ble_eq_true rfl) (by kernel_rfl) h
theorem Jn (l:List TEncl) (hl:l.length<=1000000):Sp 211 [.slc 3 (l.map TEncl.av)] [] (.int .i64 (YE l)) []:=zcT l _ _ (by
 unfold GP;refine⟨fun m vs=>∃k:Nat,k<=l.length/\m=l.length-k/\vs=[.int .i64 k]/\YE (l.drop k)=YE l,⟨_,0,by omega,rfl,rfl,rfl⟩,?_⟩;rintro m n ⟨k,hk,rfl,hv,hn⟩;cases hv;simp only[List.length_map];refine⟨fun g=>?_,fun g=>⟨?_,by trivial⟩⟩
 ·have g:k<l.length:=by simpa using g
  obtain ⟨x,hx,hx'⟩:=ym (f:=TEncl.av) g;have hat:=Ii hx;rw[hn,IQ] at hat;have look:(0:Int)<=(k:Int)/\True/\(l.map TEncl.av)[((k:Nat):Int).toNat]? = some (.agg [.int .i64 x.Lo,.int .i64 x.Hi]):=⟨by omega,trivial,hx'⟩;refine⟨_,_,look,_,_,look,fun g1=>⟨by rw[hat,g1];rfl,by trivial⟩,fun g1=>⟨_,_,look,fun g2=>⟨by rw[hat,g1,g2];rfl,by trivial⟩,fun g2=>⟨_,_,look,fun g3=>⟨by rw[hat,g1,g2,g3];rfl,by trivial⟩,fun g3=>⟨_,(by omega:l.length-(k+1)<l.length-k),k+1,by omega,rfl,by rw[yg (by omega)],by rw[hat,g1,g2,g3];rfl⟩⟩⟩⟩
 ·have:k=l.length:=by simp at g;omega
  rw[<- hn,this,List.drop_length];rfl)
def Ot (x:TEncl):TEncl × Int:=if qc x 3000000000 then (⟨0,0⟩,7) else (x,0)
def GQ (lo hi:Int) (S:SpecF) (_Fr:FreshF) (_Sq:SeqF) (Q:yc):Prop :=
 ∃n0,S 211 [AV.slc 3 [AV.agg [iN lo,iN hi]]] [] (iN n0) []/\((n0 != 0)=true->Q (.tup [TEncl.zero.av,iN n0]) [])/\((n0 != 0)=false->Q (.tup [AV.agg [iN lo,iN hi],iN 0]) [])
theorem zcU (lo:Int) (hi:Int) (v:AV) (O:List (List AV)) (h:GQ lo hi Sp Fo So (fun r O'=>r=v/\O'=O)):Sp 212 [iN lo,iN hi] [] v O :=
 yb (w:=⟨[],[],[],[],[]⟩) (k:=0) (keep:=⟨[0,1,4,5,6,7,15],[],[],[]⟩) (boxes:=[]) mixed (by exact trivial) Tryz.func212 Tryz.call212 rfl rfl rfl (Nat.le_of_ble_eq_true rfl) (by kernel_rfl) h
theorem Hj (lo hi:Int):Sp 212 [.int .i64 lo,.int .i64 hi] [] (.tup [(Ot ⟨lo,hi⟩).1.av,.int .i64 (Ot ⟨lo,hi⟩).2]) []:=zcU lo hi _ _ (by
 unfold GQ Ot;have hv:=Jn [⟨lo,hi⟩] (by simp);unfold YE at hv;rw[List.any_cons,List.any_nil,Bool.or_false] at hv;refine⟨_,hv,fun g=>⟨?_,rfl⟩,fun g=>⟨?_,rfl⟩⟩
 ·cases hw:qc ⟨lo,hi⟩ 3000000000 with
  |true=>rfl
  |false=>rw[hw] at g;cases g
 ·cases hw:qc ⟨lo,hi⟩ 3000000000 with
  |true=>rw[hw] at g;cases g
  |false=>rfl)
def wZ (n d:Int):TEncl:=⟨n / d,-((-n) / d)⟩
theorem uV {n d:Int} (hd:0<d) (h:-9000000000000000000<=n/\n<=9000000000000000000):qM n d=(wZ n d).Lo/\IntKind.i64.wrap (0-qM (wrap i64 (0-n)) d)=(wZ n d).Hi:=by
 have h1:=Ws (n:=-n) hd (by omega);rw[zw6 (n:=0-n) (by omega),Xh hd (by omega),Xh hd (by omega),Int.zero_sub,Int.zero_sub,zw6 (by omega)];exact⟨rfl,rfl⟩
def GR (n0 n1 n2 n3 d0 d1 d2 d3:Int) (S:SpecF) (_Fr:FreshF) (_Sq:SeqF) (Q:yc):Prop :=
 ∃n0_1,S 227 [iN n0,iN d0] [] (iN n0_1) []/\∃n2_1,S 227 [iN (wrap i64 ((0:Int)-n0)),iN d0] [] (iN n2_1) []/\∃n4,S 227 [iN n1,iN d1] [] (iN n4) []/\∃n6,S 227 [iN (wrap i64 ((0:Int)-n1)),iN d1] [] (iN n6) []/\∃n8,S 227 [iN n2,iN d2] [] (iN n8) []/\∃n10,S 227 [iN (wrap i64 ((0:Int)-n2)),iN d2] [] (iN n10) []/\∃n12,S 227 [iN n3,iN d3] [] (iN n12) []/\∃n14,S 227 [iN (wrap i64 ((0:Int)-n3)),iN d3] [] (iN n14) []/\Q (.tup [iN (if n12<if false=true then if n8>if false=true then if n4>n0_1 then n4 else n0_1 else if n4<n0_1 then n4 else n0_1 then n8 else if false=true then if n4>n0_1 then n4 else n0_1 else if n4<n0_1 then n4 else n0_1 else if n8<if false=true then if n4>n0_1 then n4 else n0_1 else if n4<n0_1 then n4 else n0_1 then n8 else if false=true then if n4>n0_1 then n4 else n0_1 else if n4<n0_1 then n4 else n0_1 then n12 else if n8<if false=true then if n4>n0_1 then n4 else n0_1 else if n4<n0_1 then n4 else n0_1 then n8 else if n4<n0_1 then n4 else n0_1),iN (if IntKind.i64.wrap ((0:Int)-n14)>if true=true then if IntKind.i64.wrap ((0:Int)-n10)>if true=true then if IntKind.i64.wrap ((0:Int)-n6)>wrap i64 ((0:Int)-n2_1) then wrap i64 ((0:Int)-n6) else wrap i64 ((0:Int)-n2_1) else if IntKind.i64.wrap ((0:Int)-n6)<wrap i64 ((0:Int)-n2_1) then wrap i64 ((0:Int)-n6) else wrap i64 ((0:Int)-n2_1) then wrap i64 ((0:Int)-n10) else if true=true then if IntKind.i64.wrap ((0:Int)-n6)>wrap i64 ((0:Int)-n2_1) then wrap i64 ((0:Int)-n6) else wrap i64 ((0:Int)-n2_1) else if IntKind.i64.wrap ((0:Int)-n6)<wrap i64 ((0:Int)-n2_1) then wrap i64 ((0:Int)-n6) else wrap i64 ((0:Int)-n2_1) else if IntKind.i64.wrap ((0:Int)-n10)<if true=true then if IntKind.i64.wrap ((0:Int)-n6)>wrap i64 ((0:Int)-n2_1) then wrap i64 ((0:Int)-n6) else wrap i64 ((0:Int)-n2_1) else if IntKind.i64.wrap ((0:Int)-n6)<wrap i64 ((0:Int)-n2_1) then wrap i64 ((0:Int)-n6) else wrap i64 ((0:Int)-n2_1) then wrap i64 ((0:Int)-n10) else if true=true then if IntKind.i64.wrap ((0:Int)-n6)>wrap i64 ((0:Int)-n2_1) then wrap i64 ((0:Int)-n6) else wrap i64 ((0:Int)-n2_1) else if IntKind.i64.wrap ((0:Int)-n6)<wrap i64 ((0:Int)-n2_1) then wrap i64 ((0:Int)-n6) else wrap i64 ((0:Int)-n2_1) then wrap i64 ((0:Int)-n14) else if IntKind.i64.wrap ((0:Int)-n10)>if true=true then if IntKind.i64.wrap ((0:Int)-n6)>wrap i64 ((0:Int)-n2_1) then wrap i64 ((0:Int)-n6) else wrap i64 ((0:Int)-n2_1) else if IntKind.i64.wrap ((0:Int)-n6)<wrap i64 ((0:Int)-n2_1) then wrap i64 ((0:Int)-n6) else wrap i64 ((0:Int)-n2_1) then wrap i64 ((0:Int)-n10) else if IntKind.i64.wrap ((0:Int)-n6)>wrap i64 ((0:Int)-n2_1) then wrap i64 ((0:Int)-n6) else wrap i64 ((0:Int)-n2_1))]) []
theorem zcV (n0:Int) (n1:Int) (n2:Int) (n3:Int) (d0:Int) (d1:Int) (d2:Int) (d3:Int) (v:AV) (O:List (List AV)) (h:GR n0 n1 n2 n3 d0 d1 d2 d3 Sp Fo So (fun r O'=>r=v/\O'=O)):Sp 213 [.agg [iN n0,iN n1,iN n2,iN n3],.agg [iN d0,iN d1,iN d2,iN d3]] [] v O :=
 yb (w:=⟨[],[],[],[],[]⟩) (k:=0) (keep:=⟨[0,1,2,3,4,5,6,7,8,22],[],[],[]⟩) (boxes:=[]) mixed (by exact trivial) Tryz.func213 Tryz.call213 rfl rfl rfl (Nat.le_of_ble_eq_true rfl) (by kernel_rfl) h
theorem Hk (n0 n1 n2 n3 d0 d1 d2 d3:Int) (h0:-9000000000000000000<=n0/\n0<=9000000000000000000) (h1:-9000000000000000000<=n1/\n1<=9000000000000000000) (h2:-9000000000000000000<=n2/\n2<=9000000000000000000) (h3:-9000000000000000000<=n3/\n3<=9000000000000000000)
  (p0:0<d0) (p1:0<d1) (p2:0<d2) (p3:0<d3) {E:TEncl} (hE:[wZ n1 d1,wZ n2 d2,wZ n3 d3].foldl w7 (wZ n0 d0)=E) :
  Sp 213 [.agg [.int .i64 n0,.int .i64 n1,.int .i64 n2,.int .i64 n3],.agg [.int .i64 d0,.int .i64 d1,.int .i64 d2,.int .i64 d3]] [] (.tup [.int .i64 E.Lo,.int .i64 E.Hi]) []:=zcV _ _ _ _ _ _ _ _ _ _ (by
 unfold GR;refine⟨_,UW _ _ p0,_,UW _ _ p0,_,UW _ _ p1,_,UW _ _ p1,_,UW _ _ p2,_,UW _ _ p2,_,UW _ _ p3,_,UW _ _ p3,?_,rfl⟩;obtain ⟨a0,b0⟩:=uV p0 h0;obtain ⟨a1,b1⟩:=uV p1 h1;obtain ⟨a2,b2⟩:=uV p2 h2;obtain ⟨a3,b3⟩:=uV p3 h3;rw[b0,b1,b2,b3,a0,a1,a2,a3,<- hE];simp only[Bool.false_eq_true,if_false,if_true];rfl)
theorem K6 (x y:TEncl):YE [x,y]=if qc x 3000000000 then 7 else if qc y 3000000000 then 7 else 0:=by
 unfold YE;rw[List.any_cons,List.any_cons,List.any_nil];cases qc x 3000000000<;>cases qc y 3000000000<;>rfl
theorem ki {n d:Int} (h:0<d):yN n d=wZ n d:=by unfold yN wZ;rw[if_neg (by omega),if_neg (by omega)]
theorem Y8 {n d:Int} (h:d<0):yN n d=wZ (-n) (-d):=by unfold yN wZ;rw[if_neg (by omega),if_pos h,Int.neg_neg]
theorem T5 {x y:TEncl} {P:Prop} (h1:(YE [x,y]≠0)->P) (h2:jJ x->jJ y->qc x 3000000000=false->qc y 3000000000=false->YE [x,y]=0->P):P:=by
 by_cases h:YE [x,y]=0
 ·rw[K6] at h;by_cases a:qc x 3000000000=true
  ·rw[if_pos a] at h;cases h
  by_cases b:qc y 3000000000=true
  ·rw[if_neg a,if_pos b] at h;cases h
  have a:qc x 3000000000=false:=by simpa using a
  have b:qc y 3000000000=false:=by simpa using b
  exact h2 (vp a) (vp b) a b (by rw[K6,a,b];rfl)
 ·exact h1 h
theorem Te {f:Int->Int->TEncl} {x y:TEncl} (h:YE [x,y]≠0):jq f x y=(⟨0,0⟩,7)/\YE [x,y]=7:=by
 rw[K6] at h ⊢;unfold jq;by_cases a:qc x 3000000000=true
 ·rw[if_pos a,if_pos a];exact⟨rfl,rfl⟩
 by_cases b:qc y 3000000000=true
 ·rw[if_neg a,if_neg a,if_pos b,if_pos b];exact⟨rfl,rfl⟩
 rw[if_neg a,if_neg b] at h;exact absurd rfl h
theorem WJ {f:Int->Int->TEncl} {x y:TEncl} (a:qc x 3000000000=false) (b:qc y 3000000000=false):jq f x y=Ot (wh f x y):=by
 unfold jq Ot;rw[a,b];rfl
def GH (x y:TEncl) (S:SpecF) (_Fr:FreshF) (_Sq:SeqF) (Q:yc):Prop :=
 ∃n0,S 211 [AV.slc 3 [x.av,y.av]] [] (iN n0) []/\((n0 != 0)=true->Q (.tup [TEncl.zero.av,iN n0]) [])/\((n0 != 0)=false->∃n4 n5 n6,S 212 [iN (wrap i64 (x.Lo-y.Hi)),iN (wrap i64 (x.Hi-y.Lo))] [] (.tup [AV.agg [iN n4,iN n5],iN n6]) []/\Q (.tup [AV.agg [iN n4,iN n5],iN n6]) [])
theorem zcC (x:TEncl) (y:TEncl) (v:AV) (O:List (List AV)) (h:GH x y Sp Fo So (fun r O'=>r=v/\O'=O)):Sp 192 [x.av,y.av] [] v O :=
 yb (w:=⟨[],[],[],[],[]⟩) (k:=0) (keep:=⟨[0,1,2,3,4,5,6,12],[],[],[]⟩) (boxes:=[]) mixed (by exact trivial) Tryz.func192 Tryz.call192 rfl rfl rfl (Nat.le_of_ble_eq_true rfl) (by kernel_rfl) h
theorem zaW (x y:TEncl) (hx:jJ x) (hy:jJ y) (hz:jJ ⟨x.Lo-y.Hi,x.Hi-y.Lo⟩):Sp 192 [x.av,y.av] [] (.tup [(TEncl.mk (x.Lo-y.Hi) (x.Hi-y.Lo)).av,.int .i64 0]) []:=zcC x y _ _ (by
 unfold GH;have w:∀ {z:TEncl},jJ z->qc z 3000000000=false:=fun {z} h=>by
  obtain ⟨h1,h2,h3⟩:=h;rw[IQ,decide_eq_false (by omega),decide_eq_false (by omega),decide_eq_false (by omega)];rfl
 have hv:=Jn [x,y] (by simp);have hv0:YE [x,y]=0:=by rw[K6,w hx,w hy];rfl
 rw[hv0] at hv;have hr:=Hj (x.Lo-y.Hi) (x.Hi-y.Lo);unfold Ot at hr;rw[w hz] at hr;obtain ⟨a1,a2,a3⟩:=hx;obtain ⟨b1,b2,b3⟩:=hy;refine⟨_,hv,fun g=>(by cases g),fun _=>⟨_,_,_,?_,rfl,rfl⟩⟩;rw[zw6 (by omega),zw6 (by omega)];exact hr)
def GG (x y:TEncl) (S:SpecF) (_Fr:FreshF) (_Sq:SeqF) (Q:yc):Prop :=
 ∃n0,S 211 [AV.slc 3 [x.av,y.av]] [] (iN n0) []/\((n0 != 0)=true->Q (.tup [TEncl.zero.av,iN n0]) [])/\((n0 != 0)=false->∃n4 n5,S 213 [AV.agg [iN (wrap i64 (x.Lo*y.Lo)),iN (wrap i64 (x.Lo*y.Hi)),iN (wrap i64 (x.Hi*y.Lo)),iN (wrap i64 (x.Hi*y.Hi))],.agg [iN 100000000,iN 100000000,iN 100000000,iN 100000000]] [] (.tup [iN n4,iN n5]) []/\∃n7 n8 n9,S 212 [iN n4,iN n5] [] (.tup [AV.agg [iN n7,iN n8],iN n9]) []/\Q (.tup [AV.agg [iN n7,iN n8],iN n9]) [])
theorem zcz (x:TEncl) (y:TEncl) (v:AV) (O:List (List AV)) (h:GG x y Sp Fo So (fun r O'=>r=v/\O'=O)):Sp 189 [x.av,y.av] [] v O :=
 yb (w:=⟨[],[],[],[],[]⟩) (k:=0) (keep:=⟨[0,1,2,3,4,5,6,12],[],[],[]⟩) (boxes:=[]) mixed (by exact trivial) Tryz.func189 Tryz.call189 rfl rfl rfl (Nat.le_of_ble_eq_true rfl) (by kernel_rfl) h
theorem Hf (x y:TEncl):Sp 189 [x.av,y.av] [] (.tup [(jE x y).1.av,.int .i64 (jE x y).2]) []:=zcz x y _ _ (by
 unfold GG jE;have hv:=Jn [x,y] (by simp);refine T5 (x:=x) (y:=y) (fun h=>?_) (fun hx hy a b h=>?_)
 ·obtain ⟨e1,e2⟩:=Te (f:=fun a b=>yN (a*b) 100000000) h;rw[e2] at hv;exact⟨_,hv,fun _=>⟨by rw[e1];rfl,rfl⟩,fun g=>(by cases g)⟩
 ·rw[h] at hv;rw[WJ a b];obtain ⟨x1,x2,x3⟩:=hx;obtain ⟨y1,y2,y3⟩:=hy;have m1:=XQ (a:=x.Lo) (b:=y.Lo) (by omega) (by omega);have m2:=XQ (a:=x.Lo) (b:=y.Hi) (by omega) (by omega);have m3:=XQ (a:=x.Hi) (b:=y.Lo) (by omega) (by omega);have m4:=XQ (a:=x.Hi) (b:=y.Hi) (by omega) (by omega);have hq:[wZ (x.Lo*y.Hi) 100000000,wZ (x.Hi*y.Lo) 100000000,wZ (x.Hi*y.Hi) 100000000].foldl w7 (wZ (x.Lo*y.Lo) 100000000)=wh (fun a b=>yN (a*b) 100000000) x y:=by
   unfold wh;dsimp only;rw[ki (by decide),ki (by decide),ki (by decide),ki (by decide)]
  have hl:=Hk _ _ _ _ 100000000 100000000 100000000 100000000 m1 m2 m3 m4 (by decide) (by decide) (by decide) (by decide) hq;refine⟨_,hv,fun g=>(by cases g),fun _=>⟨_,_,?_,_,_,_,Hj _ _,rfl,rfl⟩⟩;rw[zw6 (by omega),zw6 (by omega),zw6 (by omega),zw6 (by omega)];exact hl)
theorem L8 (a b c d:TEncl):[c,b,a].foldl w7 d=[b,c,d].foldl w7 a:=by
 simp only[List.foldl_cons,List.foldl_nil];unfold w7;dsimp only;congr 1
 ·repeat' split
  all_goals omega
 ·repeat' split
  all_goals omega
abbrev T8 (x y:TEncl) (S:SpecF) (Q:yc) (p0_:Int):Prop :=
 (p0_ != 0)=false->(decide (y.Hi<0)=true->∃n12 n13,S 216 [x.av] [] (.agg [iN n12,iN n13]) []/\∃n15 n16,S 216 [y.av] [] (.agg [iN n15,iN n16]) []/\∃n18 n19,S 213 [AV.agg [iN (wrap i64 (n12*100000000)),iN (wrap i64 (n12*100000000)),iN (wrap i64 (n13*100000000)),iN (wrap i64 (n13*100000000))],.agg [iN n15,iN n16,iN n15,iN n16]] [] (.tup [iN n18,iN n19]) []/\∃n21 n22 n23,S 212 [iN n18,iN n19] [] (.tup [AV.agg [iN n21,iN n22],iN n23]) []/\Q (.tup [AV.agg [iN n21,iN n22],iN n23]) [])/\(decide (y.Hi<0)=false->∃n12 n13,S 213 [AV.agg [iN (wrap i64 (x.Lo*100000000)),iN (wrap i64 (x.Lo*100000000)),iN (wrap i64 (x.Hi*100000000)),iN (wrap i64 (x.Hi*100000000))],.agg [iN y.Lo,iN y.Hi,iN y.Lo,iN y.Hi]] [] (.tup [iN n12,iN n13]) []/\∃n15 n16 n17,S 212 [iN n12,iN n13] [] (.tup [AV.agg [iN n15,iN n16],iN n17]) []/\Q (.tup [AV.agg [iN n15,iN n16],iN n17]) [])
def GI (x y:TEncl) (S:SpecF) (_Fr:FreshF) (_Sq:SeqF) (Q:yc):Prop :=
 ∃n0,S 211 [AV.slc 3 [x.av,y.av]] [] (iN n0) []/\((n0 == 0)=true->(decide (y.Lo<=0)=true->(decide (y.Hi>=0)=true->Q (.tup [TEncl.zero.av,iN 8]) [])/\(decide (y.Hi>=0)=false->((n0 != 0)=true->Q (.tup [TEncl.zero.av,iN n0]) [])/\(T8 x y S Q n0)))/\(decide (y.Lo<=0)=false->((n0 != 0)=true->Q (.tup [TEncl.zero.av,iN n0]) [])/\(T8 x y S Q n0)))/\((n0 == 0)=false->((n0 != 0)=true->Q (.tup [TEncl.zero.av,iN n0]) [])/\(T8 x y S Q n0))
theorem zcD (x:TEncl) (y:TEncl) (v:AV) (O:List (List AV)) (h:GI x y Sp Fo So (fun r O'=>r=v/\O'=O)):Sp 193 [x.av,y.av] [] v O :=
 yb (w:=⟨[],[],[],[],[]⟩) (k:=0) (keep:=⟨[0,1,2,3,4,5,6,22,24,29],[],[],[]⟩) (boxes:=[]) mixed (by exact trivial) Tryz.func193 Tryz.call193 rfl rfl rfl (Nat.le_of_ble_eq_true rfl) (by kernel_rfl) h
theorem Mt (x y:TEncl) (hx:jJ x) (hy:jJ y) (hz:¬ (y.Lo<=0/\y.Hi>=0)) {F:TEncl} (hF:wh (fun a b=>yN (a*100000000) b) x y=F) :
  (decide (y.Hi<0)=true->Sp 213 [.agg [.int .i64 (wrap i64 ((ql x).Lo*100000000)),.int .i64 (wrap i64 ((ql x).Lo*100000000)),.int .i64 (wrap i64 ((ql x).Hi*100000000)),.int .i64 (wrap i64 ((ql x).Hi*100000000))],.agg [.int .i64 (ql y).Lo,.int .i64 (ql y).Hi,.int .i64 (ql y).Lo,.int .i64 (ql y).Hi]] [] (.tup [.int .i64 F.Lo,.int .i64 F.Hi]) []) /\
  (decide (y.Hi<0)=false->Sp 213 [.agg [.int .i64 (wrap i64 (x.Lo*100000000)),.int .i64 (wrap i64 (x.Lo*100000000)),.int .i64 (wrap i64 (x.Hi*100000000)),.int .i64 (wrap i64 (x.Hi*100000000))],.agg [.int .i64 y.Lo,.int .i64 y.Hi,.int .i64 y.Lo,.int .i64 y.Hi]] [] (.tup [.int .i64 F.Lo,.int .i64 F.Hi]) []):=by
 obtain ⟨x1,x2,x3⟩:=hx;obtain ⟨y1,y2,y3⟩:=hy;constructor
 ·intro g;have g:=zt_ g;have ex:ql x=⟨-x.Hi,-x.Lo⟩:=by unfold ql;rw[zw6 (by omega),zw6 (by omega),Int.zero_sub,Int.zero_sub]
  have ey:ql y=⟨-y.Hi,-y.Lo⟩:=by unfold ql;rw[zw6 (by omega),zw6 (by omega),Int.zero_sub,Int.zero_sub]
  rw[ex,ey];dsimp only;rw[zw6 (by omega),zw6 (by omega)];refine Hk _ _ _ _ _ _ _ _ (by omega) (by omega) (by omega) (by omega) (by omega) (by omega) (by omega) (by omega) ?_;rw[<- hF,L8];unfold wh;dsimp only;rw[Y8 (by omega),Y8 (by omega),Y8 (by omega),Y8 (by omega),Int.neg_mul,Int.neg_mul]
 ·intro g;have g:=zf_ g;rw[zw6 (by omega),zw6 (by omega)];refine Hk _ _ _ _ _ _ _ _ (by omega) (by omega) (by omega) (by omega) (by omega) (by omega) (by omega) (by omega) ?_;rw[<- hF];unfold wh;dsimp only;rw[ki (by omega),ki (by omega),ki (by omega),ki (by omega)]
theorem zaX (x y:TEncl):Sp 193 [x.av,y.av] [] (.tup [(xx x y).1.av,.int .i64 (xx x y).2]) []:=zcD x y _ _ (by
 unfold GI T8;have hv:=Jn [x,y] (by simp);refine T5 (x:=x) (y:=y) (fun h=>?_) (fun hx hy a b h=>?_)
 ·obtain ⟨e1,e2⟩:=Te (f:=fun a b=>yN (a*100000000) b) h;have e3:xx x y=(⟨0,0⟩,7):=by
   unfold xx;rw[if_neg ?_,e1];rw[K6] at h;intro q;simp only[Bool.and_eq_true,Bool.not_eq_true'] at q;rw[q.1.1,q.1.2] at h;exact h rfl
  rw[e2] at hv;exact⟨_,hv,fun g=>(by cases g),fun _=>⟨fun _=>⟨by rw[e3];rfl,rfl⟩,fun g=>(by cases g)⟩⟩
 rw[h] at hv;by_cases hz:y.Lo<=0/\y.Hi>=0
 ·have e3:xx x y=(⟨0,0⟩,8):=by unfold xx;rw[a,b,decide_eq_true hz.1,decide_eq_true hz.2];rfl
  refine⟨_,hv,fun _=>⟨fun _=>⟨fun _=>⟨by rw[e3];rfl,rfl⟩,fun g=>?_⟩,fun g=>?_⟩,fun g=>(by cases g)⟩
  ·exact absurd hz.2 (zf_ g)
  ·exact absurd hz.1 (zf_ g)
 have e3:xx x y=Ot (wh (fun a b=>yN (a*100000000) b) x y):=by
  rw[<- WJ a b];unfold xx;rw[if_neg];intro q;simp only[Bool.and_eq_true,decide_eq_true_eq] at q;exact hz q.2
 obtain ⟨t1,t2⟩:=Mt x y hx hy hz rfl;have nx:=Hl x;have ny:=Hl y;rw[e3];have hr:=Hj (wh (fun a b=>yN (a*100000000) b) x y).Lo (wh (fun a b=>yN (a*100000000) b) x y).Hi;generalize wh (fun a b=>yN (a*100000000) b) x y=F at *;have bot:∀ {P:Prop},((0:Int) != 0)=true->P:=fun g=>(by cases g)
 refine⟨_,hv,fun _=>⟨fun g=>⟨fun g2=>absurd ⟨zt_ g,zt_ g2⟩ hz,fun _=>⟨bot,fun _=>⟨fun g=>⟨_,_,nx,_,_,ny,_,_,t1 g,_,_,_,hr,rfl,rfl⟩,fun g=>⟨_,_,t2 g,_,_,_,hr,rfl,rfl⟩⟩⟩⟩,
  fun g=>⟨bot,fun _=>⟨fun g=>⟨_,_,nx,_,_,ny,_,_,t1 g,_,_,_,hr,rfl,rfl⟩,fun g=>⟨_,_,t2 g,_,_,_,hr,rfl,rfl⟩⟩⟩⟩,fun g=>(by cases g)⟩)
end Go.Proofs.YtkojpnkknehhmaaGreatDoor
