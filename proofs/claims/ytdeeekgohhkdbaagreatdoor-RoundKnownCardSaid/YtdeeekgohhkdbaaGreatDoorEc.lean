/- Contracts: products and quotients of enclosures, the inverse of the cosine. -/
import Derived.Test.YtdeeekgohhkdbaaGreatDoorEa
namespace Go.Proofs.YtdeeekgohhkdbaaGreatDoor
open Go.IntKind (wrap i64 u64)
open Go.RowKit
theorem zbR (n:Int):IntKind.i64.wrap n=if n % 18446744073709551616>=9223372036854775808 then n % 18446744073709551616-18446744073709551616 else n % 18446744073709551616:=by
 show (if _=true then _ else _)=_;have e1:(2:Int) ^ IntKind.i64.bits=18446744073709551616:=rfl;have e2:(2:Int) ^ (IntKind.i64.bits-1)=9223372036854775808:=rfl;simp only[e1,e2,IntKind.signed,Bool.true_and,decide_eq_true_eq]
theorem comp (n:Int) (h:-9223372036854775808<=n/\n<9223372036854775808):IntKind.i64.wrap ((BitVec.ofInt 64 (-1) ^^^ BitVec.ofInt 64 n).toNat:Int) = -n-1:=by
 rw[show BitVec.ofInt 64 (-1)=BitVec.allOnes 64 by rfl,BitVec.allOnes_xor,BitVec.toNat_not,BitVec.toNat_ofInt];have e:(2:Nat) ^ 64=18446744073709551616:=rfl;rw[e,zbR];omega
def F1 (n d:Int) (_S:SpecF) (_Fr:FreshF) (_Sq:SeqF) (Q:ym):Prop :=
 (decide (n<0)=true->d≠0/\Q (iN (wrap i64 (↑(BitVec.ofInt (64:Nat) (-1:Int) ^^^ BitVec.ofInt (64:Nat) (wrap i64 ((wrap i64 (↑(BitVec.ofInt (64:Nat) (-1:Int) ^^^ BitVec.ofInt (64:Nat) n).toNat:Int)).tdiv d))).toNat:Int))) [])/\(decide (n<0)=false->d≠0/\Q (iN (wrap i64 (n.tdiv d))) [])
theorem zcL (n:Int) (d:Int) (v:AV) (O:List (List AV)) (h:F1 n d Sp Fo So (fun r O'=>r=v/\O'=O)):Sp 186 [iN n,iN d] [] v O :=
 yj (w:=⟨[],[],[],[],[]⟩) (k:=0) (keep:=⟨[0,1,4,6],[],[],[]⟩) (boxes:=[]) mixed (by exact trivial) Tryz.func186 Tryz.call186 rfl rfl rfl (Nat.le_of_ble_eq_true rfl) (by kernel_rfl) h
theorem M4 (n d:Int) (h:-9223372036854775808<n/\n<9223372036854775808) (hd:0<d):Sp 186 [.int .i64 n,.int .i64 d] [] (.int .i64 (n / d)) []:=zcL n d _ _ (by
 unfold F1;refine⟨fun g=>⟨by omega,?_,rfl⟩,fun g=>⟨by omega,?_,rfl⟩⟩
 ·have g:n<0:=zt_ g;rw[comp n (by omega)];have h1:0<=(-n-1).tdiv d:=Int.tdiv_nonneg (by omega) (by omega);have h2:(-n-1).tdiv d <= -n-1:=by
   rw[Int.tdiv_eq_ediv_of_nonneg (by omega)];exact Int.ediv_le_self _ (by omega)
  rw[zw6 (n:=(-n-1).tdiv d) (by omega),comp _ (by omega),Int.tdiv_eq_ediv_of_nonneg (by omega)];have h3:=Int.mul_ediv_add_emod (-n-1) d;have h4:=Int.emod_nonneg (-n-1) (by omega:d≠0);have h5:=Int.emod_lt_of_pos (-n-1) hd;have h6:n / d = -((-n-1) / d)-1:=by
   rw[Int.ediv_eq_iff_of_pos hd,Int.sub_mul,Int.neg_mul,Int.one_mul,Int.mul_comm ((-n-1) / d)];omega
  rw[h6]
 ·have g:0<=n:=by have:=zf_ g;omega
  rw[Int.tdiv_eq_ediv_of_nonneg g];have h1:0<=n / d:=Int.ediv_nonneg g (by omega);have h2:n / d<=n:=Int.ediv_le_self _ g;rw[zw6 (by omega)])
def JN (x:TEncl):Prop:=-3000000000<=x.Lo/\x.Lo<=x.Hi/\x.Hi<=3000000000
theorem XK {x:TEncl} (h:vG x 3000000000=false):JN x:=by
 unfold vG at h;rw[show wrap i64 (0-3000000000) = -3000000000 by rfl] at h;simp only[Bool.or_eq_false_iff,decide_eq_false_iff_not] at h;unfold JN;omega
theorem JJ {a b:Int} (ha:-3000000000<=a/\a<=3000000000) (hb:-3000000000<=b/\b<=3000000000):-9000000000000000000<=a*b/\a*b<=9000000000000000000:=by
 have h1:a.natAbs*b.natAbs<=3000000000*3000000000:=Nat.mul_le_mul (by omega) (by omega);rw[<- Int.natAbs_mul] at h1;omega
theorem Qf {n d:Int} (hd:0<d) (h:-9000000000000000000<=n/\n<=9000000000000000000):-9000000000000000000<=n / d/\n / d<=9000000000000000000:=by
 constructor
 ·rw[Int.le_ediv_iff_mul_le hd];have:(9000000000000000000:Int)*1<=9000000000000000000*d:=Int.mul_le_mul_of_nonneg_left (by omega) (by omega);omega
 ·have h1:n / d<=9000000000000000000 / d:=Int.ediv_le_ediv hd h.2;have h2:(9000000000000000000:Int) / d<=9000000000000000000:=Int.ediv_le_self _ (by omega);omega
def qo (n d:Int):TEncl:=if d=0 then ⟨0,0⟩ else if d<0 then ⟨(-n) / (-d),-(n / (-d))⟩ else ⟨n / d,-((-n) / d)⟩
def zaS (a b:Int) (_S:SpecF) (_Fr:FreshF) (_Sq:SeqF) (Q:ym):Prop :=
 Q (.tup [iN (wrap i64 (a*b)),iN 100000000]) []
theorem zcK (a:Int) (b:Int) (v:AV) (O:List (List AV)) (h:zaS a b Sp Fo So (fun r O'=>r=v/\O'=O)):Sp 184 [iN a,iN b] [] v O :=
 yj (w:=⟨[],[],[],[],[]⟩) (k:=0) (keep:=⟨[0,1,4,5],[],[],[]⟩) (boxes:=[]) mixed (by exact trivial) Tryz.func184 Tryz.call184 rfl rfl rfl (Nat.le_of_ble_eq_true rfl) (by kernel_rfl) h
theorem zby (a b:Int) (ha:-3000000000<=a/\a<=3000000000) (hb:-3000000000<=b/\b<=3000000000):Sp 184 [.int .i64 a,.int .i64 b] [] (.tup [.int .i64 (a*b),.int .i64 100000000]) []:=zcK a b _ _ ⟨by have:=JJ ha hb;rw[zw6 (by omega)],rfl⟩
def zaO (a b:Int) (_S:SpecF) (_Fr:FreshF) (_Sq:SeqF) (Q:ym):Prop :=
 Q (.tup [iN (wrap i64 (a*100000000)),iN b]) []
theorem zcD (a:Int) (b:Int) (v:AV) (O:List (List AV)) (h:zaO a b Sp Fo So (fun r O'=>r=v/\O'=O)):Sp 175 [iN a,iN b] [] v O :=
 yj (w:=⟨[],[],[],[],[]⟩) (k:=0) (keep:=⟨[0,1,4,5],[],[],[]⟩) (boxes:=[]) mixed (by exact trivial) Tryz.func175 Tryz.call175 rfl rfl rfl (Nat.le_of_ble_eq_true rfl) (by kernel_rfl) h
theorem zbu (a b:Int) (ha:-3000000000<=a/\a<=3000000000):Sp 175 [.int .i64 a,.int .i64 b] [] (.tup [.int .i64 (a*100000000),.int .i64 b]) []:=zcD a b _ _ ⟨by rw[zw6 (by omega)],rfl⟩
def Ge (a b:Int) (S:SpecF) (_Fr:FreshF) (_Sq:SeqF) (Q:ym):Prop :=
 ∃n0 n1,S 184 [iN a,iN b] [] (.tup [iN n0,iN n1]) []/\((n1 == 0)=true->Q (TEncl.zero.av) [[AV.fn (184:FuncId) [] []]])/\((n1 == 0)=false->(decide (n1<0)=true->∃n7,S 186 [iN (wrap i64 ((0:Int)-n0)),iN (wrap i64 ((0:Int)-n1))] [] (iN n7) []/\∃n9,S 186 [iN (wrap i64 ((0:Int)-wrap i64 ((0:Int)-n0))),iN (wrap i64 ((0:Int)-n1))] [] (iN n9) []/\Q (.agg [iN n7,iN (wrap i64 ((0:Int)-n9))]) [[AV.fn (184:FuncId) [] []]])/\(decide (n1<0)=false->∃n7,S 186 [iN n0,iN n1] [] (iN n7) []/\∃n9,S 186 [iN (wrap i64 ((0:Int)-n0)),iN n1] [] (iN n9) []/\Q (.agg [iN n7,iN (wrap i64 ((0:Int)-n9))]) [[AV.fn (184:FuncId) [] []]]))
theorem zaf (a:Int) (b:Int) (v:AV) (O:List (List AV)) (h:Ge a b Sp Fo So (fun r O'=>r=v/\O'=O)):Sp 185 [iN a,iN b,.ref 0 0] [[.fn 184 [] []]] v O :=
 yj (w:=⟨[],[],[],[],[]⟩) (k:=0) (keep:=⟨[0,1,2,5,6,7,16,19],[],[],[]⟩) (boxes:=[⟨236,false,[.fn 184 [] []]⟩]) mixed (by exact trivial) Tryz.func185 Tryz.call185 rfl rfl rfl (Nat.le_of_ble_eq_true rfl) (by kernel_rfl) h
theorem Mf (a b:Int) (ha:-3000000000<=a/\a<=3000000000) (hb:-3000000000<=b/\b<=3000000000):Sp 185 [.int .i64 a,.int .i64 b,.ref 0 0] [[.fn 184 [] []]] (qo (a*b) 100000000).av [[.fn 184 [] []]]:=zaf a b _ _ (by
 unfold Ge;have hm:=JJ ha hb;have h1:=Qf (d:=100000000) (n:=-(a*b)) (by omega) (by omega);refine⟨_,_,zby a b ha hb,fun h=>(by simp at h),fun _=>⟨fun h=>(by simp at h),fun _=>⟨_,M4 _ _ (by omega) (by omega),_,by rw[zw6 (n:=0-a*b) (by omega)];exact M4 _ _ (by omega) (by omega),?_,rfl⟩⟩⟩;rw[Int.zero_sub,zw6 (by omega)];unfold qo;rw[if_neg (by omega),if_neg (by omega),Int.zero_sub];rfl)
def Gf (a b:Int) (S:SpecF) (_Fr:FreshF) (_Sq:SeqF) (Q:ym):Prop :=
 ∃n0 n1,S 175 [iN a,iN b] [] (.tup [iN n0,iN n1]) []/\((n1 == 0)=true->Q (TEncl.zero.av) [[AV.fn (175:FuncId) [] []]])/\((n1 == 0)=false->(decide (n1<0)=true->∃n7,S 186 [iN (wrap i64 ((0:Int)-n0)),iN (wrap i64 ((0:Int)-n1))] [] (iN n7) []/\∃n9,S 186 [iN (wrap i64 ((0:Int)-wrap i64 ((0:Int)-n0))),iN (wrap i64 ((0:Int)-n1))] [] (iN n9) []/\Q (.agg [iN n7,iN (wrap i64 ((0:Int)-n9))]) [[AV.fn (175:FuncId) [] []]])/\(decide (n1<0)=false->∃n7,S 186 [iN n0,iN n1] [] (iN n7) []/\∃n9,S 186 [iN (wrap i64 ((0:Int)-n0)),iN n1] [] (iN n9) []/\Q (.agg [iN n7,iN (wrap i64 ((0:Int)-n9))]) [[AV.fn (175:FuncId) [] []]]))
theorem zag (a:Int) (b:Int) (v:AV) (O:List (List AV)) (h:Gf a b Sp Fo So (fun r O'=>r=v/\O'=O)):Sp 185 [iN a,iN b,.ref 0 0] [[.fn 175 [] []]] v O :=
 yj (w:=⟨[],[],[],[],[]⟩) (k:=0) (keep:=⟨[0,1,2,5,6,7,16,19],[],[],[]⟩) (boxes:=[⟨236,false,[.fn 175 [] []]⟩]) mixed (by exact trivial) Tryz.func185 Tryz.call185 rfl rfl rfl (Nat.le_of_ble_eq_true rfl) (by kernel_rfl) h
theorem Mg (a b:Int) (ha:-3000000000<=a/\a<=3000000000) (hb:-3000000000<=b/\b<=3000000000):Sp 185 [.int .i64 a,.int .i64 b,.ref 0 0] [[.fn 175 [] []]] (qo (a*100000000) b).av [[.fn 175 [] []]]:=zag a b _ _ (by
 unfold Gf;refine⟨_,_,zbu a b ha,fun h=>⟨?_,rfl⟩,fun h=>?_⟩
 ·have h:b=0:=by simpa using h
  subst h;rfl
 have hb0:b≠0:=by simpa using h
 refine⟨fun g=>?_,fun g=>?_⟩
 ·have g:b<0:=zt_ g;have h1:=Qf (d:=-b) (n:=a*100000000) (by omega) (by omega);refine⟨_,by rw[zw6 (n:=0-a*100000000) (by omega),zw6 (n:=0-b) (by omega)];exact M4 _ _ (by omega) (by omega),_,by rw[zw6 (n:=0-a*100000000) (by omega),zw6 (n:=0-(0-a*100000000)) (by omega),zw6 (n:=0-b) (by omega)];exact M4 _ _ (by omega) (by omega),?_,rfl⟩;rw[show (0:Int)-(0-a*100000000)=a*100000000 by omega,Int.zero_sub,Int.zero_sub,Int.zero_sub,zw6 (by omega)];unfold qo;rw[if_neg hb0,if_pos g];rfl
 ·have g:0<b:=by have:=zf_ g;omega
  have h1:=Qf (d:=b) (n:=-(a*100000000)) (by omega) (by omega);refine⟨_,M4 _ _ (by omega) (by omega),_,by rw[zw6 (n:=0-a*100000000) (by omega)];exact M4 _ _ (by omega) (by omega),?_,rfl⟩;rw[Int.zero_sub,Int.zero_sub,zw6 (by omega)];unfold qo;rw[if_neg hb0,if_neg (by omega)];rfl)
def Sh (f:Int->Int->TEncl) (x y:TEncl):TEncl:=[f x.Lo y.Hi,f x.Hi y.Lo,f x.Hi y.Hi].foldl Si (f x.Lo y.Lo)
def kY (f:Int->Int->TEncl) (x y:TEncl):TEncl × Int :=
 if vG x 3000000000 then (⟨0,0⟩,7) else if vG y 3000000000 then (⟨0,0⟩,7) else if vG (Sh f x y) 3000000000 then (⟨0,0⟩,7) else (Sh f x y,0)
def Y1 (x y:TEncl):TEncl × Int:=kY (fun a b=>qo (a*b) 100000000) x y
def SK (x y:TEncl):TEncl × Int:=if (!vG x 3000000000 && !vG y 3000000000) && (decide (y.Lo<=0) && decide (y.Hi>=0)) then (⟨0,0⟩,8) else kY (fun a b=>qo (a*100000000) b) x y
def FX (x y:TEncl) (S:SpecF) (_Fr:FreshF) (_Sq:SeqF) (Q:ym):Prop :=
 ∃b0,S 173 [x.av,iN 3000000000] [] (.bool b0) []/\(b0=true->Q (.tup [TEncl.zero.av,iN 7]) [])/\(b0=false->∃b4,S 173 [y.av,iN 3000000000] [] (.bool b4) []/\(b4=true->Q (.tup [TEncl.zero.av,iN 7]) [])/\(b4=false->∃n8 n9,S 185 [iN x.Lo,iN y.Lo,.ref 0 0] [[AV.fn (184:Nat) [] []]] (.agg [iN n8,iN n9]) [[AV.fn (184:Nat) [] []]]/\∃n11 n12,S 185 [iN x.Lo,iN y.Hi,.ref 0 0] [[AV.fn (184:Nat) [] []]] (.agg [iN n11,iN n12]) [[AV.fn (184:Nat) [] []]]/\∃n14 n15,S 185 [iN x.Hi,iN y.Lo,.ref 0 0] [[AV.fn (184:Nat) [] []]] (.agg [iN n14,iN n15]) [[AV.fn (184:Nat) [] []]]/\∃n17 n18,S 185 [iN x.Hi,iN y.Hi,.ref 0 0] [[AV.fn (184:Nat) [] []]] (.agg [iN n17,iN n18]) [[AV.fn (184:Nat) [] []]]/\∃n20 n21,S 187 [AV.agg [iN n8,iN n9],.slc 3 [AV.agg [iN n11,iN n12],.agg [iN n14,iN n15],.agg [iN n17,iN n18]]] [] (.agg [iN n20,iN n21]) []/\∃b23,S 173 [AV.agg [iN n20,iN n21],iN 3000000000] [] (.bool b23) []/\(b23=true->Q (.tup [TEncl.zero.av,iN 7]) [])/\(b23=false->Q (.tup [AV.agg [iN n20,iN n21],iN 0]) [])))
theorem zcB (x:TEncl) (y:TEncl) (v:AV) (O:List (List AV)) (h:FX x y Sp Fo So (fun r O'=>r=v/\O'=O)):Sp 172 [x.av,y.av] [] v O :=
 yj (w:=⟨[],[],[185],[(174,⟨[0,1,2,3,4,5,6,7,8,9,15,45],[],[],[]⟩)],[]⟩) (k:=4) (keep:=⟨[0,1,2,3,4,5],[],[],[]⟩) (boxes:=[]) mixed (by exact⟨Tryz.call174,trivial⟩) Tryz.func172 Tryz.call172 rfl rfl rfl (Nat.le_of_ble_eq_true rfl) (by kernel_rfl) h
theorem zbt (x y:TEncl):Sp 172 [x.av,y.av] [] (.tup [(Y1 x y).1.av,.int .i64 (Y1 x y).2]) []:=zcB x y _ _ (by
 unfold FX Y1 kY;refine⟨_,Ts x 3000000000,fun h=>⟨by rw[if_pos h];rfl,by trivial⟩,fun h=>⟨_,Ts y 3000000000,fun h2=>⟨by rw[if_neg (by rw[h];simp),if_pos h2];rfl,by trivial⟩,fun h2=>?_⟩⟩;obtain ⟨x1,x2,x3⟩:=XK h;obtain ⟨y1,y2,y3⟩:=XK h2;rw[if_neg (by rw[h];simp),if_neg (by rw[h2];simp)];have hj:Sp 187 [(qo (x.Lo*y.Lo) 100000000).av,.slc 3 [(qo (x.Lo*y.Hi) 100000000).av,(qo (x.Hi*y.Lo) 100000000).av,(qo (x.Hi*y.Hi) 100000000).av]] [] (Sh (fun a b=>qo (a*b) 100000000) x y).av []:=GJ (qo (x.Lo*y.Lo) 100000000) [qo (x.Lo*y.Hi) 100000000,qo (x.Hi*y.Lo) 100000000,qo (x.Hi*y.Hi) 100000000] (by simp);generalize Sh (fun a b=>qo (a*b) 100000000) x y=H at hj ⊢;refine⟨_,_,Mf _ _ (by omega) (by omega),_,_,Mf _ _ (by omega) (by omega),_,_,Mf _ _ (by omega) (by omega),_,_,Mf _ _ (by omega) (by omega),_,_,hj,_,Ts H 3000000000,fun h3=>⟨?_,by trivial⟩,fun h3=>⟨?_,by trivial⟩⟩
 ·rw[if_pos h3];rfl
 ·rw[if_neg (by rw[h3];simp)];rfl)
theorem MM (x y:TEncl):∃b0,Sp 173 [x.av,.int .i64 3000000000] [] (.bool b0) []/\(b0=true->AV.tup [TEncl.zero.av,.int .i64 7]=.tup [(kY (fun a b=>qo (a*100000000) b) x y).1.av,.int .i64 (kY (fun a b=>qo (a*100000000) b) x y).2]/\([]:List (List AV))=[]) /\
  (b0=false->∃b4,Sp 173 [y.av,.int .i64 3000000000] [] (.bool b4) []/\(b4=true->AV.tup [TEncl.zero.av,.int .i64 7]=.tup [(kY (fun a b=>qo (a*100000000) b) x y).1.av,.int .i64 (kY (fun a b=>qo (a*100000000) b) x y).2]/\([]:List (List AV))=[]) /\
  (b4=false->∃n8 n9,Sp 185 [.int .i64 x.Lo,.int .i64 y.Lo,.ref 0 0] [[.fn 175 [] []]] (.agg [.int .i64 n8,.int .i64 n9]) [[.fn 175 [] []]]/\∃n11 n12,Sp 185 [.int .i64 x.Lo,.int .i64 y.Hi,.ref 0 0] [[.fn 175 [] []]] (.agg [.int .i64 n11,.int .i64 n12]) [[.fn 175 [] []]] /\
   ∃n14 n15,Sp 185 [.int .i64 x.Hi,.int .i64 y.Lo,.ref 0 0] [[.fn 175 [] []]] (.agg [.int .i64 n14,.int .i64 n15]) [[.fn 175 [] []]]/\∃n17 n18,Sp 185 [.int .i64 x.Hi,.int .i64 y.Hi,.ref 0 0] [[.fn 175 [] []]] (.agg [.int .i64 n17,.int .i64 n18]) [[.fn 175 [] []]] /\
   ∃n20 n21,Sp 187 [.agg [.int .i64 n8,.int .i64 n9],.slc 3 [.agg [.int .i64 n11,.int .i64 n12],.agg [.int .i64 n14,.int .i64 n15],.agg [.int .i64 n17,.int .i64 n18]]] [] (.agg [.int .i64 n20,.int .i64 n21]) [] /\
   ∃b23,Sp 173 [.agg [.int .i64 n20,.int .i64 n21],.int .i64 3000000000] [] (.bool b23) []/\(b23=true->AV.tup [TEncl.zero.av,.int .i64 7]=.tup [(kY (fun a b=>qo (a*100000000) b) x y).1.av,.int .i64 (kY (fun a b=>qo (a*100000000) b) x y).2]/\([]:List (List AV))=[]) /\
   (b23=false->AV.tup [.agg [.int .i64 n20,.int .i64 n21],.int .i64 0]=.tup [(kY (fun a b=>qo (a*100000000) b) x y).1.av,.int .i64 (kY (fun a b=>qo (a*100000000) b) x y).2]/\([]:List (List AV))=[]))):=by
 unfold kY;refine⟨_,Ts x 3000000000,fun h=>⟨by rw[if_pos h];rfl,by trivial⟩,fun h=>⟨_,Ts y 3000000000,fun h2=>⟨by rw[if_neg (by rw[h];simp),if_pos h2];rfl,by trivial⟩,fun h2=>?_⟩⟩;obtain ⟨x1,x2,x3⟩:=XK h;obtain ⟨y1,y2,y3⟩:=XK h2;rw[if_neg (by rw[h];simp),if_neg (by rw[h2];simp)];have hj:Sp 187 [(qo (x.Lo*100000000) y.Lo).av,.slc 3 [(qo (x.Lo*100000000) y.Hi).av,(qo (x.Hi*100000000) y.Lo).av,(qo (x.Hi*100000000) y.Hi).av]] [] (Sh (fun a b=>qo (a*100000000) b) x y).av []:=GJ (qo (x.Lo*100000000) y.Lo) [qo (x.Lo*100000000) y.Hi,qo (x.Hi*100000000) y.Lo,qo (x.Hi*100000000) y.Hi] (by simp);generalize Sh (fun a b=>qo (a*100000000) b) x y=H at hj ⊢;refine⟨_,_,Mg _ _ (by omega) (by omega),_,_,Mg _ _ (by omega) (by omega),_,_,Mg _ _ (by omega) (by omega),_,_,Mg _ _ (by omega) (by omega),_,_,hj,_,Ts H 3000000000,fun h3=>⟨?_,by trivial⟩,fun h3=>⟨?_,by trivial⟩⟩
 ·rw[if_pos h3];rfl
 ·rw[if_neg (by rw[h3];simp)];rfl
abbrev Uc (x y:TEncl) (S:SpecF) (Q:ym):Prop :=
 ∃b12,S 173 [x.av,iN 3000000000] [] (.bool b12) []/\(b12=true->Q (.tup [TEncl.zero.av,iN 7]) [])/\(b12=false->∃b16,S 173 [y.av,iN 3000000000] [] (.bool b16) []/\(b16=true->Q (.tup [TEncl.zero.av,iN 7]) [])/\(b16=false->∃n20 n21,S 185 [iN x.Lo,iN y.Lo,.ref 0 0] [[AV.fn (175:Nat) [] []]] (.agg [iN n20,iN n21]) [[AV.fn (175:Nat) [] []]]/\∃n23 n24,S 185 [iN x.Lo,iN y.Hi,.ref 0 0] [[AV.fn (175:Nat) [] []]] (.agg [iN n23,iN n24]) [[AV.fn (175:Nat) [] []]]/\∃n26 n27,S 185 [iN x.Hi,iN y.Lo,.ref 0 0] [[AV.fn (175:Nat) [] []]] (.agg [iN n26,iN n27]) [[AV.fn (175:Nat) [] []]]/\∃n29 n30,S 185 [iN x.Hi,iN y.Hi,.ref 0 0] [[AV.fn (175:Nat) [] []]] (.agg [iN n29,iN n30]) [[AV.fn (175:Nat) [] []]]/\∃n32 n33,S 187 [AV.agg [iN n20,iN n21],.slc 3 [AV.agg [iN n23,iN n24],.agg [iN n26,iN n27],.agg [iN n29,iN n30]]] [] (.agg [iN n32,iN n33]) []/\∃b35,S 173 [AV.agg [iN n32,iN n33],iN 3000000000] [] (.bool b35) []/\(b35=true->Q (.tup [TEncl.zero.av,iN 7]) [])/\(b35=false->Q (.tup [AV.agg [iN n32,iN n33],iN 0]) [])))
def FU (x y:TEncl) (S:SpecF) (_Fr:FreshF) (_Sq:SeqF) (Q:ym):Prop :=
 ∃b0,S 173 [x.av,iN 3000000000] [] (.bool b0) []/\((!b0)=true->∃b4,S 173 [y.av,iN 3000000000] [] (.bool b4) []/\((!b4)=true->(decide (y.Lo<=0)=true->(decide (y.Hi>=0)=true->Q (.tup [TEncl.zero.av,iN 8]) [])/\(decide (y.Hi>=0)=false->Uc x y S Q))/\(decide (y.Lo<=0)=false->Uc x y S Q))/\((!b4)=false->Uc x y S Q))/\((!b0)=false->Uc x y S Q)
theorem zcr (x:TEncl) (y:TEncl) (v:AV) (O:List (List AV)) (h:FU x y Sp Fo So (fun r O'=>r=v/\O'=O)):Sp 155 [x.av,y.av] [] v O :=
 yj (w:=⟨[],[],[185],[(174,⟨[0,1,2,3,4,5,6,7,8,9,15,45],[],[],[]⟩)],[]⟩) (k:=4) (keep:=⟨[0,1,2,3,4,5,6,25],[],[],[]⟩) (boxes:=[]) mixed (by exact⟨Tryz.call174,trivial⟩) Tryz.func155 Tryz.call155 rfl rfl rfl (Nat.le_of_ble_eq_true rfl) (by kernel_rfl) h
theorem zbq (x y:TEncl):Sp 155 [x.av,y.av] [] (.tup [(SK x y).1.av,.int .i64 (SK x y).2]) []:=zcr x y _ _ (by
 unfold FU Uc;have rest:((!vG x 3000000000 && !vG y 3000000000) && (decide (y.Lo<=0) && decide (y.Hi>=0)))=false->SK x y=kY (fun a b=>qo (a*100000000) b) x y:=fun h1=>by
  unfold SK;rw[h1];rfl
 refine⟨_,Ts x 3000000000,fun h=>⟨_,Ts y 3000000000,fun h2=>⟨fun h3=>⟨fun h4=>⟨?_,by trivial⟩,fun h4=>?_⟩,fun h3=>?_⟩,fun h2=>?_⟩,fun h=>?_⟩
 ·unfold SK;rw[h,h2,h3,h4];rfl
 ·rw[rest (by rw[h,h2,h3,h4];rfl)];exact MM x y
 ·rw[rest (by rw[h,h2,h3];rfl)];exact MM x y
 ·rw[rest (by rw[h,h2];rfl)];exact MM x y
 ·rw[rest (by rw[h];rfl)];exact MM x y)
def qP (f:Nat->Bool):Nat->Nat->Nat->Nat
 |0,i,_=>i
 |k+1,i,j=>if i<j then (if f ((i+j) / 2) then qP f k i ((i+j) / 2) else qP f k ((i+j) / 2+1) j) else i
theorem Yd (f:Nat->Bool) (k i j:Nat):qP f (k+1) i j=if i<j then (if f ((i+j) / 2) then qP f k i ((i+j) / 2) else qP f k ((i+j) / 2+1) j) else i:=rfl
theorem NI (f:Nat->Bool):∀(k i j:Nat),i<=j->i<=qP f k i j/\qP f k i j<=j:=by
 intro k;induction k with
 |zero=>intro i j h;exact⟨Nat.le_refl _,h⟩
 |succ k ih =>
  intro i j h;rw[Yd];split
  ·split
   ·have:=ih i ((i+j) / 2) (by omega);omega
   ·have:=ih ((i+j) / 2+1) j (by omega);omega
  ·exact⟨Nat.le_refl _,h⟩
theorem Wx (f:Nat->Bool) (k i j:Nat) (h:¬ i<j):qP f k i j=i:=by
 cases k with
 |zero=>rfl
 |succ k=>rw[Yd,if_neg h]
def Qu (x:TEncl) (a:Nat):Bool:=decide ((Wz (a+90000000)).Lo<x.Hi)
def Wo (x:TEncl) (a:Nat):Bool:=decide ((Wz (a+90000000)).Hi<=x.Lo)
def zaQ (a:Int) (v0:TEncl) (S:SpecF) (_Fr:FreshF) (_Sq:SeqF) (Q:ym):Prop :=
 ∃n0 n1,S 179 [iN (wrap i64 (a+90000000))] [] (.agg [iN n0,iN n1]) []/\Q (.bool (decide (n0<v0.Hi))) [v0.cs]
theorem zcF (a:Int) (v0:TEncl) (v:AV) (O:List (List AV)) (h:zaQ a v0 Sp Fo So (fun r O'=>r=v/\O'=O)):Sp 178 [iN a,.ref 0 0] [v0.cs] v O :=
 yj (w:=⟨[],[],[],[],[]⟩) (k:=0) (keep:=⟨[0,1,3],[],[],[]⟩) (boxes:=[⟨23,false,v0.cs⟩]) mixed (by exact trivial) Tryz.func178 Tryz.call178 rfl rfl rfl (Nat.le_of_ble_eq_true rfl) (by kernel_rfl) h
theorem zbw (a:Nat) (ha:a<=1000000000) (x:TEncl):Sp 178 [.int .i64 a,.ref 0 0] [x.cs] (.bool (Qu x a)) [x.cs]:=zcF a x _ _ ⟨_,_,by rw[zw6 (by omega)];exact IH _,rfl,rfl⟩
def zaR (a:Int) (v0:TEncl) (S:SpecF) (_Fr:FreshF) (_Sq:SeqF) (Q:ym):Prop :=
 ∃n0 n1,S 179 [iN (wrap i64 (a+90000000))] [] (.agg [iN n0,iN n1]) []/\Q (.bool (decide (n1<=v0.Lo))) [v0.cs]
theorem zcH (a:Int) (v0:TEncl) (v:AV) (O:List (List AV)) (h:zaR a v0 Sp Fo So (fun r O'=>r=v/\O'=O)):Sp 180 [iN a,.ref 0 0] [v0.cs] v O :=
 yj (w:=⟨[],[],[],[],[]⟩) (k:=0) (keep:=⟨[0,1,3],[],[],[]⟩) (boxes:=[⟨23,false,v0.cs⟩]) mixed (by exact trivial) Tryz.func180 Tryz.call180 rfl rfl rfl (Nat.le_of_ble_eq_true rfl) (by kernel_rfl) h
theorem zbx (a:Nat) (ha:a<=1000000000) (x:TEncl):Sp 180 [.int .i64 a,.ref 0 0] [x.cs] (.bool (Wo x a)) [x.cs]:=zcH a x _ _ ⟨_,_,by rw[zw6 (by omega)];exact IH _,rfl,rfl⟩
theorem mid {i j:Nat} (h:i+j<9223372036854775808):IntKind.i64.wrap ((wrap u64 (wrap i64 ((i:Int)+(j:Int)))).fdiv 2)=(((i+j) / 2:Nat):Int):=by
 rw[<- Int.natCast_add,G0 h,jk (by omega),show (2:Int)=((2:Nat):Int) by rfl,fdN,G0 (by omega)]
def Gc (n:Int) (f0:TEncl) (S:SpecF) (_Fr:FreshF) (_Sq:SeqF) (Q:ym):Prop :=
 ∃(I0:Nat->List AV->Prop),(∃m2,I0 m2 [iN 0,iN n,f0.av])/\∀(m2:Nat) (n3 n4 n5 n6:Int),I0 m2 [iN n3,iN n4,.agg [iN n5,iN n6]]->(decide (n3<n4)=true->∃b10,S 178 [iN (wrap i64 ((wrap u64 (wrap i64 (n3+n4))).fdiv (2:Int))),.ref 0 0] [[iN n5,iN n6]] (.bool b10) [[iN n5,iN n6]]/\((!b10)=true->∃k14,k14<m2/\I0 k14 [iN (wrap i64 (wrap i64 ((wrap u64 (wrap i64 (n3+n4))).fdiv (2:Int))+1)),iN n4,.agg [iN n5,iN n6]])/\((!b10)=false->∃k14,k14<m2/\I0 k14 [iN n3,iN (wrap i64 ((wrap u64 (wrap i64 (n3+n4))).fdiv (2:Int))),.agg [iN n5,iN n6]]))/\(decide (n3<n4)=false->Q (iN n3) [[iN n5,iN n6]])
theorem zad (n:Int) (f0:TEncl) (v:AV) (O:List (List AV)) (h:Gc n f0 Sp Fo So (fun r O'=>r=v/\O'=O)):Sp 177 [iN n,.fn 178 [] [.ref 0 0]] [f0.cs] v O :=
 yj (w:=⟨[],[],[178],[],[]⟩) (k:=0) (keep:=⟨[0,1,4,5,6,7,11,21],[⟨2,[(5,iN 0),(6,iN 0)],[],[(1000000,.agg [iN 0,iN 0])],[],[],[]⟩],[],[]⟩) (boxes:=[⟨23,false,f0.cs⟩]) mixed (by exact trivial) Tryz.func177 Tryz.call177 rfl rfl rfl (Nat.le_of_ble_eq_true rfl) (by kernel_rfl) h
theorem Dy (n:Nat) (hn:n<=1000000000) (x:TEncl):Sp 177 [.int .i64 n,.fn 178 [] [.ref 0 0]] [x.cs] (.int .i64 (qP (Qu x) n 0 n:Nat)) [x.cs]:=zad n x _ _ (by
 unfold Gc;refine⟨fun m vs=>∃i j:Nat,i<=j/\j<=n/\j-i<=m/\vs=[.int .i64 i,.int .i64 j,x.av]/\qP (Qu x) m i j=qP (Qu x) n 0 n,⟨n,0,n,by omega,by omega,by omega,rfl,rfl⟩,?_⟩;rintro m n3 n4 n5 n6 ⟨i,j,h1,h2,h3,hv,hs⟩;have hv':=hv;unfold TEncl.av TEncl.cs at hv';simp only[List.cons.injEq,AV.int.injEq,true_and,AV.agg.injEq,and_true] at hv';obtain ⟨rfl,rfl,rfl,rfl⟩:=hv';refine⟨fun g=>?_,fun g=>?_⟩
 ·have hij:i<j:=by simpa using g
  obtain ⟨k,rfl⟩:∃k,m=k+1:=⟨m-1,by omega⟩;rw[Yd,if_pos hij] at hs;rw[mid (by omega)];refine⟨_,zbw ((i+j) / 2) (by omega) x,fun g2=>⟨k,by omega,(i+j) / 2+1,j,by omega,by omega,by omega,?_,?_⟩,fun g2=>⟨k,by omega,i,(i+j) / 2,by omega,by omega,by omega,rfl,?_⟩⟩
  ·rw[yx (by omega)];rfl
  ·have g2:Qu x ((i+j) / 2)=false:=by simpa using g2
   rw[if_neg (by rw[g2];simp)] at hs;exact hs
  ·have g2:Qu x ((i+j) / 2)=true:=by simpa using g2
   rw[if_pos g2] at hs;exact hs
 ·have hij:¬ i<j:=by simpa using g
  rw[Wx _ _ _ _ hij] at hs;rw[<- hs];exact⟨rfl,rfl⟩)
def Gd (n:Int) (f0:TEncl) (S:SpecF) (_Fr:FreshF) (_Sq:SeqF) (Q:ym):Prop :=
 ∃(I0:Nat->List AV->Prop),(∃m2,I0 m2 [iN 0,iN n,f0.av])/\∀(m2:Nat) (n3 n4 n5 n6:Int),I0 m2 [iN n3,iN n4,.agg [iN n5,iN n6]]->(decide (n3<n4)=true->∃b10,S 180 [iN (wrap i64 ((wrap u64 (wrap i64 (n3+n4))).fdiv (2:Int))),.ref 0 0] [[iN n5,iN n6]] (.bool b10) [[iN n5,iN n6]]/\((!b10)=true->∃k14,k14<m2/\I0 k14 [iN (wrap i64 (wrap i64 ((wrap u64 (wrap i64 (n3+n4))).fdiv (2:Int))+1)),iN n4,.agg [iN n5,iN n6]])/\((!b10)=false->∃k14,k14<m2/\I0 k14 [iN n3,iN (wrap i64 ((wrap u64 (wrap i64 (n3+n4))).fdiv (2:Int))),.agg [iN n5,iN n6]]))/\(decide (n3<n4)=false->Q (iN n3) [[iN n5,iN n6]])
theorem zae (n:Int) (f0:TEncl) (v:AV) (O:List (List AV)) (h:Gd n f0 Sp Fo So (fun r O'=>r=v/\O'=O)):Sp 177 [iN n,.fn 180 [] [.ref 0 0]] [f0.cs] v O :=
 yj (w:=⟨[],[],[180],[],[]⟩) (k:=0) (keep:=⟨[0,1,4,5,6,7,11,21],[⟨2,[(5,iN 0),(6,iN 0)],[],[(1000000,.agg [iN 0,iN 0])],[],[],[]⟩],[],[]⟩) (boxes:=[⟨23,false,f0.cs⟩]) mixed (by exact trivial) Tryz.func177 Tryz.call177 rfl rfl rfl (Nat.le_of_ble_eq_true rfl) (by kernel_rfl) h
theorem Dz (n:Nat) (hn:n<=1000000000) (x:TEncl):Sp 177 [.int .i64 n,.fn 180 [] [.ref 0 0]] [x.cs] (.int .i64 (qP (Wo x) n 0 n:Nat)) [x.cs]:=zae n x _ _ (by
 unfold Gd;refine⟨fun m vs=>∃i j:Nat,i<=j/\j<=n/\j-i<=m/\vs=[.int .i64 i,.int .i64 j,x.av]/\qP (Wo x) m i j=qP (Wo x) n 0 n,⟨n,0,n,by omega,by omega,by omega,rfl,rfl⟩,?_⟩;rintro m n3 n4 n5 n6 ⟨i,j,h1,h2,h3,hv,hs⟩;have hv':=hv;unfold TEncl.av TEncl.cs at hv';simp only[List.cons.injEq,AV.int.injEq,true_and,AV.agg.injEq,and_true] at hv';obtain ⟨rfl,rfl,rfl,rfl⟩:=hv';refine⟨fun g=>?_,fun g=>?_⟩
 ·have hij:i<j:=by simpa using g
  obtain ⟨k,rfl⟩:∃k,m=k+1:=⟨m-1,by omega⟩;rw[Yd,if_pos hij] at hs;rw[mid (by omega)];refine⟨_,zbx ((i+j) / 2) (by omega) x,fun g2=>⟨k,by omega,(i+j) / 2+1,j,by omega,by omega,by omega,?_,?_⟩,fun g2=>⟨k,by omega,i,(i+j) / 2,by omega,by omega,by omega,rfl,?_⟩⟩
  ·rw[yx (by omega)];rfl
  ·have g2:Wo x ((i+j) / 2)=false:=by simpa using g2
   rw[if_neg (by rw[g2];simp)] at hs;exact hs
  ·have g2:Wo x ((i+j) / 2)=true:=by simpa using g2
   rw[if_pos g2] at hs;exact hs
 ·have hij:¬ i<j:=by simpa using g
  rw[Wx _ _ _ _ hij] at hs;rw[<- hs];exact⟨rfl,rfl⟩)
def N7 (x:TEncl):TEncl:=⟨(qP (Qu x) 180000001 0 180000001:Nat)-1,(qP (Wo x) 180000000 0 180000000:Nat)⟩
def jf (x:TEncl):TEncl × Int:=if vG x 100000000 then (⟨0,0⟩,7) else (N7 x,0)
def FV (x:TEncl) (S:SpecF) (_Fr:FreshF) (_Sq:SeqF) (Q:ym):Prop :=
 ∃b0,S 173 [x.av,iN 100000000] [] (.bool b0) []/\(b0=true->Q (.tup [TEncl.zero.av,iN 7]) [])/\(b0=false->∃n4,S 177 [iN 180000001,AV.fn (178:Nat) [] [AV.ref 0 0]] [x.cs] (iN n4) [x.cs]/\∃n6,S 177 [iN 180000000,AV.fn (180:Nat) [] [AV.ref 0 0]] [x.cs] (iN n6) [x.cs]/\Q (.tup [AV.agg [iN (wrap i64 (n4-1)),iN n6],iN 0]) [])
theorem zct (x:TEncl) (v:AV) (O:List (List AV)) (h:FV x Sp Fo So (fun r O'=>r=v/\O'=O)):Sp 157 [x.av] [] v O :=
 yj (w:=⟨[],[],[177],[],[]⟩) (k:=0) (keep:=⟨[0,1,2,3,4,5,7],[],[],[]⟩) (boxes:=[]) mixed (by exact trivial) Tryz.func157 Tryz.call157 rfl rfl rfl (Nat.le_of_ble_eq_true rfl) (by kernel_rfl) h
theorem Dw (x:TEncl):Sp 157 [x.av] [] (.tup [(jf x).1.av,.int .i64 (jf x).2]) []:=zct x _ _ (by
 unfold FV;have k1:=Dy 180000001 (by omega) x;have k2:=Dz 180000000 (by omega) x;have b1:=NI (Qu x) 180000001 0 180000001 (by omega);unfold jf N7;generalize qP (Qu x) 180000001 0 180000001=p at *;generalize qP (Wo x) 180000000 0 180000000=q at *;refine⟨_,Ts x 100000000,fun h=>⟨by rw[if_pos h];rfl,by trivial⟩,fun h=>⟨_,k1,_,k2,?_,by trivial⟩⟩;rw[if_neg (by rw[h];simp),zw6 (by omega)];rfl)
def WN (x:TEncl):TEncl × Int:=if (jf x).2≠0 then (⟨0,0⟩,(jf x).2) else (⟨wrap i64 (90000000-(jf x).1.Hi),wrap i64 (90000000-(jf x).1.Lo)⟩,0)
def FW (x:TEncl) (S:SpecF) (_Fr:FreshF) (_Sq:SeqF) (Q:ym):Prop :=
 ∃n0 n1 n2,S 157 [x.av] [] (.tup [AV.agg [iN n0,iN n1],iN n2]) []/\((n2 != 0)=true->Q (.tup [TEncl.zero.av,iN n2]) [])/\((n2 != 0)=false->Q (.tup [AV.agg [iN (wrap i64 ((90000000:Int)-n1)),iN (wrap i64 ((90000000:Int)-n0))],iN 0]) [])
theorem zcz (x:TEncl) (v:AV) (O:List (List AV)) (h:FW x Sp Fo So (fun r O'=>r=v/\O'=O)):Sp 170 [x.av] [] v O :=
 yj (w:=⟨[],[],[],[],[]⟩) (k:=0) (keep:=⟨[0,1,2,3,4,5,12],[],[],[]⟩) (boxes:=[]) mixed (by exact trivial) Tryz.func170 Tryz.call170 rfl rfl rfl (Nat.le_of_ble_eq_true rfl) (by kernel_rfl) h
theorem zbr (x:TEncl):Sp 170 [x.av] [] (.tup [(WN x).1.av,.int .i64 (WN x).2]) []:=zcz x _ _ (by
 unfold FW WN;refine⟨_,_,_,Dw x,fun h=>⟨?_,by trivial⟩,fun h=>⟨?_,by trivial⟩⟩
 ·have h:(jf x).2≠0:=by simpa using h
  rw[if_pos h];rfl
 ·have h:(jf x).2=0:=by simpa using h
  rw[if_neg (by simp[h])];rfl)
end Go.Proofs.YtdeeekgohhkdbaaGreatDoor
