/- Contracts: products and quotients of enclosures, the inverse of the cosine. Contracts: the inverse of the cosine. -/
import Derived.Test.YtkojpnkknehhmaaGreatDoorEa
namespace Go.Proofs.YtkojpnkknehhmaaGreatDoor
open Go.IntKind (wrap i64 u64)
open Go.RowKit
theorem KM (n:Int):IntKind.i64.wrap n=if n % 18446744073709551616>=9223372036854775808 then n % 18446744073709551616-18446744073709551616 else n % 18446744073709551616:=by
 show (if _=true then _ else _)=_;have e1:(2:Int) ^ IntKind.i64.bits=18446744073709551616:=rfl;have e2:(2:Int) ^ (IntKind.i64.bits-1)=9223372036854775808:=rfl;simp only[e1,e2,IntKind.signed,Bool.true_and,decide_eq_true_eq]
theorem comp (n:Int) (h:-9223372036854775808<=n/\n<9223372036854775808):IntKind.i64.wrap ((BitVec.ofInt 64 (-1) ^^^ BitVec.ofInt 64 n).toNat:Int) = -n-1:=by
 rw[show BitVec.ofInt 64 (-1)=BitVec.allOnes 64 by rfl,BitVec.allOnes_xor,BitVec.toNat_not,BitVec.toNat_ofInt];have e:(2:Nat) ^ 64=18446744073709551616:=rfl;rw[e,KM];omega
def F4 (n d:Int) (Q:yc):Prop :=
 (decide (n<0)=true->d≠0/\Q (iN (wrap i64 (↑(BitVec.ofInt (64:Nat) (-1:Int) ^^^ BitVec.ofInt (64:Nat) (wrap i64 ((wrap i64 (↑(BitVec.ofInt (64:Nat) (-1:Int) ^^^ BitVec.ofInt (64:Nat) n).toNat:Int)).tdiv d))).toNat:Int))) [])/\(decide (n<0)=false->d≠0/\Q (iN (wrap i64 (n.tdiv d))) [])
theorem zd3 (n d:Int) (v O) (h:F4 n d (fun r O'=>r=v/\O'=O)):Sp 221 [iN n,iN d] [] v O :=
 zS ⟨[0,1,4,6],[],[],[]⟩ Tryz.func221 Tryz.call221 rfl (by kernel_rfl) h
theorem Mm (n d:Int) (h:-9223372036854775808<n/\n<9223372036854775808) (hd:0<d):Sp 221 [.int .i64 n,.int .i64 d] [] (.int .i64 (n / d)) []:=zd3 n d _ _ (by
 unfold F4;refine⟨fun g=>⟨by omega,?_,rfl⟩,fun g=>⟨by omega,?_,rfl⟩⟩
 ·have g:n<0:=zt_ g;rw[comp n (by omega)];have h1:0<=(-n-1).tdiv d:=Int.tdiv_nonneg (by omega) (by omega);have h2:(-n-1).tdiv d <= -n-1:=by
   rw[Int.tdiv_eq_ediv_of_nonneg (by omega)];exact Int.ediv_le_self _ (by omega)
  rw[zw6 (n:=(-n-1).tdiv d) (by omega),comp _ (by omega),Int.tdiv_eq_ediv_of_nonneg (by omega)];have h3:=Int.mul_ediv_add_emod (-n-1) d;have h4:=Int.emod_nonneg (-n-1) (by omega:d≠0);have h5:=Int.emod_lt_of_pos (-n-1) hd;have h6:n / d = -((-n-1) / d)-1:=by
   rw[Int.ediv_eq_iff_of_pos hd,Int.sub_mul,Int.neg_mul,Int.one_mul,Int.mul_comm ((-n-1) / d)];omega
  rw[h6]
 ·have g:0<=n:=by have:=zf_ g;omega
  rw[Int.tdiv_eq_ediv_of_nonneg g];have h1:0<=n / d:=Int.ediv_nonneg g (by omega);have h2:n / d<=n:=Int.ediv_le_self _ g;rw[zw6 (by omega)])
def jJ (x:TEncl):Prop:=-3000000000<=x.Lo/\x.Lo<=x.Hi/\x.Hi<=3000000000
theorem vu {x:TEncl} (h:qc x 3000000000=false):jJ x:=by
 unfold qc at h;rw[show wrap i64 (0-3000000000) = -3000000000 by rfl] at h;simp only[Bool.or_eq_false_iff,decide_eq_false_iff_not] at h;unfold jJ;omega
theorem XW {a b:Int} (ha:-3000000000<=a/\a<=3000000000) (hb:-3000000000<=b/\b<=3000000000):-9000000000000000000<=a*b/\a*b<=9000000000000000000:=by
 have h1:a.natAbs*b.natAbs<=3000000000*3000000000:=Nat.mul_le_mul (by omega) (by omega);rw[<- Int.natAbs_mul] at h1;omega
theorem WB {n d:Int} (hd:0<d) (h:-9000000000000000000<=n/\n<=9000000000000000000):-9000000000000000000<=n / d/\n / d<=9000000000000000000:=by
 constructor
 ·rw[Int.le_ediv_iff_mul_le hd];have:(9000000000000000000:Int)*1<=9000000000000000000*d:=Int.mul_le_mul_of_nonneg_left (by omega) (by omega);omega
 ·have h1:n / d<=9000000000000000000 / d:=Int.ediv_le_ediv hd h.2;have h2:(9000000000000000000:Int) / d<=9000000000000000000:=Int.ediv_le_self _ (by omega);omega
def yJ (n d:Int):TEncl:=if d=0 then ⟨0,0⟩ else if d<0 then ⟨(-n) / (-d),-(n / (-d))⟩ else ⟨n / d,-((-n) / d)⟩
def zbo (a b:Int) (Q:yc):Prop :=
 Q (.tup [iN (wrap i64 (a*b)),iN 100000000]) []
theorem zd2 (a b:Int) (v O) (h:zbo a b (fun r O'=>r=v/\O'=O)):Sp 219 [iN a,iN b] [] v O :=
 zS ⟨[0,1,4,5],[],[],[]⟩ Tryz.func219 Tryz.call219 rfl (by kernel_rfl) h
theorem zcc (a b:Int) (ha:-3000000000<=a/\a<=3000000000) (hb:-3000000000<=b/\b<=3000000000):Sp 219 [.int .i64 a,.int .i64 b] [] (.tup [.int .i64 (a*b),.int .i64 100000000]) []:=zd2 a b _ _ ⟨by have:=XW ha hb;rw[zw6 (by omega)],rfl⟩
def zbj (a b:Int) (Q:yc):Prop :=
 Q (.tup [iN (wrap i64 (a*100000000)),iN b]) []
theorem zdO (a b:Int) (v O) (h:zbj a b (fun r O'=>r=v/\O'=O)):Sp 203 [iN a,iN b] [] v O :=
 zS ⟨[0,1,4,5],[],[],[]⟩ Tryz.func203 Tryz.call203 rfl (by kernel_rfl) h
theorem zb5 (a b:Int) (ha:-3000000000<=a/\a<=3000000000):Sp 203 [.int .i64 a,.int .i64 b] [] (.tup [.int .i64 (a*100000000),.int .i64 b]) []:=zdO a b _ _ ⟨by rw[zw6 (by omega)],rfl⟩
def Hu (a b:Int) (Q:yc):Prop :=
 ∃n0 n1,Sp 219 [iN a,iN b] [] (.tup [iN n0,iN n1]) []/\((n1 == 0)=true->Q (TEncl.zero.av) [[AV.fn (219:FuncId) [] []]])/\((n1 == 0)=false->(decide (n1<0)=true->∃n7,Sp 221 [iN (wrap i64 ((0:Int)-n0)),iN (wrap i64 ((0:Int)-n1))] [] (iN n7) []/\∃n9,Sp 221 [iN (wrap i64 ((0:Int)-wrap i64 ((0:Int)-n0))),iN (wrap i64 ((0:Int)-n1))] [] (iN n9) []/\Q (.agg [iN n7,iN (wrap i64 ((0:Int)-n9))]) [[AV.fn (219:FuncId) [] []]])/\(decide (n1<0)=false->∃n7,Sp 221 [iN n0,iN n1] [] (iN n7) []/\∃n9,Sp 221 [iN (wrap i64 ((0:Int)-n0)),iN n1] [] (iN n9) []/\Q (.agg [iN n7,iN (wrap i64 ((0:Int)-n9))]) [[AV.fn (219:FuncId) [] []]]))
theorem zar (a b:Int) (v O) (h:Hu a b (fun r O'=>r=v/\O'=O)):Sp 220 [iN a,iN b,.ref 0 0] [[.fn 219 [] []]] v O :=
 zX ⟨[],[],[],[],[]⟩ 0 ⟨[0,1,2,5,6,7,16,19],[],[],[]⟩ [⟨242,false,[.fn 219 [] []]⟩] (by exact trivial) Tryz.func220 Tryz.call220 rfl rfl rfl (by kernel_rfl) h
theorem Nw (a b:Int) (ha:-3000000000<=a/\a<=3000000000) (hb:-3000000000<=b/\b<=3000000000):Sp 220 [.int .i64 a,.int .i64 b,.ref 0 0] [[.fn 219 [] []]] (yJ (a*b) 100000000).av [[.fn 219 [] []]]:=zar a b _ _ (by
 unfold Hu;have hm:=XW ha hb;have h1:=WB (d:=100000000) (n:=-(a*b)) (by omega) (by omega);refine⟨_,_,zcc a b ha hb,fun h=>(by simp at h),fun _=>⟨fun h=>(by simp at h),fun _=>⟨_,Mm _ _ (by omega) (by omega),_,by rw[zw6 (n:=0-a*b) (by omega)];exact Mm _ _ (by omega) (by omega),?_,rfl⟩⟩⟩;rw[Int.zero_sub,zw6 (by omega)];unfold yJ;rw[if_neg (by omega),if_neg (by omega),Int.zero_sub];rfl)
def Hv (a b:Int) (Q:yc):Prop :=
 ∃n0 n1,Sp 203 [iN a,iN b] [] (.tup [iN n0,iN n1]) []/\((n1 == 0)=true->Q (TEncl.zero.av) [[AV.fn (203:FuncId) [] []]])/\((n1 == 0)=false->(decide (n1<0)=true->∃n7,Sp 221 [iN (wrap i64 ((0:Int)-n0)),iN (wrap i64 ((0:Int)-n1))] [] (iN n7) []/\∃n9,Sp 221 [iN (wrap i64 ((0:Int)-wrap i64 ((0:Int)-n0))),iN (wrap i64 ((0:Int)-n1))] [] (iN n9) []/\Q (.agg [iN n7,iN (wrap i64 ((0:Int)-n9))]) [[AV.fn (203:FuncId) [] []]])/\(decide (n1<0)=false->∃n7,Sp 221 [iN n0,iN n1] [] (iN n7) []/\∃n9,Sp 221 [iN (wrap i64 ((0:Int)-n0)),iN n1] [] (iN n9) []/\Q (.agg [iN n7,iN (wrap i64 ((0:Int)-n9))]) [[AV.fn (203:FuncId) [] []]]))
theorem zas (a b:Int) (v O) (h:Hv a b (fun r O'=>r=v/\O'=O)):Sp 220 [iN a,iN b,.ref 0 0] [[.fn 203 [] []]] v O :=
 zX ⟨[],[],[],[],[]⟩ 0 ⟨[0,1,2,5,6,7,16,19],[],[],[]⟩ [⟨242,false,[.fn 203 [] []]⟩] (by exact trivial) Tryz.func220 Tryz.call220 rfl rfl rfl (by kernel_rfl) h
theorem Nx (a b:Int) (ha:-3000000000<=a/\a<=3000000000) (hb:-3000000000<=b/\b<=3000000000):Sp 220 [.int .i64 a,.int .i64 b,.ref 0 0] [[.fn 203 [] []]] (yJ (a*100000000) b).av [[.fn 203 [] []]]:=zas a b _ _ (by
 unfold Hv;refine⟨_,_,zb5 a b ha,fun h=>⟨?_,rfl⟩,fun h=>?_⟩
 ·have h:b=0:=by simpa using h
  subst h;rfl
 have hb0:b≠0:=by simpa using h
 refine⟨fun g=>?_,fun g=>?_⟩
 ·have g:b<0:=zt_ g;have h1:=WB (d:=-b) (n:=a*100000000) (by omega) (by omega);refine⟨_,by rw[zw6 (n:=0-a*100000000) (by omega),zw6 (n:=0-b) (by omega)];exact Mm _ _ (by omega) (by omega),_,by rw[zw6 (n:=0-a*100000000) (by omega),zw6 (n:=0-(0-a*100000000)) (by omega),zw6 (n:=0-b) (by omega)];exact Mm _ _ (by omega) (by omega),?_,rfl⟩;rw[show (0:Int)-(0-a*100000000)=a*100000000 by omega,Int.zero_sub,Int.zero_sub,Int.zero_sub,zw6 (by omega)];unfold yJ;rw[if_neg hb0,if_pos g];rfl
 ·have g:0<b:=by have:=zf_ g;omega
  have h1:=WB (d:=b) (n:=-(a*100000000)) (by omega) (by omega);refine⟨_,Mm _ _ (by omega) (by omega),_,by rw[zw6 (n:=0-a*100000000) (by omega)];exact Mm _ _ (by omega) (by omega),?_,rfl⟩;rw[Int.zero_sub,Int.zero_sub,zw6 (by omega)];unfold yJ;rw[if_neg hb0,if_neg (by omega)];rfl)
def wi (f:Int->Int->TEncl) (x y:TEncl):TEncl:=[f x.Lo y.Hi,f x.Hi y.Lo,f x.Hi y.Hi].foldl xb (f x.Lo y.Lo)
def jr (f:Int->Int->TEncl) (x y:TEncl):TEncl × Int :=
 if qc x 3000000000 then (⟨0,0⟩,7) else if qc y 3000000000 then (⟨0,0⟩,7) else if qc (wi f x y) 3000000000 then (⟨0,0⟩,7) else (wi f x y,0)
def jE (x y:TEncl):TEncl × Int:=jr (fun a b=>yJ (a*b) 100000000) x y
def xF (x y:TEncl):TEncl × Int:=if (!qc x 3000000000 && !qc y 3000000000) && (decide (y.Lo<=0) && decide (y.Hi>=0)) then (⟨0,0⟩,8) else jr (fun a b=>yJ (a*100000000) b) x y
def FU (x y:TEncl) (Q:yc):Prop :=
 ∃b0,Sp 201 [x.av,iN 3000000000] [] (.bool b0) []/\(b0=true->Q (.tup [TEncl.zero.av,iN 7]) [])/\(b0=false->∃b4,Sp 201 [y.av,iN 3000000000] [] (.bool b4) []/\(b4=true->Q (.tup [TEncl.zero.av,iN 7]) [])/\(b4=false->∃n8 n9,Sp 220 [iN x.Lo,iN y.Lo,.ref 0 0] [[AV.fn (219:Nat) [] []]] (.agg [iN n8,iN n9]) [[AV.fn (219:Nat) [] []]]/\∃n11 n12,Sp 220 [iN x.Lo,iN y.Hi,.ref 0 0] [[AV.fn (219:Nat) [] []]] (.agg [iN n11,iN n12]) [[AV.fn (219:Nat) [] []]]/\∃n14 n15,Sp 220 [iN x.Hi,iN y.Lo,.ref 0 0] [[AV.fn (219:Nat) [] []]] (.agg [iN n14,iN n15]) [[AV.fn (219:Nat) [] []]]/\∃n17 n18,Sp 220 [iN x.Hi,iN y.Hi,.ref 0 0] [[AV.fn (219:Nat) [] []]] (.agg [iN n17,iN n18]) [[AV.fn (219:Nat) [] []]]/\∃n20 n21,Sp 222 [AV.agg [iN n8,iN n9],.slc 3 [AV.agg [iN n11,iN n12],.agg [iN n14,iN n15],.agg [iN n17,iN n18]]] [] (.agg [iN n20,iN n21]) []/\∃b23,Sp 201 [AV.agg [iN n20,iN n21],iN 3000000000] [] (.bool b23) []/\(b23=true->Q (.tup [TEncl.zero.av,iN 7]) [])/\(b23=false->Q (.tup [AV.agg [iN n20,iN n21],iN 0]) [])))
theorem zdM (x y:TEncl) (v O) (h:FU x y (fun r O'=>r=v/\O'=O)):Sp 200 [x.av,y.av] [] v O :=
 zX ⟨[],[],[220],[(202,⟨[0,1,2,3,4,5,6,7,8,9,15,45],[],[],[]⟩)],[]⟩ 4 ⟨[0,1,2,3,4,5],[],[],[]⟩ [] (by exact⟨Tryz.call202,trivial⟩) Tryz.func200 Tryz.call200 rfl rfl rfl (by kernel_rfl) h
theorem zb4 (x y:TEncl):Sp 200 [x.av,y.av] [] (.tup [(jE x y).1.av,.int .i64 (jE x y).2]) []:=zdM x y _ _ (by
 unfold FU jE jr;refine⟨_,Ta x 3000000000,fun h=>⟨by rw[if_pos h];rfl,by trivial⟩,fun h=>⟨_,Ta y 3000000000,fun h2=>⟨by rw[if_neg (by rw[h];simp),if_pos h2];rfl,by trivial⟩,fun h2=>?_⟩⟩;obtain ⟨x1,x2,x3⟩:=vu h;obtain ⟨y1,y2,y3⟩:=vu h2;rw[if_neg (by rw[h];simp),if_neg (by rw[h2];simp)];have hj:Sp 222 [(yJ (x.Lo*y.Lo) 100000000).av,.slc 3 [(yJ (x.Lo*y.Hi) 100000000).av,(yJ (x.Hi*y.Lo) 100000000).av,(yJ (x.Hi*y.Hi) 100000000).av]] [] (wi (fun a b=>yJ (a*b) 100000000) x y).av []:=Gl (yJ (x.Lo*y.Lo) 100000000) [yJ (x.Lo*y.Hi) 100000000,yJ (x.Hi*y.Lo) 100000000,yJ (x.Hi*y.Hi) 100000000] (by simp);generalize wi (fun a b=>yJ (a*b) 100000000) x y=H at hj ⊢;refine⟨_,_,Nw _ _ (by omega) (by omega),_,_,Nw _ _ (by omega) (by omega),_,_,Nw _ _ (by omega) (by omega),_,_,Nw _ _ (by omega) (by omega),_,_,hj,_,Ta H 3000000000,fun h3=>⟨?_,by trivial⟩,fun h3=>⟨?_,by trivial⟩⟩
 ·rw[if_pos h3];rfl
 ·rw[if_neg (by rw[h3];simp)];rfl)
theorem N6 (x y:TEncl):∃b0,Sp 201 [x.av,.int .i64 3000000000] [] (.bool b0) []/\(b0=true->AV.tup [TEncl.zero.av,.int .i64 7]=.tup [(jr (fun a b=>yJ (a*100000000) b) x y).1.av,.int .i64 (jr (fun a b=>yJ (a*100000000) b) x y).2]/\([]:List (List AV))=[]) /\
  (b0=false->∃b4,Sp 201 [y.av,.int .i64 3000000000] [] (.bool b4) []/\(b4=true->AV.tup [TEncl.zero.av,.int .i64 7]=.tup [(jr (fun a b=>yJ (a*100000000) b) x y).1.av,.int .i64 (jr (fun a b=>yJ (a*100000000) b) x y).2]/\([]:List (List AV))=[]) /\
  (b4=false->∃n8 n9,Sp 220 [.int .i64 x.Lo,.int .i64 y.Lo,.ref 0 0] [[.fn 203 [] []]] (.agg [.int .i64 n8,.int .i64 n9]) [[.fn 203 [] []]]/\∃n11 n12,Sp 220 [.int .i64 x.Lo,.int .i64 y.Hi,.ref 0 0] [[.fn 203 [] []]] (.agg [.int .i64 n11,.int .i64 n12]) [[.fn 203 [] []]] /\
   ∃n14 n15,Sp 220 [.int .i64 x.Hi,.int .i64 y.Lo,.ref 0 0] [[.fn 203 [] []]] (.agg [.int .i64 n14,.int .i64 n15]) [[.fn 203 [] []]]/\∃n17 n18,Sp 220 [.int .i64 x.Hi,.int .i64 y.Hi,.ref 0 0] [[.fn 203 [] []]] (.agg [.int .i64 n17,.int .i64 n18]) [[.fn 203 [] []]] /\
   ∃n20 n21,Sp 222 [.agg [.int .i64 n8,.int .i64 n9],.slc 3 [.agg [.int .i64 n11,.int .i64 n12],.agg [.int .i64 n14,.int .i64 n15],.agg [.int .i64 n17,.int .i64 n18]]] [] (.agg [.int .i64 n20,.int .i64 n21]) [] /\
   ∃b23,Sp 201 [.agg [.int .i64 n20,.int .i64 n21],.int .i64 3000000000] [] (.bool b23) []/\(b23=true->AV.tup [TEncl.zero.av,.int .i64 7]=.tup [(jr (fun a b=>yJ (a*100000000) b) x y).1.av,.int .i64 (jr (fun a b=>yJ (a*100000000) b) x y).2]/\([]:List (List AV))=[]) /\
   (b23=false->AV.tup [.agg [.int .i64 n20,.int .i64 n21],.int .i64 0]=.tup [(jr (fun a b=>yJ (a*100000000) b) x y).1.av,.int .i64 (jr (fun a b=>yJ (a*100000000) b) x y).2]/\([]:List (List AV))=[]))):=by
 unfold jr;refine⟨_,Ta x 3000000000,fun h=>⟨by rw[if_pos h];rfl,by trivial⟩,fun h=>⟨_,Ta y 3000000000,fun h2=>⟨by rw[if_neg (by rw[h];simp),if_pos h2];rfl,by trivial⟩,fun h2=>?_⟩⟩;obtain ⟨x1,x2,x3⟩:=vu h;obtain ⟨y1,y2,y3⟩:=vu h2;rw[if_neg (by rw[h];simp),if_neg (by rw[h2];simp)];have hj:Sp 222 [(yJ (x.Lo*100000000) y.Lo).av,.slc 3 [(yJ (x.Lo*100000000) y.Hi).av,(yJ (x.Hi*100000000) y.Lo).av,(yJ (x.Hi*100000000) y.Hi).av]] [] (wi (fun a b=>yJ (a*100000000) b) x y).av []:=Gl (yJ (x.Lo*100000000) y.Lo) [yJ (x.Lo*100000000) y.Hi,yJ (x.Hi*100000000) y.Lo,yJ (x.Hi*100000000) y.Hi] (by simp);generalize wi (fun a b=>yJ (a*100000000) b) x y=H at hj ⊢;refine⟨_,_,Nx _ _ (by omega) (by omega),_,_,Nx _ _ (by omega) (by omega),_,_,Nx _ _ (by omega) (by omega),_,_,Nx _ _ (by omega) (by omega),_,_,hj,_,Ta H 3000000000,fun h3=>⟨?_,by trivial⟩,fun h3=>⟨?_,by trivial⟩⟩
 ·rw[if_pos h3];rfl
 ·rw[if_neg (by rw[h3];simp)];rfl
abbrev WN (x y:TEncl) (Q:yc):Prop :=
 ∃b12,Sp 201 [x.av,iN 3000000000] [] (.bool b12) []/\(b12=true->Q (.tup [TEncl.zero.av,iN 7]) [])/\(b12=false->∃b16,Sp 201 [y.av,iN 3000000000] [] (.bool b16) []/\(b16=true->Q (.tup [TEncl.zero.av,iN 7]) [])/\(b16=false->∃n20 n21,Sp 220 [iN x.Lo,iN y.Lo,.ref 0 0] [[AV.fn (203:Nat) [] []]] (.agg [iN n20,iN n21]) [[AV.fn (203:Nat) [] []]]/\∃n23 n24,Sp 220 [iN x.Lo,iN y.Hi,.ref 0 0] [[AV.fn (203:Nat) [] []]] (.agg [iN n23,iN n24]) [[AV.fn (203:Nat) [] []]]/\∃n26 n27,Sp 220 [iN x.Hi,iN y.Lo,.ref 0 0] [[AV.fn (203:Nat) [] []]] (.agg [iN n26,iN n27]) [[AV.fn (203:Nat) [] []]]/\∃n29 n30,Sp 220 [iN x.Hi,iN y.Hi,.ref 0 0] [[AV.fn (203:Nat) [] []]] (.agg [iN n29,iN n30]) [[AV.fn (203:Nat) [] []]]/\∃n32 n33,Sp 222 [AV.agg [iN n20,iN n21],.slc 3 [AV.agg [iN n23,iN n24],.agg [iN n26,iN n27],.agg [iN n29,iN n30]]] [] (.agg [iN n32,iN n33]) []/\∃b35,Sp 201 [AV.agg [iN n32,iN n33],iN 3000000000] [] (.bool b35) []/\(b35=true->Q (.tup [TEncl.zero.av,iN 7]) [])/\(b35=false->Q (.tup [AV.agg [iN n32,iN n33],iN 0]) [])))
def FM (x y:TEncl) (Q:yc):Prop :=
 ∃b0,Sp 201 [x.av,iN 3000000000] [] (.bool b0) []/\((!b0)=true->∃b4,Sp 201 [y.av,iN 3000000000] [] (.bool b4) []/\((!b4)=true->(decide (y.Lo<=0)=true->(decide (y.Hi>=0)=true->Q (.tup [TEncl.zero.av,iN 8]) [])/\(decide (y.Hi>=0)=false->WN x y Q))/\(decide (y.Lo<=0)=false->WN x y Q))/\((!b4)=false->WN x y Q))/\((!b0)=false->WN x y Q)
theorem zdo (x y:TEncl) (v O) (h:FM x y (fun r O'=>r=v/\O'=O)):Sp 176 [x.av,y.av] [] v O :=
 zX ⟨[],[],[220],[(202,⟨[0,1,2,3,4,5,6,7,8,9,15,45],[],[],[]⟩)],[]⟩ 4 ⟨[0,1,2,3,4,5,6,25],[],[],[]⟩ [] (by exact⟨Tryz.call202,trivial⟩) Tryz.func176 Tryz.call176 rfl rfl rfl (by kernel_rfl) h
theorem zbX (x y:TEncl):Sp 176 [x.av,y.av] [] (.tup [(xF x y).1.av,.int .i64 (xF x y).2]) []:=zdo x y _ _ (by
 unfold FM WN;have rest:((!qc x 3000000000 && !qc y 3000000000) && (decide (y.Lo<=0) && decide (y.Hi>=0)))=false->xF x y=jr (fun a b=>yJ (a*100000000) b) x y:=fun h1=>by
  unfold xF;rw[h1];rfl
 refine⟨_,Ta x 3000000000,fun h=>⟨_,Ta y 3000000000,fun h2=>⟨fun h3=>⟨fun h4=>⟨?_,by trivial⟩,fun h4=>?_⟩,fun h3=>?_⟩,fun h2=>?_⟩,fun h=>?_⟩
 ·unfold xF;rw[h,h2,h3,h4];rfl
 ·rw[rest (by rw[h,h2,h3,h4];rfl)];exact N6 x y
 ·rw[rest (by rw[h,h2,h3];rfl)];exact N6 x y
 ·rw[rest (by rw[h,h2];rfl)];exact N6 x y
 ·rw[rest (by rw[h];rfl)];exact N6 x y)
def yw (f:Nat->Bool):Nat->Nat->Nat->Nat
 |0,i,_=>i
 |k+1,i,j=>if i<j then (if f ((i+j) / 2) then yw f k i ((i+j) / 2) else yw f k ((i+j) / 2+1) j) else i
theorem wY (f:Nat->Bool) (k i j:Nat):yw f (k+1) i j=if i<j then (if f ((i+j) / 2) then yw f k i ((i+j) / 2) else yw f k ((i+j) / 2+1) j) else i:=rfl
theorem O2 (f:Nat->Bool):∀(k i j:Nat),i<=j->i<=yw f k i j/\yw f k i j<=j:=by
 intro k;induction k with
 |zero=>intro i j h;exact⟨Nat.le_refl _,h⟩
 |succ k ih =>
  intro i j h;rw[wY];split
  ·split
   ·have:=ih i ((i+j) / 2) (by omega);omega
   ·have:=ih ((i+j) / 2+1) j (by omega);omega
  ·exact⟨Nat.le_refl _,h⟩
theorem Wp (f:Nat->Bool) (k i j:Nat) (h:¬ i<j):yw f k i j=i:=by
 cases k with
 |zero=>rfl
 |succ k=>rw[wY,if_neg h]
def Uz (x:TEncl) (a:Nat):Bool:=decide ((jv (a+90000000)).Lo<x.Hi)
def Yl (x:TEncl) (a:Nat):Bool:=decide ((jv (a+90000000)).Hi<=x.Lo)
def zbl (a:Int) (v0:TEncl) (Q:yc):Prop :=
 ∃n0 n1,Sp 207 [iN (wrap i64 (a+90000000))] [] (.agg [iN n0,iN n1]) []/\Q (.bool (decide (n0<v0.Hi))) [v0.cs]
theorem zdQ (a:Int) (v0:TEncl) (v O) (h:zbl a v0 (fun r O'=>r=v/\O'=O)):Sp 206 [iN a,.ref 0 0] [v0.cs] v O :=
 zX ⟨[],[],[],[],[]⟩ 0 ⟨[0,1,3],[],[],[]⟩ [⟨23,false,v0.cs⟩] (by exact trivial) Tryz.func206 Tryz.call206 rfl rfl rfl (by kernel_rfl) h
theorem zb7 (a:Nat) (ha:a<=1000000000) (x:TEncl):Sp 206 [.int .i64 a,.ref 0 0] [x.cs] (.bool (Uz x a)) [x.cs]:=zdQ a x _ _ ⟨_,_,by rw[zw6 (by omega)];exact Ic _,rfl,rfl⟩
def zbm (a:Int) (v0:TEncl) (Q:yc):Prop :=
 ∃n0 n1,Sp 207 [iN (wrap i64 (a+90000000))] [] (.agg [iN n0,iN n1]) []/\Q (.bool (decide (n1<=v0.Lo))) [v0.cs]
theorem zdS (a:Int) (v0:TEncl) (v O) (h:zbm a v0 (fun r O'=>r=v/\O'=O)):Sp 208 [iN a,.ref 0 0] [v0.cs] v O :=
 zX ⟨[],[],[],[],[]⟩ 0 ⟨[0,1,3],[],[],[]⟩ [⟨23,false,v0.cs⟩] (by exact trivial) Tryz.func208 Tryz.call208 rfl rfl rfl (by kernel_rfl) h
theorem zb8 (a:Nat) (ha:a<=1000000000) (x:TEncl):Sp 208 [.int .i64 a,.ref 0 0] [x.cs] (.bool (Yl x a)) [x.cs]:=zdS a x _ _ ⟨_,_,by rw[zw6 (by omega)];exact Ic _,rfl,rfl⟩
theorem mid {i j:Nat} (h:i+j<9223372036854775808):IntKind.i64.wrap ((wrap u64 (wrap i64 ((i:Int)+(j:Int)))).fdiv 2)=(((i+j) / 2:Nat):Int):=by
 rw[<- Int.natCast_add,uy h,jb (by omega),show (2:Int)=((2:Nat):Int) by rfl,fdN,uy (by omega)]
def Hs (n:Int) (f0:TEncl) (Q:yc):Prop :=
 ∃(I0:Nat->List AV->Prop),(∃m2,I0 m2 [iN 0,iN n,f0.av])/\∀(m2:Nat) (n3 n4 n5 n6:Int),I0 m2 [iN n3,iN n4,.agg [iN n5,iN n6]]->(decide (n3<n4)=true->∃b10,Sp 206 [iN (wrap i64 ((wrap u64 (wrap i64 (n3+n4))).fdiv (2:Int))),.ref 0 0] [[iN n5,iN n6]] (.bool b10) [[iN n5,iN n6]]/\((!b10)=true->∃k14,k14<m2/\I0 k14 [iN (wrap i64 (wrap i64 ((wrap u64 (wrap i64 (n3+n4))).fdiv (2:Int))+1)),iN n4,.agg [iN n5,iN n6]])/\((!b10)=false->∃k14,k14<m2/\I0 k14 [iN n3,iN (wrap i64 ((wrap u64 (wrap i64 (n3+n4))).fdiv (2:Int))),.agg [iN n5,iN n6]]))/\(decide (n3<n4)=false->Q (iN n3) [[iN n5,iN n6]])
theorem zao (n:Int) (f0:TEncl) (v O) (h:Hs n f0 (fun r O'=>r=v/\O'=O)):Sp 205 [iN n,.fn 206 [] [.ref 0 0]] [f0.cs] v O :=
 zX ⟨[],[],[206],[],[]⟩ 0 ⟨[0,1,4,5,6,7,11,21],[⟨2,[(5,iN 0),(6,iN 0)],[],[(1000000,.agg [iN 0,iN 0])],[],[],[]⟩],[],[]⟩ [⟨23,false,f0.cs⟩] (by exact trivial) Tryz.func205 Tryz.call205 rfl rfl rfl (by kernel_rfl) h
theorem DO (n:Nat) (hn:n<=1000000000) (x:TEncl):Sp 205 [.int .i64 n,.fn 206 [] [.ref 0 0]] [x.cs] (.int .i64 (yw (Uz x) n 0 n:Nat)) [x.cs]:=zao n x _ _ (by
 unfold Hs;refine⟨fun m vs=>∃i j:Nat,i<=j/\j<=n/\j-i<=m/\vs=[.int .i64 i,.int .i64 j,x.av]/\yw (Uz x) m i j=yw (Uz x) n 0 n,⟨n,0,n,by omega,by omega,by omega,rfl,rfl⟩,?_⟩;rintro m n3 n4 n5 n6 ⟨i,j,h1,h2,h3,hv,hs⟩;have hv':=hv;unfold TEncl.av TEncl.cs at hv';simp only[List.cons.injEq,AV.int.injEq,true_and,AV.agg.injEq,and_true] at hv';obtain ⟨rfl,rfl,rfl,rfl⟩:=hv';refine⟨fun g=>?_,fun g=>?_⟩
 ·have hij:i<j:=by simpa using g
  obtain ⟨k,rfl⟩:∃k,m=k+1:=⟨m-1,by omega⟩;rw[wY,if_pos hij] at hs;rw[mid (by omega)];refine⟨_,zb7 ((i+j) / 2) (by omega) x,fun g2=>⟨k,by omega,(i+j) / 2+1,j,by omega,by omega,by omega,?_,?_⟩,fun g2=>⟨k,by omega,i,(i+j) / 2,by omega,by omega,by omega,rfl,?_⟩⟩
  ·rw[yr (by omega)];rfl
  ·have g2:Uz x ((i+j) / 2)=false:=by simpa using g2
   rw[if_neg (by rw[g2];simp)] at hs;exact hs
  ·have g2:Uz x ((i+j) / 2)=true:=by simpa using g2
   rw[if_pos g2] at hs;exact hs
 ·have hij:¬ i<j:=by simpa using g
  rw[Wp _ _ _ _ hij] at hs;rw[<- hs];exact⟨rfl,rfl⟩)
def Ht (n:Int) (f0:TEncl) (Q:yc):Prop :=
 ∃(I0:Nat->List AV->Prop),(∃m2,I0 m2 [iN 0,iN n,f0.av])/\∀(m2:Nat) (n3 n4 n5 n6:Int),I0 m2 [iN n3,iN n4,.agg [iN n5,iN n6]]->(decide (n3<n4)=true->∃b10,Sp 208 [iN (wrap i64 ((wrap u64 (wrap i64 (n3+n4))).fdiv (2:Int))),.ref 0 0] [[iN n5,iN n6]] (.bool b10) [[iN n5,iN n6]]/\((!b10)=true->∃k14,k14<m2/\I0 k14 [iN (wrap i64 (wrap i64 ((wrap u64 (wrap i64 (n3+n4))).fdiv (2:Int))+1)),iN n4,.agg [iN n5,iN n6]])/\((!b10)=false->∃k14,k14<m2/\I0 k14 [iN n3,iN (wrap i64 ((wrap u64 (wrap i64 (n3+n4))).fdiv (2:Int))),.agg [iN n5,iN n6]]))/\(decide (n3<n4)=false->Q (iN n3) [[iN n5,iN n6]])
theorem zap (n:Int) (f0:TEncl) (v O) (h:Ht n f0 (fun r O'=>r=v/\O'=O)):Sp 205 [iN n,.fn 208 [] [.ref 0 0]] [f0.cs] v O :=
 zX ⟨[],[],[208],[],[]⟩ 0 ⟨[0,1,4,5,6,7,11,21],[⟨2,[(5,iN 0),(6,iN 0)],[],[(1000000,.agg [iN 0,iN 0])],[],[],[]⟩],[],[]⟩ [⟨23,false,f0.cs⟩] (by exact trivial) Tryz.func205 Tryz.call205 rfl rfl rfl (by kernel_rfl) h
theorem DP (n:Nat) (hn:n<=1000000000) (x:TEncl):Sp 205 [.int .i64 n,.fn 208 [] [.ref 0 0]] [x.cs] (.int .i64 (yw (Yl x) n 0 n:Nat)) [x.cs]:=zap n x _ _ (by
 unfold Ht;refine⟨fun m vs=>∃i j:Nat,i<=j/\j<=n/\j-i<=m/\vs=[.int .i64 i,.int .i64 j,x.av]/\yw (Yl x) m i j=yw (Yl x) n 0 n,⟨n,0,n,by omega,by omega,by omega,rfl,rfl⟩,?_⟩;rintro m n3 n4 n5 n6 ⟨i,j,h1,h2,h3,hv,hs⟩;have hv':=hv;unfold TEncl.av TEncl.cs at hv';simp only[List.cons.injEq,AV.int.injEq,true_and,AV.agg.injEq,and_true] at hv';obtain ⟨rfl,rfl,rfl,rfl⟩:=hv';refine⟨fun g=>?_,fun g=>?_⟩
 ·have hij:i<j:=by simpa using g
  obtain ⟨k,rfl⟩:∃k,m=k+1:=⟨m-1,by omega⟩;rw[wY,if_pos hij] at hs;rw[mid (by omega)];refine⟨_,zb8 ((i+j) / 2) (by omega) x,fun g2=>⟨k,by omega,(i+j) / 2+1,j,by omega,by omega,by omega,?_,?_⟩,fun g2=>⟨k,by omega,i,(i+j) / 2,by omega,by omega,by omega,rfl,?_⟩⟩
  ·rw[yr (by omega)];rfl
  ·have g2:Yl x ((i+j) / 2)=false:=by simpa using g2
   rw[if_neg (by rw[g2];simp)] at hs;exact hs
  ·have g2:Yl x ((i+j) / 2)=true:=by simpa using g2
   rw[if_pos g2] at hs;exact hs
 ·have hij:¬ i<j:=by simpa using g
  rw[Wp _ _ _ _ hij] at hs;rw[<- hs];exact⟨rfl,rfl⟩)
def Wz (x:TEncl):TEncl:=⟨(yw (Uz x) 180000001 0 180000001:Nat)-1,(yw (Yl x) 180000000 0 180000000:Nat)⟩
def yX (x:TEncl):TEncl × Int:=if qc x 100000000 then (⟨0,0⟩,7) else (Wz x,0)
def FN (x:TEncl) (Q:yc):Prop :=
 ∃b0,Sp 201 [x.av,iN 100000000] [] (.bool b0) []/\(b0=true->Q (.tup [TEncl.zero.av,iN 7]) [])/\(b0=false->∃n4,Sp 205 [iN 180000001,AV.fn (206:Nat) [] [AV.ref 0 0]] [x.cs] (iN n4) [x.cs]/\∃n6,Sp 205 [iN 180000000,AV.fn (208:Nat) [] [AV.ref 0 0]] [x.cs] (iN n6) [x.cs]/\Q (.tup [AV.agg [iN (wrap i64 (n4-1)),iN n6],iN 0]) [])
theorem zdq (x:TEncl) (v O) (h:FN x (fun r O'=>r=v/\O'=O)):Sp 178 [x.av] [] v O :=
 zX ⟨[],[],[205],[],[]⟩ 0 ⟨[0,1,2,3,4,5,7],[],[],[]⟩ [] (by exact trivial) Tryz.func178 Tryz.call178 rfl rfl rfl (by kernel_rfl) h
theorem DG (x:TEncl):Sp 178 [x.av] [] (.tup [(yX x).1.av,.int .i64 (yX x).2]) []:=zdq x _ _ (by
 unfold FN;have k1:=DO 180000001 (by omega) x;have k2:=DP 180000000 (by omega) x;have b1:=O2 (Uz x) 180000001 0 180000001 (by omega);unfold yX Wz;generalize yw (Uz x) 180000001 0 180000001=p at *;generalize yw (Yl x) 180000000 0 180000000=q at *;refine⟨_,Ta x 100000000,fun h=>⟨by rw[if_pos h];rfl,by trivial⟩,fun h=>⟨_,k1,_,k2,?_,by trivial⟩⟩;rw[if_neg (by rw[h];simp),zw6 (by omega)];rfl)
def xx (x:TEncl):TEncl × Int:=if (yX x).2≠0 then (⟨0,0⟩,(yX x).2) else (⟨wrap i64 (90000000-(yX x).1.Hi),wrap i64 (90000000-(yX x).1.Lo)⟩,0)
def FT (x:TEncl) (Q:yc):Prop :=
 ∃n0 n1 n2,Sp 178 [x.av] [] (.tup [AV.agg [iN n0,iN n1],iN n2]) []/\((n2 != 0)=true->Q (.tup [TEncl.zero.av,iN n2]) [])/\((n2 != 0)=false->Q (.tup [AV.agg [iN (wrap i64 ((90000000:Int)-n1)),iN (wrap i64 ((90000000:Int)-n0))],iN 0]) [])
theorem zdK (x:TEncl) (v O) (h:FT x (fun r O'=>r=v/\O'=O)):Sp 198 [x.av] [] v O :=
 zS ⟨[0,1,2,3,4,5,12],[],[],[]⟩ Tryz.func198 Tryz.call198 rfl (by kernel_rfl) h
theorem zb2 (x:TEncl):Sp 198 [x.av] [] (.tup [(xx x).1.av,.int .i64 (xx x).2]) []:=zdK x _ _ (by
 unfold FT xx;refine⟨_,_,_,DG x,fun h=>⟨?_,by trivial⟩,fun h=>⟨?_,by trivial⟩⟩
 ·have h:(yX x).2≠0:=by simpa using h
  rw[if_pos h];rfl
 ·have h:(yX x).2=0:=by simpa using h
  rw[if_neg (by simp[h])];rfl)
end Go.Proofs.YtkojpnkknehhmaaGreatDoor
