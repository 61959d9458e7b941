/- Contracts: products and quotients of enclosures, the inverse of the cosine. Contracts: the inverse of the cosine. -/
import Derived.Test.YtdeeekgohhkdbaaGreatDoorEa
namespace Go.Proofs.YtdeeekgohhkdbaaGreatDoor
open Go.RowKit
theorem Es (n:Int):IntKind.i64.wrap n=if n % 18446744073709551616>=9223372036854775808 then n % 18446744073709551616-18446744073709551616 else n % 18446744073709551616:=by
 show (if _=true then _ else _)=_
 have e1:(2:Int) ^ IntKind.i64.bits=18446744073709551616:=rfl
 have e2:(2:Int) ^ (IntKind.i64.bits-1)=9223372036854775808:=rfl
 simp only [e1,e2,IntKind.signed,Bool.true_and,decide_eq_true_eq]
theorem H5 (n:Int) (h:-9223372036854775808<=n/\n<9223372036854775808):IntKind.i64.wrap ((BitVec.ofInt 64 (-1) ^^^ BitVec.ofInt 64 n).toNat:Int) = -n-1:=by
 rw [show BitVec.ofInt 64 (-1)=BitVec.allOnes 64 by rfl,BitVec.allOnes_xor,BitVec.toNat_not,BitVec.toNat_ofInt]
 have e:(2:Nat) ^ 64=18446744073709551616:=rfl
 rw [e,Es]
 omega
def H0 (n d:Int) (_S:SpecF) (_Fr:FreshF) (_Sq:SeqF) (Q:yj):Prop :=
 (decide (n<0)=true->d≠0/\Q (iN (IntKind.i64.wrap (↑(BitVec.ofInt (64:Nat) (-1:Int) ^^^ BitVec.ofInt (64:Nat) (IntKind.i64.wrap ((IntKind.i64.wrap (↑(BitVec.ofInt (64:Nat) (-1:Int) ^^^ BitVec.ofInt (64:Nat) n).toNat:Int)).tdiv d))).toNat:Int))) [])/\(decide (n<0)=false->d≠0/\Q (iN (IntKind.i64.wrap (n.tdiv d))) [])
theorem Fj (n:Int) (d:Int) (v:AV) (O:List (List AV)) (h:H0 n d Sp Fo So (fun r O'=>r=v/\O'=O)):Sp 186 [iN n,iN d] [] v O :=
 ye (w:=⟨[],[],[],[],[]⟩) (k:=0) (keep:=⟨[0,1,4,6],[],[],[]⟩) (boxes:=[]) mixed (by exact trivial) Tryz.func186 Tryz.call186 rfl rfl rfl (Nat.le_of_ble_eq_true rfl) (by kernel_rfl) h
theorem Oy (n d:Int) (h:-9223372036854775808<n/\n<9223372036854775808) (hd:0<d):Sp 186 [.int .i64 n,.int .i64 d] [] (.int .i64 (n / d)) []:=Fj n d _ _ (by
 unfold H0
 refine ⟨fun g=>⟨by omega,?_,rfl⟩,fun g=>⟨by omega,?_,rfl⟩⟩
 ·have g:n<0:=zt_ g
  rw [H5 n (by omega)]
  have h1:0<=(-n-1).tdiv d:=Int.tdiv_nonneg (by omega) (by omega)
  have h2:(-n-1).tdiv d <= -n-1:=by
   rw [Int.tdiv_eq_ediv_of_nonneg (by omega)]
   exact Int.ediv_le_self _ (by omega)
  rw [i64 (n:=(-n-1).tdiv d) (by omega),H5 _ (by omega),Int.tdiv_eq_ediv_of_nonneg (by omega)]
  have h3:=Int.mul_ediv_add_emod (-n-1) d
  have h4:=Int.emod_nonneg (-n-1) (by omega:d≠0)
  have h5:=Int.emod_lt_of_pos (-n-1) hd
  have h6:n / d = -((-n-1) / d)-1:=by
   rw [Int.ediv_eq_iff_of_pos hd,Int.sub_mul,Int.neg_mul,Int.one_mul,Int.mul_comm ((-n-1) / d)]
   omega
  rw [h6]
 ·have g:0<=n:=by have:=zf_ g; omega
  rw [Int.tdiv_eq_ediv_of_nonneg g]
  have h1:0<=n / d:=Int.ediv_nonneg g (by omega)
  have h2:n / d<=n:=Int.ediv_le_self _ g
  rw [i64 (by omega)])
def N3 (x:TEncl):Prop:=-3000000000<=x.Lo/\x.Lo<=x.Hi/\x.Hi<=3000000000
theorem Z2 {x:TEncl} (h:vt x 3000000000=false):N3 x:=by
 unfold vt at h
 rw [show IntKind.i64.wrap (0-3000000000) = -3000000000 by rfl] at h
 simp only [Bool.or_eq_false_iff,decide_eq_false_iff_not] at h
 unfold N3; omega
theorem NS {a b:Int} (ha:-3000000000<=a/\a<=3000000000) (hb:-3000000000<=b/\b<=3000000000):-9000000000000000000<=a*b/\a*b<=9000000000000000000:=by
 have h1:a.natAbs*b.natAbs<=3000000000*3000000000:=Nat.mul_le_mul (by omega) (by omega)
 rw [<- Int.natAbs_mul] at h1
 omega
theorem U1 {n d:Int} (hd:0<d) (h:-9000000000000000000<=n/\n<=9000000000000000000):-9000000000000000000<=n / d/\n / d<=9000000000000000000:=by
 constructor
 ·rw [Int.le_ediv_iff_mul_le hd]
  have:(9000000000000000000:Int)*1<=9000000000000000000*d:=Int.mul_le_mul_of_nonneg_left (by omega) (by omega)
  omega
 ·have h1:n / d<=9000000000000000000 / d:=Int.ediv_le_ediv hd h.2
  have h2:(9000000000000000000:Int) / d<=9000000000000000000:=Int.ediv_le_self _ (by omega)
  omega
def qk (n d:Int):TEncl:=if d=0 then ⟨0,0⟩ else if d<0 then ⟨(-n) / (-d),-(n / (-d))⟩ else ⟨n / d,-((-n) / d)⟩
def GQ (a b:Int) (_S:SpecF) (_Fr:FreshF) (_Sq:SeqF) (Q:yj):Prop :=
 Q (.tup [iN (IntKind.i64.wrap (a*b)),iN 100000000]) []
theorem Ew (a:Int) (b:Int) (v:AV) (O:List (List AV)) (h:GQ a b Sp Fo So (fun r O'=>r=v/\O'=O)):Sp 184 [iN a,iN b] [] v O :=
 ye (w:=⟨[],[],[],[],[]⟩) (k:=0) (keep:=⟨[0,1,4,5],[],[],[]⟩) (boxes:=[]) mixed (by exact trivial) Tryz.func184 Tryz.call184 rfl rfl rfl (Nat.le_of_ble_eq_true rfl) (by kernel_rfl) h
theorem EZ (a b:Int) (ha:-3000000000<=a/\a<=3000000000) (hb:-3000000000<=b/\b<=3000000000):Sp 184 [.int .i64 a,.int .i64 b] [] (.tup [.int .i64 (a*b),.int .i64 100000000]) []:=Ew a b _ _ ⟨by have:=NS ha hb; rw [i64 (by omega)],rfl⟩
def FD (a b:Int) (_S:SpecF) (_Fr:FreshF) (_Sq:SeqF) (Q:yj):Prop :=
 Q (.tup [iN (IntKind.i64.wrap (a*100000000)),iN b]) []
theorem GZ (a:Int) (b:Int) (v:AV) (O:List (List AV)) (h:FD a b Sp Fo So (fun r O'=>r=v/\O'=O)):Sp 175 [iN a,iN b] [] v O :=
 ye (w:=⟨[],[],[],[],[]⟩) (k:=0) (keep:=⟨[0,1,4,5],[],[],[]⟩) (boxes:=[]) mixed (by exact trivial) Tryz.func175 Tryz.call175 rfl rfl rfl (Nat.le_of_ble_eq_true rfl) (by kernel_rfl) h
theorem ER (a b:Int) (ha:-3000000000<=a/\a<=3000000000):Sp 175 [.int .i64 a,.int .i64 b] [] (.tup [.int .i64 (a*100000000),.int .i64 b]) []:=GZ a b _ _ ⟨by rw [i64 (by omega)],rfl⟩
def Jk (a b:Int) (S:SpecF) (_Fr:FreshF) (_Sq:SeqF) (Q:yj):Prop :=
 ∃ n0 n1,S 184 [iN a,iN b] [] (.tup [iN n0,iN n1]) []/\((n1 == 0)=true->Q (TEncl.zero.av) [[AV.fn (184:FuncId) [] []]])/\((n1 == 0)=false->(decide (n1<0)=true->∃ n7,S 186 [iN (IntKind.i64.wrap ((0:Int)-n0)),iN (IntKind.i64.wrap ((0:Int)-n1))] [] (iN n7) []/\∃ n9,S 186 [iN (IntKind.i64.wrap ((0:Int)-IntKind.i64.wrap ((0:Int)-n0))),iN (IntKind.i64.wrap ((0:Int)-n1))] [] (iN n9) []/\Q (.agg [iN n7,iN (IntKind.i64.wrap ((0:Int)-n9))]) [[AV.fn (184:FuncId) [] []]])/\(decide (n1<0)=false->∃ n7,S 186 [iN n0,iN n1] [] (iN n7) []/\∃ n9,S 186 [iN (IntKind.i64.wrap ((0:Int)-n0)),iN n1] [] (iN n9) []/\Q (.agg [iN n7,iN (IntKind.i64.wrap ((0:Int)-n9))]) [[AV.fn (184:FuncId) [] []]]))
theorem IL (a:Int) (b:Int) (v:AV) (O:List (List AV)) (h:Jk a b Sp Fo So (fun r O'=>r=v/\O'=O)):Sp 185 [iN a,iN b,.ref 0 0] [[.fn 184 [] []]] v O :=
 ye (w:=⟨[],[],[],[],[]⟩) (k:=0) (keep:=⟨[0,1,2,5,6,7,16,19],[],[],[]⟩) (boxes:=[⟨236,false,[.fn 184 [] []]⟩]) mixed (by exact trivial) Tryz.func185 Tryz.call185 rfl rfl rfl (Nat.le_of_ble_eq_true rfl) (by kernel_rfl) h
theorem Pw (a b:Int) (ha:-3000000000<=a/\a<=3000000000) (hb:-3000000000<=b/\b<=3000000000):Sp 185 [.int .i64 a,.int .i64 b,.ref 0 0] [[.fn 184 [] []]] (qk (a*b) 100000000).av [[.fn 184 [] []]]:=IL a b _ _ (by
 unfold Jk
 have hm:=NS ha hb
 have h1:=U1 (d:=100000000) (n:=-(a*b)) (by omega) (by omega)
 refine ⟨_,_,EZ a b ha hb,fun h=>(by simp at h),fun _=>⟨fun h=>(by simp at h),fun _=>⟨_,Oy _ _ (by omega) (by omega),_,by rw [i64 (n:=0-a*b) (by omega)]; exact Oy _ _ (by omega) (by omega),?_,rfl⟩⟩⟩
 rw [Int.zero_sub,i64 (by omega)]
 unfold qk
 rw [if_neg (by omega),if_neg (by omega),Int.zero_sub]; rfl)
def Jz (a b:Int) (S:SpecF) (_Fr:FreshF) (_Sq:SeqF) (Q:yj):Prop :=
 ∃ n0 n1,S 175 [iN a,iN b] [] (.tup [iN n0,iN n1]) []/\((n1 == 0)=true->Q (TEncl.zero.av) [[AV.fn (175:FuncId) [] []]])/\((n1 == 0)=false->(decide (n1<0)=true->∃ n7,S 186 [iN (IntKind.i64.wrap ((0:Int)-n0)),iN (IntKind.i64.wrap ((0:Int)-n1))] [] (iN n7) []/\∃ n9,S 186 [iN (IntKind.i64.wrap ((0:Int)-IntKind.i64.wrap ((0:Int)-n0))),iN (IntKind.i64.wrap ((0:Int)-n1))] [] (iN n9) []/\Q (.agg [iN n7,iN (IntKind.i64.wrap ((0:Int)-n9))]) [[AV.fn (175:FuncId) [] []]])/\(decide (n1<0)=false->∃ n7,S 186 [iN n0,iN n1] [] (iN n7) []/\∃ n9,S 186 [iN (IntKind.i64.wrap ((0:Int)-n0)),iN n1] [] (iN n9) []/\Q (.agg [iN n7,iN (IntKind.i64.wrap ((0:Int)-n9))]) [[AV.fn (175:FuncId) [] []]]))
theorem HF (a:Int) (b:Int) (v:AV) (O:List (List AV)) (h:Jz a b Sp Fo So (fun r O'=>r=v/\O'=O)):Sp 185 [iN a,iN b,.ref 0 0] [[.fn 175 [] []]] v O :=
 ye (w:=⟨[],[],[],[],[]⟩) (k:=0) (keep:=⟨[0,1,2,5,6,7,16,19],[],[],[]⟩) (boxes:=[⟨236,false,[.fn 175 [] []]⟩]) mixed (by exact trivial) Tryz.func185 Tryz.call185 rfl rfl rfl (Nat.le_of_ble_eq_true rfl) (by kernel_rfl) h
theorem Ps (a b:Int) (ha:-3000000000<=a/\a<=3000000000) (hb:-3000000000<=b/\b<=3000000000):Sp 185 [.int .i64 a,.int .i64 b,.ref 0 0] [[.fn 175 [] []]] (qk (a*100000000) b).av [[.fn 175 [] []]]:=HF a b _ _ (by
 unfold Jz
 refine ⟨_,_,ER a b ha,fun h=>⟨?_,rfl⟩,fun h=>?_⟩
 ·have h:b=0:=by simpa using h
  subst h; rfl
 have hb0:b≠0:=by simpa using h
 refine ⟨fun g=>?_,fun g=>?_⟩
 ·have g:b<0:=zt_ g
  have h1:=U1 (d:=-b) (n:=a*100000000) (by omega) (by omega)
  refine ⟨_,by rw [i64 (n:=0-a*100000000) (by omega),i64 (n:=0-b) (by omega)]; exact Oy _ _ (by omega) (by omega),_,by rw [i64 (n:=0-a*100000000) (by omega),i64 (n:=0-(0-a*100000000)) (by omega),i64 (n:=0-b) (by omega)]; exact Oy _ _ (by omega) (by omega),?_,rfl⟩
  rw [show (0:Int)-(0-a*100000000)=a*100000000 by omega,Int.zero_sub,Int.zero_sub,Int.zero_sub,i64 (by omega)]
  unfold qk
  rw [if_neg hb0,if_pos g]; rfl
 ·have g:0<b:=by have:=zf_ g; omega
  have h1:=U1 (d:=b) (n:=-(a*100000000)) (by omega) (by omega)
  refine ⟨_,Oy _ _ (by omega) (by omega),_,by rw [i64 (n:=0-a*100000000) (by omega)]; exact Oy _ _ (by omega) (by omega),?_,rfl⟩
  rw [Int.zero_sub,Int.zero_sub,i64 (by omega)]
  unfold qk
  rw [if_neg hb0,if_neg (by omega)]; rfl)
def VF (f:Int->Int->TEncl) (x y:TEncl):TEncl:=[f x.Lo y.Hi,f x.Hi y.Lo,f x.Hi y.Hi].foldl VJ (f x.Lo y.Lo)
def we (f:Int->Int->TEncl) (x y:TEncl):TEncl × Int :=
 if vt x 3000000000 then (⟨0,0⟩,7) else if vt y 3000000000 then (⟨0,0⟩,7) else if vt (VF f x y) 3000000000 then (⟨0,0⟩,7) else (VF f x y,0)
def ZE (x y:TEncl):TEncl × Int:=we (fun a b=>qk (a*b) 100000000) x y
def V9 (x y:TEncl):TEncl × Int:=if (!vt x 3000000000 && !vt y 3000000000) && (decide (y.Lo<=0) && decide (y.Hi>=0)) then (⟨0,0⟩,8) else we (fun a b=>qk (a*100000000) b) x y
def H8 (x y:TEncl) (S:SpecF) (_Fr:FreshF) (_Sq:SeqF) (Q:yj):Prop :=
 ∃ b0,S 173 [x.av,iN 3000000000] [] (.bool b0) []/\(b0=true->Q (.tup [TEncl.zero.av,iN 7]) [])/\(b0=false->∃ b4,S 173 [y.av,iN 3000000000] [] (.bool b4) []/\(b4=true->Q (.tup [TEncl.zero.av,iN 7]) [])/\(b4=false->∃ n8 n9,S 185 [iN x.Lo,iN y.Lo,.ref 0 0] [[AV.fn (184:Nat) [] []]] (.agg [iN n8,iN n9]) [[AV.fn (184:Nat) [] []]]/\∃ n11 n12,S 185 [iN x.Lo,iN y.Hi,.ref 0 0] [[AV.fn (184:Nat) [] []]] (.agg [iN n11,iN n12]) [[AV.fn (184:Nat) [] []]]/\∃ n14 n15,S 185 [iN x.Hi,iN y.Lo,.ref 0 0] [[AV.fn (184:Nat) [] []]] (.agg [iN n14,iN n15]) [[AV.fn (184:Nat) [] []]]/\∃ n17 n18,S 185 [iN x.Hi,iN y.Hi,.ref 0 0] [[AV.fn (184:Nat) [] []]] (.agg [iN n17,iN n18]) [[AV.fn (184:Nat) [] []]]/\∃ n20 n21,S 187 [AV.agg [iN n8,iN n9],.slc 3 [AV.agg [iN n11,iN n12],.agg [iN n14,iN n15],.agg [iN n17,iN n18]]] [] (.agg [iN n20,iN n21]) []/\∃ b23,S 173 [AV.agg [iN n20,iN n21],iN 3000000000] [] (.bool b23) []/\(b23=true->Q (.tup [TEncl.zero.av,iN 7]) [])/\(b23=false->Q (.tup [AV.agg [iN n20,iN n21],iN 0]) [])))
theorem EC (x:TEncl) (y:TEncl) (v:AV) (O:List (List AV)) (h:H8 x y Sp Fo So (fun r O'=>r=v/\O'=O)):Sp 172 [x.av,y.av] [] v O :=
 ye (w:=⟨[],[],[185],[(174,⟨[0,1,2,3,4,5,6,7,8,9,15,45],[],[],[]⟩)],[]⟩) (k:=4) (keep:=⟨[0,1,2,3,4,5],[],[],[]⟩) (boxes:=[]) mixed (by exact ⟨Tryz.call174,trivial⟩) Tryz.func172 Tryz.call172 rfl rfl rfl (Nat.le_of_ble_eq_true rfl) (by kernel_rfl) h
theorem Ey (x y:TEncl):Sp 172 [x.av,y.av] [] (.tup [(ZE x y).1.av,.int .i64 (ZE x y).2]) []:=EC x y _ _ (by
 unfold H8 ZE we
 refine ⟨_,Vh x 3000000000,fun h=>⟨by rw [if_pos h]; rfl,by trivial⟩,fun h=>⟨_,Vh y 3000000000,fun h2=>⟨by rw [if_neg (by rw [h]; simp),if_pos h2]; rfl,by trivial⟩,fun h2=>?_⟩⟩
 obtain ⟨x1,x2,x3⟩:=Z2 h
 obtain ⟨y1,y2,y3⟩:=Z2 h2
 rw [if_neg (by rw [h]; simp),if_neg (by rw [h2]; simp)]
 have hj:Sp 187 [(qk (x.Lo*y.Lo) 100000000).av,.slc 3 [(qk (x.Lo*y.Hi) 100000000).av,(qk (x.Hi*y.Lo) 100000000).av,(qk (x.Hi*y.Hi) 100000000).av]] [] (VF (fun a b=>qk (a*b) 100000000) x y).av []:=JH (qk (x.Lo*y.Lo) 100000000) [qk (x.Lo*y.Hi) 100000000,qk (x.Hi*y.Lo) 100000000,qk (x.Hi*y.Hi) 100000000] (by simp)
 generalize VF (fun a b=>qk (a*b) 100000000) x y=H at hj ⊢
 refine ⟨_,_,Pw _ _ (by omega) (by omega),_,_,Pw _ _ (by omega) (by omega),_,_,Pw _ _ (by omega) (by omega),_,_,Pw _ _ (by omega) (by omega),_,_,hj,_,Vh H 3000000000,fun h3=>⟨?_,by trivial⟩,fun h3=>⟨?_,by trivial⟩⟩
 ·rw [if_pos h3]; rfl
 ·rw [if_neg (by rw [h3]; simp)]; rfl)
theorem P2 (x y:TEncl):∃ b0,Sp 173 [x.av,.int .i64 3000000000] [] (.bool b0) []/\(b0=true->AV.tup [TEncl.zero.av,.int .i64 7]=.tup [(we (fun a b=>qk (a*100000000) b) x y).1.av,.int .i64 (we (fun a b=>qk (a*100000000) b) x y).2]/\([]:List (List AV))=[]) /\
  (b0=false->∃ b4,Sp 173 [y.av,.int .i64 3000000000] [] (.bool b4) []/\(b4=true->AV.tup [TEncl.zero.av,.int .i64 7]=.tup [(we (fun a b=>qk (a*100000000) b) x y).1.av,.int .i64 (we (fun a b=>qk (a*100000000) b) x y).2]/\([]:List (List AV))=[]) /\
  (b4=false->∃ n8 n9,Sp 185 [.int .i64 x.Lo,.int .i64 y.Lo,.ref 0 0] [[.fn 175 [] []]] (.agg [.int .i64 n8,.int .i64 n9]) [[.fn 175 [] []]]/\∃ n11 n12,Sp 185 [.int .i64 x.Lo,.int .i64 y.Hi,.ref 0 0] [[.fn 175 [] []]] (.agg [.int .i64 n11,.int .i64 n12]) [[.fn 175 [] []]] /\
   ∃ n14 n15,Sp 185 [.int .i64 x.Hi,.int .i64 y.Lo,.ref 0 0] [[.fn 175 [] []]] (.agg [.int .i64 n14,.int .i64 n15]) [[.fn 175 [] []]]/\∃ n17 n18,Sp 185 [.int .i64 x.Hi,.int .i64 y.Hi,.ref 0 0] [[.fn 175 [] []]] (.agg [.int .i64 n17,.int .i64 n18]) [[.fn 175 [] []]] /\
   ∃ n20 n21,Sp 187 [.agg [.int .i64 n8,.int .i64 n9],.slc 3 [.agg [.int .i64 n11,.int .i64 n12],.agg [.int .i64 n14,.int .i64 n15],.agg [.int .i64 n17,.int .i64 n18]]] [] (.agg [.int .i64 n20,.int .i64 n21]) [] /\
   ∃ b23,Sp 173 [.agg [.int .i64 n20,.int .i64 n21],.int .i64 3000000000] [] (.bool b23) []/\(b23=true->AV.tup [TEncl.zero.av,.int .i64 7]=.tup [(we (fun a b=>qk (a*100000000) b) x y).1.av,.int .i64 (we (fun a b=>qk (a*100000000) b) x y).2]/\([]:List (List AV))=[]) /\
   (b23=false->AV.tup [.agg [.int .i64 n20,.int .i64 n21],.int .i64 0]=.tup [(we (fun a b=>qk (a*100000000) b) x y).1.av,.int .i64 (we (fun a b=>qk (a*100000000) b) x y).2]/\([]:List (List AV))=[]))):=by
 unfold we
 refine ⟨_,Vh x 3000000000,fun h=>⟨by rw [if_pos h]; rfl,by trivial⟩,fun h=>⟨_,Vh y 3000000000,fun h2=>⟨by rw [if_neg (by rw [h]; simp),if_pos h2]; rfl,by trivial⟩,fun h2=>?_⟩⟩
 obtain ⟨x1,x2,x3⟩:=Z2 h
 obtain ⟨y1,y2,y3⟩:=Z2 h2
 rw [if_neg (by rw [h]; simp),if_neg (by rw [h2]; simp)]
 have hj:Sp 187 [(qk (x.Lo*100000000) y.Lo).av,.slc 3 [(qk (x.Lo*100000000) y.Hi).av,(qk (x.Hi*100000000) y.Lo).av,(qk (x.Hi*100000000) y.Hi).av]] [] (VF (fun a b=>qk (a*100000000) b) x y).av []:=JH (qk (x.Lo*100000000) y.Lo) [qk (x.Lo*100000000) y.Hi,qk (x.Hi*100000000) y.Lo,qk (x.Hi*100000000) y.Hi] (by simp)
 generalize VF (fun a b=>qk (a*100000000) b) x y=H at hj ⊢
 refine ⟨_,_,Ps _ _ (by omega) (by omega),_,_,Ps _ _ (by omega) (by omega),_,_,Ps _ _ (by omega) (by omega),_,_,Ps _ _ (by omega) (by omega),_,_,hj,_,Vh H 3000000000,fun h3=>⟨?_,by trivial⟩,fun h3=>⟨?_,by trivial⟩⟩
 ·rw [if_pos h3]; rfl
 ·rw [if_neg (by rw [h3]; simp)]; rfl
abbrev Ww (x y:TEncl) (S:SpecF) (Q:yj):Prop :=
 ∃ b12,S 173 [x.av,iN 3000000000] [] (.bool b12) []/\(b12=true->Q (.tup [TEncl.zero.av,iN 7]) [])/\(b12=false->∃ b16,S 173 [y.av,iN 3000000000] [] (.bool b16) []/\(b16=true->Q (.tup [TEncl.zero.av,iN 7]) [])/\(b16=false->∃ n20 n21,S 185 [iN x.Lo,iN y.Lo,.ref 0 0] [[AV.fn (175:Nat) [] []]] (.agg [iN n20,iN n21]) [[AV.fn (175:Nat) [] []]]/\∃ n23 n24,S 185 [iN x.Lo,iN y.Hi,.ref 0 0] [[AV.fn (175:Nat) [] []]] (.agg [iN n23,iN n24]) [[AV.fn (175:Nat) [] []]]/\∃ n26 n27,S 185 [iN x.Hi,iN y.Lo,.ref 0 0] [[AV.fn (175:Nat) [] []]] (.agg [iN n26,iN n27]) [[AV.fn (175:Nat) [] []]]/\∃ n29 n30,S 185 [iN x.Hi,iN y.Hi,.ref 0 0] [[AV.fn (175:Nat) [] []]] (.agg [iN n29,iN n30]) [[AV.fn (175:Nat) [] []]]/\∃ n32 n33,S 187 [AV.agg [iN n20,iN n21],.slc 3 [AV.agg [iN n23,iN n24],.agg [iN n26,iN n27],.agg [iN n29,iN n30]]] [] (.agg [iN n32,iN n33]) []/\∃ b35,S 173 [AV.agg [iN n32,iN n33],iN 3000000000] [] (.bool b35) []/\(b35=true->Q (.tup [TEncl.zero.av,iN 7]) [])/\(b35=false->Q (.tup [AV.agg [iN n32,iN n33],iN 0]) [])))
def H6 (x y:TEncl) (S:SpecF) (_Fr:FreshF) (_Sq:SeqF) (Q:yj):Prop :=
 ∃ b0,S 173 [x.av,iN 3000000000] [] (.bool b0) []/\((!b0)=true->∃ b4,S 173 [y.av,iN 3000000000] [] (.bool b4) []/\((!b4)=true->(decide (y.Lo<=0)=true->(decide (y.Hi>=0)=true->Q (.tup [TEncl.zero.av,iN 8]) [])/\(decide (y.Hi>=0)=false->Ww x y S Q))/\(decide (y.Lo<=0)=false->Ww x y S Q))/\((!b4)=false->Ww x y S Q))/\((!b0)=false->Ww x y S Q)
theorem GD (x:TEncl) (y:TEncl) (v:AV) (O:List (List AV)) (h:H6 x y Sp Fo So (fun r O'=>r=v/\O'=O)):Sp 155 [x.av,y.av] [] v O :=
 ye (w:=⟨[],[],[185],[(174,⟨[0,1,2,3,4,5,6,7,8,9,15,45],[],[],[]⟩)],[]⟩) (k:=4) (keep:=⟨[0,1,2,3,4,5,6,25],[],[],[]⟩) (boxes:=[]) mixed (by exact ⟨Tryz.call174,trivial⟩) Tryz.func155 Tryz.call155 rfl rfl rfl (Nat.le_of_ble_eq_true rfl) (by kernel_rfl) h
theorem Gu (x y:TEncl):Sp 155 [x.av,y.av] [] (.tup [(V9 x y).1.av,.int .i64 (V9 x y).2]) []:=GD x y _ _ (by
 unfold H6 Ww
 have rest:((!vt x 3000000000 && !vt y 3000000000) && (decide (y.Lo<=0) && decide (y.Hi>=0)))=false->V9 x y=we (fun a b=>qk (a*100000000) b) x y:=fun h1=>by
  unfold V9; rw [h1]; rfl
 refine ⟨_,Vh x 3000000000,fun h=>⟨_,Vh y 3000000000,fun h2=>⟨fun h3=>⟨fun h4=>⟨?_,by trivial⟩,fun h4=>?_⟩,fun h3=>?_⟩,fun h2=>?_⟩,fun h=>?_⟩
 ·unfold V9; rw [h,h2,h3,h4]; rfl
 ·rw [rest (by rw [h,h2,h3,h4]; rfl)]
  exact P2 x y
 ·rw [rest (by rw [h,h2,h3]; rfl)]
  exact P2 x y
 ·rw [rest (by rw [h,h2]; rfl)]
  exact P2 x y
 ·rw [rest (by rw [h]; rfl)]
  exact P2 x y)
def qH (f:Nat->Bool):Nat->Nat->Nat->Nat
 | 0,i,_=>i
 | k+1,i,j=>if i<j then (if f ((i+j) / 2) then qH f k i ((i+j) / 2) else qH f k ((i+j) / 2+1) j) else i
theorem uY (f:Nat->Bool) (k i j:Nat):qH f (k+1) i j=if i<j then (if f ((i+j) / 2) then qH f k i ((i+j) / 2) else qH f k ((i+j) / 2+1) j) else i:=rfl
theorem Qz (f:Nat->Bool):∀ (k i j:Nat),i<=j->i<=qH f k i j/\qH f k i j<=j:=by
 intro k
 induction k with
 | zero=>intro i j h; exact ⟨Nat.le_refl _,h⟩
 | succ k ih =>
  intro i j h
  rw [uY]
  split
  ·split
   ·have:=ih i ((i+j) / 2) (by omega); omega
   ·have:=ih ((i+j) / 2+1) j (by omega); omega
  ·exact ⟨Nat.le_refl _,h⟩
theorem Xq (f:Nat->Bool) (k i j:Nat) (h:¬ i<j):qH f k i j=i:=by
 cases k with
 | zero=>rfl
 | succ k=>rw [uY,if_neg h]
def Uu (x:TEncl) (a:Nat):Bool:=decide ((Xm (a+90000000)).Lo<x.Hi)
def Xd (x:TEncl) (a:Nat):Bool:=decide ((Xm (a+90000000)).Hi<=x.Lo)
def F6 (a:Int) (v0:TEncl) (S:SpecF) (_Fr:FreshF) (_Sq:SeqF) (Q:yj):Prop :=
 ∃ n0 n1,S 179 [iN (IntKind.i64.wrap (a+90000000))] [] (.agg [iN n0,iN n1]) []/\Q (.bool (decide (n0<v0.Hi))) [v0.cs]
theorem GC (a:Int) (v0:TEncl) (v:AV) (O:List (List AV)) (h:F6 a v0 Sp Fo So (fun r O'=>r=v/\O'=O)):Sp 178 [iN a,.ref 0 0] [v0.cs] v O :=
 ye (w:=⟨[],[],[],[],[]⟩) (k:=0) (keep:=⟨[0,1,3],[],[],[]⟩) (boxes:=[⟨23,false,v0.cs⟩]) mixed (by exact trivial) Tryz.func178 Tryz.call178 rfl rfl rfl (Nat.le_of_ble_eq_true rfl) (by kernel_rfl) h
theorem Gj (a:Nat) (ha:a<=1000000000) (x:TEncl):Sp 178 [.int .i64 a,.ref 0 0] [x.cs] (.bool (Uu x a)) [x.cs]:=GC a x _ _ ⟨_,_,by rw [i64 (by omega)]; exact KM _,rfl,rfl⟩
def F2 (a:Int) (v0:TEncl) (S:SpecF) (_Fr:FreshF) (_Sq:SeqF) (Q:yj):Prop :=
 ∃ n0 n1,S 179 [iN (IntKind.i64.wrap (a+90000000))] [] (.agg [iN n0,iN n1]) []/\Q (.bool (decide (n1<=v0.Lo))) [v0.cs]
theorem Gz (a:Int) (v0:TEncl) (v:AV) (O:List (List AV)) (h:F2 a v0 Sp Fo So (fun r O'=>r=v/\O'=O)):Sp 180 [iN a,.ref 0 0] [v0.cs] v O :=
 ye (w:=⟨[],[],[],[],[]⟩) (k:=0) (keep:=⟨[0,1,3],[],[],[]⟩) (boxes:=[⟨23,false,v0.cs⟩]) mixed (by exact trivial) Tryz.func180 Tryz.call180 rfl rfl rfl (Nat.le_of_ble_eq_true rfl) (by kernel_rfl) h
theorem Ee (a:Nat) (ha:a<=1000000000) (x:TEncl):Sp 180 [.int .i64 a,.ref 0 0] [x.cs] (.bool (Xd x a)) [x.cs]:=Gz a x _ _ ⟨_,_,by rw [i64 (by omega)]; exact KM _,rfl,rfl⟩
theorem mid {i j:Nat} (h:i+j<9223372036854775808):IntKind.i64.wrap ((IntKind.u64.wrap (IntKind.i64.wrap ((i:Int)+(j:Int)))).fdiv 2)=(((i+j) / 2:Nat):Int):=by
 rw [<- Int.natCast_add,J2 h,q9 (by omega),show (2:Int)=((2:Nat):Int) by rfl,fdN,J2 (by omega)]
def Jl (n:Int) (f0:TEncl) (S:SpecF) (_Fr:FreshF) (_Sq:SeqF) (Q:yj):Prop :=
 ∃ (I0:Nat->List AV->Prop),(∃ m2,I0 m2 [iN 0,iN n,f0.av])/\∀ (m2:Nat) (n3 n4 n5 n6:Int),I0 m2 [iN n3,iN n4,.agg [iN n5,iN n6]]->(decide (n3<n4)=true->∃ b10,S 178 [iN (IntKind.i64.wrap ((IntKind.u64.wrap (IntKind.i64.wrap (n3+n4))).fdiv (2:Int))),.ref 0 0] [[iN n5,iN n6]] (.bool b10) [[iN n5,iN n6]]/\((!b10)=true->∃ k14,k14<m2/\I0 k14 [iN (IntKind.i64.wrap (IntKind.i64.wrap ((IntKind.u64.wrap (IntKind.i64.wrap (n3+n4))).fdiv (2:Int))+1)),iN n4,.agg [iN n5,iN n6]])/\((!b10)=false->∃ k14,k14<m2/\I0 k14 [iN n3,iN (IntKind.i64.wrap ((IntKind.u64.wrap (IntKind.i64.wrap (n3+n4))).fdiv (2:Int))),.agg [iN n5,iN n6]]))/\(decide (n3<n4)=false->Q (iN n3) [[iN n5,iN n6]])
theorem IX (n:Int) (f0:TEncl) (v:AV) (O:List (List AV)) (h:Jl n f0 Sp Fo So (fun r O'=>r=v/\O'=O)):Sp 177 [iN n,.fn 178 [] [.ref 0 0]] [f0.cs] v O :=
 ye (w:=⟨[],[],[178],[],[]⟩) (k:=0) (keep:=⟨[0,1,4,5,6,7,11,21],[⟨2,[(5,iN 0),(6,iN 0)],[],[(1000000,.agg [iN 0,iN 0])],[],[],[]⟩],[],[]⟩) (boxes:=[⟨23,false,f0.cs⟩]) mixed (by exact trivial) Tryz.func177 Tryz.call177 rfl rfl rfl (Nat.le_of_ble_eq_true rfl) (by kernel_rfl) h
theorem HH (n:Nat) (hn:n<=1000000000) (x:TEncl):Sp 177 [.int .i64 n,.fn 178 [] [.ref 0 0]] [x.cs] (.int .i64 (qH (Uu x) n 0 n:Nat)) [x.cs]:=IX n x _ _ (by
 unfold Jl
 refine ⟨fun m vs=>∃ i j:Nat,i<=j/\j<=n/\j-i<=m/\vs=[.int .i64 i,.int .i64 j,x.av]/\qH (Uu x) m i j=qH (Uu x) n 0 n,⟨n,0,n,by omega,by omega,by omega,rfl,rfl⟩,?_⟩
 rintro m n3 n4 n5 n6 ⟨i,j,h1,h2,h3,hv,hs⟩
 have hv':=hv
 unfold TEncl.av TEncl.cs at hv'
 simp only [List.cons.injEq,AV.int.injEq,true_and,AV.agg.injEq,and_true] at hv'
 obtain ⟨rfl,rfl,rfl,rfl⟩:=hv'
 refine ⟨fun g=>?_,fun g=>?_⟩
 ·have hij:i<j:=by simpa using g
  obtain ⟨k,rfl⟩:∃ k,m=k+1:=⟨m-1,by omega⟩
  rw [uY,if_pos hij] at hs
  rw [mid (by omega)]
  refine ⟨_,Gj ((i+j) / 2) (by omega) x,fun g2=>⟨k,by omega,(i+j) / 2+1,j,by omega,by omega,by omega,?_,?_⟩,fun g2=>⟨k,by omega,i,(i+j) / 2,by omega,by omega,by omega,rfl,?_⟩⟩
  ·rw [yq (by omega)]; rfl
  ·have g2:Uu x ((i+j) / 2)=false:=by simpa using g2
   rw [if_neg (by rw [g2]; simp)] at hs; exact hs
  ·have g2:Uu x ((i+j) / 2)=true:=by simpa using g2
   rw [if_pos g2] at hs; exact hs
 ·have hij:¬ i<j:=by simpa using g
  rw [Xq _ _ _ _ hij] at hs
  rw [<- hs]
  exact ⟨rfl,rfl⟩)
def Jo (n:Int) (f0:TEncl) (S:SpecF) (_Fr:FreshF) (_Sq:SeqF) (Q:yj):Prop :=
 ∃ (I0:Nat->List AV->Prop),(∃ m2,I0 m2 [iN 0,iN n,f0.av])/\∀ (m2:Nat) (n3 n4 n5 n6:Int),I0 m2 [iN n3,iN n4,.agg [iN n5,iN n6]]->(decide (n3<n4)=true->∃ b10,S 180 [iN (IntKind.i64.wrap ((IntKind.u64.wrap (IntKind.i64.wrap (n3+n4))).fdiv (2:Int))),.ref 0 0] [[iN n5,iN n6]] (.bool b10) [[iN n5,iN n6]]/\((!b10)=true->∃ k14,k14<m2/\I0 k14 [iN (IntKind.i64.wrap (IntKind.i64.wrap ((IntKind.u64.wrap (IntKind.i64.wrap (n3+n4))).fdiv (2:Int))+1)),iN n4,.agg [iN n5,iN n6]])/\((!b10)=false->∃ k14,k14<m2/\I0 k14 [iN n3,iN (IntKind.i64.wrap ((IntKind.u64.wrap (IntKind.i64.wrap (n3+n4))).fdiv (2:Int))),.agg [iN n5,iN n6]]))/\(decide (n3<n4)=false->Q (iN n3) [[iN n5,iN n6]])
theorem Iy (n:Int) (f0:TEncl) (v:AV) (O:List (List AV)) (h:Jo n f0 Sp Fo So (fun r O'=>r=v/\O'=O)):Sp 177 [iN n,.fn 180 [] [.ref 0 0]] [f0.cs] v O :=
 ye (w:=⟨[],[],[180],[],[]⟩) (k:=0) (keep:=⟨[0,1,4,5,6,7,11,21],[⟨2,[(5,iN 0),(6,iN 0)],[],[(1000000,.agg [iN 0,iN 0])],[],[],[]⟩],[],[]⟩) (boxes:=[⟨23,false,f0.cs⟩]) mixed (by exact trivial) Tryz.func177 Tryz.call177 rfl rfl rfl (Nat.le_of_ble_eq_true rfl) (by kernel_rfl) h
theorem HR (n:Nat) (hn:n<=1000000000) (x:TEncl):Sp 177 [.int .i64 n,.fn 180 [] [.ref 0 0]] [x.cs] (.int .i64 (qH (Xd x) n 0 n:Nat)) [x.cs]:=Iy n x _ _ (by
 unfold Jo
 refine ⟨fun m vs=>∃ i j:Nat,i<=j/\j<=n/\j-i<=m/\vs=[.int .i64 i,.int .i64 j,x.av]/\qH (Xd x) m i j=qH (Xd x) n 0 n,⟨n,0,n,by omega,by omega,by omega,rfl,rfl⟩,?_⟩
 rintro m n3 n4 n5 n6 ⟨i,j,h1,h2,h3,hv,hs⟩
 have hv':=hv
 unfold TEncl.av TEncl.cs at hv'
 simp only [List.cons.injEq,AV.int.injEq,true_and,AV.agg.injEq,and_true] at hv'
 obtain ⟨rfl,rfl,rfl,rfl⟩:=hv'
 refine ⟨fun g=>?_,fun g=>?_⟩
 ·have hij:i<j:=by simpa using g
  obtain ⟨k,rfl⟩:∃ k,m=k+1:=⟨m-1,by omega⟩
  rw [uY,if_pos hij] at hs
  rw [mid (by omega)]
  refine ⟨_,Ee ((i+j) / 2) (by omega) x,fun g2=>⟨k,by omega,(i+j) / 2+1,j,by omega,by omega,by omega,?_,?_⟩,fun g2=>⟨k,by omega,i,(i+j) / 2,by omega,by omega,by omega,rfl,?_⟩⟩
  ·rw [yq (by omega)]; rfl
  ·have g2:Xd x ((i+j) / 2)=false:=by simpa using g2
   rw [if_neg (by rw [g2]; simp)] at hs; exact hs
  ·have g2:Xd x ((i+j) / 2)=true:=by simpa using g2
   rw [if_pos g2] at hs; exact hs
 ·have hij:¬ i<j:=by simpa using g
  rw [Xq _ _ _ _ hij] at hs
  rw [<- hs]
  exact ⟨rfl,rfl⟩)
def P4 (x:TEncl):TEncl:=⟨(qH (Uu x) 180000001 0 180000001:Nat)-1,(qH (Xd x) 180000000 0 180000000:Nat)⟩
def qW (x:TEncl):TEncl × Int:=if vt x 100000000 then (⟨0,0⟩,7) else (P4 x,0)
def IF (x:TEncl) (S:SpecF) (_Fr:FreshF) (_Sq:SeqF) (Q:yj):Prop :=
 ∃ b0,S 173 [x.av,iN 100000000] [] (.bool b0) []/\(b0=true->Q (.tup [TEncl.zero.av,iN 7]) [])/\(b0=false->∃ n4,S 177 [iN 180000001,AV.fn (178:Nat) [] [AV.ref 0 0]] [x.cs] (iN n4) [x.cs]/\∃ n6,S 177 [iN 180000000,AV.fn (180:Nat) [] [AV.ref 0 0]] [x.cs] (iN n6) [x.cs]/\Q (.tup [AV.agg [iN (IntKind.i64.wrap (n4-1)),iN n6],iN 0]) [])
theorem Fl (x:TEncl) (v:AV) (O:List (List AV)) (h:IF x Sp Fo So (fun r O'=>r=v/\O'=O)):Sp 157 [x.av] [] v O :=
 ye (w:=⟨[],[],[177],[],[]⟩) (k:=0) (keep:=⟨[0,1,2,3,4,5,7],[],[],[]⟩) (boxes:=[]) mixed (by exact trivial) Tryz.func157 Tryz.call157 rfl rfl rfl (Nat.le_of_ble_eq_true rfl) (by kernel_rfl) h
theorem HI (x:TEncl):Sp 157 [x.av] [] (.tup [(qW x).1.av,.int .i64 (qW x).2]) []:=Fl x _ _ (by
 unfold IF
 have k1:=HH 180000001 (by omega) x
 have k2:=HR 180000000 (by omega) x
 have b1:=Qz (Uu x) 180000001 0 180000001 (by omega)
 unfold qW P4
 generalize qH (Uu x) 180000001 0 180000001=p at *
 generalize qH (Xd x) 180000000 0 180000000=q at *
 refine ⟨_,Vh x 100000000,fun h=>⟨by rw [if_pos h]; rfl,by trivial⟩,fun h=>⟨_,k1,_,k2,?_,by trivial⟩⟩
 rw [if_neg (by rw [h]; simp),i64 (by omega)]; rfl)
def XI (x:TEncl):TEncl × Int:=if (qW x).2≠0 then (⟨0,0⟩,(qW x).2) else (⟨IntKind.i64.wrap (90000000-(qW x).1.Hi),IntKind.i64.wrap (90000000-(qW x).1.Lo)⟩,0)
def HL (x:TEncl) (S:SpecF) (_Fr:FreshF) (_Sq:SeqF) (Q:yj):Prop :=
 ∃ n0 n1 n2,S 157 [x.av] [] (.tup [AV.agg [iN n0,iN n1],iN n2]) []/\((n2 != 0)=true->Q (.tup [TEncl.zero.av,iN n2]) [])/\((n2 != 0)=false->Q (.tup [AV.agg [iN (IntKind.i64.wrap ((90000000:Int)-n1)),iN (IntKind.i64.wrap ((90000000:Int)-n0))],iN 0]) [])
theorem Ea (x:TEncl) (v:AV) (O:List (List AV)) (h:HL x Sp Fo So (fun r O'=>r=v/\O'=O)):Sp 170 [x.av] [] v O :=
 ye (w:=⟨[],[],[],[],[]⟩) (k:=0) (keep:=⟨[0,1,2,3,4,5,12],[],[],[]⟩) (boxes:=[]) mixed (by exact trivial) Tryz.func170 Tryz.call170 rfl rfl rfl (Nat.le_of_ble_eq_true rfl) (by kernel_rfl) h
theorem GM (x:TEncl):Sp 170 [x.av] [] (.tup [(XI x).1.av,.int .i64 (XI x).2]) []:=Ea x _ _ (by
 unfold HL XI
 refine ⟨_,_,_,HI x,fun h=>⟨?_,by trivial⟩,fun h=>⟨?_,by trivial⟩⟩
 ·have h:(qW x).2≠0:=by simpa using h
  rw [if_pos h]; rfl
 ·have h:(qW x).2=0:=by simpa using h
  rw [if_neg (by simp [h])]; rfl)
end Go.Proofs.YtdeeekgohhkdbaaGreatDoor
