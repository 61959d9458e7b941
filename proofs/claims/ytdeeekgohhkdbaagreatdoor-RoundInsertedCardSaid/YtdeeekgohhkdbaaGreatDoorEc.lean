/- Contracts: products and quotients of enclosures, the inverse of the cosine. Contracts: the inverse of the cosine. -/
import Derived.Test.YtdeeekgohhkdbaaGreatDoorEa
namespace Go.Proofs.YtdeeekgohhkdbaaGreatDoor
open Go.RowKit
theorem EB (n:Int):IntKind.i64.wrap n=if n % 18446744073709551616>=9223372036854775808 then n % 18446744073709551616-18446744073709551616 else n % 18446744073709551616:=by
 show (if _=true then _ else _)=_
 have e1:(2:Int) ^ IntKind.i64.bits=18446744073709551616:=rfl
 have e2:(2:Int) ^ (IntKind.i64.bits-1)=9223372036854775808:=rfl
 simp only [e1,e2,IntKind.signed,Bool.true_and,decide_eq_true_eq]
theorem comp (n:Int) (h:-9223372036854775808<=n/\n<9223372036854775808):IntKind.i64.wrap ((BitVec.ofInt 64 (-1) ^^^ BitVec.ofInt 64 n).toNat:Int) = -n-1:=by
 rw [show BitVec.ofInt 64 (-1)=BitVec.allOnes 64 by rfl,BitVec.allOnes_xor,BitVec.toNat_not,BitVec.toNat_ofInt]
 have e:(2:Nat) ^ 64=18446744073709551616:=rfl
 rw [e,EB]
 omega
def H2 (n d:Int) (_S:SpecF) (_Fr:FreshF) (_Sq:SeqF) (Q:yj):Prop :=
 (decide (n<0)=true->d≠0/\Q (iN (IntKind.i64.wrap (↑(BitVec.ofInt (64:Nat) (-1:Int) ^^^ BitVec.ofInt (64:Nat) (IntKind.i64.wrap ((IntKind.i64.wrap (↑(BitVec.ofInt (64:Nat) (-1:Int) ^^^ BitVec.ofInt (64:Nat) n).toNat:Int)).tdiv d))).toNat:Int))) [])/\(decide (n<0)=false->d≠0/\Q (iN (IntKind.i64.wrap (n.tdiv d))) [])
theorem DC (n:Int) (d:Int) (v:AV) (O:List (List AV)) (h:H2 n d Sp Fo So (fun r O'=>r=v/\O'=O)):Sp 186 [iN n,iN d] [] v O :=
 ye (w:=⟨[],[],[],[],[]⟩) (k:=0) (keep:=⟨[0,1,4,6],[],[],[]⟩) (boxes:=[]) mixed (by exact trivial) Tryz.func186 Tryz.call186 rfl rfl rfl (Nat.le_of_ble_eq_true rfl) (by kernel_rfl) h
theorem Ns (n d:Int) (h:-9223372036854775808<n/\n<9223372036854775808) (hd:0<d):Sp 186 [.int .i64 n,.int .i64 d] [] (.int .i64 (n / d)) []:=DC n d _ _ (by
 unfold H2
 refine ⟨fun g=>⟨by omega,?_,rfl⟩,fun g=>⟨by omega,?_,rfl⟩⟩
 ·have g:n<0:=zt_ g
  rw [comp n (by omega)]
  have h1:0<=(-n-1).tdiv d:=Int.tdiv_nonneg (by omega) (by omega)
  have h2:(-n-1).tdiv d <= -n-1:=by
   rw [Int.tdiv_eq_ediv_of_nonneg (by omega)]
   exact Int.ediv_le_self _ (by omega)
  rw [i64 (n:=(-n-1).tdiv d) (by omega),comp _ (by omega),Int.tdiv_eq_ediv_of_nonneg (by omega)]
  have h3:=Int.mul_ediv_add_emod (-n-1) d
  have h4:=Int.emod_nonneg (-n-1) (by omega:d≠0)
  have h5:=Int.emod_lt_of_pos (-n-1) hd
  have h6:n / d = -((-n-1) / d)-1:=by
   rw [Int.ediv_eq_iff_of_pos hd,Int.sub_mul,Int.neg_mul,Int.one_mul,Int.mul_comm ((-n-1) / d)]
   omega
  rw [h6]
 ·have g:0<=n:=by have:=zf_ g; omega
  rw [Int.tdiv_eq_ediv_of_nonneg g]
  have h1:0<=n / d:=Int.ediv_nonneg g (by omega)
  have h2:n / d<=n:=Int.ediv_le_self _ g
  rw [i64 (by omega)])
def Kj (x:TEncl):Prop:=-3000000000<=x.Lo/\x.Lo<=x.Hi/\x.Hi<=3000000000
theorem Xx {x:TEncl} (h:vH x 3000000000=false):Kj x:=by
 unfold vH at h
 rw [show IntKind.i64.wrap (0-3000000000) = -3000000000 by rfl] at h
 simp only [Bool.or_eq_false_iff,decide_eq_false_iff_not] at h
 unfold Kj; omega
theorem Kg {a b:Int} (ha:-3000000000<=a/\a<=3000000000) (hb:-3000000000<=b/\b<=3000000000):-9000000000000000000<=a*b/\a*b<=9000000000000000000:=by
 have h1:a.natAbs*b.natAbs<=3000000000*3000000000:=Nat.mul_le_mul (by omega) (by omega)
 rw [<- Int.natAbs_mul] at h1
 omega
theorem TF {n d:Int} (hd:0<d) (h:-9000000000000000000<=n/\n<=9000000000000000000):-9000000000000000000<=n / d/\n / d<=9000000000000000000:=by
 constructor
 ·rw [Int.le_ediv_iff_mul_le hd]
  have:(9000000000000000000:Int)*1<=9000000000000000000*d:=Int.mul_le_mul_of_nonneg_left (by omega) (by omega)
  omega
 ·have h1:n / d<=9000000000000000000 / d:=Int.ediv_le_ediv hd h.2
  have h2:(9000000000000000000:Int) / d<=9000000000000000000:=Int.ediv_le_self _ (by omega)
  omega
def qi (n d:Int):TEncl:=if d=0 then ⟨0,0⟩ else if d<0 then ⟨(-n) / (-d),-(n / (-d))⟩ else ⟨n / d,-((-n) / d)⟩
def FI (a b:Int) (_S:SpecF) (_Fr:FreshF) (_Sq:SeqF) (Q:yj):Prop :=
 Q (.tup [iN (IntKind.i64.wrap (a*b)),iN 100000000]) []
theorem DB (a:Int) (b:Int) (v:AV) (O:List (List AV)) (h:FI a b Sp Fo So (fun r O'=>r=v/\O'=O)):Sp 184 [iN a,iN b] [] v O :=
 ye (w:=⟨[],[],[],[],[]⟩) (k:=0) (keep:=⟨[0,1,4,5],[],[],[]⟩) (boxes:=[]) mixed (by exact trivial) Tryz.func184 Tryz.call184 rfl rfl rfl (Nat.le_of_ble_eq_true rfl) (by kernel_rfl) h
theorem Em (a b:Int) (ha:-3000000000<=a/\a<=3000000000) (hb:-3000000000<=b/\b<=3000000000):Sp 184 [.int .i64 a,.int .i64 b] [] (.tup [.int .i64 (a*b),.int .i64 100000000]) []:=DB a b _ _ ⟨by have:=Kg ha hb; rw [i64 (by omega)],rfl⟩
def FE (a b:Int) (_S:SpecF) (_Fr:FreshF) (_Sq:SeqF) (Q:yj):Prop :=
 Q (.tup [iN (IntKind.i64.wrap (a*100000000)),iN b]) []
theorem Du (a:Int) (b:Int) (v:AV) (O:List (List AV)) (h:FE a b Sp Fo So (fun r O'=>r=v/\O'=O)):Sp 175 [iN a,iN b] [] v O :=
 ye (w:=⟨[],[],[],[],[]⟩) (k:=0) (keep:=⟨[0,1,4,5],[],[],[]⟩) (boxes:=[]) mixed (by exact trivial) Tryz.func175 Tryz.call175 rfl rfl rfl (Nat.le_of_ble_eq_true rfl) (by kernel_rfl) h
theorem Ei (a b:Int) (ha:-3000000000<=a/\a<=3000000000):Sp 175 [.int .i64 a,.int .i64 b] [] (.tup [.int .i64 (a*100000000),.int .i64 b]) []:=Du a b _ _ ⟨by rw [i64 (by omega)],rfl⟩
def Ik (a b:Int) (S:SpecF) (_Fr:FreshF) (_Sq:SeqF) (Q:yj):Prop :=
 ∃ n0 n1,S 184 [iN a,iN b] [] (.tup [iN n0,iN n1]) []/\((n1 == 0)=true->Q (TEncl.zero.av) [[AV.fn (184:FuncId) [] []]])/\((n1 == 0)=false->(decide (n1<0)=true->∃ n7,S 186 [iN (IntKind.i64.wrap ((0:Int)-n0)),iN (IntKind.i64.wrap ((0:Int)-n1))] [] (iN n7) []/\∃ n9,S 186 [iN (IntKind.i64.wrap ((0:Int)-IntKind.i64.wrap ((0:Int)-n0))),iN (IntKind.i64.wrap ((0:Int)-n1))] [] (iN n9) []/\Q (.agg [iN n7,iN (IntKind.i64.wrap ((0:Int)-n9))]) [[AV.fn (184:FuncId) [] []]])/\(decide (n1<0)=false->∃ n7,S 186 [iN n0,iN n1] [] (iN n7) []/\∃ n9,S 186 [iN (IntKind.i64.wrap ((0:Int)-n0)),iN n1] [] (iN n9) []/\Q (.agg [iN n7,iN (IntKind.i64.wrap ((0:Int)-n9))]) [[AV.fn (184:FuncId) [] []]]))
theorem G0 (a:Int) (b:Int) (v:AV) (O:List (List AV)) (h:Ik a b Sp Fo So (fun r O'=>r=v/\O'=O)):Sp 185 [iN a,iN b,.ref 0 0] [[.fn 184 [] []]] v O :=
 ye (w:=⟨[],[],[],[],[]⟩) (k:=0) (keep:=⟨[0,1,2,5,6,7,16,19],[],[],[]⟩) (boxes:=[⟨236,false,[.fn 184 [] []]⟩]) mixed (by exact trivial) Tryz.func185 Tryz.call185 rfl rfl rfl (Nat.le_of_ble_eq_true rfl) (by kernel_rfl) h
theorem OE (a b:Int) (ha:-3000000000<=a/\a<=3000000000) (hb:-3000000000<=b/\b<=3000000000):Sp 185 [.int .i64 a,.int .i64 b,.ref 0 0] [[.fn 184 [] []]] (qi (a*b) 100000000).av [[.fn 184 [] []]]:=G0 a b _ _ (by
 unfold Ik
 have hm:=Kg ha hb
 have h1:=TF (d:=100000000) (n:=-(a*b)) (by omega) (by omega)
 refine ⟨_,_,Em a b ha hb,fun h=>(by simp at h),fun _=>⟨fun h=>(by simp at h),fun _=>⟨_,Ns _ _ (by omega) (by omega),_,by rw [i64 (n:=0-a*b) (by omega)]; exact Ns _ _ (by omega) (by omega),?_,rfl⟩⟩⟩
 rw [Int.zero_sub,i64 (by omega)]
 unfold qi
 rw [if_neg (by omega),if_neg (by omega),Int.zero_sub]; rfl)
def Il (a b:Int) (S:SpecF) (_Fr:FreshF) (_Sq:SeqF) (Q:yj):Prop :=
 ∃ n0 n1,S 175 [iN a,iN b] [] (.tup [iN n0,iN n1]) []/\((n1 == 0)=true->Q (TEncl.zero.av) [[AV.fn (175:FuncId) [] []]])/\((n1 == 0)=false->(decide (n1<0)=true->∃ n7,S 186 [iN (IntKind.i64.wrap ((0:Int)-n0)),iN (IntKind.i64.wrap ((0:Int)-n1))] [] (iN n7) []/\∃ n9,S 186 [iN (IntKind.i64.wrap ((0:Int)-IntKind.i64.wrap ((0:Int)-n0))),iN (IntKind.i64.wrap ((0:Int)-n1))] [] (iN n9) []/\Q (.agg [iN n7,iN (IntKind.i64.wrap ((0:Int)-n9))]) [[AV.fn (175:FuncId) [] []]])/\(decide (n1<0)=false->∃ n7,S 186 [iN n0,iN n1] [] (iN n7) []/\∃ n9,S 186 [iN (IntKind.i64.wrap ((0:Int)-n0)),iN n1] [] (iN n9) []/\Q (.agg [iN n7,iN (IntKind.i64.wrap ((0:Int)-n9))]) [[AV.fn (175:FuncId) [] []]]))
theorem G1 (a:Int) (b:Int) (v:AV) (O:List (List AV)) (h:Il a b Sp Fo So (fun r O'=>r=v/\O'=O)):Sp 185 [iN a,iN b,.ref 0 0] [[.fn 175 [] []]] v O :=
 ye (w:=⟨[],[],[],[],[]⟩) (k:=0) (keep:=⟨[0,1,2,5,6,7,16,19],[],[],[]⟩) (boxes:=[⟨236,false,[.fn 175 [] []]⟩]) mixed (by exact trivial) Tryz.func185 Tryz.call185 rfl rfl rfl (Nat.le_of_ble_eq_true rfl) (by kernel_rfl) h
theorem OG (a b:Int) (ha:-3000000000<=a/\a<=3000000000) (hb:-3000000000<=b/\b<=3000000000):Sp 185 [.int .i64 a,.int .i64 b,.ref 0 0] [[.fn 175 [] []]] (qi (a*100000000) b).av [[.fn 175 [] []]]:=G1 a b _ _ (by
 unfold Il
 refine ⟨_,_,Ei a b ha,fun h=>⟨?_,rfl⟩,fun h=>?_⟩
 ·have h:b=0:=by simpa using h
  subst h; rfl
 have hb0:b≠0:=by simpa using h
 refine ⟨fun g=>?_,fun g=>?_⟩
 ·have g:b<0:=zt_ g
  have h1:=TF (d:=-b) (n:=a*100000000) (by omega) (by omega)
  refine ⟨_,by rw [i64 (n:=0-a*100000000) (by omega),i64 (n:=0-b) (by omega)]; exact Ns _ _ (by omega) (by omega),_,by rw [i64 (n:=0-a*100000000) (by omega),i64 (n:=0-(0-a*100000000)) (by omega),i64 (n:=0-b) (by omega)]; exact Ns _ _ (by omega) (by omega),?_,rfl⟩
  rw [show (0:Int)-(0-a*100000000)=a*100000000 by omega,Int.zero_sub,Int.zero_sub,Int.zero_sub,i64 (by omega)]
  unfold qi
  rw [if_neg hb0,if_pos g]; rfl
 ·have g:0<b:=by have:=zf_ g; omega
  have h1:=TF (d:=b) (n:=-(a*100000000)) (by omega) (by omega)
  refine ⟨_,Ns _ _ (by omega) (by omega),_,by rw [i64 (n:=0-a*100000000) (by omega)]; exact Ns _ _ (by omega) (by omega),?_,rfl⟩
  rw [Int.zero_sub,Int.zero_sub,i64 (by omega)]
  unfold qi
  rw [if_neg hb0,if_neg (by omega)]; rfl)
def UK (f:Int->Int->TEncl) (x y:TEncl):TEncl:=[f x.Lo y.Hi,f x.Hi y.Lo,f x.Hi y.Hi].foldl UL (f x.Lo y.Lo)
def kV (f:Int->Int->TEncl) (x y:TEncl):TEncl × Int :=
 if vH x 3000000000 then (⟨0,0⟩,7) else if vH y 3000000000 then (⟨0,0⟩,7) else if vH (UK f x y) 3000000000 then (⟨0,0⟩,7) else (UK f x y,0)
def YQ (x y:TEncl):TEncl × Int:=kV (fun a b=>qi (a*b) 100000000) x y
def U7 (x y:TEncl):TEncl × Int:=if (!vH x 3000000000 && !vH y 3000000000) && (decide (y.Lo<=0) && decide (y.Hi>=0)) then (⟨0,0⟩,8) else kV (fun a b=>qi (a*100000000) b) x y
def HW (x y:TEncl) (S:SpecF) (_Fr:FreshF) (_Sq:SeqF) (Q:yj):Prop :=
 ∃ b0,S 173 [x.av,iN 3000000000] [] (.bool b0) []/\(b0=true->Q (.tup [TEncl.zero.av,iN 7]) [])/\(b0=false->∃ b4,S 173 [y.av,iN 3000000000] [] (.bool b4) []/\(b4=true->Q (.tup [TEncl.zero.av,iN 7]) [])/\(b4=false->∃ n8 n9,S 185 [iN x.Lo,iN y.Lo,.ref 0 0] [[AV.fn (184:Nat) [] []]] (.agg [iN n8,iN n9]) [[AV.fn (184:Nat) [] []]]/\∃ n11 n12,S 185 [iN x.Lo,iN y.Hi,.ref 0 0] [[AV.fn (184:Nat) [] []]] (.agg [iN n11,iN n12]) [[AV.fn (184:Nat) [] []]]/\∃ n14 n15,S 185 [iN x.Hi,iN y.Lo,.ref 0 0] [[AV.fn (184:Nat) [] []]] (.agg [iN n14,iN n15]) [[AV.fn (184:Nat) [] []]]/\∃ n17 n18,S 185 [iN x.Hi,iN y.Hi,.ref 0 0] [[AV.fn (184:Nat) [] []]] (.agg [iN n17,iN n18]) [[AV.fn (184:Nat) [] []]]/\∃ n20 n21,S 187 [AV.agg [iN n8,iN n9],.slc 3 [AV.agg [iN n11,iN n12],.agg [iN n14,iN n15],.agg [iN n17,iN n18]]] [] (.agg [iN n20,iN n21]) []/\∃ b23,S 173 [AV.agg [iN n20,iN n21],iN 3000000000] [] (.bool b23) []/\(b23=true->Q (.tup [TEncl.zero.av,iN 7]) [])/\(b23=false->Q (.tup [AV.agg [iN n20,iN n21],iN 0]) [])))
theorem Dr (x:TEncl) (y:TEncl) (v:AV) (O:List (List AV)) (h:HW x y Sp Fo So (fun r O'=>r=v/\O'=O)):Sp 172 [x.av,y.av] [] v O :=
 ye (w:=⟨[],[],[185],[(174,⟨[0,1,2,3,4,5,6,7,8,9,15,45],[],[],[]⟩)],[]⟩) (k:=4) (keep:=⟨[0,1,2,3,4,5],[],[],[]⟩) (boxes:=[]) mixed (by exact ⟨Tryz.call174,trivial⟩) Tryz.func172 Tryz.call172 rfl rfl rfl (Nat.le_of_ble_eq_true rfl) (by kernel_rfl) h
theorem Eh (x y:TEncl):Sp 172 [x.av,y.av] [] (.tup [(YQ x y).1.av,.int .i64 (YQ x y).2]) []:=Dr x y _ _ (by
 unfold HW YQ kV
 refine ⟨_,V5 x 3000000000,fun h=>⟨by rw [if_pos h]; rfl,by trivial⟩,fun h=>⟨_,V5 y 3000000000,fun h2=>⟨by rw [if_neg (by rw [h]; simp),if_pos h2]; rfl,by trivial⟩,fun h2=>?_⟩⟩
 obtain ⟨x1,x2,x3⟩:=Xx h
 obtain ⟨y1,y2,y3⟩:=Xx h2
 rw [if_neg (by rw [h]; simp),if_neg (by rw [h2]; simp)]
 have hj:Sp 187 [(qi (x.Lo*y.Lo) 100000000).av,.slc 3 [(qi (x.Lo*y.Hi) 100000000).av,(qi (x.Hi*y.Lo) 100000000).av,(qi (x.Hi*y.Hi) 100000000).av]] [] (UK (fun a b=>qi (a*b) 100000000) x y).av []:=IK (qi (x.Lo*y.Lo) 100000000) [qi (x.Lo*y.Hi) 100000000,qi (x.Hi*y.Lo) 100000000,qi (x.Hi*y.Hi) 100000000] (by simp)
 generalize UK (fun a b=>qi (a*b) 100000000) x y=H at hj ⊢
 refine ⟨_,_,OE _ _ (by omega) (by omega),_,_,OE _ _ (by omega) (by omega),_,_,OE _ _ (by omega) (by omega),_,_,OE _ _ (by omega) (by omega),_,_,hj,_,V5 H 3000000000,fun h3=>⟨?_,by trivial⟩,fun h3=>⟨?_,by trivial⟩⟩
 ·rw [if_pos h3]; rfl
 ·rw [if_neg (by rw [h3]; simp)]; rfl)
theorem Na (x y:TEncl):∃ b0,Sp 173 [x.av,.int .i64 3000000000] [] (.bool b0) []/\(b0=true->AV.tup [TEncl.zero.av,.int .i64 7]=.tup [(kV (fun a b=>qi (a*100000000) b) x y).1.av,.int .i64 (kV (fun a b=>qi (a*100000000) b) x y).2]/\([]:List (List AV))=[]) /\
  (b0=false->∃ b4,Sp 173 [y.av,.int .i64 3000000000] [] (.bool b4) []/\(b4=true->AV.tup [TEncl.zero.av,.int .i64 7]=.tup [(kV (fun a b=>qi (a*100000000) b) x y).1.av,.int .i64 (kV (fun a b=>qi (a*100000000) b) x y).2]/\([]:List (List AV))=[]) /\
  (b4=false->∃ n8 n9,Sp 185 [.int .i64 x.Lo,.int .i64 y.Lo,.ref 0 0] [[.fn 175 [] []]] (.agg [.int .i64 n8,.int .i64 n9]) [[.fn 175 [] []]]/\∃ n11 n12,Sp 185 [.int .i64 x.Lo,.int .i64 y.Hi,.ref 0 0] [[.fn 175 [] []]] (.agg [.int .i64 n11,.int .i64 n12]) [[.fn 175 [] []]] /\
   ∃ n14 n15,Sp 185 [.int .i64 x.Hi,.int .i64 y.Lo,.ref 0 0] [[.fn 175 [] []]] (.agg [.int .i64 n14,.int .i64 n15]) [[.fn 175 [] []]]/\∃ n17 n18,Sp 185 [.int .i64 x.Hi,.int .i64 y.Hi,.ref 0 0] [[.fn 175 [] []]] (.agg [.int .i64 n17,.int .i64 n18]) [[.fn 175 [] []]] /\
   ∃ n20 n21,Sp 187 [.agg [.int .i64 n8,.int .i64 n9],.slc 3 [.agg [.int .i64 n11,.int .i64 n12],.agg [.int .i64 n14,.int .i64 n15],.agg [.int .i64 n17,.int .i64 n18]]] [] (.agg [.int .i64 n20,.int .i64 n21]) [] /\
   ∃ b23,Sp 173 [.agg [.int .i64 n20,.int .i64 n21],.int .i64 3000000000] [] (.bool b23) []/\(b23=true->AV.tup [TEncl.zero.av,.int .i64 7]=.tup [(kV (fun a b=>qi (a*100000000) b) x y).1.av,.int .i64 (kV (fun a b=>qi (a*100000000) b) x y).2]/\([]:List (List AV))=[]) /\
   (b23=false->AV.tup [.agg [.int .i64 n20,.int .i64 n21],.int .i64 0]=.tup [(kV (fun a b=>qi (a*100000000) b) x y).1.av,.int .i64 (kV (fun a b=>qi (a*100000000) b) x y).2]/\([]:List (List AV))=[]))):=by
 unfold kV
 refine ⟨_,V5 x 3000000000,fun h=>⟨by rw [if_pos h]; rfl,by trivial⟩,fun h=>⟨_,V5 y 3000000000,fun h2=>⟨by rw [if_neg (by rw [h]; simp),if_pos h2]; rfl,by trivial⟩,fun h2=>?_⟩⟩
 obtain ⟨x1,x2,x3⟩:=Xx h
 obtain ⟨y1,y2,y3⟩:=Xx h2
 rw [if_neg (by rw [h]; simp),if_neg (by rw [h2]; simp)]
 have hj:Sp 187 [(qi (x.Lo*100000000) y.Lo).av,.slc 3 [(qi (x.Lo*100000000) y.Hi).av,(qi (x.Hi*100000000) y.Lo).av,(qi (x.Hi*100000000) y.Hi).av]] [] (UK (fun a b=>qi (a*100000000) b) x y).av []:=IK (qi (x.Lo*100000000) y.Lo) [qi (x.Lo*100000000) y.Hi,qi (x.Hi*100000000) y.Lo,qi (x.Hi*100000000) y.Hi] (by simp)
 generalize UK (fun a b=>qi (a*100000000) b) x y=H at hj ⊢
 refine ⟨_,_,OG _ _ (by omega) (by omega),_,_,OG _ _ (by omega) (by omega),_,_,OG _ _ (by omega) (by omega),_,_,OG _ _ (by omega) (by omega),_,_,hj,_,V5 H 3000000000,fun h3=>⟨?_,by trivial⟩,fun h3=>⟨?_,by trivial⟩⟩
 ·rw [if_pos h3]; rfl
 ·rw [if_neg (by rw [h3]; simp)]; rfl
abbrev WU (x y:TEncl) (S:SpecF) (Q:yj):Prop :=
 ∃ b12,S 173 [x.av,iN 3000000000] [] (.bool b12) []/\(b12=true->Q (.tup [TEncl.zero.av,iN 7]) [])/\(b12=false->∃ b16,S 173 [y.av,iN 3000000000] [] (.bool b16) []/\(b16=true->Q (.tup [TEncl.zero.av,iN 7]) [])/\(b16=false->∃ n20 n21,S 185 [iN x.Lo,iN y.Lo,.ref 0 0] [[AV.fn (175:Nat) [] []]] (.agg [iN n20,iN n21]) [[AV.fn (175:Nat) [] []]]/\∃ n23 n24,S 185 [iN x.Lo,iN y.Hi,.ref 0 0] [[AV.fn (175:Nat) [] []]] (.agg [iN n23,iN n24]) [[AV.fn (175:Nat) [] []]]/\∃ n26 n27,S 185 [iN x.Hi,iN y.Lo,.ref 0 0] [[AV.fn (175:Nat) [] []]] (.agg [iN n26,iN n27]) [[AV.fn (175:Nat) [] []]]/\∃ n29 n30,S 185 [iN x.Hi,iN y.Hi,.ref 0 0] [[AV.fn (175:Nat) [] []]] (.agg [iN n29,iN n30]) [[AV.fn (175:Nat) [] []]]/\∃ n32 n33,S 187 [AV.agg [iN n20,iN n21],.slc 3 [AV.agg [iN n23,iN n24],.agg [iN n26,iN n27],.agg [iN n29,iN n30]]] [] (.agg [iN n32,iN n33]) []/\∃ b35,S 173 [AV.agg [iN n32,iN n33],iN 3000000000] [] (.bool b35) []/\(b35=true->Q (.tup [TEncl.zero.av,iN 7]) [])/\(b35=false->Q (.tup [AV.agg [iN n32,iN n33],iN 0]) [])))
def HT (x y:TEncl) (S:SpecF) (_Fr:FreshF) (_Sq:SeqF) (Q:yj):Prop :=
 ∃ b0,S 173 [x.av,iN 3000000000] [] (.bool b0) []/\((!b0)=true->∃ b4,S 173 [y.av,iN 3000000000] [] (.bool b4) []/\((!b4)=true->(decide (y.Lo<=0)=true->(decide (y.Hi>=0)=true->Q (.tup [TEncl.zero.av,iN 8]) [])/\(decide (y.Hi>=0)=false->WU x y S Q))/\(decide (y.Lo<=0)=false->WU x y S Q))/\((!b4)=false->WU x y S Q))/\((!b0)=false->WU x y S Q)
theorem Dg (x:TEncl) (y:TEncl) (v:AV) (O:List (List AV)) (h:HT x y Sp Fo So (fun r O'=>r=v/\O'=O)):Sp 155 [x.av,y.av] [] v O :=
 ye (w:=⟨[],[],[185],[(174,⟨[0,1,2,3,4,5,6,7,8,9,15,45],[],[],[]⟩)],[]⟩) (k:=4) (keep:=⟨[0,1,2,3,4,5,6,25],[],[],[]⟩) (boxes:=[]) mixed (by exact ⟨Tryz.call174,trivial⟩) Tryz.func155 Tryz.call155 rfl rfl rfl (Nat.le_of_ble_eq_true rfl) (by kernel_rfl) h
theorem Ee (x y:TEncl):Sp 155 [x.av,y.av] [] (.tup [(U7 x y).1.av,.int .i64 (U7 x y).2]) []:=Dg x y _ _ (by
 unfold HT WU
 have rest:((!vH x 3000000000 && !vH y 3000000000) && (decide (y.Lo<=0) && decide (y.Hi>=0)))=false->U7 x y=kV (fun a b=>qi (a*100000000) b) x y:=fun h1=>by
  unfold U7; rw [h1]; rfl
 refine ⟨_,V5 x 3000000000,fun h=>⟨_,V5 y 3000000000,fun h2=>⟨fun h3=>⟨fun h4=>⟨?_,by trivial⟩,fun h4=>?_⟩,fun h3=>?_⟩,fun h2=>?_⟩,fun h=>?_⟩
 ·unfold U7; rw [h,h2,h3,h4]; rfl
 ·rw [rest (by rw [h,h2,h3,h4]; rfl)]
  exact Na x y
 ·rw [rest (by rw [h,h2,h3]; rfl)]
  exact Na x y
 ·rw [rest (by rw [h,h2]; rfl)]
  exact Na x y
 ·rw [rest (by rw [h]; rfl)]
  exact Na x y)
def qF (f:Nat->Bool):Nat->Nat->Nat->Nat
 | 0,i,_=>i
 | k+1,i,j=>if i<j then (if f ((i+j) / 2) then qF f k i ((i+j) / 2) else qF f k ((i+j) / 2+1) j) else i
theorem Ya (f:Nat->Bool) (k i j:Nat):qF f (k+1) i j=if i<j then (if f ((i+j) / 2) then qF f k i ((i+j) / 2) else qF f k ((i+j) / 2+1) j) else i:=rfl
theorem Oc (f:Nat->Bool):∀ (k i j:Nat),i<=j->i<=qF f k i j/\qF f k i j<=j:=by
 intro k
 induction k with
 | zero=>intro i j h; exact ⟨Nat.le_refl _,h⟩
 | succ k ih =>
  intro i j h
  rw [Ya]
  split
  ·split
   ·have:=ih i ((i+j) / 2) (by omega); omega
   ·have:=ih ((i+j) / 2+1) j (by omega); omega
  ·exact ⟨Nat.le_refl _,h⟩
theorem Wm (f:Nat->Bool) (k i j:Nat) (h:¬ i<j):qF f k i j=i:=by
 cases k with
 | zero=>rfl
 | succ k=>rw [Ya,if_neg h]
def T1 (x:TEncl) (a:Nat):Bool:=decide ((Wo (a+90000000)).Lo<x.Hi)
def Wc (x:TEncl) (a:Nat):Bool:=decide ((Wo (a+90000000)).Hi<=x.Lo)
def FG (a:Int) (v0:TEncl) (S:SpecF) (_Fr:FreshF) (_Sq:SeqF) (Q:yj):Prop :=
 ∃ n0 n1,S 179 [iN (IntKind.i64.wrap (a+90000000))] [] (.agg [iN n0,iN n1]) []/\Q (.bool (decide (n0<v0.Hi))) [v0.cs]
theorem Dw (a:Int) (v0:TEncl) (v:AV) (O:List (List AV)) (h:FG a v0 Sp Fo So (fun r O'=>r=v/\O'=O)):Sp 178 [iN a,.ref 0 0] [v0.cs] v O :=
 ye (w:=⟨[],[],[],[],[]⟩) (k:=0) (keep:=⟨[0,1,3],[],[],[]⟩) (boxes:=[⟨23,false,v0.cs⟩]) mixed (by exact trivial) Tryz.func178 Tryz.call178 rfl rfl rfl (Nat.le_of_ble_eq_true rfl) (by kernel_rfl) h
theorem Ek (a:Nat) (ha:a<=1000000000) (x:TEncl):Sp 178 [.int .i64 a,.ref 0 0] [x.cs] (.bool (T1 x a)) [x.cs]:=Dw a x _ _ ⟨_,_,by rw [i64 (by omega)]; exact Ja _,rfl,rfl⟩
def FH (a:Int) (v0:TEncl) (S:SpecF) (_Fr:FreshF) (_Sq:SeqF) (Q:yj):Prop :=
 ∃ n0 n1,S 179 [iN (IntKind.i64.wrap (a+90000000))] [] (.agg [iN n0,iN n1]) []/\Q (.bool (decide (n1<=v0.Lo))) [v0.cs]
theorem Dy (a:Int) (v0:TEncl) (v:AV) (O:List (List AV)) (h:FH a v0 Sp Fo So (fun r O'=>r=v/\O'=O)):Sp 180 [iN a,.ref 0 0] [v0.cs] v O :=
 ye (w:=⟨[],[],[],[],[]⟩) (k:=0) (keep:=⟨[0,1,3],[],[],[]⟩) (boxes:=[⟨23,false,v0.cs⟩]) mixed (by exact trivial) Tryz.func180 Tryz.call180 rfl rfl rfl (Nat.le_of_ble_eq_true rfl) (by kernel_rfl) h
theorem El (a:Nat) (ha:a<=1000000000) (x:TEncl):Sp 180 [.int .i64 a,.ref 0 0] [x.cs] (.bool (Wc x a)) [x.cs]:=Dy a x _ _ ⟨_,_,by rw [i64 (by omega)]; exact Ja _,rfl,rfl⟩
theorem mid {i j:Nat} (h:i+j<9223372036854775808):IntKind.i64.wrap ((IntKind.u64.wrap (IntKind.i64.wrap ((i:Int)+(j:Int)))).fdiv 2)=(((i+j) / 2:Nat):Int):=by
 rw [<- Int.natCast_add,I3 h,q8 (by omega),show (2:Int)=((2:Nat):Int) by rfl,fdN,I3 (by omega)]
def Ii (n:Int) (f0:TEncl) (S:SpecF) (_Fr:FreshF) (_Sq:SeqF) (Q:yj):Prop :=
 ∃ (I0:Nat->List AV->Prop),(∃ m2,I0 m2 [iN 0,iN n,f0.av])/\∀ (m2:Nat) (n3 n4 n5 n6:Int),I0 m2 [iN n3,iN n4,.agg [iN n5,iN n6]]->(decide (n3<n4)=true->∃ b10,S 178 [iN (IntKind.i64.wrap ((IntKind.u64.wrap (IntKind.i64.wrap (n3+n4))).fdiv (2:Int))),.ref 0 0] [[iN n5,iN n6]] (.bool b10) [[iN n5,iN n6]]/\((!b10)=true->∃ k14,k14<m2/\I0 k14 [iN (IntKind.i64.wrap (IntKind.i64.wrap ((IntKind.u64.wrap (IntKind.i64.wrap (n3+n4))).fdiv (2:Int))+1)),iN n4,.agg [iN n5,iN n6]])/\((!b10)=false->∃ k14,k14<m2/\I0 k14 [iN n3,iN (IntKind.i64.wrap ((IntKind.u64.wrap (IntKind.i64.wrap (n3+n4))).fdiv (2:Int))),.agg [iN n5,iN n6]]))/\(decide (n3<n4)=false->Q (iN n3) [[iN n5,iN n6]])
theorem GY (n:Int) (f0:TEncl) (v:AV) (O:List (List AV)) (h:Ii n f0 Sp Fo So (fun r O'=>r=v/\O'=O)):Sp 177 [iN n,.fn 178 [] [.ref 0 0]] [f0.cs] v O :=
 ye (w:=⟨[],[],[178],[],[]⟩) (k:=0) (keep:=⟨[0,1,4,5,6,7,11,21],[⟨2,[(5,iN 0),(6,iN 0)],[],[(1000000,.agg [iN 0,iN 0])],[],[],[]⟩],[],[]⟩) (boxes:=[⟨23,false,f0.cs⟩]) mixed (by exact trivial) Tryz.func177 Tryz.call177 rfl rfl rfl (Nat.le_of_ble_eq_true rfl) (by kernel_rfl) h
theorem Gs (n:Nat) (hn:n<=1000000000) (x:TEncl):Sp 177 [.int .i64 n,.fn 178 [] [.ref 0 0]] [x.cs] (.int .i64 (qF (T1 x) n 0 n:Nat)) [x.cs]:=GY n x _ _ (by
 unfold Ii
 refine ⟨fun m vs=>∃ i j:Nat,i<=j/\j<=n/\j-i<=m/\vs=[.int .i64 i,.int .i64 j,x.av]/\qF (T1 x) m i j=qF (T1 x) n 0 n,⟨n,0,n,by omega,by omega,by omega,rfl,rfl⟩,?_⟩
 rintro m n3 n4 n5 n6 ⟨i,j,h1,h2,h3,hv,hs⟩
 have hv':=hv
 unfold TEncl.av TEncl.cs at hv'
 simp only [List.cons.injEq,AV.int.injEq,true_and,AV.agg.injEq,and_true] at hv'
 obtain ⟨rfl,rfl,rfl,rfl⟩:=hv'
 refine ⟨fun g=>?_,fun g=>?_⟩
 ·have hij:i<j:=by simpa using g
  obtain ⟨k,rfl⟩:∃ k,m=k+1:=⟨m-1,by omega⟩
  rw [Ya,if_pos hij] at hs
  rw [mid (by omega)]
  refine ⟨_,Ek ((i+j) / 2) (by omega) x,fun g2=>⟨k,by omega,(i+j) / 2+1,j,by omega,by omega,by omega,?_,?_⟩,fun g2=>⟨k,by omega,i,(i+j) / 2,by omega,by omega,by omega,rfl,?_⟩⟩
  ·rw [yq (by omega)]; rfl
  ·have g2:T1 x ((i+j) / 2)=false:=by simpa using g2
   rw [if_neg (by rw [g2]; simp)] at hs; exact hs
  ·have g2:T1 x ((i+j) / 2)=true:=by simpa using g2
   rw [if_pos g2] at hs; exact hs
 ·have hij:¬ i<j:=by simpa using g
  rw [Wm _ _ _ _ hij] at hs
  rw [<- hs]
  exact ⟨rfl,rfl⟩)
def Ij (n:Int) (f0:TEncl) (S:SpecF) (_Fr:FreshF) (_Sq:SeqF) (Q:yj):Prop :=
 ∃ (I0:Nat->List AV->Prop),(∃ m2,I0 m2 [iN 0,iN n,f0.av])/\∀ (m2:Nat) (n3 n4 n5 n6:Int),I0 m2 [iN n3,iN n4,.agg [iN n5,iN n6]]->(decide (n3<n4)=true->∃ b10,S 180 [iN (IntKind.i64.wrap ((IntKind.u64.wrap (IntKind.i64.wrap (n3+n4))).fdiv (2:Int))),.ref 0 0] [[iN n5,iN n6]] (.bool b10) [[iN n5,iN n6]]/\((!b10)=true->∃ k14,k14<m2/\I0 k14 [iN (IntKind.i64.wrap (IntKind.i64.wrap ((IntKind.u64.wrap (IntKind.i64.wrap (n3+n4))).fdiv (2:Int))+1)),iN n4,.agg [iN n5,iN n6]])/\((!b10)=false->∃ k14,k14<m2/\I0 k14 [iN n3,iN (IntKind.i64.wrap ((IntKind.u64.wrap (IntKind.i64.wrap (n3+n4))).fdiv (2:Int))),.agg [iN n5,iN n6]]))/\(decide (n3<n4)=false->Q (iN n3) [[iN n5,iN n6]])
theorem GZ (n:Int) (f0:TEncl) (v:AV) (O:List (List AV)) (h:Ij n f0 Sp Fo So (fun r O'=>r=v/\O'=O)):Sp 177 [iN n,.fn 180 [] [.ref 0 0]] [f0.cs] v O :=
 ye (w:=⟨[],[],[180],[],[]⟩) (k:=0) (keep:=⟨[0,1,4,5,6,7,11,21],[⟨2,[(5,iN 0),(6,iN 0)],[],[(1000000,.agg [iN 0,iN 0])],[],[],[]⟩],[],[]⟩) (boxes:=[⟨23,false,f0.cs⟩]) mixed (by exact trivial) Tryz.func177 Tryz.call177 rfl rfl rfl (Nat.le_of_ble_eq_true rfl) (by kernel_rfl) h
theorem Gt (n:Nat) (hn:n<=1000000000) (x:TEncl):Sp 177 [.int .i64 n,.fn 180 [] [.ref 0 0]] [x.cs] (.int .i64 (qF (Wc x) n 0 n:Nat)) [x.cs]:=GZ n x _ _ (by
 unfold Ij
 refine ⟨fun m vs=>∃ i j:Nat,i<=j/\j<=n/\j-i<=m/\vs=[.int .i64 i,.int .i64 j,x.av]/\qF (Wc x) m i j=qF (Wc x) n 0 n,⟨n,0,n,by omega,by omega,by omega,rfl,rfl⟩,?_⟩
 rintro m n3 n4 n5 n6 ⟨i,j,h1,h2,h3,hv,hs⟩
 have hv':=hv
 unfold TEncl.av TEncl.cs at hv'
 simp only [List.cons.injEq,AV.int.injEq,true_and,AV.agg.injEq,and_true] at hv'
 obtain ⟨rfl,rfl,rfl,rfl⟩:=hv'
 refine ⟨fun g=>?_,fun g=>?_⟩
 ·have hij:i<j:=by simpa using g
  obtain ⟨k,rfl⟩:∃ k,m=k+1:=⟨m-1,by omega⟩
  rw [Ya,if_pos hij] at hs
  rw [mid (by omega)]
  refine ⟨_,El ((i+j) / 2) (by omega) x,fun g2=>⟨k,by omega,(i+j) / 2+1,j,by omega,by omega,by omega,?_,?_⟩,fun g2=>⟨k,by omega,i,(i+j) / 2,by omega,by omega,by omega,rfl,?_⟩⟩
  ·rw [yq (by omega)]; rfl
  ·have g2:Wc x ((i+j) / 2)=false:=by simpa using g2
   rw [if_neg (by rw [g2]; simp)] at hs; exact hs
  ·have g2:Wc x ((i+j) / 2)=true:=by simpa using g2
   rw [if_pos g2] at hs; exact hs
 ·have hij:¬ i<j:=by simpa using g
  rw [Wm _ _ _ _ hij] at hs
  rw [<- hs]
  exact ⟨rfl,rfl⟩)
def Ox (x:TEncl):TEncl:=⟨(qF (T1 x) 180000001 0 180000001:Nat)-1,(qF (Wc x) 180000000 0 180000000:Nat)⟩
def qV (x:TEncl):TEncl × Int:=if vH x 100000000 then (⟨0,0⟩,7) else (Ox x,0)
def HU (x:TEncl) (S:SpecF) (_Fr:FreshF) (_Sq:SeqF) (Q:yj):Prop :=
 ∃ b0,S 173 [x.av,iN 100000000] [] (.bool b0) []/\(b0=true->Q (.tup [TEncl.zero.av,iN 7]) [])/\(b0=false->∃ n4,S 177 [iN 180000001,AV.fn (178:Nat) [] [AV.ref 0 0]] [x.cs] (iN n4) [x.cs]/\∃ n6,S 177 [iN 180000000,AV.fn (180:Nat) [] [AV.ref 0 0]] [x.cs] (iN n6) [x.cs]/\Q (.tup [AV.agg [iN (IntKind.i64.wrap (n4-1)),iN n6],iN 0]) [])
theorem Di (x:TEncl) (v:AV) (O:List (List AV)) (h:HU x Sp Fo So (fun r O'=>r=v/\O'=O)):Sp 157 [x.av] [] v O :=
 ye (w:=⟨[],[],[177],[],[]⟩) (k:=0) (keep:=⟨[0,1,2,3,4,5,7],[],[],[]⟩) (boxes:=[]) mixed (by exact trivial) Tryz.func157 Tryz.call157 rfl rfl rfl (Nat.le_of_ble_eq_true rfl) (by kernel_rfl) h
theorem Gq (x:TEncl):Sp 157 [x.av] [] (.tup [(qV x).1.av,.int .i64 (qV x).2]) []:=Di x _ _ (by
 unfold HU
 have k1:=Gs 180000001 (by omega) x
 have k2:=Gt 180000000 (by omega) x
 have b1:=Oc (T1 x) 180000001 0 180000001 (by omega)
 unfold qV Ox
 generalize qF (T1 x) 180000001 0 180000001=p at *
 generalize qF (Wc x) 180000000 0 180000000=q at *
 refine ⟨_,V5 x 100000000,fun h=>⟨by rw [if_pos h]; rfl,by trivial⟩,fun h=>⟨_,k1,_,k2,?_,by trivial⟩⟩
 rw [if_neg (by rw [h]; simp),i64 (by omega)]; rfl)
def Wy (x:TEncl):TEncl × Int:=if (qV x).2≠0 then (⟨0,0⟩,(qV x).2) else (⟨IntKind.i64.wrap (90000000-(qV x).1.Hi),IntKind.i64.wrap (90000000-(qV x).1.Lo)⟩,0)
def HV (x:TEncl) (S:SpecF) (_Fr:FreshF) (_Sq:SeqF) (Q:yj):Prop :=
 ∃ n0 n1 n2,S 157 [x.av] [] (.tup [AV.agg [iN n0,iN n1],iN n2]) []/\((n2 != 0)=true->Q (.tup [TEncl.zero.av,iN n2]) [])/\((n2 != 0)=false->Q (.tup [AV.agg [iN (IntKind.i64.wrap ((90000000:Int)-n1)),iN (IntKind.i64.wrap ((90000000:Int)-n0))],iN 0]) [])
theorem Dp (x:TEncl) (v:AV) (O:List (List AV)) (h:HV x Sp Fo So (fun r O'=>r=v/\O'=O)):Sp 170 [x.av] [] v O :=
 ye (w:=⟨[],[],[],[],[]⟩) (k:=0) (keep:=⟨[0,1,2,3,4,5,12],[],[],[]⟩) (boxes:=[]) mixed (by exact trivial) Tryz.func170 Tryz.call170 rfl rfl rfl (Nat.le_of_ble_eq_true rfl) (by kernel_rfl) h
theorem Ef (x:TEncl):Sp 170 [x.av] [] (.tup [(Wy x).1.av,.int .i64 (Wy x).2]) []:=Dp x _ _ (by
 unfold HV Wy
 refine ⟨_,_,_,Gq x,fun h=>⟨?_,by trivial⟩,fun h=>⟨?_,by trivial⟩⟩
 ·have h:(qV x).2≠0:=by simpa using h
  rw [if_pos h]; rfl
 ·have h:(qV x).2=0:=by simpa using h
  rw [if_neg (by simp [h])]; rfl)
end Go.Proofs.YtdeeekgohhkdbaaGreatDoor
