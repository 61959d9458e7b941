/- Contracts: ways and spans, as they are asked for. -/
import Derived.Test.YtkojpnkknehhmaaGreatDoorSk
namespace Go.Proofs.YtkojpnkknehhmaaGreatDoor
open Go.RowKit
def vL (t:TRoTask) (a b:Int):Int × Int :=
 if (qb t).2.2≠0 then (0,(qb t).2.2) else if [a,b].any (yX t (-1)) then (0,4) else (SZ t a b,0)
def R10 (t:TRoTask) (from' to:Int) (S:SpecF) (_Fr:FreshF) (_Sq:SeqF) (Q:yc):Prop :=
 (∃n1,S 49 [t.av,iN (-1:Int),.slc 3 [iN from',iN to]] [] (.tup [AV.nilp,iN n1]) []/\((n1 != 0)=true->Q (.tup [iN 0,iN n1]) [])/\((n1 != 0)=false->∃n5,S 50 [AV.nilp,iN from',iN to] [] (iN n5) []/\Q (.tup [iN n5,iN 0]) []))\/∃n1 n2 n3 n4 n5 n6 n7 n8 n9 es10 es11 es12 es13 es14 n15,S 49 [t.av,iN (-1:Int),.slc 3 [iN from',iN to]] [] (.tup [AV.eptr [iN n1,iN n2,iN n3,iN n4,iN n5,iN n6,iN n7,iN n8,iN n9,.slc 3 es10,.slc 3 es11,.slc 3 es12,.slc 3 es13,.slc 3 es14] (0:Nat),iN n15]) []/\((n15 != 0)=true->Q (.tup [iN 0,iN n15]) [])/\((n15 != 0)=false->∃n19,S 50 [AV.eptr [iN n1,iN n2,iN n3,iN n4,iN n5,iN n6,iN n7,iN n8,iN n9,.slc 3 es10,.slc 3 es11,.slc 3 es12,.slc 3 es13,.slc 3 es14] (0:Nat),iN from',iN to] [] (iN n19) []/\Q (.tup [iN n19,iN 0]) [])
theorem s10 (t:TRoTask) (from':Int) (to:Int) (v:AV) (O:List (List AV)) (h:R10 t from' to Sp Fo So (fun r O'=>r=v/\O'=O)):Sp 10 [t.av,iN from',iN to] [] v O :=
 yb (w:=⟨[],[(49,[.tup [.nilp,iN 0],.tup [.eptr [iN 0,iN 0,iN 0,iN 0,iN 0,iN 0,iN 0,iN 0,iN 0,.slc 3 [],.slc 3 [],.slc 3 [],.slc 3 [],.slc 3 []] 0,iN 0]])],[],[],[]⟩) (k:=0) (keep:=⟨[0,1,2,3,6,7,8,9,19],[],[],[]⟩) (boxes:=[]) mixed (by exact trivial) Tryz.func10 Tryz.call10 rfl rfl rfl (Nat.le_of_ble_eq_true rfl) (by kernel_rfl) h
theorem c10 (t:TRoTask) (ht:jw t) (a b:Int):Sp 10 [t.av,.int .i64 a,.int .i64 b] [] (.tup [.int .i64 (vL t a b).1,.int .i64 (vL t a b).2]) []:=s10 t a b _ _ (by
 unfold R10;have hj:=c49 t ht (-1) [a,b] (by show 2<=_;omega);unfold Ud at hj;by_cases he:(qb t).2.2≠0
 ·rw[if_pos he] at hj;have hE:vL t a b=(0,(qb t).2.2):=if_pos he;refine .inl ⟨_,hj,fun _=>⟨by rw[hE],by trivial⟩,fun h=>absurd h (by simpa using he)⟩
 rw[if_neg he] at hj;have hE:vL t a b=if [a,b].any (yX t (-1)) then (0,4) else (SZ t a b,0):=if_neg he
 have hv:=xF (Decidable.not_not.1 he);have hjl:=hv.jl;refine .inr ⟨_,_,_,_,_,_,_,_,_,_,_,_,_,_,_,hj,fun h=>?_,fun h=>?_⟩
 ·by_cases hn:[a,b].any (yX t (-1))=true
  ·rw[if_pos hn] at hE;exact⟨by rw[hE,if_pos hn],by trivial⟩
  ·rw[if_neg hn] at h;simp at h
 ·have hn:¬ [a,b].any (yX t (-1))=true:=fun hn=>by rw[if_pos hn] at h;simp at h
  rw[if_neg hn] at hE;have hn:[a,b].any (yX t (-1))=false:=by simpa using hn
  have h1:yX t (-1) a=false:=by simpa using List.any_eq_false.1 hn a List.mem_cons_self
  have h2:yX t (-1) b=false:=by simpa using List.any_eq_false.1 hn b (List.mem_cons_of_mem _ List.mem_cons_self)
  unfold yX at h1 h2;rw[zw6 (by omega)] at h1 h2;have h1:=yS.1 h1;have h2:=yS.1 h2;refine⟨_,c50 (yx t) a b (by show a<(t.Jobs.length:Int);omega) (by show b<(t.Jobs.length:Int);omega),?_,by trivial⟩;rw[hE];rfl)
def Xm (t:TRoTask) (n:Int):TRoSpan × Bool × Int :=
 if (qb t).2.2≠0 then (⟨0,0⟩,false,(qb t).2.2) else if yX t 0 n then (⟨0,0⟩,false,4) else if xa (yd t (qi t n)) then (⟨0,0⟩,false,0) else (yd t (qi t n),true,0)
def R12 (t:TRoTask) (job:Int) (S:SpecF) (_Fr:FreshF) (_Sq:SeqF) (Q:yc):Prop :=
 (∃n1,S 49 [t.av,iN 0,.slc 3 [iN job]] [] (.tup [AV.nilp,iN n1]) []/\((n1 != 0)=true->Q (.tup [TEncl.zero.av,.bool false,iN n1]) [])/\((n1 != 0)=false->False))\/∃n1 n2 n3 n4 n5 n6 n7 n8 n9 es10 es11 es12 es13 es14 n15,S 49 [t.av,iN 0,.slc 3 [iN job]] [] (.tup [AV.eptr [iN n1,iN n2,iN n3,iN n4,iN n5,iN n6,iN n7,iN n8,iN n9,.slc 3 es10,.slc 3 es11,.slc 3 es12,.slc 3 es13,.slc 3 es14] (0:Nat),iN n15]) []/\((n15 != 0)=true->Q (.tup [TEncl.zero.av,.bool false,iN n15]) [])/\((n15 != 0)=false->∃n19 n20,((0:Int)<=job/\(2:Nat)=(2:Nat)/\es14[job.toNat]? = some (.agg [iN n19,iN n20]))/\((n19 == 1 && (n20 == 0 && true))=true->Q (.tup [TEncl.zero.av,.bool false,iN 0]) [])/\((n19 == 1 && (n20 == 0 && true))=false->Q (.tup [AV.agg [iN n19,iN n20],.bool true,iN 0]) []))
theorem s12 (t:TRoTask) (job:Int) (v:AV) (O:List (List AV)) (h:R12 t job Sp Fo So (fun r O'=>r=v/\O'=O)):Sp 12 [t.av,iN job] [] v O :=
 yb (w:=⟨[],[(49,[.tup [.nilp,iN 0],.tup [.eptr [iN 0,iN 0,iN 0,iN 0,iN 0,iN 0,iN 0,iN 0,iN 0,.slc 3 [],.slc 3 [],.slc 3 [],.slc 3 [],.slc 3 []] 0,iN 0]])],[],[],[]⟩) (k:=0) (keep:=⟨[0,1,2,4,5,6,7,16,28],[],[],[]⟩) (boxes:=[]) mixed (by exact trivial) Tryz.func12 Tryz.call12 rfl rfl rfl (Nat.le_of_ble_eq_true rfl) (by kernel_rfl) h
theorem c12 (t:TRoTask) (ht:jw t) (n:Int):Sp 12 [t.av,.int .i64 n] [] (.tup [(Xm t n).1.av,.bool (Xm t n).2.1,.int .i64 (Xm t n).2.2]) []:=s12 t n _ _ (by
 unfold R12;have hj:=c49 t ht 0 [n] (by show 1<=_;omega);unfold Ud at hj;by_cases he:(qb t).2.2≠0
 ·rw[if_pos he] at hj;have hE:Xm t n=(⟨0,0⟩,false,(qb t).2.2):=if_pos he;refine .inl ⟨_,hj,fun _=>⟨by rw[hE];rfl,by trivial⟩,fun h=>absurd h (by simpa using he)⟩
 rw[if_neg he] at hj;have hE:Xm t n=if yX t 0 n then (⟨0,0⟩,false,4) else if xa (yd t (qi t n)) then (⟨0,0⟩,false,0) else (yd t (qi t n),true,0):=if_neg he
 have hv:=xF (Decidable.not_not.1 he);have hjl:=hv.jl;have ha:[n].any (yX t 0)=yX t 0 n:=by simp
 rw[ha] at hj;refine .inr ⟨_,_,_,_,_,_,_,_,_,_,_,_,_,_,_,hj,fun h=>?_,fun h=>?_⟩
 ·by_cases hn:yX t 0 n=true
  ·rw[if_pos hn] at hE;exact⟨by rw[hE,if_pos hn];rfl,by trivial⟩
  ·rw[if_neg hn] at h;simp at h
 ·have hn:¬ yX t 0 n=true:=fun hn=>by rw[if_pos hn] at h;simp at h
  rw[if_neg hn] at hE;have h1:yX t 0 n=false:=by simpa using hn
  unfold yX at h1;rw[zw6 (by omega)] at h1;have h1:=yS.1 h1;have hs:=Pg (d:=yx t) (k:=n) h1.1 (by show n<((t.Jobs.map (yd t)).length:Int);rw[List.length_map];omega);have hsp:xg (yx t) n=yd t (qi t n):=by
   have hl:n.toNat<t.Jobs.length:=by omega
   unfold xg yx qi;rw[List.getD_eq_getElem?_getD,List.getD_eq_getElem?_getD,List.getElem?_map,List.getElem?_eq_getElem hl];rfl
  rw[hsp] at hs;refine⟨_,_,⟨h1.1,by trivial,hs⟩,fun g=>?_,fun g=>?_⟩
  ·have g:xa (yd t (qi t n))=true:=g;rw[if_pos g] at hE;exact⟨by rw[hE];rfl,by trivial⟩
  ·have g:xa (yd t (qi t n))=false:=g;rw[if_neg (by rw[g];simp)] at hE;exact⟨by rw[hE];rfl,by trivial⟩)
end Go.Proofs.YtkojpnkknehhmaaGreatDoor
