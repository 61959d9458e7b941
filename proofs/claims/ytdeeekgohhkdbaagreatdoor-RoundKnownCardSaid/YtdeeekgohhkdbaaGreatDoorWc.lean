/- The contract of round.Judge. -/
import Derived.Test.YtdeeekgohhkdbaaGreatDoorWb
import Derived.Test.YtdeeekgohhkdbaaGreatDoorSm
namespace Go.Proofs.YtdeeekgohhkdbaaGreatDoor
open Go.RowKit
theorem zbP {w:Ways} (hw:∀id h',kF w id=some h'->id=some 17/\h'=⟨1,0,[1,12,7],[],[195,196,197,198]⟩):∀c,Tryz.f15.body=some c->qO Tryz.prog w QA c:=by
 intro c hc;have hb:qH Tryz.f15=c:=by unfold qH;rw[hc];rfl
 refine Wp hw c (by rw[<- hb];kernel_rfl) fun q hq=>?_
 rw[<- hb,Hy,List.mem_singleton] at hq;subst hq;exact DK o17
def UW (t:TRoTask) (plan:List (List Int)):List TRoFault × Int:=if xG t plan≠0 then ([],xG t plan) else ((y4 (yr t) plan).faults,0)
def R43 (t:TRoTask) (plan:List (List Int)) (S:SpecF) (_Fr:FreshF) (_Sq:SeqF) (Q:ym):Prop :=
 (∃n1,S 50 [t.av,.slc 3 (List.map (fun x=>AV.slc 3 (List.map (AV.int IntKind.i64) x)) plan)] [] (.tup [AV.nilp,iN n1]) []/\((n1 != 0)=true->Q (.tup [AV.slc 3 [],iN n1]) [])/\((n1 != 0)=false->∃es5 n6 n7,S 51 [AV.nilp,.slc 3 (List.map (fun x=>AV.slc 3 (List.map (AV.int IntKind.i64) x)) plan)] [] (.tup [AV.slc 3 es5,iN n6,iN n7]) []/\Q (.tup [AV.slc 3 es5,iN 0]) []))\/∃n1 n2 n3 n4 n5 n6 n7 n8 n9 es10 es11 es12 es13 es14 n15,S 50 [t.av,.slc 3 (List.map (fun x=>AV.slc 3 (List.map (AV.int IntKind.i64) x)) plan)] [] (.tup [AV.eptr [iN n1,iN n2,iN n3,iN n4,iN n5,iN n6,iN n7,iN n8,iN n9,.slc 3 es10,.slc 3 es11,.slc 3 es12,.slc 3 es13,.slc 3 es14] (0:Nat),iN n15]) []/\((n15 != 0)=true->Q (.tup [AV.slc 3 [],iN n15]) [])/\((n15 != 0)=false->∃es19 n20 n21,S 51 [AV.eptr [iN n1,iN n2,iN n3,iN n4,iN n5,iN n6,iN n7,iN n8,iN n9,.slc 3 es10,.slc 3 es11,.slc 3 es12,.slc 3 es13,.slc 3 es14] (0:Nat),.slc 3 (List.map (fun x=>AV.slc 3 (List.map (AV.int IntKind.i64) x)) plan)] [] (.tup [AV.slc 3 es19,iN n20,iN n21]) []/\Q (.tup [AV.slc 3 es19,iN 0]) [])
theorem s43 (t:TRoTask) (plan:List (List Int)) (v:AV) (O:List (List AV)) (h:R43 t plan Sp Fo So (fun r O'=>r=v/\O'=O)):Sp 43 [t.av,.slc 3 (List.map (fun x=>.slc 3 (List.map (AV.int .i64) x)) plan)] [] v O :=
 yj (w:=⟨[],[(50,[.tup [.nilp,iN 0],.tup [.eptr [iN 0,iN 0,iN 0,iN 0,iN 0,iN 0,iN 0,iN 0,iN 0,.slc 3 [],.slc 3 [],.slc 3 [],.slc 3 [],.slc 3 []] 0,iN 0]])],[],[],[]⟩) (k:=0) (keep:=⟨[0,1,2,4,5,6,7,8,18],[],[],[]⟩) (boxes:=[]) mixed (by exact trivial) Tryz.func43 Tryz.call43 rfl rfl rfl (Nat.le_of_ble_eq_true rfl) (by kernel_rfl) h
theorem c43 (t:TRoTask) (ht:kc t) (plan:List (List Int)):Sp 43 [t.av,.slc 3 (yC plan)] [] (.tup [.slc 3 ((UW t plan).1.map TRoFault.av),.int .i64 (UW t plan).2]) []:=s43 t plan _ _ (by
 unfold R43;have hb:=c50 t ht plan;unfold xi at hb;by_cases he:xG t plan≠0
 ·rw[if_pos he] at hb;refine .inl ⟨_,hb,fun _=>⟨by unfold UW;rw[if_pos he];rfl,by trivial⟩,fun h=>absurd h (by simpa using he)⟩
 rw[if_neg he] at hb;obtain ⟨hv,hp⟩:=QC (Decidable.not_not.1 he);refine .inr ⟨_,_,_,_,_,_,_,_,_,_,_,_,_,_,_,hb,fun h=>by simp at h,fun _=>⟨_,_,_,c51 (yr t) (Uw hv) plan hp,?_,by trivial⟩⟩;unfold UW;rw[if_neg he])
end Go.Proofs.YtdeeekgohhkdbaaGreatDoor
