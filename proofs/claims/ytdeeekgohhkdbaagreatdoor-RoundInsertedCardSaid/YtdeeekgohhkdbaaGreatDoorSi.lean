/- Contracts: growing a slice that is nil, by the library's contract. Contracts: lists joined; the depot of a task with some jobs, or with a plan. -/
import Derived.Shelf.Spec.SlicesGrow
import Derived.Test.YtdeeekgohhkdbaaGreatDoorSf
namespace Go.Proofs.YtdeeekgohhkdbaaGreatDoor
open Go.RowKit
def wX:Go.Shelf.Ren:=⟨fun x=>match x with | 4=>120 | n=>n,fun x=>match x with | 22=>41 | 25=>3 | n=>n,fun x=>x⟩
theorem S4:Go.Proofs.Lays8.n4 Tryz.prog wX where
 mixed:=by kernel_rfl
 f4:=⟨ "slices.Grow[[]int,int]", by decide,Tryz.func120.trans (by kernel_rfl)⟩
 t0:=Tryz.underlying0
 a0:=Tryz.isAgg0
 z0:=Tryz.sizeOf0
 v0:=Tryz.zeroValue0
 t3:=Tryz.underlying3
 a3:=Tryz.isAgg3
 z3:=Tryz.sizeOf3
 v3:=Tryz.zeroValue3
 t4:=Tryz.underlying4
 a4:=Tryz.isAgg4
 z4:=Tryz.sizeOf4
 v4:=Tryz.zeroValue4
 t9:=Tryz.underlying9
 a9:=Tryz.isAgg9
 z9:=Tryz.sizeOf9
 v9:=Tryz.zeroValue9
 t20:=Tryz.underlying20
 a20:=Tryz.isAgg20
 z20:=Tryz.sizeOf20
 v20:=Tryz.zeroValue20
 t22:=Tryz.underlying41
 a22:=Tryz.isAgg41
 z22:=Tryz.sizeOf41
 v22:=Tryz.zeroValue41
theorem LN (n:Nat) (hn:n<=1048576):jU Tryz.prog 120 [.slc 0 [],.int .i64 n] 1 []:=by
 refine (⟨Tryz.call120,fun ρ w vs hgl hro hargs=>?_⟩:WO _ _ _ _ _)
 have hv:vs=#[.slice none 0 0,.int .i64 n]:=by
  obtain ⟨hs,hj⟩:=hargs
  have h0:=hj 0
  have h1:=hj 1
  have hs:vs.size=2:=hs.symm
  obtain ⟨l⟩:=vs
  match l,hs with
  | [a,b],_ =>
   have h0:Rv ρ none (.slc 0 []) a:=h0
   have h1:Rv ρ none (.int .i64 n) b:=h1
   cases h1
   cases h0 with
   | nilslc=>rfl
   | eslc _ _ a hm=>exact absurd rfl hm
   | slc _ _ _ b o cap k c hm=>exact absurd rfl hm
 subst hv
 have hB:ρ w.heap.size=none:=by
  cases h:ρ w.heap.size with
  | none=>rfl
  | some o=>have:=(Array.getElem?_eq_some_iff.1 (hro _ _ h)).1; omega
 by_cases h0:n=0
 ·subst h0
  refine (Any8.slices_Grow_room S4 none 0 0 0 w (by omega) (by omega) (by omega) (by omega)).mono ?_
  rintro e w' ⟨rfl,rfl⟩
  exact ⟨⟨ρ,w'.heap.size,0,_,rfl,RO.le_refl ρ,hro,fun k o h h'=>(by rw [h] at h'; cases h'),fun ag=>.aslc0 _ 0 1 ag none rfl,hB,Nat.le_refl _,Nat.le_refl _,.inl rfl⟩,fun _ _=>rfl,Nat.le_refl _,rfl,rfl,rfl⟩
 ·obtain ⟨i0,hi0,hz0,hs0,hb0⟩:∃ i0:TypeInfo,Tryz.prog.info? (wX.t 25)=some i0/\i0.zero=some (.int .i64 0)/\i0.size=1/\i0.bytes=8:=by
   cases h:Tryz.prog.info? (wX.t 25) with
   | none=>exact absurd (show (Tryz.prog.info? (wX.t 25)).isSome=true by kernel_rfl) (by rw [h]; simp)
   | some i =>
    have h1:(Tryz.prog.info? (wX.t 25)).map (fun i=>(i.zero,i.size,i.bytes))=some (some (.int .i64 0),1,8):=by kernel_rfl
    rw [h] at h1
    simp only [Option.map_some,Option.some.injEq,Prod.mk.injEq] at h1
    exact ⟨i,rfl,h1.1,h1.2.1,h1.2.2⟩
  refine (Any8.slices_Grow_grow S4 i0 (.int .i64 0) hi0 hz0 (by omega) none 0 0 n [] w (by omega) (by omega) (by rw [hb0]; omega) (by omega) (by simp) (fun _=>rfl) (fun a h=>by cases h)).mono ?_
  rintro e w' ⟨rfl,rfl⟩
  have hG:=grownCap_ge w (0+n) 0 (wX.t 25)
  generalize grownCap w (0+n) 0 (wX.t 25)=G at hG ⊢
  have hle:w.heap.size<=(w.drew.alloc (.cells (([]:List Value).toArray++Builtin.zeroCells (Value.int .i64 0).cells (0+n-0)++Builtin.zeroCells (Value.int .i64 0).cells (G-(0+n))) (wX.t 25))).heap.size:=by
   show w.heap.size<=(w.heap.push _).size
   rw [Array.size_push]; omega
  refine ⟨⟨ρ,w.heap.size,G,_,rfl,RO.le_refl ρ,fun k o h=>?_,fun k o h h'=>(by rw [h] at h'; cases h'),fun ag=>.aslc _ 0 0 0 1 ag G (by show 0<=G; omega) (by show 0+G*1=G; omega),hB,Nat.le_refl _,Nat.zero_le _,.inr ⟨([]:List Value).toArray++Builtin.zeroCells (Value.int .i64 0).cells (0+n-0)++Builtin.zeroCells (Value.int .i64 0).cells (G-(0+n)),wX.t 25,?_,?_,fun j=>.undef _ _⟩⟩,fun k hk=>?_,hle,rfl,rfl,rfl⟩
  ·have:=(Array.getElem?_eq_some_iff.1 (hro _ _ h)).1
   show (w.heap.push _)[k]?=some o
   rw [Array.getElem?_push_lt this,<- Array.getElem?_eq_getElem this]
   exact hro _ _ h
  ·show (w.heap.push _)[w.heap.size]?=some _
   rw [Array.getElem?_push_size]
  ·have hz:∀ m,(Builtin.zeroCells (Value.int .i64 0).cells m).size=m:=fun m=>by simp [Builtin.zeroCells,Value.cells]
   simp [hz]; omega
  ·show (w.heap.push _)[k]?=_
   rw [Array.getElem?_push_lt hk,<- Array.getElem?_eq_getElem hk]
def qY (t:TRoTask) (least n:Int):Bool:=qu n least (IntKind.i64.wrap ((t.Jobs.length:Int)-1))
def wU (l:List Int):Bool:=decide ((l.length:Int)>6)
def HF (l:List Int) (_S:SpecF) (_Fr:FreshF) (_Sq:SeqF) (Q:yj):Prop :=
 Q (.bool (decide ((↑(List.map (AV.int IntKind.i64) l).length:Int)>(6:Int)))) []
theorem EO (l:List Int) (v:AV) (O:List (List AV)) (h:HF l Sp Fo So (fun r O'=>r=v/\O'=O)):Sp 101 [.slc 3 (List.map (AV.int .i64) l)] [] v O :=
 ye (w:=⟨[],[],[],[],[]⟩) (k:=0) (keep:=⟨[0,2],[],[],[]⟩) (boxes:=[]) mixed (by exact trivial) Tryz.func101 Tryz.call101 rfl rfl rfl (Nat.le_of_ble_eq_true rfl) (by kernel_rfl) h
theorem FU (l:List Int):Sp 101 [.slc 3 (ym l)] [] (.bool (wU l)) []:=EO l _ _ (by
 unfold HF
 rw [List.length_map]; exact ⟨rfl,rfl⟩)
def HG (n:Int) (v0:TRoTask) (S:SpecF) (_Fr:FreshF) (_Sq:SeqF) (Q:yj):Prop :=
 ∃ b0,S 53 [iN n,iN 0,iN (IntKind.i64.wrap ((↑(List.map TRoJob.av v0.Jobs).length:Int)-(1:Int)))] [] (.bool b0) []/\Q (.bool b0) [v0.cs]
theorem EP (n:Int) (v0:TRoTask) (v:AV) (O:List (List AV)) (h:HG n v0 Sp Fo So (fun r O'=>r=v/\O'=O)):Sp 102 [iN n,.ref 0 0] [v0.cs] v O :=
 ye (w:=⟨[],[],[],[],[]⟩) (k:=0) (keep:=⟨[0,1,3],[],[],[]⟩) (boxes:=[⟨31,false,v0.cs⟩]) mixed (by exact trivial) Tryz.func102 Tryz.call102 rfl rfl rfl (Nat.le_of_ble_eq_true rfl) (by kernel_rfl) h
theorem FV (n:Int) (t:TRoTask):Sp 102 [.int .i64 n,.ref 0 0] [t.cs] (.bool (qY t 0 n)) [t.cs]:=EP n t _ _ (by
 unfold HG qY
 rw [List.length_map]; exact ⟨_,c53 ..,rfl,rfl⟩)
def HH (n v0:Int) (v1:TRoTask) (S:SpecF) (_Fr:FreshF) (_Sq:SeqF) (Q:yj):Prop :=
 ∃ b0,S 53 [iN n,iN v0,iN (IntKind.i64.wrap ((↑(List.map TRoJob.av v1.Jobs).length:Int)-(1:Int)))] [] (.bool b0) []/\Q (.bool b0) [[iN v0],v1.cs]
theorem ER (n:Int) (v0:Int) (v1:TRoTask) (v:AV) (O:List (List AV)) (h:HH n v0 v1 Sp Fo So (fun r O'=>r=v/\O'=O)):Sp 104 [iN n,.ref 0 0,.ref 1 0] [[iN v0],v1.cs] v O :=
 ye (w:=⟨[],[],[],[],[]⟩) (k:=0) (keep:=⟨[0,1,2,4],[],[],[]⟩) (boxes:=[⟨3,false,[iN v0]⟩,⟨31,false,v1.cs⟩]) mixed (by exact trivial) Tryz.func104 Tryz.call104 rfl rfl rfl (Nat.le_of_ble_eq_true rfl) (by kernel_rfl) h
theorem FW (n least:Int) (t:TRoTask):Sp 104 [.int .i64 n,.ref 0 0,.ref 1 0] [[.int .i64 least],t.cs] (.bool (qY t least n)) [[.int .i64 least],t.cs]:=ER n least t _ _ (by
 unfold HH qY
 rw [List.length_map]; exact ⟨_,c53 ..,rfl,rfl⟩)
def Ie (s:List Int) (f0:TRoTask) (S:SpecF) (_Fr:FreshF) (_Sq:SeqF) (Q:yj):Prop :=
 ∃ (I0:Nat->List AV->Prop),(∃ m2,I0 m2 [iN 0,f0.av])/\∀ (m2:Nat) (n3 n4 n5 n6 n7 n8 n9 n10 n11 n12:Int) (es13 es14 es15 es16:List AV),I0 m2 [iN n3,.agg [iN n4,iN n5,iN n6,iN n7,iN n8,iN n9,iN n10,iN n11,iN n12,.slc 3 es13,.slc 3 es14,.slc 3 es15,.slc 3 es16]]->(decide (n3<(↑(List.map (AV.int IntKind.i64) s).length:Int))=true->∃ n20,((0:Int)<=n3/\(1:Nat)=(1:Nat)/\(List.map (AV.int IntKind.i64) s)[n3.toNat]?=some (iN n20))/\∃ b22,S 102 [iN n20,.ref 0 0] [[iN n4,iN n5,iN n6,iN n7,iN n8,iN n9,iN n10,iN n11,iN n12,.slc 3 es13,.slc 3 es14,.slc 3 es15,.slc 3 es16]] (.bool b22) [[iN n4,iN n5,iN n6,iN n7,iN n8,iN n9,iN n10,iN n11,iN n12,.slc 3 es13,.slc 3 es14,.slc 3 es15,.slc 3 es16]]/\(b22=true->Q (iN n3) [[iN n4,iN n5,iN n6,iN n7,iN n8,iN n9,iN n10,iN n11,iN n12,.slc 3 es13,.slc 3 es14,.slc 3 es15,.slc 3 es16]])/\(b22=false->∃ k26,k26<m2/\I0 k26 [iN (IntKind.i64.wrap (n3+1)),.agg [iN n4,iN n5,iN n6,iN n7,iN n8,iN n9,iN n10,iN n11,iN n12,.slc 3 es13,.slc 3 es14,.slc 3 es15,.slc 3 es16]]))/\(decide (n3<(↑(List.map (AV.int IntKind.i64) s).length:Int))=false->Q (iN (-1:Int)) [[iN n4,iN n5,iN n6,iN n7,iN n8,iN n9,iN n10,iN n11,iN n12,.slc 3 es13,.slc 3 es14,.slc 3 es15,.slc 3 es16]])
theorem GV (s:List Int) (f0:TRoTask) (v:AV) (O:List (List AV)) (h:Ie s f0 Sp Fo So (fun r O'=>r=v/\O'=O)):Sp 115 [.slc 3 (List.map (AV.int .i64) s),.fn 102 [] [.ref 0 0]] [f0.cs] v O :=
 ye (w:=⟨[],[],[102],[],[]⟩) (k:=0) (keep:=⟨[0,1,4,5,7,8,9,16],[⟨2,[(8,iN 0)],[],[(1000000,.agg [iN 0,iN 0,iN 0,iN 0,iN 0,iN 0,iN 0,iN 0,iN 0,.slc 3 [],.slc 3 [],.slc 3 [],.slc 3 []])],[],[],[]⟩],[],[]⟩) (boxes:=[⟨31,false,f0.cs⟩]) mixed (by exact trivial) Tryz.func115 Tryz.call115 rfl rfl rfl (Nat.le_of_ble_eq_true rfl) (by kernel_rfl) h
theorem Gk (s:List Int) (t:TRoTask) (hl:s.length<=4611686018427387904):Sp 115 [.slc 3 (s.map (AV.int .i64)),.fn 102 [] [.ref 0 0]] [t.cs] (.int .i64 (yV (qY t 0) 0 s)) [t.cs]:=GV s t _ _ (by
 unfold Ie
 refine ⟨fun m vs=>∃ k:Nat,vs=[.int .i64 k,t.av]/\k<=s.length/\m=s.length-k/\yV (qY t 0) k (s.drop k)=yV (qY t 0) 0 s,⟨_,0,rfl,by omega,rfl,rfl⟩,?_⟩
 intro m
 intros
 rename_i hJ
 obtain ⟨k,hk,hle,rfl,hn⟩:=hJ
 unfold TRoTask.av TRoTask.cs at hk
 cases hk
 simp only [List.length_map]
 refine ⟨fun h3=>?_,fun h3=>⟨?_,by trivial⟩⟩
 ·have h3:k<s.length:=by have:=zt_ h3; omega
  obtain ⟨x,hx,hx'⟩:=yE (f:=(AV.int .i64)) h3
  have hat:=jh (f:=(qY t 0)) hx
  refine ⟨x,⟨by omega,by trivial,hx'⟩,_,FV x t,fun h4=>⟨?_,by trivial⟩,fun h4=>?_⟩
  ·rw [<- hn,hat,h4]; rfl
  ·have fin:∃ k',k'<s.length-k/\∃ j:Nat,[AV.int .i64 (IntKind.i64.wrap ((k:Int)+1)),t.av]=[.int .i64 j,t.av]/\j<=s.length/\k'=s.length-j/\yV (qY t 0) j (s.drop j)=yV (qY t 0) 0 s :=
    ⟨_,(by omega:s.length-(k+1)<s.length-k),k+1,by rw [yq (by omega)],by omega,rfl,by rw [<- hn,hat,h4]; rfl⟩
   first
    | exact fin
    | exact ⟨by trivial,fin⟩
 ·have:k=s.length:=by have:=zf_ h3; omega
  rw [<- hn,this,List.drop_length]; rfl)
def FP (s:List Int) (f0:TRoTask) (S:SpecF) (_Fr:FreshF) (_Sq:SeqF) (Q:yj):Prop :=
 ∃ n0,S 115 [AV.slc 3 (List.map (AV.int IntKind.i64) s),AV.fn (102:FuncId) [] [AV.ref 0 0]] [f0.cs] (iN n0) [f0.cs]/\Q (.bool (decide (n0>=0))) [f0.cs]
theorem DS (s:List Int) (f0:TRoTask) (v:AV) (O:List (List AV)) (h:FP s f0 Sp Fo So (fun r O'=>r=v/\O'=O)):Sp 73 [.slc 3 (List.map (AV.int .i64) s),.fn 102 [] [.ref 0 0]] [f0.cs] v O :=
 ye (w:=⟨[],[],[115],[],[]⟩) (k:=0) (keep:=⟨[0,1,4],[],[],[]⟩) (boxes:=[⟨31,false,f0.cs⟩]) mixed (by exact trivial) Tryz.func73 Tryz.call73 rfl rfl rfl (Nat.le_of_ble_eq_true rfl) (by kernel_rfl) h
theorem Ev (s:List Int) (t:TRoTask) (hl:s.length<=4611686018427387904):Sp 73 [.slc 3 (s.map (AV.int .i64)),.fn 102 [] [.ref 0 0]] [t.cs] (.bool (s.any (qY t 0))) [t.cs]:=DS s t _ _ ⟨_,Gk s t hl,by rw [qW],rfl⟩
def Ig (s:List Int) (f0:Int) (f1:TRoTask) (S:SpecF) (_Fr:FreshF) (_Sq:SeqF) (Q:yj):Prop :=
 ∃ (I0:Nat->List AV->Prop),(∃ m2,I0 m2 [iN 0,.agg [iN f0]])/\∀ (m2:Nat) (n3 n4:Int),I0 m2 [iN n3,.agg [iN n4]]->(decide (n3<(↑(List.map (AV.int IntKind.i64) s).length:Int))=true->∃ n8,((0:Int)<=n3/\(1:Nat)=(1:Nat)/\(List.map (AV.int IntKind.i64) s)[n3.toNat]?=some (iN n8))/\∃ b10,S 104 [iN n8,.ref 0 0,.ref 1 0] [[iN n4],f1.cs] (.bool b10) [[iN n4],f1.cs]/\(b10=true->Q (iN n3) [[iN n4],f1.cs])/\(b10=false->f1.cs=f1.cs/\∃ k15,k15<m2/\I0 k15 [iN (IntKind.i64.wrap (n3+1)),.agg [iN n4]]))/\(decide (n3<(↑(List.map (AV.int IntKind.i64) s).length:Int))=false->Q (iN (-1:Int)) [[iN n4],f1.cs])
theorem GW (s:List Int) (f0:Int) (f1:TRoTask) (v:AV) (O:List (List AV)) (h:Ig s f0 f1 Sp Fo So (fun r O'=>r=v/\O'=O)):Sp 115 [.slc 3 (List.map (AV.int .i64) s),.fn 104 [] [.ref 0 0,.ref 1 0]] [[iN f0],f1.cs] v O :=
 ye (w:=⟨[],[],[104],[],[]⟩) (k:=0) (keep:=⟨[0,1,4,5,7,8,9,16],[⟨2,[(8,iN 0)],[],[(1000000,.agg [iN 0])],[],[],[]⟩],[],[]⟩) (boxes:=[⟨3,false,[iN f0]⟩,⟨31,false,f1.cs⟩]) mixed (by exact trivial) Tryz.func115 Tryz.call115 rfl rfl rfl (Nat.le_of_ble_eq_true rfl) (by kernel_rfl) h
theorem Gl (s:List Int) (least:Int) (t:TRoTask) (hl:s.length<=4611686018427387904):Sp 115 [.slc 3 (s.map (AV.int .i64)),.fn 104 [] [.ref 0 0,.ref 1 0]] [[.int .i64 least],t.cs] (.int .i64 (yV (qY t least) 0 s)) [[.int .i64 least],t.cs]:=GW s least t _ _ (by
 unfold Ig
 refine ⟨fun m vs=>∃ k:Nat,vs=[.int .i64 k,.agg [.int .i64 least]]/\k<=s.length/\m=s.length-k/\yV (qY t least) k (s.drop k)=yV (qY t least) 0 s,⟨_,0,rfl,by omega,rfl,rfl⟩,?_⟩
 intro m
 intros
 rename_i hJ
 obtain ⟨k,hk,hle,rfl,hn⟩:=hJ
 cases hk
 simp only [List.length_map]
 refine ⟨fun h3=>?_,fun h3=>⟨?_,by trivial⟩⟩
 ·have h3:k<s.length:=by have:=zt_ h3; omega
  obtain ⟨x,hx,hx'⟩:=yE (f:=(AV.int .i64)) h3
  have hat:=jh (f:=(qY t least)) hx
  refine ⟨x,⟨by omega,by trivial,hx'⟩,_,FW x least t,fun h4=>⟨?_,by trivial⟩,fun h4=>?_⟩
  ·rw [<- hn,hat,h4]; rfl
  ·have fin:∃ k',k'<s.length-k/\∃ j:Nat,[AV.int .i64 (IntKind.i64.wrap ((k:Int)+1)),.agg [.int .i64 least]]=[.int .i64 j,.agg [.int .i64 least]]/\j<=s.length/\k'=s.length-j/\yV (qY t least) j (s.drop j)=yV (qY t least) 0 s :=
    ⟨_,(by omega:s.length-(k+1)<s.length-k),k+1,by rw [yq (by omega)],by omega,rfl,by rw [<- hn,hat,h4]; rfl⟩
   first
    | exact fin
    | exact ⟨by trivial,fin⟩
 ·have:k=s.length:=by have:=zf_ h3; omega
  rw [<- hn,this,List.drop_length]; rfl)
def FQ (s:List Int) (f0:Int) (f1:TRoTask) (S:SpecF) (_Fr:FreshF) (_Sq:SeqF) (Q:yj):Prop :=
 ∃ n0,S 115 [AV.slc 3 (List.map (AV.int IntKind.i64) s),AV.fn (104:FuncId) [] [AV.ref 0 0,.ref 1 0]] [[iN f0],f1.cs] (iN n0) [[iN f0],f1.cs]/\Q (.bool (decide (n0>=0))) [[iN f0],f1.cs]
theorem DT (s:List Int) (f0:Int) (f1:TRoTask) (v:AV) (O:List (List AV)) (h:FQ s f0 f1 Sp Fo So (fun r O'=>r=v/\O'=O)):Sp 73 [.slc 3 (List.map (AV.int .i64) s),.fn 104 [] [.ref 0 0,.ref 1 0]] [[iN f0],f1.cs] v O :=
 ye (w:=⟨[],[],[115],[],[]⟩) (k:=0) (keep:=⟨[0,1,4],[],[],[]⟩) (boxes:=[⟨3,false,[iN f0]⟩,⟨31,false,f1.cs⟩]) mixed (by exact trivial) Tryz.func73 Tryz.call73 rfl rfl rfl (Nat.le_of_ble_eq_true rfl) (by kernel_rfl) h
theorem Ew (s:List Int) (least:Int) (t:TRoTask) (hl:s.length<=4611686018427387904):Sp 73 [.slc 3 (s.map (AV.int .i64)),.fn 104 [] [.ref 0 0,.ref 1 0]] [[.int .i64 least],t.cs] (.bool (s.any (qY t least))) [[.int .i64 least],t.cs]:=DT s least t _ _ ⟨_,Gl s least t hl,by rw [qW],rfl⟩
theorem vw {P:List (List Int)} {k:Nat} (h:k<P.length):(yz P)[((k:Nat):Int).toNat]?=some (.slc 3 (ym P[k])):=by
 rw [Int.toNat_natCast]
 unfold yz
 rw [List.getElem?_map,List.getElem?_eq_getElem h]; rfl
def Ih (s:List (List Int)) (S:SpecF) (_Fr:FreshF) (_Sq:SeqF) (Q:yj):Prop :=
 ∃ (I0:Nat->List AV->Prop),(∃ m2,I0 m2 [iN 0])/\∀ (m2:Nat) (n3:Int),I0 m2 [iN n3]->(decide (n3<(↑(List.map (fun x=>AV.slc 3 (List.map (AV.int IntKind.i64) x)) s).length:Int))=true->∃ es7,((0:Int)<=n3/\(1:Nat)=(1:Nat)/\(List.map (fun x=>AV.slc 3 (List.map (AV.int IntKind.i64) x)) s)[n3.toNat]?=some (.slc 3 es7))/\∃ b9,S 101 [AV.slc 3 es7] [] (.bool b9) []/\(b9=true->Q (iN n3) [])/\(b9=false->∃ k13,k13<m2/\I0 k13 [iN (IntKind.i64.wrap (n3+1))]))/\(decide (n3<(↑(List.map (fun x=>AV.slc 3 (List.map (AV.int IntKind.i64) x)) s).length:Int))=false->Q (iN (-1:Int)) [])
theorem GX (s:List (List Int)) (v:AV) (O:List (List AV)) (h:Ih s Sp Fo So (fun r O'=>r=v/\O'=O)):Sp 121 [.slc 3 (List.map (fun x=>.slc 3 (List.map (AV.int .i64) x)) s),.fn 101 [] []] [] v O :=
 ye (w:=⟨[],[],[101],[],[]⟩) (k:=0) (keep:=⟨[0,1,4,5,7,8,9,16],[⟨2,[(8,iN 0)],[],[],[],[],[]⟩],[],[]⟩) (boxes:=[]) mixed (by exact trivial) Tryz.func121 Tryz.call121 rfl rfl rfl (Nat.le_of_ble_eq_true rfl) (by kernel_rfl) h
theorem Gn (s:List (List Int)) (hl:s.length<=4611686018427387904):Sp 121 [.slc 3 (yz s),.fn 101 [] []] [] (.int .i64 (yV wU 0 s)) []:=GX s _ _ (by
 unfold Ih
 refine ⟨fun m vs=>∃ k:Nat,vs=[.int .i64 k]/\k<=s.length/\m=s.length-k/\yV wU k (s.drop k)=yV wU 0 s,⟨_,0,rfl,by omega,rfl,rfl⟩,?_⟩
 rintro m n ⟨k,hk,hle,rfl,hn⟩
 cases hk
 simp only [List.length_map]
 refine ⟨fun h3=>?_,fun h3=>⟨?_,by trivial⟩⟩
 ·have h3:k<s.length:=by have:=zt_ h3; omega
  have hat:=jh (f:=wU) (List.getElem?_eq_getElem h3)
  refine ⟨_,⟨by omega,by trivial,vw h3⟩,_,FU s[k],fun h4=>⟨?_,by trivial⟩,fun h4=>⟨_,?_,k+1,?_,by omega,rfl,?_⟩⟩
  ·rw [<- hn,hat,h4]; rfl
  ·omega
  ·rw [yq (by omega)]
  ·rw [<- hn,hat,h4]; rfl
 ·have:k=s.length:=by have:=zf_ h3; omega
  rw [<- hn,this,List.drop_length]; rfl)
def FR (s:List (List Int)) (S:SpecF) (_Fr:FreshF) (_Sq:SeqF) (Q:yj):Prop :=
 ∃ n0,S 121 [AV.slc 3 (List.map (fun x=>AV.slc 3 (List.map (AV.int IntKind.i64) x)) s),AV.fn (101:FuncId) [] []] [] (iN n0) []/\Q (.bool (decide (n0>=0))) []
theorem DU (s:List (List Int)) (v:AV) (O:List (List AV)) (h:FR s Sp Fo So (fun r O'=>r=v/\O'=O)):Sp 93 [.slc 3 (List.map (fun x=>.slc 3 (List.map (AV.int .i64) x)) s),.fn 101 [] []] [] v O :=
 ye (w:=⟨[],[],[121],[],[]⟩) (k:=0) (keep:=⟨[0,1,4],[],[],[]⟩) (boxes:=[]) mixed (by exact trivial) Tryz.func93 Tryz.call93 rfl rfl rfl (Nat.le_of_ble_eq_true rfl) (by kernel_rfl) h
theorem Ey (s:List (List Int)) (hl:s.length<=4611686018427387904):Sp 93 [.slc 3 (yz s),.fn 101 [] []] [] (.bool (s.any wU)) []:=DU s _ _ ⟨_,Gn s hl,by rw [qW],rfl⟩
theorem XO {P:List (List Int)} {k:Nat} (h:k<P.length):(P.take (k+1)).flatten=(P.take k).flatten++P[k]:=by
 rw [List.take_add_one,List.getElem?_eq_getElem h,List.flatten_append]; simp
theorem TK {P:List (List Int)}:∀ k,(P.take k).flatten.length<=P.flatten.length:=fun k=>by
 have h:P.flatten=(P.take k).flatten++(P.drop k).flatten:=by rw [<- List.flatten_append,List.take_append_drop]
 rw [h,List.length_append]; omega
theorem wY (a b:List Int):ym (a++b)=ym a++ym b:=List.map_append
theorem yu (a:List Int):(ym a).length=a.length:=List.length_map ..
def R88 (slices:List (List Int)) (_S:SpecF) (Fr:FreshF) (_Sq:SeqF) (Q:yj):Prop :=
 ∃ (I0:Nat->List AV->Prop),(∃ m2,I0 m2 TEncl.zero.cs)/\∀ (m2:Nat) (n3 n4:Int),I0 m2 [iN n3,iN n4]->(decide (n4<(↑(List.map (fun x=>AV.slc 3 (List.map (AV.int IntKind.i64) x)) slices).length:Int))=true->∃ es8,((0:Int)<=n4/\(1:Nat)=(1:Nat)/\(List.map (fun x=>AV.slc 3 (List.map (AV.int IntKind.i64) x)) slices)[n4.toNat]?=some (.slc 3 es8))/\(decide (IntKind.i64.wrap (n3+(↑es8.length:Int))<0)=true->False)/\(decide (IntKind.i64.wrap (n3+(↑es8.length:Int))<0)=false->∃ k12,k12<m2/\I0 k12 [iN (IntKind.i64.wrap (n3+(↑es8.length:Int))),iN (IntKind.i64.wrap (n4+1))]))/\(decide (n4<(↑(List.map (fun x=>AV.slc 3 (List.map (AV.int IntKind.i64) x)) slices).length:Int))=false->∃ es8,Fr (120:Nat) [AV.slc 0 [],iN n3] (1:Nat) es8/\∃ (I10:Nat->List AV->Prop),(∃ es12,(es12.length=es8.length/\List.flatMap AV.cells es12=List.flatMap AV.cells es8)/\∃ m14,I10 m14 [iN 0,.slc 3 es12])/\∀ (m12:Nat) (n13:Int) (es14:List AV),I10 m12 [iN n13,.slc 3 es14]->(decide (n13<(↑(List.map (fun x=>AV.slc 3 (List.map (AV.int IntKind.i64) x)) slices).length:Int))=true->∃ es18,((0:Int)<=n13/\(1:Nat)=(1:Nat)/\(List.map (fun x=>AV.slc 3 (List.map (AV.int IntKind.i64) x)) slices)[n13.toNat]?=some (.slc 3 es18))/\yx (1:Nat) es18/\((List.flatMap AV.cells es14).length=es14.length*1/\(es14.length+es18.length+512)*41<=(1125899906842624:Nat)/\yw (List.flatMap AV.cells es18)=true/\yw (List.flatMap AV.cells es14)=true)/\∃ es22,(es22.length=es14.length+es18.length/\List.flatMap AV.cells es22=List.flatMap AV.cells es14++List.flatMap AV.cells es18)/\∃ k24,k24<m12/\I10 k24 [iN (IntKind.i64.wrap (n13+1)),.slc 3 es22])/\(decide (n13<(↑(List.map (fun x=>AV.slc 3 (List.map (AV.int IntKind.i64) x)) slices).length:Int))=false->((0:Nat)+es14.length*1<=(List.flatMap AV.cells es14).length/\yw (List.flatMap AV.cells es14)=true)/\Q (.slc 3 (chunks (1:Nat) (yk Tryz.prog (3:Nat)) es14.length (List.drop (0:Nat) (List.flatMap AV.cells es14)))) []))
theorem s88 (slices:List (List Int)) (v:AV) (O:List (List AV)) (h:R88 slices Sp Fo So (fun r O'=>r=v/\O'=O)):Sp 88 [.slc 3 (List.map (fun x=>.slc 3 (List.map (AV.int .i64) x)) slices)] [] v O :=
 ye (w:=⟨[120],[],[],[],[]⟩) (k:=0) (keep:=⟨[0,2,3,5,6,8,9,10,11,12,20,25,26,27,28],[⟨3,[(3,iN 0),(11,iN 0)],[],[],[],[],[]⟩,⟨11,[(27,iN 0)],[(6,3)],[],[],[],[]⟩],[],[]⟩) (boxes:=[]) mixed (by exact trivial) Tryz.func88 Tryz.call88 rfl rfl rfl (Nat.le_of_ble_eq_true rfl) (by kernel_rfl) h
theorem c88 (P:List (List Int)) (hl:P.length<=1048576) (hf:P.flatten.length<=1048576):Sp 88 [.slc 3 (yz P)] [] (.slc 3 (ym P.flatten)) []:=s88 P _ _ (by
 unfold R88
 refine ⟨fun m vs=>∃ k:Nat,vs=[.int .i64 ((P.take k).flatten.length:Nat),.int .i64 k]/\k<=P.length/\m=P.length-k,⟨_,0,rfl,by omega,rfl⟩,?_⟩
 rintro m n3 n4 ⟨k,hk,hle,rfl⟩
 cases hk
 simp only [List.length_map]
 refine ⟨fun h3=>?_,fun h3=>?_⟩
 ·have h3:k<P.length:=by have:=zt_ h3; omega
  have hs:=XO h3
  have h4:(P.take (k+1)).flatten.length=(P.take k).flatten.length+P[k].length:=by rw [hs,List.length_append]
  have h5:=TK (P:=P) (k+1)
  refine ⟨_,⟨by omega,by trivial,vw h3⟩,?_⟩
  rw [yu,show ((P.take k).flatten.length:Int)+(P[k].length:Int)=((P.take (k+1)).flatten.length:Nat) by omega,i64 (by omega)]
  refine ⟨fun h=>?_,fun _=>⟨_,(by omega:P.length-(k+1)<P.length-k),k+1,by rw [yq (by omega)],by omega,rfl⟩⟩
  have:=zt_ h; omega
 ·have h3:k=P.length:=by have:=zf_ h3; omega
  subst h3
  rw [List.take_length]
  refine ⟨[],LN _ hf,fun m vs=>∃ k:Nat,vs=[.int .i64 k,.slc 3 (ym (P.take k).flatten)]/\k<=P.length/\m=P.length-k,⟨[],⟨rfl,rfl⟩,_,0,rfl,by omega,rfl⟩,?_⟩
  rintro m n13 es14 ⟨k,hk,hle,rfl⟩
  cases hk
  have hb:=TK (P:=P) k
  have hc:(List.flatMap AV.cells (ym (P.take k).flatten)).length=(P.take k).flatten.length:=by rw [xj yT,yu]
  have ho:yw (List.flatMap AV.cells (ym (P.take k).flatten))=true:=by rw [xj yT]; exact qX _
  refine ⟨fun h3=>?_,fun h3=>?_⟩
  ·have h3:k<P.length:=by have:=zt_ h3; omega
   have h5:=TK (P:=P) (k+1)
   have h4:(P.take (k+1)).flatten.length=(P.take k).flatten.length+P[k].length:=by rw [XO h3,List.length_append]
   refine ⟨_,⟨by omega,by trivial,vw h3⟩,YL yT,⟨by rw [hc,yu,Nat.mul_one],by rw [yu,yu]; omega,by rw [xj yT]; exact qX _,ho⟩,ym (P.take (k+1)).flatten,⟨by rw [yu,yu,yu,h4],by rw [XO h3,wY,List.flatMap_append]⟩,_,(by omega:P.length-(k+1)<P.length-k),k+1,by rw [yq (by omega)],by omega,rfl⟩
  ·have h3:k=P.length:=by have:=zf_ h3; omega
   subst h3
   rw [List.take_length] at *
   refine ⟨⟨by rw [hc,yu]; omega,ho⟩,?_,by trivial⟩
   rw [MU,List.drop_zero,show chunks 1 false (ym P.flatten).length (List.flatMap AV.cells (ym P.flatten))=ym P.flatten from vl (Vc yT)])
def jv (t:TRoTask) (plan:List (List Int)):Int :=
 if (jx t).2.2≠0 then (jx t).2.2 else if plan.length≠t.Lorries.length then 2 else if plan.any wU then 3 else if plan.flatten.any (qY t 0) then 4 else 0
def xM (t:TRoTask) (plan:List (List Int)):AV:=if jv t plan≠0 then .tup [.nilp,.int .i64 (jv t plan)] else .tup [(yg t).ptr,.int .i64 0]
theorem YC:∀ {P:List (List Int)} {k:Nat},(∀ x∈P,x.length<=k)->P.flatten.length<=P.length*k
 | [],_,_=>by simp
 | x::r,k,h=>by
  have h1:=h x List.mem_cons_self
  have h2:=YC (P:=r) fun y hy=>h y (List.mem_cons_of_mem _ hy)
  rw [List.flatten_cons,List.length_append,List.length_cons,Nat.add_mul]; omega
def R50 (t:TRoTask) (plan:List (List Int)) (S:SpecF) (_Fr:FreshF) (_Sq:SeqF) (Q:yj):Prop :=
 (∃ n1,S 46 [t.av] [] (.tup [AV.nilp,iN n1]) []/\((n1 != 0)=true->Q (.tup [AV.nilp,iN n1]) [])/\((n1 != 0)=false->(((↑(List.map (fun x=>AV.slc 3 (List.map (AV.int IntKind.i64) x)) plan).length:Int) != (↑(List.map TRoLorry.av t.Lorries).length:Int))=true->Q (.tup [AV.nilp,iN 2]) [])/\(((↑(List.map (fun x=>AV.slc 3 (List.map (AV.int IntKind.i64) x)) plan).length:Int) != (↑(List.map TRoLorry.av t.Lorries).length:Int))=false->∃ b7,S 93 [AV.slc 3 (List.map (fun x=>AV.slc 3 (List.map (AV.int IntKind.i64) x)) plan),AV.fn (101:Nat) [] []] [] (.bool b7) []/\(b7=true->Q (.tup [AV.nilp,iN 3]) [])/\(b7=false->∃ es11,S 88 [AV.slc 3 (List.map (fun x=>AV.slc 3 (List.map (AV.int IntKind.i64) x)) plan)] [] (.slc 3 es11) []/\∃ b13,S 73 [AV.slc 3 es11,AV.fn (102:Nat) [] [AV.ref 0 0]] [t.cs] (.bool b13) [t.cs]/\(b13=true->Q (.tup [AV.nilp,iN 4]) [])/\(b13=false->Q (.tup [AV.nilp,iN 0]) [])))))\/∃ n1 n2 n3 n4 n5 n6 n7 n8 n9 es10 es11 es12 es13 es14 n15,S 46 [t.av] [] (.tup [AV.eptr [iN n1,iN n2,iN n3,iN n4,iN n5,iN n6,iN n7,iN n8,iN n9,.slc 3 es10,.slc 3 es11,.slc 3 es12,.slc 3 es13,.slc 3 es14] (0:Nat),iN n15]) []/\((n15 != 0)=true->Q (.tup [AV.nilp,iN n15]) [])/\((n15 != 0)=false->(((↑(List.map (fun x=>AV.slc 3 (List.map (AV.int IntKind.i64) x)) plan).length:Int) != (↑(List.map TRoLorry.av t.Lorries).length:Int))=true->Q (.tup [AV.nilp,iN 2]) [])/\(((↑(List.map (fun x=>AV.slc 3 (List.map (AV.int IntKind.i64) x)) plan).length:Int) != (↑(List.map TRoLorry.av t.Lorries).length:Int))=false->∃ b21,S 93 [AV.slc 3 (List.map (fun x=>AV.slc 3 (List.map (AV.int IntKind.i64) x)) plan),AV.fn (101:Nat) [] []] [] (.bool b21) []/\(b21=true->Q (.tup [AV.nilp,iN 3]) [])/\(b21=false->∃ es25,S 88 [AV.slc 3 (List.map (fun x=>AV.slc 3 (List.map (AV.int IntKind.i64) x)) plan)] [] (.slc 3 es25) []/\∃ b27,S 73 [AV.slc 3 es25,AV.fn (102:Nat) [] [AV.ref 0 0]] [t.cs] (.bool b27) [t.cs]/\(b27=true->Q (.tup [AV.nilp,iN 4]) [])/\(b27=false->Q (.tup [AV.eptr [iN n1,iN n2,iN n3,iN n4,iN n5,iN n6,iN n7,iN n8,iN n9,.slc 3 es10,.slc 3 es11,.slc 3 es12,.slc 3 es13,.slc 3 es14] (0:Nat),iN 0]) []))))
theorem s50 (t:TRoTask) (plan:List (List Int)) (v:AV) (O:List (List AV)) (h:R50 t plan Sp Fo So (fun r O'=>r=v/\O'=O)):Sp 50 [t.av,.slc 3 (List.map (fun x=>.slc 3 (List.map (AV.int .i64) x)) plan)] [] v O :=
 ye (w:=⟨[],[(46,[.tup [.nilp,iN 0],.tup [.eptr [iN 0,iN 0,iN 0,iN 0,iN 0,iN 0,iN 0,iN 0,iN 0,.slc 3 [],.slc 3 [],.slc 3 [],.slc 3 [],.slc 3 []] 0,iN 0]])],[93,73],[],[]⟩) (k:=0) (keep:=⟨[0,1,2,4,5,6,7,8,9,16,20,27,31],[],[],[]⟩) (boxes:=[]) mixed (by exact trivial) Tryz.func50 Tryz.call50 rfl rfl rfl (Nat.le_of_ble_eq_true rfl) (by kernel_rfl) h
theorem c50 (t:TRoTask) (ht:vM t) (plan:List (List Int)):Sp 50 [t.av,.slc 3 (yz plan)] [] (xM t plan) []:=s50 t plan _ _ (by
 unfold R50
 have hb:=c46 t ht
 unfold WZ at hb
 by_cases he:(jx t).2.2≠0
 ·have hE:jv t plan=(jx t).2.2:=if_pos he
  rw [if_pos he] at hb
  refine .inl ⟨_,hb,fun _=>⟨by unfold xM; rw [hE,if_pos he],by trivial⟩,fun h=>absurd h (by simpa using he)⟩
 rw [if_neg he] at hb
 have hv:=Xv (Decidable.not_not.1 he)
 have hll:=hv.ll
 have hE:jv t plan=if plan.length≠t.Lorries.length then 2 else if plan.any wU then 3 else if plan.flatten.any (qY t 0) then 4 else 0:=if_neg he
 simp only [List.length_map]
 have hd:((plan.length:Int) != (t.Lorries.length:Int))=decide (plan.length≠t.Lorries.length):=by rw [Bool.eq_iff_iff]; simp; omega
 rw [hd]
 refine .inr ⟨_,_,_,_,_,_,_,_,_,_,_,_,_,_,_,hb,fun h=>by simp at h,fun _=>⟨fun h1=>?_,fun h1=>?_⟩⟩
 ·exact ⟨by unfold xM; rw [hE,if_pos (zt_ h1)]; rfl,by trivial⟩
 have h1:=zf_ h1
 rw [if_neg h1] at hE
 have h1:=Decidable.not_not.1 h1
 refine ⟨_,Ey plan (by omega),fun h2=>⟨by unfold xM; rw [hE,if_pos h2]; rfl,by trivial⟩,fun h2=>?_⟩
 rw [if_neg (by rw [h2]; simp)] at hE
 have h6:∀ x∈plan,x.length<=6:=fun x hx=>by
  have h3:wU x=false:=by simpa using List.any_eq_false.1 h2 x hx
  unfold wU at h3
  have:=zf_ h3
  omega
 have h7:=YC h6
 refine ⟨_,c88 plan (by omega) (by omega),_,Ev plan.flatten t (by omega),fun h3=>⟨by unfold xM; rw [hE,if_pos h3]; rfl,by trivial⟩,fun h3=>⟨?_,by trivial⟩⟩
 rw [if_neg (by rw [h3]; simp)] at hE
 unfold xM; rw [hE,if_neg (by simp)]; rfl)
def Qh (t:TRoTask) (least:Int) (l:List Int):AV:=if (jx t).2.2≠0 then .tup [.nilp,.int .i64 (jx t).2.2] else .tup [(yg t).ptr,.int .i64 (if l.any (qY t least) then 4 else 0)]
def R52 (t:TRoTask) (least:Int) (l:List Int) (S:SpecF) (_Fr:FreshF) (_Sq:SeqF) (Q:yj):Prop :=
 (∃ n1,S 46 [t.av] [] (.tup [AV.nilp,iN n1]) []/\((n1 == 0)=true->∃ b5,S 73 [AV.slc 3 (List.map (AV.int IntKind.i64) l),AV.fn (104:Nat) [] [AV.ref 0 0,.ref 1 0]] [[iN least],t.cs] (.bool b5) [[iN least],t.cs]/\(b5=true->Q (.tup [AV.nilp,iN 4]) [])/\(b5=false->Q (.tup [AV.nilp,iN n1]) []))/\((n1 == 0)=false->Q (.tup [AV.nilp,iN n1]) []))\/∃ n1 n2 n3 n4 n5 n6 n7 n8 n9 es10 es11 es12 es13 es14 n15,S 46 [t.av] [] (.tup [AV.eptr [iN n1,iN n2,iN n3,iN n4,iN n5,iN n6,iN n7,iN n8,iN n9,.slc 3 es10,.slc 3 es11,.slc 3 es12,.slc 3 es13,.slc 3 es14] (0:Nat),iN n15]) []/\((n15 == 0)=true->∃ b19,S 73 [AV.slc 3 (List.map (AV.int IntKind.i64) l),AV.fn (104:Nat) [] [AV.ref 0 0,.ref 1 0]] [[iN least],t.cs] (.bool b19) [[iN least],t.cs]/\(b19=true->Q (.tup [AV.eptr [iN n1,iN n2,iN n3,iN n4,iN n5,iN n6,iN n7,iN n8,iN n9,.slc 3 es10,.slc 3 es11,.slc 3 es12,.slc 3 es13,.slc 3 es14] (0:Nat),iN 4]) [])/\(b19=false->Q (.tup [AV.eptr [iN n1,iN n2,iN n3,iN n4,iN n5,iN n6,iN n7,iN n8,iN n9,.slc 3 es10,.slc 3 es11,.slc 3 es12,.slc 3 es13,.slc 3 es14] (0:Nat),iN n15]) []))/\((n15 == 0)=false->Q (.tup [AV.eptr [iN n1,iN n2,iN n3,iN n4,iN n5,iN n6,iN n7,iN n8,iN n9,.slc 3 es10,.slc 3 es11,.slc 3 es12,.slc 3 es13,.slc 3 es14] (0:Nat),iN n15]) [])
theorem s52 (t:TRoTask) (least:Int) (l:List Int) (v:AV) (O:List (List AV)) (h:R52 t least l Sp Fo So (fun r O'=>r=v/\O'=O)):Sp 52 [t.av,iN least,.slc 3 (List.map (AV.int .i64) l)] [] v O :=
 ye (w:=⟨[],[(46,[.tup [.nilp,iN 0],.tup [.eptr [iN 0,iN 0,iN 0,iN 0,iN 0,iN 0,iN 0,iN 0,iN 0,.slc 3 [],.slc 3 [],.slc 3 [],.slc 3 [],.slc 3 []] 0,iN 0]])],[73],[],[]⟩) (k:=0) (keep:=⟨[0,1,2,3,4,6,7,8,9,21],[],[],[]⟩) (boxes:=[]) mixed (by exact trivial) Tryz.func52 Tryz.call52 rfl rfl rfl (Nat.le_of_ble_eq_true rfl) (by kernel_rfl) h
theorem c52 (t:TRoTask) (ht:vM t) (least:Int) (l:List Int) (hl:l.length<=4611686018427387904):Sp 52 [t.av,.int .i64 least,.slc 3 (ym l)] [] (Qh t least l) []:=s52 t least l _ _ (by
 unfold R52
 have hb:=c46 t ht
 unfold WZ at hb
 by_cases he:(jx t).2.2≠0
 ·rw [if_pos he] at hb
  refine .inl ⟨_,hb,fun h=>absurd h (by simpa using he),fun _=>⟨by unfold Qh; rw [if_pos he],by trivial⟩⟩
 rw [if_neg he] at hb
 refine .inr ⟨_,_,_,_,_,_,_,_,_,_,_,_,_,_,_,hb,fun _=>⟨_,Ew l least t hl,fun h=>⟨by unfold Qh; rw [if_neg he,if_pos h]; rfl,by trivial⟩,fun h=>⟨by unfold Qh; rw [if_neg he,if_neg (by rw [h]; simp)]; rfl,by trivial⟩⟩,fun h=>by simp at h⟩)
end Go.Proofs.YtdeeekgohhkdbaaGreatDoor
