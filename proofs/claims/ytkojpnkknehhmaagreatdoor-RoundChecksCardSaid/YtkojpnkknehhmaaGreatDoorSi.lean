/- Contracts: growing a slice that is nil, by the library's contract. Contracts: lists joined; the depot of a task with some jobs, or with a plan. -/
import Derived.Shelf.Spec.SlicesGrow
import Derived.Test.YtkojpnkknehhmaaGreatDoorSf
namespace Go.Proofs.YtkojpnkknehhmaaGreatDoor
open Go.IntKind (wrap i64 u64)
open Go.RowKit
def wN:Go.Shelf.Ren:=⟨fun x=>match x with | 4=>112 | n=>n,fun x=>match x with | 22=>44 | 25=>3 | n=>n,fun x=>x⟩
theorem QH:Go.Proofs.Lays8.n4 Tryz.prog wN where
 mixed:=by kernel_rfl
 f4:=⟨ "slices.Grow[[]int,int]", by decide,Tryz.func112.trans (by kernel_rfl)⟩
 t0:=Tryz.underlying0
 a0:=Tryz.isAgg0
 z0:=Tryz.sizeOf0
 v0:=Tryz.zeroValue0
 t3:=Tryz.underlying3
 a3:=Tryz.isAgg3
 z3:=Tryz.sizeOf3
 v3:=Tryz.zeroValue3
 t4:=Tryz.underlying4
 a4:=Tryz.isAgg4
 z4:=Tryz.sizeOf4
 v4:=Tryz.zeroValue4
 t9:=Tryz.underlying9
 a9:=Tryz.isAgg9
 z9:=Tryz.sizeOf9
 v9:=Tryz.zeroValue9
 t20:=Tryz.underlying20
 a20:=Tryz.isAgg20
 z20:=Tryz.sizeOf20
 v20:=Tryz.zeroValue20
 t22:=Tryz.underlying44
 a22:=Tryz.isAgg44
 z22:=Tryz.sizeOf44
 v22:=Tryz.zeroValue44
theorem L4 (n:Nat) (hn:n<=1048576):kS Tryz.prog 112 [.slc 0 [],.int .i64 n] 1 []:=by
 refine(⟨Tryz.call112,fun ρ w vs hgl hro hargs=>?_⟩:Wz _ _ _ _ _);have hv:vs=#[.slice none 0 0,.int .i64 n]:=by
  obtain ⟨hs,hj⟩:=hargs;have h0:=hj 0;have h1:=hj 1;have hs:vs.size=2:=hs.symm;obtain ⟨l⟩:=vs;match l,hs with
  |[a,b],_ =>
   have h0:Rv ρ none (.slc 0 []) a:=h0;have h1:Rv ρ none (.int .i64 n) b:=h1;cases h1;cases h0 with
   |nilslc=>rfl
   |eslc _ _ a hm=>exact absurd rfl hm
   |slc _ _ _ b o cap k c hm=>exact absurd rfl hm
 subst hv;have hB:ρ w.heap.size=none:=by
  cases h:ρ w.heap.size with
  |none=>rfl
  |some o=>have:=(Array.getElem?_eq_some_iff.1 (hro _ _ h)).1;omega
 by_cases h0:n=0
 ·subst h0;refine(Any8.slices_Grow_room QH none 0 0 0 w (by omega) (by omega) (by omega) (by omega)).mono ?_;rintro e w' ⟨rfl,rfl⟩;exact⟨⟨ρ,w'.heap.size,0,_,rfl,RO.le_refl ρ,hro,fun k o h h'=>(by rw[h] at h';cases h'),fun ag=>.aslc0 _ 0 1 ag none,hB,Nat.le_refl _,Nat.le_refl _,.inl rfl⟩,fun _ _=>rfl,Nat.le_refl _,rfl,rfl,rfl⟩
 ·obtain ⟨i0,hi0,hz0,hs0,hb0⟩:∃i0:TypeInfo,Tryz.prog.info? (wN.t 25)=some i0/\i0.zero=some (.int .i64 0)/\i0.size=1/\i0.bytes=8:=by
   cases h:Tryz.prog.info? (wN.t 25) with
   |none=>exact absurd (show (Tryz.prog.info? (wN.t 25)).isSome=true by kernel_rfl) (by rw[h];simp)
   |some i =>
    have h1:(Tryz.prog.info? (wN.t 25)).map (fun i=>(i.zero,i.size,i.bytes))=some (some (.int .i64 0),1,8):=by kernel_rfl
    rw[h] at h1;simp only[Option.map_some,Option.some.injEq,Prod.mk.injEq] at h1;exact⟨i,rfl,h1.1,h1.2.1,h1.2.2⟩
  refine(Any8.slices_Grow_grow QH i0 (.int .i64 0) hi0 hz0 (by omega) none 0 0 n [] w (by omega) (by omega) (by rw[hb0];omega) (by omega) (by simp) (fun _=>rfl) (fun a h=>by cases h)).mono ?_;rintro e w' ⟨rfl,rfl⟩;have hG:=grownCap_ge w (0+n) 0 (wN.t 25);generalize grownCap w (0+n) 0 (wN.t 25)=G at hG ⊢;have hle:w.heap.size<=(w.drew.alloc (.cells (([]:List Value).toArray++Builtin.zeroCells (Value.int .i64 0).cells (0+n-0)++Builtin.zeroCells (Value.int .i64 0).cells (G-(0+n))) (wN.t 25))).heap.size:=by
   show w.heap.size<=(w.heap.push _).size;rw[Array.size_push];omega
  refine⟨⟨ρ,w.heap.size,G,_,rfl,RO.le_refl ρ,fun k o h=>?_,fun k o h h'=>(by rw[h] at h';cases h'),fun ag=>.aslc _ 0 0 0 1 ag G (by show 0<=G;omega) (by show 0+G*1<=G;omega),hB,Nat.le_refl _,Nat.zero_le _,.inr ⟨([]:List Value).toArray++Builtin.zeroCells (Value.int .i64 0).cells (0+n-0)++Builtin.zeroCells (Value.int .i64 0).cells (G-(0+n)),wN.t 25,?_,?_,fun j=>.undef _ _⟩⟩,fun k hk=>?_,hle,rfl,rfl,rfl⟩
  ·have:=(Array.getElem?_eq_some_iff.1 (hro _ _ h)).1;show (w.heap.push _)[k]? = some o;rw[Array.getElem?_push_lt this,<- Array.getElem?_eq_getElem this];exact hro _ _ h
  ·show (w.heap.push _)[w.heap.size]? = some _;rw[Array.getElem?_push_size]
  ·have hz:∀m,(Builtin.zeroCells (Value.int .i64 0).cells m).size=m:=fun m=>by simp[Builtin.zeroCells,Value.cells]
   simp[hz];omega
  ·show (w.heap.push _)[k]? = _;rw[Array.getElem?_push_lt hk,<- Array.getElem?_eq_getElem hk]
def yX (t:TRoTask) (least n:Int):Bool:=yD n least (wrap i64 ((t.Jobs.length:Int)-1))
def xu (l:List Int):Bool:=decide ((l.length:Int)>6)
def Gg (l:List Int) (_S:SpecF) (_Fr:FreshF) (_Sq:SeqF) (Q:yc):Prop :=
 Q (.bool (decide ((↑(List.map (AV.int i64) l).length:Int)>(6:Int)))) []
theorem zbI (l:List Int) (v:AV) (O:List (List AV)) (h:Gg l Sp Fo So (fun r O'=>r=v/\O'=O)):Sp 100 [.slc 3 (List.map (AV.int .i64) l)] [] v O :=
 yb (w:=⟨[],[],[],[],[]⟩) (k:=0) (keep:=⟨[0,2],[],[],[]⟩) (boxes:=[]) mixed (by exact trivial) Tryz.func100 Tryz.call100 rfl rfl rfl (Nat.le_of_ble_eq_true rfl) (by kernel_rfl) h
theorem zau (l:List Int):Sp 100 [.slc 3 (yn l)] [] (.bool (xu l)) []:=zbI l _ _ (by
 unfold Gg;rw[List.length_map];exact⟨rfl,rfl⟩)
def Gh (n:Int) (v0:TRoTask) (S:SpecF) (_Fr:FreshF) (_Sq:SeqF) (Q:yc):Prop :=
 ∃b0,S 29 [iN n,iN 0,iN (wrap i64 ((↑(List.map TRoJob.av v0.Jobs).length:Int)-(1:Int)))] [] (.bool b0) []/\Q (.bool b0) [v0.cs]
theorem zbJ (n:Int) (v0:TRoTask) (v:AV) (O:List (List AV)) (h:Gh n v0 Sp Fo So (fun r O'=>r=v/\O'=O)):Sp 101 [iN n,.ref 0 0] [v0.cs] v O :=
 yb (w:=⟨[],[],[],[],[]⟩) (k:=0) (keep:=⟨[0,1,3],[],[],[]⟩) (boxes:=[⟨31,false,v0.cs⟩]) mixed (by exact trivial) Tryz.func101 Tryz.call101 rfl rfl rfl (Nat.le_of_ble_eq_true rfl) (by kernel_rfl) h
theorem zav (n:Int) (t:TRoTask):Sp 101 [.int .i64 n,.ref 0 0] [t.cs] (.bool (yX t 0 n)) [t.cs]:=zbJ n t _ _ (by
 unfold Gh yX;rw[List.length_map];exact⟨_,c29 ..,rfl,rfl⟩)
def R90 (n v0:Int) (v1:TRoTask) (S:SpecF) (_Fr:FreshF) (_Sq:SeqF) (Q:yc):Prop :=
 ∃b0,S 29 [iN n,iN v0,iN (wrap i64 ((↑(List.map TRoJob.av v1.Jobs).length:Int)-(1:Int)))] [] (.bool b0) []/\Q (.bool b0) [[iN v0],v1.cs]
theorem s90 (n:Int) (v0:Int) (v1:TRoTask) (v:AV) (O:List (List AV)) (h:R90 n v0 v1 Sp Fo So (fun r O'=>r=v/\O'=O)):Sp 90 [iN n,.ref 0 0,.ref 1 0] [[iN v0],v1.cs] v O :=
 yb (w:=⟨[],[],[],[],[]⟩) (k:=0) (keep:=⟨[0,1,2,4],[],[],[]⟩) (boxes:=[⟨3,false,[iN v0]⟩,⟨31,false,v1.cs⟩]) mixed (by exact trivial) Tryz.func90 Tryz.call90 rfl rfl rfl (Nat.le_of_ble_eq_true rfl) (by kernel_rfl) h
theorem c90 (n least:Int) (t:TRoTask):Sp 90 [.int .i64 n,.ref 0 0,.ref 1 0] [[.int .i64 least],t.cs] (.bool (yX t least n)) [[.int .i64 least],t.cs]:=s90 n least t _ _ (by
 unfold R90 yX;rw[List.length_map];exact⟨_,c29 ..,rfl,rfl⟩)
def Fh (s:List Int) (f0:TRoTask) (S:SpecF) (_Fr:FreshF) (_Sq:SeqF) (Q:yc):Prop :=
 ∃(I0:Nat->List AV->Prop),(∃m2,I0 m2 [iN 0,f0.av])/\∀(m2:Nat) (n3 n4 n5 n6 n7 n8 n9 n10 n11 n12:Int) (es13 es14 es15 es16:List AV),I0 m2 [iN n3,.agg [iN n4,iN n5,iN n6,iN n7,iN n8,iN n9,iN n10,iN n11,iN n12,.slc 3 es13,.slc 3 es14,.slc 3 es15,.slc 3 es16]]->(decide (n3<(↑(List.map (AV.int i64) s).length:Int))=true->∃n20,((0:Int)<=n3/\(1:Nat)=(1:Nat)/\(List.map (AV.int i64) s)[n3.toNat]? = some (iN n20))/\∃b22,S 101 [iN n20,.ref 0 0] [[iN n4,iN n5,iN n6,iN n7,iN n8,iN n9,iN n10,iN n11,iN n12,.slc 3 es13,.slc 3 es14,.slc 3 es15,.slc 3 es16]] (.bool b22) [[iN n4,iN n5,iN n6,iN n7,iN n8,iN n9,iN n10,iN n11,iN n12,.slc 3 es13,.slc 3 es14,.slc 3 es15,.slc 3 es16]]/\(b22=true->Q (iN n3) [[iN n4,iN n5,iN n6,iN n7,iN n8,iN n9,iN n10,iN n11,iN n12,.slc 3 es13,.slc 3 es14,.slc 3 es15,.slc 3 es16]])/\(b22=false->∃k26,k26<m2/\I0 k26 [iN (wrap i64 (n3+1)),.agg [iN n4,iN n5,iN n6,iN n7,iN n8,iN n9,iN n10,iN n11,iN n12,.slc 3 es13,.slc 3 es14,.slc 3 es15,.slc 3 es16]]))/\(decide (n3<(↑(List.map (AV.int i64) s).length:Int))=false->Q (iN (-1:Int)) [[iN n4,iN n5,iN n6,iN n7,iN n8,iN n9,iN n10,iN n11,iN n12,.slc 3 es13,.slc 3 es14,.slc 3 es15,.slc 3 es16]])
theorem zdv (s:List Int) (f0:TRoTask) (v:AV) (O:List (List AV)) (h:Fh s f0 Sp Fo So (fun r O'=>r=v/\O'=O)):Sp 87 [.slc 3 (List.map (AV.int .i64) s),.fn 101 [] [.ref 0 0]] [f0.cs] v O :=
 yb (w:=⟨[],[],[101],[],[]⟩) (k:=0) (keep:=⟨[0,1,4,5,7,8,9,16],[⟨2,[(8,iN 0)],[],[(1000000,.agg [iN 0,iN 0,iN 0,iN 0,iN 0,iN 0,iN 0,iN 0,iN 0,.slc 3 [],.slc 3 [],.slc 3 [],.slc 3 []])],[],[],[]⟩],[],[]⟩) (boxes:=[⟨31,false,f0.cs⟩]) mixed (by exact trivial) Tryz.func87 Tryz.call87 rfl rfl rfl (Nat.le_of_ble_eq_true rfl) (by kernel_rfl) h
theorem zbo (s:List Int) (t:TRoTask) (hl:s.length<=4611686018427387904):Sp 87 [.slc 3 (s.map (AV.int .i64)),.fn 101 [] [.ref 0 0]] [t.cs] (.int .i64 (yA (yX t 0) 0 s)) [t.cs]:=zdv s t _ _ (by
 unfold Fh;refine⟨fun m vs=>∃k:Nat,vs=[.int .i64 k,t.av]/\k<=s.length/\m=s.length-k/\yA (yX t 0) k (s.drop k)=yA (yX t 0) 0 s,⟨_,0,rfl,by omega,rfl,rfl⟩,?_⟩;intro m;intros;rename_i hJ;obtain ⟨k,hk,hle,rfl,hn⟩:=hJ;unfold TRoTask.av TRoTask.cs at hk;cases hk;simp only[List.length_map];refine⟨fun h3=>?_,fun h3=>⟨?_,by trivial⟩⟩
 ·have h3:k<s.length:=by have:=zt_ h3;omega
  obtain ⟨x,hx,hx'⟩:=ym (f:=(AV.int .i64)) h3;have hat:=qX (f:=(yX t 0)) hx;refine⟨x,⟨by omega,by trivial,hx'⟩,_,zav x t,fun h4=>⟨?_,by trivial⟩,fun h4=>?_⟩
  ·rw[<- hn,hat,h4];rfl
  ·have fin:∃k',k'<s.length-k/\∃j:Nat,[AV.int .i64 (wrap i64 ((k:Int)+1)),t.av]=[.int .i64 j,t.av]/\j<=s.length/\k'=s.length-j/\yA (yX t 0) j (s.drop j)=yA (yX t 0) 0 s :=
    ⟨_,(by omega:s.length-(k+1)<s.length-k),k+1,by rw[yg (by omega)],by omega,rfl,by rw[<- hn,hat,h4];rfl⟩
   first
    |exact fin
    |exact⟨by trivial,fin⟩
 ·have:k=s.length:=by have:=zf_ h3;omega
  rw[<- hn,this,List.drop_length];rfl)
def zas (s:List Int) (f0:TRoTask) (S:SpecF) (_Fr:FreshF) (_Sq:SeqF) (Q:yc):Prop :=
 ∃n0,S 87 [AV.slc 3 (List.map (AV.int i64) s),AV.fn (101:FuncId) [] [AV.ref 0 0]] [f0.cs] (iN n0) [f0.cs]/\Q (.bool (decide (n0>=0))) [f0.cs]
theorem zdq (s:List Int) (f0:TRoTask) (v:AV) (O:List (List AV)) (h:zas s f0 Sp Fo So (fun r O'=>r=v/\O'=O)):Sp 42 [.slc 3 (List.map (AV.int .i64) s),.fn 101 [] [.ref 0 0]] [f0.cs] v O :=
 yb (w:=⟨[],[],[87],[],[]⟩) (k:=0) (keep:=⟨[0,1,4],[],[],[]⟩) (boxes:=[⟨31,false,f0.cs⟩]) mixed (by exact trivial) Tryz.func42 Tryz.call42 rfl rfl rfl (Nat.le_of_ble_eq_true rfl) (by kernel_rfl) h
theorem zbj (s:List Int) (t:TRoTask) (hl:s.length<=4611686018427387904):Sp 42 [.slc 3 (s.map (AV.int .i64)),.fn 101 [] [.ref 0 0]] [t.cs] (.bool (s.any (yX t 0))) [t.cs]:=zdq s t _ _ ⟨_,zbo s t hl,by rw[jk],rfl⟩
def Fi (s:List Int) (f0:Int) (f1:TRoTask) (S:SpecF) (_Fr:FreshF) (_Sq:SeqF) (Q:yc):Prop :=
 ∃(I0:Nat->List AV->Prop),(∃m2,I0 m2 [iN 0,.agg [iN f0]])/\∀(m2:Nat) (n3 n4:Int),I0 m2 [iN n3,.agg [iN n4]]->(decide (n3<(↑(List.map (AV.int i64) s).length:Int))=true->∃n8,((0:Int)<=n3/\(1:Nat)=(1:Nat)/\(List.map (AV.int i64) s)[n3.toNat]? = some (iN n8))/\∃b10,S 90 [iN n8,.ref 0 0,.ref 1 0] [[iN n4],f1.cs] (.bool b10) [[iN n4],f1.cs]/\(b10=true->Q (iN n3) [[iN n4],f1.cs])/\(b10=false->f1.cs=f1.cs/\∃k15,k15<m2/\I0 k15 [iN (wrap i64 (n3+1)),.agg [iN n4]]))/\(decide (n3<(↑(List.map (AV.int i64) s).length:Int))=false->Q (iN (-1:Int)) [[iN n4],f1.cs])
theorem zdw (s:List Int) (f0:Int) (f1:TRoTask) (v:AV) (O:List (List AV)) (h:Fi s f0 f1 Sp Fo So (fun r O'=>r=v/\O'=O)):Sp 87 [.slc 3 (List.map (AV.int .i64) s),.fn 90 [] [.ref 0 0,.ref 1 0]] [[iN f0],f1.cs] v O :=
 yb (w:=⟨[],[],[90],[],[]⟩) (k:=0) (keep:=⟨[0,1,4,5,7,8,9,16],[⟨2,[(8,iN 0)],[],[(1000000,.agg [iN 0])],[],[],[]⟩],[],[]⟩) (boxes:=[⟨3,false,[iN f0]⟩,⟨31,false,f1.cs⟩]) mixed (by exact trivial) Tryz.func87 Tryz.call87 rfl rfl rfl (Nat.le_of_ble_eq_true rfl) (by kernel_rfl) h
theorem zbp (s:List Int) (least:Int) (t:TRoTask) (hl:s.length<=4611686018427387904):Sp 87 [.slc 3 (s.map (AV.int .i64)),.fn 90 [] [.ref 0 0,.ref 1 0]] [[.int .i64 least],t.cs] (.int .i64 (yA (yX t least) 0 s)) [[.int .i64 least],t.cs]:=zdw s least t _ _ (by
 unfold Fi;refine⟨fun m vs=>∃k:Nat,vs=[.int .i64 k,.agg [.int .i64 least]]/\k<=s.length/\m=s.length-k/\yA (yX t least) k (s.drop k)=yA (yX t least) 0 s,⟨_,0,rfl,by omega,rfl,rfl⟩,?_⟩;intro m;intros;rename_i hJ;obtain ⟨k,hk,hle,rfl,hn⟩:=hJ;cases hk;simp only[List.length_map];refine⟨fun h3=>?_,fun h3=>⟨?_,by trivial⟩⟩
 ·have h3:k<s.length:=by have:=zt_ h3;omega
  obtain ⟨x,hx,hx'⟩:=ym (f:=(AV.int .i64)) h3;have hat:=qX (f:=(yX t least)) hx;refine⟨x,⟨by omega,by trivial,hx'⟩,_,c90 x least t,fun h4=>⟨?_,by trivial⟩,fun h4=>?_⟩
  ·rw[<- hn,hat,h4];rfl
  ·have fin:∃k',k'<s.length-k/\∃j:Nat,[AV.int .i64 (wrap i64 ((k:Int)+1)),.agg [.int .i64 least]]=[.int .i64 j,.agg [.int .i64 least]]/\j<=s.length/\k'=s.length-j/\yA (yX t least) j (s.drop j)=yA (yX t least) 0 s :=
    ⟨_,(by omega:s.length-(k+1)<s.length-k),k+1,by rw[yg (by omega)],by omega,rfl,by rw[<- hn,hat,h4];rfl⟩
   first
    |exact fin
    |exact⟨by trivial,fin⟩
 ·have:k=s.length:=by have:=zf_ h3;omega
  rw[<- hn,this,List.drop_length];rfl)
def zat (s:List Int) (f0:Int) (f1:TRoTask) (S:SpecF) (_Fr:FreshF) (_Sq:SeqF) (Q:yc):Prop :=
 ∃n0,S 87 [AV.slc 3 (List.map (AV.int i64) s),AV.fn (90:FuncId) [] [AV.ref 0 0,.ref 1 0]] [[iN f0],f1.cs] (iN n0) [[iN f0],f1.cs]/\Q (.bool (decide (n0>=0))) [[iN f0],f1.cs]
theorem zdr (s:List Int) (f0:Int) (f1:TRoTask) (v:AV) (O:List (List AV)) (h:zat s f0 f1 Sp Fo So (fun r O'=>r=v/\O'=O)):Sp 42 [.slc 3 (List.map (AV.int .i64) s),.fn 90 [] [.ref 0 0,.ref 1 0]] [[iN f0],f1.cs] v O :=
 yb (w:=⟨[],[],[87],[],[]⟩) (k:=0) (keep:=⟨[0,1,4],[],[],[]⟩) (boxes:=[⟨3,false,[iN f0]⟩,⟨31,false,f1.cs⟩]) mixed (by exact trivial) Tryz.func42 Tryz.call42 rfl rfl rfl (Nat.le_of_ble_eq_true rfl) (by kernel_rfl) h
theorem zbk (s:List Int) (least:Int) (t:TRoTask) (hl:s.length<=4611686018427387904):Sp 42 [.slc 3 (s.map (AV.int .i64)),.fn 90 [] [.ref 0 0,.ref 1 0]] [[.int .i64 least],t.cs] (.bool (s.any (yX t least))) [[.int .i64 least],t.cs]:=zdr s least t _ _ ⟨_,zbp s least t hl,by rw[jk],rfl⟩
theorem vi {P:List (List Int)} {k:Nat} (h:k<P.length):(yP P)[((k:Nat):Int).toNat]? = some (.slc 3 (yn P[k])):=by
 rw[Int.toNat_natCast];unfold yP;rw[List.getElem?_map,List.getElem?_eq_getElem h];rfl
def Il (s:List (List Int)) (S:SpecF) (_Fr:FreshF) (_Sq:SeqF) (Q:yc):Prop :=
 ∃(I0:Nat->List AV->Prop),(∃m2,I0 m2 [iN 0])/\∀(m2:Nat) (n3:Int),I0 m2 [iN n3]->(decide (n3<(↑(List.map (fun x=>AV.slc 3 (List.map (AV.int i64) x)) s).length:Int))=true->∃es7,((0:Int)<=n3/\(1:Nat)=(1:Nat)/\(List.map (fun x=>AV.slc 3 (List.map (AV.int i64) x)) s)[n3.toNat]? = some (.slc 3 es7))/\∃b9,S 100 [AV.slc 3 es7] [] (.bool b9) []/\(b9=true->Q (iN n3) [])/\(b9=false->∃k13,k13<m2/\I0 k13 [iN (wrap i64 (n3+1))]))/\(decide (n3<(↑(List.map (fun x=>AV.slc 3 (List.map (AV.int i64) x)) s).length:Int))=false->Q (iN (-1:Int)) [])
theorem Dg (s:List (List Int)) (v:AV) (O:List (List AV)) (h:Il s Sp Fo So (fun r O'=>r=v/\O'=O)):Sp 126 [.slc 3 (List.map (fun x=>.slc 3 (List.map (AV.int .i64) x)) s),.fn 100 [] []] [] v O :=
 yb (w:=⟨[],[],[100],[],[]⟩) (k:=0) (keep:=⟨[0,1,4,5,7,8,9,16],[⟨2,[(8,iN 0)],[],[],[],[],[]⟩],[],[]⟩) (boxes:=[]) mixed (by exact trivial) Tryz.func126 Tryz.call126 rfl rfl rfl (Nat.le_of_ble_eq_true rfl) (by kernel_rfl) h
theorem Fx (s:List (List Int)) (hl:s.length<=4611686018427387904):Sp 126 [.slc 3 (yP s),.fn 100 [] []] [] (.int .i64 (yA xu 0 s)) []:=Dg s _ _ (by
 unfold Il;refine⟨fun m vs=>∃k:Nat,vs=[.int .i64 k]/\k<=s.length/\m=s.length-k/\yA xu k (s.drop k)=yA xu 0 s,⟨_,0,rfl,by omega,rfl,rfl⟩,?_⟩;rintro m n ⟨k,hk,hle,rfl,hn⟩;cases hk;simp only[List.length_map];refine⟨fun h3=>?_,fun h3=>⟨?_,by trivial⟩⟩
 ·have h3:k<s.length:=by have:=zt_ h3;omega
  have hat:=qX (f:=xu) (List.getElem?_eq_getElem h3);refine⟨_,⟨by omega,by trivial,vi h3⟩,_,zau s[k],fun h4=>⟨?_,by trivial⟩,fun h4=>⟨_,?_,k+1,?_,by omega,rfl,?_⟩⟩
  ·rw[<- hn,hat,h4];rfl
  ·omega
  ·rw[yg (by omega)]
  ·rw[<- hn,hat,h4];rfl
 ·have:k=s.length:=by have:=zf_ h3;omega
  rw[<- hn,this,List.drop_length];rfl)
def Gi (s:List (List Int)) (S:SpecF) (_Fr:FreshF) (_Sq:SeqF) (Q:yc):Prop :=
 ∃n0,S 126 [AV.slc 3 (List.map (fun x=>AV.slc 3 (List.map (AV.int i64) x)) s),AV.fn (100:FuncId) [] []] [] (iN n0) []/\Q (.bool (decide (n0>=0))) []
theorem Df (s:List (List Int)) (v:AV) (O:List (List AV)) (h:Gi s Sp Fo So (fun r O'=>r=v/\O'=O)):Sp 102 [.slc 3 (List.map (fun x=>.slc 3 (List.map (AV.int .i64) x)) s),.fn 100 [] []] [] v O :=
 yb (w:=⟨[],[],[126],[],[]⟩) (k:=0) (keep:=⟨[0,1,4],[],[],[]⟩) (boxes:=[]) mixed (by exact trivial) Tryz.func102 Tryz.call102 rfl rfl rfl (Nat.le_of_ble_eq_true rfl) (by kernel_rfl) h
theorem Fw (s:List (List Int)) (hl:s.length<=4611686018427387904):Sp 102 [.slc 3 (yP s),.fn 100 [] []] [] (.bool (s.any xu)) []:=Df s _ _ ⟨_,Fx s hl,by rw[jk],rfl⟩
theorem XF {P:List (List Int)} {k:Nat} (h:k<P.length):(P.take (k+1)).flatten=(P.take k).flatten++P[k]:=by
 rw[List.take_add_one,List.getElem?_eq_getElem h,List.flatten_append];simp
theorem Sv {P:List (List Int)}:∀k,(P.take k).flatten.length<=P.flatten.length:=fun k=>by
 have h:P.flatten=(P.take k).flatten++(P.drop k).flatten:=by rw[<- List.flatten_append,List.take_append_drop]
 rw[h,List.length_append];omega
theorem SA (a b:List Int):yn (a++b)=yn a++yn b:=List.map_append
theorem jm (a:List Int):(yn a).length=a.length:=List.length_map ..
def R78 (slices:List (List Int)) (_S:SpecF) (Fr:FreshF) (_Sq:SeqF) (Q:yc):Prop :=
 ∃(I0:Nat->List AV->Prop),(∃m2,I0 m2 TEncl.zero.cs)/\∀(m2:Nat) (n3 n4:Int),I0 m2 [iN n3,iN n4]->(decide (n4<(↑(List.map (fun x=>AV.slc 3 (List.map (AV.int i64) x)) slices).length:Int))=true->∃es8,((0:Int)<=n4/\(1:Nat)=(1:Nat)/\(List.map (fun x=>AV.slc 3 (List.map (AV.int i64) x)) slices)[n4.toNat]? = some (.slc 3 es8))/\(decide (wrap i64 (n3+(↑es8.length:Int))<0)=true->False)/\(decide (wrap i64 (n3+(↑es8.length:Int))<0)=false->∃k12,k12<m2/\I0 k12 [iN (wrap i64 (n3+(↑es8.length:Int))),iN (wrap i64 (n4+1))]))/\(decide (n4<(↑(List.map (fun x=>AV.slc 3 (List.map (AV.int i64) x)) slices).length:Int))=false->∃es8,Fr (112:Nat) [AV.slc 0 [],iN n3] (1:Nat) es8/\∃(I10:Nat->List AV->Prop),(∃es12,(es12.length=es8.length/\List.flatMap AV.cells es12=List.flatMap AV.cells es8)/\∃m14,I10 m14 [iN 0,.slc 3 es12])/\∀(m12:Nat) (n13:Int) (es14:List AV),I10 m12 [iN n13,.slc 3 es14]->(decide (n13<(↑(List.map (fun x=>AV.slc 3 (List.map (AV.int i64) x)) slices).length:Int))=true->∃es18,((0:Int)<=n13/\(1:Nat)=(1:Nat)/\(List.map (fun x=>AV.slc 3 (List.map (AV.int i64) x)) slices)[n13.toNat]? = some (.slc 3 es18))/\yy (1:Nat) es18/\((List.flatMap AV.cells es14).length=es14.length*1/\(es14.length+es18.length+512)*41<=(1125899906842624:Nat)/\yv (List.flatMap AV.cells es18)=true/\yv (List.flatMap AV.cells es14)=true)/\∃es22,(es22.length=es14.length+es18.length/\List.flatMap AV.cells es22=List.flatMap AV.cells es14++List.flatMap AV.cells es18)/\∃k24,k24<m12/\I10 k24 [iN (wrap i64 (n13+1)),.slc 3 es22])/\(decide (n13<(↑(List.map (fun x=>AV.slc 3 (List.map (AV.int i64) x)) slices).length:Int))=false->((0:Nat)+es14.length*1<=(List.flatMap AV.cells es14).length/\yv (List.flatMap AV.cells es14)=true)/\Q (.slc 3 (chunks (1:Nat) (yf Tryz.prog (3:Nat)) es14.length (List.drop (0:Nat) (List.flatMap AV.cells es14)))) []))
theorem s78 (slices:List (List Int)) (v:AV) (O:List (List AV)) (h:R78 slices Sp Fo So (fun r O'=>r=v/\O'=O)):Sp 78 [.slc 3 (List.map (fun x=>.slc 3 (List.map (AV.int .i64) x)) slices)] [] v O :=
 yb (w:=⟨[112],[],[],[],[]⟩) (k:=0) (keep:=⟨[0,2,3,5,6,8,9,10,11,12,20,25,26,27,28],[⟨3,[(3,iN 0),(11,iN 0)],[],[],[],[],[]⟩,⟨11,[(27,iN 0)],[(6,3)],[],[],[],[]⟩],[],[]⟩) (boxes:=[]) mixed (by exact trivial) Tryz.func78 Tryz.call78 rfl rfl rfl (Nat.le_of_ble_eq_true rfl) (by kernel_rfl) h
theorem c78 (P:List (List Int)) (hl:P.length<=1048576) (hf:P.flatten.length<=1048576):Sp 78 [.slc 3 (yP P)] [] (.slc 3 (yn P.flatten)) []:=s78 P _ _ (by
 unfold R78;refine⟨fun m vs=>∃k:Nat,vs=[.int .i64 ((P.take k).flatten.length:Nat),.int .i64 k]/\k<=P.length/\m=P.length-k,⟨_,0,rfl,by omega,rfl⟩,?_⟩;rintro m n3 n4 ⟨k,hk,hle,rfl⟩;cases hk;simp only[List.length_map];refine⟨fun h3=>?_,fun h3=>?_⟩
 ·have h3:k<P.length:=by have:=zt_ h3;omega
  have hs:=XF h3;have h4:(P.take (k+1)).flatten.length=(P.take k).flatten.length+P[k].length:=by rw[hs,List.length_append]
  have h5:=Sv (P:=P) (k+1);refine⟨_,⟨by omega,by trivial,vi h3⟩,?_⟩;rw[jm,show ((P.take k).flatten.length:Int)+(P[k].length:Int)=((P.take (k+1)).flatten.length:Nat) by omega,zw6 (by omega)];refine⟨fun h=>?_,fun _=>⟨_,(by omega:P.length-(k+1)<P.length-k),k+1,by rw[yg (by omega)],by omega,rfl⟩⟩;have:=zt_ h;omega
 ·have h3:k=P.length:=by have:=zf_ h3;omega
  subst h3;rw[List.take_length];refine⟨[],L4 _ hf,fun m vs=>∃k:Nat,vs=[.int .i64 k,.slc 3 (yn (P.take k).flatten)]/\k<=P.length/\m=P.length-k,⟨[],⟨rfl,rfl⟩,_,0,rfl,by omega,rfl⟩,?_⟩;rintro m n13 es14 ⟨k,hk,hle,rfl⟩;cases hk;have hb:=Sv (P:=P) k;have hc:(List.flatMap AV.cells (yn (P.take k).flatten)).length=(P.take k).flatten.length:=by rw[uu qq,jm]
  have ho:yv (List.flatMap AV.cells (yn (P.take k).flatten))=true:=by rw[uu qq];exact va _
  refine⟨fun h3=>?_,fun h3=>?_⟩
  ·have h3:k<P.length:=by have:=zt_ h3;omega
   have h5:=Sv (P:=P) (k+1);have h4:(P.take (k+1)).flatten.length=(P.take k).flatten.length+P[k].length:=by rw[XF h3,List.length_append]
   refine⟨_,⟨by omega,by trivial,vi h3⟩,Oh qq,⟨by rw[hc,jm,Nat.mul_one],by rw[jm,jm];omega,by rw[uu qq];exact va _,ho⟩,yn (P.take (k+1)).flatten,⟨by rw[jm,jm,jm,h4],by rw[XF h3,SA,List.flatMap_append]⟩,_,(by omega:P.length-(k+1)<P.length-k),k+1,by rw[yg (by omega)],by omega,rfl⟩
  ·have h3:k=P.length:=by have:=zf_ h3;omega
   subst h3;rw[List.take_length] at *;refine⟨⟨by rw[hc,jm];omega,ho⟩,?_,by trivial⟩;rw[IZ,List.drop_zero,show chunks 1 false (yn P.flatten).length (List.flatMap AV.cells (yn P.flatten))=yn P.flatten from uP (Sn qq)])
def Xg (t:TRoTask) (plan:List (List Int)):Int :=
 if (qb t).2.2≠0 then (qb t).2.2 else if plan.length≠t.Lorries.length then 2 else if plan.any xu then 3 else if plan.flatten.any (yX t 0) then 4 else 0
def vK (t:TRoTask) (plan:List (List Int)):AV:=if Xg t plan≠0 then .tup [.nilp,.int .i64 (Xg t plan)] else .tup [(yx t).ptr,.int .i64 0]
theorem W3:∀ {P:List (List Int)} {k:Nat},(∀x∈P,x.length<=k)->P.flatten.length<=P.length*k
 |[],_,_=>by simp
 |x::r,k,h=>by
  have h1:=h x List.mem_cons_self;have h2:=W3 (P:=r) fun y hy=>h y (List.mem_cons_of_mem _ hy)
  rw[List.flatten_cons,List.length_append,List.length_cons,Nat.add_mul];omega
def R66 (t:TRoTask) (plan:List (List Int)) (S:SpecF) (_Fr:FreshF) (_Sq:SeqF) (Q:yc):Prop :=
 (∃n1,S 71 [t.av] [] (.tup [AV.nilp,iN n1]) []/\((n1 != 0)=true->Q (.tup [AV.nilp,iN n1]) [])/\((n1 != 0)=false->(((↑(List.map (fun x=>AV.slc 3 (List.map (AV.int i64) x)) plan).length:Int) != (↑(List.map TRoLorry.av t.Lorries).length:Int))=true->Q (.tup [AV.nilp,iN 2]) [])/\(((↑(List.map (fun x=>AV.slc 3 (List.map (AV.int i64) x)) plan).length:Int) != (↑(List.map TRoLorry.av t.Lorries).length:Int))=false->∃b7,S 102 [AV.slc 3 (List.map (fun x=>AV.slc 3 (List.map (AV.int i64) x)) plan),AV.fn (100:Nat) [] []] [] (.bool b7) []/\(b7=true->Q (.tup [AV.nilp,iN 3]) [])/\(b7=false->∃es11,S 78 [AV.slc 3 (List.map (fun x=>AV.slc 3 (List.map (AV.int i64) x)) plan)] [] (.slc 3 es11) []/\∃b13,S 42 [AV.slc 3 es11,AV.fn (101:Nat) [] [AV.ref 0 0]] [t.cs] (.bool b13) [t.cs]/\(b13=true->Q (.tup [AV.nilp,iN 4]) [])/\(b13=false->Q (.tup [AV.nilp,iN 0]) [])))))\/∃n1 n2 n3 n4 n5 n6 n7 n8 n9 es10 es11 es12 es13 es14 n15,S 71 [t.av] [] (.tup [AV.eptr [iN n1,iN n2,iN n3,iN n4,iN n5,iN n6,iN n7,iN n8,iN n9,.slc 3 es10,.slc 3 es11,.slc 3 es12,.slc 3 es13,.slc 3 es14] (0:Nat),iN n15]) []/\((n15 != 0)=true->Q (.tup [AV.nilp,iN n15]) [])/\((n15 != 0)=false->(((↑(List.map (fun x=>AV.slc 3 (List.map (AV.int i64) x)) plan).length:Int) != (↑(List.map TRoLorry.av t.Lorries).length:Int))=true->Q (.tup [AV.nilp,iN 2]) [])/\(((↑(List.map (fun x=>AV.slc 3 (List.map (AV.int i64) x)) plan).length:Int) != (↑(List.map TRoLorry.av t.Lorries).length:Int))=false->∃b21,S 102 [AV.slc 3 (List.map (fun x=>AV.slc 3 (List.map (AV.int i64) x)) plan),AV.fn (100:Nat) [] []] [] (.bool b21) []/\(b21=true->Q (.tup [AV.nilp,iN 3]) [])/\(b21=false->∃es25,S 78 [AV.slc 3 (List.map (fun x=>AV.slc 3 (List.map (AV.int i64) x)) plan)] [] (.slc 3 es25) []/\∃b27,S 42 [AV.slc 3 es25,AV.fn (101:Nat) [] [AV.ref 0 0]] [t.cs] (.bool b27) [t.cs]/\(b27=true->Q (.tup [AV.nilp,iN 4]) [])/\(b27=false->Q (.tup [AV.eptr [iN n1,iN n2,iN n3,iN n4,iN n5,iN n6,iN n7,iN n8,iN n9,.slc 3 es10,.slc 3 es11,.slc 3 es12,.slc 3 es13,.slc 3 es14] (0:Nat),iN 0]) []))))
theorem s66 (t:TRoTask) (plan:List (List Int)) (v:AV) (O:List (List AV)) (h:R66 t plan Sp Fo So (fun r O'=>r=v/\O'=O)):Sp 66 [t.av,.slc 3 (List.map (fun x=>.slc 3 (List.map (AV.int .i64) x)) plan)] [] v O :=
 yb (w:=⟨[],[(71,[.tup [.nilp,iN 0],.tup [.eptr [iN 0,iN 0,iN 0,iN 0,iN 0,iN 0,iN 0,iN 0,iN 0,.slc 3 [],.slc 3 [],.slc 3 [],.slc 3 [],.slc 3 []] 0,iN 0]])],[102,42],[],[]⟩) (k:=0) (keep:=⟨[0,1,2,4,5,6,7,8,9,16,20,27,31],[],[],[]⟩) (boxes:=[]) mixed (by exact trivial) Tryz.func66 Tryz.call66 rfl rfl rfl (Nat.le_of_ble_eq_true rfl) (by kernel_rfl) h
theorem c66 (t:TRoTask) (ht:jw t) (plan:List (List Int)):Sp 66 [t.av,.slc 3 (yP plan)] [] (vK t plan) []:=s66 t plan _ _ (by
 unfold R66;have hb:=c71 t ht;unfold WK at hb;by_cases he:(qb t).2.2≠0
 ·have hE:Xg t plan=(qb t).2.2:=if_pos he;rw[if_pos he] at hb;refine .inl ⟨_,hb,fun _=>⟨by unfold vK;rw[hE,if_pos he],by trivial⟩,fun h=>absurd h (by simpa using he)⟩
 rw[if_neg he] at hb;have hv:=xF (Decidable.not_not.1 he);have hll:=hv.ll;have hE:Xg t plan=if plan.length≠t.Lorries.length then 2 else if plan.any xu then 3 else if plan.flatten.any (yX t 0) then 4 else 0:=if_neg he
 simp only[List.length_map];have hd:((plan.length:Int) != (t.Lorries.length:Int))=decide (plan.length≠t.Lorries.length):=by rw[Bool.eq_iff_iff];simp;omega
 rw[hd];refine .inr ⟨_,_,_,_,_,_,_,_,_,_,_,_,_,_,_,hb,fun h=>by simp at h,fun _=>⟨fun h1=>?_,fun h1=>?_⟩⟩
 ·exact⟨by unfold vK;rw[hE,if_pos (zt_ h1)];rfl,by trivial⟩
 have h1:=zf_ h1;rw[if_neg h1] at hE;have h1:=Decidable.not_not.1 h1;refine⟨_,Fw plan (by omega),fun h2=>⟨by unfold vK;rw[hE,if_pos h2];rfl,by trivial⟩,fun h2=>?_⟩;rw[if_neg (by rw[h2];simp)] at hE;have h6:∀x∈plan,x.length<=6:=fun x hx=>by
  have h3:xu x=false:=by simpa using List.any_eq_false.1 h2 x hx
  unfold xu at h3;have:=zf_ h3;omega
 have h7:=W3 h6;refine⟨_,c78 plan (by omega) (by omega),_,zbj plan.flatten t (by omega),fun h3=>⟨by unfold vK;rw[hE,if_pos h3];rfl,by trivial⟩,fun h3=>⟨?_,by trivial⟩⟩;rw[if_neg (by rw[h3];simp)] at hE;unfold vK;rw[hE,if_neg (by simp)];rfl)
def Ud (t:TRoTask) (least:Int) (l:List Int):AV:=if (qb t).2.2≠0 then .tup [.nilp,.int .i64 (qb t).2.2] else .tup [(yx t).ptr,.int .i64 (if l.any (yX t least) then 4 else 0)]
def R49 (t:TRoTask) (least:Int) (l:List Int) (S:SpecF) (_Fr:FreshF) (_Sq:SeqF) (Q:yc):Prop :=
 (∃n1,S 71 [t.av] [] (.tup [AV.nilp,iN n1]) []/\((n1 == 0)=true->∃b5,S 42 [AV.slc 3 (List.map (AV.int i64) l),AV.fn (90:Nat) [] [AV.ref 0 0,.ref 1 0]] [[iN least],t.cs] (.bool b5) [[iN least],t.cs]/\(b5=true->Q (.tup [AV.nilp,iN 4]) [])/\(b5=false->Q (.tup [AV.nilp,iN n1]) []))/\((n1 == 0)=false->Q (.tup [AV.nilp,iN n1]) []))\/∃n1 n2 n3 n4 n5 n6 n7 n8 n9 es10 es11 es12 es13 es14 n15,S 71 [t.av] [] (.tup [AV.eptr [iN n1,iN n2,iN n3,iN n4,iN n5,iN n6,iN n7,iN n8,iN n9,.slc 3 es10,.slc 3 es11,.slc 3 es12,.slc 3 es13,.slc 3 es14] (0:Nat),iN n15]) []/\((n15 == 0)=true->∃b19,S 42 [AV.slc 3 (List.map (AV.int i64) l),AV.fn (90:Nat) [] [AV.ref 0 0,.ref 1 0]] [[iN least],t.cs] (.bool b19) [[iN least],t.cs]/\(b19=true->Q (.tup [AV.eptr [iN n1,iN n2,iN n3,iN n4,iN n5,iN n6,iN n7,iN n8,iN n9,.slc 3 es10,.slc 3 es11,.slc 3 es12,.slc 3 es13,.slc 3 es14] (0:Nat),iN 4]) [])/\(b19=false->Q (.tup [AV.eptr [iN n1,iN n2,iN n3,iN n4,iN n5,iN n6,iN n7,iN n8,iN n9,.slc 3 es10,.slc 3 es11,.slc 3 es12,.slc 3 es13,.slc 3 es14] (0:Nat),iN n15]) []))/\((n15 == 0)=false->Q (.tup [AV.eptr [iN n1,iN n2,iN n3,iN n4,iN n5,iN n6,iN n7,iN n8,iN n9,.slc 3 es10,.slc 3 es11,.slc 3 es12,.slc 3 es13,.slc 3 es14] (0:Nat),iN n15]) [])
theorem s49 (t:TRoTask) (least:Int) (l:List Int) (v:AV) (O:List (List AV)) (h:R49 t least l Sp Fo So (fun r O'=>r=v/\O'=O)):Sp 49 [t.av,iN least,.slc 3 (List.map (AV.int .i64) l)] [] v O :=
 yb (w:=⟨[],[(71,[.tup [.nilp,iN 0],.tup [.eptr [iN 0,iN 0,iN 0,iN 0,iN 0,iN 0,iN 0,iN 0,iN 0,.slc 3 [],.slc 3 [],.slc 3 [],.slc 3 [],.slc 3 []] 0,iN 0]])],[42],[],[]⟩) (k:=0) (keep:=⟨[0,1,2,3,4,6,7,8,9,21],[],[],[]⟩) (boxes:=[]) mixed (by exact trivial) Tryz.func49 Tryz.call49 rfl rfl rfl (Nat.le_of_ble_eq_true rfl) (by kernel_rfl) h
theorem c49 (t:TRoTask) (ht:jw t) (least:Int) (l:List Int) (hl:l.length<=4611686018427387904):Sp 49 [t.av,.int .i64 least,.slc 3 (yn l)] [] (Ud t least l) []:=s49 t least l _ _ (by
 unfold R49;have hb:=c71 t ht;unfold WK at hb;by_cases he:(qb t).2.2≠0
 ·rw[if_pos he] at hb;refine .inl ⟨_,hb,fun h=>absurd h (by simpa using he),fun _=>⟨by unfold Ud;rw[if_pos he],by trivial⟩⟩
 rw[if_neg he] at hb;refine .inr ⟨_,_,_,_,_,_,_,_,_,_,_,_,_,_,_,hb,fun _=>⟨_,zbk l least t hl,fun h=>⟨by unfold Ud;rw[if_neg he,if_pos h];rfl,by trivial⟩,fun h=>⟨by unfold Ud;rw[if_neg he,if_neg (by rw[h];simp)];rfl,by trivial⟩⟩,fun h=>by simp at h⟩)
end Go.Proofs.YtkojpnkknehhmaaGreatDoor
