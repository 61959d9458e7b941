/- Contracts: growing a slice that is nil, by the library's contract. Contracts: lists joined; the depot of a task with some jobs, or with a plan. -/
import Derived.Shelf.Spec.SlicesGrow
import Derived.Test.YtkojpnkknehhmaaGreatDoorSf
namespace Go.Proofs.YtkojpnkknehhmaaGreatDoor
open Go.IntKind (wrap i64 u64)
open Go.RowKit
def wQ:Go.Shelf.Ren:=⟨fun x=>match x with | 4=>112 | n=>n,fun x=>match x with | 22=>44 | 25=>3 | n=>n,fun x=>x⟩
theorem Q4:Go.Proofs.Lays8.n4 Tryz.prog wQ where
 mixed:=by kernel_rfl
 f4:=⟨ "slices.Grow[[]int,int]", by decide,Tryz.func112.trans (by kernel_rfl)⟩
 t0:=Tryz.underlying0
 a0:=Tryz.isAgg0
 z0:=Tryz.sizeOf0
 v0:=Tryz.zeroValue0
 t3:=Tryz.underlying3
 a3:=Tryz.isAgg3
 z3:=Tryz.sizeOf3
 v3:=Tryz.zeroValue3
 t4:=Tryz.underlying4
 a4:=Tryz.isAgg4
 z4:=Tryz.sizeOf4
 v4:=Tryz.zeroValue4
 t9:=Tryz.underlying9
 a9:=Tryz.isAgg9
 z9:=Tryz.sizeOf9
 v9:=Tryz.zeroValue9
 t20:=Tryz.underlying20
 a20:=Tryz.isAgg20
 z20:=Tryz.sizeOf20
 v20:=Tryz.zeroValue20
 t22:=Tryz.underlying44
 a22:=Tryz.isAgg44
 z22:=Tryz.sizeOf44
 v22:=Tryz.zeroValue44
theorem KH (n:Nat) (hn:n<=1048576):jQ Tryz.prog 112 [.slc 0 [],.int .i64 n] 1 []:=by
 refine(⟨Tryz.call112,fun ρ w vs hgl hro hargs=>?_⟩:WJ _ _ _ _ _);have hv:vs=#[.slice none 0 0,.int .i64 n]:=by
  obtain ⟨hs,hj⟩:=hargs;have h0:=hj 0;have h1:=hj 1;have hs:vs.size=2:=hs.symm;obtain ⟨l⟩:=vs;match l,hs with
  |[a,b],_ =>
   have h0:Rv ρ none (.slc 0 []) a:=h0;have h1:Rv ρ none (.int .i64 n) b:=h1;cases h1;cases h0 with
   |nilslc=>rfl
   |eslc _ _ a hm=>exact absurd rfl hm
   |slc _ _ _ b o cap k c hm=>exact absurd rfl hm
 subst hv;have hB:ρ w.heap.size=none:=by
  cases h:ρ w.heap.size with
  |none=>rfl
  |some o=>have:=(Array.getElem?_eq_some_iff.1 (hro _ _ h)).1;omega
 by_cases h0:n=0
 ·subst h0;refine(Any8.slices_Grow_room Q4 none 0 0 0 w (by omega) (by omega) (by omega) (by omega)).mono ?_;rintro e w' ⟨rfl,rfl⟩;exact⟨⟨ρ,w'.heap.size,0,_,rfl,RO.le_refl ρ,hro,fun k o h h'=>(by rw[h] at h';cases h'),fun ag=>.aslc0 _ 0 1 ag none,hB,Nat.le_refl _,Nat.le_refl _,.inl rfl⟩,fun _ _=>rfl,Nat.le_refl _,rfl,rfl,rfl⟩
 ·obtain ⟨i0,hi0,hz0,hs0,hb0⟩:∃i0:TypeInfo,Tryz.prog.info? (wQ.t 25)=some i0/\i0.zero=some (.int .i64 0)/\i0.size=1/\i0.bytes=8:=by
   cases h:Tryz.prog.info? (wQ.t 25) with
   |none=>exact absurd (show (Tryz.prog.info? (wQ.t 25)).isSome=true by kernel_rfl) (by rw[h];simp)
   |some i =>
    have h1:(Tryz.prog.info? (wQ.t 25)).map (fun i=>(i.zero,i.size,i.bytes))=some (some (.int .i64 0),1,8):=by kernel_rfl
    rw[h] at h1;simp only[Option.map_some,Option.some.injEq,Prod.mk.injEq] at h1;exact⟨i,rfl,h1.1,h1.2.1,h1.2.2⟩
  refine(Any8.slices_Grow_grow Q4 i0 (.int .i64 0) hi0 hz0 (by omega) none 0 0 n [] w (by omega) (by omega) (by rw[hb0];omega) (by omega) (by simp) (fun _=>rfl) (fun a h=>by cases h)).mono ?_;rintro e w' ⟨rfl,rfl⟩;have hG:=grownCap_ge w (0+n) 0 (wQ.t 25);generalize grownCap w (0+n) 0 (wQ.t 25)=G at hG ⊢;have hle:w.heap.size<=(w.drew.alloc (.cells (([]:List Value).toArray++Builtin.zeroCells (Value.int .i64 0).cells (0+n-0)++Builtin.zeroCells (Value.int .i64 0).cells (G-(0+n))) (wQ.t 25))).heap.size:=by
   show w.heap.size<=(w.heap.push _).size;rw[Array.size_push];omega
  refine⟨⟨ρ,w.heap.size,G,_,rfl,RO.le_refl ρ,fun k o h=>?_,fun k o h h'=>(by rw[h] at h';cases h'),fun ag=>.aslc _ 0 0 0 1 ag G (by show 0<=G;omega) (by show 0+G*1<=G;omega),hB,Nat.le_refl _,Nat.zero_le _,.inr ⟨([]:List Value).toArray++Builtin.zeroCells (Value.int .i64 0).cells (0+n-0)++Builtin.zeroCells (Value.int .i64 0).cells (G-(0+n)),wQ.t 25,?_,?_,fun j=>.undef _ _⟩⟩,fun k hk=>?_,hle,rfl,rfl,rfl⟩
  ·have:=(Array.getElem?_eq_some_iff.1 (hro _ _ h)).1;show (w.heap.push _)[k]? = some o;rw[Array.getElem?_push_lt this,<- Array.getElem?_eq_getElem this];exact hro _ _ h
  ·show (w.heap.push _)[w.heap.size]? = some _;rw[Array.getElem?_push_size]
  ·have hz:∀m,(Builtin.zeroCells (Value.int .i64 0).cells m).size=m:=fun m=>by simp[Builtin.zeroCells,Value.cells]
   simp[hz];omega
  ·show (w.heap.push _)[k]? = _;rw[Array.getElem?_push_lt hk,<- Array.getElem?_eq_getElem hk]
def y8 (t:TRoTask) (least n:Int):Bool:=yz n least (wrap i64 ((t.Jobs.length:Int)-1))
def xB (l:List Int):Bool:=decide ((l.length:Int)>6)
def Fi (l:List Int) (Q:yc):Prop :=
 Q (.bool (decide ((↑(List.map (AV.int i64) l).length:Int)>(6:Int)))) []
theorem zcG (l:List Int) (v O) (h:Fi l (fun r O'=>r=v/\O'=O)):Sp 100 [.slc 3 (List.map (AV.int .i64) l)] [] v O :=
 zS ⟨[0,2],[],[],[]⟩ Tryz.func100 Tryz.call100 rfl (by kernel_rfl) h
theorem zbz (l:List Int):Sp 100 [.slc 3 (yg l)] [] (.bool (xB l)) []:=zcG l _ _ (by
 unfold Fi;rw[List.length_map];exact⟨rfl,rfl⟩)
def Fj (n:Int) (v0:TRoTask) (Q:yc):Prop :=
 ∃b0,Sp 29 [iN n,iN 0,iN (wrap i64 ((↑(List.map TRoJob.av v0.Jobs).length:Int)-(1:Int)))] [] (.bool b0) []/\Q (.bool b0) [v0.cs]
theorem zcH (n:Int) (v0:TRoTask) (v O) (h:Fj n v0 (fun r O'=>r=v/\O'=O)):Sp 101 [iN n,.ref 0 0] [v0.cs] v O :=
 zX ⟨[],[],[],[],[]⟩ 0 ⟨[0,1,3],[],[],[]⟩ [⟨31,false,v0.cs⟩] (by exact trivial) Tryz.func101 Tryz.call101 rfl rfl rfl (by kernel_rfl) h
theorem zbA (n:Int) (t:TRoTask):Sp 101 [.int .i64 n,.ref 0 0] [t.cs] (.bool (y8 t 0 n)) [t.cs]:=zcH n t _ _ (by
 unfold Fj y8;rw[List.length_map];exact⟨_,c29 ..,rfl,rfl⟩)
def R90 (n v0:Int) (v1:TRoTask) (Q:yc):Prop :=
 ∃b0,Sp 29 [iN n,iN v0,iN (wrap i64 ((↑(List.map TRoJob.av v1.Jobs).length:Int)-(1:Int)))] [] (.bool b0) []/\Q (.bool b0) [[iN v0],v1.cs]
theorem s90 (n v0:Int) (v1:TRoTask) (v O) (h:R90 n v0 v1 (fun r O'=>r=v/\O'=O)):Sp 90 [iN n,.ref 0 0,.ref 1 0] [[iN v0],v1.cs] v O :=
 zX ⟨[],[],[],[],[]⟩ 0 ⟨[0,1,2,4],[],[],[]⟩ [⟨3,false,[iN v0]⟩,⟨31,false,v1.cs⟩] (by exact trivial) Tryz.func90 Tryz.call90 rfl rfl rfl (by kernel_rfl) h
theorem c90 (n least:Int) (t:TRoTask):Sp 90 [.int .i64 n,.ref 0 0,.ref 1 0] [[.int .i64 least],t.cs] (.bool (y8 t least n)) [[.int .i64 least],t.cs]:=s90 n least t _ _ (by
 unfold R90 y8;rw[List.length_map];exact⟨_,c29 ..,rfl,rfl⟩)
def Dp (s:List Int) (f0:TRoTask) (Q:yc):Prop :=
 ∃(I0:Nat->List AV->Prop),(∃m2,I0 m2 [iN 0,f0.av])/\∀(m2:Nat) (n3 n4 n5 n6 n7 n8 n9 n10 n11 n12:Int) (es13 es14 es15 es16:List AV),I0 m2 [iN n3,.agg [iN n4,iN n5,iN n6,iN n7,iN n8,iN n9,iN n10,iN n11,iN n12,.slc 3 es13,.slc 3 es14,.slc 3 es15,.slc 3 es16]]->(decide (n3<(↑(List.map (AV.int i64) s).length:Int))=true->∃n20,((0:Int)<=n3/\(1:Nat)=(1:Nat)/\(List.map (AV.int i64) s)[n3.toNat]? = some (iN n20))/\∃b22,Sp 101 [iN n20,.ref 0 0] [[iN n4,iN n5,iN n6,iN n7,iN n8,iN n9,iN n10,iN n11,iN n12,.slc 3 es13,.slc 3 es14,.slc 3 es15,.slc 3 es16]] (.bool b22) [[iN n4,iN n5,iN n6,iN n7,iN n8,iN n9,iN n10,iN n11,iN n12,.slc 3 es13,.slc 3 es14,.slc 3 es15,.slc 3 es16]]/\(b22=true->Q (iN n3) [[iN n4,iN n5,iN n6,iN n7,iN n8,iN n9,iN n10,iN n11,iN n12,.slc 3 es13,.slc 3 es14,.slc 3 es15,.slc 3 es16]])/\(b22=false->∃k26,k26<m2/\I0 k26 [iN (wrap i64 (n3+1)),.agg [iN n4,iN n5,iN n6,iN n7,iN n8,iN n9,iN n10,iN n11,iN n12,.slc 3 es13,.slc 3 es14,.slc 3 es15,.slc 3 es16]]))/\(decide (n3<(↑(List.map (AV.int i64) s).length:Int))=false->Q (iN (-1:Int)) [[iN n4,iN n5,iN n6,iN n7,iN n8,iN n9,iN n10,iN n11,iN n12,.slc 3 es13,.slc 3 es14,.slc 3 es15,.slc 3 es16]])
theorem zex (s:List Int) (f0:TRoTask) (v O) (h:Dp s f0 (fun r O'=>r=v/\O'=O)):Sp 87 [.slc 3 (List.map (AV.int .i64) s),.fn 101 [] [.ref 0 0]] [f0.cs] v O :=
 zX ⟨[],[],[101],[],[]⟩ 0 ⟨[0,1,4,5,7,8,9,16],[⟨2,[(8,iN 0)],[],[(1000000,.agg [iN 0,iN 0,iN 0,iN 0,iN 0,iN 0,iN 0,iN 0,iN 0,.slc 3 [],.slc 3 [],.slc 3 [],.slc 3 []])],[],[],[]⟩],[],[]⟩ [⟨31,false,f0.cs⟩] (by exact trivial) Tryz.func87 Tryz.call87 rfl rfl rfl (by kernel_rfl) h
theorem zcs (s:List Int) (t:TRoTask) (hl:s.length<=4611686018427387904):Sp 87 [.slc 3 (s.map (AV.int .i64)),.fn 101 [] [.ref 0 0]] [t.cs] (.int .i64 (yx (y8 t 0) 0 s)) [t.cs]:=zex s t _ _ (by
 unfold Dp;refine⟨fun m vs=>∃k:Nat,vs=[.int .i64 k,t.av]/\k<=s.length/\m=s.length-k/\yx (y8 t 0) k (s.drop k)=yx (y8 t 0) 0 s,⟨_,0,rfl,by omega,rfl,rfl⟩,?_⟩;intro m;intros;rename_i hJ;obtain ⟨k,hk,hle,rfl,hn⟩:=hJ;unfold TRoTask.av TRoTask.cs at hk;cases hk;simp only[List.length_map];refine⟨fun h3=>?_,fun h3=>⟨?_,by trivial⟩⟩
 ·have h3:k<s.length:=by have:=zt_ h3;omega
  obtain ⟨x,hx,hx'⟩:=yq (f:=(AV.int .i64)) h3;have hat:=qY (f:=(y8 t 0)) hx;refine⟨x,⟨by omega,by trivial,hx'⟩,_,zbA x t,fun h4=>⟨?_,by trivial⟩,fun h4=>?_⟩
  ·rw[<- hn,hat,h4];rfl
  ·have fin:∃k',k'<s.length-k/\∃j:Nat,[AV.int .i64 (wrap i64 ((k:Int)+1)),t.av]=[.int .i64 j,t.av]/\j<=s.length/\k'=s.length-j/\yx (y8 t 0) j (s.drop j)=yx (y8 t 0) 0 s :=
    ⟨_,(by omega:s.length-(k+1)<s.length-k),k+1,by rw[yr (by omega)],by omega,rfl,by rw[<- hn,hat,h4];rfl⟩
   first
    |exact fin
    |exact⟨by trivial,fin⟩
 ·have:k=s.length:=by have:=zf_ h3;omega
  rw[<- hn,this,List.drop_length];rfl)
def zbx (s:List Int) (f0:TRoTask) (Q:yc):Prop :=
 ∃n0,Sp 87 [AV.slc 3 (List.map (AV.int i64) s),AV.fn (101:FuncId) [] [AV.ref 0 0]] [f0.cs] (iN n0) [f0.cs]/\Q (.bool (decide (n0>=0))) [f0.cs]
theorem zes (s:List Int) (f0:TRoTask) (v O) (h:zbx s f0 (fun r O'=>r=v/\O'=O)):Sp 42 [.slc 3 (List.map (AV.int .i64) s),.fn 101 [] [.ref 0 0]] [f0.cs] v O :=
 zX ⟨[],[],[87],[],[]⟩ 0 ⟨[0,1,4],[],[],[]⟩ [⟨31,false,f0.cs⟩] (by exact trivial) Tryz.func42 Tryz.call42 rfl rfl rfl (by kernel_rfl) h
theorem zcn (s:List Int) (t:TRoTask) (hl:s.length<=4611686018427387904):Sp 42 [.slc 3 (s.map (AV.int .i64)),.fn 101 [] [.ref 0 0]] [t.cs] (.bool (s.any (y8 t 0))) [t.cs]:=zes s t _ _ ⟨_,zcs s t hl,by rw[jn],rfl⟩
def Dq (s:List Int) (f0:Int) (f1:TRoTask) (Q:yc):Prop :=
 ∃(I0:Nat->List AV->Prop),(∃m2,I0 m2 [iN 0,.agg [iN f0]])/\∀(m2:Nat) (n3 n4:Int),I0 m2 [iN n3,.agg [iN n4]]->(decide (n3<(↑(List.map (AV.int i64) s).length:Int))=true->∃n8,((0:Int)<=n3/\(1:Nat)=(1:Nat)/\(List.map (AV.int i64) s)[n3.toNat]? = some (iN n8))/\∃b10,Sp 90 [iN n8,.ref 0 0,.ref 1 0] [[iN n4],f1.cs] (.bool b10) [[iN n4],f1.cs]/\(b10=true->Q (iN n3) [[iN n4],f1.cs])/\(b10=false->f1.cs=f1.cs/\∃k15,k15<m2/\I0 k15 [iN (wrap i64 (n3+1)),.agg [iN n4]]))/\(decide (n3<(↑(List.map (AV.int i64) s).length:Int))=false->Q (iN (-1:Int)) [[iN n4],f1.cs])
theorem zey (s:List Int) (f0:Int) (f1:TRoTask) (v O) (h:Dq s f0 f1 (fun r O'=>r=v/\O'=O)):Sp 87 [.slc 3 (List.map (AV.int .i64) s),.fn 90 [] [.ref 0 0,.ref 1 0]] [[iN f0],f1.cs] v O :=
 zX ⟨[],[],[90],[],[]⟩ 0 ⟨[0,1,4,5,7,8,9,16],[⟨2,[(8,iN 0)],[],[(1000000,.agg [iN 0])],[],[],[]⟩],[],[]⟩ [⟨3,false,[iN f0]⟩,⟨31,false,f1.cs⟩] (by exact trivial) Tryz.func87 Tryz.call87 rfl rfl rfl (by kernel_rfl) h
theorem zct (s:List Int) (least:Int) (t:TRoTask) (hl:s.length<=4611686018427387904):Sp 87 [.slc 3 (s.map (AV.int .i64)),.fn 90 [] [.ref 0 0,.ref 1 0]] [[.int .i64 least],t.cs] (.int .i64 (yx (y8 t least) 0 s)) [[.int .i64 least],t.cs]:=zey s least t _ _ (by
 unfold Dq;refine⟨fun m vs=>∃k:Nat,vs=[.int .i64 k,.agg [.int .i64 least]]/\k<=s.length/\m=s.length-k/\yx (y8 t least) k (s.drop k)=yx (y8 t least) 0 s,⟨_,0,rfl,by omega,rfl,rfl⟩,?_⟩;intro m;intros;rename_i hJ;obtain ⟨k,hk,hle,rfl,hn⟩:=hJ;cases hk;simp only[List.length_map];refine⟨fun h3=>?_,fun h3=>⟨?_,by trivial⟩⟩
 ·have h3:k<s.length:=by have:=zt_ h3;omega
  obtain ⟨x,hx,hx'⟩:=yq (f:=(AV.int .i64)) h3;have hat:=qY (f:=(y8 t least)) hx;refine⟨x,⟨by omega,by trivial,hx'⟩,_,c90 x least t,fun h4=>⟨?_,by trivial⟩,fun h4=>?_⟩
  ·rw[<- hn,hat,h4];rfl
  ·have fin:∃k',k'<s.length-k/\∃j:Nat,[AV.int .i64 (wrap i64 ((k:Int)+1)),.agg [.int .i64 least]]=[.int .i64 j,.agg [.int .i64 least]]/\j<=s.length/\k'=s.length-j/\yx (y8 t least) j (s.drop j)=yx (y8 t least) 0 s :=
    ⟨_,(by omega:s.length-(k+1)<s.length-k),k+1,by rw[yr (by omega)],by omega,rfl,by rw[<- hn,hat,h4];rfl⟩
   first
    |exact fin
    |exact⟨by trivial,fin⟩
 ·have:k=s.length:=by have:=zf_ h3;omega
  rw[<- hn,this,List.drop_length];rfl)
def zby (s:List Int) (f0:Int) (f1:TRoTask) (Q:yc):Prop :=
 ∃n0,Sp 87 [AV.slc 3 (List.map (AV.int i64) s),AV.fn (90:FuncId) [] [AV.ref 0 0,.ref 1 0]] [[iN f0],f1.cs] (iN n0) [[iN f0],f1.cs]/\Q (.bool (decide (n0>=0))) [[iN f0],f1.cs]
theorem zet (s:List Int) (f0:Int) (f1:TRoTask) (v O) (h:zby s f0 f1 (fun r O'=>r=v/\O'=O)):Sp 42 [.slc 3 (List.map (AV.int .i64) s),.fn 90 [] [.ref 0 0,.ref 1 0]] [[iN f0],f1.cs] v O :=
 zX ⟨[],[],[87],[],[]⟩ 0 ⟨[0,1,4],[],[],[]⟩ [⟨3,false,[iN f0]⟩,⟨31,false,f1.cs⟩] (by exact trivial) Tryz.func42 Tryz.call42 rfl rfl rfl (by kernel_rfl) h
theorem zco (s:List Int) (least:Int) (t:TRoTask) (hl:s.length<=4611686018427387904):Sp 42 [.slc 3 (s.map (AV.int .i64)),.fn 90 [] [.ref 0 0,.ref 1 0]] [[.int .i64 least],t.cs] (.bool (s.any (y8 t least))) [[.int .i64 least],t.cs]:=zet s least t _ _ ⟨_,zct s least t hl,by rw[jn],rfl⟩
theorem vm {P:List (List Int)} {k:Nat} (h:k<P.length):(yL P)[((k:Nat):Int).toNat]? = some (.slc 3 (yg P[k])):=by
 rw[Int.toNat_natCast];unfold yL;rw[List.getElem?_map,List.getElem?_eq_getElem h];rfl
def Hr (s:List (List Int)) (Q:yc):Prop :=
 ∃(I0:Nat->List AV->Prop),(∃m2,I0 m2 [iN 0])/\∀(m2:Nat) (n3:Int),I0 m2 [iN n3]->(decide (n3<(↑(List.map (fun x=>AV.slc 3 (List.map (AV.int i64) x)) s).length:Int))=true->∃es7,((0:Int)<=n3/\(1:Nat)=(1:Nat)/\(List.map (fun x=>AV.slc 3 (List.map (AV.int i64) x)) s)[n3.toNat]? = some (.slc 3 es7))/\∃b9,Sp 100 [AV.slc 3 es7] [] (.bool b9) []/\(b9=true->Q (iN n3) [])/\(b9=false->∃k13,k13<m2/\I0 k13 [iN (wrap i64 (n3+1))]))/\(decide (n3<(↑(List.map (fun x=>AV.slc 3 (List.map (AV.int i64) x)) s).length:Int))=false->Q (iN (-1:Int)) [])
theorem zan (s:List (List Int)) (v O) (h:Hr s (fun r O'=>r=v/\O'=O)):Sp 126 [.slc 3 (List.map (fun x=>.slc 3 (List.map (AV.int .i64) x)) s),.fn 100 [] []] [] v O :=
 zX ⟨[],[],[100],[],[]⟩ 0 ⟨[0,1,4,5,7,8,9,16],[⟨2,[(8,iN 0)],[],[],[],[],[]⟩],[],[]⟩ [] (by exact trivial) Tryz.func126 Tryz.call126 rfl rfl rfl (by kernel_rfl) h
theorem DA (s:List (List Int)) (hl:s.length<=4611686018427387904):Sp 126 [.slc 3 (yL s),.fn 100 [] []] [] (.int .i64 (yx xB 0 s)) []:=zan s _ _ (by
 unfold Hr;refine⟨fun m vs=>∃k:Nat,vs=[.int .i64 k]/\k<=s.length/\m=s.length-k/\yx xB k (s.drop k)=yx xB 0 s,⟨_,0,rfl,by omega,rfl,rfl⟩,?_⟩;rintro m n ⟨k,hk,hle,rfl,hn⟩;cases hk;simp only[List.length_map];refine⟨fun h3=>?_,fun h3=>⟨?_,by trivial⟩⟩
 ·have h3:k<s.length:=by have:=zt_ h3;omega
  have hat:=qY (f:=xB) (List.getElem?_eq_getElem h3);refine⟨_,⟨by omega,by trivial,vm h3⟩,_,zbz s[k],fun h4=>⟨?_,by trivial⟩,fun h4=>⟨_,?_,k+1,?_,by omega,rfl,?_⟩⟩
  ·rw[<- hn,hat,h4];rfl
  ·omega
  ·rw[yr (by omega)]
  ·rw[<- hn,hat,h4];rfl
 ·have:k=s.length:=by have:=zf_ h3;omega
  rw[<- hn,this,List.drop_length];rfl)
def Fk (s:List (List Int)) (Q:yc):Prop :=
 ∃n0,Sp 126 [AV.slc 3 (List.map (fun x=>AV.slc 3 (List.map (AV.int i64) x)) s),AV.fn (100:FuncId) [] []] [] (iN n0) []/\Q (.bool (decide (n0>=0))) []
theorem zam (s:List (List Int)) (v O) (h:Fk s (fun r O'=>r=v/\O'=O)):Sp 102 [.slc 3 (List.map (fun x=>.slc 3 (List.map (AV.int .i64) x)) s),.fn 100 [] []] [] v O :=
 zX ⟨[],[],[126],[],[]⟩ 0 ⟨[0,1,4],[],[],[]⟩ [] (by exact trivial) Tryz.func102 Tryz.call102 rfl rfl rfl (by kernel_rfl) h
theorem Dz (s:List (List Int)) (hl:s.length<=4611686018427387904):Sp 102 [.slc 3 (yL s),.fn 100 [] []] [] (.bool (s.any xB)) []:=zam s _ _ ⟨_,DA s hl,by rw[jn],rfl⟩
theorem XL {P:List (List Int)} {k:Nat} (h:k<P.length):(P.take (k+1)).flatten=(P.take k).flatten++P[k]:=by
 rw[List.take_add_one,List.getElem?_eq_getElem h,List.flatten_append];simp
theorem SO {P:List (List Int)}:∀k,(P.take k).flatten.length<=P.flatten.length:=fun k=>by
 have h:P.flatten=(P.take k).flatten++(P.drop k).flatten:=by rw[<- List.flatten_append,List.take_append_drop]
 rw[h,List.length_append];omega
theorem Xd (a b:List Int):yg (a++b)=yg a++yg b:=List.map_append
theorem yS (a:List Int):(yg a).length=a.length:=List.length_map ..
def R78 (slices:List (List Int)) (Q:yc):Prop :=
 ∃(I0:Nat->List AV->Prop),(∃m2,I0 m2 TEncl.zero.cs)/\∀(m2:Nat) (n3 n4:Int),I0 m2 [iN n3,iN n4]->(decide (n4<(↑(List.map (fun x=>AV.slc 3 (List.map (AV.int i64) x)) slices).length:Int))=true->∃es8,((0:Int)<=n4/\(1:Nat)=(1:Nat)/\(List.map (fun x=>AV.slc 3 (List.map (AV.int i64) x)) slices)[n4.toNat]? = some (.slc 3 es8))/\(decide (wrap i64 (n3+(↑es8.length:Int))<0)=true->False)/\(decide (wrap i64 (n3+(↑es8.length:Int))<0)=false->∃k12,k12<m2/\I0 k12 [iN (wrap i64 (n3+(↑es8.length:Int))),iN (wrap i64 (n4+1))]))/\(decide (n4<(↑(List.map (fun x=>AV.slc 3 (List.map (AV.int i64) x)) slices).length:Int))=false->∃es8,Fo (112:Nat) [AV.slc 0 [],iN n3] (1:Nat) es8/\∃(I10:Nat->List AV->Prop),(∃es12,(es12.length=es8.length/\List.flatMap AV.cells es12=List.flatMap AV.cells es8)/\∃m14,I10 m14 [iN 0,.slc 3 es12])/\∀(m12:Nat) (n13:Int) (es14:List AV),I10 m12 [iN n13,.slc 3 es14]->(decide (n13<(↑(List.map (fun x=>AV.slc 3 (List.map (AV.int i64) x)) slices).length:Int))=true->∃es18,((0:Int)<=n13/\(1:Nat)=(1:Nat)/\(List.map (fun x=>AV.slc 3 (List.map (AV.int i64) x)) slices)[n13.toNat]? = some (.slc 3 es18))/\yk (1:Nat) es18/\((List.flatMap AV.cells es14).length=es14.length*1/\(es14.length+es18.length+512)*41<=(1125899906842624:Nat)/\yn (List.flatMap AV.cells es18)=true/\yn (List.flatMap AV.cells es14)=true)/\∃es22,(es22.length=es14.length+es18.length/\List.flatMap AV.cells es22=List.flatMap AV.cells es14++List.flatMap AV.cells es18)/\∃k24,k24<m12/\I10 k24 [iN (wrap i64 (n13+1)),.slc 3 es22])/\(decide (n13<(↑(List.map (fun x=>AV.slc 3 (List.map (AV.int i64) x)) slices).length:Int))=false->((0:Nat)+es14.length*1<=(List.flatMap AV.cells es14).length/\yn (List.flatMap AV.cells es14)=true)/\Q (.slc 3 (chunks (1:Nat) (yf Tryz.prog (3:Nat)) es14.length (List.drop (0:Nat) (List.flatMap AV.cells es14)))) []))
theorem s78 (slices:List (List Int)) (v O) (h:R78 slices (fun r O'=>r=v/\O'=O)):Sp 78 [.slc 3 (List.map (fun x=>.slc 3 (List.map (AV.int .i64) x)) slices)] [] v O :=
 zX ⟨[112],[],[],[],[]⟩ 0 ⟨[0,2,3,5,6,8,9,10,11,12,20,25,26,27,28],[⟨3,[(3,iN 0),(11,iN 0)],[],[],[],[],[]⟩,⟨11,[(27,iN 0)],[(6,3)],[],[],[],[]⟩],[],[]⟩ [] (by exact trivial) Tryz.func78 Tryz.call78 rfl rfl rfl (by kernel_rfl) h
theorem c78 (P:List (List Int)) (hl:P.length<=1048576) (hf:P.flatten.length<=1048576):Sp 78 [.slc 3 (yL P)] [] (.slc 3 (yg P.flatten)) []:=s78 P _ _ (by
 unfold R78;refine⟨fun m vs=>∃k:Nat,vs=[.int .i64 ((P.take k).flatten.length:Nat),.int .i64 k]/\k<=P.length/\m=P.length-k,⟨_,0,rfl,by omega,rfl⟩,?_⟩;rintro m n3 n4 ⟨k,hk,hle,rfl⟩;cases hk;simp only[List.length_map];refine⟨fun h3=>?_,fun h3=>?_⟩
 ·have h3:k<P.length:=by have:=zt_ h3;omega
  have hs:=XL h3;have h4:(P.take (k+1)).flatten.length=(P.take k).flatten.length+P[k].length:=by rw[hs,List.length_append]
  have h5:=SO (P:=P) (k+1);refine⟨_,⟨by omega,by trivial,vm h3⟩,?_⟩;rw[yS,show ((P.take k).flatten.length:Int)+(P[k].length:Int)=((P.take (k+1)).flatten.length:Nat) by omega,zw6 (by omega)];refine⟨fun h=>?_,fun _=>⟨_,(by omega:P.length-(k+1)<P.length-k),k+1,by rw[yr (by omega)],by omega,rfl⟩⟩;have:=zt_ h;omega
 ·have h3:k=P.length:=by have:=zf_ h3;omega
  subst h3;rw[List.take_length];refine⟨[],KH _ hf,fun m vs=>∃k:Nat,vs=[.int .i64 k,.slc 3 (yg (P.take k).flatten)]/\k<=P.length/\m=P.length-k,⟨[],⟨rfl,rfl⟩,_,0,rfl,by omega,rfl⟩,?_⟩;rintro m n13 es14 ⟨k,hk,hle,rfl⟩;cases hk;have hb:=SO (P:=P) k;have hc:(List.flatMap AV.cells (yg (P.take k).flatten)).length=(P.take k).flatten.length:=by rw[vd y9,yS]
  have ho:yn (List.flatMap AV.cells (yg (P.take k).flatten))=true:=by rw[vd y9];exact wV _
  refine⟨fun h3=>?_,fun h3=>?_⟩
  ·have h3:k<P.length:=by have:=zt_ h3;omega
   have h5:=SO (P:=P) (k+1);have h4:(P.take (k+1)).flatten.length=(P.take k).flatten.length+P[k].length:=by rw[XL h3,List.length_append]
   refine⟨_,⟨by omega,by trivial,vm h3⟩,OQ y9,⟨by rw[hc,yS,Nat.mul_one],by rw[yS,yS];omega,by rw[vd y9];exact wV _,ho⟩,yg (P.take (k+1)).flatten,⟨by rw[yS,yS,yS,h4],by rw[XL h3,Xd,List.flatMap_append]⟩,_,(by omega:P.length-(k+1)<P.length-k),k+1,by rw[yr (by omega)],by omega,rfl⟩
  ·have h3:k=P.length:=by have:=zf_ h3;omega
   subst h3;rw[List.take_length] at *;refine⟨⟨by rw[hc,yS];omega,ho⟩,?_,by trivial⟩;rw[JZ,List.drop_zero,show chunks 1 false (yg P.flatten).length (List.flatMap AV.cells (yg P.flatten))=yg P.flatten from uQ (SK y9)])
def Xj (t:TRoTask) (plan:List (List Int)):Int :=
 if (qg t).2.2≠0 then (qg t).2.2 else if plan.length≠t.Lorries.length then 2 else if plan.any xB then 3 else if plan.flatten.any (y8 t 0) then 4 else 0
def vO (t:TRoTask) (plan:List (List Int)):AV:=if Xj t plan≠0 then .tup [.nilp,.int .i64 (Xj t plan)] else .tup [(ye t).ptr,.int .i64 0]
theorem Uj:∀ {P:List (List Int)} {k:Nat},(∀x∈P,x.length<=k)->P.flatten.length<=P.length*k
 |[],_,_=>by simp
 |x::r,k,h=>by
  have h1:=h x List.mem_cons_self;have h2:=Uj (P:=r) fun y hy=>h y (List.mem_cons_of_mem _ hy)
  rw[List.flatten_cons,List.length_append,List.length_cons,Nat.add_mul];omega
def R66 (t:TRoTask) (plan:List (List Int)) (Q:yc):Prop :=
 (∃n1,Sp 71 [t.av] [] (.tup [AV.nilp,iN n1]) []/\((n1 != 0)=true->Q (.tup [AV.nilp,iN n1]) [])/\((n1 != 0)=false->(((↑(List.map (fun x=>AV.slc 3 (List.map (AV.int i64) x)) plan).length:Int) != (↑(List.map TRoLorry.av t.Lorries).length:Int))=true->Q (.tup [AV.nilp,iN 2]) [])/\(((↑(List.map (fun x=>AV.slc 3 (List.map (AV.int i64) x)) plan).length:Int) != (↑(List.map TRoLorry.av t.Lorries).length:Int))=false->∃b7,Sp 102 [AV.slc 3 (List.map (fun x=>AV.slc 3 (List.map (AV.int i64) x)) plan),AV.fn (100:Nat) [] []] [] (.bool b7) []/\(b7=true->Q (.tup [AV.nilp,iN 3]) [])/\(b7=false->∃es11,Sp 78 [AV.slc 3 (List.map (fun x=>AV.slc 3 (List.map (AV.int i64) x)) plan)] [] (.slc 3 es11) []/\∃b13,Sp 42 [AV.slc 3 es11,AV.fn (101:Nat) [] [AV.ref 0 0]] [t.cs] (.bool b13) [t.cs]/\(b13=true->Q (.tup [AV.nilp,iN 4]) [])/\(b13=false->Q (.tup [AV.nilp,iN 0]) [])))))\/∃n1 n2 n3 n4 n5 n6 n7 n8 n9 es10 es11 es12 es13 es14 n15,Sp 71 [t.av] [] (.tup [AV.eptr [iN n1,iN n2,iN n3,iN n4,iN n5,iN n6,iN n7,iN n8,iN n9,.slc 3 es10,.slc 3 es11,.slc 3 es12,.slc 3 es13,.slc 3 es14] (0:Nat),iN n15]) []/\((n15 != 0)=true->Q (.tup [AV.nilp,iN n15]) [])/\((n15 != 0)=false->(((↑(List.map (fun x=>AV.slc 3 (List.map (AV.int i64) x)) plan).length:Int) != (↑(List.map TRoLorry.av t.Lorries).length:Int))=true->Q (.tup [AV.nilp,iN 2]) [])/\(((↑(List.map (fun x=>AV.slc 3 (List.map (AV.int i64) x)) plan).length:Int) != (↑(List.map TRoLorry.av t.Lorries).length:Int))=false->∃b21,Sp 102 [AV.slc 3 (List.map (fun x=>AV.slc 3 (List.map (AV.int i64) x)) plan),AV.fn (100:Nat) [] []] [] (.bool b21) []/\(b21=true->Q (.tup [AV.nilp,iN 3]) [])/\(b21=false->∃es25,Sp 78 [AV.slc 3 (List.map (fun x=>AV.slc 3 (List.map (AV.int i64) x)) plan)] [] (.slc 3 es25) []/\∃b27,Sp 42 [AV.slc 3 es25,AV.fn (101:Nat) [] [AV.ref 0 0]] [t.cs] (.bool b27) [t.cs]/\(b27=true->Q (.tup [AV.nilp,iN 4]) [])/\(b27=false->Q (.tup [AV.eptr [iN n1,iN n2,iN n3,iN n4,iN n5,iN n6,iN n7,iN n8,iN n9,.slc 3 es10,.slc 3 es11,.slc 3 es12,.slc 3 es13,.slc 3 es14] (0:Nat),iN 0]) []))))
theorem s66 (t:TRoTask) (plan:List (List Int)) (v O) (h:R66 t plan (fun r O'=>r=v/\O'=O)):Sp 66 [t.av,.slc 3 (List.map (fun x=>.slc 3 (List.map (AV.int .i64) x)) plan)] [] v O :=
 zX ⟨[],[(71,[.tup [.nilp,iN 0],.tup [.eptr [iN 0,iN 0,iN 0,iN 0,iN 0,iN 0,iN 0,iN 0,iN 0,.slc 3 [],.slc 3 [],.slc 3 [],.slc 3 [],.slc 3 []] 0,iN 0]])],[102,42],[],[]⟩ 0 ⟨[0,1,2,4,5,6,7,8,9,16,20,27,31],[],[],[]⟩ [] (by exact trivial) Tryz.func66 Tryz.call66 rfl rfl rfl (by kernel_rfl) h
theorem c66 (t:TRoTask) (ht:jw t) (plan:List (List Int)):Sp 66 [t.av,.slc 3 (yL plan)] [] (vO t plan) []:=s66 t plan _ _ (by
 unfold R66;have hb:=c71 t ht;unfold WW at hb;by_cases he:(qg t).2.2≠0
 ·have hE:Xj t plan=(qg t).2.2:=if_pos he;rw[if_pos he] at hb;refine .inl ⟨_,hb,fun _=>⟨by unfold vO;rw[hE,if_pos he],by trivial⟩,fun h=>absurd h (by simpa using he)⟩
 rw[if_neg he] at hb;have hv:=xK (Decidable.not_not.1 he);have hll:=hv.ll;have hE:Xj t plan=if plan.length≠t.Lorries.length then 2 else if plan.any xB then 3 else if plan.flatten.any (y8 t 0) then 4 else 0:=if_neg he
 simp only[List.length_map];have hd:((plan.length:Int) != (t.Lorries.length:Int))=decide (plan.length≠t.Lorries.length):=by rw[Bool.eq_iff_iff];simp;omega
 rw[hd];refine .inr ⟨_,_,_,_,_,_,_,_,_,_,_,_,_,_,_,hb,fun h=>by simp at h,fun _=>⟨fun h1=>?_,fun h1=>?_⟩⟩
 ·exact⟨by unfold vO;rw[hE,if_pos (zt_ h1)];rfl,by trivial⟩
 have h1:=zf_ h1;rw[if_neg h1] at hE;have h1:=Decidable.not_not.1 h1;refine⟨_,Dz plan (by omega),fun h2=>⟨by unfold vO;rw[hE,if_pos h2];rfl,by trivial⟩,fun h2=>?_⟩;rw[if_neg (by rw[h2];simp)] at hE;have h6:∀x∈plan,x.length<=6:=fun x hx=>by
  have h3:xB x=false:=by simpa using List.any_eq_false.1 h2 x hx
  unfold xB at h3;have:=zf_ h3;omega
 have h7:=Uj h6;refine⟨_,c78 plan (by omega) (by omega),_,zcn plan.flatten t (by omega),fun h3=>⟨by unfold vO;rw[hE,if_pos h3];rfl,by trivial⟩,fun h3=>⟨?_,by trivial⟩⟩;rw[if_neg (by rw[h3];simp)] at hE;unfold vO;rw[hE,if_neg (by simp)];rfl)
def Ut (t:TRoTask) (least:Int) (l:List Int):AV:=if (qg t).2.2≠0 then .tup [.nilp,.int .i64 (qg t).2.2] else .tup [(ye t).ptr,.int .i64 (if l.any (y8 t least) then 4 else 0)]
def R49 (t:TRoTask) (least:Int) (l:List Int) (Q:yc):Prop :=
 (∃n1,Sp 71 [t.av] [] (.tup [AV.nilp,iN n1]) []/\((n1 == 0)=true->∃b5,Sp 42 [AV.slc 3 (List.map (AV.int i64) l),AV.fn (90:Nat) [] [AV.ref 0 0,.ref 1 0]] [[iN least],t.cs] (.bool b5) [[iN least],t.cs]/\(b5=true->Q (.tup [AV.nilp,iN 4]) [])/\(b5=false->Q (.tup [AV.nilp,iN n1]) []))/\((n1 == 0)=false->Q (.tup [AV.nilp,iN n1]) []))\/∃n1 n2 n3 n4 n5 n6 n7 n8 n9 es10 es11 es12 es13 es14 n15,Sp 71 [t.av] [] (.tup [AV.eptr [iN n1,iN n2,iN n3,iN n4,iN n5,iN n6,iN n7,iN n8,iN n9,.slc 3 es10,.slc 3 es11,.slc 3 es12,.slc 3 es13,.slc 3 es14] (0:Nat),iN n15]) []/\((n15 == 0)=true->∃b19,Sp 42 [AV.slc 3 (List.map (AV.int i64) l),AV.fn (90:Nat) [] [AV.ref 0 0,.ref 1 0]] [[iN least],t.cs] (.bool b19) [[iN least],t.cs]/\(b19=true->Q (.tup [AV.eptr [iN n1,iN n2,iN n3,iN n4,iN n5,iN n6,iN n7,iN n8,iN n9,.slc 3 es10,.slc 3 es11,.slc 3 es12,.slc 3 es13,.slc 3 es14] (0:Nat),iN 4]) [])/\(b19=false->Q (.tup [AV.eptr [iN n1,iN n2,iN n3,iN n4,iN n5,iN n6,iN n7,iN n8,iN n9,.slc 3 es10,.slc 3 es11,.slc 3 es12,.slc 3 es13,.slc 3 es14] (0:Nat),iN n15]) []))/\((n15 == 0)=false->Q (.tup [AV.eptr [iN n1,iN n2,iN n3,iN n4,iN n5,iN n6,iN n7,iN n8,iN n9,.slc 3 es10,.slc 3 es11,.slc 3 es12,.slc 3 es13,.slc 3 es14] (0:Nat),iN n15]) [])
theorem s49 (t:TRoTask) (least:Int) (l:List Int) (v O) (h:R49 t least l (fun r O'=>r=v/\O'=O)):Sp 49 [t.av,iN least,.slc 3 (List.map (AV.int .i64) l)] [] v O :=
 zX ⟨[],[(71,[.tup [.nilp,iN 0],.tup [.eptr [iN 0,iN 0,iN 0,iN 0,iN 0,iN 0,iN 0,iN 0,iN 0,.slc 3 [],.slc 3 [],.slc 3 [],.slc 3 [],.slc 3 []] 0,iN 0]])],[42],[],[]⟩ 0 ⟨[0,1,2,3,4,6,7,8,9,21],[],[],[]⟩ [] (by exact trivial) Tryz.func49 Tryz.call49 rfl rfl rfl (by kernel_rfl) h
theorem c49 (t:TRoTask) (ht:jw t) (least:Int) (l:List Int) (hl:l.length<=4611686018427387904):Sp 49 [t.av,.int .i64 least,.slc 3 (yg l)] [] (Ut t least l) []:=s49 t least l _ _ (by
 unfold R49;have hb:=c71 t ht;unfold WW at hb;by_cases he:(qg t).2.2≠0
 ·rw[if_pos he] at hb;refine .inl ⟨_,hb,fun h=>absurd h (by simpa using he),fun _=>⟨by unfold Ut;rw[if_pos he],by trivial⟩⟩
 rw[if_neg he] at hb;refine .inr ⟨_,_,_,_,_,_,_,_,_,_,_,_,_,_,_,hb,fun _=>⟨_,zco l least t hl,fun h=>⟨by unfold Ut;rw[if_neg he,if_pos h];rfl,by trivial⟩,fun h=>⟨by unfold Ut;rw[if_neg he,if_neg (by rw[h];simp)];rfl,by trivial⟩⟩,fun h=>by simp at h⟩)
end Go.Proofs.YtkojpnkknehhmaaGreatDoor
