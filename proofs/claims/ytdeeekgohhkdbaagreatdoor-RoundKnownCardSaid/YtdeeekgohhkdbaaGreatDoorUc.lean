/- The library's Clone and Insert of lists of numbers. -/
import Derived.Shelf.Spec.SlicesInsert
import Derived.Shelf.Spec.SlicesInsertGrow
import Derived.Shelf.Slices.Clone
import Derived.Great.BuildSlice
import Derived.Test.YtdeeekgohhkdbaaGreatDoorMd
namespace Go.Proofs.YtdeeekgohhkdbaaGreatDoor
open Go.RowKit
def Nh:Go.Shelf.Ren:=⟨fun x=>match x with | 15=>49 | 21=>96 | 27=>123 | 28=>124 | 35=>135 | 39=>160 | n=>n,fun x=>match x with | 3=>3 | 4=>4 | 22=>41 | n=>n,fun x=>x⟩
theorem XW:Go.Proofs.Lays2.n15 Tryz.prog Nh where
 mixed:=by kernel_rfl
 f15:=Tryz.func49.trans (by kernel_rfl)
 t3:=Tryz.underlying3
 a3:=Tryz.isAgg3
 z3:=Tryz.sizeOf3
 v3:=Tryz.zeroValue3
 t4:=Tryz.underlying4
 a4:=Tryz.isAgg4
 z4:=Tryz.sizeOf4
 v4:=Tryz.zeroValue4
 t22:=Tryz.underlying41
 a22:=Tryz.isAgg41
 z22:=Tryz.sizeOf41
 v22:=Tryz.zeroValue41
 i3:=by kernel_rfl
theorem Xx:Go.Proofs.Lays2.n21 Tryz.prog Nh where
 mixed:=by kernel_rfl
 f21:=Tryz.func96.trans (by kernel_rfl)
 f27:=Tryz.func123.trans (by kernel_rfl)
 f28:=Tryz.func124.trans (by kernel_rfl)
 f35:=Tryz.func135.trans (by kernel_rfl)
 f39:=Tryz.func160.trans (by kernel_rfl)
 t0:=Tryz.underlying0
 a0:=Tryz.isAgg0
 z0:=Tryz.sizeOf0
 v0:=Tryz.zeroValue0
 t3:=Tryz.underlying3
 a3:=Tryz.isAgg3
 z3:=Tryz.sizeOf3
 v3:=Tryz.zeroValue3
 t4:=Tryz.underlying4
 a4:=Tryz.isAgg4
 z4:=Tryz.sizeOf4
 v4:=Tryz.zeroValue4
 t22:=Tryz.underlying41
 a22:=Tryz.isAgg41
 z22:=Tryz.sizeOf41
 v22:=Tryz.zeroValue41
 i3:=by kernel_rfl
abbrev jW (l:List Int):List Value:=l.map (Value.int .i64)
theorem PZ (l:List Int):∀v∈jW l,v.oneCell'=true:=fun v hv=>by
 obtain ⟨x,_,rfl⟩:=List.mem_map.1 hv;rfl
theorem P9 (b:Nat) (t:TypeId):∀(vs:List Value) (o:Nat) (cur:Array Value) (w:World),w.heap[b]? = some (.cells cur t (0,0)) ->
  ∃cur':Array Value,(w.setCells b o vs).heap[b]? = some (.cells cur' t (0,0))/\cur'.size=cur.size/\(∀j,cur'[j]? = if o<=j/\j<o+vs.length/\j<cur.size then vs[j-o]? else cur[j]?) /\
   (∀k,k≠b->(w.setCells b o vs).heap[k]? = w.heap[k]?)/\(w.setCells b o vs).heap.size=w.heap.size/\(w.setCells b o vs).os=w.os/\(w.setCells b o vs).tape=w.tape/\(w.setCells b o vs).output=w.output:=by
 intro vs;induction vs with
 |nil=>intro o cur w h;exact⟨cur,h,rfl,fun j=>by rw[if_neg (by simp;omega)],fun _ _=>rfl,rfl,rfl,rfl,rfl⟩
 |cons v r ih =>
  intro o cur w h;obtain ⟨c,h1,h2,h3,h4,h5,h6,h7,h8⟩:=ih (o+1) (cur.setIfInBounds o v) (w.setCell ⟨b,o,none⟩ v) (heap_setCell_same w b o cur t v h);refine⟨c,h1,by rw[h2,Array.size_setIfInBounds],fun j=>?_,fun k hk=>?_,?_,h6,h7,h8⟩
  ·rw[h3 j,Array.size_setIfInBounds,List.length_cons];by_cases hj:j=o
   ·subst hj;rw[if_neg (by omega)];by_cases hlt:j<cur.size
    ·rw[if_pos (by omega),Nat.sub_self,Array.getElem?_setIfInBounds_self_of_lt hlt];rfl
    ·rw[if_neg (by omega),Array.getElem?_eq_none (by rw[Array.size_setIfInBounds];omega),Array.getElem?_eq_none (by omega)]
   ·rw[Array.getElem?_setIfInBounds_ne (by omega)];by_cases hin:o+1<=j/\j<o+1+r.length/\j<cur.size
    ·rw[if_pos hin,if_pos (by omega),show j-o=(j-(o+1))+1 by omega,List.getElem?_cons_succ]
    ·rw[if_neg hin,if_neg (by omega)]
  ·rw[World.setCells,h4 k hk];exact heap_setCell_other w _ k v hk
  ·rw[World.setCells,h5];simp[World.setCell]
theorem Oi {cur:Array Value} {l:List Value} {n:Nat} (hl:l.length=n) (h:∀j,j<n->cur[j]? = l[j]?):cur.toList.take n=l:=by
 apply List.ext_getElem?;intro j;rw[List.getElem?_take];split
 ·rename_i hj;rw[Array.getElem?_toList];exact h j hj
 ·rename_i hj;rw[List.getElem?_eq_none (by omega)]
theorem Hk {N:Nat} {v:Value} {x:List Int} {w:World} {vb:Nat} {job:Int} {k:Nat} (hown:w.ownsRow N 3 1 v x.length (jW x)) (hk:k<=x.length) (hx:x.length<=1000) (hN:N<=w.heap.size)
  (hvb:w.heap[vb]? = some (.cells #[.int .i64 job] 3 (0,0))) (hne:v.ownBlock≠some vb) :
  Calls Tryz.prog 96 #[v,.int .i64 k,.slice (some ⟨vb,0,none⟩) 1 1] w fun e w'=>∃v',e=.returned v'/\w'.ownsRow N 3 1 v' (x.length+1) (jW (x.take k++job::x.drop k)) /\
   w.grownBy w' v.ownBlock/\(v'.ownBlock=v.ownBlock\/∀g,v'.ownBlock=some g->w.heap.size<=g):=by
 have hvs:∀j u,[Value.int .i64 job][j]? = some u->w.cell? ⟨vb,0+j,none⟩=some u:=by
  intro j u hj;cases j with
  |zero=>simp at hj;subst hj;simp[World.cell?,hvb]
  |succ j=>simp at hj
 have h1v:∀u∈[Value.int .i64 job],u.oneCell'=true:=fun u hu=>by rw[List.mem_singleton.1 hu];rfl
 have hlen:(x.take k++job::x.drop k).length=x.length+1:=by simp;omega
 have hml:maxLen=9223372036854775807:=by kernel_rfl
 have grow:∀(c:Nat) (cs:List Value),cs=jW (x.take k++job::x.drop k) ->
   (w.drew.alloc (.cells (cs.toArray++Builtin.zeroCells (Value.int .i64 0).cells (grownCap w (x.length+1) c 3-(x.length+1))) 3)).ownsRow N 3 1 (.slice (some ⟨w.heap.size,0,none⟩) (x.length+1) (grownCap w (x.length+1) c 3)) (x.length+1) cs:=by
  rintro c cs rfl;have hge:=grownCap_ge w (x.length+1) c 3;have hcm:grownCap w (x.length+1) c 3<=maxLen:=grownCap_le_maxLen w (x.length+1) c 3 (by rw[hml];omega);refine⟨by rw[List.length_map,hlen,Nat.mul_one],.inr ⟨w.heap.size,_,_,rfl,hN,heap_alloc_new w.drew _,hge,hcm,?_,?_⟩⟩
  ·simp only[Array.size_append,List.size_toArray,size_zeroCells,List.length_map,hlen];show x.length+1+(_-(x.length+1))*1=_;omega
  ·rw[Array.toList_append,Nat.mul_one,<- hlen,<- List.length_map (f:=Value.int .i64)];exact List.take_left
 rcases hown.2 with ⟨rfl,h0⟩ | ⟨g,cap,cur,rfl,hg0,hg,hnc,hcm,hcs,htk⟩
 ·have hx0:x=[]:=List.eq_nil_of_length_eq_zero h0;subst hx0;have hk0:k=0:=by simpa using hk
  subst hk0;refine(Any2.slices_Insert_int_end_grow Xx none 0 0 vb 0 1 1 [] [.int .i64 job] w (by omega) (by omega) (by omega) (by omega) rfl rfl (fun _=>rfl) (fun a h=>by cases h) hvs h1v).mono ?_;rintro e w' ⟨rfl,rfl⟩;exact⟨_,rfl,grow 0 _ rfl,⟨rfl,rfl,rfl,by simp,fun k hk _=>heap_alloc_old w.drew _ hk⟩,.inr fun g hg=>by simp only[Value.ownBlock,Option.some.injEq] at hg;omega⟩
 rw[Nat.mul_one] at hcs htk;have hgb:g<w.heap.size:=(Array.getElem?_eq_some_iff.1 hg).1;have hcell:∀j u,(jW x)[j]? = some u->w.cell? ⟨g,0+j,none⟩=some u:=by
  intro j u hj;have:=hown.cells (g:=g) rfl j u hj;rw[qt] at this;exact this
 have hcur:∀j,j<x.length->cur[j]? = (jW x)[j]?:=by
  intro j hj;rw[<- htk,List.getElem?_take,if_pos hj,Array.getElem?_toList]
 have hne':vb≠g:=fun h=>hne (by rw[h];rfl)
 have hsome:∀j,j<cap->(w.cell? ⟨g,0+j,none⟩).isSome=true:=by
  intro j hj;simp[World.cell?,hg,show j<cur.size by omega]
 have hfz:∀j,w.frozen? ⟨g,j,none⟩=false:=fun j=>by simp[World.frozen?,hg]
 have stays:∀(w':World) (c':Array Value),w'.heap[g]? = some (.cells c' 3 (0,0))->c'.size=cur.size->(∀j,j<x.length+1->c'[j]? = (jW (x.take k++job::x.drop k))[j]?)->x.length+1<=cap ->
   w'.ownsRow N 3 1 (.slice (some ⟨g,0,none⟩) (x.length+1) cap) (x.length+1) (jW (x.take k++job::x.drop k)):=by
  intro w' c' h1 h2 h3 h4;refine⟨by rw[List.length_map,hlen,Nat.mul_one],.inr ⟨g,cap,c',rfl,hg0,h1,h4,hcm,by omega,?_⟩⟩;rw[Nat.mul_one];exact Oi (by rw[List.length_map,hlen]) h3
 have hat:∀j,(jW (x.take k++job::x.drop k))[j]? = if j<k then (jW x)[j]? else if j=k then some (.int .i64 job) else (jW x)[j-1]?:=by
  intro j;rw[List.getElem?_map,List.getElem?_map,List.getElem?_map,List.getElem?_append,List.length_take,Nat.min_eq_left hk];by_cases h1:j<k
  ·rw[if_pos h1,if_pos h1,List.getElem?_take,if_pos h1]
  ·rw[if_neg h1,if_neg h1];by_cases h2:j=k
   ·subst h2;rw[if_pos rfl,Nat.sub_self];rfl
   ·rw[if_neg h2,show j-k=(j-k-1)+1 by omega,List.getElem?_cons_succ,List.getElem?_drop,show k+(j-k-1)=j-1 by omega]
 rcases Nat.lt_or_eq_of_le hk with hlt | rfl
 ·by_cases hroom:x.length+1<=cap
  ·refine(Any2.slices_Insert_int_shift Xx g 0 x.length cap k vb 0 1 1 (jW x) [.int .i64 job] w hlt (by omega) hroom (by rw[hml] at hcm;exact hcm) hne' (by simp) rfl hcell (fun j hj=>hsome j (by omega)) (fun j _=>hfz _) hvs (PZ x) h1v 3 3 1 cap (by simp[World.shape?,hvb]) (by simp[World.shape?,hg,hcs]) (by omega) (by simp[World.frozen?,hvb]) (by simp[World.frozen?,hvb])).mono ?_;rintro e w' ⟨rfl,rfl⟩;obtain ⟨c1,a1,a2,a3,a4,a5,a6,a7,a8⟩:=P9 g 3 ((jW x).drop k) (0+(k+1)) cur w.drew hg;obtain ⟨c2,b1,b2,b3,b4,b5,b6,b7,b8⟩:=P9 g 3 [.int .i64 job] (0+k) c1 (w.drew.setCells g (0+(k+1)) ((jW x).drop k)) a1;refine⟨_,rfl,stays _ c2 b1 (by rw[b2,a2]) (fun j hj=>?_) hroom,⟨by rw[b6,a6];rfl,by rw[b7,a7];rfl,by rw[b8,a8];rfl,by rw[b5,a5];exact Nat.le_refl _,fun i _ hi=>?_⟩,.inl rfl⟩
   ·rw[b3,a2,a3,hat];simp only[List.length_cons,List.length_nil,List.length_drop,List.length_map];by_cases h1:j<k
    ·rw[if_neg (by omega),if_neg (by omega),if_pos h1];exact hcur j (by omega)
    ·by_cases h2:j=k
     ·subst h2;rw[if_pos (by omega),if_neg (by omega),if_pos rfl,show j-(0+j)=0 by omega];rfl
     ·rw[if_neg (by omega),if_pos (by omega),if_neg h1,if_neg h2,List.getElem?_drop,show k+(j-(0+(k+1)))=j-1 by omega]
   ·have hi:i≠g:=fun h=>hi (by rw[h];rfl)
    rw[b4 i hi,a4 i hi];rfl
  ·refine(Any2.slices_Insert_int_grow Xx g 0 x.length cap k vb 0 1 1 (jW x) [.int .i64 job] w hlt (by omega) hnc (by omega) (by omega) (by simp) rfl hcell hvs (PZ x) h1v).mono ?_;rintro e w' ⟨rfl,rfl⟩;have hge:=grownCap_ge w (x.length+1) cap 3;have hcm':grownCap w (x.length+1) cap 3<=maxLen:=grownCap_le_maxLen w (x.length+1) cap 3 (by rw[hml];omega);rw[show Nh.t 3=3 from rfl];have hC:=heap_alloc_new w (.cells (((jW x).take k).toArray++Builtin.zeroCells (Value.int .i64 0).cells (x.length+1-k)++Builtin.zeroCells (Value.int .i64 0).cells (grownCap w (x.length+1) cap 3-(x.length+1))) 3);have hold:=fun (i:Nat) (hi:i<w.heap.size)=>heap_alloc_old (r:=i) w (.cells (((jW x).take k).toArray++Builtin.zeroCells (Value.int .i64 0).cells (x.length+1-k)++Builtin.zeroCells (Value.int .i64 0).cells (grownCap w (x.length+1) cap 3-(x.length+1))) 3) hi
   have hsz:(w.alloc (.cells (((jW x).take k).toArray++Builtin.zeroCells (Value.int .i64 0).cells (x.length+1-k)++Builtin.zeroCells (Value.int .i64 0).cells (grownCap w (x.length+1) cap 3-(x.length+1))) 3)).heap.size=w.heap.size+1:=by simp
   have hcsz:(((jW x).take k).toArray++Builtin.zeroCells (Value.int .i64 0).cells (x.length+1-k)++Builtin.zeroCells (Value.int .i64 0).cells (grownCap w (x.length+1) cap 3-(x.length+1))).size=grownCap w (x.length+1) cap 3:=by
    simp only[Array.size_append,List.size_toArray,size_zeroCells,List.length_take,List.length_map,Nat.min_eq_left hk];show k+(x.length+1-k)*1+(_-(x.length+1))*1=_;omega
   have hpre:∀j,j<k->(((jW x).take k).toArray++Builtin.zeroCells (Value.int .i64 0).cells (x.length+1-k)++Builtin.zeroCells (Value.int .i64 0).cells (grownCap w (x.length+1) cap 3-(x.length+1)))[j]? = (jW x)[j]?:=by
    intro j hj;have hs:j<(((jW x).take k).toArray).size:=by simp;omega
    rw[Array.getElem?_append_left (by rw[Array.size_append];omega),Array.getElem?_append_left hs,List.getElem?_toArray,List.getElem?_take,if_pos hj]
   generalize (((jW x).take k).toArray++Builtin.zeroCells (Value.int .i64 0).cells (x.length+1-k)++Builtin.zeroCells (Value.int .i64 0).cells (grownCap w (x.length+1) cap 3-(x.length+1)))=C at hC hold hsz hcsz hpre ⊢;generalize hw1:w.alloc (.cells C 3)=w1 at hC hold hsz ⊢;have hw1':w1.os=w.os/\w1.tape=w.tape/\w1.output=w.output:=by rw[<- hw1];exact⟨rfl,rfl,rfl⟩
   obtain ⟨c1,a1,a2,a3,a4,a5,a6,a7,a8⟩:=P9 w.heap.size 3 [.int .i64 job] k C w1.drew hC;obtain ⟨c2,b1,b2,b3,b4,b5,b6,b7,b8⟩:=P9 w.heap.size 3 ((jW x).drop k) (k+1) c1 (w1.drew.setCells w.heap.size k [.int .i64 job]).drew a1;have hcl:c2.size=grownCap w (x.length+1) cap 3:=by rw[b2,a2,hcsz]
   refine⟨_,rfl,⟨by rw[List.length_map,hlen,Nat.mul_one],.inr ⟨w.heap.size,_,c2,rfl,hN,b1,hge,hcm',by rw[hcl,Nat.mul_one],?_⟩⟩,⟨by rw[b6];exact a6.trans hw1'.1,by rw[b7];exact a7.trans hw1'.2.1,by rw[b8];exact a8.trans hw1'.2.2,by rw[b5];show w.heap.size<=(w1.drew.setCells w.heap.size k [.int .i64 job]).heap.size;rw[a5];show w.heap.size<=w1.heap.size;omega,fun i hil _=>?_⟩,.inr fun g hg=>by simp only[Value.ownBlock,Option.some.injEq] at hg;omega⟩
   ·rw[Nat.mul_one];refine Oi (by rw[List.length_map,hlen]) fun j hj=>?_
    rw[b3,a2,a3,hat];simp only[List.length_cons,List.length_nil,List.length_drop,List.length_map];by_cases h1:j<k
    ·rw[if_neg (by omega),if_neg (by omega),if_pos h1];exact hpre j h1
    ·by_cases h2:j=k
     ·subst h2;rw[if_neg (by omega),if_pos (by omega),if_neg (by omega),if_pos rfl,Nat.sub_self];rfl
     ·rw[if_pos (by omega),if_neg h1,if_neg h2,List.getElem?_drop,show k+(j-(k+1))=j-1 by omega]
   ·have hi:i≠w.heap.size:=by omega
    rw[b4 i hi];show (w1.drew.setCells w.heap.size k [.int .i64 job]).heap[i]? = _;rw[a4 i hi];exact hold i hil
 ·have hend:x.take x.length++job::x.drop x.length=x++[job]:=by rw[List.take_length,List.drop_length]
  by_cases hroom:x.length+1<=cap
  ·refine(Any2.slices_Insert_int_end_room Xx g 0 x.length cap vb 0 1 1 [.int .i64 job] w (by omega) hroom (by rw[hml] at hcm;exact hcm) rfl (fun j hj=>?_) (fun j _=>hfz _) hvs h1v).mono ?_
   ·have:=hsome (x.length+j) (by omega);rwa[show 0+(x.length+j)=0+x.length+j by omega] at this
   rintro e w' ⟨rfl,rfl⟩;obtain ⟨c1,a1,a2,a3,a4,a5,a6,a7,a8⟩:=P9 g 3 [.int .i64 job] (0+x.length) cur w hg;refine⟨_,rfl,stays _ c1 a1 a2 (fun j hj=>?_) hroom,⟨a6,a7,a8,by rw[a5];exact Nat.le_refl _,fun i _ hi=>a4 i fun h=>hi (by rw[h];rfl)⟩,.inl rfl⟩;rw[a3,hat];simp only[List.length_cons,List.length_nil];by_cases h1:j<x.length
   ·rw[if_neg (by omega),if_pos h1];exact hcur j h1
   ·have h2:j=x.length:=by omega
    subst h2;rw[if_pos (by omega),if_neg h1,if_pos rfl,show x.length-(0+x.length)=0 by omega];rfl
  ·refine(Any2.slices_Insert_int_end_grow Xx (some ⟨g,0,none⟩) x.length cap vb 0 1 1 (jW x) [.int .i64 job] w (by omega) hnc (by omega) (by omega) (by simp) rfl (fun h=>by cases h) (fun a ha j u hj=>?_) hvs h1v).mono ?_
   ·cases ha;exact hown.cells (g:=g) rfl j u hj
   rintro e w' ⟨rfl,rfl⟩;have e:jW (x.take x.length++job::x.drop x.length)=jW x++[.int .i64 job]:=by rw[hend];exact List.map_append
   refine⟨_,rfl,by rw[e];exact grow cap _ e.symm,⟨rfl,rfl,rfl,by simp,fun k hk _=>heap_alloc_old w.drew _ hk⟩,.inr fun g hg=>by simp only[Value.ownBlock,Option.some.injEq] at hg;omega⟩
def kp (id:Nat):Code->Array Oper
 |.region i o _=>if i=id then o else #[]
 |.seq a b | .cond _ a b | .rangeFunc _ _ a b=>if (kp id a).isEmpty then kp id b else kp id a
 |.block _ b | .loop b | .scope b=>kp id b
 |_=>#[]
def qz (o:Oper):Option Nat × Op × Bool:=(o.dst,o.op,o.guard.isNone)
theorem WQ {ops:Array Oper} {l:List (Option Nat × Op)} (h:ops.toList.map qz=l.map fun q=>(q.1,q.2,true)) {k:Nat} {d:Option Nat} {p:Op} (hk:l[k]? = some (d,p)):∃o,ops[k]? = some o/\o.dst=d/\o.op=p/\o.guard=none:=by
 have h1:(ops.toList.map qz)[k]? = some (d,p,true):=by rw[h,List.getElem?_map,hk];rfl
 rw[List.getElem?_map] at h1;obtain ⟨o,ho,he⟩:=Option.map_eq_some_iff.1 h1;simp only[qz,Prod.mk.injEq] at he;exact⟨o,by simpa using ho,he.1,he.2.1,by simpa using he.2.2⟩
theorem M8 {ops:Array Oper} {l:List (Option Nat × Op)} (h:ops.toList.map qz=l.map fun q=>(q.1,q.2,true)):ops.size=l.length:=by
 have:=congrArg List.length h;simpa using this
section
variable {ro:Option Nat} {a:Act} {w w':World} {ops:Array Oper} {l:List (Option Nat × Op)} {Q:Exit->Act->World->Prop} {k m:Nat} {d:Option Nat} {p:Op}
theorem je (h:ops.toList.map qz=l.map fun q=>(q.1,q.2,true)) (hk:l[k]? = some (d,p)) {cv:Value} (hr:∀o:Oper,o.op=p->(execOp a.eval o).run Tryz.prog w=.ok (.value cv) w') (hn:wpOpsIn (Fr ro) 0 Tryz.prog ops Q (List.range' (k+1) m) (a.put d cv) w') :
  wpOpsIn (Fr ro) 0 Tryz.prog ops Q (List.range' k (m+1)) a w:=by
 obtain ⟨o,h1,h2,h3,h4⟩:=WQ h hk;rw[List.range'_succ];exact km h1 (.inl ⟨by simp[Region.wanted,h4],qm (hr o h3) (by rw[h2];exact hn)⟩)
theorem Gs (h:ops.toList.map qz=l.map fun q=>(q.1,q.2,true)) (hk:l[k]? = some (none,p)) (hr:∀o:Oper,o.op=p->(execOp a.eval o).run Tryz.prog w=.ok .skip w') (hn:wpOpsIn (Fr ro) 0 Tryz.prog ops Q (List.range' (k+1) m) a w') :
  wpOpsIn (Fr ro) 0 Tryz.prog ops Q (List.range' k (m+1)) a w:=by
 obtain ⟨o,h1,h2,h3,h4⟩:=WQ h hk;rw[List.range'_succ];exact km h1 (.inl ⟨by simp[Region.wanted,h4],QS (hr o h3) (by rw[h2];exact hn)⟩)
theorem Gr {f:FuncId} {vs:Array Value} (h:ops.toList.map qz=l.map fun q=>(q.1,q.2,true)) (hk:l[k]? = some (d,p)) (hr:∀o:Oper,o.op=p->(execOp a.eval o).run Tryz.prog w=.ok (.enter f vs) w)
  (hc:Calls Tryz.prog f vs w (fun e w'=>∃cv,e=.returned cv/\wpOpsIn (Fr ro) 0 Tryz.prog ops Q (List.range' (k+1) m) (a.put d cv) w')):wpOpsIn (Fr ro) 0 Tryz.prog ops Q (List.range' k (m+1)) a w:=by
 obtain ⟨o,h1,h2,h3,h4⟩:=WQ h hk;rw[List.range'_succ];exact km h1 (.inl ⟨by simp[Region.wanted,h4],Y2 (hr o h3) (by rw[h2];exact hc)⟩)
theorem WB (hn:Q .normal a w):wpOpsIn (Fr ro) 0 Tryz.prog ops Q (List.range' k 0) a w:=hn
theorem wI (h:ops.toList.map qz=l.map fun q=>(q.1,q.2,true)) {id:Nat} (hn:wpOpsIn (Fr ro) 0 Tryz.prog ops Q (List.range' 0 l.length) a w):(Code.region id ops false).wpIn (Fr ro) 0 Tryz.prog Q a w:=by
 refine wpIn_region ?_;rw[List.range_eq_range',M8 h];exact hn
theorem Fh {o:Oper} {x:Operand} (ho:o.op=.move x):(execOp a.eval o).run Tryz.prog w=.ok (.value (a.eval x)) w:=by simp[execOp,ho]
theorem JW {o:Oper} {x:Operand} (ho:o.op=.assign x):(execOp a.eval o).run Tryz.prog w=.ok (.value (a.eval x)) w:=by simp[execOp,ho]
theorem DY {o:Oper} {x:Operand} {t e:TypeId} {q:Option Addr} {n c:Nat} (ho:o.op=.call { callee:=.builtin .len,args:=#[x],argTypes:=#[t] }) (ht:Tryz.prog.underlying t=some (.slice e)) (hx:a.eval x=.slice q n c) :
  (execOp a.eval o).run Tryz.prog w=.ok (.value (.int .i64 n)) w:=by
 simp[execOp,ho,resolve,invoke,builtin,hx,Builtin.len_,run_underlying ht];rfl
def avI:Value->AV
 |.int k n=>.int k n
 |_=>.undef
theorem KA (ρ:RO) (E:Option Lay) (v:Value):Rv ρ E (avI v) v:=by
 cases v<;>first | exact .undef .. | exact .int ..
theorem DZ {o:Oper} {x y:Operand} {t g:TypeId} {i j:Int} (ho:o.op=.binOp .lss t x y g) (hx:a.eval x=.int .i64 i) (hy:a.eval y=.int .i64 j) :
  (execOp a.eval o).run Tryz.prog w=.ok (.value (.bool (decide (i<j)))) w:=by
 obtain ⟨cv,h1,h2⟩:=vv (P:=Tryz.prog) (e:=fun q=>avI (a.eval q)) (c:=a.eval) (ρ:=fun _=>none) (E:=none) (fun q=>KA _ _ _) o (v:=.bool (decide (i<j))) (by
  rw[ho];simp only[jz,MY,hx,hy,avI,AV.zr,if_true,KD,mkB,Bool.and_false,Bool.false_eq_true,if_false]) w
 rw[h1];cases h2;rfl
theorem DX {o:Oper} {x y:Operand} {t g:TypeId} {i j:Int} (ho:o.op=.binOp .add t x y g) (hx:a.eval x=.int .i64 i) (hy:a.eval y=.int .i64 j) :
  (execOp a.eval o).run Tryz.prog w=.ok (.value (.int .i64 (IntKind.i64.wrap (i+j)))) w:=by
 obtain ⟨cv,h1,h2⟩:=vv (P:=Tryz.prog) (e:=fun q=>avI (a.eval q)) (c:=a.eval) (ρ:=fun _=>none) (E:=none) (fun q=>KA _ _ _) o (v:=.int .i64 (IntKind.i64.wrap (i+j))) (by
  rw[ho];simp only[jz,MY,hx,hy,avI,AV.zr,if_true,KD,mkI,Bool.and_false,Bool.false_eq_true,if_false]) w
 rw[h1];cases h2;rfl
theorem QD {o:Oper} {x y:Operand} {t e:TypeId} {de:TypeDesc} {b oo n c i:Nat} (ho:o.op=.indexAddr t x y) (ht:Tryz.prog.underlying t=some (.slice e)) (he:Tryz.prog.underlying e=some de) (hs:Tryz.prog.cellsOf e=1)
  (hx:a.eval x=.slice (some ⟨b,oo,none⟩) n c) (hy:a.eval y=.int .i64 i) (hi:i<n):(execOp a.eval o).run Tryz.prog w=.ok (.value (.pointer (some ⟨b,oo+i,none⟩))) w:=by
 have h1:(0<=(i:Int)/\(i:Int)<(n:Int)):=⟨by omega,by omega⟩;have hr:(Instr.indexAt t (.slice (some ⟨b,oo,none⟩) n c) (.int .i64 i)).run Tryz.prog w=.ok (.pointer (some ⟨b,oo+i,none⟩)) w:=by
  simp only[Instr.indexAt,asIntOf,Sem.run_bind,Sem.run_pure,Result.andThen_ok,run_underlying ht];rw[if_pos h1];simp only[Sem.run_bind,yF he,Result.andThen_ok,Sem.run_pure];rw[qt,hs,Nat.mul_one];rfl
 simp only[execOp,ho,hx,hy];exact yW hr
theorem NA {o:Oper} {x:Operand} {t:TypeId} {dt:TypeDesc} {ad:Addr} {v:Value} (ho:o.op=.load t x) (ht:Tryz.prog.underlying t=some dt) (hag:yp Tryz.prog t=false) (hx:a.eval x=.pointer (some ad)) (hc:w.cell? ad=some v) :
  (execOp a.eval o).run Tryz.prog w=.ok (.value v) w:=by
 have hr:(Instr.loadAt t (.pointer (some ad))).run Tryz.prog w=.ok v w:=by
  simp only[Instr.loadAt,Instr.sureAddr,Sem.run_bind,Sem.run_pure,Result.andThen_ok,loadVar,xK ht,hag,Bool.false_eq_true,if_false,run_load,hc]
 simp only[execOp,ho,hx];exact yW hr
theorem OU {v:Value} (h:v.oneCell'=true):v.cells=#[v]:=by cases v<;>simp_all [Value.oneCell',Value.cells]
theorem JX {o:Oper} {x:Operand} {t e:TypeId} {z:Value} (ho:o.op=.buildSlice t 1 #[(0,x)]) (ht:Tryz.prog.underlying t=some (.slice e)) (he:(Tryz.prog.info? e).map (fun i=>(i.zero,i.size))=some (some z,1)) (h1:(a.eval x).oneCell'=true) :
  (execOp a.eval o).run Tryz.prog w=.ok (.value (.slice (some ⟨w.heap.size,0,none⟩) 1 1)) (w.alloc (.cells #[a.eval x] e)):=by
 obtain ⟨ie,hie,hz⟩:=Option.map_eq_some_iff.1 he;simp only[Prod.mk.injEq] at hz;have hr:=run_buildSlice (P:=Tryz.prog) w t e 1 #[(0,a.eval x)] #[a.eval x] ie z ht hie hz.1 (by rw[hz.2];decide) (by rw[hz.2];decide) (by
  rw[hz.2];simp only[Instr.fill,OU h1];have hr1:Array.range (1*1)=#[0]:=rfl;rw[hr1];simp)
 simp[execOp,ho,hr]
theorem HK {o:Oper} {x y:Operand} {t:TypeId} {dt:TypeDesc} {b off:Nat} {cur:Array Value} {e:TypeId} (ho:o.op=.store t x y) (ht:Tryz.prog.underlying t=some dt) (hsz:Tryz.prog.cellsOf t=1) (hx:a.eval x=.pointer (some ⟨b,off,none⟩)) (hb:w.heap[b]? = some (.cells cur e (0,0))) (hoff:off<cur.size) (h1:(a.eval y).oneCell'=true) :
  (execOp a.eval o).run Tryz.prog w=.ok .skip (w.setCell ⟨b,off,none⟩ (a.eval y)):=by
 have hcs:=OU h1;have hr:(Instr.storeAt t (.pointer (some ⟨b,off,none⟩)) (a.eval y)).run Tryz.prog w=.ok () (w.setCell ⟨b,off,none⟩ (a.eval y)):=by
  simp only[Instr.storeAt,Instr.sureAddr,Sem.run_bind,Sem.run_pure,Result.andThen_ok,storeVar,yF ht,hsz];rw[hcs,if_neg (by simp)];have:=run_storeCells_cells (P:=Tryz.prog) b off [a.eval y] 0 w (fun j hj=>by
   have hj:j=0:=by simpa using hj
   subst hj;simp[World.cell?,hb,hoff]) (fun j _=>by simp[World.frozen?,hb]) (fun v hv=>by rw[List.mem_singleton.1 hv];exact h1)
  exact this
 simp only[execOp,ho,hx];simp[hr]
end
theorem yK {a:Act} {d t:Nat} {v:Value} (hs:91<a.tmps.size) (hd:d<=91):(a.put (some d) v).eval (.tmp t)=if t=d then v else a.eval (.tmp t):=by
 show (a.tmps.setIfInBounds d v).getD t Go.undef=_;rw[jn];by_cases h:t=d
 ·rw[if_pos ⟨h,by omega⟩,if_pos h]
 ·rw[if_neg (fun h'=>h h'.1),if_neg h];rfl
theorem yq {a:Act} {d:Option Nat} {v:Value}:(a.put d v).tmps.size=a.tmps.size:=by
 cases d<;>simp[Act.put]
theorem WR {a:Act} {d:Option Nat} {v:Value}:(a.put d v).defers=a.defers:=by cases d<;>rfl
section
variable {N B n:Nat} {e t:TypeId} {v u:Value} {xs:List Value} {w w':World}
theorem J4 (h:w.ownsRow B e 1 v n xs) (hN:N<=B):w.ownsRow N e 1 v n xs:=by
 refine⟨h.1,h.2.imp id fun⟨g,cap,cur,h1,h2,h3⟩=>⟨g,cap,cur,h1,by omega,h3⟩⟩
theorem wh (h:w.ownsRow N e 1 v n xs) {g:Nat} (hg:v.ownBlock=some g):N<=g/\g<w.heap.size:=by
 rcases h.2 with ⟨rfl,-⟩ | ⟨g',cap,cur,rfl,h1,h2,-⟩
 ·cases hg
 ·cases hg;exact⟨h1,(Array.getElem?_eq_some_iff.1 h2).1⟩
theorem kM (h:w.ownsRow N e 1 v n xs) (hb:∀g,v.ownBlock=some g->w'.heap[g]? = w.heap[g]?):w'.ownsRow N e 1 v n xs:=by
 refine⟨h.1,h.2.imp id fun⟨g,cap,cur,h1,h2,h3,h4⟩=>⟨g,cap,cur,h1,h2,by rw[hb g (by rw[h1];rfl)];exact h3,h4⟩⟩
theorem NG {m:Nat} {ys:List Value} (h:w.ownsRow N e 1 v n xs) (h':w.ownsRow B t 1 u m ys) (hne:e≠t):v.ownBlock=none\/v.ownBlock≠u.ownBlock:=by
 rcases h.2 with ⟨rfl,-⟩ | ⟨g,cap,cur,rfl,-,h2,-⟩
 ·exact .inl rfl
 ·refine .inr fun hh=>?_
  rcases h'.2 with ⟨rfl,-⟩ | ⟨g',cap',cur',rfl,-,h3,-⟩
  ·cases hh
  ·simp only[Value.ownBlock,Option.some.injEq] at hh;subst hh;rw[h2] at h3;cases h3;exact hne rfl
theorem QJ (h:w.ownsRow N e 1 v n xs):v.oneCell'=true:=by
 rcases h.2 with ⟨rfl,-⟩ | ⟨g,cap,cur,rfl,-⟩<;>rfl
theorem J5 {ρ:RO} {x:List Int} (h:w.ownsRow N e 1 v x.length (jW x)) (hro:∀k o,N<=k->w.heap[k]? = some o->ρ k=some o):Rv ρ none (.slc 3 (x.map (AV.int .i64))) v:=by
 rcases h.2 with ⟨rfl,h0⟩ | ⟨g,cap,cur,rfl,hg,h2,hnc,-,-,htk⟩
 ·have:x=[]:=List.eq_nil_of_length_eq_zero h0;subst this;exact .nilslc _ _
 ·rw[Nat.mul_one] at htk;have hl:(x.map (AV.int .i64)).length=x.length:=List.length_map ..;have hi:∀i (hi:i<x.length),(x.map (AV.int .i64)).getD i .undef=.int .i64 x[i]:=fun i hi=>by simp[List.getD,hi]
  have:=Rv.slc (ρ:=ρ) none 3 (x.map (AV.int .i64)) g 0 cap 1 (fun i _=>.int .i64 (x.getD i 0)) (by simp) (by rw[hl];exact hnc) (by simp) (fun i h=>by rw[hl] at h;rw[hi i h];rfl) (fun i h j hj=>by
   rw[hl] at h;have hj:j=0:=by omega
   subst hj;unfold RO.cell;rw[hro g _ hg h2];simp only[Nat.mul_one,Nat.zero_add,Nat.add_zero,Nat.not_lt_zero,and_false,if_false];have:cur[i]? = (jW x)[i]?:=by rw[<- htk,List.getElem?_take,if_pos h,Array.getElem?_toList]
   rw[this,List.getElem?_map,List.getElem?_eq_getElem h];simp[List.getD,h]) (fun i j=>by
   by_cases h:i<x.length
   ·rw[hi i h];cases j with
    |zero =>
     simp only[AV.cells,List.getD_cons_zero];have:x.getD i 0=x[i]:=by simp[List.getD,h]
     rw[this];exact .int ..
    |succ j=>exact .undef ..
   ·rw[yO (l:=x.map (AV.int .i64)) (by rw[hl];omega)];cases j<;>exact .undef ..)
  rwa[hl] at this
theorem M7 {ρ:RO} {x:List Int} {cv:Value} (h:Rv ρ none (.slc 3 (x.map (AV.int .i64))) cv) (hro:∀k o,ρ k=some o->w.heap[k]? = some o) (hx:x.length<=1000) :
  Calls Tryz.prog 49 #[cv] w fun e w'=>∃v',e=.returned v'/\w'.ownsRow w.heap.size 3 1 v' x.length (jW x)/\Below w.heap.size w w':=by
 have zero:∀a c,x=[]->Calls Tryz.prog 49 #[.slice (some a) 0 c] w fun e w'=>∃v',e=.returned v'/\w'.ownsRow w.heap.size 3 1 v' x.length (jW x)/\Below w.heap.size w w':=by
  rintro a c rfl;exact(Any.slices_Clone_int_zero XW a c w).mono fun e w' ⟨v',h1,h2,_,h4⟩=>⟨v',h1,h2,h4⟩
 generalize hes:x.map (AV.int .i64)=es at h;have hl:es.length=x.length:=by rw[<- hes];simp
 cases h with
 |nilslc =>
  have:x=[]:=List.eq_nil_of_length_eq_zero (by rw[<- hl];rfl);subst this;exact(Any.slices_Clone_int_nil XW 0 0 w).mono fun e w' ⟨h1,h2⟩=>⟨_,h1,by rw[h2];exact World.ownsRow_nil _ _ _ _,by rw[h2];exact Below.refl _ _⟩
 |eslc _ _ a=>exact zero a 0 (List.eq_nil_of_length_eq_zero (by rw[<- hl];rfl))
 |slc _ _ _ b o cap k c hm hcap h2 hk hc hh =>
  rw[hl];by_cases h0:x=[]
  ·have:=zero ⟨b,o,none⟩ cap h0;rw[h0];rw[h0] at this;exact this
  have hpos:0<x.length:=List.length_pos_iff.2 h0;have hget:∀i (hi:i<x.length),es.getD i .undef=.int .i64 x[i]:=fun i hi=>by rw[<- hes];simp[List.getD,hi]
  have hk1:k=1:=by have:=hk 0 (by omega);rw[hget 0 hpos] at this;exact this.symm
  subst hk1;have hcell:∀j,j<x.length->w.cell? ⟨b,o+j,none⟩=some (.int .i64 (x.getD j 0)):=by
   intro j hj;have h3:=hc j (by omega) 0 (by omega);have h4:=hh j 0;rw[hget j hj] at h4;simp only[Nat.mul_one,Nat.add_zero] at h3;rw[kZ hro h3];generalize c j 0=q at h4;cases h4;simp[List.getD,hj]
  refine(Any.slices_Clone_int XW b o x.length cap x w (Nat.le_refl _) (by omega) hcell).mono fun e w' ⟨v',h1,h2,_,h4⟩=>⟨v',h1,?_,h4⟩
  rw[List.take_length] at h2;exact h2
end
end Go.Proofs.YtdeeekgohhkdbaaGreatDoor
