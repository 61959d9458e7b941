/- Contracts: the calls that every law makes. -/
import Derived.Test.YtkojpnkknehhmaaGreatDoorSj
namespace Go.Proofs.YtkojpnkknehhmaaGreatDoor
open Go.IntKind (wrap i64 u64)
open Go.RowKit
theorem xd {a:List Int} {k:Nat} (h:k<a.length):(a.map (AV.int .i64))[((k:Nat):Int).toNat]? = some (.int .i64 a[k]):=by
 rw[Int.toNat_natCast,List.getElem?_map,List.getElem?_eq_getElem h];rfl
theorem N7 {α:Type} {a b:List α} {k:Nat} (ha:k<a.length) (hb:k<b.length) (h:a.take k=b.take k):a.take (k+1)=b.take (k+1)↔a[k]=b[k]:=by
 rw[List.take_add_one,List.take_add_one,List.getElem?_eq_getElem ha,List.getElem?_eq_getElem hb,h];exact⟨fun e=>(List.cons.inj (List.append_cancel_left e)).1,fun e=>by rw[e]⟩
theorem N8 {α:Type} {a b:List α} {k:Nat} (ha:k<a.length) (hb:k<b.length) (h:a[k]≠b[k]):a≠b:=by
 rintro rfl;exact h rfl
def R76 (a b:List Int) (Q:yc):Prop :=
 (((↑(List.map (AV.int i64) a).length:Int) != (↑(List.map (AV.int i64) b).length:Int))=true->Q (.bool false) [])/\(((↑(List.map (AV.int i64) a).length:Int) != (↑(List.map (AV.int i64) b).length:Int))=false->∃(I2:Nat->List AV->Prop),(∃m4,I2 m4 [iN 0])/\∀(m4:Nat) (n5:Int),I2 m4 [iN n5]->(decide (n5<(↑(List.map (AV.int i64) a).length:Int))=true->∃n9,((0:Int)<=n5/\(1:Nat)=(1:Nat)/\(List.map (AV.int i64) a)[n5.toNat]? = some (iN n9))/\∃n11,((0:Int)<=n5/\(1:Nat)=(1:Nat)/\(List.map (AV.int i64) b)[n5.toNat]? = some (iN n11))/\((n9 != n11)=true->Q (.bool false) [])/\((n9 != n11)=false->∃k15,k15<m4/\I2 k15 [iN (wrap i64 (n5+1))]))/\(decide (n5<(↑(List.map (AV.int i64) a).length:Int))=false->Q (.bool true) []))
theorem s76 (a:List Int) (b:List Int) (v O) (h:R76 a b (fun r O'=>r=v/\O'=O)):Sp 76 [.slc 3 (List.map (AV.int .i64) a),.slc 3 (List.map (AV.int .i64) b)] [] v O :=
 zS ⟨[0,1,4,5,10,14,25],[⟨4,[(5,iN 0)],[],[],[],[],[]⟩],[],[]⟩ Tryz.func76 Tryz.call76 rfl (by kernel_rfl) h
theorem c76 (a b:List Int) (hl:a.length<=4611686018427387904):Sp 76 [.slc 3 (yg a),.slc 3 (yg b)] [] (.bool (decide (a=b))) []:=s76 a b _ _ (by
 unfold R76;simp only[List.length_map];have hd:((a.length:Int) != (b.length:Int))=decide (a.length≠b.length):=by rw[Bool.eq_iff_iff];simp;omega
 rw[hd];refine⟨fun h=>⟨?_,by trivial⟩,fun h=>?_⟩
 ·rw[decide_eq_false fun he=>zt_ h (congrArg List.length he)]
 ·have h:a.length=b.length:=Decidable.not_not.1 (zf_ h);refine⟨fun m vs=>∃k:Nat,vs=[.int .i64 k]/\k<=a.length/\m=a.length-k/\a.take k=b.take k,⟨_,0,rfl,by omega,rfl,rfl⟩,?_⟩;rintro m n ⟨k,hk,hle,rfl,ht⟩;cases hk;refine⟨fun h3=>?_,fun h3=>⟨?_,by trivial⟩⟩
  ·have h3:k<a.length:=by have:=zt_ h3;omega
   refine⟨_,⟨by omega,by trivial,xd h3⟩,_,⟨by omega,by trivial,xd (a:=b) (by omega)⟩,fun g=>⟨?_,by trivial⟩,fun g=>?_⟩
   ·rw[decide_eq_false (N8 h3 (by omega) (by simpa using g))]
   ·exact⟨_,(by omega:a.length-(k+1)<a.length-k),k+1,by rw[yr (by omega)],by omega,rfl,(N7 h3 (by omega) ht).2 (by simpa using g)⟩
  ·have h3:k=a.length:=by have:=zf_ h3;omega
   subst h3;rw[decide_eq_true (by rw[List.take_length,h,List.take_length] at ht;exact ht)])
def R25 (a b:List (List Int)) (Q:yc):Prop :=
 (((↑(List.map (fun x=>AV.slc 3 (List.map (AV.int i64) x)) a).length:Int) != (↑(List.map (fun x=>AV.slc 3 (List.map (AV.int i64) x)) b).length:Int))=true->Q (.bool false) [])/\(((↑(List.map (fun x=>AV.slc 3 (List.map (AV.int i64) x)) a).length:Int) != (↑(List.map (fun x=>AV.slc 3 (List.map (AV.int i64) x)) b).length:Int))=false->∃(I2:Nat->List AV->Prop),(∃m4,I2 m4 [iN 0])/\∀(m4:Nat) (n5:Int),I2 m4 [iN n5]->(decide (n5<(↑(List.map (fun x=>AV.slc 3 (List.map (AV.int i64) x)) a).length:Int))=true->∃es9,((0:Int)<=n5/\(1:Nat)=(1:Nat)/\(List.map (fun x=>AV.slc 3 (List.map (AV.int i64) x)) a)[n5.toNat]? = some (.slc 3 es9))/\∃es11,((0:Int)<=n5/\(1:Nat)=(1:Nat)/\(List.map (fun x=>AV.slc 3 (List.map (AV.int i64) x)) b)[n5.toNat]? = some (.slc 3 es11))/\∃b13,Sp 76 [AV.slc 3 es9,.slc 3 es11] [] (.bool b13) []/\((!b13)=true->Q (.bool false) [])/\((!b13)=false->∃k17,k17<m4/\I2 k17 [iN (wrap i64 (n5+1))]))/\(decide (n5<(↑(List.map (fun x=>AV.slc 3 (List.map (AV.int i64) x)) a).length:Int))=false->Q (.bool true) []))
theorem s25 (a:List (List Int)) (b:List (List Int)) (v O) (h:R25 a b (fun r O'=>r=v/\O'=O)):Sp 25 [.slc 3 (List.map (fun x=>.slc 3 (List.map (AV.int .i64) x)) a),.slc 3 (List.map (fun x=>.slc 3 (List.map (AV.int .i64) x)) b)] [] v O :=
 zS ⟨[0,1,4,5,10,14,26],[⟨4,[(5,iN 0)],[],[],[],[],[]⟩],[],[]⟩ Tryz.func25 Tryz.call25 rfl (by kernel_rfl) h
theorem c25 (a b:List (List Int)) (hl:a.length<=4611686018427387904) (ha:∀x∈a,x.length<=4611686018427387904):Sp 25 [.slc 3 (yL a),.slc 3 (yL b)] [] (.bool (decide (a=b))) []:=s25 a b _ _ (by
 unfold R25;simp only[List.length_map];have hd:((a.length:Int) != (b.length:Int))=decide (a.length≠b.length):=by rw[Bool.eq_iff_iff];simp;omega
 rw[hd];refine⟨fun h=>⟨?_,by trivial⟩,fun h=>?_⟩
 ·rw[decide_eq_false fun he=>zt_ h (congrArg List.length he)]
 ·have h:a.length=b.length:=Decidable.not_not.1 (zf_ h);refine⟨fun m vs=>∃k:Nat,vs=[.int .i64 k]/\k<=a.length/\m=a.length-k/\a.take k=b.take k,⟨_,0,rfl,by omega,rfl,rfl⟩,?_⟩;rintro m n ⟨k,hk,hle,rfl,ht⟩;cases hk;refine⟨fun h3=>?_,fun h3=>⟨?_,by trivial⟩⟩
  ·have h3:k<a.length:=by have:=zt_ h3;omega
   have h4:k<b.length:=by omega
   refine⟨_,⟨by omega,by trivial,vm h3⟩,_,⟨by omega,by trivial,vm h4⟩,_,c76 a[k] b[k] (ha _ (List.getElem_mem h3)),fun g=>⟨?_,by trivial⟩,fun g=>?_⟩
   ·rw[decide_eq_false (N8 h3 h4 (by simpa using g))]
   ·exact⟨_,(by omega:a.length-(k+1)<a.length-k),k+1,by rw[yr (by omega)],by omega,rfl,(N7 h3 h4 ht).2 (by simpa using g)⟩
  ·have h3:k=a.length:=by have:=zf_ h3;omega
   subst h3;rw[decide_eq_true (by rw[List.take_length,h,List.take_length] at ht;exact ht)])
def exTask:TRoTask:=⟨⟨0,0,0,⟨-900000,-800000⟩⟩,79,0,0,120,[⟨10,5000⟩],[⟨36000,50400⟩],[⟨ByteArray.mk #[104,105,103,104],120,20,28800,61200,3600⟩],
 [⟨ByteArray.mk #[112,111,108,101],5000,0,80,1800,[1],-1,false,10⟩,⟨ByteArray.mk #[109,97,115,116],5000,5000,100,3600,[1],0,false,20⟩,⟨ByteArray.mk #[97,114,99,104],0,5000,130,600,[0],-1,false,50⟩]⟩
def exProg:TRoProgramme:=⟨[⟨ByteArray.mk #[98,114,105,100,103,101],300,500,2000000,0⟩,⟨ByteArray.mk #[116,117,110,110,101,108],500,1000,2000000,50⟩],[500,300],100,100⟩
def R54 (Q:yc):Prop :=
 Q (.agg [iN 0,iN 0,iN 0,iN (-900000:Int),iN (-800000:Int),iN 79,iN 0,iN 0,iN 120,.slc 3 [AV.agg [iN 10,iN 5000]],.slc 3 [AV.agg [iN 36000,iN 50400]],.slc 3 [AV.agg [AV.str (ByteArray.mk #[(104:UInt8),(105:UInt8),(103:UInt8),(104:UInt8)]),iN 120,iN 20,iN 28800,iN 61200,iN 3600]],.slc 3 [AV.agg [AV.str (ByteArray.mk #[(112:UInt8),(111:UInt8),(108:UInt8),(101:UInt8)]),iN 5000,iN 0,iN 80,iN 1800,.slc 3 [iN 1],iN (-1:Int),.bool false,iN 10],.agg [AV.str (ByteArray.mk #[(109:UInt8),(97:UInt8),(115:UInt8),(116:UInt8)]),iN 5000,iN 5000,iN 100,iN 3600,.slc 3 [iN 1],iN 0,.bool false,iN 20],.agg [AV.str (ByteArray.mk #[(97:UInt8),(114:UInt8),(99:UInt8),(104:UInt8)]),iN 0,iN 5000,iN 130,iN 600,.slc 3 [iN 0],iN (-1:Int),.bool false,iN 50]]]) []
theorem s54  (v O) (h:R54 (fun r O'=>r=v/\O'=O)):Sp 54 [] [] v O :=
 zS ⟨[0],[],[],[]⟩ Tryz.func54 Tryz.call54 rfl (by kernel_rfl) h
theorem c54:Sp 54 [] [] exTask.av []:=s54 _ _ (by
 unfold R54;exact⟨rfl,rfl⟩)
def R56 (Q:yc):Prop :=
 Q (.agg [AV.slc 3 [AV.agg [AV.str (ByteArray.mk #[(98:UInt8),(114:UInt8),(105:UInt8),(100:UInt8),(103:UInt8),(101:UInt8)]),iN 300,iN 500,iN 2000000,iN 0],.agg [AV.str (ByteArray.mk #[(116:UInt8),(117:UInt8),(110:UInt8),(110:UInt8),(101:UInt8),(108:UInt8)]),iN 500,iN 1000,iN 2000000,iN 50]],.slc 3 [iN 500,iN 300],iN 100,iN 100]) []
theorem s56  (v O) (h:R56 (fun r O'=>r=v/\O'=O)):Sp 56 [] [] v O :=
 zS ⟨[0],[],[],[]⟩ Tryz.func56 Tryz.call56 rfl (by kernel_rfl) h
theorem c56:Sp 56 [] [] exProg.av []:=s56 _ _ (by
 unfold R56;exact⟨rfl,rfl⟩)
theorem Iv:(qg exTask).2.2=0:=by kernel_rfl
theorem Iu:Tx exTask=.tup [.slc 3 (yL [[0,1]]),.int .i64 0]:=by kernel_rfl
theorem Kz:YK exTask [[0,1]]=(30,22000,0):=by kernel_rfl
theorem Kw:SB exProg [0,20000]=(46000,0):=by kernel_rfl
theorem Kx:jw exTask:=by
 constructor
 ·intro x hx;simp only[exTask,List.mem_cons,List.not_mem_nil,or_false] at hx;rcases hx with rfl;(show ByteArray.size _<=_;decide)
 ·intro x hx;simp only[exTask,List.mem_cons,List.not_mem_nil,or_false] at hx;rcases hx with rfl | rfl | rfl<;>(show ByteArray.size _<=_;decide)
theorem GG:PT exProg:=by
 intro x hx;simp only[exProg,List.mem_cons,List.not_mem_nil,or_false] at hx;rcases hx with rfl | rfl<;>(show ByteArray.size _<=_;decide)
def FC (t:TRoTask) (lorry:Int) (Q:yc):Prop :=
 (∃n1,Sp 49 [t.av,iN 0,.slc 3 []] [] (.tup [AV.nilp,iN n1]) []/\((n1 != 0)=true->Q (.tup [AV.slc 3 [],iN 0,iN n1]) [])/\((n1 != 0)=false->∃b5,Sp 29 [iN lorry,iN 0,iN (wrap i64 ((↑(List.map TRoLorry.av t.Lorries).length:Int)-(1:Int)))] [] (.bool b5) []/\(b5=true->Q (.tup [AV.slc 3 [],iN 0,iN 4]) [])/\(b5=false->False)))\/∃n1 n2 n3 n4 n5 n6 n7 n8 n9 es10 es11 es12 es13 es14 n15,Sp 49 [t.av,iN 0,.slc 3 []] [] (.tup [AV.eptr [iN n1,iN n2,iN n3,iN n4,iN n5,iN n6,iN n7,iN n8,iN n9,.slc 3 es10,.slc 3 es11,.slc 3 es12,.slc 3 es13,.slc 3 es14] (0:Nat),iN n15]) []/\((n15 != 0)=true->Q (.tup [AV.slc 3 [],iN 0,iN n15]) [])/\((n15 != 0)=false->∃b19,Sp 29 [iN lorry,iN 0,iN (wrap i64 ((↑(List.map TRoLorry.av t.Lorries).length:Int)-(1:Int)))] [] (.bool b19) []/\(b19=true->Q (.tup [AV.slc 3 [],iN 0,iN 4]) [])/\(b19=false->False))
theorem zc8 (t:TRoTask) (lorry:Int) (v O) (h:FC t lorry (fun r O'=>r=v/\O'=O)):Sp 15 [t.av,iN lorry,.slc 3 []] [] v O :=
 zX ⟨[58],[(49,[.tup [.nilp,iN 0],.tup [.eptr [iN 0,iN 0,iN 0,iN 0,iN 0,iN 0,iN 0,iN 0,iN 0,.slc 3 [],.slc 3 [],.slc 3 [],.slc 3 [],.slc 3 []] 0,iN 0]])],[],[],[]⟩ 0 ⟨[0,1,2,3,6,7,8,9,10,11,13,20,24,39,43,44,45,46,51],[⟨11,[(45,iN 0)],[],[(11,.agg [.str default,iN 0,iN 0,iN 0,iN 0,iN 0,.undef,iN 0,iN 0,.slc 3 [],iN 0,iN 0,iN 0])],[],[],[]⟩],[],[]⟩ [] (by exact trivial) Tryz.func15 Tryz.call15 rfl rfl rfl (by kernel_rfl) h
theorem Ky:Sp 15 [exTask.av,.int .i64 1,.slc 3 []] [] (.tup [.slc 3 [],.int .i64 0,.int .i64 4]) []:=zc8 exTask 1 _ _ (by
 unfold FC;have hj:=c49 exTask Kx 0 [] (Nat.zero_le _);unfold Ut at hj;rw[if_neg (by rw[Iv];simp)] at hj;exact .inr ⟨_,_,_,_,_,_,_,_,_,_,_,_,_,_,_,hj,fun h=>by simp at h,fun _=>⟨_,c29 ..,fun _=>⟨rfl,rfl⟩,fun h=>absurd h (by decide)⟩⟩)
def R14 (Q:yc):Prop :=
 ∃n0 n1 n2 n3 n4 n5 n6 n7 n8 es9 es10 es11 es12,Sp 54 [] [] (.agg [iN n0,iN n1,iN n2,iN n3,iN n4,iN n5,iN n6,iN n7,iN n8,.slc 3 es9,.slc 3 es10,.slc 3 es11,.slc 3 es12]) []/\∃es14 n15,Sp 23 [AV.agg [iN n0,iN n1,iN n2,iN n3,iN n4,iN n5,iN n6,iN n7,iN n8,.slc 3 es9,.slc 3 es10,.slc 3 es11,.slc 3 es12]] [] (.tup [AV.slc 3 es14,iN n15]) []/\∃n17 n18 n19 n20 n21 n22 n23 n24 n25 es26 es27 es28 es29,Sp 54 [] [] (.agg [iN n17,iN n18,iN n19,iN n20,iN n21,iN n22,iN n23,iN n24,iN n25,.slc 3 es26,.slc 3 es27,.slc 3 es28,.slc 3 es29]) []/\∃n31 n32 n33,Sp 20 [AV.agg [iN n17,iN n18,iN n19,iN n20,iN n21,iN n22,iN n23,iN n24,iN n25,.slc 3 es26,.slc 3 es27,.slc 3 es28,.slc 3 es29],.slc 3 [AV.slc 3 [iN 0,iN 1]]] [] (.tup [iN n31,iN n32,iN n33]) []/\∃es35 es36 n37 n38,Sp 56 [] [] (.agg [AV.slc 3 es35,.slc 3 es36,iN n37,iN n38]) []/\∃n40 n41,Sp 55 [AV.agg [AV.slc 3 es35,.slc 3 es36,iN n37,iN n38],.slc 3 [iN 0,iN 20000]] [] (.tup [iN n40,iN n41]) []/\∃n43 n44 n45 n46 n47 n48 n49 n50 n51 es52 es53 es54 es55,Sp 54 [] [] (.agg [iN n43,iN n44,iN n45,iN n46,iN n47,iN n48,iN n49,iN n50,iN n51,.slc 3 es52,.slc 3 es53,.slc 3 es54,.slc 3 es55]) []/\∃es57 n58 n59,Sp 15 [AV.agg [iN n43,iN n44,iN n45,iN n46,iN n47,iN n48,iN n49,iN n50,iN n51,.slc 3 es52,.slc 3 es53,.slc 3 es54,.slc 3 es55],iN 1,.slc 3 []] [] (.tup [AV.slc 3 es57,iN n58,iN n59]) []/\((n15 == 0)=true->((n33 == 0)=true->((n41 == 0)=true->((n59 == 4)=true->∃b69,Sp 25 [AV.slc 3 es14,.slc 3 [AV.slc 3 [iN 0,iN 1]]] [] (.bool b69) []/\(b69=true->((n32 == 22000)=true->Q (.bool (n40 == 46000)) [])/\((n32 == 22000)=false->Q (.bool false) []))/\(b69=false->Q (.bool false) []))/\((n59 == 4)=false->Q (.bool false) []))/\((n41 == 0)=false->Q (.bool false) []))/\((n33 == 0)=false->Q (.bool false) []))/\((n15 == 0)=false->Q (.bool false) [])
theorem s14  (v O) (h:R14 (fun r O'=>r=v/\O'=O)):Sp 14 [] [] v O :=
 zX ⟨[],[],[25],[],[]⟩ 0 ⟨[0,1,2,4,5,6,7,10],[],[],[]⟩ [] (by exact trivial) Tryz.func14 Tryz.call14 rfl rfl rfl (by kernel_rfl) h
theorem Qr:Sp 14 [] [] (.bool true) []:=s14 _ _ (by
 unfold R14;have hb:=c23 exTask Kx;rw[Iu] at hb;have hw:=c20 exTask Kx [[0,1]];rw[Kz] at hw;have hn:=c55 exProg GG [0,20000];rw[Kw] at hn;exact⟨_,_,_,_,_,_,_,_,_,_,_,_,_,c54,_,_,hb,_,_,_,_,_,_,_,_,_,_,_,_,_,c54,_,_,_,hw,_,_,_,_,c56,_,_,hn,_,_,_,_,_,_,_,_,_,_,_,_,_,c54,_,_,_,Ky,
  fun _=>⟨fun _=>⟨fun _=>⟨fun _=>⟨_,c25 [[0,1]] [[0,1]] (by decide) (fun x hx=>by rw[List.mem_singleton.1 hx];decide),fun _=>⟨fun _=>⟨rfl,rfl⟩,fun h=>absurd h (by decide)⟩,fun h=>absurd h (by decide)⟩,fun h=>absurd h (by decide)⟩,fun h=>absurd h (by decide)⟩,fun h=>absurd h (by decide)⟩,fun h=>absurd h (by decide)⟩)
end Go.Proofs.YtkojpnkknehhmaaGreatDoor
