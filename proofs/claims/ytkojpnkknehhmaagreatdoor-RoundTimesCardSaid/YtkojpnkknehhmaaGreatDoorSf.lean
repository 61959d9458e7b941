/- Contracts: the best plan. Contracts: sorting and compacting ints, by the library's contracts. -/
import Derived.Test.YtkojpnkknehhmaaGreatDoorSe
import Derived.Shelf.Sort.Plain
import Derived.Shelf.Slices.CompactI
namespace Go.Proofs.YtkojpnkknehhmaaGreatDoor
open Go.IntKind (wrap i64 u64)
def R74 (s:List Int) (Q:yc):Prop :=
 ∀(b0:Bool),(List.map (AV.int i64) s≠[]->b0=!true)->(b0=true->Q (.slc 3 []) [])/\(b0=false->yk (1:Nat) (List.map (AV.int i64) s)/\((([]:List AV)=[]\/(0:Nat)<(List.map (AV.int i64) s).length)/\((0:Nat)+(List.map (AV.int i64) s).length+(512:Nat))*41<=(1125899906842624:Nat)/\yk (1:Nat) []/\yn (List.flatMap AV.cells (List.map (AV.int i64) s))=true/\yn []=true)/\((0:Nat)+((0:Nat)+(List.map (AV.int i64) s).length)*1<=([]++List.flatMap AV.cells (List.map (AV.int i64) s)).length/\yn ([]++List.flatMap AV.cells (List.map (AV.int i64) s))=true)/\Q (.slc 3 (chunks (1:Nat) (yf Tryz.prog (3:Nat)) ((0:Nat)+(List.map (AV.int i64) s).length) (List.drop (0:Nat) ([]++List.flatMap AV.cells (List.map (AV.int i64) s))))) [])
theorem s74 (s:List Int) (v O) (h:R74 s (fun r O'=>r=v/\O'=O)):Sp 74 [.slc 3 (List.map (AV.int .i64) s)] [] v O :=
 zS ⟨[0,2,4],[],[],[]⟩ Tryz.func74 Tryz.call74 rfl (by kernel_rfl) h
theorem Kg (s:List Int) (hl:s.length<=1000000):Sp 74 [.slc 3 (yg s)] [] (.slc 3 (yg s)) []:=s74 s _ _ (by
 unfold R74;intro b hb;have hlen:(s.map (AV.int .i64)).length=s.length:=List.length_map ..;refine⟨fun h=>⟨?_,rfl⟩,fun h=>?_⟩
 ·have:s.map (AV.int .i64)=[]:=Classical.byContradiction fun hc=>by have:=hb hc;rw[h] at this;cases this
  show AV.slc 3 []=.slc 3 (yg s);unfold yg;rw[this]
 ·have ho:yn (List.flatMap AV.cells (yg s))=true:=by rw[vd y9];exact wV s
  have hc:chunks 1 false (yg s).length (List.flatMap AV.cells (yg s))=yg s:=uQ (SK y9);refine⟨OQ y9,⟨.inl rfl,by omega,fun v hv=>(by cases hv),ho,rfl⟩,⟨?_,ho⟩,?_,rfl⟩
  ·show 0+(0+(yg s).length)*1<=(List.flatMap AV.cells (yg s)).length;rw[vd y9];omega
  ·show AV.slc 3 (chunks 1 (yf Tryz.prog 3) (0+(yg s).length) (List.drop 0 ([]++List.flatMap AV.cells (yg s))))=_;rw[JZ,Nat.zero_add,List.nil_append,List.drop_zero,hc])
theorem Jg {P:List Int->Prop} {b t:TTail} (h:∀x∈t.plan,P x) (h':∀x∈b.plan,P x):∀x∈(ky b t).plan,P x:=by
 unfold ky;split
 ·exact h
 ·split
  ·exact h
  ·exact h'
theorem Qu {d:TDepot} (hj:d.RoTask.Jobs.length<=6):∀(k l:Nat) (n:Int),0<=n->n<64->∀x∈(yy d k l n).plan,x.length<=7:=by
 intro k;induction k with
 |zero=>intro l n _ _ x h;cases h
 |succ k ih =>
  intro l n h0 h1;have key:∀(G:List (TTour × Int)) (b:TTail),(∀p∈G,p.1.stops.length<=7/\0<=p.2/\p.2<64)->(∀x∈b.plan,x.length<=7)->∀x∈(G.foldl (fun b p=>ky b (qq d p.1 (yy d k (l+1) p.2))) b).plan,x.length<=7:=by
   intro G;induction G with
   |nil=>intro b _ h;exact h
   |cons p r ihr =>
    intro b hG h;obtain ⟨g1,g2,g3⟩:=hG p List.mem_cons_self;refine ihr _ (fun p' hp'=>hG p' (List.mem_cons_of_mem _ hp')) (Jg (P:=fun x=>x.length<=7) (fun x hx=>?_) h);rcases List.mem_cons.1 hx with rfl | hx
    ·show (p.1.stops.map _).length<=7;rw[List.length_map];exact g1
    ·exact ih _ _ g2 g3 x hx
  refine key _ _ (fun p hp=>?_) (fun x hx=>(by cases hx));obtain ⟨_,i2,i3,i4⟩:=Xc 7 (yF d l) n h0 h1 hj (by show (-1:Int)<_;omega) p hp;have:(yF d l).stops.length=0:=rfl;exact⟨by omega,i3,i4⟩
theorem Ik:Tryz.prog.cellsOf 44=1:=by kernel_rfl
theorem GS (cs:List AV) (off:Nat):kx Tryz.prog 44 cs off=cs[off]?:=by
 have hu:Tryz.prog.underlying 44=some (.slice 3):=by kernel_rfl
 unfold kx;rw[hu]
theorem XZ:∀(l:List (List Int)),AV.zb (yL l)=yL l
 |[]=>rfl
 |_::r=>congrArg _ (XZ r)
theorem JA {l:List AV} {j:Nat} {x:AV} (h:l[j]? = some x):qF l j [x]=l:=by
 obtain ⟨hj,rfl⟩:=List.getElem?_eq_some_iff.1 h;show l.take j++([l[j]]++l.drop (j+1))=l;rw[show [l[j]]++l.drop (j+1)=l.drop j from (List.drop_eq_getElem_cons hj).symm,List.take_append_drop]
theorem NF {t:TRoTask} (h:w7 t):WI (ye t):=⟨h.jl,List.length_map ..,fun x hx=>(OE (h.job x hx)).1,h.kl⟩
def jL (t:TRoTask):List (List Int):=if (qg t).2.2≠0 then [] else (yy (ye t) t.Lorries.length 0 0).plan
def Tx (t:TRoTask):AV:=.tup [.slc 3 (yL (jL t)),.int .i64 (qg t).2.2]
abbrev LC (t:TRoTask) (p0_:Int) (p1_ p2_ p3_:List AV) (p4_ p5_ p6_ p7_ p8_ p9_ p10_ p11_ p12_:Int) (p13_ p14_ p15_ p16_ p17_ p18_:List AV) (p19_ p20_:Int) (p21_:Nat->List AV->Prop) (p22_:Nat) (p23_ p24_ p25_ p26_:Int) (p27_:List AV):Prop :=
 decide (p0_<(↑p1_.length:Int))=false->((0:Nat)+p2_.length*1<=(List.flatMap AV.cells p2_).length/\yn (List.flatMap AV.cells p2_)=true)/\∃es93,(es93.length=p2_.length/\List.flatMap AV.cells es93=List.drop (0:Nat) (List.flatMap AV.cells p2_)/\jT (1:Nat) (yf Tryz.prog (3:Nat)) es93)/\yk (1:Nat) p3_/\((1:Nat)=(1:Nat)/\((1:Nat)+p3_.length+512)*121<=(1125899906842624:Nat)/\yn (List.flatMap AV.cells p3_)=true/\yn [AV.slc 3 es93]=true)/\t.cs=t.cs/\yd [AV.eptr [AV.eptr [iN p4_,iN p5_,iN p6_,iN p7_,iN p8_,iN p9_,iN p10_,iN p11_,iN p12_,.slc 3 p13_,.slc 3 p14_,.slc 3 p15_,.slc 3 p16_,.slc 3 p17_] (0:Nat),.map (18:Nat),AV.fn (72:Nat) [] []] (0:Nat)]/\yd [AV.lit i64 (0:Int)]/\TTail.z0=TTail.z0/\TEncl.z0=TEncl.z0/\yd [AV.slc 3 p18_,iN p19_,iN p20_]/\∃es103,(es103.length=(1:Nat)+p3_.length/\List.flatMap AV.cells es103=AV.slc 3 es93::(List.flatMap AV.cells p3_))/\p21_ (p22_+2) [AV.slc 3 es103,.agg [AV.undef,iN (wrap i64 (p23_+p24_)),iN (wrap i64 (p25_+p26_))],.agg [AV.iface 1000000 (.slc 3 p27_)]]
abbrev LD (Q:yc):Prop :=
 ∃(I21:Nat->List AV->Prop),(∃m23,I21 m23 [iN 0])/\∀(m23:Nat) (n24:Int),I21 m23 [iN n24]->(decide (n24<(↑([]:List AV).length:Int))=true->∃es28,((0:Int)<=n24/\(1:Nat)=(1:Nat)/\([]:List AV)[n24.toNat]? = some (.slc 3 es28))/\∃es30,Sp 74 [AV.slc 3 es28] [] (.slc 3 es30) []/\∃es32,((0:Int)<=n24/\(1:Nat)=(1:Nat)/\([]:List AV)[n24.toNat]? = some (.slc 3 es32))/\False)/\(decide (n24<(↑([]:List AV).length:Int))=false->Q (.tup [AV.slc 3 [],iN 0]) [])
def R23 (t:TRoTask) (Q:yc):Prop :=
 (∃n1,Sp 71 [t.av] [] (.tup [AV.nilp,iN n1]) []/\((n1 != 0)=true->Q (.tup [AV.slc 3 [],iN n1]) [])/\((n1 != 0)=false->False))\/∃n1 n2 n3 n4 n5 n6 n7 n8 n9 es10 es11 es12 es13 es14 n15,Sp 71 [t.av] [] (.tup [AV.eptr [iN n1,iN n2,iN n3,iN n4,iN n5,iN n6,iN n7,iN n8,iN n9,.slc 3 es10,.slc 3 es11,.slc 3 es12,.slc 3 es13,.slc 3 es14] (0:Nat),iN n15]) []/\((n15 != 0)=true->Q (.tup [AV.slc 3 [],iN n15]) [])/\((n15 != 0)=false->(((0:Int) == (↑es12.length:Int))=true->LD Q)/\(((0:Int) == (↑es12.length:Int))=false->kK Tryz.prog (32:Nat) []/\xu Tryz.prog (32:Nat) (TEncl.zero.av)/\∃es23 n24 n25 f26,ua (TTail.zero.av) [] (TEncl.zero.av) f26 (.agg [AV.slc 3 es23,iN n24,iN n25])/\(f26=true->∃(I30:Nat->List AV->Prop),(∃m32,I30 m32 [iN 0])/\∀(m32:Nat) (n33:Int),I30 m32 [iN n33]->(decide (n33<(↑es23.length:Int))=true->∃es37,((0:Int)<=n33/\(1:Nat)=(1:Nat)/\es23[n33.toNat]? = some (.slc 3 es37))/\∃es39,Sp 74 [AV.slc 3 es37] [] (.slc 3 es39) []/\∃es41,((0:Int)<=n33/\(1:Nat)=(1:Nat)/\es23[n33.toNat]? = some (.slc 3 es41))/\False)/\(decide (n33<(↑es23.length:Int))=false->Q (.tup [AV.slc 3 es23,iN 0]) []))/\(f26=false->∃xs30,So (129:Nat) [AV.ref 0 0,.ref 1 0,.ref 2 0] [[AV.eptr [AV.eptr [iN n1,iN n2,iN n3,iN n4,iN n5,iN n6,iN n7,iN n8,iN n9,.slc 3 es10,.slc 3 es11,.slc 3 es12,.slc 3 es13,.slc 3 es14] (0:Nat),.undef,AV.fn (72:Nat) [] []] (0:Nat)],[iN 0],[iN 0]] xs30/\(∀(x33:List AV),x33∈xs30->qZ [AV.agg [AV.str (ByteArray.mk #[]),iN 0,iN 0,iN 0,iN 0,iN 0,.eptr TDepot.zero.cs (0:Nat),iN 0,iN 0,.slc 3 [],iN 0,iN 0,iN 0],iN 0] x33=true/\AV.zi x33=true)/\(xs30=[]->kK Tryz.prog (32:Nat) []/\xu Tryz.prog (32:Nat) (TEncl.zero.av)/\∃es'37,xP [] (TEncl.zero.av) (TTail.zero.av) es'37/\LD Q)/\∃(I34:Nat->List AV->Prop),(∀(s36:ByteArray) (n37 n38 n39 n40 n41 n42 n43 n44 n45 n46 n47 n48 n49 n50:Int) (es51 es52 es53 es54 es55:List AV) (n56 n57:Int) (es58:List AV) (n59 n60 n61 n62:Int),xs30[(0:Nat)]? = some [AV.agg [AV.str s36,iN n37,iN n38,iN n39,iN n40,iN n41,.eptr [iN n42,iN n43,iN n44,iN n45,iN n46,iN n47,iN n48,iN n49,iN n50,.slc 3 es51,.slc 3 es52,.slc 3 es53,.slc 3 es54,.slc 3 es55] (0:Nat),iN n56,iN n57,.slc 3 es58,iN n59,iN n60,iN n61],iN n62]->∃es64 n65 n66 es67,Sp 73 [AV.eptr [AV.eptr [iN n1,iN n2,iN n3,iN n4,iN n5,iN n6,iN n7,iN n8,iN n9,.slc 3 es10,.slc 3 es11,.slc 3 es12,.slc 3 es13,.slc 3 es14] (0:Nat),.map (0:Nat),AV.fn (72:Nat) [] []] (0:Nat),iN 1,iN n62] [[AV.iface 1000000 (.slc 3 [])]] (.agg [AV.slc 3 es64,iN n65,iN n66]) [[AV.iface 1000000 (.slc 3 es67)]]/\∃n69,Sp 104 [AV.ref 0 0] [[AV.str s36,iN n37,iN n38,iN n39,iN n40,iN n41,.eptr [iN n42,iN n43,iN n44,iN n45,iN n46,iN n47,iN n48,iN n49,iN n50,.slc 3 es51,.slc 3 es52,.slc 3 es53,.slc 3 es54,.slc 3 es55] (0:Nat),iN n56,iN n57,.slc 3 es58,iN n59,iN n60,iN n61]] (iN n69) [[AV.str s36,iN n37,iN n38,iN n39,iN n40,iN n41,.eptr [iN n42,iN n43,iN n44,iN n45,iN n46,iN n47,iN n48,iN n49,iN n50,.slc 3 es51,.slc 3 es52,.slc 3 es53,.slc 3 es54,.slc 3 es55] (0:Nat),iN n56,iN n57,.slc 3 es58,iN n59,iN n60,iN n61]]/\∃(I71:Nat->List AV->Prop),(∃m73,I71 m73 [iN 0,.slc 3 []])/\∀(m73:Nat) (n74:Int) (es75:List AV),I71 m73 [iN n74,.slc 3 es75]->(decide (n74<(↑es58.length:Int))=true->∃n79 n80 n81 n82,((0:Int)<=n74/\(4:Nat)=(4:Nat)/\es58[n74.toNat]? = some (.agg [iN n79,iN n80,iN n81,iN n82]))/\yk (1:Nat) [iN n79]/\((List.flatMap AV.cells es75).length=es75.length*1/\(es75.length+1+(512:Nat))*41<=(1125899906842624:Nat)/\yn [iN n79]=true/\yn (List.flatMap AV.cells es75)=true)/\t.cs=t.cs/\yd [AV.iface 1000000 (.slc 3 es67)]/\yd [AV.eptr [AV.eptr [iN n1,iN n2,iN n3,iN n4,iN n5,iN n6,iN n7,iN n8,iN n9,.slc 3 es10,.slc 3 es11,.slc 3 es12,.slc 3 es13,.slc 3 es14] (0:Nat),.map (18:Nat),AV.fn (72:Nat) [] []] (0:Nat)]/\yd [AV.lit i64 (0:Int)]/\TTail.z0=TTail.z0/\TEncl.z0=TEncl.z0/\yd [AV.slc 3 es23,iN n24,iN n25]/\TTail.z0=TTail.z0/\yd [AV.str s36,iN n37,iN n38,iN n39,iN n40,iN n41,.eptr [iN n42,iN n43,iN n44,iN n45,iN n46,iN n47,iN n48,iN n49,iN n50,.slc 3 es51,.slc 3 es52,.slc 3 es53,.slc 3 es54,.slc 3 es55] (0:Nat),iN n56,iN n57,.slc 3 es58,iN n59,iN n60,iN n61]/\yd [AV.slc 3 es64,iN n65,iN n66]/\yd [AV.slc 0 [],iN (wrap i64 (n61+n65)),iN (wrap i64 (n69+n66))]/\∃es97,(es97.length=es75.length+1/\List.flatMap AV.cells es97=List.flatMap AV.cells es75++[iN n79])/\∃k99,k99<m73/\I71 k99 [iN (wrap i64 (n74+1)),.slc 3 es97])/\(decide (n74<(↑es58.length:Int))=false->((0:Nat)+es75.length*1<=(List.flatMap AV.cells es75).length/\yn (List.flatMap AV.cells es75)=true)/\∃es80,(es80.length=es75.length/\List.flatMap AV.cells es80=List.drop (0:Nat) (List.flatMap AV.cells es75)/\jT (1:Nat) (yf Tryz.prog (3:Nat)) es80)/\yk (1:Nat) es64/\((1:Nat)=(1:Nat)/\((1:Nat)+es64.length+512)*121<=(1125899906842624:Nat)/\yn (List.flatMap AV.cells es64)=true/\yn [AV.slc 3 es80]=true)/\t.cs=t.cs/\yd [AV.eptr [AV.eptr [iN n1,iN n2,iN n3,iN n4,iN n5,iN n6,iN n7,iN n8,iN n9,.slc 3 es10,.slc 3 es11,.slc 3 es12,.slc 3 es13,.slc 3 es14] (0:Nat),.map (18:Nat),AV.fn (72:Nat) [] []] (0:Nat)]/\yd [AV.lit i64 (0:Int)]/\TTail.z0=TTail.z0/\TEncl.z0=TEncl.z0/\yd [AV.slc 3 es23,iN n24,iN n25]/\∃es90,(es90.length=(1:Nat)+es64.length/\List.flatMap AV.cells es90=AV.slc 3 es80::(List.flatMap AV.cells es64))/\I34 (1:Nat) [AV.slc 3 es90,.agg [AV.undef,iN (wrap i64 (n61+n65)),iN (wrap i64 (n69+n66))],.agg [AV.iface 1000000 (.slc 3 es67)]]))/\(∀(i37:Nat) (s38:ByteArray) (n39 n40 n41 n42 n43 n44 n45 n46 n47 n48 n49 n50 n51 n52:Int) (es53 es54 es55 es56 es57:List AV) (n58 n59:Int) (es60:List AV) (n61 n62 n63 n64:Int),xs30[i37+(1:Nat)]? = some [AV.agg [AV.str s38,iN n39,iN n40,iN n41,iN n42,iN n43,.eptr [iN n44,iN n45,iN n46,iN n47,iN n48,iN n49,iN n50,iN n51,iN n52,.slc 3 es53,.slc 3 es54,.slc 3 es55,.slc 3 es56,.slc 3 es57] (0:Nat),iN n58,iN n59,.slc 3 es60,iN n61,iN n62,iN n63],iN n64]->∀(es66:List AV) (v67:AV),v67.tree=true->∀(n69 n70:Int) (es71:List AV),I34 (i37+1) [AV.slc 3 es66,.agg [v67,iN n69,iN n70],.agg [AV.iface 1000000 (.slc 3 es71)]]->∃es73 n74 n75 es76,Sp 73 [AV.eptr [AV.eptr [iN n1,iN n2,iN n3,iN n4,iN n5,iN n6,iN n7,iN n8,iN n9,.slc 3 es10,.slc 3 es11,.slc 3 es12,.slc 3 es13,.slc 3 es14] (0:Nat),.map (0:Nat),AV.fn (72:Nat) [] []] (0:Nat),iN 1,iN n64] [[AV.iface 1000000 (.slc 3 es71)]] (.agg [AV.slc 3 es73,iN n74,iN n75]) [[AV.iface 1000000 (.slc 3 es76)]]/\∃n78,Sp 104 [AV.ref 0 0] [[AV.str s38,iN n39,iN n40,iN n41,iN n42,iN n43,.eptr [iN n44,iN n45,iN n46,iN n47,iN n48,iN n49,iN n50,iN n51,iN n52,.slc 3 es53,.slc 3 es54,.slc 3 es55,.slc 3 es56,.slc 3 es57] (0:Nat),iN n58,iN n59,.slc 3 es60,iN n61,iN n62,iN n63]] (iN n78) [[AV.str s38,iN n39,iN n40,iN n41,iN n42,iN n43,.eptr [iN n44,iN n45,iN n46,iN n47,iN n48,iN n49,iN n50,iN n51,iN n52,.slc 3 es53,.slc 3 es54,.slc 3 es55,.slc 3 es56,.slc 3 es57] (0:Nat),iN n58,iN n59,.slc 3 es60,iN n61,iN n62,iN n63]]/\∃k80,es66.length=k80+1/\(decide (wrap i64 (n63+n74)>n69)=true->∃(I84:Nat->List AV->Prop),(∃m86,I84 m86 [iN 0,.slc 3 []])/\∀(m86:Nat) (n87:Int) (es88:List AV),I84 m86 [iN n87,.slc 3 es88]->(decide (n87<(↑es60.length:Int))=true->∃n92 n93 n94 n95,((0:Int)<=n87/\(4:Nat)=(4:Nat)/\es60[n87.toNat]? = some (.agg [iN n92,iN n93,iN n94,iN n95]))/\yk (1:Nat) [iN n92]/\((List.flatMap AV.cells es88).length=es88.length*1/\(es88.length+1+(512:Nat))*41<=(1125899906842624:Nat)/\yn [iN n92]=true/\yn (List.flatMap AV.cells es88)=true)/\t.cs=t.cs/\yd [AV.iface 1000000 (.slc 3 es76)]/\yd [AV.eptr [AV.eptr [iN n1,iN n2,iN n3,iN n4,iN n5,iN n6,iN n7,iN n8,iN n9,.slc 3 es10,.slc 3 es11,.slc 3 es12,.slc 3 es13,.slc 3 es14] (0:Nat),.map (18:Nat),AV.fn (72:Nat) [] []] (0:Nat)]/\yd [AV.lit i64 (0:Int)]/\TTail.z0=TTail.z0/\TEncl.z0=TEncl.z0/\yd [AV.slc 3 es23,iN n24,iN n25]/\yd [AV.aslc ((47:Nat)+((105:Nat)+nat_lit 0,nat_lit 44).fst) (0:Nat) (k80+1) (Tryz.prog.cellsOf (44:Nat)) (yf Tryz.prog (44:Nat)),iN n69,iN n70]/\List.flatMap AV.cells es66=List.flatMap AV.cells es66/\yd [AV.str s38,iN n39,iN n40,iN n41,iN n42,iN n43,.eptr [iN n44,iN n45,iN n46,iN n47,iN n48,iN n49,iN n50,iN n51,iN n52,.slc 3 es53,.slc 3 es54,.slc 3 es55,.slc 3 es56,.slc 3 es57] (0:Nat),iN n58,iN n59,.slc 3 es60,iN n61,iN n62,iN n63]/\yd [AV.slc 3 es73,iN n74,iN n75]/\yd [AV.slc 0 [],iN (wrap i64 (n63+n74)),iN (wrap i64 (n78+n75))]/\yd [AV.slc 0 [],iN (wrap i64 (n63+n74)),iN (wrap i64 (n78+n75))]/\yd [AV.aslc ((47:Nat)+((105:Nat)+nat_lit 0,nat_lit 44).fst) (0:Nat) (k80+1) (Tryz.prog.cellsOf (44:Nat)) (yf Tryz.prog (44:Nat)),iN n69,iN n70]/\∃es113,(es113.length=es88.length+1/\List.flatMap AV.cells es113=List.flatMap AV.cells es88++[iN n92])/\∃k115,k115<m86/\I84 k115 [iN (wrap i64 (n87+1)),.slc 3 es113])/\(LC t n87 es60 es88 es73 n1 n2 n3 n4 n5 n6 n7 n8 n9 es10 es11 es12 es13 es14 es23 n24 n25 I34 i37 n63 n74 n78 n75 es76))/\(decide (wrap i64 (n63+n74)>n69)=false->((wrap i64 (n63+n74) == n69)=true->((!decide (wrap i64 (n78+n75)<n70))=true->t.cs=t.cs/\yd [AV.eptr [AV.eptr [iN n1,iN n2,iN n3,iN n4,iN n5,iN n6,iN n7,iN n8,iN n9,.slc 3 es10,.slc 3 es11,.slc 3 es12,.slc 3 es13,.slc 3 es14] (0:Nat),.map (18:Nat),AV.fn (72:Nat) [] []] (0:Nat)]/\yd [AV.lit i64 (0:Int)]/\TTail.z0=TTail.z0/\TEncl.z0=TEncl.z0/\yd [AV.slc 3 es23,iN n24,iN n25]/\∃es94,(es94.length=k80+1/\List.flatMap AV.cells es94=List.flatMap AV.cells es66)/\I34 (i37+2) [AV.slc 3 es94,.agg [AV.undef,iN n69,iN n70],.agg [AV.iface 1000000 (.slc 3 es76)]])/\((!decide (wrap i64 (n78+n75)<n70))=false->∃(I88:Nat->List AV->Prop),(∃m90,I88 m90 [iN 0,.slc 3 []])/\∀(m90:Nat) (n91:Int) (es92:List AV),I88 m90 [iN n91,.slc 3 es92]->(decide (n91<(↑es60.length:Int))=true->∃n96 n97 n98 n99,((0:Int)<=n91/\(4:Nat)=(4:Nat)/\es60[n91.toNat]? = some (.agg [iN n96,iN n97,iN n98,iN n99]))/\yk (1:Nat) [iN n96]/\((List.flatMap AV.cells es92).length=es92.length*1/\(es92.length+1+(512:Nat))*41<=(1125899906842624:Nat)/\yn [iN n96]=true/\yn (List.flatMap AV.cells es92)=true)/\t.cs=t.cs/\yd [AV.iface 1000000 (.slc 3 es76)]/\yd [AV.eptr [AV.eptr [iN n1,iN n2,iN n3,iN n4,iN n5,iN n6,iN n7,iN n8,iN n9,.slc 3 es10,.slc 3 es11,.slc 3 es12,.slc 3 es13,.slc 3 es14] (0:Nat),.map (18:Nat),AV.fn (72:Nat) [] []] (0:Nat)]/\yd [AV.lit i64 (0:Int)]/\TTail.z0=TTail.z0/\TEncl.z0=TEncl.z0/\yd [AV.slc 3 es23,iN n24,iN n25]/\yd [AV.aslc ((47:Nat)+((105:Nat)+nat_lit 0,nat_lit 44).fst) (0:Nat) (k80+1) (Tryz.prog.cellsOf (44:Nat)) (yf Tryz.prog (44:Nat)),iN n69,iN n70]/\List.flatMap AV.cells es66=List.flatMap AV.cells es66/\yd [AV.str s38,iN n39,iN n40,iN n41,iN n42,iN n43,.eptr [iN n44,iN n45,iN n46,iN n47,iN n48,iN n49,iN n50,iN n51,iN n52,.slc 3 es53,.slc 3 es54,.slc 3 es55,.slc 3 es56,.slc 3 es57] (0:Nat),iN n58,iN n59,.slc 3 es60,iN n61,iN n62,iN n63]/\yd [AV.slc 3 es73,iN n74,iN n75]/\yd [AV.slc 0 [],iN (wrap i64 (n63+n74)),iN (wrap i64 (n78+n75))]/\yd [AV.slc 0 [],iN (wrap i64 (n63+n74)),iN (wrap i64 (n78+n75))]/\yd [AV.aslc ((47:Nat)+((105:Nat)+nat_lit 0,nat_lit 44).fst) (0:Nat) (k80+1) (Tryz.prog.cellsOf (44:Nat)) (yf Tryz.prog (44:Nat)),iN n69,iN n70]/\∃es117,(es117.length=es92.length+1/\List.flatMap AV.cells es117=List.flatMap AV.cells es92++[iN n96])/\∃k119,k119<m90/\I88 k119 [iN (wrap i64 (n91+1)),.slc 3 es117])/\(LC t n91 es60 es92 es73 n1 n2 n3 n4 n5 n6 n7 n8 n9 es10 es11 es12 es13 es14 es23 n24 n25 I34 i37 n63 n74 n78 n75 es76)))/\((wrap i64 (n63+n74) == n69)=false->t.cs=t.cs/\yd [AV.eptr [AV.eptr [iN n1,iN n2,iN n3,iN n4,iN n5,iN n6,iN n7,iN n8,iN n9,.slc 3 es10,.slc 3 es11,.slc 3 es12,.slc 3 es13,.slc 3 es14] (0:Nat),.map (18:Nat),AV.fn (72:Nat) [] []] (0:Nat)]/\yd [AV.lit i64 (0:Int)]/\TTail.z0=TTail.z0/\TEncl.z0=TEncl.z0/\yd [AV.slc 3 es23,iN n24,iN n25]/\∃es92,(es92.length=k80+1/\List.flatMap AV.cells es92=List.flatMap AV.cells es66)/\I34 (i37+2) [AV.slc 3 es92,.agg [AV.undef,iN n69,iN n70],.agg [AV.iface 1000000 (.slc 3 es76)]])))/\∀(es37:List AV) (v38:AV),v38.tree=true->∀(n40 n41:Int) (es42:List AV),I34 xs30.length [AV.slc 3 es37,.agg [v38,iN n40,iN n41],.agg [AV.iface 1000000 (.slc 3 es42)]]->kK Tryz.prog (32:Nat) es42/\xu Tryz.prog (32:Nat) (TEncl.zero.av)/\∃es'46,xP es42 (TEncl.zero.av) .undef es'46/\∃(I48:Nat->List AV->Prop),(∃m50,I48 m50 [iN 0,.agg (AV.zb (List.flatMap AV.cells es37))])/\∀(m50:Nat) (n51:Int) (cs52:List AV),I48 m50 [iN n51,.agg cs52]->(decide (n51<(↑es37.length:Int))=true->((0:Int)<=n51/\n51<(↑es37.length:Int)/\Tryz.prog.cellsOf (44:Nat)=(1:Nat))/\∃es57,Option.map AV.norm (kx Tryz.prog (44:Nat) (AV.agg cs52).cells ((0:Nat)+n51.toNat*Tryz.prog.cellsOf (44:Nat)))=some (.slc 3 es57)/\∃es59,Sp 74 [AV.slc 3 es57] [] (.slc 3 es59) []/\((0:Int)<=n51/\n51<(↑es37.length:Int)/\Tryz.prog.cellsOf (44:Nat)=(1:Nat))/\(0:Nat)+n51.toNat*Tryz.prog.cellsOf (44:Nat)+(1:Nat)<=(AV.agg cs52).cells.length/\t.cs=t.cs/\yd [AV.iface 1000000 (.slc 3 es'46)]/\yd [AV.eptr [AV.eptr [iN n1,iN n2,iN n3,iN n4,iN n5,iN n6,iN n7,iN n8,iN n9,.slc 3 es10,.slc 3 es11,.slc 3 es12,.slc 3 es13,.slc 3 es14] (0:Nat),.map (18:Nat),AV.fn (72:Nat) [] []] (0:Nat)]/\yd [AV.lit i64 (0:Int)]/\yd [AV.aslc ((47:Nat)+((105:Nat)+nat_lit 0,nat_lit 44).fst) (0:Nat) es37.length (Tryz.prog.cellsOf (44:Nat)) (yf Tryz.prog (44:Nat)),iN n40,iN n41]/\TEncl.z0=TEncl.z0/\yd [AV.slc 3 es23,iN n24,iN n25]/\yd [AV.aslc ((47:Nat)+((105:Nat)+nat_lit 0,nat_lit 44).fst) (0:Nat) es37.length (Tryz.prog.cellsOf (44:Nat)) (yf Tryz.prog (44:Nat)),iN n40,iN n41]/\∃k71,k71<m50/\I48 k71 [iN (wrap i64 (n51+1)),.agg (AV.zb (qF (AV.agg cs52).cells ((0:Nat)+n51.toNat*Tryz.prog.cellsOf (44:Nat)) [AV.slc 3 es59]))])/\(decide (n51<(↑es37.length:Int))=false->((0:Nat)+es37.length*Tryz.prog.cellsOf (44:Nat)<=(AV.agg cs52).cells.length/\yn (AV.agg cs52).cells=true)/\Q (.tup [AV.slc 3 (chunks (Tryz.prog.cellsOf (44:Nat)) (yf Tryz.prog (44:Nat)) es37.length (List.drop (0:Nat) (AV.agg cs52).cells)),iN 0]) []))))
theorem s23 (t:TRoTask) (v O) (h:R23 t (fun r O'=>r=v/\O'=O)):Sp 23 [t.av] [] v O :=
 zX ⟨[],[(71,[.tup [.nilp,iN 0],.tup [.eptr [iN 0,iN 0,iN 0,iN 0,iN 0,iN 0,iN 0,iN 0,iN 0,.slc 3 [],.slc 3 [],.slc 3 [],.slc 3 [],.slc 3 []] 0,iN 0]])],[104,997000000,996000073],[(73,⟨[0,1,2,3,4,6,7,8,9,10,11,12,13,14,15,17,28,42,47,48,49,77,79,80,81,82],[⟨11,[],[],[(10,.agg [.undef,iN 0,iN 0]),(3000003,.agg [.iface 1000000 (.slc 3 [])])],[(10,0,44)],[.agg [.str default,iN 0,iN 0,iN 0,iN 0,iN 0,.eptr [iN 0,iN 0,iN 0,iN 0,iN 0,iN 0,iN 0,iN 0,iN 0,.slc 3 [],.slc 3 [],.slc 3 [],.slc 3 [],.slc 3 []] 0,iN 0,iN 0,.slc 3 [],iN 0,iN 0,iN 0],iN 0],[[]]⟩,⟨16,[(81,iN 0)],[(15,3)],[],[],[],[]⟩],[],[(13,3500000010),(20,999000015)]⟩),(109,⟨[0,1,2,3,4,5,6],[],[],[]⟩),(72,⟨[0,1,2,3,4],[],[],[]⟩)],[92]⟩ 2 ⟨[0,1,2,3,4,5,6,7,8,15,25,26,27],[⟨7,[(26,iN 0)],[],[(2000007,.tup [])],[],[],[]⟩],[],[(5,6)]⟩ [] (by exact⟨Tryz.call73,⟨Tryz.call109,⟨Tryz.call72,trivial⟩⟩⟩) Tryz.func23 Tryz.call23 rfl rfl rfl (by kernel_rfl) h
theorem c23 (t:TRoTask) (ht:jw t):Sp 23 [t.av] [] (Tx t) []:=s23 t _ _ (by
 unfold R23 LD LC;have hb:=c71 t ht;unfold WW at hb;by_cases he:(qg t).2.2≠0
 ·rw[if_pos he] at hb;refine .inl ⟨_,hb,fun _=>⟨by unfold Tx jL;rw[if_pos he];rfl,rfl⟩,fun h=>absurd h (by simpa using he)⟩
 rw[if_neg he] at hb;have he:=Decidable.not_not.1 he;have hv:=xK he;have hd:=NF hv;have hjl:=hv.jl;have hll:=hv.ll;have hP:jL t=(yy (ye t) t.Lorries.length 0 0).plan:=by unfold jL;rw[if_neg (by simp[he])]
 refine .inr ⟨_,_,_,_,_,_,_,_,_,_,_,_,_,_,_,hb,fun h=>by simp at h,fun _=>⟨fun h0=>?_,fun h0=>?_⟩⟩
 ·have h0:t.Lorries.length=0:=by rw[List.length_map,beq_iff_eq] at h0;have h0:(0:Int)=(t.Lorries.length:Int):=h0;omega
  refine⟨fun _ vs=>vs=[.int .i64 0],⟨0,rfl⟩,?_⟩;rintro m n hn;cases hn;exact⟨fun h=>by simp at h,fun _=>⟨by unfold Tx;rw[hP,h0,he];rfl,rfl⟩⟩
 obtain ⟨k,hk⟩:∃k,t.Lorries.length=k+1:=by
  rw[List.length_map,beq_eq_false_iff_ne] at h0;exact⟨t.Lorries.length-1,by have h0:¬ (0:Int)=(t.Lorries.length:Int):=h0;omega⟩
 have hkey:vi (0,0):=⟨by show 0<=1000;omega,by decide,by decide⟩;refine⟨TQ (ye t) (L:=[]) (fun q hq=>(by cases hq)),vJ hkey,[],0,0,false,K1 (d:=ye t) (L:=[]) (q:=(0,0)) (fun hq=>(by cases hq)) _,fun h=>(by cases h),fun _=>?_⟩;generalize hG:wM (ye t) 7 (yF (ye t) (0:Nat)) 0=G;have hin:∀p∈G,_:=fun p hp=>Xc 7 _ _ (by decide) (by decide) hjl (by show (-1:Int)<_;omega) p (hG▸hp)
 have hB:yy (ye t) t.Lorries.length 0 0=G.foldl (yY (ye t) k 0) TTail.zero:=by rw[hk,<- hG];rfl
 have hseq:=US (ye t) hd (0:Nat) 0 (by decide) (by rw[show (ye t).RoTask.Lorries.length=k+1 from hk];omega) (by decide) (by decide);rw[hG] at hseq;have hput:∀(L:List (Nat × Int)) (v:AV),(0,0)∉L->xP (L.map (xS (ye t))) (Uv (0,0)) v (L.map (xS (ye t))++[.agg [Uv (0,0),v]]):=fun L v h=>.inr ⟨fun v' hm=>h (Uc hm),rfl⟩
 have hkM:∀i,∀q∈(G.take i).foldl (kB (ye t) k 0) [],vi q:=fun i=>QX hjl (by omega) _ _ (fun p hp=>(hin p (List.mem_of_mem_take hp)).2.2) (fun q hq=>(by cases hq))
 have hnM:∀i,((G.take i).foldl (kB (ye t) k 0) []).Nodup:=fun i=>Wg _ _ List.nodup_nil
 refine⟨_,hseq,fun x hx=>?_,fun hx=>?_,?_⟩
 ·obtain ⟨p,_,rfl⟩:=List.mem_map.1 hx;exact⟨rfl,rfl⟩
 ·have hx:G=[]:=List.map_eq_nil_iff.1 hx;refine⟨TQ (ye t) (L:=[]) (fun q hq=>(by cases hq)),vJ hkey,_,hput [] _ (fun hq=>(by cases hq)),fun _ vs=>vs=[.int .i64 0],⟨0,rfl⟩,?_⟩;rintro m n hn;cases hn;exact⟨fun h=>by simp at h,fun _=>⟨by unfold Tx;rw[hP,hB,hx,he];rfl,rfl⟩⟩
 refine⟨fun i vs=>∃v:AV,vs=[.slc 3 (yL ((G.take i).foldl (yY (ye t) k 0) TTail.zero).plan),.agg [v,.int .i64 ((G.take i).foldl (yY (ye t) k 0) TTail.zero).value,.int .i64 ((G.take i).foldl (yY (ye t) k 0) TTail.zero).cost],.agg [.iface 1000000 (.slc 3 (((G.take i).foldl (kB (ye t) k 0) []).map (xS (ye t))))]],?_,?_,?_⟩
 ·intros;rename_i hx;rw[List.getElem?_map] at hx;obtain ⟨p,hp,hx⟩:=Option.map_eq_some_iff.1 hx;cases hx;obtain ⟨i1,i2,i3,i4⟩:=hin p (List.mem_of_getElem? hp);have hR:(yy (ye t) k 1 p.2).plan.length<=1000:=Nat.le_trans (xZ ..) (by omega);have hJl:(ym p.1).length=p.1.stops.length:=List.length_map ..;have hon:(p.1.on (ye t)).stops.length=p.1.stops.length:=rfl;have hJm:p.1.stops.length<=7:=by have:(yF (ye t) (0:Nat)).stops.length=0:=rfl;omega
  refine⟨_,_,_,_,Nt (ye t) hd (by show t.Lorries.length<=1000;omega) k 1 p.2 [] (by show 1+k=t.Lorries.length;omega) i3 i4 List.nodup_nil (fun q hq=>(by cases hq)),_,L5 (ye t) p.1 i1,?_⟩;refine⟨fun m vs=>∃j:Nat,vs=[.int .i64 j,.slc 3 (yg ((ym p.1).take j))]/\j<=(ym p.1).length/\m=(ym p.1).length-j,⟨_,0,rfl,by omega,rfl⟩,?_⟩;rintro m _ _ ⟨j,hj,hle,rfl⟩;cases hj;refine⟨fun h3=>?_,fun h3=>?_⟩
  ·have h3:j<p.1.stops.length:=by have:=zt_ h3;rw[List.length_map] at this;omega
   have hs:=vq ((ym p.1).take j) (by rw[List.length_take];omega) (p.1.stops[j]).Job;refine⟨_,_,_,_,⟨by omega,rfl,vp h3⟩,hs.1,hs.2,?_⟩;repeat (refine And.intro rfl ?_)
   exact⟨yg ((ym p.1).take (j+1)),wW h3,_,(by omega:(ym p.1).length-(j+1)<(ym p.1).length-j),j+1,by rw[yr (by omega)],by omega,rfl⟩
  ·have h3:j=(ym p.1).length:=by have:=zf_ h3;rw[List.length_map] at this;omega
   subst h3;rw[List.take_length];obtain ⟨t1,t2,_,t4⟩:=Yd (ym p.1) (yy (ye t) k 1 p.2).plan hR;refine⟨(qM _).1,yg (ym p.1),(qM _).2,t1,t2,?_⟩;repeat (refine And.intro rfl ?_)
   refine⟨yL (ym p.1::(yy (ye t) k 1 p.2).plan),⟨t4.1,t4.2.1⟩,?_⟩;have hsB:(G.take 1).foldl (yY (ye t) k 0) TTail.zero=ky TTail.zero (qq (ye t) p.1 (yy (ye t) k 1 p.2)):=j6 hp;have hsM:(G.take 1).foldl (kB (ye t) k 0) []=jh (ye t) k 1 p.2 []:=j6 hp;exact⟨_,by rw[hsB,hsM];rfl⟩
 ·intro i;intros;rename_i hx es66 v67 hv67 n69 n70 es71 hI;rw[List.getElem?_map] at hx;obtain ⟨p,hp,hx⟩:=Option.map_eq_some_iff.1 hx;cases hx;obtain ⟨v,hI⟩:=hI;cases hI;obtain ⟨i1,i2,i3,i4⟩:=hin p (List.mem_of_getElem? hp);have hR:(yy (ye t) k 1 p.2).plan.length<=1000:=Nat.le_trans (xZ ..) (by omega);have hJl:(ym p.1).length=p.1.stops.length:=List.length_map ..;have hon:(p.1.on (ye t)).stops.length=p.1.stops.length:=rfl;have hJm:p.1.stops.length<=7:=by have:(yF (ye t) (0:Nat)).stops.length=0:=rfl;omega
  have hne:((G.take (i+1)).foldl (yY (ye t) k 0) TTail.zero).plan≠[]:=NO _ _ (.inr fun h=>by
   have h:=congrArg List.length h;have:=(List.getElem?_eq_some_iff.1 hp).1;rw[List.length_take,List.length_nil] at h;omega)
  have hsB:(G.take (i+2)).foldl (yY (ye t) k 0) TTail.zero=ky ((G.take (i+1)).foldl (yY (ye t) k 0) TTail.zero) (qq (ye t) p.1 (yy (ye t) k 1 p.2)):=j6 hp;have hsM:(G.take (i+2)).foldl (kB (ye t) k 0) []=jh (ye t) k 1 p.2 ((G.take (i+1)).foldl (kB (ye t) k 0) []):=j6 hp;have hlb:∃r,(yL ((G.take (i+1)).foldl (yY (ye t) k 0) TTail.zero).plan).length=r+1:=by
   obtain ⟨a,r,har⟩:=List.exists_cons_of_ne_nil hne;exact⟨r.length,by rw[har];simp[yL]⟩
  obtain ⟨kb,hkb⟩:=hlb;refine⟨_,_,_,_,Nt (ye t) hd (by show t.Lorries.length<=1000;omega) k 1 p.2 _ (by show 1+k=t.Lorries.length;omega) i3 i4 (hnM (i+1)) (hkM (i+1)),_,L5 (ye t) p.1 i1,kb,hkb,fun g1=>?_,fun g1=>⟨fun g2=>⟨fun g3=>?_,fun g3=>?_⟩,fun g2=>?_⟩⟩
  ·have hb:j9 (qq (ye t) p.1 (yy (ye t) k 1 p.2)) ((G.take (i+1)).foldl (yY (ye t) k 0) TTail.zero)=true:=by
    show (_ || _)=true;rw[show decide ((qq (ye t) p.1 (yy (ye t) k 1 p.2)).value>((G.take (i+1)).foldl (yY (ye t) k 0) TTail.zero).value)=true from g1];rfl
   refine⟨fun m vs=>∃j:Nat,vs=[.int .i64 j,.slc 3 (yg ((ym p.1).take j))]/\j<=(ym p.1).length/\m=(ym p.1).length-j,⟨_,0,rfl,by omega,rfl⟩,?_⟩;rintro m _ _ ⟨j,hj,hle,rfl⟩;cases hj;refine⟨fun h3=>?_,fun h3=>?_⟩
   ·have h3:j<p.1.stops.length:=by have:=zt_ h3;rw[List.length_map] at this;omega
    have hs:=vq ((ym p.1).take j) (by rw[List.length_take];omega) (p.1.stops[j]).Job;refine⟨_,_,_,_,⟨by omega,rfl,vp h3⟩,hs.1,hs.2,?_⟩;repeat (refine And.intro rfl ?_)
    exact⟨yg ((ym p.1).take (j+1)),wW h3,_,(by omega:(ym p.1).length-(j+1)<(ym p.1).length-j),j+1,by rw[yr (by omega)],by omega,rfl⟩
   ·have h3:j=(ym p.1).length:=by have:=zf_ h3;rw[List.length_map] at this;omega
    subst h3;rw[List.take_length];obtain ⟨t1,t2,_,t4⟩:=Yd (ym p.1) (yy (ye t) k 1 p.2).plan hR;refine⟨(qM _).1,yg (ym p.1),(qM _).2,t1,t2,?_⟩;repeat (refine And.intro rfl ?_)
    refine⟨yL (ym p.1::(yy (ye t) k 1 p.2).plan),⟨t4.1,t4.2.1⟩,?_⟩;exact⟨_,by rw[hsB,xI hne hb,hsM];rfl⟩
  ·have hb:j9 (qq (ye t) p.1 (yy (ye t) k 1 p.2)) ((G.take (i+1)).foldl (yY (ye t) k 0) TTail.zero)=false:=by
    show (_ || (_ && _))=false;rw[show decide ((qq (ye t) p.1 (yy (ye t) k 1 p.2)).value>((G.take (i+1)).foldl (yY (ye t) k 0) TTail.zero).value)=false from g1,show decide ((qq (ye t) p.1 (yy (ye t) k 1 p.2)).cost<((G.take (i+1)).foldl (yY (ye t) k 0) TTail.zero).cost)=false from (by rw[Bool.not_eq_true'] at g3;exact g3),Bool.and_false];rfl
   repeat (refine And.intro rfl ?_)
   exact⟨_,⟨hkb,rfl⟩,_,by rw[hsB,Xi hne hb,hsM]⟩
  ·have hb:j9 (qq (ye t) p.1 (yy (ye t) k 1 p.2)) ((G.take (i+1)).foldl (yY (ye t) k 0) TTail.zero)=true:=by
    show (_ || (_ && _))=true;rw[show ((qq (ye t) p.1 (yy (ye t) k 1 p.2)).value == ((G.take (i+1)).foldl (yY (ye t) k 0) TTail.zero).value)=true from g2,show decide ((qq (ye t) p.1 (yy (ye t) k 1 p.2)).cost<((G.take (i+1)).foldl (yY (ye t) k 0) TTail.zero).cost)=true from (by rw[Bool.not_eq_false'] at g3;exact g3),Bool.and_true,Bool.or_true]
   refine⟨fun m vs=>∃j:Nat,vs=[.int .i64 j,.slc 3 (yg ((ym p.1).take j))]/\j<=(ym p.1).length/\m=(ym p.1).length-j,⟨_,0,rfl,by omega,rfl⟩,?_⟩;rintro m _ _ ⟨j,hj,hle,rfl⟩;cases hj;refine⟨fun h3=>?_,fun h3=>?_⟩
   ·have h3:j<p.1.stops.length:=by have:=zt_ h3;rw[List.length_map] at this;omega
    have hs:=vq ((ym p.1).take j) (by rw[List.length_take];omega) (p.1.stops[j]).Job;refine⟨_,_,_,_,⟨by omega,rfl,vp h3⟩,hs.1,hs.2,?_⟩;repeat (refine And.intro rfl ?_)
    exact⟨yg ((ym p.1).take (j+1)),wW h3,_,(by omega:(ym p.1).length-(j+1)<(ym p.1).length-j),j+1,by rw[yr (by omega)],by omega,rfl⟩
   ·have h3:j=(ym p.1).length:=by have:=zf_ h3;rw[List.length_map] at this;omega
    subst h3;rw[List.take_length];obtain ⟨t1,t2,_,t4⟩:=Yd (ym p.1) (yy (ye t) k 1 p.2).plan hR;refine⟨(qM _).1,yg (ym p.1),(qM _).2,t1,t2,?_⟩;repeat (refine And.intro rfl ?_)
    refine⟨yL (ym p.1::(yy (ye t) k 1 p.2).plan),⟨t4.1,t4.2.1⟩,?_⟩;exact⟨_,by rw[hsB,xI hne hb,hsM];rfl⟩
  ·have hb:j9 (qq (ye t) p.1 (yy (ye t) k 1 p.2)) ((G.take (i+1)).foldl (yY (ye t) k 0) TTail.zero)=false:=by
    show (_ || (_ && _))=false;rw[show decide ((qq (ye t) p.1 (yy (ye t) k 1 p.2)).value>((G.take (i+1)).foldl (yY (ye t) k 0) TTail.zero).value)=false from g1,show ((qq (ye t) p.1 (yy (ye t) k 1 p.2)).value == ((G.take (i+1)).foldl (yY (ye t) k 0) TTail.zero).value)=false from g2,Bool.false_and];rfl
   repeat (refine And.intro rfl ?_)
   exact⟨_,⟨hkb,rfl⟩,_,by rw[hsB,Xi hne hb,hsM]⟩
 ·intro es37 v38 hv38 n40 n41 es42 hI;rw[List.length_map,List.take_length] at hI;have h3:=hkM G.length;rw[List.take_length] at h3;obtain ⟨v,hI⟩:=hI;cases hI;refine⟨TQ (ye t) h3,vJ hkey,_,hput _ _ (XM (fun hq=>(by cases hq))),?_⟩;rw[<- hB,<- hP];have hsm:∀x∈jL t,x.length<=7:=by rw[hP];exact Qu hjl _ _ _ (by decide) (by decide)
  have hPl:(jL t).length<=3:=by rw[hP];exact Nat.le_trans (xZ ..) hll
  have hlP:(yL (jL t)).length=(jL t).length:=List.length_map ..;rw[Ik,vd xi,XZ];refine⟨fun m vs=>∃j:Nat,vs=[.int .i64 j,.agg (yL (jL t))]/\j<=(jL t).length/\m=(jL t).length-j,⟨_,0,rfl,by omega,rfl⟩,?_⟩;rintro m n51 cs52 ⟨j,hj,hle,rfl⟩;cases hj;rw[hlP];have hcell:(AV.agg (yL (jL t))).cells=yL (jL t):=rfl;rw[hcell];refine⟨fun h4=>?_,fun h4=>?_⟩
  ·have h4:j<(jL t).length:=by have:=zt_ h4;omega
   have hget:(yL (jL t))[j]? = some (.slc 3 (yg (jL t)[j])):=by
    unfold yL;rw[List.getElem?_map,List.getElem?_eq_getElem h4];rfl
   refine⟨⟨by omega,by omega,rfl⟩,_,?_,_,Kg ((jL t)[j]) (Nat.le_trans (hsm _ (List.getElem_mem h4)) (by omega)),⟨by omega,by omega,rfl⟩,by rw[hlP,Int.toNat_natCast];omega,?_⟩
   ·rw[GS,Int.toNat_natCast,Nat.mul_one,Nat.zero_add,hget];rfl
   repeat (refine And.intro rfl ?_)
   refine⟨_,(by omega:(jL t).length-(j+1)<(jL t).length-j),j+1,?_,by omega,rfl⟩;rw[yr (by omega),Int.toNat_natCast,Nat.mul_one,Nat.zero_add,JA hget,XZ]
  ·refine⟨⟨by rw[hlP];omega,X2 _⟩,?_,rfl⟩;unfold Tx;rw[Hw,List.drop_zero,he];show AV.tup [AV.slc 3 ((yL (jL t)).take (jL t).length),_]=_;rw[<- hlP,List.take_length])
def He:Go.Shelf.Ren:=⟨fun x=>match x with | 189=>97 | 125=>125 | 257=>124 | 128=>144 | 129=>145 | 294=>135 | 295=>136 | 296=>137 | 297=>138 | 298=>139 | 299=>140 | 216=>141 | 300=>142 | 301=>143 | 328=>151 | 329=>152 | 330=>153 | 331=>154 | 332=>155 | 215=>156 | 343=>167 | n=>n,fun x=>match x with | 28=>44 | 3=>3 | 46=>182 | 0=>0 | 51=>197 | 53=>199 | 4=>4 | 183=>190 | 182=>189 | 131=>194 | 5=>5 | 9=>9 | 218=>207 | 222=>211 | 228=>224 | 229=>122 | n=>n,fun x=>x⟩
theorem Hc:Go.Proofs.Lays.n189 Tryz.prog He where
 mixed:=by kernel_rfl
 f125:=Tryz.func125.trans (by kernel_rfl)
 f128:=Tryz.func144.trans (by kernel_rfl)
 f129:=Tryz.func145.trans (by kernel_rfl)
 f189:=Tryz.func97.trans (by kernel_rfl)
 f215:=Tryz.func156.trans (by kernel_rfl)
 f216:=Tryz.func141.trans (by kernel_rfl)
 f257:=Tryz.func124.trans (by kernel_rfl)
 f294:=Tryz.func135.trans (by kernel_rfl)
 f295:=Tryz.func136.trans (by kernel_rfl)
 f296:=Tryz.func137.trans (by kernel_rfl)
 f297:=Tryz.func138.trans (by kernel_rfl)
 f298:=Tryz.func139.trans (by kernel_rfl)
 f299:=Tryz.func140.trans (by kernel_rfl)
 f300:=Tryz.func142.trans (by kernel_rfl)
 f301:=Tryz.func143.trans (by kernel_rfl)
 f328:=Tryz.func151.trans (by kernel_rfl)
 f329:=Tryz.func152.trans (by kernel_rfl)
 f330:=Tryz.func153.trans (by kernel_rfl)
 f331:=Tryz.func154.trans (by kernel_rfl)
 f332:=Tryz.func155.trans (by kernel_rfl)
 f343:=Tryz.func167.trans (by kernel_rfl)
 t0:=Tryz.underlying0
 a0:=Tryz.isAgg0
 z0:=Tryz.sizeOf0
 v0:=Tryz.zeroValue0
 t3:=Tryz.underlying3
 a3:=Tryz.isAgg3
 z3:=Tryz.sizeOf3
 v3:=Tryz.zeroValue3
 t4:=Tryz.underlying4
 a4:=Tryz.isAgg4
 z4:=Tryz.sizeOf4
 v4:=Tryz.zeroValue4
 t5:=Tryz.underlying5
 a5:=Tryz.isAgg5
 z5:=Tryz.sizeOf5
 v5:=Tryz.zeroValue5
 t9:=Tryz.underlying9
 a9:=Tryz.isAgg9
 z9:=Tryz.sizeOf9
 v9:=Tryz.zeroValue9
 t28:=Tryz.underlying44
 a28:=Tryz.isAgg44
 z28:=Tryz.sizeOf44
 v28:=Tryz.zeroValue44
 t46:=Tryz.underlying182
 a46:=Tryz.isAgg182
 z46:=Tryz.sizeOf182
 v46:=Tryz.zeroValue182
 t51:=Tryz.underlying197
 a51:=Tryz.isAgg197
 z51:=Tryz.sizeOf197
 v51:=Tryz.zeroValue197
 t53:=Tryz.underlying199
 a53:=Tryz.isAgg199
 z53:=Tryz.sizeOf199
 v53:=Tryz.zeroValue199
 t131:=Tryz.underlying194
 a131:=Tryz.isAgg194
 z131:=Tryz.sizeOf194
 v131:=Tryz.zeroValue194
 t182:=Tryz.underlying189
 a182:=Tryz.isAgg189
 z182:=Tryz.sizeOf189
 v182:=Tryz.zeroValue189
 t183:=Tryz.underlying190
 a183:=Tryz.isAgg190
 z183:=Tryz.sizeOf190
 v183:=Tryz.zeroValue190
 t218:=Tryz.underlying207
 a218:=Tryz.isAgg207
 z218:=Tryz.sizeOf207
 v218:=Tryz.zeroValue207
 t222:=Tryz.underlying211
 a222:=Tryz.isAgg211
 z222:=Tryz.sizeOf211
 v222:=Tryz.zeroValue211
 t228:=Tryz.underlying224
 a228:=Tryz.isAgg224
 z228:=Tryz.sizeOf224
 v228:=Tryz.zeroValue224
 t229:=Tryz.underlying122
 a229:=Tryz.isAgg122
 z229:=Tryz.sizeOf122
 v229:=Tryz.zeroValue122
def Hb:Go.Shelf.Ren:=⟨fun x=>match x with | 20=>59 | n=>n,fun x=>match x with | 22=>44 | 3=>3 | 4=>4 | 0=>0 | n=>n,fun x=>x⟩
theorem Ha:Go.Proofs.Lays2.n20 Tryz.prog Hb where
 mixed:=by kernel_rfl
 f20:=Tryz.func59.trans (by kernel_rfl)
 t0:=Tryz.underlying0
 a0:=Tryz.isAgg0
 z0:=Tryz.sizeOf0
 v0:=Tryz.zeroValue0
 t3:=Tryz.underlying3
 a3:=Tryz.isAgg3
 z3:=Tryz.sizeOf3
 v3:=Tryz.zeroValue3
 t4:=Tryz.underlying4
 a4:=Tryz.isAgg4
 z4:=Tryz.sizeOf4
 v4:=Tryz.zeroValue4
 t22:=Tryz.underlying44
 a22:=Tryz.isAgg44
 z22:=Tryz.sizeOf44
 v22:=Tryz.zeroValue44
 i3:=by kernel_rfl
theorem Q6 {zs:List Int} {w:World} {B:Nat} {c:Array Value} {e:TypeId} (h:w.heap[B]? = some (.cells c e (0,0))) (hl:zs.length<=c.size) (hc:∀j,j<zs.length->c.getD j Go.undef=.int .i64 (zs.getD j 0)):Go.Sort.Holds (Value.int .i64) w B 0 zs.toArray:=by
 intro j hj;have hj:j<zs.length:=by simpa using hj
 have hj':j<c.size:=by omega
 constructor
 ·have:=hc j hj;simp only[World.cell?,h,Nat.zero_add,Array.getElem?_eq_getElem hj'];simp only[Array.getD,hj',dite_true,Array.getInternal_eq_getElem] at this;rw[this];simp[List.getD,hj]
 ·simp[World.frozen?,h]
theorem NW {ys:List Int} {w w':World} {B n:Nat} {os:Array Obj} {c:Array Value} {e:TypeId} (h:w.heap[B]? = some (.cells c e (0,0))) (hl:ys.length<=c.size) (hw:w'=Go.Sort.grow (Go.Sort.putRow (Value.int .i64) (Go.Sort.ahead w n) B 0 ys.toArray) os) :
  w'.os=w.os/\w'.tape=w.tape/\w'.output=w.output/\w.heap.size<=w'.heap.size/\(∀i,i<w.heap.size->i≠B->w'.heap[i]? = w.heap[i]?) /\
   ∃c',w'.heap[B]? = some (.cells c' e (0,0))/\c'.size=c.size/\∀j,j<ys.length->c'.getD j Go.undef=.int .i64 (ys.getD j 0):=by
 subst hw;have hB:B<w.heap.size:=(Array.getElem?_eq_some_iff.1 h).1;have hb:w.heap[B]=.cells c e (0,0):=by rw[Array.getElem?_eq_getElem hB] at h;exact Option.some.inj h
 refine⟨rfl,rfl,rfl,?_,fun i hi hne=>?_,Go.Sort.putCells (Value.int .i64) 0 ys.toArray c,?_,?_,fun j hj=>?_⟩
 ·simp[Go.Sort.grow,Go.Sort.putRow,Go.Sort.mapBlock,Go.Sort.ahead]
 ·simp only[Go.Sort.grow,Go.Sort.putRow,Go.Sort.mapBlock,Go.Sort.ahead];rw[Array.getElem?_append_left (by simpa using hi),Array.getElem?_modify,if_neg (fun h=>hne h.symm)]
 ·simp only[Go.Sort.grow,Go.Sort.putRow,Go.Sort.mapBlock,Go.Sort.ahead];rw[Array.getElem?_append_left (by simpa using hB),Array.getElem?_modify,if_pos rfl,h];rfl
 ·simp[Go.Sort.putCells]
 ·have hj':j<c.size:=by omega
  simp[Array.getD,Go.Sort.putCells,hj',hj,List.getD]
def jH (zs:List Int):List Int:=zs.mergeSort fun x y=>decide (x<=y)
theorem Yc (zs:List Int):(jH zs).length=zs.length:=by unfold jH;exact List.length_mergeSort zs
theorem IP (zs:List Int) (hz:zs.length<=2 ^ 60):jQ Tryz.prog 97 [.tup (zs.map (AV.int .i64))] 0 ((jH zs).map (AV.int .i64)):=by
 have inj:∀ {a b:List Int},a.map (AV.int .i64)=b.map (AV.int .i64)->b=a:=fun h=>((List.map_inj_right (fun x y h=>(by injection h))).1 h).symm
 refine(⟨Tryz.call97,fun zs1 zs' w B cap c e h1 h2 h3 h4 h5 h6 h7 h8=>?_⟩:Ng _ _ _ _ _);obtain rfl:=inj h1;obtain rfl:=inj h2;have hB:B<w.heap.size:=(Array.getElem?_eq_some_iff.1 h5).1;refine(Any.slices_Sort_int Hc B 0 cap zs1 w (Q6 h5 (by omega) h8) hB (by omega)).mono ?_;rintro en w' ⟨rfl,n,os,hw⟩;refine⟨rfl,?_⟩;have:=NW (ys:=jH zs1) h5 (by rw[Yc];omega) hw;rw[Yc] at this;exact this
theorem W9 (zs:List Int):(Go.Lib.compact zs).length<=zs.length:=by
 unfold Go.Lib.compact Go.Lib.compactUpTo;rw[List.length_map];exact Nat.le_trans (List.length_filter_le ..) (by rw[List.length_range];exact Nat.le_refl _)
def QK (zs:List Int):List Int:=Go.Lib.compact zs++List.replicate (zs.length-(Go.Lib.compact zs).length) 0
theorem XK (zs:List Int):(QK zs).length=zs.length:=by
 unfold QK;rw[List.length_append,List.length_replicate];have:=W9 zs;omega
theorem IM (zs:List Int) (hz:zs.length<=2 ^ 60):jQ Tryz.prog 59 [.tup (zs.map (AV.int .i64))] ((Go.Lib.compact zs).length+1) ((QK zs).map (AV.int .i64)):=by
 have inj:∀ {a b:List Int},a.map (AV.int .i64)=b.map (AV.int .i64)->b=a:=fun h=>((List.map_inj_right (fun x y h=>(by injection h))).1 h).symm
 refine(⟨Tryz.call59,fun zs1 zs' w B cap c e h1 h2 h3 h4 h5 h6 h7 h8=>?_⟩:Ng _ _ _ _ _);obtain rfl:=inj h1;obtain rfl:=inj h2;refine(Any.slices_Compact_int Ha B 0 cap zs1 w (Q6 h5 (by omega) h8) (by omega) h6).mono ?_;rintro en w' ⟨rfl,n,hw⟩;refine⟨rfl,?_⟩;have:=NW (w':=w') (ys:=QK zs1) (os:=#[]) h5 (by rw[XK];omega) (by rw[Go.Sort.grow_empty];exact hw);rw[XK] at this;exact this
theorem Sf {zs:List Int} {x:Int}:x∈jH zs↔x∈zs:=by unfold jH;exact List.mem_mergeSort
theorem Yb (zs:List Int):(jH zs).Pairwise (·<=·):=by
 have:=List.pairwise_mergeSort (le:=fun x y:Int=>decide (x<=y)) (fun a b c h1 h2=>by simp only[decide_eq_true_eq] at *;omega) (fun a b=>by simp only[Bool.or_eq_true,decide_eq_true_eq];omega) zs;exact this.imp fun h=>zt_ h
theorem W7 {zs:List Int} (h:zs.Pairwise (·<=·)):(Go.Lib.compact zs).Pairwise (·<·):=by
 have hs:∀i j:Nat,i<=j->j<zs.length->zs.toArray[i]!<=zs.toArray[j]!:=by
  intro i j hij hj;rcases Nat.lt_or_eq_of_le hij with h1 | rfl
  ·have:=List.pairwise_iff_getElem.1 h i j (by omega) hj h1;simpa[getElem!_pos,hj,show i<zs.length by omega] using this
  ·exact Int.le_refl _
 unfold Go.Lib.compact Go.Lib.compactUpTo;rw[List.pairwise_map,List.pairwise_filter];refine(List.pairwise_iff_getElem.2 fun i j hi hj hij _ hk=>?_);simp only[List.length_range] at hi hj;simp only[List.getElem_range] at hk ⊢;have h1:=hs i (j-1) (by omega) (by omega);have h2:=hs (j-1) j (by omega) hj;have h3:zs.toArray[j]!≠zs.toArray[j-1]!:=by
  have:=zt_ hk;rcases this with h0 | h0
  ·omega
  ·exact h0
 omega
theorem W8 {zs:List Int} {x:Int}:x∈Go.Lib.compact zs↔x∈zs:=by
 have key:∀j,j<zs.length->zs.toArray[j]!∈Go.Lib.compact zs:=by
  intro j;induction j with
  |zero =>
   intro hj;unfold Go.Lib.compact Go.Lib.compactUpTo;exact List.mem_map.2 ⟨0,List.mem_filter.2 ⟨List.mem_range.2 hj,by simp[Go.Lib.keeps]⟩,rfl⟩
  |succ j ih =>
   intro hj;by_cases h:zs.toArray[j+1]! = zs.toArray[j]!
   ·rw[h];exact ih (by omega)
   ·unfold Go.Lib.compact Go.Lib.compactUpTo;exact List.mem_map.2 ⟨j+1,List.mem_filter.2 ⟨List.mem_range.2 hj,by simpa[Go.Lib.keeps] using h⟩,rfl⟩
 constructor
 ·intro h;unfold Go.Lib.compact Go.Lib.compactUpTo at h;obtain ⟨j,hj,rfl⟩:=List.mem_map.1 h;have hj:=List.mem_range.1 (List.mem_filter.1 hj).1;simp[hj]
 ·intro h;obtain ⟨j,hj,rfl⟩:=List.mem_iff_getElem.1 h;have:=key j hj;simpa[hj] using this
theorem Nq:∀ {l m:List Int},l.Pairwise (·<·)->m.Pairwise (·<·)->(∀x,x∈l↔x∈m)->l=m
 |[],[],_,_,_=>rfl
 |[],y::m,_,_,h=>absurd ((h y).2 List.mem_cons_self) (by simp)
 |x::l,[],_,_,h=>absurd ((h x).1 List.mem_cons_self) (by simp)
 |x::l,y::m,hl,hm,h=>by
  rw[List.pairwise_cons] at hl hm;have e:x=y:=by
   rcases List.mem_cons.1 ((h x).1 List.mem_cons_self) with h1 | h1
   ·exact h1
   ·rcases List.mem_cons.1 ((h y).2 List.mem_cons_self) with h2 | h2
    ·exact h2.symm
    ·have:=hl.1 y h2;have:=hm.1 x h1;omega
  subst e;rw[Nq hl.2 hm.2 fun z=>?_];have:=h z;simp only[List.mem_cons] at this;constructor
  ·intro hz;rcases this.1 (.inr hz) with rfl | h1
   ·have:=hl.1 z hz;omega
   ·exact h1
  ·intro hz;rcases this.2 (.inr hz) with rfl | h1
   ·have:=hm.1 z hz;omega
   ·exact h1
end Go.Proofs.YtkojpnkknehhmaaGreatDoor
