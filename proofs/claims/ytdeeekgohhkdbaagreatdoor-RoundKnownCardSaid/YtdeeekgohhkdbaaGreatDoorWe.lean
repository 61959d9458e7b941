/- The law RoundKnown: all its calls at the examples. -/
import Derived.Test.YtdeeekgohhkdbaaGreatDoorWc
import Derived.Test.YtdeeekgohhkdbaaGreatDoorPf
import Derived.Test.YtdeeekgohhkdbaaGreatDoorKg
import Derived.Test.YtdeeekgohhkdbaaGreatDoorVb
import Derived.LaidLaws
import Derived.LaidHandle
import Derived.MakeChecks
import Derived.ChangeArms
namespace Go.Proofs.YtdeeekgohhkdbaaGreatDoor
open Go.IntKind (wrap i64 u64)
open Go.RowKit
/- runH -/
/- nofac -/
def exDay:TRoTask:={ exTask with Jobs:=[⟨ByteArray.mk #[112,111,108,101],5000,0,80,1800,[1],-1,true,10⟩,⟨ByteArray.mk #[109,97,115,116],5000,5000,100,3600,[1],0,false,20⟩,⟨ByteArray.mk #[97,114,99,104],0,5000,130,600,[0],-1,false,50⟩] }
theorem GX:kc exDay:=by
 constructor
 ·intro x hx;simp only[exDay,exTask,List.mem_cons,List.not_mem_nil,or_false] at hx;rcases hx with rfl;(show ByteArray.size _<=_;decide)
 ·intro x hx;simp only[exDay,List.mem_cons,List.not_mem_nil,or_false] at hx;rcases hx with rfl | rfl | rfl<;>(show ByteArray.size _<=_;decide)
theorem Ly:Yk exTask (-1) 0=(600,0):=by kernel_rfl
theorem LA:Yk exTask 0 2=(1200,0):=by kernel_rfl
theorem G8:Ti exTask 1=(⟨36000,50400⟩,true,0):=by kernel_rfl
theorem Jq {l:List Int} (h:l.Nodup):k9 l=false:=IZ.2 h
theorem Mv {t:TRoTask} {lorry:Int} {l:List Int} {r:List TRoStop × Int} (h1:(qF t).2.2=0) (h2:l.any (yV t 0)=false) (h3:qa lorry 0 ((t.Lorries.length:Int)-1)=false) (h4:l.Nodup) (h5:jg (yr t) (qg (yr t) lorry) l=r):xM t lorry l=(r.1,r.2,0):=by
 unfold xM;rw[if_neg (by simp[h1]),if_neg (by simp[h2]),if_neg (by simp[h3]),if_neg (by simp[Jq h4]),h5]
theorem Js:xM exTask 0 [0,1]=([⟨0,29400,29400,31200⟩,⟨1,31800,36000,39600⟩],40800,0):=Mv (r:=([⟨0,29400,29400,31200⟩,⟨1,31800,36000,39600⟩],40800)) Qi (by kernel_rfl) (by kernel_rfl) (by decide) (by kernel_rfl)
theorem Jt:xM exTask 0 [1,0]=([⟨1,30000,36000,39600⟩,⟨0,40200,40200,42000⟩],42600,0):=Mv (r:=([⟨1,30000,36000,39600⟩,⟨0,40200,40200,42000⟩],42600)) Qi (by kernel_rfl) (by kernel_rfl) (by decide) (by kernel_rfl)
theorem Hq:UW exTask [[1,2]]=([⟨211,0,2⟩],0):=by kernel_rfl
theorem Hr:uV exTask [[0,1]]=(30,22000,0):=by kernel_rfl
theorem Jr:xe exTask [[1]] 0=([[0,1]],0):=by kernel_rfl
theorem Hp:XT [[1,0],[0,2],[1,1]] [[0,1],[2]]=([1,2],0):=by
 have hd:([[0,1],[2]]:List (List Int)).any k9=false:=by
  simp only[List.any_cons,List.any_nil,Jq (l:=[0,1]) (by decide),Jq (l:=[2]) (by decide)];rfl
 have h1:¬ (([[0,1],[2]]:List (List Int)).any k9=true):=by rw[hd];simp
 unfold XT;simp only[if_neg h1];decide +kernel
theorem DL:Ti exDay 0=(⟨21859,65428⟩,true,0):=by kernel_rfl
theorem Jp:Xj exProg=([1,0],40000,0):=by kernel_rfl
theorem Ho:Um exProg [0,0]=(50000,0):=by kernel_rfl
theorem G4:xx exProg 0 0=(20000,0):=by kernel_rfl
theorem G5:xx exProg 0 1=(20000,0):=by kernel_rfl
theorem G6:xx exProg 1 0=(20000,0):=by kernel_rfl
theorem G7:xx exProg 1 1=(30000,0):=by kernel_rfl
def R15 (S:SpecF) (_Fr:FreshF) (_Sq:SeqF) (Q:ym):Prop :=
 ∃n0 n1 n2 n3 n4 n5 n6 n7 n8 es9 es10 es11 es12,S 42 [] [] (.agg [iN n0,iN n1,iN n2,iN n3,iN n4,iN n5,iN n6,iN n7,iN n8,.slc 3 es9,.slc 3 es10,.slc 3 es11,.slc 3 es12]) []/\∃n14 n15,S 28 [AV.agg [iN n0,iN n1,iN n2,iN n3,iN n4,iN n5,iN n6,iN n7,iN n8,.slc 3 es9,.slc 3 es10,.slc 3 es11,.slc 3 es12],iN (-1:Int),iN 0] [] (.tup [iN n14,iN n15]) []/\∃n17 n18,S 28 [AV.agg [iN n0,iN n1,iN n2,iN n3,iN n4,iN n5,iN n6,iN n7,iN n8,.slc 3 es9,.slc 3 es10,.slc 3 es11,.slc 3 es12],iN 0,iN 2] [] (.tup [iN n17,iN n18]) []/\∃n20 n21 b22 n23,S 27 [AV.agg [iN n0,iN n1,iN n2,iN n3,iN n4,iN n5,iN n6,iN n7,iN n8,.slc 3 es9,.slc 3 es10,.slc 3 es11,.slc 3 es12],iN 1] [] (.tup [AV.agg [iN n20,iN n21],.bool b22,iN n23]) []/\∃es25 n26 n27,S 20 [AV.agg [iN n0,iN n1,iN n2,iN n3,iN n4,iN n5,iN n6,iN n7,iN n8,.slc 3 es9,.slc 3 es10,.slc 3 es11,.slc 3 es12],iN 0,.slc 3 [iN 0,iN 1]] [] (.tup [AV.slc 3 es25,iN n26,iN n27]) []/\∃es29 n30 n31,S 20 [AV.agg [iN n0,iN n1,iN n2,iN n3,iN n4,iN n5,iN n6,iN n7,iN n8,.slc 3 es9,.slc 3 es10,.slc 3 es11,.slc 3 es12],iN 0,.slc 3 [iN 1,iN 0]] [] (.tup [AV.slc 3 es29,iN n30,iN n31]) []/\((n15 != 0)=true->Q (.bool false) [])/\((n15 != 0)=false->((n18 != 0)=true->Q (.bool false) [])/\((n18 != 0)=false->((n23 != 0)=true->Q (.bool false) [])/\((n23 != 0)=false->((n27 != 0)=true->Q (.bool false) [])/\((n27 != 0)=false->((n31 != 0)=true->Q (.bool false) [])/\((n31 != 0)=false->((n14 != 600)=true->Q (.bool false) [])/\((n14 != 600)=false->((n17 != 1200)=true->Q (.bool false) [])/\((n17 != 1200)=false->((!b22)=true->Q (.bool false) [])/\((!b22)=false->((!(n20 == 36000 && (n21 == 50400 && true)))=true->Q (.bool false) [])/\((!(n20 == 36000 && (n21 == 50400 && true)))=false->((n26 != 40800)=true->Q (.bool false) [])/\((n26 != 40800)=false->((n30 != 42600)=true->Q (.bool false) [])/\((n30 != 42600)=false->∃b55,S 21 [AV.slc 3 es25,.slc 3 [AV.agg [iN 0,iN 29400,iN 29400,iN 31200],.agg [iN 1,iN 31800,iN 36000,iN 39600]]] [] (.bool b55) []/\((!b55)=true->Q (.bool false) [])/\((!b55)=false->∃b59,S 21 [AV.slc 3 es29,.slc 3 [AV.agg [iN 1,iN 30000,iN 36000,iN 39600],.agg [iN 0,iN 40200,iN 40200,iN 42000]]] [] (.bool b59) []/\((!b59)=true->Q (.bool false) [])/\((!b59)=false->∃es63 n64,S 43 [AV.agg [iN n0,iN n1,iN n2,iN n3,iN n4,iN n5,iN n6,iN n7,iN n8,.slc 3 es9,.slc 3 es10,.slc 3 es11,.slc 3 es12],.slc 3 [AV.slc 3 [iN 1,iN 2]]] [] (.tup [AV.slc 3 es63,iN n64]) []/\∃n66 n67 n68,S 19 [AV.agg [iN n0,iN n1,iN n2,iN n3,iN n4,iN n5,iN n6,iN n7,iN n8,.slc 3 es9,.slc 3 es10,.slc 3 es11,.slc 3 es12],.slc 3 [AV.slc 3 [iN 0,iN 1]]] [] (.tup [iN n66,iN n67,iN n68]) []/\∃es70 n71,S 39 [AV.agg [iN n0,iN n1,iN n2,iN n3,iN n4,iN n5,iN n6,iN n7,iN n8,.slc 3 es9,.slc 3 es10,.slc 3 es11,.slc 3 es12],.slc 3 [AV.slc 3 [iN 1]],iN 0] [] (.tup [AV.slc 3 es70,iN n71]) []/\∃es73 n74,S 35 [AV.slc 3 [AV.slc 3 [iN 1,iN 0],.slc 3 [iN 0,iN 2],.slc 3 [iN 1,iN 1]],.slc 3 [AV.slc 3 [iN 0,iN 1],.slc 3 [iN 2]]] [] (.tup [AV.slc 3 es73,iN n74]) []/\((n64 != 0)=true->Q (.bool false) [])/\((n64 != 0)=false->((n68 != 0)=true->Q (.bool false) [])/\((n68 != 0)=false->((n71 != 0)=true->Q (.bool false) [])/\((n71 != 0)=false->((n74 != 0)=true->Q (.bool false) [])/\((n74 != 0)=false->(((↑es63.length:Int) != (1:Int))=true->Q (.bool false) [])/\(((↑es63.length:Int) != (1:Int))=false->∃n86 n87 n88,((0:Int)<=(0:Int)/\(3:Nat)=(3:Nat)/\es63[(0:Nat)]? = some (.agg [iN n86,iN n87,iN n88]))/\((!(n86 == 211 && (n87 == 0 && (n88 == 2 && true))))=true->Q (.bool false) [])/\((!(n86 == 211 && (n87 == 0 && (n88 == 2 && true))))=false->((n66 != 30)=true->Q (.bool false) [])/\((n66 != 30)=false->((n67 != 22000)=true->Q (.bool false) [])/\((n67 != 22000)=false->∃b96,S 44 [AV.slc 3 es70,.slc 3 [AV.slc 3 [iN 0,iN 1]]] [] (.bool b96) []/\((!b96)=true->Q (.bool false) [])/\((!b96)=false->∃b100,S 32 [AV.slc 3 es73,.slc 3 [iN 1,iN 2]] [] (.bool b100) []/\((!b100)=true->Q (.bool false) [])/\((!b100)=false->∃js104 r105,(es12=AV.agg js104::r105/\G2 (js104.getD (7:Nat) .undef)=true/\AV.zw false js104=true/\AV.zw false r105=true)/\AV.zy false (.slc 3 es25)=true/\AV.zy false (.slc 3 es29)=true/\AV.zy false (.slc 3 es63)=true/\AV.zy false (.slc 3 es70)=true/\AV.zy false (.slc 3 es73)=true/\AV.zy false (.slc 3 es9)=true/\AV.zy false (.slc 3 es10)=true/\AV.zy false (.slc 3 es11)=true/\∃n115 n116 b117 n118,S 27 [AV.agg [iN n0,iN n1,iN n2,iN n3,iN n4,iN n5,iN n6,iN n7,iN n8,.slc 3 es9,.slc 3 es10,.slc 3 es11,.slc 3 (.agg (js104.set (7:Nat) (.bool true))::r105)],iN 0] [] (.tup [AV.agg [iN n115,iN n116],.bool b117,iN n118]) []/\∃es120 es121 n122 n123,S 45 [] [] (.agg [AV.slc 3 es120,.slc 3 es121,iN n122,iN n123]) []/\∃es125 n126 n127,S 30 [AV.agg [AV.slc 3 es120,.slc 3 es121,iN n122,iN n123]] [] (.tup [AV.slc 3 es125,iN n126,iN n127]) []/\∃es129 es130 n131 n132,S 45 [] [] (.agg [AV.slc 3 es129,.slc 3 es130,iN n131,iN n132]) []/\∃n134 n135,S 33 [AV.agg [AV.slc 3 es129,.slc 3 es130,iN n131,iN n132],.slc 3 TEncl.zero.cs] [] (.tup [iN n134,iN n135]) []/\((n118 != 0)=true->Q (.bool false) [])/\((n118 != 0)=false->((n127 != 0)=true->Q (.bool false) [])/\((n127 != 0)=false->((n135 != 0)=true->Q (.bool false) [])/\((n135 != 0)=false->((!b117)=true->Q (.bool false) [])/\((!b117)=false->(decide (n115<20000)=true->Q (.bool false) [])/\(decide (n115<20000)=false->(decide (n115>22500)=true->Q (.bool false) [])/\(decide (n115>22500)=false->(decide (n116<65300)=true->Q (.bool false) [])/\(decide (n116<65300)=false->(decide (n116>65600)=true->Q (.bool false) [])/\(decide (n116>65600)=false->∃b153,S 32 [AV.slc 3 es125,.slc 3 [iN 1,iN 0]] [] (.bool b153) []/\((!b153)=true->Q (.bool false) [])/\((!b153)=false->((n126 != 40000)=true->Q (.bool false) [])/\((n126 != 40000)=false->((n134 != 50000)=true->Q (.bool false) [])/\((n134 != 50000)=false->∃(I161:Nat->List AV->Prop),(∃m163,I161 m163 [iN 0])/\∀(m163:Nat) (n164:Int),I161 m163 [iN n164]->(decide (n164<4)=true->∃es168 es169 n170 n171,S 45 [] [] (.agg [AV.slc 3 es168,.slc 3 es169,iN n170,iN n171]) []/\∃n173 n174,S 25 [AV.agg [AV.slc 3 es168,.slc 3 es169,iN n170,iN n171],iN (wrap i64 (n164.tdiv (2:Int))),iN (n164.tmod (2:Int))] [] (.tup [iN n173,iN n174]) []/\((n174 != 0)=true->Q (.bool false) [])/\((n174 != 0)=false->((0:Int)<=wrap i64 (n164.tdiv (2:Int))/\IntKind.i64.wrap (n164.tdiv (2:Int))<2)/\(wrap i64 (n164.tdiv (2:Int))=(1:Int)->((0:Int)<=n164.tmod (2:Int)/\n164.tmod (2:Int)<(2:Int))/\(n164.tmod (2:Int)=(1:Int)->((n173 != 30000)=true->Q (.bool false) [])/\((n173 != 30000)=false->yn [iN n0,iN n1,iN n2,iN n3,iN n4,iN n5,iN n6,iN n7,iN n8,.slc 3 es9,.slc 3 es10,.slc 3 es11,.slc 3 (.agg (js104.set (7:Nat) (.bool true))::r105)]/\yn [iN n115,iN n116]/\yn [AV.lit i64 (20000:Int),.lit i64 (20000:Int),.lit i64 (20000:Int),.lit i64 (30000:Int)]/\∃k189,k189<m163/\I161 k189 [iN (wrap i64 (n164+1))]))/\(n164.tmod (2:Int)=(0:Int)->((n173 != 20000)=true->Q (.bool false) [])/\((n173 != 20000)=false->yn [iN n0,iN n1,iN n2,iN n3,iN n4,iN n5,iN n6,iN n7,iN n8,.slc 3 es9,.slc 3 es10,.slc 3 es11,.slc 3 (.agg (js104.set (7:Nat) (.bool true))::r105)]/\yn [iN n115,iN n116]/\yn [AV.lit i64 (20000:Int),.lit i64 (20000:Int),.lit i64 (20000:Int),.lit i64 (30000:Int)]/\∃k190,k190<m163/\I161 k190 [iN (wrap i64 (n164+1))]))/\True)/\(wrap i64 (n164.tdiv (2:Int))=(0:Int)->((0:Int)<=n164.tmod (2:Int)/\n164.tmod (2:Int)<(2:Int))/\(n164.tmod (2:Int)=(1:Int)->((n173 != 20000)=true->Q (.bool false) [])/\((n173 != 20000)=false->yn [iN n0,iN n1,iN n2,iN n3,iN n4,iN n5,iN n6,iN n7,iN n8,.slc 3 es9,.slc 3 es10,.slc 3 es11,.slc 3 (.agg (js104.set (7:Nat) (.bool true))::r105)]/\yn [iN n115,iN n116]/\yn [AV.lit i64 (20000:Int),.lit i64 (20000:Int),.lit i64 (20000:Int),.lit i64 (30000:Int)]/\∃k190,k190<m163/\I161 k190 [iN (wrap i64 (n164+1))]))/\(n164.tmod (2:Int)=(0:Int)->((n173 != 20000)=true->Q (.bool false) [])/\((n173 != 20000)=false->yn [iN n0,iN n1,iN n2,iN n3,iN n4,iN n5,iN n6,iN n7,iN n8,.slc 3 es9,.slc 3 es10,.slc 3 es11,.slc 3 (.agg (js104.set (7:Nat) (.bool true))::r105)]/\yn [iN n115,iN n116]/\yn [AV.lit i64 (20000:Int),.lit i64 (20000:Int),.lit i64 (20000:Int),.lit i64 (30000:Int)]/\∃k191,k191<m163/\I161 k191 [iN (wrap i64 (n164+1))]))/\True)/\True))/\(decide (n164<4)=false->∃b168,S 17 [] [] (.bool b168) []/\Q (.bool b168) [])))))))))))))))))))))))))))))))))))
theorem s15 (v:AV) (h:R15  Sp Fo So (fun r O=>r=v/\O=[])) {ρ:RO} {E:Lay} {W:World} {vs:Array Value} (hR:QA ρ) (hgl:ka ρ) (hro:∀k o,ρ k=some o->W.heap[k]? = some o) (hargs:Rvs ρ (some E) [] vs):Calls Tryz.prog 15 vs W (W6 ρ E 0 W v []) :=
 HO (w:=⟨[],[(990000017,[.lit .i64 1,.lit .i64 0,.tup [.lit .i64 1,.lit .i64 12,.lit .i64 7],.tup [],.tup [.lit .i64 195,.lit .i64 196,.lit .i64 197,.lit .i64 198]])],[],[],[]⟩) (k:=0) (keep:=⟨[0,1,2,3,4,5,6,7,8,9,10,11,12,13,14,15,16,17,18,19,20,21,22,23,24,25,26,100,114,194,264,269,293],[⟨25,[(24,iN 0)],[],[],[],[],[]⟩],[],[]⟩) mixed (by exact trivial) Tryz.func15 (Nat.le_of_ble_eq_true rfl) (by kernel_rfl) (zbP (UO rfl rfl)) h hR hgl hro hargs
theorem LB {ρ:RO} {E:Lay} {W:World} {vs:Array Value} (hR:QA ρ) (hgl:ka ρ) (hro:∀k o,ρ k=some o->W.heap[k]? = some o) (hargs:Rvs ρ (some E) [] vs):Calls Tryz.prog 15 vs W (W6 ρ E 0 W (.bool true) []):=s15 (.bool true) (by
 unfold R15;have h1:=c28 exTask uE (-1) 0;rw[Ly] at h1;have h2:=c28 exTask uE 0 2;rw[LA] at h2;have h3:=c27 exTask uE 1;rw[G8] at h3;have h4:=On exTask uE 0 [0,1] (by decide);unfold jr at h4;rw[Js] at h4;have h5:=On exTask uE 0 [1,0] (by decide);unfold jr at h5;rw[Jt] at h5;have h6:=Tk [⟨0,29400,29400,31200⟩,⟨1,31800,36000,39600⟩] (by decide);have h7:=Tk [⟨1,30000,36000,39600⟩,⟨0,40200,40200,42000⟩] (by decide);have h8:=c43 exTask uE [[1,2]];rw[Hq] at h8;have h9:=c19 exTask uE [[0,1]];rw[Hr] at h9;have h10:=c39 exTask uE [[1]] 0;rw[Jr] at h10;have h11:=c35 [[1,0],[0,2],[1,1]] [[0,1],[2]] (by decide) (by decide);unfold jZ at h11;rw[Hp] at h11;have h12:=c44 [[0,1]] [[0,1]] (by decide) (fun x hx=>by rw[List.mem_singleton.1 hx];decide);have h13:=c32 [1,2] [1,2] (by decide);have h14:=c27 exDay GX 0;rw[DL] at h14;have h15:=c30 exProg YL;rw[Jp] at h15;have h16:=c33 exProg YL [0,0];rw[Ho] at h16;have h17:=c32 [1,0] [1,0] (by decide);have b0:=c25 exProg YL 0 0;rw[G4] at b0;have b1:=c25 exProg YL 0 1;rw[G5] at b1;have b2:=c25 exProg YL 1 0;rw[G6] at b2;have b3:=c25 exProg YL 1 1;rw[G7] at b3;refine⟨_,_,_,_,_,_,_,_,_,_,_,_,_,c42,_,_,h1,_,_,h2,_,_,_,_,h3,_,_,_,h4,_,_,_,h5,?_⟩;refine⟨fun h=>absurd h (by decide),fun _=>?_⟩;refine⟨fun h=>absurd h (by decide),fun _=>?_⟩;refine⟨fun h=>absurd h (by decide),fun _=>?_⟩;refine⟨fun h=>absurd h (by decide),fun _=>?_⟩;refine⟨fun h=>absurd h (by decide),fun _=>?_⟩;refine⟨fun h=>absurd h (by decide),fun _=>?_⟩;refine⟨fun h=>absurd h (by decide),fun _=>?_⟩;refine⟨fun h=>absurd h (by decide),fun _=>?_⟩;refine⟨fun h=>absurd h (by decide),fun _=>?_⟩;refine⟨fun h=>absurd h (by decide),fun _=>?_⟩;refine⟨fun h=>absurd h (by decide),fun _=>?_⟩;refine⟨_,h6,fun h=>absurd h (by decide),fun _=>?_⟩;refine⟨_,h7,fun h=>absurd h (by decide),fun _=>?_⟩;refine⟨_,_,h8,_,_,_,h9,_,_,h10,_,_,h11,?_⟩;refine⟨fun h=>absurd h (by decide),fun _=>?_⟩;refine⟨fun h=>absurd h (by decide),fun _=>?_⟩;refine⟨fun h=>absurd h (by decide),fun _=>?_⟩;refine⟨fun h=>absurd h (by decide),fun _=>?_⟩;refine⟨fun h=>absurd h (by decide),fun _=>?_⟩;refine⟨_,_,_,⟨by decide,by decide,rfl⟩,?_⟩;refine⟨fun h=>absurd h (by decide),fun _=>?_⟩;refine⟨fun h=>absurd h (by decide),fun _=>?_⟩;refine⟨fun h=>absurd h (by decide),fun _=>?_⟩;refine⟨_,h12,fun h=>absurd h (by decide),fun _=>?_⟩;refine⟨_,h13,fun h=>absurd h (by decide),fun _=>?_⟩;refine⟨_,_,⟨rfl,rfl,rfl,rfl⟩,rfl,rfl,rfl,rfl,rfl,rfl,rfl,rfl,_,_,_,_,h14,_,_,_,_,c45,_,_,_,h15,_,_,_,_,c45,_,_,h16,?_⟩;refine⟨fun h=>absurd h (by decide),fun _=>?_⟩;refine⟨fun h=>absurd h (by decide),fun _=>?_⟩;refine⟨fun h=>absurd h (by decide),fun _=>?_⟩;refine⟨fun h=>absurd h (by decide),fun _=>?_⟩;refine⟨fun h=>absurd h (by decide),fun _=>?_⟩;refine⟨fun h=>absurd h (by decide),fun _=>?_⟩;refine⟨fun h=>absurd h (by decide),fun _=>?_⟩;refine⟨fun h=>absurd h (by decide),fun _=>?_⟩;refine⟨_,h17,fun h=>absurd h (by decide),fun _=>?_⟩;refine⟨fun h=>absurd h (by decide),fun _=>?_⟩;refine⟨fun h=>absurd h (by decide),fun _=>?_⟩;refine⟨fun m vs=>∃k:Nat,vs=[.int .i64 k]/\k<=4/\m=4-k,⟨_,0,rfl,by omega,rfl⟩,?_⟩;rintro m n ⟨k,hk,hle,rfl⟩;cases hk;refine⟨fun h=>?_,fun _=>⟨_,KB,rfl,rfl⟩⟩;have hk:k<4:=by have:=zt_ h;omega
 have nx:∃k':Nat,k'<4-k/\∃j:Nat,([.int .i64 (wrap i64 ((k:Int)+1))]:List AV)=[.int .i64 j]/\j<=4/\k'=4-j:=⟨_,(by omega:4-(k+1)<4-k),k+1,by rw[yx (by omega)],by omega,rfl⟩;match k,hk,nx with
 |0,_,nx=>exact⟨_,_,_,_,c45,_,_,b0,fun h=>absurd h (by decide),fun _=>⟨⟨by decide,by decide⟩,fun h=>absurd h (by decide),fun _=>⟨⟨by decide,by decide⟩,fun h=>absurd h (by decide),fun _=>⟨fun h=>absurd h (by decide),fun _=>⟨by trivial,by trivial,by trivial,nx⟩⟩,by trivial⟩,by trivial⟩⟩
 |1,_,nx=>exact⟨_,_,_,_,c45,_,_,b1,fun h=>absurd h (by decide),fun _=>⟨⟨by decide,by decide⟩,fun h=>absurd h (by decide),fun _=>⟨⟨by decide,by decide⟩,fun _=>⟨fun h=>absurd h (by decide),fun _=>⟨by trivial,by trivial,by trivial,nx⟩⟩,fun h=>absurd h (by decide),by trivial⟩,by trivial⟩⟩
 |2,_,nx=>exact⟨_,_,_,_,c45,_,_,b2,fun h=>absurd h (by decide),fun _=>⟨⟨by decide,by decide⟩,fun _=>⟨⟨by decide,by decide⟩,fun h=>absurd h (by decide),fun _=>⟨fun h=>absurd h (by decide),fun _=>⟨by trivial,by trivial,by trivial,nx⟩⟩,by trivial⟩,fun h=>absurd h (by decide),by trivial⟩⟩
 |3,_,nx=>exact⟨_,_,_,_,c45,_,_,b3,fun h=>absurd h (by decide),fun _=>⟨⟨by decide,by decide⟩,fun _=>⟨⟨by decide,by decide⟩,fun _=>⟨fun h=>absurd h (by decide),fun _=>⟨by trivial,by trivial,by trivial,nx⟩⟩,fun h=>absurd h (by decide),by trivial⟩,fun h=>absurd h (by decide),by trivial⟩⟩) hR hgl hro hargs
abbrev Ss:List (String × DataW Unit):=[("linkboy/round.never", Rows.laid_linkboy_round_never)]
theorem Jc:Tryz.prog.globalNamed "linkboy/round.never"=some 0:=by kernel_rfl
theorem Ft:(Tryz.prog.globals[0]?).map (·.type)=some 60:=by kernel_rfl
theorem L8 {l:List Value} {a b:Value} (h:l.length=2) (h0:(l.drop 0).take 1=[a]) (h1:(l.drop 1).take 1=[b]):l=[a,b]:=by
 match l,h,h0,h1 with
 |[x,y],_,h0,h1 =>
  have h0:[x]=[a]:=h0;have h1:[y]=[b]:=h1;rw[(List.cons.inj h0).1,(List.cons.inj h1).1]
theorem Nq {W:World} (h:laidMetH Tryz.prog Ss W):∃t,W.heap[0]? = some (.cells #[.int .i64 1,.int .i64 0] t (0,0)):=by
 rw[MakeChecks.laidMetH_plain _ _ _ (by kernel_rfl)] at h;obtain ⟨ps,⟨g0,t0,cs0,f0,p0,q0,hg0,ht0,hv0,hd0,_,hps⟩,_,hz⟩:=h;obtain rfl:=Option.some.inj (Jc.symm.trans hg0);obtain rfl:=Option.some.inj (Ft.symm.trans ht0);have hu:=Tryz.underlying60;have hi:Tryz.prog.underlying 3=some (.int .i64):=by kernel_rfl
 have c1:Tryz.prog.cellsOf 3=1:=by kernel_rfl
 have c2:Tryz.prog.cellsOf 60=2:=by kernel_rfl
 obtain ⟨xs,n,rfl,hx,hl,hn,hel⟩:=DataW.trod_struct hu hd0;have e0:DataW.trod (fun _=>()) Tryz.prog W 0 (fun _=>true) false n 3 ((cs0.toList.drop 0).take (Tryz.prog.cellsOf 3))=xs[0]?:=hel 0 _ rfl;have e1:DataW.trod (fun _=>()) Tryz.prog W 0 (fun _=>true) false n 3 ((cs0.toList.drop 1).take (Tryz.prog.cellsOf 3))=xs[1]?:=hel 1 _ rfl;have hxs:xs.map (·.1)=[.lit (.int .i64 1),.lit (.int .i64 0)]:=by
  have:=(Prod.mk.inj hx).1;exact(DataW.agg.inj this).symm
 match xs,hn,hxs,e0,e1 with
 |[x0,x1],_,hxs,e0,e1 =>
  obtain ⟨k0,s0,t0,_⟩:=DataW.trod_int (x:=x0) hi e0;obtain ⟨k1,s1,t1,_⟩:=DataW.trod_int (x:=x1) hi e1;subst t0;subst t1;simp only[List.map_cons,List.map_nil,List.cons.injEq,DataW.lit.injEq,Lit.int.injEq,true_and,and_true] at hxs;obtain ⟨rfl,rfl⟩:=hxs;rw[c1] at s0 s1;rw[c2] at hl;have hc:cs0=#[Value.int .i64 1,Value.int .i64 0]:=by
   have:=L8 hl s0 s1;exact Array.toList_inj.1 this
  subst hc;obtain ⟨⟨c,t,hb⟩,_⟩:=hz 0 0 (by rw[hps];exact List.mem_append_left _ (List.mem_append_left _ (by simp[MemPlace.row])));have hv:=hv0;unfold World.var? at hv;rw[Jc,Option.bind_some,hb] at hv;have hv:=Option.some.inj hv;subst hv;exact⟨t,hb⟩
theorem PL {W:World} (h:laidMetH Tryz.prog Ss W):Calls Tryz.prog 15 #[] W fun e W'=>e=.returned (.bool true)/\Below W.heap.size W W':=by
 obtain ⟨t,hb⟩:=Nq h;let ρ:RO:=fun k=>if k=0 then W.heap[k]? else none
 have h0:ρ 0=some (.cells #[.int .i64 1,.int .i64 0] t (0,0)):=by simp only[ρ,if_true];exact hb
 refine(LB (ρ:=ρ) (E:=fun _=>(0,0)) (W:=W) (vs:=#[]) ?_ ?_ ?_ ⟨rfl,fun j=>.undef ..⟩).mono ?_
 ·intro b off x hc;unfold RO.cell at hc;by_cases hb0:b=0
  ·subst hb0;rw[h0] at hc;match off with
   |0=>simp at hc
   |1=>simp at hc
   |o+2=>simp at hc
  ·simp only[ρ,if_neg hb0] at hc;cases hc
 ·intro g cs hg;unfold UN at hg;split at hg
  case isFalse=>cases hg
  rename_i hg0;subst hg0;cases hg;refine⟨fun j=>if j=0 then .int .i64 1 else .int .i64 0,fun j hj=>?_,fun j=>?_⟩
  ·unfold RO.cell;rw[h0];match j,hj with
   |0,_=>simp
   |1,_=>simp
  ·match j with
   |0=>exact .int _ _ _
   |1=>exact .int _ _ _
   |j+2=>exact .undef _ _
 ·intro k o hk;by_cases hk0:k=0
  ·simp only[ρ,if_pos hk0] at hk;exact hk
  ·simp only[ρ,if_neg hk0] at hk;cases hk
 ·rintro e W' ⟨⟨cv,ρ',rfl,_,_,_,hcv,_⟩,_,hfr,hsz,hos,htp,hout⟩;refine⟨?_,hos,htp,hout,hsz,fun k hk=>hfr k hk (fun b hb=>absurd hb (by simp))⟩;cases hcv;rfl
noncomputable def Su (os:Os):World :=
 let w0:=World.holding Tryz.prog os ⟨#[],#[],[]⟩
 {w0 with heap:=w0.heap.modify 0 fun
   |.cells _ t frozen=>.cells #[.int .i64 1,.int .i64 0] t frozen
   |o=>o }
theorem TF (os:Os) (args:Array Value):laidMetH Tryz.prog Ss ((Su os).forCall (fun _ _=>0) ⟨#[],args,[]⟩).memory:=by
 rw[MakeChecks.laidMetH_plain _ _ _ (by kernel_rfl)];exact laidMet_of_run' 8 (by kernel_rfl) (by kernel_rfl)
end Go.Proofs.YtdeeekgohhkdbaaGreatDoor
