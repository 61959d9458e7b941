/- Contracts: the program's search of the best programme. -/
import Derived.Test.YtdeeekgohhkdbaaGreatDoorMa
namespace Go.Proofs.YtdeeekgohhkdbaaGreatDoor
open Go.IntKind (wrap i64 u64)
open Go.RowKit
/- cells -/
def naN:List TRoAsset->Nat->List Int->List Int->List Int
 |[],_,na,_=>na
 |x::r,k,na,left=>chL x.Cost left (fun i na=>naN r (k+1) (na.set k (i:Int)) (left.set i (left.getD i 0-x.Cost))) left.length 0 (naN r (k+1) (na.set k (-1)) left)
theorem IM {α:Type} {cost:Int} {left:List Int} {g:Nat->α->α} (Q:α->Prop) (hg:∀i st,i<left.length->Q st->Q (g i st)):∀(n i:Nat) (st:α),n+i=left.length->Q st->Q (chL cost left g n i st):=by
 intro n;induction n with
 |zero=>intro i st _ h;exact h
 |succ n ih =>
  intro i st hn h;simp only[chL];refine ih (i+1) _ (by omega) ?_;split
  ·exact h
  ·exact hg i st (by omega) h
theorem Ya:∀(xs:List TRoAsset) (k:Nat) (na left:List Int),(naN xs k na left).length=na.length/\(naN xs k na left).take k=na.take k:=by
 intro xs;induction xs with
 |nil=>intro k na left;exact⟨rfl,rfl⟩
 |cons x r ih =>
  intro k na left;have step:∀(v:Int) (l na':List Int),na'.length=na.length/\na'.take k=na.take k->(naN r (k+1) (na'.set k v) l).length=na.length/\(naN r (k+1) (na'.set k v) l).take k=na.take k:=by
   intro v l na' ⟨h1,h2⟩;obtain ⟨h3,h4⟩:=ih (k+1) (na'.set k v) l;refine⟨by rw[h3,List.length_set,h1],?_⟩;have:∀l:List Int,l.take k=(l.take (k+1)).take k:=fun l=>by rw[List.take_take,Nat.min_eq_left (by omega)]
   rw[this,h4,<- this,List.take_set_of_le (by omega),h2]
  simp only[naN];exact IM (fun na':List Int=>na'.length=na.length/\na'.take k=na.take k) (fun i st _ h=>step _ _ _ h) _ _ _ (by omega) (step _ _ _ ⟨rfl,rfl⟩)
theorem Ik {l:List Int} {i:Nat} (h:i<l.length):l.set i (l.getD i 0)=l:=by
 rw[List.getD,List.getElem?_eq_getElem h,Option.getD_some,List.set_getElem_self]
theorem Yg {zs:List Int} {i:Nat} {v:Int} (h:i<zs.length):setCells (zs.map (AV.int .i64)) i [.int .i64 v]=(zs.set i v).map (AV.int .i64):=by
 unfold setCells;rw[List.set_eq_take_append_cons_drop,if_pos h,List.map_append,List.map_cons,List.map_take,List.map_drop];rfl
theorem wa (zs:List Int):AV.za (zs.map (AV.int .i64))=zs.map (AV.int .i64):=by
 induction zs with
 |nil=>rfl
 |cons z r ih=>simp only[List.map_cons,AV.za,ih];rfl
theorem DV (cs:List AV) (i:Nat):qT Tryz.prog 3 cs i=cs[i]?:=by
 unfold qT;rw[show Tryz.prog.underlying 3=some (.int .i64) by kernel_rfl]
theorem Wa {zs:List Int} {i:Nat} (h:i<zs.length):Option.map AV.norm (qT Tryz.prog 3 (zs.map (AV.int .i64)) (0+((i:Nat):Int).toNat*1))=some (.int .i64 (zs.getD i 0)):=by
 rw[DV,Int.toNat_natCast,Nat.mul_one,Nat.zero_add,List.getElem?_map,List.getElem?_eq_getElem h];simp[List.getD,h,AV.norm]
def G49 (s:List Int) (_S:SpecF) (_Fr:FreshF) (_Sq:SeqF) (Q:List AV->Prop):Prop :=
 ∀(b0:Bool),(List.map (AV.int i64) s≠[]->b0=!true)->(b0=true->Q [])/\(b0=false->yA (1:Nat) (List.map (AV.int i64) s)/\((([]:List AV)=[]\/(0:Nat)<(List.map (AV.int i64) s).length)/\((0:Nat)+(List.map (AV.int i64) s).length+(512:Nat))*41<=(1125899906842624:Nat)/\yA (1:Nat) []/\yw (List.flatMap AV.cells (List.map (AV.int i64) s))=true/\yw []=true)/\(([]++List.flatMap AV.cells (List.map (AV.int i64) s)).length=((0:Nat)+(List.map (AV.int i64) s).length)*1/\(yp Tryz.prog (3:Nat)=false->(1:Nat)=(1:Nat)/\yw ([]++List.flatMap AV.cells (List.map (AV.int i64) s))=true))/\Q (chunks (1:Nat) (yp Tryz.prog (3:Nat)) ((0:Nat)+(List.map (AV.int i64) s).length) ([]++List.flatMap AV.cells (List.map (AV.int i64) s))))
theorem g49 (s:List Int) (S:SpecF) (Fr:FreshF) (Sq:SeqF) (Q:List AV->Prop):ID Tryz.prog (mkS Tryz.prog S Fr Sq ⟨[],[],[],[],[]⟩ 0) ⟨[0,2,4],[],[],[]⟩ Tryz.f49 [.slc 3 (List.map (AV.int .i64) s)] 1 Q=G49 s S Fr Sq Q:=by kernel_rfl
theorem zbO (s:List Int) (es:List AV) (h:G49 s Sp Fo So (fun r=>r=es)):qG Tryz.prog 49 [.slc 3 (List.map (AV.int .i64) s)] 1 es :=
 K9 mixed (by exact trivial) Tryz.func49 Tryz.call49 (Nat.le_of_ble_eq_true rfl) (g49 s Sp Fo So _) h
theorem TU (s:List Int) (hl:s.length<=1000000):qG Tryz.prog 49 [.slc 3 (s.map (AV.int .i64))] 1 (s.map (AV.int .i64)):=zbO s _ (by
 unfold G49;intro b hb;have hlen:(s.map (AV.int .i64)).length=s.length:=List.length_map ..;refine⟨fun h=>?_,fun h=>?_⟩
 ·have:s.map (AV.int .i64)=[]:=Classical.byContradiction fun hc=>by have:=hb hc;rw[h] at this;cases this
  rw[this]
 ·have hf:List.flatMap AV.cells (s.map (AV.int .i64))=s.map (AV.int .i64):=kT yL;have ho:yw (s.map (AV.int .i64))=true:=jC s;have hc:chunks 1 false (s.map (AV.int .i64)).length (s.map (AV.int .i64))=s.map (AV.int .i64):=by
   have:=xj (XY (yL (l:=s)));rw[kT yL] at this;exact this
  rw[S1,List.nil_append,hf,Nat.zero_add];exact⟨QB yL,⟨.inl rfl,by omega,fun v hv=>(nomatch hv),ho,rfl⟩,⟨by omega,fun _=>⟨rfl,ho⟩⟩,hc⟩)
def chB (p:TRoProgramme) (k n:Nat) (na la:List Int) (st:ChK):List (List AV) :=
 [[.aslc 1 0 k 1 false],na.map (AV.int .i64),p.cs,[.int .i64 st.1],[.slc 3 (st.2.map (AV.int .i64))],[.fn 85 [] [.ref 0 0,.ref 2 0,.ref 3 0,.ref 4 0,.ref 5 0,.ref 6 0]],[.aslc 7 0 n 1 false],la.map (AV.int .i64)]
def R85 (k n:Nat) (na la per:List Int) (p:TRoProgramme) (sum so:Int) (S:SpecF) (Fr:FreshF) (_Sq:SeqF) (Q:ym):Prop :=
 (((↑k:Int) == (↑(List.map TRoAsset.av p.Assets).length:Int))=true->(decide (so>sum)=true->∃zs4 ws5,(k<=(List.map (AV.int i64) na).length/\yw (List.map (AV.int i64) na)=true/\List.take k (List.map (AV.int i64) na)=List.map (AV.int i64) zs4/\Fr (49:Nat) [AV.slc 3 (List.map (AV.int i64) zs4)] (1:Nat) (List.map (AV.int i64) ws5))/\(List.map (AV.int i64) na).all qu=true/\(List.map (AV.int i64) la).all qu=true/\((0:Nat)+k*1<=(List.map (AV.int i64) na).length/\yw (List.map (AV.int i64) na)=true)/\((0:Nat)+ws5.length*1<=(List.map (AV.int i64) ws5).length/\yw (List.map (AV.int i64) ws5)=true)/\((0:Nat)+n*1<=(List.map (AV.int i64) la).length/\yw (List.map (AV.int i64) la)=true)/\Q (.tup []) [[AV.aslc (1:Nat) (0:Nat) k (1:Nat) false],List.map (AV.int i64) na,p.cs,[iN so],[AV.slc 3 (chunks (1:Nat) (yp Tryz.prog (3:Nat)) ws5.length (List.drop (0:Nat) (List.map (AV.int i64) ws5)))],[AV.fn (85:FuncId) [] [AV.ref 0 0,.ref 2 0,.ref 3 0,.ref 4 0,.ref 5 0,.ref 6 0]],[AV.aslc (7:Nat) (0:Nat) n (1:Nat) false],List.map (AV.int i64) la])/\(decide (so>sum)=false->(List.map (AV.int i64) na).all qu=true/\(List.map (AV.int i64) la).all qu=true/\((0:Nat)+k*1<=(List.map (AV.int i64) na).length/\yw (List.map (AV.int i64) na)=true)/\((0:Nat)+n*1<=(List.map (AV.int i64) la).length/\yw (List.map (AV.int i64) la)=true)/\Q (.tup []) [[AV.aslc (1:Nat) (0:Nat) k (1:Nat) false],List.map (AV.int i64) na,p.cs,[iN sum],[AV.slc 3 (List.map (AV.int i64) per)],[AV.fn (85:FuncId) [] [AV.ref 0 0,.ref 2 0,.ref 3 0,.ref 4 0,.ref 5 0,.ref 6 0]],[AV.aslc (7:Nat) (0:Nat) n (1:Nat) false],List.map (AV.int i64) la]))/\(((↑k:Int) == (↑(List.map TRoAsset.av p.Assets).length:Int))=false->∃s2 n3 n4 n5 n6,((0:Int)<=(↑k:Int)/\(5:Nat)=(5:Nat)/\(List.map TRoAsset.av p.Assets)[(↑k:Int).toNat]? = some (.agg [AV.str s2,iN n3,iN n4,iN n5,iN n6]))/\yA (1:Nat) [iN (-1:Int)]/\((0:Nat)<(1:Nat)/\(0:Nat)+(k+1)*1<=(List.map (AV.int i64) na).length/\yw [iN (-1:Int)]=true)/\(setCells (List.map (AV.int i64) na) ((0:Nat)+k*1) [iN (-1:Int)]).all qu=true/\(List.map (AV.int i64) la).all qu=true/\∃zs12 n13 es14 zs15,S 85 [iN so,.ref 0 0,.ref 2 0,.ref 3 0,.ref 4 0,.ref 5 0,.ref 6 0] [[AV.aslc (1:Nat) (0:Nat) (k+1) (1:Nat) false],setCells (List.map (AV.int i64) na) ((0:Nat)+k*1) [iN (-1:Int)],p.cs,[iN sum],[AV.slc 3 (List.map (AV.int i64) per)],[AV.fn (85:FuncId) [] [AV.ref 0 0,.ref 2 0,.ref 3 0,.ref 4 0,.ref 5 0,.ref 6 0]],[AV.aslc (7:Nat) (0:Nat) n (1:Nat) false],List.map (AV.int i64) la] (.tup []) [[AV.aslc (1:Nat) (0:Nat) (k+1) (1:Nat) false],List.map (AV.int i64) zs12,p.cs,[iN n13],[AV.slc 3 es14],[AV.fn (85:FuncId) [] [AV.ref 0 0,.ref 2 0,.ref 3 0,.ref 4 0,.ref 5 0,.ref 6 0]],[AV.aslc (7:Nat) (0:Nat) n (1:Nat) false],List.map (AV.int i64) zs15]/\(List.map (AV.int i64) zs12).all qu=true/\(List.map (AV.int i64) zs15).all qu=true/\∃(I19:Nat->List AV->Prop),(∃m21,I19 m21 [iN 0,.agg [iN n13],.agg [AV.slc 3 es14],.agg (AV.za (List.map (AV.int i64) zs12)),.agg (AV.za (List.map (AV.int i64) zs15))])/\∀(m21:Nat) (n22 n23:Int) (es24 cs25 cs26:List AV),I19 m21 [iN n22,.agg [iN n23],.agg [AV.slc 3 es24],.agg cs25,.agg cs26]->(decide (n22<(↑n:Int))=true->((0:Int)<=n22/\n22<(↑n:Int)/\(1:Nat)=(1:Nat))/\∃n31,Option.map AV.norm (qT Tryz.prog (3:Nat) cs26 ((0:Nat)+n22.toNat*1))=some (iN n31)/\(decide (n31<n3)=true->yn [AV.aslc (1:Nat) (0:Nat) (k+1) (1:Nat) false]/\p.cs=p.cs/\yn [AV.fn (85:FuncId) [] [AV.ref 0 0,.ref 2 0,.ref 3 0,.ref 4 0,.ref 5 0,.ref 6 0]]/\yn [AV.aslc (7:Nat) (0:Nat) n (1:Nat) false]/\yn [AV.str s2,iN n3,iN n4,iN n5,iN n6]/\∃k40,k40<m21/\I19 k40 [iN (wrap i64 (n22+1)),.agg [iN n23],.agg [AV.slc 3 es24],.agg (AV.za cs25),.agg (AV.za cs26)])/\(decide (n31<n3)=false->((0:Int)<=n22/\n22<(↑n:Int)/\(1:Nat)=(1:Nat))/\∃n36,Option.map AV.norm (qT Tryz.prog (3:Nat) cs26 ((0:Nat)+n22.toNat*1))=some (iN n36)/\((0:Int)<=n22/\n22<(↑n:Int)/\(1:Nat)=(1:Nat))/\(0:Nat)+n22.toNat*1+(1:Nat)<=cs26.length/\((0:Int)<=(↑k:Int)/\(↑k:Int)<(↑(k+1):Int)/\(1:Nat)=(1:Nat))/\(0:Nat)+(↑k:Int).toNat*(1:Nat)+(1:Nat)<=cs25.length/\∃n42,S 80 [p.av,.agg [AV.str s2,iN n3,iN n4,iN n5,iN n6],iN n22] [] (iN n42) []/\(setCells cs25 ((0:Nat)+(↑k:Int).toNat*(1:Nat)) [iN n22]).all qu=true/\(setCells cs26 ((0:Nat)+n22.toNat*1) [iN (wrap i64 (n36-n3))]).all qu=true/\∃zs46 n47 es48 zs49,S 85 [iN (wrap i64 (so+n42)),.ref 0 0,.ref 2 0,.ref 3 0,.ref 4 0,.ref 5 0,.ref 6 0] [[AV.aslc (1:Nat) (0:Nat) (k+1) (1:Nat) false],setCells cs25 ((0:Nat)+(↑k:Int).toNat*(1:Nat)) [iN n22],p.cs,[iN n23],[AV.slc 3 es24],[AV.fn (85:FuncId) [] [AV.ref 0 0,.ref 2 0,.ref 3 0,.ref 4 0,.ref 5 0,.ref 6 0]],[AV.aslc (7:Nat) (0:Nat) n (1:Nat) false],setCells cs26 ((0:Nat)+n22.toNat*1) [iN (wrap i64 (n36-n3))]] (.tup []) [[AV.aslc (1:Nat) (0:Nat) (k+1) (1:Nat) false],List.map (AV.int i64) zs46,p.cs,[iN n47],[AV.slc 3 es48],[AV.fn (85:FuncId) [] [AV.ref 0 0,.ref 2 0,.ref 3 0,.ref 4 0,.ref 5 0,.ref 6 0]],[AV.aslc (7:Nat) (0:Nat) n (1:Nat) false],List.map (AV.int i64) zs49]/\(List.map (AV.int i64) zs46).all qu=true/\(List.map (AV.int i64) zs49).all qu=true/\((0:Int)<=n22/\n22<(↑n:Int)/\(1:Nat)=(1:Nat))/\∃n54,Option.map AV.norm (qT Tryz.prog (3:Nat) (List.map (AV.int i64) zs49) ((0:Nat)+n22.toNat*1))=some (iN n54)/\((0:Int)<=n22/\n22<(↑n:Int)/\(1:Nat)=(1:Nat))/\(0:Nat)+n22.toNat*1+(1:Nat)<=(List.map (AV.int i64) zs49).length/\yn [AV.aslc (1:Nat) (0:Nat) (k+1) (1:Nat) false]/\p.cs=p.cs/\yn [AV.fn (85:FuncId) [] [AV.ref 0 0,.ref 2 0,.ref 3 0,.ref 4 0,.ref 5 0,.ref 6 0]]/\yn [AV.aslc (7:Nat) (0:Nat) n (1:Nat) false]/\yn [AV.str s2,iN n3,iN n4,iN n5,iN n6]/\∃k63,k63<m21/\I19 k63 [iN (wrap i64 (n22+1)),.agg [iN n47],.agg [AV.slc 3 es48],.agg (AV.za (List.map (AV.int i64) zs46)),.agg (AV.za (setCells (List.map (AV.int i64) zs49) ((0:Nat)+n22.toNat*1) [iN (wrap i64 (n54+n3))]))]))/\(decide (n22<(↑n:Int))=false->((0:Int)<=(0:Int)/\(0:Int)<=(↑k:Int)/\(↑k:Int)<=(↑(k+1):Int)/\(0:Int)<(↑(k+1):Int)/\(1:Nat)=(1:Nat))/\cs25.all qu=true/\cs26.all qu=true/\((0:Nat)+((↑k:Int).toNat-(0:Nat))*1<=cs25.length/\yw cs25=true)/\((0:Nat)+n*1<=cs26.length/\yw cs26=true)/\Q (.tup []) [[AV.aslc (1:Nat) (0:Nat) ((↑k:Int).toNat-(0:Nat)) (1:Nat) false],cs25,p.cs,[iN n23],[AV.slc 3 es24],[AV.fn (85:FuncId) [] [AV.ref 0 0,.ref 2 0,.ref 3 0,.ref 4 0,.ref 5 0,.ref 6 0]],[AV.aslc (7:Nat) (0:Nat) n (1:Nat) false],cs26]))
theorem s85 (k n:Nat) (na la per:List Int) (p:TRoProgramme) (sum so:Int) (v:AV) (O:List (List AV)) (h:R85 k n na la per p sum so Sp Fo So (fun r O'=>r=v/\O'=O)):Sp 85 [iN so,.ref 0 0,.ref 2 0,.ref 3 0,.ref 4 0,.ref 5 0,.ref 6 0] [[.aslc 1 0 k 1 false],na.map (.int .i64),p.cs,[iN sum],[.slc 3 (per.map (.int .i64))],[.fn 85 [] [.ref 0 0,.ref 2 0,.ref 3 0,.ref 4 0,.ref 5 0,.ref 6 0]],[.aslc 7 0 n 1 false],la.map (.int .i64)] v O :=
 Im (w:=⟨[49],[],[993000085,992000049,1000085,3000085,6000085,7000085,997000000],[],[31]⟩) (k:=0) (keep:=⟨[0,1,2,3,4,5,6,8,9,10,17,20,36,37,38,46],[⟨8,[(37,iN 0)],[],[(1000003,.agg [iN 0]),(1000004,.agg [.slc 3 []]),(1000001,.tup []),(1000007,.tup [])],[],[],[]⟩],[],[]⟩) (boxes:=[⟨41,false,[.aslc 1 0 k 1 false]⟩,⟨3,true,na.map (.int .i64)⟩,⟨66,false,p.cs⟩,⟨3,false,[iN sum]⟩,⟨41,false,[.slc 3 (per.map (.int .i64))]⟩,⟨159,false,[.fn 85 [] [.ref 0 0,.ref 2 0,.ref 3 0,.ref 4 0,.ref 5 0,.ref 6 0]]⟩,⟨41,false,[.aslc 7 0 n 1 false]⟩,⟨3,true,la.map (.int .i64)⟩]) mixed (by exact trivial) Tryz.func85 Tryz.call85 rfl rfl (.var _ _ _ (.arr _ _ _ (.var _ _ _ (.var _ _ _ (.var _ _ _ (.var _ _ _ (.var _ _ _ (.arr _ _ _ .nil)))))))) (Nat.le_of_ble_eq_true rfl) (by kernel_rfl) h
structure SW (p:TRoProgramme) (now left na:List Int) (so:Int):Prop where
 al:na.length=p.Assets.length
 nw:na.take now.length=now
 ll:left.length=p.Budgets.length
 lb:∀i,i<left.length->0<=left.getD i 0/\left.getD i 0<=10000000
 so:0<=so/\so<=now.length*5760000000
theorem GC {p:TRoProgramme} (hv:QU p) {x:TRoAsset} (hx:x∈p.Assets) {i:Nat} (hi:i<p.Budgets.length):0<=YF p x i/\YF p x i<=5760000000:=by
 obtain ⟨e1,-,-,-,-,e6,-⟩:=GD hv hx (k:=(i:Int)) (by omega) (by omega);rw[e1];unfold GB;generalize kU p i*jb p x i*(x.Rate*x.Harm)=z at e6;rw[Int.tdiv_eq_ediv_of_nonneg e6.1];omega
theorem Hw {p:TRoProgramme} (hv:QU p):∀(xs pre:List TRoAsset) (now left na:List Int) (so:Int) (st:ChK),p.Assets=pre++xs->pre.length=now.length->SW p now left na so ->
  Sp 85 [.int .i64 so,.ref 0 0,.ref 2 0,.ref 3 0,.ref 4 0,.ref 5 0,.ref 6 0] (chB p now.length left.length na left st) (.tup []) (chB p now.length left.length (naN xs now.length na left) left (chN p xs now left so st)):=by
 intro xs;induction xs with
 |nil =>
  intro pre now left na so st hp hl h;have hk:now.length=p.Assets.length:=by rw[hp,List.append_nil,hl]
  obtain ⟨h1,h2,h3,h4,h5⟩:=h;have hal:=hv.al;refine s85 now.length left.length na left st.2 p st.1 so _ _ ?_;unfold R85;have o1:∀l:List Int,yw (l.map (AV.int .i64))=true:=jC;simp only[yX,o1,List.length_map,List.drop_zero,Nat.zero_add,Nat.mul_one];refine⟨fun _=>⟨fun hs=>⟨now,now,⟨by omega,trivial,by rw[<- List.map_take,h2],TU now (by omega)⟩,trivial,trivial,⟨by omega,trivial⟩,⟨by omega,trivial⟩,⟨by omega,trivial⟩,trivial,?_⟩,fun hs=>⟨trivial,trivial,⟨by omega,trivial⟩,⟨by omega,trivial⟩,trivial,?_⟩⟩,fun hne=>?_⟩
  ·have hs:so>st.1:=zt_ hs;unfold chB chN naN;rw[if_pos hs,S1];have:chunks 1 false now.length (now.map (AV.int .i64))=now.map (AV.int .i64):=by
    have:=xj (XY (yL (l:=now)));rw[kT yL] at this;have e:(yo now).length=now.length:=List.length_map ..;rw[e] at this;exact this
   rw[this]
  ·have hs:¬ so>st.1:=zf_ hs;unfold chB chN naN;rw[if_neg hs]
  ·rw[hk] at hne;simp at hne
 |cons x r ih =>
  intro pre now left na so st hp hl h;obtain ⟨h1,h2,h3,h4,h5⟩:=h;have hal:=hv.al;have hbl:=hv.bl;have hkl:now.length<p.Assets.length:=by rw[hp,List.length_append,hl,List.length_cons];omega
  have hx:x∈p.Assets:=by rw[hp];simp
  have hxk:(p.Assets.map TRoAsset.av)[((now.length:Nat):Int).toNat]? = some x.av:=by
   rw[Int.toNat_natCast,List.getElem?_map,hp,<- hl,List.getElem?_append_right (Nat.le_refl _),Nat.sub_self];rfl
  have hp':p.Assets=(pre++[x])++r:=by rw[hp];simp
  have hl':∀q:Int,(pre++[x]).length=(now++[q]).length:=fun q=>by simp[hl]
  have hlen:∀q:Int,(now++[q]).length=now.length+1:=fun q=>by simp
  have hc:0<=x.Cost/\x.Cost<=1000000:=(hv.ass x hx).1;have o1:∀l:List Int,yw (l.map (AV.int .i64))=true:=jC;have hnow:∀(na':List Int) (q:Int),na'.length=p.Assets.length->na'.take now.length=now->(na'.set now.length q).take (now++[q]).length=now++[q]:=by
   intro na' q g1 g2;rw[hlen,List.take_add_one,List.take_set_of_le (by omega),g2,List.getElem?_set_self (by omega)];rfl
  have in0:SW p (now++[-1]) left (na.set now.length (-1)) so:=⟨by rw[List.length_set];exact h1,hnow na _ h1 h2,h3,h4,h5.1,by rw[hlen];push_cast;omega⟩;have e0:=ih (pre++[x]) (now++[-1]) left (na.set now.length (-1)) so st hp' (hl' _) in0;rw[hlen] at e0;refine s85 now.length left.length na left st.2 p st.1 so _ _ ?_;unfold R85;have s1:setCells (na.map (AV.int .i64)) (0+now.length*1) [.int .i64 (-1)]=(na.set now.length (-1)).map (AV.int .i64):=by rw[Nat.zero_add,Nat.mul_one,Yg (by omega)]
  rw[s1];refine⟨fun he=>?_,fun _=>⟨x.Name,x.Cost,x.Rate,x.Harm,x.Last,⟨by omega,rfl,hxk⟩,fun v hv=>(by rw[List.mem_singleton.1 hv];rfl),⟨by omega,by rw[List.length_map];omega,rfl⟩,yX _,yX _,_,_,_,_,e0,yX _,yX _,?_⟩⟩
  ·have he:(now.length:Int)=((p.Assets.map TRoAsset.av).length:Int):=by simpa using he
   rw[List.length_map] at he;omega
  rw[wa,wa];refine⟨fun m vs=>∃(i:Nat) (st':ChK) (na':List Int),vs=[.int .i64 i,.agg [.int .i64 st'.1],.agg [.slc 3 (st'.2.map (AV.int .i64))],.agg (na'.map (AV.int .i64)),.agg (left.map (AV.int .i64))]/\i<=left.length/\m=left.length-i /\
    na'.length=p.Assets.length/\na'.take now.length=now /\
    chL x.Cost left (fun i=>chN p r (now++[(i:Int)]) (left.set i (left.getD i 0-x.Cost)) (so+YF p x i)) (left.length-i) i st'=chN p (x::r) now left so st /\
    chL x.Cost left (fun i na=>naN r (now.length+1) (na.set now.length (i:Int)) (left.set i (left.getD i 0-x.Cost))) (left.length-i) i na'=naN (x::r) now.length na left,⟨_,0,_,_,rfl,by omega,rfl,?_,?_,rfl,rfl⟩,?_⟩
  ·rw[(Ya _ _ _ _).1,List.length_set];exact h1
  ·have hk:=(Ya r (now.length+1) (na.set now.length (-1)) left).2;have:∀l:List Int,l.take now.length=(l.take (now.length+1)).take now.length:=fun l=>by rw[List.take_take,Nat.min_eq_left (by omega)]
   rw[this,hk,<- this,List.take_set_of_le (by omega),h2]
  rintro m n22 n23 es24 cs25 cs26 ⟨i,st',na',hvs,hil,rfl,g1,g2,g3,g4⟩;cases hvs;refine⟨fun hi=>?_,fun hi=>?_⟩
  ·have hi:i<left.length:=by have:=zt_ hi;omega
   have hb:=h4 i hi;have hstep:left.length-i=(left.length-(i+1))+1:=by omega
   rw[hstep] at g3 g4;simp only[chL] at g3 g4;refine⟨⟨by omega,by omega,rfl⟩,_,Wa hi,fun hlt=>?_,fun hlt=>?_⟩
   ·have hlt:left.getD i 0<x.Cost:=zt_ hlt;rw[if_pos hlt] at g3 g4;refine⟨rfl,rfl,rfl,rfl,rfl,_,(by omega:left.length-(i+1)<left.length-i),i+1,st',na',?_,by omega,rfl,g1,g2,g3,g4⟩;rw[wa,wa,yx (by omega)]
   ·have hlt:¬ left.getD i 0<x.Cost:=zf_ hlt;rw[if_neg hlt] at g3 g4;have hbn:=GC hv hx (i:=i) (by omega);have w1:IntKind.i64.wrap (left.getD i 0-x.Cost)=left.getD i 0-x.Cost:=zw6 (by omega);have w2:IntKind.i64.wrap (so+YF p x i)=so+YF p x i:=zw6 (by omega);have s2:setCells (na'.map (AV.int .i64)) (0+((now.length:Nat):Int).toNat*1) [.int .i64 (i:Int)]=(na'.set now.length (i:Int)).map (AV.int .i64):=by rw[Int.toNat_natCast,Nat.zero_add,Nat.mul_one,Yg (by omega)]
    have s3:∀v,setCells (left.map (AV.int .i64)) (0+((i:Nat):Int).toNat*1) [.int .i64 v]=(left.set i v).map (AV.int .i64):=fun v=>by rw[Int.toNat_natCast,Nat.zero_add,Nat.mul_one,Yg hi]
    have in1:SW p (now++[(i:Int)]) (left.set i (left.getD i 0-x.Cost)) (na'.set now.length (i:Int)) (so+YF p x i):=by
     refine⟨by rw[List.length_set];exact g1,hnow na' _ g1 g2,by rw[List.length_set];exact h3,fun j hj=>?_,by omega,by rw[hlen];push_cast;omega⟩;rw[List.length_set] at hj;rw[Xv _ _ _ _ hi];split
     ·omega
     ·exact h4 j hj
    have e1:=ih (pre++[x]) (now++[(i:Int)]) (left.set i (left.getD i 0-x.Cost)) (na'.set now.length (i:Int)) (so+YF p x i) st' hp' (hl' _) in1;rw[hlen,List.length_set] at e1;have hsl:i<(left.set i (left.getD i 0-x.Cost)).length:=by rw[List.length_set];exact hi
    have q1:(left.set i (left.getD i 0-x.Cost)).getD i 0=left.getD i 0-x.Cost:=by rw[Xv _ _ _ _ hi,if_pos rfl]
    refine⟨⟨by omega,by omega,rfl⟩,_,Wa hi,⟨by omega,by omega,rfl⟩,by rw[List.length_map,Int.toNat_natCast];omega,⟨by omega,by omega,rfl⟩,by rw[List.length_map,Int.toNat_natCast];omega,_,c80 p x (i:Int),?_⟩;rw[w1,s2,s3];refine⟨yX _,yX _,_,_,_,_,(by rw[w2];exact e1),yX _,yX _,⟨by omega,by omega,rfl⟩,_,Wa hsl,⟨by omega,by omega,rfl⟩,by rw[List.length_map,Int.toNat_natCast];omega,rfl,rfl,rfl,rfl,rfl,_,(by omega:left.length-(i+1)<left.length-i),i+1,_,_,?_,by omega,rfl,?_,?_,g3,g4⟩
    ·have s4:setCells ((left.set i (left.getD i 0-x.Cost)).map (AV.int .i64)) (0+((i:Nat):Int).toNat*1) [.int .i64 (wrap i64 ((left.set i (left.getD i 0-x.Cost)).getD i 0+x.Cost))]=left.map (AV.int .i64):=by
      rw[q1,Int.sub_add_cancel,zw6 (by omega),Int.toNat_natCast,Nat.zero_add,Nat.mul_one,Yg hsl,List.set_set];rw[Ik hi]
     rw[s4,wa,wa,yx (by omega)]
    ·rw[(Ya _ _ _ _).1,List.length_set];exact g1
    ·have hk:=(Ya r (now.length+1) (na'.set now.length (i:Int)) (left.set i (left.getD i 0-x.Cost))).2;have:∀l:List Int,l.take now.length=(l.take (now.length+1)).take now.length:=fun l=>by rw[List.take_take,Nat.min_eq_left (by omega)]
     rw[this,hk,<- this,List.take_set_of_le (by omega),g2]
  ·have hi:i=left.length:=by have:=zf_ hi;omega
   subst hi;rw[Nat.sub_self] at g3 g4;simp only[chL] at g3 g4;subst g3;subst g4;refine⟨⟨by omega,by omega,by omega,by omega,rfl⟩,yX _,yX _,⟨by rw[List.length_map];omega,o1 _⟩,⟨by rw[List.length_map];omega,o1 _⟩,rfl,?_⟩;unfold chB;rw[Int.toNat_natCast,Nat.sub_zero]
end Go.Proofs.YtdeeekgohhkdbaaGreatDoor
namespace Go.Proofs.YtdeeekgohhkdbaaGreatDoor
open Go.IntKind (wrap i64 u64)
open Go.RowKit
def Xj (p:TRoProgramme):List Int × Int × Int:=if (vw p).2≠0 then ([],0,(vw p).2) else ((Mi p).2,(Mi p).1,0)
theorem J1 (n:Nat):(List.replicate n [AV.int .i64 0]).flatten=(List.replicate n (0:Int)).map (AV.int .i64):=by
 induction n with
 |zero=>rfl
 |succ n ih=>rw[List.replicate_succ,List.replicate_succ,List.flatten_cons,ih];rfl
def R30 (p:TRoProgramme) (S:SpecF) (Fr:FreshF) (_Sq:SeqF) (Q:ym):Prop :=
 ∃n0 n1,S 23 [p.av] [] (.tup [iN n0,iN n1]) []/\((n1 != 0)=true->Q (.tup [AV.slc 3 [],iN 0,iN n1]) [])/\((n1 != 0)=false->∃es5,Fr (49:Nat) [AV.slc 3 (List.map (AV.int i64) p.Budgets)] (1:Nat) es5/\((0:Int)<=(0:Int)/\(0:Int)<=(↑(List.map TRoAsset.av p.Assets).length:Int)/\((↑(List.map TRoAsset.av p.Assets).length:Int)+(1:Int))*9<=(281474976710656:Int))/\(List.replicate (↑(List.map TRoAsset.av p.Assets).length:Int).toNat [iN 0]).flatten.all qu=true/\(List.flatMap AV.cells es5).all qu=true/\∃zs10 n11 es12 zs13,S 85 [iN 0,.ref 0 0,.ref 2 0,.ref 3 0,.ref 4 0,.ref 5 0,.ref 6 0] [[AV.aslc (1:Nat) (0:Nat) (0:Nat) (1:Nat) (yp Tryz.prog (3:Nat))],(List.replicate (↑(List.map TRoAsset.av p.Assets).length:Int).toNat [iN 0]).flatten,p.cs,[iN (-1:Int)],[AV.slc 3 []],[AV.fn (85:Nat) [] [AV.ref 0 0,.ref 2 0,.ref 3 0,.ref 4 0,.ref 5 0,.ref 6 0]],[AV.aslc (7:Nat) (0:Nat) es5.length (1:Nat) (yp Tryz.prog (3:Nat))],List.flatMap AV.cells es5] (.tup []) [[AV.aslc (1:Nat) (0:Nat) (0:Nat) (1:Nat) (yp Tryz.prog (3:Nat))],List.map (AV.int i64) zs10,p.cs,[iN n11],[AV.slc 3 es12],[AV.fn (85:Nat) [] [AV.ref 0 0,.ref 2 0,.ref 3 0,.ref 4 0,.ref 5 0,.ref 6 0]],[AV.aslc (7:Nat) (0:Nat) es5.length (1:Nat) (yp Tryz.prog (3:Nat))],List.map (AV.int i64) zs13]/\(List.map (AV.int i64) zs10).all qu=true/\(List.map (AV.int i64) zs13).all qu=true/\Q (.tup [AV.slc 3 es12,iN n11,iN 0]) [])
theorem s30 (p:TRoProgramme) (v:AV) (O:List (List AV)) (h:R30 p Sp Fo So (fun r O'=>r=v/\O'=O)):Sp 30 [p.av] [] v O :=
 yj (w:=⟨[49],[],[993000085,1000085,3000085,6000085,7000085],[],[22]⟩) (k:=0) (keep:=⟨[0,1,2,3,4,5,6,7,14],[],[],[]⟩) (boxes:=[]) mixed (by exact trivial) Tryz.func30 Tryz.call30 rfl rfl rfl (Nat.le_of_ble_eq_true rfl) (by kernel_rfl) h
theorem c30 (p:TRoProgramme) (hp:Ub p):Sp 30 [p.av] [] (.tup [.slc 3 (yo (Xj p).1),.int .i64 (Xj p).2.1,.int .i64 (Xj p).2.2]) []:=s30 p _ _ (by
 unfold R30 Xj;refine⟨_,_,c23 p hp,fun h=>⟨by rw[if_pos (by simpa using h)];rfl,by trivial⟩,fun h=>?_⟩;rw[if_neg (by simpa using h)];have hv:=HE (p:=p) (by simpa using h);have hal:=hv.al;have hbl:=hv.bl;have hb:=Qr hv;have in0:SW p [] p.Budgets (List.replicate p.Assets.length 0) 0:=⟨List.length_replicate,rfl,rfl,fun i hi=>by
  have hm:p.Budgets.getD i 0∈p.Budgets:=by simp only[List.getD,List.getElem?_eq_getElem hi,Option.getD_some];exact List.getElem_mem hi
  exact hv.bud _ hm,by simp⟩
 have e0:=Hw hv p.Assets [] [] p.Budgets (List.replicate p.Assets.length 0) 0 (-1,[]) rfl rfl in0;have hf:List.flatMap AV.cells (p.Budgets.map (AV.int .i64))=p.Budgets.map (AV.int .i64):=kT yL;refine⟨p.Budgets.map (AV.int .i64),TU p.Budgets (by omega),⟨by omega,by omega,by rw[List.length_map];omega⟩,?_⟩;rw[hf,S1,List.length_map,List.length_map,Int.toNat_natCast,J1];exact⟨yX _,yX _,_,_,_,_,e0,yX _,yX _,rfl,by trivial⟩)
end Go.Proofs.YtdeeekgohhkdbaaGreatDoor
