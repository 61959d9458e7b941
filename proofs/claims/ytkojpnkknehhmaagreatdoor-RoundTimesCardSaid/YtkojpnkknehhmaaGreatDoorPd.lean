/- Contracts: the document's answers about programmes. -/
import Derived.Test.YtkojpnkknehhmaaGreatDoorPa
namespace Go.Proofs.YtkojpnkknehhmaaGreatDoor
open Go.IntKind (wrap i64 u64)
open Go.RowKit
theorem ID (n lo hi:Int):inB n lo hi=!yz n lo hi:=by
 rw[Bool.eq_iff_iff,NP,Bool.not_eq_true',zcD]
def R44 (n low high:Int) (Q:yc):Prop :=
 (decide (n>=low)=true->Q (.bool (decide (n<=high))) [])/\(decide (n>=low)=false->Q (.bool false) [])
theorem s44 (n low high:Int) (v O) (h:R44 n low high (fun r O'=>r=v/\O'=O)):Sp 44 [iN n,iN low,iN high] [] v O :=
 zS ⟨[0,1,2,6],[],[],[]⟩ Tryz.func44 Tryz.call44 rfl (by kernel_rfl) h
theorem c44 (n lo hi:Int):Sp 44 [.int .i64 n,.int .i64 lo,.int .i64 hi] [] (.bool (!yz n lo hi)) []:=s44 n lo hi _ _ (by
 unfold R44;rw[<- ID];refine⟨fun h=>⟨?_,rfl⟩,fun h=>⟨?_,rfl⟩⟩
 ·have h:=zt_ h;unfold inB;rw[decide_eq_true (show lo<=n from h),Bool.true_and]
 ·have h:=zf_ h;unfold inB;rw[decide_eq_false (show ¬ lo<=n from h),Bool.false_and])
theorem Qx {s:ByteArray} {k:Nat} (h:k<s.size):∃c:UInt8,s[((k:Nat):Int).toNat]? = some c/\(j8 s)[k]? = some (c.toNat:Int):=by
 refine⟨s[k],?_,?_⟩
 ·rw[Int.toNat_natCast];exact getElem?_pos s k h
 ·unfold j8;have hl:k<s.data.toList.length:=by simpa using h
  rw[List.getElem?_map,List.getElem?_eq_getElem hl];rfl
def R89 (s:ByteArray) (Q:yc):Prop :=
 (decide ((↑s.size:Int)<(1:Int))=true->Q (.bool false) [])/\(decide ((↑s.size:Int)<(1:Int))=false->(decide ((↑s.size:Int)>(24:Int))=true->Q (.bool false) [])/\(decide ((↑s.size:Int)>(24:Int))=false->∃c4,((0:Int)<=(0:Int)/\s[(0:Nat)]? = some c4)/\(decide ((↑c4.toNat:Int)<(97:Int))=true->Q (.bool false) [])/\(decide ((↑c4.toNat:Int)<(97:Int))=false->∃c8,((0:Int)<=(0:Int)/\s[(0:Nat)]? = some c8)/\(decide ((↑c8.toNat:Int)>(122:Int))=true->Q (.bool false) [])/\(decide ((↑c8.toNat:Int)>(122:Int))=false->∃(I12:Nat->List AV->Prop),(∃m14,I12 m14 [iN 0])/\∀(m14:Nat) (n15:Int),I12 m14 [iN n15]->(decide (n15<(↑s.size:Int))=true->∃c19,((0:Int)<=n15/\s[n15.toNat]? = some c19)/\(decide ((↑c19.toNat:Int)>=(97:Int))=true->∃c23,((0:Int)<=n15/\s[n15.toNat]? = some c23)/\(decide ((↑c23.toNat:Int)<=(122:Int))=true->∃k27,k27<m14/\I12 k27 [iN (wrap i64 (n15+1))])/\(decide ((↑c23.toNat:Int)<=(122:Int))=false->∃c27,((0:Int)<=n15/\s[n15.toNat]? = some c27)/\(decide ((↑c27.toNat:Int)>=(48:Int))=true->∃c31,((0:Int)<=n15/\s[n15.toNat]? = some c31)/\(decide ((↑c31.toNat:Int)<=(57:Int))=true->∃k35,k35<m14/\I12 k35 [iN (wrap i64 (n15+1))])/\(decide ((↑c31.toNat:Int)<=(57:Int))=false->∃c35,((0:Int)<=n15/\s[n15.toNat]? = some c35)/\((!(↑c35.toNat:Int) == (45:Int))=true->Q (.bool false) [])/\((!(↑c35.toNat:Int) == (45:Int))=false->∃k39,k39<m14/\I12 k39 [iN (wrap i64 (n15+1))])))/\(decide ((↑c27.toNat:Int)>=(48:Int))=false->∃c31,((0:Int)<=n15/\s[n15.toNat]? = some c31)/\((!(↑c31.toNat:Int) == (45:Int))=true->Q (.bool false) [])/\((!(↑c31.toNat:Int) == (45:Int))=false->∃k35,k35<m14/\I12 k35 [iN (wrap i64 (n15+1))]))))/\(decide ((↑c19.toNat:Int)>=(97:Int))=false->∃c23,((0:Int)<=n15/\s[n15.toNat]? = some c23)/\(decide ((↑c23.toNat:Int)>=(48:Int))=true->∃c27,((0:Int)<=n15/\s[n15.toNat]? = some c27)/\(decide ((↑c27.toNat:Int)<=(57:Int))=true->∃k31,k31<m14/\I12 k31 [iN (wrap i64 (n15+1))])/\(decide ((↑c27.toNat:Int)<=(57:Int))=false->∃c31,((0:Int)<=n15/\s[n15.toNat]? = some c31)/\((!(↑c31.toNat:Int) == (45:Int))=true->Q (.bool false) [])/\((!(↑c31.toNat:Int) == (45:Int))=false->∃k35,k35<m14/\I12 k35 [iN (wrap i64 (n15+1))])))/\(decide ((↑c23.toNat:Int)>=(48:Int))=false->∃c27,((0:Int)<=n15/\s[n15.toNat]? = some c27)/\((!(↑c27.toNat:Int) == (45:Int))=true->Q (.bool false) [])/\((!(↑c27.toNat:Int) == (45:Int))=false->∃k31,k31<m14/\I12 k31 [iN (wrap i64 (n15+1))]))))/\(decide (n15<(↑s.size:Int))=false->Q (.bool true) [])))))
theorem s89 (s:ByteArray) (v O) (h:R89 s (fun r O'=>r=v/\O'=O)):Sp 89 [.str s] [] v O :=
 zS ⟨[0,2,3,21,25,56],[⟨4,[(3,iN 0)],[],[],[],[],[]⟩],[],[]⟩ Tryz.func89 Tryz.call89 rfl (by kernel_rfl) h
theorem c89 (s:ByteArray) (hl:s.size<=9223372036854775807):Sp 89 [.str s] [] (.bool (jO s)) []:=s89 s _ _ (by
 unfold R89;have hlen:(j8 s).length=s.size:=Y2 s;refine⟨fun h=>⟨?_,rfl⟩,fun h=>⟨fun h1=>⟨?_,rfl⟩,fun h1=>?_⟩⟩
 ·have h:s.size=0:=by have:=zt_ h;omega
  have:j8 s=[]:=List.length_eq_zero_iff.1 (by omega);unfold jO;rw[this];rfl
 ·have h1:¬ s.size<=24:=by have:=zt_ h1;omega
  unfold jO;rw[decide_eq_false h1,Bool.and_false,Bool.false_and]
 ·have h:0<s.size:=by have:=zf_ h;omega
  have h1:s.size<=24:=by have:=zf_ h1;omega
  have hne:(j8 s).isEmpty=false:=by
   cases hb:j8 s with
   |nil=>rw[hb,List.length_nil] at hlen;omega
   |cons a r=>rfl
  have hN:jO s=okL 0 (j8 s):=by unfold jO;rw[hne,decide_eq_true h1];rfl
  rw[hN];obtain ⟨c,hc,hc'⟩:=Qx h;have hc:s[(0:Nat)]? = some c:=hc;have hat0:=OP hc';rw[List.drop_zero,if_pos rfl] at hat0;refine⟨c,⟨by omega,hc⟩,fun g=>⟨?_,rfl⟩,fun g=>⟨c,⟨by omega,hc⟩,fun g1=>⟨?_,rfl⟩,fun g1=>?_⟩⟩
  ·have g:=zt_ g;rw[hat0];unfold Tm inB;rw[decide_eq_false (show ¬ (97:Int)<=c.toNat by omega)];rfl
  ·have g1:=zt_ g1;rw[hat0];unfold Tm inB;rw[decide_eq_false (show ¬ (c.toNat:Int)<=122 by omega),Bool.and_false];rfl
  ·have g:=zf_ g;have g1:=zf_ g1;have hl0:Tm (c.toNat:Int)=true:=NP.2 ⟨by omega,by omega⟩;refine⟨fun m vs=>∃k:Nat,vs=[.int .i64 k]/\k<=s.size/\m=s.size-k/\okL k ((j8 s).drop k)=okL 0 (j8 s),⟨_,0,rfl,by omega,rfl,rfl⟩,?_⟩;rintro m n ⟨k,hk,hle,rfl,hn⟩;cases hk;refine⟨fun h3=>?_,fun h3=>⟨?_,rfl⟩⟩
   ·have h3:k<s.size:=by have:=zt_ h3;omega
    obtain ⟨x,hx,hx'⟩:=Qx h3;have hat:=OP hx';rw[hn] at hat;have htl:(if k=0 then Tm (x.toNat:Int) else vY x.toNat)=vY x.toNat:=by
     by_cases hk0:k=0
     ·subst hk0;rw[hc'] at hx';have e:(x.toNat:Int)=c.toNat:=(Option.some.inj hx').symm;rw[if_pos rfl,e];unfold vY;rw[hl0];rfl
     ·rw[if_neg hk0]
    rw[htl] at hat;have next:vY x.toNat=true->∃k',k'<s.size-k/\∃j:Nat,[AV.int .i64 (wrap i64 ((k:Int)+1))]=[.int .i64 j]/\j<=s.size/\k'=s.size-j/\okL j ((j8 s).drop j)=okL 0 (j8 s):=fun ht =>
     ⟨_,(by omega:s.size-(k+1)<s.size-k),k+1,by rw[yr (by omega)],by omega,rfl,by rw[hat,ht];rfl⟩
    have bad:vY x.toNat=false->AV.bool false=.bool (okL 0 (j8 s)):=fun ht=>by rw[hat,ht];rfl
    have ht:vY (x.toNat:Int)=((decide ((97:Int)<=x.toNat) && decide ((x.toNat:Int)<=122)) || (decide ((48:Int)<=x.toNat) && decide ((x.toNat:Int)<=57)) || ((x.toNat:Int) == 45)):=rfl;have look:(0:Int)<=(k:Int)/\s[((k:Nat):Int).toNat]? = some x:=⟨by omega,hx⟩;generalize hT:vY (x.toNat:Int)=T at *;refine⟨x,look,fun a1=>⟨x,look,fun a2=>next ?_,fun a2=>⟨x,look,fun a3=>⟨x,look,fun a4=>next ?_,fun a4=>⟨x,look,fun a5=>⟨bad ?_,rfl⟩,fun a5=>next ?_⟩⟩,fun a3=>⟨x,look,fun a5=>⟨bad ?_,rfl⟩,fun a5=>next ?_⟩⟩⟩,fun a1=>⟨x,look,fun a3=>⟨x,look,fun a4=>next ?_,fun a4=>⟨x,look,fun a5=>⟨bad ?_,rfl⟩,fun a5=>next ?_⟩⟩,fun a3=>⟨x,look,fun a5=>⟨bad ?_,rfl⟩,fun a5=>next ?_⟩⟩⟩;all_goals
     simp only[ge_iff_le,decide_eq_true_eq,decide_eq_false_iff_not,Bool.not_eq_true',Bool.not_eq_false',beq_iff_eq,beq_eq_false_iff_ne,ne_eq] at *;rw[ht];simp only[Bool.or_eq_true,Bool.or_eq_false_iff,Bool.and_eq_true,Bool.and_eq_false_iff,decide_eq_true_eq,decide_eq_false_iff_not,beq_iff_eq,beq_eq_false_iff_ne,ne_eq];omega
   ·have:k=s.size:=by have:=zf_ h3;omega
    rw[<- hn,this,<- hlen,List.drop_length];rfl)
end Go.Proofs.YtkojpnkknehhmaaGreatDoor
