/- States of which less is said; boxes by other names. -/
import Derived.Test.YtkojpnkknehhmaaGreatDoorD6
namespace Go.Proofs.YtkojpnkknehhmaaGreatDoor
open Go.RowKit
theorem Xl {ρ:RO} {μ:Lay} {v v':AV} {cv:Value} (h:Sb v v') (hv:Rv ρ (some μ) v cv):Rv ρ (some μ) v' cv:=by
 rcases h with rfl | rfl | rfl | ⟨h,b,esz,ag,rfl⟩
 ·exact .undef ..
 ·exact hv
 ·exact hv.norm
 ·obtain ⟨m,hm⟩:∃m,v=.slc m []/\(m=0\/m=2):=by rcases h with h | h<;>exact⟨_,h,by simp⟩
  obtain ⟨rfl,hm⟩:=hm;generalize hg:AV.slc m []=g at hv;cases hv with
  |nilslc=>exact .aslc0 _ _ _ _ none
  |eslc _ _ a0=>exact .aslc0 _ _ _ _ (some a0)
  |slc _ m' es b o cap k c hm' hcap h2 =>
   cases hg;rcases hm with rfl | rfl
   ·exact absurd rfl hm'
   ·have:=h2 rfl;simp only[List.length_nil] at this;subst this;exact .aslc0 _ _ _ _ _
  |_=>cases hg
theorem Sc {ρ:RO} {μ:Option Lay} {v v':AV} {cv:Value} (h:OX v v') (hv:Rv ρ μ v cv):Rv ρ μ v' cv:=by
 rcases h with rfl | rfl | rfl
 ·exact .undef ..
 ·exact hv
 ·exact hv.norm
section
variable {ds:List Deferred} {n:Nat} {μ0:Lay} {ρ0:RO} {w0:World} {ρ:RO} {μ:Lay} {σ σ':St} {a:Act} {w:World}
open Classical in
theorem Sat.weaken (hs:Sat ds n μ0 ρ0 w0 ρ μ σ a w) (hw:xQ n σ σ'):∃μ',Sat ds n μ0 ρ0 w0 ρ μ' σ' a w:=by
 obtain ⟨⟨h,h1,h2,h3,h4,h5⟩,hl⟩:=hw;let μ':Lay:=fun b'=>if b'<n then μ b' else if hx:∃b,h b=some b' then μ (Classical.choose hx) else (0,0)
 have hμ:∀b b',h b=some b'->μ' b'=μ b:=by
  intro b b' hb;by_cases hlt:b'<n
  ·simp only[μ',if_pos hlt];rw[h1 b b' hb hlt]
  have hx:∃b,h b=some b':=⟨b,hb⟩;simp only[μ',if_neg hlt,dif_pos hx];rw[h3 _ b b' (Classical.choose_spec hx) hb]
 have hμ0:∀b',n<=b'->(∀b,h b≠some b')->μ' b'=(0,0):=by
  intro b' hn hb;simp only[μ'];rw[if_neg (by omega),dif_neg (fun⟨b,hx⟩=>hb b hx)]
 have hlive:∀b' cs,σ'.box b'=some cs->(μ' b').2≠0->∃b x,h b=some b'/\σ.bx.getD b none=some x:=by
  intro b' cs hb hk;obtain ⟨x',hx',rfl⟩:=yK hb;rcases h5 b' x' hx' with ⟨b,x,g1,g2,_⟩ | ⟨_,gn,g⟩
  ·exact⟨b,x,g1,g2⟩
  ·rw[hμ0 b' gn g] at hk;exact absurd rfl hk
 refine⟨μ',{ hs with sz:=by rw[hl];exact hs.sz,sl:=fun t=>Xl (h4 t) ((hs.sl t).zj hμ),box:=?_,inj:=?_,sep:=?_,own:=?_,inc:=?_ }⟩
 ·intro b' x' hx';rcases h5 b' x' hx' with ⟨b,x,g1,g2,g3,g4,g6,g5⟩ | ⟨g1,gn,g⟩
  ·obtain ⟨k1,k2⟩:=hs.box b x g2;have hm:=hμ b b' g1;refine⟨by rw[hm,g4];exact k1,?_⟩;rw[hm];rcases k2 with k2 | ⟨o,k3,k5⟩
   ·exact .inl k2
   ·refine .inr ⟨o,k3,k5.imp g6 fun j cv h7=>?_⟩;have h6:=g5 j;unfold lev at h7 ⊢;rw[g3];by_cases ha:x.arr=true
    ·rw[if_pos ha] at h6 h7 ⊢;exact Sc h6 h7
    ·rw[if_neg ha] at h6 h7 ⊢;exact Xl h6 (h7.zj hμ)
  ·exact⟨by rw[g1];exact Nat.zero_le _,.inl (by rw[hμ0 b' gn g])⟩
 ·intro b b' cs cs' hb hb' hne hk hk';obtain ⟨c,x,g1,g2⟩:=hlive b cs hb hk;obtain ⟨c',x',g1',g2'⟩:=hlive b' cs' hb' hk';rw[hμ c b g1,hμ c' b' g1'] at *;refine hs.inj c c' _ _ (yi g2) (yi g2') ?_ hk hk';rintro rfl;rw[g1] at g1';exact hne (Option.some.inj g1')
 ·intro b cs hb hk;obtain ⟨c,x,g1,g2⟩:=hlive b cs hb hk;rw[hμ c b g1] at *;exact hs.sep c _ (yi g2) hk
 ·intro b cs hb hk hn;obtain ⟨c,x,g1,g2⟩:=hlive b cs hb hk;rw[hμ c b g1] at *;exact hs.zT (yi g2) hk
 ·intro b hb;simp only[μ',if_pos hb];exact hs.inc b hb
end
end Go.Proofs.YtkojpnkknehhmaaGreatDoor
