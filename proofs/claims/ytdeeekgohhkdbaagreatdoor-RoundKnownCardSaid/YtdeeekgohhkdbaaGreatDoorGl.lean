/- Abstract values. -/
import Derived.Test.YtdeeekgohhkdbaaGreatDoorRows
import Derived.WalkKit
import Derived.WalkSpells
import Derived.WalkLawsBesides
import Derived.Laws.Rows
import Derived.Laws.StructEq
import Derived.Laws.Cells
namespace Go.Proofs.YtdeeekgohhkdbaaGreatDoor
theorem zt_ {p:Prop} [Decidable p] (h:decide p = true):p:=by simpa using h
theorem zf_ {p:Prop} [Decidable p] (h:decide p = false):Not p:=by simpa using h
open Go.RowKit
inductive AV where
 |undef
 |tt
 |ff
 |bool (b:Bool)
 |lit (k:IntKind) (n:Int)
 |int (k:IntKind) (n:Int)
 |str (s:ByteArray)
 |nilp
 |eptr (cs:List AV) (off:Nat)
 |ref (b off:Nat)
 |slc (m:Nat) (es:List AV)
 |aslc (b off len esz:Nat) (ag:Bool)
 |fn (f:FuncId) (first caps:List AV)
 |nilfn
 |iface (t:TypeId) (v:AV)
 |nilif
 |agg (cs:List AV)
 |tup (vs:List AV)
 |map (b:Nat)
 |nilmap
 |yld (l:Nat)
 deriving Inhabited
def AV.cells:AV->List AV
 |.agg cs=>cs
 |v=>[v]
def AV.one:AV->Bool
 |.undef | .agg _ | .tup _=>false
 |_=>true
abbrev RO:=Nat->Option Obj
def RO.cell (ρ:RO) (b off:Nat):Option Value :=
 match ρ b with
 |some (.cells c _ fr)=>if fr.1<=off/\off<fr.2 then none else c[off]?
 |_=>none
abbrev Lay:=Nat->Nat × Nat
inductive Rv (ρ:RO):Option Lay->AV->Value->Prop
 |undef (E v):Rv ρ E .undef v
 |tt (E):Rv ρ E .tt (.bool true)
 |ff (E):Rv ρ E .ff (.bool false)
 |bool (E b):Rv ρ E (.bool b) (.bool b)
 |lit (E k n):Rv ρ E (.lit k n) (.int k n)
 |int (E k n):Rv ρ E (.int k n) (.int k n)
 |str (E s):Rv ρ E (.str s) (.string s)
 |nilp (E):Rv ρ E .nilp (.pointer none)
 |eptr (E cs b o off) (c:Nat->Value) (hc:∀j,j<cs.length->ρ.cell b (o+j)=some (c j)) (h:∀j,Rv ρ E (cs.getD j .undef) (c j)) :
   Rv ρ E (.eptr cs off) (.pointer (some ⟨b,o+off,none⟩))
 |ref (E:Lay) (b off):Rv ρ (some E) (.ref b off) (.pointer (some ⟨(E b).1,off,none⟩))
 |nilslc (E m):Rv ρ E (.slc m []) (.slice none 0 0)
 |eslc (E m) (a:Addr) (hm:m≠0):Rv ρ E (.slc m []) (.slice (some a) 0 0)
 |slc (E m es b o cap k) (c:Nat->Nat->Value) (hm:m≠0) (hcap:es.length<=cap) (h2:m=2->cap=es.length)
   (hk:∀i,i<es.length->(es.getD i .undef).cells.length=k)
   (hc:∀i (_:i<es.length) j,j<k->ρ.cell b (o+i*k+j)=some (c i j))
   (h:∀i j,Rv ρ none ((es.getD i .undef).cells.getD j .undef) (c i j)) :
   Rv ρ E (.slc m es) (.slice (some ⟨b,o,none⟩) es.length cap)
 |aslc (E:Lay) (b off len esz ag cap) (hcap:len<=cap) (hr:off+cap*esz=(E b).2) :
   Rv ρ (some E) (.aslc b off len esz ag) (.slice (some ⟨(E b).1,off,none⟩) len cap)
 |aslc0 (E:Lay) (b esz ag a) (h0:(E b).2=0):Rv ρ (some E) (.aslc b 0 0 esz ag) (.slice a 0 0)
 |fn (E f first caps) (vf vc:Array Value) (hf:first.length=vf.size) (hc:caps.length=vc.size)
   (h1:∀j,Rv ρ E (first.getD j .undef) (vf.getD j Go.undef)) (h2:∀j,Rv ρ E (caps.getD j .undef) (vc.getD j Go.undef)) :
   Rv ρ E (.fn f first caps) (.func (.func f) vf vc)
 |nilfn (E):Rv ρ E .nilfn .nilFunc
 |iface (E t v v') (h:Rv ρ E v v'):Rv ρ E (.iface t v) (.iface t v')
 |nilif (E):Rv ρ E .nilif .nilIface
 |agg (E cs) (vs:Array Value) (hl:cs.length=vs.size) (h:∀j,Rv ρ E (cs.getD j .undef) (vs.getD j Go.undef)):Rv ρ E (.agg cs) (.agg vs)
 |tup (E cs) (vs:Array Value) (hl:cs.length=vs.size) (h:∀j,Rv ρ E (cs.getD j .undef) (vs.getD j Go.undef)):Rv ρ E (.tup cs) (.tuple vs)
 |map (E:Lay) (b):Rv ρ (some E) (.map b) (.map (some (E b).1))
 |nilmap (E):Rv ρ E .nilmap (.map none)
 |yld (E l):Rv ρ E (.yld l) (.func (.yield l) #[] #[])
def Rvs (ρ:RO) (E:Option Lay) (l:List AV) (vs:Array Value):Prop:=l.length=vs.size/\∀j,Rv ρ E (l.getD j .undef) (vs.getD j Go.undef)
def RO.le (ρ ρ':RO):Prop:=∀k o,ρ k=some o->ρ' k=some o
theorem RO.le_refl (ρ:RO):ρ.le ρ:=fun _ _ h=>h
theorem RO.le.trans {a b c:RO} (h:a.le b) (h':b.le c):a.le c:=fun k o x=>h' k o (h k o x)
theorem RO.le.cell {ρ ρ':RO} (h:ρ.le ρ') {b off:Nat} {v:Value} (hc:ρ.cell b off=some v):ρ'.cell b off=some v:=by
 unfold RO.cell at *;cases hb:ρ b with
 |none=>simp[hb] at hc
 |some o=>rw[hb] at hc;rw[h _ _ hb];exact hc
theorem Rv.zQ {ρ ρ':RO} (h:∀b off v,ρ.cell b off=some v->ρ'.cell b off=some v) {E:Option Lay} {v:AV} {cv:Value} (hv:Rv ρ E v cv):Rv ρ' E v cv:=by
 induction hv with
 |undef E v=>exact .undef E v
 |tt E=>exact .tt E
 |ff E=>exact .ff E
 |bool E b=>exact .bool E b
 |lit E k n=>exact .lit E k n
 |int E k n=>exact .int E k n
 |str E s=>exact .str E s
 |nilp E=>exact .nilp E
 |eptr E cs b o off c hc _ ih=>exact .eptr E cs b o off c (fun j hj=>h _ _ _ (hc j hj)) ih
 |ref E b off=>exact .ref E b off
 |nilslc E m=>exact .nilslc E m
 |eslc E m a hm=>exact .eslc E m a hm
 |slc E m es b o cap k c hm hcap h2 hk hc _ ih=>exact .slc E m es b o cap k c hm hcap h2 hk (fun i hi j hj=>h _ _ _ (hc i hi j hj)) ih
 |aslc E b off len esz ag cap hcap hr=>exact .aslc E b off len esz ag cap hcap hr
 |aslc0 E b esz ag a h0=>exact .aslc0 E b esz ag a h0
 |fn E f first caps vf vc hf hc _ _ ih1 ih2=>exact .fn E f first caps vf vc hf hc ih1 ih2
 |nilfn E=>exact .nilfn E
 |iface E t v v' _ ih=>exact .iface E t v v' ih
 |nilif E=>exact .nilif E
 |agg E cs vs hl _ ih=>exact .agg E cs vs hl ih
 |tup E cs vs hl _ ih=>exact .tup E cs vs hl ih
 |map E b=>exact .map E b
 |nilmap E=>exact .nilmap E
 |yld E l=>exact .yld E l
theorem Rv.mono {ρ ρ':RO} (h:ρ.le ρ') {E:Option Lay} {v:AV} {cv:Value} (hv:Rv ρ E v cv):Rv ρ' E v cv:=hv.zQ fun _ _ _ hc=>h.cell hc
theorem Rv.any {ρ:RO} {v:AV} {cv:Value} (hv:Rv ρ none v cv) (E:Option Lay):Rv ρ E v cv:=by
 generalize hn:(none:Option Lay)=o at hv;induction hv with
 |undef _ v=>exact .undef E v
 |tt _=>exact .tt E
 |ff _=>exact .ff E
 |bool _ b=>exact .bool E b
 |lit _ k n=>exact .lit E k n
 |int _ k n=>exact .int E k n
 |str _ s=>exact .str E s
 |nilp _=>exact .nilp E
 |eptr _ cs b o off c hc _ ih=>exact .eptr E cs b o off c hc (fun j=>ih j hn)
 |ref _ b off=>cases hn
 |nilslc _ m=>exact .nilslc E m
 |eslc _ m a hm=>exact .eslc E m a hm
 |slc _ m es b o cap k c hm hcap h2 hk hc h _=>exact .slc E m es b o cap k c hm hcap h2 hk hc h
 |aslc _ b off len esz ag cap hcap hr=>cases hn
 |aslc0 _ b esz ag a h0=>cases hn
 |fn _ f first caps vf vc hf hc _ _ ih1 ih2=>exact .fn E f first caps vf vc hf hc (fun j=>ih1 j hn) (fun j=>ih2 j hn)
 |nilfn _=>exact .nilfn E
 |iface _ t v v' _ ih=>exact .iface E t v v' (ih hn)
 |nilif _=>exact .nilif E
 |agg _ cs vs hl _ ih=>exact .agg E cs vs hl (fun j=>ih j hn)
 |tup _ cs vs hl _ ih=>exact .tup E cs vs hl (fun j=>ih j hn)
 |map _ b=>cases hn
 |nilmap _=>exact .nilmap E
 |yld _ l=>exact .yld E l
mutual
def AV.tree:AV->Bool
 |.ref _ _ | .aslc .. | .map _=>false
 |.fn _ a b=>AV.zi a && AV.zi b
 |.iface _ v=>v.tree
 |.agg cs | .tup cs | .eptr cs _=>AV.zi cs
 |_=>true
def AV.zi:List AV->Bool
 |[]=>true
 |x::r=>x.tree && AV.zi r
end
mutual
def AV.norm:AV->AV
 |.lit k n=>.int k n
 |.tt=>.bool true
 |.ff=>.bool false
 |.fn f a b=>.fn f (AV.za a) (AV.za b)
 |.slc _ es=>.slc 3 es
 |.iface t v=>.iface t v.norm
 |.agg cs=>.agg (AV.za cs)
 |.tup cs=>.tup (AV.za cs)
 |v=>v
def AV.za:List AV->List AV
 |[]=>[]
 |x::r=>x.norm::AV.za r
end
def AV.zI:AV->AV
 |.slc 2 es=>.slc 2 es
 |v=>v.norm
mutual
def AV.zj (f:Nat->Option Nat):AV->AV
 |.ref b off=>match f b with | some i=>.ref i off | none=>.undef
 |.aslc b off len esz ag=>match f b with | some i=>.aslc i off len esz ag | none=>.undef
 |.map b=>match f b with | some i=>.map i | none=>.undef
 |.fn g a b=>.fn g (AV.zg f a) (AV.zg f b)
 |.iface t v=>.iface t (v.zj f)
 |.eptr cs off=>.eptr (AV.zg f cs) off
 |.agg cs=>.agg (AV.zg f cs)
 |.tup cs=>.tup (AV.zg f cs)
 |v=>v
def AV.zg (f:Nat->Option Nat):List AV->List AV
 |[]=>[]
 |x::r=>x.zj f::AV.zg f r
end
mutual
def AV.refs:AV->List Nat
 |.ref b _ | .aslc b .. | .map b=>[b]
 |.fn _ a b=>AV.zd a++AV.zd b
 |.iface _ v=>v.refs
 |.agg cs | .tup cs | .eptr cs _=>AV.zd cs
 |_=>[]
def AV.zd:List AV->List Nat
 |[]=>[]
 |x::r=>x.refs++AV.zd r
end
mutual
def AV.plain:AV->Bool
 |.tt | .ff | .bool _ | .lit .. | .int .. | .str _ | .nilp | .slc 0 [] | .nilfn | .nilif | .nilmap=>true
 |.iface _ v=>v.plain
 |.agg cs | .tup cs=>AV.zq cs
 |_=>false
def AV.zq:List AV->Bool
 |[]=>true
 |x::r=>x.plain && AV.zq r
end
mutual
def AV.zf:AV->List (Nat × Nat × Nat × Bool)
 |.aslc b off len esz ag=>[(b,off+len*esz,esz,ag)]
 |.fn _ a b=>AV.zb a++AV.zb b
 |.iface _ v=>v.zf
 |.agg cs | .tup cs | .eptr cs _=>AV.zb cs
 |_=>[]
def AV.zb:List AV->List (Nat × Nat × Nat × Bool)
 |[]=>[]
 |x::r=>x.zf++AV.zb r
end
def xy (k:Nat):Nat->List AV->List AV
 |0,_=>[]
 |n+1,cs=>.agg (cs.take k)::xy k n (cs.drop k)
def chunks (esz:Nat) (ag:Bool) (n:Nat) (cs:List AV):List AV:=if ag then xy esz n cs else cs.take n
mutual
def AV.snap (bx:Nat->Option (List AV)):AV->AV
 |.aslc b off len esz ag=>match bx b with | some cs=>.slc 3 (chunks esz ag len (cs.drop off)) | none=>.undef
 |.fn g a b=>.fn g (AV.ze bx a) (AV.ze bx b)
 |.iface t v=>.iface t (v.snap bx)
 |.eptr cs off=>.eptr (AV.ze bx cs) off
 |.agg cs=>.agg (AV.ze bx cs)
 |.tup cs=>.tup (AV.ze bx cs)
 |v=>v
def AV.ze (bx:Nat->Option (List AV)):List AV->List AV
 |[]=>[]
 |x::r=>x.snap bx::AV.ze bx r
end
theorem yU (l:List AV) (j:Nat):(AV.za l).getD j .undef=(l.getD j .undef).norm:=by
 induction l generalizing j with
 |nil=>rfl
 |cons x r ih=>cases j<;>simp_all [AV.za]
theorem yD (l:List AV):(AV.za l).length=l.length:=by induction l<;>simp_all [AV.za]
theorem y9 (f:Nat->Option Nat) (l:List AV) (j:Nat):(AV.zg f l).getD j .undef=(l.getD j .undef).zj f:=by
 induction l generalizing j with
 |nil=>rfl
 |cons x r ih=>cases j<;>simp_all [AV.zg]
theorem yS (f:Nat->Option Nat) (l:List AV):(AV.zg f l).length=l.length:=by induction l<;>simp_all [AV.zg]
theorem PY (l:List AV):AV.za l=l.map AV.norm:=by induction l<;>simp_all [AV.za]
theorem Rv.ye {ρ:RO} {E:Option Lay} {m:Nat} {es:List AV} {cv:Value} (hv:Rv ρ E (.slc m es) cv):Rv ρ E (.slc 3 es) cv:=by
 cases hv with
 |nilslc _ _=>exact .nilslc _ _
 |eslc _ _ a hm=>exact .eslc _ _ a (by simp)
 |slc _ _ _ b o cap k c hm hcap h2 hk hc h=>exact .slc _ _ _ b o cap k c (by simp) hcap (by simp) hk hc h
theorem Rv.norm {ρ:RO} {E:Option Lay} {v:AV} {cv:Value} (hv:Rv ρ E v cv):Rv ρ E v.norm cv:=by
 induction hv with
 |undef E v=>exact .undef E v
 |tt E=>exact .bool E true
 |ff E=>exact .bool E false
 |bool E b=>exact .bool E b
 |lit E k n=>exact .int E k n
 |int E k n=>exact .int E k n
 |str E s=>exact .str E s
 |nilp E=>exact .nilp E
 |eptr E cs b o off c hc h _=>exact .eptr E cs b o off c hc h
 |ref E b off=>exact .ref E b off
 |nilslc E m=>exact .nilslc E 3
 |eslc E m a hm=>exact .eslc E 3 a (by simp)
 |slc E m es b o cap k c hm hcap h2 hk hc h _=>exact(Rv.slc E m es b o cap k c hm hcap h2 hk hc h).ye
 |aslc E b off len esz ag cap hcap hr=>exact .aslc E b off len esz ag cap hcap hr
 |aslc0 E b esz ag a h0=>exact .aslc0 E b esz ag a h0
 |fn E f first caps vf vc hf hc _ _ ih1 ih2 =>
  exact .fn E f _ _ vf vc (by rw[yD];exact hf) (by rw[yD];exact hc) (fun j=>by rw[yU];exact ih1 j) (fun j=>by rw[yU];exact ih2 j)
 |nilfn E=>exact .nilfn E
 |iface E t v v' _ ih=>exact .iface E t _ v' ih
 |nilif E=>exact .nilif E
 |agg E cs vs hl _ ih=>exact .agg E _ vs (by rw[yD];exact hl) (fun j=>by rw[yU];exact ih j)
 |tup E cs vs hl _ ih=>exact .tup E _ vs (by rw[yD];exact hl) (fun j=>by rw[yU];exact ih j)
 |map E b=>exact .map E b
 |nilmap E=>exact .nilmap E
 |yld E l=>exact .yld E l
theorem Rv.zI {ρ:RO} {E:Option Lay} {v:AV} {cv:Value} (hv:Rv ρ E v cv):Rv ρ E v.zI cv:=by
 unfold AV.zI;split
 ·exact hv
 ·exact hv.norm
theorem Rv.zj {ρ:RO} {E E':Lay} {f:Nat->Option Nat} (hf:∀b i,f b=some i->E' i=E b) {v:AV} {cv:Value} (hv:Rv ρ (some E) v cv):Rv ρ (some E') (v.zj f) cv:=by
 generalize hn:some E=o at hv;induction hv with
 |undef _ v=>exact .undef _ v
 |tt _=>exact .tt _
 |ff _=>exact .ff _
 |bool _ b=>exact .bool _ b
 |lit _ k n=>exact .lit _ k n
 |int _ k n=>exact .int _ k n
 |str _ s=>exact .str _ s
 |nilp _=>exact .nilp _
 |eptr _ cs b o off c hc _ ih=>exact .eptr _ _ b o off c (fun j hj=>hc j (by rw[yS] at hj;exact hj)) (fun j=>by rw[y9];exact ih j hn)
 |ref m b off =>
  cases hn;cases hb:f b with
  |none=>simp only[AV.zj,hb];exact .undef _ _
  |some i=>simp only[AV.zj,hb];rw[<- hf b i hb];exact .ref E' i off
 |nilslc _ m=>exact .nilslc _ m
 |eslc _ m a hm=>exact .eslc _ m a hm
 |slc _ m es b o cap k c hm hcap h2 hk hc h _=>exact .slc _ m es b o cap k c hm hcap h2 hk hc h
 |aslc m b off len esz ag cap hcap hr =>
  cases hn;cases hb:f b with
  |none=>simp only[AV.zj,hb];exact .undef _ _
  |some i=>simp only[AV.zj,hb];rw[<- hf b i hb] at hr ⊢;exact .aslc E' i off len esz ag cap hcap hr
 |aslc0 m b esz ag a h0 =>
  cases hn;cases hb:f b with
  |none=>simp only[AV.zj,hb];exact .undef _ _
  |some i=>simp only[AV.zj,hb];rw[<- hf b i hb] at h0;exact .aslc0 E' i esz ag a h0
 |fn _ g first caps vf vc hf' hc _ _ ih1 ih2 =>
  exact .fn _ g _ _ vf vc (by rw[yS];exact hf') (by rw[yS];exact hc) (fun j=>by rw[y9];exact ih1 j hn) (fun j=>by rw[y9];exact ih2 j hn)
 |nilfn _=>exact .nilfn _
 |iface _ t v v' _ ih=>exact .iface _ t _ v' (ih hn)
 |nilif _=>exact .nilif _
 |agg _ cs vs hl _ ih=>exact .agg _ _ vs (by rw[yS];exact hl) (fun j=>by rw[y9];exact ih j hn)
 |tup _ cs vs hl _ ih=>exact .tup _ _ vs (by rw[yS];exact hl) (fun j=>by rw[y9];exact ih j hn)
 |map m b =>
  cases hn;cases hb:f b with
  |none=>simp only[AV.zj,hb];exact .undef _ _
  |some i=>simp only[AV.zj,hb];rw[<- hf b i hb];exact .map E' i
 |nilmap _=>exact .nilmap _
 |yld _ l=>exact .yld _ l
theorem jd {l:List AV} (h:AV.zi l=true) (j:Nat):(l.getD j .undef).tree=true:=by
 induction l generalizing j with
 |nil=>rfl
 |cons x r ih =>
  simp only[AV.zi,Bool.and_eq_true] at h;cases j with
  |zero=>exact h.1
  |succ j=>simpa using ih h.2 j
theorem Rv.zm {ρ:RO} {E:Option Lay} {v:AV} {cv:Value} (hv:Rv ρ E v cv) (ht:v.tree=true):Rv ρ none v cv:=by
 induction hv with
 |undef _ v=>exact .undef _ v
 |tt _=>exact .tt _
 |ff _=>exact .ff _
 |bool _ b=>exact .bool _ b
 |lit _ k n=>exact .lit _ k n
 |int _ k n=>exact .int _ k n
 |str _ s=>exact .str _ s
 |nilp _=>exact .nilp _
 |eptr _ cs b o off c hc _ ih=>exact .eptr _ cs b o off c hc (fun j=>ih j (jd (by simpa[AV.tree] using ht) j))
 |ref m b off=>simp[AV.tree] at ht
 |nilslc _ m=>exact .nilslc _ m
 |eslc _ m a hm=>exact .eslc _ m a hm
 |slc _ m es b o cap k c hm hcap h2 hk hc h _=>exact .slc _ m es b o cap k c hm hcap h2 hk hc h
 |aslc m b off len esz ag cap hcap hr=>simp[AV.tree] at ht
 |aslc0 m b esz ag a h0=>simp[AV.tree] at ht
 |fn _ g first caps vf vc hf' hc _ _ ih1 ih2 =>
  simp only[AV.tree,Bool.and_eq_true] at ht;exact .fn _ g _ _ vf vc hf' hc (fun j=>ih1 j (jd ht.1 j)) (fun j=>ih2 j (jd ht.2 j))
 |nilfn _=>exact .nilfn _
 |iface _ t v v' _ ih=>exact .iface _ t _ v' (ih (by simpa[AV.tree] using ht))
 |nilif _=>exact .nilif _
 |agg _ cs vs hl _ ih=>exact .agg _ _ vs hl (fun j=>ih j (jd (by simpa[AV.tree] using ht) j))
 |tup _ cs vs hl _ ih=>exact .tup _ _ vs hl (fun j=>ih j (jd (by simpa[AV.tree] using ht) j))
 |map m b=>simp[AV.tree] at ht
 |nilmap _=>exact .nilmap _
 |yld _ l=>exact .yld _ l
theorem yO {l:List AV} {j:Nat} (h:l.length<=j):l.getD j .undef=.undef:=by simp[List.getD,List.getElem?_eq_none h]
theorem uR {l:List AV} (h:AV.zq l=true) (j:Nat) (hj:j<l.length):(l.getD j .undef).plain=true:=by
 induction l generalizing j with
 |nil=>simp at hj
 |cons x r ih =>
  simp only[AV.zq,Bool.and_eq_true] at h;cases j with
  |zero=>exact h.1
  |succ j=>simpa using ih h.2 j (by simpa using hj)
theorem Rv.zz {ρ ρ':RO} {E E':Option Lay} {v:AV} {cv:Value} (hv:Rv ρ E v cv) (ht:v.plain=true):Rv ρ' E' v cv:=by
 induction hv with
 |undef _ v=>simp[AV.plain] at ht
 |tt _=>exact .tt _
 |ff _=>exact .ff _
 |bool _ b=>exact .bool _ b
 |lit _ k n=>exact .lit _ k n
 |int _ k n=>exact .int _ k n
 |str _ s=>exact .str _ s
 |nilp _=>exact .nilp _
 |eptr _ cs b o off c hc h _=>simp[AV.plain] at ht
 |ref m b off=>simp[AV.plain] at ht
 |nilslc _ m=>exact .nilslc _ m
 |eslc _ m a hm=>exact .eslc _ m a hm
 |slc _ m es b o cap k c hm hcap h2 hk hc h _=>cases m<;>cases es<;>simp[AV.plain] at ht hm
 |aslc m b off len esz ag cap hcap hr=>simp[AV.plain] at ht
 |aslc0 m b esz ag a h0=>simp[AV.plain] at ht
 |fn _ g first caps vf vc hf' hc _ _ ih1 ih2=>simp[AV.plain] at ht
 |nilfn _=>exact .nilfn _
 |iface _ t v v' _ ih=>exact .iface _ t _ v' (ih (by simpa[AV.plain] using ht))
 |nilif _=>exact .nilif _
 |agg _ cs vs hl _ ih =>
  refine .agg _ _ vs hl (fun j=>?_);rcases Nat.lt_or_ge j cs.length with hj | hj
  ·exact ih j (uR (by simpa[AV.plain] using ht) j hj)
  ·rw[yO hj];exact .undef _ _
 |tup _ cs vs hl _ ih =>
  refine .tup _ _ vs hl (fun j=>?_);rcases Nat.lt_or_ge j cs.length with hj | hj
  ·exact ih j (uR (by simpa[AV.plain] using ht) j hj)
  ·rw[yO hj];exact .undef _ _
 |map m b=>simp[AV.plain] at ht
 |nilmap _=>exact .nilmap _
 |yld _ l=>exact .yld _ l
def UN (g:Nat):Option (List AV):=if g=0 then some [.int .i64 1,.int .i64 0] else none
def ka (ρ:RO):Prop:=∀g cs,UN g=some cs->∃c:Nat->Value,(∀j,j<cs.length->ρ.cell g j=some (c j))/\∀j,Rv ρ none (cs.getD j .undef) (c j)
theorem ka.mono {ρ ρ':RO} (h:ka ρ) (hle:ρ.le ρ'):ka ρ':=fun g cs hg=>by
 obtain ⟨c,h1,h2⟩:=h g cs hg;exact⟨c,fun j hj=>hle.cell (h1 j hj),fun j=>(h2 j).mono hle⟩
theorem ka.rv {ρ:RO} (h:ka ρ) {g:Nat} {cs:List AV} (hg:UN g=some cs) (E:Option Lay):Rv ρ E (.eptr cs 0) (.pointer (some ⟨g,0,none⟩)):=by
 obtain ⟨c,h1,h2⟩:=h g cs hg;have:=Rv.eptr (ρ:=ρ) E cs g 0 0 c (fun j hj=>by rw[Nat.zero_add];exact h1 j hj) (fun j=>(h2 j).any E);exact this
end Go.Proofs.YtdeeekgohhkdbaaGreatDoor
