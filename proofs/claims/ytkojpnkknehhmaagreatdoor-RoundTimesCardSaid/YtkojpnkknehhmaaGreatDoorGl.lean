/- Abstract values: what a Go value is, its memory taken with it where nobody writes it; and what it is for a value of the model to be such a one. Nothing here speaks of the program. The program's variables that hold what they were laid with. -/
import Derived.Test.YtkojpnkknehhmaaGreatDoorRows
import Derived.WalkKit
import Derived.WalkSpells
import Derived.WalkLawsBesides
import Derived.Laws.Rows
import Derived.Laws.StructEq
import Derived.Laws.Cells
namespace Go.Proofs.YtkojpnkknehhmaaGreatDoor
theorem zt_ {p:Prop} [Decidable p] (h:decide p = true):p:=by simpa using h
theorem zf_ {p:Prop} [Decidable p] (h:decide p = false):Not p:=by simpa using h
open Go.RowKit
inductive AV where
 |undef
 |tt
 |ff
 |bool (b:Bool)
 |lit (k:IntKind) (n:Int)
 |int (k:IntKind) (n:Int)
 |str (s:ByteArray)
 |nilp
 |eptr (cs:List AV) (off:Nat)
 |ref (b off:Nat)
 |slc (m:Nat) (es:List AV)
 |aslc (b off len esz:Nat) (ag:Bool)
 |fn (f:FuncId) (first caps:List AV)
 |nilfn
 |iface (t:TypeId) (v:AV)
 |nilif
 |agg (cs:List AV)
 |tup (vs:List AV)
 |map (b:Nat)
 |nilmap
 |yld (l:Nat)
 deriving Inhabited
def AV.cells:AV->List AV
 |.agg cs=>cs
 |v=>[v]
def AV.one:AV->Bool
 |.undef | .agg _ | .tup _=>false
 |_=>true
abbrev RO:=Nat->Option Obj
def RO.cell (ρ:RO) (b off:Nat):Option Value :=
 match ρ b with
 |some (.cells c _ _)=>c[off]?
 |_=>none
abbrev Lay:=Nat->Nat × Nat
inductive Rv (ρ:RO):Option Lay->AV->Value->Prop
 |undef (μ v):Rv ρ μ .undef v
 |tt (μ):Rv ρ μ .tt (.bool true)
 |ff (μ):Rv ρ μ .ff (.bool false)
 |bool (μ b):Rv ρ μ (.bool b) (.bool b)
 |lit (μ k n):Rv ρ μ (.lit k n) (.int k n)
 |int (μ k n):Rv ρ μ (.int k n) (.int k n)
 |str (μ s):Rv ρ μ (.str s) (.string s)
 |nilp (μ):Rv ρ μ .nilp (.pointer none)
 |eptr (μ cs b o off) (c:Nat->Value) (hc:∀j,j<cs.length->ρ.cell b (o+j)=some (c j)) (h:∀j,Rv ρ μ (cs.getD j .undef) (c j)) :
   Rv ρ μ (.eptr cs off) (.pointer (some ⟨b,o+off,none⟩))
 |ref (μ:Lay) (b off):Rv ρ (some μ) (.ref b off) (.pointer (some ⟨(μ b).1,off,none⟩))
 |nilslc (μ m):Rv ρ μ (.slc m []) (.slice none 0 0)
 |eslc (μ m) (a:Addr) (hm:m≠0):Rv ρ μ (.slc m []) (.slice (some a) 0 0)
 |slc (μ m es b o cap k) (c:Nat->Nat->Value) (hm:m≠0) (hcap:es.length<=cap) (h2:m=2->cap=es.length)
   (hk:∀i,i<es.length->(es.getD i .undef).cells.length=k)
   (hc:∀i (_:i<es.length) j,j<k->ρ.cell b (o+i*k+j)=some (c i j))
   (h:∀i j,Rv ρ none ((es.getD i .undef).cells.getD j .undef) (c i j)) :
   Rv ρ μ (.slc m es) (.slice (some ⟨b,o,none⟩) es.length cap)
 |aslc (μ:Lay) (b off len esz ag cap) (hcap:len<=cap) (hr:off+cap*esz<=(μ b).2) :
   Rv ρ (some μ) (.aslc b off len esz ag) (.slice (some ⟨(μ b).1,off,none⟩) len cap)
 |aslc0 (μ:Lay) (b esz ag a):Rv ρ (some μ) (.aslc b 0 0 esz ag) (.slice a 0 0)
 |fn (μ f first caps) (vf vc:Array Value) (hf:first.length=vf.size) (hc:caps.length=vc.size)
   (h1:∀j,Rv ρ μ (first.getD j .undef) (vf.getD j Go.undef)) (h2:∀j,Rv ρ μ (caps.getD j .undef) (vc.getD j Go.undef)) :
   Rv ρ μ (.fn f first caps) (.func (.func f) vf vc)
 |nilfn (μ):Rv ρ μ .nilfn .nilFunc
 |iface (μ t v v') (h:Rv ρ μ v v'):Rv ρ μ (.iface t v) (.iface t v')
 |nilif (μ):Rv ρ μ .nilif .nilIface
 |agg (μ cs) (vs:Array Value) (hl:cs.length=vs.size) (h:∀j,Rv ρ μ (cs.getD j .undef) (vs.getD j Go.undef)):Rv ρ μ (.agg cs) (.agg vs)
 |tup (μ cs) (vs:Array Value) (hl:cs.length=vs.size) (h:∀j,Rv ρ μ (cs.getD j .undef) (vs.getD j Go.undef)):Rv ρ μ (.tup cs) (.tuple vs)
 |map (μ:Lay) (b):Rv ρ (some μ) (.map b) (.map (some (μ b).1))
 |nilmap (μ):Rv ρ μ .nilmap (.map none)
 |yld (μ l):Rv ρ μ (.yld l) (.func (.yield l) #[] #[])
def Rvs (ρ:RO) (μ:Option Lay) (l:List AV) (vs:Array Value):Prop:=l.length=vs.size/\∀j,Rv ρ μ (l.getD j .undef) (vs.getD j Go.undef)
def RO.le (ρ ρ':RO):Prop:=∀k o,ρ k=some o->ρ' k=some o
theorem RO.le_refl (ρ:RO):ρ.le ρ:=fun _ _ h=>h
theorem RO.le.trans {a b c:RO} (h:a.le b) (h':b.le c):a.le c:=fun k o x=>h' k o (h k o x)
theorem RO.le.cell {ρ ρ':RO} (h:ρ.le ρ') {b off:Nat} {v:Value} (hc:ρ.cell b off=some v):ρ'.cell b off=some v:=by
 unfold RO.cell at *;cases hb:ρ b with
 |none=>simp[hb] at hc
 |some o=>rw[hb] at hc;rw[h _ _ hb];exact hc
theorem Rv.zK {ρ ρ':RO} (h:∀b off v,ρ.cell b off=some v->ρ'.cell b off=some v) {μ:Option Lay} {v:AV} {cv:Value} (hv:Rv ρ μ v cv):Rv ρ' μ v cv:=by
 induction hv with
 |undef μ v=>exact .undef μ v
 |tt μ=>exact .tt μ
 |ff μ=>exact .ff μ
 |bool μ b=>exact .bool μ b
 |lit μ k n=>exact .lit μ k n
 |int μ k n=>exact .int μ k n
 |str μ s=>exact .str μ s
 |nilp μ=>exact .nilp μ
 |eptr μ cs b o off c hc _ ih=>exact .eptr μ cs b o off c (fun j hj=>h _ _ _ (hc j hj)) ih
 |ref μ b off=>exact .ref μ b off
 |nilslc μ m=>exact .nilslc μ m
 |eslc μ m a hm=>exact .eslc μ m a hm
 |slc μ m es b o cap k c hm hcap h2 hk hc _ ih=>exact .slc μ m es b o cap k c hm hcap h2 hk (fun i hi j hj=>h _ _ _ (hc i hi j hj)) ih
 |aslc μ b off len esz ag cap hcap hr=>exact .aslc μ b off len esz ag cap hcap hr
 |aslc0 μ b esz ag a=>exact .aslc0 μ b esz ag a
 |fn μ f first caps vf vc hf hc _ _ ih1 ih2=>exact .fn μ f first caps vf vc hf hc ih1 ih2
 |nilfn μ=>exact .nilfn μ
 |iface μ t v v' _ ih=>exact .iface μ t v v' ih
 |nilif μ=>exact .nilif μ
 |agg μ cs vs hl _ ih=>exact .agg μ cs vs hl ih
 |tup μ cs vs hl _ ih=>exact .tup μ cs vs hl ih
 |map μ b=>exact .map μ b
 |nilmap μ=>exact .nilmap μ
 |yld μ l=>exact .yld μ l
theorem Rv.mono {ρ ρ':RO} (h:ρ.le ρ') {μ:Option Lay} {v:AV} {cv:Value} (hv:Rv ρ μ v cv):Rv ρ' μ v cv:=hv.zK fun _ _ _ hc=>h.cell hc
theorem Rv.any {ρ:RO} {v:AV} {cv:Value} (hv:Rv ρ none v cv) (μ:Option Lay):Rv ρ μ v cv:=by
 generalize hn:(none:Option Lay)=o at hv;induction hv with
 |undef _ v=>exact .undef μ v
 |tt _=>exact .tt μ
 |ff _=>exact .ff μ
 |bool _ b=>exact .bool μ b
 |lit _ k n=>exact .lit μ k n
 |int _ k n=>exact .int μ k n
 |str _ s=>exact .str μ s
 |nilp _=>exact .nilp μ
 |eptr _ cs b o off c hc _ ih=>exact .eptr μ cs b o off c hc (fun j=>ih j hn)
 |ref _ b off=>cases hn
 |nilslc _ m=>exact .nilslc μ m
 |eslc _ m a hm=>exact .eslc μ m a hm
 |slc _ m es b o cap k c hm hcap h2 hk hc h _=>exact .slc μ m es b o cap k c hm hcap h2 hk hc h
 |aslc _ b off len esz ag cap hcap hr=>cases hn
 |aslc0 _ b esz ag a=>cases hn
 |fn _ f first caps vf vc hf hc _ _ ih1 ih2=>exact .fn μ f first caps vf vc hf hc (fun j=>ih1 j hn) (fun j=>ih2 j hn)
 |nilfn _=>exact .nilfn μ
 |iface _ t v v' _ ih=>exact .iface μ t v v' (ih hn)
 |nilif _=>exact .nilif μ
 |agg _ cs vs hl _ ih=>exact .agg μ cs vs hl (fun j=>ih j hn)
 |tup _ cs vs hl _ ih=>exact .tup μ cs vs hl (fun j=>ih j hn)
 |map _ b=>cases hn
 |nilmap _=>exact .nilmap μ
 |yld _ l=>exact .yld μ l
mutual
def AV.tree:AV->Bool
 |.ref _ _ | .aslc .. | .map _=>false
 |.fn _ a b=>AV.zi a && AV.zi b
 |.iface _ v=>v.tree
 |.agg cs | .tup cs | .eptr cs _=>AV.zi cs
 |_=>true
def AV.zi:List AV->Bool
 |[]=>true
 |x::r=>x.tree && AV.zi r
end
mutual
def AV.norm:AV->AV
 |.lit k n=>.int k n
 |.tt=>.bool true
 |.ff=>.bool false
 |.fn f a b=>.fn f (AV.zb a) (AV.zb b)
 |.slc _ es=>.slc 3 es
 |.iface t v=>.iface t v.norm
 |.agg cs=>.agg (AV.zb cs)
 |.tup cs=>.tup (AV.zb cs)
 |v=>v
def AV.zb:List AV->List AV
 |[]=>[]
 |x::r=>x.norm::AV.zb r
end
def AV.zD:AV->AV
 |.slc 2 es=>.slc 2 es
 |v=>v.norm
mutual
def AV.zj (f:Nat->Option Nat):AV->AV
 |.ref b off=>match f b with | some i=>.ref i off | none=>.undef
 |.aslc b off len esz ag=>match f b with | some i=>.aslc i off len esz ag | none=>.undef
 |.map b=>match f b with | some i=>.map i | none=>.undef
 |.fn g a b=>.fn g (AV.zh f a) (AV.zh f b)
 |.iface t v=>.iface t (v.zj f)
 |.eptr cs off=>.eptr (AV.zh f cs) off
 |.agg cs=>.agg (AV.zh f cs)
 |.tup cs=>.tup (AV.zh f cs)
 |v=>v
def AV.zh (f:Nat->Option Nat):List AV->List AV
 |[]=>[]
 |x::r=>x.zj f::AV.zh f r
end
mutual
def AV.refs:AV->List Nat
 |.ref b _ | .aslc b .. | .map b=>[b]
 |.fn _ a b=>AV.zd a++AV.zd b
 |.iface _ v=>v.refs
 |.agg cs | .tup cs | .eptr cs _=>AV.zd cs
 |_=>[]
def AV.zd:List AV->List Nat
 |[]=>[]
 |x::r=>x.refs++AV.zd r
end
mutual
def AV.plain:AV->Bool
 |.tt | .ff | .bool _ | .lit .. | .int .. | .str _ | .nilp | .slc 0 [] | .nilfn | .nilif | .nilmap=>true
 |.iface _ v=>v.plain
 |.agg cs | .tup cs=>AV.zp cs
 |_=>false
def AV.zp:List AV->Bool
 |[]=>true
 |x::r=>x.plain && AV.zp r
end
mutual
def AV.zf:AV->List (Nat × Nat × Nat × Bool)
 |.aslc b off len esz ag=>[(b,off+len*esz,esz,ag)]
 |.fn _ a b=>AV.za a++AV.za b
 |.iface _ v=>v.zf
 |.agg cs | .tup cs | .eptr cs _=>AV.za cs
 |_=>[]
def AV.za:List AV->List (Nat × Nat × Nat × Bool)
 |[]=>[]
 |x::r=>x.zf++AV.za r
end
def kf (k:Nat):Nat->List AV->List AV
 |0,_=>[]
 |n+1,cs=>.agg (cs.take k)::kf k n (cs.drop k)
def chunks (esz:Nat) (ag:Bool) (n:Nat) (cs:List AV):List AV:=if ag then kf esz n cs else cs.take n
mutual
def AV.snap (bx:Nat->Option (List AV)):AV->AV
 |.aslc b off len esz ag=>match bx b with | some cs=>.slc 3 (chunks esz ag len (cs.drop off)) | none=>.undef
 |.fn g a b=>.fn g (AV.ze bx a) (AV.ze bx b)
 |.iface t v=>.iface t (v.snap bx)
 |.eptr cs off=>.eptr (AV.ze bx cs) off
 |.agg cs=>.agg (AV.ze bx cs)
 |.tup cs=>.tup (AV.ze bx cs)
 |v=>v
def AV.ze (bx:Nat->Option (List AV)):List AV->List AV
 |[]=>[]
 |x::r=>x.snap bx::AV.ze bx r
end
theorem yP (l:List AV) (j:Nat):(AV.zb l).getD j .undef=(l.getD j .undef).norm:=by
 induction l generalizing j with
 |nil=>rfl
 |cons x r ih=>cases j<;>simp_all [AV.zb]
theorem yu (l:List AV):(AV.zb l).length=l.length:=by induction l<;>simp_all [AV.zb]
theorem qt (f:Nat->Option Nat) (l:List AV) (j:Nat):(AV.zh f l).getD j .undef=(l.getD j .undef).zj f:=by
 induction l generalizing j with
 |nil=>rfl
 |cons x r ih=>cases j<;>simp_all [AV.zh]
theorem yQ (f:Nat->Option Nat) (l:List AV):(AV.zh f l).length=l.length:=by induction l<;>simp_all [AV.zh]
theorem Rv.z7 {ρ:RO} {μ:Option Lay} {m:Nat} {es:List AV} {cv:Value} (hv:Rv ρ μ (.slc m es) cv):Rv ρ μ (.slc 3 es) cv:=by
 cases hv with
 |nilslc _ _=>exact .nilslc _ _
 |eslc _ _ a hm=>exact .eslc _ _ a (by simp)
 |slc _ _ _ b o cap k c hm hcap h2 hk hc h=>exact .slc _ _ _ b o cap k c (by simp) hcap (by simp) hk hc h
theorem Rv.norm {ρ:RO} {μ:Option Lay} {v:AV} {cv:Value} (hv:Rv ρ μ v cv):Rv ρ μ v.norm cv:=by
 induction hv with
 |undef μ v=>exact .undef μ v
 |tt μ=>exact .bool μ true
 |ff μ=>exact .bool μ false
 |bool μ b=>exact .bool μ b
 |lit μ k n=>exact .int μ k n
 |int μ k n=>exact .int μ k n
 |str μ s=>exact .str μ s
 |nilp μ=>exact .nilp μ
 |eptr μ cs b o off c hc h _=>exact .eptr μ cs b o off c hc h
 |ref μ b off=>exact .ref μ b off
 |nilslc μ m=>exact .nilslc μ 3
 |eslc μ m a hm=>exact .eslc μ 3 a (by simp)
 |slc μ m es b o cap k c hm hcap h2 hk hc h _=>exact(Rv.slc μ m es b o cap k c hm hcap h2 hk hc h).z7
 |aslc μ b off len esz ag cap hcap hr=>exact .aslc μ b off len esz ag cap hcap hr
 |aslc0 μ b esz ag a=>exact .aslc0 μ b esz ag a
 |fn μ f first caps vf vc hf hc _ _ ih1 ih2 =>
  exact .fn μ f _ _ vf vc (by rw[yu];exact hf) (by rw[yu];exact hc) (fun j=>by rw[yP];exact ih1 j) (fun j=>by rw[yP];exact ih2 j)
 |nilfn μ=>exact .nilfn μ
 |iface μ t v v' _ ih=>exact .iface μ t _ v' ih
 |nilif μ=>exact .nilif μ
 |agg μ cs vs hl _ ih=>exact .agg μ _ vs (by rw[yu];exact hl) (fun j=>by rw[yP];exact ih j)
 |tup μ cs vs hl _ ih=>exact .tup μ _ vs (by rw[yu];exact hl) (fun j=>by rw[yP];exact ih j)
 |map μ b=>exact .map μ b
 |nilmap μ=>exact .nilmap μ
 |yld μ l=>exact .yld μ l
theorem Rv.zD {ρ:RO} {μ:Option Lay} {v:AV} {cv:Value} (hv:Rv ρ μ v cv):Rv ρ μ v.zD cv:=by
 unfold AV.zD;split
 ·exact hv
 ·exact hv.norm
theorem Rv.zj {ρ:RO} {μ μ':Lay} {f:Nat->Option Nat} (hf:∀b i,f b=some i->μ' i=μ b) {v:AV} {cv:Value} (hv:Rv ρ (some μ) v cv):Rv ρ (some μ') (v.zj f) cv:=by
 generalize hn:some μ=o at hv;induction hv with
 |undef _ v=>exact .undef _ v
 |tt _=>exact .tt _
 |ff _=>exact .ff _
 |bool _ b=>exact .bool _ b
 |lit _ k n=>exact .lit _ k n
 |int _ k n=>exact .int _ k n
 |str _ s=>exact .str _ s
 |nilp _=>exact .nilp _
 |eptr _ cs b o off c hc _ ih=>exact .eptr _ _ b o off c (fun j hj=>hc j (by rw[yQ] at hj;exact hj)) (fun j=>by rw[qt];exact ih j hn)
 |ref m b off =>
  cases hn;cases hb:f b with
  |none=>simp only[AV.zj,hb];exact .undef _ _
  |some i=>simp only[AV.zj,hb];rw[<- hf b i hb];exact .ref μ' i off
 |nilslc _ m=>exact .nilslc _ m
 |eslc _ m a hm=>exact .eslc _ m a hm
 |slc _ m es b o cap k c hm hcap h2 hk hc h _=>exact .slc _ m es b o cap k c hm hcap h2 hk hc h
 |aslc m b off len esz ag cap hcap hr =>
  cases hn;cases hb:f b with
  |none=>simp only[AV.zj,hb];exact .undef _ _
  |some i=>simp only[AV.zj,hb];rw[<- hf b i hb] at hr ⊢;exact .aslc μ' i off len esz ag cap hcap hr
 |aslc0 m b esz ag a =>
  cases hb:f b with
  |none=>simp only[AV.zj,hb];exact .undef _ _
  |some i=>simp only[AV.zj,hb];exact .aslc0 μ' i esz ag a
 |fn _ g first caps vf vc hf' hc _ _ ih1 ih2 =>
  exact .fn _ g _ _ vf vc (by rw[yQ];exact hf') (by rw[yQ];exact hc) (fun j=>by rw[qt];exact ih1 j hn) (fun j=>by rw[qt];exact ih2 j hn)
 |nilfn _=>exact .nilfn _
 |iface _ t v v' _ ih=>exact .iface _ t _ v' (ih hn)
 |nilif _=>exact .nilif _
 |agg _ cs vs hl _ ih=>exact .agg _ _ vs (by rw[yQ];exact hl) (fun j=>by rw[qt];exact ih j hn)
 |tup _ cs vs hl _ ih=>exact .tup _ _ vs (by rw[yQ];exact hl) (fun j=>by rw[qt];exact ih j hn)
 |map m b =>
  cases hn;cases hb:f b with
  |none=>simp only[AV.zj,hb];exact .undef _ _
  |some i=>simp only[AV.zj,hb];rw[<- hf b i hb];exact .map μ' i
 |nilmap _=>exact .nilmap _
 |yld _ l=>exact .yld _ l
theorem qU {l:List AV} (h:AV.zi l=true) (j:Nat):(l.getD j .undef).tree=true:=by
 induction l generalizing j with
 |nil=>rfl
 |cons x r ih =>
  simp only[AV.zi,Bool.and_eq_true] at h;cases j with
  |zero=>exact h.1
  |succ j=>simpa using ih h.2 j
theorem Rv.zn {ρ:RO} {μ:Option Lay} {v:AV} {cv:Value} (hv:Rv ρ μ v cv) (ht:v.tree=true):Rv ρ none v cv:=by
 induction hv with
 |undef _ v=>exact .undef _ v
 |tt _=>exact .tt _
 |ff _=>exact .ff _
 |bool _ b=>exact .bool _ b
 |lit _ k n=>exact .lit _ k n
 |int _ k n=>exact .int _ k n
 |str _ s=>exact .str _ s
 |nilp _=>exact .nilp _
 |eptr _ cs b o off c hc _ ih=>exact .eptr _ cs b o off c hc (fun j=>ih j (qU (by simpa[AV.tree] using ht) j))
 |ref m b off=>simp[AV.tree] at ht
 |nilslc _ m=>exact .nilslc _ m
 |eslc _ m a hm=>exact .eslc _ m a hm
 |slc _ m es b o cap k c hm hcap h2 hk hc h _=>exact .slc _ m es b o cap k c hm hcap h2 hk hc h
 |aslc m b off len esz ag cap hcap hr=>simp[AV.tree] at ht
 |aslc0 m b esz ag a=>simp[AV.tree] at ht
 |fn _ g first caps vf vc hf' hc _ _ ih1 ih2 =>
  simp only[AV.tree,Bool.and_eq_true] at ht;exact .fn _ g _ _ vf vc hf' hc (fun j=>ih1 j (qU ht.1 j)) (fun j=>ih2 j (qU ht.2 j))
 |nilfn _=>exact .nilfn _
 |iface _ t v v' _ ih=>exact .iface _ t _ v' (ih (by simpa[AV.tree] using ht))
 |nilif _=>exact .nilif _
 |agg _ cs vs hl _ ih=>exact .agg _ _ vs hl (fun j=>ih j (qU (by simpa[AV.tree] using ht) j))
 |tup _ cs vs hl _ ih=>exact .tup _ _ vs hl (fun j=>ih j (qU (by simpa[AV.tree] using ht) j))
 |map m b=>simp[AV.tree] at ht
 |nilmap _=>exact .nilmap _
 |yld _ l=>exact .yld _ l
theorem yH {l:List AV} {j:Nat} (h:l.length<=j):l.getD j .undef=.undef:=by simp[List.getD,List.getElem?_eq_none h]
theorem uK {l:List AV} (h:AV.zp l=true) (j:Nat) (hj:j<l.length):(l.getD j .undef).plain=true:=by
 induction l generalizing j with
 |nil=>simp at hj
 |cons x r ih =>
  simp only[AV.zp,Bool.and_eq_true] at h;cases j with
  |zero=>exact h.1
  |succ j=>simpa using ih h.2 j (by simpa using hj)
theorem Rv.zE {ρ ρ':RO} {μ μ':Option Lay} {v:AV} {cv:Value} (hv:Rv ρ μ v cv) (ht:v.plain=true):Rv ρ' μ' v cv:=by
 induction hv with
 |undef _ v=>simp[AV.plain] at ht
 |tt _=>exact .tt _
 |ff _=>exact .ff _
 |bool _ b=>exact .bool _ b
 |lit _ k n=>exact .lit _ k n
 |int _ k n=>exact .int _ k n
 |str _ s=>exact .str _ s
 |nilp _=>exact .nilp _
 |eptr _ cs b o off c hc h _=>simp[AV.plain] at ht
 |ref m b off=>simp[AV.plain] at ht
 |nilslc _ m=>exact .nilslc _ m
 |eslc _ m a hm=>exact .eslc _ m a hm
 |slc _ m es b o cap k c hm hcap h2 hk hc h _=>cases m<;>cases es<;>simp[AV.plain] at ht hm
 |aslc m b off len esz ag cap hcap hr=>simp[AV.plain] at ht
 |aslc0 m b esz ag a=>simp[AV.plain] at ht
 |fn _ g first caps vf vc hf' hc _ _ ih1 ih2=>simp[AV.plain] at ht
 |nilfn _=>exact .nilfn _
 |iface _ t v v' _ ih=>exact .iface _ t _ v' (ih (by simpa[AV.plain] using ht))
 |nilif _=>exact .nilif _
 |agg _ cs vs hl _ ih =>
  refine .agg _ _ vs hl (fun j=>?_);rcases Nat.lt_or_ge j cs.length with hj | hj
  ·exact ih j (uK (by simpa[AV.plain] using ht) j hj)
  ·rw[yH hj];exact .undef _ _
 |tup _ cs vs hl _ ih =>
  refine .tup _ _ vs hl (fun j=>?_);rcases Nat.lt_or_ge j cs.length with hj | hj
  ·exact ih j (uK (by simpa[AV.plain] using ht) j hj)
  ·rw[yH hj];exact .undef _ _
 |map m b=>simp[AV.plain] at ht
 |nilmap _=>exact .nilmap _
 |yld _ l=>exact .yld _ l
def Up (g:Nat):Option (List AV):=if g=0 then some [.int .i64 1,.int .i64 0] else none
def kJ (ρ:RO):Prop:=∀g cs,Up g=some cs->∃c:Nat->Value,(∀j,j<cs.length->ρ.cell g j=some (c j))/\∀j,Rv ρ none (cs.getD j .undef) (c j)
theorem kJ.mono {ρ ρ':RO} (h:kJ ρ) (hle:ρ.le ρ'):kJ ρ':=fun g cs hg=>by
 obtain ⟨c,h1,h2⟩:=h g cs hg;exact⟨c,fun j hj=>hle.cell (h1 j hj),fun j=>(h2 j).mono hle⟩
theorem kJ.rv {ρ:RO} (h:kJ ρ) {g:Nat} {cs:List AV} (hg:Up g=some cs) (μ:Option Lay):Rv ρ μ (.eptr cs 0) (.pointer (some ⟨g,0,none⟩)):=by
 obtain ⟨c,h1,h2⟩:=h g cs hg;have:=Rv.eptr (ρ:=ρ) μ cs g 0 0 c (fun j hj=>by rw[Nat.zero_add];exact h1 j hj) (fun j=>(h2 j).any μ);exact this
end Go.Proofs.YtkojpnkknehhmaaGreatDoor
