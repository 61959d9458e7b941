/- The part of meter.Change that copies the catalogue's tables: the rows of a table. The part of meter.Change that copies the catalogue's tables: the lists of a table. -/
import Derived.Test.YtblebiafhhhflaaGreatXc
namespace Go.Proofs.YtblebiafhhhflaaGreat
open Go.RowKit
abbrev intsA (l:List Int):AV:=.slc 3 (l.map (AV.int .i64))
abbrev rowsA (L:List (List Int)):List AV:=L.map intsA
theorem ones_ints (l:List Int):ones (l.map (AV.int .i64)) = true:=by simp [ones,AV.one]
theorem ones_rows (L:List (List Int)):ones (rowsA L) = true:=by simp [ones,AV.one]
theorem cells_old {w w':World} {X:Nat → Prop} (h:Ext X w w') {B off:Nat} {v:Value} (hB:¬ X B) (hc:w.cell? ⟨B,off,none⟩ = some v):w'.cell? ⟨B,off,none⟩ = some v:=by
 have hlt:B < w.heap.size:=by
  rcases Nat.lt_or_ge B w.heap.size with hl | hl
  ·exact hl
  ·simp [World.cell?,Array.getElem?_eq_none hl] at hc
 unfold World.cell? at *
 simp only [h.block B hlt hB] at *
 exact hc
theorem Ext.new {X:Nat → Prop} {w w' w'':World} {V:Nat} (h:Ext X w w') (h':Ext (· = V) w' w'') (hV:w.heap.size ≤ V):Ext X w w'' :=
 ⟨h'.os.trans h.os,h'.tape.trans h.tape,h'.output.trans h.output,Nat.le_trans h.size h'.size,fun k hk hx => (h'.block k (Nat.lt_of_lt_of_le hk h.size) (by omega)).trans (h.block k hk hx)⟩
theorem below_trans {w w' w'':World} (h:Below w.heap.size w w') (h':Below w'.heap.size w' w''):Below w.heap.size w w'' :=
 ⟨h'.os.trans h.os,h'.tape.trans h.tape,h'.output.trans h.output,Nat.le_trans h.size h'.size,fun k hk => (h'.block k (Nat.lt_of_lt_of_le hk h.size)).trans (h.block k hk)⟩
theorem rvs1 {ρ:RO} {v:AV} {cv:Value} (h:Rv ρ none v cv):Rvs ρ none [v] #[cv]:=⟨rfl,fun j => by
 cases j with
 | zero => exact h
 | succ j => exact .undef ..⟩
section
variable {ro:Option Nat} {a a':Act} {w w':World} {ρ:RO} {T0 i6 V m cap k:Nat} {c cur:Array Value} {e e':TypeId} {row:List Int} {r23:Array Oper} {Q:Exit → Act → World → Prop}
def fx23 (T0 i6 m cap V k:Nat) (hdr:Value):List (Option Value) :=
 [some (.pointer (some ⟨T0,i6,none⟩)),some (.pointer (some ⟨T0,i6,none⟩)),some (.pointer (some ⟨T0,i6 + 3,none⟩)),some (.slice (some ⟨V,0,none⟩) m cap),some (.int .i64 k),some (.pointer (some ⟨T0,i6,none⟩)),some (.pointer (some ⟨T0,i6,none⟩)),some (.pointer (some ⟨T0,i6 + 3,none⟩)),
  some (.slice (some ⟨V,0,none⟩) m cap),some (.int .i64 k),some (.pointer (some ⟨V,k,none⟩)),some hdr,none,some (.pointer (some ⟨V,k,none⟩)),none]
structure Inv23 (a:Act) (w:World) (ρ:RO) (fx:List (Option Value)) (es:List AV) (Fin:World → Prop) (listed:Array Bool) (a':Act) (w':World):Prop where
 size:a'.tmps.size = a.tmps.size
 dfr:a'.defers = a.defers
 same:∀ t:Nat,(t < 151 ∨ 164 < t) → a'.eval (.tmp t) = a.eval (.tmp t)
 val:∀ j v,fx[j]? = some (some v) → listed.getD j false = true → a'.eval (.tmp (151 + j)) = v
 bef:listed.getD 14 false = false → ∃ ρ',Kn ρ w.heap.size ρ' w' ∧ Below w.heap.size w w' ∧ (listed.getD 12 false = true → Rv ρ' none (.slc 3 es) (a'.eval (.tmp 163)))
 aft:listed.getD 14 false = true → Fin w'
theorem Inv23.put {fx:List (Option Value)} {es:List AV} {Fin:World → Prop} {listed:Array Bool} (h:Inv23 a w ρ fx es Fin listed a' w') {j:Nat} {v:Value} (hj:fx[j]? = some (some v)) (hj13:j ≤ 13) (h12:j ≠ 12) (sz:166 < a.tmps.size) :
  Inv23 a w ρ fx es Fin (listed.setIfInBounds j true) (a'.put (some (151 + j)) v) w':=by
 have sz':166 < a'.tmps.size:=by rw [h.size]; exact sz
 refine ⟨by rw [size_put]; exact h.size,h.dfr,fun (t:Nat) ht => ?_,fun j' v' hv' hl => ?_,fun h14 => ?_,fun h14 => ?_⟩
 ·rw [ev_put sz' (by omega),if_neg (by omega)]; exact h.same t ht
 ·rw [ev_put sz' (by omega)]
  by_cases hjj:j' = j
  ·subst hjj
   rw [if_pos rfl]
   rw [hj] at hv'; cases hv'; rfl
  ·rw [if_neg (by omega)]
   rw [getD_set_ne false (Ne.symm hjj)] at hl
   exact h.val j' v' hv' hl
 ·rw [getD_set_ne false (by omega)] at h14
  obtain ⟨ρ',h1,h2,h3⟩:=h.bef h14
  refine ⟨ρ',h1,h2,fun h12' => ?_⟩
  rw [getD_set_ne false h12] at h12'
  rw [ev_put sz' (by omega),if_neg (by omega)]
  exact h3 h12'
 ·rw [getD_set_ne false (by omega)] at h14
  exact h.aft h14
theorem reg23 (hc:r23.toList.map coreO = opsL l23) (hw:r23.toList.map aftO = a23) (sz:166 < a.tmps.size) (h20:a.eval (.tmp 20) = .pointer (some ⟨T0,i6,none⟩)) (h21:a.eval (.tmp 21) = .int .i64 k) (hk:k < m)
  (hT:w.cell? ⟨T0,i6 + 3,none⟩ = some (.slice (some ⟨V,0,none⟩) m cap)) (hV:w.heap[V]? = some (.cells cur e' (0,0))) (hkc:k < cur.size) (hVρ:ρ V = none) (hro:∀ k o,ρ k = some o → w.heap[k]? = some o)
  (hrv:Rv ρ none (intsA row) (cur.getD k Go.undef)) (hf:FreshOf0 Tryz.prog 55 [intsA row] 1 (row.map (AV.int .i64)))
  (hQ:∀ (a':Act) (w':World) (ρ':RO) (v':Value),a'.tmps.size = a.tmps.size → a'.defers = a.defers → (∀ t:Nat,(t < 151 ∨ 164 < t) → a'.eval (.tmp t) = a.eval (.tmp t)) → Kn ρ w.heap.size ρ' w' → Ext (· = V) w w' → w'.heap[V]? = some (.cells (cur.setIfInBounds k v') e' (0,0)) → Rv ρ' none (intsA row) v' → Q .normal a' w') :
  (Code.region 23 r23 true).wpIn (Fr ro) 0 Tryz.prog Q a w:=by
 have hVlt:V < w.heap.size:=(Array.getElem?_eq_some_iff.1 hV).1
 have hcV:w.cell? ⟨V,k,none⟩ = some (cur.getD k Go.undef):=by
  simp [World.cell?,hV,Array.getD,hkc]
 refine any_region (al:=a23) (Inv23 a w ρ (fx23 T0 i6 m cap V k (cur.getD k Go.undef)) (row.map (AV.int .i64)) (fun w' => ∃ (ρ':RO) (v':Value),Kn ρ w.heap.size ρ' w' ∧ Ext (· = V) w w' ∧ w'.heap[V]? = some (.cells (cur.setIfInBounds k v') e' (0,0)) ∧ Rv ρ' none (intsA row) v')) hw (by decide) ?_ ?_ ?_
 ·intro listed a' w' j hjs hi hcl hun hdep hls
  have hj15:j < 15:=by rw [core_size hc] at hjs; exact hjs
  have sz':166 < a'.tmps.size:=by rw [hi.size]; exact sz
  have h14:j ∈ a23.getD 14 [] → listed.getD 14 false = false:=fun hm => by
   cases hg:listed.getD 14 false with
   | false => rfl
   | true => have:=hcl 14 hg j hm; rw [hun] at this; cases this
  have e20:=(hi.same 20 (by omega)).trans h20
  have e21:=(hi.same 21 (by omega)).trans h21
  have ld:j ∈ a23.getD 14 [] → ∀ {B off:Nat} {v:Value},w.cell? ⟨B,off,none⟩ = some v → w'.cell? ⟨B,off,none⟩ = some v:=fun hm _ _ _ hc => by
   obtain ⟨ρ',h1,h2,-⟩:=hi.bef (h14 hm)
   exact cells_old (X:=fun _ => False) (Ext.of_below h2) (fun h => h) hc
  match j,hj15 with
  | 0,_ => exact anyV hc rfl (fun o ho => r_move ho e20) (hi.put (v:=.pointer (some ⟨T0,i6,none⟩)) rfl (by omega) (by omega) sz)
  | 1,_ => exact anyV hc rfl (fun o ho => r_nil ho (hi.val 0 _ rfl (hdep 0 (by decide)))) (hi.put (j:=1) rfl (by omega) (by omega) sz)
  | 2,_ => exact anyV hc rfl (fun o ho => r_f3 ho (hi.val 1 _ rfl (hdep 1 (by decide)))) (hi.put (j:=2) rfl (by omega) (by omega) sz)
  | 3,_ => exact anyV hc rfl (fun o ho => r_load133 ho (hi.val 2 _ rfl (hdep 2 (by decide))) (ld (by decide) hT)) (hi.put (j:=3) rfl (by omega) (by omega) sz)
  | 4,_ => exact anyV hc rfl (fun o ho => r_move ho e21) (hi.put (j:=4) rfl (by omega) (by omega) sz)
  | 5,_ => exact anyV hc rfl (fun o ho => r_move ho e20) (hi.put (j:=5) rfl (by omega) (by omega) sz)
  | 6,_ => exact anyV hc rfl (fun o ho => r_nil ho (hi.val 5 _ rfl (hdep 5 (by decide)))) (hi.put (j:=6) rfl (by omega) (by omega) sz)
  | 7,_ => exact anyV hc rfl (fun o ho => r_f3 ho (hi.val 6 _ rfl (hdep 6 (by decide)))) (hi.put (j:=7) rfl (by omega) (by omega) sz)
  | 8,_ => exact anyV hc rfl (fun o ho => r_load133 ho (hi.val 7 _ rfl (hdep 7 (by decide))) (ld (by decide) hT)) (hi.put (j:=8) rfl (by omega) (by omega) sz)
  | 9,_ => exact anyV hc rfl (fun o ho => r_move ho e21) (hi.put (j:=9) rfl (by omega) (by omega) sz)
  | 10,_ => exact anyV hc rfl (fun o ho => r_at133 ho (hi.val 8 _ rfl (hdep 8 (by decide))) (hi.val 9 _ rfl (hdep 9 (by decide))) hk) (hi.put (j:=10) rfl (by omega) (by omega) sz)
  | 11,_ => exact anyV hc rfl (fun o ho => r_load61 ho (hi.val 10 _ rfl (hdep 10 (by decide))) (ld (by decide) hcV)) (hi.put (j:=11) rfl (by omega) (by omega) sz)
  | 12,_ =>
   obtain ⟨ρ',hkn,hbl,-⟩:=hi.bef (h14 (by decide))
   refine anyC hc rfl (fun o ho => r_call1 hf.enter ho (hi.val 11 _ rfl (hdep 11 (by decide)))) ((hf.run ρ' w' _ hkn.ro (rvs1 (hrv.mono hkn.le))).mono fun en w'' hfr => ?_)
   obtain ⟨ρ'',cv,rfl,hkn2,hbl2,hrv2⟩:=fresh_rv hfr (ones_ints row)
   refine ⟨cv,rfl,by rw [size_put]; exact hi.size,hi.dfr,fun (t:Nat) ht => ?_,fun j' v' hv' hl => ?_,fun _ => ⟨ρ'',hkn.trans hkn2 hbl.size,below_trans hbl hbl2,fun _ => ?_⟩,fun hl => ?_⟩
   ·rw [ev_put sz' (by omega),if_neg (by omega)]; exact hi.same t ht
   ·have hne:j' ≠ 12:=fun h => by subst h; cases hv'
    rw [ev_put sz' (by omega),if_neg (by omega)]
    rw [getD_set_ne false (Ne.symm hne)] at hl
    exact hi.val j' v' hv' hl
   ·rw [ev_put sz' (by omega),if_pos rfl]; exact hrv2
   ·rw [getD_set_ne false (by omega),h14 (by decide)] at hl; cases hl
  | 13,_ => exact anyV hc rfl (fun o ho => r_at133 ho (hi.val 3 _ rfl (hdep 3 (by decide))) (hi.val 4 _ rfl (hdep 4 (by decide))) hk) (hi.put (j:=13) rfl (by omega) (by omega) sz)
  | 14,_ =>
   obtain ⟨ρ',hkn,hbl,h163⟩:=hi.bef hun
   have hv':=h163 (hdep 12 (by decide))
   have hVw:w'.heap[V]? = some (.cells cur e' (0,0)):=by rw [hbl.block V hVlt]; exact hV
   refine anyS hc rfl (fun o ho => r_store ho u61 k61 (hi.val 13 _ rfl (hdep 13 (by decide))) hVw hkc rfl (one_slice hv')) ⟨hi.size,hi.dfr,hi.same,fun j' v' hv' hl => ?_,fun hl => ?_,fun _ => ⟨ρ',a'.eval (.tmp 163),⟨hkn.le,fun q o hq => ?_,hkn.new⟩,(Ext.of_below hbl).trans (Ext.setCell rfl),heap_setCell_same w' V k cur e' _ hVw,hv'⟩⟩
   ·have hne:j' ≠ 14:=fun h => by subst h; cases hv'
    rw [getD_set_ne false (Ne.symm hne)] at hl
    exact hi.val j' v' hv' hl
   ·exfalso
    have hlt:14 < listed.size:=by rw [hls]; exact hjs
    simp [Array.getD,hlt] at hl
   ·have hqV:q ≠ V:=fun h => by
     subst h
     rw [hkn.none hVρ hVlt] at hq; cases hq
    rw [heap_setCell_other w' _ q _ hqV]; exact hkn.ro q o hq
 ·intro listed a' w' hall hi
  obtain ⟨ρ',v',h1,h2,h3,h4⟩:=hi.aft (hall 14 (by rw [core_size hc]; decide))
  exact hQ a' w' ρ' v' hi.size hi.dfr hi.same h1 h2 h3 h4
 ·have hf0:∀ j,(Array.replicate r23.size false).getD j false = false:=fun j => by
   by_cases hj:j < r23.size <;> simp [Array.getD,hj]
  exact ⟨rfl,rfl,fun _ _ => rfl,fun j v _ hl => (by rw [hf0] at hl; cases hl),fun _ => ⟨ρ,Kn.refl hro,⟨rfl,rfl,rfl,Nat.le_refl _,fun _ _ => rfl⟩,fun hl => (by rw [hf0] at hl; cases hl)⟩,fun hl => (by rw [hf0] at hl; cases hl)⟩
end
structure AtI (a0:Act) (wr:World) (ρr ρs:RO) (T0:Nat) (c:Array Value) (e:TypeId) (Vs:List (List Int)) (sv:Value) (k:Nat) (a:Act) (w:World):Prop where
 size:a.tmps.size = a0.tmps.size
 dfr:a.defers = a0.defers
 same:∀ t:Nat,¬ (t = 21 ∨ 148 ≤ t ∧ t ≤ 165) → a.eval (.tmp t) = a0.eval (.tmp t)
 t148:a.eval (.tmp 148) = .int .i64 k
 mem:∃ ρ',ρs.le ρ' ∧ Kn ρr wr.heap.size ρ' w ∧ Ext (· = T0) wr w ∧ w.heap[T0]? = some (.cells c e (0,0)) ∧ Row ρ' wr.heap.size w (rowsA Vs) sv
theorem wrap_small {j:Nat} (h:j ≤ 100000):IntKind.i64.wrap ((j:Int) + 1) = ((j + 1:Nat):Int):=by
 simp only [IntKind.wrap,IntKind.bits,IntKind.signed]
 simp
 omega
theorem rows_getD {Vs:List (List Int)} {k:Nat} (hk:k < Vs.length):(rowsA Vs).getD k .undef = intsA (Vs.getD k []):=by
 simp [List.getD,hk]
section
variable {ro:Option Nat} {a0 a:Act} {wr w:World} {ρr ρs:RO} {T0 i6 k:Nat} {c:Array Value} {e:TypeId} {Vs:List (List Int)} {sv:Value} {r21 r22 r23 r24:Array Oper} {Q:Exit → Act → World → Prop}
theorem roundI (h21:r21.toList.map coreO = opsL l21) (h22:r22.toList.map coreO = opsL l22) (h23:r23.toList.map coreO = opsL l23) (w23:r23.toList.map aftO = a23) (h24:r24.toList.map coreO = opsL l24) (hb:Vs.length ≤ 100000) (hf:∀ x ∈ Vs,FreshOf0 Tryz.prog 55 [intsA x] 1 (x.map (AV.int .i64)))
  (sz:166 < a0.tmps.size) (h20:a0.eval (.tmp 20) = .pointer (some ⟨T0,i6,none⟩)) (h147:a0.eval (.tmp 147) = .int .i64 Vs.length) (hTc:c[i6 + 3]? = some sv) (hT0:T0 < wr.heap.size) (h:AtI a0 wr ρr ρs T0 c e Vs sv k a w) (hk:k ≤ Vs.length)
  (hstop:k = Vs.length → ∀ a',AtI a0 wr ρr ρs T0 c e Vs sv k a' w → Q (.exit 3) a' w) (hgo:k < Vs.length → ∀ a' w',AtI a0 wr ρr ρs T0 c e Vs sv (k + 1) a' w' → Q .normal a' w'):(bodyI r21 r22 r23 r24).wpIn (Fr ro) 0 Tryz.prog Q a w:=by
 have sz':166 < a.tmps.size:=by rw [h.size]; exact sz
 have e147:=(h.same 147 (by omega)).trans h147
 have e20:=(h.same 20 (by omega)).trans h20
 unfold bodyI
 refine wpIn_seq (regionOf h21 (rgV (k:=0) (m:=0) h21 rfl (fun o ho => r_lss ho h.t148 e147) (stepE ?_)))
 have e149:(a.put (some 149) (.bool (decide ((k:Int) < Vs.length)))).eval (.tmp 149) = .bool (decide (k < Vs.length)):=by
  rw [ev_put sz' (by decide),if_pos rfl]; simp
 by_cases hlt:k < Vs.length
 ·refine wpIn_seq (wpIn_cond_true (by rw [e149]; simp [hlt]) (wpIn_skip ?_))
  refine wpIn_seq (wpIn_block (wpIn_seq (regionOf h22 ?_)))
  refine rgV (k:=0) (m:=1) h22 rfl (fun o ho => r_move ho (v:=.int .i64 k) (by simp [ev_put,sz',h.t148])) ?_
  refine rgV (k:=1) (m:=0) h22 rfl (fun o ho => r_assign ho (v:=.int .i64 k) (by simp [ev_put,size_put,sz'])) (stepE ?_)
  obtain ⟨ρ',hle,hkn,hext,hT,hrow⟩:=h.mem
  rcases hrow with ⟨he,-⟩ | ⟨V,cap,cur,e',hsv,-,hcap,hVN,hVρ,hV,hcs,hrv⟩
  ·have h0:Vs.length = 0:=by simpa using congrArg List.length he
   omega
  have hes:(rowsA Vs).length = Vs.length:=List.length_map ..
  rw [hes] at hsv hcap hcs
  subst hsv
  have hrk:=hrv k
  rw [rows_getD hlt] at hrk
  have hmem:Vs.getD k [] ∈ Vs:=by rw [List.getD_eq_getElem?_getD,List.getElem?_eq_getElem hlt]; exact List.getElem_mem hlt
  refine reg23 (ρ:=ρ') (T0:=T0) (i6:=i6) (V:=V) (cap:=cap) (m:=Vs.length) (k:=k) (cur:=cur) (row:=Vs.getD k []) h23 w23 (by simp only [size_put]; exact sz') (by simp [ev_put,size_put,sz',e20]) (by simp [ev_put,size_put,sz']) hlt (by simp [World.cell?,hT,hTc]) hV (by omega) hVρ hkn.ro hrk (hf _ hmem) ?_
  intro a' w' ρ'' v' hsz hdf hsame hkn2 hext2 hV2 hrv2
  have sza:166 < a'.tmps.size:=by rw [hsz]; simp only [size_put]; exact sz'
  have hTV:T0 ≠ V:=by omega
  refine regionOf h24 ?_
  refine rgV (k:=0) (m:=1) h24 rfl (fun o ho => (r_add ho (i:=k) (j:=1) ((hsame 148 (by omega)).trans (by simp [ev_put,size_put,sz',h.t148])) rfl).trans (by rw [wrap_small (by omega)])) ?_
  refine rgV (k:=1) (m:=0) h24 rfl (fun o ho => r_move ho (v:=.int .i64 ((k + 1:Nat):Int)) (by simp [ev_put,size_put,sza])) (stepE ?_)
  refine hgo hlt _ _ ⟨by simp only [size_put]; rw [hsz]; simp only [size_put]; exact h.size,by simp only [dfr_put]; rw [hdf]; simp only [dfr_put]; exact h.dfr,fun (t:Nat) ht => ?_,by simp [ev_put,size_put,sza],ρ'',hle.trans hkn2.le,hkn.trans hkn2 hext.size,hext.new hext2 hVN,?_,.inr ⟨V,cap,_,e',by rw [hes],by omega,by omega,hVN,hkn2.none hVρ (Array.getElem?_eq_some_iff.1 hV).1,hV2,by rw [Array.size_setIfInBounds]; omega,fun j => ?_⟩⟩
  ·rw [ev_ne (by omega),ev_ne (by omega),hsame t (by omega),ev_ne (by omega),ev_ne (by omega),ev_ne (by omega)]
   exact h.same t ht
  ·rw [hext2.block T0 (Nat.lt_of_lt_of_le hT0 hext.size) hTV]; exact hT
  ·rw [setIf_getD]
   by_cases hj:j = k ∧ k < cur.size
   ·rw [if_pos hj,hj.1,rows_getD hlt]; exact hrv2
   ·rw [if_neg hj]; exact (hrv j).mono hkn2.le
 ·refine wpIn_seq (wpIn_cond_false (by rw [e149]; simp [hlt]) (wpIn_exit ?_))
  refine hstop (by omega) _ ⟨by rw [size_put]; exact h.size,h.dfr,fun (t:Nat) ht => ?_,by rw [ev_put sz' (by decide),if_neg (by omega)]; exact h.t148,h.mem⟩
  rw [ev_put sz' (by decide),if_neg (by omega)]; exact h.same t ht
theorem roundsI (h21:r21.toList.map coreO = opsL l21) (h22:r22.toList.map coreO = opsL l22) (h23:r23.toList.map coreO = opsL l23) (w23:r23.toList.map aftO = a23) (h24:r24.toList.map coreO = opsL l24) (hb:Vs.length ≤ 100000) (hf:∀ x ∈ Vs,FreshOf0 Tryz.prog 55 [intsA x] 1 (x.map (AV.int .i64)))
  (sz:166 < a0.tmps.size) (h20:a0.eval (.tmp 20) = .pointer (some ⟨T0,i6,none⟩)) (h147:a0.eval (.tmp 147) = .int .i64 Vs.length) (hTc:c[i6 + 3]? = some sv) (hT0:T0 < wr.heap.size)
  (hstop:∀ a w,AtI a0 wr ρr ρs T0 c e Vs sv Vs.length a w → Q (.exit 3) a w):∀ (d k:Nat) (a:Act) (w:World),k + d = Vs.length → AtI a0 wr ρr ρs T0 c e Vs sv k a w → Code.roundsIn (Fr ro) 0 Tryz.prog (bodyI r21 r22 r23 r24) Q (d + 1) a w:=by
 intro d
 induction d with
 | zero =>
  intro k a w hk h
  rw [roundsIn_succ]
  exact roundI h21 h22 h23 w23 h24 hb hf sz h20 h147 hTc hT0 h (by omega) (fun he a' h' => hstop a' w (by rw [← he]; exact h')) (fun hlt => by omega)
 | succ d ih =>
  intro k a w hk h
  rw [roundsIn_succ]
  exact roundI h21 h22 h23 w23 h24 hb hf sz h20 h147 hTc hT0 h (by omega) (fun he => by omega) (fun hlt a' w' h' => ih (k + 1) a' w' (by omega) h')
end
end Go.Proofs.YtblebiafhhhflaaGreat
namespace Go.Proofs.YtblebiafhhhflaaGreat
open Go.RowKit
theorem Row.mono {ρ:RO} {N N':Nat} {w:World} {es:List AV} {cv:Value} (h:Row ρ N' w es cv) (hN:N ≤ N'):Row ρ N w es cv :=
 h.imp id fun ⟨V,cap,cur,e,h1,h2,h3,h4,h5⟩ => ⟨V,cap,cur,e,h1,h2,h3,Nat.le_trans hN h4,h5⟩
section
variable {ro:Option Nat} {a a':Act} {w w':World} {ρ:RO} {T0 i6:Nat} {c:Array Value} {e:TypeId} {us vs:List Int} {Vs:List (List Int)} {v1 v2 v3:Value} {r19:Array Oper} {Q:Exit → Act → World → Prop}
def dd19 (j:Nat):Nat:=if j < 20 then 119 + j else if j = 20 ∨ j = 23 ∨ j = 26 then 500 + j else if j < 23 then 118 + j else 117 + j
theorem dd19_ne {j j':Nat} (h:j' ≠ j) (hj:j < 27) (hj':j' < 27):dd19 j' ≠ dd19 j:=by
 unfold dd19
 repeat' split
 all_goals omega
def pT (T0 k:Nat):Option Value:=some (.pointer (some ⟨T0,k,none⟩))
def fx19 (T0 i6:Nat) (v1 v2 v3:Value):List (Option Value) :=
 [pT T0 i6,pT T0 i6,pT T0 i6,pT T0 i6,pT T0 i6,pT T0 (i6 + 1),some v1,none,pT T0 i6,pT T0 i6,pT T0 (i6 + 2),some v2,none,pT T0 i6,pT T0 i6,pT T0 (i6 + 3),some v3,none,pT T0 i6,pT T0 (i6 + 1),none,pT T0 i6,pT T0 (i6 + 2),none,pT T0 i6,pT T0 (i6 + 3),none]
structure Inv19 (a:Act) (w:World) (ρ:RO) (fx:List (Option Value)) (T0 i6:Nat) (c:Array Value) (e:TypeId) (us vs:List Int) (es:List AV) (listed:Array Bool) (a':Act) (w':World):Prop where
 size:a'.tmps.size = a.tmps.size
 dfr:a'.defers = a.defers
 same:∀ t:Nat,(t < 119 ∨ 142 < t) → a'.eval (.tmp t) = a.eval (.tmp t)
 val:∀ j v,j < 27 → fx[j]? = some (some v) → listed.getD j false = true → a'.eval (.tmp (dd19 j)) = v
 mem:∃ ρ',Kn ρ w.heap.size ρ' w' ∧ Ext (· = T0) w w' ∧ (listed.getD 7 false = true → Rv ρ' none (intsA us) (a'.eval (.tmp 126))) ∧ (listed.getD 12 false = true → Rv ρ' none (intsA vs) (a'.eval (.tmp 131))) ∧ (listed.getD 17 false = true → Row ρ' w.heap.size w' es (a'.eval (.tmp 136))) ∧
  ∃ c':Array Value,w'.heap[T0]? = some (.cells c' e (0,0)) ∧ c'.size = c.size ∧ (∀ j,j ≠ i6 + 1 → j ≠ i6 + 2 → j ≠ i6 + 3 → c'[j]? = c[j]?) ∧ (c'[i6 + 1]? = if listed.getD 20 false = true then some (a'.eval (.tmp 126)) else c[i6 + 1]?) ∧
   (c'[i6 + 2]? = if listed.getD 23 false = true then some (a'.eval (.tmp 131)) else c[i6 + 2]?) ∧ (c'[i6 + 3]? = if listed.getD 26 false = true then some (a'.eval (.tmp 136)) else c[i6 + 3]?)
theorem Inv19.put {fx:List (Option Value)} {es:List AV} {listed:Array Bool} (h:Inv19 a w ρ fx T0 i6 c e us vs es listed a' w') {j d:Nat} {v:Value} (hj:fx[j]? = some (some v)) (hd:d = dd19 j) (hj27:j < 27) (hn:j ≠ 7 ∧ j ≠ 12 ∧ j ≠ 17 ∧ j ≠ 20 ∧ j ≠ 23 ∧ j ≠ 26) (sz:166 < a.tmps.size) :
  Inv19 a w ρ fx T0 i6 c e us vs es (listed.setIfInBounds j true) (a'.put (some d) v) w':=by
 have sz':166 < a'.tmps.size:=by rw [h.size]; exact sz
 have hdr:119 ≤ d ∧ d ≤ 142 ∧ d ≠ 126 ∧ d ≠ 131 ∧ d ≠ 136:=by
  subst hd; unfold dd19
  repeat' split
  all_goals omega
 obtain ⟨n7,n12,n17,n20,n23,n26⟩:=hn
 have pe:∀ t,t ≠ d → (a'.put (some d) v).eval (.tmp t) = a'.eval (.tmp t):=fun t ht => by rw [ev_put sz' (by omega),if_neg ht]
 refine ⟨by rw [size_put]; exact h.size,h.dfr,fun t ht => by rw [pe t (by omega)]; exact h.same t ht,fun j' v' hj' hv' hl => ?_,?_⟩
 ·by_cases hjj:j' = j
  ·subst hjj
   rw [hd.symm,ev_put sz' (by omega),if_pos rfl]
   rw [hj] at hv'; cases hv'; rfl
  ·rw [pe _ (by rw [hd]; exact dd19_ne hjj hj27 hj')]
   rw [getD_set_ne false (Ne.symm hjj)] at hl
   exact h.val j' v' hj' hv' hl
 ·obtain ⟨ρ',h1,h2,h3,h4,h5,c',h6⟩:=h.mem
  refine ⟨ρ',h1,h2,?_,?_,?_,c',?_⟩
  ·rw [getD_set_ne false n7,pe 126 (by omega)]; exact h3
  ·rw [getD_set_ne false n12,pe 131 (by omega)]; exact h4
  ·rw [getD_set_ne false n17,pe 136 (by omega)]; exact h5
  ·rw [getD_set_ne false n20,getD_set_ne false n23,getD_set_ne false n26,pe 126 (by omega),pe 131 (by omega),pe 136 (by omega)]; exact h6
theorem reg19 (hc:r19.toList.map coreO = opsL l19) (hw:r19.toList.map aftO = a19) (sz:166 < a.tmps.size) (h20:a.eval (.tmp 20) = .pointer (some ⟨T0,i6,none⟩)) (hT:w.heap[T0]? = some (.cells c e (0,0))) (hcs:i6 + 3 < c.size)
  (hv1:c[i6 + 1]? = some v1) (hv2:c[i6 + 2]? = some v2) (hv3:c[i6 + 3]? = some v3) (hTρ:ρ T0 = none) (hro:∀ k o,ρ k = some o → w.heap[k]? = some o) (hr1:Rv ρ none (intsA us) v1) (hr2:Rv ρ none (intsA vs) v2) (hr3:Rv ρ none (.slc 3 (rowsA Vs)) v3)
  (hf1:FreshOf0 Tryz.prog 55 [intsA us] 1 (us.map (AV.int .i64))) (hf2:FreshOf0 Tryz.prog 55 [intsA vs] 1 (vs.map (AV.int .i64))) (hf3:FreshOf0 Tryz.prog 56 [.slc 3 (rowsA Vs)] 1 (rowsA Vs))
  (hQ:∀ (a':Act) (w':World) (ρ':RO) (c':Array Value) (u1 u2 u3:Value),a'.tmps.size = a.tmps.size → a'.defers = a.defers → (∀ t:Nat,(t < 119 ∨ 142 < t) → a'.eval (.tmp t) = a.eval (.tmp t)) → Kn ρ w.heap.size ρ' w' → Ext (· = T0) w w' → w'.heap[T0]? = some (.cells c' e (0,0)) → c'.size = c.size →
   (∀ j,j ≠ i6 + 1 → j ≠ i6 + 2 → j ≠ i6 + 3 → c'[j]? = c[j]?) → c'[i6 + 1]? = some u1 → c'[i6 + 2]? = some u2 → c'[i6 + 3]? = some u3 → Rv ρ' none (intsA us) u1 → Rv ρ' none (intsA vs) u2 → Row ρ' w.heap.size w' (rowsA Vs) u3 → Q .normal a' w') :
  (Code.region 19 r19 true).wpIn (Fr ro) 0 Tryz.prog Q a w:=by
 have hTlt:T0 < w.heap.size:=(Array.getElem?_eq_some_iff.1 hT).1
 refine any_region (al:=a19) (Inv19 a w ρ (fx19 T0 i6 v1 v2 v3) T0 i6 c e us vs (rowsA Vs)) hw (by decide) ?_ ?_ ?_
 ·intro listed a' w' j hjs hi hcl hun hdep hls
  have hj27:j < 27:=by rw [core_size hc] at hjs; exact hjs
  have sz':166 < a'.tmps.size:=by rw [hi.size]; exact sz
  have fl:∀ {q:Nat},j ∈ a19.getD q [] → listed.getD q false = false:=fun {q} hm => by
   cases hg:listed.getD q false with
   | false => rfl
   | true => have:=hcl q hg j hm; rw [hun] at this; cases this
  have fl17:j = 7 → listed.getD 17 false = false:=fun hj => by
   cases hg:listed.getD 17 false with
   | false => rfl
   | true => have:=hcl 12 (hcl 17 hg 12 (by decide)) 7 (by decide); rw [← hj,hun] at this; cases this
  have e20:=(hi.same 20 (by omega)).trans h20
  have dv:∀ {q:Nat} {v:Value},q < 27 → (fx19 T0 i6 v1 v2 v3)[q]? = some (some v) → q ∈ a19.getD j [] → a'.eval (.tmp (dd19 q)) = v:=fun hq hv hm => hi.val _ _ hq hv (hdep _ hm)
  have now:listed.size = r19.size → (listed.setIfInBounds j true).getD j false = true:=fun h => by
   have hlt:j < listed.size:=by rw [h]; exact hjs
   simp [Array.getD,hlt]
  obtain ⟨ρ',hkn,hext,h7,h12,h17,c',hT',hcs',hoth,hc1,hc2,hc3⟩:=hi.mem
  have ldT:∀ {k:Nat} {v:Value},c'[k]? = some v → w'.cell? ⟨T0,k,none⟩ = some v:=fun hk => by simp [World.cell?,hT',hk]
  have valC:∀ {d:Nat} {cv:Value},(d = 126 ∧ j = 7 ∨ d = 131 ∧ j = 12 ∨ d = 136 ∧ j = 17) → ∀ j' v,j' < 27 → (fx19 T0 i6 v1 v2 v3)[j']? = some (some v) → (listed.setIfInBounds j true).getD j' false = true → (a'.put (some d) cv).eval (.tmp (dd19 j')) = v:=by
   intro d cv hd j' v hj' hv hl
   have hne:j' ≠ j:=fun h => by
    subst h
    rcases hd with ⟨_,h⟩ | ⟨_,h⟩ | ⟨_,h⟩ <;> (subst h; cases hv)
   have hdd:dd19 j' ≠ d:=by
    have:d = dd19 j:=by rcases hd with ⟨h1,h2⟩ | ⟨h1,h2⟩ | ⟨h1,h2⟩ <;> (subst h2; rw [h1]; rfl)
    rw [this]; exact dd19_ne hne hj27 hj'
   rw [ev_put sz' (by omega),if_neg hdd]
   rw [getD_set_ne false (Ne.symm hne)] at hl
   exact hi.val j' v hj' hv hl
  have sameC:∀ {d:Nat} {cv:Value},119 ≤ d → d ≤ 142 → ∀ t:Nat,(t < 119 ∨ 142 < t) → (a'.put (some d) cv).eval (.tmp t) = a.eval (.tmp t):=fun h1 h2 t ht => by
   rw [ev_put sz' (by omega),if_neg (by omega)]; exact hi.same t ht
  have valS:(j = 20 ∨ j = 23 ∨ j = 26) → ∀ j' v,j' < 27 → (fx19 T0 i6 v1 v2 v3)[j']? = some (some v) → (listed.setIfInBounds j true).getD j' false = true → a'.eval (.tmp (dd19 j')) = v:=by
   intro hd j' v hj' hv hl
   have hne:j' ≠ j:=fun h => by
    subst h
    rcases hd with h | h | h <;> (subst h; cases hv)
   rw [getD_set_ne false (Ne.symm hne)] at hl
   exact hi.val j' v hj' hv hl
  have knS:∀ {k:Nat} {v:Value},Kn ρ w.heap.size ρ' (w'.setCell ⟨T0,k,none⟩ v):=fun {k v} => ⟨hkn.le,fun q o hq => by
   have hqT:q ≠ T0:=fun h => by
    subst h
    rw [hkn.none hTρ hTlt] at hq; cases hq
   rw [heap_setCell_other w' _ q _ hqT]; exact hkn.ro q o hq,hkn.new⟩
  have rowS:∀ {k:Nat} {v:Value},Row ρ' w.heap.size w' (rowsA Vs) (a'.eval (.tmp 136)) → Row ρ' w.heap.size (w'.setCell ⟨T0,k,none⟩ v) (rowsA Vs) (a'.eval (.tmp 136)):=fun h => h.same fun q hq _ => heap_setCell_other w' _ q _ (fun (h:q = T0) => by omega)
  match j,hj27 with
  | 0,_ => exact anyV hc rfl (fun o ho => r_move ho e20) (hi.put (j:=0) rfl rfl (by decide) (by decide) sz)
  | 1,_ => exact anyV hc rfl (fun o ho => r_move ho e20) (hi.put (j:=1) rfl rfl (by decide) (by decide) sz)
  | 2,_ => exact anyV hc rfl (fun o ho => r_move ho e20) (hi.put (j:=2) rfl rfl (by decide) (by decide) sz)
  | 3,_ => exact anyV hc rfl (fun o ho => r_move ho e20) (hi.put (j:=3) rfl rfl (by decide) (by decide) sz)
  | 4,_ => exact anyV hc rfl (fun o ho => r_nil ho (dv (q:=3) (by decide) rfl (by decide))) (hi.put (j:=4) rfl rfl (by decide) (by decide) sz)
  | 5,_ => exact anyV hc rfl (fun o ho => r_f1 ho (dv (q:=4) (by decide) rfl (by decide))) (hi.put (j:=5) rfl rfl (by decide) (by decide) sz)
  | 6,_ => exact anyV hc rfl (fun o ho => r_load61 ho (dv (q:=5) (by decide) rfl (by decide)) (ldT (by rw [hc1,fl (by decide)]; exact hv1))) (hi.put (j:=6) rfl rfl (by decide) (by decide) sz)
  | 7,_ =>
   refine anyC hc rfl (fun o ho => r_call1 hf1.enter ho (dv (q:=6) (by decide) rfl (by decide))) ((hf1.run ρ' w' _ hkn.ro (rvs1 (hr1.mono hkn.le))).mono fun en w'' hfr => ?_)
   obtain ⟨ρ'',cv,rfl,hkn2,hbl2,hrv2⟩:=fresh_rv hfr (ones_ints us)
   rw [fl (q:=20) (by decide)] at hc1
   rw [fl (q:=23) (by decide)] at hc2
   rw [fl (q:=26) (by decide)] at hc3
   refine ⟨cv,rfl,by rw [size_put]; exact hi.size,hi.dfr,sameC (by decide) (by decide),valC (.inl ⟨rfl,rfl⟩),ρ'',hkn.trans hkn2 hext.size,hext.trans (Ext.of_below hbl2),fun _ => ?_,fun hl => ?_,fun hl => ?_,c',?_,hcs',hoth,?_⟩
   ·rw [ev_put sz' (by omega),if_pos rfl]; exact hrv2
   ·rw [getD_set_ne false (by decide),fl (by decide)] at hl; cases hl
   ·rw [getD_set_ne false (by decide),fl17 rfl] at hl; cases hl
   ·rw [hbl2.block T0 (Nat.lt_of_lt_of_le hTlt hext.size)]; exact hT'
   ·rw [getD_set_ne false (by decide),getD_set_ne false (by decide),getD_set_ne false (by decide),fl (q:=20) (by decide),fl (q:=23) (by decide),fl (q:=26) (by decide)]
    exact ⟨hc1,hc2,hc3⟩
  | 8,_ => exact anyV hc rfl (fun o ho => r_move ho e20) (hi.put (j:=8) rfl rfl (by decide) (by decide) sz)
  | 9,_ => exact anyV hc rfl (fun o ho => r_nil ho (dv (q:=8) (by decide) rfl (by decide))) (hi.put (j:=9) rfl rfl (by decide) (by decide) sz)
  | 10,_ => exact anyV hc rfl (fun o ho => r_f2 ho (dv (q:=9) (by decide) rfl (by decide))) (hi.put (j:=10) rfl rfl (by decide) (by decide) sz)
  | 11,_ => exact anyV hc rfl (fun o ho => r_load61 ho (dv (q:=10) (by decide) rfl (by decide)) (ldT (by rw [hc2,fl (by decide)]; exact hv2))) (hi.put (j:=11) rfl rfl (by decide) (by decide) sz)
  | 12,_ =>
   refine anyC hc rfl (fun o ho => r_call1 hf2.enter ho (dv (q:=11) (by decide) rfl (by decide))) ((hf2.run ρ' w' _ hkn.ro (rvs1 (hr2.mono hkn.le))).mono fun en w'' hfr => ?_)
   obtain ⟨ρ'',cv,rfl,hkn2,hbl2,hrv2⟩:=fresh_rv hfr (ones_ints vs)
   rw [fl (q:=20) (by decide)] at hc1
   rw [fl (q:=23) (by decide)] at hc2
   rw [fl (q:=26) (by decide)] at hc3
   refine ⟨cv,rfl,by rw [size_put]; exact hi.size,hi.dfr,sameC (by decide) (by decide),valC (.inr (.inl ⟨rfl,rfl⟩)),ρ'',hkn.trans hkn2 hext.size,hext.trans (Ext.of_below hbl2),fun _ => ?_,fun _ => ?_,fun hl => ?_,c',?_,hcs',hoth,?_⟩
   ·rw [ev_put sz' (by omega),if_neg (by omega)]; exact (h7 (hdep 7 (by decide))).mono hkn2.le
   ·rw [ev_put sz' (by omega),if_pos rfl]; exact hrv2
   ·rw [getD_set_ne false (by decide),fl (by decide)] at hl; cases hl
   ·rw [hbl2.block T0 (Nat.lt_of_lt_of_le hTlt hext.size)]; exact hT'
   ·rw [getD_set_ne false (by decide),getD_set_ne false (by decide),getD_set_ne false (by decide),fl (q:=20) (by decide),fl (q:=23) (by decide),fl (q:=26) (by decide)]
    exact ⟨hc1,hc2,hc3⟩
  | 13,_ => exact anyV hc rfl (fun o ho => r_move ho e20) (hi.put (j:=13) rfl rfl (by decide) (by decide) sz)
  | 14,_ => exact anyV hc rfl (fun o ho => r_nil ho (dv (q:=13) (by decide) rfl (by decide))) (hi.put (j:=14) rfl rfl (by decide) (by decide) sz)
  | 15,_ => exact anyV hc rfl (fun o ho => r_f3 ho (dv (q:=14) (by decide) rfl (by decide))) (hi.put (j:=15) rfl rfl (by decide) (by decide) sz)
  | 16,_ => exact anyV hc rfl (fun o ho => r_load133 ho (dv (q:=15) (by decide) rfl (by decide)) (ldT (by rw [hc3,fl (by decide)]; exact hv3))) (hi.put (j:=16) rfl rfl (by decide) (by decide) sz)
  | 17,_ =>
   refine anyC hc rfl (fun o ho => r_call1 hf3.enter ho (dv (q:=16) (by decide) rfl (by decide))) ((hf3.run ρ' w' _ hkn.ro (rvs1 (hr3.mono hkn.le))).mono fun en w'' hfr => ?_)
   obtain ⟨ρ'',cv,rfl,hkn2,hbl2,hrow2⟩:=fresh_row hfr (ones_rows Vs)
   rw [fl (q:=20) (by decide)] at hc1
   rw [fl (q:=23) (by decide)] at hc2
   rw [fl (q:=26) (by decide)] at hc3
   refine ⟨cv,rfl,by rw [size_put]; exact hi.size,hi.dfr,sameC (by decide) (by decide),valC (.inr (.inr ⟨rfl,rfl⟩)),ρ'',hkn.trans hkn2 hext.size,hext.trans (Ext.of_below hbl2),fun hl => ?_,fun _ => ?_,fun _ => ?_,c',?_,hcs',hoth,?_⟩
   ·rw [getD_set_ne false (by decide)] at hl
    rw [ev_put sz' (by omega),if_neg (by omega)]; exact (h7 hl).mono hkn2.le
   ·rw [ev_put sz' (by omega),if_neg (by omega)]; exact (h12 (hdep 12 (by decide))).mono hkn2.le
   ·rw [ev_put sz' (by omega),if_pos rfl]; exact hrow2.mono hext.size
   ·rw [hbl2.block T0 (Nat.lt_of_lt_of_le hTlt hext.size)]; exact hT'
   ·rw [getD_set_ne false (by decide),getD_set_ne false (by decide),getD_set_ne false (by decide),fl (q:=20) (by decide),fl (q:=23) (by decide),fl (q:=26) (by decide)]
    exact ⟨hc1,hc2,hc3⟩
  | 18,_ => exact anyV hc rfl (fun o ho => r_nil ho (dv (q:=0) (by decide) rfl (by decide))) (hi.put (j:=18) rfl rfl (by decide) (by decide) sz)
  | 19,_ => exact anyV hc rfl (fun o ho => r_f1 ho (dv (q:=18) (by decide) rfl (by decide))) (hi.put (j:=19) rfl rfl (by decide) (by decide) sz)
  | 20,_ =>
   have hu:=h7 (hdep 7 (by decide))
   refine anyS hc rfl (fun o ho => r_store ho u61 k61 (dv (q:=19) (by decide) rfl (by decide)) hT' (by omega) rfl (one_slice hu)) ⟨hi.size,hi.dfr,hi.same,valS (.inl rfl),ρ',knS,hext.trans (Ext.setCell rfl),fun _ => hu,fun hl => ?_,fun hl => ?_,_,heap_setCell_same w' T0 _ c' e _ hT',by rw [Array.size_setIfInBounds]; exact hcs',fun q n1 n2 n3 => ?_,?_,?_,?_⟩
   ·rw [getD_set_ne false (by decide)] at hl; exact h12 hl
   ·rw [getD_set_ne false (by decide)] at hl; exact rowS (h17 hl)
   ·rw [Array.getElem?_setIfInBounds_ne (Ne.symm n1)]; exact hoth q n1 n2 n3
   ·rw [Array.getElem?_setIfInBounds_self_of_lt (by omega),if_pos (now hls)]
   ·rw [Array.getElem?_setIfInBounds_ne (by omega),getD_set_ne false (by decide)]; exact hc2
   ·rw [Array.getElem?_setIfInBounds_ne (by omega),getD_set_ne false (by decide)]; exact hc3
  | 21,_ => exact anyV hc rfl (fun o ho => r_nil ho (dv (q:=1) (by decide) rfl (by decide))) (hi.put (j:=21) rfl rfl (by decide) (by decide) sz)
  | 22,_ => exact anyV hc rfl (fun o ho => r_f2 ho (dv (q:=21) (by decide) rfl (by decide))) (hi.put (j:=22) rfl rfl (by decide) (by decide) sz)
  | 23,_ =>
   have hu:=h12 (hdep 12 (by decide))
   refine anyS hc rfl (fun o ho => r_store ho u61 k61 (dv (q:=22) (by decide) rfl (by decide)) hT' (by omega) rfl (one_slice hu)) ⟨hi.size,hi.dfr,hi.same,valS (.inr (.inl rfl)),ρ',knS,hext.trans (Ext.setCell rfl),fun hl => ?_,fun _ => hu,fun hl => ?_,_,heap_setCell_same w' T0 _ c' e _ hT',by rw [Array.size_setIfInBounds]; exact hcs',fun q n1 n2 n3 => ?_,?_,?_,?_⟩
   ·rw [getD_set_ne false (by decide)] at hl; exact h7 hl
   ·rw [getD_set_ne false (by decide)] at hl; exact rowS (h17 hl)
   ·rw [Array.getElem?_setIfInBounds_ne (Ne.symm n2)]; exact hoth q n1 n2 n3
   ·rw [Array.getElem?_setIfInBounds_ne (by omega),getD_set_ne false (by decide)]; exact hc1
   ·rw [Array.getElem?_setIfInBounds_self_of_lt (by omega),if_pos (now hls)]
   ·rw [Array.getElem?_setIfInBounds_ne (by omega),getD_set_ne false (by decide)]; exact hc3
  | 24,_ => exact anyV hc rfl (fun o ho => r_nil ho (dv (q:=2) (by decide) rfl (by decide))) (hi.put (j:=24) rfl rfl (by decide) (by decide) sz)
  | 25,_ => exact anyV hc rfl (fun o ho => r_f3 ho (dv (q:=24) (by decide) rfl (by decide))) (hi.put (j:=25) rfl rfl (by decide) (by decide) sz)
  | 26,_ =>
   have hu:=h17 (hdep 17 (by decide))
   refine anyS hc rfl (fun o ho => r_store ho u133 k133 (dv (q:=25) (by decide) rfl (by decide)) hT' (by omega) rfl hu.one) ⟨hi.size,hi.dfr,hi.same,valS (.inr (.inr rfl)),ρ',knS,hext.trans (Ext.setCell rfl),fun hl => ?_,fun hl => ?_,fun _ => rowS hu,_,heap_setCell_same w' T0 _ c' e _ hT',by rw [Array.size_setIfInBounds]; exact hcs',fun q n1 n2 n3 => ?_,?_,?_,?_⟩
   ·rw [getD_set_ne false (by decide)] at hl; exact h7 hl
   ·rw [getD_set_ne false (by decide)] at hl; exact h12 hl
   ·rw [Array.getElem?_setIfInBounds_ne (Ne.symm n3)]; exact hoth q n1 n2 n3
   ·rw [Array.getElem?_setIfInBounds_ne (by omega),getD_set_ne false (by decide)]; exact hc1
   ·rw [Array.getElem?_setIfInBounds_ne (by omega),getD_set_ne false (by decide)]; exact hc2
   ·rw [Array.getElem?_setIfInBounds_self_of_lt (by omega),if_pos (now hls)]
  | n + 27,hh => exact absurd hh (by omega)
 ·intro listed a' w' hall hi
  have hl:∀ j,j < 27 → listed.getD j false = true:=fun j hj => hall j (by rw [core_size hc]; exact hj)
  obtain ⟨ρ',hkn,hext,h7,h12,h17,c',hT',hcs',hoth,hc1,hc2,hc3⟩:=hi.mem
  rw [if_pos (hl 20 (by decide))] at hc1
  rw [if_pos (hl 23 (by decide))] at hc2
  rw [if_pos (hl 26 (by decide))] at hc3
  exact hQ a' w' ρ' c' _ _ _ hi.size hi.dfr hi.same hkn hext hT' hcs' hoth hc1 hc2 hc3 (h7 (hl 7 (by decide))) (h12 (hl 12 (by decide))) (h17 (hl 17 (by decide)))
 ·have hf0:∀ j,(Array.replicate r19.size false).getD j false = false:=fun j => by
   by_cases hj:j < r19.size <;> simp [Array.getD,hj]
  refine ⟨rfl,rfl,fun _ _ => rfl,fun j v _ _ hl => (by rw [hf0] at hl; cases hl),ρ,Kn.refl hro,⟨rfl,rfl,rfl,Nat.le_refl _,fun _ _ _ => rfl⟩,fun hl => (by rw [hf0] at hl; cases hl),fun hl => (by rw [hf0] at hl; cases hl),fun hl => (by rw [hf0] at hl; cases hl),c,hT,rfl,fun _ _ _ _ => rfl,?_⟩
  rw [hf0,hf0,hf0]
  exact ⟨rfl,rfl,rfl⟩
end
end Go.Proofs.YtblebiafhhhflaaGreat
