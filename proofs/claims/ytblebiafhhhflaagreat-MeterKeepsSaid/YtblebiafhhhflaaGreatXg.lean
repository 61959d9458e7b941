/- The part of meter.Change that copies the catalogue's tables: table by table. A body, one part of which goes by what is known of it; meter.Change's copies of tables are such a part. -/
import Derived.Test.YtblebiafhhhflaaGreatXe
namespace Go.Proofs.YtblebiafhhhflaaGreat
open Go.RowKit
def inC (t:Nat):Prop:=t = 19 ∨ t = 20 ∨ t = 21 ∨ 105 ≤ t ∧ t ≤ 166
theorem Row.slice {ρ:RO} {N:Nat} {w:World} {es:List AV} {cv:Value} (h:Row ρ N w es cv):∃ p cap,cv = .slice p es.length cap:=by
 rcases h with ⟨rfl,-,p,cap,rfl⟩ | ⟨V,cap,cur,e,rfl,-⟩
 ·exact ⟨p,cap,rfl⟩
 ·exact ⟨_,cap,rfl⟩
theorem flat_get:∀ (L:List TLmTable) (i s:Nat),(hi:i < L.length) → s < 6 → (L.flatMap TLmTable.cs).getD (i * 6 + s) .undef = (L[i].cs).getD s .undef:=by
 intro L
 induction L with
 | nil => intro i s hi; cases hi
 | cons x r ih =>
  intro i s hi hs
  have hx:x.cs.length = 6:=rfl
  rw [List.flatMap_cons]
  cases i with
  | zero =>
   rw [Nat.zero_mul,Nat.zero_add,List.getD_eq_getElem?_getD,List.getElem?_append_left (by omega),← List.getD_eq_getElem?_getD]; rfl
  | succ i =>
   rw [List.getD_eq_getElem?_getD,List.getElem?_append_right (by omega),show (i + 1) * 6 + s - x.cs.length = i * 6 + s by omega,← List.getD_eq_getElem?_getD]
   exact ih i s (by simpa using hi) hs
theorem flat_len (L:List TLmTable):(L.flatMap TLmTable.cs).length = L.length * 6:=by
 induction L with
 | nil => rfl
 | cons x r ih => rw [List.flatMap_cons,List.length_append,ih,List.length_cons,show x.cs.length = 6 from rfl]; omega
section
variable {ro:Option Nat} {a:Act} {w:World} {B off T0 i n cap m:Nat} {q:Option Addr} {Q:Exit → Act → World → Prop} {r15 r17 r18 r20:Array Oper}
theorem reg15 (h15:r15.toList.map coreO = opsL l15) (sz:166 < a.tmps.size) (h18:a.eval (.tmp 18) = .pointer (some ⟨B,off,none⟩)) (hB:w.cell? ⟨B,off,none⟩ = some (.slice q n cap))
  (hQ:∀ a':Act,a'.tmps.size = a.tmps.size → a'.defers = a.defers → (∀ t:Nat,¬ (105 ≤ t ∧ t ≤ 110) → a'.eval (.tmp t) = a.eval (.tmp t)) → a'.eval (.tmp 109) = .int .i64 n → a'.eval (.tmp 110) = .int .i64 (0:Nat) → Q .normal a' w):(Code.region 15 r15 false).wpIn (Fr ro) 0 Tryz.prog Q a w:=by
 refine regionOf h15 ?_
 refine rgV (k:=0) (m:=5) h15 rfl (fun o ho => r_move ho h18) ?_
 refine rgV (k:=1) (m:=4) h15 rfl (fun o ho => r_nil (B:=B) (off:=off) ho (by simp [ev_put,sz])) ?_
 refine rgV (k:=2) (m:=3) h15 rfl (fun o ho => r_f0 (B:=B) (off:=off) ho (by simp [ev_put,size_put,sz])) ?_
 refine rgV (k:=3) (m:=2) h15 rfl (fun o ho => r_load26 (ad:=⟨B,off,none⟩) ho (by simp [ev_put,size_put,sz]) hB) ?_
 refine rgV (k:=4) (m:=1) h15 rfl (fun o ho => r_len26 (q:=q) (n:=n) (c:=cap) ho (by simp [ev_put,size_put,sz])) ?_
 refine rgV (k:=5) (m:=0) h15 rfl (fun o ho => r_move ho (v:=.int .i64 (0:Nat)) rfl) (stepE ?_)
 refine hQ _ (by simp only [size_put]) (by simp only [dfr_put]) (fun (t:Nat) ht => ?_) (by simp [ev_put,size_put,sz]) (by simp [ev_put,size_put,sz])
 repeat rw [ev_ne (by omega)]
theorem reg1718 (h17:r17.toList.map coreO = opsL l17) (h18:r18.toList.map coreO = opsL l18) {rest:Code} (sz:166 < a.tmps.size) (e18:a.eval (.tmp 18) = .pointer (some ⟨B,off,none⟩)) (e110:a.eval (.tmp 110) = .int .i64 i) (hB:w.cell? ⟨B,off,none⟩ = some (.slice (some ⟨T0,0,none⟩) n cap)) (hi:i < n)
  (hQ:∀ a':Act,a'.tmps.size = a.tmps.size → a'.defers = a.defers → (∀ t:Nat,¬ (t = 19 ∨ t = 20 ∨ 112 ≤ t ∧ t ≤ 118) → a'.eval (.tmp t) = a.eval (.tmp t)) → a'.eval (.tmp 20) = .pointer (some ⟨T0,i * 6,none⟩) → rest.wpIn (Fr ro) 0 Tryz.prog Q a' w) :
  (Code.seq (.region 17 r17 false) (.seq (.region 18 r18 false) rest)).wpIn (Fr ro) 0 Tryz.prog Q a w:=by
 refine wpIn_seq (regionOf h17 ?_)
 refine rgV (k:=0) (m:=1) h17 rfl (fun o ho => r_move ho e110) ?_
 refine rgV (k:=1) (m:=0) h17 rfl (fun o ho => r_assign ho (v:=.int .i64 i) (by simp [ev_put,sz])) (stepE ?_)
 refine wpIn_seq (regionOf h18 ?_)
 refine rgV (k:=0) (m:=6) h18 rfl (fun o ho => r_move ho (v:=.pointer (some ⟨B,off,none⟩)) (by simp [ev_put,size_put,sz,e18])) ?_
 refine rgV (k:=1) (m:=5) h18 rfl (fun o ho => r_nil (B:=B) (off:=off) ho (by simp [ev_put,size_put,sz])) ?_
 refine rgV (k:=2) (m:=4) h18 rfl (fun o ho => r_f0 (B:=B) (off:=off) ho (by simp [ev_put,size_put,sz])) ?_
 refine rgV (k:=3) (m:=3) h18 rfl (fun o ho => r_load26 (ad:=⟨B,off,none⟩) ho (by simp [ev_put,size_put,sz]) hB) ?_
 refine rgV (k:=4) (m:=2) h18 rfl (fun o ho => r_move ho (v:=.int .i64 i) (by simp [ev_put,size_put,sz])) ?_
 refine rgV (k:=5) (m:=1) h18 rfl (fun o ho => r_at26 (V:=T0) (m:=n) (cap:=cap) (k:=i) ho (by simp [ev_put,size_put,sz]) (by simp [ev_put,size_put,sz]) hi) ?_
 refine rgV (k:=6) (m:=0) h18 rfl (fun o ho => r_assign ho (v:=.pointer (some ⟨T0,i * 6,none⟩)) (by simp [ev_put,size_put,sz])) (stepE ?_)
 refine hQ _ (by simp only [size_put]) (by simp only [dfr_put]) (fun (t:Nat) ht => ?_) (by simp [ev_put,size_put,sz])
 repeat rw [ev_ne (by omega)]
theorem reg20 (h20:r20.toList.map coreO = opsL l20) {rest:Code} (sz:166 < a.tmps.size) (e20:a.eval (.tmp 20) = .pointer (some ⟨T0,i,none⟩)) (hT:w.cell? ⟨T0,i + 3,none⟩ = some (.slice q m cap))
  (hQ:∀ a':Act,a'.tmps.size = a.tmps.size → a'.defers = a.defers → (∀ t:Nat,¬ (143 ≤ t ∧ t ≤ 148) → a'.eval (.tmp t) = a.eval (.tmp t)) → a'.eval (.tmp 147) = .int .i64 m → a'.eval (.tmp 148) = .int .i64 (0:Nat) → rest.wpIn (Fr ro) 0 Tryz.prog Q a' w) :
  (Code.seq (.region 20 r20 false) rest).wpIn (Fr ro) 0 Tryz.prog Q a w:=by
 refine wpIn_seq (regionOf h20 ?_)
 refine rgV (k:=0) (m:=5) h20 rfl (fun o ho => r_move ho e20) ?_
 refine rgV (k:=1) (m:=4) h20 rfl (fun o ho => r_nil (B:=T0) (off:=i) ho (by simp [ev_put,sz])) ?_
 refine rgV (k:=2) (m:=3) h20 rfl (fun o ho => r_f3 (B:=T0) (off:=i) ho (by simp [ev_put,size_put,sz])) ?_
 refine rgV (k:=3) (m:=2) h20 rfl (fun o ho => r_load133 (ad:=⟨T0,i + 3,none⟩) ho (by simp [ev_put,size_put,sz]) hT) ?_
 refine rgV (k:=4) (m:=1) h20 rfl (fun o ho => r_len (q:=q) (n:=m) (c:=cap) ho u133 (by simp [ev_put,size_put,sz])) ?_
 refine rgV (k:=5) (m:=0) h20 rfl (fun o ho => r_move ho (v:=.int .i64 (0:Nat)) rfl) (stepE ?_)
 refine hQ _ (by simp only [size_put]) (by simp only [dfr_put]) (fun (t:Nat) ht => ?_) (by simp [ev_put,size_put,sz]) (by simp [ev_put,size_put,sz])
 repeat rw [ev_ne (by omega)]
end
structure TabOK (x:TLmTable):Prop where
 us:FreshOf0 Tryz.prog 55 [intsA x.Us] 1 (x.Us.map (AV.int .i64))
 vs:FreshOf0 Tryz.prog 55 [intsA x.Vs] 1 (x.Vs.map (AV.int .i64))
 rows:FreshOf0 Tryz.prog 56 [.slc 3 (rowsA x.Values)] 1 (rowsA x.Values)
 row:∀ r ∈ x.Values,FreshOf0 Tryz.prog 55 [intsA r] 1 (r.map (AV.int .i64))
 few:x.Values.length ≤ 100000
structure AtO (act:Act) (W:World) (ρ:RO) (T0 n κ:Nat) (cs:List AV) (i:Nat) (a:Act) (w:World):Prop where
 size:a.tmps.size = act.tmps.size
 dfr:a.defers = act.defers
 same:∀ t:Nat,¬ inC t → a.eval (.tmp t) = act.eval (.tmp t)
 t109:a.eval (.tmp 109) = .int .i64 n
 t110:a.eval (.tmp 110) = .int .i64 i
 mem:∃ ρ',Kn ρ W.heap.size ρ' w ∧ Ext (fun k => n ≠ 0 ∧ k = T0) W w ∧ (n ≠ 0 → ∃ (c:Array Value) (e:TypeId),w.heap[T0]? = some (.cells c e (0,0)) ∧ c.size = κ ∧ RvC ρ' none cs c)
section
variable {ro:Option Nat} {act a:Act} {W w:World} {ρ:RO} {B off T0 i κ cap:Nat} {q:Option Addr} {L:List TLmTable} {Q:Exit → Act → World → Prop} {r15 r16 r17 r18 r19 r20 r21 r22 r23 r24 r25:Array Oper}
theorem roundT (h16:r16.toList.map coreO = opsL l16) (h17:r17.toList.map coreO = opsL l17) (h18:r18.toList.map coreO = opsL l18) (h19:r19.toList.map coreO = opsL l19) (w19:r19.toList.map aftO = a19) (h20:r20.toList.map coreO = opsL l20) (h21:r21.toList.map coreO = opsL l21) (h22:r22.toList.map coreO = opsL l22)
  (h23:r23.toList.map coreO = opsL l23) (w23:r23.toList.map aftO = a23) (h24:r24.toList.map coreO = opsL l24) (h25:r25.toList.map coreO = opsL l25) (hL:L.length ≤ 100000) (hok:∀ x ∈ L,TabOK x) (sz:166 < act.tmps.size) (e18:act.eval (.tmp 18) = .pointer (some ⟨B,off,none⟩))
  (hB:W.cell? ⟨B,off,none⟩ = some (.slice q L.length cap)) (hq:L.length ≠ 0 → q = some ⟨T0,0,none⟩ ∧ B ≠ T0 ∧ T0 < W.heap.size ∧ ρ T0 = none) (hκ:L.length * 6 ≤ κ) (h:AtO act W ρ T0 L.length κ (L.flatMap TLmTable.cs) i a w) (hi:i ≤ L.length)
  (hstop:i = L.length → ∀ a',AtO act W ρ T0 L.length κ (L.flatMap TLmTable.cs) i a' w → Q (.exit 1) a' w) (hgo:i < L.length → ∀ a' w',AtO act W ρ T0 L.length κ (L.flatMap TLmTable.cs) (i + 1) a' w' → Q .normal a' w') :
  (bodyT r16 r17 r18 r19 r20 r21 r22 r23 r24 r25).wpIn (Fr ro) 0 Tryz.prog Q a w:=by
 have sz':166 < a.tmps.size:=by rw [h.size]; exact sz
 unfold bodyT
 refine wpIn_seq (regionOf h16 (rgV (k:=0) (m:=0) h16 rfl (fun o ho => r_lss ho h.t110 h.t109) (stepE ?_)))
 have e111:(a.put (some 111) (.bool (decide ((i:Int) < L.length)))).eval (.tmp 111) = .bool (decide (i < L.length)):=by
  rw [ev_put sz' (by decide),if_pos rfl]; simp
 have pe:∀ t:Nat,t ≠ 111 → (a.put (some 111) (.bool (decide ((i:Int) < L.length)))).eval (.tmp t) = a.eval (.tmp t):=fun t ht => ev_ne ht
 have ps:(a.put (some 111) (.bool (decide ((i:Int) < L.length)))).tmps.size = act.tmps.size:=by rw [size_put]; exact h.size
 have pd:(a.put (some 111) (.bool (decide ((i:Int) < L.length)))).defers = act.defers:=h.dfr
 by_cases hlt:i < L.length
 ·refine wpIn_seq (wpIn_cond_true (by rw [e111]; simp [hlt]) (wpIn_skip ?_))
  generalize (a.put (some 111) (.bool (decide ((i:Int) < L.length)))) = a0 at pe ps pd ⊢
  have hn:L.length ≠ 0:=by omega
  obtain ⟨rfl,hBT,hTW,hTρ⟩:=hq hn
  obtain ⟨ρ1,hkn,hext,hmem⟩:=h.mem
  obtain ⟨c,e,hT,hcs,hrc⟩:=hmem hn
  have hBw:w.cell? ⟨B,off,none⟩ = some (.slice (some ⟨T0,0,none⟩) L.length cap):=cells_old hext (fun hh => hBT hh.2) hB
  refine wpIn_seq (wpIn_block ?_)
  refine reg1718 h17 h18 (B:=B) (off:=off) (T0:=T0) (i:=i) (n:=L.length) (cap:=cap) (by rw [ps]; exact sz) ((pe 18 (by decide)).trans ((h.same 18 (by unfold inC; omega)).trans e18)) ((pe 110 (by decide)).trans h.t110) hBw hlt ?_
  intro a1 s1 d1 same1 t1
  have sz1:166 < a1.tmps.size:=by rw [s1,ps]; exact sz
  have hx:L[i] ∈ L:=List.getElem_mem hlt
  obtain ⟨ok1,ok2,ok3,ok4,ok5⟩:=hok _ hx
  have cell:∀ s,s < 6 → Rv ρ1 none ((L[i].cs).getD s .undef) (c.getD (i * 6 + s) Go.undef) ∧ c[i * 6 + s]? = some (c.getD (i * 6 + s) Go.undef):=fun s hs => by
   have h1:=hrc (i * 6 + s)
   rw [flat_get L i s hlt hs] at h1
   refine ⟨h1,?_⟩
   rw [Array.getD,dif_pos (by omega)]; exact Array.getElem?_eq_getElem (by omega)
  refine wpIn_seq (reg19 (ρ:=ρ1) (T0:=T0) (i6:=i * 6) (us:=L[i].Us) (vs:=L[i].Vs) (Vs:=L[i].Values) h19 w19 sz1 t1 hT (by omega) (cell 1 (by decide)).2 (cell 2 (by decide)).2 (cell 3 (by decide)).2 (hkn.none hTρ hTW) hkn.ro (cell 1 (by decide)).1 (cell 2 (by decide)).1 (cell 3 (by decide)).1 ok1 ok2 ok3 ?_)
  intro a2 w2 ρ2 c2 u1 u2 u3 s2 d2 same2 hkn2 hext2 hT2 hcs2 hoth hu1 hu2 hu3 hr1 hr2 hrow
  have sz2:166 < a2.tmps.size:=by rw [s2]; exact sz1
  obtain ⟨p3,cap3,hu3s⟩:=hrow.slice
  have hm3:(rowsA L[i].Values).length = L[i].Values.length:=List.length_map ..
  rw [hm3] at hu3s
  have t2:a2.eval (.tmp 20) = .pointer (some ⟨T0,i * 6,none⟩):=(same2 20 (by omega)).trans t1
  refine reg20 h20 (T0:=T0) (i:=i * 6) (q:=p3) (m:=L[i].Values.length) (cap:=cap3) sz2 t2 (by simp [World.cell?,hT2,hu3,hu3s]) ?_
  intro a3 s3 d3 same3 t147 t148
  have sz3:166 < a3.tmps.size:=by rw [s3]; exact sz2
  have hTw:T0 < w.heap.size:=(Array.getElem?_eq_some_iff.1 hT).1
  refine wpIn_block (wpIn_loop_rounds (L[i].Values.length + 1) (roundsI (a0:=a3) (wr:=w) (ρr:=ρ1) (ρs:=ρ2) (T0:=T0) (i6:=i * 6) (c:=c2) (e:=e) (Vs:=L[i].Values) (sv:=u3) h21 h22 h23 w23 h24 ok5 ok4 sz3 ((same3 20 (by omega)).trans t2) t147 hu3 hTw ?_ L[i].Values.length 0 a3 w2 (by omega) ⟨rfl,rfl,fun _ _ => rfl,t148,ρ2,RO.le_refl _,hkn2,hext2,hT2,hrow⟩))
  intro a4 w4 h4
  simp only [Exit.inBlock,if_true]
  obtain ⟨ρ3,hle3,hkn3,hext3,hT3,hrow3⟩:=h4.mem
  obtain ⟨ρ4,hle4,hor4,hrv4⟩:=hrow3.rv (ones_rows _)
  have hkn4:Kn ρ1 w.heap.size ρ4 w4:=⟨hkn3.le.trans hle4,fun k o h => (hor4 k o h).elim (hkn3.ro k o) (fun h => h.2),fun k o h h0 => (hor4 k o h).elim (fun h => hkn3.new k o h h0) (fun h => h.1)⟩
  have sz4:166 < a4.tmps.size:=by rw [h4.size]; exact sz3
  have same4:∀ t:Nat,¬ inC t ∨ t = 109 ∨ t = 110 → a4.eval (.tmp t) = a.eval (.tmp t):=fun t ht => by
   unfold inC at ht
   rw [h4.same t (by omega),same3 t (by omega),same2 t (by omega),same1 t (by omega),pe t (by omega)]
  refine regionOf h25 ?_
  refine rgV (k:=0) (m:=1) h25 rfl (fun o ho => (r_add ho (i:=i) (j:=1) ((same4 110 (by omega)).trans h.t110) rfl).trans (by rw [wrap_small (by omega)])) ?_
  refine rgV (k:=1) (m:=0) h25 rfl (fun o ho => r_move ho (v:=.int .i64 ((i + 1:Nat):Int)) (by simp [ev_put,size_put,sz4])) (stepE ?_)
  refine hgo hlt _ _ ⟨by simp only [size_put]; rw [h4.size,s3,s2,s1,ps],by simp only [dfr_put]; rw [h4.dfr,d3,d2,d1,pd],fun (t:Nat) ht => ?_,?_,by simp [ev_put,size_put,sz4],ρ4,hkn.trans hkn4 hext.size,hext.trans (hext3.imp fun k _ hk => ⟨hn,hk⟩),fun _ => ⟨c2,e,hT3,by rw [hcs2,hcs],fun j => ?_⟩⟩
  ·rw [ev_ne (by unfold inC at ht; omega),ev_ne (by unfold inC at ht; omega),same4 t (.inl ht)]
   exact h.same t ht
  ·rw [ev_ne (by decide),ev_ne (by decide),same4 109 (by omega)]
   exact h.t109
  ·have gd:∀ {k:Nat} {u:Value},c2[k]? = some u → c2.getD k Go.undef = u:=fun hk => by
    obtain ⟨hlt,rfl⟩:=Array.getElem?_eq_some_iff.1 hk
    rw [Array.getD,dif_pos hlt]; rfl
   have h24:ρ2.le ρ4:=hle3.trans hle4
   by_cases j1:j = i * 6 + 1
   ·subst j1
    rw [flat_get L i 1 hlt (by decide),gd hu1]
    exact hr1.mono h24
   ·by_cases j2:j = i * 6 + 2
    ·subst j2
     rw [flat_get L i 2 hlt (by decide),gd hu2]
     exact hr2.mono h24
    ·by_cases j3:j = i * 6 + 3
     ·subst j3
      rw [flat_get L i 3 hlt (by decide),gd hu3]
      exact hrv4
     ·have:c2.getD j Go.undef = c.getD j Go.undef:=by
       have:=hoth j j1 j2 j3
       simp only [Array.getD_eq_getD_getElem?,this]
      rw [this]
      exact (hrc j).mono hkn4.le
 ·refine wpIn_seq (wpIn_cond_false (by rw [e111]; simp [hlt]) (wpIn_exit ?_))
  refine hstop (by omega) _ ⟨ps,pd,fun t ht => by rw [pe t (by unfold inC at ht; omega)]; exact h.same t ht,(pe 109 (by decide)).trans h.t109,(pe 110 (by decide)).trans h.t110,h.mem⟩
theorem tables_wp (h15:r15.toList.map coreO = opsL l15) (h16:r16.toList.map coreO = opsL l16) (h17:r17.toList.map coreO = opsL l17) (h18:r18.toList.map coreO = opsL l18) (h19:r19.toList.map coreO = opsL l19) (w19:r19.toList.map aftO = a19) (h20:r20.toList.map coreO = opsL l20) (h21:r21.toList.map coreO = opsL l21)
  (h22:r22.toList.map coreO = opsL l22) (h23:r23.toList.map coreO = opsL l23) (w23:r23.toList.map aftO = a23) (h24:r24.toList.map coreO = opsL l24) (h25:r25.toList.map coreO = opsL l25) (hL:L.length ≤ 100000) (hok:∀ x ∈ L,TabOK x) (sz:166 < act.tmps.size) (e18:act.eval (.tmp 18) = .pointer (some ⟨B,off,none⟩))
  (hro:∀ k o,ρ k = some o → W.heap[k]? = some o) (hB:W.cell? ⟨B,off,none⟩ = some (.slice q L.length cap)) (hq:L.length ≠ 0 → q = some ⟨T0,0,none⟩ ∧ B ≠ T0 ∧ T0 < W.heap.size ∧ ρ T0 = none) (hκ:L.length * 6 ≤ κ)
  (hT:L.length ≠ 0 → ∃ (c:Array Value) (e:TypeId),W.heap[T0]? = some (.cells c e (0,0)) ∧ c.size = κ ∧ RvC ρ none (L.flatMap TLmTable.cs) c) (hQ:∀ a' w',AtO act W ρ T0 L.length κ (L.flatMap TLmTable.cs) L.length a' w' → Q .normal a' w') :
  (hookC r15 r16 r17 r18 r19 r20 r21 r22 r23 r24 r25).wpIn (Fr ro) 0 Tryz.prog Q act W:=by
 unfold hookC
 refine wpIn_seq (reg15 h15 sz e18 hB ?_)
 intro a0 s0 d0 same0 t109 t110
 have rounds:∀ (d i:Nat) (a:Act) (w:World),i + d = L.length → AtO act W ρ T0 L.length κ (L.flatMap TLmTable.cs) i a w → Code.roundsIn (Fr ro) 0 Tryz.prog (bodyT r16 r17 r18 r19 r20 r21 r22 r23 r24 r25) (fun e a w => Exit.inBlock 1 Q e a w) (d + 1) a w:=by
  intro d
  induction d with
  | zero =>
   intro i a w hi h
   rw [roundsIn_succ]
   exact roundT h16 h17 h18 h19 w19 h20 h21 h22 h23 w23 h24 h25 hL hok sz e18 hB hq hκ h (by omega) (fun he a' h' => by simp only [Exit.inBlock,if_true]; exact hQ a' w (by rw [he] at h'; exact h')) (fun hlt => by omega)
  | succ d ih =>
   intro i a w hi h
   rw [roundsIn_succ]
   exact roundT h16 h17 h18 h19 w19 h20 h21 h22 h23 w23 h24 h25 hL hok sz e18 hB hq hκ h (by omega) (fun he => by omega) (fun hlt a' w' h' => ih (i + 1) a' w' (by omega) h')
 exact wpIn_block (wpIn_loop_rounds (L.length + 1) (rounds L.length 0 a0 W (by omega) ⟨s0,d0,fun t ht => same0 t (by unfold inC at ht; omega),t109,t110,ρ,Kn.refl hro,Ext.refl W,hT⟩))
end
end Go.Proofs.YtblebiafhhhflaaGreat
namespace Go.Proofs.YtblebiafhhhflaaGreat
open Go.RowKit
def clobC:List Nat:=[19,20,21] ++ List.range' 105 62
theorem mem_clobC {t:Nat}:t ∈ clobC ↔ inC t:=by
 unfold clobC inC
 simp [List.mem_range'_1]
 omega
def giveL (ts:List Nat) (σ:St):St:=⟨ts.foldl (fun l t => l.set t .undef) σ.sl,σ.bx⟩
abbrev giveC (σ:St):St:=giveL clobC σ
theorem giveUp_get:∀ (ts:List Nat) (l:List AV) (t:Nat),(ts.foldl (fun l t => l.set t .undef) l).getD t .undef = if t ∈ ts then .undef else l.getD t .undef:=by
 intro ts
 induction ts with
 | nil => intro l t; simp
 | cons q r ih =>
  intro l t
  rw [List.foldl_cons,ih,set_getD]
  by_cases h1:t ∈ r
  ·simp [h1]
  ·by_cases h2:t = q
   ·subst h2
    by_cases h3:t < l.length
    ·simp [h1,h3]
    ·simp only [h1,if_false,List.mem_cons,true_or,if_true]
     rw [if_neg (fun h => h3 h.2),getD_le (by omega)]
   ·simp [h1,h2]
theorem giveUp_len:∀ (ts:List Nat) (l:List AV),(ts.foldl (fun l t => l.set t .undef) l).length = l.length:=by
 intro ts
 induction ts with
 | nil => intro l; rfl
 | cons q r ih => intro l; rw [List.foldl_cons,ih]; simp
section
variable {ds:List Deferred} {n:Nat} {μ0:Lay} {ρ0:RO} {w0:World} {ρ:RO} {μ:Lay} {σ:St} {act a:Act} {W w:World}
theorem set_back {bx:List (Option Bx)} {b:Nat} {x:Bx} (h:bx.getD b none = some x):bx.set b (some x) = bx:=by
 apply List.ext_getElem?
 intro i
 by_cases hi:b = i
 ·subst hi
  have hl:=lt_of_bx h
  rw [List.getElem?_set_self hl]
  rw [List.getD_eq_getElem?_getD,List.getElem?_eq_getElem hl] at h
  rw [List.getElem?_eq_getElem hl]; simpa using h.symm
 ·rw [List.getElem?_set_ne hi]
theorem Sat.tables (hs:Sat ds n μ0 ρ0 w0 ρ μ σ act W) {ts:List Nat} (hts:∀ t,inC t → t ∈ ts) {T:Nat} {y:Bx} {m i:Nat} (hy:σ.bx.getD T none = some y) (hya:y.arr = true) (hm:m ≠ 0 → (μ T).2 ≠ 0) (h:AtO act W ρ (μ T).1 m (μ T).2 y.cs i a w):∃ ρ',Sat ds n μ0 ρ0 w0 ρ' μ (giveL ts σ) a w:=by
 obtain ⟨ρ',hkn,hext,hmem⟩:=h.mem
 have key:Sat ds n μ0 ρ0 w0 ρ' μ σ act w:=by
  by_cases h0:m = 0
  ·exact hs.moreRO hkn.le hkn.ro hkn.new (fun k hk => hext.block k hk fun hh => hh.1 h0) hext.size hext.os hext.tape hext.output
  ·have hk:=hm h0
   obtain ⟨c,e,hT,hcs,hrc⟩:=hmem h0
   have hTρ:ρ (μ T).1 = none:=hs.sep T y.cs (box_bx hy) hk
   rcases (hs.box T y hy).blk with hz | ⟨o,ho,_⟩
   ·exact absurd hz hk
   have hTW:(μ T).1 < W.heap.size:=(Array.getElem?_eq_some_iff.1 ho).1
   have hTn:=hkn.none hTρ hTW
   have hTw:(μ T).1 < w.heap.size:=Nat.lt_of_lt_of_le hTW hext.size
   let w2:World:={ w with heap:=w.heap.setIfInBounds (μ T).1 o }
   have h2:∀ k,k ≠ (μ T).1 → w2.heap[k]? = w.heap[k]?:=fun k hk => Array.getElem?_setIfInBounds_ne (Ne.symm hk)
   have h2s:w2.heap.size = w.heap.size:=Array.size_setIfInBounds
   have hs2:Sat ds n μ0 ρ0 w0 ρ' μ σ act w2:=by
    refine hs.moreRO hkn.le (fun k o' hk' => ?_) hkn.new (fun k hk' => ?_) (by rw [h2s]; exact hext.size) hext.os hext.tape hext.output
    ·have:k ≠ (μ T).1:=fun hh => by rw [hh,hTn] at hk'; cases hk'
     rw [h2 k this]; exact hkn.ro k o' hk'
    ·by_cases hh:k = (μ T).1
     ·subst hh
      show (w.heap.setIfInBounds (μ T).1 o)[(μ T).1]? = _
      rw [Array.getElem?_setIfInBounds_self_of_lt hTw]; exact ho.symm
     ·rw [h2 k hh]; exact hext.block k hk' fun q => hh q.2
   have hb:SameBut (μ T).1 w2 w:=⟨rfl,rfl,rfl,by rw [h2s]; exact Nat.le_refl _,fun k hk => (h2 k hk).symm⟩
   have:=hs2.rebox hy hk hb hT (ObjR.cells (mapL_arr hya y.cs) hcs (by unfold lev; rw [if_pos hya]; exact hrc)) (hs.box T y hy).len
   rw [show σ.bx.set T (some { y with cs:=y.cs }) = σ.bx from set_back hy] at this
   exact this
 refine ⟨ρ',{ key with dfe:=h.dfr.trans key.dfe,sz:=?_,sl:=fun t => ?_ }⟩
 ·show (ts.foldl (fun l t => l.set t .undef) σ.sl).length = _
  rw [giveUp_len,h.size]; exact key.sz
 ·show Rv ρ' (some μ) ((ts.foldl (fun l t => l.set t .undef) σ.sl).getD t .undef) _
  rw [giveUp_get]
  by_cases ht:t ∈ ts
  ·rw [if_pos ht]; exact .undef ..
  ·rw [if_neg ht]
   have h1:=h.same t fun hh => ht (hts t hh)
   have h2:a.tmps.getD t Go.undef = act.tmps.getD t Go.undef:=h1
   rw [h2]; exact key.sl t
end
def hookK (keep:List Nat) (σ:St) (K:St → Prop):Prop :=
 if decide (166 < σ.sl.length) = false then False else
 match σ.sl.getD 18 .undef with
 | .ref b off => match σ.bx.getD b none with
  | some x => if x.arr || (mapC x.cs).isSome then False else match x.cs.getD off .undef with
   | .aslc t 0 n 6 _ => match σ.bx.getD t none with
    | some y => if y.arr = false then False else ∃ L:List TLmTable,(y.cs = L.flatMap TLmTable.cs ∧ n = L.length ∧ L.length ≤ 100000 ∧ ∀ x ∈ L,TabOK x) ∧ cleanK keep (giveC σ) K
    | none => False
   | _ => False
  | none => False
 | _ => False
def awpH (P:Program) (S:Specs) (n:Nat) (ctl:Ctl) (id:Nat) (KH:St → (St → Prop) → Prop):Code → St → (Ex → St → Prop) → Prop
 | .seq a b,σ,K => if firstId a = some id then KH σ fun σ => awp P S n ctl b σ K else awp P S n ctl a σ fun e σ => match e with
  | .normal => awpH P S n ctl id KH b σ K
  | e => K e σ
 | c,σ,K => awp P S n ctl c σ K
def awpFH (P:Program) (S:Specs) (ctl:Ctl) (fn:Func) (args:List AV) (id:Nat) (Q:AV → List (List AV) → Prop):Prop :=
 match fn.body with
 | some c => awpH P S 0 ctl id (hookK ctl.keep) c (initSt fn args []) fun e σ => match e with
  | .normal | .ret => retA P 0 fn σ Q
  | _ => False
 | none => False
def HookSem (P:Program) (KH:St → (St → Prop) → Prop) (A:Code):Prop :=
 ∀ {ro:Option Nat} {ds:List Deferred} {n:Nat} {μ0:Lay} {ρ0:RO} {w0:World} {ρ:RO} {μ:Lay} {σ:St} {act:Act} {w:World} {K:St → Prop} {Q:Exit → Act → World → Prop},Sat ds n μ0 ρ0 w0 ρ μ σ act w → KH σ K →
  (∀ (ρ:RO) (μ:Lay) (σ:St) (act:Act) (w:World),Sat ds n μ0 ρ0 w0 ρ μ σ act w → K σ → Q .normal act w) → A.wpIn (Fr ro) 0 P Q act w
def spine (id:Nat):Code → List Code
 | .seq a b => (if firstId a = some id then [a] else []) ++ spine id b
 | _ => []
section
variable {frs:Ways} {il:InlF}
theorem awpH_spec {P:Program} (hm:P.follows .mixedOrders = true) (hil:InlOK P il) (hI:InlMf il) {ctl:Ctl} {id:Nat} {KH:St → (St → Prop) → Prop} {ds:List Deferred} {n:Nat} {μ0:Lay} {ρ0:RO} {w0:World} (K:Ex → St → Prop) (Q:Exit → Act → World → Prop)
  (hQ:∀ (e:Ex) (a:Act) (w:World) (ds':List Deferred),At ds' n μ0 ρ0 w0 (K e) a w → Q e.to a w):∀ (c:Code),noRange c = true → (∀ A ∈ spine id c,HookSem P KH A) → ∀ (ρ:RO) (μ:Lay) (σ:St) (a:Act) (w:World),
   Sat ds n μ0 ρ0 w0 ρ μ σ a w → awpH P (SpecsOf P frs il) n ctl id KH c σ K → c.wpIn (Fr none) 0 P Q a w:=by
 intro c
 induction c with
 | seq x y _ ihy =>
  intro hnr hsem ρ μ σ a w hs h
  simp only [noRange,Bool.and_eq_true] at hnr
  unfold awpH at h
  by_cases hid:firstId x = some id
  ·rw [if_pos hid] at h
   refine wpIn_seq (hsem x (by unfold spine; rw [if_pos hid]; simp) hs h fun ρ μ σ a w hs h => ?_)
   exact awp_spec hm hil hI y none (.inl rfl) K Q ρ μ σ a w (fun e a w ds' _ h => hQ e a w ds' h) hs h
  ·rw [if_neg hid] at h
   refine wpIn_seq (awp_spec hm hil hI x none (.inl rfl) _ _ ρ μ σ a w (fun e a w ds' hds h => ?_) hs h)
   obtain ⟨ρ,μ,σ,hs,h⟩:=h
   cases e with
   | normal =>
    rw [hds hnr.1] at hs
    exact ihy hnr.2 (fun A hA => hsem A (by unfold spine; exact List.mem_append_right _ hA)) ρ μ σ a w hs h
   | exit i => exact hQ (.exit i) a w ds' ⟨ρ,μ,σ,hs,h⟩
   | ret => exact hQ .ret a w ds' ⟨ρ,μ,σ,hs,h⟩
 | _ => intro _ _ ρ μ σ a w hs h; exact awp_spec (frs:=frs) (ctl:=ctl) hm hil hI _ none (.inl rfl) K Q ρ μ σ a w (fun e a w ds' _ h => hQ e a w ds' h) hs h
theorem spec_cut {P:Program} (hil:InlOK P il) (hI:InlMf il) {f:FuncId} {fn:Func} {ctl:Ctl} {args:List AV} {v:AV} {O':List (List AV)} {id:Nat} (hm:P.follows .mixedOrders = true) (hf:P.funcs[f]? = some fn)
  (hcall:∀ (vs:Array Value) (w:World),(callFunc f vs).run P w = .ok (.enter f vs) w) (hnr:∀ c,fn.body = some c → noRange c = true ∧ ∀ A ∈ spine id c,HookSem P (hookK ctl.keep) A)
  (h:awpFH P (SpecsOf P frs il) ctl fn args id (fun r O => r = v ∧ O = O')):SpecOf P f args [] v O':=by
 refine ⟨hcall,fun ρ μ w vs hro hbox hinj hsep hargs => ?_⟩
 unfold awpFH at h
 cases hb:fn.body with
 | none => simp [hb] at h
 | some c =>
  rw [hb] at h
  simp only at h
  refine callsIn_wide.1 (callsIn_of_wp_marks (F:=Fence.wide) (n:=0) hf hb trivial ?_)
  have hbx:∀ b,(initSt fn args []).bx.getD b none = none:=by
   intro b
   simp only [initSt,List.map_nil,List.nil_append,List.getD]
   cases hg:(List.replicate (fn.ntmps + 8) (none:Option Bx))[b]? with
   | none => rfl
   | some y => exact (List.eq_of_mem_replicate (List.mem_of_getElem? hg))
  have hbo:∀ b cs,(initSt fn args []).box b = some cs → False:=fun b cs hh => by
   obtain ⟨x,hx,-⟩:=box_some hh
   rw [hbx] at hx; cases hx
  have hs:Sat [] 0 μ ρ w ρ μ (initSt fn args []) { tmps:=vs ++ Array.replicate (fn.ntmps - vs.size) Go.undef,defers:=[] } w:=by
   refine { dfe:=rfl,defs:=.nil _ _ _,sz:=?_,sl:=?_,box:=fun b x hx => by rw [hbx] at hx; (cases hx),inj:=fun b b' cs cs' hh => (hbo b cs hh).elim,sep:=fun b cs hh => (hbo b cs hh).elim,own:=fun b cs hh => (hbo b cs hh).elim,inc:=fun _ _ => rfl,ro:=hro,le:=RO.le_refl ρ,new:=?_,frame:=fun _ _ _ => rfl,size:=Nat.le_refl _,os:=rfl,tape:=rfl,output:=rfl }
   ·simp only [initSt,List.length_append,List.length_replicate,Array.size_append,Array.size_replicate,hargs.1]
   ·have h2:Rvs ρ (some μ) (List.replicate (fn.ntmps - args.length) .undef) (Array.replicate (fn.ntmps - vs.size) Go.undef):=by
     refine ⟨by simp [hargs.1],fun j => ?_⟩
     have:(List.replicate (fn.ntmps - args.length) AV.undef).getD j .undef = .undef:=by
      simp only [List.getD]
      cases hg:(List.replicate (fn.ntmps - args.length) AV.undef)[j]? with
      | none => rfl
      | some y => exact List.eq_of_mem_replicate (List.mem_of_getElem? hg)
     rw [this]; exact .undef ..
    exact (Rvs_append hargs h2).2
   ·intro k o h h0
    rw [h0] at h; cases h
  refine awpH_spec hm hil hI _ _ ?_ c (hnr c hb).1 (hnr c hb).2 ρ μ _ _ w hs h
  rintro e a w' ds' ⟨ρ',μ',σ',hs',h'⟩
  have fin:retA P 0 fn σ' (fun r O => r = v ∧ O = O') → LeavesInM Fence.wide 0 P fn a.tmps (Gives ρ μ 0 w v O') a.defers .returning w':=fun h' =>
   (by
   have ha:a = ⟨a.tmps,ds'⟩:=by have:=hs'.dfe; cases a; simp_all
   have hd:=hs'.dfe
   rw [ha] at hs'
   rw [hd]
   exact Sat.leaves (fun ρ tmps w hs => retA_spec hs h') ds' a.tmps ρ' w' hs')
  cases e with
  | normal => exact fin h'
  | exit id => exact h'.elim
  | ret => exact fin h'
end
theorem cut_by {P:Program} {w:Ways} {k:Nat} {f:FuncId} {fn:Func} {ctl:Ctl} {args:List AV} {v:AV} {O':List (List AV)} {R:Prop} {id:Nat} (hm:P.follows .mixedOrders = true) (hil:EntersL P w.il) (hf:P.funcs[f]? = some fn)
  (hcall:∀ (vs:Array Value) (w:World),(callFunc f vs).run P w = .ok (.enter f vs) w) (hnr:∀ c,fn.body = some c → noRange c = true ∧ ∀ A ∈ spine id c,HookSem P (hookK ctl.keep) A)
  (he:awpFH P (mkS P (SpecOf P) (FreshOf P) (SeqOf P) w k) ctl fn args id (fun r O => r = v ∧ O = O') = R) (h:R):SpecOf P f args [] v O':=by
 subst he
 obtain ⟨il,h1,h2,h3⟩:=mkS_ok hm hil k
 rw [h1] at h
 exact spec_cut (frs:=w) h2 h3 hm hf hcall hnr h
theorem spine15:spine 15 (bodyOf Tryz.f23) = [hookC (findR 15 (bodyOf Tryz.f23)) (findR 16 (bodyOf Tryz.f23)) (findR 17 (bodyOf Tryz.f23)) (findR 18 (bodyOf Tryz.f23)) (findR 19 (bodyOf Tryz.f23)) (findR 20 (bodyOf Tryz.f23)) (findR 21 (bodyOf Tryz.f23)) (findR 22 (bodyOf Tryz.f23)) (findR 23 (bodyOf Tryz.f23)) (findR 24 (bodyOf Tryz.f23)) (findR 25 (bodyOf Tryz.f23))]:=by kernel_rfl
theorem range15:noRange (bodyOf Tryz.f23) = true:=by kernel_rfl
set_option linter.constructorNameAsVariable false in
theorem hook15 {keep:List Nat} {r15 r16 r17 r18 r19 r20 r21 r22 r23 r24 r25:Array Oper} (h15:r15.toList.map coreO = opsL l15) (h16:r16.toList.map coreO = opsL l16) (h17:r17.toList.map coreO = opsL l17) (h18:r18.toList.map coreO = opsL l18) (h19:r19.toList.map coreO = opsL l19) (w19:r19.toList.map aftO = a19)
  (h20:r20.toList.map coreO = opsL l20) (h21:r21.toList.map coreO = opsL l21) (h22:r22.toList.map coreO = opsL l22) (h23:r23.toList.map coreO = opsL l23) (w23:r23.toList.map aftO = a23) (h24:r24.toList.map coreO = opsL l24) (h25:r25.toList.map coreO = opsL l25) :
  HookSem Tryz.prog (hookK keep) (hookC r15 r16 r17 r18 r19 r20 r21 r22 r23 r24 r25):=by
 intro ro ds n μ0 ρ0 w0 ρ μ σ act W K Q hs hv hgo
 unfold hookK at hv
 split at hv
 ·exact hv.elim
 rename_i hlen
 have sz:166 < act.tmps.size:=by rw [← hs.sz]; simpa using hlen
 split at hv
 case h_2 => exact hv.elim
 rename_i b off s18
 split at hv
 case h_2 => exact hv.elim
 rename_i x hx
 split at hv
 ·exact hv.elim
 rename_i hxa
 simp only [Bool.or_eq_true,not_or,Bool.not_eq_true,Option.isSome_eq_false_iff,Option.isNone_iff_eq_none] at hxa
 split at hv
 case h_2 => exact hv.elim
 rename_i T m ag hoff
 split at hv
 case h_2 => exact hv.elim
 rename_i y hy
 split at hv
 ·exact hv.elim
 rename_i hya
 have hya:y.arr = true:=by simpa using hya
 obtain ⟨L,⟨hcs,hm,hL,hok⟩,hK⟩:=hv
 rw [cleanK_eq] at hK
 have p18:=hs.sl 18
 rw [s18] at p18
 have e18':act.eval (.tmp 18) = .pointer (some ⟨(μ b).1,off,none⟩):=by
  show act.tmps.getD 18 Go.undef = _
  generalize act.tmps.getD 18 Go.undef = u at p18
  cases p18; rfl
 have hofl:off < x.cs.length:=by
  rcases Nat.lt_or_ge off x.cs.length with h | h
  ·exact h
  ·rw [getD_le h] at hoff; cases hoff
 obtain ⟨hbl0,hblk⟩:=hs.box b x hx
 have hbk:(μ b).2 ≠ 0:=by omega
 rcases hblk with hz | ⟨o,ho,hobj⟩
 ·exact absurd hz hbk
 obtain ⟨c,e,rfl,hcsz,hcells⟩:=hobj.get (mapL_of hxa.2)
 have hlev:lev μ x = some μ:=by unfold lev; rw [if_neg (by simp [hxa.1])]
 have hc:=hcells off
 rw [hlev,hoff] at hc
 have hcell:W.cell? ⟨(μ b).1,off,none⟩ = some (c.getD off Go.undef):=by
  have hlt:off < c.size:=by omega
  simp [World.cell?,ho,Array.getD,hlt]
 have hbT:b ≠ T:=fun h => by
  subst h
  rw [hx] at hy; cases hy
  rw [hxa.1] at hya; cases hya
 have hTlen:=(hs.box T y hy).len
 rw [hcs,flat_len] at hTlen
 have hTk:L.length ≠ 0 → (μ T).2 ≠ 0:=fun h => by omega
 have hTm:L.length ≠ 0 → ∃ (c:Array Value) (e:TypeId),W.heap[(μ T).1]? = some (.cells c e (0,0)) ∧ c.size = (μ T).2 ∧ RvC ρ none (L.flatMap TLmTable.cs) c:=fun h => by
  rcases (hs.box T y hy).blk with hz | ⟨o,ho,hobj⟩
  ·exact absurd hz (hTk h)
  ·obtain ⟨c,e,rfl,h1,h2⟩:=hobj.get (mapL_arr hya y.cs)
   refine ⟨c,e,ho,h1,?_⟩
   unfold lev at h2
   rw [if_pos hya,hcs] at h2
   exact h2
 obtain ⟨q,cap,hqv,hq⟩:∃ q cap,c.getD off Go.undef = .slice q L.length cap ∧ (L.length ≠ 0 → q = some ⟨(μ T).1,0,none⟩):=by
  generalize c.getD off Go.undef = u at hc
  rw [hm] at hc
  generalize hg:L.length = g at hc
  cases hc with
  | aslc _ _ _ _ _ _ cap _ _ => exact ⟨_,cap,rfl,fun _ => rfl⟩
  | aslc0 _ _ _ _ p => exact ⟨p,0,rfl,fun h => absurd rfl h⟩
 refine tables_wp (ρ:=ρ) (B:=(μ b).1) (off:=off) (T0:=(μ T).1) (κ:=(μ T).2) (cap:=cap) (q:=q) (L:=L) h15 h16 h17 h18 h19 w19 h20 h21 h22 h23 w23 h24 h25 hL hok sz e18' hs.ro (by rw [hcell,hqv]) (fun h => ⟨hq h,hs.inj b T x.cs y.cs (box_bx hx) (box_bx hy) hbT hbk (hTk h),?_,hs.sep T y.cs (box_bx hy) (hTk h)⟩) hTlen hTm ?_
 ·obtain ⟨c',e',h1,_⟩:=hTm h
  exact (Array.getElem?_eq_some_iff.1 h1).1
 ·intro a' w' hat
  rw [← hcs] at hat
  obtain ⟨ρ',hs'⟩:=hs.tables (ts:=clobC) (fun t ht => mem_clobC.2 ht) hy hya hTk hat
  exact hgo ρ' μ _ a' w' (hs'.clean keep) hK
theorem hk15 {keep:List Nat}:∀ c,Tryz.f23.body = some c → noRange c = true ∧ ∀ A ∈ spine 15 c,HookSem Tryz.prog (hookK keep) A:=by
 intro c hc
 have hb:bodyOf Tryz.f23 = c:=by unfold bodyOf; rw [hc]; rfl
 subst hb
 refine ⟨range15,fun A hA => ?_⟩
 rw [spine15,List.mem_singleton] at hA
 subst hA
 exact hook15 o15 o16 o17 o18 o19 w19 o20 o21 o22 o23 w23 o24 o25
end Go.Proofs.YtblebiafhhhflaaGreat
