/- The second form of a law: for what is of a bulk that is stated; how long lists are of such a bulk. -/
import Derived.JoinedCond
import Derived.Test.YtdeeekgohhkdbaaGreatDoorOd
import Derived.Test.YtdeeekgohhkdbaaGreatDoorSi
namespace Go.Proofs.YtdeeekgohhkdbaaGreatDoor
open Go.ChangeShapes Go.WideShapes Go.ChangeAt Go.RowKit
theorem returns_upto {H:Type} {enc:TypeId × Value → H} {a:Assume} {C:Checked} {os:Os} {f:FuncId} {fn:Func} {s:OpenSpec} {k:(H:Type) → List (DataW H) → Bool} (hk:s.cond = some k) {F:Stop.Interp} {conds:List PathCond} {apart fresh handsOn again:Bool} {X:World → Array Value → Prop}
  (hX:∀ (w w':World) (args:Array Value),w.heap = w'.heap → X w args → X w' args)
  (own:ownKnob C.prog.godebug = none) (started:os.Started) (noInit:C.prog.inits.idxOf? f = none) (hfn:C.prog.funcs[f]? = some fn)
  (witness:∃ (w:World) (tape:Tape) (i:Input),w.os = os ∧ (w.forCall tape i).Shaped C.prog ∧ i.vars = [] ∧ Input.okWide C.prog (w.forCall tape i) .any w.heap.size f i ∧
   ((s.pre enc C.prog fn conds apart (w.forCall tape i).memory i.args ∧ X (w.forCall tape i).memory i.args) ∧ sizedMet enc C.prog fn s apart (w.forCall tape i).memory i.args) ∧ a.holds C.prog (lone (Frame.enter C.prog f i.args .normal) [] (w.forCall tape i)))
  (contract:∀ (W:World) (base:Nat) (args:Array Value) (ds gs:List (DataW H)) (before:List MemPlace),
   (∀ (j:Nat) t v,fn.params[j]? = some t → args[j]? = some v → Value.okWide C.prog W .any base t v) →
   DataW.Whole enc C.prog fn.params.toList s.vars apart W args.toList ds gs before → k H (ds ++ gs) = true →
   (DataW.weightsEach C.prog (fn.params.toList ++ s.bare.plain.varTypes C.prog) (ds ++ gs)).all (· ≤ reachBytes) = true → X W args →
   Calls C.prog f args W fun e W' => ∃ v,e = .returned v ∧ (s.at F).post enc C.prog fn apart fresh handsOn again W args v W') :
  ReturnsInHanded a C os f .any (fun w args => (s.pre enc C.prog fn conds apart w args ∧ X w args) ∧ sizedMet enc C.prog fn s apart w args) ((s.at F).post enc C.prog fn apart fresh handsOn again):=by
 refine returnsInHanded_of_calls own started noInit witness ?_
 intro w tape i _ _ _ hok hpre _
 obtain ⟨_,_,_,fn',hfn',_,_,_,_,hval⟩:=hok
 have e:fn' = fn:=Option.some.inj (hfn'.symm.trans hfn)
 subst e
 obtain ⟨⟨hp,hx⟩,hz⟩:=hpre
 obtain ⟨ds,gs,before,hw,_,hkk⟩:=(OpenSpec.pre_some hk conds apart _ _).1 hp
 have hw':=DataW.Whole.of_heap (w':=w.forCall tape i) (by rfl) hw
 refine (contract (w.forCall tape i) w.heap.size i.args ds gs before hval hw' hkk (hz.weights hw) (hX _ _ _ (by rfl) hx)).mono fun e W' ⟨v,he,hp⟩ => ?_
 subst he
 exact ChangeSpec.post_blind hp
theorem witness_upto {H:Type} {enc:TypeId × Value → H} {C:Checked} {os:Os} {f:FuncId} {fn:Func} {s:OpenSpec} {k:(H:Type) → List (DataW H) → Bool} (hk:s.cond = some k) {conds:List PathCond} {apart:Bool} {X:World → Array Value → Prop} (modest:Bool) (w0:World) (args:Array Value) (fuel:Nat) (hos:w0.os = os)
  (hv:(w0.forCall (fun _ _ => 0) ⟨#[],args,[]⟩).variablesB C.prog = true)
  (hr:((w0.forCall (fun _ _ => 0) ⟨#[],args,[]⟩).heap.toList.drop C.prog.globals.size).take ((begin C.prog (fun _ _ => 0) default).world.heap.size - C.prog.globals.size) =
   (begin C.prog (fun _ _ => 0) default).world.heap.toList.drop C.prog.globals.size)
  (hok:Input.okWideB C.prog (w0.forCall (fun _ _ => 0) ⟨#[],args,[]⟩) f ⟨#[],args,[]⟩ = true)
  {x:List (DataW H) × List (DataW H) × List MemPlace} (hx:DataW.whole enc C.prog (w0.forCall (fun _ _ => 0) ⟨#[],args,[]⟩).memory fn.params.toList s.vars apart args.toList fuel = some x)
  (hconds:conds.all (PathCond.test C.prog ⟨fn.params.toList,x.1,s.bare.plain.varTypes C.prog,x.2.1⟩) = true) (hkk:k H (x.1 ++ x.2.1) = true)
  (hsz:s.bare.sizedB enc C.prog fn apart (w0.forCall (fun _ _ => 0) ⟨#[],args,[]⟩).memory args fuel = true)
  (hX:X (w0.forCall (fun _ _ => 0) ⟨#[],args,[]⟩).memory args) :
  ∃ (w:World) (tape:Tape) (i:Input),w.os = os ∧ (w.forCall tape i).Shaped C.prog ∧ i.vars = [] ∧ Input.okWide C.prog (w.forCall tape i) .any w.heap.size f i ∧
   ((s.pre enc C.prog fn conds apart (w.forCall tape i).memory i.args ∧ X (w.forCall tape i).memory i.args) ∧ sizedMet enc C.prog fn s apart (w.forCall tape i).memory i.args) ∧ ({ modest:=modest }:Assume).holds C.prog (lone (Frame.enter C.prog f i.args .normal) [] (w.forCall tape i)) :=
 ⟨w0,fun _ _ => 0,⟨#[],args,[]⟩,hos,World.shaped_of_B hv hr,(Input.okWide_of_okWideB (base:=0) hok).1,(Input.okWide_of_okWideB hok).2,
  ⟨⟨(OpenSpec.pre_some hk conds apart _ _).2 ⟨x.1,x.2.1,x.2.2,DataW.Whole_of_whole hx,hconds,hkk⟩,hX⟩,sizedMet_of_sizedB hsz⟩,by
  simp only [Assume.holds]
  exact ⟨by simp,by simp,fun _ => Modest.zero,by simp,by simp⟩⟩
theorem agg41u:isAggT Tryz.prog 41 = false:=by kernel_rfl
theorem opIntsU {d:Nat} {cs:List AV} (h:CellsT Tryz.prog d 41 cs):∃ l:List Int,cs = [.slc 3 (intsT l)]:=by
 obtain ⟨l,e,_,_,_⟩:=cells_sliceR (g:=AV.int .i64) (w:=fun _ => True) (by kernel_rfl) (fun d p hp => by
  obtain ⟨x,ex,_⟩:=cells_int (k:=.i64) (by kernel_rfl) hp
  subst ex
  exact ⟨x,by rw [show isAggT Tryz.prog 3 = false by kernel_rfl,if_neg (by simp)]; rfl,trivial⟩) h
 exact ⟨l,e⟩
theorem opPlanU {d:Nat} {cs:List AV} (h:CellsT Tryz.prog d 32 cs):∃ P:List (List Int),cs = [.slc 3 (planA P)]:=by
 obtain ⟨P,e,_,_,_⟩:=cells_sliceR (g:=fun x => AV.slc 3 (intsT x)) (w:=fun _ => True) (by kernel_rfl) (fun d p hp => by
  obtain ⟨l,el⟩:=opIntsU hp
  subst el
  exact ⟨l,by rw [agg41u,if_neg (by simp)]; rfl,trivial⟩) h
 exact ⟨P,e⟩
theorem slc_cells {ρ:RO} {μ:Option Lay} {m:Nat} {es:List AV} {v:Value} (h:Rv ρ μ (.slc m es) v):v.cells.toList = [v]:=by cases h <;> rfl
theorem bulk_pos {H:Type} (d:DataW H):0 < Rows.uptoBulk d:=by
 cases d with
 | lit l => cases l <;> simp [Rows.uptoBulk]
 | _ => simp [Rows.uptoBulk]
theorem bulk_len {H:Type}:∀ l:List (DataW H),l.length ≤ Rows.uptoBulkAll l
 | [] => Nat.zero_le _
 | d :: r => by
  have:=bulk_len r
  have:=bulk_pos d
  rw [List.length_cons]; simp only [Rows.uptoBulkAll]; omega
section
variable {H:Type} {enc:TypeId × Value → H} {W:World}
theorem bulk_ints {m:Nat} {l:List Int} {v:Value} {d:DataW H} {p:List MemPlace} (h:DataW.trod enc Tryz.prog W 0 (fun _ => true) true m 41 [v] = some (d,p)) (hv:Rv (ofHeap W) none (.slc 3 (intsT l)) v):l.length < Rows.uptoBulk d:=by
 have hu:Tryz.prog.underlying 41 = some (.slice 3):=by kernel_rfl
 have hp:=bulk_pos d
 generalize hes:intsT l = es at hv
 have hl:l.length = es.length:=by rw [← hes,intsT_len]
 cases hv with
 | nilslc => rw [hl]; exact hp
 | eslc => rw [hl]; exact hp
 | slc _ _ _ b o cap k c hm hcap h2 hk hc hr =>
  cases m with
  | zero => simp [DataW.trod] at h
  | succ m =>
   simp only [DataW.trod,hu] at h
   split at h
   case isFalse => cases h
   cases hm:(List.range es.length).mapM (fun i => (W.cells? 0 ((⟨b,o,none⟩:Addr).add (i * Tryz.prog.cellsOf 3)) (Tryz.prog.cellsOf 3)).bind (DataW.trod enc Tryz.prog W 0 (fun _ => true) true m 3)) with
   | none => rw [hm] at h; simp at h
   | some elems =>
    obtain ⟨hel,_⟩:=mapM_get hm
    rw [List.length_range] at hel
    rw [hm] at h
    simp only [Option.bind_some,Option.map_eq_some_iff] at h
    obtain ⟨rest,_,he⟩:=h
    cases he
    have:=bulk_len (elems.map (·.1))
    rw [List.length_map] at this
    simp only [Rows.uptoBulk]
    omega
theorem bulk_sum {H:Type}:∀ (P:List (List Int)) (E:List (DataW H)),E.length = P.length → (∀ (i:Nat) (l:List Int) (d:DataW H),P[i]? = some l → E[i]? = some d → l.length < Rows.uptoBulk d) → P.length + P.flatten.length ≤ Rows.uptoBulkAll E
 | [],_,_,_ => Nat.zero_le _
 | l :: P,[],h,_ => by cases h
 | l :: P,d :: E,h,hi => by
  have h1:=hi 0 l d rfl rfl
  have h2:=bulk_sum P E (by simpa using h) fun i l d h1 h2 => hi (i + 1) l d h1 h2
  rw [List.length_cons,List.flatten_cons,List.length_append]
  simp only [Rows.uptoBulkAll]
  omega
theorem bulk_plan {m:Nat} {P:List (List Int)} {v:Value} {d:DataW H} {p:List MemPlace} (h:DataW.trod enc Tryz.prog W 0 (fun _ => true) true m 32 [v] = some (d,p)) (hv:Rv (ofHeap W) none (.slc 3 (planA P)) v):P.length + P.flatten.length < Rows.uptoBulk d:=by
 have hu:Tryz.prog.underlying 32 = some (.slice 41):=by kernel_rfl
 have c1:Tryz.prog.cellsOf 41 = 1:=by kernel_rfl
 have hp:=bulk_pos d
 generalize hes:planA P = es at hv
 have hl:P.length = es.length:=by rw [← hes]; unfold planA; rw [List.length_map]
 have empty:es = [] → P.length + P.flatten.length < Rows.uptoBulk d:=fun he => by
  have:P = []:=List.length_eq_zero_iff.1 (by rw [hl,he]; rfl)
  rw [this]; exact hp
 cases hv with
 | nilslc => exact empty rfl
 | eslc => exact empty rfl
 | slc _ _ _ b o cap k c hm hcap h2 hk hc hr =>
  cases m with
  | zero => simp [DataW.trod] at h
  | succ m =>
   simp only [DataW.trod,hu] at h
   split at h
   case isFalse => cases h
   cases hm:(List.range es.length).mapM (fun i => (W.cells? 0 ((⟨b,o,none⟩:Addr).add (i * Tryz.prog.cellsOf 41)) (Tryz.prog.cellsOf 41)).bind (DataW.trod enc Tryz.prog W 0 (fun _ => true) true m 41)) with
   | none => rw [hm] at h; simp at h
   | some elems =>
    obtain ⟨hel,hei⟩:=mapM_get hm
    rw [List.length_range] at hel
    rw [hm] at h
    simp only [Option.bind_some,Option.map_eq_some_iff] at h
    obtain ⟨rest,_,he⟩:=h
    cases he
    have key:=bulk_sum P (elems.map (·.1)) (by rw [List.length_map]; omega) fun i l d hi hd => by
     have hil:i < es.length:=by rw [← hl]; exact (List.getElem?_eq_some_iff.1 hi).1
     obtain ⟨x,hx,hb⟩:=hei i i (by rw [List.getElem?_range hil])
     rw [List.getElem?_map,hx] at hd
     have hd:x.1 = d:=Option.some.inj hd
     have hesi:es.getD i .undef = .slc 3 (intsT l):=by
      rw [← hes]; unfold planA; rw [List.getD_eq_getElem?_getD,List.getElem?_map,hi]; rfl
     have hk1:=hk i hil
     rw [hesi] at hk1
     have hk1:k = 1:=hk1.symm
     subst hk1
     have hci:=hc i hil 0 (by omega)
     have hri:=hr i 0
     rw [hesi] at hri
     have hri:Rv (ofHeap W) none (.slc 3 (intsT l)) (c i 0):=hri
     have hcell:W.cell? ⟨b,o + i * 1 + 0,none⟩ = some (c i 0):=by
      unfold RO.cell ofHeap at hci
      unfold World.cell?
      split at hci
      ·rename_i c0 e0 z0 hh
       rw [hh]
       first | exact hci | simpa using hci
      ·cases hci
     rw [c1] at hb
     have hcl:W.cells? 0 ((⟨b,o,none⟩:Addr).add (i * 1)) 1 = some [c i 0]:=by
      unfold World.cells?
      rw [if_pos (Nat.zero_le _)]
      have ha:((⟨b,o,none⟩:Addr).add (i * 1)).add 0 = ⟨b,o + i * 1 + 0,none⟩:=by simp [Addr.add]
      simp only [List.range_succ,List.range_zero,List.nil_append,List.mapM_cons,List.mapM_nil,ha,hcell]
      rfl
     rw [hcl,Option.bind_some] at hb
     obtain ⟨x1,x2⟩:=x
     subst hd
     exact bulk_ints hb hri
    simp only [Rows.uptoBulk]
    omega
end
end Go.Proofs.YtdeeekgohhkdbaaGreatDoor
