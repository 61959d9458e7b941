/- All operations that look at their operands alone. -/
import Derived.Test.YtblebiafhhhflaaGreatR3
namespace Go.Proofs.YtblebiafhhhflaaGreat
open Go.RowKit

theorem Rvs_map {ρ : RO} {μ : Option Lay} {e : Operand → AV} {c : Operand → Value} (hr : RvO ρ μ e c) (l : Array Operand) : (l.toList.map e).length = (l.map c).size ∧ ∀ j, Rv ρ μ ((l.toList.map e).getD j .undef) ((l.map c).getD j Go.undef) := by
  refine ⟨by simp, fun j => ?_⟩
  rcases Nat.lt_or_ge j l.size with hj | hj
  · have h1 : (l.toList.map e).getD j .undef = e l[j] := by simp [List.getD, hj]
    have h2 : (l.map c).getD j Go.undef = c l[j] := by simp [Array.getD, hj]
    rw [h1, h2]; exact hr _
  · rw [getD_le (by simpa using hj)]; exact .undef _ _

theorem parts_spec {ρ : RO} {μ : Option Lay} {e : Operand → AV} {c : Operand → Value} (hr : RvO ρ μ e c) (ps : Array (Nat × Operand)) (qs : List (Nat × Value)) (hq : qs = (ps.map fun (i, x) => (i, c x)).toList) :
    ((ps.toList.map fun p => (p.1, e p.2)).length = qs.length) ∧
    ∀ i (h : i < (ps.toList.map fun p => (p.1, e p.2)).length) (h' : i < qs.length),
      (ps.toList.map fun p => (p.1, e p.2))[i].1 = qs[i].1 ∧ Rv ρ μ (ps.toList.map fun p => (p.1, e p.2))[i].2 qs[i].2 := by
  subst hq
  refine ⟨by simp, fun i h h' => ?_⟩
  simp only [List.getElem_map, Array.getElem_toList, Array.getElem_map]
  exact ⟨trivial, hr _⟩

theorem build_spec {P : Program} {t : TypeId} {ps : Array (Nat × Operand)} {e : Operand → AV} {c : Operand → Value} {ρ : RO} {μ : Option Lay} (hr : RvO ρ μ e c) {v : AV} (h : popA P e (.build t ps) = some v) (w : World) :
    ∃ cv, (Instr.build t (ps.map fun (i, x) => (i, c x))).run P w = .ok cv w ∧ Rv ρ μ v cv := by
  obtain ⟨hp1, hp2⟩ := parts_spec hr ps _ rfl
  simp only [popA] at h
  split at h
  · rename_i it n el hi hu
    split at h
    · rename_i z ie hz hie
      split at h
      · rename_i hzs
        obtain ⟨out, hf, rfl⟩ := Option.map_eq_some_iff.1 h
        obtain ⟨hl, hc⟩ := solid_spec hzs (Rv.ofV ρ μ z)
        obtain ⟨c', hf', hl', hr'⟩ := fillA_spec _ _ _ out z.cells hp1 hp2 hl hc hf
        exact ⟨.agg c', run_build w t _ c' (by simp only [Program.built, hi, hu, hz, hie]; exact hf'), .agg μ _ _ hl' hr'⟩
      · cases h
    · cases h
  · rename_i it fs hi hu
    split at h
    · rename_i z places hz hie
      split at h
      · rename_i hzs
        obtain ⟨out, hf, rfl⟩ := Option.map_eq_some_iff.1 h
        obtain ⟨hl, hc⟩ := solid_spec hzs (Rv.ofV ρ μ z)
        obtain ⟨c', hf', hl', hr'⟩ := fillA_spec _ _ _ out z.cells hp1 hp2 hl hc hf
        exact ⟨.agg c', run_build w t _ c' (by simp only [Program.built, hi, hu, hz, hie]; exact hf'), .agg μ _ _ hl' hr'⟩
      · cases h
    · cases h
  · cases h

theorem maxA_spec {P : Program} {ρ : RO} {μ : Option Lay} (w : World) (gt : Bool) : ∀ (l : List AV) (vs : List Value) (x v : AV) (cx : Value), maxA gt x l = some v → Rv ρ μ x cx → l.length = vs.length → (∀ j, Rv ρ μ (l.getD j .undef) (vs.getD j Go.undef)) →
    ∃ cv, (vs.foldlM (if gt then Builtin.max2 else Builtin.min2) cx).run P w = .ok cv w ∧ Rv ρ μ v cv := by
  intro l
  induction l with
  | nil =>
    intro vs x v cx h hx hl hv
    cases vs with
    | nil => cases h; exact ⟨cx, rfl, hx⟩
    | cons => simp at hl
  | cons y r ih =>
    intro vs x v cx h hx hl hv
    cases vs with
    | nil => simp at hl
    | cons cy s =>
      simp only [maxA] at h
      split at h
      · rename_i k a l1 k' b l2 h1 h2
        have hy : Rv ρ μ y cy := hv 0
        rw [isI_spec h1 hx, isI_spec h2 hy]
        obtain ⟨cv, hc1, hc2⟩ := ih s _ v (.int k (if gt then (if b > a then b else a) else (if b < a then b else a))) h (Rv.mkI ..) (by simpa using hl) (fun j => hv (j + 1))
        refine ⟨cv, ?_, hc2⟩
        cases gt
        · simp only [List.foldlM_cons, Bool.false_eq_true, if_false, Sem.run_bind, Builtin.min2, Sem.run_pure, Result.andThen_ok] at hc1 ⊢
          exact hc1
        · simp only [List.foldlM_cons, if_true, Sem.run_bind, Builtin.max2, Sem.run_pure, Result.andThen_ok] at hc1 ⊢
          exact hc1
      · cases h

theorem fieldA_spec {P : Program} {s : TypeId} {f : Nat} {x v : AV} {cx : Value} {ρ : RO} {μ : Option Lay} {e : Operand → AV} {y : Operand} (he : e y = x) (hx : Rv ρ μ x cx) (h : popA P e (.fieldAddr s y f) = some v) (w : World) :
    ∃ cv, (Instr.fieldAt s cx f).run P w = .ok cv w ∧ Rv ρ μ v cv := by
  simp only [popA, he] at h
  split at h
  · rename_i fs hu
    split at h
    · rename_i fd hfd
      split at h
      · cases h
      · rename_i hc
        simp only [not_or] at hc
        obtain ⟨hz, hn⟩ := hc
        obtain ⟨d, hd⟩ : ∃ d, P.underlying fd.type = some d := by cases hh : P.underlying fd.type <;> simp_all
        have hrun : ∀ a : Addr, (Instr.fieldAt s (.pointer (some a)) f).run P w = .ok (.pointer (some (a.add fd.offset))) w := by
          intro a
          simp [Instr.fieldAt, run_underlying hu, hfd, Instr.sureAddr, fieldPlace, run_sizeOf' hd, hz]
        split at h
        · rename_i b off
          cases h; cases hx with
          | ref m =>
            refine ⟨_, hrun _, ?_⟩
            have : (Addr.add ⟨(m b).1, off, none⟩ fd.offset) = ⟨(m b).1, off + fd.offset, none⟩ := by
              unfold Addr.add; split <;> simp_all
            rw [this]; exact .ref m b _
        · rename_i cs off
          cases h; cases hx with
          | eptr _ _ b o _ c hc hh =>
            refine ⟨_, hrun _, ?_⟩
            have : (Addr.add ⟨b, o + off, none⟩ fd.offset) = ⟨b, o + (off + fd.offset), none⟩ := by
              unfold Addr.add; split <;> simp_all [Nat.add_assoc]
            rw [this]; exact .eptr _ cs b o _ c hc hh
        · cases h
    · cases h
  · cases h

theorem popA_spec {P : Program} {e : Operand → AV} {c : Operand → Value} {ρ : RO} {μ : Option Lay} (hr : RvO ρ μ e c) (o : Oper) {v : AV} (h : popA P e o.op = some v) (w : World) :
    ∃ cv, (execOp c o).run P w = .ok (.value cv) w ∧ Rv ρ μ v cv := by
  obtain ⟨dst, op, type, pos, after, guard⟩ := o
  have lift : ∀ {s : Sem Value}, (∃ cv, s.run P w = .ok cv w ∧ Rv ρ μ v cv) → ∃ cv, ((do pure (.value (← s)) : Sem Next)).run P w = .ok (.value cv) w ∧ Rv ρ μ v cv := by
    rintro s ⟨cv, h1, h2⟩
    exact ⟨cv, by simp [h1], h2⟩
  cases op with
  | move x => cases h; exact ⟨c x, rfl, hr x⟩
  | assign x => cases h; exact ⟨c x, rfl, hr x⟩
  | pick cd a b =>
    simp only [popA] at h
    have hcd := hr cd
    simp only [execOp]
    split at h
    · rename_i hh; rw [hh] at hcd; cases h; cases hcc : c cd <;> rw [hcc] at hcd <;> cases hcd
      exact ⟨c a, by simp [asBool, hcc], hr a⟩
    · rename_i hh; rw [hh] at hcd; cases h; cases hcc : c cd <;> rw [hcc] at hcd <;> cases hcd
      exact ⟨c b, by simp [asBool, hcc], hr b⟩
    · rename_i x hh
      rw [hh] at hcd
      split at h
      · rename_i y z hy hz
        cases h
        have h1 := isB_spec hy (hr a)
        have h2 := isB_spec hz (hr b)
        refine ⟨.bool (if x then y else z), ?_, .bool ..⟩
        cases hcc : c cd <;> rw [hcc] at hcd <;> cases hcd
        cases x <;> simp [asBool, h1, h2]
      · cases h
    · cases h
  | build t ps => exact lift (build_spec hr h w)
  | field t x f =>
    refine lift ?_
    simp only [popA] at h
    split at h
    · rename_i fs cs hu hx
      split at h
      · rename_i fd hfd
        have hxx := hr x
        rw [hx] at hxx
        generalize c x = cx at hxx
        cases hxx with
        | agg _ _ vs hl hh =>
          obtain ⟨cv, h1, h2⟩ := partA_spec h hh (by omega) w
          exact ⟨cv, by simp [Instr.field, run_underlying hu, hfd, asAgg, h1], h2⟩
      · cases h
    · cases h
  | extract x i =>
    refine lift ?_
    simp only [popA] at h
    split at h
    · rename_i vs hx
      have hxx := hr x
      rw [hx] at hxx
      generalize c x = cx at hxx
      cases hxx with
      | tup _ _ cvs hl hh =>
        obtain ⟨hlt, hv⟩ := List.getElem?_eq_some_iff.1 h
        have hlt' : i < cvs.size := by omega
        refine ⟨cvs[i], by simp [Instr.extract, hlt'], ?_⟩
        have := hh i
        simp only [List.getD, h, Option.getD_some, Array.getD, hlt', dif_pos] at this
        exact this
    · cases h
  | makeInterface t x =>
    refine lift ?_
    simp only [popA] at h
    split at h
    · cases h
    · cases h
    · rename_i u hn hu
      cases h
      refine ⟨.iface t (c x), ?_, .iface _ _ _ _ (hr x)⟩
      simp only [Instr.makeInterface, Sem.run_bind, run_underlying hu, Result.andThen_ok]
      try (cases u <;> simp_all)
  | makeFunc fn first caps =>
    refine lift ?_
    cases fn with
    | func f =>
      cases h
      obtain ⟨h1, h2⟩ := Rvs_map hr first
      obtain ⟨h3, h4⟩ := Rvs_map hr caps
      exact ⟨_, rfl, .fn _ _ _ _ _ _ h1 h3 h2 h4⟩
    | _ => simp [popA] at h
  | convert s d x =>
    refine lift ?_
    simp only [popA] at h
    split at h
    · rename_i us k k' n l hs hd hx
      cases h
      rw [isI_spec hx (hr x)]
      exact ⟨_, by simp only [convert, Sem.run_bind, run_underlying hs, run_underlying hd, Result.andThen_ok]; simp [Conv.intToInt], Rv.mkI ..⟩
    · cases h
  | unOp op t x =>
    refine lift ?_
    cases op with
    | not =>
      simp only [popA] at h
      have hx := hr x
      split at h
      · rename_i hh; rw [hh] at hx; cases h; generalize c x = cx at hx; cases hx; exact ⟨_, rfl, .ff _⟩
      · rename_i hh; rw [hh] at hx; cases h; generalize c x = cx at hx; cases hx; exact ⟨_, rfl, .tt _⟩
      · rename_i b hh; rw [hh] at hx; cases h; generalize c x = cx at hx; cases hx; exact ⟨_, rfl, .bool ..⟩
      · cases h
    | neg =>
      simp only [popA] at h
      split at h
      · rename_i k n l hh
        cases h
        rw [isI_spec hh (hr x)]
        exact ⟨_, rfl, Rv.mkI ..⟩
      · cases h
    | xor =>
      simp only [popA] at h
      split at h
      · rename_i k n l hh
        cases h
        rw [isI_spec hh (hr x)]
        exact ⟨_, rfl, Rv.mkI ..⟩
      · cases h
    | _ => simp [popA] at h
  | binOp op t x y yt =>
    refine lift ?_
    have key : ∀ op, binA P op t (isNilConst x || isNilConst y) (e x) (e y) = some v → ∃ cv, (do eqGuard op t x y (c x) (c y); binOp op t (c x) (c y) : Sem Value).run P w = .ok cv w ∧ Rv ρ μ v cv :=
      fun op h => binA_spec h (hr x) (hr y) w
    cases op <;> first | exact key _ h | (simp [popA] at h)
  | nilCheck x =>
    simp only [popA] at h
    have hx := hr x
    simp only [execOp]
    split at h
    · rename_i b off hh; rw [hh] at hx; cases h; generalize c x = cx at hx ⊢; cases hx with | ref m => exact ⟨_, rfl, .ref m b off⟩
    · rename_i cs off hh; rw [hh] at hx; cases h; generalize c x = cx at hx ⊢; have hx' := hx; cases hx; exact ⟨_, rfl, hx'⟩
    · rename_i t v hh; rw [hh] at hx; cases h; generalize c x = cx at hx ⊢; have hx' := hx; cases hx; exact ⟨_, rfl, hx'⟩
    · rename_i f a b hh; rw [hh] at hx; cases h; generalize c x = cx at hx ⊢; have hx' := hx; cases hx; exact ⟨_, rfl, hx'⟩
    · cases h
  | fieldAddr s x f => exact lift (fieldA_spec rfl (hr x) h w)
  | typeAssert x xt t ok =>
    refine lift ?_
    simp only [popA] at h
    have hx := hr x
    split at h
    · cases h
    · cases h
    · rename_i u t' v' hn hu hh
      rw [hh] at hx
      generalize c x = cx at hx
      cases hx with
      | iface _ _ _ cv hv =>
        split at h
        · rename_i ht
          subst ht
          cases h
          cases ok
          · refine ⟨cv, ?_, hv⟩
            simp only [Instr.typeAssert, Sem.run_bind, run_underlying hu, Result.andThen_ok]
            cases u <;> simp_all
          · refine ⟨.tuple #[cv, .bool true], ?_, .tup _ _ _ (by simp) (fun j => ?_)⟩
            · simp only [Instr.typeAssert, Sem.run_bind, run_underlying hu, Result.andThen_ok]
              cases u <;> simp_all
            · match j with
              | 0 => exact hv
              | 1 => exact .tt _
              | j + 2 => exact .undef _ _
        · rename_i ht
          cases ok
          · cases h
          · obtain ⟨z, hz, rfl⟩ := Option.map_eq_some_iff.1 h
            obtain ⟨cz, hzr, hzs, rfl⟩ := zeroA_spec hz w
            refine ⟨.tuple #[cz, .bool false], ?_, .tup _ _ _ (by simp) (fun j => ?_)⟩
            · simp only [Instr.typeAssert, Sem.run_bind, run_underlying hu, Result.andThen_ok]
              cases u <;> simp_all
            · match j with
              | 0 => exact Rv.ofV ..
              | 1 => exact .ff _
              | j + 2 => exact .undef _ _
    · rename_i u hn hu hh
      rw [hh] at hx
      generalize c x = cx at hx
      cases hx
      cases ok
      · cases h
      · obtain ⟨z, hz, rfl⟩ := Option.map_eq_some_iff.1 h
        obtain ⟨cz, hzr, hzs, rfl⟩ := zeroA_spec hz w
        refine ⟨.tuple #[cz, .bool false], ?_, .tup _ _ _ (by simp) (fun j => ?_)⟩
        · simp only [Instr.typeAssert, Sem.run_bind, run_underlying hu, Result.andThen_ok]
          cases u <;> simp_all
        · match j with
          | 0 => exact Rv.ofV ..
          | 1 => exact .ff _
          | j + 2 => exact .undef _ _
    · cases h
  | call cl =>
    obtain ⟨callee, ⟨l⟩, ats⟩ := cl
    simp only [popA] at h
    have bi : ∀ b, callee = .builtin b → ∀ (s : Sem Value), (∀ consts, builtin b ats type consts ((⟨l⟩ : Array Operand).map c) = (do pure (.value (← s)))) → (∃ cv, s.run P w = .ok cv w ∧ Rv ρ μ v cv) →
        ∃ cv, (execOp c ⟨dst, .call ⟨callee, ⟨l⟩, ats⟩, type, pos, after, guard⟩).run P w = .ok (.value cv) w ∧ Rv ρ μ v cv := by
      rintro b rfl s hs ⟨cv, h1, h2⟩
      refine ⟨cv, ?_, h2⟩
      simp only [execOp, resolve, Sem.run_bind, Sem.run_pure, Result.andThen_ok, invoke]
      rw [hs]
      simp [h1]
    split at h
    · rename_i x hx
      obtain ⟨a, rfl, rfl⟩ : ∃ a, l = [a] ∧ e a = x := by
        cases l with
        | nil => simp at hx
        | cons a r => cases r <;> simp_all
      have hv := hr a
      refine bi _ rfl (Builtin.len_ ats type #[c a]) (fun _ => by simp [builtin]) ?_
      split at h
      · rename_i el m es ht hh
        obtain ⟨t, ht0, ht⟩ := Option.bind_eq_some_iff.1 ht
        rw [hh] at hv
        generalize c a = cv at hv ⊢
        cases h
        have hlen : ∃ p q, cv = .slice p es.length q := by cases hv <;> exact ⟨_, _, rfl⟩
        obtain ⟨p, q, rfl⟩ := hlen
        exact ⟨_, by simp [Builtin.len_, ht0, run_underlying ht, goInt], .int ..⟩
      · rename_i el b off len esz ag ht hh
        obtain ⟨t, ht0, ht⟩ := Option.bind_eq_some_iff.1 ht
        rw [hh] at hv
        generalize c a = cv at hv ⊢
        cases h
        have hlen : ∃ p q, cv = .slice p len q := by cases hv <;> exact ⟨_, _, rfl⟩
        obtain ⟨p, q, rfl⟩ := hlen
        exact ⟨_, by simp [Builtin.len_, ht0, run_underlying ht, goInt], .int ..⟩
      · rename_i s ht hh
        obtain ⟨t, ht0, ht⟩ := Option.bind_eq_some_iff.1 ht
        rw [hh] at hv
        generalize c a = cv at hv ⊢
        cases h
        cases hv
        exact ⟨_, by simp [Builtin.len_, ht0, run_underlying ht, goInt], .int ..⟩
      · rename_i n el ht
        obtain ⟨t, ht0, ht⟩ := Option.bind_eq_some_iff.1 ht
        cases h
        exact ⟨_, by simp [Builtin.len_, ht0, run_underlying ht, goInt], .lit ..⟩
      · cases h
    · rename_i x r hx
      obtain ⟨a, s, rfl, rfl, rfl⟩ : ∃ a s, l = a :: s ∧ e a = x ∧ s.map e = r := by
        cases l with
        | nil => simp at hx
        | cons a s => exact ⟨a, s, by simp_all⟩
      refine bi _ rfl (Builtin.max_ ats type ((⟨a :: s⟩ : Array Operand).map c)) (fun _ => by simp [builtin]) ?_
      obtain ⟨h1, h2⟩ := Rvs_map hr ⟨s⟩
      obtain ⟨cv, h3, h4⟩ := maxA_spec w true (s.map e) (s.map c) _ v _ h (hr a) (by simp) (fun j => by have := h2 j; simpa [← toList_getD] using this)
      exact ⟨cv, by simpa [Builtin.max_] using h3, h4⟩
    · rename_i x r hx
      obtain ⟨a, s, rfl, rfl, rfl⟩ : ∃ a s, l = a :: s ∧ e a = x ∧ s.map e = r := by
        cases l with
        | nil => simp at hx
        | cons a s => exact ⟨a, s, by simp_all⟩
      refine bi _ rfl (Builtin.min_ ats type ((⟨a :: s⟩ : Array Operand).map c)) (fun _ => by simp [builtin]) ?_
      obtain ⟨h1, h2⟩ := Rvs_map hr ⟨s⟩
      obtain ⟨cv, h3, h4⟩ := maxA_spec w false (s.map e) (s.map c) _ v _ h (hr a) (by simp) (fun j => by have := h2 j; simpa [← toList_getD] using this)
      exact ⟨cv, by simpa [Builtin.min_] using h3, h4⟩
    · cases h
  | _ => simp [popA] at h
end Go.Proofs.YtblebiafhhhflaaGreat
