/- The contract of Judge, proved. -/
import Derived.Test.YtbdbnpnichkcjaaY6
namespace Go.Proofs.Ytbdbnpnichkcjaa
open Go.RowKit
theorem c22 (f : TFeFeeder) (hn : NOK f) : Sp 22 [f.av] [] (.tup [.slc 3 ((judgeR f).1.map TFeFault.av), .int .i64 (judgeR f).2]) [] := s22 f _ _ (by
  unfold R22
  refine ⟨_, _, _, c15 f hn, fun h => ⟨?_, rfl⟩, fun h => ?_⟩
  · have h : (checkF f).2.2 ≠ 0 := by simpa using h
    rw [judgeR, if_pos h]; rfl
  have h : (checkF f).2.2 = 0 := by simpa using h
  have hf := ok_of h
  have hR : judgeR f = (judgeL f f.Nodes.length, 0) := by rw [judgeR, if_neg (by omega)]
  rw [hR]
  have hnn := hf.nn
  refine ⟨fun m vs => ∃ i : Nat, i ≤ f.Nodes.length ∧ m = f.Nodes.length - i ∧ vs = [.int .i64 i, .slc 3 ((judgeL f i).map TFeFault.av)], ⟨_, 0, by omega, rfl, rfl⟩, ?_⟩
  rintro m n es ⟨i, hi, rfl, hv⟩
  cases hv
  refine ⟨fun g => ?_, fun g => ?_⟩
  · have hlt : i < f.Nodes.length := by simpa using g
    have hjl := judgeL_len hf i hi
    have hll := lookZ_len hf hlt
    have hw : IntKind.i64.wrap ((i : Int) + 1) = ((i + 1 : Nat) : Int) := wrapN (by omega)
    refine ⟨fun m vs => ∃ k : Nat, k ≤ 3 ∧ m = 3 - k ∧ vs = [.int .i64 k, .slc 3 ((judgeL f i ++ lookZ f i k).map TFeFault.av)], ⟨_, ⟨rfl, rfl⟩, _, 0, by omega, rfl, ?_⟩, ?_⟩
    · have : lookZ f i 0 = [] := by unfold lookZ lookL; split <;> rfl
      rw [this, List.append_nil]; rfl
    rintro m n es ⟨k, hk, rfl, hv⟩
    cases hv
    refine ⟨fun g2 => ?_, fun g2 => ?_⟩
    · have hk3 : k < 3 := by simp at g2; omega
      have hwk : IntKind.i64.wrap ((k : Int) + 1) = ((k + 1 : Nat) : Int) := wrapN (by omega)
      have hlk := hll k
      -- the node is the source: nothing is looked at
      have z0 : decide ((i : Int) > 0) = false → lookZ f i (k + 1) = lookZ f i k := fun hz => by
        have : i = 0 := by simp at hz; omega
        unfold lookZ; rw [if_pos this, if_pos this]
      have same : ∀ es, es = (judgeL f i ++ lookZ f i (k + 1)).map TFeFault.av → ∃ m', m' < 3 - k ∧ ∃ j : Nat, j ≤ 3 ∧ m' = 3 - j ∧ [AV.int .i64 (IntKind.i64.wrap ((k : Int) + 1)), .slc 3 es] = [.int .i64 j, .slc 3 ((judgeL f i ++ lookZ f i j).map TFeFault.av)] := fun es he =>
        ⟨_, (by omega : 3 - (k + 1) < 3 - k), k + 1, by omega, rfl, by rw [hwk, he]⟩
      refine ⟨⟨by omega, by omega⟩, fun e2 => ⟨fun gz => ?_, fun gz => ?_⟩, fun e1 => ⟨fun gz => ?_, fun gz => ?_⟩, fun e0 => ⟨fun gz => ?_, fun gz => ?_⟩, trivial⟩
      · -- protects
        have hi0 : i ≠ 0 := by simp at gz; omega
        obtain rfl : k = 2 := by omega
        have hgo := guards_ok hf hlt
        have hgl : (guardsL f (upL f i)).length ≤ 40 := Nat.le_trans guards_len (upL_len40 hf hlt)
        have hL3 : lookZ f i 3 = lookZ f i 2 ++ protL f i := by unfold lookZ; rw [if_neg hi0, if_neg hi0]; rfl
        have hp := protL_len hf hlt
        refine ⟨_, c78 hf i hlt, fun ge => ?_, fun ge => ?_⟩
        · have hnil : guardsL f (upL f i) = [] := by simpa using ge
          have hpl : protL f i = [⟨164, i, -1⟩] := by unfold protL; rw [hnil]
          obtain ⟨a1, a2⟩ := app_ok (L := judgeL f i ++ lookZ f i 2) (by rw [List.length_append]; omega) 164 i (-1)
          refine ⟨a1, a2, ?_⟩
          repeat refine And.intro rfl ?_
          refine ⟨_, app_next _ _ _ _, same _ ?_⟩
          rw [hL3, hpl, List.append_assoc]
        · obtain ⟨g0, r, hgr⟩ : ∃ g0 r, guardsL f (upL f i) = g0 :: r := by
            cases hh : guardsL f (upL f i) with
            | nil => rw [hh] at ge; simp at ge
            | cons g0 r => exact ⟨g0, r, rfl⟩
          rw [hgr] at hgo hgl ge ⊢
          rw [List.length_cons] at hgl
          have hpl : protL f i = earthsL f i g0 r 2 := by unfold protL; rw [hgr]
          have hg0 := hgo g0 (by simp)
          have hel := earthsL_len (f := f) (i := i) (g := g0) (r := r)
          have hB : (judgeL f i ++ lookZ f i 2).length ≤ 4000 := by rw [List.length_append]; omega
          generalize hBase : judgeL f i ++ lookZ f i 2 = B at hB ⊢
          refine ⟨fun m vs => ∃ e : Nat, e ≤ 2 ∧ m = 2 - e ∧ vs = [.int .i64 e, .slc 3 ((B ++ earthsL f i g0 r e).map TFeFault.av)], ⟨_, ⟨rfl, rfl⟩, _, 0, by omega, rfl, by simp [earthsL]⟩, ?_⟩
          rintro m n es ⟨e, he, rfl, hv⟩
          cases hv
          refine ⟨fun g3 => ?_, fun g3 => ?_⟩
          · have he2 : e < 2 := by simp at g3; omega
            have hwe : IntKind.i64.wrap ((e : Int) + 1) = ((e + 1 : Nat) : Int) := wrapN (by omega)
            have hes : earthsL f i g0 r (e + 1) = earthsL f i g0 r e ++ earthL f i g0 r (decide (e = 1)) := by
              obtain rfl | rfl : e = 0 ∨ e = 1 := by omega
              · rfl
              · rfl
            have hele := hel e
            have hE : (B ++ earthsL f i g0 r e).length ≤ 5000 := by rw [List.length_append]; omega
            generalize hEq : B ++ earthsL f i g0 r e = E at hE ⊢
            refine ⟨fun vs => vs = [.bool (decide (e = 1))], ⟨⟨by omega, by omega⟩, fun q1 => ?_, fun q0 => ?_, trivial⟩, ?_⟩
            · repeat refine And.intro rfl ?_
              rw [show decide (e = 1) = true from by simp; omega]
            · repeat refine And.intro rfl ?_
              rw [show decide (e = 1) = false from by simp; omega]
            rintro b hb
            cases hb
            generalize hb : decide (e = 1) = b at hes
            have hb0 : ∀ F : Prop, F → F := fun _ h => h
            have hgav : (List.map TGuard.av (g0 :: r))[(0 : Int).toNat]? = some g0.av := rfl
            have hfb := fault_bound hf hlt b
            refine ⟨_, _, c66 hf i hlt b, g0.node, g0.fuse.Name, g0.fuse.Rated, List.map TFePoint.av g0.fuse.Points, g0.besides, ⟨by omega, rfl, hgav⟩, _, _, _, c76 g0.fuse (faultS f i b).Lo (by have := hg0.fuse.len; omega), ?_⟩
            refine ⟨fun vs => vs = [.slc 3 ((E ++ slowL f i g0 (faultS f i b)).map TFeFault.av)], ⟨fun s1 => ?_, fun s1 => ?_⟩, ?_⟩
            · have hs : slowL f i g0 (faultS f i b) = [⟨162, i, g0.node⟩] := by unfold slowL slowB; rw [s1]; rfl
              obtain ⟨a1, a2⟩ := app_ok (L := E) (by omega) 162 i g0.node
              refine ⟨g0.node, g0.fuse.Name, g0.fuse.Rated, List.map TFePoint.av g0.fuse.Points, g0.besides, ⟨by omega, rfl, hgav⟩, a1, a2, ?_⟩
              repeat refine And.intro rfl ?_
              refine ⟨_, app_next _ _ _ _, ?_⟩
              show _ = _
              rw [hs]
            · refine ⟨g0.node, g0.fuse.Name, g0.fuse.Rated, List.map TFePoint.av g0.fuse.Points, g0.besides, ⟨by omega, rfl, hgav⟩, fun s2 => ?_, fun s2 => ?_⟩
              · have hs : slowL f i g0 (faultS f i b) = [⟨162, i, g0.node⟩] := by unfold slowL slowB; rw [s1, s2]; rfl
                obtain ⟨a1, a2⟩ := app_ok (L := E) (by omega) 162 i g0.node
                refine ⟨a1, a2, ?_⟩
                repeat refine And.intro rfl ?_
                refine ⟨_, app_next _ _ _ _, ?_⟩
                show _ = _
                rw [hs]
              · have hs : slowL f i g0 (faultS f i b) = [] := by unfold slowL slowB; rw [s1, s2]; rfl
                repeat refine And.intro rfl ?_
                refine ⟨_, ⟨rfl, rfl⟩, ?_⟩
                show _ = _
                rw [hs, List.append_nil]
            rintro es hes2
            cases hes2
            have hsl := slowL_len (f := f) (i := i) (g := g0) (b := faultS f i b)
            have hdr : List.take ((((g0 :: r).map TGuard.av).length : Int).toNat - (1 : Int).toNat) (List.drop (1 : Int).toNat ((g0 :: r).map TGuard.av)) = r.map TGuard.av := by
              have : ((((g0 :: r).map TGuard.av).length : Int)).toNat - (1 : Int).toNat = r.length := by simp
              rw [this]; show List.take r.length (r.map TGuard.av) = _
              exact List.take_of_length_le (by simp)
            refine ⟨⟨by omega, by rw [List.length_map, List.length_cons]; omega, by omega, (flatG (g0 :: r)).1⟩, ?_⟩
            have hdr2 : List.take ((((List.map TGuard.av (g0 :: r)).length : Nat) : Int).toNat - 1) (List.drop 1 (List.map TGuard.av (g0 :: r))) = r.map TGuard.av := hdr
            first | rw [hdr] | rw [hdr2]
            refine ⟨_, c126 r (by omega), backX_fit fun p => ⟨rfl, rfl⟩, ?_⟩
            refine ⟨fun j vs => vs = [.slc 3 ((E ++ slowL f i g0 (faultS f i b) ++ othL i g0 (faultS f i b) (r.reverse.take j)).map TFeFault.av)], ⟨_, ⟨rfl, rfl⟩, by simp [othL]⟩, ?_, ?_⟩
            · intro j n1 n2 s3 n4 es5 n6 hx es6 hv
              obtain ⟨o, ho, hoe⟩ := backX_at hx
              cases hoe
              cases hv
              have hog := hgo o (by simp; right; exact List.mem_reverse.1 (List.mem_of_getElem? ho))
              have hol := othL_len (i := i) (g := g0) (b := faultS f i b) (l := r.reverse.take j)
              rw [List.length_take, List.length_reverse] at hol
              refine ⟨g0.node, g0.fuse.Name, g0.fuse.Rated, List.map TFePoint.av g0.fuse.Points, g0.besides, ⟨by omega, rfl, hgav⟩, _, c107 g0 o (faultS f i b) hg0 hog hfb, fun y1 => ?_, fun y1 => ?_⟩
              · obtain ⟨a1, a2⟩ := app_ok (L := E ++ slowL f i g0 (faultS f i b) ++ othL i g0 (faultS f i b) (r.reverse.take j)) (by rw [List.length_append, List.length_append]; omega) 163 i o.node
                refine ⟨a1, a2, ?_⟩
                repeat refine And.intro rfl ?_
                refine ⟨_, app_next _ _ _ _, ?_⟩
                show _ = _
                rw [othL_take ho, if_pos y1]; simp only [List.append_assoc]
              · repeat refine And.intro rfl ?_
                refine ⟨_, ⟨rfl, rfl⟩, ?_⟩
                show _ = _
                rw [othL_take ho, if_neg (by rw [y1]; simp), List.append_nil]
            · rintro es hv
              rw [backX_len, List.take_of_length_le (by simp)] at hv
              cases hv
              repeat refine And.intro rfl ?_
              refine ⟨_, ⟨rfl, rfl⟩, _, (by omega : 2 - (e + 1) < 2 - e), e + 1, by omega, rfl, ?_⟩
              rw [hwe, hes, ← List.append_assoc, hEq, earthL, List.append_assoc]
          · obtain rfl : e = 2 := by simp at g3; omega
            repeat refine And.intro rfl ?_
            refine ⟨_, ⟨rfl, rfl⟩, same _ ?_⟩
            rw [hL3, hpl, ← List.append_assoc, hBase]
      · repeat refine And.intro rfl ?_
        exact ⟨_, ⟨rfl, rfl⟩, same _ (by rw [z0 gz])⟩
      · -- drops
        have hi0 : i ≠ 0 := by simp at gz; omega
        obtain rfl : k = 1 := by omega
        have hL2 : lookZ f i 2 = lookZ f i 1 ++ dropL f i 3 := by unfold lookZ; rw [if_neg hi0, if_neg hi0]; rfl
        have hB : (judgeL f i ++ lookZ f i 1).length ≤ 4000 := by rw [List.length_append]; omega
        generalize hBase : judgeL f i ++ lookZ f i 1 = B at hB ⊢
        refine ⟨fun m vs => ∃ p : Nat, p ≤ 3 ∧ m = 3 - p ∧ vs = [.int .i64 p, .slc 3 ((B ++ dropL f i p).map TFeFault.av)], ⟨_, ⟨rfl, rfl⟩, _, 0, by omega, rfl, by simp [dropL]⟩, ?_⟩
        rintro m n es ⟨p, hp, rfl, hv⟩
        cases hv
        refine ⟨fun g3 => ?_, fun g3 => ?_⟩
        · have hp3 : p < 3 := by simp at g3; omega
          have hwp : IntKind.i64.wrap ((p : Int) + 1) = ((p + 1 : Nat) : Int) := wrapN (by omega)
          have hdl := dropL_len (f := f) (i := i) (p := p)
          refine ⟨_, c62 hf i hlt p (by omega), fun d1 => ?_, fun d1 => ?_⟩
          · obtain ⟨a1, a2⟩ := app_ok (L := B ++ dropL f i p) (by rw [List.length_append]; omega) 161 i p
            refine ⟨a1, a2, ?_⟩
            repeat refine And.intro rfl ?_
            refine ⟨_, app_next _ _ _ _, _, (by omega : 3 - (p + 1) < 3 - p), p + 1, by omega, rfl, ?_⟩
            rw [hwp, dropL, if_pos d1, List.append_assoc]
          · repeat refine And.intro rfl ?_
            refine ⟨_, ⟨rfl, rfl⟩, _, (by omega : 3 - (p + 1) < 3 - p), p + 1, by omega, rfl, ?_⟩
            rw [hwp, dropL, if_neg (by rw [d1]; simp), List.append_nil]
        · obtain rfl : p = 3 := by simp at g3; omega
          repeat refine And.intro rfl ?_
          refine ⟨_, ⟨rfl, rfl⟩, same _ ?_⟩
          rw [hL2, ← List.append_assoc, hBase]
      · repeat refine And.intro rfl ?_
        exact ⟨_, ⟨rfl, rfl⟩, same _ (by rw [z0 gz])⟩
      · -- loads
        have hi0 : i ≠ 0 := by simp at gz; omega
        obtain rfl : k = 0 := by omega
        have hL1 : lookZ f i 1 = lookZ f i 0 ++ loadL f i 3 := by unfold lookZ; rw [if_neg hi0, if_neg hi0]; rfl
        have hB : (judgeL f i ++ lookZ f i 0).length ≤ 4000 := by rw [List.length_append]; omega
        generalize hBase : judgeL f i ++ lookZ f i 0 = B at hB ⊢
        have hc := (node_ok hf hlt hi0).cable
        refine ⟨(nd f i).Name, (nd f i).Parent, (nd f i).Cable, (nd f i).Length, (nd f i).Fuse, (nd f i).Loads0.Lo, (nd f i).Loads0.Hi, (nd f i).Loads1.Lo, (nd f i).Loads1.Hi, (nd f i).Loads2.Lo, (nd f i).Loads2.Hi, ⟨by omega, rfl, nd_av hlt⟩, _, _, _, _, _, _, c74 hf i hlt hi0, ?_⟩
        refine ⟨fun m vs => ∃ p : Nat, p ≤ 3 ∧ m = 3 - p ∧ vs = [.int .i64 p, .slc 3 ((B ++ loadL f i p).map TFeFault.av)], ⟨_, ⟨rfl, rfl⟩, _, 0, by omega, rfl, by simp [loadL]⟩, ?_⟩
        rintro m n es ⟨p, hp, rfl, hv⟩
        cases hv
        refine ⟨fun g3 => ?_, fun g3 => ?_⟩
        · have hp3 : p < 3 := by simp at g3; omega
          have hwp : IntKind.i64.wrap ((p : Int) + 1) = ((p + 1 : Nat) : Int) := wrapN (by omega)
          have hdl := loadL_len (f := f) (i := i) (p := p)
          obtain ⟨a1, a2⟩ := app_ok (L := B ++ loadL f i p) (by rw [List.length_append]; omega) 160 i p
          have add : loadB f i p = true → ∃ es, (es.length = ((B ++ loadL f i p).map TFeFault.av).length + 1 ∧ List.flatMap AV.cells es = List.flatMap AV.cells ((B ++ loadL f i p).map TFeFault.av) ++ [.int .i64 160, .int .i64 i, .int .i64 p]) ∧ ∃ m', m' < 3 - p ∧ ∃ q : Nat, q ≤ 3 ∧ m' = 3 - q ∧ [AV.int .i64 (IntKind.i64.wrap ((p : Int) + 1)), .slc 3 es] = [.int .i64 q, .slc 3 ((B ++ loadL f i q).map TFeFault.av)] := fun hb =>
            ⟨_, app_next _ _ _ _, _, (by omega : 3 - (p + 1) < 3 - p), p + 1, by omega, rfl, by rw [hwp, loadL, if_pos hb, List.append_assoc]⟩
          have keep : loadB f i p = false → ∃ es : List AV, (es.length = ((B ++ loadL f i p).map TFeFault.av).length ∧ List.flatMap AV.cells es = List.flatMap AV.cells ((B ++ loadL f i p).map TFeFault.av)) ∧ ∃ m', m' < 3 - p ∧ ∃ q : Nat, q ≤ 3 ∧ m' = 3 - q ∧ [AV.int .i64 (IntKind.i64.wrap ((p : Int) + 1)), .slc 3 es] = [.int .i64 q, .slc 3 ((B ++ loadL f i q).map TFeFault.av)] := fun hb =>
            ⟨_, ⟨rfl, rfl⟩, _, (by omega : 3 - (p + 1) < 3 - p), p + 1, by omega, rfl, by rw [hwp, loadL, if_neg (by rw [hb]; simp), List.append_nil]⟩
          have q2 : p = 2 → hiP f i p = (curE f TFeNode.Loads2 i).Hi := fun h => by subst h; rfl
          have q1 : p = 1 → hiP f i p = (curE f TFeNode.Loads1 i).Hi := fun h => by subst h; rfl
          have q0 : p = 0 → hiP f i p = (curE f TFeNode.Loads0 i).Hi := fun h => by subst h; rfl
          refine ⟨⟨by omega, by omega⟩, fun e2 => ?_, fun e1 => ?_, fun e0 => ?_, trivial⟩
          · have hq := q2 (by omega)
            refine ⟨(cb f i).Name, (cb f i).Core.Lo, (cb f i).Core.Hi, (cb f i).Earth.Lo, (cb f i).Earth.Hi, (cb f i).Rated, ⟨hc.1, rfl, cb_av hf hlt hi0⟩, fun l1 => ⟨a1, a2, ?_⟩, fun l1 => ⟨fun l2 => ?_, fun l2 => ?_⟩⟩
            · repeat refine And.intro rfl ?_
              exact add (by rw [loadB, hq, l1]; rfl)
            · have hz : 0 ≤ (nd f i).Fuse := by simpa using l2
              refine ⟨(fz f i).Name, (fz f i).Rated, List.map TFePoint.av (fz f i).Points, ⟨hz, rfl, fz_av hf hlt hi0 hz⟩, fun l3 => ⟨a1, a2, ?_⟩, fun l3 => ?_⟩
              · repeat refine And.intro rfl ?_
                exact add (by rw [loadB, hq, l3, show hasF f i = true from l2]; simp)
              · repeat refine And.intro rfl ?_
                exact keep (by rw [loadB, hq, l1, l3, Bool.and_false]; rfl)
            · repeat refine And.intro rfl ?_
              exact keep (by rw [loadB, hq, l1, show hasF f i = false from l2]; rfl)
          · have hq := q1 (by omega)
            refine ⟨(cb f i).Name, (cb f i).Core.Lo, (cb f i).Core.Hi, (cb f i).Earth.Lo, (cb f i).Earth.Hi, (cb f i).Rated, ⟨hc.1, rfl, cb_av hf hlt hi0⟩, fun l1 => ⟨a1, a2, ?_⟩, fun l1 => ⟨fun l2 => ?_, fun l2 => ?_⟩⟩
            · repeat refine And.intro rfl ?_
              exact add (by rw [loadB, hq, l1]; rfl)
            · have hz : 0 ≤ (nd f i).Fuse := by simpa using l2
              refine ⟨(fz f i).Name, (fz f i).Rated, List.map TFePoint.av (fz f i).Points, ⟨hz, rfl, fz_av hf hlt hi0 hz⟩, fun l3 => ⟨a1, a2, ?_⟩, fun l3 => ?_⟩
              · repeat refine And.intro rfl ?_
                exact add (by rw [loadB, hq, l3, show hasF f i = true from l2]; simp)
              · repeat refine And.intro rfl ?_
                exact keep (by rw [loadB, hq, l1, l3, Bool.and_false]; rfl)
            · repeat refine And.intro rfl ?_
              exact keep (by rw [loadB, hq, l1, show hasF f i = false from l2]; rfl)
          · have hq := q0 (by omega)
            refine ⟨(cb f i).Name, (cb f i).Core.Lo, (cb f i).Core.Hi, (cb f i).Earth.Lo, (cb f i).Earth.Hi, (cb f i).Rated, ⟨hc.1, rfl, cb_av hf hlt hi0⟩, fun l1 => ⟨a1, a2, ?_⟩, fun l1 => ⟨fun l2 => ?_, fun l2 => ?_⟩⟩
            · repeat refine And.intro rfl ?_
              exact add (by rw [loadB, hq, l1]; rfl)
            · have hz : 0 ≤ (nd f i).Fuse := by simpa using l2
              refine ⟨(fz f i).Name, (fz f i).Rated, List.map TFePoint.av (fz f i).Points, ⟨hz, rfl, fz_av hf hlt hi0 hz⟩, fun l3 => ⟨a1, a2, ?_⟩, fun l3 => ?_⟩
              · repeat refine And.intro rfl ?_
                exact add (by rw [loadB, hq, l3, show hasF f i = true from l2]; simp)
              · repeat refine And.intro rfl ?_
                exact keep (by rw [loadB, hq, l1, l3, Bool.and_false]; rfl)
            · repeat refine And.intro rfl ?_
              exact keep (by rw [loadB, hq, l1, show hasF f i = false from l2]; rfl)
        · obtain rfl : p = 3 := by simp at g3; omega
          repeat refine And.intro rfl ?_
          refine ⟨_, ⟨rfl, rfl⟩, same _ ?_⟩
          rw [hL1, ← List.append_assoc, hBase]
      · repeat refine And.intro rfl ?_
        exact ⟨_, ⟨rfl, rfl⟩, same _ (by rw [z0 gz])⟩
    · obtain rfl : k = 3 := by simp at g2; omega
      repeat refine And.intro rfl ?_
      refine ⟨_, ⟨rfl, rfl⟩, _, (by omega : f.Nodes.length - (i + 1) < f.Nodes.length - i), i + 1, by omega, rfl, ?_⟩
      rw [hw, judgeL]
  · obtain rfl : i = f.Nodes.length := by simp at g; omega
    obtain ⟨f1, f2, f3, f4⟩ := flatF (judgeL f f.Nodes.length)
    refine ⟨by rw [cells44, f2, List.length_map]; omega, ?_, rfl⟩
    rw [cells44, agg44]; simp only [chunks, if_true, List.drop_zero, List.length_map]; rw [f4])
end Go.Proofs.Ytbdbnpnichkcjaa
