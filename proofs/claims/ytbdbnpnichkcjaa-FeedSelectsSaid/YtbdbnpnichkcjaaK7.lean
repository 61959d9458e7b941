/- The plain law of FeedSelects: between the currents that Judge looks at nothing changes. -/
import Derived.Test.YtbdbnpnichkcjaaK2
import Derived.Test.YtbdbnpnichkcjaaK4
import Derived.Test.YtbdbnpnichkcjaaRi
import Derived.Test.YtbdbnpnichkcjaaZ6
namespace Go.Proofs.Ytbdbnpnichkcjaa
open Go.RowKit
theorem melt_same {x : TFeFuse} {c d : Int} (h : ∀ p ∈ x.Points, p.Current ≤ c ↔ p.Current ≤ d) : meltS x c = meltS x d := by
  unfold meltS
  have key : ∀ l : List TFePoint, (∀ p ∈ l, p.Current ≤ c ↔ p.Current ≤ d) → l.find? (fun p => decide (p.Current ≤ c)) = l.find? (fun p => decide (p.Current ≤ d)) := by
    intro l
    induction l with
    | nil => intro _; rfl
    | cons p r ih =>
      intro hr
      simp only [List.find?_cons]
      rw [show decide (p.Current ≤ c) = decide (p.Current ≤ d) from decide_eq_decide.2 (hr p (by simp))]
      split
      · rfl
      · exact ih fun q hq => hr q (List.mem_cons_of_mem _ hq)
  have := key x.Points.reverse fun p hp => h p (List.mem_reverse.1 hp)
  rw [this]
theorem max_below {n : Int} : ∀ (P : List Int), (∃ x ∈ P, x ≤ n) → ∃ q ∈ P, q ≤ n ∧ ∀ x ∈ P, x ≤ n → x ≤ q := by
  intro P
  induction P with
  | nil => rintro ⟨x, hx, _⟩; cases hx
  | cons a r ih =>
    intro hex
    by_cases hr : ∃ x ∈ r, x ≤ n
    · obtain ⟨q, h1, h2, h3⟩ := ih hr
      by_cases ha : a ≤ n ∧ q ≤ a
      · refine ⟨a, by simp, ha.1, fun x hx hxn => ?_⟩
        rcases List.mem_cons.1 hx with rfl | hx
        · omega
        · have := h3 x hx hxn; omega
      · refine ⟨q, List.mem_cons_of_mem _ h1, h2, fun x hx hxn => ?_⟩
        rcases List.mem_cons.1 hx with rfl | hx
        · omega
        · exact h3 x hx hxn
    · obtain ⟨x, hx, hxn⟩ := hex
      rcases List.mem_cons.1 hx with rfl | hx
      · refine ⟨x, by simp, hxn, fun y hy hyn => ?_⟩
        rcases List.mem_cons.1 hy with rfl | hy
        · omega
        · exact absurd ⟨y, hy, hyn⟩ hr
      · exact absurd ⟨x, hx, hxn⟩ hr
/-- What holds at the currents that are looked at holds at any current in the bounds. -/
theorem beats_any {g o : TGuard} {b : TEncl} {n : Int} (hy : yieldsB g o b = false) (h1 : b.Lo ≤ n) (h2 : n ≤ b.Hi) (hop : (meltS g.fuse n).2 = true) : beatsB g o n = true := by
  have hlo : b.Lo ∈ probes g o b := by simp [probes]
  obtain ⟨q, hq, hqn, hall⟩ := max_below (n := n) (probes g o b) ⟨_, hlo, h1⟩
  have hbq : b.Lo ≤ q := hall _ hlo h1
  have eg : meltS g.fuse n = meltS g.fuse q := melt_same fun p hp => by
    have hm : p.Current ∈ probes g o b := by
      unfold probes gCur
      exact List.mem_append_left _ (List.mem_cons_of_mem _ (List.mem_map.2 ⟨p, hp, rfl⟩))
    exact ⟨fun h => hall _ hm h, fun h => by omega⟩
  have eo : meltS o.fuse (n + o.besides) = meltS o.fuse (q + o.besides) := melt_same fun p hp => by
    have hm : p.Current - o.besides ∈ probes g o b := by
      unfold probes oCur
      exact List.mem_append_right _ (List.mem_map.2 ⟨p, hp, rfl⟩)
    have := hall _ hm
    omega
  have hw : wantB g o b q = false := by
    have := List.any_eq_false.1 hy q hq
    simpa using this
  unfold wantB at hw
  rw [inB_iff.2 ⟨hbq, by omega⟩, ← eg, hop] at hw
  have hb : beatsB g o n = beatsB g o q := by unfold beatsB; rw [eg, eo]
  rw [hb]
  simpa using hw
theorem judge_mem {f : TFeFeeder} {k : Nat} {x : TFeFault} (hx : x ∈ lookZ f k 3) : ∀ n, k < n → x ∈ judgeL f n := by
  intro n
  induction n with
  | zero => intro h; omega
  | succ n ih =>
    intro h
    rw [judgeL]
    by_cases e : k = n
    · subst e; exact List.mem_append_right _ hx
    · exact List.mem_append_left _ (ih (by omega))
theorem prot_mem {f : TFeFeeder} {k : Nat} (h0 : k ≠ 0) {x : TFeFault} (hx : x ∈ protL f k) : x ∈ lookZ f k 3 := by
  rw [lookZ, if_neg h0, lookL]
  · exact List.mem_append_right _ hx
  all_goals (intros; omega)
theorem earth_mem {f : TFeFeeder} {k : Nat} (h0 : k ≠ 0) {g : TGuard} {r : List TGuard} (hg : guardsL f (upL f k) = g :: r) {e : Bool} {x : TFeFault} (hx : x ∈ earthL f k g r e) : x ∈ lookZ f k 3 := by
  refine prot_mem h0 ?_
  unfold protL
  rw [hg]
  show x ∈ earthL f k g r false ++ earthL f k g r true
  cases e
  · exact List.mem_append_left _ hx
  · exact List.mem_append_right _ hx
/-- What it means that Judge finds nothing of the two kinds for a node. -/
theorem judge_clean {f : TFeFeeder} {k : Nat} (hk : k < f.Nodes.length) (h0 : k ≠ 0) {g : TGuard} {r : List TGuard} (hg : guardsL f (upL f k) = g :: r) (hc : ∀ x ∈ judgeL f f.Nodes.length, x.Node = k → x.Error ≠ 162 ∧ x.Error ≠ 163) (e : Bool) :
    slowB f g (faultS f k e) = false ∧ ∀ o ∈ r, yieldsB g o (faultS f k e) = false := by
  constructor
  · cases hs : slowB f g (faultS f k e) with
    | false => rfl
    | true =>
      exfalso
      have hm : (⟨162, k, g.node⟩ : TFeFault) ∈ earthL f k g r e := by
        unfold earthL slowL; rw [if_pos hs]; simp
      exact (hc _ (judge_mem (earth_mem h0 hg hm) _ hk) rfl).1 rfl
  · intro o ho
    cases hs : yieldsB g o (faultS f k e) with
    | false => rfl
    | true =>
      exfalso
      have hm : (⟨163, k, o.node⟩ : TFeFault) ∈ earthL f k g r e := by
        unfold earthL othL
        exact List.mem_append_right _ (List.mem_map.2 ⟨o, List.mem_filter.2 ⟨List.mem_reverse.2 ho, hs⟩, rfl⟩)
      exact (hc _ (judge_mem (earth_mem h0 hg hm) _ hk) rfl).2 rfl
/-- FeedSelects, in plain words. -/
structure Sel (f : TFeFeeder) (k a : Nat) (r : List Nat) (n : Int) : Prop where
  opens : (meltS (fz f a) n).2 = true
  time : (meltS (fz f a) n).1.Hi ≤ f.Limit
  first : firstG (guardsL f (upL f k)) n 0 (guardsL f (upL f k)) = a
  others : ∀ o ∈ r, (meltS (fz f o) (n + besS f o)).2 = false ∨ (meltS (fz f a) n).1.Hi < (meltS (fz f o) (n + besS f o)).1.Lo
theorem selects {f : TFeFeeder} (hf : OK f) {k : Nat} (hk : k < f.Nodes.length) (h0 : k ≠ 0) {a : Nat} {r : List Nat} (hg : gn f k = a :: r) (hc : ∀ x ∈ judgeL f f.Nodes.length, x.Node = k → x.Error ≠ 162 ∧ x.Error ≠ 163) {e : Bool} {n : Int}
    (h1 : (faultS f k e).Lo ≤ n) (h2 : n ≤ (faultS f k e).Hi) : Sel f k a r n := by
  have hG : guardsL f (upL f k) = guardS f a :: r.map (guardS f) := by rw [guards_gn, hg]; rfl
  obtain ⟨hs, hy⟩ := judge_clean hk h0 hG hc e
  have ha := gn_mem hf hk (show a ∈ gn f k by rw [hg]; simp)
  have ka := fuse_ok hf (fz_get hf ha.2.1 ha.1 ha.2.2)
  unfold slowB at hs
  have hs1 : (meltS (fz f a) (faultS f k e).Lo).2 = true ∧ (meltS (fz f a) (faultS f k e).Lo).1.Hi ≤ f.Limit := by
    have hs : (!(meltS (fz f a) (faultS f k e).Lo).2 || decide ((meltS (fz f a) (faultS f k e).Lo).1.Hi > f.Limit)) = false := hs
    rw [Bool.or_eq_false_iff] at hs
    refine ⟨by simpa using hs.1, ?_⟩
    have := hs.2
    simp at this; omega
  obtain ⟨m1, m2, m3, m4⟩ := melt_mono ka h1 hs1.1
  have hb : ∀ o ∈ r.map (guardS f), beatsB (guardS f a) o n = true := fun o ho => beats_any (hy o ho) h1 h2 m1
  refine ⟨m1, by omega, ?_, fun o ho => ?_⟩
  · rw [hG]
    have hcert : certB (guardS f a :: r.map (guardS f)) n 0 (guardS f a) = true := by
      unfold certB
      have e1 : (meltS (guardS f a).fuse n).2 = true := m1
      rw [e1, List.take_zero]
      have e2 : (List.drop (0 + 1) (guardS f a :: r.map (guardS f))).any (fun o => !beatsB (guardS f a) o n) = false := by
        refine List.any_eq_false.2 fun o ho => ?_
        rw [hb o ho]; decide
      rw [e2]; rfl
    have := firstG_at (l := guardS f a :: r.map (guardS f)) (c := n) (k := 0) (g := guardS f a) rfl
    rw [List.drop_zero] at this
    rw [this, if_pos hcert]; rfl
  · have := hb (guardS f o) (List.mem_map.2 ⟨o, ho, rfl⟩)
    unfold beatsB at this
    have this : (!(meltS (fz f o) (n + besS f o)).2 || decide ((meltS (fz f a) n).1.Hi < (meltS (fz f o) (n + besS f o)).1.Lo)) = true := this
    rw [Bool.or_eq_true] at this
    rcases this with h | h
    · left; simpa using h
    · right; simpa using h
end Go.Proofs.Ytbdbnpnichkcjaa
