/- Loops over functions: a round; the loop. -/
import Derived.Test.YtblebiafhhhflaaGreatN1
namespace Go.Proofs.YtblebiafhhhflaaGreat
open Go.RowKit

def Ex.to : Ex → Exit
  | .normal => .normal
  | .exit id => .exit id
  | .ret => .ret
section
variable {P : Program} {S : Specs} {ctl : Ctl}
/-- What the evaluator says of a piece of code holds of the machine's run. -/
def AwpOK (P : Program) (S : Specs) (ctl : Ctl) (c : Code) (ro : Option Nat) : Prop :=
  ∀ {ds : List Deferred} {n : Nat} {μ0 : Lay} {ρ0 : RO} {w0 : World} (K : Ex → St → Prop) (Q : Exit → Act → World → Prop) (ρ : RO) (μ : Lay) (σ : St) (a : Act) (w : World),
    (∀ (e : Ex) (a : Act) (w : World) (ds' : List Deferred), (noRange c = true → ds' = ds) → At ds' n μ0 ρ0 w0 (K e) a w → Q e.to a w) →
    Sat ds n μ0 ρ0 w0 ρ μ σ a w → awp P S n ctl c σ K → c.wpIn (Fr ro) 0 P Q a w
/-- How a round's body is followed. -/
def bodyK (P : Program) (S : Specs) (ctl : Ctl) (body : Code) (m : Nat) (bx : List (Option Bx)) (K' : Ex → St → Prop) : Ex → St → Prop := fun e σa => match e with
  | .normal => if allLive σa && (List.range m).all (fun b => live bx b == live σa.bx b) then awpR P S ctl body σa.bx.length (σa.more (σa.sl.length + 8)) K' else False
  | _ => False
/-- What a round leaves behind. -/
structure Left (ds : List Deferred) (n : Nat) (μ0 : Lay) (ρ0 : RO) (w0 : World) (T : Nat → Prop) (l : Nat) (r : Loop) (ρ : RO) (a : Act) (W : World) (ρ3 : RO) (μ3 : Lay) (σ : St) (w3 : World) : Prop where
  sat : Sat ds n μ0 ρ0 w0 ρ3 μ3 σ a w3
  le : ρ.le ρ3
  ro : ∀ k, T k → ρ3 k = none
  bx : ∀ b x, σ.bx.getD b none = some x → (μ3 b).2 ≠ 0 → ¬ T (μ3 b).1
  same : ∀ k, T k → k ≠ l → w3.heap[k]? = W.heap[k]?
  loop : w3.heap[l]? = some (.loop { r with state := .busy })
  size : W.heap.size ≤ w3.heap.size
  os : w3.os = W.os
  tape : w3.tape = W.tape
  output : w3.output = W.output
theorem round_spec {l : Nat} {assign body : Code} (hA : AwpOK P S ctl assign (some l)) (hB : AwpOK P S ctl body (some l)) (na : noRange assign = true)
    {ds : List Deferred} {n : Nat} {μ0 : Lay} {ρ0 : RO} {w0 : World} {ρ : RO} {μ : Lay} {τ : St} {a : Act} {W : World} (hs : Sat ds n μ0 ρ0 w0 ρ μ τ a W) (hlive : allLive τ = true) (hn : n ≤ τ.bx.length)
    {r : Loop} (hl : W.heap[l]? = some (.loop r)) (hr : r.state = .ready) (hlo : w0.heap.size ≤ l)
    {T : Nat → Prop} (hTl : T l) (hTlt : ∀ k, T k → k < W.heap.size) (hTρ : ∀ k, T k → ρ k = none) (hTb : ∀ b x, τ.bx.getD b none = some x → (μ b).2 ≠ 0 → ¬ T (μ b).1)
    {sl : List AV} {tm : Array Value} (hz : sl.length = tm.size) (hv : ∀ t, Rv ρ (some μ) (sl.getD t .undef) (tm.getD t Go.undef)) (hlv : ∀ b ∈ AV.refsL sl, live τ.bx b = true)
    {K' : Ex → St → Prop} (h : awpR P S ctl assign τ.bx.length ⟨sl, τ.bx ++ List.replicate sl.length none⟩ (bodyK P S ctl body τ.bx.length (τ.bx ++ List.replicate sl.length none) fun e σ1 => if backOK n τ.bx σ1.bx then K' e σ1 else False)) :
    assign.wpIn (Fr (some l)) 0 P (Exit.then (fun a1 w1 => ∃ w2, (Instr.beginRound l).run P w1 = .ok () w2 ∧ body.wpIn (Fr (some l)) 0 P (fun e _ w3 => ∃ ex ρ3 μ3 σ3, e = Ex.to ex ∧ K' ex σ3 ∧
      Left ds n μ0 ρ0 w0 T l r ρ a W ρ3 μ3 ⟨τ.sl, σ3.bx⟩ w3) a1 w2) (fun _ _ _ => False)) ⟨tm, []⟩ W := by
  have h1 := hs.restart hlive hz hv hlv sl.length
  refine hA _ _ _ _ _ _ _ ?_ h1 h
  rintro e a1 w1 ds' hds ⟨ρa, μa, σa, hi, hk⟩
  obtain rfl := hds na
  cases e with
  | exit i => exact hk.elim
  | ret => exact hk.elim
  | normal =>
    show ∃ w2, (Instr.beginRound l).run P w1 = .ok () w2 ∧ _
    simp only [bodyK] at hk
    split at hk
    case isFalse => exact hk.elim
    rename_i hc
    rw [Bool.and_eq_true] at hc
    obtain ⟨hla, hkeep⟩ := hc
    have hkeq : ∀ b, b < τ.bx.length → live τ.bx b = live σa.bx b := by
      intro b hb
      have hb' : live (τ.bx ++ List.replicate sl.length none) b = live τ.bx b := by unfold live; rw [more_getD]
      have := List.all_eq_true.1 hkeep b (List.mem_range.2 hb)
      rw [hb'] at this
      simpa using this
    have hkeep' : ∀ b, live τ.bx b = true → live σa.bx b = true := fun b hb => by rw [← hkeq b (live_lt hb)]; exact hb
    have hT0 : ∀ b, b < τ.bx.length → (norm0 τ μ b).2 ≠ 0 → ¬ T (norm0 τ μ b).1 := by
      intro b _ hk
      unfold norm0 at hk ⊢
      split at hk
      · rename_i hb
        rw [if_pos hb]
        obtain ⟨x, hx⟩ := live_some hb
        exact hTb b x hx hk
      · exact absurd rfl hk
    have ap1 := hi.apart (T := T) hT0 hTlt
    have ar1 := hi.apart_ro (T := T) hTρ hTlt hT0
    have fr1 : ∀ k, T k → w1.heap[k]? = W.heap[k]? := fun k hk => hi.frame k (hTlt k hk) (fun b hb hb2 he => hT0 b hb hb2 (he ▸ hk))
    have hl1 := (fr1 l hTl).trans hl
    have hsz1 := hi.size
    have hcb : backOK n τ.bx σa.bx = true := by
      simp only [backOK, Bool.and_eq_true]
      simp only [allLive, Bool.and_eq_true] at hla
      refine ⟨List.all_eq_true.2 fun b hb => ?_, hla.2⟩
      rw [hkeq b (by have := List.mem_range.1 hb; omega)]
      cases live σa.bx b <;> rfl
    have c1 := hs.compose hlive hi hcb
    obtain ⟨μc, hμc⟩ : ∃ μc : Lay, joinL n μ μa = μc := ⟨_, rfl⟩
    have hlc : ∀ b, live σa.bx b = true → μc b = μa b := fun b hb => by rw [← hμc]; exact compose_lay hi hcb hb
    rw [hμc] at c1
    have c2 : Sat ds n μ0 ρ0 w0 ρa μc ⟨τ.sl, σa.bx⟩ a (w1.putObj l (.loop { r with state := .busy })) :=
      c1.turn (T := (· = l)) (by simp) (fun k _ hk => World.putObj_heap_other hk) (fun k hk => hk ▸ ar1 l hTl) (fun b x hx hk he => by
        rw [hlc b (live_of hx)] at hk he
        exact ap1 b x hx hk (by rw [he]; exact hTl)) (fun k hk => .inl (hk ▸ hlo)) rfl rfl rfl
    refine ⟨_, run_beginRound hl1 hr, ?_⟩
    have hla' := hla
    simp only [allLive, Bool.and_eq_true, List.all_eq_true] at hla' hlive
    have hlive2 : allLive ⟨τ.sl, σa.bx⟩ = true := by
      simp only [allLive, Bool.and_eq_true, List.all_eq_true]
      exact ⟨fun b hb => hkeep' b (hlive.1 b hb), hla'.2⟩
    have h2 := c2.restart hlive2 (sl := σa.sl) (tm := a1.tmps) hi.sz (fun t => (hi.sl t).lay fun b hb => hlc b (hla'.1 b (mem_refsL hb))) (fun b hb => hla'.1 b hb) (σa.sl.length + 8)
    have ha1 : a1 = ⟨a1.tmps, []⟩ := by have := hi.dfe; cases a1; simp_all
    rw [ha1]
    refine hB _ _ _ _ _ _ _ ?_ h2 hk
    rintro e a3 w3 ds'' _ ⟨ρb, μb, σb, hj, hk3⟩
    have hlt2 : ∀ k, T k → k < (w1.putObj l (.loop { r with state := .busy })).heap.size := fun k hk => by rw [World.putObj_size]; have := hTlt k hk; omega
    have hT2 : ∀ b, b < σa.bx.length → (norm0 ⟨τ.sl, σa.bx⟩ μc b).2 ≠ 0 → ¬ T (norm0 ⟨τ.sl, σa.bx⟩ μc b).1 := by
      intro b _ hk
      unfold norm0 at hk ⊢
      split at hk
      · rename_i hb
        rw [if_pos hb]
        obtain ⟨x, hx⟩ := live_some hb
        rw [hlc b hb] at hk ⊢
        exact ap1 b x hx hk
      · exact absurd rfl hk
    have fr2 : ∀ k, T k → w3.heap[k]? = (w1.putObj l (.loop { r with state := .busy })).heap[k]? := fun k hk => hj.frame k (hlt2 k hk) (fun b hb hb2 he => hT2 b hb hb2 (he ▸ hk))
    split at hk3
    case isFalse => exact hk3.elim
    rename_i hbk
    have hcb2 : backOK n σa.bx σb.bx = true := by
      simp only [backOK, Bool.and_eq_true] at hbk ⊢
      refine ⟨List.all_eq_true.2 fun b hb => ?_, hbk.2⟩
      have := List.all_eq_true.1 hbk.1 b hb
      rw [hkeq b (by have := List.mem_range.1 hb; omega)] at this
      exact this
    have ap2 := hj.apart (T := T) hT2 hlt2
    have hbx2 : ∀ b x, σb.bx.getD b none = some x → (joinL n μc μb b).2 ≠ 0 → ¬ T (joinL n μc μb b).1 := fun b x hx hk => by
      have hb := compose_lay (σ := ⟨τ.sl, σa.bx⟩) (n := n) hj hcb2 (live_of hx)
      rw [hb] at hk ⊢
      exact ap2 b x hx hk
    refine ⟨e, ρb, _, σb, rfl, hk3, { sat := c2.compose hlive2 hj hcb2, le := hi.le.trans hj.le, ro := hj.apart_ro (T := T) ar1 hlt2 hT2, bx := hbx2, same := fun k hk hne => ?_, loop := ?_, size := ?_, os := hj.os.trans hi.os, tape := hj.tape.trans hi.tape, output := hj.output.trans hi.output }⟩
    · rw [fr2 k hk, World.putObj_heap_other hne, fr1 k hk]
    · rw [fr2 l hTl]; exact World.putObj_heap_same (by have := hTlt l hTl; omega)
    · have := hj.size; rw [World.putObj_size] at this; omega
end
end Go.Proofs.YtblebiafhhhflaaGreat
