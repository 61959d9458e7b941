/- What comes in of an inventory is what the contracts ask. -/
import Derived.Test.YtblebiafhhhflaaGreatO
import Derived.Test.YtblebiafhhhflaaGreatHm
namespace Go.Proofs.YtblebiafhhhflaaGreat
open Go.RowKit
theorem taskOK_of {t : TMtTask} (h : t.Ok) : TaskOK t ∧ t.Items.length ≤ 2 ^ 43 ∧ t.Profiles.length ≤ 2 ^ 43 ∧ t.Meters.length ≤ 2 ^ 43 := by
  have e : reachBytes = 140737488351232 := by rfl
  have e2 : maxLen = 9223372036854775807 := by rfl
  unfold TMtTask.Ok at h
  rw [e, e2] at h
  obtain ⟨_, hc, ⟨hp, _, hpl⟩, ⟨hi, _, hil⟩, ⟨hm, _, hml⟩⟩ := h
  unfold TLmCatalog.Ok at hc
  rw [e, e2] at hc
  obtain ⟨⟨h1, h1a, h1b⟩, ⟨h2, h2a, h2b⟩⟩ := hc
  refine ⟨⟨⟨fun x hx => ?_, fun x hx => ?_, by omega, by omega⟩, fun x hx => ?_, fun x hx => ?_, fun x hx => ?_, fun x hx => ?_⟩, by omega, by omega, by omega⟩
  · have := (h1 x hx).1; rw [e2] at this; exact this
  · have := (h2 x hx).1; rw [e2] at this; exact this
  · have := (hp x hx).1; rw [e2] at this; exact this
  · have := (hm x hx).1; rw [e2] at this; exact this
  · have := (hi x hx).1; rw [e2] at this; exact this
  · have := (hp x hx).2.2.2; rw [e] at this; omega
theorem u16_of {n : Int} (h : InK .u16 n) : 0 ≤ n ∧ n ≤ 65535 := by
  unfold InK at h
  simp [Lit.wf, IntKind.min, IntKind.max, IntKind.signed, IntKind.bits] at h; omega
theorem u8_of {n : Int} (h : InK .u8 n) : 0 ≤ n ∧ n ≤ 255 := by
  unfold InK at h
  simp [Lit.wf, IntKind.min, IntKind.max, IntKind.signed, IntKind.bits] at h; omega
theorem i64_of {n : Int} (h : InK .i64 n) : -9223372036854775808 ≤ n ∧ n ≤ 9223372036854775807 := by
  unfold InK at h
  simp [Lit.wf, IntKind.min, IntKind.max, IntKind.signed, IntKind.bits] at h; omega
end Go.Proofs.YtblebiafhhhflaaGreat
