/- Contracts: small functions, names. -/
import Derived.Test.YtbdbnpnichkcjaaP
namespace Go.Proofs.Ytbdbnpnichkcjaa
open Go.RowKit
def R43 (n : Int) (low : Int) (high : Int) (S : SpecF) (Fr : FuncId → List AV → Nat → List AV → Prop) (Sq : FuncId → List AV → List (List AV) → List (List AV) → Prop) (Q : AV → List (List AV) → Prop) : Prop :=
  (decide (low ≤ n) = true → Q (AV.bool (decide (n ≤ high))) []) ∧ (decide (low ≤ n) = false → Q (AV.bool false) [])
theorem r43 (n : Int) (low : Int) (high : Int) (S : SpecF) (Fr : FuncId → List AV → Nat → List AV → Prop) (Sq : FuncId → List AV → List (List AV) → List (List AV) → Prop) (Q : AV → List (List AV) → Prop) : awpF Try.prog (mkS Try.prog S Fr Sq ⟨[], [], [], [], []⟩ 0) 0 ⟨[0, 1, 2, 6], [], [], []⟩ Try.f43 [.int .i64 n, .int .i64 low, .int .i64 high] [] Q = R43 n low high S Fr Sq Q := by kernel_rfl
theorem s43 (n : Int) (low : Int) (high : Int) (v : AV) (O : List (List AV)) (h : R43 n low high (SpecOf Try.prog) (FreshOf Try.prog) (SeqOf Try.prog) (fun r O' => r = v ∧ O' = O)) : SpecOf Try.prog 43 [.int .i64 n, .int .i64 low, .int .i64 high] [] v O :=
  spec_by (boxes := []) mixed (by exact trivial) Try.func43 Try.call43 rfl rfl rfl (Nat.le_of_ble_eq_true rfl) (r43 n low high (SpecOf Try.prog) (FreshOf Try.prog) (SeqOf Try.prog) _) h
theorem c43 (n lo hi : Int) : Sp 43 [.int .i64 n, .int .i64 lo, .int .i64 hi] [] (.bool (inB n lo hi)) [] :=
  s43 n lo hi _ _ ⟨fun h => by simp [inB, h], fun h => by simp [inB, h]⟩
def R55 (n : Int) (low : Int) (high : Int) (S : SpecF) (Fr : FuncId → List AV → Nat → List AV → Prop) (Sq : FuncId → List AV → List (List AV) → List (List AV) → Prop) (Q : AV → List (List AV) → Prop) : Prop :=
  (decide (n ≥ low) = true → Q (AV.bool (decide (n ≤ high))) []) ∧ (decide (n ≥ low) = false → Q (AV.bool false) [])
theorem r55 (n : Int) (low : Int) (high : Int) (S : SpecF) (Fr : FuncId → List AV → Nat → List AV → Prop) (Sq : FuncId → List AV → List (List AV) → List (List AV) → Prop) (Q : AV → List (List AV) → Prop) : awpF Try.prog (mkS Try.prog S Fr Sq ⟨[], [], [], [], []⟩ 0) 0 ⟨[0, 1, 2, 6], [], [], []⟩ Try.f55 [.int .i64 n, .int .i64 low, .int .i64 high] [] Q = R55 n low high S Fr Sq Q := by kernel_rfl
theorem s55 (n : Int) (low : Int) (high : Int) (v : AV) (O : List (List AV)) (h : R55 n low high (SpecOf Try.prog) (FreshOf Try.prog) (SeqOf Try.prog) (fun r O' => r = v ∧ O' = O)) : SpecOf Try.prog 55 [.int .i64 n, .int .i64 low, .int .i64 high] [] v O :=
  spec_by (boxes := []) mixed (by exact trivial) Try.func55 Try.call55 rfl rfl rfl (Nat.le_of_ble_eq_true rfl) (r55 n low high (SpecOf Try.prog) (FreshOf Try.prog) (SeqOf Try.prog) _) h
theorem c55 (n lo hi : Int) : Sp 55 [.int .i64 n, .int .i64 lo, .int .i64 hi] [] (.bool (inB n lo hi)) [] :=
  s55 n lo hi _ _ ⟨fun h => by simp_all [inB], fun h => ⟨by congr 1; rw [eq_comm, Bool.eq_false_iff, Ne, inB_iff]; simp at h; omega, rfl⟩⟩
def R42 (b : TEncl) (low : Int) (high : Int) (S : SpecF) (Fr : FuncId → List AV → Nat → List AV → Prop) (Sq : FuncId → List AV → List (List AV) → List (List AV) → Prop) (Q : AV → List (List AV) → Prop) : Prop :=
  (decide (low ≤ b.Lo) = true → (decide (b.Lo ≤ b.Hi) = true → Q (AV.bool (decide (b.Hi ≤ high))) []) ∧ (decide (b.Lo ≤ b.Hi) = false → Q (AV.bool false) [])) ∧ (decide (low ≤ b.Lo) = false → Q (AV.bool false) [])
theorem r42 (b : TEncl) (low : Int) (high : Int) (S : SpecF) (Fr : FuncId → List AV → Nat → List AV → Prop) (Sq : FuncId → List AV → List (List AV) → List (List AV) → Prop) (Q : AV → List (List AV) → Prop) : awpF Try.prog (mkS Try.prog S Fr Sq ⟨[], [], [], [], []⟩ 0) 0 ⟨[0, 1, 2, 3, 6], [], [], []⟩ Try.f42 [b.av, .int .i64 low, .int .i64 high] [] Q = R42 b low high S Fr Sq Q := by kernel_rfl
theorem s42 (b : TEncl) (low : Int) (high : Int) (v : AV) (O : List (List AV)) (h : R42 b low high (SpecOf Try.prog) (FreshOf Try.prog) (SeqOf Try.prog) (fun r O' => r = v ∧ O' = O)) : SpecOf Try.prog 42 [b.av, .int .i64 low, .int .i64 high] [] v O :=
  spec_by (boxes := []) mixed (by exact trivial) Try.func42 Try.call42 rfl rfl rfl (Nat.le_of_ble_eq_true rfl) (r42 b low high (SpecOf Try.prog) (FreshOf Try.prog) (SeqOf Try.prog) _) h
theorem c42 (b : TEncl) (lo hi : Int) : Sp 42 [b.av, .int .i64 lo, .int .i64 hi] [] (.bool (wiB b lo hi)) [] :=
  s42 b lo hi _ _ (by
  refine ⟨fun h => ⟨fun h2 => ⟨?_, rfl⟩, fun h2 => ⟨?_, rfl⟩⟩, fun h => ⟨?_, rfl⟩⟩
  · simp only [wiB, inB, h, h2, Bool.true_and]
  · simp only [wiB, inB, h, h2, Bool.true_and, Bool.false_and]
  · simp only [wiB, inB, h, Bool.false_and])
def R54 (b : TEncl) (low : Int) (high : Int) (S : SpecF) (Fr : FuncId → List AV → Nat → List AV → Prop) (Sq : FuncId → List AV → List (List AV) → List (List AV) → Prop) (Q : AV → List (List AV) → Prop) : Prop :=
  (decide (b.Lo ≤ b.Hi) = true → ∃ b2, S (55 : Nat) [AV.int IntKind.i64 b.Lo, AV.int IntKind.i64 low, AV.int IntKind.i64 high] [] (AV.bool b2) [] ∧ (b2 = true → ∃ b6, S (55 : Nat) [AV.int IntKind.i64 b.Hi, AV.int IntKind.i64 low, AV.int IntKind.i64 high] [] (AV.bool b6) [] ∧ Q (AV.bool b6) []) ∧ (b2 = false → Q (AV.bool false) [])) ∧ (decide (b.Lo ≤ b.Hi) = false → Q (AV.bool false) [])
theorem r54 (b : TEncl) (low : Int) (high : Int) (S : SpecF) (Fr : FuncId → List AV → Nat → List AV → Prop) (Sq : FuncId → List AV → List (List AV) → List (List AV) → Prop) (Q : AV → List (List AV) → Prop) : awpF Try.prog (mkS Try.prog S Fr Sq ⟨[], [], [], [], []⟩ 0) 0 ⟨[0, 1, 2, 3, 6], [], [], []⟩ Try.f54 [b.av, .int .i64 low, .int .i64 high] [] Q = R54 b low high S Fr Sq Q := by kernel_rfl
theorem s54 (b : TEncl) (low : Int) (high : Int) (v : AV) (O : List (List AV)) (h : R54 b low high (SpecOf Try.prog) (FreshOf Try.prog) (SeqOf Try.prog) (fun r O' => r = v ∧ O' = O)) : SpecOf Try.prog 54 [b.av, .int .i64 low, .int .i64 high] [] v O :=
  spec_by (boxes := []) mixed (by exact trivial) Try.func54 Try.call54 rfl rfl rfl (Nat.le_of_ble_eq_true rfl) (r54 b low high (SpecOf Try.prog) (FreshOf Try.prog) (SeqOf Try.prog) _) h
theorem c54 (b : TEncl) (lo hi : Int) : Sp 54 [b.av, .int .i64 lo, .int .i64 hi] [] (.bool (wiB b lo hi)) [] := s54 b lo hi _ _ (by
  refine ⟨fun h => ⟨_, c55 _ _ _, fun h2 => ⟨_, c55 _ _ _, ?_, rfl⟩, fun h2 => ⟨?_, rfl⟩⟩, fun h => ⟨?_, rfl⟩⟩
  · congr 1; rw [Bool.eq_iff_iff, inB_iff, wiB_iff]; rw [inB_iff] at h2; simp at h; omega
  · congr 1; rw [eq_comm, Bool.eq_false_iff, Ne, wiB_iff]; rw [Bool.eq_false_iff, Ne, inB_iff] at h2; simp at h; omega
  · congr 1; rw [eq_comm, Bool.eq_false_iff, Ne, wiB_iff]; simp at h; omega)
def R93 (s : ByteArray) (S : SpecF) (Fr : FuncId → List AV → Nat → List AV → Prop) (Sq : FuncId → List AV → List (List AV) → List (List AV) → Prop) (Q : AV → List (List AV) → Prop) : Prop :=
  ∃ (I0 : Nat → List AV → Prop), (∃ m2, I0 m2 [AV.int IntKind.i64 (0 : Int)]) ∧ ∀ (m2 : Nat) (n3 : Int), I0 m2 [AV.int IntKind.i64 n3] → (decide (n3 < (↑(bytesA s).length : Int)) = true → ∃ n7, ((0 : Int) ≤ n3 ∧ (1 : Nat) = (1 : Nat) ∧ (bytesA s)[n3.toNat]? = some (AV.int IntKind.u8 n7)) ∧ (decide (n7 ≥ (97 : Int)) = true → ((!decide (n7 ≤ (122 : Int))) = true → ((n3 == (0 : Int)) = true → Q (AV.bool false) []) ∧ ((n3 == (0 : Int)) = false → (decide (n7 ≥ (48 : Int)) = true → ((!decide (n7 ≤ (57 : Int))) = true → ((n7 != (45 : Int)) = true → Q (AV.bool false) []) ∧ ((n7 != (45 : Int)) = false → ∃ k21, k21 < m2 ∧ I0 k21 [AV.int IntKind.i64 (IntKind.i64.wrap (n3 + (1 : Int)))])) ∧ ((!decide (n7 ≤ (57 : Int))) = false → ∃ k19, k19 < m2 ∧ I0 k19 [AV.int IntKind.i64 (IntKind.i64.wrap (n3 + (1 : Int)))])) ∧ (decide (n7 ≥ (48 : Int)) = false → ((n7 != (45 : Int)) = true → Q (AV.bool false) []) ∧ ((n7 != (45 : Int)) = false → ∃ k19, k19 < m2 ∧ I0 k19 [AV.int IntKind.i64 (IntKind.i64.wrap (n3 + (1 : Int)))])))) ∧ ((!decide (n7 ≤ (122 : Int))) = false → ∃ k13, k13 < m2 ∧ I0 k13 [AV.int IntKind.i64 (IntKind.i64.wrap (n3 + (1 : Int)))])) ∧ (decide (n7 ≥ (97 : Int)) = false → ((n3 == (0 : Int)) = true → Q (AV.bool false) []) ∧ ((n3 == (0 : Int)) = false → (decide (n7 ≥ (48 : Int)) = true → ((!decide (n7 ≤ (57 : Int))) = true → ((n7 != (45 : Int)) = true → Q (AV.bool false) []) ∧ ((n7 != (45 : Int)) = false → ∃ k19, k19 < m2 ∧ I0 k19 [AV.int IntKind.i64 (IntKind.i64.wrap (n3 + (1 : Int)))])) ∧ ((!decide (n7 ≤ (57 : Int))) = false → ∃ k17, k17 < m2 ∧ I0 k17 [AV.int IntKind.i64 (IntKind.i64.wrap (n3 + (1 : Int)))])) ∧ (decide (n7 ≥ (48 : Int)) = false → ((n7 != (45 : Int)) = true → Q (AV.bool false) []) ∧ ((n7 != (45 : Int)) = false → ∃ k17, k17 < m2 ∧ I0 k17 [AV.int IntKind.i64 (IntKind.i64.wrap (n3 + (1 : Int)))]))))) ∧ (decide (n3 < (↑(bytesA s).length : Int)) = false → ((!s.toList == (ByteArray.mk #[]).toList) = true → Q (AV.bool (decide ((↑s.size : Int) ≤ (24 : Int)))) []) ∧ ((!s.toList == (ByteArray.mk #[]).toList) = false → Q (AV.bool false) []))
theorem r93 (s : ByteArray) (S : SpecF) (Fr : FuncId → List AV → Nat → List AV → Prop) (Sq : FuncId → List AV → List (List AV) → List (List AV) → Prop) (Q : AV → List (List AV) → Prop) : awpF Try.prog (mkS Try.prog S Fr Sq ⟨[], [], [], [], []⟩ 0) 0 ⟨[0, 2, 3, 4, 5, 7, 8, 9, 10, 38], [⟨2, [(9, .int .i64 0)], [], [], [], []⟩], [], []⟩ Try.f93 [.str s] [] Q = R93 s S Fr Sq Q := by kernel_rfl
theorem s93 (s : ByteArray) (v : AV) (O : List (List AV)) (h : R93 s (SpecOf Try.prog) (FreshOf Try.prog) (SeqOf Try.prog) (fun r O' => r = v ∧ O' = O)) : SpecOf Try.prog 93 [.str s] [] v O :=
  spec_by (boxes := []) mixed (by exact trivial) Try.func93 Try.call93 rfl rfl rfl (Nat.le_of_ble_eq_true rfl) (r93 s (SpecOf Try.prog) (FreshOf Try.prog) (SeqOf Try.prog) _) h
theorem c93 (s : ByteArray) (hl : s.size ≤ 9223372036854775807) : Sp 93 [.str s] [] (.bool (nameB s)) [] := s93 s _ _ (by
  unfold R93
  simp only [bytesA_eq, List.length_map, bsOf_len]
  refine ⟨fun m vs => ∃ n : Nat, vs = [.int .i64 n] ∧ n ≤ s.size ∧ m = s.size - n ∧ okL n ((bsOf s).drop n) = okL 0 (bsOf s), ⟨_, 0, rfl, by omega, rfl, rfl⟩, ?_⟩
  rintro m n ⟨k, hk, hle, rfl, hn⟩
  cases hk
  refine ⟨fun h3 => ?_, fun h3 => ?_⟩
  · have h3 : k < s.size := by simpa using h3
    obtain ⟨c, hc, hc'⟩ := map_getN (f := AV.int .u8) (l := bsOf s) (k := k) (by rw [bsOf_len]; exact h3)
    have hat := okL_at hc
    refine ⟨c, ⟨by omega, trivial, hc'⟩, ?_⟩
    rw [wrapN (by omega)]
    have bad : (if k = 0 then letB c else tailB c) = false → nameB s = false := fun hb => by
      have : okL 0 (bsOf s) = false := by rw [← hn, hat, hb]; rfl
      simp only [nameB, this, Bool.and_false]
    have good : (if k = 0 then letB c else tailB c) = true → ∃ m', m' < s.size - k ∧ ∃ n : Nat, [AV.int .i64 ((k + 1 : Nat) : Int)] = [.int .i64 n] ∧ n ≤ s.size ∧ m' = s.size - n ∧ okL n ((bsOf s).drop n) = okL 0 (bsOf s) := fun hg =>
      ⟨_, (by omega : s.size - (k + 1) < s.size - k), k + 1, rfl, by omega, rfl, by rw [← hn, hat, hg]; rfl⟩
    have hk0 : ((k : Int) == 0) = decide (k = 0) := by rw [Bool.eq_iff_iff]; simp
    rw [hk0]
    generalize (∃ m', m' < s.size - k ∧ ∃ n : Nat, [AV.int .i64 ((k + 1 : Nat) : Int)] = [.int .i64 n] ∧ n ≤ s.size ∧ m' = s.size - n ∧ okL n ((bsOf s).drop n) = okL 0 (bsOf s)) = G at good ⊢
    simp only [tailB, letB, inB] at good bad
    simp only [decide_eq_true_eq, decide_eq_false_iff_not, Bool.not_eq_true', Bool.not_eq_false', ge_iff_le, bne_iff_ne, ne_eq, Decidable.not_not, bne_eq_false_iff_eq]
    by_cases hk : k = 0
    · simp only [hk, if_true] at good bad ⊢
      by_cases h1 : 97 ≤ c <;> by_cases h2 : c ≤ 122 <;> simp_all <;> omega
    · simp only [hk, if_false] at good bad ⊢
      by_cases h1 : 97 ≤ c <;> by_cases h2 : c ≤ 122 <;> by_cases h3 : 48 ≤ c <;> by_cases h4 : c ≤ 57 <;> by_cases h5 : c = 45 <;> simp_all <;> omega
  · have hk : k = s.size := by simp at h3; omega
    have hd : (bsOf s).drop k = [] := by rw [hk, ← bsOf_len, List.drop_length]
    rw [hd] at hn
    have hok : okL 0 (bsOf s) = true := by rw [← hn]; rfl
    have he : (s.toList == (ByteArray.mk #[]).toList) = (bsOf s).isEmpty := by
      rw [Bool.eq_iff_iff, beq_iff_eq, List.isEmpty_iff]
      simp only [ByteArray.toList_eq, bsOf, List.map_eq_nil_iff]
    refine ⟨fun h => ⟨?_, trivial⟩, fun h => ⟨?_, trivial⟩⟩
    · rw [he] at h; simp only [nameB, hok, h, Bool.true_and, Bool.and_true]; congr 1; rw [Bool.eq_iff_iff]; simp; omega
    · rw [he] at h; simp only [nameB, h, Bool.false_and])
theorem map_at {s : ByteArray} {i : Nat} (h : i < s.size) : ∃ c : UInt8, s[i]? = some c ∧ (bsOf s)[i]? = some (c.toNat : Int) := by
  have h2 : i < s.data.size := h
  refine ⟨s.data[i], ?_, by simp only [bsOf, List.getElem?_map]; rw [List.getElem?_eq_getElem (by simpa using h2)]; simp⟩
  rw [getElem?_pos s i h]; rfl
theorem okL_all {l : List Int} : ∀ {k : Nat}, 0 < k → okL k l = l.all tailB := by
  induction l with
  | nil => intro k _; rfl
  | cons c r ih => intro k hk; simp only [okL, List.all_cons]; rw [if_neg (by omega), ih (by omega)]
theorem tail_iff {c : Int} : tailB c = true ↔ (97 ≤ c ∧ c ≤ 122) ∨ (48 ≤ c ∧ c ≤ 57) ∨ c = 45 := by simp [tailB, letB, inB]; omega
def R103 (s : ByteArray) (S : SpecF) (Fr : FuncId → List AV → Nat → List AV → Prop) (Sq : FuncId → List AV → List (List AV) → List (List AV) → Prop) (Q : AV → List (List AV) → Prop) : Prop :=
  (decide ((↑s.size : Int) < (1 : Int)) = true → Q (AV.bool false) []) ∧ (decide ((↑s.size : Int) < (1 : Int)) = false → (decide ((↑s.size : Int) > (24 : Int)) = true → Q (AV.bool false) []) ∧ (decide ((↑s.size : Int) > (24 : Int)) = false → ∃ c4, ((0 : Int) ≤ (0 : Int) ∧ s[(0 : Nat)]? = some c4) ∧ (decide ((↑c4.toNat : Int) < (97 : Int)) = true → Q (AV.bool false) []) ∧ (decide ((↑c4.toNat : Int) < (97 : Int)) = false → ∃ c8, ((0 : Int) ≤ (0 : Int) ∧ s[(0 : Nat)]? = some c8) ∧ (decide ((↑c8.toNat : Int) > (122 : Int)) = true → Q (AV.bool false) []) ∧ (decide ((↑c8.toNat : Int) > (122 : Int)) = false → ∃ (I12 : Nat → List AV → Prop), (∃ m14, I12 m14 [AV.int IntKind.i64 (0 : Int)]) ∧ ∀ (m14 : Nat) (n15 : Int), I12 m14 [AV.int IntKind.i64 n15] → (decide (n15 < (↑s.size : Int)) = true → ∃ c19, ((0 : Int) ≤ n15 ∧ s[n15.toNat]? = some c19) ∧ (decide ((↑c19.toNat : Int) ≥ (97 : Int)) = true → ∃ c23, ((0 : Int) ≤ n15 ∧ s[n15.toNat]? = some c23) ∧ (decide ((↑c23.toNat : Int) ≤ (122 : Int)) = true → ∃ k27, k27 < m14 ∧ I12 k27 [AV.int IntKind.i64 (IntKind.i64.wrap (n15 + (1 : Int)))]) ∧ (decide ((↑c23.toNat : Int) ≤ (122 : Int)) = false → ∃ c27, ((0 : Int) ≤ n15 ∧ s[n15.toNat]? = some c27) ∧ (decide ((↑c27.toNat : Int) ≥ (48 : Int)) = true → ∃ c31, ((0 : Int) ≤ n15 ∧ s[n15.toNat]? = some c31) ∧ (decide ((↑c31.toNat : Int) ≤ (57 : Int)) = true → ∃ k35, k35 < m14 ∧ I12 k35 [AV.int IntKind.i64 (IntKind.i64.wrap (n15 + (1 : Int)))]) ∧ (decide ((↑c31.toNat : Int) ≤ (57 : Int)) = false → ∃ c35, ((0 : Int) ≤ n15 ∧ s[n15.toNat]? = some c35) ∧ ((!(↑c35.toNat : Int) == (45 : Int)) = true → Q (AV.bool false) []) ∧ ((!(↑c35.toNat : Int) == (45 : Int)) = false → ∃ k39, k39 < m14 ∧ I12 k39 [AV.int IntKind.i64 (IntKind.i64.wrap (n15 + (1 : Int)))]))) ∧ (decide ((↑c27.toNat : Int) ≥ (48 : Int)) = false → ∃ c31, ((0 : Int) ≤ n15 ∧ s[n15.toNat]? = some c31) ∧ ((!(↑c31.toNat : Int) == (45 : Int)) = true → Q (AV.bool false) []) ∧ ((!(↑c31.toNat : Int) == (45 : Int)) = false → ∃ k35, k35 < m14 ∧ I12 k35 [AV.int IntKind.i64 (IntKind.i64.wrap (n15 + (1 : Int)))])))) ∧ (decide ((↑c19.toNat : Int) ≥ (97 : Int)) = false → ∃ c23, ((0 : Int) ≤ n15 ∧ s[n15.toNat]? = some c23) ∧ (decide ((↑c23.toNat : Int) ≥ (48 : Int)) = true → ∃ c27, ((0 : Int) ≤ n15 ∧ s[n15.toNat]? = some c27) ∧ (decide ((↑c27.toNat : Int) ≤ (57 : Int)) = true → ∃ k31, k31 < m14 ∧ I12 k31 [AV.int IntKind.i64 (IntKind.i64.wrap (n15 + (1 : Int)))]) ∧ (decide ((↑c27.toNat : Int) ≤ (57 : Int)) = false → ∃ c31, ((0 : Int) ≤ n15 ∧ s[n15.toNat]? = some c31) ∧ ((!(↑c31.toNat : Int) == (45 : Int)) = true → Q (AV.bool false) []) ∧ ((!(↑c31.toNat : Int) == (45 : Int)) = false → ∃ k35, k35 < m14 ∧ I12 k35 [AV.int IntKind.i64 (IntKind.i64.wrap (n15 + (1 : Int)))]))) ∧ (decide ((↑c23.toNat : Int) ≥ (48 : Int)) = false → ∃ c27, ((0 : Int) ≤ n15 ∧ s[n15.toNat]? = some c27) ∧ ((!(↑c27.toNat : Int) == (45 : Int)) = true → Q (AV.bool false) []) ∧ ((!(↑c27.toNat : Int) == (45 : Int)) = false → ∃ k31, k31 < m14 ∧ I12 k31 [AV.int IntKind.i64 (IntKind.i64.wrap (n15 + (1 : Int)))])))) ∧ (decide (n15 < (↑s.size : Int)) = false → Q (AV.bool true) [])))))
theorem r103 (s : ByteArray) (S : SpecF) (Fr : FuncId → List AV → Nat → List AV → Prop) (Sq : FuncId → List AV → List (List AV) → List (List AV) → Prop) (Q : AV → List (List AV) → Prop) : awpF Try.prog (mkS Try.prog S Fr Sq ⟨[], [], [], [], []⟩ 0) 0 ⟨[0, 2, 3, 21, 25, 56], [⟨4, [(3, .int .i64 0)], [], [], [], []⟩], [], []⟩ Try.f103 [.str s] [] Q = R103 s S Fr Sq Q := by kernel_rfl
theorem s103 (s : ByteArray) (v : AV) (O : List (List AV)) (h : R103 s (SpecOf Try.prog) (FreshOf Try.prog) (SeqOf Try.prog) (fun r O' => r = v ∧ O' = O)) : SpecOf Try.prog 103 [.str s] [] v O :=
  spec_by (boxes := []) mixed (by exact trivial) Try.func103 Try.call103 rfl rfl rfl (Nat.le_of_ble_eq_true rfl) (r103 s (SpecOf Try.prog) (FreshOf Try.prog) (SeqOf Try.prog) _) h
theorem c103 (s : ByteArray) (hl : s.size ≤ 9223372036854775807) : Sp 103 [.str s] [] (.bool (nameB s)) [] := s103 s _ _ (by
  unfold R103
  have hlen := bsOf_len s
  refine ⟨fun h1 => ⟨?_, rfl⟩, fun h1 => ⟨fun h2 => ⟨?_, rfl⟩, fun h2 => ?_⟩⟩
  · have : bsOf s = [] := List.length_eq_zero_iff.1 (by simp at h1; omega)
    simp [nameB, this]
  · have : ¬ s.size ≤ 24 := by simp at h2; omega
    simp [nameB, this]
  have h1 : 0 < s.size := by simp at h1; omega
  have h2 : s.size ≤ 24 := by simp at h2; omega
  obtain ⟨c0, g1, g2⟩ := map_at h1
  obtain ⟨x, r, hxr⟩ : ∃ x r, bsOf s = x :: r := by
    cases hh : bsOf s with
    | nil => rw [hh] at hlen; simp at hlen; omega
    | cons x r => exact ⟨x, r, rfl⟩
  have hx : x = (c0.toNat : Int) := by rw [hxr] at g2; simpa using g2
  have hn : nameB s = (letB x && r.all tailB) := by
    simp only [nameB, hxr, List.isEmpty_cons, okL, if_true, h2, decide_true, Bool.not_false, Bool.true_and]
    rw [okL_all (by omega)]
  refine ⟨c0, ⟨by omega, g1⟩, fun h3 => ⟨?_, rfl⟩, fun h3 => ⟨c0, ⟨by omega, g1⟩, fun h4 => ⟨?_, rfl⟩, fun h4 => ?_⟩⟩
  · have : letB x = false := by rw [Bool.eq_false_iff, Ne, letB, inB_iff]; simp at h3; omega
    rw [hn, this]; rfl
  · have : letB x = false := by rw [Bool.eq_false_iff, Ne, letB, inB_iff]; simp at h4; omega
    rw [hn, this]; rfl
  have hlt : letB x = true := by rw [letB, inB_iff]; simp at h3 h4; omega
  have htl : tailB x = true := by simp [tailB, hlt]
  have hn : nameB s = (bsOf s).all tailB := by rw [hn, hxr, List.all_cons, hlt, htl]
  refine ⟨fun m vs => ∃ n : Nat, vs = [.int .i64 n] ∧ n ≤ s.size ∧ m = s.size - n ∧ ((bsOf s).drop n).all tailB = nameB s, ⟨_, 0, rfl, by omega, rfl, by rw [hn]; rfl⟩, ?_⟩
  rintro m n ⟨k, hk, hle, rfl, hm⟩
  cases hk
  refine ⟨fun h5 => ?_, fun h5 => ⟨?_, rfl⟩⟩
  · have h5 : k < s.size := by simpa using h5
    obtain ⟨c, k1, k2⟩ := map_at h5
    have hd : ((bsOf s).drop k).all tailB = (tailB c.toNat && ((bsOf s).drop (k + 1)).all tailB) := by
      obtain ⟨hk', hk2⟩ := List.getElem?_eq_some_iff.1 k2
      rw [List.drop_eq_getElem_cons hk', hk2, List.all_cons]
    rw [wrapN (by omega)]
    have bad : ¬ ((97 ≤ (c.toNat : Int) ∧ (c.toNat : Int) ≤ 122) ∨ (48 ≤ (c.toNat : Int) ∧ (c.toNat : Int) ≤ 57) ∨ (c.toNat : Int) = 45) → AV.bool false = AV.bool (nameB s) := fun hb => by
      have hb : tailB c.toNat = false := by rw [Bool.eq_false_iff, Ne, tail_iff]; exact hb
      rw [← hm, hd, hb]; rfl
    have good : ((97 ≤ (c.toNat : Int) ∧ (c.toNat : Int) ≤ 122) ∨ (48 ≤ (c.toNat : Int) ∧ (c.toNat : Int) ≤ 57) ∨ (c.toNat : Int) = 45) → ∃ m', m' < s.size - k ∧ ∃ n : Nat, [AV.int .i64 ((k + 1 : Nat) : Int)] = [.int .i64 n] ∧ n ≤ s.size ∧ m' = s.size - n ∧ ((bsOf s).drop n).all tailB = nameB s := fun hg =>
      ⟨_, (by omega : s.size - (k + 1) < s.size - k), k + 1, rfl, by omega, rfl, by rw [← hm, hd, tail_iff.2 hg]; rfl⟩
    have hc : ∀ F : UInt8 → Prop, F c → ∃ c, (0 ≤ (k : Int) ∧ s[(k : Int).toNat]? = some c) ∧ F c := fun F hF => ⟨c, ⟨by omega, k1⟩, hF⟩
    generalize (∃ m', m' < s.size - k ∧ ∃ n : Nat, [AV.int .i64 ((k + 1 : Nat) : Int)] = [.int .i64 n] ∧ n ≤ s.size ∧ m' = s.size - n ∧ ((bsOf s).drop n).all tailB = nameB s) = G at good ⊢
    refine hc _ ⟨fun e1 => hc _ ⟨fun e2 => ?_, fun e2 => hc _ ⟨fun e3 => hc _ ⟨fun e4 => ?_, fun e4 => hc _ ⟨fun e5 => ⟨?_, rfl⟩, fun e5 => ?_⟩⟩, fun e3 => hc _ ⟨fun e5 => ⟨?_, rfl⟩, fun e5 => ?_⟩⟩⟩, fun e1 => hc _ ⟨fun e3 => hc _ ⟨fun e4 => ?_, fun e4 => hc _ ⟨fun e5 => ⟨?_, rfl⟩, fun e5 => ?_⟩⟩, fun e3 => hc _ ⟨fun e5 => ⟨?_, rfl⟩, fun e5 => ?_⟩⟩⟩ <;>
      simp only [decide_eq_true_eq, decide_eq_false_iff_not, Bool.not_eq_true', Bool.not_eq_false', beq_eq_false_iff_ne, beq_iff_eq, ne_eq, ge_iff_le, gt_iff_lt] at * <;>
      first | exact good (by omega) | exact bad (by omega)
  · have hk : k = s.size := by simp at h5; omega
    rw [hk, ← hlen, List.drop_length] at hm; rw [← hm]; rfl)
end Go.Proofs.Ytbdbnpnichkcjaa
