/- What comes into the laws, opened (printed by gen.lean). -/
import Derived.Test.YtdaanpgdjjodcaaFr
import Derived.Test.YtdaanpgdjjodcaaT
namespace Go.Proofs.Ytdaanpgdjjodcaa
open Go.RowKit
theorem op23 {d : Nat} {cs : List AV} (h : CellsT Try.prog d 23 cs) : ∃ x : TSnNight, cs = x.cs := by
  obtain ⟨d1, ps, rfl, hl, hp⟩ := cells_struct (tys := [3, 3]) (by kernel_rfl) h
  match ps, hl with
  | [p0, p1], _ =>
    obtain ⟨x0, ex0, _⟩ := cells_int (k := .i64) (by kernel_rfl) (hp 0 _ rfl)
    have ex0 : p0 = _ := ex0
    subst ex0
    obtain ⟨x1, ex1, _⟩ := cells_int (k := .i64) (by kernel_rfl) (hp 1 _ rfl)
    have ex1 : p1 = _ := ex1
    subst ex1
    exact ⟨⟨x0, x1⟩, rfl⟩

theorem op25 {d : Nat} {cs : List AV} (h : CellsT Try.prog d 25 cs) : ∃ x : TNdSet, cs = x.cs := by
  obtain ⟨d1, ps, rfl, hl, hp⟩ := cells_struct (tys := [3, 23, 23, 3, 3, 3]) (by kernel_rfl) h
  match ps, hl with
  | [p0, p1, p2, p3, p4, p5], _ =>
    obtain ⟨x0, ex0, _⟩ := cells_int (k := .i64) (by kernel_rfl) (hp 0 _ rfl)
    have ex0 : p0 = _ := ex0
    subst ex0
    obtain ⟨x1, ex1⟩ := op23 (hp 1 _ rfl)
    have ex1 : p1 = _ := ex1
    subst ex1
    obtain ⟨x2, ex2⟩ := op23 (hp 2 _ rfl)
    have ex2 : p2 = _ := ex2
    subst ex2
    obtain ⟨x3, ex3, _⟩ := cells_int (k := .i64) (by kernel_rfl) (hp 3 _ rfl)
    have ex3 : p3 = _ := ex3
    subst ex3
    obtain ⟨x4, ex4, _⟩ := cells_int (k := .i64) (by kernel_rfl) (hp 4 _ rfl)
    have ex4 : p4 = _ := ex4
    subst ex4
    obtain ⟨x5, ex5, _⟩ := cells_int (k := .i64) (by kernel_rfl) (hp 5 _ rfl)
    have ex5 : p5 = _ := ex5
    subst ex5
    exact ⟨⟨x0, x1, x2, x3, x4, x5⟩, rfl⟩

theorem op29 {d : Nat} {cs : List AV} (h : CellsT Try.prog d 29 cs) : ∃ x : TNdPlan, cs = x.cs := by
  obtain ⟨d1, ps, rfl, hl, hp⟩ := cells_struct (tys := [3, 27]) (by kernel_rfl) h
  match ps, hl with
  | [p0, p1], _ =>
    obtain ⟨x0, ex0, _⟩ := cells_int (k := .i64) (by kernel_rfl) (hp 0 _ rfl)
    have ex0 : p0 = _ := ex0
    subst ex0
    obtain ⟨x1, ex1, _⟩ := cells_slice (g := TSnNight.av) (by kernel_rfl) (fun d p hp => by obtain ⟨x, rfl⟩ := op23 hp; exact ⟨x, by rw [if_pos (show isAggT Try.prog 23 = true by kernel_rfl)]; rfl⟩) (hp 1 _ rfl)
    have ex1 : p1 = _ := ex1
    subst ex1
    exact ⟨⟨x0, x1⟩, rfl⟩

theorem op31 {d : Nat} {cs : List AV} (h : CellsT Try.prog d 31 cs) : ∃ x : TNdHold, cs = x.cs := by
  obtain ⟨d1, ps, rfl, hl, hp⟩ := cells_struct (tys := [3, 3, 3]) (by kernel_rfl) h
  match ps, hl with
  | [p0, p1, p2], _ =>
    obtain ⟨x0, ex0, _⟩ := cells_int (k := .i64) (by kernel_rfl) (hp 0 _ rfl)
    have ex0 : p0 = _ := ex0
    subst ex0
    obtain ⟨x1, ex1, _⟩ := cells_int (k := .i64) (by kernel_rfl) (hp 1 _ rfl)
    have ex1 : p1 = _ := ex1
    subst ex1
    obtain ⟨x2, ex2, _⟩ := cells_int (k := .i64) (by kernel_rfl) (hp 2 _ rfl)
    have ex2 : p2 = _ := ex2
    subst ex2
    exact ⟨⟨x0, x1, x2⟩, rfl⟩

theorem op33 {d : Nat} {cs : List AV} (h : CellsT Try.prog d 33 cs) : ∃ x : TNdState, cs = x.cs := by
  obtain ⟨d1, ps, rfl, hl, hp⟩ := cells_struct (tys := [26, 4, 3, 29, 31, 31, 3, 4, 4, 3, 3]) (by kernel_rfl) h
  match ps, hl with
  | [p0, p1, p2, p3, p4, p5, p6, p7, p8, p9, p10], _ =>
    obtain ⟨_, qs0, eq0, hl0, hq0⟩ := cells_array (n := 6) (e := 3) (by kernel_rfl) (hp 0 _ rfl)
    have eq0 : p0 = _ := eq0
    match qs0, hl0 with
    | [q0_0, q0_1, q0_2, q0_3, q0_4, q0_5], _ =>
      obtain ⟨x0_0, ex0_0, _⟩ := cells_int (k := .i64) (by kernel_rfl) (hq0 q0_0 (by simp))
      obtain ⟨x0_1, ex0_1, _⟩ := cells_int (k := .i64) (by kernel_rfl) (hq0 q0_1 (by simp))
      obtain ⟨x0_2, ex0_2, _⟩ := cells_int (k := .i64) (by kernel_rfl) (hq0 q0_2 (by simp))
      obtain ⟨x0_3, ex0_3, _⟩ := cells_int (k := .i64) (by kernel_rfl) (hq0 q0_3 (by simp))
      obtain ⟨x0_4, ex0_4, _⟩ := cells_int (k := .i64) (by kernel_rfl) (hq0 q0_4 (by simp))
      obtain ⟨x0_5, ex0_5, _⟩ := cells_int (k := .i64) (by kernel_rfl) (hq0 q0_5 (by simp))
      subst ex0_0 ex0_1 ex0_2 ex0_3 ex0_4 ex0_5 eq0
      obtain ⟨x1, ex1⟩ := cells_bool (by kernel_rfl) (hp 1 _ rfl)
      have ex1 : p1 = _ := ex1
      subst ex1
      obtain ⟨x2, ex2, _⟩ := cells_int (k := .i64) (by kernel_rfl) (hp 2 _ rfl)
      have ex2 : p2 = _ := ex2
      subst ex2
      obtain ⟨x3, ex3⟩ := op29 (hp 3 _ rfl)
      have ex3 : p3 = _ := ex3
      subst ex3
      obtain ⟨x4, ex4⟩ := op31 (hp 4 _ rfl)
      have ex4 : p4 = _ := ex4
      subst ex4
      obtain ⟨x5, ex5⟩ := op31 (hp 5 _ rfl)
      have ex5 : p5 = _ := ex5
      subst ex5
      obtain ⟨x6, ex6, _⟩ := cells_int (k := .i64) (by kernel_rfl) (hp 6 _ rfl)
      have ex6 : p6 = _ := ex6
      subst ex6
      obtain ⟨x7, ex7⟩ := cells_bool (by kernel_rfl) (hp 7 _ rfl)
      have ex7 : p7 = _ := ex7
      subst ex7
      obtain ⟨x8, ex8⟩ := cells_bool (by kernel_rfl) (hp 8 _ rfl)
      have ex8 : p8 = _ := ex8
      subst ex8
      obtain ⟨x9, ex9, _⟩ := cells_int (k := .i64) (by kernel_rfl) (hp 9 _ rfl)
      have ex9 : p9 = _ := ex9
      subst ex9
      obtain ⟨x10, ex10, _⟩ := cells_int (k := .i64) (by kernel_rfl) (hp 10 _ rfl)
      have ex10 : p10 = _ := ex10
      subst ex10
      exact ⟨⟨x0_0, x0_1, x0_2, x0_3, x0_4, x0_5, x1, x2, x3, x4, x5, x6, x7, x8, x9, x10⟩, rfl⟩

theorem op35 {d : Nat} {cs : List AV} (h : CellsT Try.prog d 35 cs) : ∃ x : TNdMessage, cs = x.cs := by
  obtain ⟨d1, ps, rfl, hl, hp⟩ := cells_struct (tys := [3, 3, 3, 29, 31, 3]) (by kernel_rfl) h
  match ps, hl with
  | [p0, p1, p2, p3, p4, p5], _ =>
    obtain ⟨x0, ex0, _⟩ := cells_int (k := .i64) (by kernel_rfl) (hp 0 _ rfl)
    have ex0 : p0 = _ := ex0
    subst ex0
    obtain ⟨x1, ex1, _⟩ := cells_int (k := .i64) (by kernel_rfl) (hp 1 _ rfl)
    have ex1 : p1 = _ := ex1
    subst ex1
    obtain ⟨x2, ex2, _⟩ := cells_int (k := .i64) (by kernel_rfl) (hp 2 _ rfl)
    have ex2 : p2 = _ := ex2
    subst ex2
    obtain ⟨x3, ex3⟩ := op29 (hp 3 _ rfl)
    have ex3 : p3 = _ := ex3
    subst ex3
    obtain ⟨x4, ex4⟩ := op31 (hp 4 _ rfl)
    have ex4 : p4 = _ := ex4
    subst ex4
    obtain ⟨x5, ex5, _⟩ := cells_int (k := .i64) (by kernel_rfl) (hp 5 _ rfl)
    have ex5 : p5 = _ := ex5
    subst ex5
    exact ⟨⟨x0, x1, x2, x3, x4, x5⟩, rfl⟩

theorem op69 {d : Nat} {cs : List AV} (h : CellsT Try.prog d 69 cs) : ∃ x : TNdReport, cs = x.cs := by
  obtain ⟨d1, ps, rfl, hl, hp⟩ := cells_struct (tys := [3, 3, 3, 4]) (by kernel_rfl) h
  match ps, hl with
  | [p0, p1, p2, p3], _ =>
    obtain ⟨x0, ex0, _⟩ := cells_int (k := .i64) (by kernel_rfl) (hp 0 _ rfl)
    have ex0 : p0 = _ := ex0
    subst ex0
    obtain ⟨x1, ex1, _⟩ := cells_int (k := .i64) (by kernel_rfl) (hp 1 _ rfl)
    have ex1 : p1 = _ := ex1
    subst ex1
    obtain ⟨x2, ex2, _⟩ := cells_int (k := .i64) (by kernel_rfl) (hp 2 _ rfl)
    have ex2 : p2 = _ := ex2
    subst ex2
    obtain ⟨x3, ex3⟩ := cells_bool (by kernel_rfl) (hp 3 _ rfl)
    have ex3 : p3 = _ := ex3
    subst ex3
    exact ⟨⟨x0, x1, x2, x3⟩, rfl⟩

end Go.Proofs.Ytdaanpgdjjodcaa
