/- What comes into the laws, opened (printed by gen.lean, names' sizes by hand). -/
import Derived.Test.YtbdbnpnichkcjaaFr
import Derived.Test.YtbdbnpnichkcjaaQ
namespace Go.Proofs.Ytbdbnpnichkcjaa
open Go.RowKit
theorem op26 {d : Nat} {cs : List AV} (h : CellsT Try.prog d 26 cs) : ∃ x : TEncl, cs = x.cs := by
  obtain ⟨d1, ps, rfl, hl, hp⟩ := cells_struct (tys := [3, 3]) (by kernel_rfl) h
  match ps, hl with
  | [p0, p1], _ =>
    obtain ⟨x0, ex0, _⟩ := cells_int (k := .i64) (by kernel_rfl) (hp 0 _ rfl)
    have ex0 : p0 = _ := ex0
    subst ex0
    obtain ⟨x1, ex1, _⟩ := cells_int (k := .i64) (by kernel_rfl) (hp 1 _ rfl)
    have ex1 : p1 = _ := ex1
    subst ex1
    exact ⟨⟨x0, x1⟩, rfl⟩

theorem op55 {d : Nat} {cs : List AV} (h : CellsT Try.prog d 55 cs) : ∃ x : TFeCable, cs = x.cs ∧ x.Name.size ≤ maxLen := by
  obtain ⟨d1, ps, rfl, hl, hp⟩ := cells_struct (tys := [9, 26, 26, 3]) (by kernel_rfl) h
  match ps, hl with
  | [p0, p1, p2, p3], _ =>
    obtain ⟨x0, ex0, hx0⟩ := cells_string (by kernel_rfl) (hp 0 _ rfl)
    have ex0 : p0 = _ := ex0
    subst ex0
    obtain ⟨x1, ex1⟩ := op26 (hp 1 _ rfl)
    have ex1 : p1 = _ := ex1
    subst ex1
    obtain ⟨x2, ex2⟩ := op26 (hp 2 _ rfl)
    have ex2 : p2 = _ := ex2
    subst ex2
    obtain ⟨x3, ex3, _⟩ := cells_int (k := .i64) (by kernel_rfl) (hp 3 _ rfl)
    have ex3 : p3 = _ := ex3
    subst ex3
    exact ⟨⟨x0, x1, x2, x3⟩, rfl, hx0⟩

theorem op135 {d : Nat} {cs : List AV} (h : CellsT Try.prog d 135 cs) : ∃ x : TFePoint, cs = x.cs := by
  obtain ⟨d1, ps, rfl, hl, hp⟩ := cells_struct (tys := [3, 26]) (by kernel_rfl) h
  match ps, hl with
  | [p0, p1], _ =>
    obtain ⟨x0, ex0, _⟩ := cells_int (k := .i64) (by kernel_rfl) (hp 0 _ rfl)
    have ex0 : p0 = _ := ex0
    subst ex0
    obtain ⟨x1, ex1⟩ := op26 (hp 1 _ rfl)
    have ex1 : p1 = _ := ex1
    subst ex1
    exact ⟨⟨x0, x1⟩, rfl⟩

theorem op91 {d : Nat} {cs : List AV} (h : CellsT Try.prog d 91 cs) : ∃ x : TFeFuse, cs = x.cs ∧ x.Name.size ≤ maxLen := by
  obtain ⟨d1, ps, rfl, hl, hp⟩ := cells_struct (tys := [9, 3, 89]) (by kernel_rfl) h
  match ps, hl with
  | [p0, p1, p2], _ =>
    obtain ⟨x0, ex0, hx0⟩ := cells_string (by kernel_rfl) (hp 0 _ rfl)
    have ex0 : p0 = _ := ex0
    subst ex0
    obtain ⟨x1, ex1, _⟩ := cells_int (k := .i64) (by kernel_rfl) (hp 1 _ rfl)
    have ex1 : p1 = _ := ex1
    subst ex1
    obtain ⟨x2, ex2, _⟩ := cells_slice (g := TFePoint.av) (by kernel_rfl) (fun d p hp => by obtain ⟨x, rfl⟩ := op135 hp; exact ⟨x, by rw [if_pos (show isAggT Try.prog 135 = true by kernel_rfl)]; rfl⟩) (hp 2 _ rfl)
    have ex2 : p2 = _ := ex2
    subst ex2
    exact ⟨⟨x0, x1, x2⟩, rfl, hx0⟩

theorem op53 {d : Nat} {cs : List AV} (h : CellsT Try.prog d 53 cs) : ∃ x : TFeNode, cs = x.cs ∧ x.Name.size ≤ maxLen := by
  obtain ⟨d1, ps, rfl, hl, hp⟩ := cells_struct (tys := [9, 3, 3, 3, 3, 49]) (by kernel_rfl) h
  match ps, hl with
  | [p0, p1, p2, p3, p4, p5], _ =>
    obtain ⟨x0, ex0, hx0⟩ := cells_string (by kernel_rfl) (hp 0 _ rfl)
    have ex0 : p0 = _ := ex0
    subst ex0
    obtain ⟨x1, ex1, _⟩ := cells_int (k := .i64) (by kernel_rfl) (hp 1 _ rfl)
    have ex1 : p1 = _ := ex1
    subst ex1
    obtain ⟨x2, ex2, _⟩ := cells_int (k := .i64) (by kernel_rfl) (hp 2 _ rfl)
    have ex2 : p2 = _ := ex2
    subst ex2
    obtain ⟨x3, ex3, _⟩ := cells_int (k := .i64) (by kernel_rfl) (hp 3 _ rfl)
    have ex3 : p3 = _ := ex3
    subst ex3
    obtain ⟨x4, ex4, _⟩ := cells_int (k := .i64) (by kernel_rfl) (hp 4 _ rfl)
    have ex4 : p4 = _ := ex4
    subst ex4
    obtain ⟨_, qs5, eq5, hl5, hq5⟩ := cells_array (n := 3) (e := 26) (by kernel_rfl) (hp 5 _ rfl)
    have eq5 : p5 = _ := eq5
    match qs5, hl5 with
    | [q5_0, q5_1, q5_2], _ =>
      obtain ⟨x5_0, ex5_0⟩ := op26 (hq5 q5_0 (by simp))
      obtain ⟨x5_1, ex5_1⟩ := op26 (hq5 q5_1 (by simp))
      obtain ⟨x5_2, ex5_2⟩ := op26 (hq5 q5_2 (by simp))
      subst ex5_0 ex5_1 ex5_2 eq5
      exact ⟨⟨x0, x1, x2, x3, x4, x5_0, x5_1, x5_2⟩, rfl, hx0⟩

theorem op28 {d : Nat} {cs : List AV} (h : CellsT Try.prog d 28 cs) : ∃ x : TFeFeeder, cs = x.cs ∧ NOK x := by
  obtain ⟨d1, ps, rfl, hl, hp⟩ := cells_struct (tys := [22, 23, 24, 26, 26, 3, 3]) (by kernel_rfl) h
  match ps, hl with
  | [p0, p1, p2, p3, p4, p5, p6], _ =>
    obtain ⟨x0, ex0, _, hw0⟩ := cells_sliceW (g := TFeCable.av) (w := fun x => x.Name.size ≤ maxLen) (by kernel_rfl) (fun d p hp => by obtain ⟨x, rfl, hw⟩ := op55 hp; exact ⟨x, by rw [if_pos (show isAggT Try.prog 55 = true by kernel_rfl)]; rfl, hw⟩) (hp 0 _ rfl)
    have ex0 : p0 = _ := ex0
    subst ex0
    obtain ⟨x1, ex1, _, hw1⟩ := cells_sliceW (g := TFeFuse.av) (w := fun x => x.Name.size ≤ maxLen) (by kernel_rfl) (fun d p hp => by obtain ⟨x, rfl, hw⟩ := op91 hp; exact ⟨x, by rw [if_pos (show isAggT Try.prog 91 = true by kernel_rfl)]; rfl, hw⟩) (hp 1 _ rfl)
    have ex1 : p1 = _ := ex1
    subst ex1
    obtain ⟨x2, ex2, _, hw2⟩ := cells_sliceW (g := TFeNode.av) (w := fun x => x.Name.size ≤ maxLen) (by kernel_rfl) (fun d p hp => by obtain ⟨x, rfl, hw⟩ := op53 hp; exact ⟨x, by rw [if_pos (show isAggT Try.prog 53 = true by kernel_rfl)]; rfl, hw⟩) (hp 2 _ rfl)
    have ex2 : p2 = _ := ex2
    subst ex2
    obtain ⟨x3, ex3⟩ := op26 (hp 3 _ rfl)
    have ex3 : p3 = _ := ex3
    subst ex3
    obtain ⟨x4, ex4⟩ := op26 (hp 4 _ rfl)
    have ex4 : p4 = _ := ex4
    subst ex4
    obtain ⟨x5, ex5, _⟩ := cells_int (k := .i64) (by kernel_rfl) (hp 5 _ rfl)
    have ex5 : p5 = _ := ex5
    subst ex5
    obtain ⟨x6, ex6, _⟩ := cells_int (k := .i64) (by kernel_rfl) (hp 6 _ rfl)
    have ex6 : p6 = _ := ex6
    subst ex6
    exact ⟨⟨x0, x1, x2, x3, x4, x5, x6⟩, rfl, hw0, hw1, hw2⟩

end Go.Proofs.Ytbdbnpnichkcjaa
