/- The contract of FeedSelects. -/
import Derived.Test.YtbdbnpnichkcjaaK7
import Derived.Test.YtbdbnpnichkcjaaRi
import Derived.Test.YtbdbnpnichkcjaaAw
namespace Go.Proofs.Ytbdbnpnichkcjaa
open Go.RowKit
theorem c22a (f : TFeFeeder) (hn : NOK f) (hc : (checkF f).2.2 = 0) : Sp 22 [f.av] [] (.tup [.slc 3 ((judgeL f f.Nodes.length).map TFeFault.av), .int .i64 0]) [] := by
  have := c22 f hn
  rw [judgeR, if_neg (by simp [hc])] at this; exact this
theorem c29a (f : TFeFeeder) (hn : NOK f) (hc : (checkF f).2.2 = 0) {i : Nat} (hi : i < f.Nodes.length) : Sp 29 [f.av, .int .i64 (i : Nat)] [] (.tup [.int .i64 (ownS f i), .int .i64 0]) [] := by
  have := c29 f hn i
  rw [ownR, if_neg (by rw [asked_of hc hi]; simp)] at this; exact this
theorem c36a (f : TFeFeeder) (hn : NOK f) (hc : (checkF f).2.2 = 0) {i : Nat} (hi : i < f.Nodes.length) : Sp 36 [f.av, .int .i64 (i : Nat)] [] (.tup [.slc 3 ((upL f i).reverse.map nJ), .int .i64 0]) [] := by
  have := c36 f hn i
  rw [pathR, if_neg (by rw [asked_of hc hi]; simp)] at this; exact this
theorem c31a (f : TFeFeeder) (hn : NOK f) (hc : (checkF f).2.2 = 0) {i : Nat} (hi : i < f.Nodes.length) {c : Int} (h : 0 ≤ c ∧ c ≤ 1000000000) : Sp 31 [f.av, .int .i64 (i : Nat), .int .i64 c] [] (.tup [.int .i64 (firstG (guardsL f (upL f i)) c 0 (guardsL f (upL f i))), .int .i64 0]) [] := by
  have := c31 f hn i c
  rw [firstR, if_neg (by rw [asked_of hc hi]; simp), if_neg (by rw [inB_iff.2 h]; simp)] at this; exact this
theorem c27a (f : TFeFeeder) (hn : NOK f) (hc : (checkF f).2.2 = 0) {i : Nat} (hi : i < f.Nodes.length) (h0 : i ≠ 0) (hz : 0 ≤ (nd f i).Fuse) {c : Int} (h : 0 ≤ c ∧ c ≤ 1000000000) : Sp 27 [f.av, .int .i64 (nd f i).Fuse, .int .i64 c] [] (.tup [(meltS (fz f i) c).1.av, .bool (meltS (fz f i) c).2, .int .i64 0]) [] := by
  have := c27 f hn (nd f i).Fuse c
  have hz' := (node_ok (ok_of hc) hi h0).fuse
  rw [meltR, if_neg (by simp [hc]), if_neg (by rw [inB_iff.2 ⟨hz, hz'.2⟩]; simp), if_neg (by rw [inB_iff.2 h]; simp)] at this; exact this
theorem fault_nn {f : TFeFeeder} (hf : OK f) {k : Nat} (hk : k < f.Nodes.length) (e : Bool) : 0 ≤ (faultS f k e).Lo := by
  have := rE_bound hf hk e
  have hv := hf.volts
  exact Int.ediv_nonneg (by omega) (by omega)
def R13 (f : TFeFeeder) (node : Int) (x0 : Int) (x1 : Int) (S : SpecF) (_Fr : FuncId → List AV → Nat → List AV → Prop) (_Sq : FuncId → List AV → List (List AV) → List (List AV) → Prop) (Q : AV → List (List AV) → Prop) : Prop :=
  ∃ es0 n1, S (22 : Nat) [f.av] [] (AV.tup [AV.slc (3 : Nat) es0, AV.int .i64 n1]) [] ∧ ∃ n3 n4 n5, S (20 : Nat) [f.av, AV.int .i64 node, AV.bool (x1.tmod (2 : Int) == (1 : Int))] [] (AV.tup [AV.agg [AV.int .i64 n3, AV.int .i64 n4], AV.int .i64 n5]) [] ∧ ∃ n7 n8, S (29 : Nat) [f.av, AV.int .i64 node] [] (AV.tup [AV.int .i64 n7, AV.int .i64 n8]) [] ∧ ((n1 != (0 : Int)) = true → ∃ b12, S (17 : Nat) [] [] (AV.bool b12) [] ∧ Q (AV.bool b12) []) ∧ ((n1 != (0 : Int)) = false → ((n5 != (0 : Int)) = true → ∃ b14, S (17 : Nat) [] [] (AV.bool b14) [] ∧ Q (AV.bool b14) []) ∧ ((n5 != (0 : Int)) = false → ((n8 != (0 : Int)) = true → ∃ b16, S (17 : Nat) [] [] (AV.bool b16) [] ∧ Q (AV.bool b16) []) ∧ ((n8 != (0 : Int)) = false → (decide (n7 < (0 : Int)) = true → ∃ b18, S (17 : Nat) [] [] (AV.bool b18) [] ∧ Q (AV.bool b18) []) ∧ (decide (n7 < (0 : Int)) = false → ∃ (I18 : Nat → List AV → Prop), (∃ m20, I18 m20 [AV.int .i64 (0 : Int)]) ∧ ∀ (m20 : Nat) (n21 : Int), I18 m20 [AV.int .i64 n21] → (decide (n21 < (↑es0.length : Int)) = true → ∃ n25 n26 n27, ((0 : Int) ≤ n21 ∧ (3 : Nat) = (3 : Nat) ∧ es0[n21.toNat]? = some (AV.agg [AV.int .i64 n25, AV.int .i64 n26, AV.int .i64 n27])) ∧ ((n26 == node) = true → ∃ n31 n32 n33, ((0 : Int) ≤ n21 ∧ (3 : Nat) = (3 : Nat) ∧ es0[n21.toNat]? = some (AV.agg [AV.int .i64 n31, AV.int .i64 n32, AV.int .i64 n33])) ∧ ((n31 == (162 : Int)) = true → ∃ b37, S (17 : Nat) [] [] (AV.bool b37) [] ∧ Q (AV.bool b37) []) ∧ ((n31 == (162 : Int)) = false → ∃ n37 n38 n39, ((0 : Int) ≤ n21 ∧ (3 : Nat) = (3 : Nat) ∧ es0[n21.toNat]? = some (AV.agg [AV.int .i64 n37, AV.int .i64 n38, AV.int .i64 n39])) ∧ ((n37 == (163 : Int)) = true → ∃ b43, S (17 : Nat) [] [] (AV.bool b43) [] ∧ Q (AV.bool b43) []) ∧ ((n37 == (163 : Int)) = false → f.cs = f.cs ∧ [AV.int IntKind.u16 x0, AV.int IntKind.u16 x1] = [AV.int IntKind.u16 x0, AV.int IntKind.u16 x1] ∧ [AV.int .i64 n3, AV.int .i64 n4] = [AV.int .i64 n3, AV.int .i64 n4] ∧ ∃ k46, k46 < m20 ∧ I18 k46 [AV.int .i64 (IntKind.i64.wrap (n21 + (1 : Int)))]))) ∧ ((n26 == node) = false → f.cs = f.cs ∧ [AV.int IntKind.u16 x0, AV.int IntKind.u16 x1] = [AV.int IntKind.u16 x0, AV.int IntKind.u16 x1] ∧ [AV.int .i64 n3, AV.int .i64 n4] = [AV.int .i64 n3, AV.int .i64 n4] ∧ ∃ k34, k34 < m20 ∧ I18 k34 [AV.int .i64 (IntKind.i64.wrap (n21 + (1 : Int)))])) ∧ (decide (n21 < (↑es0.length : Int)) = false → (decide (n7 ≥ (↑(List.map TFeNode.av f.Nodes).length : Int)) = true → (decide (IntKind.i64.wrap (n3 + IntKind.i64.wrap ((IntKind.i64.wrap (IntKind.i64.wrap (n4 - n3) * IntKind.i64.wrap x0)).tdiv (65535 : Int))) > (1000000000 : Int)) = true → ∃ b29, S (17 : Nat) [] [] (AV.bool b29) [] ∧ Q (AV.bool b29) []) ∧ (decide (IntKind.i64.wrap (n3 + IntKind.i64.wrap ((IntKind.i64.wrap (IntKind.i64.wrap (n4 - n3) * IntKind.i64.wrap x0)).tdiv (65535 : Int))) > (1000000000 : Int)) = false → Q (AV.bool false) [])) ∧ (decide (n7 ≥ (↑(List.map TFeNode.av f.Nodes).length : Int)) = false → (decide (IntKind.i64.wrap (n3 + IntKind.i64.wrap ((IntKind.i64.wrap (IntKind.i64.wrap (n4 - n3) * IntKind.i64.wrap x0)).tdiv (65535 : Int))) > (1000000000 : Int)) = true → (decide (IntKind.i64.wrap (n3 + IntKind.i64.wrap ((IntKind.i64.wrap (IntKind.i64.wrap (n4 - n3) * IntKind.i64.wrap x0)).tdiv (65535 : Int))) > (1000000000 : Int)) = true → ∃ b31, S (17 : Nat) [] [] (AV.bool b31) [] ∧ Q (AV.bool b31) []) ∧ (decide (IntKind.i64.wrap (n3 + IntKind.i64.wrap ((IntKind.i64.wrap (IntKind.i64.wrap (n4 - n3) * IntKind.i64.wrap x0)).tdiv (65535 : Int))) > (1000000000 : Int)) = false → Q (AV.bool false) [])) ∧ (decide (IntKind.i64.wrap (n3 + IntKind.i64.wrap ((IntKind.i64.wrap (IntKind.i64.wrap (n4 - n3) * IntKind.i64.wrap x0)).tdiv (65535 : Int))) > (1000000000 : Int)) = false → ∃ n29 n30, S (31 : Nat) [f.av, AV.int .i64 node, AV.int .i64 (IntKind.i64.wrap (n3 + IntKind.i64.wrap ((IntKind.i64.wrap (IntKind.i64.wrap (n4 - n3) * IntKind.i64.wrap x0)).tdiv (65535 : Int))))] [] (AV.tup [AV.int .i64 n29, AV.int .i64 n30]) [] ∧ ∃ s32 n33 n34 n35 n36 n37 n38 n39 n40 n41 n42, ((0 : Int) ≤ n7 ∧ (11 : Nat) = (11 : Nat) ∧ (List.map TFeNode.av f.Nodes)[n7.toNat]? = some (AV.agg [AV.str s32, AV.int .i64 n33, AV.int .i64 n34, AV.int .i64 n35, AV.int .i64 n36, AV.int .i64 n37, AV.int .i64 n38, AV.int .i64 n39, AV.int .i64 n40, AV.int .i64 n41, AV.int .i64 n42])) ∧ ∃ n44 n45 b46 n47, S (27 : Nat) [f.av, AV.int .i64 n36, AV.int .i64 (IntKind.i64.wrap (n3 + IntKind.i64.wrap ((IntKind.i64.wrap (IntKind.i64.wrap (n4 - n3) * IntKind.i64.wrap x0)).tdiv (65535 : Int))))] [] (AV.tup [AV.agg [AV.int .i64 n44, AV.int .i64 n45], AV.bool b46, AV.int .i64 n47]) [] ∧ ((n30 != (0 : Int)) = true → Q (AV.bool false) []) ∧ ((n30 != (0 : Int)) = false → ((n47 != (0 : Int)) = true → Q (AV.bool false) []) ∧ ((n47 != (0 : Int)) = false → ((n29 != n7) = true → Q (AV.bool false) []) ∧ ((n29 != n7) = false → ((!b46) = true → Q (AV.bool false) []) ∧ ((!b46) = false → (decide (n45 > f.Limit) = true → Q (AV.bool false) []) ∧ (decide (n45 > f.Limit) = false → ∃ es59 n60, S (36 : Nat) [f.av, AV.int .i64 node] [] (AV.tup [AV.slc (3 : Nat) es59, AV.int .i64 n60]) [] ∧ ∃ (I62 : Nat → List AV → Prop), (∃ m64, I62 m64 [AV.int .i64 (0 : Int)]) ∧ ∀ (m64 : Nat) (n65 : Int), I62 m64 [AV.int .i64 n65] → (decide (n65 < (↑es59.length : Int)) = true → ∃ n69, ((0 : Int) ≤ n65 ∧ (1 : Nat) = (1 : Nat) ∧ es59[n65.toNat]? = some (AV.int .i64 n69)) ∧ (decide (n69 < (0 : Int)) = true → Q (AV.bool false) []) ∧ (decide (n69 < (0 : Int)) = false → ∃ n73, ((0 : Int) ≤ n65 ∧ (1 : Nat) = (1 : Nat) ∧ es59[n65.toNat]? = some (AV.int .i64 n73)) ∧ (decide (n73 ≥ (↑(List.map TFeNode.av f.Nodes).length : Int)) = true → Q (AV.bool false) []) ∧ (decide (n73 ≥ (↑(List.map TFeNode.av f.Nodes).length : Int)) = false → ∃ n77, ((0 : Int) ≤ n65 ∧ (1 : Nat) = (1 : Nat) ∧ es59[n65.toNat]? = some (AV.int .i64 n77)) ∧ ∃ s79 n80 n81 n82 n83 n84 n85 n86 n87 n88 n89, ((0 : Int) ≤ n77 ∧ (11 : Nat) = (11 : Nat) ∧ (List.map TFeNode.av f.Nodes)[n77.toNat]? = some (AV.agg [AV.str s79, AV.int .i64 n80, AV.int .i64 n81, AV.int .i64 n82, AV.int .i64 n83, AV.int .i64 n84, AV.int .i64 n85, AV.int .i64 n86, AV.int .i64 n87, AV.int .i64 n88, AV.int .i64 n89])) ∧ ∃ n91, ((0 : Int) ≤ n65 ∧ (1 : Nat) = (1 : Nat) ∧ es59[n65.toNat]? = some (AV.int .i64 n91)) ∧ ∃ n93 n94 n95 n96 n97 n98 n99, S (24 : Nat) [f.av, AV.int .i64 n91] [] (AV.tup [AV.agg [AV.int .i64 n93, AV.int .i64 n94, AV.int .i64 n95, AV.int .i64 n96, AV.int .i64 n97, AV.int .i64 n98], AV.int .i64 n99]) [] ∧ ((n99 != (0 : Int)) = true → Q (AV.bool false) []) ∧ ((n99 != (0 : Int)) = false → (decide (n83 < (0 : Int)) = true → f.cs = f.cs ∧ [AV.int IntKind.u16 x0, AV.int IntKind.u16 x1] = [AV.int IntKind.u16 x0, AV.int IntKind.u16 x1] ∧ [AV.int .i64 n3, AV.int .i64 n4] = [AV.int .i64 n3, AV.int .i64 n4] ∧ [AV.int .i64 n44, AV.int .i64 n45] = [AV.int .i64 n44, AV.int .i64 n45] ∧ ∃ k109, k109 < m64 ∧ I62 k109 [AV.int .i64 (IntKind.i64.wrap (n65 + (1 : Int)))]) ∧ (decide (n83 < (0 : Int)) = false → ∃ n105, ((0 : Int) ≤ n65 ∧ (1 : Nat) = (1 : Nat) ∧ es59[n65.toNat]? = some (AV.int .i64 n105)) ∧ ((n105 == n7) = true → f.cs = f.cs ∧ [AV.int IntKind.u16 x0, AV.int IntKind.u16 x1] = [AV.int IntKind.u16 x0, AV.int IntKind.u16 x1] ∧ [AV.int .i64 n3, AV.int .i64 n4] = [AV.int .i64 n3, AV.int .i64 n4] ∧ [AV.int .i64 n44, AV.int .i64 n45] = [AV.int .i64 n44, AV.int .i64 n45] ∧ ∃ k113, k113 < m64 ∧ I62 k113 [AV.int .i64 (IntKind.i64.wrap (n65 + (1 : Int)))]) ∧ ((n105 == n7) = false → (decide (IntKind.i64.wrap (IntKind.i64.wrap (n3 + IntKind.i64.wrap ((IntKind.i64.wrap (IntKind.i64.wrap (n4 - n3) * IntKind.i64.wrap x0)).tdiv (65535 : Int))) + if true = true then if n98 > if true = true then if n96 > n94 then n96 else n94 else if n96 < n94 then n96 else n94 then n98 else if true = true then if n96 > n94 then n96 else n94 else if n96 < n94 then n96 else n94 else if n98 < if true = true then if n96 > n94 then n96 else n94 else if n96 < n94 then n96 else n94 then n98 else if true = true then if n96 > n94 then n96 else n94 else if n96 < n94 then n96 else n94) > (1000000000 : Int)) = true → f.cs = f.cs ∧ [AV.int IntKind.u16 x0, AV.int IntKind.u16 x1] = [AV.int IntKind.u16 x0, AV.int IntKind.u16 x1] ∧ [AV.int .i64 n3, AV.int .i64 n4] = [AV.int .i64 n3, AV.int .i64 n4] ∧ [AV.int .i64 n44, AV.int .i64 n45] = [AV.int .i64 n44, AV.int .i64 n45] ∧ ∃ k115, k115 < m64 ∧ I62 k115 [AV.int .i64 (IntKind.i64.wrap (n65 + (1 : Int)))]) ∧ (decide (IntKind.i64.wrap (IntKind.i64.wrap (n3 + IntKind.i64.wrap ((IntKind.i64.wrap (IntKind.i64.wrap (n4 - n3) * IntKind.i64.wrap x0)).tdiv (65535 : Int))) + if true = true then if n98 > if true = true then if n96 > n94 then n96 else n94 else if n96 < n94 then n96 else n94 then n98 else if true = true then if n96 > n94 then n96 else n94 else if n96 < n94 then n96 else n94 else if n98 < if true = true then if n96 > n94 then n96 else n94 else if n96 < n94 then n96 else n94 then n98 else if true = true then if n96 > n94 then n96 else n94 else if n96 < n94 then n96 else n94) > (1000000000 : Int)) = false → ∃ n111 n112 b113 n114, S (27 : Nat) [f.av, AV.int .i64 n83, AV.int .i64 (IntKind.i64.wrap (IntKind.i64.wrap (n3 + IntKind.i64.wrap ((IntKind.i64.wrap (IntKind.i64.wrap (n4 - n3) * IntKind.i64.wrap x0)).tdiv (65535 : Int))) + if n98 > if true = true then if n96 > n94 then n96 else n94 else if n96 < n94 then n96 else n94 then n98 else if n96 > n94 then n96 else n94))] [] (AV.tup [AV.agg [AV.int .i64 n111, AV.int .i64 n112], AV.bool b113, AV.int .i64 n114]) [] ∧ ((n114 != (0 : Int)) = true → Q (AV.bool false) []) ∧ ((n114 != (0 : Int)) = false → (b113 = true → (decide (n111 ≤ n45) = true → Q (AV.bool false) []) ∧ (decide (n111 ≤ n45) = false → f.cs = f.cs ∧ [AV.int IntKind.u16 x0, AV.int IntKind.u16 x1] = [AV.int IntKind.u16 x0, AV.int IntKind.u16 x1] ∧ [AV.int .i64 n3, AV.int .i64 n4] = [AV.int .i64 n3, AV.int .i64 n4] ∧ [AV.int .i64 n44, AV.int .i64 n45] = [AV.int .i64 n44, AV.int .i64 n45] ∧ ∃ k126, k126 < m64 ∧ I62 k126 [AV.int .i64 (IntKind.i64.wrap (n65 + (1 : Int)))])) ∧ (b113 = false → f.cs = f.cs ∧ [AV.int IntKind.u16 x0, AV.int IntKind.u16 x1] = [AV.int IntKind.u16 x0, AV.int IntKind.u16 x1] ∧ [AV.int .i64 n3, AV.int .i64 n4] = [AV.int .i64 n3, AV.int .i64 n4] ∧ [AV.int .i64 n44, AV.int .i64 n45] = [AV.int .i64 n44, AV.int .i64 n45] ∧ ∃ k124, k124 < m64 ∧ I62 k124 [AV.int .i64 (IntKind.i64.wrap (n65 + (1 : Int)))]))))))))) ∧ (decide (n65 < (↑es59.length : Int)) = false → ((n60 == (0 : Int)) = true → ∃ b71, S (17 : Nat) [] [] (AV.bool b71) [] ∧ Q (AV.bool b71) []) ∧ ((n60 == (0 : Int)) = false → Q (AV.bool false) []))))))))))))))
theorem r13 (f : TFeFeeder) (node : Int) (x0 : Int) (x1 : Int) (S : SpecF) (Fr : FuncId → List AV → Nat → List AV → Prop) (Sq : FuncId → List AV → List (List AV) → List (List AV) → Prop) (Q : AV → List (List AV) → Prop) : awpF Try.prog (mkS Try.prog S Fr Sq ⟨[], [], [], [], []⟩ 0) 0 ⟨[0, 1, 2, 3, 5, 6, 7, 8, 9, 10, 11, 12, 13, 14, 15, 16, 17, 18, 19, 20, 21, 22, 23, 24, 25, 26, 27, 65, 70, 95, 117, 164, 174, 191, 211, 237, 257], [⟨8, [(15, .int .i64 0)], [], [], [], []⟩, ⟨21, [(21, .int .i64 0)], [], [], [], []⟩], [], []⟩ Try.f13 [f.av, .int .i64 node, .agg [.int .u16 x0, .int .u16 x1]] [] Q = R13 f node x0 x1 S Fr Sq Q := by kernel_rfl
theorem s13 (f : TFeFeeder) (node : Int) (x0 : Int) (x1 : Int) (v : AV) (O : List (List AV)) (h : R13 f node x0 x1 (SpecOf Try.prog) (FreshOf Try.prog) (SeqOf Try.prog) (fun r O' => r = v ∧ O' = O)) : SpecOf Try.prog 13 [f.av, .int .i64 node, .agg [.int .u16 x0, .int .u16 x1]] [] v O :=
  spec_by (boxes := []) mixed (by exact trivial) Try.func13 Try.call13 rfl rfl rfl (Nat.le_of_ble_eq_true rfl) (r13 f node x0 x1 (SpecOf Try.prog) (FreshOf Try.prog) (SeqOf Try.prog) _) h
set_option maxRecDepth 10000 in
theorem c13 (f : TFeFeeder) (hn : NOK f) (node x0 x1 : Int) (hx : 0 ≤ x0 ∧ x0 ≤ 65535) : Sp 13 [f.av, .int .i64 node, .agg [.int .u16 x0, .int .u16 x1]] [] (.bool true) [] := s13 f node x0 x1 _ _ (by
  unfold R13
  have aw : ∃ b, Sp 17 [] [] (.bool b) [] ∧ AV.bool b = AV.bool true ∧ ([] : List (List AV)) = [] := ⟨_, c17, rfl, rfl⟩
  have aw2 : ∃ b, Sp 17 [] [] (.bool b) [] ∧ AV.bool b = AV.bool true ∧ True := ⟨_, c17, rfl, trivial⟩
  generalize (x1.tmod 2 == 1) = e
  by_cases hin : innerS f node = 0
  case neg =>
    refine ⟨_, _, c22 f hn, _, _, _, c20 f hn node e, _, _, c29 f hn node, fun _ => (by first | exact aw | exact aw2), fun _ => ⟨fun _ => (by first | exact aw | exact aw2), fun h => ?_⟩⟩
    rw [faultR, if_pos hin] at h
    simp at h; exact absurd h hin
  obtain ⟨hf, k, rfl, hk, hk0⟩ := inner_ok hin
  have hc := asked_check (inner_asked hin)
  have hnn := hf.nn
  have h29 := c29a f hn hc hk
  cases hg : gn f k with
  | nil =>
    have ho : ownS f k = -1 := by unfold ownS; rw [hg]
    rw [ho] at h29
    refine ⟨_, _, c22a f hn hc, _, _, _, c20a f hn hc hk hk0 e, _, _, h29, fun _ => (by first | exact aw | exact aw2), fun _ => ⟨fun _ => (by first | exact aw | exact aw2), fun _ => ⟨fun _ => (by first | exact aw | exact aw2), fun _ => ⟨fun _ => (by first | exact aw | exact aw2), fun h => ?_⟩⟩⟩⟩
    simp at h
  | cons a r =>
  have ho : ownS f k = (a : Nat) := by unfold ownS; rw [hg]
  rw [ho] at h29
  have ha := gn_mem hf hk (show a ∈ gn f k by rw [hg]; simp)
  refine ⟨_, _, c22a f hn hc, _, _, _, c20a f hn hc hk hk0 e, _, _, h29, fun _ => (by first | exact aw | exact aw2), fun _ => ⟨fun _ => (by first | exact aw | exact aw2), fun _ => ⟨fun _ => (by first | exact aw | exact aw2), fun _ => ⟨fun _ => (by first | exact aw | exact aw2), fun _ => ?_⟩⟩⟩⟩
  have hjl := judgeL_len hf f.Nodes.length (Nat.le_refl _)
  have hsel := fun hc n => selects (e := e) (n := n) hf hk hk0 hg hc
  have h36 := c36a f hn hc hk
  have hP : ∀ x ∈ (upL f k).reverse, x ≠ 0 ∧ x < f.Nodes.length ∧ (0 ≤ (nd f x).Fuse → x ≠ a → x ∈ r) := fun x hx => by
    have hx := List.mem_reverse.1 hx
    have hm := upL_mem hf hk hx
    refine ⟨hm.1, hm.2.1, fun hz hne => ?_⟩
    have : x ∈ gn f k := List.mem_filter.2 ⟨hx, by simpa [hasF] using hz⟩
    rw [hg] at this
    rcases List.mem_cons.1 this with h | h
    · exact absurd h hne
    · exact h
  have hPl : (upL f k).reverse.length ≤ 40 := by rw [List.length_reverse]; exact upL_len40 hf hk
  generalize judgeL f f.Nodes.length = L at hjl hsel
  simp only [List.length_map]
  refine ⟨fun m vs => ∃ i : Nat, i ≤ L.length ∧ m = L.length - i ∧ vs = [.int .i64 i] ∧ ∀ x ∈ L.take i, x.Node = k → x.Error ≠ 162 ∧ x.Error ≠ 163, ⟨_, 0, by omega, rfl, rfl, by simp⟩, ?_⟩
  rintro m n ⟨i, hi, rfl, hv, hcl⟩
  cases hv
  refine ⟨fun g => ?_, fun g => ?_⟩
  · have g : i < L.length := by simpa using g
    obtain ⟨x, hx, hx'⟩ := map_getN (f := TFeFault.av) g
    have hw := wrapN (k := i) (by omega)
    have next : (x.Node = k → x.Error ≠ 162 ∧ x.Error ≠ 163) → ∃ m', m' < L.length - i ∧ ∃ j : Nat, j ≤ L.length ∧ m' = L.length - j ∧ [AV.int .i64 (IntKind.i64.wrap ((i : Int) + 1))] = [.int .i64 j] ∧ ∀ x ∈ L.take j, x.Node = k → x.Error ≠ 162 ∧ x.Error ≠ 163 := fun h =>
      ⟨_, (by omega : L.length - (i + 1) < L.length - i), i + 1, by omega, rfl, by rw [hw], fun y hy => by
        rw [List.take_add_one, hx] at hy
        rcases List.mem_append.1 hy with hy | hy
        · exact hcl y hy
        · simp only [Option.toList, List.mem_singleton] at hy
          subst hy; exact h⟩
    refine ⟨_, _, _, ⟨by omega, by trivial, hx'⟩, fun q => ⟨_, _, _, ⟨by omega, by trivial, hx'⟩, fun _ => (by first | exact aw | exact aw2), fun q2 => ⟨_, _, _, ⟨by omega, by trivial, hx'⟩, fun _ => (by first | exact aw | exact aw2), fun q3 => ?_⟩⟩, fun q => ?_⟩
    · repeat first | refine And.intro rfl ?_ | refine And.intro trivial ?_
      exact next fun _ => ⟨by simpa using q2, by simpa using q3⟩
    · repeat first | refine And.intro rfl ?_ | refine And.intro trivial ?_
      exact next fun h => by simp at q; exact absurd h q
  · obtain rfl : i = L.length := by simp at g; omega
    rw [List.take_length] at hcl
    have hb := fault_bound hf hk e
    have hlo := fault_nn hf hk e
    have hwf := fault_wf hf hk e
    have hsel := hsel hcl
    unfold CB at hb
    generalize faultS f k e = c at hb hlo hwf hsel
    have h0 := Int.mul_nonneg (show 0 ≤ c.Hi - c.Lo by omega) hx.1
    have h1 : (c.Hi - c.Lo) * x0 ≤ (c.Hi - c.Lo) * 65535 := Int.mul_le_mul_of_nonneg_left hx.2 (by omega)
    have en : IntKind.i64.wrap (c.Lo + IntKind.i64.wrap ((IntKind.i64.wrap (IntKind.i64.wrap (c.Hi - c.Lo) * IntKind.i64.wrap x0)).tdiv 65535)) = c.Lo + (c.Hi - c.Lo) * x0 / 65535 := by
      rw [i64 (n := c.Hi - c.Lo) (by omega), i64 (n := x0) (by omega), i64 (n := (c.Hi - c.Lo) * x0) (by omega), Int.tdiv_eq_ediv_of_nonneg h0]
      generalize (c.Hi - c.Lo) * x0 = q at h0 h1
      rw [i64 (n := q / 65535) (by omega), i64 (by omega)]
    have hnlo : c.Lo ≤ c.Lo + (c.Hi - c.Lo) * x0 / 65535 := by generalize (c.Hi - c.Lo) * x0 = q at h0 h1; omega
    have hnhi : c.Lo + (c.Hi - c.Lo) * x0 / 65535 ≤ c.Hi := by generalize (c.Hi - c.Lo) * x0 = q at h0 h1; omega
    rw [en]
    clear en
    have hS := hsel _ hnlo hnhi
    generalize c.Lo + (c.Hi - c.Lo) * x0 / 65535 = n at hnlo hnhi hS
    refine ⟨fun q => ?_, fun _ => ⟨fun q2 => ⟨fun _ => (by first | exact aw | exact aw2), fun q3 => ?_⟩, fun q2 => ?_⟩⟩
    · simp at q; omega
    · rw [q2] at q3; cases q3
    · have hn9 : 0 ≤ n ∧ n ≤ 1000000000 := by simp at q2; omega
      have h31 := c31a f hn hc hk hn9
      rw [hS.first] at h31
      have h27 := c27a f hn hc ha.2.1 ha.1 ha.2.2 hn9
      have hop := hS.opens
      have htm := hS.time
      have hoth := hS.others
      refine ⟨_, _, h31, (nd f a).Name, (nd f a).Parent, (nd f a).Cable, (nd f a).Length, (nd f a).Fuse, (nd f a).Loads0.Lo, (nd f a).Loads0.Hi, (nd f a).Loads1.Lo, (nd f a).Loads1.Hi, (nd f a).Loads2.Lo, (nd f a).Loads2.Hi, ⟨by omega, by trivial, nd_av ha.2.1⟩, _, _, _, _, h27, fun q => ?_, fun _ => ⟨fun q => ?_, fun _ => ⟨fun q => ?_, fun _ => ⟨fun q => ?_, fun _ => ⟨fun q => ?_, fun _ => ⟨_, _, h36, ?_⟩⟩⟩⟩⟩⟩
      · simp at q
      · simp at q
      · simp at q
      · rw [hop] at q; cases q
      · simp at q; omega
      generalize (upL f k).reverse = P at hP hPl
      simp only [List.length_map]
      refine ⟨fun m vs => ∃ i : Nat, i ≤ P.length ∧ m = P.length - i ∧ vs = [.int .i64 i], ⟨_, 0, by omega, rfl, rfl⟩, ?_⟩
      rintro m n2 ⟨i, hi, rfl, hv⟩
      cases hv
      refine ⟨fun g => ?_, fun _ => ⟨fun _ => (by first | exact aw | exact aw2), fun q => ?_⟩⟩
      · have g : i < P.length := by simpa using g
        obtain ⟨x, hx, hx'⟩ := map_getN (f := nJ) g
        obtain ⟨p0, p1, p2⟩ := hP x (List.mem_of_getElem? hx)
        have hw := wrapN (k := i) (by omega)
        have next : ∃ m', m' < P.length - i ∧ ∃ j : Nat, j ≤ P.length ∧ m' = P.length - j ∧ [AV.int .i64 (IntKind.i64.wrap ((i : Int) + 1))] = [.int .i64 j] :=
          ⟨_, (by omega : P.length - (i + 1) < P.length - i), i + 1, by omega, rfl, by rw [hw]⟩
        refine ⟨_, ⟨by omega, by trivial, hx'⟩, fun q => ?_, fun _ => ⟨_, ⟨by omega, by trivial, hx'⟩, fun q => ?_, fun _ => ⟨_, ⟨by omega, by trivial, hx'⟩, (nd f x).Name, (nd f x).Parent, (nd f x).Cable, (nd f x).Length, (nd f x).Fuse, (nd f x).Loads0.Lo, (nd f x).Loads0.Hi, (nd f x).Loads1.Lo, (nd f x).Loads1.Hi, (nd f x).Loads2.Lo, (nd f x).Loads2.Hi, ⟨by omega, by trivial, nd_av p1⟩, _, ⟨by omega, by trivial, hx'⟩, _, _, _, _, _, _, _, c24a f hn hc p1 p0, fun q => ?_, fun _ => ⟨fun _ => ?_, fun q => ⟨_, ⟨by omega, by trivial, hx'⟩, fun _ => ?_, fun q2 => ⟨fun _ => ?_, fun q3 => ?_⟩⟩⟩⟩⟩⟩
        · simp at q; omega
        · simp at q; omega
        · simp at q
        · repeat first | refine And.intro rfl ?_ | refine And.intro trivial ?_
          exact next
        · repeat first | refine And.intro rfl ?_ | refine And.intro trivial ?_
          exact next
        · repeat first | refine And.intro rfl ?_ | refine And.intro trivial ?_
          exact next
        · have hz : 0 ≤ (nd f x).Fuse := by simpa using q
          have hne : x ≠ a := by
            have : ((x : Int) == (a : Int)) = false := q2
            simp at this; omega
          have hbes := bes_bound hf x
          have e3 : IntKind.i64.wrap (n + besS f x) = n + besS f x := i64 (by omega)
          have q3' : decide (IntKind.i64.wrap (n + besS f x) > 1000000000) = false := by
            simp only [if_true] at q3
            exact q3
          rw [e3] at q3'
          have h27' := c27a f hn hc p1 p0 hz (c := n + besS f x) (by simp at q3'; omega)
          rw [← e3] at h27'
          refine ⟨(meltS (fz f x) (IntKind.i64.wrap (n + besS f x))).1.Lo, (meltS (fz f x) (IntKind.i64.wrap (n + besS f x))).1.Hi, (meltS (fz f x) (IntKind.i64.wrap (n + besS f x))).2, 0, ?_, fun q => ?_, fun _ => ⟨fun q4 => ⟨fun q5 => ?_, fun _ => ?_⟩, fun _ => ?_⟩⟩
          · simp only [if_true]
            exact h27'
          · simp at q
          · exfalso
            rw [e3] at q4 q5
            rcases hoth x (p2 hz hne) with h | h
            · rw [h] at q4; cases q4
            · simp at q5; omega
          · repeat first | refine And.intro rfl ?_ | refine And.intro trivial ?_
            exact next
          · repeat first | refine And.intro rfl ?_ | refine And.intro trivial ?_
            exact next
      · simp at q)
end Go.Proofs.Ytbdbnpnichkcjaa
