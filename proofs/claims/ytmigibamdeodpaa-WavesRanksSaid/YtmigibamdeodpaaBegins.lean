/- How many waves begin with the k-th of m numbers: a table that the kernel computes, and its recurrence. -/
import Derived.Test.YtmigibamdeodpaaPrintx5
import Derived.Test.YtmigibamdeodpaaPrintx3
namespace Go.Proofs.Ytmigibamdeodpaa.Pure
open Go.RowKit Go.Proofs.Ytmigibamdeodpaa.Print Go.Proofs.YtmigibamdeodpaaW.PrintWords Go.Proofs.YtmigibamdeodpaaW.PrintLast Go.Proofs.YtmigibamdeodpaaW.PrintMore
def numB : List (List (Int × Int)) := [[], [(1, 1)], [(1, 0), (0, 1)], [(1, 0), (1, 1), (0, 1)], [(2, 0), (2, 1), (1, 2), (0, 2)], [(5, 0), (5, 2), (4, 4), (2, 5), (0, 5)], [(16, 0), (16, 5), (14, 10), (10, 14), (5, 16), (0, 16)], [(61, 0), (61, 16), (56, 32), (46, 46), (32, 56), (16, 61), (0, 61)], [(272, 0), (272, 61), (256, 122), (224, 178), (178, 224), (122, 256), (61, 272), (0, 272)], [(1385, 0), (1385, 272), (1324, 544), (1202, 800), (1024, 1024), (800, 1202), (544, 1324), (272, 1385), (0, 1385)], [(7936, 0), (7936, 1385), (7664, 2770), (7120, 4094), (6320, 5296), (5296, 6320), (4094, 7120), (2770, 7664), (1385, 7936), (0, 7936)]]
def B (m k : Nat) (up : Bool) : Int := if up then ((numB.getD m []).getD k (0, 0)).1 else ((numB.getD m []).getD k (0, 0)).2
/-- From index i on, n indices: the sum of those that go on behind index p, up or down. -/
def sumB (m p : Nat) (g up : Bool) (i : Nat) : Nat → Int
  | 0 => 0
  | n + 1 => (if decide (p ≤ i) == g then B m i up else 0) + sumB m p g up (i + 1) n
def allB (m : Nat) (up : Bool) (i : Nat) : Nat → Int
  | 0 => 0
  | n + 1 => B m i up + allB m up (i + 1) n
theorem beginsAll : ((List.range 11).all fun m => (List.range m).all fun k => [true, false].all fun up => waves_begins.f (m : Int) ((k + 1 : Nat) : Int) up == some (B m k up) && decide (0 ≤ B m k up) && decide (B m k up ≤ 100000)) = true := by decide +kernel
theorem begins_f {m k : Nat} (hm : m ≤ 10) (hk : k < m) (up : Bool) : waves_begins.f (m : Int) ((k + 1 : Nat) : Int) up = some (B m k up) ∧ 0 ≤ B m k up ∧ B m k up ≤ 100000 := by
  have h := List.all_eq_true.1 (List.all_eq_true.1 (List.all_eq_true.1 beginsAll m (List.mem_range.2 (by omega))) k (List.mem_range.2 hk)) up (by cases up <;> simp)
  simp only [Bool.and_eq_true, beq_iff_eq, decide_eq_true_eq] at h
  exact ⟨h.1.1, h.1.2, h.2⟩
theorem recurAll : ((List.range 11).all fun m => (List.range m).all fun k => [true, false].all fun up => decide (B m k up = if m = 1 then 1 else sumB (m - 1) k up (!up) 0 (m - 1))) = true := by decide +kernel
theorem recur {m k : Nat} (hm : m ≤ 10) (hk : k < m) (up : Bool) : B m k up = if m = 1 then 1 else sumB (m - 1) k up (!up) 0 (m - 1) := by
  have h := List.all_eq_true.1 (List.all_eq_true.1 (List.all_eq_true.1 recurAll m (List.mem_range.2 (by omega))) k (List.mem_range.2 hk)) up (by cases up <;> simp)
  exact of_decide_eq_true h
theorem countAll : ((List.range 11).all fun m => waves_Count.f (m : Int) == some (if m = 0 then 1 else allB m true 0 m, 0) && decide (0 < (if m = 0 then 1 else allB m true 0 m)) && decide ((if m = 0 then 1 else allB m true 0 m) ≤ 100000)) = true := by decide +kernel
theorem count_f {m : Nat} (hm : m ≤ 10) : waves_Count.f (m : Int) = some (if m = 0 then 1 else allB m true 0 m, 0) ∧ 0 < (if m = 0 then 1 else allB m true 0 m) ∧ (if m = 0 then 1 else allB m true 0 m) ≤ 100000 := by
  have h := List.all_eq_true.1 countAll m (List.mem_range.2 (by omega))
  simp only [Bool.and_eq_true, beq_iff_eq, decide_eq_true_eq] at h
  exact ⟨h.1.1, h.1.2, h.2⟩
end Go.Proofs.Ytmigibamdeodpaa.Pure
