/- A set of small numbers as bits: computed by the kernel. -/
import Derived.Test.YtmigibamdeodpaaPrintx0
namespace Go.Proofs.Ytmigibamdeodpaa.Pure
open Go.RowKit Go.Proofs.Ytmigibamdeodpaa.Print Go.Proofs.YtmigibamdeodpaaW.PrintWords Go.Proofs.YtmigibamdeodpaaW.PrintLast Go.Proofs.YtmigibamdeodpaaW.PrintMore
theorem maskAll : ((List.range 2048).all fun m => (List.range 11).all fun x =>
    (decide (Go.bits .and .i64 (shr .i64 (m : Int) (x : Int)) 1 = 1) == Nat.testBit m x) && decide (Go.bits .or .i64 (m : Int) (shl .i64 1 (x : Int)) = ((m ||| 2 ^ x : Nat) : Int)) &&
    (decide (Int.tmod (shr .i64 (m : Int) (x : Int)) 2 = 1) == Nat.testBit m x) && (Nat.testBit m x || decide (wrap64 ((m : Int) + shl .i64 1 (x : Int)) = ((m ||| 2 ^ x : Nat) : Int))) && decide (m ||| 2 ^ x < 2048)) = true := by decide +kernel
theorem mask (m x : Nat) (hm : m < 2048) (hx : x < 11) : ((Go.bits .and .i64 (shr .i64 (m : Int) (x : Int)) 1 = 1) ↔ Nat.testBit m x = true) ∧ Go.bits .or .i64 (m : Int) (shl .i64 1 (x : Int)) = ((m ||| 2 ^ x : Nat) : Int) ∧
    ((Int.tmod (shr .i64 (m : Int) (x : Int)) 2 = 1) ↔ Nat.testBit m x = true) ∧ (Nat.testBit m x = false → wrap64 ((m : Int) + shl .i64 1 (x : Int)) = ((m ||| 2 ^ x : Nat) : Int)) ∧ m ||| 2 ^ x < 2048 := by
  have h := List.all_eq_true.1 (List.all_eq_true.1 maskAll m (List.mem_range.2 hm)) x (List.mem_range.2 hx)
  simp only [Bool.and_eq_true, beq_iff_eq, decide_eq_true_eq, Bool.or_eq_true] at h
  obtain ⟨⟨⟨⟨h1, h2⟩, h3⟩, h4⟩, h5⟩ := h
  refine ⟨?_, h2, ?_, fun hb => ?_, h5⟩
  · rw [← h1, decide_eq_true_eq]
  · rw [← h3, decide_eq_true_eq]
  · rcases h4 with h4 | h4
    · rw [hb] at h4; cases h4
    · exact h4
end Go.Proofs.Ytmigibamdeodpaa.Pure
