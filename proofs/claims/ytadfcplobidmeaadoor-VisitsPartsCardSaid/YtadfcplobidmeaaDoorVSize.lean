/- The visits' plain laws: how many hats a set has. -/
import Derived.Test.YtadfcplobidmeaaDoorVEx
import Derived.Test.YtadfcplobidmeaaDoorPrintx22
import Derived.Test.YtadfcplobidmeaaDoorPrintx8
namespace Go.Proofs.YtadfcplobidmeaaDoor.Pure
open Go.RowKit Go.Proofs.YtadfcplobidmeaaDoor.Print Go.Proofs.YtadfcplobidmeaaDoorW.PrintWords Go.Proofs.YtadfcplobidmeaaDoorW.PrintLast Go.Proofs.YtadfcplobidmeaaDoorW.PrintMore
theorem sizeAll : ((List.range 1024).all fun s => clocheref03_Size.f 12 (s : Int) == some ((sz s : Nat) : Int)) = true := by decide +kernel
theorem size_mono (k d : Nat) (a r : Int) (h : clocheref03_Size.f k a = some r) : clocheref03_Size.f (k + d) a = some r := by
  induction d with
  | zero => exact h
  | succ d ih => exact clocheref03_Size.mono _ _ _ ih
theorem Size_f {s : Nat} (hs : s < 1024) (k : Nat) (hk : 12 ≤ k) : clocheref03_Size.f k (s : Int) = some ((sz s : Nat) : Int) := by
  have h := List.all_eq_true.1 sizeAll s (List.mem_range.2 hs)
  obtain ⟨d, rfl⟩ : ∃ d, k = 12 + d := ⟨k - 12, by omega⟩
  exact size_mono 12 d _ _ (by simpa using h)
end Go.Proofs.YtadfcplobidmeaaDoor.Pure
