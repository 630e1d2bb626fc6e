/- What every right program knows of a quad. -/
import Derived.Test.YtlfmafebmnggeaaPrintx6
namespace Go.Proofs.Ytlfmafebmnggeaa.Pure
open Go.RowKit Go.Proofs.Ytlfmafebmnggeaa.Print Go.Proofs.YtlfmafebmnggeaaW.PrintWords Go.Proofs.YtlfmafebmnggeaaW.PrintLast
theorem alive_50 : clochelaw01_alive.f 50 = some true := by decide +kernel
theorem alive_mono (k : Nat) (h : clochelaw01_alive.f k = some true) : clochelaw01_alive.f (k + 1) = some true := by
  exact clochelaw01_alive.mono k _ h
theorem alive_f (k : Nat) (h : 50 ≤ k) : clochelaw01_alive.f k = some true := by
  obtain ⟨d, rfl⟩ : ∃ d, k = 50 + d := ⟨k - 50, by omega⟩
  clear h
  induction d with
  | zero => exact alive_50
  | succ d ih => exact alive_mono _ ih
end Go.Proofs.Ytlfmafebmnggeaa.Pure
