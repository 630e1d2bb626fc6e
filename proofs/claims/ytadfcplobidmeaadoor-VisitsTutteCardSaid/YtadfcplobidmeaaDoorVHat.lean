/- The visits' plain laws: a hat and a set of hats out of small numbers. -/
import Derived.Test.YtadfcplobidmeaaDoorVBase
namespace Go.Proofs.YtadfcplobidmeaaDoor.Pure
open Go.RowKit Go.Proofs.YtadfcplobidmeaaDoor.Print Go.Proofs.YtadfcplobidmeaaDoorW.PrintWords Go.Proofs.YtadfcplobidmeaaDoorW.PrintLast Go.Proofs.YtadfcplobidmeaaDoorW.PrintMore
theorem tmod_set {a : Int} (h0 : 0 ≤ a) (h1 : a ≤ 65535) {n : Nat} (hn : n ≤ 10) : ∃ s : Nat, s < 2 ^ n ∧ Int.tmod (wrap64 a) (shl .i64 1 (n : Int)) = (s : Int) := by
  have hp := pow10 hn
  have h2 := Nat.two_pow_pos n
  rw [bShl n (by omega), w64 (by omega) (by omega)]
  obtain ⟨m, rfl⟩ : ∃ m : Nat, a = m := ⟨a.toNat, by omega⟩
  exact ⟨m % 2 ^ n, Nat.mod_lt _ h2, by rw [← Int.ofNat_tmod]⟩
theorem tmod_hat {a : Int} (h0 : 0 ≤ a) (h1 : a ≤ 65535) {n : Nat} (hn : 1 ≤ n) : ∃ i : Nat, i < n ∧ Int.tmod (wrap64 a) (n : Int) = (i : Int) := by
  rw [w64 (by omega) (by omega)]
  obtain ⟨m, rfl⟩ : ∃ m : Nat, a = m := ⟨a.toNat, by omega⟩
  exact ⟨m % n, Nat.mod_lt _ (by omega), by rw [← Int.ofNat_tmod]⟩
theorem u8_range {a : Int} (ha : (Lit.int .u8 a).wf = true) : 0 ≤ a ∧ a ≤ 65535 := by
  simp [Lit.wf, IntKind.min, IntKind.max, IntKind.signed, IntKind.bits] at ha
  omega
theorem u16_range {a : Int} (ha : (Lit.int .u16 a).wf = true) : 0 ≤ a ∧ a ≤ 65535 := by
  simp [Lit.wf, IntKind.min, IntKind.max, IntKind.signed, IntKind.bits] at ha
  omega
end Go.Proofs.YtadfcplobidmeaaDoor.Pure
