/- What waves.Turns computes on rows. -/
import Derived.Test.YtmigibamdeodpaaTurnL
import Derived.Test.YtmigibamdeodpaaPrintx23
namespace Go.Proofs.Ytmigibamdeodpaa.Pure
open Go.RowKit Go.Proofs.Ytmigibamdeodpaa.Print Go.Proofs.YtmigibamdeodpaaW.PrintWords Go.Proofs.YtmigibamdeodpaaW.PrintLast Go.Proofs.YtmigibamdeodpaaW.PrintMore
/-! ### Turns -/
def turnAt (l : List Int) (i : Nat) : Bool := decide (l.getD (i - 1) 0 < l.getD i 0) == decide (l.getD (i + 1) 0 < l.getD i 0)
def cntFrom (p : Nat → Bool) (i : Nat) : Nat → Nat
  | 0 => 0
  | n + 1 => (if p i then 1 else 0) + cntFrom p (i + 1) n
theorem cntFrom_le (p : Nat → Bool) : ∀ n i, cntFrom p i n ≤ n
  | 0, _ => Nat.le_refl _
  | n + 1, i => by
    have := cntFrom_le p n (i + 1)
    simp only [cntFrom]
    split <;> omega
theorem cntFrom_all (p : Nat → Bool) : ∀ n i, cntFrom p i n = n ↔ allFrom p i n = true
  | 0, i => by simp [cntFrom, allFrom]
  | n + 1, i => by
    have h1 := cntFrom_all p n (i + 1)
    have h2 := cntFrom_le p n (i + 1)
    simp only [cntFrom, allFrom, Bool.and_eq_true, ← h1]
    cases p i
    · simp
      omega
    · simp
      omega
theorem Turns_l0 (l : List Int) (hl : l.length ≤ 10) : ∀ n k (i c : Nat), 1 ≤ i → (0 < n → i + n + 1 = l.length) → (n = 0 → l.length ≤ i + 1) → n < k → c + n ≤ 20 → i ≤ 20 → waves_Turns.l0 k l c i = some (((c + cntFrom (turnAt l) i n : Nat) : Int), 0)
  | 0, k, i, c, h1, _, h, hk, hc, hi => by
    obtain ⟨k, rfl, _⟩ := succK hk
    simp only [waves_Turns.l0]
    rw [if_neg (by rw [w64 (by omega) (by omega)]; have := h rfl; omega)]
    rfl
  | n + 1, k, i, c, h1, h, _, hk, hc, hi => by
    obtain ⟨k, rfl, hk'⟩ := succK hk
    have h := h (by omega)
    have e1 : wrap64 ((i : Int) - 1) = ((i - 1 : Nat) : Int) := by rw [w64 (by omega) (by omega)]; omega
    have e2 : wrap64 ((i : Int) + 1) = ((i + 1 : Nat) : Int) := by rw [w64 (by omega) (by omega)]; omega
    have e3 : wrap64 ((c : Int) + 1) = ((c + 1 : Nat) : Int) := by rw [w64 (by omega) (by omega)]; omega
    simp only [waves_Turns.l0]
    rw [e1, e2, e3, if_pos (by omega), if_pos (by omega), if_pos (by omega), if_pos (by omega), if_pos (by omega), if_pos (by omega), rdn, rdn, rdn]
    simp only [cntFrom]
    show (if turnAt l i = true then _ else _) = _
    cases hb : turnAt l i
    · rw [if_neg (by decide)]
      have := Turns_l0 l hl n k (i + 1) c (by omega) (by omega) (by omega) (by omega) (by omega) (by omega)
      rw [this]
      simp
    · rw [if_pos rfl]
      have := Turns_l0 l hl n k (i + 1) (c + 1) (by omega) (by omega) (by omega) (by omega) (by omega) (by omega)
      rw [this]
      simp
      omega
end Go.Proofs.Ytmigibamdeodpaa.Pure
