/- The visits' plain laws: Needed and Starts of the program and of the specification. -/
import Derived.Test.YtadfcplobidmeaaDoorVPairs
import Derived.Test.YtadfcplobidmeaaDoorPrintx5
namespace Go.Proofs.YtadfcplobidmeaaDoor.Pure
open Go.RowKit Go.Proofs.YtadfcplobidmeaaDoor.Print Go.Proofs.YtadfcplobidmeaaDoorW.PrintWords Go.Proofs.YtadfcplobidmeaaDoorW.PrintLast Go.Proofs.YtadfcplobidmeaaDoorW.PrintMore
/-- the set of the numbers from j on that p holds of, added to a set. -/
def setF (p : Nat → Bool) (j : Nat) : Nat → Nat → Nat
  | 0, out => out
  | m + 1, out => setF p (j + 1) m (if p j = true then out ||| 2 ^ j else out)
theorem setF_lt (p : Nat → Bool) : ∀ m j out, out < 2 ^ j → setF p j m out < 2 ^ (j + m)
  | 0, _, _, h => h
  | m + 1, j, out, h => by
    have h2 : out < 2 ^ (j + 1) := Nat.lt_of_lt_of_le h (Nat.pow_le_pow_right (by decide) (Nat.le_succ j))
    have := setF_lt p m (j + 1) (if p j = true then out ||| 2 ^ j else out) (by split; exact or_lt h2 (Nat.lt_succ_self j); exact h2)
    simp only [setF]
    rw [show j + (m + 1) = j + 1 + m by omega]
    exact this
theorem setF_bit (p : Nat → Bool) : ∀ m j out i, (setF p j m out).testBit i = (out.testBit i || (decide (j ≤ i) && decide (i < j + m) && p i))
  | 0, j, out, i => by
    simp only [setF]
    by_cases h : j ≤ i
    · rw [decide_eq_false (show ¬ i < j + 0 by omega)]; simp
    · rw [decide_eq_false h]; simp
  | m + 1, j, out, i => by
    simp only [setF]
    rw [setF_bit p m (j + 1)]
    have e : (if p j = true then out ||| 2 ^ j else out).testBit i = (out.testBit i || (decide (j = i) && p j)) := by
      cases p j
      · rw [if_neg (by decide)]; simp
      · rw [if_pos rfl, or_bit]; simp
    rw [e]
    by_cases h : j = i
    · subst h
      rw [decide_eq_true rfl, decide_eq_false (show ¬ j + 1 ≤ j by omega), decide_eq_true (Nat.le_refl j), decide_eq_true (show j < j + (m + 1) by omega)]
      simp
    · rw [decide_eq_false h]
      by_cases h2 : j ≤ i
      · rw [decide_eq_true h2, decide_eq_true (show j + 1 ≤ i by omega)]
        have : decide (i < j + 1 + m) = decide (i < j + (m + 1)) := by congr 1; exact propext ⟨fun h => by omega, fun h => by omega⟩
        rw [this]; simp
      · rw [decide_eq_false h2, decide_eq_false (show ¬ j + 1 ≤ i by omega)]
        simp
def full (l : List Int) : Nat := 2 ^ l.length - 1
theorem full_lt (l : List Int) : full l < 2 ^ l.length := by
  have := Nat.two_pow_pos l.length
  unfold full
  omega
theorem full_bit (l : List Int) (i : Nat) : (full l).testBit i = decide (i < l.length) := Nat.testBit_two_pow_sub_one _ _
def needP (l : List Int) : Nat → Bool := fun j => decide (nu l (sd (full l) (2 ^ j)) < nu l (full l))
def needB (l : List Int) : Nat := setF (needP l) 0 l.length 0
theorem orAdd {out j : Nat} (h : out < 2 ^ j) : out + 2 ^ j = out ||| 2 ^ j := by
  have := Nat.two_pow_add_eq_or_of_lt h 1
  rw [Nat.mul_one] at this
  rw [Nat.add_comm, this, Nat.or_comm]
theorem largest_f {l : List Int} (hS : Shop l) (S : Nat) (hs : S < 2 ^ l.length) (k : Nat) (hk : 25000 ≤ k) : visits_shop_largest.f k l (S : Int) = some ((nu l S : Nat) : Int) := by
  unfold visits_shop_largest.f
  rw [pairs_f hS S hs k hk, Option.bind_some]
theorem need_l0 {l : List Int} (hS : Shop l) : ∀ (m j k out : Nat), j + m = l.length → 25000 + m + 1 ≤ k → out < 2 ^ j → visits_shop_needed.l0 k l (out : Int) ((nu l (full l) : Nat) : Int) (l.length : Int) (j : Int) = some ((setF (needP l) j m out : Nat) : Int)
  | 0, j, k, out, hj, hk, ho => by
    obtain ⟨k, rfl, _⟩ := succK (show 0 < k by omega)
    simp only [visits_shop_needed.l0]
    rw [if_neg (by omega)]
    rfl
  | m + 1, j, k, out, hj, hk, ho => by
    obtain ⟨k, rfl, _⟩ := succK (show 0 < k by omega)
    have hl := hS.le
    have hp := pow10 hl
    have hf := full_lt l
    have hsd := sd_le (full l) (2 ^ j)
    have p1 : 2 ^ j < 2 ^ 10 := Nat.pow_lt_pow_right (by decide) (by omega)
    have h2 : out < 2 ^ (j + 1) := Nat.lt_of_lt_of_le ho (Nat.pow_le_pow_right (by decide) (Nat.le_succ j))
    simp only [visits_shop_needed.l0]
    rw [if_pos (by omega), all_f l hl, Option.bind_some, if_pos (by omega)]
    show ((visits_shop_largest.f k l (Go.bits .andNot .i64 ((full l : Nat) : Int) (shl .i64 1 (j : Int)))).bind _) = _
    rw [bShl j (by omega), bDiff _ _ (by omega) (by omega), largest_f hS _ (by omega) k (by omega), Option.bind_some, bOr _ _ (by omega) (by omega), inc64 j (by omega),
      need_l0 hS m (j + 1) k _ (by omega) (by omega) (or_lt h2 (Nat.lt_succ_self j)), need_l0 hS m (j + 1) k _ (by omega) (by omega) h2]
    simp only [setF]
    by_cases c : nu l (sd (full l) (2 ^ j)) < nu l (full l)
    · have e : needP l j = true := decide_eq_true c
      rw [if_pos (by omega), e, if_pos rfl]
    · have e : needP l j = false := decide_eq_false c
      rw [if_neg (by omega), e, if_neg (by decide)]
theorem needed_f {l : List Int} (hS : Shop l) (k : Nat) (hk : 26000 ≤ k) : visits_shop_needed.f k l = some ((needB l : Nat) : Int) := by
  have hl := hS.le
  unfold visits_shop_needed.f
  rw [all_f l hl, Option.bind_some]
  show ((visits_shop_largest.f k l ((full l : Nat) : Int)).bind _) = _
  rw [largest_f hS _ (full_lt l) k (by omega), Option.bind_some]
  exact need_l0 hS l.length 0 k 0 (by omega) (by omega) (by decide)
def needV (l : List Int) : Int × Int := if isShop l = true then (((needB l : Nat) : Int), 0) else (0, 2)
theorem vNeeded_f (l : List Int) (k : Nat) (hk : 26000 ≤ k) : visits_Needed.f k l = some (needV l) := by
  unfold visits_Needed.f needV
  rw [read_f l k (by omega), Option.bind_some]
  cases h : isShop l
  · rw [if_neg (by decide), if_neg (by decide)]
  · rw [if_pos rfl, if_pos rfl, needed_f ((isShop_iff l).1 h) k hk, Option.bind_some]
def startP (l : List Int) : Nat → Bool := fun j => !gw l (2 ^ j) j
def startB (l : List Int) : Nat := setF (startP l) 0 l.length 0
def startV (l : List Int) : Int × Int := if isShop l = true then (((startB l : Nat) : Int), 0) else (0, 2)
theorem start_l0 {l : List Int} (hS : Shop l) : ∀ (m j k out : Nat), j + m = l.length → 30000 + m + 1 ≤ k → out < 2 ^ j → visits_Starts.l0 k l (out : Int) (l.length : Int) (j : Int) = some (((setF (startP l) j m out : Nat) : Int), 0)
  | 0, j, k, out, hj, hk, ho => by
    obtain ⟨k, rfl, _⟩ := succK (show 0 < k by omega)
    simp only [visits_Starts.l0]
    rw [if_neg (by omega)]
    rfl
  | m + 1, j, k, out, hj, hk, ho => by
    obtain ⟨k, rfl, _⟩ := succK (show 0 < k by omega)
    have hl := hS.le
    have hp := pow10 hl
    have p1 : 2 ^ j < 2 ^ 10 := Nat.pow_lt_pow_right (by decide) (by omega)
    have h2 : out < 2 ^ (j + 1) := Nat.lt_of_lt_of_le ho (Nat.pow_le_pow_right (by decide) (Nat.le_succ j))
    simp only [visits_Starts.l0]
    rw [if_pos (by omega), if_pos (by omega), bShl j (by omega), wins_f hS _ j k (Nat.pow_lt_pow_right (by decide) (by omega)) (by omega) (by omega), Option.bind_some, bOr _ _ (by omega) (by omega), inc64 j (by omega),
      start_l0 hS m (j + 1) k _ (by omega) (by omega) (or_lt h2 (Nat.lt_succ_self j)), start_l0 hS m (j + 1) k _ (by omega) (by omega) h2]
    simp only [setF]
    cases c : gw l (2 ^ j) j
    · have e : startP l j = true := by unfold startP; rw [c]; rfl
      rw [if_neg (by decide), e, if_pos rfl]
    · have e : startP l j = false := by unfold startP; rw [c]; rfl
      rw [if_pos rfl, e, if_neg (by decide)]
theorem vStarts_f (l : List Int) (k : Nat) (hk : 31000 ≤ k) : visits_Starts.f k l = some (startV l) := by
  unfold visits_Starts.f startV
  rw [read_f l k (by omega), Option.bind_some]
  cases h : isShop l
  · rw [if_neg (by decide), if_neg (by decide)]
  · have hS := (isShop_iff l).1 h
    have hl := hS.le
    rw [if_pos rfl, if_pos rfl]
    exact start_l0 hS l.length 0 k 0 (by omega) (by omega) (by decide)
end Go.Proofs.YtadfcplobidmeaaDoor.Pure
