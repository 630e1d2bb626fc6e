/- The visits' plain laws: the difference of Barrier is that of the hats that go with those that are not needed. -/
import Derived.Test.YtadfcplobidmeaaDoorVPart
import Derived.Test.YtadfcplobidmeaaDoorPrintx27b
namespace Go.Proofs.YtadfcplobidmeaaDoor.Pure
open Go.RowKit Go.Proofs.YtadfcplobidmeaaDoor.Print Go.Proofs.YtadfcplobidmeaaDoorW.PrintWords Go.Proofs.YtadfcplobidmeaaDoorW.PrintLast Go.Proofs.YtadfcplobidmeaaDoorW.PrintMore
/-- the hats that are not needed. -/
def dB (l : List Int) : Nat := sd (full l) (needB l)
/-- the needed hats that go with one of them. -/
def aP (l : List Int) : Nat → Bool := fun i => needP l i && !decide (row l i &&& dB l = 0)
def aB (l : List Int) : Nat := setB l.length (aP l)
theorem needB_at (l : List Int) (i : Nat) : (needB l).testBit i = (decide (i < l.length) && needP l i) := setB_bit l.length (needP l) i
theorem dB_at (l : List Int) (i : Nat) : (dB l).testBit i = (decide (i < l.length) && !needP l i) := by
  unfold dB
  rw [sd_bit, full_bit, needB_at]
  cases decide (i < l.length) <;> cases needP l i <;> rfl
theorem aB_lt (l : List Int) : aB l < 2 ^ l.length := by
  have := setF_lt (aP l) l.length 0 0 (by decide)
  rw [Nat.zero_add] at this
  exact this
theorem meets {x y : Nat} (h : ¬ x &&& y = 0) : ∃ i, x.testBit i = true ∧ y.testBit i = true := by
  refine Classical.byContradiction fun hno => h (bits_eq fun i => ?_)
  rw [Nat.testBit_and, Nat.zero_testBit]
  cases a : x.testBit i
  · rfl
  · cases b : y.testBit i
    · rfl
    · exact absurd ⟨i, a, b⟩ hno
theorem meets' {x y i : Nat} (h1 : x.testBit i = true) (h2 : y.testBit i = true) : ¬ x &&& y = 0 := fun h => by
  have := congrArg (fun z => z.testBit i) h
  simp only [Nat.testBit_and, h1, h2, Nat.zero_testBit] at this
  exact absurd this (by decide)
theorem edm {l : List Int} (hS : Shop l) : 2 * nu l (full l) + oddV l (aB l) = l.length + sz (aB l) ∧
    ∀ C ∈ partsV l (aB l), ((∃ i, C.testBit i = true ∧ (dB l).testBit i = true) → Sub C (dB l) ∧ sz C % 2 = 1) ∧ ((¬ ∃ i, C.testBit i = true ∧ (dB l).testBit i = true) → sz C % 2 = 0) := by
  refine edmonds hS (aB_lt l) (fun v hv => ?_) (fun v hv => ?_) (partsV_spec hS)
  · rw [dB_at, decide_eq_true hv, Bool.true_and]
    unfold needP
    by_cases c : nu l (sd (full l) (2 ^ v)) < nu l (full l)
    · rw [decide_eq_true c]
      constructor
      · intro h; exact absurd h (by decide)
      · intro h; omega
    · rw [decide_eq_false c]
      exact ⟨fun _ => by omega, fun _ => rfl⟩
  · have e : (aB l).testBit v = (decide (v < l.length) && aP l v) := setB_bit _ _ _
    rw [e, decide_eq_true hv, Bool.true_and, dB_at, decide_eq_true hv, Bool.true_and]
    unfold aP
    constructor
    · intro h
      rw [Bool.and_eq_true, Bool.not_eq_true', decide_eq_false_iff_not] at h
      obtain ⟨d, h1, h2⟩ := meets h.2
      refine ⟨by rw [h.1]; rfl, d, ?_, h2, h1⟩
      rw [dB_at, Bool.and_eq_true, decide_eq_true_eq] at h2
      exact h2.1
    · rintro ⟨h1, d, _, h2, h3⟩
      have h4 : needP l v = true := by simpa using h1
      rw [h4, decide_eq_false (meets' (show (row l v).testBit d = true from h3) h2)]
      rfl
theorem bar_value {l : List Int} (hS : Shop l) : (barV l).2 = (l.length : Int) - 2 * (nu l (full l) : Int) ∧ (barV l).1 < 2 ^ l.length ∧ dif l (barV l).1 = (barV l).2 ∧ ∀ t, t < 2 ^ l.length → dif l t ≤ (barV l).2 := by
  have h0 := Nat.two_pow_pos l.length
  obtain ⟨h1, h2, h3, h4⟩ := bar_spec l (2 ^ l.length) 0 (0, dif l 0) rfl
  have hlt : (barV l).1 < 2 ^ l.length := by
    unfold barV
    simp only at h4
    omega
  have h5 : ∀ t, t < 2 ^ l.length → dif l t ≤ (barV l).2 := fun t ht => h3 t (Nat.zero_le _) (by omega)
  have e1 := (edm hS).1
  have e2 := h5 (aB l) (aB_lt l)
  have e3 := berge hS hlt (partsV_spec hS)
  have e4 : dif l (barV l).1 = (barV l).2 := h1
  have e5 : ((oddV l (barV l).1 : Nat) : Int) - ((sz (barV l).1 : Nat) : Int) = (barV l).2 := h1
  have e6 : ((oddV l (aB l) : Nat) : Int) - ((sz (aB l) : Nat) : Int) ≤ (barV l).2 := e2
  have e7 : oddS (partsV l (barV l).1) = oddV l (barV l).1 := rfl
  exact ⟨by omega, hlt, e4, h5⟩
theorem chosen_f {l : List Int} (hS : Shop l) {S : Nat} (hs : S < 2 ^ l.length) (k : Nat) (hk : 300 ≤ k) : visits_chosen.f k l (S : Int) = some true := by
  unfold visits_chosen.f
  rw [read_f l k hk, Option.bind_some, (isShop_iff l).2 hS, if_pos rfl, if_pos (by omega), all_f l hS.le, Option.bind_some, decide_eq_true (by omega)]
theorem vOdd_at {l : List Int} (hS : Shop l) {S : Nat} (hs : S < 2 ^ l.length) (k : Nat) (hk : 3100 ≤ k) : visits_Odd.f k l (S : Int) = some (((oddV l S : Nat) : Int), 0) := by
  unfold visits_Odd.f
  rw [chosen_f hS hs k (by omega), Option.bind_some, if_pos rfl, vodd_f hS hs k hk, Option.bind_some]
theorem vParts_at {l : List Int} (hS : Shop l) {S : Nat} (hs : S < 2 ^ l.length) (k : Nat) (hk : 3100 ≤ k) : visits_Parts.f k l (S : Int) = some (partsI l S, 0) := by
  unfold visits_Parts.f
  rw [chosen_f hS hs k (by omega), Option.bind_some, if_pos rfl, vparts_f hS hs k hk, Option.bind_some]
end Go.Proofs.YtadfcplobidmeaaDoor.Pure
