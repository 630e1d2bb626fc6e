/- VisitsOne: without a needed hat a largest matching has one pair less. -/
import Derived.Test.YtadfcplobidmeaaDoorVWith
import Derived.Test.YtadfcplobidmeaaDoorVLargeF
import Derived.Test.YtadfcplobidmeaaDoorVHat
import Derived.Test.YtadfcplobidmeaaDoorPrintx17
namespace Go.Proofs.YtadfcplobidmeaaDoor.Pure
open Go.RowKit Go.Proofs.YtadfcplobidmeaaDoor.Print Go.Proofs.YtadfcplobidmeaaDoorW.PrintWords Go.Proofs.YtadfcplobidmeaaDoorW.PrintLast Go.Proofs.YtadfcplobidmeaaDoorW.PrintMore
theorem needB_bit (l : List Int) (i : Nat) : (needB l).testBit i = (decide (i < l.length) && needP l i) := by
  unfold needB
  rw [setF_bit, Nat.zero_testBit, Nat.zero_add]
  simp
theorem needB_lt (l : List Int) : needB l < 2 ^ l.length := by
  have := setF_lt (needP l) l.length 0 0 (by decide)
  rw [Nat.zero_add] at this
  exact this
theorem without_one {l : List Int} (hS : Shop l) {i : Nat} (h2 : 2 ≤ l.length) : (∃ j, j < l.length ∧ (2 ^ i).testBit j = false) ∧ nu (small l (2 ^ i)) (full (small l (2 ^ i))) = nu l (sd (full l) (2 ^ i)) := by
  have hex : ∃ j, j < l.length ∧ (2 ^ i).testBit j = false := by
    by_cases c : i = 0
    · exact ⟨1, by omega, by rw [pow_bit]; exact decide_eq_false (by omega)⟩
    · exact ⟨0, by omega, by rw [pow_bit]; exact decide_eq_false (by omega)⟩
  refine ⟨hex, small_nu hS hex (Nat.lt_of_le_of_lt (sd_le _ _) (full_lt l)) (full_lt _) (fun j hj => ?_) (fun j hj hjs => ?_)⟩
  · rw [sd_bit, Bool.and_eq_true, Bool.not_eq_true'] at hj
    exact hj.2
  · have := rk_lt hjs hj
    rw [full_bit, small_len, decide_eq_true this, sd_bit, full_bit, hjs, decide_eq_true hj]
    rfl
theorem nu_drop1 {l : List Int} (hS : Shop l) {S v : Nat} (h : S < 2 ^ l.length) (hv : S.testBit v = true) : nu l S ≤ nu l (sd S (2 ^ v)) + 1 := by
  rcases nu_any hS h hv with h1 | ⟨k, _, _, h1⟩
  · omega
  · have := nu_mono hS (Nat.lt_of_le_of_lt (sd_le S (2 ^ v ||| 2 ^ k)) h) (Nat.lt_of_le_of_lt (sd_le S (2 ^ v)) h) (fun i hi => by
      rw [sd_bit, two_bit] at hi
      rw [sd_bit, pow_bit]
      simp only [Bool.and_eq_true, Bool.not_eq_true', Bool.or_eq_false_iff] at hi
      simp [hi.1, hi.2.1])
    omega
theorem VisitsOne : clochelaw03_VisitsOne.Pure := by
  intro l a _ _ _ ha
  have hab := u8_range ha
  refine ⟨60001, ?_⟩
  have hj : clochelaw03_VisitsOne.j0 60001 l a true = some true := by
    rw [clochelaw03_VisitsOne.j0, if_pos rfl, alive_f 60000 (by decide), Option.bind_some]
  unfold clochelaw03_VisitsOne.f
  rw [few_f, Option.bind_some]
  by_cases h : (decide (l.length ≤ 40) && decide (([] : List S43).length ≤ 40)) = true
  · rw [if_pos h, IsShop_f l 60001 (by decide), Option.bind_some]
    cases hs : isShop l
    · rw [if_neg (by decide)]; exact hj
    · have hS := (isShop_iff l).1 hs
      have hl := hS.le
      have hp := pow10 hl
      rw [if_pos rfl]
      by_cases h2 : l.length < 2
      · rw [decide_eq_true (by omega)]; exact hj
      · obtain ⟨i, hi, hie⟩ := tmod_hat hab.1 hab.2 (show 1 ≤ l.length by omega)
        obtain ⟨hex, hnu⟩ := without_one hS (i := i) (by omega)
        have hS2 := small_shop hS hex
        have hn := needB_lt l
        have hnl := needB_bit l i
        have h3 := nu_drop1 hS (full_lt l) (v := i) (by rw [full_bit]; exact decide_eq_true hi)
        have h4 := nu_mono hS (Nat.lt_of_le_of_lt (sd_le (full l) (2 ^ i)) (full_lt l)) (full_lt l) (fun j hj => by
          rw [sd_bit, Bool.and_eq_true] at hj
          exact hj.1)
        have h5 := nu_small hS
        rw [decide_eq_false (by omega), clochelaw03_VisitsOne.j0, if_neg (by decide), if_neg (by omega), vNeeded_f l 60000 (by decide), Option.bind_some, vLargest_f l 60000 (by decide), Option.bind_some, hie,
          if_pos (by omega), bShl i (by omega), Without_f hS (2 ^ i) 60000 (by decide), Option.bind_some, vLargest_f _ 60000 (by decide), Option.bind_some, alive_f 60000 (by decide), Option.bind_some]
        unfold firstV needV
        rw [if_pos hs, if_pos hs, if_pos ((isShop_iff _).2 hS2), if_pos rfl, if_pos rfl, if_pos rfl, bitT _ i (by omega), hnl, decide_eq_true hi, Bool.true_and]
        show (if ((first1 (small l (2 ^ i))).length : Int) = wrap64 (((first1 l).length : Int) - _) then _ else _) = _
        rw [first_length hS2, first_length hS, hnu]
        unfold needP
        by_cases c : nu l (sd (full l) (2 ^ i)) < nu l (full l)
        · rw [decide_eq_true c, if_pos]
          rw [show (((true : Bool).toNat : Nat) : Int) = 1 from rfl, w64 (by omega) (by omega)]
          omega
        · rw [decide_eq_false c, if_pos]
          rw [show (((false : Bool).toNat : Nat) : Int) = 0 from rfl, w64 (by omega) (by omega)]
          omega
  · rw [if_neg h]
    exact hj
end Go.Proofs.YtadfcplobidmeaaDoor.Pure
