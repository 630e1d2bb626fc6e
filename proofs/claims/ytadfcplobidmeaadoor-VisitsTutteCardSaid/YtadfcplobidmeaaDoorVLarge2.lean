/- The visits' plain laws: the pairs that are found one by one are a largest matching. -/
import Derived.Test.YtadfcplobidmeaaDoorVLarge
namespace Go.Proofs.YtadfcplobidmeaaDoor.Pure
open Go.RowKit Go.Proofs.YtadfcplobidmeaaDoor.Print Go.Proofs.YtadfcplobidmeaaDoorW.PrintWords Go.Proofs.YtadfcplobidmeaaDoorW.PrintLast Go.Proofs.YtadfcplobidmeaaDoorW.PrintMore
/-- no pair may be next whose first hat lies below a. -/
def NoOk (l : List Int) (L a : Nat) : Prop := ∀ a' b', a' < a → a' < b' → okP l L a' b' = false
theorem okP_at {l : List Int} {L a b : Nat} (h : okP l L a b = true) : L.testBit a = true ∧ adj l a b = true ∧ L.testBit b = true ∧ nu l (rest L a b) + 1 = nu l L := by
  unfold okP at h
  simp only [Bool.and_eq_true, decide_eq_true_eq] at h
  exact ⟨h.1.1, h.1.2.1, h.1.2.2, h.2⟩
theorem noOk_rest (l : List Int) (L a b : Nat) : NoOk l (rest L a b) (a + 1) := fun a' b' h1 h2 => by
  refine Bool.eq_false_iff.2 fun h => ?_
  have := (okP_at h).1
  rw [rest_bit, decide_eq_true h1] at this
  simp at this
theorem noOk_next {l : List Int} {L a m : Nat} (hL : L < 2 ^ l.length) (hm : a + (m + 1) = l.length) (h : NoOk l L a) (hn : rowF l L a (a + 1) m = none) : NoOk l L (a + 1) := fun a' b' h1 h2 => by
  by_cases e : a' < a
  · exact h a' b' e h2
  · obtain rfl : a' = a := by omega
    by_cases e2 : b' < l.length
    · exact rowF_none l L a' m (a' + 1) hn b' (by omega) (by omega)
    · refine Bool.eq_false_iff.2 fun h => e2 (bit_lt hL (okP_at h).2.2.1)
theorem scan_length {l : List Int} (hS : Shop l) : ∀ m L a, L < 2 ^ l.length → a + m = l.length → NoOk l L a → (scan l L a m).length = nu l L
  | 0, L, a, hL, ha, hN => by
    simp only [scan, List.length_nil]
    rcases Nat.eq_zero_or_pos (nu l L) with h | h
    · exact h.symm
    · obtain ⟨x, y, h1, h2⟩ := ok_exists hS L hL h
      have := bit_lt hL (okP_at h2).1
      rw [hN x y (by omega) h1] at h2
      exact absurd h2 (by decide)
  | m + 1, L, a, hL, ha, hN => by
    simp only [scan]
    cases hr : rowF l L a (a + 1) m with
    | none => exact scan_length hS m L (a + 1) hL (by omega) (noOk_next hL ha hN hr)
    | some b =>
      obtain ⟨h1, h2, h3⟩ := rowF_some l L a m (a + 1) b hr
      have hl := rest_le L a b
      simp only [List.length_cons]
      rw [scan_length hS m (rest L a b) (a + 1) (by omega) (by omega) (noOk_rest l L a b)]
      exact (okP_at h3).2.2.2
theorem scan_from {l : List Int} {L : Nat} (hL : L < 2 ^ l.length) : ∀ d a m, a + (d + m) = l.length → NoOk l L (a + d) → scan l L a (d + m) = scan l L (a + d) m
  | 0, a, m, _, _ => by rw [Nat.zero_add]; rfl
  | d + 1, a, m, ha, hN => by
    rw [show d + 1 + m = (d + m) + 1 by omega]
    simp only [scan]
    cases hr : rowF l L a (a + 1) (d + m) with
    | none =>
      simp only []
      rw [scan_from hL d (a + 1) m (by omega) (by rw [show a + 1 + d = a + (d + 1) by omega]; exact hN), show a + 1 + d = a + (d + 1) by omega]
    | some b =>
      obtain ⟨h1, h2, h3⟩ := rowF_some l L a (d + m) (a + 1) b hr
      rw [hN a b (by omega) (by omega)] at h3
      exact absurd h3 (by decide)
theorem scan_mat {l : List Int} (hS : Shop l) : ∀ m L a used prev, L < 2 ^ l.length → a + m = l.length → (∀ i, L.testBit i = true → used.testBit i = false) → (∀ q, prev = some q → q < (a : Int)) → mtB l (scan l L a m) used prev = true
  | 0, L, a, used, prev, hL, ha, hd, hp => rfl
  | m + 1, L, a, used, prev, hL, ha, hd, hp => by
    simp only [scan]
    cases hr : rowF l L a (a + 1) m with
    | none => exact scan_mat hS m L (a + 1) used prev hL (by omega) hd (fun q hq => by have := hp q hq; omega)
    | some b =>
      obtain ⟨h1, h2, h3⟩ := rowF_some l L a m (a + 1) b hr
      obtain ⟨k1, k2, k3, k4⟩ := okP_at h3
      have hl := rest_le L a b
      have hbl := bit_lt hL k3
      have hrec := scan_mat hS m (rest L a b) (a + 1) (usedOf used ⟨(a : Int), (b : Int)⟩) (some (a : Int)) (by omega) (by omega) (fun i hi => by
        rw [rest_bit] at hi
        simp only [Bool.and_eq_true, Bool.not_eq_true', decide_eq_false_iff_not] at hi
        obtain ⟨⟨i1, i2⟩, i3⟩ := hi
        unfold usedOf
        rw [or_bit, or_bit, hd i i1, Int.toNat_natCast, Int.toNat_natCast, decide_eq_false i3, decide_eq_false (show ¬ a = i by omega)]
        rfl) (fun q hq => by obtain rfl := Option.some.inj hq; omega)
      simp only [mtB]
      rw [hrec, Bool.and_true]
      have hok : pairOk l used ⟨(a : Int), (b : Int)⟩ = true := by
        unfold pairOk
        rw [Int.toNat_natCast, Int.toNat_natCast, k2, hd a k1, hd b k3, decide_eq_true (show (0 : Int) ≤ a by omega), decide_eq_true (show (a : Int) < b by omega), decide_eq_true (show (b : Int) < l.length by omega)]
        rfl
      rw [hok, Bool.true_and]
      cases prev with
      | none => rfl
      | some q => exact decide_eq_true (hp q rfl)
/-- the first largest matching. -/
def first1 (l : List Int) : List S43 := scan l (full l) 0 l.length
theorem first_length {l : List Int} (hS : Shop l) : (first1 l).length = nu l (full l) := scan_length hS _ _ 0 (full_lt l) (by omega) (fun a' b' h _ => by omega)
theorem first_mat {l : List Int} (hS : Shop l) : isMat l (first1 l) = true := scan_mat hS _ _ 0 0 none (full_lt l) (by omega) (fun i _ => Nat.zero_testBit i) (fun q hq => by cases hq)
end Go.Proofs.YtadfcplobidmeaaDoor.Pure
