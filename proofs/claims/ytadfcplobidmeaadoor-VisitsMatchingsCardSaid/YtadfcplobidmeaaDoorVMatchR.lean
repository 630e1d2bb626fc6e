/- The visits' plain laws: isMatching of the specification. -/
import Derived.Test.YtadfcplobidmeaaDoorVMatch
import Derived.Test.YtadfcplobidmeaaDoorPrintx32
namespace Go.Proofs.YtadfcplobidmeaaDoor.Pure
open Go.RowKit Go.Proofs.YtadfcplobidmeaaDoor.Print Go.Proofs.YtadfcplobidmeaaDoorW.PrintWords Go.Proofs.YtadfcplobidmeaaDoorW.PrintLast Go.Proofs.YtadfcplobidmeaaDoorW.PrintMore
theorem rmat_l0 {l : List Int} (hS : Shop l) (p : List S43) (hp : p.length ≤ 1000) : ∀ (m i k used : Nat), i + m = p.length → m + 1 ≤ k → used < 2 ^ l.length →
    clocheref03_isMatching.l0 k l p (used : Int) (i : Int) = some (mtB l (p.drop i) used (prevOf p i))
  | 0, i, k, used, hi, hk, hu => by
    obtain ⟨k, rfl, _⟩ := succK (show 0 < k by omega)
    simp only [clocheref03_isMatching.l0]
    rw [if_neg (by omega), List.drop_eq_nil_of_le (by omega)]
    rfl
  | m + 1, i, k, used, hi, hk, hu => by
    obtain ⟨k, rfl, _⟩ := succK (show 0 < k by omega)
    have hl := hS.le
    have hp10 := pow10 hl
    simp only [clocheref03_isMatching.l0]
    rw [if_pos (by omega), if_pos (by omega), drop_getT (by omega), rdT]
    have hrec := fun u hu2 => rmat_l0 hS p hp m (i + 1) k u (by omega) (by omega) hu2
    rw [prev_next] at hrec
    generalize hx : p.getD i z43 = x at hrec ⊢
    by_cases hok : pairOk l used x = true
    · obtain ⟨a, b, e1, e2, h1, h2, h3, h4, h5⟩ := pairOk_at hok
      have ha10 : 2 ^ a < 2 ^ 10 := Nat.pow_lt_pow_right (by decide) (by omega)
      have hb10 : 2 ^ b < 2 ^ 10 := Nat.pow_lt_pow_right (by decide) (by omega)
      have hU := used_lt hu hok
      have hor1 := or_lt hu (show a < l.length by omega)
      have eU : Go.bits .or .i64 (Go.bits .or .i64 (used : Int) (shl .i64 1 x.f0)) (shl .i64 1 x.f1) = ((usedOf used x : Nat) : Int) := by
        unfold usedOf
        rw [e1, e2, bShl a (by omega), bShl b (by omega), bOr _ _ (by omega) (by omega), bOr _ _ (by omega) (by omega), Int.toNat_natCast, Int.toNat_natCast]
      have hr := hrec (usedOf used x) hU
      have hadj : Int.tmod (shr .i64 (rd l x.f0) x.f1) 2 = 1 := by
        rw [e1, e2, rdn, hS.row (by omega), bitT _ _ (by omega)]
        have : (row l a).testBit b = true := h3
        rw [this]
        rfl
      have hua : Int.tmod (shr .i64 (used : Int) x.f0) 2 = 0 := by
        rw [e1, bitT _ _ (by omega), h4]
        rfl
      have hub : Int.tmod (shr .i64 (used : Int) x.f1) 2 = 0 := by
        rw [e2, bitT _ _ (by omega), h5]
        rfl
      rw [if_neg (by omega), if_neg (by omega), if_neg (by omega), if_pos (by omega), if_pos (by omega), if_pos (by omega), hadj, if_neg (by decide), hua, if_neg (by decide), hub, if_neg (by decide), eU, inc64 i (by omega), hr]
      simp only [mtB, hok, Bool.true_and]
      by_cases hi0 : i = 0
      · subst hi0
        rw [if_neg (by decide)]
        simp only [prevOf, if_true, Bool.true_and]
      · have epr : prevOf p i = some (p.getD (i - 1) z43).f0 := by unfold prevOf; rw [if_neg hi0]
        have ew : wrap64 ((i : Int) - 1) = ((i - 1 : Nat) : Int) := by rw [w64 (by omega) (by omega)]; omega
        rw [if_pos (by omega), ew, if_pos (by omega), if_pos (by omega), rdT, epr]
        generalize (p.getD (i - 1) z43).f0 = q
        by_cases hlt : q ≥ x.f0
        · rw [if_pos hlt]
          simp only [decide_eq_false (show ¬ q < x.f0 by omega), Bool.false_and]
        · rw [if_neg hlt]
          simp only [decide_eq_true (show q < x.f0 by omega), Bool.true_and]
    · have hF : mtB l (x :: p.drop (i + 1)) used (prevOf p i) = false := by
        simp only [mtB, Bool.eq_false_iff.2 hok, Bool.false_and]
      rw [hF]
      by_cases c1 : x.f0 < 0
      · rw [if_pos c1]
      rw [if_neg c1]
      by_cases c2 : x.f0 ≥ x.f1
      · rw [if_pos c2]
      rw [if_neg c2]
      by_cases c3 : x.f1 ≥ (l.length : Int)
      · rw [if_pos c3]
      rw [if_neg c3, if_pos (by omega), if_pos (by omega), if_pos (by omega)]
      obtain ⟨a, e1⟩ : ∃ a : Nat, x.f0 = a := ⟨x.f0.toNat, by omega⟩
      obtain ⟨b, e2⟩ : ∃ b : Nat, x.f1 = b := ⟨x.f1.toNat, by omega⟩
      rw [e1, e2, rdn, hS.row (by omega), bitT _ _ (by omega), bitT _ _ (by omega), bitT _ _ (by omega)]
      by_cases c4 : (row l a).testBit b = true
      · rw [c4, if_neg (by decide)]
        by_cases c5 : used.testBit a = true
        · rw [c5, if_pos (by decide)]
        · rw [Bool.eq_false_iff.2 c5, if_neg (by decide)]
          by_cases c6 : used.testBit b = true
          · rw [c6, if_pos (by decide)]
          · exfalso
            apply hok
            unfold pairOk adj
            rw [e1, e2, Int.toNat_natCast, Int.toNat_natCast, c4, Bool.eq_false_iff.2 c5, Bool.eq_false_iff.2 c6, decide_eq_true (show (0 : Int) ≤ a by omega), decide_eq_true (show (a : Int) < b by omega), decide_eq_true (show (b : Int) < l.length by omega)]
            rfl
      · rw [Bool.eq_false_iff.2 c4, if_pos (by decide)]
theorem rmat_f {l : List Int} (hS : Shop l) (p : List S43) (hp : p.length ≤ 1000) (k : Nat) (hk : 1100 ≤ k) : clocheref03_isMatching.f k l p = some (isMat l p) := by
  unfold clocheref03_isMatching.f
  exact rmat_l0 hS p hp p.length 0 k 0 (by omega) (by omega) (Nat.two_pow_pos _)
end Go.Proofs.YtadfcplobidmeaaDoor.Pure
