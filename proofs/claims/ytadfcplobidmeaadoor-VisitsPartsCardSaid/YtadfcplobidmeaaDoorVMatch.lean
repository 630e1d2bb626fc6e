/- The visits' plain laws: isMatching of the program and of the specification. -/
import Derived.Test.YtadfcplobidmeaaDoorVGame
import Derived.Test.YtadfcplobidmeaaDoorPrintx21
import Derived.Test.YtadfcplobidmeaaDoorPrintx2
namespace Go.Proofs.YtadfcplobidmeaaDoor.Pure
open Go.RowKit Go.Proofs.YtadfcplobidmeaaDoor.Print Go.Proofs.YtadfcplobidmeaaDoorW.PrintWords Go.Proofs.YtadfcplobidmeaaDoorW.PrintLast Go.Proofs.YtadfcplobidmeaaDoorW.PrintMore
theorem few_f (l : List Int) (p : List S43) : clochelaw03_few.f l p = some (decide (l.length ≤ 40) && decide (p.length ≤ 40)) := by
  unfold clochelaw03_few.f
  by_cases h : l.length ≤ 40
  · rw [if_pos (by omega), decide_eq_true h, Bool.true_and]
    congr 2
    exact propext ⟨fun h => by omega, fun h => by omega⟩
  · rw [if_neg (by omega), decide_eq_false h, Bool.false_and]
theorem rdT (p : List S43) (i : Nat) : rd_T43 p (i : Int) = p.getD i z43 := by
  unfold rd_T43
  rw [Int.toNat_natCast]
/-- may the pair stand next, if the hats of a set are used? -/
def pairOk (l : List Int) (used : Nat) (x : S43) : Bool :=
  decide (0 ≤ x.f0) && decide (x.f0 < x.f1) && decide (x.f1 < (l.length : Int)) && adj l x.f0.toNat x.f1.toNat && !used.testBit x.f0.toNat && !used.testBit x.f1.toNat
def usedOf (used : Nat) (x : S43) : Nat := used ||| 2 ^ x.f0.toNat ||| 2 ^ x.f1.toNat
def mtB (l : List Int) : List S43 → Nat → Option Int → Bool
  | [], _, _ => true
  | x :: t, used, prev => pairOk l used x && (match prev with | none => true | some a => decide (a < x.f0)) && mtB l t (usedOf used x) (some x.f0)
/-- a matching of the shop? -/
def isMat (l : List Int) (p : List S43) : Bool := mtB l p 0 none
theorem pairOk_at {l : List Int} {used : Nat} {x : S43} (h : pairOk l used x = true) : ∃ a b : Nat, x.f0 = a ∧ x.f1 = b ∧ a < b ∧ b < l.length ∧ adj l a b = true ∧ used.testBit a = false ∧ used.testBit b = false := by
  unfold pairOk at h
  simp only [Bool.and_eq_true, decide_eq_true_eq, Bool.not_eq_true'] at h
  obtain ⟨⟨⟨⟨⟨h1, h2⟩, h3⟩, h4⟩, h5⟩, h6⟩ := h
  exact ⟨x.f0.toNat, x.f1.toNat, by omega, by omega, by omega, by omega, h4, h5, h6⟩
def prevOf (p : List S43) (i : Nat) : Option Int := if i = 0 then none else some (p.getD (i - 1) z43).f0
theorem drop_getT {p : List S43} {i : Nat} (h : i < p.length) : p.drop i = p.getD i z43 :: p.drop (i + 1) := by
  rw [List.drop_eq_getElem_cons h, List.getD_eq_getElem?_getD, List.getElem?_eq_getElem h]
  rfl
theorem used_lt {l : List Int} {used : Nat} {x : S43} (hu : used < 2 ^ l.length) (h : pairOk l used x = true) : usedOf used x < 2 ^ l.length := by
  obtain ⟨a, b, e1, e2, h1, h2, _⟩ := pairOk_at h
  unfold usedOf
  rw [e1, e2, Int.toNat_natCast, Int.toNat_natCast]
  exact or_lt (or_lt hu (by omega)) h2
theorem prev_next (p : List S43) (i : Nat) : prevOf p (i + 1) = some (p.getD i z43).f0 := rfl
theorem vmat_l0 {l : List Int} (hS : Shop l) (p : List S43) (hp : p.length ≤ 1000) : ∀ (m i k used : Nat), i + m = p.length → m + 1 ≤ k → used < 2 ^ l.length → (∀ a, prevOf p i = some a → used.testBit a.toNat = true ∧ 0 ≤ a) →
    visits_shop_isMatching.l0 k l p (used : Int) p (p.length : Int) (i : Int) = some (mtB l (p.drop i) used (prevOf p i))
  | 0, i, k, used, hi, hk, hu, hpr => by
    obtain ⟨k, rfl, _⟩ := succK (show 0 < k by omega)
    simp only [visits_shop_isMatching.l0]
    rw [if_neg (by omega), List.drop_eq_nil_of_le (by omega)]
    rfl
  | m + 1, i, k, used, hi, hk, hu, hpr => by
    obtain ⟨k, rfl, _⟩ := succK (show 0 < k by omega)
    have hl := hS.le
    have hp10 := pow10 hl
    simp only [visits_shop_isMatching.l0]
    rw [if_pos (by omega), if_pos (by omega), if_pos (by omega), drop_getT (by omega), rdT]
    have hrec := fun u hu2 hpr2 => vmat_l0 hS p hp m (i + 1) k u (by omega) (by omega) hu2 hpr2
    rw [prev_next] at hrec
    generalize hx : p.getD i z43 = x at hrec ⊢
    by_cases hok : pairOk l used x = true
    · obtain ⟨a, b, e1, e2, h1, h2, h3, h4, h5⟩ := pairOk_at hok
      have ha10 : 2 ^ a < 2 ^ 10 := Nat.pow_lt_pow_right (by decide) (by omega)
      have hb10 : 2 ^ b < 2 ^ 10 := Nat.pow_lt_pow_right (by decide) (by omega)
      have hor := Nat.or_lt_two_pow ha10 hb10
      have hU := used_lt hu hok
      have eU : Go.bits .or .i64 (used : Int) (Go.bits .or .i64 (shl .i64 1 x.f0) (shl .i64 1 x.f1)) = ((usedOf used x : Nat) : Int) := by
        unfold usedOf
        rw [e1, e2, bShl a (by omega), bShl b (by omega), bOr _ _ (by omega) (by omega), bOr _ _ (by omega) (by omega), Int.toNat_natCast, Int.toNat_natCast, Nat.or_assoc]
      have hbit : (usedOf used x).testBit x.f0.toNat = true := by
        unfold usedOf
        rw [Nat.testBit_or, or_bit]
        simp
      have hr := hrec (usedOf used x) hU (fun c hc => by
        obtain rfl : x.f0 = c := Option.some.inj hc
        exact ⟨hbit, by omega⟩)
      have hadj : Go.bits .and .i64 (shr .i64 (rd l x.f0) x.f1) 1 = 1 := by
        have hrl := hS.row_lt (show a < l.length by omega)
        rw [e1, e2, rdn, hS.row (by omega), bitA _ _ (by omega) (by omega)]
        have : (row l a).testBit b = true := h3
        rw [this]
        rfl
      have hua : Go.bits .and .i64 (shr .i64 (used : Int) x.f0) 1 = 0 := by
        rw [e1, bitA _ _ (by omega) (by omega), h4]
        rfl
      have hub : Go.bits .and .i64 (shr .i64 (used : Int) x.f1) 1 = 0 := by
        rw [e2, bitA _ _ (by omega) (by omega), h5]
        rfl
      rw [if_neg (by omega), if_neg (by omega), if_neg (by omega), if_pos (by omega), if_pos (by omega), if_pos (by omega), hadj, if_neg (by decide), hua, if_neg (by decide), hub, if_neg (by decide), eU, inc64 i (by omega), hr]
      simp only [mtB, hok, Bool.true_and]
      by_cases hi0 : i = 0
      · subst hi0
        rw [if_neg (by decide)]
        simp only [prevOf, if_true, Bool.true_and]
      · have epr : prevOf p i = some (p.getD (i - 1) z43).f0 := by unfold prevOf; rw [if_neg hi0]
        obtain ⟨g1, g2⟩ := hpr _ epr
        have ew : wrap64 ((i : Int) - 1) = ((i - 1 : Nat) : Int) := by rw [w64 (by omega) (by omega)]; omega
        rw [if_pos (by omega), ew, if_pos (by omega), if_pos (by omega), rdT, epr]
        generalize (p.getD (i - 1) z43).f0 = q at g1 g2 ⊢
        have hne : q ≠ x.f0 := fun e => by
          rw [e, e1, Int.toNat_natCast, h4] at g1
          exact absurd g1 (by decide)
        by_cases hlt : x.f0 < q
        · rw [if_pos hlt]
          simp only [decide_eq_false (show ¬ q < x.f0 by omega), Bool.false_and]
        · rw [if_neg hlt]
          simp only [decide_eq_true (show q < x.f0 by omega), Bool.true_and]
    · have hF : mtB l (x :: p.drop (i + 1)) used (prevOf p i) = false := by
        simp only [mtB, Bool.eq_false_iff.2 hok, Bool.false_and]
      rw [hF]
      by_cases c1 : x.f0 < 0
      · rw [if_pos c1]
      rw [if_neg c1]
      by_cases c2 : x.f0 ≥ x.f1
      · rw [if_pos c2]
      rw [if_neg c2]
      by_cases c3 : x.f1 ≥ (l.length : Int)
      · rw [if_pos c3]
      rw [if_neg c3, if_pos (by omega), if_pos (by omega), if_pos (by omega)]
      obtain ⟨a, e1⟩ : ∃ a : Nat, x.f0 = a := ⟨x.f0.toNat, by omega⟩
      obtain ⟨b, e2⟩ : ∃ b : Nat, x.f1 = b := ⟨x.f1.toNat, by omega⟩
      have hrl := hS.row_lt (show a < l.length by omega)
      rw [e1, e2, rdn, hS.row (by omega), bitA _ _ (by omega) (by omega), bitA _ _ (by omega) (by omega), bitA _ _ (by omega) (by omega)]
      by_cases c4 : (row l a).testBit b = true
      · rw [c4, if_neg (by decide)]
        by_cases c5 : used.testBit a = true
        · rw [c5, if_pos (by decide)]
        · rw [Bool.eq_false_iff.2 c5, if_neg (by decide)]
          by_cases c6 : used.testBit b = true
          · rw [c6, if_pos (by decide)]
          · exfalso
            apply hok
            unfold pairOk adj
            rw [e1, e2, Int.toNat_natCast, Int.toNat_natCast, c4, Bool.eq_false_iff.2 c5, Bool.eq_false_iff.2 c6, decide_eq_true (show (0 : Int) ≤ a by omega), decide_eq_true (show (a : Int) < b by omega), decide_eq_true (show (b : Int) < l.length by omega)]
            rfl
      · rw [Bool.eq_false_iff.2 c4, if_pos (by decide)]
theorem vmat_f {l : List Int} (hS : Shop l) (p : List S43) (hp : p.length ≤ 1000) (k : Nat) (hk : 1100 ≤ k) : visits_shop_isMatching.f k l p = some (isMat l p) := by
  unfold visits_shop_isMatching.f
  exact vmat_l0 hS p hp p.length 0 k 0 (by omega) (by omega) (Nat.two_pow_pos _) (fun a h => by cases h)
end Go.Proofs.YtadfcplobidmeaaDoor.Pure
