/- The visits' plain laws: sets of hats that are matched two by two, and how two of them are changed for each other. -/
import Derived.Test.YtadfcplobidmeaaDoorVGameNu
namespace Go.Proofs.YtadfcplobidmeaaDoor.Pure
open Go.RowKit Go.Proofs.YtadfcplobidmeaaDoor.Print Go.Proofs.YtadfcplobidmeaaDoorW.PrintWords Go.Proofs.YtadfcplobidmeaaDoorW.PrintLast Go.Proofs.YtadfcplobidmeaaDoorW.PrintMore
/-- how many of the first n hats the set has. -/
def szN (X : Nat) : Nat → Nat
  | 0 => 0
  | n + 1 => szN X n + (X.testBit n).toNat
theorem szN_sum {X Y Z : Nat} : ∀ n, (∀ i, i < n → (Z.testBit i).toNat = (X.testBit i).toNat + (Y.testBit i).toNat) → szN Z n = szN X n + szN Y n
  | 0, _ => rfl
  | n + 1, h => by
    have h1 := szN_sum n (fun i hi => h i (by omega))
    have h2 := h n (by omega)
    simp only [szN]
    omega
theorem szN_congr {X Y : Nat} : ∀ n, (∀ i, i < n → X.testBit i = Y.testBit i) → szN X n = szN Y n
  | 0, _ => rfl
  | n + 1, h => by
    simp only [szN]
    rw [szN_congr n (fun i hi => h i (by omega)), h n (by omega)]
theorem szN_one (a : Nat) : ∀ n, szN (2 ^ a) n = if a < n then 1 else 0
  | 0 => rfl
  | n + 1 => by
    simp only [szN]
    rw [szN_one a n, pow_bit]
    by_cases h : a = n
    · rw [decide_eq_true h, if_neg (by omega), if_pos (by omega)]; rfl
    · rw [decide_eq_false h]
      by_cases h2 : a < n
      · rw [if_pos h2, if_pos (by omega)]; rfl
      · rw [if_neg h2, if_neg (by omega)]; rfl
theorem szN_zero (n : Nat) : szN 0 n = 0 := by
  induction n with
  | zero => rfl
  | succ n ih => simp only [szN, ih, Nat.zero_testBit]; rfl
theorem szN_mono {X Y : Nat} : ∀ n, (∀ i, X.testBit i = true → Y.testBit i = true) → szN X n ≤ szN Y n
  | 0, _ => Nat.le_refl _
  | n + 1, h => by
    have h1 := szN_mono n h
    have h2 := h n
    simp only [szN]
    cases hx : X.testBit n
    · simp only [Bool.toNat_false]; omega
    · rw [h2 hx]; omega
/-- how many hats the set has. -/
def sz (X : Nat) : Nat := szN X 10
theorem sz_or {X a : Nat} (ha : a < 10) (h : X.testBit a = false) : sz (X ||| 2 ^ a) = sz X + 1 := by
  unfold sz
  rw [szN_sum (X := X) (Y := 2 ^ a) (Z := X ||| 2 ^ a) 10 (fun i _ => ?_), szN_one, if_pos ha]
  rw [or_bit, pow_bit]
  by_cases e : a = i
  · subst e; rw [h]; simp
  · rw [decide_eq_false e]; simp
theorem sz_two {X a b : Nat} (ha : a < 10) (hb : b < 10) (hab : a ≠ b) (h : X.testBit a = false) (h2 : X.testBit b = false) : sz (X ||| (2 ^ a ||| 2 ^ b)) = sz X + 2 := by
  rw [← Nat.or_assoc, sz_or hb, sz_or ha h]
  rw [or_bit, h2, decide_eq_false hab]; rfl
theorem sz_split {X Y Z : Nat} (h : ∀ i, (Z.testBit i).toNat = (X.testBit i).toNat + (Y.testBit i).toNat) : sz Z = sz X + sz Y := szN_sum 10 fun i _ => h i
theorem sz_mono {X Y : Nat} (h : ∀ i, X.testBit i = true → Y.testBit i = true) : sz X ≤ sz Y := szN_mono 10 h
theorem sz_full {l : List Int} (h : l.length ≤ 10) : sz (full l) = l.length := by
  have : ∀ n, szN (full l) n = min n l.length := by
    intro n
    induction n with
    | zero => simp [szN]
    | succ n ih =>
      simp only [szN, ih, full_bit]
      by_cases h : n < l.length
      · rw [decide_eq_true h]; simp only [Bool.toNat_true]; omega
      · rw [decide_eq_false h]; simp only [Bool.toNat_false]; omega
  unfold sz
  rw [this]
  omega
theorem or_two_bit (X a b i : Nat) : (X ||| (2 ^ a ||| 2 ^ b)).testBit i = (X.testBit i || (decide (a = i) || decide (b = i))) := by
  rw [Nat.testBit_or, two_bit]
theorem sd_two_bit (X a b i : Nat) : (sd X (2 ^ a ||| 2 ^ b)).testBit i = (X.testBit i && !(decide (a = i) || decide (b = i))) := by
  rw [sd_bit, two_bit]
/-- the hats of the set go with each other two by two. -/
inductive PM (l : List Int) : Nat → Prop
  | nil : PM l 0
  | cons (X a b : Nat) : a < l.length → b < l.length → X.testBit a = false → X.testBit b = false → adj l a b = true → PM l X → PM l (X ||| (2 ^ a ||| 2 ^ b))
theorem PM.ext {l : List Int} {X Y : Nat} (h : PM l X) (e : ∀ i, X.testBit i = Y.testBit i) : PM l Y := by
  have : X = Y := bits_eq e
  exact this ▸ h
theorem PM.lt {l : List Int} {X : Nat} (h : PM l X) : X < 2 ^ l.length := by
  induction h with
  | nil => exact Nat.two_pow_pos _
  | cons X a b ha hb h1 h2 hab h ih => rw [← Nat.or_assoc]; exact or_lt (or_lt ih ha) hb
theorem adj_ne {l : List Int} (hS : Shop l) {a b : Nat} (ha : a < l.length) (hab : adj l a b = true) : a ≠ b := fun e => by
  rw [← e, hS.irr ha] at hab
  exact absurd hab (by decide)
theorem PM.take {l : List Int} (hS : Shop l) {X : Nat} (h : PM l X) : ∀ {u : Nat}, X.testBit u = true → ∃ v, X.testBit v = true ∧ adj l u v = true ∧ u < l.length ∧ v < l.length ∧ PM l (sd X (2 ^ u ||| 2 ^ v)) := by
  induction h with
  | nil => intro u hu; rw [Nat.zero_testBit] at hu; exact absurd hu (by decide)
  | cons X a b ha hb h1 h2 hab h ih =>
    intro u hu
    have hne := adj_ne hS ha hab
    by_cases e1 : a = u
    · subst e1
      refine ⟨b, by rw [or_two_bit]; simp, hab, ha, hb, h.ext fun i => ?_⟩
      rw [sd_two_bit, or_two_bit]
      by_cases c1 : a = i
      · subst c1; rw [h1]; simp
      · by_cases c2 : b = i
        · subst c2; rw [h2]; simp
        · simp [c1, c2]
    by_cases e2 : b = u
    · subst e2
      refine ⟨a, by rw [or_two_bit]; simp, by rw [hS.sym _ _ hb ha]; exact hab, hb, ha, h.ext fun i => ?_⟩
      rw [sd_two_bit, or_two_bit]
      by_cases c1 : a = i
      · subst c1; rw [h1]; simp
      · by_cases c2 : b = i
        · subst c2; rw [h2]; simp
        · simp [c1, c2]
    rw [or_two_bit, decide_eq_false e1, decide_eq_false e2, Bool.or_false, Bool.or_false] at hu
    obtain ⟨v, hv, huv, hul, hvl, hr⟩ := ih hu
    have f1 : a ≠ v := fun e => by rw [← e, h1] at hv; exact absurd hv (by decide)
    have f2 : b ≠ v := fun e => by rw [← e, h2] at hv; exact absurd hv (by decide)
    refine ⟨v, by rw [or_two_bit, hv]; rfl, huv, hul, hvl, (PM.cons _ a b ha hb ?_ ?_ hab hr).ext fun i => ?_⟩
    · rw [sd_two_bit, h1]; rfl
    · rw [sd_two_bit, h2]; rfl
    · rw [or_two_bit, sd_two_bit, sd_two_bit, or_two_bit]
      by_cases c1 : a = i
      · subst c1; simp [Ne.symm e1, Ne.symm f1]
      · by_cases c2 : b = i
        · subst c2; simp [Ne.symm e2, Ne.symm f2]
        · simp [c1, c2]
theorem PM.size {l : List Int} (hS : Shop l) {X : Nat} (h : PM l X) : ∃ m, sz X = 2 * m ∧ ∀ S, (∀ i, X.testBit i = true → S.testBit i = true) → Mt l S m := by
  induction h with
  | nil => exact ⟨0, szN_zero 10, fun S _ => Mt.nil S⟩
  | cons X a b ha hb h1 h2 hab h ih =>
    have hl := hS.le
    obtain ⟨m, e, hm⟩ := ih
    refine ⟨m + 1, by rw [sz_two (by omega) (by omega) (adj_ne hS ha hab) h1 h2, e]; omega, fun S hs => ?_⟩
    refine Mt.cons S a b m (hs a (by rw [or_two_bit]; simp)) (hs b (by rw [or_two_bit]; simp)) hab (hm _ fun i hi => ?_)
    rw [sd_two_bit, hs i (by rw [or_two_bit, hi]; rfl)]
    have f1 : a ≠ i := fun e => by rw [← e, h1] at hi; exact absurd hi (by decide)
    have f2 : b ≠ i := fun e => by rw [← e, h2] at hi; exact absurd hi (by decide)
    simp [f1, f2]
theorem Mt.pm {l : List Int} (hS : Shop l) {S m : Nat} (h : Mt l S m) : S < 2 ^ l.length → ∃ X, PM l X ∧ sz X = 2 * m ∧ ∀ i, X.testBit i = true → S.testBit i = true := by
  induction h with
  | nil S => exact fun _ => ⟨0, PM.nil, szN_zero 10, fun i hi => by rw [Nat.zero_testBit] at hi; exact absurd hi (by decide)⟩
  | cons S a b m ha hb hab h ih =>
    intro hlt
    have hl := hS.le
    obtain ⟨X, hX, e, hs⟩ := ih (Nat.lt_of_le_of_lt (sd_le _ _) hlt)
    have la := bit_lt hlt ha
    have lb := bit_lt hlt hb
    have xa : X.testBit a = false := by
      cases c : X.testBit a
      · rfl
      · have := hs a c; rw [sd_two_bit] at this; simp at this
    have xb : X.testBit b = false := by
      cases c : X.testBit b
      · rfl
      · have := hs b c; rw [sd_two_bit] at this; simp at this
    refine ⟨_, PM.cons X a b la lb xa xb hab hX, by rw [sz_two (by omega) (by omega) (adj_ne hS la hab) xa xb, e]; omega, fun i hi => ?_⟩
    rw [or_two_bit] at hi
    by_cases c1 : a = i
    · subst c1; exact ha
    by_cases c2 : b = i
    · subst c2; exact hb
    rw [decide_eq_false c1, decide_eq_false c2, Bool.or_false, Bool.or_false] at hi
    have := hs i hi
    rw [sd_two_bit, Bool.and_eq_true] at this
    exact this.1
/-- the exchange: along a path that begins at u. -/
theorem PM.change {l : List Int} (hS : Shop l) : ∀ (N X Y u : Nat), X < N → PM l X → PM l Y → X.testBit u = true → Y.testBit u = false →
    (∃ b, Y.testBit b = true ∧ X.testBit b = false ∧ PM l (sd X (2 ^ u) ||| 2 ^ b)) ∨
    (∃ b, X.testBit b = true ∧ Y.testBit b = false ∧ b ≠ u ∧ PM l (Y ||| (2 ^ u ||| 2 ^ b)) ∧ PM l (sd X (2 ^ u ||| 2 ^ b)))
  | 0, X, Y, u, hN, _, _, _, _ => absurd hN (Nat.not_lt_zero _)
  | N + 1, X, Y, u, hN, hX, hY, hu, hyu => by
    obtain ⟨v, hv, huv, hul, hvl, hX'⟩ := hX.take hS hu
    have huv' := adj_ne hS hul huv
    by_cases hyv : Y.testBit v = true
    · obtain ⟨w, hw, hvw, _, hwl, hY'⟩ := hY.take hS hyv
      have hvw' := adj_ne hS hvl hvw
      have huw : u ≠ w := fun e => by rw [← e, hyu] at hw; exact absurd hw (by decide)
      by_cases hxw : X.testBit w = true
      · have hlt : sd X (2 ^ u ||| 2 ^ v) < N := by
          have := sd_lt hu (show (2 ^ u ||| 2 ^ v).testBit u = true by rw [two_bit]; simp)
          omega
        rcases PM.change hS N _ _ w hlt hX' hY' (by rw [sd_two_bit, hxw, decide_eq_false huw, decide_eq_false hvw']; rfl) (by rw [sd_two_bit]; simp) with ⟨b, hb1, hb2, hp⟩ | ⟨b, hb1, hb2, hbw, hp1, hp2⟩
        · rw [sd_two_bit] at hb1 hb2
          simp only [Bool.and_eq_true, Bool.not_eq_true', Bool.or_eq_false_iff, decide_eq_false_iff_not] at hb1
          obtain ⟨y1, y2, y3⟩ := hb1
          have ub : u ≠ b := fun e => by rw [← e, hyu] at y1; exact absurd y1 (by decide)
          have xb : X.testBit b = false := by
            rw [decide_eq_false ub, decide_eq_false y2] at hb2
            simpa using hb2
          refine Or.inl ⟨b, y1, xb, (PM.cons _ v w hvl hwl ?_ ?_ hvw hp).ext fun i => ?_⟩
          · rw [or_bit, sd_bit, sd_two_bit, pow_bit]; simp [Ne.symm y2]
          · rw [or_bit, sd_bit, sd_two_bit, pow_bit]; simp [Ne.symm y3]
          · rw [or_two_bit, or_bit, sd_bit, sd_two_bit, pow_bit, or_bit, sd_bit, pow_bit]
            by_cases c1 : v = i
            · subst c1; simp [hv, huv']
            · by_cases c2 : w = i
              · subst c2; simp [hxw, huw]
              · simp [c1, c2]
        · rw [sd_two_bit] at hb1 hb2
          simp only [Bool.and_eq_true, Bool.not_eq_true', Bool.or_eq_false_iff, decide_eq_false_iff_not] at hb1
          obtain ⟨x1, x2, x3⟩ := hb1
          have yb : Y.testBit b = false := by
            rw [decide_eq_false x3, decide_eq_false (Ne.symm hbw)] at hb2
            simpa using hb2
          refine Or.inr ⟨b, x1, yb, Ne.symm x2, (PM.cons _ u v hul hvl ?_ ?_ huv hp1).ext fun i => ?_, (PM.cons _ v w hvl hwl ?_ ?_ hvw hp2).ext fun i => ?_⟩
          · rw [or_two_bit, sd_two_bit]; simp [hyu, Ne.symm huw, Ne.symm x2]
          · rw [or_two_bit, sd_two_bit]; simp [Ne.symm hvw', Ne.symm x3]
          · rw [or_two_bit, or_two_bit, sd_two_bit, or_two_bit]
            by_cases c1 : v = i
            · subst c1; simp [hyv]
            · by_cases c2 : w = i
              · subst c2; simp [hw]
              · by_cases c3 : u = i
                · simp [c3]
                · simp [c1, c2, c3]
          · rw [sd_two_bit, sd_two_bit]; simp
          · rw [sd_two_bit, sd_two_bit]; simp
          · rw [or_two_bit, sd_two_bit, sd_two_bit, sd_two_bit]
            by_cases c1 : v = i
            · subst c1; simp [hv, huv', Ne.symm x3]
            · by_cases c2 : w = i
              · subst c2; simp [hxw, huw, hbw]
              · simp [c1, c2, Bool.and_assoc]
      · refine Or.inl ⟨w, hw, Bool.eq_false_iff.2 hxw, (PM.cons _ v w hvl hwl ?_ ?_ hvw hX').ext fun i => ?_⟩
        · rw [sd_two_bit]; simp
        · rw [sd_two_bit, Bool.eq_false_iff.2 hxw]; rfl
        · rw [or_two_bit, sd_two_bit, or_bit, sd_bit, pow_bit]
          by_cases c1 : v = i
          · subst c1; simp [hv, huv']
          · by_cases c2 : w = i
            · simp [c2]
            · simp [c1, c2]
    · refine Or.inr ⟨v, hv, Bool.eq_false_iff.2 hyv, Ne.symm huv', PM.cons Y u v hul hvl hyu (Bool.eq_false_iff.2 hyv) huv hY, hX'⟩
end Go.Proofs.YtadfcplobidmeaaDoor.Pure
