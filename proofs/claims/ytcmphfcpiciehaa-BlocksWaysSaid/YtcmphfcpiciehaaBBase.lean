/- The blocks' plain laws: lists, sums, shapes; alive; same. -/
import Derived.Test.YtcmphfcpiciehaaPrintx13
import Derived.Test.YtcmphfcpiciehaaPrintx14
namespace Go.Proofs.Ytcmphfcpiciehaa.Pure
open Go.RowKit Go.Proofs.Ytcmphfcpiciehaa.Print Go.Proofs.YtcmphfcpiciehaaW.PrintWords Go.Proofs.YtcmphfcpiciehaaW.PrintLast Go.Proofs.YtcmphfcpiciehaaW.PrintMore
theorem w64 {z : Int} (h1 : -9223372036854775808 ≤ z) (h2 : z ≤ 9223372036854775807) : wrap64 z = z := by
  unfold wrap64
  omega
theorem rdn (l : List Int) (i : Nat) : rd l (i : Int) = l.getD i 0 := by
  unfold rd
  rw [Int.toNat_natCast]
theorem succK {n k : Nat} (h : n < k) : ∃ k', k = k' + 1 ∧ n ≤ k' := ⟨k - 1, by omega, by omega⟩
theorem inc64 (i : Nat) (h : i ≤ 1000000000) : wrap64 ((i : Int) + 1) = ((i + 1 : Nat) : Int) := by
  rw [w64 (by omega) (by omega)]
  omega
def allFrom (p : Nat → Bool) (i : Nat) : Nat → Bool
  | 0 => true
  | n + 1 => p i && allFrom p (i + 1) n
theorem allFrom_iff (p : Nat → Bool) : ∀ n i, allFrom p i n = true ↔ ∀ j, i ≤ j → j < i + n → p j = true
  | 0, i => by
    simp only [allFrom, true_iff]
    intro j h1 h2
    omega
  | n + 1, i => by
    simp only [allFrom, Bool.and_eq_true]
    rw [allFrom_iff p n (i + 1)]
    constructor
    · rintro ⟨h1, h2⟩ j hj1 hj2
      by_cases h : j = i
      · subst h; exact h1
      · exact h2 j (by omega) (by omega)
    · exact fun h => ⟨h i (Nat.le_refl _) (by omega), fun j h1 h2 => h j (by omega) (by omega)⟩
theorem getD_mem {l : List Int} {i : Nat} (h : i < l.length) : l.getD i 0 ∈ l := by
  rw [List.getD_eq_getElem?_getD, List.getElem?_eq_getElem h]
  exact List.getElem_mem h
theorem getD_at {l : List Int} {i : Nat} (h : i < l.length) : l.getD i 0 = l[i] := by
  rw [List.getD_eq_getElem?_getD, List.getElem?_eq_getElem h]
  rfl
theorem drop_getD {l : List Int} {i : Nat} (h : i < l.length) : l.drop i = l.getD i 0 :: l.drop (i + 1) := by
  rw [List.drop_eq_getElem_cons h, getD_at h]
theorem sum_bound (l : List Int) (b : Int) (h : ∀ x ∈ l, 0 ≤ x ∧ x ≤ b) : 0 ≤ l.sum ∧ l.sum ≤ b * l.length := by
  induction l with
  | nil => simp
  | cons a l ih =>
    have h1 := h a List.mem_cons_self
    have h2 := ih (fun x hx => h x (List.mem_cons_of_mem _ hx))
    rw [List.sum_cons, List.length_cons]
    have : b * ((l.length + 1 : Nat) : Int) = b * l.length + b := by
      rw [Int.natCast_add, Int.mul_add]
      simp
    omega
/-- total at a function with small values. -/
theorem totalG_l0 (g : Int → Int) (l : List Int) (hl : l.length ≤ 1000000) (hb : ∀ x ∈ l, 0 ≤ g x ∧ g x ≤ 1000000) : ∀ n k (i : Nat) (a : Int), i + n = l.length → n < k → 0 ≤ a → a ≤ 1000000 * i → totalG.l0 g k l a i = some (a + ((l.drop i).map g).sum)
  | 0, k, i, a, h, hk, _, _ => by
    obtain ⟨k, rfl, _⟩ := succK hk
    simp only [totalG.l0]
    rw [if_neg (by omega), List.drop_eq_nil_of_le (by omega)]
    simp
  | n + 1, k, i, a, h, hk, h0, h1 => by
    obtain ⟨k, rfl, hk'⟩ := succK hk
    have hx := hb _ (getD_mem (show i < l.length by omega))
    have e1 := inc64 i (by omega)
    have e2 : wrap64 (a + g (l.getD i 0)) = a + g (l.getD i 0) := w64 (by omega) (by omega)
    have ih := totalG_l0 g l hl hb n k (i + 1) (a + g (l.getD i 0)) (by omega) (by omega) (by omega) (by omega)
    simp only [totalG.l0]
    rw [if_pos (by omega), if_pos (by omega), rdn, e1, e2, ih, drop_getD (show i < l.length by omega)]
    simp only [List.map_cons, List.sum_cons, Int.add_assoc]
theorem totalG_f (g : Int → Int) (l : List Int) (hl : l.length ≤ 1000000) (hb : ∀ x ∈ l, 0 ≤ g x ∧ g x ≤ 1000000) (k : Nat) (hk : l.length < k) : totalG.f g k l = some ((l.map g).sum) := by
  unfold totalG.f
  have := totalG_l0 g l hl hb l.length k 0 0 (by omega) hk (Int.le_refl _) (by simp)
  simpa using this
theorem total_f (l : List Int) (hl : l.length ≤ 1000000) (hb : ∀ x ∈ l, 0 ≤ x ∧ x ≤ 1000000) (k : Nat) (hk : l.length < k) : blocks_total_int.f k l = some l.sum := by
  have := totalG_f (fun x => x) l hl hb k hk
  simpa [blocks_total_int.f] using this
/-! ### shapes -/
def stepS (l : List Int) (i : Nat) : Bool := decide (1 ≤ l.getD i 0) && decide (l.getD i 0 ≤ 40) && (decide (i = 0) || decide (l.getD i 0 ≤ l.getD (i - 1) 0))
def isShp (l : List Int) : Bool := decide (l.length ≤ 12) && allFrom (stepS l) 0 l.length && decide (l.sum ≤ 40)
structure Shp (l : List Int) : Prop where
  len : l.length ≤ 12
  bound : ∀ x ∈ l, 1 ≤ x ∧ x ≤ 40
  desc : ∀ i, i + 1 < l.length → l.getD (i + 1) 0 ≤ l.getD i 0
  sum : l.sum ≤ 40
theorem stepS_bound {l : List Int} (h : allFrom (stepS l) 0 l.length = true) : ∀ x ∈ l, 1 ≤ x ∧ x ≤ 40 := by
  intro x hx
  obtain ⟨i, hi, e⟩ := List.mem_iff_getElem.1 hx
  have := (allFrom_iff _ _ _).1 h i (Nat.zero_le _) (by omega)
  simp only [stepS, Bool.and_eq_true, decide_eq_true_eq] at this
  rw [getD_at hi, e] at this
  exact ⟨this.1.1, this.1.2⟩
theorem isShp_iff (l : List Int) : isShp l = true ↔ Shp l := by
  unfold isShp
  rw [Bool.and_eq_true, Bool.and_eq_true, decide_eq_true_eq, decide_eq_true_eq]
  constructor
  · rintro ⟨⟨h1, h2⟩, h3⟩
    refine ⟨h1, stepS_bound h2, fun i hi => ?_, h3⟩
    have := (allFrom_iff _ _ _).1 h2 (i + 1) (Nat.zero_le _) (by omega)
    simp only [stepS, Bool.and_eq_true, Bool.or_eq_true, decide_eq_true_eq] at this
    rcases this.2 with h | h
    · omega
    · exact h
  · rintro ⟨h1, h2, h3, h4⟩
    refine ⟨⟨h1, (allFrom_iff _ _ _).2 fun j _ hj => ?_⟩, h4⟩
    have hb := h2 _ (getD_mem (show j < l.length by omega))
    simp only [stepS, Bool.and_eq_true, Bool.or_eq_true, decide_eq_true_eq]
    refine ⟨hb, ?_⟩
    rcases Nat.eq_zero_or_pos j with h | h
    · exact .inl h
    · have := h3 (j - 1) (by omega)
      rw [show j - 1 + 1 = j by omega] at this
      exact .inr this
theorem stepS_iff (l : List Int) (i : Nat) : stepS l i = true ↔ 1 ≤ l.getD i 0 ∧ l.getD i 0 ≤ 40 ∧ (i = 0 ∨ l.getD i 0 ≤ l.getD (i - 1) 0) := by
  unfold stepS
  rw [Bool.and_eq_true, Bool.and_eq_true, Bool.or_eq_true, decide_eq_true_eq, decide_eq_true_eq, decide_eq_true_eq, decide_eq_true_eq, and_assoc]
theorem stepS_not {l : List Int} {i : Nat} (h : ¬ (1 ≤ l.getD i 0 ∧ l.getD i 0 ≤ 40 ∧ (i = 0 ∨ l.getD i 0 ≤ l.getD (i - 1) 0))) : stepS l i = false := by
  cases hc : stepS l i
  · rfl
  · exact absurd ((stepS_iff l i).1 hc) h
theorem bIs_l0 (l : List Int) (hl : l.length ≤ 12) : ∀ n k (i : Nat), i + n = l.length → n + 20 ≤ k → allFrom (stepS l) 0 i = true → blocks_IsShape.l0 k l l l.length i = some (allFrom (stepS l) i n && decide (l.sum ≤ 40))
  | 0, k, i, h, hk, hp => by
    obtain ⟨k, rfl, hk'⟩ := succK (show 0 < k by omega)
    have hp : allFrom (stepS l) 0 l.length = true := by rw [← show i = l.length by omega]; exact hp
    have hb := stepS_bound hp
    simp only [blocks_IsShape.l0]
    rw [if_neg (by omega), total_f l (by omega) (fun x hx => by have := hb x hx; omega) k (by omega)]
    rfl
  | n + 1, k, i, h, hk, hp => by
    obtain ⟨k, rfl, hk'⟩ := succK (show 0 < k by omega)
    have e1 := inc64 i (by omega)
    have hnext : stepS l i = true → allFrom (stepS l) 0 (i + 1) = true := fun hs => (allFrom_iff _ _ _).2 fun j h1 h2 => by
      by_cases e : j = i
      · subst e; exact hs
      · exact (allFrom_iff _ _ _).1 hp j h1 (by omega)
    have ih := bIs_l0 l hl n k (i + 1) (by omega) (by omega)
    simp only [blocks_IsShape.l0]
    rw [if_pos (by omega), if_pos (by omega), if_pos (by omega), rdn]
    simp only [allFrom]
    by_cases h1 : l.getD i 0 < 1
    · rw [if_pos h1]
      have : stepS l i = false := stepS_not (by omega)
      rw [this]
      rfl
    rw [if_neg h1]
    by_cases h2 : l.getD i 0 > 40
    · rw [if_pos h2]
      have : stepS l i = false := stepS_not (by omega)
      rw [this]
      rfl
    rw [if_neg h2]
    by_cases h3 : (i : Int) > 0
    · have e2 : wrap64 ((i : Int) - 1) = ((i - 1 : Nat) : Int) := by rw [w64 (by omega) (by omega)]; omega
      rw [if_pos h3, e2, if_pos (by omega), if_pos (by omega), rdn]
      by_cases h4 : l.getD i 0 > l.getD (i - 1) 0
      · rw [if_pos h4]
        have : stepS l i = false := stepS_not (by omega)
        rw [this]
        rfl
      · rw [if_neg h4, e1]
        have hs : stepS l i = true := (stepS_iff l i).2 (by omega)
        rw [ih (hnext hs), hs]
        rfl
    · rw [if_neg h3, e1]
      have hs : stepS l i = true := (stepS_iff l i).2 (by omega)
      rw [ih (hnext hs), hs]
      rfl
theorem bIs_f (l : List Int) (k : Nat) (hk : 40 ≤ k) : blocks_IsShape.f k l = some (isShp l) := by
  unfold blocks_IsShape.f isShp
  by_cases h : (l.length : Int) > 12
  · rw [if_pos h, decide_eq_false (by omega)]
    rfl
  · have := bIs_l0 l (by omega) l.length k 0 (by omega) (by omega) rfl
    rw [if_neg h, decide_eq_true (show l.length ≤ 12 by omega)]
    exact Eq.trans this rfl
theorem rIs_l0 (l : List Int) (hl : l.length ≤ 12) : ∀ n k (i : Nat) (a : Int), i + n = l.length → n < k → allFrom (stepS l) 0 i = true → 0 ≤ a → a ≤ 40 * i → clocheref04_IsShape.l0 k l a i = some (allFrom (stepS l) i n && decide (a + (l.drop i).sum ≤ 40))
  | 0, k, i, a, h, hk, hp, _, _ => by
    obtain ⟨k, rfl, hk'⟩ := succK hk
    simp only [clocheref04_IsShape.l0]
    rw [if_neg (by omega), List.drop_eq_nil_of_le (by omega)]
    simp [allFrom]
  | n + 1, k, i, a, h, hk, hp, h0, h40 => by
    obtain ⟨k, rfl, hk'⟩ := succK hk
    have e1 := inc64 i (by omega)
    have hnext : stepS l i = true → allFrom (stepS l) 0 (i + 1) = true := fun hs => (allFrom_iff _ _ _).2 fun j h1 h2 => by
      by_cases e : j = i
      · subst e; exact hs
      · exact (allFrom_iff _ _ _).1 hp j h1 (by omega)
    simp only [clocheref04_IsShape.l0]
    rw [if_pos (by omega), if_pos (by omega), rdn]
    simp only [allFrom]
    by_cases h1 : l.getD i 0 < 1
    · rw [if_pos h1]
      have : stepS l i = false := stepS_not (by omega)
      rw [this]
      rfl
    rw [if_neg h1]
    by_cases h2 : l.getD i 0 > 40
    · rw [if_pos h2]
      have : stepS l i = false := stepS_not (by omega)
      rw [this]
      rfl
    rw [if_neg h2]
    have ea : wrap64 (a + l.getD i 0) = a + l.getD i 0 := w64 (by omega) (by omega)
    have ih := rIs_l0 l hl n k (i + 1) (a + l.getD i 0) (by omega) (by omega)
    have hd := drop_getD (show i < l.length by omega)
    by_cases h3 : (i : Int) > 0
    · have e2 : wrap64 ((i : Int) - 1) = ((i - 1 : Nat) : Int) := by rw [w64 (by omega) (by omega)]; omega
      rw [if_pos h3, e2, if_pos (by omega), if_pos (by omega), rdn]
      by_cases h4 : l.getD i 0 > l.getD (i - 1) 0
      · rw [if_pos h4]
        have : stepS l i = false := stepS_not (by omega)
        rw [this]
        rfl
      · rw [if_neg h4, e1, ea]
        have hs : stepS l i = true := (stepS_iff l i).2 (by omega)
        rw [ih (hnext hs) (by omega) (by omega), hs, hd, List.sum_cons, Int.add_assoc]
        rfl
    · rw [if_neg h3, e1, ea]
      have hs : stepS l i = true := (stepS_iff l i).2 (by omega)
      rw [ih (hnext hs) (by omega) (by omega), hs, hd, List.sum_cons, Int.add_assoc]
      rfl
theorem rIs_f (l : List Int) (k : Nat) (hk : 40 ≤ k) : clocheref04_IsShape.f k l = some (isShp l) := by
  unfold clocheref04_IsShape.f isShp
  by_cases h : (l.length : Int) > 12
  · rw [if_pos h, decide_eq_false (by omega)]
    rfl
  · have := rIs_l0 l (by omega) l.length k 0 0 (by omega) (by omega) rfl (Int.le_refl _) (by simp)
    rw [if_neg h, decide_eq_true (show l.length ≤ 12 by omega)]
    refine Eq.trans this ?_
    rw [List.drop_zero, Int.zero_add]
    rfl
end Go.Proofs.Ytcmphfcpiciehaa.Pure
