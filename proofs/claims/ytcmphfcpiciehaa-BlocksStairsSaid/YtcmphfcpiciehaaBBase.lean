/- The blocks' plain laws: lists, sums, shapes; alive; same. -/
import Derived.Test.YtcmphfcpiciehaaPrintx13
import Derived.Test.YtcmphfcpiciehaaPrintx14
import Derived.Test.YtcmphfcpiciehaaPrintx9
namespace Go.Proofs.Ytcmphfcpiciehaa.Pure
open Go.RowKit Go.Proofs.Ytcmphfcpiciehaa.Print Go.Proofs.YtcmphfcpiciehaaW.PrintWords Go.Proofs.YtcmphfcpiciehaaW.PrintLast Go.Proofs.YtcmphfcpiciehaaW.PrintMore
theorem w64 {z : Int} (h1 : -9223372036854775808 ≤ z) (h2 : z ≤ 9223372036854775807) : wrap64 z = z := by
  unfold wrap64
  omega
theorem rdn (l : List Int) (i : Nat) : rd l (i : Int) = l.getD i 0 := by
  unfold rd
  rw [Int.toNat_natCast]
theorem succK {n k : Nat} (h : n < k) : ∃ k', k = k' + 1 ∧ n ≤ k' := ⟨k - 1, by omega, by omega⟩
theorem inc64 (i : Nat) (h : i ≤ 1000000000) : wrap64 ((i : Int) + 1) = ((i + 1 : Nat) : Int) := by
  rw [w64 (by omega) (by omega)]
  omega
def allFrom (p : Nat → Bool) (i : Nat) : Nat → Bool
  | 0 => true
  | n + 1 => p i && allFrom p (i + 1) n
theorem allFrom_iff (p : Nat → Bool) : ∀ n i, allFrom p i n = true ↔ ∀ j, i ≤ j → j < i + n → p j = true
  | 0, i => by
    simp only [allFrom, true_iff]
    intro j h1 h2
    omega
  | n + 1, i => by
    simp only [allFrom, Bool.and_eq_true]
    rw [allFrom_iff p n (i + 1)]
    constructor
    · rintro ⟨h1, h2⟩ j hj1 hj2
      by_cases h : j = i
      · subst h; exact h1
      · exact h2 j (by omega) (by omega)
    · exact fun h => ⟨h i (Nat.le_refl _) (by omega), fun j h1 h2 => h j (by omega) (by omega)⟩
theorem getD_mem {l : List Int} {i : Nat} (h : i < l.length) : l.getD i 0 ∈ l := by
  rw [List.getD_eq_getElem?_getD, List.getElem?_eq_getElem h]
  exact List.getElem_mem h
theorem getD_at {l : List Int} {i : Nat} (h : i < l.length) : l.getD i 0 = l[i] := by
  rw [List.getD_eq_getElem?_getD, List.getElem?_eq_getElem h]
  rfl
theorem drop_getD {l : List Int} {i : Nat} (h : i < l.length) : l.drop i = l.getD i 0 :: l.drop (i + 1) := by
  rw [List.drop_eq_getElem_cons h, getD_at h]
theorem sum_bound (l : List Int) (b : Int) (h : ∀ x ∈ l, 0 ≤ x ∧ x ≤ b) : 0 ≤ l.sum ∧ l.sum ≤ b * l.length := by
  induction l with
  | nil => simp
  | cons a l ih =>
    have h1 := h a List.mem_cons_self
    have h2 := ih (fun x hx => h x (List.mem_cons_of_mem _ hx))
    rw [List.sum_cons, List.length_cons]
    have : b * ((l.length + 1 : Nat) : Int) = b * l.length + b := by
      rw [Int.natCast_add, Int.mul_add]
      simp
    omega
/-- total at a function with small values. -/
theorem totalG_l0 (g : Int → Int) (l : List Int) (hl : l.length ≤ 1000000) (hb : ∀ x ∈ l, 0 ≤ g x ∧ g x ≤ 1000000) : ∀ n k (i : Nat) (a : Int), i + n = l.length → n < k → 0 ≤ a → a ≤ 1000000 * i → totalG.l0 g k l a i = some (a + ((l.drop i).map g).sum)
  | 0, k, i, a, h, hk, _, _ => by
    obtain ⟨k, rfl, _⟩ := succK hk
    simp only [totalG.l0]
    rw [if_neg (by omega), List.drop_eq_nil_of_le (by omega)]
    simp
  | n + 1, k, i, a, h, hk, h0, h1 => by
    obtain ⟨k, rfl, hk'⟩ := succK hk
    have hx := hb _ (getD_mem (show i < l.length by omega))
    have e1 := inc64 i (by omega)
    have e2 : wrap64 (a + g (l.getD i 0)) = a + g (l.getD i 0) := w64 (by omega) (by omega)
    have ih := totalG_l0 g l hl hb n k (i + 1) (a + g (l.getD i 0)) (by omega) (by omega) (by omega) (by omega)
    simp only [totalG.l0]
    rw [if_pos (by omega), if_pos (by omega), rdn, e1, e2, ih, drop_getD (show i < l.length by omega)]
    simp only [List.map_cons, List.sum_cons, Int.add_assoc]
theorem totalG_f (g : Int → Int) (l : List Int) (hl : l.length ≤ 1000000) (hb : ∀ x ∈ l, 0 ≤ g x ∧ g x ≤ 1000000) (k : Nat) (hk : l.length < k) : totalG.f g k l = some ((l.map g).sum) := by
  unfold totalG.f
  have := totalG_l0 g l hl hb l.length k 0 0 (by omega) hk (Int.le_refl _) (by simp)
  simpa using this
theorem total_f (l : List Int) (hl : l.length ≤ 1000000) (hb : ∀ x ∈ l, 0 ≤ x ∧ x ≤ 1000000) (k : Nat) (hk : l.length < k) : blocks_total_int.f k l = some l.sum := by
  have := totalG_f (fun x => x) l hl hb k hk
  simpa [blocks_total_int.f] using this
/-! ### shapes -/
def stepS (l : List Int) (i : Nat) : Bool := decide (1 ≤ l.getD i 0) && decide (l.getD i 0 ≤ 40) && (decide (i = 0) || decide (l.getD i 0 ≤ l.getD (i - 1) 0))
def isShp (l : List Int) : Bool := decide (l.length ≤ 12) && allFrom (stepS l) 0 l.length && decide (l.sum ≤ 40)
structure Shp (l : List Int) : Prop where
  len : l.length ≤ 12
  bound : ∀ x ∈ l, 1 ≤ x ∧ x ≤ 40
  desc : ∀ i, i + 1 < l.length → l.getD (i + 1) 0 ≤ l.getD i 0
  sum : l.sum ≤ 40
theorem stepS_bound {l : List Int} (h : allFrom (stepS l) 0 l.length = true) : ∀ x ∈ l, 1 ≤ x ∧ x ≤ 40 := by
  intro x hx
  obtain ⟨i, hi, e⟩ := List.mem_iff_getElem.1 hx
  have := (allFrom_iff _ _ _).1 h i (Nat.zero_le _) (by omega)
  simp only [stepS, Bool.and_eq_true, decide_eq_true_eq] at this
  rw [getD_at hi, e] at this
  exact ⟨this.1.1, this.1.2⟩
theorem isShp_iff (l : List Int) : isShp l = true ↔ Shp l := by
  unfold isShp
  rw [Bool.and_eq_true, Bool.and_eq_true, decide_eq_true_eq, decide_eq_true_eq]
  constructor
  · rintro ⟨⟨h1, h2⟩, h3⟩
    refine ⟨h1, stepS_bound h2, fun i hi => ?_, h3⟩
    have := (allFrom_iff _ _ _).1 h2 (i + 1) (Nat.zero_le _) (by omega)
    simp only [stepS, Bool.and_eq_true, Bool.or_eq_true, decide_eq_true_eq] at this
    rcases this.2 with h | h
    · omega
    · exact h
  · rintro ⟨h1, h2, h3, h4⟩
    refine ⟨⟨h1, (allFrom_iff _ _ _).2 fun j _ hj => ?_⟩, h4⟩
    have hb := h2 _ (getD_mem (show j < l.length by omega))
    simp only [stepS, Bool.and_eq_true, Bool.or_eq_true, decide_eq_true_eq]
    refine ⟨hb, ?_⟩
    rcases Nat.eq_zero_or_pos j with h | h
    · exact .inl h
    · have := h3 (j - 1) (by omega)
      rw [show j - 1 + 1 = j by omega] at this
      exact .inr this
theorem stepS_iff (l : List Int) (i : Nat) : stepS l i = true ↔ 1 ≤ l.getD i 0 ∧ l.getD i 0 ≤ 40 ∧ (i = 0 ∨ l.getD i 0 ≤ l.getD (i - 1) 0) := by
  unfold stepS
  rw [Bool.and_eq_true, Bool.and_eq_true, Bool.or_eq_true, decide_eq_true_eq, decide_eq_true_eq, decide_eq_true_eq, decide_eq_true_eq, and_assoc]
theorem stepS_not {l : List Int} {i : Nat} (h : ¬ (1 ≤ l.getD i 0 ∧ l.getD i 0 ≤ 40 ∧ (i = 0 ∨ l.getD i 0 ≤ l.getD (i - 1) 0))) : stepS l i = false := by
  cases hc : stepS l i
  · rfl
  · exact absurd ((stepS_iff l i).1 hc) h
theorem bIs_l0 (l : List Int) (hl : l.length ≤ 12) : ∀ n k (i : Nat), i + n = l.length → n + 20 ≤ k → allFrom (stepS l) 0 i = true → blocks_IsShape.l0 k l l l.length i = some (allFrom (stepS l) i n && decide (l.sum ≤ 40))
  | 0, k, i, h, hk, hp => by
    obtain ⟨k, rfl, hk'⟩ := succK (show 0 < k by omega)
    have hp : allFrom (stepS l) 0 l.length = true := by rw [← show i = l.length by omega]; exact hp
    have hb := stepS_bound hp
    simp only [blocks_IsShape.l0]
    rw [if_neg (by omega), total_f l (by omega) (fun x hx => by have := hb x hx; omega) k (by omega)]
    rfl
  | n + 1, k, i, h, hk, hp => by
    obtain ⟨k, rfl, hk'⟩ := succK (show 0 < k by omega)
    have e1 := inc64 i (by omega)
    have hnext : stepS l i = true → allFrom (stepS l) 0 (i + 1) = true := fun hs => (allFrom_iff _ _ _).2 fun j h1 h2 => by
      by_cases e : j = i
      · subst e; exact hs
      · exact (allFrom_iff _ _ _).1 hp j h1 (by omega)
    have ih := bIs_l0 l hl n k (i + 1) (by omega) (by omega)
    simp only [blocks_IsShape.l0]
    rw [if_pos (by omega), if_pos (by omega), if_pos (by omega), rdn]
    simp only [allFrom]
    by_cases h1 : l.getD i 0 < 1
    · rw [if_pos h1]
      have : stepS l i = false := stepS_not (by omega)
      rw [this]
      rfl
    rw [if_neg h1]
    by_cases h2 : l.getD i 0 > 40
    · rw [if_pos h2]
      have : stepS l i = false := stepS_not (by omega)
      rw [this]
      rfl
    rw [if_neg h2]
    by_cases h3 : (i : Int) > 0
    · have e2 : wrap64 ((i : Int) - 1) = ((i - 1 : Nat) : Int) := by rw [w64 (by omega) (by omega)]; omega
      rw [if_pos h3, e2, if_pos (by omega), if_pos (by omega), rdn]
      by_cases h4 : l.getD i 0 > l.getD (i - 1) 0
      · rw [if_pos h4]
        have : stepS l i = false := stepS_not (by omega)
        rw [this]
        rfl
      · rw [if_neg h4, e1]
        have hs : stepS l i = true := (stepS_iff l i).2 (by omega)
        rw [ih (hnext hs), hs]
        rfl
    · rw [if_neg h3, e1]
      have hs : stepS l i = true := (stepS_iff l i).2 (by omega)
      rw [ih (hnext hs), hs]
      rfl
theorem bIs_f (l : List Int) (k : Nat) (hk : 40 ≤ k) : blocks_IsShape.f k l = some (isShp l) := by
  unfold blocks_IsShape.f isShp
  by_cases h : (l.length : Int) > 12
  · rw [if_pos h, decide_eq_false (by omega)]
    rfl
  · have := bIs_l0 l (by omega) l.length k 0 (by omega) (by omega) rfl
    rw [if_neg h, decide_eq_true (show l.length ≤ 12 by omega)]
    exact Eq.trans this rfl
theorem rIs_l0 (l : List Int) (hl : l.length ≤ 12) : ∀ n k (i : Nat) (a : Int), i + n = l.length → n < k → allFrom (stepS l) 0 i = true → 0 ≤ a → a ≤ 40 * i → clocheref04_IsShape.l0 k l a i = some (allFrom (stepS l) i n && decide (a + (l.drop i).sum ≤ 40))
  | 0, k, i, a, h, hk, hp, _, _ => by
    obtain ⟨k, rfl, hk'⟩ := succK hk
    simp only [clocheref04_IsShape.l0]
    rw [if_neg (by omega), List.drop_eq_nil_of_le (by omega)]
    simp [allFrom]
  | n + 1, k, i, a, h, hk, hp, h0, h40 => by
    obtain ⟨k, rfl, hk'⟩ := succK hk
    have e1 := inc64 i (by omega)
    have hnext : stepS l i = true → allFrom (stepS l) 0 (i + 1) = true := fun hs => (allFrom_iff _ _ _).2 fun j h1 h2 => by
      by_cases e : j = i
      · subst e; exact hs
      · exact (allFrom_iff _ _ _).1 hp j h1 (by omega)
    simp only [clocheref04_IsShape.l0]
    rw [if_pos (by omega), if_pos (by omega), rdn]
    simp only [allFrom]
    by_cases h1 : l.getD i 0 < 1
    · rw [if_pos h1]
      have : stepS l i = false := stepS_not (by omega)
      rw [this]
      rfl
    rw [if_neg h1]
    by_cases h2 : l.getD i 0 > 40
    · rw [if_pos h2]
      have : stepS l i = false := stepS_not (by omega)
      rw [this]
      rfl
    rw [if_neg h2]
    have ea : wrap64 (a + l.getD i 0) = a + l.getD i 0 := w64 (by omega) (by omega)
    have ih := rIs_l0 l hl n k (i + 1) (a + l.getD i 0) (by omega) (by omega)
    have hd := drop_getD (show i < l.length by omega)
    by_cases h3 : (i : Int) > 0
    · have e2 : wrap64 ((i : Int) - 1) = ((i - 1 : Nat) : Int) := by rw [w64 (by omega) (by omega)]; omega
      rw [if_pos h3, e2, if_pos (by omega), if_pos (by omega), rdn]
      by_cases h4 : l.getD i 0 > l.getD (i - 1) 0
      · rw [if_pos h4]
        have : stepS l i = false := stepS_not (by omega)
        rw [this]
        rfl
      · rw [if_neg h4, e1, ea]
        have hs : stepS l i = true := (stepS_iff l i).2 (by omega)
        rw [ih (hnext hs) (by omega) (by omega), hs, hd, List.sum_cons, Int.add_assoc]
        rfl
    · rw [if_neg h3, e1, ea]
      have hs : stepS l i = true := (stepS_iff l i).2 (by omega)
      rw [ih (hnext hs) (by omega) (by omega), hs, hd, List.sum_cons, Int.add_assoc]
      rfl
theorem rIs_f (l : List Int) (k : Nat) (hk : 40 ≤ k) : clocheref04_IsShape.f k l = some (isShp l) := by
  unfold clocheref04_IsShape.f isShp
  by_cases h : (l.length : Int) > 12
  · rw [if_pos h, decide_eq_false (by omega)]
    rfl
  · have := rIs_l0 l (by omega) l.length k 0 0 (by omega) (by omega) rfl (Int.le_refl _) (by simp)
    rw [if_neg h, decide_eq_true (show l.length ≤ 12 by omega)]
    refine Eq.trans this ?_
    rw [List.drop_zero, Int.zero_add]
    rfl
def colI (l : List Int) (c : Nat) : Int := (l.map (gtI (c : Int))).sum
def cols (l : List Int) : List Int := (List.range' 0 (l.getD 0 0).toNat).map (colI l)
theorem cols_length (l : List Int) : (cols l).length = (l.getD 0 0).toNat := by simp [cols]
theorem cols_getD {l : List Int} {c : Nat} (h : c < (l.getD 0 0).toNat) : (cols l).getD c 0 = colI l c := by
  unfold cols
  rw [List.getD_eq_getElem?_getD, List.getElem?_map, List.getElem?_range' h]
  simp
theorem gtI_bound (c x : Int) : 0 ≤ gtI c x ∧ gtI c x ≤ 1 := by
  unfold gtI
  split <;> omega
theorem colI_bound (l : List Int) (c : Nat) : 0 ≤ colI l c ∧ colI l c ≤ l.length := by
  have := sum_bound (l.map (gtI (c : Int))) 1 (fun x hx => by
    obtain ⟨y, _, rfl⟩ := List.mem_map.1 hx
    exact gtI_bound _ _)
  rw [List.length_map] at this
  unfold colI
  omega
theorem Shp.head {l : List Int} (h : Shp l) : 0 ≤ l.getD 0 0 ∧ l.getD 0 0 ≤ 40 := by
  rcases Nat.eq_zero_or_pos l.length with e | e
  · have : l = [] := List.eq_nil_of_length_eq_zero e
    subst this
    simp
  · have := h.bound _ (getD_mem e)
    omega
theorem Shp.le_head {l : List Int} (h : Shp l) : ∀ i, i < l.length → l.getD i 0 ≤ l.getD 0 0
  | 0, _ => Int.le_refl _
  | i + 1, hi => Int.le_trans (h.desc i hi) (h.le_head i (by omega))
theorem range'_succ' (i n : Nat) : List.range' i (n + 1) = i :: List.range' (i + 1) n := by
  rw [List.range'_succ]
theorem turned_l0 (l : List Int) (hs : Shp l) (hp : 0 < l.length) : ∀ n k (i : Nat) (acc : List Int), i + n = (l.getD 0 0).toNat → n + 20 ≤ k → acc.length = i → blocks_turned.l0 k l acc i = some (acc ++ (List.range' i n).map (colI l))
  | 0, k, i, acc, h, hk, ha => by
    obtain ⟨k, rfl, hk'⟩ := succK (show 0 < k by omega)
    have hh := hs.head
    have hr : rd l 0 = l.getD 0 0 := rdn l 0
    simp only [blocks_turned.l0]
    rw [if_pos (by omega), hr, if_neg (by omega)]
    simp
  | n + 1, k, i, acc, h, hk, ha => by
    obtain ⟨k, rfl, hk'⟩ := succK (show 0 < k by omega)
    have hh := hs.head
    have hl := hs.len
    have hr : rd l 0 = l.getD 0 0 := rdn l 0
    have e1 := inc64 i (by omega)
    have ht := totalG_f (gtI (i : Int)) l (by omega) (fun x _ => by have := gtI_bound (i : Int) x; omega) k (by omega)
    have ih := turned_l0 l hs hp n k (i + 1) (acc ++ [colI l i]) (by omega) (by omega) (by simp [ha])
    simp only [blocks_turned.l0]
    rw [if_pos (by omega), hr, if_pos (by omega), ht, Option.bind_some, if_pos (by omega), e1]
    refine Eq.trans ih ?_
    rw [range'_succ', List.map_cons, List.append_assoc]
    rfl
theorem turned_f (l : List Int) (hs : Shp l) (k : Nat) (hk : 100 ≤ k) : blocks_turned.f k l = some (cols l) := by
  unfold blocks_turned.f
  have hh := hs.head
  rcases Nat.eq_zero_or_pos l.length with e | e
  · have : l = [] := List.eq_nil_of_length_eq_zero e
    subst this
    obtain ⟨k, rfl, _⟩ := succK (show 0 < k by omega)
    simp only [blocks_turned.l0]
    rw [if_neg (by simp)]
    rfl
  · have := turned_l0 l hs e (l.getD 0 0).toNat k 0 [] (by omega) (by omega) rfl
    exact this
/-! ### hooks -/
def hook (l : List Int) (r c : Nat) : Int := l.getD r 0 - c + (cols l).getD c 0 - r - 1
def hkRow (l : List Int) (r : Nat) : List Int := (List.range' 0 (l.getD r 0).toNat).map (hook l r)
def hk (l : List Int) : List (List Int) := (List.range' 0 l.length).map (hkRow l)
theorem hook_wrap {l : List Int} (hs : Shp l) {r c : Nat} (hr : r < l.length) (hc : c < (l.getD r 0).toNat) : wrap64 ((wrap64 ((wrap64 ((wrap64 (l.getD r 0 - c)) + (cols l).getD c 0)) - r)) - 1) = hook l r c := by
  have h1 := hs.bound _ (getD_mem hr)
  have h2 := hs.le_head r hr
  have h3 := colI_bound l c
  have hl := hs.len
  rw [cols_getD (by omega)]
  unfold hook
  rw [cols_getD (by omega)]
  rw [w64 (z := l.getD r 0 - c) (by omega) (by omega), w64 (z := l.getD r 0 - c + colI l c) (by omega) (by omega), w64 (z := l.getD r 0 - c + colI l c - r) (by omega) (by omega), w64 (by omega) (by omega)]
theorem hooks_l1 (l : List Int) (hs : Shp l) (acc : List (List Int)) (ha : acc.length ≤ 100) (r : Nat) (hr : r < l.length) : ∀ n K (c : Nat) (row : List Int), c + n = (l.getD r 0).toNat → row.length = c → blocks_hooks.l1 (K + n + 1) (cols l) acc r (l.getD r 0) row l l.length r (l.getD r 0) c = blocks_hooks.l0 K (cols l) (acc ++ [row ++ (List.range' c n).map (hook l r)]) l l.length ((r + 1 : Nat) : Int)
  | 0, K, c, row, h, hw => by
    have h1 := hs.bound _ (getD_mem hr)
    have hl := hs.len
    show blocks_hooks.l1 (K + 1) (cols l) acc r (l.getD r 0) row l l.length r (l.getD r 0) c = _
    simp only [blocks_hooks.l1]
    rw [if_neg (by omega), if_pos (by omega), inc64 r (by omega)]
    simp
  | n + 1, K, c, row, h, hw => by
    have h1 := hs.bound _ (getD_mem hr)
    have h2 := hs.le_head r hr
    have hl := hs.len
    have e1 := inc64 c (by omega)
    have hc2 : (c : Int) < ((cols l).length : Int) := by
      rw [cols_length]
      omega
    have hc3 : (c : Int) < l.getD r 0 := by clear hc2; omega
    have hc4 : row.length < 17592186044416 := by clear hc2; omega
    have hc5 : c < (l.getD r 0).toNat := by clear hc2; omega
    have hc6 : c + 1 + n = (l.getD r 0).toNat := by clear hc2; omega
    obtain ⟨F, hF⟩ : ∃ F, F = K + n + 1 := ⟨_, rfl⟩
    have ih := hooks_l1 l hs acc ha r hr n K (c + 1) (row ++ [hook l r c]) hc6 (by rw [List.length_append, hw]; rfl)
    rw [← hF] at ih
    rw [show K + (n + 1) + 1 = F + 1 by rw [hF]; rfl]
    simp only [blocks_hooks.l1]
    rw [if_pos hc3, if_pos (Int.natCast_nonneg c), if_pos hc2, if_pos hc4, rdn, hook_wrap hs hr hc5, e1]
    refine Eq.trans ih ?_
    rw [range'_succ', List.map_cons, List.append_assoc]
    rfl
theorem hooks_l0 (l : List Int) (hs : Shp l) : ∀ n k (i : Nat) (acc : List (List Int)), i + n = l.length → 50 * n + 5 ≤ k → acc.length = i → blocks_hooks.l0 k (cols l) acc l l.length i = some (acc ++ (List.range' i n).map (hkRow l))
  | 0, k, i, acc, h, hk, ha => by
    obtain ⟨k, rfl, _⟩ := succK (show 0 < k by omega)
    simp only [blocks_hooks.l0]
    rw [if_neg (by omega)]
    simp
  | n + 1, k, i, acc, h, hk, ha => by
    have hl := hs.len
    have h1 := hs.bound _ (getD_mem (show i < l.length by omega))
    obtain ⟨K, rfl⟩ : ∃ K, k = (K + (l.getD i 0).toNat + 1) + 1 := ⟨k - (l.getD i 0).toNat - 2, by omega⟩
    have h2 := hooks_l1 l hs acc (by omega) i (by omega) (l.getD i 0).toNat K 0 [] (by omega) rfl
    have ih := hooks_l0 l hs n K (i + 1) (acc ++ [hkRow l i]) (by omega) (by omega) (by simp [ha])
    obtain ⟨F, hF⟩ : ∃ F, F = K + (l.getD i 0).toNat + 1 := ⟨_, rfl⟩
    rw [← hF] at h2 ⊢
    simp only [blocks_hooks.l0]
    rw [if_pos (by omega), if_pos (by omega), if_pos (by omega), rdn]
    refine Eq.trans h2 ?_
    refine Eq.trans ih ?_
    rw [range'_succ', List.map_cons, List.append_assoc]
    rfl
theorem hooks_f (l : List Int) (hs : Shp l) (k : Nat) (hk1 : 900 ≤ k) : blocks_hooks.f k l = some (hk l) := by
  have hl := hs.len
  unfold blocks_hooks.f
  rw [turned_f l hs k (by omega), Option.bind_some]
  have := hooks_l0 l hs l.length k 0 [] (by omega) (by omega) rfl
  exact this
def bead (l : List Int) (r : Nat) : Int := l.getD r 0 + l.length - 1 - r
def bd (l : List Int) : List Int := (List.range' 0 l.length).map (bead l)
theorem bd_length (l : List Int) : (bd l).length = l.length := by simp [bd]
theorem bd_getD {l : List Int} {r : Nat} (h : r < l.length) : (bd l).getD r 0 = bead l r := by
  unfold bd
  rw [List.getD_eq_getElem?_getD, List.getElem?_map, List.getElem?_range' h]
  simp
/-- The first i beads, the rest as it was. -/
def stB (l : List Int) (i : Nat) : List Int := (List.range' 0 i).map (bead l) ++ l.drop i
theorem stB_length {l : List Int} {i : Nat} (h : i ≤ l.length) : (stB l i).length = l.length := by
  simp [stB]
  omega
theorem stB_getD {l : List Int} {i : Nat} : (stB l i).getD i 0 = l.getD i 0 := by
  unfold stB
  rw [List.getD_eq_getElem?_getD, List.getElem?_append_right (by simp), List.getD_eq_getElem?_getD]
  simp
theorem stB_set {l : List Int} {i : Nat} (h : i < l.length) : (stB l i).set i (bead l i) = stB l (i + 1) := by
  unfold stB
  rw [List.set_append_right _ _ (by simp), drop_getD h]
  have e : List.range' 0 (i + 1) = List.range' 0 i ++ [i] := by
    rw [List.range'_concat]
    simp
  rw [e, List.map_append, List.append_assoc]
  simp
theorem beads_l0 (l : List Int) (hl : l.length ≤ 1000) (hb : ∀ x ∈ l, 0 ≤ x ∧ x ≤ 1000) : ∀ n k (i : Nat), i + n = l.length → n < k → blocks_beads.l0 k l (stB l i) l.length i = some (stB l l.length)
  | 0, k, i, h, hk => by
    obtain ⟨k, rfl, _⟩ := succK hk
    simp only [blocks_beads.l0]
    rw [if_neg (by omega), show i = l.length by omega]
  | n + 1, k, i, h, hk => by
    obtain ⟨k, rfl, hk'⟩ := succK hk
    have hi : i < l.length := by omega
    have hx := hb _ (getD_mem hi)
    have e1 := inc64 i (by omega)
    have hlen := stB_length (l := l) (i := i) (by omega)
    have hv : wrap64 (l.getD i 0 + wrap64 (wrap64 ((l.length : Int) - 1) - i)) = bead l i := by
      unfold bead
      rw [w64 (z := (l.length : Int) - 1) (by omega) (by omega), w64 (z := (l.length : Int) - 1 - i) (by omega) (by omega), w64 (by omega) (by omega)]
      omega
    have ih := beads_l0 l hl hb n k (i + 1) (by omega) (by omega)
    simp only [blocks_beads.l0]
    rw [if_pos (by omega), if_pos (by omega), if_pos (by rw [hlen]; omega), rdn, stB_getD, hv, Int.toNat_natCast, stB_set hi, e1]
    exact ih
theorem stB_zero (l : List Int) : stB l 0 = l := by simp [stB]
theorem stB_full (l : List Int) : stB l l.length = bd l := by simp [stB, bd]
theorem beads_f (l : List Int) (hl : l.length ≤ 1000) (hb : ∀ x ∈ l, 0 ≤ x ∧ x ≤ 1000) (k : Nat) (hk : l.length < k) : blocks_beads.f k l = some (bd l) := by
  have := beads_l0 l hl hb l.length k 0 (by omega) hk
  rw [stB_zero, stB_full] at this
  unfold blocks_beads.f
  rw [if_pos (by omega), if_pos (by omega), Option.bind_some]
  exact this
theorem rbeads_l0 (l : List Int) (hl : l.length ≤ 1000) (hb : ∀ x ∈ l, 0 ≤ x ∧ x ≤ 1000) : ∀ n k (i : Nat) (acc : List Int), i + n = l.length → n < k → acc.length = i → clocheref04_beads.l0 k l acc i = some (acc ++ (List.range' i n).map (bead l))
  | 0, k, i, acc, h, hk, _ => by
    obtain ⟨k, rfl, _⟩ := succK hk
    simp only [clocheref04_beads.l0]
    rw [if_neg (by omega)]
    simp
  | n + 1, k, i, acc, h, hk, ha => by
    obtain ⟨k, rfl, hk'⟩ := succK hk
    have hi : i < l.length := by omega
    have hx := hb _ (getD_mem hi)
    have e1 := inc64 i (by omega)
    have hv : wrap64 (wrap64 (wrap64 (l.getD i 0 + l.length) - 1) - i) = bead l i := by
      unfold bead
      rw [w64 (z := l.getD i 0 + l.length) (by omega) (by omega), w64 (z := l.getD i 0 + l.length - 1) (by omega) (by omega), w64 (by omega) (by omega)]
    have ih := rbeads_l0 l hl hb n k (i + 1) (acc ++ [bead l i]) (by omega) (by omega) (by simp [ha])
    simp only [clocheref04_beads.l0]
    rw [if_pos (by omega), if_pos (by omega), if_pos (by omega), rdn, hv, e1]
    refine Eq.trans ih ?_
    rw [range'_succ', List.map_cons, List.append_assoc]
    rfl
theorem rbeads_f (l : List Int) (hl : l.length ≤ 1000) (hb : ∀ x ∈ l, 0 ≤ x ∧ x ≤ 1000) (k : Nat) (hk : l.length < k) : clocheref04_beads.f k l = some (bd l) := by
  unfold clocheref04_beads.f
  have := rbeads_l0 l hl hb l.length k 0 [] (by omega) hk rfl
  exact this
/-! ### the same lists -/
theorem same_l0 (a : List Int) (hs : a.length ≤ 1000000) : ∀ n k (i : Nat), i + n = a.length → n < k → clochelaw04_same.l0 k a a i = some true
  | 0, k, i, h, hk => by
    obtain ⟨k, rfl, _⟩ := succK hk
    simp only [clochelaw04_same.l0]
    rw [if_neg (by omega)]
  | n + 1, k, i, h, hk => by
    obtain ⟨k, rfl, hk'⟩ := succK hk
    have ih := same_l0 a hs n k (i + 1) (by omega) (by omega)
    simp only [clochelaw04_same.l0]
    rw [if_pos (by omega), if_pos (by omega), if_pos (by omega), if_pos trivial, inc64 i (by omega)]
    exact ih
theorem same_self (a : List Int) (hs : a.length ≤ 1000000) (k : Nat) (hk : a.length < k) : clochelaw04_same.f k a a = some true := by
  unfold clochelaw04_same.f
  rw [if_pos rfl]
  exact same_l0 a hs a.length k 0 (by omega) hk
theorem shapes_l0 (a : List (List Int)) (hs : a.length ≤ 1000000) (hb : ∀ x ∈ a, x.length ≤ 1000) : ∀ n k (i : Nat), i + n = a.length → n + 1002 < k → clochelaw04_shapes.l0 k a a i = some true
  | 0, k, i, h, hk => by
    obtain ⟨k, rfl, _⟩ := succK (show 0 < k by omega)
    simp only [clochelaw04_shapes.l0]
    rw [if_neg (by omega)]
  | n + 1, k, i, h, hk => by
    obtain ⟨k, rfl, hk'⟩ := succK (show 0 < k by omega)
    have ih := shapes_l0 a hs hb n k (i + 1) (by omega) (by omega)
    have hi : i < a.length := by omega
    have hx : (rd_L1 a (i : Int)).length ≤ 1000 := by
      have : rd_L1 a (i : Int) = a[i] := by
        unfold rd_L1
        rw [Int.toNat_natCast, List.getD_eq_getElem?_getD, List.getElem?_eq_getElem hi]
        rfl
      rw [this]
      exact hb _ (List.getElem_mem hi)
    simp only [clochelaw04_shapes.l0]
    rw [if_pos (by omega), if_pos (by omega), if_pos (by omega), same_self _ (by omega) k (by omega), Option.bind_some, if_pos rfl, inc64 i (by omega)]
    exact ih
theorem shapes_self (a : List (List Int)) (hs : a.length ≤ 1000) (hb : ∀ x ∈ a, x.length ≤ 1000) (k : Nat) (hk : 2100 ≤ k) : clochelaw04_shapes.f k a a = some true := by
  unfold clochelaw04_shapes.f
  rw [if_pos rfl]
  exact shapes_l0 a (by omega) hb a.length k 0 (by omega) (by omega)
theorem few_f (l : List Int) (k : Nat) (hk : 3 ≤ k) : clochelaw04_few.f k l [] = some (decide (l.length ≤ 60)) := by
  obtain ⟨k, rfl⟩ : ∃ K, k = K + 2 := ⟨k - 2, by omega⟩
  unfold clochelaw04_few.f
  by_cases h : (l.length : Int) > 60
  · rw [if_pos h, decide_eq_false (by omega)]
    rfl
  · rw [if_neg h, decide_eq_true (show l.length ≤ 60 by omega)]
    have e : decide (((([] : List (List Int)).length : Nat) : Int) > 20) = false := by decide
    rw [e]
    simp only [clochelaw04_few.j0]
    rw [if_neg (by decide)]
    simp only [clochelaw04_few.l0]
    rw [if_neg (by simp)]
theorem alive200 : clochelaw04_alive.f 200 = some true := by decide +kernel
theorem alive (k : Nat) (hk : 200 ≤ k) : clochelaw04_alive.f k = some true := by
  obtain ⟨d, rfl⟩ : ∃ d, k = 200 + d := ⟨k - 200, by omega⟩
  induction d with
  | zero => exact alive200
  | succ d ih => exact clochelaw04_alive.mono _ _ (ih (by omega))
theorem hk_small {l : List Int} (hs : Shp l) : (hk l).length ≤ 12 ∧ ∀ x ∈ hk l, x.length ≤ 40 := by
  have hl := hs.len
  refine ⟨by simp [hk]; omega, fun x hx => ?_⟩
  obtain ⟨r, hr, rfl⟩ := List.mem_map.1 hx
  have hr := (List.mem_range'_1.1 hr).2
  have hb := hs.bound _ (getD_mem (show r < l.length by omega))
  simp only [hkRow, List.length_map, List.length_range']
  omega
end Go.Proofs.Ytcmphfcpiciehaa.Pure
