/- The visits' plain laws: a shop without some hats. -/
import Derived.Test.YtadfcplobidmeaaDoorVGameNu
import Derived.Test.YtadfcplobidmeaaDoorPrintx16
namespace Go.Proofs.YtadfcplobidmeaaDoor.Pure
open Go.RowKit Go.Proofs.YtadfcplobidmeaaDoor.Print Go.Proofs.YtadfcplobidmeaaDoorW.PrintWords Go.Proofs.YtadfcplobidmeaaDoorW.PrintLast Go.Proofs.YtadfcplobidmeaaDoorW.PrintMore
/-- how many numbers below m are not in the set. -/
def rk (s : Nat) : Nat → Nat
  | 0 => 0
  | m + 1 => if s.testBit m = true then rk s m else rk s m + 1
theorem rk_le (s : Nat) : ∀ m, rk s m ≤ m
  | 0 => Nat.le_refl _
  | m + 1 => by
    have := rk_le s m
    simp only [rk]
    split <;> omega
theorem rk_step (s m : Nat) : rk s m ≤ rk s (m + 1) := by
  simp only [rk]
  split <;> omega
theorem rk_mono (s : Nat) {a : Nat} : ∀ d, rk s a ≤ rk s (a + d)
  | 0 => Nat.le_refl _
  | d + 1 => Nat.le_trans (rk_mono s d) (rk_step s (a + d))
theorem rk_lt {s i k : Nat} (hi : s.testBit i = false) (h : i < k) : rk s i < rk s k := by
  have h1 : rk s (i + 1) = rk s i + 1 := by simp only [rk]; rw [if_neg (by rw [hi]; decide)]
  obtain ⟨d, rfl⟩ : ∃ d, k = (i + 1) + d := ⟨k - (i + 1), by omega⟩
  have := rk_mono s (a := i + 1) d
  omega
theorem rk_inj {s i k : Nat} (hi : s.testBit i = false) (hk : s.testBit k = false) (h : rk s i = rk s k) : i = k := by
  rcases Nat.lt_trichotomy i k with h1 | h1 | h1
  · have := rk_lt hi h1; omega
  · exact h1
  · have := rk_lt hk h1; omega
theorem rk_surj (s : Nat) : ∀ m j, j < rk s m → ∃ i, i < m ∧ s.testBit i = false ∧ rk s i = j
  | 0, j, h => absurd h (Nat.not_lt_zero _)
  | m + 1, j, h => by
    simp only [rk] at h
    by_cases c : s.testBit m = true
    · rw [if_pos c] at h
      obtain ⟨i, h1, h2⟩ := rk_surj s m j h
      exact ⟨i, by omega, h2⟩
    · rw [if_neg c] at h
      by_cases e : j < rk s m
      · obtain ⟨i, h1, h2⟩ := rk_surj s m j e
        exact ⟨i, by omega, h2⟩
      · exact ⟨m, by omega, Bool.eq_false_iff.2 c, by omega⟩
/-- the bits of r without those of the set. -/
def cmp (s r : Nat) : Nat → Nat
  | 0 => 0
  | m + 1 => if s.testBit m = true then cmp s r m else cmp s r m + (r.testBit m).toNat * 2 ^ rk s m
theorem cmp_lt (s r : Nat) : ∀ m, cmp s r m < 2 ^ rk s m
  | 0 => by simp [cmp, rk]
  | m + 1 => by
    have := cmp_lt s r m
    simp only [cmp, rk]
    by_cases c : s.testBit m = true
    · rw [if_pos c, if_pos c]; exact this
    · rw [if_neg c, if_neg c, Nat.pow_succ]
      cases r.testBit m
      · simp only [Bool.toNat_false]; omega
      · simp only [Bool.toNat_true]; omega
theorem cmp_bit (s r : Nat) : ∀ m i, i < m → s.testBit i = false → (cmp s r m).testBit (rk s i) = r.testBit i
  | 0, i, h, _ => absurd h (Nat.not_lt_zero _)
  | m + 1, i, h, hs => by
    simp only [cmp]
    by_cases c : s.testBit m = true
    · rw [if_pos c]
      have : i ≠ m := fun e => by rw [← e, hs] at c; exact absurd c (by decide)
      exact cmp_bit s r m i (by omega) hs
    · rw [if_neg c]
      have hc := cmp_lt s r m
      have e : cmp s r m + (r.testBit m).toNat * 2 ^ rk s m = if r.testBit m = true then cmp s r m ||| 2 ^ rk s m else cmp s r m := by
        cases r.testBit m
        · simp
        · rw [if_pos rfl, Bool.toNat_true, Nat.one_mul, orAdd hc]
      rw [e]
      by_cases e2 : i = m
      · subst e2
        have h0 : (cmp s r i).testBit (rk s i) = false := Nat.testBit_lt_two_pow hc
        cases hb : r.testBit i
        · rw [if_neg (by decide), h0]
        · rw [if_pos rfl, or_bit, decide_eq_true rfl, Bool.or_true]
      · have h1 := cmp_bit s r m i (by omega) hs
        have h2 := rk_lt hs (show i < m by omega)
        cases hb : r.testBit m
        · rw [if_neg (by decide), h1]
        · rw [if_pos rfl, or_bit, h1, decide_eq_false (show ¬ rk s m = rk s i by omega), Bool.or_false]
/-- the rows of the shop without the set. -/
def wl (l : List Int) (s : Nat) : Nat → List Int
  | 0 => []
  | m + 1 => if s.testBit m = true then wl l s m else wl l s m ++ [((cmp s (row l m) l.length : Nat) : Int)]
theorem wl_len (l : List Int) (s : Nat) : ∀ m, (wl l s m).length = rk s m
  | 0 => rfl
  | m + 1 => by
    simp only [wl, rk]
    split
    · exact wl_len l s m
    · rw [List.length_append, wl_len l s m]; rfl
theorem wl_get (l : List Int) (s : Nat) : ∀ m i, i < m → s.testBit i = false → (wl l s m).getD (rk s i) 0 = ((cmp s (row l i) l.length : Nat) : Int)
  | 0, i, h, _ => absurd h (Nat.not_lt_zero _)
  | m + 1, i, h, hs => by
    simp only [wl]
    by_cases c : s.testBit m = true
    · rw [if_pos c]
      have : i ≠ m := fun e => by rw [← e, hs] at c; exact absurd c (by decide)
      exact wl_get l s m i (by omega) hs
    · rw [if_neg c]
      have hl := wl_len l s m
      by_cases e2 : i = m
      · subst e2
        rw [List.getD_eq_getElem?_getD, List.getElem?_append_right (by omega), hl, Nat.sub_self]
        rfl
      · have h2 := rk_lt hs (show i < m by omega)
        rw [List.getD_eq_getElem?_getD, List.getElem?_append_left (by omega), ← List.getD_eq_getElem?_getD]
        exact wl_get l s m i (by omega) hs
def small (l : List Int) (s : Nat) : List Int := wl l s l.length
theorem small_len (l : List Int) (s : Nat) : (small l s).length = rk s l.length := wl_len l s _
theorem small_row {l : List Int} {s i : Nat} (hi : i < l.length) (hs : s.testBit i = false) : row (small l s) (rk s i) = cmp s (row l i) l.length := by
  unfold row small
  rw [wl_get l s _ i hi hs]
  rfl
theorem small_adj {l : List Int} {s i k : Nat} (hi : i < l.length) (hk : k < l.length) (hs : s.testBit i = false) (hs2 : s.testBit k = false) : adj (small l s) (rk s i) (rk s k) = adj l i k := by
  unfold adj
  rw [small_row hi hs, cmp_bit s _ _ k hk hs2]
theorem small_shop {l : List Int} (hS : Shop l) {s : Nat} (h : ∃ i, i < l.length ∧ s.testBit i = false) : Shop (small l s) := by
  have hl := hS.le
  have hr := rk_le s l.length
  have hlen := small_len l s
  obtain ⟨i0, hi0, hs0⟩ := h
  have h0 := rk_lt hs0 hi0
  refine ⟨by omega, by omega, fun j hj => ?_, fun j j' hj hj' => ?_⟩
  · obtain ⟨i, hi, hs, rfl⟩ := rk_surj s l.length j (by omega)
    refine ⟨?_, ?_, ?_⟩
    · unfold small
      rw [wl_get l s _ i hi hs]
      exact Int.natCast_nonneg _
    · have := cmp_lt s (row l i) l.length
      rw [hlen]
      unfold small
      rw [wl_get l s _ i hi hs]
      exact Int.ofNat_lt.2 this
    · rw [small_adj hi hi hs hs, hS.irr hi]
  · obtain ⟨i, hi, hs, rfl⟩ := rk_surj s l.length j (by omega)
    obtain ⟨k, hk, hs2, rfl⟩ := rk_surj s l.length j' (by omega)
    rw [small_adj hi hk hs hs2, small_adj hk hi hs2 hs, hS.sym i k hi hk]
/-- a matching is carried to other names. -/
theorem Mt.map {l l' : List Int} (f : Nat → Nat) {T m : Nat} (h : Mt l T m) : ∀ T', (∀ i, T.testBit i = true → T'.testBit (f i) = true) → (∀ i k, T.testBit i = true → T.testBit k = true → f i = f k → i = k) →
    (∀ i k, T.testBit i = true → T.testBit k = true → adj l i k = true → adj l' (f i) (f k) = true) → Mt l' T' m := by
  induction h with
  | nil S => exact fun T' _ _ _ => Mt.nil T'
  | cons S a b m ha hb hab h ih =>
    intro T' h1 h2 h3
    have sub : ∀ i, (sd S (2 ^ a ||| 2 ^ b)).testBit i = true → S.testBit i = true ∧ a ≠ i ∧ b ≠ i := fun i hi => by
      rw [sd_bit, two_bit] at hi
      simpa using hi
    refine Mt.cons T' (f a) (f b) m (h1 a ha) (h1 b hb) (h3 a b ha hb hab) (ih _ (fun i hi => ?_) (fun i k hi hk => h2 i k (sub i hi).1 (sub k hk).1) (fun i k hi hk => h3 i k (sub i hi).1 (sub k hk).1))
    obtain ⟨q1, q2, q3⟩ := sub i hi
    rw [sd_bit, two_bit, h1 i q1, decide_eq_false (fun e => q2 (h2 a i ha q1 e)), decide_eq_false (fun e => q3 (h2 b i hb q1 e))]
    rfl
theorem small_nu {l : List Int} (hS : Shop l) {s T T' : Nat} (h : ∃ i, i < l.length ∧ s.testBit i = false) (hT : T < 2 ^ l.length) (hT' : T' < 2 ^ (small l s).length) (hd : ∀ i, T.testBit i = true → s.testBit i = false)
    (he : ∀ i, i < l.length → s.testBit i = false → T'.testBit (rk s i) = T.testBit i) : nu (small l s) T' = nu l T := by
  have hS' := small_shop hS h
  have hlen := small_len l s
  apply Nat.le_antisymm
  · refine (nu_mt hS T hT).2 _ ((nu_mt hS' T' hT').1.map (fun j => if hj : j < rk s l.length then Classical.choose (rk_surj s l.length j hj) else 0) T ?_ ?_ ?_)
    · intro j hj
      have hjl := bit_lt hT' hj
      rw [hlen] at hjl
      simp only [dif_pos hjl]
      obtain ⟨q1, q2, q3⟩ := Classical.choose_spec (rk_surj s l.length j hjl)
      rw [← he _ q1 q2, q3, hj]
    · intro j j' hj hj' e
      have hjl := bit_lt hT' hj
      have hjl' := bit_lt hT' hj'
      rw [hlen] at hjl hjl'
      simp only [dif_pos hjl, dif_pos hjl'] at e
      have q := (Classical.choose_spec (rk_surj s l.length j hjl)).2.2
      have q' := (Classical.choose_spec (rk_surj s l.length j' hjl')).2.2
      rw [← q, ← q', e]
    · intro j j' hj hj' e
      have hjl := bit_lt hT' hj
      have hjl' := bit_lt hT' hj'
      rw [hlen] at hjl hjl'
      simp only [dif_pos hjl, dif_pos hjl']
      obtain ⟨q1, q2, q3⟩ := Classical.choose_spec (rk_surj s l.length j hjl)
      obtain ⟨r1, r2, r3⟩ := Classical.choose_spec (rk_surj s l.length j' hjl')
      rw [← small_adj q1 r1 q2 r2, q3, r3, e]
  · refine (nu_mt hS' T' hT').2 _ ((nu_mt hS T hT).1.map (rk s) T' ?_ ?_ ?_)
    · intro i hi
      rw [he i (bit_lt hT hi) (hd i hi), hi]
    · exact fun i k hi hk e => rk_inj (hd i hi) (hd k hk) e
    · intro i k hi hk e
      rw [small_adj (bit_lt hT hi) (bit_lt hT hk) (hd i hi) (hd k hk), e]
theorem wshl (b : Bool) {j : Nat} (hj : j ≤ 10) : shl .i64 ((b.toNat : Nat) : Int) (j : Int) = ((b.toNat * 2 ^ j : Nat) : Int) := by
  cases b
  · unfold shl
    rw [Bool.toNat_false, Nat.zero_mul]
    show IntKind.i64.wrap (0 * _) = 0
    rw [Int.zero_mul]; rfl
  · rw [Bool.toNat_true, Nat.one_mul]
    exact bShl j (by omega)
theorem with_l1 {l : List Int} (hS : Shop l) (s i : Nat) (hi : i < l.length) (out r : List Int) (F : Nat) (ho : out.length ≤ 100)
    (hv : ∀ k, F ≤ k → clocheref03_Without.l0 k l (s : Int) (out ++ [((cmp s (row l i) l.length : Nat) : Int)]) ((i + 1 : Nat) : Int) = some r) :
    ∀ (m j k : Nat), j + m = l.length → F + m + 1 ≤ k → clocheref03_Without.l1 k l (s : Int) out (i : Int) ((cmp s (row l i) j : Nat) : Int) ((rk s j : Nat) : Int) (j : Int) = some r
  | 0, j, k, hj, hk => by
    obtain ⟨k, rfl, _⟩ := succK (show 0 < k by omega)
    obtain rfl : j = l.length := by omega
    have hl := hS.le
    rw [clocheref03_Without.l1, if_neg (by omega), if_pos (by omega), inc64 i (by omega), hv k (by omega)]
  | m + 1, j, k, hj, hk => by
    obtain ⟨k, rfl, _⟩ := succK (show 0 < k by omega)
    have hl := hS.le
    have hrk := rk_le s j
    have hrec := with_l1 hS s i hi out r F ho hv m (j + 1) k (by omega) (by omega)
    have hcl := cmp_lt s (row l i) j
    have hcl2 := cmp_lt s (row l i) (j + 1)
    have hrk2 := rk_le s (j + 1)
    have p1 : 2 ^ rk s j ≤ 2 ^ 10 := Nat.pow_le_pow_right (by decide) (by omega)
    have p2 : 2 ^ rk s (j + 1) ≤ 2 ^ 10 := Nat.pow_le_pow_right (by decide) (by omega)
    simp only [cmp, rk] at hrec hcl2
    rw [clocheref03_Without.l1, if_pos (by omega), if_pos (by omega), bitT s j (by omega), inc64 j (by omega)]
    by_cases c : s.testBit j = true
    · rw [if_pos c, if_pos c] at hrec
      rw [c, if_neg (by decide)]
      exact hrec
    · rw [if_neg c, if_neg c] at hrec
      rw [if_neg c, if_neg c] at hcl2
      rw [Bool.eq_false_iff.2 c, if_pos (by decide), if_pos (by omega), if_pos (by omega), if_pos (by omega), rdn, hS.row hi, bitT _ j (by omega), wshl _ (by omega), inc64 (rk s j) (by omega)]
      generalize ((row l i).testBit j).toNat * 2 ^ rk s j = T at hrec hcl2 ⊢
      have hb : cmp s (row l i) j + T < 2 ^ 11 := Nat.lt_of_lt_of_le hcl2 (Nat.pow_le_pow_right (by decide) (by omega))
      generalize cmp s (row l i) j = C at hrec hb ⊢
      rw [w64 (by omega) (by omega), ← Int.natCast_add]
      exact hrec
theorem with_l0 {l : List Int} (hS : Shop l) (s : Nat) : ∀ (m i k : Nat), i + m = l.length → 20 * m + 1 ≤ k → clocheref03_Without.l0 k l (s : Int) (wl l s i) (i : Int) = some (small l s)
  | 0, i, k, hi, hk => by
    obtain ⟨k, rfl, _⟩ := succK (show 0 < k by omega)
    obtain rfl : i = l.length := by omega
    rw [clocheref03_Without.l0, if_neg (by omega)]
    rfl
  | m + 1, i, k, hi, hk => by
    obtain ⟨k, rfl, _⟩ := succK (show 0 < k by omega)
    have hl := hS.le
    have hlen := wl_len l s i
    have hrk := rk_le s i
    have hrec := fun k hk => with_l0 hS s m (i + 1) k (by omega) hk
    rw [clocheref03_Without.l0, if_pos (by omega), if_pos (by omega), bitT s i (by omega)]
    simp only [wl] at hrec
    by_cases c : s.testBit i = true
    · rw [if_pos c] at hrec
      rw [c, if_pos (by decide), inc64 i (by omega)]
      exact hrec k (by omega)
    · rw [if_neg c] at hrec
      rw [Bool.eq_false_iff.2 c, if_neg (by decide)]
      have := with_l1 hS s i (by omega) (wl l s i) (small l s) (20 * m + 1) (by omega) hrec l.length 0 k (by omega) (by omega)
      exact this
theorem Without_f {l : List Int} (hS : Shop l) (s k : Nat) (hk : 300 ≤ k) : clocheref03_Without.f k l (s : Int) = some (small l s) := by
  unfold clocheref03_Without.f
  have hl := hS.le
  exact with_l0 hS s l.length 0 k (by omega) (by omega)
end Go.Proofs.YtadfcplobidmeaaDoor.Pure
