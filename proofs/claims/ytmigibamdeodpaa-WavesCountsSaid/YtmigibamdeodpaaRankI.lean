/- Ranks by positions: At and Rank as functions on lists of positions, and that they undo each other. -/
import Derived.Test.YtmigibamdeodpaaBegins
namespace Go.Proofs.Ytmigibamdeodpaa.Pure
open Go.RowKit Go.Proofs.Ytmigibamdeodpaa.Print Go.Proofs.YtmigibamdeodpaaW.PrintWords Go.Proofs.YtmigibamdeodpaaW.PrintLast Go.Proofs.YtmigibamdeodpaaW.PrintMore
abbrev Adm := Option (Nat × Bool)
def admI (q : Adm) (j : Nat) : Bool := match q with
  | none => true
  | some (p, g) => decide (p ≤ j) == g
def sumA (m : Nat) (q : Adm) (up : Bool) (i : Nat) : Nat → Int
  | 0 => 0
  | n + 1 => (if admI q i then B m i up else 0) + sumA m q up (i + 1) n
theorem sumA_none (m : Nat) (up : Bool) : ∀ n i, sumA m none up i n = allB m up i n
  | 0, _ => rfl
  | n + 1, i => by
    show (if true = true then B m i up else 0) + sumA m none up (i + 1) n = B m i up + allB m up (i + 1) n
    rw [if_pos rfl, sumA_none m up n (i + 1)]
theorem sumA_some (m p : Nat) (g up : Bool) : ∀ n i, sumA m (some (p, g)) up i n = sumB m p g up i n
  | 0, _ => rfl
  | n + 1, i => by
    show (if (decide (p ≤ i) == g) = true then B m i up else 0) + sumA m (some (p, g)) up (i + 1) n = (if (decide (p ≤ i) == g) = true then B m i up else 0) + sumB m p g up (i + 1) n
    rw [sumA_some m p g up n (i + 1)]
def total (m : Nat) (q : Adm) (up : Bool) : Int := if m = 0 then 1 else sumA m q up 0 m
theorem total_next {m k : Nat} (hm : m + 1 ≤ 10) (hk : k < m + 1) (up : Bool) : B (m + 1) k up = total m (some (k, up)) (!up) := by
  rw [recur hm hk up]
  unfold total
  by_cases h : m = 0
  · subst h; rfl
  · rw [if_neg (by omega), if_neg h, sumA_some]
    rfl
theorem sumA_nonneg {m : Nat} (hm : m ≤ 10) (q : Adm) (up : Bool) : ∀ n i, i + n ≤ m → 0 ≤ sumA m q up i n
  | 0, _, _ => Int.le_refl _
  | n + 1, i, h => by
    have h1 := sumA_nonneg hm q up n (i + 1) (by omega)
    have h2 := (begins_f hm (show i < m by omega) up).2.1
    simp only [sumA]
    split <;> omega
theorem sumA_split (m : Nat) (q : Adm) (up : Bool) : ∀ a b i, sumA m q up i (a + b) = sumA m q up i a + sumA m q up (i + a) b
  | 0, b, i => by
    rw [Nat.zero_add, Nat.add_zero]
    simp only [sumA]
    omega
  | a + 1, b, i => by
    have := sumA_split m q up a b (i + 1)
    rw [show a + 1 + b = (a + b) + 1 by omega]
    simp only [sumA]
    rw [this, show i + 1 + a = i + (a + 1) by omega]
    omega
def findK (m : Nat) (q : Adm) (up : Bool) (k : Nat) : Nat → Int → Option (Nat × Int)
  | 0, _ => none
  | n + 1, r => if admI q k then (if r < B m k up then some (k, r) else findK m q up (k + 1) n (r - B m k up)) else findK m q up (k + 1) n r
theorem find_spec {m : Nat} (hm : m ≤ 10) (q : Adm) (up : Bool) : ∀ n k r, k + n ≤ m → 0 ≤ r → r < sumA m q up k n → ∃ a r', findK m q up k n r = some (k + a, r') ∧ a < n ∧ admI q (k + a) = true ∧ 0 ≤ r' ∧ r' < B m (k + a) up ∧ r = sumA m q up k a + r'
  | 0, k, r, _, h0, h => by
    simp only [sumA] at h
    omega
  | n + 1, k, r, hk, h0, h => by
    simp only [sumA] at h
    simp only [findK]
    cases hb : admI q k
    · rw [if_neg (by decide)]
      rw [hb, if_neg (by decide)] at h
      obtain ⟨a, r', e, h1, h2, h3, h4, h5⟩ := find_spec hm q up n (k + 1) r (by omega) h0 (by omega)
      refine ⟨a + 1, r', by rw [e, show k + 1 + a = k + (a + 1) by omega], by omega, by rw [← h2, show k + 1 + a = k + (a + 1) by omega], h3, by rw [show k + (a + 1) = k + 1 + a by omega]; exact h4, ?_⟩
      simp only [sumA]
      rw [hb, if_neg (by decide)]
      omega
    · rw [if_pos rfl]
      rw [hb, if_pos rfl] at h
      by_cases hr : r < B m k up
      · rw [if_pos hr]
        exact ⟨0, r, rfl, by omega, hb, h0, hr, by simp [sumA]⟩
      · rw [if_neg hr]
        obtain ⟨a, r', e, h1, h2, h3, h4, h5⟩ := find_spec hm q up n (k + 1) (r - B m k up) (by omega) (by omega) (by omega)
        refine ⟨a + 1, r', by rw [e, show k + 1 + a = k + (a + 1) by omega], by omega, by rw [← h2, show k + 1 + a = k + (a + 1) by omega], h3, by rw [show k + (a + 1) = k + 1 + a by omega]; exact h4, ?_⟩
        simp only [sumA]
        rw [hb, if_pos rfl]
        omega
theorem find_conv {m : Nat} (hm : m ≤ 10) (q : Adm) (up : Bool) : ∀ n k a r' R, k + n ≤ m → a < n → admI q (k + a) = true → 0 ≤ r' → r' < B m (k + a) up → R = sumA m q up k a + r' → findK m q up k n R = some (k + a, r')
  | 0, k, a, r', R, _, ha, _, _, _, _ => by omega
  | n + 1, k, 0, r', R, hk, ha, hb, h0, h1, hR => by
    simp only [sumA] at hR
    simp only [findK]
    rw [Nat.add_zero] at hb h1
    rw [hb, if_pos rfl, if_pos (by omega), hR, Int.zero_add]
    rfl
  | n + 1, k, a + 1, r', R, hk, ha, hb, h0, h1, hR => by
    have e : k + (a + 1) = k + 1 + a := by omega
    rw [e] at hb h1
    have hs := sumA_nonneg hm q up a (k + 1) (by omega)
    simp only [sumA] at hR
    simp only [findK]
    cases hc : admI q k
    · rw [hc, if_neg (by decide)] at hR
      rw [if_neg (by decide), e]
      exact find_conv hm q up n (k + 1) a r' R (by omega) (by omega) hb h0 h1 (by omega)
    · rw [hc, if_pos rfl] at hR
      rw [if_pos rfl, if_neg (by omega), e]
      exact find_conv hm q up n (k + 1) a r' _ (by omega) (by omega) hb h0 h1 (by omega)
def atI : Nat → Adm → Bool → Int → List Nat
  | 0, _, _, _ => []
  | m + 1, q, up, r => match findK (m + 1) q up 0 (m + 1) r with
    | some (k, r') => k :: atI m (some (k, up)) (!up) r'
    | none => []
def rkI : Nat → Adm → Bool → List Nat → Int
  | 0, _, _, _ => 0
  | _ + 1, _, _, [] => 0
  | m + 1, q, up, k :: ks => sumA (m + 1) q up 0 k + rkI m (some (k, up)) (!up) ks
def Valid : Nat → Adm → Bool → List Nat → Prop
  | 0, _, _, ks => ks = []
  | _ + 1, _, _, [] => False
  | m + 1, q, up, k :: ks => k < m + 1 ∧ admI q k = true ∧ Valid m (some (k, up)) (!up) ks
theorem at_rank : ∀ m, m ≤ 10 → ∀ q up r, 0 ≤ r → r < total m q up → Valid m q up (atI m q up r) ∧ rkI m q up (atI m q up r) = r
  | 0, _, q, up, r, h0, h => by
    refine ⟨rfl, ?_⟩
    simp only [total, if_true] at h
    show (0 : Int) = r
    omega
  | m + 1, hm, q, up, r, h0, h => by
    unfold total at h
    rw [if_neg (by omega)] at h
    obtain ⟨a, r', e, h1, h2, h3, h4, h5⟩ := find_spec hm q up (m + 1) 0 r (by omega) h0 h
    rw [Nat.zero_add] at e h2 h4
    rw [total_next hm h1] at h4
    obtain ⟨ih1, ih2⟩ := at_rank m (by omega) (some (a, up)) (!up) r' h3 h4
    simp only [atI]
    rw [e]
    refine ⟨⟨h1, h2, ih1⟩, ?_⟩
    simp only [rkI]
    rw [ih2, h5]
theorem sum_le {m : Nat} (hm : m ≤ 10) (q : Adm) (up : Bool) {a : Nat} (ha : a < m) (hb : admI q a = true) : sumA m q up 0 a + B m a up ≤ sumA m q up 0 m := by
  have h1 := sumA_split m q up a (m - a) 0
  have h2 := sumA_nonneg hm q up (m - a - 1) (a + 1) (by omega)
  rw [show a + (m - a) = m by omega, Nat.zero_add] at h1
  obtain ⟨d, hd⟩ : ∃ d, m - a = d + 1 := ⟨m - a - 1, by omega⟩
  rw [hd] at h1
  simp only [sumA] at h1
  rw [hb, if_pos rfl] at h1
  rw [show m - a - 1 = d by omega] at h2
  omega
theorem rank_at : ∀ m, m ≤ 10 → ∀ q up ks, Valid m q up ks → 0 ≤ rkI m q up ks ∧ rkI m q up ks < total m q up ∧ atI m q up (rkI m q up ks) = ks
  | 0, _, q, up, ks, h => by
    obtain rfl : ks = [] := h
    exact ⟨Int.le_refl _, by simp [total, rkI], rfl⟩
  | m + 1, hm, q, up, [], h => absurd h (by simp [Valid])
  | m + 1, hm, q, up, k :: ks, h => by
    obtain ⟨h1, h2, h3⟩ := h
    obtain ⟨i1, i2, i3⟩ := rank_at m (by omega) _ _ ks h3
    rw [← total_next hm h1] at i2
    have hs := sumA_nonneg hm q up k 0 (by omega)
    have hl := sum_le hm q up h1 h2
    simp only [rkI]
    refine ⟨by omega, ?_, ?_⟩
    · unfold total
      rw [if_neg (by omega)]
      omega
    · have hc := find_conv hm q up (m + 1) 0 k (rkI m (some (k, up)) (!up) ks) _ (by omega) h1 (by rw [Nat.zero_add]; exact h2) i1 (by rw [Nat.zero_add]; exact i2) rfl
      rw [Nat.zero_add] at hc
      simp only [atI]
      rw [hc]
      simp only [i3]
/-- The first difference tells the order. -/
theorem rank_lt : ∀ m, m ≤ 10 → ∀ q up (pre : List Nat) a b t t', Valid m q up (pre ++ a :: t) → Valid m q up (pre ++ b :: t') → a < b → rkI m q up (pre ++ a :: t) < rkI m q up (pre ++ b :: t')
  | 0, _, q, up, pre, a, b, t, t', h, _, _ => by
    have h : pre ++ a :: t = [] := h
    simp at h
  | m + 1, hm, q, up, [], a, b, t, t', h, h', hab => by
    obtain ⟨h1, h2, h3⟩ := h
    obtain ⟨g1, g2, g3⟩ := h'
    obtain ⟨i1, i2, _⟩ := rank_at m (by omega) _ _ t h3
    obtain ⟨j1, _, _⟩ := rank_at m (by omega) _ _ t' g3
    rw [← total_next hm h1] at i2
    show sumA (m + 1) q up 0 a + rkI m (some (a, up)) (!up) t < sumA (m + 1) q up 0 b + rkI m (some (b, up)) (!up) t'
    have e := sumA_split (m + 1) q up a (b - a) 0
    rw [show a + (b - a) = b by omega, Nat.zero_add] at e
    obtain ⟨d, hd⟩ : ∃ d, b - a = d + 1 := ⟨b - a - 1, by omega⟩
    have h5 := sumA_nonneg hm q up d (a + 1) (by omega)
    rw [hd] at e
    simp only [sumA] at e
    rw [h2, if_pos rfl] at e
    omega
  | m + 1, hm, q, up, c :: pre, a, b, t, t', h, h', hab => by
    have := rank_lt m (by omega) (some (c, up)) (!up) pre a b t t' h.2.2 h'.2.2 hab
    show sumA (m + 1) q up 0 c + rkI m (some (c, up)) (!up) (pre ++ a :: t) < sumA (m + 1) q up 0 c + rkI m (some (c, up)) (!up) (pre ++ b :: t')
    omega
theorem valid_length : ∀ m q up ks, Valid m q up ks → ks.length = m
  | 0, _, _, ks, h => by obtain rfl : ks = [] := h; rfl
  | m + 1, _, _, [], h => absurd h (by simp [Valid])
  | m + 1, _, _, k :: ks, h => by
    have := valid_length m _ _ ks h.2.2
    simp [this]
end Go.Proofs.Ytmigibamdeodpaa.Pure
