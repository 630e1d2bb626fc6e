/- The specification's rank: how many waves that begin so are less than a wave. -/
import Derived.Test.YtmigibamdeodpaaSearchL
import Derived.Test.YtmigibamdeodpaaPrintx12
namespace Go.Proofs.Ytmigibamdeodpaa.Pure
open Go.RowKit Go.Proofs.Ytmigibamdeodpaa.Print Go.Proofs.YtmigibamdeodpaaW.PrintWords Go.Proofs.YtmigibamdeodpaaW.PrintLast Go.Proofs.YtmigibamdeodpaaW.PrintMore
theorem sumA_le_total' {m : Nat} (hm : m ≤ 10) (h0 : 0 < m) (q : Adm) (up : Bool) {kk : Nat} (hk : kk ≤ m) : sumA m q up 0 kk ≤ total m q up := by
  have h1 := sumA_split m q up kk (m - kk) 0
  have h2 := sumA_nonneg hm q up (m - kk) (0 + kk) (by omega)
  rw [show kk + (m - kk) = m by omega] at h1
  unfold total
  rw [if_neg (by omega)]
  omega
theorem sumA_succ' (m : Nat) (q : Adm) (up : Bool) (kk : Nat) : sumA m q up 0 (kk + 1) = sumA m q up 0 kk + if admI q kk then B m kk up else 0 := by
  have h1 := sumA_split m q up kk 1 0
  rw [h1, Nat.zero_add]
  simp only [sumA, Int.add_zero]
theorem sumA_le {m : Nat} (hm : m ≤ 10) (q : Adm) (up : Bool) : ∀ n i, i + n ≤ m → sumA m q up i n ≤ 100000 * n
  | 0, _, _ => by simp [sumA]
  | n + 1, i, h => by
    have h1 := sumA_le hm q up n (i + 1) (by omega)
    have h2 := (begins_f hm (show i < m by omega) up).2
    simp only [sumA]
    split <;> omega
theorem total_le {m : Nat} (hm : m ≤ 10) (q : Adm) (up : Bool) : 0 ≤ total m q up ∧ total m q up ≤ 1000000 := by
  unfold total
  have h1 := sumA_le hm q up m 0 (by omega)
  have h2 := sumA_nonneg hm q up m 0 (by omega)
  split <;> omega
/-- Less, greater, or the same so far with these positions to come. -/
inductive Cm where
  | lt | gt
  | eq (ks : List Nat)
def valC (m : Nat) (q : Adm) (up : Bool) : Cm → Int
  | .lt => total m q up
  | .gt => 0
  | .eq ks => rkI m q up ks
def stC : Cm → Nat → Cm
  | .lt, _ => .lt
  | .gt, _ => .gt
  | .eq [], _ => .gt
  | .eq (k :: ks), i => if i < k then .lt else if i = k then .eq ks else .gt
/-- The sum behind the first positions. -/
def prefC (m : Nat) (q : Adm) (up : Bool) (i : Nat) : Cm → Int
  | .lt => sumA m q up 0 i
  | .gt => 0
  | .eq [] => 0
  | .eq (k :: ks) => if i ≤ k then sumA m q up 0 i else sumA m q up 0 k + rkI (m - 1) (some (k, up)) (!up) ks
def okC (m : Nat) (q : Adm) (up : Bool) : Cm → Prop
  | .eq ks => Valid m q up ks
  | _ => True
theorem prefC_zero (m : Nat) (q : Adm) (up : Bool) (c : Cm) : prefC m q up 0 c = 0 := by
  cases c with
  | lt => rfl
  | gt => rfl
  | eq ks =>
    cases ks with
    | nil => rfl
    | cons k ks =>
      simp only [prefC]
      rw [if_pos (Nat.zero_le _)]
      rfl
theorem prefC_succ {m : Nat} (hm : m + 1 ≤ 10) (q : Adm) (up : Bool) (c : Cm) (h : okC (m + 1) q up c) {i : Nat} (hi : i < m + 1) : prefC (m + 1) q up (i + 1) c = prefC (m + 1) q up i c + if admI q i then valC m (some (i, up)) (!up) (stC c i) else 0 := by
  have ht := total_next hm hi up
  have hs := sumA_succ' (m + 1) q up i
  rw [ht] at hs
  cases c with
  | lt => exact hs
  | gt =>
    simp only [prefC, stC, valC]
    split <;> rfl
  | eq ks =>
    cases ks with
    | nil => exact absurd h (by simp [okC, Valid])
    | cons k ks =>
      obtain ⟨h1, h2, h3⟩ := h
      simp only [prefC, stC, Nat.add_sub_cancel]
      rcases Nat.lt_trichotomy i k with c | c | c
      · rw [if_pos (by omega), if_pos (by omega), if_pos c]
        exact hs
      · subst c
        rw [if_neg (show ¬ i + 1 ≤ i by omega), if_pos (Nat.le_refl i), if_neg (show ¬ i < i by omega), if_pos (show i = i from rfl), h2, if_pos rfl]
        rfl
      · rw [if_neg (show ¬ i + 1 ≤ k by omega), if_neg (show ¬ i ≤ k by omega), if_neg (show ¬ i < k by omega), if_neg (show ¬ i = k by omega)]
        simp only [valC]
        split <;> omega
theorem prefC_full (m : Nat) (q : Adm) (up : Bool) (c : Cm) (h : okC (m + 1) q up c) : prefC (m + 1) q up (m + 1) c = valC (m + 1) q up c := by
  cases c with
  | lt =>
    simp only [prefC, valC]
    unfold total
    rw [if_neg (by omega)]
  | gt => rfl
  | eq ks =>
    cases ks with
    | nil => exact absurd h (by simp [okC, Valid])
    | cons k ks =>
      obtain ⟨h1, _⟩ := h
      simp only [prefC, valC, rkI, Nat.add_sub_cancel]
      rw [if_neg (by omega)]
theorem valC_le {m : Nat} (hm : m ≤ 10) (q : Adm) (up : Bool) (c : Cm) (h : okC m q up c) : 0 ≤ valC m q up c ∧ valC m q up c ≤ 1000000 := by
  have ht := total_le hm q up
  cases c with
  | lt => exact ht
  | gt =>
    show (0 : Int) ≤ 0 ∧ (0 : Int) ≤ 1000000
    decide
  | eq ks =>
    have := rank_at m hm q up ks h
    show 0 ≤ rkI m q up ks ∧ rkI m q up ks ≤ 1000000
    omega
theorem okC_step {m : Nat} {q : Adm} {up : Bool} {c : Cm} (h : okC (m + 1) q up c) (i : Nat) : okC m (some (i, up)) (!up) (stC c i) := by
  cases c with
  | lt => trivial
  | gt => trivial
  | eq ks =>
    cases ks with
    | nil => trivial
    | cons k ks =>
      obtain ⟨h1, h2, h3⟩ := h
      simp only [stC]
      split
      · trivial
      · split
        · rename_i e
          subst e
          exact h3
        · trivial
theorem prefC_le {m : Nat} (hm : m + 1 ≤ 10) (q : Adm) (up : Bool) (c : Cm) (h : okC (m + 1) q up c) : ∀ i, i ≤ m + 1 → 0 ≤ prefC (m + 1) q up i c ∧ prefC (m + 1) q up i c ≤ 1000000 * i
  | 0, _ => by rw [prefC_zero]; omega
  | i + 1, hi => by
    have ih := prefC_le hm q up c h i (by omega)
    have hv := valC_le (by omega) (some (i, up)) (!up) (stC c i) (okC_step h i)
    rw [prefC_succ hm q up c h (by omega)]
    split <;> omega
/-- How the numbers so far stand to the wave. -/
def RelC (w now left : List Int) : Cm → Prop
  | .lt => ∃ j, j < now.length ∧ (∀ i, i < j → now.getD i 0 = w.getD i 0) ∧ now.getD j 0 < w.getD j 0
  | .gt => ∃ j, j < now.length ∧ (∀ i, i < j → now.getD i 0 = w.getD i 0) ∧ w.getD j 0 < now.getD j 0
  | .eq ks => (∀ i, i < now.length → now.getD i 0 = w.getD i 0) ∧ w.drop now.length = dec left ks
theorem app_lo (now : List Int) (x : Int) {j : Nat} (hj : j < now.length) : (now ++ [x]).getD j 0 = now.getD j 0 := by
  rw [List.getD_eq_getElem?_getD, List.getElem?_append_left hj, List.getD_eq_getElem?_getD]
theorem app_at (now : List Int) (x : Int) : (now ++ [x]).getD now.length 0 = x := by
  simp [List.getD_eq_getElem?_getD]
theorem RelC.step {w now left : List Int} {c : Cm} {m : Nat} {q : Adm} {up : Bool} (h : RelC w now left c) (ho : okC (m + 1) q up c) (ha : Asc left) (hl : left.length = m + 1) {i : Nat} (hi : i < left.length) : RelC w (now ++ [left.getD i 0]) (left.eraseIdx i) (stC c i) := by
  have hL : (now ++ [left.getD i 0]).length = now.length + 1 := by simp
  cases c with
  | lt =>
    obtain ⟨j, h1, h2, h3⟩ := h
    exact ⟨j, by omega, fun i hi => by rw [app_lo _ _ (by omega)]; exact h2 i hi, by rw [app_lo _ _ h1]; exact h3⟩
  | gt =>
    obtain ⟨j, h1, h2, h3⟩ := h
    exact ⟨j, by omega, fun i hi => by rw [app_lo _ _ (by omega)]; exact h2 i hi, by rw [app_lo _ _ h1]; exact h3⟩
  | eq ks =>
    cases ks with
    | nil => exact absurd ho (by simp [okC, Valid])
    | cons k ks =>
      obtain ⟨h1, h2⟩ := h
      obtain ⟨k1, k2, k3⟩ := ho
      simp only [dec] at h2
      have hw : w.getD now.length 0 = left.getD k 0 := by
        have := congrArg (fun z => z.getD 0 0) h2
        simp only [List.getD_cons_zero] at this
        rw [← this, List.getD_eq_getElem?_getD, List.getD_eq_getElem?_getD, List.getElem?_drop, Nat.add_zero]
      simp only [stC]
      rcases Nat.lt_trichotomy i k with c | c | c
      · rw [if_pos c]
        refine ⟨now.length, by omega, fun j hj => by rw [app_lo _ _ hj]; exact h1 j hj, ?_⟩
        rw [app_at, hw]
        exact ha i k c (by omega)
      · subst c
        rw [if_neg (by omega), if_pos rfl]
        refine ⟨fun j hj => ?_, ?_⟩
        · rw [hL] at hj
          rcases Nat.lt_or_eq_of_le (Nat.le_of_lt_succ hj) with c | c
          · rw [app_lo _ _ c]
            exact h1 j c
          · rw [c, app_at, hw]
        · rw [hL]
          have := congrArg List.tail h2
          rw [List.tail_drop, List.tail_cons] at this
          exact this
      · rw [if_neg (by omega), if_neg (by omega)]
        refine ⟨now.length, by omega, fun j hj => by rw [app_lo _ _ hj]; exact h1 j hj, ?_⟩
        rw [app_at, hw]
        exact ha k i c (by omega)
theorem less_go (a b : List Int) (hl : a.length = b.length) (h60 : a.length ≤ 60) : ∀ d k (i j : Nat), i + d = j → j ≤ a.length → (∀ t, t < j → a.getD t 0 = b.getD t 0) → 2 * d + 2 ≤ k → clocheref05_less.l0 k a b i = clocheref05_less.l0 (k - 2 * d) a b j
  | 0, k, i, j, h, _, _, _ => by
    obtain rfl : i = j := by omega
    rfl
  | d + 1, k, i, j, h, hj, he, hk => by
    obtain ⟨K, rfl⟩ : ∃ K, k = K + 2 := ⟨k - 2, by omega⟩
    have e1 : wrap64 ((i : Int) + 1) = ((i + 1 : Nat) : Int) := by rw [w64 (by omega) (by omega)]; omega
    have ih := less_go a b hl h60 d K (i + 1) j (by omega) hj he (by omega)
    have c1 : (i : Int) < (a.length : Int) := by omega
    have c2 : (i : Int) < (b.length : Int) := by omega
    have c0 : (0 : Int) ≤ (i : Int) := by omega
    have s1 : clocheref05_less.l0 (K + 1 + 1) a b i = clocheref05_less.j1 (K + 1) a b i (decide ((i : Int) < (b.length : Int))) := by
      show (if (i : Int) < (a.length : Int) then (clocheref05_less.j1 (K + 1) a b i (decide ((i : Int) < (b.length : Int)))) else (clocheref05_less.j1 (K + 1) a b i false)) = _
      rw [if_pos c1]
    have s2 : clocheref05_less.j1 (K + 1) a b i true = clocheref05_less.l0 K a b ((i + 1 : Nat) : Int) := by
      simp only [clocheref05_less.j1]
      rw [if_pos trivial, if_pos c0, if_pos c1, if_pos c2, rdn, rdn, if_pos (he i (by omega)), e1]
    rw [decide_eq_true c2] at s1
    have e3 : K + 2 - 2 * (d + 1) = K - 2 * d := by omega
    rw [e3, ← ih]
    exact s1.trans s2
theorem less_f {a b : List Int} {c : Cm} (left : List Int) (hl : a.length = b.length) (h60 : a.length ≤ 60) (h : RelC b a left c) (k : Nat) (hk : 2 * a.length + 2 ≤ k) : clocheref05_less.f k a b = some (match c with | .lt => true | _ => false) := by
  unfold clocheref05_less.f
  have diff : ∀ j, j < a.length → (∀ i, i < j → a.getD i 0 = b.getD i 0) → a.getD j 0 ≠ b.getD j 0 → clocheref05_less.l0 k a b ((0 : Nat) : Int) = some (decide (a.getD j 0 < b.getD j 0)) := by
    intro j hj he hne
    rw [less_go a b hl h60 j k 0 j (by omega) (by omega) he (by omega)]
    obtain ⟨K, hK⟩ : ∃ K, k - 2 * j = K + 2 := ⟨k - 2 * j - 2, by omega⟩
    rw [hK]
    have c1 : (j : Int) < (a.length : Int) := by omega
    have c2 : (j : Int) < (b.length : Int) := by omega
    have c0 : (0 : Int) ≤ (j : Int) := by omega
    show (if (j : Int) < (a.length : Int) then (clocheref05_less.j1 (K + 1) a b j (decide ((j : Int) < (b.length : Int)))) else (clocheref05_less.j1 (K + 1) a b j false)) = _
    rw [if_pos c1, decide_eq_true c2]
    simp only [clocheref05_less.j1]
    rw [if_pos trivial, if_pos c0, if_pos c1, if_pos c2, rdn, rdn, if_neg hne]
  cases c with
  | lt =>
    obtain ⟨j, h1, h2, h3⟩ := h
    exact (diff j h1 h2 (by omega)).trans (by rw [decide_eq_true h3])
  | gt =>
    obtain ⟨j, h1, h2, h3⟩ := h
    exact (diff j h1 h2 (by omega)).trans (by rw [decide_eq_false (show ¬ a.getD j 0 < b.getD j 0 by omega)])
  | eq ks =>
    obtain ⟨h1, _⟩ := h
    refine (less_go a b hl h60 a.length k 0 a.length (by omega) (Nat.le_refl _) h1 hk).trans ?_
    obtain ⟨K, hK⟩ : ∃ K, k - 2 * a.length = K + 2 := ⟨k - 2 * a.length - 2, by omega⟩
    rw [hK]
    have c1 : ¬ (a.length : Int) < (a.length : Int) := by omega
    have c2 : ¬ (a.length : Int) < (b.length : Int) := by omega
    show (if (a.length : Int) < (a.length : Int) then (clocheref05_less.j1 (K + 1) a b a.length (decide ((a.length : Int) < (b.length : Int)))) else (clocheref05_less.j1 (K + 1) a b a.length false)) = _
    rw [if_neg c1]
    simp only [clocheref05_less.j1]
    rw [if_neg (by decide), decide_eq_false c2]
end Go.Proofs.Ytmigibamdeodpaa.Pure
