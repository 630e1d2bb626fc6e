/- andre: the code's (by the least and the greatest number) and the specification's (by going through) are the same. -/
import Derived.Test.YtmigibamdeodpaaBase
import Derived.Test.YtmigibamdeodpaaPrintx27
import Derived.Test.YtmigibamdeodpaaPrintx31
namespace Go.Proofs.Ytmigibamdeodpaa.Pure
open Go.RowKit Go.Proofs.Ytmigibamdeodpaa.Print Go.Proofs.YtmigibamdeodpaaW.PrintWords Go.Proofs.YtmigibamdeodpaaW.PrintLast Go.Proofs.YtmigibamdeodpaaW.PrintMore
def Low (l : List Int) (i a : Nat) : Prop := a < l.length ∧ (∀ j, j < i → l.getD a 0 ≤ l.getD j 0) ∧ ∀ j, j < a → l.getD a 0 < l.getD j 0
def High (l : List Int) (i a : Nat) : Prop := a < l.length ∧ (∀ j, j < i → l.getD j 0 ≤ l.getD a 0) ∧ ∀ j, j < a → l.getD j 0 < l.getD a 0
theorem Low.uniq {l : List Int} {a b : Nat} (h : Low l l.length a) (h2 : Low l l.length b) : a = b := by
  rcases Nat.lt_trichotomy a b with c | c | c
  · have := h2.2.2 a c
    have := h.2.1 b h2.1
    omega
  · exact c
  · have := h.2.2 b c
    have := h2.2.1 a h.1
    omega
theorem High.uniq {l : List Int} {a b : Nat} (h : High l l.length a) (h2 : High l l.length b) : a = b := by
  rcases Nat.lt_trichotomy a b with c | c | c
  · have := h2.2.2 a c
    have := h.2.1 b h2.1
    omega
  · exact c
  · have := h.2.2 b c
    have := h2.2.1 a h.1
    omega
theorem min_l0 (l : List Int) (hl : l.length ≤ 10) : ∀ n k (i : Nat) (m : Int), i + n = l.length → n < k → (∃ j, j < i ∧ l.getD j 0 = m) → (∀ j, j < i → m ≤ l.getD j 0) → ∃ r, slices_Min_int_int.l0 k l m i = some r ∧ (∃ j, j < l.length ∧ l.getD j 0 = r) ∧ ∀ j, j < l.length → r ≤ l.getD j 0
  | 0, k, i, m, h, hk, h1, h2 => by
    obtain ⟨k, rfl, _⟩ := succK hk
    obtain rfl : i = l.length := by omega
    refine ⟨m, ?_, h1, h2⟩
    simp only [slices_Min_int_int.l0]
    rw [if_neg (by omega)]
  | n + 1, k, i, m, h, hk, h1, h2 => by
    obtain ⟨k, rfl, _⟩ := succK hk
    have e2 : wrap64 ((i : Int) + 1) = ((i + 1 : Nat) : Int) := by rw [w64 (by omega) (by omega)]; omega
    simp only [slices_Min_int_int.l0]
    rw [if_pos (by omega), if_pos (by omega), rdn, e2]
    obtain ⟨j0, hj0, hj1⟩ := h1
    refine min_l0 l hl n k (i + 1) _ (by omega) (by omega) ?_ ?_
    · unfold mn
      split
      · first | exact ⟨i, by omega, rfl⟩ | exact ⟨j0, by omega, hj1⟩
      · first | exact ⟨j0, by omega, hj1⟩ | exact ⟨i, by omega, rfl⟩
    · intro j hj
      have hc : j = i ∨ j < i := by omega
      unfold mn
      rcases hc with rfl | hc
      · split <;> omega
      · have := h2 j hc
        split <;> omega
theorem max_l0 (l : List Int) (hl : l.length ≤ 10) : ∀ n k (i : Nat) (m : Int), i + n = l.length → n < k → (∃ j, j < i ∧ l.getD j 0 = m) → (∀ j, j < i → l.getD j 0 ≤ m) → ∃ r, slices_Max_int_int.l0 k l m i = some r ∧ (∃ j, j < l.length ∧ l.getD j 0 = r) ∧ ∀ j, j < l.length → l.getD j 0 ≤ r
  | 0, k, i, m, h, hk, h1, h2 => by
    obtain ⟨k, rfl, _⟩ := succK hk
    obtain rfl : i = l.length := by omega
    refine ⟨m, ?_, h1, h2⟩
    simp only [slices_Max_int_int.l0]
    rw [if_neg (by omega)]
  | n + 1, k, i, m, h, hk, h1, h2 => by
    obtain ⟨k, rfl, _⟩ := succK hk
    have e2 : wrap64 ((i : Int) + 1) = ((i + 1 : Nat) : Int) := by rw [w64 (by omega) (by omega)]; omega
    simp only [slices_Max_int_int.l0]
    rw [if_pos (by omega), if_pos (by omega), rdn, e2]
    obtain ⟨j0, hj0, hj1⟩ := h1
    refine max_l0 l hl n k (i + 1) _ (by omega) (by omega) ?_ ?_
    · unfold mx
      split
      · first | exact ⟨i, by omega, rfl⟩ | exact ⟨j0, by omega, hj1⟩
      · first | exact ⟨j0, by omega, hj1⟩ | exact ⟨i, by omega, rfl⟩
    · intro j hj
      have hc : j = i ∨ j < i := by omega
      unfold mx
      rcases hc with rfl | hc
      · split <;> omega
      · have := h2 j hc
        split <;> omega
theorem index_l0 (l : List Int) (hl : l.length ≤ 10) (x : Int) (hx : ∃ j, j < l.length ∧ l.getD j 0 = x) : ∀ n k (i : Nat), i + n = l.length → n < k → (∀ j, j < i → l.getD j 0 ≠ x) → ∃ a : Nat, slices_Index_int_int.l0 k l x l.length i = some (a : Int) ∧ a < l.length ∧ l.getD a 0 = x ∧ ∀ j, j < a → l.getD j 0 ≠ x
  | 0, k, i, h, hk, h1 => by
    obtain ⟨j, hj, e⟩ := hx
    exact absurd e (h1 j (by omega))
  | n + 1, k, i, h, hk, h1 => by
    obtain ⟨k, rfl, _⟩ := succK hk
    have e2 : wrap64 ((i : Int) + 1) = ((i + 1 : Nat) : Int) := by rw [w64 (by omega) (by omega)]; omega
    simp only [slices_Index_int_int.l0]
    rw [if_pos (by omega), if_pos (by omega), if_pos (by omega), rdn, e2]
    by_cases he : x = l.getD i 0
    · rw [if_pos he]
      exact ⟨i, rfl, by omega, he.symm, h1⟩
    · rw [if_neg he]
      refine index_l0 l hl x hx n k (i + 1) (by omega) (by omega) fun j hj => ?_
      have hc : j = i ∨ j < i := by omega
      rcases hc with rfl | hc
      · exact fun e => he e.symm
      · exact h1 j hc
theorem low_f (l : List Int) (hl : l.length ≤ 10) (h0 : 0 < l.length) (k : Nat) (hk : 20 ≤ k) : ∃ (m : Int) (a : Nat), slices_Min_int_int.f k l = some m ∧ slices_Index_int_int.f k l m = some (a : Int) ∧ Low l l.length a := by
  obtain ⟨m, hm, h1, h2⟩ := min_l0 l hl (l.length - 1) k 1 (l.getD 0 0) (by omega) (by omega) ⟨0, by omega, rfl⟩ (fun j hj => by have e : j = 0 := (by omega); rw [e]; exact Int.le_refl _)
  obtain ⟨a, ha, h3, h4, h5⟩ := index_l0 l hl m h1 l.length k 0 (by omega) (by omega) (fun j hj => by omega)
  refine ⟨m, a, ?_, ha, h3, fun j hj => by rw [h4]; exact h2 j hj, fun j hj => ?_⟩
  · unfold slices_Min_int_int.f
    rw [if_neg (by omega), if_pos (by omega)]
    exact hm
  · have := h2 j (by omega)
    have := h5 j hj
    rw [h4]
    omega
theorem high_f (l : List Int) (hl : l.length ≤ 10) (h0 : 0 < l.length) (k : Nat) (hk : 20 ≤ k) : ∃ (m : Int) (a : Nat), slices_Max_int_int.f k l = some m ∧ slices_Index_int_int.f k l m = some (a : Int) ∧ High l l.length a := by
  obtain ⟨m, hm, h1, h2⟩ := max_l0 l hl (l.length - 1) k 1 (l.getD 0 0) (by omega) (by omega) ⟨0, by omega, rfl⟩ (fun j hj => by have e : j = 0 := (by omega); rw [e]; exact Int.le_refl _)
  obtain ⟨a, ha, h3, h4, h5⟩ := index_l0 l hl m h1 l.length k 0 (by omega) (by omega) (fun j hj => by omega)
  refine ⟨m, a, ?_, ha, h3, fun j hj => by rw [h4]; exact h2 j hj, fun j hj => ?_⟩
  · unfold slices_Max_int_int.f
    rw [if_neg (by omega), if_pos (by omega)]
    exact hm
  · have := h2 j (by omega)
    have := h5 j hj
    rw [h4]
    omega
/-- What the specification's loop hands on. -/
def after (k : Nat) (l : List Int) (a b : Nat) : Option Bool :=
  if (b : Int) > a then (if 0 ≤ (a : Int) then (if (a : Int) ≤ (l.length : Int) then ((clocheref05_andre.f k (l.take (a : Int).toNat)).bind fun t => (if t = true then (if 0 ≤ (wrap64 ((a : Int) + 1)) then (if (wrap64 ((a : Int) + 1)) ≤ (l.length : Int) then ((clocheref05_andre.f k (l.drop ((wrap64 ((a : Int) + 1)) : Int).toNat)).bind fun t2 => (some t2)) else (none)) else (none)) else (some false))) else (none)) else (none)) else (some false)
theorem randre_l0 (l : List Int) (hl : l.length ≤ 10) : ∀ n k (i a b : Nat), i + n = l.length → Low l i a → High l i b → ∃ a' b', Low l l.length a' ∧ High l l.length b' ∧ clocheref05_andre.l0 (k + n + 1) l a b i = after k l a' b'
  | 0, k, i, a, b, h, ha, hb => by
    obtain rfl : i = l.length := by omega
    refine ⟨a, b, ha, hb, ?_⟩
    show clocheref05_andre.l0 (k + 1) l a b l.length = _
    simp only [clocheref05_andre.l0]
    rw [if_neg (by omega)]
    rfl
  | n + 1, k, i, a, b, h, ha, hb => by
    have e2 : wrap64 ((i : Int) + 1) = ((i + 1 : Nat) : Int) := by rw [w64 (by omega) (by omega)]; omega
    have ha1 := ha.1
    have hb1 := hb.1
    have ek : k + (n + 1) + 1 = (k + n + 1) + 1 := by omega
    obtain ⟨K, hK⟩ : ∃ K, K = k + n + 1 := ⟨_, rfl⟩
    rw [ek, ← hK]
    simp only [clocheref05_andre.l0]
    rw [if_pos (by omega), if_pos (by omega), if_pos (by omega), if_pos (by omega), rdn, rdn, rdn, e2]
    have keepL : ¬ l.getD i 0 < l.getD a 0 → Low l (i + 1) a := fun hc => ⟨ha.1, fun j hj => by
      have hh : j = i ∨ j < i := by omega
      rcases hh with rfl | hh
      · omega
      · exact ha.2.1 j hh, ha.2.2⟩
    have newL : l.getD i 0 < l.getD a 0 → Low l (i + 1) i := fun hc => ⟨by omega, fun j hj => by
      have hh : j = i ∨ j < i := by omega
      rcases hh with rfl | hh
      · omega
      · have := ha.2.1 j hh
        omega, fun j hj => by
      have := ha.2.1 j hj
      omega⟩
    have keepH : ¬ l.getD i 0 > l.getD b 0 → High l (i + 1) b := fun hc => ⟨hb.1, fun j hj => by
      have hh : j = i ∨ j < i := by omega
      rcases hh with rfl | hh
      · omega
      · exact hb.2.1 j hh, hb.2.2⟩
    have newH : l.getD i 0 > l.getD b 0 → High l (i + 1) i := fun hc => ⟨by omega, fun j hj => by
      have hh : j = i ∨ j < i := by omega
      rcases hh with rfl | hh
      · omega
      · have := hb.2.1 j hh
        omega, fun j hj => by
      have := hb.2.1 j hj
      omega⟩
    by_cases c1 : l.getD i 0 < l.getD a 0
    · rw [if_pos c1, if_pos (by omega), if_pos (by omega)]
      by_cases c2 : l.getD i 0 > l.getD b 0
      · rw [if_pos c2, hK]
        exact randre_l0 l hl n k (i + 1) i i (by omega) (newL c1) (newH c2)
      · rw [if_neg c2, hK]
        exact randre_l0 l hl n k (i + 1) i b (by omega) (newL c1) (keepH c2)
    · rw [if_neg c1, if_pos (by omega), if_pos (by omega)]
      by_cases c2 : l.getD i 0 > l.getD b 0
      · rw [if_pos c2, hK]
        exact randre_l0 l hl n k (i + 1) a i (by omega) (keepL c1) (newH c2)
      · rw [if_neg c2, hK]
        exact randre_l0 l hl n k (i + 1) a b (by omega) (keepL c1) (keepH c2)
theorem andre_eq : ∀ n (l : List Int), l.length ≤ n → l.length ≤ 10 → ∃ r, (∀ k, 13 * n + 30 ≤ k → waves_andre.f k l = some r) ∧ (∀ k, 13 * n + 30 ≤ k → clocheref05_andre.f k l = some r)
  | n, l, hn, hl => by
    by_cases h2 : (l.length : Int) < 2
    · refine ⟨true, fun k hk => ?_, fun k hk => ?_⟩
      · obtain ⟨k, rfl, _⟩ := succK (show 1 < k by omega)
        simp only [waves_andre.f]
        rw [if_pos h2]
      · obtain ⟨k, rfl, _⟩ := succK (show 1 < k by omega)
        simp only [clocheref05_andre.f]
        rw [if_pos h2]
    obtain ⟨n, rfl⟩ : ∃ m, n = m + 1 := ⟨n - 1, by omega⟩
    obtain ⟨m1, a, hm1, hi1, ha⟩ := low_f l hl (by omega) 20 (Nat.le_refl _)
    obtain ⟨m2, b, hm2, hi2, hb⟩ := high_f l hl (by omega) 20 (Nat.le_refl _)
    have ha1 := ha.1
    have hb1 := hb.1
    have e2 : wrap64 ((a : Int) + 1) = ((a + 1 : Nat) : Int) := by rw [w64 (by omega) (by omega)]; omega
    have wv : ∀ k, 20 ≤ k → waves_andre.f (k + 1) l = (if (a : Int) < b then (if 0 ≤ (a : Int) then (if (a : Int) ≤ (l.length : Int) then ((waves_andre.f k (l.take (a : Int).toNat)).bind fun t479 => (if t479 = true then (if 0 ≤ (wrap64 ((a : Int) + 1)) then (if (wrap64 ((a : Int) + 1)) ≤ (l.length : Int) then ((waves_andre.f k (l.drop ((wrap64 ((a : Int) + 1)) : Int).toNat)).bind fun t481 => (some t481)) else (none)) else (none)) else (some false))) else (none)) else (none)) else (some false)) := by
      intro k hk
      obtain ⟨m3, a3, hm3, hi3, ha3⟩ := low_f l hl (by omega) k hk
      obtain ⟨m4, b4, hm4, hi4, hb4⟩ := high_f l hl (by omega) k hk
      obtain rfl := ha3.uniq ha
      obtain rfl := hb4.uniq hb
      simp only [waves_andre.f]
      rw [if_neg h2, hm3, Option.bind_some, hi3, Option.bind_some, hm4, Option.bind_some, hi4, Option.bind_some]
    have rf : ∀ k, clocheref05_andre.f (k + l.length + 2) l = after k l a b := by
      intro k
      obtain ⟨a', b', ha', hb', e⟩ := randre_l0 l hl l.length k 0 0 0 (by omega) ⟨by omega, fun j hj => by omega, fun j hj => by omega⟩ ⟨by omega, fun j hj => by omega, fun j hj => by omega⟩
      obtain rfl := ha'.uniq ha
      obtain rfl := hb'.uniq hb
      show clocheref05_andre.f ((k + l.length + 1) + 1) l = _
      simp only [clocheref05_andre.f]
      rw [if_neg h2]
      exact e
    by_cases hab : (a : Int) < b
    · obtain ⟨r1, p1, q1⟩ := andre_eq n (l.take a) (by rw [List.length_take]; omega) (by rw [List.length_take]; omega)
      obtain ⟨r2, p2, q2⟩ := andre_eq n (l.drop (a + 1)) (by rw [List.length_drop]; omega) (by rw [List.length_drop]; omega)
      refine ⟨if r1 = true then r2 else false, fun k hk => ?_, fun k hk => ?_⟩
      · obtain ⟨k, rfl, _⟩ := succK (show 1 < k by omega)
        rw [wv k (by omega), if_pos hab, if_pos (by omega), if_pos (by omega), Int.toNat_natCast, p1 k (by omega), Option.bind_some]
        cases r1
        · rfl
        · rw [if_pos rfl, e2, Int.toNat_natCast, if_pos (by omega), if_pos (by omega), p2 k (by omega)]
          rfl
      · obtain ⟨d, rfl⟩ : ∃ d, k = d + l.length + 2 := ⟨k - l.length - 2, by omega⟩
        rw [rf d]
        unfold after
        rw [if_pos hab, if_pos (by omega), if_pos (by omega), Int.toNat_natCast, q1 d (by omega), Option.bind_some]
        cases r1
        · rfl
        · rw [if_pos rfl, e2, Int.toNat_natCast, if_pos (by omega), if_pos (by omega), q2 d (by omega)]
          rfl
    · refine ⟨false, fun k hk => ?_, fun k hk => ?_⟩
      · obtain ⟨k, rfl, _⟩ := succK (show 1 < k by omega)
        rw [wv k (by omega), if_neg hab]
      · obtain ⟨d, rfl⟩ : ∃ d, k = d + l.length + 2 := ⟨k - l.length - 2, by omega⟩
        rw [rf d]
        unfold after
        rw [if_neg hab]
end Go.Proofs.Ytmigibamdeodpaa.Pure
