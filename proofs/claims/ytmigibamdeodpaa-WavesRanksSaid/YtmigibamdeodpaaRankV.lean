/- Waves are the lists of admissible positions; Rank of a wave. -/
import Derived.Test.YtmigibamdeodpaaRankR
namespace Go.Proofs.Ytmigibamdeodpaa.Pure
open Go.RowKit Go.Proofs.Ytmigibamdeodpaa.Print Go.Proofs.YtmigibamdeodpaaW.PrintWords Go.Proofs.YtmigibamdeodpaaW.PrintLast Go.Proofs.YtmigibamdeodpaaW.PrintMore
theorem er_perm {l : List Int} {k : Nat} (hk : k < l.length) : (l.getD k 0 :: l.eraseIdx k).Perm l := by
  rw [getD_at hk, List.eraseIdx_eq_take_drop_succ]
  have e : l.take k ++ l[k] :: l.drop (k + 1) = l := by rw [← List.drop_eq_getElem_cons hk, List.take_append_drop]
  have h := (List.perm_middle (a := l[k]) (l₁ := l.take k) (l₂ := l.drop (k + 1))).symm
  rw [e] at h
  exact h
theorem dec_perm : ∀ m (left : List Int) q up ks, Valid m q up ks → left.length = m → (dec left ks).Perm left
  | 0, left, q, up, ks, h, hl => by
    obtain rfl : ks = [] := h
    obtain rfl := List.eq_nil_of_length_eq_zero hl
    exact List.Perm.refl _
  | m + 1, left, q, up, [], h, _ => absurd h (by simp [Valid])
  | m + 1, left, q, up, k :: ks, h, hl => by
    have ih := dec_perm m (left.eraseIdx k) _ _ ks h.2.2 (by rw [er_length (by have := h.1; omega)]; omega)
    exact (ih.cons _).trans (er_perm (by have := h.1; omega))
theorem dec_length : ∀ (left : List Int) ks, (dec left ks).length = ks.length
  | _, [] => rfl
  | left, k :: ks => by simp [dec, dec_length]
theorem dec_up : ∀ m (left : List Int) q up ks, Valid m q up ks → left.length = m → Asc left → ∀ j, 1 ≤ j → j < m → decide ((dec left ks).getD (j - 1) 0 < (dec left ks).getD j 0) = (up == (j % 2 == 1))
  | 0, _, _, _, _, _, _, _, j, h1, h2 => by omega
  | m + 1, left, q, up, [], h, _, _, _, _, _ => absurd h (by simp [Valid])
  | m + 1, left, q, up, k :: ks, h, hl, ha, j, h1, h2 => by
    obtain ⟨v1, v2, v3⟩ := h
    have hel : (left.eraseIdx k).length = m := by rw [er_length (by omega)]; omega
    by_cases hj : j = 1
    · subst hj
      obtain ⟨m, rfl⟩ : ∃ m', m = m' + 1 := ⟨m - 1, by omega⟩
      cases ks with
      | nil => exact absurd v3 (by simp [Valid])
      | cons k1 ks =>
        obtain ⟨w1, w2, _⟩ := v3
        simp only [dec, Nat.sub_self, List.getD_cons_zero, List.getD_cons_succ]
        have he := ha.er_iff (k := k) (j := k1) (by omega) (by omega)
        have hd : decide (left.getD k 0 < (left.eraseIdx k).getD k1 0) = decide (k ≤ k1) := by
          rw [Bool.eq_iff_iff, decide_eq_true_eq, decide_eq_true_eq, he]
        rw [hd]
        have w2 : (decide (k ≤ k1) == up) = true := w2
        rw [beq_iff_eq.1 w2]
        cases up <;> rfl
    · obtain ⟨j, rfl⟩ : ∃ j', j = j' + 1 := ⟨j - 1, by omega⟩
      have ih := dec_up m (left.eraseIdx k) _ _ ks v3 hel (ha.erase (by omega)) j (by omega) (by omega)
      simp only [dec, List.getD_cons_succ, Nat.add_sub_cancel]
      obtain ⟨i, rfl⟩ : ∃ i, j = i + 1 := ⟨j - 1, by omega⟩
      rw [Nat.add_sub_cancel] at ih
      rw [List.getD_cons_succ, ih]
      rcases Nat.mod_two_eq_zero_or_one (i + 1) with e | e
      · rw [e, show (i + 1 + 1) % 2 = 1 by omega]
        cases up <;> rfl
      · rw [e, show (i + 1 + 1) % 2 = 0 by omega]
        cases up <;> rfl
theorem enc : ∀ m (left l : List Int) q up, l.Perm left → left.length = m → Asc left → (∀ j, 1 ≤ j → j < m → decide (l.getD (j - 1) 0 < l.getD j 0) = (up == (j % 2 == 1))) → (∀ k, k < m → left.getD k 0 = l.getD 0 0 → admI q k = true) → ∃ ks, Valid m q up ks ∧ l = dec left ks
  | 0, left, l, q, up, hp, hl, _, _, _ => by
    obtain rfl : l = [] := List.eq_nil_of_length_eq_zero (by rw [hp.length_eq, hl])
    exact ⟨[], rfl, rfl⟩
  | m + 1, left, [], q, up, hp, hl, _, _, _ => by
    have := hp.length_eq
    simp at this
    omega
  | m + 1, left, x :: l, q, up, hp, hl, ha, hw, hq => by
    obtain ⟨k, hk, e⟩ := List.mem_iff_getElem.1 (hp.subset (List.mem_cons_self (a := x) (l := l)))
    have ek : left.getD k 0 = x := by rw [getD_at hk, e]
    have hel : (left.eraseIdx k).length = m := by rw [er_length hk]; omega
    have hp2 : l.Perm (left.eraseIdx k) := by
      have := hp.trans (er_perm hk).symm
      rw [ek] at this
      exact (List.perm_cons _).1 this
    have hll : l.length = m := by rw [hp2.length_eq, hel]
    obtain ⟨ks, hv, hd⟩ := enc m (left.eraseIdx k) l (some (k, up)) (!up) hp2 hel (ha.erase hk) (fun j h1 h2 => by
        have := hw (j + 1) (by omega) (by omega)
        rw [Nat.add_sub_cancel, List.getD_cons_succ] at this
        obtain ⟨i, rfl⟩ : ∃ i, j = i + 1 := ⟨j - 1, by omega⟩
        rw [List.getD_cons_succ] at this
        rw [Nat.add_sub_cancel, this]
        rcases Nat.mod_two_eq_zero_or_one (i + 1) with e | e
        · rw [e, show (i + 1 + 1) % 2 = 1 by omega]
          cases up <;> rfl
        · rw [e, show (i + 1 + 1) % 2 = 0 by omega]
          cases up <;> rfl) (fun k1 hk1 e1 => by
        have := hw 1 (Nat.le_refl _) (by omega)
        simp only [Nat.sub_self, List.getD_cons_zero, List.getD_cons_succ] at this
        have he := ha.er_iff (k := k) (j := k1) hk (by omega)
        rw [e1, ek] at he
        have hd : decide (k ≤ k1) = decide (x < l.getD 0 0) := by
          rw [Bool.eq_iff_iff, decide_eq_true_eq, decide_eq_true_eq, he]
        show (decide (k ≤ k1) == up) = true
        rw [hd, this]
        cases up <;> rfl)
    refine ⟨k :: ks, ⟨by omega, hq k (by omega) (by rw [List.getD_cons_zero, ek]), hv⟩, ?_⟩
    simp only [dec]
    rw [ek, ← hd]
theorem dec_inj : ∀ m (left : List Int) q q' up up' ks ks', Valid m q up ks → Valid m q' up' ks' → left.length = m → Asc left → dec left ks = dec left ks' → ks = ks'
  | 0, _, _, _, _, _, ks, ks', h, h', _, _, _ => by
    obtain rfl : ks = [] := h
    obtain rfl : ks' = [] := h'
    rfl
  | m + 1, _, _, _, _, _, [], _, h, _, _, _, _ => absurd h (by simp [Valid])
  | m + 1, _, _, _, _, _, _ :: _, [], _, h', _, _, _ => absurd h' (by simp [Valid])
  | m + 1, left, _, _, _, _, a :: ks, b :: ks', h, h', hl, ha, e => by
    simp only [dec, List.cons.injEq] at e
    obtain ⟨e1, e2⟩ := e
    have a1 := h.1
    have b1 := h'.1
    have hab : a = b := by
      rcases Nat.lt_trichotomy a b with c | c | c
      · have := ha a b c (by omega); omega
      · exact c
      · have := ha b a c (by omega); omega
    subst hab
    rw [dec_inj m (left.eraseIdx a) _ _ _ _ ks ks' h.2.2 h'.2.2 (by rw [er_length (by omega)]; omega) (ha.erase (by omega)) e2]
theorem row_ne' {l : List Int} (h : l.Nodup) {i j : Nat} (hij : i ≠ j) (hi : i < l.length) (hj : j < l.length) : l.getD i 0 ≠ l.getD j 0 := by
  rw [getD_at hi, getD_at hj]
  intro e
  exact hij ((List.getElem_inj h).1 e)
theorem asc_ups {s : List Int} {n : Nat} (ha : Asc s) (hn : s.length = n) (hr : ∀ x ∈ s, 1 ≤ x ∧ x ≤ n) : s = ups n := by
  have lo : ∀ i, i < n → (i : Int) + 1 ≤ s.getD i 0 := by
    intro i
    induction i with
    | zero => intro h; have := (hr _ (getD_mem (show 0 < s.length by omega))).1; omega
    | succ i ih =>
      intro h
      have := ih (by omega)
      have := ha i (i + 1) (by omega) (by omega)
      omega
  have hi : ∀ d i, i + d + 1 = n → s.getD i 0 ≤ (i : Int) + 1 := by
    intro d
    induction d with
    | zero => intro i h; have := (hr _ (getD_mem (show i < s.length by omega))).2; omega
    | succ d ih =>
      intro i h
      have := ih (i + 1) (by omega)
      have := ha i (i + 1) (by omega) (by omega)
      omega
  apply List.ext_getElem (by rw [ups_length]; exact hn)
  intro i h1 h2
  rw [← getD_at h1, ← getD_at h2, ups_getD (by omega)]
  have := lo i (by omega)
  have := hi (n - i - 1) i (by omega)
  omega
theorem isort_row {l : List Int} (h : IsRow l) : isort l = ups l.length := by
  have hp := isort_perm l
  have hs := isort_sorted l
  have hnd : (isort l).Nodup := hp.nodup_iff.2 h.2.2
  refine asc_ups ?_ hp.length_eq fun x hx => h.2.1 x (hp.subset hx)
  intro i j hij hj
  rw [List.pairwise_iff_getElem] at hs
  have := hs i j (by omega) hj hij
  have hne := row_ne' hnd (show i ≠ j by omega) (by omega) hj
  rw [getD_at (by omega), getD_at hj] at hne ⊢
  omega
theorem row_perm {l : List Int} (h : IsRow l) : l.Perm (ups l.length) := by
  rw [← isort_row h]
  exact (isort_perm l).symm
theorem perm_row {l : List Int} {n : Nat} (hn : n ≤ 10) (h : l.Perm (ups n)) : IsRow l := by
  have hl : l.length = n := by rw [h.length_eq, ups_length]
  refine ⟨by omega, fun x hx => ?_, ?_⟩
  · have := h.subset hx
    unfold ups at this
    obtain ⟨i, hi, rfl⟩ := List.mem_map.1 this
    have := List.mem_range.1 hi
    omega
  · refine h.nodup_iff.2 ?_
    unfold ups
    rw [List.nodup_iff_pairwise_ne, List.pairwise_map]
    have := List.nodup_range (n := n)
    rw [List.nodup_iff_pairwise_ne] at this
    exact this.imp (fun hne e => hne (by omega))
theorem Rank_wave (l : List Int) (h : IsRow l) (hu : upB l = true) (k : Nat) (hk : 400 ≤ k) : ∃ ks, Valid l.length none true ks ∧ l = dec (ups l.length) ks ∧ waves_Rank.f k l = some (rkI l.length none true ks, 0) := by
  have h10 := h.1
  rw [upB_iff] at hu
  obtain ⟨ks, hv, hd⟩ := enc l.length (ups l.length) l none true (row_perm h) (ups_length _) (ups_asc _) (fun j h1 h2 => by
      have := hu j h1 h2
      rw [Bool.eq_iff_iff, decide_eq_true_eq, this]
      simp) (fun _ _ _ => rfl)
  refine ⟨ks, hv, hd, ?_⟩
  unfold waves_Rank.f
  rw [read_f l k (by omega), Option.bind_some, if_pos ((rowS_zero l).2 h), up_f l (by omega) k (by omega), Option.bind_some, if_pos ((upB_iff l).2 hu)]
  unfold sortedValues.f
  rw [if_pos (by omega), Option.bind_some, isort_row h]
  have ht : total l.length none true ≤ 100000 := by
    have hc := (count_f h10).2.2
    unfold total
    rw [sumA_none]
    exact hc
  have := Rank_l0 l h10 l.length k 0 (ups l.length) none ks 0 (by rw [List.drop_zero]; exact hd) hv (ups_length _) (by omega) (ups_asc _) (.inl ⟨by simp, rfl⟩) (Int.le_refl _) (by rw [Int.zero_add]; exact Int.le_trans ht (by decide)) (by omega)
  rw [Int.zero_add] at this
  exact this
theorem Rank_cases (l : List Int) (k : Nat) (hk : 400 ≤ k) : (∃ e, e ≠ 0 ∧ waves_Rank.f k l = some (0, e)) ∨ ∃ ks, IsRow l ∧ Valid l.length none true ks ∧ l = dec (ups l.length) ks ∧ waves_Rank.f k l = some (rkI l.length none true ks, 0) := by
  by_cases hr : rowS l = 0
  · have h := (rowS_zero l).1 hr
    cases hu : upB l
    · refine .inl ⟨9, by decide, ?_⟩
      have h10 := h.1
      unfold waves_Rank.f
      rw [read_f l k (by omega), Option.bind_some, if_pos hr, up_f l (by omega) k (by omega), Option.bind_some, hu, if_neg (by decide)]
    · obtain ⟨ks, h1, h2, h3⟩ := Rank_wave l h hu k hk
      exact .inr ⟨ks, h, h1, h2, h3⟩
  · refine .inl ⟨rowS l, hr, ?_⟩
    unfold waves_Rank.f
    rw [read_f l k (by omega), Option.bind_some, if_neg hr]
/-- At of a rank: a wave, of which it is the rank. -/
theorem At_wave (n : Nat) (hn : n ≤ 10) (r : Int) (h0 : 0 ≤ r) (h : r < total n none true) : ∃ ks, Valid n none true ks ∧ rkI n none true ks = r ∧ (dec (ups n) ks).length = n ∧ IsRow (dec (ups n) ks) ∧ (∀ k, 300 ≤ k → waves_At.f k n r = some (dec (ups n) ks, 0)) ∧ ∀ k, 400 ≤ k → waves_Rank.f k (dec (ups n) ks) = some (r, 0) := by
  obtain ⟨hv, hr⟩ := at_rank n hn none true r h0 h
  have hlen : (dec (ups n) (atI n none true r)).length = n := by rw [dec_length, valid_length _ _ _ _ hv]
  have hrow := perm_row hn (dec_perm n (ups n) none true _ hv (ups_length n))
  have hup : upB (dec (ups n) (atI n none true r)) = true := by
    rw [upB_iff, hlen]
    intro j h1 h2
    have := dec_up n (ups n) none true _ hv (ups_length n) (ups_asc n) j h1 h2
    have h3 := congrArg (· = true) this
    simpa using h3
  refine ⟨_, hv, hr, hlen, hrow, fun k hk => At_f n hn r h0 h k hk, fun k hk => ?_⟩
  obtain ⟨ks, hv2, hd, e⟩ := Rank_wave _ hrow hup k hk
  rw [hlen] at hv2 hd e
  rw [e]
  have h1 := rank_at n hn none true ks hv2
  have h2 : ks = atI n none true r := dec_inj n (ups n) none none true true _ _ hv2 hv (ups_length n) (ups_asc n) hd.symm
  rw [h2, hr]
end Go.Proofs.Ytmigibamdeodpaa.Pure
