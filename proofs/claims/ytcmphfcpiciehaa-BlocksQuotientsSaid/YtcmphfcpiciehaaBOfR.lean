/- Quotient and Of of the specification. -/
import Derived.Test.YtcmphfcpiciehaaBOfW
import Derived.Test.YtcmphfcpiciehaaPrintx20
namespace Go.Proofs.Ytcmphfcpiciehaa.Pure
open Go.RowKit Go.Proofs.Ytcmphfcpiciehaa.Print Go.Proofs.YtcmphfcpiciehaaW.PrintWords Go.Proofs.YtcmphfcpiciehaaW.PrintLast Go.Proofs.YtcmphfcpiciehaaW.PrintMore
set_option linter.unusedVariables false
/-! ### padded -/
theorem padded_l0 (T : Nat) (h2 : 2 ≤ T) (h6 : T ≤ 6) (least : Nat) (M : Nat) (hM : M ≤ 900) (hl : least ≤ M) (hT : M % T = 0) (hmin : ∀ e, least ≤ e → e < M → e % T ≠ 0) : ∀ n k (l : List Int), l.length + n = M → n < k → clocheref04_padded.l0 k T least l = some (l ++ List.replicate n 0)
  | 0, k, l, h, hk => by
    obtain ⟨k, rfl, _⟩ := succK hk
    have e : ((l.length : Int) % (T : Int)) = 0 := by
      rw [show l.length = M by omega]
      exact_mod_cast hT
    simp only [clocheref04_padded.l0]
    rw [if_neg (by omega), if_neg (by omega), if_pos e]
    simp
  | n + 1, k, l, h, hk => by
    obtain ⟨k, rfl, _⟩ := succK hk
    have ih := padded_l0 T h2 h6 least M hM hl hT hmin n k (l ++ [0]) (by rw [List.length_append, List.length_singleton]; omega) (by omega)
    rw [replicate_app] at ih
    simp only [clocheref04_padded.l0]
    by_cases hc : (l.length : Int) < least
    · rw [if_pos hc, if_pos (by omega)]
      exact ih
    · have e : ¬ ((l.length : Int) % (T : Int)) = 0 := by
        have := hmin l.length (by omega) (by omega)
        intro h0
        exact this (by exact_mod_cast h0)
      rw [if_neg hc, if_neg (by omega), if_neg e, if_pos (by omega)]
      exact ih
theorem padded_f {T : Nat} (h2 : 2 ≤ T) (h6 : T ≤ 6) (least : Nat) (M : Nat) (hM : M ≤ 900) (hl : least ≤ M) (hT : M % T = 0) (l : List Int) (hlM : l.length ≤ M) (hmin : ∀ e, l.length ≤ e → least ≤ e → e < M → e % T ≠ 0) (k : Nat) (hk : 1000 ≤ k) : clocheref04_padded.f k l T least = some (l ++ List.replicate (M - l.length) 0) := by
  unfold clocheref04_padded.f
  rw [if_pos (by simp; omega), List.nil_append]
  rcases Nat.lt_or_ge least l.length with h | h
  · -- what is shorter than the rows is not met
    have : ∀ n k (l' : List Int), l.length ≤ l'.length → l'.length + n = M → n < k → clocheref04_padded.l0 k T least l' = some (l' ++ List.replicate n 0) := by
      intro n
      induction n with
      | zero =>
        intro k l' h1 h3 hk
        obtain ⟨k, rfl, _⟩ := succK hk
        have e : ((l'.length : Int) % (T : Int)) = 0 := by
          rw [show l'.length = M by omega]
          exact_mod_cast hT
        simp only [clocheref04_padded.l0]
        rw [if_neg (by omega), if_neg (by omega), if_pos e]
        simp
      | succ n ih =>
        intro k l' h1 h3 hk
        obtain ⟨k, rfl, _⟩ := succK hk
        have ih := ih k (l' ++ [0]) (by rw [List.length_append]; omega) (by rw [List.length_append, List.length_singleton]; omega) (by omega)
        rw [replicate_app] at ih
        simp only [clocheref04_padded.l0]
        have e : ¬ ((l'.length : Int) % (T : Int)) = 0 := by
          have := hmin l'.length h1 (by omega) (by omega)
          intro h0
          exact this (by exact_mod_cast h0)
        rw [if_neg (by omega), if_neg (by omega), if_neg e, if_pos (by omega)]
        exact ih
    exact this (M - l.length) k l (Nat.le_refl _) (by omega) (by omega)
  · exact padded_l0 T h2 h6 least M hM hl hT (fun e h1 h3 => hmin e (by omega) h1 h3) (M - l.length) k l (by omega) (by omega)
/-! ### Quotient -/
theorem run_drop {t kk : Int} {b : List Int} {i : Nat} (h : i < b.length) : run t kk (b.drop i) = if b.getD i 0 % t = kk then b.getD i 0 / t :: run t kk (b.drop (i + 1)) else run t kk (b.drop (i + 1)) := by
  rw [drop_getD h]
  unfold run
  rw [List.filter_cons]
  by_cases hc : b.getD i 0 % t = kk
  · rw [if_pos (by rw [decide_eq_true_eq]; exact hc), if_pos hc, List.map_cons]
  · rw [if_neg (by rw [decide_eq_true_eq]; exact hc), if_neg hc]
theorem rQ_l1 (T : Nat) (h2 : 2 ≤ T) (h6 : T ≤ 6) (b : List Int) (hb : b.length ≤ 1000) (hv : ∀ x ∈ b, 0 ≤ x ∧ x ≤ 1000000) (acc : List (List Int)) (ha : acc.length ≤ 100) (kk : Nat) (hkk : kk ≤ 10) (h : DB b) : ∀ n K (i : Nat) (w : List Int), i + n = b.length → w.length ≤ i → 1100 ≤ K → w ++ run T (kk : Int) (b.drop i) = run T (kk : Int) b → clocheref04_Quotient.l1 (K + n + 1) T b acc kk w i = clocheref04_Quotient.l0 K T b (acc ++ [shB (run T (kk : Int) b)]) ((kk + 1 : Nat) : Int)
  | 0, K, i, w, hi, hw, hK, e => by
    have e : w = run T (kk : Int) b := by
      rw [List.drop_eq_nil_of_le (by omega)] at e
      rw [← e]
      exact (List.append_nil w).symm
    subst e
    have hl := run_length_le (T : Int) (kk : Int) b
    simp only [clocheref04_Quotient.l1]
    rw [if_neg (by omega), shape_f _ (by omega) (fun x hx => by
      obtain ⟨z, hz, rfl⟩ := List.mem_map.1 hx
      have h3 := hv z (List.mem_filter.1 hz).1
      have := Int.ediv_le_self (T : Int) h3.1
      have := Int.ediv_nonneg h3.1 (show 0 ≤ (T : Int) by omega)
      show 0 ≤ z / (T : Int) ∧ z / (T : Int) ≤ 1000000000
      omega) K (by omega), Option.bind_some, if_pos (by omega), inc64 kk (by omega)]
  | n + 1, K, i, w, hi, hw, hK, e => by
    have hx := hv _ (getD_mem (show i < b.length by omega))
    rw [run_drop (show i < b.length by omega)] at e
    obtain ⟨F, hF⟩ : ∃ F, F = K + n + 1 := ⟨_, rfl⟩
    rw [show K + (n + 1) + 1 = F + 1 by omega]
    simp only [clocheref04_Quotient.l1]
    rw [if_pos (by omega), if_pos (by omega), if_neg (by omega), rdn, Int.tmod_eq_emod_of_nonneg hx.1, inc64 i (by omega)]
    by_cases hc : b.getD i 0 % (T : Int) = kk
    · rw [if_pos hc] at e
      have hd : Int.tdiv (b.getD i 0) (T : Int) = b.getD i 0 / (T : Int) := Int.tdiv_eq_ediv_of_nonneg hx.1
      have h3 := Int.ediv_le_self (T : Int) hx.1
      have h4 := Int.ediv_nonneg hx.1 (show 0 ≤ (T : Int) by omega)
      have ih := rQ_l1 T h2 h6 b hb hv acc ha kk hkk h n K (i + 1) (w ++ [b.getD i 0 / (T : Int)]) (by omega) (by rw [List.length_append, List.length_singleton]; omega) hK (by rw [List.append_assoc]; exact e)
      rw [← hF] at ih
      rw [if_pos hc, if_pos (by omega), hd, w64 (by omega) (by omega), ih]
    · rw [if_neg hc] at e
      have ih := rQ_l1 T h2 h6 b hb hv acc ha kk hkk h n K (i + 1) w (by omega) (by omega) hK e
      rw [← hF] at ih
      rw [if_neg hc, ih]
theorem rQ_l0 (T : Nat) (h2 : 2 ≤ T) (h6 : T ≤ 6) (b : List Int) (hb : b.length ≤ 1000) (hv : ∀ x ∈ b, 0 ≤ x ∧ x ≤ 1000000) (h : DB b) : ∀ n k (kk : Nat) (acc : List (List Int)), kk + n = T → 1002 * n + 1200 ≤ k → acc.length = kk → clocheref04_Quotient.l0 k T b acc kk = some (acc ++ (List.range' kk n).map (fun j : Nat => shB (run T (j : Int) b)), 0)
  | 0, k, kk, acc, hi, hk, ha => by
    obtain ⟨k, rfl, _⟩ := succK (show 0 < k by omega)
    simp only [clocheref04_Quotient.l0]
    rw [if_neg (by omega)]
    simp
  | n + 1, k, kk, acc, hi, hk, ha => by
    obtain ⟨K, rfl⟩ : ∃ K, k = (K + b.length + 1) + 1 := ⟨k - b.length - 2, by omega⟩
    have h1 := rQ_l1 T h2 h6 b hb hv acc (by omega) kk (by omega) h b.length K 0 [] (by omega) (by simp) (by omega) (by rw [List.drop_zero, List.nil_append])
    have ih := rQ_l0 T h2 h6 b hb hv h n K (kk + 1) (acc ++ [shB (run T (kk : Int) b)]) (by omega) (by omega) (by rw [List.length_append, List.length_singleton]; omega)
    generalize hF : K + b.length + 1 = F at h1
    simp only [clocheref04_Quotient.l0]
    rw [if_pos (by omega)]
    refine (h1.trans ih).trans ?_
    rw [range'_succ', List.map_cons, List.append_assoc]
    rfl
theorem rQuotient_f (l : List Int) (T : Nat) (k : Nat) (hk : 12000 ≤ k) : clocheref04_Quotient.f k l T = if okW l T = true then some (quo T l, 0) else some ([], 2) := by
  obtain ⟨k, rfl⟩ : ∃ K, k = K + 1 := ⟨k - 1, by omega⟩
  have hbad : clocheref04_Quotient.j0 (k + 1) l T true = some ([], 2) := by
    simp only [clocheref04_Quotient.j0]
    rw [if_pos trivial]
  unfold clocheref04_Quotient.f
  rw [rIs_f l _ (by omega), Option.bind_some, Wires_f, Option.bind_some]
  by_cases hw : okW l T = true
  · obtain ⟨hs, h2, h6⟩ := okW_iff hw
    have hl := hs.len
    have hce := ceil_of (n := l.length) (show 2 ≤ T by omega) (show T ≤ 6 by omega)
    have heq := hce.eq
    have hlt := hce.lt
    rw [if_pos hw, (isShp_iff l).2 hs, if_pos rfl, decide_eq_true h2, decide_eq_true h6]
    show clocheref04_Quotient.j0 (k + 1) l T false = _
    simp only [clocheref04_Quotient.j0]
    have hp := padded_f (T := T) (by omega) (by omega) 0 (ceil T l.length) (by omega) (by omega) (by rw [heq]; exact hce.dv) l (by omega) (fun e h1 _ h3 => by
      have := hce.min (e - l.length) (by omega)
      rwa [show l.length + (e - l.length) = e by omega] at this) k (by omega)
    have hpad : bd (l ++ List.replicate (ceil T l.length - l.length) 0) = pad (ceil T l.length) l := rfl
    rw [if_neg (by decide)]
    refine (congrArg (fun o => Option.bind o _) hp).trans ?_
    rw [Option.bind_some, rbeads_f _ (by rw [List.length_append, List.length_replicate]; omega) (fun x hx => by
      rcases List.mem_append.1 hx with h | h
      · have := hs.bound x h
        omega
      · rw [List.eq_of_mem_replicate h]
        omega) k (by rw [List.length_append, List.length_replicate]; omega), Option.bind_some, hpad]
    have h0 := rQ_l0 T (by omega) (by omega) (pad (ceil T l.length) l) (by rw [pad_length (by omega)]; omega) (fun x hx => by have := pad_bnd hs.dr (fun y hy => (hs.bound y hy).2) (ceil T l.length) (by omega) (by omega) x hx; omega) (pad_db hs.dr _) T k 0 [] (by omega) (by omega) rfl
    refine h0.trans ?_
    unfold quo wireS
    rw [List.map_map, List.nil_append]
    rfl
  · rw [if_neg hw]
    unfold okW at hw
    cases h1 : isShp l
    · exact hbad
    · rw [if_pos rfl]
      rw [h1, Bool.true_and] at hw
      rw [eq_false_of_ne_true hw]
      exact hbad
/-! ### Of -/
theorem rOf_l2 (Q : List (List Int)) (T : Nat) (h2 : 2 ≤ T) (h6 : T ≤ 6) (hQ : Q.length = T) (kk : Nat) (hkk : kk < T) (hq : ∀ x ∈ Q.getD kk [], 0 ≤ x ∧ x ≤ 40) (b : List Int) (hb : b.length ≤ 1000) (hv : ∀ x ∈ b, 0 ≤ x ∧ x ≤ 1000000) (m : Nat) (hm : m ≤ 1000) : ∀ n K (i r : Nat) (acc : List Int), i + n = b.length → r ≤ i → acc.length ≤ 100000 + i → r ≤ m → run T (kk : Int) (b.drop i) = down (m - r) → clocheref04_Of.l2 (K + n + 1) Q T b acc kk r i = clocheref04_Of.l1 K Q T b (acc ++ (List.range' r (m - r)).map (upAt T kk m (Q.getD kk []))) ((kk + 1 : Nat) : Int)
  | 0, K, i, r, acc, hi, hr, ha, hrm, e => by
    have hz : m - r = 0 := by
      rw [List.drop_eq_nil_of_le (by omega)] at e
      cases hc : m - r with
      | zero => rfl
      | succ n =>
        rw [hc] at e
        cases e
    simp only [clocheref04_Of.l2]
    rw [if_neg (by omega), hz, inc64 kk (by omega)]
    simp
  | n + 1, K, i, r, acc, hi, hr, ha, hrm, e => by
    have hx := hv _ (getD_mem (show i < b.length by omega))
    rw [run_drop (show i < b.length by omega)] at e
    obtain ⟨F, hF⟩ : ∃ F, F = K + n + 1 := ⟨_, rfl⟩
    rw [show K + (n + 1) + 1 = F + 1 by omega]
    simp only [clocheref04_Of.l2]
    rw [if_pos (by omega), if_pos (by omega), if_neg (by omega), rdn, Int.tmod_eq_emod_of_nonneg hx.1, inc64 i (by omega)]
    by_cases hc : b.getD i 0 % (T : Int) = kk
    · rw [if_pos hc] at e
      obtain ⟨d, hd⟩ : ∃ d, m - r = d + 1 := by
        cases hcz : m - r with
        | zero => rw [hcz] at e; cases e
        | succ d => exact ⟨d, rfl⟩
      rw [hd, down] at e
      obtain ⟨e1, e2⟩ := List.cons.inj e
      have hg := getD_small hq r
      have hbi : b.getD i 0 = (d : Int) * T + kk := by
        have h3 := Int.emod_add_ediv_mul (b.getD i 0) (T : Int)
        rw [hc, e1] at h3
        omega
      have hval : b.getD i 0 + (T : Int) * (Q.getD kk []).getD r 0 = upAt T kk m (Q.getD kk []) r := by
        unfold upAt
        rw [hbi, show (m : Int) - 1 - r = (d : Int) by omega, Int.add_mul, Int.mul_comm (T : Int)]
        omega
      have ih := rOf_l2 Q T h2 h6 hQ kk hkk hq b hb hv m hm n K (i + 1) (r + 1) (acc ++ [upAt T kk m (Q.getD kk []) r]) (by omega) (by omega) (by rw [List.length_append, List.length_singleton]; omega) (by omega) (by rw [show m - (r + 1) = d by omega]; exact e2)
      rw [← hF] at ih
      have hm2 := small_mul (a := (T : Int)) (b := (Q.getD kk []).getD r 0) (A := 6) (B := 40) (by omega) (by omega)
      have hrange : (List.range' r (m - r)).map (upAt T kk m (Q.getD kk [])) = [upAt T kk m (Q.getD kk []) r] ++ (List.range' (r + 1) (m - (r + 1))).map (upAt T kk m (Q.getD kk [])) := by
        rw [hd, range'_succ', show m - (r + 1) = d by omega]
        rfl
      rw [if_pos hc, if_pos (by omega), if_pos (by omega), rdLd, inc64 r (by omega), hrange, ← List.append_assoc]
      by_cases hlt : (r : Int) < (((Q.getD kk []).length : Nat) : Int)
      · rw [if_pos hlt, if_pos (by omega), if_pos (by omega), rdn, w64 (z := (T : Int) * (Q.getD kk []).getD r 0) (by omega) (by omega), w64 (by omega) (by omega), hval, ih]
      · have h0 : (Q.getD kk []).getD r 0 = 0 := by rw [List.getD_eq_getElem?_getD, List.getElem?_eq_none (by omega)]; rfl
        rw [h0] at hval hm2
        rw [if_neg hlt, if_pos (by omega), w64 (z := (T : Int) * 0) (by omega) (by omega), w64 (by omega) (by omega), hval, ih]
    · rw [if_neg hc] at e
      have ih := rOf_l2 Q T h2 h6 hQ kk hkk hq b hb hv m hm n K (i + 1) r acc (by omega) (by omega) (by omega) hrm e
      rw [← hF] at ih
      rw [if_neg hc, ih]
theorem sumG_l0 (l : List Int) (hl : l.length ≤ 1000) (hb : ∀ x ∈ l, 0 ≤ x ∧ x ≤ 1000000000) : ∀ n k (i : Nat) (a : Int), i + n = l.length → n < k → 0 ≤ a → a ≤ 1000000000 * i → clocheref04_Sum.l0 k l a i = some (a + (l.drop i).sum)
  | 0, k, i, a, h, hk, _, _ => by
    obtain ⟨k, rfl, _⟩ := succK hk
    simp only [clocheref04_Sum.l0]
    rw [if_neg (by omega), List.drop_eq_nil_of_le (by omega)]
    simp
  | n + 1, k, i, a, h, hk, h0, h1 => by
    obtain ⟨k, rfl, hk'⟩ := succK hk
    have hi : i < l.length := by omega
    have hx := hb _ (getD_mem hi)
    have ih := sumG_l0 l hl hb n k (i + 1) (a + l.getD i 0) (by omega) (by omega) (by omega) (by omega)
    simp only [clocheref04_Sum.l0]
    rw [if_pos (by omega), if_pos (by omega), rdn, w64 (by omega) (by omega), inc64 i (by omega), ih, drop_getD hi, List.sum_cons, Int.add_assoc]
theorem sumG_f (l : List Int) (hl : l.length ≤ 1000) (hb : ∀ x ∈ l, 0 ≤ x ∧ x ≤ 1000000000) (k : Nat) (hk : 1001 ≤ k) : clocheref04_Sum.f k l = some l.sum := by
  unfold clocheref04_Sum.f
  have := sumG_l0 l hl hb l.length k 0 0 (by omega) (by omega) (Int.le_refl _) (by simp)
  rw [List.drop_zero, Int.zero_add] at this
  exact this
theorem isShp_dr {l : List Int} (hd : DR l) (hp : ∀ x ∈ l, 1 ≤ x) : isShp l = (decide (l.sum ≤ 40) && decide (l.length ≤ 12)) := by
  rw [Bool.eq_iff_iff, isShp_iff, Bool.and_eq_true, decide_eq_true_eq, decide_eq_true_eq]
  exact ⟨fun h => ⟨h.sum, h.len⟩, fun h => shp_of h.2 hd hp h.1⟩
theorem shB_bound {b : List Int} (hd : DB b) {M : Int} (h : ∀ x ∈ b, x ≤ M) : ∀ x ∈ shB b, 0 ≤ x ∧ x ≤ M + 1 := fun x hx => by
  have h1 := shB_pos b x hx
  have h2 := rows_le b hd M h x (List.mem_filter.1 hx).1
  omega
theorem rOf_l1 (Q : List (List Int)) (T : Nat) (h2 : 2 ≤ T) (h6 : T ≤ 6) (hQ : Q.length = T) (hq : ∀ kk, kk < T → ∀ x ∈ Q.getD kk [], 0 ≤ x ∧ x ≤ 40) (b : List Int) (hb : b.length ≤ 150) (hv : ∀ x ∈ b, 0 ≤ x ∧ x ≤ 1000000) (m : Nat → Nat) (hm : ∀ kk, kk < T → run T (kk : Int) b = down (m kk) ∧ m kk ≤ 150 ∧ (Q.getD kk []).length ≤ m kk) (X : List Int) (hX : Fit X) (hXl : X.length ≤ 150) : ∀ n k (kk : Nat) (acc : List Int), kk + n = T → 1002 * n + 30000 ≤ k → acc.length ≤ 1000 * kk → acc ++ putA T m (fun j => Q.getD j []) kk n = X → clocheref04_Of.l1 k Q T b acc kk = ofEnd X
  | 0, k, kk, acc, h, hk, ha, e => by
    obtain ⟨k, rfl, _⟩ := succK (show 0 < k by omega)
    have e : acc = X := by simpa [putA] using e
    subst e
    have hl := hX.len
    have hle : ∀ x ∈ dsort acc, 0 ≤ x ∧ x ≤ 1000000 := fun x hx => hX.le x ((dsort_perm _).mem_iff.1 hx)
    have hsb := shB_bound hX.db (M := 1000000) (fun x hx => (hle x hx).2)
    have hsl := shB_length (dsort acc)
    rw [dsort_length] at hsl
    have hmul : acc.length * (acc.length + 3) ≤ 150 * 153 := Nat.mul_le_mul hXl (by omega)
    simp only [clocheref04_Of.l1]
    rw [if_neg (by omega), desc_f acc (by omega) k (by omega), Option.bind_some, shape_f _ (by rw [dsort_length]; omega) (fun x hx => by have := hle x hx; omega) k (by rw [dsort_length]; omega), Option.bind_some, sumG_f _ (by omega) (fun x hx => by have := hsb x hx; omega) k (by omega), Option.bind_some]
    unfold ofEnd
    rw [isShp_dr hX.db.shB_dr (shB_pos _)]
    by_cases c1 : (shB (dsort acc)).sum > 40
    · rw [if_pos c1, decide_eq_false (by omega), if_neg (by simp)]
    · rw [if_neg c1, decide_eq_true (by omega)]
      by_cases c2 : (((shB (dsort acc)).length : Nat) : Int) > 12
      · rw [if_pos c2, decide_eq_false (by omega), if_neg (by simp)]
      · rw [if_neg c2, decide_eq_true (by omega), if_pos (by rfl)]
  | n + 1, k, kk, acc, h, hk, ha, e => by
    have hkk : kk < T := by omega
    obtain ⟨m1, m2, m3⟩ := hm kk hkk
    obtain ⟨K, rfl⟩ : ∃ K, k = (K + b.length + 1) + 1 := ⟨k - b.length - 2, by omega⟩
    have h3 := rOf_l2 Q T h2 h6 hQ kk hkk (hq kk hkk) b (by omega) hv (m kk) (by omega) b.length K 0 0 acc (by omega) (by omega) (by omega) (by omega) (by rw [List.drop_zero, Nat.sub_zero]; exact m1)
    rw [Nat.sub_zero, upAt_put m3] at h3
    have hpl : (putW T kk (m kk) (Q.getD kk [])).length = m kk := by
      unfold putW
      rw [List.length_map, pad_length m3]
    have ih := rOf_l1 Q T h2 h6 hQ hq b hb hv m hm X hX hXl n K (kk + 1) (acc ++ putW T kk (m kk) (Q.getD kk [])) (by omega) (by omega) (by rw [List.length_append, hpl]; omega) (by
      rw [List.append_assoc, ← e, putA_succ])
    generalize hF : K + b.length + 1 = F at h3
    simp only [clocheref04_Of.l1]
    rw [if_pos (by omega)]
    exact h3.trans ih
theorem rOf_l0 (Q : List (List Int)) (c : List Int) (hQ : Q.length ≤ 1000) (R : Option (List Int × Int)) (T0 : Nat) (hR : okQ Q = true → ∀ k, T0 ≤ k → clocheref04_Of.l0 (k + 1) c Q Q.length Q.length = R) (hR2 : okQ Q = false → R = some ([], 2)) : ∀ n k (i : Nat), i + n = Q.length → n + T0 + 41 ≤ k → (∀ j, j < i → Shp (Q.getD j [])) → clocheref04_Of.l0 k c Q Q.length i = R
  | 0, k, i, h, hk, hs => by
    obtain ⟨k, rfl, _⟩ := succK (show 0 < k by omega)
    rw [show (i : Int) = (Q.length : Int) by omega]
    exact hR ((okQ_iff Q).2 fun j hj => hs j (by omega)) k (by omega)
  | n + 1, k, i, h, hk, hs => by
    obtain ⟨k, rfl, _⟩ := succK (show 0 < k by omega)
    simp only [clocheref04_Of.l0]
    rw [if_pos (by omega), if_pos (by omega), if_pos (by omega), rdLd, rIs_f _ k (by omega), Option.bind_some, inc64 i (by omega)]
    by_cases hc : isShp (Q.getD i []) = true
    · rw [if_pos hc]
      refine rOf_l0 Q c hQ R T0 hR hR2 n k (i + 1) (by omega) (by omega) fun j hj => ?_
      rcases Nat.lt_or_ge j i with h1 | h1
      · exact hs j h1
      · rw [show j = i by omega]
        exact (isShp_iff _).1 hc
    · rw [if_neg hc]
      refine (hR2 ?_).symm
      cases hq : okQ Q
      · rfl
      · exact absurd ((isShp_iff _).2 ((okQ_iff Q).1 hq i (by omega))) hc
theorem of_len_le {T N : Nat} {c : List Int} (h2 : 2 ≤ T) (h6 : T ≤ 6) (hc : Shp c) (hN : c.length ≤ N) (hT : N % T = 0) (hge : 13 * T ≤ N + 1 ∨ 12 * T + T + c.length ≤ N + 1) {k : Nat} (hk : k < T) {q : List Int} (hq : Shp q) (hN2 : c.length + T + 12 * T ≤ N + 1) : q.length ≤ many T N c k := by
  have h12 := hq.len
  have := many_ge (T := T) (N := N) h2 h6 hc.dr 12 hN hT hN2 hk
  omega
/-- At any number of rows that is great enough the shape is the same. -/
theorem of_same {T N N' : Nat} {c : List Int} {q : Nat → List Int} (h2 : 2 ≤ T) (h6 : T ≤ 6) (h : Of T c q) (hN : c.length ≤ N) (hT : N % T = 0) (hT' : N' % T = 0) (hm : ∀ k, k < T → (q k).length ≤ many T N c k) (hle : N ≤ N') : shB (dsort (ofB T N' c q)) = shB (dsort (ofB T N c q)) := by
  obtain ⟨a, rfl⟩ : ∃ a, N' = N + a * T := by
    have h3 : (N' - N) % T = 0 := Nat.sub_mod_eq_zero_of_mod_eq (by rw [hT, hT'])
    refine ⟨(N' - N) / T, ?_⟩
    have := Nat.div_add_mod (N' - N) T
    rw [h3, Nat.add_zero, Nat.mul_comm] at this
    omega
  have hq := fun k (hk : k < T) => (h.quo k hk).dr
  exact (ofB_of (by omega) N c hq).more (by omega) h.core.dr hN a (ofB_of (by omega) (N + a * T) c hq) hm
theorem least_wrap {T n N : Nat} (h6 : T ≤ 6) (hn : n ≤ 12) (hN : N = T * (12 + n + 1)) : wrap64 ((T : Int) * (wrap64 ((wrap64 (12 + (n : Int))) + 1))) = (N : Int) := by
  rw [w64 (z := 12 + (n : Int)) (by omega) (by omega), w64 (z := 12 + (n : Int) + 1) (by omega) (by omega), hN, Int.natCast_mul, Int.natCast_add, Int.natCast_add]
  refine w64 ?_ ?_
  · have := Int.mul_nonneg (show 0 ≤ (T : Int) by omega) (show 0 ≤ 12 + (n : Int) + 1 by omega)
    omega
  · have := Int.mul_le_mul (show (T : Int) ≤ 6 by omega) (show 12 + (n : Int) + 1 ≤ 25 by omega) (by omega) (by omega)
    omega
structure RowsN (T n N : Nat) : Prop where
  eq : N = T * (12 + n + 1)
  le : N ≤ 150
  ge : n + T + 12 * T ≤ N + 1
  dv : N % T = 0
theorem rows_n {T n : Nat} (h2 : 2 ≤ T) (h6 : T ≤ 6) (hn : n ≤ 12) : RowsN T n (T * (12 + n + 1)) := by
  have h1 : T * (12 + n + 1) ≤ 6 * 25 := Nat.mul_le_mul h6 (by omega)
  have h3 : T * n + T * 13 = T * (12 + n + 1) := by
    rw [← Nat.mul_add]
    congr 1
    omega
  have h4 : n ≤ T * n := Nat.le_mul_of_pos_left _ (by omega)
  exact ⟨rfl, by omega, by omega, Nat.mul_mod_right _ _⟩
theorem rOf_mid (c : List Int) (Q : List (List Int)) (T N : Nat) (hQ : Q.length = T) (h2 : 2 ≤ T) (h6 : T ≤ 6) (ho : Of T c (fun k => Q.getD k [])) (hR : RowsN T c.length N) (K : Nat) (hK : 40000 ≤ K) : ((clocheref04_padded.f K c T N).bind fun t => (clocheref04_beads.f K t).bind fun u => clocheref04_Of.l1 K Q T u [] 0) = ofEnd (ofB T N c (fun k => Q.getD k [])) := by
  have hs := ho.core
  have hl := hs.len
  obtain ⟨_, hle, hge, hmod⟩ := hR
  have hN : c.length ≤ N := by omega
  have hm : ∀ j, j < T → (Q.getD j []).length ≤ many T N c j := fun j hj => Nat.le_trans (ho.quo j hj).len (many_ge h2 h6 hs.dr 12 hN hmod (by omega) hj)
  have hfit := fit_of h2 h6 hs hN (by omega) ho.quo hm
  have hBl := (ofB_of (show 0 < T by omega) N c (fun k hk => (ho.quo k hk).dr)).length (by omega) hN hm
  rw [dsort_length] at hBl
  have hp := padded_f h2 h6 N N (by omega) (Nat.le_refl _) hmod c hN (fun e _ h1 h3 => by omega) K (by omega)
  have hb : clocheref04_beads.f K (c ++ List.replicate (N - c.length) 0) = some (pad N c) := rbeads_f _ (by rw [List.length_append, List.length_replicate]; omega) (fun x hx => by
    rcases List.mem_append.1 hx with h | h
    · have := hs.bound x h
      omega
    · rw [List.eq_of_mem_replicate h]
      omega) K (by rw [List.length_append, List.length_replicate]; omega)
  rw [hp, Option.bind_some, hb, Option.bind_some]
  exact rOf_l1 Q T h2 h6 hQ (fun j hj x hx => by have := (ho.quo j hj).bound x hx; omega) (pad N c) (by rw [pad_length hN]; omega) (fun x hx => by have := pad_bnd hs.dr (fun y hy => (hs.bound y hy).2) N hN (by omega) x hx; omega) (many T N c) (fun j hj => ⟨core_run (by omega) hs hN ho.nil hj, by
    have := run_length_le (T : Int) (j : Int) (pad N c)
    rw [pad_length hN] at this
    unfold many
    omega, hm j hj⟩) (ofB T N c fun k => Q.getD k []) hfit (by omega) T K 0 [] (by omega) (by omega) (by simp) (by rw [List.nil_append]; rfl)
theorem rOf_eq (c : List Int) (q : Nat → List Int) (T N : Nat) (h2 : 2 ≤ T) (h6 : T ≤ 6) (ho : Of T c q) (hR : RowsN T c.length N) : ofEnd (ofB T N c q) = ofEnd (ofB T (24 * T) c q) := by
  have hs := ho.core
  have hl := hs.len
  obtain ⟨_, hle, hge, hmod⟩ := hR
  have hmod2 : (24 * T) % T = 0 := Nat.mul_mod_left _ _
  have hm : ∀ j, j < T → (q j).length ≤ many T N c j := fun j hj => Nat.le_trans (ho.quo j hj).len (many_ge h2 h6 hs.dr 12 (by omega) hmod (by omega) hj)
  have hm2 : ∀ j, j < T → (q j).length ≤ many T (24 * T) c j := fun j hj => Nat.le_trans (ho.quo j hj).len (many_ge h2 h6 hs.dr 12 (by omega) hmod2 (by omega) hj)
  have hsame : shB (dsort (ofB T (24 * T) c q)) = shB (dsort (ofB T N c q)) := by
    rcases Nat.le_total N (24 * T) with h | h
    · exact of_same h2 h6 ho (by omega) hmod hmod2 hm h
    · exact (of_same h2 h6 ho (by omega) hmod2 hmod hm2 h).symm
  unfold ofEnd
  rw [hsame]
theorem rOf_f (c : List Int) (Q : List (List Int)) (hQ : Q.length ≤ 1000) (k : Nat) (hk : 100000 ≤ k) : clocheref04_Of.f k c Q = if okO c Q = true then ofEnd (ofB Q.length (24 * Q.length) c (fun k => Q.getD k [])) else some ([], 2) := by
  obtain ⟨k, rfl⟩ : ∃ K, k = K + 1 := ⟨k - 1, by omega⟩
  have hbad : clocheref04_Of.j0 (k + 1) c Q Q.length true = some ([], 2) := by
    simp only [clocheref04_Of.j0]
    rw [if_pos trivial]
  unfold clocheref04_Of.f
  rw [rIs_f c _ (by omega), Option.bind_some, Wires_f, Option.bind_some]
  by_cases hw : okW c Q.length = true
  · obtain ⟨hs, h2, h6⟩ := okW_iff hw
    have hl := hs.len
    rw [(isShp_iff c).2 hs, if_pos rfl, decide_eq_true h2, decide_eq_true h6]
    show clocheref04_Of.j0 (k + 1) c Q Q.length false = _
    simp only [clocheref04_Of.j0]
    rw [if_neg (by decide)]
    refine rOf_l0 Q c hQ _ 40000 (fun hq K hK => ?_) (fun hq => by rw [if_neg (by unfold okO; rw [hq]; simp)]) Q.length k 0 (by omega) (by omega) (fun j hj => by omega)
    simp only [clocheref04_Of.l0]
    rw [if_neg (by omega), rstrips_f c hs Q.length (by omega) (by omega) K (by omega), Option.bind_some]
    by_cases hz : (strp Q.length c).length = 0
    · have ho : okO c Q = true := by unfold okO; rw [hw, hq, decide_eq_true hz]; rfl
      have oo := okO_iff ho
      have hR := rows_n oo.h2 oo.h6 hl
      rw [if_neg (by omega), if_pos ho, least_wrap oo.h6 hl rfl]
      exact (rOf_mid c Q Q.length _ rfl oo.h2 oo.h6 oo.of hR K hK).trans (rOf_eq c _ Q.length _ oo.h2 oo.h6 oo.of hR)
    · rw [if_pos (by omega), if_neg (by unfold okO; rw [decide_eq_false hz]; simp)]
  · rw [if_neg (show ¬ okO c Q = true by unfold okO; rw [eq_false_of_ne_true hw]; simp)]
    unfold okW at hw
    cases h1 : isShp c
    · exact hbad
    · rw [if_pos rfl]
      rw [h1, Bool.true_and] at hw
      rw [eq_false_of_ne_true hw]
      exact hbad
end Go.Proofs.Ytcmphfcpiciehaa.Pure
