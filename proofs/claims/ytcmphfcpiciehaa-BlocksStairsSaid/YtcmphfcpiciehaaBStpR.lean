/- The blocks' plain laws: strips and cores of the specification. -/
import Derived.Test.YtcmphfcpiciehaaBStp
import Derived.Test.YtcmphfcpiciehaaPrintx18
import Derived.Test.YtcmphfcpiciehaaPrintx31
namespace Go.Proofs.Ytcmphfcpiciehaa.Pure
open Go.RowKit Go.Proofs.Ytcmphfcpiciehaa.Print Go.Proofs.YtcmphfcpiciehaaW.PrintWords Go.Proofs.YtcmphfcpiciehaaW.PrintLast Go.Proofs.YtcmphfcpiciehaaW.PrintMore
theorem has_l0 (l : List Int) (hl : l.length ≤ 1000000) (x : Int) : ∀ n k (i : Nat), i + n = l.length → n < k → clocheref04_has.l0 k l x i = some (decide (x ∈ l.drop i))
  | 0, k, i, h, hk => by
    obtain ⟨k, rfl, _⟩ := succK hk
    simp only [clocheref04_has.l0]
    rw [if_neg (by omega), List.drop_eq_nil_of_le (by omega)]
    rfl
  | n + 1, k, i, h, hk => by
    obtain ⟨k, rfl, _⟩ := succK hk
    have ih := has_l0 l hl x n k (i + 1) (by omega) (by omega)
    simp only [clocheref04_has.l0]
    rw [if_pos (by omega), if_pos (by omega), rdn, inc64 i (by omega), ih, drop_getD (show i < l.length by omega)]
    by_cases hx : l.getD i 0 = x
    · rw [if_pos hx, decide_eq_true (List.mem_cons.2 (.inl hx.symm))]
    · rw [if_neg hx]
      congr 1
      exact decide_eq_decide.2 (by
        rw [List.mem_cons]
        exact ⟨fun h => .inr h, fun h => h.resolve_left (fun e => hx e.symm)⟩)
theorem has_f (l : List Int) (hl : l.length ≤ 1000000) (x : Int) (k : Nat) (hk : l.length < k) : clocheref04_has.f k l x = some (decide (x ∈ l)) := by
  have := has_l0 l hl x l.length k 0 (by omega) hk
  rwa [List.drop_zero] at this
/-! ### the same in the specification -/
theorem shape_l0 (b : List Int) (hl : b.length ≤ 1000000) (hb : ∀ x ∈ b, 0 ≤ x ∧ x ≤ 1000000000) : ∀ n k (i : Nat) (acc : List Int), i + n = b.length → n < k → acc.length ≤ i → clocheref04_shape.l0 k b acc i = some (acc ++ ((rows b).drop i).filter fun x => decide (x > 0))
  | 0, k, i, acc, h, hk, ha => by
    obtain ⟨k, rfl, _⟩ := succK hk
    simp only [clocheref04_shape.l0]
    rw [if_neg (by omega), List.drop_eq_nil_of_le (by rw [rows_length]; omega)]
    simp
  | n + 1, k, i, acc, h, hk, ha => by
    obtain ⟨k, rfl, _⟩ := succK hk
    have ih := fun acc' h' => shape_l0 b hl hb n k (i + 1) acc' (by omega) (by omega) h'
    have hx := hb _ (getD_mem (show i < b.length by omega))
    have hr := rows_getD b i (by omega)
    simp only [clocheref04_shape.l0]
    rw [if_pos (by omega), if_pos (by omega), rdn, w64 (show -9223372036854775808 ≤ (b.length : Int) - 1 by omega) (by omega), w64 (show -9223372036854775808 ≤ (b.length : Int) - 1 - i by omega) (by omega), w64 (show -9223372036854775808 ≤ b.getD i 0 - ((b.length : Int) - 1 - i) by omega) (by omega), ← hr, inc64 i (by omega), drop_getD (show i < (rows b).length by rw [rows_length]; omega), List.filter_cons]
    by_cases hp : (rows b).getD i 0 > 0
    · rw [if_pos hp, if_pos (by omega), if_pos (decide_eq_true hp), ih _ (by simp; omega), List.append_assoc]
      rfl
    · rw [if_neg hp, if_neg (by rw [decide_eq_true_eq]; exact hp), ih _ (by omega)]
theorem shape_f (b : List Int) (hl : b.length ≤ 1000000) (hb : ∀ x ∈ b, 0 ≤ x ∧ x ≤ 1000000000) (k : Nat) (hk : b.length < k) : clocheref04_shape.f k b = some (shB b) := by
  have := shape_l0 b hl hb b.length k 0 [] (by omega) hk (Nat.le_refl _)
  rwa [List.drop_zero, List.nil_append] at this
theorem desc_l1 (b : List Int) (i : Nat) (hi : i ≤ 1000000) : ∀ n k (s1 s2 : List Int) (x : Int), s1.length = n → n < k → (s1 ++ s2).length ≤ 1000000 → (s1 ++ s2).Pairwise (fun x y => y ≤ x) → (∀ y ∈ s2, y < x) →
    ∃ k' s, k ≤ k' + n + 1 ∧ s.Perm (s1 ++ x :: s2) ∧ s.Pairwise (fun x y => y ≤ x) ∧ clocheref04_descending.l1 k b (s1 ++ x :: s2) i n = clocheref04_descending.l0 k' b s ((i + 1 : Nat) : Int)
  | 0, k, s1, s2, x, h, hk, hl, hp, hs => by
    obtain ⟨k, rfl, _⟩ := succK hk
    have : s1 = [] := List.length_eq_zero_iff.1 h
    subst this
    refine ⟨k, x :: s2, by omega, List.Perm.refl _, List.pairwise_cons.2 ⟨fun y hy => by have := hs y hy; omega, hp⟩, ?_⟩
    simp only [clocheref04_descending.l1]
    rw [if_neg (by omega), inc64 i (by omega)]
    rfl
  | n + 1, k, s1, s2, x, h, hk, hl, hp, hs => by
    obtain ⟨k, rfl, _⟩ := succK hk
    obtain ⟨t, y, rfl⟩ : ∃ t y, s1 = t ++ [y] := by
      rcases List.eq_nil_or_concat s1 with e | ⟨t, y, e⟩
      · subst e; simp at h
      · exact ⟨t, y, by rw [e, List.concat_eq_append]⟩
    have ht : t.length = n := by simp at h; omega
    have hl2 : t.length + 1 + s2.length ≤ 1000000 := by
      have := hl
      simp at this
      omega
    have ex : ((t ++ [y]) ++ x :: s2).getD (n + 1) 0 = x := by simp [← ht]
    have ey : ((t ++ [y]) ++ x :: s2).getD n 0 = y := by simp [← ht]
    have en : wrap64 (((n + 1 : Nat) : Int) - 1) = (n : Int) := by rw [w64 (by omega) (by omega)]; omega
    simp only [clocheref04_descending.l1]
    rw [if_pos (by omega), if_pos (by omega), if_pos (by simp; omega), en, if_pos (by omega), if_pos (by simp; omega), rdn, rdn, ex, ey]
    by_cases hxy : x > y
    · rw [if_pos hxy]
      have hset : ((((t ++ [y]) ++ x :: s2).set (n + 1) y).set n x) = t ++ x :: y :: s2 := by simp [← ht]
      rw [Int.toNat_natCast, Int.toNat_natCast, hset]
      obtain ⟨k', s, hk', hsp, hss, e⟩ := desc_l1 b i hi n k t (y :: s2) x ht (by omega) (by simpa using hl) (by simpa using hp) (fun z hz => by
        rcases List.mem_cons.1 hz with rfl | hz
        · exact hxy
        · exact hs z hz)
      exact ⟨k', s, by omega, hsp.trans (by
        rw [List.append_assoc]
        exact List.Perm.append_left t (List.Perm.swap y x s2)), hss, e⟩
    · rw [if_neg hxy, inc64 i (by omega)]
      refine ⟨k, _, by omega, List.Perm.refl _, ?_, rfl⟩
      have hp1 := List.pairwise_append.1 hp
      refine List.pairwise_append.2 ⟨hp1.1, List.pairwise_cons.2 ⟨fun z hz => by have := hs z hz; omega, hp1.2.1⟩, fun z hz w hw => ?_⟩
      have hzy : y ≤ z := by
        rcases List.mem_append.1 hz with hz | hz
        · exact (List.pairwise_append.1 hp1.1).2.2 z hz y (by simp)
        · have : z = y := by simpa using hz
          omega
      rcases List.mem_cons.1 hw with rfl | hw
      · omega
      · have := hs w hw
        omega
theorem desc_l0 (b : List Int) (hl : b.length ≤ 100000) : ∀ n k (i : Nat) (s : List Int), i + n = b.length → n * (b.length + 3) < k → s.Perm (b.take i) → s.Pairwise (fun x y => y ≤ x) → clocheref04_descending.l0 k b s i = some (dsort b)
  | 0, k, i, s, h, hk, hp, hs => by
    obtain ⟨k, rfl, _⟩ := succK (show 0 < k by omega)
    simp only [clocheref04_descending.l0]
    rw [if_neg (by omega)]
    rw [List.take_of_length_le (by omega)] at hp
    rw [(hp.trans (dsort_perm b).symm).eq_of_pairwise (fun _ _ _ _ h1 h2 => by omega) hs (dsort_ge b)]
  | n + 1, k, i, s, h, hk, hp, hs => by
    have hmul : (n + 1) * (b.length + 3) = n * (b.length + 3) + (b.length + 3) := Nat.succ_mul _ _
    obtain ⟨k, rfl, _⟩ := succK (show 0 < k by omega)
    have hsl : s.length = i := by rw [hp.length_eq, List.length_take]; omega
    obtain ⟨k', s', hk', hsp, hss, e⟩ := desc_l1 b i (by omega) s.length k s [] (b.getD i 0) rfl (by omega) (by simp; omega) (by simpa using hs) (by simp)
    have ih := desc_l0 b hl n k' (i + 1) s' (by omega) (by omega) (hsp.trans (by
      rw [List.take_succ_eq_append_getElem (show i < b.length by omega), getD_at (show i < b.length by omega)]
      exact List.Perm.append_right _ hp)) hss
    simp only [clocheref04_descending.l0]
    rw [if_pos (by omega), if_pos (by omega), if_pos (by omega), Option.bind_some, rdn]
    have e2 : wrap64 (((s ++ [b.getD i 0]).length : Int) - 1) = (s.length : Int) := by
      rw [List.length_append, List.length_singleton, w64 (by omega) (by omega)]
      omega
    rw [e2, e, ih]
theorem desc_f (b : List Int) (hl : b.length ≤ 100000) (k : Nat) (hk : b.length * (b.length + 3) < k) : clocheref04_descending.f k b = some (dsort b) :=
  desc_l0 b hl b.length k 0 [] (by omega) hk (by simp) List.Pairwise.nil
theorem rs_l1 (t : Int) (ht : 0 < t) (ht2 : t ≤ 1000) (b : List Int) (hb : Bnd b) (acc : List (List Int)) (i : Nat) (hi : i < b.length) : ∀ m K (j : Nat), j + m = b.length → clocheref04_strips.l1 (K + m + 1) t b acc i ((mv t b i).take j) j = (clocheref04_descending.f K (mv t b i)).bind fun u => (clocheref04_shape.f K u).bind fun v => if acc.length < 5864062014805 then clocheref04_strips.l0 K t b (acc ++ [v]) (wrap64 ((i : Int) + 1)) else none
  | 0, K, j, h => by
    simp only [clocheref04_strips.l1]
    rw [if_neg (by omega), List.take_of_length_le (by rw [mv_length]; omega)]
  | m + 1, K, j, h => by
    have hl := hb.len
    have hx := hb.db.nn _ (getD_mem (show j < b.length by omega))
    have hx2 := hb.le _ (getD_mem (show j < b.length by omega))
    have ih := rs_l1 t ht ht2 b hb acc i hi m K (j + 1) (by omega)
    rw [take_mv t b i j (by omega)] at ih
    have hlen : ((mv t b i).take j).length ≤ 1000 := by rw [List.length_take, mv_length]; omega
    obtain ⟨F, hF⟩ : ∃ F, F = K + m + 1 := ⟨_, rfl⟩
    rw [← hF] at ih
    rw [show K + (m + 1) + 1 = F + 1 by rw [hF]; rfl]
    simp only [clocheref04_strips.l1]
    rw [if_pos (by omega), rdn, inc64 j (by omega), w64 (show -9223372036854775808 ≤ b.getD j 0 - t by omega) (by omega), ← ih]
    by_cases e : i = j
    · rw [if_pos (by omega), if_pos (by omega), if_pos (by omega), if_pos e, e]
    · rw [if_neg (by omega), if_pos (by omega), if_pos (by omega), if_neg e]
theorem rs_l0 (t : Int) (ht : 0 < t) (ht2 : t ≤ 1000) (b : List Int) (hb : Bnd b) : ∀ m k (i : Nat) (acc : List (List Int)), i + m = b.length → 16 * m + 200 ≤ k → acc.length ≤ i → clocheref04_strips.l0 k t b acc i = some (acc ++ ((List.range' i m).filter (can t b)).map fun i => shB (dsort (mv t b i)))
  | 0, k, i, acc, h, hk, ha => by
    obtain ⟨k, rfl, _⟩ := succK (show 0 < k by omega)
    simp only [clocheref04_strips.l0]
    rw [if_neg (by omega)]
    simp
  | m + 1, k, i, acc, h, hk, ha => by
    have hl := hb.len
    have hi : i < b.length := by omega
    have hx := hb.db.nn _ (getD_mem hi)
    have hx2 := hb.le _ (getD_mem hi)
    obtain ⟨k, rfl⟩ : ∃ K, k = K + 1 + 1 := ⟨k - 2, by omega⟩
    have hj : clocheref04_strips.l0 (k + 1 + 1) t b acc i = clocheref04_strips.j1 (k + 1) t b acc i (!can t b i) := by
      generalize hF : k + 1 = F
      simp only [clocheref04_strips.l0]
      rw [if_pos (by omega), if_pos (by omega), rdn, w64 (show -9223372036854775808 ≤ b.getD i 0 - t by omega) (by omega), has_f b (by omega) _ F (by omega), Option.bind_some]
      unfold can
      by_cases hc : b.getD i 0 < t
      · rw [if_pos hc, decide_eq_false (show ¬ t ≤ b.getD i 0 by omega)]
        rfl
      · rw [if_neg hc, decide_eq_true (show t ≤ b.getD i 0 by omega), Bool.true_and, Bool.not_not]
    rw [hj, range'_succ', List.filter_cons]
    cases hc : can t b i
    · have ih := rs_l0 t ht ht2 b hb m k (i + 1) acc (by omega) (by omega) (by omega)
      simp only [clocheref04_strips.j1]
      rw [if_pos (show (!false) = true from rfl), if_neg (by decide), inc64 i (by omega), ih]
    · obtain ⟨K, rfl⟩ : ∃ K, k = K + b.length + 1 := ⟨k - b.length - 1, by omega⟩
      have ih := rs_l0 t ht ht2 b hb m K (i + 1) (acc ++ [shB (dsort (mv t b i))]) (by omega) (by omega) (by simp; omega)
      have h1 := rs_l1 t ht ht2 b hb acc i hi b.length K 0 (by omega)
      have hm := mv_bnd hb ht hi hc
      have hmul : b.length * (b.length + 3) ≤ 12 * 15 := Nat.mul_le_mul hl (by omega)
      rw [desc_f (mv t b i) (by rw [mv_length]; omega) K (by rw [mv_length]; omega), Option.bind_some, shape_f (dsort (mv t b i)) (by rw [dsort_length, mv_length]; omega) (fun x hx => hm x ((dsort_perm _).mem_iff.1 hx)) K (by rw [dsort_length, mv_length]; omega), Option.bind_some, if_pos (by omega), inc64 i (by omega), ih, List.append_assoc] at h1
      obtain ⟨F, hF⟩ : ∃ F, F = K + b.length + 1 := ⟨_, rfl⟩
      rw [← hF] at h1 ⊢
      simp only [clocheref04_strips.j1]
      rw [if_neg (by decide), if_pos trivial]
      exact h1
theorem rstrips_f (l : List Int) (hs : Shp l) (t : Int) (ht : 0 < t) (ht2 : t ≤ 1000) (k : Nat) (hk : 400 ≤ k) : clocheref04_strips.f k l t = some (strp t l) := by
  have hl := hs.len
  have hb := hs.bnd
  have h := rs_l0 t ht ht2 (bd l) hb (bd l).length k 0 [] (by omega) (by rw [bd_length]; omega) (Nat.le_refl _)
  unfold clocheref04_strips.f
  rw [rbeads_f l (by omega) (fun x hx => by have := hs.bound x hx; omega) k (by omega), Option.bind_some]
  refine Eq.trans h ?_
  unfold strp stpB
  rw [List.nil_append, List.map_map]
  rfl
theorem rcore_l0 (t : Int) (ht : 0 < t) (ht2 : t ≤ 1000) (c : Nat) (hc : 410 ≤ c) : ∀ (n k : Nat) (l : List Int) (i : Nat), Shp l → l.sum ≤ n → n + c ≤ k → i ≤ 1000 - n → n ≤ 40 → clocheref04_core.l0 k t l i = some ((coreS t n l).1, (coreS t n l).2 + i)
  | n, k, l, i, hs, hn, hk, hi, h40 => by
    obtain ⟨k, rfl, _⟩ := succK (show 0 < k by omega)
    simp only [clocheref04_core.l0]
    rw [rstrips_f l hs t ht ht2 k (by omega), Option.bind_some]
    have h0 := shp_sum0 hs
    cases e : strp t l with
    | nil =>
      have hco : coreS t n l = (l, 0) := by
        cases n with
        | zero => rfl
        | succ n => unfold coreS; rw [e]
      rw [if_pos (by rfl), hco, Int.zero_add]
    | cons s r =>
      obtain ⟨h1, h2⟩ := strp_shp hs (Int.le_of_lt ht) (show s ∈ strp t l by rw [e]; exact List.mem_cons_self)
      have h3 := shp_sum0 h1
      cases n with
      | zero => omega
      | succ n =>
        have ih := rcore_l0 t ht ht2 c hc n k s (i + 1) h1 (by omega) (by omega) (by omega) (by omega)
        have hco : coreS t (n + 1) l = ((coreS t n s).1, (coreS t n s).2 + 1) := by
          conv => lhs; unfold coreS
          rw [e]
        rw [if_neg (by rw [List.length_cons]; omega), if_pos (by rw [List.length_cons]; omega), inc64 i (by omega)]
        show clocheref04_core.l0 k t s _ = _
        rw [ih, hco]
        congr 2
        omega
theorem rcore_f (l : List Int) (hs : Shp l) (t : Int) (ht : 0 < t) (ht2 : t ≤ 1000) (k : Nat) (hk : 450 ≤ k) : clocheref04_core.f k l t = some (core t l) := by
  have hl := hs.len
  have h := rcore_l0 t ht ht2 410 (Nat.le_refl _) 40 k l 0 hs hs.sum (by omega) (by omega) (by omega)
  unfold clocheref04_core.f
  rw [if_pos (by simp; omega), List.nil_append]
  refine Eq.trans h ?_
  show some ((coreS t 40 l).1, (coreS t 40 l).2 + ((0 : Nat) : Int)) = some (coreS t 40 l)
  rw [show ((0 : Nat) : Int) = 0 from rfl, Int.add_zero]
theorem Wires_f (t : Int) : clocheref04_Wires.f t = some (decide (2 ≤ t) && decide (t ≤ 6)) := by
  unfold clocheref04_Wires.f
  by_cases h : t ≥ 2
  · rw [if_pos h, decide_eq_true (show 2 ≤ t from h), Bool.true_and]
  · rw [if_neg h, decide_eq_false (show ¬ 2 ≤ t from h), Bool.false_and]
/-- An answer of the specification: the shape is looked at, then the number of wires. -/
theorem refW {α : Type} (l : List Int) (t : Int) (k : Nat) (hk : 40 ≤ k) (x : Option α) (e : α) : ((clocheref04_IsShape.f k l).bind fun u => if u = true then ((clocheref04_Wires.f t).bind fun v => if v = true then x else some e) else some e) = if okW l t = true then x else some e := by
  rw [rIs_f l k hk, Option.bind_some, Wires_f, Option.bind_some]
  unfold okW
  cases isShp l
  · rfl
  · rw [if_pos rfl, Bool.true_and]
theorem bStrips_f (l : List Int) (t : Int) (k : Nat) (hk : 60 ≤ k) : blocks_Strips.f k l t = if okW l t = true then some (strp t l, 0) else some ([], 2) := by
  unfold blocks_Strips.f
  rw [ownW l t k (by omega)]
  by_cases h : okW l t = true
  · obtain ⟨hs, h1, h2⟩ := okW_iff h
    rw [if_pos h, if_pos h, bstrips_f l hs t (by omega) (by omega) k (by omega), Option.bind_some]
  · rw [if_neg h, if_neg h]
theorem rStrips_f (l : List Int) (t : Int) (k : Nat) (hk : 400 ≤ k) : clocheref04_Strips.f k l t = if okW l t = true then some (strp t l, 0) else some ([], 2) := by
  unfold clocheref04_Strips.f
  rw [refW l t k (by omega)]
  by_cases h : okW l t = true
  · obtain ⟨hs, h1, h2⟩ := okW_iff h
    rw [if_pos h, if_pos h, rstrips_f l hs t (by omega) (by omega) k (by omega), Option.bind_some]
  · rw [if_neg h, if_neg h]
theorem rCore_f (l : List Int) (t : Int) (k : Nat) (hk : 450 ≤ k) : clocheref04_Core.f k l t = if okW l t = true then some ((core t l).1, (core t l).2, 0) else some ([], 0, 2) := by
  unfold clocheref04_Core.f
  rw [refW l t k (by omega)]
  by_cases h : okW l t = true
  · obtain ⟨hs, h1, h2⟩ := okW_iff h
    rw [if_pos h, if_pos h, rcore_f l hs t (by omega) (by omega) k (by omega), Option.bind_some]
  · rw [if_neg h, if_neg h]
theorem bIsCore_f (l : List Int) (t : Int) (k : Nat) (hk : 60 ≤ k) : blocks_IsCore.f k l t = if okW l t = true then some (((strp t l).length : Int) == 0, 0) else some (false, 2) := by
  unfold blocks_IsCore.f
  rw [ownW l t k (by omega)]
  by_cases h : okW l t = true
  · obtain ⟨hs, h1, h2⟩ := okW_iff h
    rw [if_pos h, if_pos h, bstrips_f l hs t (by omega) (by omega) k (by omega), Option.bind_some]
  · rw [if_neg h, if_neg h]
end Go.Proofs.Ytcmphfcpiciehaa.Pure
