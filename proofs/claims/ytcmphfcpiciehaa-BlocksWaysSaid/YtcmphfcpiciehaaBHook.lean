/- Columns and hooks: the code's and the specification's are one list. -/
import Derived.Test.YtcmphfcpiciehaaBBase
import Derived.Test.YtcmphfcpiciehaaPrintx9
import Derived.Test.YtcmphfcpiciehaaPrintx21
import Derived.Test.YtcmphfcpiciehaaPrintx22
namespace Go.Proofs.Ytcmphfcpiciehaa.Pure
open Go.RowKit Go.Proofs.Ytcmphfcpiciehaa.Print Go.Proofs.YtcmphfcpiciehaaW.PrintWords Go.Proofs.YtcmphfcpiciehaaW.PrintLast Go.Proofs.YtcmphfcpiciehaaW.PrintMore
def colI (l : List Int) (c : Nat) : Int := (l.map (gtI (c : Int))).sum
def cols (l : List Int) : List Int := (List.range' 0 (l.getD 0 0).toNat).map (colI l)
theorem cols_length (l : List Int) : (cols l).length = (l.getD 0 0).toNat := by simp [cols]
theorem cols_getD {l : List Int} {c : Nat} (h : c < (l.getD 0 0).toNat) : (cols l).getD c 0 = colI l c := by
  unfold cols
  rw [List.getD_eq_getElem?_getD, List.getElem?_map, List.getElem?_range' h]
  simp
theorem gtI_bound (c x : Int) : 0 ≤ gtI c x ∧ gtI c x ≤ 1 := by
  unfold gtI
  split <;> omega
theorem colI_bound (l : List Int) (c : Nat) : 0 ≤ colI l c ∧ colI l c ≤ l.length := by
  have := sum_bound (l.map (gtI (c : Int))) 1 (fun x hx => by
    obtain ⟨y, _, rfl⟩ := List.mem_map.1 hx
    exact gtI_bound _ _)
  rw [List.length_map] at this
  unfold colI
  omega
theorem Shp.head {l : List Int} (h : Shp l) : 0 ≤ l.getD 0 0 ∧ l.getD 0 0 ≤ 40 := by
  rcases Nat.eq_zero_or_pos l.length with e | e
  · have : l = [] := List.eq_nil_of_length_eq_zero e
    subst this
    simp
  · have := h.bound _ (getD_mem e)
    omega
theorem Shp.le_head {l : List Int} (h : Shp l) : ∀ i, i < l.length → l.getD i 0 ≤ l.getD 0 0
  | 0, _ => Int.le_refl _
  | i + 1, hi => Int.le_trans (h.desc i hi) (h.le_head i (by omega))
theorem range'_succ' (i n : Nat) : List.range' i (n + 1) = i :: List.range' (i + 1) n := by
  rw [List.range'_succ]
theorem turned_l0 (l : List Int) (hs : Shp l) (hp : 0 < l.length) : ∀ n k (i : Nat) (acc : List Int), i + n = (l.getD 0 0).toNat → n + 20 ≤ k → acc.length = i → blocks_turned.l0 k l acc i = some (acc ++ (List.range' i n).map (colI l))
  | 0, k, i, acc, h, hk, ha => by
    obtain ⟨k, rfl, hk'⟩ := succK (show 0 < k by omega)
    have hh := hs.head
    have hr : rd l 0 = l.getD 0 0 := rdn l 0
    simp only [blocks_turned.l0]
    rw [if_pos (by omega), hr, if_neg (by omega)]
    simp
  | n + 1, k, i, acc, h, hk, ha => by
    obtain ⟨k, rfl, hk'⟩ := succK (show 0 < k by omega)
    have hh := hs.head
    have hl := hs.len
    have hr : rd l 0 = l.getD 0 0 := rdn l 0
    have e1 := inc64 i (by omega)
    have ht := totalG_f (gtI (i : Int)) l (by omega) (fun x _ => by have := gtI_bound (i : Int) x; omega) k (by omega)
    have ih := turned_l0 l hs hp n k (i + 1) (acc ++ [colI l i]) (by omega) (by omega) (by simp [ha])
    simp only [blocks_turned.l0]
    rw [if_pos (by omega), hr, if_pos (by omega), ht, Option.bind_some, if_pos (by omega), e1]
    refine Eq.trans ih ?_
    rw [range'_succ', List.map_cons, List.append_assoc]
    rfl
theorem turned_f (l : List Int) (hs : Shp l) (k : Nat) (hk : 100 ≤ k) : blocks_turned.f k l = some (cols l) := by
  unfold blocks_turned.f
  have hh := hs.head
  rcases Nat.eq_zero_or_pos l.length with e | e
  · have : l = [] := List.eq_nil_of_length_eq_zero e
    subst this
    obtain ⟨k, rfl, _⟩ := succK (show 0 < k by omega)
    simp only [blocks_turned.l0]
    rw [if_neg (by simp)]
    rfl
  · have := turned_l0 l hs e (l.getD 0 0).toNat k 0 [] (by omega) (by omega) rfl
    exact this
theorem Col_l1 (l : List Int) (hl : l.length ≤ 12) (acc : List Int) (ha : acc.length ≤ 100) (c : Nat) (hc : c ≤ 100) : ∀ n K (j : Nat) (a : Int), j + n = l.length → 0 ≤ a → a ≤ j → clocheref04_Columns.l1 (K + n + 1) l acc c a j = clocheref04_Columns.l0 K l (acc ++ [a + ((l.drop j).map (gtI (c : Int))).sum]) ((c + 1 : Nat) : Int)
  | 0, K, j, a, h, h0, h1 => by
    show clocheref04_Columns.l1 (K + 1) l acc c a j = _
    simp only [clocheref04_Columns.l1]
    rw [if_neg (by omega), if_pos (by omega), List.drop_eq_nil_of_le (by omega), inc64 c (by omega)]
    simp
  | n + 1, K, j, a, h, h0, h1 => by
    have e1 := inc64 j (by omega)
    obtain ⟨F, hF⟩ : ∃ F, F = K + n + 1 := ⟨_, rfl⟩
    have ih := fun a' => Col_l1 l hl acc ha c hc n K (j + 1) a' (by omega)
    rw [← hF] at ih
    rw [show K + (n + 1) + 1 = F + 1 by omega]
    simp only [clocheref04_Columns.l1]
    rw [if_pos (by omega), if_pos (by omega), rdn, e1, drop_getD (show j < l.length by omega)]
    simp only [List.map_cons, List.sum_cons]
    by_cases hg : l.getD j 0 > (c : Int)
    · rw [if_pos hg, w64 (by omega) (by omega), ih (a + 1) (by omega) (by omega)]
      have : gtI (c : Int) (l.getD j 0) = 1 := by unfold gtI; rw [if_pos hg]
      rw [this, Int.add_assoc]
    · rw [if_neg hg, ih a (by omega) (by omega)]
      have : gtI (c : Int) (l.getD j 0) = 0 := by unfold gtI; rw [if_neg hg]
      rw [this, Int.zero_add]
theorem Col_l0 (l : List Int) (hs : Shp l) (hp : 0 < l.length) : ∀ n k (i : Nat) (acc : List Int), i + n = (l.getD 0 0).toNat → 20 * n + 5 ≤ k → acc.length = i → clocheref04_Columns.l0 k l acc i = some (acc ++ (List.range' i n).map (colI l))
  | 0, k, i, acc, h, hk, ha => by
    obtain ⟨k, rfl⟩ : ∃ K, k = K + 2 := ⟨k - 2, by omega⟩
    have hh := hs.head
    have hr : rd l 0 = l.getD 0 0 := rdn l 0
    simp only [clocheref04_Columns.l0]
    rw [if_pos (by omega), if_pos (by omega), hr, decide_eq_false (by omega)]
    simp [clocheref04_Columns.j1]
  | n + 1, k, i, acc, h, hk, ha => by
    have hh := hs.head
    have hl := hs.len
    obtain ⟨K, rfl⟩ : ∃ K, k = (K + l.length + 1) + 1 + 1 := ⟨k - l.length - 3, by omega⟩
    have hr : rd l 0 = l.getD 0 0 := rdn l 0
    have h1 := Col_l1 l hl acc (by omega) i (by omega) l.length K 0 0 (by omega) (Int.le_refl _) (by simp)
    have ih := Col_l0 l hs hp n K (i + 1) (acc ++ [colI l i]) (by omega) (by omega) (by simp [ha])
    obtain ⟨F, hF⟩ : ∃ F, F = K + l.length + 1 := ⟨_, rfl⟩
    rw [← hF] at h1 ⊢
    simp only [clocheref04_Columns.l0]
    rw [if_pos (by omega), if_pos (by omega), hr, decide_eq_true (by omega)]
    simp only [clocheref04_Columns.j1]
    rw [if_pos trivial]
    refine Eq.trans h1 ?_
    rw [Int.zero_add, List.drop_zero]
    refine Eq.trans ih ?_
    rw [range'_succ', List.map_cons, List.append_assoc]
    rfl
theorem Col_f (l : List Int) (hs : Shp l) (k : Nat) (hk : 900 ≤ k) : clocheref04_Columns.f k l = some (cols l) := by
  unfold clocheref04_Columns.f
  have hh := hs.head
  rcases Nat.eq_zero_or_pos l.length with e | e
  · have : l = [] := List.eq_nil_of_length_eq_zero e
    subst this
    obtain ⟨k, rfl⟩ : ∃ K, k = K + 2 := ⟨k - 2, by omega⟩
    simp only [clocheref04_Columns.l0]
    rw [if_neg (by simp)]
    simp [clocheref04_Columns.j1, cols]
  · have := Col_l0 l hs e (l.getD 0 0).toNat k 0 [] (by omega) (by omega) rfl
    exact this
/-! ### hooks -/
def hook (l : List Int) (r c : Nat) : Int := l.getD r 0 - c + (cols l).getD c 0 - r - 1
def hkRow (l : List Int) (r : Nat) : List Int := (List.range' 0 (l.getD r 0).toNat).map (hook l r)
def hk (l : List Int) : List (List Int) := (List.range' 0 l.length).map (hkRow l)
theorem hook_wrap {l : List Int} (hs : Shp l) {r c : Nat} (hr : r < l.length) (hc : c < (l.getD r 0).toNat) : wrap64 ((wrap64 ((wrap64 ((wrap64 (l.getD r 0 - c)) + (cols l).getD c 0)) - r)) - 1) = hook l r c := by
  have h1 := hs.bound _ (getD_mem hr)
  have h2 := hs.le_head r hr
  have h3 := colI_bound l c
  have hl := hs.len
  rw [cols_getD (by omega)]
  unfold hook
  rw [cols_getD (by omega)]
  rw [w64 (z := l.getD r 0 - c) (by omega) (by omega), w64 (z := l.getD r 0 - c + colI l c) (by omega) (by omega), w64 (z := l.getD r 0 - c + colI l c - r) (by omega) (by omega), w64 (by omega) (by omega)]
theorem hooks_l1 (l : List Int) (hs : Shp l) (acc : List (List Int)) (ha : acc.length ≤ 100) (r : Nat) (hr : r < l.length) : ∀ n K (c : Nat) (row : List Int), c + n = (l.getD r 0).toNat → row.length = c → blocks_hooks.l1 (K + n + 1) (cols l) acc r (l.getD r 0) row l l.length r (l.getD r 0) c = blocks_hooks.l0 K (cols l) (acc ++ [row ++ (List.range' c n).map (hook l r)]) l l.length ((r + 1 : Nat) : Int)
  | 0, K, c, row, h, hw => by
    have h1 := hs.bound _ (getD_mem hr)
    have hl := hs.len
    show blocks_hooks.l1 (K + 1) (cols l) acc r (l.getD r 0) row l l.length r (l.getD r 0) c = _
    simp only [blocks_hooks.l1]
    rw [if_neg (by omega), if_pos (by omega), inc64 r (by omega)]
    simp
  | n + 1, K, c, row, h, hw => by
    have h1 := hs.bound _ (getD_mem hr)
    have h2 := hs.le_head r hr
    have hl := hs.len
    have e1 := inc64 c (by omega)
    have hc2 : (c : Int) < ((cols l).length : Int) := by
      rw [cols_length]
      omega
    have hc3 : (c : Int) < l.getD r 0 := by clear hc2; omega
    have hc4 : row.length < 17592186044416 := by clear hc2; omega
    have hc5 : c < (l.getD r 0).toNat := by clear hc2; omega
    have hc6 : c + 1 + n = (l.getD r 0).toNat := by clear hc2; omega
    obtain ⟨F, hF⟩ : ∃ F, F = K + n + 1 := ⟨_, rfl⟩
    have ih := hooks_l1 l hs acc ha r hr n K (c + 1) (row ++ [hook l r c]) hc6 (by rw [List.length_append, hw]; rfl)
    rw [← hF] at ih
    rw [show K + (n + 1) + 1 = F + 1 by rw [hF]; rfl]
    simp only [blocks_hooks.l1]
    rw [if_pos hc3, if_pos (Int.natCast_nonneg c), if_pos hc2, if_pos hc4, rdn, hook_wrap hs hr hc5, e1]
    refine Eq.trans ih ?_
    rw [range'_succ', List.map_cons, List.append_assoc]
    rfl
theorem hooks_l0 (l : List Int) (hs : Shp l) : ∀ n k (i : Nat) (acc : List (List Int)), i + n = l.length → 50 * n + 5 ≤ k → acc.length = i → blocks_hooks.l0 k (cols l) acc l l.length i = some (acc ++ (List.range' i n).map (hkRow l))
  | 0, k, i, acc, h, hk, ha => by
    obtain ⟨k, rfl, _⟩ := succK (show 0 < k by omega)
    simp only [blocks_hooks.l0]
    rw [if_neg (by omega)]
    simp
  | n + 1, k, i, acc, h, hk, ha => by
    have hl := hs.len
    have h1 := hs.bound _ (getD_mem (show i < l.length by omega))
    obtain ⟨K, rfl⟩ : ∃ K, k = (K + (l.getD i 0).toNat + 1) + 1 := ⟨k - (l.getD i 0).toNat - 2, by omega⟩
    have h2 := hooks_l1 l hs acc (by omega) i (by omega) (l.getD i 0).toNat K 0 [] (by omega) rfl
    have ih := hooks_l0 l hs n K (i + 1) (acc ++ [hkRow l i]) (by omega) (by omega) (by simp [ha])
    obtain ⟨F, hF⟩ : ∃ F, F = K + (l.getD i 0).toNat + 1 := ⟨_, rfl⟩
    rw [← hF] at h2 ⊢
    simp only [blocks_hooks.l0]
    rw [if_pos (by omega), if_pos (by omega), if_pos (by omega), rdn]
    refine Eq.trans h2 ?_
    refine Eq.trans ih ?_
    rw [range'_succ', List.map_cons, List.append_assoc]
    rfl
theorem hooks_f (l : List Int) (hs : Shp l) (k : Nat) (hk1 : 900 ≤ k) : blocks_hooks.f k l = some (hk l) := by
  have hl := hs.len
  unfold blocks_hooks.f
  rw [turned_f l hs k (by omega), Option.bind_some]
  have := hooks_l0 l hs l.length k 0 [] (by omega) (by omega) rfl
  exact this
theorem Len_l1 (l : List Int) (hs : Shp l) (acc : List (List Int)) (ha : acc.length ≤ 100) (r : Nat) (hr : r < l.length) : ∀ n K (c : Nat) (row : List Int), c + n = (l.getD r 0).toNat → row.length = c → clocheref04_Lengths.l1 (K + n + 1) l (cols l) acc r row c = clocheref04_Lengths.l0 K l (cols l) (acc ++ [row ++ (List.range' c n).map (hook l r)]) ((r + 1 : Nat) : Int)
  | 0, K, c, row, h, hw => by
    have h1 := hs.bound _ (getD_mem hr)
    have hl := hs.len
    show clocheref04_Lengths.l1 (K + 1) l (cols l) acc r row c = _
    simp only [clocheref04_Lengths.l1]
    rw [if_pos (by omega), if_pos (by omega), rdn, if_neg (by omega), if_pos (by omega), inc64 r (by omega)]
    simp
  | n + 1, K, c, row, h, hw => by
    have h1 := hs.bound _ (getD_mem hr)
    have h2 := hs.le_head r hr
    have hl := hs.len
    have e1 := inc64 c (by omega)
    have hc2 : (c : Int) < ((cols l).length : Int) := by
      rw [cols_length]
      omega
    have hc3 : (c : Int) < l.getD r 0 := by clear hc2; omega
    have hc4 : row.length < 17592186044416 := by clear hc2; omega
    have hc5 : c < (l.getD r 0).toNat := by clear hc2; omega
    have hc6 : c + 1 + n = (l.getD r 0).toNat := by clear hc2; omega
    obtain ⟨F, hF⟩ : ∃ F, F = K + n + 1 := ⟨_, rfl⟩
    have ih := Len_l1 l hs acc ha r hr n K (c + 1) (row ++ [hook l r c]) hc6 (by rw [List.length_append, hw]; rfl)
    rw [← hF] at ih
    rw [show K + (n + 1) + 1 = F + 1 by rw [hF]; rfl]
    simp only [clocheref04_Lengths.l1]
    rw [if_pos (Int.natCast_nonneg r), if_pos (Int.ofNat_lt.2 hr), rdn, if_pos hc3, if_pos (Int.natCast_nonneg c), if_pos hc2, if_pos hc4, rdn, hook_wrap hs hr hc5, e1]
    refine Eq.trans ih ?_
    rw [range'_succ', List.map_cons, List.append_assoc]
    rfl
theorem Len_l0 (l : List Int) (hs : Shp l) : ∀ n k (i : Nat) (acc : List (List Int)), i + n = l.length → 50 * n + 5 ≤ k → acc.length = i → clocheref04_Lengths.l0 k l (cols l) acc i = some (acc ++ (List.range' i n).map (hkRow l))
  | 0, k, i, acc, h, hk, ha => by
    obtain ⟨k, rfl, _⟩ := succK (show 0 < k by omega)
    simp only [clocheref04_Lengths.l0]
    rw [if_neg (by omega)]
    simp
  | n + 1, k, i, acc, h, hk, ha => by
    have hl := hs.len
    have h1 := hs.bound _ (getD_mem (show i < l.length by omega))
    obtain ⟨K, rfl⟩ : ∃ K, k = (K + (l.getD i 0).toNat + 1) + 1 := ⟨k - (l.getD i 0).toNat - 2, by omega⟩
    have h2 := Len_l1 l hs acc (by omega) i (by omega) (l.getD i 0).toNat K 0 [] (by omega) rfl
    have ih := Len_l0 l hs n K (i + 1) (acc ++ [hkRow l i]) (by omega) (by omega) (by simp [ha])
    obtain ⟨F, hF⟩ : ∃ F, F = K + (l.getD i 0).toNat + 1 := ⟨_, rfl⟩
    rw [← hF] at h2 ⊢
    simp only [clocheref04_Lengths.l0]
    rw [if_pos (by omega)]
    refine Eq.trans h2 ?_
    refine Eq.trans ih ?_
    rw [range'_succ', List.map_cons, List.append_assoc]
    rfl
theorem Len_f (l : List Int) (hs : Shp l) (k : Nat) (hk1 : 900 ≤ k) : clocheref04_Lengths.f k l = some (hk l) := by
  have hl := hs.len
  unfold clocheref04_Lengths.f
  rw [Col_f l hs k hk1, Option.bind_some]
  have := Len_l0 l hs l.length k 0 [] (by omega) (by omega) rfl
  exact this
end Go.Proofs.Ytcmphfcpiciehaa.Pure
