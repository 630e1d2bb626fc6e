/- The blocks' plain laws: all shapes, one by one, and which of them are cores. -/
import Derived.Test.YtcmphfcpiciehaaBStpR
import Derived.Test.YtcmphfcpiciehaaHandCores
import Derived.Test.YtcmphfcpiciehaaPrintx35
namespace Go.Proofs.Ytcmphfcpiciehaa.Pure
open Go.RowKit Go.Proofs.Ytcmphfcpiciehaa.Print Go.Proofs.YtcmphfcpiciehaaW.PrintWords Go.Proofs.YtcmphfcpiciehaaW.PrintLast Go.Proofs.YtcmphfcpiciehaaW.PrintMore
/-- the shapes that go on with x, x + 1, .. -/
def gL (rec : List Int → Nat → Nat → List (List Int)) (lim : Bool) (L : List Int) (left : Nat) (x : Nat) : Nat → List (List Int)
  | 0 => []
  | m + 1 => (if (lim && decide (12 ≤ L.length)) = true then [] else rec (L ++ [(x : Int)]) (left - x) x) ++ gL rec lim L left (x + 1) m
/-- all shapes that begin with L and have so many blocks more, with at most 'most' in each row. -/
def gO (lim : Bool) : Nat → List Int → Nat → Nat → List (List Int)
  | 0 => fun _ _ _ => []
  | d + 1 => fun L left most => if left = 0 then [L] else gL (gO lim d) lim L left 1 (min left most)
theorem gL_len {rec : List Int → Nat → Nat → List (List Int)} {lim : Bool} {L : List Int} {left : Nat} (h : ∀ L' left' most', left' < left → (rec L' left' most').length ≤ 2 ^ left') : ∀ m x, 1 ≤ x → x + m ≤ left + 1 → (gL rec lim L left x m).length + 1 ≤ 2 ^ (left + 1 - x)
  | 0, x, hx, hm => Nat.one_le_two_pow
  | m + 1, x, hx, hm => by
    have h1 := gL_len (lim := lim) (L := L) h m (x + 1) (by omega) (by omega)
    have h2 := h (L ++ [(x : Int)]) (left - x) x (by omega)
    have e : left + 1 - x = (left - x) + 1 := by omega
    rw [show left + 1 - (x + 1) = left - x by omega] at h1
    rw [e, Nat.pow_succ]
    simp only [gL, List.length_append]
    have h3 : (if (lim && decide (12 ≤ L.length)) = true then [] else rec (L ++ [(x : Int)]) (left - x) x).length ≤ 2 ^ (left - x) := by
      split
      · exact Nat.zero_le _
      · exact h2
    omega
theorem gO_len (lim : Bool) : ∀ d L left most, (gO lim d L left most).length ≤ 2 ^ left
  | 0, _, _, _ => Nat.zero_le _
  | d + 1, L, left, most => by
    simp only [gO]
    by_cases h : left = 0
    · rw [if_pos h, h]; exact Nat.le_refl _
    · rw [if_neg h]
      have := gL_len (lim := lim) (L := L) (left := left) (fun L' left' most' _ => gO_len lim d L' left' most') (min left most) 1 (Nat.le_refl _) (by omega)
      rw [Nat.add_sub_cancel] at this
      omega
structure Sh (L : List Int) (most : Nat) : Prop where
  ge : L.Pairwise (fun x y => y ≤ x)
  lo : ∀ y ∈ L, (most : Int) ≤ y ∧ 1 ≤ y
theorem Sh.snoc {L : List Int} {most x : Nat} (h : Sh L most) (h1 : 1 ≤ x) (h2 : x ≤ most) : Sh (L ++ [(x : Int)]) x := by
  refine ⟨List.pairwise_append.2 ⟨h.ge, List.pairwise_singleton _ _, fun a ha b hb => ?_⟩, fun y hy => ?_⟩
  · rw [List.mem_singleton] at hb
    have := (h.lo a ha).1
    omega
  · rcases List.mem_append.1 hy with hy | hy
    · have := h.lo y hy
      exact ⟨by omega, this.2⟩
    · rw [List.mem_singleton] at hy
      omega
theorem gL_mem {rec : List Int → Nat → Nat → List (List Int)} {lim : Bool} {L : List Int} {left : Nat} {l : List Int} : ∀ m x, l ∈ gL rec lim L left x m → ∃ y, x ≤ y ∧ y < x + m ∧ l ∈ rec (L ++ [(y : Int)]) (left - y) y
  | 0, x, h => by cases h
  | m + 1, x, h => by
    simp only [gL] at h
    rcases List.mem_append.1 h with h | h
    · split at h
      · cases h
      · exact ⟨x, Nat.le_refl _, by omega, h⟩
    · obtain ⟨y, h1, h2, h3⟩ := gL_mem m (x + 1) h
      exact ⟨y, by omega, by omega, h3⟩
theorem gO_mem (lim : Bool) : ∀ d L left most l, l ∈ gO lim d L left most → Sh L most → l.Pairwise (fun x y => y ≤ x) ∧ (∀ y ∈ l, 1 ≤ y) ∧ l.sum = L.sum + left ∧ L.length ≤ l.length
  | 0, _, _, _, _, h, _ => by cases h
  | d + 1, L, left, most, l, h, hS => by
    simp only [gO] at h
    by_cases h0 : left = 0
    · rw [if_pos h0, List.mem_singleton] at h
      subst h
      exact ⟨hS.ge, fun y hy => (hS.lo y hy).2, by rw [h0]; simp, Nat.le_refl _⟩
    · rw [if_neg h0] at h
      obtain ⟨y, h1, h2, h3⟩ := gL_mem _ _ h
      obtain ⟨q1, q2, q3, q4⟩ := gO_mem lim d _ _ _ l h3 (hS.snoc h1 (by omega))
      refine ⟨q1, q2, ?_, ?_⟩
      · rw [q3, List.sum_append, List.sum_singleton]; omega
      · rw [List.length_append] at q4; omega
theorem gL_nil {rec : List Int → Nat → Nat → List (List Int)} {L : List Int} {left : Nat} (h : 12 ≤ L.length) : ∀ m x, gL rec true L left x m = []
  | 0, _ => rfl
  | m + 1, x => by
    simp only [gL]
    rw [decide_eq_true h, gL_nil h m (x + 1)]
    rfl
theorem gL_lim {d : Nat} {L : List Int} {left most : Nat} (ih : ∀ L' left' most', L'.length ≤ 12 → Sh L' most' → gO true d L' left' most' = (gO false d L' left' most').filter (fun l => decide (l.length ≤ 12))) (hL : L.length ≤ 12) (hS : Sh L most) :
    ∀ m x, 1 ≤ x → x + m ≤ most + 1 → gL (gO true d) true L left x m = (gL (gO false d) false L left x m).filter (fun l => decide (l.length ≤ 12))
  | 0, _, _, _ => rfl
  | m + 1, x, h1, h2 => by
    have hs := hS.snoc h1 (show x ≤ most by omega)
    simp only [gL]
    rw [List.filter_append, gL_lim ih hL hS m (x + 1) (by omega) (by omega)]
    congr 1
    rw [if_neg (show ¬ (false && decide (12 ≤ L.length)) = true by simp)]
    by_cases c : 12 ≤ L.length
    · rw [decide_eq_true c, if_pos (show (true && true) = true from rfl)]
      symm
      rw [List.filter_eq_nil_iff]
      intro l hl
      have := (gO_mem false d _ _ _ l hl hs).2.2.2
      rw [List.length_append, List.length_singleton] at this
      simp only [decide_eq_true_eq]
      omega
    · rw [decide_eq_false c, if_neg (by decide)]
      exact ih _ _ _ (by rw [List.length_append, List.length_singleton]; omega) hs
theorem gO_lim : ∀ d L left most, L.length ≤ 12 → Sh L most → gO true d L left most = (gO false d L left most).filter (fun l => decide (l.length ≤ 12))
  | 0, _, _, _, _, _ => rfl
  | d + 1, L, left, most, hL, hS => by
    simp only [gO]
    by_cases h0 : left = 0
    · rw [if_pos h0, if_pos h0, List.filter_cons, if_pos (decide_eq_true hL)]
      rfl
    · rw [if_neg h0, if_neg h0]
      exact gL_lim (fun L' left' most' h1 h2 => gO_lim d L' left' most' h1 h2) hL hS _ 1 (Nat.le_refl _) (by omega)
/-- has the shape no strip? -/
def cor (t : Int) (l : List Int) : Bool := decide ((strp t l).length = 0)
theorem mnN' (a b : Nat) : mn (a : Int) (b : Int) = ((min a b : Nat) : Int) := by
  unfold mn
  split <;> omega
theorem lp_f {t : Int} {d : Nat} {L : List Int} {left most : Nat} (hleft : left ≤ 20) (hL : L.length ≤ 12)
    (ih : L.length < 12 → ∀ x out k, 1 ≤ x → x ≤ min left most → 30 * (left - x) + 100 ≤ k → out.length + 2 ^ (left - x) ≤ 1000000000 → blocks_shapes_on.on k t (L ++ [(x : Int)]) out ((left - x : Nat) : Int) (x : Int) = some (out ++ (gO true d (L ++ [(x : Int)]) (left - x) x).filter (cor t))) :
    ∀ m x k out, 1 ≤ x → x + m = min left most + 1 → 30 * left + 70 + m + 1 ≤ k → out.length + 2 ^ (left + 1 - x) ≤ 1000000000 → blocks_shapes_on.lp k t L out (left : Int) (most : Int) (x : Int) = some (out ++ (gL (gO true d) true L left x m).filter (cor t))
  | 0, x, k, out, h1, hx, hk, ho => by
    obtain ⟨k, rfl, _⟩ := succK (show 0 < k by omega)
    rw [blocks_shapes_on.lp, mnN', if_neg (by omega)]
    simp [gL]
  | m + 1, x, k, out, h1, hx, hk, ho => by
    obtain ⟨k, rfl, _⟩ := succK (show 0 < k by omega)
    rw [blocks_shapes_on.lp, mnN', if_pos (by omega)]
    by_cases c : L.length < 12
    · have e : left + 1 - x = (left - x) + 1 := by omega
      rw [e, Nat.pow_succ] at ho
      have hlen : ((gO true d (L ++ [(x : Int)]) (left - x) x).filter (cor t)).length ≤ 2 ^ (left - x) := Nat.le_trans (List.length_filter_le _ _) (gO_len true d _ _ _)
      have hrec := lp_f hleft hL ih m (x + 1) k (out ++ (gO true d (L ++ [(x : Int)]) (left - x) x).filter (cor t)) (by omega) (by omega) (by omega) (by
        rw [List.length_append, show left + 1 - (x + 1) = left - x by omega]
        omega)
      rw [if_pos (by omega), w64 (by omega) (by omega), show (left : Int) - (x : Int) = ((left - x : Nat) : Int) by omega, ih c x out k h1 (by omega) (by omega) (by omega), Option.bind_some, inc64 x (by omega), hrec]
      simp only [gL]
      rw [decide_eq_false (show ¬ 12 ≤ L.length by omega), if_neg (by decide), List.filter_append, List.append_assoc]
    · rw [if_neg (by omega), gL_nil (show 12 ≤ L.length by omega)]
      simp
theorem on_f (t : Int) (ht : 2 ≤ t) (ht6 : t ≤ 6) : ∀ (d : Nat) (L : List Int) (left most k : Nat) (out : List (List Int)), left ≤ 20 → left < d → 30 * left + 100 ≤ k → L.length ≤ 12 → Sh L most → L.sum + left ≤ 40 → out.length + 2 ^ left ≤ 1000000000 →
    blocks_shapes_on.on k t L out (left : Int) (most : Int) = some (out ++ (gO true d L left most).filter (cor t))
  | 0, _, _, _, _, _, _, h, _, _, _, _, _ => absurd h (Nat.not_lt_zero _)
  | d + 1, L, left, most, k, out, hl, hd, hk, hL, hS, hs, ho => by
    obtain ⟨k, rfl, _⟩ := succK (show 0 < k by omega)
    have hpw := Nat.two_pow_pos left
    simp only [blocks_shapes_on.on, gO]
    by_cases h0 : left = 0
    · have hshp : Shp L := shp_of hL ⟨hS.ge, fun y hy => by have := (hS.lo y hy).2; omega⟩ (fun y hy => (hS.lo y hy).2) (by omega)
      rw [if_pos (by omega), if_pos h0, if_pos (by omega), if_pos (by omega), bstrips_f L hshp t (by omega) (by omega) k (by omega), Option.bind_some, List.filter_cons]
      unfold cor
      by_cases c : (strp t L).length = 0
      · rw [if_pos c, if_pos (decide_eq_true c)]; rfl
      · rw [if_neg c, if_neg (by rw [decide_eq_false c]; decide)]; simp
    · rw [if_neg (by omega), if_neg h0]
      refine lp_f hl hL (fun c x o2 k2 h1 h2 h3 h4 => ?_) (min left most) 1 k out (Nat.le_refl _) (by omega) (by omega) (by rw [Nat.add_sub_cancel]; exact ho)
      exact on_f t ht ht6 d (L ++ [(x : Int)]) (left - x) x k2 o2 (by omega) (by omega) h3 (by rw [List.length_append, List.length_singleton]; omega) (hS.snoc h1 (by omega)) (by rw [List.sum_append, List.sum_singleton]; omega) h4
theorem rsh_l0 {d : Nat} {L : List Int} {left most : Nat} (hleft : left ≤ 20) (hL : L.length + left ≤ 1000)
    (ih : ∀ x k, 1 ≤ x → x ≤ min left most → 30 * (left - x) + 60 ≤ k → clocheref04_shapes.f k ((left - x : Nat) : Int) (x : Int) (L ++ [(x : Int)]) = some (gO false d (L ++ [(x : Int)]) (left - x) x)) :
    ∀ m x k acc, 1 ≤ x → x + m = min left most + 1 → 30 * left + 30 + m + 1 ≤ k → acc.length + 2 ^ (left + 1 - x) ≤ 1000000000 → clocheref04_shapes.l0 k (left : Int) (most : Int) L acc (x : Int) = some (acc ++ gL (gO false d) false L left x m)
  | 0, x, k, acc, h1, hx, hk, ho => by
    obtain ⟨k, rfl, _⟩ := succK (show 0 < k by omega)
    rw [clocheref04_shapes.l0, mnN', if_neg (by omega)]
    simp [gL]
  | m + 1, x, k, acc, h1, hx, hk, ho => by
    obtain ⟨k, rfl, _⟩ := succK (show 0 < k by omega)
    have e : left + 1 - x = (left - x) + 1 := by omega
    rw [e, Nat.pow_succ] at ho
    have hlen := gO_len false d (L ++ [(x : Int)]) (left - x) x
    have hrec := rsh_l0 hleft hL ih m (x + 1) k (acc ++ gO false d (L ++ [(x : Int)]) (left - x) x) (by omega) (by omega) (by omega) (by
      rw [List.length_append, show left + 1 - (x + 1) = left - x by omega]
      omega)
    have hsn : snoc_int.f L (x : Int) = some (L ++ [(x : Int)]) := by
      unfold snoc_int.f
      rw [if_pos (by omega)]
    rw [clocheref04_shapes.l0, mnN', if_pos (by omega), hsn, Option.bind_some, w64 (by omega) (by omega), show (left : Int) - (x : Int) = ((left - x : Nat) : Int) by omega, ih x k h1 (by omega) (by omega), Option.bind_some, if_pos (by omega), inc64 x (by omega), hrec]
    simp only [gL]
    rw [if_neg (show ¬ (false && decide (12 ≤ L.length)) = true by simp), List.append_assoc]
theorem rsh_f : ∀ (d : Nat) (L : List Int) (left most k : Nat), left ≤ 20 → left < d → 30 * left + 60 ≤ k → L.length + left ≤ 1000 → clocheref04_shapes.f k (left : Int) (most : Int) L = some (gO false d L left most)
  | 0, _, _, _, _, _, h, _, _ => absurd h (Nat.not_lt_zero _)
  | d + 1, L, left, most, k, hl, hd, hk, hL => by
    obtain ⟨k, rfl, _⟩ := succK (show 0 < k by omega)
    simp only [clocheref04_shapes.f, gO]
    by_cases h0 : left = 0
    · rw [if_pos (by omega), if_pos h0]
    · rw [if_neg (by omega), if_neg h0]
      have hp : 2 ^ left ≤ 2 ^ 20 := Nat.pow_le_pow_right (by decide) hl
      have := rsh_l0 (L := L) (most := most) hl hL (fun x k2 h1 h2 h3 => rsh_f d (L ++ [(x : Int)]) (left - x) x k2 (by omega) (by omega) h3 (by rw [List.length_append, List.length_singleton]; omega)) (min left most) 1 k [] (Nat.le_refl _) (by omega) (by omega) (by rw [Nat.add_sub_cancel, List.length_nil]; omega)
      rw [List.nil_append] at this
      exact this
/-! ### the specification's strips of long shapes -/
structure Bnd20 (b : List Int) : Prop where
  db : DB b
  len : b.length ≤ 20
  le : ∀ x ∈ b, x ≤ 1000
theorem mv_bnd20 {t : Int} {b : List Int} (hb : Bnd20 b) (ht : 0 < t) {i : Nat} (hi : i < b.length) (hc : can t b i = true) : ∀ x ∈ mv t b i, 0 ≤ x ∧ x ≤ 1000000000 := fun x hx => by
  have h1 := (can_iff t b i).1 hc
  have h2 := hb.le _ (getD_mem hi)
  rcases List.mem_cons.1 ((perm_set hi _).mem_iff.1 hx) with rfl | hx
  · omega
  · have := hb.db.nn x (rest_sub hi _ hx)
    have := hb.le x (rest_sub hi _ hx)
    omega
theorem rs20_l1 (t : Int) (ht : 0 < t) (ht2 : t ≤ 1000) (b : List Int) (hb : Bnd20 b) (acc : List (List Int)) (i : Nat) (hi : i < b.length) : ∀ m K (j : Nat), j + m = b.length → clocheref04_strips.l1 (K + m + 1) t b acc i ((mv t b i).take j) j = (clocheref04_descending.f K (mv t b i)).bind fun u => (clocheref04_shape.f K u).bind fun v => if acc.length < 5864062014805 then clocheref04_strips.l0 K t b (acc ++ [v]) (wrap64 ((i : Int) + 1)) else none
  | 0, K, j, h => by
    simp only [clocheref04_strips.l1]
    rw [if_neg (by omega), List.take_of_length_le (by rw [mv_length]; omega)]
  | m + 1, K, j, h => by
    have hl := hb.len
    have hx := hb.db.nn _ (getD_mem (show j < b.length by omega))
    have hx2 := hb.le _ (getD_mem (show j < b.length by omega))
    have ih := rs20_l1 t ht ht2 b hb acc i hi m K (j + 1) (by omega)
    rw [take_mv t b i j (by omega)] at ih
    have hlen : ((mv t b i).take j).length ≤ 1000 := by rw [List.length_take, mv_length]; omega
    obtain ⟨F, hF⟩ : ∃ F, F = K + m + 1 := ⟨_, rfl⟩
    rw [← hF] at ih
    rw [show K + (m + 1) + 1 = F + 1 by rw [hF]; rfl]
    simp only [clocheref04_strips.l1]
    rw [if_pos (by omega), rdn, inc64 j (by omega), w64 (show -9223372036854775808 ≤ b.getD j 0 - t by omega) (by omega), ← ih]
    by_cases e : i = j
    · rw [if_pos (by omega), if_pos (by omega), if_pos (by omega), if_pos e, e]
    · rw [if_neg (by omega), if_pos (by omega), if_pos (by omega), if_neg e]
theorem rs20_l0 (t : Int) (ht : 0 < t) (ht2 : t ≤ 1000) (b : List Int) (hb : Bnd20 b) : ∀ m k (i : Nat) (acc : List (List Int)), i + m = b.length → 25 * m + 600 ≤ k → acc.length ≤ i → clocheref04_strips.l0 k t b acc i = some (acc ++ ((List.range' i m).filter (can t b)).map fun i => shB (dsort (mv t b i)))
  | 0, k, i, acc, h, hk, ha => by
    obtain ⟨k, rfl, _⟩ := succK (show 0 < k by omega)
    simp only [clocheref04_strips.l0]
    rw [if_neg (by omega)]
    simp
  | m + 1, k, i, acc, h, hk, ha => by
    have hl := hb.len
    have hi : i < b.length := by omega
    have hx := hb.db.nn _ (getD_mem hi)
    have hx2 := hb.le _ (getD_mem hi)
    obtain ⟨k, rfl⟩ : ∃ K, k = K + 1 + 1 := ⟨k - 2, by omega⟩
    have hj : clocheref04_strips.l0 (k + 1 + 1) t b acc i = clocheref04_strips.j1 (k + 1) t b acc i (!can t b i) := by
      generalize hF : k + 1 = F
      simp only [clocheref04_strips.l0]
      rw [if_pos (by omega), if_pos (by omega), rdn, w64 (show -9223372036854775808 ≤ b.getD i 0 - t by omega) (by omega), has_f b (by omega) _ F (by omega), Option.bind_some]
      unfold can
      by_cases hc : b.getD i 0 < t
      · rw [if_pos hc, decide_eq_false (show ¬ t ≤ b.getD i 0 by omega)]
        rfl
      · rw [if_neg hc, decide_eq_true (show t ≤ b.getD i 0 by omega), Bool.true_and, Bool.not_not]
    rw [hj, range'_succ', List.filter_cons]
    cases hc : can t b i
    · have ih := rs20_l0 t ht ht2 b hb m k (i + 1) acc (by omega) (by omega) (by omega)
      simp only [clocheref04_strips.j1]
      rw [if_pos (show (!false) = true from rfl), if_neg (by decide), inc64 i (by omega), ih]
    · obtain ⟨K, rfl⟩ : ∃ K, k = K + b.length + 1 := ⟨k - b.length - 1, by omega⟩
      have ih := rs20_l0 t ht ht2 b hb m K (i + 1) (acc ++ [shB (dsort (mv t b i))]) (by omega) (by omega) (by simp; omega)
      have h1 := rs20_l1 t ht ht2 b hb acc i hi b.length K 0 (by omega)
      have hm := mv_bnd20 hb ht hi hc
      have hmul : b.length * (b.length + 3) ≤ 20 * 23 := Nat.mul_le_mul hl (by omega)
      rw [desc_f (mv t b i) (by rw [mv_length]; omega) K (by rw [mv_length]; omega), Option.bind_some, shape_f (dsort (mv t b i)) (by rw [dsort_length, mv_length]; omega) (fun x hx => hm x ((dsort_perm _).mem_iff.1 hx)) K (by rw [dsort_length, mv_length]; omega), Option.bind_some, if_pos (by omega), inc64 i (by omega), ih, List.append_assoc] at h1
      obtain ⟨F, hF⟩ : ∃ F, F = K + b.length + 1 := ⟨_, rfl⟩
      rw [← hF] at h1 ⊢
      simp only [clocheref04_strips.j1]
      rw [if_neg (by decide), if_pos trivial]
      exact h1
theorem rstrips20_f (l : List Int) (hl : l.length ≤ 20) (hd : DR l) (hb : ∀ x ∈ l, 1 ≤ x ∧ x ≤ 40) (t : Int) (ht : 0 < t) (ht2 : t ≤ 1000) (k : Nat) (hk : 1200 ≤ k) : clocheref04_strips.f k l t = some (strp t l) := by
  have hB : Bnd20 (bd l) := ⟨hd.bd, by rw [bd_length]; exact hl, fun x hx => by
    have := bd_le l 40 (fun y hy => (hb y hy).2) x hx
    omega⟩
  have h := rs20_l0 t ht ht2 (bd l) hB (bd l).length k 0 [] (by omega) (by rw [bd_length]; omega) (Nat.le_refl _)
  unfold clocheref04_strips.f
  rw [rbeads_f l (by omega) (fun x hx => by have := hb x hx; omega) k (by omega), Option.bind_some]
  refine Eq.trans h ?_
  unfold strp stpB
  rw [List.nil_append, List.map_map]
  rfl
theorem bd_pos : ∀ l : List Int, (∀ x ∈ l, 1 ≤ x) → ∀ z ∈ bd l, 1 ≤ z
  | [], _, z, hz => by rw [bd_nil] at hz; cases hz
  | x :: xs, h, z, hz => by
    rw [bd_cons] at hz
    rcases List.mem_cons.1 hz with rfl | hz
    · have := h x List.mem_cons_self
      omega
    · exact bd_pos xs (fun y hy => h y (List.mem_cons_of_mem _ hy)) z hz
theorem sum_len : ∀ (c : Int) (l : List Int), (∀ x ∈ l, c ≤ x) → c * l.length ≤ l.sum
  | c, [], _ => by simp
  | c, x :: xs, h => by
    have h1 := sum_len c xs (fun y hy => h y (List.mem_cons_of_mem _ hy))
    have h2 := h x List.mem_cons_self
    rw [List.sum_cons, List.length_cons]
    have e : c * ((xs.length + 1 : Nat) : Int) = c * xs.length + c := by rw [Int.natCast_add, Int.mul_add]; simp
    omega
/-- The last rows of a long shape are single blocks: so there is a bead at t, and none at 0. -/
theorem bead_at : ∀ (l : List Int) (t : Nat), l.Pairwise (fun x y => y ≤ x) → (∀ x ∈ l, 1 ≤ x) → 1 ≤ t → t ≤ l.length → l.sum < 2 * (l.length - t + 1 : Nat) + (t - 1 : Nat) → (t : Int) ∈ bd l
  | [], t, _, _, h1, h2, _ => by rw [List.length_nil] at h2; omega
  | x :: xs, t, hp, h1, ht, hl, hs => by
    rw [List.pairwise_cons] at hp
    rw [List.length_cons] at hl hs
    rw [List.sum_cons] at hs
    have hx := h1 x List.mem_cons_self
    have hxs := fun y hy => h1 y (List.mem_cons_of_mem x hy)
    have h3 := sum_len 1 xs hxs
    rw [bd_cons]
    by_cases c : t = xs.length + 1
    · have : x = 1 := by omega
      rw [this, c]
      exact List.mem_cons.2 (Or.inl (by omega))
    · refine List.mem_cons_of_mem _ (bead_at xs t hp.2 hxs ht (by omega) ?_)
      by_cases c2 : x = 1
      · have : ∀ y ∈ xs, y ≤ 1 := fun y hy => by have := hp.1 y hy; omega
        have h4 : xs.sum ≤ xs.length := by
          clear h3 hs hp h1 hxs
          induction xs with
          | nil => simp
          | cons y ys ih =>
            have h5 := this y List.mem_cons_self
            have h6 : ys.sum ≤ ys.length := by
              have : ∀ (zs : List Int), (∀ z ∈ zs, z ≤ 1) → zs.sum ≤ zs.length := by
                intro zs
                induction zs with
                | nil => intro _; simp
                | cons z zs ih =>
                  intro h
                  have := ih (fun w hw => h w (List.mem_cons_of_mem _ hw))
                  have := h z List.mem_cons_self
                  rw [List.sum_cons, List.length_cons]
                  omega
              exact this ys (fun z hz => by have := ‹∀ y' ∈ y :: ys, y' ≤ 1› z (List.mem_cons_of_mem _ hz); exact this)
            rw [List.sum_cons, List.length_cons]
            omega
        omega
      · omega
theorem long_strip {l : List Int} (hp : l.Pairwise (fun x y => y ≤ x)) (h1 : ∀ x ∈ l, 1 ≤ x) (hs : l.sum ≤ 20) (hl : 13 ≤ l.length) {t : Nat} (h2 : 2 ≤ t) (h6 : t ≤ 6) : cor (t : Int) l = false := by
  have h3 := bead_at l t hp h1 (by omega) (by omega) (by omega)
  have h0 : (0 : Int) ∉ bd l := fun h => by have := bd_pos l h1 0 h; omega
  obtain ⟨i, hi, e⟩ := List.mem_iff_getElem.1 h3
  have hc : can (t : Int) (bd l) i = true := by
    rw [can_iff, getD_at hi, e]
    exact ⟨Int.le_refl _, by rw [Int.sub_self]; exact h0⟩
  unfold cor strp stpB
  rw [List.length_map, List.length_map]
  refine decide_eq_false fun h => ?_
  have hm : i ∈ (List.range' 0 (bd l).length).filter (can (t : Int) (bd l)) := List.mem_filter.2 ⟨by rw [List.mem_range'_1]; omega, hc⟩
  rw [List.eq_nil_of_length_eq_zero h] at hm
  cases hm
theorem rcores_l0 (t : Int) (ht : 0 < t) (ht2 : t ≤ 1000) (l : List (List Int)) (hl : l.length ≤ 100000000) (hok : ∀ x ∈ l, x.length ≤ 20 ∧ DR x ∧ ∀ y ∈ x, 1 ≤ y ∧ y ≤ 40) : ∀ m i k (acc : List (List Int)), i + m = l.length → 1200 + m + 1 ≤ k → acc.length ≤ i → clocheref04_Cores.l0 k t l acc (i : Int) = some (acc ++ (l.drop i).filter (cor t), 0)
  | 0, i, k, acc, hi, hk, ha => by
    obtain ⟨k, rfl, _⟩ := succK (show 0 < k by omega)
    rw [clocheref04_Cores.l0, if_neg (by omega), List.drop_eq_nil_of_le (by omega)]
    simp
  | m + 1, i, k, acc, hi, hk, ha => by
    obtain ⟨k, rfl, _⟩ := succK (show 0 < k by omega)
    have hil : i < l.length := by omega
    have hrd : rd_L1 l (i : Int) = l[i] := by
      unfold rd_L1
      rw [Int.toNat_natCast, List.getD_eq_getElem?_getD, List.getElem?_eq_getElem hil]
      rfl
    have hm := hok l[i] (List.getElem_mem hil)
    rw [clocheref04_Cores.l0, if_pos (by omega), if_pos (by omega), hrd, rstrips20_f l[i] hm.1 hm.2.1 hm.2.2 t ht ht2 k (by omega), Option.bind_some, List.drop_eq_getElem_cons hil, List.filter_cons, inc64 i (by omega)]
    unfold cor
    by_cases c : (strp t l[i]).length = 0
    · rw [if_pos (by omega), if_pos (by omega), if_pos (decide_eq_true c), rcores_l0 t ht ht2 l hl hok m (i + 1) k (acc ++ [l[i]]) (by omega) (by omega) (by rw [List.length_append, List.length_singleton]; omega), List.append_assoc]
      rfl
    · rw [if_neg (by omega), if_neg (by rw [decide_eq_false c]; decide), rcores_l0 t ht ht2 l hl hok m (i + 1) k acc (by omega) (by omega) (by omega)]
      rfl
/-- all cores. -/
def coresL (t : Int) (n : Nat) : List (List Int) := (gO true (n + 1) [] n n).filter (cor t)
theorem sh_nil (n : Nat) : Sh [] n := ⟨List.Pairwise.nil, fun y hy => by cases hy⟩
def coresV (a0 a1 : Int) : List (List Int) × Int := if (decide (0 ≤ a0) && decide (a0 ≤ 20) && decide (2 ≤ a1) && decide (a1 ≤ 6)) = true then (coresL a1 a0.toNat, 0) else ([], 2)
theorem bCores_f (a0 a1 : Int) (k : Nat) (hk : 1000 ≤ k) : blocks_Cores.f k a0 a1 = some (coresV a0 a1) := by
  unfold blocks_Cores.f coresV
  by_cases c1 : a0 < 0
  · rw [if_pos c1, decide_eq_false (show ¬ 0 ≤ a0 by omega), if_neg (by simp)]
  by_cases c2 : a0 > 20
  · rw [if_neg c1, if_pos c2, decide_eq_false (show ¬ a0 ≤ 20 by omega), if_neg (by simp)]
  by_cases c3 : a1 < 2
  · rw [if_neg c1, if_neg c2, if_pos c3, decide_eq_false (show ¬ 2 ≤ a1 by omega), if_neg (by simp)]
  by_cases c4 : a1 > 6
  · rw [if_neg c1, if_neg c2, if_neg c3, if_pos c4, decide_eq_false (show ¬ a1 ≤ 6 by omega), if_neg (by simp)]
  obtain ⟨n, rfl⟩ : ∃ n : Nat, a0 = n := ⟨a0.toNat, by omega⟩
  have hp : 2 ^ n ≤ 2 ^ 20 := Nat.pow_le_pow_right (by decide) (by omega)
  rw [if_neg c1, if_neg c2, if_neg c3, if_neg c4, on_f a1 (by omega) (by omega) (n + 1) [] n n k [] (by omega) (by omega) (by omega) (by simp) (sh_nil n) (by simp; omega) (by rw [List.length_nil]; omega), Option.bind_some,
    decide_eq_true (show (0 : Int) ≤ n by omega), decide_eq_true (show (n : Int) ≤ 20 by omega), decide_eq_true (show 2 ≤ a1 by omega), decide_eq_true (show a1 ≤ 6 by omega), if_pos (by decide), Int.toNat_natCast, List.nil_append]
  rfl
theorem cores_both {t : Nat} (h2 : 2 ≤ t) (h6 : t ≤ 6) {n : Nat} (hn : n ≤ 20) : (gO false (n + 1) [] n n).filter (cor t) = coresL t n := by
  unfold coresL
  rw [gO_lim (n + 1) [] n n (by simp) (sh_nil n), List.filter_filter]
  refine List.filter_congr fun l hl => ?_
  obtain ⟨q1, q2, q3, _⟩ := gO_mem false _ _ _ _ l hl (sh_nil n)
  by_cases c : l.length ≤ 12
  · rw [decide_eq_true c, Bool.and_true]
  · rw [decide_eq_false c, Bool.and_false, long_strip q1 q2 (by rw [q3]; simp; omega) (by omega) h2 h6]
theorem rCores_f (a0 a1 : Int) (k : Nat) (hk : 2000000 ≤ k) : clocheref04_Cores.f k a0 a1 = some (coresV a0 a1) := by
  obtain ⟨k, rfl, _⟩ := succK (show 0 < k by omega)
  have hbad : clocheref04_Cores.j0 (k + 1) a0 a1 true = some ([], 2) := by rw [clocheref04_Cores.j0, if_pos rfl]
  unfold clocheref04_Cores.f coresV
  by_cases c1 : a0 < 0
  · rw [if_pos c1, decide_eq_false (show ¬ 0 ≤ a0 by omega), if_neg (by simp), hbad]
  by_cases c2 : a0 > 20
  · rw [if_neg c1, if_pos c2, decide_eq_false (show ¬ a0 ≤ 20 by omega), if_neg (by simp), hbad]
  rw [if_neg c1, if_neg c2, Wires_f, Option.bind_some]
  by_cases c3 : a1 < 2
  · rw [decide_eq_false (show ¬ 2 ≤ a1 by omega), if_neg (by simp), Bool.false_and]
    exact hbad
  by_cases c4 : a1 > 6
  · rw [decide_eq_false (show ¬ a1 ≤ 6 by omega), if_neg (by simp), Bool.and_false]
    exact hbad
  obtain ⟨n, rfl⟩ : ∃ n : Nat, a0 = n := ⟨a0.toNat, by omega⟩
  obtain ⟨t, rfl⟩ : ∃ t : Nat, a1 = t := ⟨a1.toNat, by omega⟩
  have hp : 2 ^ n ≤ 2 ^ 20 := Nat.pow_le_pow_right (by decide) (by omega)
  have hlen := gO_len false (n + 1) [] n n
  have hp2 : (2 : Nat) ^ 20 = 1048576 := by decide
  have hl0 := rcores_l0 (t : Int) (by omega) (by omega) (gO false (n + 1) [] n n) (by omega) (fun x hx => by
    obtain ⟨q1, q2, q3, _⟩ := gO_mem false _ _ _ _ x hx (sh_nil n)
    have h1 := sum_len 1 x q2
    have hd : DR x := ⟨q1, fun y hy => by have := q2 y hy; omega⟩
    have h2 := (mem_le_sum hd.nn).2
    rw [List.sum_nil] at q3
    exact ⟨by omega, hd, fun y hy => ⟨q2 y hy, by have := h2 y hy; omega⟩⟩) (gO false (n + 1) [] n n).length 0 k [] (by omega) (by omega) (Nat.le_refl _)
  rw [List.drop_zero, List.nil_append, cores_both (by omega) (by omega) (by omega)] at hl0
  rw [decide_eq_true (show (0 : Int) ≤ n by omega), decide_eq_true (show (n : Int) ≤ 20 by omega), decide_eq_true (show (2 : Int) ≤ (t : Int) by omega), decide_eq_true (show (t : Int) ≤ 6 by omega), if_pos (by decide), Int.toNat_natCast]
  show clocheref04_Cores.j0 (k + 1) (n : Int) (t : Int) (!(true && true)) = _
  rw [clocheref04_Cores.j0, if_neg (by decide), rsh_f (n + 1) [] n n k (by omega) (by omega) (by omega) (by simp; omega), Option.bind_some]
  exact hl0
end Go.Proofs.Ytcmphfcpiciehaa.Pure
