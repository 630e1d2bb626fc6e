/- The fourth bend of three: square roots, Fourth by the program and by the specification. -/
import Derived.Test.YtlfmafebmnggeaaDTurn
import Derived.Test.YtlfmafebmnggeaaPrintx3
import Derived.Test.YtlfmafebmnggeaaPrintx22
namespace Go.Proofs.Ytlfmafebmnggeaa.Pure
open Go.RowKit Go.Proofs.Ytlfmafebmnggeaa.Print Go.Proofs.YtlfmafebmnggeaaW.PrintWords Go.Proofs.YtlfmafebmnggeaaW.PrintLast
set_option linter.unusedVariables false
set_option linter.unusedSimpArgs false
/-- The square root, rounded down. -/
def Isq (n r : Int) : Prop := 0 ≤ r ∧ r * r ≤ n ∧ n < (r + 1) * (r + 1)
theorem sq_lt {x y : Int} (hx : 0 ≤ x) (h : x * x < y * y) (hy : 0 ≤ y) : x < y := by
  refine Int.lt_of_not_ge fun hn => ?_
  have := Int.mul_le_mul hn hn hy hx
  omega
theorem sq_le {x y : Int} (hx : 0 ≤ x) (h : x ≤ y) : x * x ≤ y * y := Int.mul_le_mul h h hx (by omega)
theorem Isq.unique {n r s : Int} (h : Isq n r) (g : Isq n s) : r = s := by
  have h1 := sq_lt h.1 (show r * r < (s + 1) * (s + 1) by have := h.2.1; have := g.2.2; omega) (by have := g.1; omega)
  have h2 := sq_lt g.1 (show s * s < (r + 1) * (r + 1) by have := g.2.1; have := h.2.2; omega) (by have := h.1; omega)
  omega
theorem Isq.sq {h : Int} (h0 : 0 ≤ h) : Isq (h * h) h := ⟨h0, Int.le_refl _, by have : (h + 1) * (h + 1) = h * h + 2 * h + 1 := by grind
                                                                                omega⟩
theorem root2_l0 (x : Int) (hx : 0 ≤ x) (hx2 : x < 17592186044416) : ∀ (d : Nat) (lo hi : Int), 0 ≤ lo → lo ≤ hi → hi ≤ 4194304 → hi - lo ≤ d → lo * lo ≤ x → x < (hi + 1) * (hi + 1) → ∀ k, d + 1 ≤ k → ∃ r, discs_root2.l0 k x lo hi = some r ∧ Isq x r := by
  intro d
  induction d with
  | zero =>
    intro lo hi h0 h1 h2 h3 h4 h5 k hk
    obtain ⟨k, rfl⟩ : ∃ j, k = j + 1 := ⟨k - 1, by omega⟩
    rw [discs_root2.l0, if_neg (by omega)]
    obtain rfl : lo = hi := by omega
    exact ⟨lo, rfl, h0, h4, h5⟩
  | succ d ih =>
    intro lo hi h0 h1 h2 h3 h4 h5 k hk
    obtain ⟨k, rfl⟩ : ∃ j, k = j + 1 := ⟨k - 1, by omega⟩
    rw [discs_root2.l0]
    by_cases hlt : lo < hi
    · rw [if_pos hlt, w64 (n := lo + hi) (by omega) (by omega), w64 (n := lo + hi + 1) (by omega) (by omega), Int.tdiv_eq_ediv_of_nonneg (by omega)]
      obtain ⟨m, hm⟩ : ∃ m, m = (lo + hi + 1) / 2 := ⟨_, rfl⟩
      rw [← hm]
      have hm0 : lo < m ∧ m ≤ hi := by omega
      have hmm := sq_le (x := m) (y := 4194304) (by omega) (by omega)
      have hmn := sq_nn m
      rw [w64 (n := m) (by omega) (by omega), w64 (n := m * m) (by omega) (by omega)]
      by_cases hc : m * m ≤ x
      · rw [if_pos hc]
        exact ih m hi (by omega) (by omega) h2 (by omega) hc h5 k (by omega)
      · rw [if_neg hc, w64 (by omega) (by omega)]
        exact ih lo (m - 1) h0 (by omega) (by omega) (by omega) h4 (by rw [Int.sub_add_cancel]; omega) k (by omega)
    · rw [if_neg hlt]
      obtain rfl : lo = hi := by omega
      exact ⟨lo, rfl, h0, h4, h5⟩
theorem root2_f (x : Int) (hx : 0 ≤ x) (hx2 : x < 17592186044416) (k : Nat) (hk : 4194306 ≤ k) : ∃ r, discs_root2.f k x = some r ∧ Isq x r := by
  unfold discs_root2.f
  exact root2_l0 x hx hx2 4194304 0 4194304 (by omega) (by omega) (by omega) (by omega) (by omega) (by omega) k (by omega)
theorem refroot_l0 (x : Int) (hx : 0 ≤ x) (hx2 : x < 17592186044416) : ∀ (j : Nat) (r : Int), 0 ≤ r → j ≤ 31 → r + 2 ^ j ≤ 2147483648 → r * r ≤ x → x < (r + 2 ^ j) * (r + 2 ^ j) → ∀ k, j + 1 ≤ k → ∃ s, clocheref01_root.l0 k x r ((2 : Int) ^ j / 2) = some s ∧ Isq x s := by
  intro j
  induction j with
  | zero =>
    intro r h0 hj h1 h2 h3 k hk
    obtain ⟨k, rfl⟩ : ∃ j, k = j + 1 := ⟨k - 1, by omega⟩
    rw [Int.pow_zero] at h3 ⊢
    rw [clocheref01_root.l0, if_neg (by omega)]
    exact ⟨r, rfl, h0, h2, h3⟩
  | succ j ih =>
    intro r h0 hj h1 h2 h3 k hk
    obtain ⟨k, rfl⟩ : ∃ j, k = j + 1 := ⟨k - 1, by omega⟩
    rw [Int.pow_succ] at h1 h3 ⊢
    have hp : (0 : Int) < 2 ^ j := Int.pow_pos (by omega)
    obtain ⟨p, hpe⟩ : ∃ p : Int, p = 2 ^ j := ⟨_, rfl⟩
    rw [← hpe] at h1 h3 hp ⊢
    rw [show p * 2 / 2 = p by omega, clocheref01_root.l0, if_pos (by omega)]
    have hs := sq_le (x := r + p) (y := 2147483648) (by omega) (by omega)
    have hn := sq_nn (r + p)
    rw [w64 (n := r + p) (by omega) (by omega), w64 (n := (r + p) * (r + p)) (by omega) (by omega), Int.tdiv_eq_ediv_of_nonneg (by omega), w64 (n := p / 2) (by omega) (by omega)]
    by_cases hc : (r + p) * (r + p) ≤ x
    · rw [if_pos hc, hpe]
      rw [hpe] at hc h1 h3
      exact ih (r + 2 ^ j) (by omega) (by omega) (by omega) hc (by rw [show r + 2 ^ j + 2 ^ j = r + 2 ^ j * 2 by omega]; exact h3) k (by omega)
    · rw [if_neg hc, hpe]
      rw [hpe] at hc h1 h3
      exact ih r h0 (by omega) (by omega) h2 (by omega) k (by omega)
theorem refroot_f (x : Int) (hx : 0 ≤ x) (hx2 : x < 17592186044416) (k : Nat) (hk : 40 ≤ k) : ∃ r, clocheref01_root.f k x = some r ∧ Isq x r := by
  unfold clocheref01_root.f
  have e : (1073741824 : Int) = 2 ^ 31 / 2 := by decide
  have e2 : (2 : Int) ^ 31 = 2147483648 := by decide
  rw [e]
  exact refroot_l0 x hx hx2 31 0 (by omega) (by omega) (by rw [e2]; omega) (by omega) (by rw [e2]; omega) k (by omega)
/-! ### Fourth -/
def Short (x : Int) : Prop := -1048576 ≤ x ∧ x ≤ 1048576
instance (x : Int) : Decidable (Short x) := inferInstanceAs (Decidable (_ ∧ _))
def e2 (a b c : Int) : Int := a * b + b * c + c * a
/-- Fourth's answer: with r as the square root of the products. -/
def FourthR (a b c : Int) (t : Int × Int × Int) : Prop :=
  if Short a ∧ Short b ∧ Short c then
    (if e2 a b c < 0 then t = (0, 0, 10) else ∃ r, Isq (e2 a b c) r ∧ t = if r * r = e2 a b c ∧ IsQ a b c (a + b + c - 2 * r) ∧ IsQ a b c (a + b + c + 2 * r) then (a + b + c - 2 * r, a + b + c + 2 * r, 0) else (0, 0, 10))
  else t = (0, 0, 2)
theorem FourthR.unique {a b c : Int} {t u : Int × Int × Int} (h : FourthR a b c t) (g : FourthR a b c u) : t = u := by
  unfold FourthR at h g
  split at h
  · rw [if_pos (by assumption)] at g
    split at h
    · rw [if_pos (by assumption)] at g; rw [h, g]
    · rw [if_neg (by assumption)] at g
      obtain ⟨r, h1, rfl⟩ := h
      obtain ⟨s, g1, rfl⟩ := g
      rw [h1.unique g1]
  · rw [if_neg (by assumption)] at g; rw [h, g]
theorem FourthR.neg {a b c : Int} (hs : Short a ∧ Short b ∧ Short c) (hn : e2 a b c < 0) : FourthR a b c (0, 0, 10) := by
  unfold FourthR; rw [if_pos hs, if_pos hn]
theorem FourthR.mk {a b c : Int} (hs : Short a ∧ Short b ∧ Short c) (hn : ¬ e2 a b c < 0) {r : Int} (hr : Isq (e2 a b c) r) {t : Int × Int × Int}
    (ht : t = if r * r = e2 a b c ∧ IsQ a b c (a + b + c - 2 * r) ∧ IsQ a b c (a + b + c + 2 * r) then (a + b + c - 2 * r, a + b + c + 2 * r, 0) else (0, 0, 10)) : FourthR a b c t := by
  unfold FourthR; rw [if_pos hs, if_neg hn]; exact ⟨r, hr, ht⟩
theorem sm_prod {x y : Int} (h : Short x) (g : Short y) : -1099511627776 ≤ x * y ∧ x * y ≤ 1099511627776 := by
  unfold Short at h g
  by_cases hy : 0 ≤ y
  · exact mulB (A := 1048576) (B := 1048576) (by omega) (by omega) hy (by omega) (by omega)
  · have := mulB (x := x) (y := -y) (A := 1048576) (B := 1048576) (by omega) (by omega) (by omega) (by omega) (by omega)
    rw [Int.mul_neg] at this
    omega
theorem e2_w {a b c : Int} (ha : Short a) (hb : Short b) (hc : Short c) : wrap64 (wrap64 (wrap64 (a * b) + wrap64 (b * c)) + wrap64 (c * a)) = e2 a b c ∧ e2 a b c < 17592186044416 := by
  have h1 := sm_prod ha hb
  have h2 := sm_prod hb hc
  have h3 := sm_prod hc ha
  unfold e2
  rw [w64 (n := a * b) (by omega) (by omega), w64 (n := b * c) (by omega) (by omega), w64 (n := c * a) (by omega) (by omega), w64 (n := a * b + b * c) (by omega) (by omega), w64 (by omega) (by omega)]
  omega
theorem isq_small {n r : Int} (h : Isq n r) (hn : n < 17592186044416) : r < 4194304 := by
  refine sq_lt h.1 (y := 4194304) ?_ (by omega)
  have := h.2.1; omega
theorem lo_w {a b c r : Int} (ha : Short a) (hb : Short b) (hc : Short c) (h0 : 0 ≤ r) (h1 : r < 4194304) :
    wrap64 (wrap64 (wrap64 (a + b) + c) - wrap64 (2 * r)) = a + b + c - 2 * r ∧ wrap64 (wrap64 (wrap64 (a + b) + c) + wrap64 (2 * r)) = a + b + c + 2 * r := by
  unfold Short at *
  rw [w64 (n := a + b) (by omega) (by omega), w64 (n := a + b + c) (by omega) (by omega), w64 (n := 2 * r) (by omega) (by omega), w64 (by omega) (by omega), w64 (by omega) (by omega)]
  exact ⟨rfl, rfl⟩
theorem Fourth_f (a b c : Int) (k : Nat) (hk : 4200000 ≤ k) : ∃ t, discs_Fourth.f k a b c = some t ∧ FourthR a b c t := by
  obtain ⟨k, rfl⟩ : ∃ j, k = j + 3 := ⟨k - 3, by omega⟩
  have bad : ¬ (Short a ∧ Short b ∧ Short c) → FourthR a b c (0, 0, 2) := fun h => by unfold FourthR; rw [if_neg h]
  unfold discs_Fourth.f
  by_cases ha : Short a
  rotate_left
  · refine ⟨_, ?_, bad fun h => ha h.1⟩
    unfold Short at ha
    by_cases h1 : a < -1048576
    · rw [if_pos h1, discs_Fourth.j0, if_pos rfl]
    · rw [if_neg h1, decide_eq_true (by omega), discs_Fourth.j0, if_pos rfl]
  rw [if_neg (by unfold Short at ha; omega), decide_eq_false (by unfold Short at ha; omega), discs_Fourth.j0, if_neg (by simp)]
  by_cases hb : Short b
  rotate_left
  · refine ⟨_, ?_, bad fun h => hb h.2.1⟩
    unfold Short at hb
    by_cases h1 : b < -1048576
    · rw [if_pos h1, discs_Fourth.j1, if_pos rfl]
    · rw [if_neg h1, decide_eq_true (by omega), discs_Fourth.j1, if_pos rfl]
  rw [if_neg (by unfold Short at hb; omega), decide_eq_false (by unfold Short at hb; omega), discs_Fourth.j1, if_neg (by simp)]
  by_cases hc : Short c
  rotate_left
  · refine ⟨_, ?_, bad fun h => hc h.2.2⟩
    unfold Short at hc
    by_cases h1 : c < -1048576
    · rw [if_pos h1, discs_Fourth.j2, if_pos rfl]
    · rw [if_neg h1, decide_eq_true (by omega), discs_Fourth.j2, if_pos rfl]
  rw [if_neg (by unfold Short at hc; omega), decide_eq_false (by unfold Short at hc; omega), discs_Fourth.j2, if_neg (by simp)]
  obtain ⟨ew, el⟩ := e2_w ha hb hc
  rw [ew]
  have hsh : Short a ∧ Short b ∧ Short c := ⟨ha, hb, hc⟩
  by_cases hn : e2 a b c < 0
  · rw [if_pos hn]; exact ⟨_, rfl, FourthR.neg hsh hn⟩
  rw [if_neg hn]
  obtain ⟨r, e, hr⟩ := root2_f (e2 a b c) (by omega) el k (by omega)
  have hs := isq_small hr el
  have hrr := sq_le hr.1 (show r ≤ 4194304 by omega)
  have hrn := sq_nn r
  rw [e, Option.bind_some, (lo_w ha hb hc hr.1 hs).1, (lo_w ha hb hc hr.1 hs).2, w64 (n := r * r) (by omega) (by omega)]
  by_cases hq : r * r = e2 a b c
  rotate_left
  · rw [if_neg hq]; exact ⟨_, rfl, FourthR.mk hsh hn hr (by rw [if_neg (fun h => hq h.1)])⟩
  rw [if_pos hq, IsQuad_f, IsQuad_f]
  by_cases h1 : IsQ a b c (a + b + c - 2 * r)
  rotate_left
  · rw [decide_eq_false h1]; exact ⟨_, rfl, FourthR.mk hsh hn hr (by rw [if_neg (fun h => h1 h.2.1)])⟩
  by_cases h2 : IsQ a b c (a + b + c + 2 * r)
  rotate_left
  · rw [decide_eq_true h1, decide_eq_false h2]; exact ⟨_, rfl, FourthR.mk hsh hn hr (by rw [if_neg (fun h => h2 h.2.2)])⟩
  rw [decide_eq_true h1, decide_eq_true h2]
  exact ⟨_, rfl, FourthR.mk hsh hn hr (by rw [if_pos ⟨hq, h1, h2⟩])⟩
theorem RefFourth_f (a b c : Int) (k : Nat) (hk : 4200000 ≤ k) : ∃ t, clocheref01_Fourth.f k a b c = some t ∧ FourthR a b c t := by
  obtain ⟨k, rfl⟩ : ∃ j, k = j + 2 := ⟨k - 2, by omega⟩
  have bad : ¬ (Short a ∧ Short b ∧ Short c) → FourthR a b c (0, 0, 2) := fun h => by unfold FourthR; rw [if_neg h]
  by_cases hs : ¬ (Short a ∧ Short b ∧ Short c)
  · refine ⟨_, ?_, bad hs⟩
    unfold Short at hs
    have hj : clocheref01_Fourth.j0 (k + 2) a b c true = some (0, 0, 2) := by rw [clocheref01_Fourth.j0, if_pos rfl]
    unfold clocheref01_Fourth.f
    split
    · exact hj
    split
    · exact hj
    split
    · exact hj
    split
    · exact hj
    split
    · exact hj
    rw [decide_eq_true (by omega)]
    exact hj
  obtain ⟨ha, hb, hc⟩ := Classical.byContradiction hs
  clear bad hs
  unfold clocheref01_Fourth.f
  have ha' := ha
  have hb' := hb
  have hc' := hc
  unfold Short at ha' hb' hc'
  rw [if_neg (by omega), if_neg (by omega), if_neg (by omega), if_neg (by omega), if_neg (by omega), decide_eq_false (by omega), clocheref01_Fourth.j0, if_neg (by simp)]
  obtain ⟨ew, el⟩ := e2_w ha hb hc
  rw [ew]
  have hsh : Short a ∧ Short b ∧ Short c := ⟨ha, hb, hc⟩
  by_cases hn : e2 a b c < 0
  · rw [if_pos hn, clocheref01_Fourth.j1, if_pos rfl]; exact ⟨_, rfl, FourthR.neg hsh hn⟩
  rw [if_neg hn]
  obtain ⟨r, e, hr⟩ := refroot_f (e2 a b c) (by omega) el (k + 1) (by omega)
  obtain ⟨r', e', hr'⟩ := refroot_f (e2 a b c) (by omega) el k (by omega)
  obtain rfl := hr.unique hr'
  have hs := isq_small hr el
  have hrr := sq_le hr.1 (show r ≤ 4194304 by omega)
  have hrn := sq_nn r
  rw [e, Option.bind_some, Option.bind_some, w64 (n := r * r) (by omega) (by omega), clocheref01_Fourth.j1]
  by_cases hq : r * r = e2 a b c
  rotate_left
  · rw [if_pos (by simpa using hq)]; exact ⟨_, rfl, FourthR.mk hsh hn hr (by rw [if_neg (fun h => hq h.1)])⟩
  rw [if_neg (by simpa using hq), e', Option.bind_some, Option.bind_some, (lo_w ha hb hc hr.1 hs).1, (lo_w ha hb hc hr.1 hs).2, RefIsQuad_f _ _ _ _ k (by omega), RefIsQuad_f _ _ _ _ k (by omega)]
  by_cases h1 : IsQ a b c (a + b + c - 2 * r)
  rotate_left
  · rw [decide_eq_false h1]; exact ⟨_, rfl, FourthR.mk hsh hn hr (by rw [if_neg (fun h => h1 h.2.1)])⟩
  by_cases h2 : IsQ a b c (a + b + c + 2 * r)
  rotate_left
  · rw [decide_eq_true h1, decide_eq_false h2]; exact ⟨_, rfl, FourthR.mk hsh hn hr (by rw [if_neg (fun h => h2 h.2.2)])⟩
  rw [decide_eq_true h1, decide_eq_true h2]
  exact ⟨_, rfl, FourthR.mk hsh hn hr (by rw [if_pos ⟨hq, h1, h2⟩])⟩
end Go.Proofs.Ytlfmafebmnggeaa.Pure
