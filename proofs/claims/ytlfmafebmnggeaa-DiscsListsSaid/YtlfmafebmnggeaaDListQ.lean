/- Roots by the specification: both loops. -/
import Derived.Test.YtlfmafebmnggeaaDListR
namespace Go.Proofs.Ytlfmafebmnggeaa.Pure
open Go.RowKit Go.Proofs.Ytlfmafebmnggeaa.Print Go.Proofs.YtlfmafebmnggeaaW.PrintWords Go.Proofs.YtlfmafebmnggeaaW.PrintLast
set_option linter.unusedVariables false
set_option linter.unusedSimpArgs false
theorem fuel_a {A B d j k : Nat} (h : B + A * (d + 1 + 1) ≤ k + 1) (hj : j + 1 ≤ A) : B + A * (d + 1) ≤ k - j := by
  rw [Nat.mul_succ A (d + 1)] at h
  omega
theorem fuel_b {A B d k : Nat} (h : B + A * (d + 1) ≤ k) : B + A ≤ k := by
  rw [Nat.mul_succ] at h
  omega
theorem InvR.next {n b c : Int} {out : List S23} (hn : 1 ≤ n) (hI : InvR n out b c) (hc : n * n + n < c) (hc2 : c ≤ 20000) : InvR n out (b + 1) (b + 1) := by
  refine ⟨hI.srt, ?_, by have := hI.len; omega⟩
  intro q
  rw [hI.mem]
  constructor
  · rintro ⟨g1, g2, g3⟩; exact ⟨g1, g2, by omega⟩
  · rintro ⟨g1, g2, g3⟩
    refine ⟨g1, g2, ?_⟩
    obtain ⟨m, x, hv, e⟩ := root_qd hn q g1 g2
    have hb := hv.bounds hn
    have hl := hv.le
    have e1 : q.f1 = x + n := by rw [e]; rfl
    have e2 : q.f2 = yq n m x + n := by rw [e]; rfl
    omega
theorem ref_row (n b : Int) (hn : 1 ≤ n) (hn2 : n ≤ 100) (hb : n ≤ b) (hb2 : b ≤ 3 * n) : ∀ (d : Nat) (c : Int), c + d = n * n + n + 1 → b ≤ c → ∀ (out : List S23), InvR n out b c → ∀ k, 6000 + 5 * (d + 1) ≤ k →
    ∃ out' j, j ≤ 5 * (d + 1) ∧ clocheref01_Roots.l1 k n out b c = clocheref01_Roots.l0 (k - j) n out' (b + 1) ∧ InvR n out' (b + 1) (b + 1) := by
  have hnn : n * n ≤ 10000 := by have := sq_mono (by omega) hn2; omega
  have hn1 : 1 ≤ n * n := by have := sq_mono (by omega) hn; omega
  have en : n * (n + 1) = n * n + n := by rw [Int.mul_add, Int.mul_one]
  intro d
  induction d with
  | zero =>
    intro c hd hc out hI k hk
    obtain ⟨k, rfl⟩ : ∃ j, k = j + 1 := ⟨k - 1, by omega⟩
    refine ⟨out, 1, by omega, ?_, hI.next hn (by omega) (by omega)⟩
    rw [clocheref01_Roots.l1, w64 (n := n + 1) (by omega) (by omega), w64 (n := n * (n + 1)) (by omega) (by omega), if_neg (by omega), w64 (n := b + 1) (by omega) (by omega)]
    rfl
  | succ d ih =>
    intro c hd hc out hI k hk
    obtain ⟨o1, j1, h1, h2, h3⟩ := ref_step n b c hn hn2 hb hb2 hc (by omega) out hI k (by omega)
    obtain ⟨o2, j2, g1, g2, g3⟩ := ih (c + 1) (by omega) (by omega) o1 h3 (k - j1) (by omega)
    refine ⟨o2, j1 + j2, by omega, ?_, g3⟩
    rw [h2, g2]
    congr 1
    omega
/-- Just the roots, ascending. -/
structure AllR (n : Int) (L : List S23) : Prop where
  srt : L.Pairwise lt4
  mem : ∀ q, q ∈ L ↔ RtS q ∧ q.f0 = -n
  len : (L.length : Int) ≤ 9000000000000000000
theorem ref_rows (n : Int) (hn : 1 ≤ n) (hn2 : n ≤ 100) : ∀ (d : Nat) (b : Int), b + d = 3 * n + 1 → n ≤ b → ∀ (out : List S23), InvR n out b b → ∀ k, 6000 + 60000 * (d + 1) ≤ k →
    ∃ L, clocheref01_Roots.l0 k n out b = some (L, 0) ∧ AllR n L := by
  have hnn : n * n ≤ 10000 := by have := sq_mono (by omega) hn2; omega
  have hn1 : 1 ≤ n * n := by have := sq_mono (by omega) hn; omega
  intro d
  induction d with
  | zero =>
    intro b hd hb out hI k hk
    obtain ⟨k, rfl⟩ : ∃ j, k = j + 1 := ⟨k - 1, by omega⟩
    refine ⟨out, ?_, hI.srt, ?_, by have := hI.len; omega⟩
    · rw [clocheref01_Roots.l0, w64 (n := 3 * n) (by omega) (by omega), if_neg (by omega)]
    · intro q
      rw [hI.mem]
      constructor
      · rintro ⟨g1, g2, g3⟩; exact ⟨g1, g2⟩
      · rintro ⟨g1, g2⟩
        refine ⟨g1, g2, ?_⟩
        obtain ⟨m, x, hv, e⟩ := root_qd hn q g1 g2
        have hb := hv.bounds hn
        have e1 : q.f1 = x + n := by rw [e]; rfl
        omega
  | succ d ih =>
    intro b hd hb out hI k hk
    have hkb := fuel_b hk
    obtain ⟨k, rfl⟩ : ∃ j, k = j + 1 := ⟨k - 1, by clear hk; omega⟩
    have ha : ∀ j, j + 1 ≤ 60000 → 6000 + 60000 * (d + 1) ≤ k - j := fun j hj => fuel_a hk hj
    clear hk
    by_cases hbn : b ≤ n * n + n + 1
    · obtain ⟨o1, j1, h1, h2, h3⟩ := ref_row n b hn hn2 hb (by omega) (n * n + n + 1 - b).toNat b (by omega) (by omega) out hI k (by omega)
      obtain ⟨L, g1, g2⟩ := ih (b + 1) (by omega) (by omega) o1 h3 (k - j1) (ha j1 (by clear ha; omega))
      refine ⟨L, ?_, g2⟩
      rw [clocheref01_Roots.l0, w64 (n := 3 * n) (by omega) (by omega), if_pos (by omega), h2, g1]
    · -- no c at all
      have hk1 := ha 1 (by decide)
      clear ha
      obtain ⟨k, rfl⟩ : ∃ j, k = j + 1 := ⟨k - 1, by omega⟩
      rw [Nat.add_sub_cancel] at hk1
      have en : n * (n + 1) = n * n + n := by rw [Int.mul_add, Int.mul_one]
      obtain ⟨L, g1, g2⟩ := ih (b + 1) (by omega) (by omega) out (hI.next hn (by omega) (by omega)) k hk1
      clear hk1
      refine ⟨L, ?_, g2⟩
      rw [clocheref01_Roots.l0, w64 (n := 3 * n) (by omega) (by omega), if_pos (by omega), clocheref01_Roots.l1, w64 (n := n + 1) (by omega) (by omega), w64 (n := n * (n + 1)) (by omega) (by omega), if_neg (by omega), w64 (n := b + 1) (by omega) (by omega), g1]
theorem InvR.first {n : Int} (hn : 1 ≤ n) : InvR n [] n n := by
  refine ⟨List.Pairwise.nil, fun q => ⟨fun h => (List.not_mem_nil h).elim, ?_⟩, by simp only [List.length_nil]; omega⟩
  rintro ⟨g1, g2, g3⟩
  obtain ⟨m, x, hv, e⟩ := root_qd hn q g1 g2
  have := hv.2.2.1
  have hl := hv.le
  have e1 : q.f1 = x + n := by rw [e]; rfl
  omega
theorem RefRoots_f (n : Int) (hn : 1 ≤ n) (hn2 : n ≤ 100) (k : Nat) (hk : 20000000 ≤ k) : ∃ L, clocheref01_Roots.f k n = some (L, 0) ∧ AllR n L := by
  obtain ⟨k, rfl⟩ : ∃ j, k = j + 1 := ⟨k - 1, by omega⟩
  unfold clocheref01_Roots.f
  rw [if_neg (by omega), decide_eq_false (by omega), clocheref01_Roots.j0, if_neg (by decide)]
  refine ref_rows n hn hn2 (2 * n + 1).toNat n (by omega) (by omega) [] (InvR.first hn) k ?_
  have hd : (2 * n + 1).toNat + 1 ≤ 202 := by omega
  have := Nat.mul_le_mul_left 60000 hd
  generalize 60000 * ((2 * n + 1).toNat + 1) = z at *
  omega
theorem RefRoots_bad (n : Int) (h : n < 1 ∨ 100 < n) (k : Nat) (hk : 1 ≤ k) : clocheref01_Roots.f k n = some ([], 2) := by
  obtain ⟨k, rfl⟩ : ∃ j, k = j + 1 := ⟨k - 1, by omega⟩
  unfold clocheref01_Roots.f
  by_cases h1 : n < 1
  · rw [if_pos h1, clocheref01_Roots.j0, if_pos rfl]
  · rw [if_neg h1, decide_eq_true (by omega), clocheref01_Roots.j0, if_pos rfl]
theorem le_of_lt4 {x y : S23} (h : lt4 x y) : le4 x y = true := by
  unfold le4 lt4 at *
  rw [decide_eq_true_eq]
  omega
theorem lists_same {n : Int} {L L' : List S23} (hn : 1 ≤ n) (hn2 : n ≤ 100) (h : All n L) (h' : AllR n L') : L = L' := by
  refine sorted_unique h.srt (h'.srt.imp le_of_lt4) ((List.perm_ext_iff_of_nodup h.nd ?_).2 ?_)
  · exact h'.srt.imp fun g e => by subst e; unfold lt4 at g; omega
  · intro q
    rw [h.mem, h'.mem]
    constructor
    · rintro ⟨m, x, hv, rfl⟩; exact ⟨qd_root hn hn2 hv, rfl⟩
    · rintro ⟨g1, g2⟩; exact root_qd hn q g1 g2
end Go.Proofs.Ytlfmafebmnggeaa.Pure
