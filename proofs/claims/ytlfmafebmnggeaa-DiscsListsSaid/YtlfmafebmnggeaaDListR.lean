/- Roots by the specification: strictly ascending, just the roots with the first bend -n. -/
import Derived.Test.YtlfmafebmnggeaaDListP
import Derived.Test.YtlfmafebmnggeaaDSortR
import Derived.Test.YtlfmafebmnggeaaDIsq
import Derived.Test.YtlfmafebmnggeaaPrintx28
namespace Go.Proofs.Ytlfmafebmnggeaa.Pure
open Go.RowKit Go.Proofs.Ytlfmafebmnggeaa.Print Go.Proofs.YtlfmafebmnggeaaW.PrintWords Go.Proofs.YtlfmafebmnggeaaW.PrintLast
set_option linter.unusedVariables false
set_option linter.unusedSimpArgs false
structure InvR (n : Int) (out : List S23) (b c : Int) : Prop where
  srt : out.Pairwise lt4
  mem : ∀ q, q ∈ out ↔ RtS q ∧ q.f0 = -n ∧ (q.f1 < b ∨ (q.f1 = b ∧ q.f2 < c))
  len : (out.length : Int) ≤ 20000 * b + c
instance (q : S23) : Decidable (RtS q) := inferInstanceAs (Decidable (IsRt _))
/-- The quad of the second and the third bend and a square root. -/
def qm (n b c r : Int) : S23 := ⟨-n, b, c, -n + b + c - 2 * r⟩
theorem rd_last (l : List S23) (h : l ≠ []) : rd_T23 l ((l.length : Int) - 1) = l.getLast h := by
  have hl := List.length_pos_iff.2 h
  unfold rd_T23
  rw [show ((l.length : Int) - 1).toNat = l.length - 1 by omega, List.getLast_eq_getElem, List.getD_eq_getElem?_getD, List.getElem?_eq_getElem (by omega), Option.getD_some]
theorem ref_l2 (n b c r : Int) (hn : 1 ≤ n) (hn2 : n ≤ 100) (hb : 0 ≤ b) (hb2 : b ≤ 1000) (hc : 0 ≤ c) (hc2 : c ≤ 20000) (hr : 0 ≤ r) (hr2 : r ≤ 100000000) (out : List S23) (hI : InvR n out b c) (k : Nat) (hk : 5000 ≤ k) :
    clocheref01_Roots.l2 (k + 3) n out b c r (-1) = clocheref01_Roots.l1 k n (if RtS (qm n b c r) then out ++ [qm n b c r] else out) b (c + 1) := by
  have hlen := hI.len
  have w1 : wrap64 (-n) = -n := w64 (by omega) (by omega)
  have w2 : wrap64 (-n + b) = -n + b := w64 (by omega) (by omega)
  have w3 : wrap64 (-n + b + c) = -n + b + c := w64 (by omega) (by omega)
  have w4 : wrap64 ((2 : Int) * -1) = -2 := w64 (by omega) (by omega)
  have w5 : wrap64 (-2 * r) = -2 * r := w64 (by omega) (by omega)
  have w6 : wrap64 (-n + b + c + -2 * r) = -n + b + c - 2 * r := by rw [w64 (by omega) (by omega)]; omega
  have w7 : wrap64 ((2 : Int) * 1) = 2 := w64 (by omega) (by omega)
  have w8 : wrap64 (2 * r) = 2 * r := w64 (by omega) (by omega)
  have w9 : wrap64 (-n + b + c + 2 * r) = -n + b + c + 2 * r := w64 (by omega) (by omega)
  have v1 : wrap64 ((-1 : Int) + 2) = 1 := w64 (by omega) (by omega)
  have v2 : wrap64 ((1 : Int) + 2) = 3 := w64 (by omega) (by omega)
  have v3 : wrap64 (c + 1) = c + 1 := w64 (by omega) (by omega)
  -- the sign 1 and the end
  have tail : ∀ o : List S23, (RtS ⟨-n, b, c, -n + b + c + 2 * r⟩ → ∃ o', o = o' ++ [⟨-n, b, c, -n + b + c + 2 * r⟩]) → o.length < 4398046511104 → clocheref01_Roots.l2 (k + 2) n o b c r 1 = clocheref01_Roots.l1 k n o b (c + 1) := by
    intro o ho hol
    have e3 : clocheref01_Roots.l2 (k + 1) n o b c r 3 = clocheref01_Roots.l1 k n o b (c + 1) := by
      rw [clocheref01_Roots.l2, if_neg (by decide), v3]
    have hq := RefIsRoot_f ⟨-n, b, c, -n + b + c + 2 * r⟩ (k + 1) (by clear w1 w2 w3 w4 w5 w6 w7 w8 w9 v1 v2 v3; omega)
    simp only at hq
    rw [clocheref01_Roots.l2, if_pos (by decide), w1, w2, w3, w7, w8, w9, hq, Option.bind_some, v2]
    by_cases h : RtS ⟨-n, b, c, -n + b + c + 2 * r⟩
    · obtain ⟨o', rfl⟩ := ho h
      have wl : wrap64 (((o' ++ [(⟨-n, b, c, -n + b + c + 2 * r⟩ : S23)]).length : Int) - 1) = ((o' ++ [(⟨-n, b, c, -n + b + c + 2 * r⟩ : S23)]).length : Int) - 1 := by
        clear w1 w2 w3 w4 w5 w6 w7 w8 w9 v1 v2 v3
        rw [List.length_append, List.length_singleton] at hol ⊢
        exact w64 (by omega) (by omega)
      have hne : (o' ++ [(⟨-n, b, c, -n + b + c + 2 * r⟩ : S23)]) ≠ [] := by simp
      have hla := rd_last _ hne
      have hlp := List.length_pos_iff.2 hne
      rw [show (o' ++ [(⟨-n, b, c, -n + b + c + 2 * r⟩ : S23)]).getLast hne = ⟨-n, b, c, -n + b + c + 2 * r⟩ by simp] at hla
      rw [if_pos (decide_eq_true (show IsRt _ from h)), wl, hla]
      clear w1 w2 w3 w4 w5 w6 w7 w8 w9 v1 v2 v3 wl
      rw [if_neg (by omega), if_pos (by omega), if_pos (by omega), if_neg (by simp)]
      exact e3
    · rw [if_neg (by rw [decide_eq_false (show ¬ IsRt _ from h)]; simp)]
      exact e3
  have hq := RefIsRoot_f ⟨-n, b, c, -n + b + c - 2 * r⟩ (k + 2) (by clear w1 w2 w3 w4 w5 w6 w7 w8 w9 v1 v2 v3; omega)
  simp only at hq
  have plus : RtS ⟨-n, b, c, -n + b + c + 2 * r⟩ → r = 0 := by
    clear w1 w2 w3 w4 w5 w6 w7 w8 w9 v1 v2 v3
    intro h
    have := h.2.2.2
    simp only at this
    omega
  rw [clocheref01_Roots.l2, if_pos (by decide), w1, w2, w3, w4, w5, w6, hq, Option.bind_some, v1]
  have hol : out.length < 4398046511103 := by clear w1 w2 w3 w4 w5 w6 w7 w8 w9 v1 v2 v3; omega
  by_cases h : RtS (qm n b c r)
  · rw [if_pos (decide_eq_true (show IsRt ⟨-n, b, c, -n + b + c - 2 * r⟩ from h)), if_pos h]
    have ht := tail (out ++ [qm n b c r]) (fun hp => ⟨out, by have := plus hp; subst this; simp [qm]⟩) (by rw [List.length_append, List.length_singleton]; omega)
    have e : (⟨-n, b, c, -n + b + c - 2 * r⟩ : S23) = qm n b c r := rfl
    by_cases h0 : out.length = 0
    · rw [if_pos (by omega), if_pos (by omega), e]; exact ht
    · have hne : out ≠ [] := fun e => h0 (by rw [e]; rfl)
      have hla := rd_last out hne
      have wl : wrap64 ((out.length : Int) - 1) = (out.length : Int) - 1 := by
        clear w1 w2 w3 w4 w5 w6 w7 w8 w9 v1 v2 v3
        exact w64 (by omega) (by omega)
      have hm := (hI.mem (out.getLast hne)).1 (List.getLast_mem hne)
      rw [wl, hla]
      clear w1 w2 w3 w4 w5 w6 w7 w8 w9 v1 v2 v3 wl
      rw [if_neg (by omega), if_pos (by omega), if_pos (by omega), if_pos, if_pos (by omega), e]
      · exact ht
      · have h3 := hm.2.2
        simp only [Bool.or_eq_true, Bool.not_eq_true', beq_eq_false_iff_ne, ne_eq]
        omega
  · rw [if_neg (by rw [decide_eq_false (show ¬ IsRt ⟨-n, b, c, -n + b + c - 2 * r⟩ from h)]; simp), if_neg h]
    exact tail out (fun hp => absurd (by have := plus hp; subst this; simpa [qm] using hp) h) (by omega)
theorem root_m {n b c : Int} (hn : 1 ≤ n) (q : S23) (h : RtS q) (h0 : q.f0 = -n) (h1 : q.f1 = b) (h2 : q.f2 = c) : ∃ m, 0 ≤ m ∧ m * m = b * c - n * (b + c) ∧ q = qm n b c m := by
  obtain ⟨m, x, hv, rfl⟩ := root_qd hn q h h0
  have e := hv.xy
  unfold qd at h1 h2
  simp only at h1 h2
  generalize hy : yq n m x = y at *
  subst h1 h2
  refine ⟨m, hv.1, by grind, ?_⟩
  unfold qd qm
  rw [hy, S23.mk.injEq]
  exact ⟨rfl, rfl, rfl, by omega⟩
theorem lt_of {q q' : S23} (h0 : q.f0 = q'.f0) (h : q.f1 < q'.f1 ∨ (q.f1 = q'.f1 ∧ q.f2 < q'.f2)) : lt4 q q' := by
  unfold lt4; omega
theorem InvR.add {n b c r : Int} {out : List S23} (hn : 1 ≤ n) (hI : InvR n out b c) (hr : 0 ≤ r) (hk : r * r = b * c - n * (b + c)) : InvR n (if RtS (qm n b c r) then out ++ [qm n b c r] else out) b (c + 1) := by
  have uniq : ∀ q, RtS q → q.f0 = -n → q.f1 = b → q.f2 = c → q = qm n b c r := by
    intro q h h0 h1 h2
    obtain ⟨m, g0, g1, g2⟩ := root_m hn q h h0 h1 h2
    have a1 : Isq (m * m) m := Isq.sq g0
    have a2 : Isq (m * m) r := by rw [g1, ← hk]; exact Isq.sq hr
    rw [g2, a1.unique a2]
  by_cases h : RtS (qm n b c r)
  · rw [if_pos h]
    refine ⟨?_, ?_, by have := hI.len; rw [List.length_append, List.length_singleton]; omega⟩
    · rw [List.pairwise_append]
      refine ⟨hI.srt, by simp, ?_⟩
      intro q hq q' hq'
      rw [List.mem_singleton] at hq'
      subst hq'
      have := (hI.mem q).1 hq
      exact lt_of this.2.1 this.2.2
    · intro q
      rw [List.mem_append, List.mem_singleton, hI.mem]
      constructor
      · rintro (⟨g1, g2, g3⟩ | rfl)
        · exact ⟨g1, g2, by omega⟩
        · exact ⟨h, rfl, .inr ⟨rfl, by show c < c + 1; omega⟩⟩
      · rintro ⟨g1, g2, g3⟩
        by_cases e : q.f1 = b ∧ q.f2 = c
        · exact .inr (uniq q g1 g2 e.1 e.2)
        · exact .inl ⟨g1, g2, by omega⟩
  · rw [if_neg h]
    refine ⟨hI.srt, ?_, by have := hI.len; omega⟩
    intro q
    rw [hI.mem]
    constructor
    · rintro ⟨g1, g2, g3⟩; exact ⟨g1, g2, by omega⟩
    · rintro ⟨g1, g2, g3⟩
      refine ⟨g1, g2, ?_⟩
      by_cases e : q.f1 = b ∧ q.f2 = c
      · exact absurd (uniq q g1 g2 e.1 e.2 ▸ g1) h
      · omega
theorem InvR.none {n b c : Int} {out : List S23} (hn : 1 ≤ n) (hI : InvR n out b c) (hk : ∀ m, 0 ≤ m → m * m ≠ b * c - n * (b + c)) : InvR n out b (c + 1) := by
  refine ⟨hI.srt, ?_, by have := hI.len; omega⟩
  intro q
  rw [hI.mem]
  constructor
  · rintro ⟨g1, g2, g3⟩; exact ⟨g1, g2, by omega⟩
  · rintro ⟨g1, g2, g3⟩
    refine ⟨g1, g2, ?_⟩
    by_cases e : q.f1 = b ∧ q.f2 = c
    · obtain ⟨m, h0, h1, _⟩ := root_m hn q g1 g2 e.1 e.2
      exact absurd h1 (hk m h0)
    · omega
theorem ref_step (n b c : Int) (hn : 1 ≤ n) (hn2 : n ≤ 100) (hb : n ≤ b) (hb2 : b ≤ 3 * n) (hc : b ≤ c) (hc2 : c ≤ n * (n + 1)) (out : List S23) (hI : InvR n out b c) (k : Nat) (hk : 6000 ≤ k) :
    ∃ out' j, j ≤ 5 ∧ clocheref01_Roots.l1 k n out b c = clocheref01_Roots.l1 (k - j) n out' b (c + 1) ∧ InvR n out' b (c + 1) := by
  obtain ⟨k, rfl⟩ : ∃ j, k = j + 5 := ⟨k - 5, by omega⟩
  have hn1 : n * (n + 1) ≤ 10100 := by
    have := Int.mul_le_mul hn2 (show n + 1 ≤ 101 by omega) (by omega) (by omega); omega
  have hbc : b * c ≤ 300 * 10100 := Int.mul_le_mul (by omega) (by omega) (by omega) (by omega)
  have hbc0 : 0 ≤ b * c := Int.mul_nonneg (by omega) (by omega)
  have hns : n * (b + c) ≤ 100 * 10400 := Int.mul_le_mul (by omega) (by omega) (by omega) (by omega)
  have hns0 : 0 ≤ n * (b + c) := Int.mul_nonneg (by omega) (by omega)
  obtain ⟨K0, hK0⟩ : ∃ K0, K0 = b * c - n * (b + c) := ⟨_, rfl⟩
  have j3 : ∀ r, 0 ≤ r → r ≤ 10000 → ((r * r = K0) ∨ ∀ m, 0 ≤ m → m * m ≠ K0) → ∃ out' j, j ≤ 5 ∧ clocheref01_Roots.j3 (k + 4) n out b c K0 r = clocheref01_Roots.l1 (k + 5 - j) n out' b (c + 1) ∧ InvR n out' b (c + 1) := by
    intro r h0 h1 h2
    have hrr := sq_mono h0 h1
    have hr0 := sq_nn r
    rw [clocheref01_Roots.j3, w64 (n := r * r) (by omega) (by omega)]
    by_cases he : r * r = K0
    · rw [if_pos he, ref_l2 n b c r hn hn2 (by omega) (by omega) (by omega) (by omega) h0 (by omega) out hI k (by omega)]
      exact ⟨_, 5, Nat.le_refl _, rfl, hI.add hn h0 (by rw [he, hK0])⟩
    · rw [if_neg he, w64 (n := c + 1) (by omega) (by omega)]
      refine ⟨out, 2, by omega, rfl, hI.none hn ?_⟩
      rw [← hK0]
      exact h2.resolve_left he
  rw [clocheref01_Roots.l1, w64 (n := n + 1) (by omega) (by omega), w64 (n := n * (n + 1)) (by omega) (by omega), if_pos hc2, w64 (n := b * c) (by omega) (by omega), w64 (n := b + c) (by omega) (by omega), w64 (n := n * (b + c)) (by omega) (by omega), w64 (n := b * c - n * (b + c)) (by omega) (by omega), ← hK0]
  by_cases hp : K0 > 0
  · obtain ⟨r, e, hr⟩ := refroot_f K0 (by omega) (by omega) (k + 4) (by omega)
    rw [if_pos hp, e, Option.bind_some]
    have hr2 : r ≤ 10000 := by
      have := sq_lt hr.1 (y := 10000) (by have := hr.2.1; omega) (by omega)
      omega
    refine j3 r hr.1 hr2 ?_
    by_cases he : r * r = K0
    · exact .inl he
    · refine .inr fun m hm h => he ?_
      have a1 : Isq K0 m := h ▸ Isq.sq hm
      rw [hr.unique a1, h]
  · rw [if_neg hp]
    refine j3 0 (by omega) (by omega) ?_
    by_cases he : K0 = 0
    · exact .inl he.symm
    · refine .inr fun m hm h => ?_
      have := sq_nn m
      omega
end Go.Proofs.Ytlfmafebmnggeaa.Pure
