/- DiscsFourth: the two numbers of Fourth. -/
import Derived.Test.YtlfmafebmnggeaaDFourth
import Derived.Test.YtlfmafebmnggeaaDAlive
import Derived.Test.YtlfmafebmnggeaaPrintx15
namespace Go.Proofs.Ytlfmafebmnggeaa.Pure
open Go.RowKit Go.Proofs.Ytlfmafebmnggeaa.Print Go.Proofs.YtlfmafebmnggeaaW.PrintWords Go.Proofs.YtlfmafebmnggeaaW.PrintLast
set_option linter.unusedVariables false
set_option linter.unusedSimpArgs false
theorem fourth_quad {a b c x : Int} (h : IsQ a b c x) (hs : Short a ∧ Short b ∧ Short c) {t : Int × Int × Int} (ht : FourthR a b c t) :
    (InR (2 * (a + b + c) - x) → t = (min (2 * (a + b + c) - x) x, max (2 * (a + b + c) - x) x, 0)) ∧ (¬ InR (2 * (a + b + c) - x) → t.2.2 = 10) := by
  have e := (soddy a b c x).1 h.2.2
  have e' : (x - a - b - c) * (x - a - b - c) = 4 * e2 a b c := by rw [e]; unfold e2; grind
  have ev := sq_even _ _ e'
  obtain ⟨m, hm⟩ : ∃ m, x - a - b - c = 2 * m := ⟨(x - a - b - c) / 2, by omega⟩
  rw [hm] at e'
  have e3 : m * m = e2 a b c := by
    have : (2 * m) * (2 * m) = 4 * (m * m) := by grind
    omega
  obtain ⟨r, hr0, hrr, hmr⟩ : ∃ r : Int, 0 ≤ r ∧ r * r = e2 a b c ∧ (m = r ∨ m = -r) := by
    by_cases h0 : 0 ≤ m
    · exact ⟨m, h0, e3, .inl rfl⟩
    · exact ⟨-m, by omega, by rw [Int.neg_mul_neg]; exact e3, .inr (by omega)⟩
  have hq : Isq (e2 a b c) r := hrr ▸ Isq.sq hr0
  have hn : ¬ e2 a b c < 0 := by have := sq_nn r; omega
  have ht' : t = if r * r = e2 a b c ∧ IsQ a b c (a + b + c - 2 * r) ∧ IsQ a b c (a + b + c + 2 * r) then (a + b + c - 2 * r, a + b + c + 2 * r, 0) else (0, 0, 10) := by
    unfold FourthR at ht
    rw [if_pos hs, if_neg hn] at ht
    obtain ⟨s, h1, h2⟩ := ht
    rw [hq.unique h1]; exact h2
  rw [ht']
  clear ht ht' e e' ev hq hn
  constructor
  · intro hr
    have h2 := h.turn (2 * (a + b + c) - x) rfl hr
    rcases hmr with rfl | rfl
    · rw [show a + b + c - 2 * m = 2 * (a + b + c) - x by omega, show a + b + c + 2 * m = x by omega, if_pos ⟨hrr, h2, h⟩, Int.min_eq_left (by omega), Int.max_eq_right (by omega)]
    · rw [show a + b + c - 2 * r = x by omega, show a + b + c + 2 * r = 2 * (a + b + c) - x by omega, if_pos ⟨hrr, h, h2⟩, Int.min_eq_right (by omega), Int.max_eq_left (by omega)]
  · intro hr
    rw [if_neg]
    rintro ⟨_, g1, g2⟩
    rcases hmr with rfl | rfl
    · exact hr (by rw [show 2 * (a + b + c) - x = a + b + c - 2 * m by omega]; exact g1.1.2.2.2)
    · exact hr (by rw [show 2 * (a + b + c) - x = a + b + c + 2 * r by omega]; exact g2.1.2.2.2)
/-- What the law does with three bends and the fourth. -/
theorem fourth_law {q : Q4} (hq : QQ q) (j a b c x : Int) (hj : 0 ≤ j ∧ j < 4) (h : IsQ a b c x) (hx : q.at j = x) (htn : tn q j = 2 * (a + b + c) - x) (K : Nat) (hK : 5000000 ≤ K) :
    ((discs_Fourth.f (K + 1) a b c).bind fun bt368 => (if (mx (mx a b) c) > 1048576 then (clochelaw01_DiscsFourth.j0 (K + 1) j a b c bt368.1 bt368.2.1 bt368.2.2 true q.a q.b q.c q.d) else (clochelaw01_DiscsFourth.j0 (K + 1) j a b c bt368.1 bt368.2.1 bt368.2.2 (decide ((mn (mn a b) c) < (-1048576))) q.a q.b q.c q.d))) = some true := by
  obtain ⟨t, ht, hR⟩ := Fourth_f a b c (K + 1) (by omega)
  have ha := alive_f K (by omega)
  rw [ht, Option.bind_some]
  by_cases hs : Short a ∧ Short b ∧ Short c
  rotate_left
  · have e : t = (0, 0, 2) := by unfold FourthR at hR; rw [if_neg hs] at hR; exact hR
    have hb : clochelaw01_DiscsFourth.j0 (K + 1) j a b c t.1 t.2.1 t.2.2 true q.a q.b q.c q.d = some true := by
      rw [clochelaw01_DiscsFourth.j0, if_pos rfl, e]
      simp only
      rw [if_pos trivial, if_pos trivial, if_pos trivial, ha]; rfl
    by_cases h1 : mx (mx a b) c > 1048576
    · rw [if_pos h1]; exact hb
    · rw [if_neg h1, decide_eq_true]
      · exact hb
      · unfold Short at hs
        unfold mx at h1
        unfold mn
        omega
  have h1 : ¬ mx (mx a b) c > 1048576 := by unfold Short at hs; unfold mx; omega
  have h2 : ¬ mn (mn a b) c < -1048576 := by unfold Short at hs; unfold mn; omega
  obtain ⟨g1, g2⟩ := fourth_quad h hs hR
  rw [if_neg h1, decide_eq_false h2, clochelaw01_DiscsFourth.j0, if_neg (by simp), RefTurned_f q j hj hq.inA K (by omega), Option.bind_some, inr_f, Option.bind_some, at4_at, hx, htn]
  by_cases hr : InR (2 * (a + b + c) - x)
  · rw [if_pos (decide_eq_true hr), g1 hr]
    simp only
    have hs' := hs
    unfold Short at hs'
    have e1 : min (2 * (a + b + c) - x) x = mn (2 * (a + b + c) - x) x := by unfold mn; omega
    have e2 : max (2 * (a + b + c) - x) x = mx (2 * (a + b + c) - x) x := by unfold mx; omega
    have e3 : mn (2 * (a + b + c) - x) x + mx (2 * (a + b + c) - x) x = 2 * (a + b + c) := by unfold mn mx; omega
    rw [if_pos trivial, if_pos hj.1, if_pos hj.2, e1, if_pos rfl, e2, if_pos rfl, e3, w64 (n := a + b) (by omega) (by omega), w64 (n := a + b + c) (by omega) (by omega), if_pos rfl, ha]
    rfl
  · rw [if_neg (by rw [decide_eq_false hr]; simp), g2 hr, if_pos rfl, ha]; rfl
theorem DiscsFourth (a b c d i : Int) (wa : (Lit.int .i64 a).wf = true) (wb : (Lit.int .i64 b).wf = true) (wc : (Lit.int .i64 c).wf = true) (wd : (Lit.int .i64 d).wf = true) (wi : (Lit.int .u8 i).wf = true) : ∃ k, clochelaw01_DiscsFourth.f k a b c d i = some true := by
  obtain ⟨K, hK⟩ : ∃ K : Nat, 5000000 ≤ K := ⟨_, Nat.le_refl _⟩
  refine ⟨K + 1, ?_⟩
  have hi : 0 ≤ i ∧ i ≤ 255 := by
    simp only [Lit.wf, IntKind.min, IntKind.max, IntKind.signed, IntKind.bits, Bool.and_eq_true, decide_eq_true_eq] at wi
    simpa using wi
  have hj : 0 ≤ i % 4 ∧ i % 4 < 4 := by omega
  unfold clochelaw01_DiscsFourth.f
  rw [RefIsQuad_f a b c d (K + 1) (by omega), Option.bind_some]
  by_cases hq : QQ ⟨a, b, c, d⟩
  rotate_left
  · rw [if_neg (by rw [decide_eq_false (show ¬ IsQ a b c d from hq)]; simp), alive_f (K + 1) (by omega)]; rfl
  have hq' : IsQ a b c d := hq
  rw [if_pos (decide_eq_true hq')]
  have ej : wrap64 (Int.tmod i 4) = i % 4 := by rw [Int.tmod_eq_emod_of_nonneg hi.1, w64 (by omega) (by omega)]
  rw [ej]
  have em : ∀ m : Int, 0 ≤ m → m ≤ 3 → Int.tmod (wrap64 (i % 4 + m)) 4 = (i % 4 + m) % 4 := by
    intro m h0 h3
    rw [w64 (by omega) (by omega), Int.tmod_eq_emod_of_nonneg (by omega)]
  rw [em 1 (by omega) (by omega), em 2 (by omega) (by omega), em 3 (by omega) (by omega)]
  clear em ej
  rw [if_pos (by omega), if_pos (by omega), if_pos (by omega), if_pos (by omega), if_pos (by omega), if_pos (by omega)]
  generalize i % 4 = j at hj
  rcases four j hj with rfl | rfl | rfl | rfl
  · rw [show ((0 : Int) + 1) % 4 = 1 from rfl, show ((0 : Int) + 2) % 4 = 2 from rfl, show ((0 : Int) + 3) % 4 = 3 from rfl, at4_1, at4_2, at4_3]
    exact fourth_law hq 0 b c d a (by omega) hq'.rot rfl (by unfold tn Q4.at; simp; omega) K hK
  · rw [show ((1 : Int) + 1) % 4 = 2 from rfl, show ((1 : Int) + 2) % 4 = 3 from rfl, show ((1 : Int) + 3) % 4 = 0 from rfl, at4_0, at4_2, at4_3]
    exact fourth_law hq 1 c d a b (by omega) hq'.rot.rot rfl (by unfold tn Q4.at; simp; omega) K hK
  · rw [show ((2 : Int) + 1) % 4 = 3 from rfl, show ((2 : Int) + 2) % 4 = 0 from rfl, show ((2 : Int) + 3) % 4 = 1 from rfl, at4_0, at4_1, at4_3]
    exact fourth_law hq 2 d a b c (by omega) hq'.rot.rot.rot rfl (by unfold tn Q4.at; simp; omega) K hK
  · rw [show ((3 : Int) + 1) % 4 = 0 from rfl, show ((3 : Int) + 2) % 4 = 1 from rfl, show ((3 : Int) + 3) % 4 = 2 from rfl, at4_0, at4_1, at4_2]
    exact fourth_law hq 3 a b c d (by omega) hq' rfl (by unfold tn Q4.at; simp) K hK
end Go.Proofs.Ytlfmafebmnggeaa.Pure
