/- Six or eight numbers: the orbits modulo 24 of quads whose bends have no common factor. -/
import Derived.Test.YtlfmafebmnggeaaDSixK
import Derived.Test.YtlfmafebmnggeaaDRst
namespace Go.Proofs.Ytlfmafebmnggeaa.Pure
open Go.RowKit Go.Proofs.Ytlfmafebmnggeaa.Print Go.Proofs.YtlfmafebmnggeaaW.PrintWords Go.Proofs.YtlfmafebmnggeaaW.PrintLast
set_option linter.unusedVariables false
set_option linter.unusedSimpArgs false
theorem bit_or_one (m t v : Nat) : (m ||| (1 <<< t)).testBit v = (m.testBit v || decide (t = v)) := by
  rw [Nat.testBit_or, Nat.one_shiftLeft, Nat.testBit_two_pow]
theorem n4_cast (a b c d : Nat) (ha : a < 24) : ((n4 a b c d : Nat) : Int) = (2 * ((b : Int) + c + d) - a) % 24 := by
  unfold n4
  omega
/-- A quad of whole numbers without a sign. -/
def nq (a b c d : Nat) : Q4 := ⟨a, b, c, d⟩
theorem nq_turn (a b c d : Nat) (h : a < 24 ∧ b < 24 ∧ c < 24 ∧ d < 24) :
    tR (nq a b c d) 0 = nq (n4 a b c d) b c d ∧ tR (nq a b c d) 1 = nq a (n4 b a c d) c d ∧ tR (nq a b c d) 2 = nq a b (n4 c a b d) d ∧ tR (nq a b c d) 3 = nq a b c (n4 d a b c) := by
  have h0 := n4_cast a b c d h.1
  have h1 := n4_cast b a c d h.2.1
  have h2 := n4_cast c a b d h.2.2.1
  have h3 := n4_cast d a b c h.2.2.2
  unfold tR tn nq
  refine ⟨?_, ?_, ?_, ?_⟩ <;> simp [Q4.put, Q4.at] <;> omega
theorem n4_lt (a b c d : Nat) : n4 a b c d < 24 := Nat.mod_lt _ (by decide)
theorem wk_mono : ∀ (w : List Nat) (a b c d m v : Nat), m.testBit v = true → (wk w a b c d m).testBit v = true
  | [], _, _, _, _, _, _, h => h
  | 0 :: w, a, b, c, d, m, v, h => by rw [wk]; exact wk_mono w _ _ _ _ _ v (by rw [bit_or_one, h]; rfl)
  | 1 :: w, a, b, c, d, m, v, h => by rw [wk]; exact wk_mono w _ _ _ _ _ v (by rw [bit_or_one, h]; rfl)
  | 2 :: w, a, b, c, d, m, v, h => by rw [wk]; exact wk_mono w _ _ _ _ _ v (by rw [bit_or_one, h]; rfl)
  | (n + 3) :: w, a, b, c, d, m, v, h => by rw [wk]; exact wk_mono w _ _ _ _ _ v (by rw [bit_or_one, h]; rfl); all_goals (intro e; omega)
theorem wk_in {x : Q4} : ∀ (w : List Nat) (a b c d m : Nat), (a < 24 ∧ b < 24 ∧ c < 24 ∧ d < 24) → Rch x (nq a b c d) → (∀ v : Nat, m.testBit v = true → Cv x v) → ∀ v : Nat, (wk w a b c d m).testBit v = true → Cv x v := by
  intro w
  induction w with
  | nil => intro a b c d m _ _ h v hv; exact h v hv
  | cons i w ih =>
    intro a b c d m hb hr h
    have ht := nq_turn a b c d hb
    have add : ∀ (t : Nat) (p : Q4), Rch x p → ((t : Nat) : Int) ∈ ls p → ∀ v : Nat, (m ||| (1 <<< t)).testBit v = true → Cv x v := by
      intro t p hp hm v hv
      rw [bit_or_one, Bool.or_eq_true, decide_eq_true_eq] at hv
      rcases hv with hv | rfl
      · exact h v hv
      · exact ⟨p, hp, hm⟩
    have l0 := n4_lt a b c d
    have l1 := n4_lt b a c d
    have l2 := n4_lt c a b d
    have l3 := n4_lt d a b c
    match i with
    | 0 =>
      have hp := hr.turn 0 (by omega)
      rw [ht.1] at hp
      rw [wk]
      exact ih _ _ _ _ _ ⟨l0, hb.2.1, hb.2.2.1, hb.2.2.2⟩ hp (add _ _ hp (by simp [ls, nq]))
    | 1 =>
      have hp := hr.turn 1 (by omega)
      rw [ht.2.1] at hp
      rw [wk]
      exact ih _ _ _ _ _ ⟨hb.1, l1, hb.2.2.1, hb.2.2.2⟩ hp (add _ _ hp (by simp [ls, nq]))
    | 2 =>
      have hp := hr.turn 2 (by omega)
      rw [ht.2.2.1] at hp
      rw [wk]
      exact ih _ _ _ _ _ ⟨hb.1, hb.2.1, l2, hb.2.2.2⟩ hp (add _ _ hp (by simp [ls, nq]))
    | n + 3 =>
      have hp := hr.turn 3 (by omega)
      rw [ht.2.2.2] at hp
      rw [wk]
      · exact ih _ _ _ _ _ ⟨hb.1, hb.2.1, hb.2.2.1, l3⟩ hp (add _ _ hp (by simp [ls, nq]))
      all_goals (intro e; omega)
theorem mk4_start (a b c d v : Nat) : (((1 <<< a) ||| (1 <<< b) ||| (1 <<< c) ||| (1 <<< d)) : Nat).testBit v = true ↔ v = a ∨ v = b ∨ v = c ∨ v = d := by
  rw [bit_or_one, bit_or_one, bit_or_one, Nat.one_shiftLeft, Nat.testBit_two_pow]
  simp only [Bool.or_eq_true, decide_eq_true_eq]
  omega
theorem mk4_in (a b c d : Nat) (hb : a < 24 ∧ b < 24 ∧ c < 24 ∧ d < 24) (v : Nat) (h : (mk4 a b c d).testBit v = true) : Cv (nq a b c d) v := by
  refine wk_in way a b c d _ hb .refl ?_ v h
  intro v hv
  refine ⟨_, .refl, ?_⟩
  rw [mk4_start] at hv
  simp only [ls, nq, List.mem_cons]
  omega
theorem mk4_has (a b c d v : Nat) (h : v = a ∨ v = b ∨ v = c ∨ v = d) : (mk4 a b c d).testBit v = true :=
  wk_mono way _ _ _ _ _ v ((mk4_start a b c d v).2 h)
/-- What the kernel has seen. -/
theorem orbit {m : Nat} {x : Q4} : ∀ {p : Q4}, Rch x p → ∀ a b c d : Nat, x = nq a b c d → (a < 24 ∧ b < 24 ∧ c < 24 ∧ d < 24) → cnd a b c d = true → prm a b c d = true → mk4 a b c d = m →
    ∃ a' b' c' d' : Nat, p = nq a' b' c' d' ∧ (a' < 24 ∧ b' < 24 ∧ c' < 24 ∧ d' < 24) ∧ cnd a' b' c' d' = true ∧ prm a' b' c' d' = true ∧ mk4 a' b' c' d' = m := by
  intro p hp
  induction hp with
  | refl => intro a b c d e hb h1 h2 h3; exact ⟨a, b, c, d, e, hb, h1, h2, h3⟩
  | @turn p i _ hi ih =>
    intro a b c d e hb h1 h2 h3
    obtain ⟨a', b', c', d', rfl, hb', g1, g2, g3⟩ := ih a b c d e hb h1 h2 h3
    have hk := six_ck a' b' c' d' hb'.1 hb'.2.1 hb'.2.2.1 hb'.2.2.2 g1 g2
    rw [g3] at hk
    unfold ckm ok4 at hk
    simp only [Bool.and_eq_true, Nat.beq_eq] at hk
    obtain ⟨_, k0, k1, k2, k3⟩ := hk
    have ht := nq_turn a' b' c' d' hb'
    rcases four i hi with rfl | rfl | rfl | rfl
    · exact ⟨_, _, _, _, ht.1, ⟨n4_lt _ _ _ _, hb'.2.1, hb'.2.2.1, hb'.2.2.2⟩, k0.2.1, k0.2.2, k0.1⟩
    · exact ⟨_, _, _, _, ht.2.1, ⟨hb'.1, n4_lt _ _ _ _, hb'.2.2.1, hb'.2.2.2⟩, k1.2.1, k1.2.2, k1.1⟩
    · exact ⟨_, _, _, _, ht.2.2.1, ⟨hb'.1, hb'.2.1, n4_lt _ _ _ _, hb'.2.2.2⟩, k2.2.1, k2.2.2, k2.1⟩
    · exact ⟨_, _, _, _, ht.2.2.2, ⟨hb'.1, hb'.2.1, hb'.2.2.1, n4_lt _ _ _ _⟩, k3.2.1, k3.2.2, k3.1⟩
theorem orbit_bits (a b c d : Nat) (hb : a < 24 ∧ b < 24 ∧ c < 24 ∧ d < 24) (h1 : cnd a b c d = true) (h2 : prm a b c d = true) (v : Nat) : (mk4 a b c d).testBit v = true ↔ Cv (nq a b c d) v := by
  refine ⟨mk4_in a b c d hb v, ?_⟩
  rintro ⟨p, hp, hv⟩
  obtain ⟨a', b', c', d', rfl, _, _, _, e⟩ := orbit hp a b c d rfl hb h1 h2 rfl
  rw [← e]
  apply mk4_has
  simp only [ls, nq, List.mem_cons, List.not_mem_nil, or_false] at hv
  omega
theorem pp_len (m : Nat) : ∀ n : Nat, ((List.range n).filter fun i => m.testBit i).length = pp n m
  | 0 => rfl
  | n + 1 => by
    rw [List.range_succ, List.filter_append, List.length_append, pp_len m n, pp, Nat.shiftRight_eq_div_pow]
    congr 1
    rw [List.filter_cons, Nat.testBit_eq_decide_div_mod_eq]
    have := Nat.mod_lt (m / 2 ^ n) (show 2 > 0 by decide)
    by_cases h : m / 2 ^ n % 2 = 1
    · rw [if_pos (by simpa using h), h]; rfl
    · rw [if_neg (by simpa using h), show m / 2 ^ n % 2 = 0 by omega]; rfl
theorem six_len {q : Q4} {a b c d : Nat} (e : rq q = nq a b c d) (hb : a < 24 ∧ b < 24 ∧ c < 24 ∧ d < 24) (h1 : cnd a b c d = true) (h2 : prm a b c d = true) {L : List Int} (hL : IsRests q L) : L.length = 6 ∨ L.length = 8 := by
  have hM : IsRests q (((List.range 24).filter fun i => (mk4 a b c d).testBit i).map fun i : Nat => (i : Int)) := by
    refine ⟨fun v => ?_, ?_⟩
    · rw [List.mem_map, e]
      constructor
      · rintro ⟨i, hi, rfl⟩
        rw [List.mem_filter] at hi
        exact (orbit_bits a b c d hb h1 h2 i).1 hi.2
      · intro hc
        have hr := Cv_range (e ▸ rq_b q) hc
        refine ⟨v.toNat, ?_, by omega⟩
        rw [List.mem_filter, List.mem_range]
        refine ⟨by omega, (orbit_bits a b c d hb h1 h2 v.toNat).2 ?_⟩
        rwa [show ((v.toNat : Nat) : Int) = v by omega]
    · rw [List.pairwise_map]
      exact (List.pairwise_lt_range.filter _).imp fun h => by omega
  rw [hL.unique hM, List.length_map, pp_len]
  have hk := six_ck a b c d hb.1 hb.2.1 hb.2.2.1 hb.2.2.2 h1 h2
  unfold ckm at hk
  simp only [Bool.and_eq_true, Bool.or_eq_true, Nat.beq_eq] at hk
  exact hk.1
/-! ### the bends of a quad -/
theorem cnd_quad {q : Q4} (h : sm q * sm q = 2 * (q.a * q.a + q.b * q.b + q.c * q.c + q.d * q.d)) {a b c d : Nat} (ha : (a : Int) = q.a % 24) (hb : (b : Int) = q.b % 24) (hc : (c : Int) = q.c % 24) (hd : (d : Int) = q.d % 24) : cnd a b c d = true := by
  unfold cnd
  rw [Nat.beq_eq]
  obtain ⟨u, hu⟩ : ∃ u, q.a = a + 24 * u := ⟨q.a / 24, by omega⟩
  obtain ⟨v, hv⟩ : ∃ v, q.b = b + 24 * v := ⟨q.b / 24, by omega⟩
  obtain ⟨w, hw⟩ : ∃ w, q.c = c + 24 * w := ⟨q.c / 24, by omega⟩
  obtain ⟨y, hy⟩ : ∃ y, q.d = d + 24 * y := ⟨q.d / 24, by omega⟩
  unfold sm at h
  rw [hu, hv, hw, hy] at h
  clear ha hb hc hd hu hv hw hy
  have e1 : (((a + b + c + d) * (a + b + c + d) : Nat) : Int) = ((a : Int) + b + c + d) * ((a : Int) + b + c + d) := by simp
  have e2 : ((2 * (a * a + b * b + c * c + d * d) : Nat) : Int) = 2 * ((a : Int) * a + (b : Int) * b + (c : Int) * c + (d : Int) * d) := by simp
  have e3 : ((a : Int) + b + c + d) * ((a : Int) + b + c + d) - 2 * ((a : Int) * a + (b : Int) * b + (c : Int) * c + (d : Int) * d) = 48 * (-(((a : Int) + b + c + d) * (u + v + w + y)) - 12 * ((u + v + w + y) * (u + v + w + y)) + 2 * ((a : Int) * u + b * v + c * w + d * y) + 24 * (u * u + v * v + w * w + y * y)) := by
    grind
  omega
theorem prm_quad {q : Q4} (h2 : ¬ (2 ∣ q.a ∧ 2 ∣ q.b ∧ 2 ∣ q.c ∧ 2 ∣ q.d)) (h3 : ¬ (3 ∣ q.a ∧ 3 ∣ q.b ∧ 3 ∣ q.c ∧ 3 ∣ q.d)) {a b c d : Nat} (ha : (a : Int) = q.a % 24) (hb : (b : Int) = q.b % 24) (hc : (c : Int) = q.c % 24) (hd : (d : Int) = q.d % 24) : prm a b c d = true := by
  unfold prm
  rw [Bool.and_eq_true, Bool.not_eq_true', Bool.not_eq_true']
  constructor
  · rw [Bool.eq_false_iff, ne_eq, Nat.beq_eq]; omega
  · rw [Bool.eq_false_iff, ne_eq, Nat.beq_eq]; omega
/-- Six or eight. -/
theorem six_eight {q : Q4} (hq : QQ q) (h2 : ¬ (2 ∣ q.a ∧ 2 ∣ q.b ∧ 2 ∣ q.c ∧ 2 ∣ q.d)) (h3 : ¬ (3 ∣ q.a ∧ 3 ∣ q.b ∧ 3 ∣ q.c ∧ 3 ∣ q.d)) {L : List Int} (hL : IsRests q L) : L.length = 6 ∨ L.length = 8 := by
  have ha : (((q.a % 24).toNat : Nat) : Int) = q.a % 24 := by omega
  have hb : (((q.b % 24).toNat : Nat) : Int) = q.b % 24 := by omega
  have hc : (((q.c % 24).toNat : Nat) : Int) = q.c % 24 := by omega
  have hd : (((q.d % 24).toNat : Nat) : Int) = q.d % 24 := by omega
  have e : rq q = nq (q.a % 24).toNat (q.b % 24).toNat (q.c % 24).toNat (q.d % 24).toNat := by
    unfold rq nq
    rw [ha, hb, hc, hd]
  exact six_len e ⟨by omega, by omega, by omega, by omega⟩ (cnd_quad hq.2.2 ha hb hc hd) (prm_quad h2 h3 ha hb hc hd) hL
end Go.Proofs.Ytlfmafebmnggeaa.Pure
