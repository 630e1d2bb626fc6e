/- DiscsSix: six or eight rests, the same for all quads that are reached. -/
import Derived.Test.YtlfmafebmnggeaaDSix
import Derived.Test.YtlfmafebmnggeaaDReachT
import Derived.Test.YtlfmafebmnggeaaDAlive
import Derived.Test.YtlfmafebmnggeaaPrintx34
namespace Go.Proofs.Ytlfmafebmnggeaa.Pure
open Go.RowKit Go.Proofs.Ytlfmafebmnggeaa.Print Go.Proofs.YtlfmafebmnggeaaW.PrintWords Go.Proofs.YtlfmafebmnggeaaW.PrintLast Go.Proofs.YtlfmafebmnggeaaW.PrintMore
set_option linter.unusedVariables false
set_option linter.unusedSimpArgs false
theorem dvd_tmod {t a b : Int} (ha : t ∣ a) (hb : t ∣ b) : t ∣ Int.tmod a b := by
  rw [Int.tmod_def]
  exact Int.dvd_sub ha (Int.dvd_trans hb (Int.dvd_mul_right _ _))
theorem tmod_lt (a b : Int) (hb : b ≠ 0) : (Int.tmod a b).natAbs < b.natAbs := by
  rw [Int.natAbs_tmod]
  exact Nat.mod_lt _ (by omega)
theorem gcd_l0 : ∀ (n : Nat) (a b : Int), b.natAbs < n → a.natAbs ≤ 4398046511104 → b.natAbs ≤ 4398046511104 → ∀ k, n ≤ k → ∃ g, clochelaw01_gcd.l0 k a b = some g ∧ (0 ≤ g ∧ g ≤ 4398046511104) ∧ ∀ t, t ∣ a → t ∣ b → t ∣ g
  | 0, _, _, h, _, _, _, _ => absurd h (Nat.not_lt_zero _)
  | n + 1, a, b, h, ha, hb, k, hk => by
    obtain ⟨k, rfl⟩ : ∃ j, k = j + 1 := ⟨k - 1, by omega⟩
    rw [clochelaw01_gcd.l0]
    by_cases h0 : b = 0
    · rw [if_pos h0, w64 (n := -a) (by omega) (by omega)]
      refine ⟨_, rfl, ?_, ?_⟩
      · unfold mx; split <;> omega
      · intro t h1 h2
        unfold mx
        split
        · exact Int.dvd_neg.2 h1
        · exact h1
    · rw [if_neg h0]
      have hlt := tmod_lt a b h0
      obtain ⟨g, e, h1, h2⟩ := gcd_l0 n b (Int.tmod a b) (by omega) hb (by omega) k (by omega)
      exact ⟨g, e, h1, fun t ta tb => h2 t tb (dvd_tmod ta tb)⟩
theorem gcd_f (a b : Int) (ha : a.natAbs ≤ 4398046511104) (hb : b.natAbs ≤ 4398046511104) (k : Nat) (hk : 5000000000000 ≤ k) : ∃ g, clochelaw01_gcd.f k a b = some g ∧ (0 ≤ g ∧ g ≤ 4398046511104) ∧ ∀ t, t ∣ a → t ∣ b → t ∣ g := by
  unfold clochelaw01_gcd.f
  exact gcd_l0 (b.natAbs + 1) a b (by omega) ha hb k (by omega)
theorem six_l1 (L : List Int) (hL : (L.length : Int) ≤ 24) (t : Q4) (ht : InA t) (i : Int) (hi : 0 ≤ i ∧ i < 4) : ∀ (d : Nat) (j : Nat) (flag : Bool), j + d = L.length → (flag = true ∨ ∃ u : Nat, j ≤ u ∧ u < L.length ∧ rd L u = t.at i % 24) → ∀ k, d + 1 ≤ k →
    clochelaw01_DiscsSix.l1 k L i flag (j : Int) t.a t.b t.c t.d = clochelaw01_DiscsSix.l0 (k - (d + 1)) L (i + 1) t.a t.b t.c t.d := by
  have hr : Int.tmod (wrap64 ((Int.tmod (t.at i) 24) + 24)) 24 = t.at i % 24 := by
    have := restI_eq (t.at i) (by
      unfold InA InR at ht
      rcases four i hi with rfl | rfl | rfl | rfl <;> simp [Q4.at] <;> omega)
    exact this
  intro d
  induction d with
  | zero =>
    intro j flag hd hf k hk
    obtain ⟨k, rfl⟩ : ∃ j, k = j + 1 := ⟨k - 1, by omega⟩
    have hft : flag = true := by
      rcases hf with h | ⟨u, h1, h2, _⟩
      · exact h
      · omega
    rw [clochelaw01_DiscsSix.l1, if_neg (by omega), if_pos hft, w64 (n := i + 1) (by omega) (by omega)]
    rfl
  | succ d ih =>
    intro j flag hd hf k hk
    obtain ⟨k, rfl⟩ : ∃ j, k = j + 1 := ⟨k - 1, by omega⟩
    have e : k + 1 - (d + 1 + 1) = k - (d + 1) := by omega
    have ew : wrap64 ((j : Int) + 1) = ((j + 1 : Nat) : Int) := by rw [w64 (n := (j : Int) + 1) (by omega) (by omega)]; omega
    rw [clochelaw01_DiscsSix.l1, ew]
    clear ew
    rw [if_pos (by omega), e]
    by_cases h : flag = true
    · rw [if_pos h]
      exact ih (j + 1) true (by omega) (.inl rfl) k (by omega)
    · rw [if_neg h, if_pos (by omega), if_pos hi.1, if_pos hi.2, at4_at, hr]
      refine ih (j + 1) _ (by omega) ?_ k (by omega)
      obtain ⟨u, h1, h2, h3⟩ := hf.resolve_left h
      by_cases hj : u = j
      · left
        rw [← hj, h3]
        exact beq_self_eq_true _
      · exact .inr ⟨u, by omega, h2, h3⟩
theorem rd_of {L : List Int} {v : Int} (h : v ∈ L) : ∃ u : Nat, 0 ≤ u ∧ u < L.length ∧ rd L u = v := by
  obtain ⟨i, hi, e⟩ := List.getElem_of_mem h
  refine ⟨i, by omega, hi, ?_⟩
  unfold rd
  rw [Int.toNat_natCast, List.getD_eq_getElem?_getD, List.getElem?_eq_getElem hi, Option.getD_some, e]
theorem six_l0 (L : List Int) (hL : (L.length : Int) ≤ 24) (t : Q4) (ht : InA t) (hm : ∀ i, 0 ≤ i ∧ i < 4 → t.at i % 24 ∈ L) (k : Nat) (hk : 200 ≤ k) : clochelaw01_DiscsSix.l0 k L 0 t.a t.b t.c t.d = some true := by
  have step : ∀ (i : Int) (k : Nat), (0 ≤ i ∧ i < 4) → 40 ≤ k → clochelaw01_DiscsSix.l0 k L i t.a t.b t.c t.d = clochelaw01_DiscsSix.l0 (k - 1 - (L.length + 1)) L (i + 1) t.a t.b t.c t.d := by
    intro i k hi hk
    obtain ⟨k, rfl⟩ : ∃ j, k = j + 1 := ⟨k - 1, by omega⟩
    obtain ⟨u, h0, h1, h2⟩ := rd_of (hm i hi)
    have := six_l1 L hL t ht i hi L.length 0 false (Nat.zero_add _) (.inr ⟨u, h0, h1, h2⟩) k (by omega)
    rw [clochelaw01_DiscsSix.l0, if_pos hi.2]
    exact this
  rw [step 0 k (by omega) (by omega), show (0 : Int) + 1 = 1 from rfl, step 1 _ (by omega) (by omega), show (1 : Int) + 1 = 2 from rfl, step 2 _ (by omega) (by omega), show (2 : Int) + 1 = 3 from rfl, step 3 _ (by omega) (by omega), show (3 : Int) + 1 = 4 from rfl]
  obtain ⟨k', hk'⟩ : ∃ k', k - 1 - (L.length + 1) - 1 - (L.length + 1) - 1 - (L.length + 1) - 1 - (L.length + 1) = k' + 51 := ⟨k - 1 - (L.length + 1) - 1 - (L.length + 1) - 1 - (L.length + 1) - 1 - (L.length + 1) - 51, by omega⟩
  rw [hk', clochelaw01_DiscsSix.l0, if_neg (by decide), alive_f _ (by omega)]
  rfl
theorem rests_len {q : Q4} {L : List Int} (h : IsRests q L) : L.length ≤ 24 := by
  have := nodup_le (L.map Int.toNat) ?_ 24 ?_
  · rwa [List.length_map] at this
  · unfold List.Nodup
    rw [List.pairwise_map]
    refine List.Pairwise.imp_of_mem ?_ h.lt
    intro x y hx hy hlt
    have := Cv_range (rq_b q) ((h.mem x).1 hx)
    omega
  · intro x hx
    rw [List.mem_map] at hx
    obtain ⟨y, hy, rfl⟩ := hx
    have := Cv_range (rq_b q) ((h.mem y).1 hy)
    omega
theorem IsRests.root {q t : Q4} (hq : QQ q) (ht : QQ t) (e : Rt t = Rt q) {L : List Int} (h : IsRests t L) : IsRests q L :=
  ⟨fun v => by rw [h.mem, ← Cv_root t ht, e, Cv_root q hq], h.lt⟩
theorem DiscsSix (a b c d : Int) (l : List Int) (wa : (Lit.int .i64 a).wf = true) (wb : (Lit.int .i64 b).wf = true) (wc : (Lit.int .i64 c).wf = true) (wd : (Lit.int .i64 d).wf = true) (wl : ∀ x ∈ l, (Lit.int .i64 x).wf = true) : ∃ k, clochelaw01_DiscsSix.f k a b c d l = some true := by
  obtain ⟨K, hK⟩ : ∃ K : Nat, 50000000000000 ≤ K := ⟨_, Nat.le_refl _⟩
  refine ⟨K + 4, ?_⟩
  unfold clochelaw01_DiscsSix.f
  by_cases hl : 200 < l.length
  · rw [if_pos (by omega), clochelaw01_DiscsSix.j0, if_pos rfl, alive_f _ (by omega)]; rfl
  rw [if_neg (by omega), RefIsQuad_f a b c d (K + 4) (by omega), Option.bind_some]
  obtain ⟨q, hqe⟩ : ∃ q : Q4, q = ⟨a, b, c, d⟩ := ⟨_, rfl⟩
  obtain ⟨rfl, rfl, rfl, rfl⟩ : q.a = a ∧ q.b = b ∧ q.c = c ∧ q.d = d := by rw [hqe]; exact ⟨rfl, rfl, rfl, rfl⟩
  by_cases hq : QQ q
  rotate_left
  · rw [decide_eq_false (show ¬ IsQ q.a q.b q.c q.d from hq), clochelaw01_DiscsSix.j0, if_pos (by simp), alive_f _ (by omega)]; rfl
  obtain ⟨L, hL, eL⟩ := Rests_f hq
  have hLl := rests_len hL
  have hin := hq.inA
  unfold InA InR at hin
  obtain ⟨g1, e1, b1, d1⟩ := gcd_f q.a q.b (by omega) (by omega) (K + 3) (by omega)
  obtain ⟨g2, e2, b2, d2⟩ := gcd_f q.c q.d (by omega) (by omega) (K + 3) (by omega)
  obtain ⟨g3, e3, b3, d3⟩ := gcd_f g1 g2 (by omega) (by omega) (K + 3) (by omega)
  rw [decide_eq_true (show IsQ q.a q.b q.c q.d from hq), clochelaw01_DiscsSix.j0, if_neg (by simp), eL (K + 3) (by omega), Option.bind_some]
  simp only
  rw [if_pos trivial, e1, Option.bind_some, e2, Option.bind_some, e3, Option.bind_some]
  have hj : clochelaw01_DiscsSix.j1 (K + 3) l L false q.a q.b q.c q.d = some true := by
    rw [clochelaw01_DiscsSix.j1, if_neg (by decide), Turns_f q l (K + 2) (by omega), Option.bind_some]
    unfold TurnsP
    rw [if_pos hq]
    by_cases h60 : 60 < l.length
    · rw [if_pos h60]
      simp only
      rw [if_neg (by decide), alive_f _ (by omega)]; rfl
    · rw [if_neg h60]
      rcases turns_root l q hq with ⟨h0, _⟩ | ⟨t, h1, h2, h3⟩
      · rw [if_neg h0, alive_f _ (by omega)]; rfl
      · rw [h1]
        simp only
        obtain ⟨L', hL', eL'⟩ := Rests_f h2
        obtain rfl := hL.unique (hL'.root hq h2 h3)
        rw [if_pos trivial, eL' (K + 2) (by omega), Option.bind_some]
        simp only
        rw [if_pos trivial, same_f L L (by omega) (K + 2) (by omega), Option.bind_some, decide_eq_true rfl, clochelaw01_DiscsSix.j2, if_neg (by decide)]
        refine six_l0 L (by omega) t h2.inA ?_ (K + 1) (by omega)
        intro i hi
        rw [hL'.mem, ← Cv_root t h2]
        exact Cv_bend h2 i hi
  by_cases hg : g3 = 1
  · have h6 := six_eight hq (fun h => by
      have := d3 2 (d1 2 h.1 h.2.1) (d2 2 h.2.2.1 h.2.2.2)
      omega) (fun h => by
      have := d3 3 (d1 3 h.1 h.2.1) (d2 3 h.2.2.1 h.2.2.2)
      omega) hL
    rw [if_pos hg]
    by_cases h : (L.length : Int) = 6
    · rw [if_pos h]; exact hj
    · rw [if_neg h, show ((L.length : Int) != 8) = false by rw [bne_eq_false_iff_eq]; omega]; exact hj
  · rw [if_neg hg]; exact hj
end Go.Proofs.Ytlfmafebmnggeaa.Pure
