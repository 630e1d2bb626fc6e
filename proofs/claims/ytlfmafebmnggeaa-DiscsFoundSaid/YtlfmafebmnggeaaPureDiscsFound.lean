/- DiscsFound: Roots of n are just the sorted quads of the pairs m, x. -/
import Derived.Test.YtlfmafebmnggeaaDListP
import Derived.Test.YtlfmafebmnggeaaDAlive
import Derived.Test.YtlfmafebmnggeaaPrintx30
namespace Go.Proofs.Ytlfmafebmnggeaa.Pure
open Go.RowKit Go.Proofs.Ytlfmafebmnggeaa.Print Go.Proofs.YtlfmafebmnggeaaW.PrintWords Go.Proofs.YtlfmafebmnggeaaW.PrintLast
set_option linter.unusedVariables false
set_option linter.unusedSimpArgs false
theorem found_l2 (L : List S23) (hL : (L.length : Int) ≤ 200000) (n many x m : Int) (q : S23) : ∀ (d : Nat) (i : Int) (flag : Bool), i + d = L.length → 0 ≤ i → (flag = true ∨ ∃ j, i ≤ j ∧ j < L.length ∧ rd_T23 L j = q) → ∀ k, d + 1 ≤ k →
    clochelaw01_DiscsFound.l2 k n L many x m flag i q.f0 q.f1 q.f2 q.f3 = clochelaw01_DiscsFound.l1 (k - (d + 1)) n L many x (wrap64 (m + 1)) := by
  intro d
  induction d with
  | zero =>
    intro i flag hd h0 hf k hk
    obtain ⟨k, rfl⟩ : ∃ j, k = j + 1 := ⟨k - 1, by omega⟩
    have hft : flag = true := by
      rcases hf with h | ⟨j, h1, h2, _⟩
      · exact h
      · omega
    rw [clochelaw01_DiscsFound.l2, if_neg (by omega), if_pos hft]
    rfl
  | succ d ih =>
    intro i flag hd h0 hf k hk
    obtain ⟨k, rfl⟩ : ∃ j, k = j + 1 := ⟨k - 1, by omega⟩
    have e : k + 1 - (d + 1 + 1) = k - (d + 1) := by omega
    rw [clochelaw01_DiscsFound.l2, if_pos (by omega), w64 (n := i + 1) (by omega) (by omega), e]
    by_cases h : flag = true
    · rw [if_pos h]
      exact ih (i + 1) true (by omega) (by omega) (.inl rfl) k (by omega)
    · rw [if_neg h, if_pos h0]
      refine ih (i + 1) _ (by omega) (by omega) ?_ k (by omega)
      obtain ⟨j, h1, h2, h3⟩ := hf.resolve_left h
      by_cases hj : j = i
      · left
        rw [← hj, h3]
        simp
      · exact .inr ⟨j, by omega, h2, h3⟩
theorem rd_of_mem {L : List S23} {q : S23} (h : q ∈ L) : ∃ j : Int, 0 ≤ j ∧ j < L.length ∧ rd_T23 L j = q := by
  obtain ⟨i, hi, e⟩ := List.getElem_of_mem h
  refine ⟨i, by omega, by omega, ?_⟩
  unfold rd_T23
  rw [Int.toNat_natCast, List.getD_eq_getElem?_getD, List.getElem?_eq_getElem hi, Option.getD_some, e]
theorem fuel_a {A B d j k : Nat} (h : B + A * (d + 1 + 1) ≤ k + 1) (hj : j + 1 ≤ A) : B + A * (d + 1) ≤ k - j := by
  rw [Nat.mul_succ A (d + 1)] at h
  omega
theorem fuel_b {A B d k : Nat} (h : B + A * (d + 1) ≤ k) : B + A ≤ k := by
  rw [Nat.mul_succ] at h
  omega
/-- What is found before x, m. -/
structure InvF (n : Int) (acc : List S23) (x m : Int) : Prop where
  nd : acc.Nodup
  mem : ∀ q, q ∈ acc ↔ ∃ m' x', Vm n m' x' ∧ (x' < x ∨ (x' = x ∧ m' < m)) ∧ q = qd n m' x'
  len : (acc.length : Int) ≤ 1000 * x + m
theorem InvF.step {n m x : Int} {acc : List S23} (h : InvF n acc x m) (hv : Vm n m x) : InvF n (acc ++ [qd n m x]) x (m + 1) := by
  refine ⟨?_, ?_, ?_⟩
  · rw [List.nodup_append]
    refine ⟨h.nd, by simp, ?_⟩
    intro a ha b hb hab
    rw [List.mem_singleton] at hb
    subst hab hb
    obtain ⟨m', x', _, h2, h3⟩ := (h.mem _).1 ha
    have := qd_inj h3
    omega
  · intro q
    rw [List.mem_append, List.mem_singleton, h.mem]
    constructor
    · rintro (⟨m', x', h1, h2, h3⟩ | rfl)
      · exact ⟨m', x', h1, by omega, h3⟩
      · exact ⟨m, x, hv, by omega, rfl⟩
    · rintro ⟨m', x', h1, h2, h3⟩
      by_cases e : m' = m ∧ x' = x
      · right; rw [h3, e.1, e.2]
      · left; exact ⟨m', x', h1, by omega, h3⟩
  · have := h.len; rw [List.length_append, List.length_singleton]; omega
theorem InvF.skip {n m x : Int} {acc : List S23} (h : InvF n acc x m) (hv : ¬ Vm n m x) : InvF n acc x (m + 1) := by
  refine ⟨h.nd, ?_, by have := h.len; omega⟩
  intro q
  rw [h.mem]
  constructor
  · rintro ⟨m', x', h1, h2, h3⟩; exact ⟨m', x', h1, by omega, h3⟩
  · rintro ⟨m', x', h1, h2, h3⟩
    refine ⟨m', x', h1, ?_, h3⟩
    by_cases e : m' = m ∧ x' = x
    · exact absurd (e.1 ▸ e.2 ▸ h1) hv
    · omega
theorem InvF.next {n m x : Int} {acc : List S23} (h : InvF n acc x m) (hm : x < 2 * m) (hm2 : m ≤ 900) : InvF n acc (x + 1) 0 := by
  refine ⟨h.nd, ?_, by have := h.len; omega⟩
  intro q
  rw [h.mem]
  constructor
  · rintro ⟨m', x', h1, h2, h3⟩; exact ⟨m', x', h1, by omega, h3⟩
  · rintro ⟨m', x', h1, h2, h3⟩
    refine ⟨m', x', h1, ?_, h3⟩
    have := h1.1
    have := h1.2.1
    omega
theorem InvF.first (n : Int) : InvF n [] 1 0 := by
  refine ⟨List.nodup_nil, fun q => ⟨fun h => (List.not_mem_nil h).elim, ?_⟩, by simp⟩
  rintro ⟨m', x', h1, h2, _⟩
  have := h1.1
  have := h1.2.2.1
  omega
theorem found_l1 (n : Int) (hn : 1 ≤ n) (hn2 : n ≤ 100) (L : List S23) (hA : All n L) (x : Int) (hx : 1 ≤ x) (hx2 : x ≤ 2 * n) : ∀ (d : Nat) (m : Int), m + d = x / 2 + 1 → 0 ≤ m → ∀ acc, InvF n acc x m → ∀ k, 200100 * (d + 1) ≤ k →
    ∃ acc' j, j ≤ 200100 * (d + 1) ∧ clochelaw01_DiscsFound.l1 k n L acc.length x m = clochelaw01_DiscsFound.l0 (k - j) n L acc'.length (x + 1) ∧ InvF n acc' (x + 1) 0 := by
  have hnn : n * n ≤ 10000 := by have := sq_mono (by omega) hn2; omega
  have hn1 : 1 ≤ n * n := by have := sq_mono (by omega) hn; omega
  intro d
  induction d with
  | zero =>
    intro m hd h0 acc hI k hk
    obtain ⟨k, rfl⟩ : ∃ j, k = j + 1 := ⟨k - 1, by omega⟩
    refine ⟨acc, 1, by omega, ?_, hI.next (by omega) (by omega)⟩
    rw [clochelaw01_DiscsFound.l1, w64 (n := 2 * m) (by omega) (by omega), if_neg (by omega), w64 (n := x + 1) (by omega) (by omega)]
    rfl
  | succ d ih =>
    intro m hd h0 acc hI k hk
    obtain ⟨k, rfl⟩ : ∃ j, k = j + 2 := ⟨k - 2, by omega⟩
    have hmm := sq_mono h0 (show m ≤ 200 by omega)
    have hm0 := sq_nn m
    have hlen := hI.len
    obtain ⟨S, hS⟩ : ∃ S, S = n * n + m * m := ⟨_, rfl⟩
    have hy0 : 0 ≤ S / x := Int.ediv_nonneg (by omega) (by omega)
    have hyS : S / x ≤ S := Int.ediv_le_self _ (by omega)
    have hxy : x * (S / x) = S - S % x := by have := Int.mul_ediv_add_emod S x; omega
    have hmod := Int.emod_nonneg S (show x ≠ 0 by omega)
    have hmod2 := Int.emod_lt_of_pos S (show 0 < x by omega)
    have skip : ∀ (j : Nat), j ≤ 5 → InvF n acc x (m + 1) → ∃ acc' j', j' ≤ 200100 * (d + 1 + 1) ∧ clochelaw01_DiscsFound.l1 (k + 2 - j) n L acc.length x (m + 1) = clochelaw01_DiscsFound.l0 (k + 2 - j') n L acc'.length (x + 1) ∧ InvF n acc' (x + 1) 0 := by
      intro j hj hI'
      obtain ⟨acc', j', g1, g2, g3⟩ := ih (m + 1) (by omega) (by omega) acc hI' (k + 2 - j) (by omega)
      refine ⟨acc', j + j', by omega, ?_, g3⟩
      rw [g2]
      congr 1
      omega
    rw [clochelaw01_DiscsFound.l1, w64 (n := 2 * m) (by omega) (by omega), if_pos (by omega), if_neg (by omega), w64 (n := n * n) (by omega) (by omega), w64 (n := m * m) (by omega) (by omega), w64 (n := n * n + m * m) (by omega) (by omega), ← hS,
      Int.tdiv_eq_ediv_of_nonneg (show 0 ≤ S by omega), w64 (n := S / x) (by omega) (by omega), w64 (n := x * (S / x)) (by omega) (by omega)]
    by_cases he : S % x = 0
    · rw [if_pos (by omega)]
      by_cases hle : x ≤ S / x
      · have hxx : x * x ≤ S := by
          have := Int.mul_le_mul_of_nonneg_left hle (show 0 ≤ x by omega)
          omega
        have hv : Vm n m x := ⟨h0, by omega, hx, by rw [← hS]; exact hxx, by rw [← hS]; exact he⟩
        have es := sorted_qd hn hn2 hv
        have ey : yq n m x = S / x := by unfold yq; rw [hS]
        rw [decide_eq_false (by omega), clochelaw01_DiscsFound.j2, if_neg (by decide)]
        rw [ey] at es
        rw [w64 (n := -n) (by omega) (by omega), w64 (n := x + n) (by omega) (by omega), w64 (n := S / x + n) (by omega) (by omega), w64 (n := x + S / x) (by omega) (by omega), w64 (n := x + S / x + n) (by omega) (by omega), w64 (n := 2 * m) (by omega) (by omega), w64 (n := x + S / x + n - 2 * m) (by omega) (by omega)]
        have hs := Sorted_f ⟨-n, x + n, S / x + n, x + S / x + n - 2 * m⟩ k (by omega)
        rw [es] at hs
        simp only at hs
        rw [hs, Option.bind_some]
        simp only
        have eq : qd n m x = ⟨-n, x + n, S / x + n, x + S / x + n - 2 * m⟩ := by unfold qd; rw [ey]
        obtain ⟨j, hj0, hj1, hj2⟩ := rd_of_mem ((hA.mem (qd n m x)).2 ⟨m, x, hv, rfl⟩)
        have hl2 := found_l2 L hA.len n (wrap64 (acc.length + 1)) x m (qd n m x) L.length 0 false (by omega) (by omega) (.inr ⟨j, hj0, hj1, hj2⟩) k (by have := hA.len; omega)
        rw [eq] at hl2
        simp only at hl2
        rw [hl2]
        have hI' := hI.step hv
        have hlen' : (wrap64 ((acc.length : Int) + 1)) = ((acc ++ [qd n m x]).length : Int) := by
          rw [w64 (n := (acc.length : Int) + 1) (by omega) (by omega), List.length_append, List.length_singleton]; omega
        rw [hlen', w64 (n := m + 1) (by omega) (by omega)]
        clear hlen' hl2 hs es
        have hAl := hA.len
        obtain ⟨acc', j', g1, g2, g3⟩ := ih (m + 1) (by omega) (by omega) _ hI' (k - (L.length + 1)) (by omega)
        refine ⟨acc', L.length + 1 + 2 + j', by omega, ?_, g3⟩
        rw [g2]
        congr 1
        omega
      · rw [decide_eq_true (by omega), clochelaw01_DiscsFound.j2, if_pos rfl, w64 (n := m + 1) (by omega) (by omega)]
        refine skip 2 (by omega) (hI.skip fun hv => hle ?_)
        have := hv.le
        unfold yq at this
        rw [← hS] at this
        exact this
    · rw [if_neg (by omega), clochelaw01_DiscsFound.j2, if_pos rfl, w64 (n := m + 1) (by omega) (by omega)]
      refine skip 2 (by omega) (hI.skip fun hv => he ?_)
      have := hv.2.2.2.2
      rw [← hS] at this
      exact this
theorem less_f (q q' : S23) (h : lt4 q q') (k : Nat) (hk : 10 ≤ k) : clochelaw01_less.f k q.f0 q.f1 q.f2 q.f3 q'.f0 q'.f1 q'.f2 q'.f3 = some true := by
  obtain ⟨k, rfl⟩ : ∃ j, k = j + 4 := ⟨k - 4, by omega⟩
  obtain ⟨a, b, c, d⟩ := q
  obtain ⟨a', b', c', d'⟩ := q'
  unfold lt4 at h
  unfold clochelaw01_less.f
  simp only at h ⊢
  have w0 : wrap64 ((0 : Int) + 1) = 1 := w64 (by omega) (by omega)
  have w1 : wrap64 ((1 : Int) + 1) = 2 := w64 (by omega) (by omega)
  have w2 : wrap64 ((2 : Int) + 1) = 3 := w64 (by omega) (by omega)
  rw [clochelaw01_less.l0, w0, if_pos (by decide), if_pos (by decide), at4_0, at4_0]
  by_cases e0 : a = a'
  · rw [if_pos e0, clochelaw01_less.l0, w1, if_pos (by decide), if_pos (by decide), at4_1, at4_1]
    by_cases e1 : b = b'
    · rw [if_pos e1, clochelaw01_less.l0, w2, if_pos (by decide), if_pos (by decide), at4_2, at4_2]
      by_cases e2 : c = c'
      · rw [if_pos e2, clochelaw01_less.l0, if_pos (by decide), if_pos (by decide), at4_3, at4_3]
        clear w0 w1 w2
        rw [if_neg (by omega), decide_eq_true (by omega)]
      · clear w0 w1 w2
        rw [if_neg e2, decide_eq_true (by omega)]
    · clear w0 w1 w2
      rw [if_neg e1, decide_eq_true (by omega)]
  · clear w0 w1 w2
    rw [if_neg e0, decide_eq_true (by omega)]
theorem rd_get (L : List S23) (i : Nat) (h : i < L.length) : rd_T23 L (i : Int) = L[i] := by
  unfold rd_T23
  rw [Int.toNat_natCast, List.getD_eq_getElem?_getD, List.getElem?_eq_getElem h, Option.getD_some]
theorem All.lt {n : Int} {L : List S23} (h : All n L) (i j : Nat) (hij : i < j) (hj : j < L.length) : lt4 L[i] L[j] := by
  have h1 := List.pairwise_iff_getElem.1 h.srt i j (by omega) hj hij
  have h2 := List.pairwise_iff_getElem.1 h.nd i j (by omega) hj hij
  refine Decidable.byContradiction fun h3 => h2 (le4_anti _ _ h1 ?_)
  unfold le4
  exact decide_eq_true h3
theorem found_l3 (n : Int) (hn : 1 ≤ n) (hn2 : n ≤ 100) (L : List S23) (hA : All n L) (hne : 0 < L.length) : ∀ (d : Nat) (i : Nat), i + d = L.length → ∀ k, d + 60 ≤ k → clochelaw01_DiscsFound.l3 k n L L.length (i : Int) = some true := by
  have hAl := hA.len
  intro d
  induction d with
  | zero =>
    intro i hd k hk
    obtain ⟨k, rfl⟩ : ∃ j, k = j + 1 := ⟨k - 1, by omega⟩
    rw [clochelaw01_DiscsFound.l3, if_neg (by omega), if_pos rfl, if_pos (by omega), alive_f k (by omega)]
    rfl
  | succ d ih =>
    intro i hd k hk
    obtain ⟨k, rfl⟩ : ∃ j, k = j + 1 := ⟨k - 1, by omega⟩
    have hi : i < L.length := by omega
    obtain ⟨m, x, hv, e⟩ := (hA.mem L[i]).1 (List.getElem_mem hi)
    have hr := qd_root hn hn2 hv
    have hf := IsRoot_f ⟨(qd n m x).f0, (qd n m x).f1, (qd n m x).f2, (qd n m x).f3⟩ k (by omega)
    simp only at hf
    have e0 : L[i].f0 = -n := by rw [e]; rfl
    rw [← e] at hf hr
    have ew : wrap64 ((i : Int) + 1) = ((i + 1 : Nat) : Int) := by rw [w64 (n := (i : Int) + 1) (by omega) (by omega)]; omega
    rw [clochelaw01_DiscsFound.l3, if_pos (by omega), if_pos (by omega), rd_get L i hi, hf, Option.bind_some, if_pos (decide_eq_true (show IsRt _ from hr)), w64 (n := -n) (by omega) (by omega), if_pos e0, ew]
    by_cases h0 : i = 0
    · clear ew
      rw [if_neg (by omega)]
      exact ih (i + 1) (by omega) k (by omega)
    · have ew2 : wrap64 ((i : Int) - 1) = ((i - 1 : Nat) : Int) := by rw [w64 (n := (i : Int) - 1) (by omega) (by omega)]; omega
      rw [ew2]
      clear ew ew2
      rw [if_pos (by omega), if_pos (by omega), if_pos (by omega), rd_get L (i - 1) (by omega), less_f _ _ (hA.lt (i - 1) i (by omega) hi) k (by omega), Option.bind_some, if_pos rfl]
      exact ih (i + 1) (by omega) k (by omega)
theorem found_all (n : Int) (hn : 1 ≤ n) (hn2 : n ≤ 100) (L : List S23) (hA : All n L) : ∀ (d : Nat) (x : Int), x + d = 2 * n + 1 → 1 ≤ x → ∀ acc, InvF n acc x 0 → ∀ k, 300000 + 30000000 * (d + 1) ≤ k → clochelaw01_DiscsFound.l0 k n L acc.length x = some true := by
  have hAl := hA.len
  intro d
  induction d with
  | zero =>
    intro x hd hx acc hI k hk
    obtain ⟨k, rfl⟩ : ∃ j, k = j + 1 := ⟨k - 1, by omega⟩
    have hp : acc.Perm L := by
      refine (List.perm_ext_iff_of_nodup hI.nd hA.nd).2 fun q => ?_
      rw [hI.mem, hA.mem]
      constructor
      · rintro ⟨m', x', h1, h2, h3⟩; exact ⟨m', x', h1, h3⟩
      · rintro ⟨m', x', h1, h3⟩
        have := h1.bounds hn
        exact ⟨m', x', h1, by omega, h3⟩
    have hl := hp.length_eq
    have hne : 0 < L.length := by
      have hv : Vm n 0 1 := ⟨by omega, by omega, by omega, by have := sq_mono (by omega) hn; omega, Int.emod_one _⟩
      exact List.length_pos_of_mem ((hA.mem (qd n 0 1)).2 ⟨0, 1, hv, rfl⟩)
    rw [clochelaw01_DiscsFound.l0, w64 (n := 2 * n) (by omega) (by omega), if_neg (by omega), hl]
    exact found_l3 n hn hn2 L hA hne L.length 0 (by omega) k (by omega)
  | succ d ih =>
    intro x hd hx acc hI k hk
    have hkb := fuel_b hk
    obtain ⟨k, rfl⟩ : ∃ j, k = j + 1 := ⟨k - 1, by clear hk; omega⟩
    have ha : ∀ j, j + 1 ≤ 30000000 → 300000 + 30000000 * (d + 1) ≤ k - j := fun j hj => fuel_a hk hj
    clear hk
    rw [clochelaw01_DiscsFound.l0, w64 (n := 2 * n) (by omega) (by omega), if_pos (by omega)]
    obtain ⟨acc', j, g1, g2, g3⟩ := found_l1 n hn hn2 L hA x hx (by omega) (x / 2 + 1).toNat 0 (by omega) (by omega) acc hI k (by omega)
    rw [g2]
    exact ih (x + 1) (by omega) (by omega) acc' g3 (k - j) (ha j (by clear ha; omega))
theorem DiscsFound : clochelaw01_DiscsFound.Pure := by
  intro s hs
  have hb : 0 ≤ s ∧ s ≤ 255 := by
    simp [Lit.wf] at hs
    rw [show IntKind.u8.min = 0 by decide, show IntKind.u8.max = 255 by decide] at hs
    exact hs
  have ht : Int.tmod s 100 = s % 100 := Int.tmod_eq_emod_of_nonneg hb.1
  obtain ⟨n, hn⟩ : ∃ n, n = 1 + s % 100 := ⟨_, rfl⟩
  obtain ⟨K, hK⟩ : ∃ K, K = 300000 + 30000000 * 300 := ⟨_, rfl⟩
  obtain ⟨L, e, hA⟩ := Roots_f n (by omega) (by omega) K (by omega)
  refine ⟨K, ?_⟩
  unfold clochelaw01_DiscsFound.f
  rw [w64 (n := s) (by omega) (by omega), ht, w64 (n := 1 + s % 100) (by omega) (by omega), ← hn, e, Option.bind_some, if_pos rfl]
  exact found_all n (by omega) (by omega) L hA (2 * n).toNat 1 (by omega) (by omega) [] (InvF.first n) K (by omega)
end Go.Proofs.Ytlfmafebmnggeaa.Pure
