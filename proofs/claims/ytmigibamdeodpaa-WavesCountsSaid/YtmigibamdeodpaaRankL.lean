/- waves.At and waves.Rank, as the functions on positions tell them. -/
import Derived.Test.YtmigibamdeodpaaRankI
import Derived.Test.YtmigibamdeodpaaBase
import Derived.Test.YtmigibamdeodpaaPrintx4
import Derived.Test.YtmigibamdeodpaaPrintx6
namespace Go.Proofs.Ytmigibamdeodpaa.Pure
open Go.RowKit Go.Proofs.Ytmigibamdeodpaa.Print Go.Proofs.YtmigibamdeodpaaW.PrintWords Go.Proofs.YtmigibamdeodpaaW.PrintLast Go.Proofs.YtmigibamdeodpaaW.PrintMore
def Asc (l : List Int) : Prop := ∀ i j, i < j → j < l.length → l.getD i 0 < l.getD j 0
theorem er_length {l : List Int} {k : Nat} (hk : k < l.length) : (l.eraseIdx k).length = l.length - 1 := by
  rw [List.length_eraseIdx, if_pos hk]
theorem er_getD (l : List Int) (k j : Nat) : (l.eraseIdx k).getD j 0 = if j < k then l.getD j 0 else l.getD (j + 1) 0 := by
  rw [List.getD_eq_getElem?_getD, List.getElem?_eraseIdx]
  split
  · rw [List.getD_eq_getElem?_getD]
  · rw [List.getD_eq_getElem?_getD]
theorem Asc.erase {l : List Int} (h : Asc l) {k : Nat} (hk : k < l.length) : Asc (l.eraseIdx k) := by
  intro i j hij hj
  rw [er_length hk] at hj
  rw [er_getD, er_getD]
  split <;> split
  · exact h i j hij (by omega)
  · exact h i (j + 1) (by omega) (by omega)
  · omega
  · exact h (i + 1) (j + 1) (by omega) (by omega)
theorem Asc.lt_iff {l : List Int} (h : Asc l) {i j : Nat} (hi : i < l.length) (hj : j < l.length) : l.getD i 0 < l.getD j 0 ↔ i < j := by
  constructor
  · intro hlt
    rcases Nat.lt_trichotomy i j with c | c | c
    · exact c
    · subst c; omega
    · have := h j i c hi; omega
  · exact fun c => h i j c hj
theorem Asc.er_iff {l : List Int} (h : Asc l) {k j : Nat} (hk : k < l.length) (hj : j < l.length - 1) : l.getD k 0 < (l.eraseIdx k).getD j 0 ↔ k ≤ j := by
  rw [er_getD]
  split
  · rw [h.lt_iff hk (by omega)]; omega
  · rw [h.lt_iff hk (by omega)]; omega
def dec : List Int → List Nat → List Int
  | _, [] => []
  | left, k :: ks => left.getD k 0 :: dec (left.eraseIdx k) ks
/-- The numbers so far tell which positions may come next. -/
def QL (out left : List Int) (q : Adm) : Prop :=
  (out = [] ∧ q = none) ∨ ∃ p, out ≠ [] ∧ q = some (p, !(out.length % 2 == 0)) ∧ ∀ j, j < left.length → (out.getD (out.length - 1) 0 < left.getD j 0 ↔ p ≤ j)
theorem last_getD (out : List Int) (x : Int) : (out ++ [x]).getD ((out ++ [x]).length - 1) 0 = x := by
  simp [List.getD_eq_getElem?_getD]
theorem par (n : Nat) : (!((n + 1) % 2 == 0)) = (n % 2 == 0) := by
  rcases Nat.mod_two_eq_zero_or_one n with h | h
  · rw [show (n + 1) % 2 = 1 by omega, h]; rfl
  · rw [show (n + 1) % 2 = 0 by omega, h]; rfl
theorem par' (n : Nat) : ((n + 1) % 2 == 0) = !(n % 2 == 0) := by
  rw [← par n, Bool.not_not]
theorem QL.step {out left : List Int} (ha : Asc left) {k : Nat} (hk : k < left.length) : QL (out ++ [left.getD k 0]) (left.eraseIdx k) (some (k, out.length % 2 == 0)) := by
  refine .inr ⟨k, by simp, ?_, fun j hj => ?_⟩
  · rw [List.length_append, List.length_singleton, par]
  · rw [last_getD]
    rw [er_length hk] at hj
    exact ha.er_iff hk hj
theorem tmod0 (i : Nat) : ((Int.tmod (i : Int) 2) == 0) = (i % 2 == 0) := by
  have h : Int.tmod (i : Int) 2 = ((i % 2 : Nat) : Int) := by rw [Int.tmod_eq_emod_of_nonneg (by omega)]; omega
  rw [h]
  rcases Nat.mod_two_eq_zero_or_one i with e | e <;> rw [e] <;> rfl
theorem At_l2 (n : Nat) (left out : List Int) (q : Adm) (hm : left.length ≤ 10) (hi : out.length ≤ 10) (hq : QL out left q) : ∀ nn K kk r k' r', kk + nn = left.length → findK left.length q (out.length % 2 == 0) kk nn r = some (k', r') → 0 ≤ r → r ≤ 1000000 →
    ∃ K', K ≤ K' ∧ waves_At.l2 (K + 2 * nn) r left out out.length (out.length % 2 == 0) n out.length left left.length kk = waves_At.l1 K' r' (left.eraseIdx k') (out ++ [left.getD k' 0]) n ((out.length + 1 : Nat) : Int)
  | 0, K, kk, r, k', r', h, hf, _, _ => by simp [findK] at hf
  | nn + 1, K, kk, r, k', r', h, hf, hr0, hr1 => by
    obtain ⟨F, hF⟩ : ∃ F, F = K + 2 * nn := ⟨_, rfl⟩
    have hb := begins_f hm (show kk < left.length by omega) (out.length % 2 == 0)
    have e2 : wrap64 ((kk : Int) + 1) = ((kk + 1 : Nat) : Int) := by rw [w64 (by omega) (by omega)]; omega
    have e3 : wrap64 ((out.length : Int) + 1) = ((out.length + 1 : Nat) : Int) := by rw [w64 (by omega) (by omega)]; omega
    have e1 : 0 < out.length → wrap64 ((out.length : Int) - 1) = ((out.length - 1 : Nat) : Int) := fun h => by rw [w64 (by omega) (by omega)]; omega
    have key : waves_At.l2 (F + 1 + 1) r left out out.length (out.length % 2 == 0) n out.length left left.length kk = waves_At.j3 (F + 1) r left out out.length (out.length % 2 == 0) kk (left.getD kk 0) n out.length left left.length kk (!admI q kk) := by
      generalize hg : F + 1 = G
      simp only [waves_At.l2]
      rw [if_pos (by omega), if_pos (by omega), if_pos (by omega), rdn]
      rcases hq with ⟨ho, hq⟩ | ⟨p, ho, hq, hp⟩
      · subst hq
        rw [if_neg (by rw [ho]; decide)]
        rfl
      · have hpos : 0 < out.length := List.length_pos_iff.2 ho
        rw [if_pos (by omega), e1 hpos, if_pos (by omega), if_pos (by omega), rdn]
        subst hq
        have : decide (out.getD (out.length - 1) 0 < left.getD kk 0) = decide (p ≤ kk) := by
          rw [Bool.eq_iff_iff, decide_eq_true_eq, decide_eq_true_eq]
          exact hp kk (by omega)
        rw [this]
        rfl
    rw [show K + 2 * (nn + 1) = F + 1 + 1 by omega, key]
    simp only [waves_At.j3]
    rw [e2]
    simp only [findK] at hf
    cases ha : admI q kk
    · rw [ha, if_neg (by decide)] at hf
      rw [if_pos (by rfl)]
      obtain ⟨K', h1, h2⟩ := At_l2 n left out q hm hi hq nn K (kk + 1) r k' r' (by omega) hf hr0 hr1
      exact ⟨K', h1, by rw [hF]; exact h2⟩
    · rw [ha, if_pos rfl] at hf
      rw [if_neg (by decide), hb.1, Option.bind_some]
      by_cases hr : r < B left.length kk (out.length % 2 == 0)
      · rw [if_pos hr] at hf
        obtain ⟨rfl, rfl⟩ := Prod.mk.inj (Option.some.inj hf)
        rw [if_pos hr, if_pos (by omega), if_pos (by omega), if_pos (by omega), if_pos (by omega), if_pos (by omega), Int.toNat_natCast, e3]
        exact ⟨F, by omega, rfl⟩
      · rw [if_neg hr] at hf
        rw [if_neg hr, w64 (by omega) (by omega)]
        obtain ⟨K', h1, h2⟩ := At_l2 n left out q hm hi hq nn K (kk + 1) _ k' r' (by omega) hf (by omega) (by omega)
        exact ⟨K', h1, by rw [hF]; exact h2⟩
theorem At_l1 : ∀ m K (out left : List Int) (q : Adm) (r : Int) (n : Nat), left.length = m → out.length + m = n → n ≤ 10 → QL out left q → Asc left → 0 ≤ r → r < total m q (out.length % 2 == 0) → r ≤ 1000000 → 25 * m + 5 ≤ K →
    waves_At.l1 K r left out n out.length = some (out ++ dec left (atI m q (out.length % 2 == 0) r), 0)
  | 0, K, out, left, q, r, n, h1, h2, h3, hq, ha, h0, ht, hr, hK => by
    obtain ⟨K, rfl, _⟩ := succK (show 0 < K by omega)
    simp only [waves_At.l1]
    rw [if_neg (by omega)]
    simp only [atI, dec, List.append_nil]
  | m + 1, K, out, left, q, r, n, h1, h2, h3, hq, ha, h0, ht, hr, hK => by
    obtain ⟨K, rfl, _⟩ := succK (show 0 < K by omega)
    simp only [waves_At.l1]
    rw [if_pos (by omega), tmod0]
    unfold total at ht
    rw [if_neg (by omega)] at ht
    obtain ⟨k, r', hf, g1, g2, g3, g4, g5⟩ := find_spec (m := m + 1) (by omega) q (out.length % 2 == 0) (m + 1) 0 r (by omega) h0 ht
    rw [Nat.zero_add] at hf g2 g4
    obtain ⟨K', hK', e⟩ := At_l2 n left out q (by omega) (by omega) hq left.length (K - 2 * left.length) 0 r k r' (by omega) (by rw [h1]; exact hf) h0 hr
    rw [show K - 2 * left.length + 2 * left.length = K by omega] at e
    have hs := sumA_nonneg (m := m + 1) (by omega) q (out.length % 2 == 0) k 0 (by omega)
    have hb := begins_f (m := m + 1) (by omega) g1 (out.length % 2 == 0)
    rw [total_next (by omega) g1] at g4
    refine Eq.trans e ?_
    have ih := At_l1 m K' (out ++ [left.getD k 0]) (left.eraseIdx k) (some (k, out.length % 2 == 0)) r' n (by rw [er_length (by omega)]; omega) (by rw [List.length_append, List.length_singleton]; omega) h3 (QL.step ha (by omega)) (ha.erase (by omega)) g3
      (by rw [List.length_append, List.length_singleton, par']; exact g4) (by omega) (by omega)
    rw [List.length_append, List.length_singleton, par'] at ih
    rw [ih]
    simp only [atI]
    rw [hf]
    simp only [dec, List.append_assoc, List.singleton_append]
def ups (n : Nat) : List Int := (List.range n).map fun (i : Nat) => (i : Int) + 1
theorem ups_length (n : Nat) : (ups n).length = n := by simp [ups]
theorem ups_getD {n i : Nat} (h : i < n) : (ups n).getD i 0 = (i : Int) + 1 := by
  simp [ups, List.getD_eq_getElem?_getD, h]
theorem ups_asc (n : Nat) : Asc (ups n) := by
  intro i j hij hj
  rw [ups_length] at hj
  rw [ups_getD (by omega), ups_getD hj]
  omega
theorem At_l0 (n : Nat) (hn : n ≤ 10) (r : Int) : ∀ nn K (i : Nat), i + nn = n → waves_At.l0 (K + nn + 1) n r (ups i) n i = waves_At.l1 K r (ups n) [] n 0
  | 0, K, i, h => by
    obtain rfl : i = n := by omega
    show waves_At.l0 (K + 1) i r (ups i) i i = _
    simp only [waves_At.l0]
    rw [if_neg (by omega)]
  | nn + 1, K, i, h => by
    have ih := At_l0 n hn r nn K (i + 1) (by omega)
    obtain ⟨F, hF⟩ : ∃ F, F = K + nn + 1 := ⟨_, rfl⟩
    rw [← hF] at ih
    have e2 : wrap64 ((i : Int) + 1) = ((i + 1 : Nat) : Int) := by rw [w64 (by omega) (by omega)]; omega
    have e4 : ups i ++ [((i + 1 : Nat) : Int)] = ups (i + 1) := by
      unfold ups
      rw [List.range_succ, List.map_append]
      simp
    rw [show K + (nn + 1) + 1 = F + 1 by omega]
    simp only [waves_At.l0]
    rw [if_pos (by omega), if_pos (by rw [ups_length]; omega), e2, e4]
    exact ih
theorem At_f (n : Nat) (hn : n ≤ 10) (r : Int) (h0 : 0 ≤ r) (h : r < total n none true) (k : Nat) (hk : 300 ≤ k) : waves_At.f k n r = some (dec (ups n) (atI n none true r), 0) := by
  have hc := count_f hn
  have ht : total n none true = (if n = 0 then 1 else allB n true 0 n) := by
    unfold total
    rw [sumA_none]
  rw [← ht] at hc
  unfold waves_At.f
  rw [hc.1, Option.bind_some]
  simp only [if_true]
  rw [if_neg (by omega), if_neg (by omega)]
  obtain ⟨K, rfl⟩ : ∃ K, k = K + n + 1 := ⟨k - n - 1, by omega⟩
  have h1 := At_l0 n hn r n K 0 (by omega)
  have h2 := At_l1 n K [] (ups n) none r n (ups_length n) (by simp) hn (.inl ⟨rfl, rfl⟩) (ups_asc n) h0 h (by omega) (by omega)
  exact (show waves_At.l0 (K + n + 1) n r (ups 0) n ((0 : Nat) : Int) = _ from h1).trans h2
theorem At_over (n : Nat) (hn : n ≤ 10) (r : Int) (h : total n none true ≤ r) (k : Nat) : waves_At.f k n r = some ([], 4) := by
  have hc := count_f hn
  have ht : total n none true = (if n = 0 then 1 else allB n true 0 n) := by
    unfold total
    rw [sumA_none]
  rw [← ht] at hc
  unfold waves_At.f
  rw [hc.1, Option.bind_some]
  simp only [if_true]
  rw [if_neg (by omega), if_pos (by omega)]
end Go.Proofs.Ytmigibamdeodpaa.Pure
