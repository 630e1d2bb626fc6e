/- waves.Rank by positions; waves as lists of positions. -/
import Derived.Test.YtmigibamdeodpaaRankL
namespace Go.Proofs.Ytmigibamdeodpaa.Pure
open Go.RowKit Go.Proofs.Ytmigibamdeodpaa.Print Go.Proofs.YtmigibamdeodpaaW.PrintWords Go.Proofs.YtmigibamdeodpaaW.PrintLast Go.Proofs.YtmigibamdeodpaaW.PrintMore
theorem place_l0 (l : List Int) (hl : l.length ≤ 10) (x : Int) {p : Nat} (hp : p < l.length) (hx : l.getD p 0 = x) (hq : ∀ j, j < p → l.getD j 0 ≠ x) : ∀ n k (i : Nat), i + n = p → n < k → slices_Index_int_int.l0 k l x l.length i = some (p : Int)
  | 0, k, i, h, hk => by
    obtain ⟨k, rfl, _⟩ := succK hk
    obtain rfl : i = p := by omega
    simp only [slices_Index_int_int.l0]
    rw [if_pos (by omega), if_pos (by omega), if_pos (by omega), rdn, if_pos hx.symm]
  | n + 1, k, i, h, hk => by
    obtain ⟨k, rfl, _⟩ := succK hk
    have e2 : wrap64 ((i : Int) + 1) = ((i + 1 : Nat) : Int) := by rw [w64 (by omega) (by omega)]; omega
    simp only [slices_Index_int_int.l0]
    rw [if_pos (by omega), if_pos (by omega), if_pos (by omega), rdn, e2, if_neg (fun e => hq i (by omega) e.symm)]
    exact place_l0 l hl x hp hx hq n k (i + 1) (by omega) (by omega)
theorem place_f {l : List Int} (hl : l.length ≤ 10) (ha : Asc l) {p : Nat} (hp : p < l.length) (k : Nat) (hk : 10 < k) : waves_place.f k l (l.getD p 0) = some ((p + 1 : Nat) : Int) := by
  have e : slices_Index_int_int.l0 k l (l.getD p 0) l.length 0 = some (p : Int) := place_l0 l hl _ hp rfl (fun j hj e => by have := ha j p hj hp; omega) p k 0 (by omega) (by omega)
  unfold waves_place.f slices_Index_int_int.f
  rw [e, Option.bind_some, w64 (by omega) (by omega)]
  rfl
/-- What the inner loop of Rank sums: the positions below p that may come. -/
def sumR (m : Nat) (q : Adm) (up : Bool) (p i : Nat) : Nat → Int
  | 0 => 0
  | n + 1 => (if decide (i < p) && admI q i then B m i up else 0) + sumR m q up p (i + 1) n
theorem sumR_zero (m : Nat) (q : Adm) (up : Bool) (p : Nat) : ∀ n i, p ≤ i → sumR m q up p i n = 0
  | 0, _, _ => rfl
  | n + 1, i, h => by
    simp only [sumR]
    rw [sumR_zero m q up p n (i + 1) (by omega), decide_eq_false (by omega), Bool.false_and, if_neg (by decide)]
    rfl
theorem sumR_eq (m : Nat) (q : Adm) (up : Bool) : ∀ a n i, sumR m q up (i + a) i (a + n) = sumA m q up i a
  | 0, n, i => by
    rw [sumR_zero _ _ _ _ _ _ (by omega)]
    rfl
  | a + 1, n, i => by
    have := sumR_eq m q up a n (i + 1)
    rw [show i + 1 + a = i + (a + 1) by omega] at this
    rw [show a + 1 + n = (a + n) + 1 by omega]
    simp only [sumR, sumA]
    rw [this, decide_eq_true (by omega), Bool.true_and]
theorem sumR_nonneg {m : Nat} (hm : m ≤ 10) (q : Adm) (up : Bool) (p : Nat) : ∀ n i, i + n ≤ m → 0 ≤ sumR m q up p i n
  | 0, _, _ => Int.le_refl _
  | n + 1, i, h => by
    have h1 := sumR_nonneg hm q up p n (i + 1) (by omega)
    have h2 := (begins_f hm (show i < m by omega) up).2.1
    simp only [sumR]
    split <;> omega
theorem Rank_step (l left : List Int) (q : Adm) (i p : Nat) (hm : left.length ≤ 10) (hi : i < l.length) (h10 : l.length ≤ 10) (hq : QL (l.take i) left q) (ha : Asc left) (hp : p < left.length) (F kk : Nat) (acc : Int) (hk : kk < left.length) (h0 : 0 ≤ acc) (h1 : acc ≤ 1000000) :
    waves_Rank.l1 (F + 1) l left acc i (left.getD p 0) (i % 2 == 0) l l.length i left left.length kk = waves_Rank.l1 F l left (acc + if decide (kk < p) && admI q kk then B left.length kk (i % 2 == 0) else 0) i (left.getD p 0) (i % 2 == 0) l l.length i left left.length ((kk + 1 : Nat) : Int) := by
  have hb := begins_f hm hk (i % 2 == 0)
  have e2 : wrap64 ((kk : Int) + 1) = ((kk + 1 : Nat) : Int) := by rw [w64 (by omega) (by omega)]; omega
  have e1 : 0 < i → wrap64 ((i : Int) - 1) = ((i - 1 : Nat) : Int) := fun h => by rw [w64 (by omega) (by omega)]; omega
  have hadd : wrap64 (acc + B left.length kk (i % 2 == 0)) = acc + B left.length kk (i % 2 == 0) := w64 (by omega) (by omega)
  simp only [waves_Rank.l1]
  rw [if_pos (by omega), if_pos (by omega), if_pos (by omega), rdn, e2]
  by_cases c1 : kk < p
  · rw [if_pos (ha kk p c1 hp), decide_eq_true c1, Bool.true_and]
    rcases hq with ⟨ho, hq⟩ | ⟨p', ho, hq, hpp⟩
    · have i0 : i = 0 := by
        have := congrArg List.length ho
        rw [List.length_take, List.length_nil] at this
        omega
      have hadm : admI q kk = true := by rw [hq]; rfl
      rw [if_pos (by omega), hb.1, Option.bind_some, hadm, if_pos rfl, hadd]
    · have ip : 0 < i := by
        rcases Nat.eq_zero_or_pos i with h | h
        · subst h; simp at ho
        · exact h
      have htl : (l.take i).length = i := by rw [List.length_take]; omega
      rw [htl] at hq hpp
      have hg : (l.take i).getD (i - 1) 0 = l.getD (i - 1) 0 := by
        rw [List.getD_eq_getElem?_getD, List.getD_eq_getElem?_getD, List.getElem?_take, if_pos (by omega)]
      rw [if_neg (by omega), e1 ip, if_pos (by omega), if_pos (by omega), rdn]
      have hd : decide (l.getD (i - 1) 0 < left.getD kk 0) = decide (p' ≤ kk) := by
        rw [Bool.eq_iff_iff, decide_eq_true_eq, decide_eq_true_eq, ← hpp kk (by omega), hg]
      have hadm : admI q kk = (decide (l.getD (i - 1) 0 < left.getD kk 0) == !(i % 2 == 0)) := by
        rw [hd, hq]
        rfl
      rw [← hadm]
      cases hc : admI q kk
      · rw [if_neg (by decide), if_neg (by decide), Int.add_zero]
      · rw [if_pos rfl, if_pos rfl, hb.1, Option.bind_some, hadd]
  · rw [if_neg (fun hlt => c1 ((ha.lt_iff (by omega) hp).1 hlt)), decide_eq_false c1, Bool.false_and, if_neg (by decide), Int.add_zero]
theorem Rank_l1 (l left : List Int) (q : Adm) (i p : Nat) (hm : left.length ≤ 10) (hi : i < l.length) (h10 : l.length ≤ 10) (hq : QL (l.take i) left q) (ha : Asc left) (hp : p < left.length) (nn : Nat) : ∀ K kk acc, kk + nn = left.length → 0 ≤ acc → acc + sumR left.length q (i % 2 == 0) p kk nn ≤ 1000000 →
    waves_Rank.l1 (K + nn) l left acc i (left.getD p 0) (i % 2 == 0) l l.length i left left.length kk = waves_Rank.l1 K l left (acc + sumR left.length q (i % 2 == 0) p kk nn) i (left.getD p 0) (i % 2 == 0) l l.length i left left.length left.length := by
  induction nn with
  | zero =>
    intro K kk acc h _ _
    obtain rfl : kk = left.length := by omega
    simp only [sumR, Nat.add_zero, Int.add_zero]
  | succ nn ih =>
    intro K kk acc h h0 h1
    have hs := sumR_nonneg hm q (i % 2 == 0) p nn (kk + 1) (by omega)
    have hb := begins_f hm (show kk < left.length by omega) (i % 2 == 0)
    simp only [sumR] at h1 ⊢
    have hpos : 0 ≤ (if (decide (kk < p) && admI q kk) = true then B left.length kk (i % 2 == 0) else 0) := by
      split
      · exact hb.2.1
      · exact Int.le_refl _
    generalize hS : (if (decide (kk < p) && admI q kk) = true then B left.length kk (i % 2 == 0) else 0) = S at h1 hpos ⊢
    have e := Rank_step l left q i p hm hi h10 hq ha hp (K + nn) kk acc (by omega) h0 (by omega)
    rw [hS] at e
    have e' := ih K (kk + 1) (acc + S) (by omega) (by omega) (by omega)
    rw [Int.add_assoc] at e'
    exact e.trans e'
theorem Rank_exit (l left : List Int) (i p : Nat) (up : Bool) (hm : left.length ≤ 10) (hi : i < 10) (ha : Asc left) (hp : p < left.length) (F : Nat) (hF : 10 < F) (acc : Int) :
    waves_Rank.l1 (F + 1) l left acc i (left.getD p 0) up l l.length i left left.length left.length = waves_Rank.l0 F l (left.eraseIdx p) acc l l.length ((i + 1 : Nat) : Int) := by
  have e3 : wrap64 ((i : Int) + 1) = ((i + 1 : Nat) : Int) := by rw [w64 (by omega) (by omega)]; omega
  have e4 : wrap64 (((p + 1 : Nat) : Int) - 1) = (p : Int) := by rw [w64 (by omega) (by omega)]; omega
  have e5 : wrap64 ((p : Int) + 1) = ((p + 1 : Nat) : Int) := by rw [w64 (by omega) (by omega)]; omega
  have hpl := place_f hm ha hp F hF
  have c1 : ¬ (left.length : Int) < left.length := by omega
  have c2 : (0 : Int) ≤ (p : Int) := by omega
  have c3 : (p : Int) ≤ left.length := by omega
  have c4 : (0 : Int) ≤ ((p + 1 : Nat) : Int) := by omega
  have c5 : ((p + 1 : Nat) : Int) ≤ left.length := by omega
  simp only [waves_Rank.l1]
  rw [if_neg c1, hpl]
  simp only [Option.bind_some]
  rw [e4, e5, if_pos c2, if_pos c3, if_pos c4, if_pos c5, Int.toNat_natCast, e3]
theorem Rank_l0 (l : List Int) (h10 : l.length ≤ 10) (m : Nat) : ∀ K (i : Nat) (left : List Int) (q : Adm) (ks : List Nat) (acc : Int), l.drop i = dec left ks → Valid m q (i % 2 == 0) ks → left.length = m → i + m = l.length → Asc left → QL (l.take i) left q → 0 ≤ acc → acc + total m q (i % 2 == 0) ≤ 1000000 → 25 * m + 20 ≤ K →
    waves_Rank.l0 K l left acc l l.length i = some (acc + rkI m q (i % 2 == 0) ks, 0) := by
  induction m with
  | zero =>
    intro K i left q ks acc _ _ _ hi _ _ _ _ hK
    obtain ⟨K, rfl, _⟩ := succK (show 0 < K by omega)
    simp only [waves_Rank.l0]
    rw [if_neg (by omega)]
    simp only [rkI, Int.add_zero]
  | succ m ih =>
    intro K i left q ks acc hd hv hl hi ha hq h0 h1 hK
    obtain ⟨k, ks', rfl⟩ : ∃ k ks', ks = k :: ks' := by
      cases ks with
      | nil => exact absurd hv (by simp [Valid])
      | cons k ks' => exact ⟨k, ks', rfl⟩
    obtain ⟨K, rfl, _⟩ := succK (show 0 < K by omega)
    obtain ⟨v1, v2, v3⟩ := hv
    have hil : i < l.length := by omega
    have hx : l.getD i 0 = left.getD k 0 := by
      have := congrArg (fun z => z.getD 0 0) hd
      simp only [dec, List.getD_cons_zero] at this
      rw [← this, List.getD_eq_getElem?_getD, List.getD_eq_getElem?_getD, List.getElem?_drop, Nat.add_zero]
    have hsum : sumR left.length q (i % 2 == 0) k 0 left.length = sumA (m + 1) q (i % 2 == 0) 0 k := by
      have := sumR_eq left.length q (i % 2 == 0) k (left.length - k) 0
      rw [Nat.zero_add, show k + (left.length - k) = left.length by omega] at this
      rw [this, hl]
    have hle := sum_le (m := m + 1) (by omega) q (i % 2 == 0) v1 v2
    have hB := begins_f (m := m + 1) (by omega) v1 (i % 2 == 0)
    have hs0 := sumA_nonneg (m := m + 1) (by omega) q (i % 2 == 0) k 0 (by omega)
    unfold total at h1
    rw [if_neg (by omega)] at h1
    have c1 : (i : Int) < l.length := by omega
    have c2 : (0 : Int) ≤ (i : Int) := by omega
    have e0 : waves_Rank.l0 (K + 1) l left acc l l.length i = waves_Rank.l1 K l left acc i (left.getD k 0) (i % 2 == 0) l l.length i left left.length 0 := by
      simp only [waves_Rank.l0]
      rw [if_pos c1, if_pos c2, if_pos c1, rdn, hx, tmod0]
    obtain ⟨F, rfl⟩ : ∃ F, K = F + 1 + left.length := ⟨K - left.length - 1, by omega⟩
    have h2 := Rank_l1 l left q i k (by omega) hil h10 hq ha (by omega) left.length (F + 1) 0 acc (by omega) h0 (by rw [hsum]; omega)
    rw [hsum] at h2
    have h3 := Rank_exit l left i k (i % 2 == 0) (by omega) (by omega) ha (by omega) F (by omega) (acc + sumA (m + 1) q (i % 2 == 0) 0 k)
    have hdrop : l.drop (i + 1) = dec (left.eraseIdx k) ks' := by
      have := congrArg List.tail hd
      simp only [dec, List.tail_cons, List.tail_drop] at this
      exact this
    have htake : l.take (i + 1) = l.take i ++ [left.getD k 0] := by
      rw [List.take_add_one, List.getElem?_eq_getElem hil, ← hx, getD_at hil]
      rfl
    have htl : (l.take i).length = i := by rw [List.length_take]; omega
    have hqs : QL (l.take (i + 1)) (left.eraseIdx k) (some (k, i % 2 == 0)) := by
      rw [htake]
      have := QL.step (out := l.take i) ha (k := k) (by omega)
      rw [htl] at this
      exact this
    have ih := ih F (i + 1) (left.eraseIdx k) (some (k, i % 2 == 0)) ks' (acc + sumA (m + 1) q (i % 2 == 0) 0 k) hdrop (by rw [par']; exact v3) (by rw [er_length (by omega)]; omega) (by omega) (ha.erase (by omega)) hqs (by omega)
      (by rw [par', ← total_next (by omega) v1]; omega) (by omega)
    rw [e0]
    have h4 := (h2.trans h3).trans ih
    rw [par', Int.add_assoc] at h4
    exact h4
end Go.Proofs.Ytmigibamdeodpaa.Pure
