/- The visits' plain laws: the specification's table of matchings holds the same numbers. -/
import Derived.Test.YtadfcplobidmeaaDoorVPairs
import Derived.Test.YtadfcplobidmeaaDoorPrintx12
namespace Go.Proofs.YtadfcplobidmeaaDoor.Pure
open Go.RowKit Go.Proofs.YtadfcplobidmeaaDoor.Print Go.Proofs.YtadfcplobidmeaaDoorW.PrintWords Go.Proofs.YtadfcplobidmeaaDoorW.PrintLast Go.Proofs.YtadfcplobidmeaaDoorW.PrintMore
theorem sub_one {S i : Nat} (h : S < 1024) (hb : S.testBit i = true) : wrap64 ((S : Int) - shl .i64 1 (i : Int)) = ((sd S (2 ^ i) : Nat) : Int) := by
  have h1 := sub_bit h hb
  have h2 : i < 10 := bit_lt (n := 10) h hb
  have p1 : 2 ^ i < 2 ^ 10 := Nat.pow_lt_pow_right (by decide) h2
  rw [bShl i (by omega)]
  generalize hP : 2 ^ i = P at h1 p1 ⊢
  have h3 := sd_le S P
  rw [w64 (by omega) (by omega)]
  omega
theorem sub_two {S i j : Nat} (h : S < 1024) (hb : S.testBit i = true) (hj : S.testBit j = true) (hij : i ≠ j) :
    wrap64 (wrap64 ((S : Int) - shl .i64 1 (i : Int)) - shl .i64 1 (j : Int)) = ((sd S (2 ^ i ||| 2 ^ j) : Nat) : Int) := by
  rw [sub_one h hb, ← sd_sd]
  have hl := sd_le S (2 ^ i)
  refine sub_one (by omega) ?_
  rw [sd_bit, hj, pow_bit]
  simp [hij]
/-- the table is right below s. -/
def Upto (l B : List Int) (s : Nat) : Prop := B.length = 2 ^ l.length ∧ ∀ t, t < s → B.getD t 0 = ((nu l t : Nat) : Int)
theorem most_l2 {l : List Int} (hS : Shop l) (left s : Nat) (hs : s < 2 ^ l.length) (h0 : s ≠ 0) (r : Int) (F : Nat)
    (hv : ∀ B, Upto l B (s + 1) → ∀ k, F ≤ k → clocheref03_Most.l0 k l (left : Int) B ((s + 1 : Nat) : Int) = some r) :
    ∀ (m j k b : Nat) (B : List Int), j + m = l.length → F + m + 1 ≤ k → Upto l B s → B.getD s 0 = (b : Int) → b ≤ s → nu l s = bestF (pk l s) (fun k => nu l (sd s (2 ^ low s ||| 2 ^ k))) j m b →
      clocheref03_Most.l2 k l (left : Int) B (s : Int) ((low s : Nat) : Int) (j : Int) = some r
  | 0, j, k, b, B, hj, hk, hB, hb, hbs, hn => by
    obtain ⟨k, rfl, _⟩ := succK (show 0 < k by omega)
    have hp := pow10 hS.le
    simp only [clocheref03_Most.l2]
    rw [if_neg (by omega), inc64 s (by omega)]
    refine hv B ⟨hB.1, fun t ht => ?_⟩ k (by omega)
    by_cases e : t = s
    · subst e
      rw [hb, hn]
      rfl
    · exact hB.2 t (by omega)
  | m + 1, j, k, b, B, hj, hk, hB, hb, hbs, hn => by
    obtain ⟨k, rfl, _⟩ := succK (show 0 < k by omega)
    have hl := hS.le
    have hp := pow10 hl
    obtain ⟨h1, h2, h3⟩ := low_spec (show s < 1024 by omega) h0
    have hlow := bit_lt hs h1
    have hBl := hB.1
    simp only [bestF] at hn
    have ep : pk l s j = (adj l (low s) j && s.testBit j) := rfl
    simp only [clocheref03_Most.l2]
    rw [if_pos (by omega), if_pos (by omega), if_pos (by omega), if_pos (by omega), testM hS s (low s) j (by omega) hlow (by omega), inc64 j (by omega)]
    by_cases c : (adj l (low s) j && s.testBit j) = true
    · have hij : low s ≠ j := fun e => by
        rw [← e, hS.irr hlow, Bool.false_and] at c
        exact absurd c (by decide)
      have hbj : s.testBit j = true := by
        rw [Bool.and_eq_true] at c
        exact c.2
      have a2 := sd_lt h1 (or_low (low s) j)
      have hT := hB.2 _ a2
      have hle := nu_le l _ (show sd s (2 ^ low s ||| 2 ^ j) < 1024 by omega)
      rw [if_pos ((tn1 _).2 c), if_pos (by omega), if_pos (by omega), sub_two (by omega) h1 hbj hij, if_pos (by omega), if_pos (by omega), rdn, rdn, hT, hb, w64 (by omega) (by omega), Int.toNat_natCast]
      have e2 : mx (b : Int) (((nu l (sd s (2 ^ low s ||| 2 ^ j)) : Nat) : Int) + 1) = ((max b (1 + nu l (sd s (2 ^ low s ||| 2 ^ j))) : Nat) : Int) := by
        rw [← mxN, Int.natCast_add, Int.add_comm]
        rfl
      rw [e2]
      have hs2 := fun i => getD_set B s i ((max b (1 + nu l (sd s (2 ^ low s ||| 2 ^ j))) : Nat) : Int) (by omega)
      rw [ep, if_pos c] at hn
      refine most_l2 hS left s hs h0 r F hv m (j + 1) k _ _ (by omega) (by omega) ⟨by rw [List.length_set]; exact hBl, fun t ht => ?_⟩ (by rw [hs2, if_pos rfl]) (by omega) hn
      rw [hs2, if_neg (by omega)]
      exact hB.2 t ht
    · rw [ep, if_neg c] at hn
      rw [if_neg (fun h => c ((tn1 _).1 h))]
      exact most_l2 hS left s hs h0 r F hv m (j + 1) k b B (by omega) (by omega) hB hb hbs hn
theorem most_l1 {l : List Int} (hS : Shop l) (left s : Nat) (hs : s < 2 ^ l.length) (h0 : s ≠ 0) (r : Int) (F : Nat)
    (hv : ∀ B, Upto l B (s + 1) → ∀ k, F ≤ k → clocheref03_Most.l0 k l (left : Int) B ((s + 1 : Nat) : Int) = some r) (B : List Int) (hB : Upto l B s) :
    ∀ (m j k : Nat), j + m = low s → F + 12 + m + 1 ≤ k → clocheref03_Most.l1 k l (left : Int) B (s : Int) (j : Int) = some r
  | 0, j, k, hj, hk => by
    obtain ⟨k, rfl, _⟩ := succK (show 0 < k by omega)
    have hl := hS.le
    have hp := pow10 hl
    obtain ⟨h1, h2, h3⟩ := low_spec (show s < 1024 by omega) h0
    obtain rfl : j = low s := by omega
    have hBl := hB.1
    have a1 := sd_lt h1 (show (2 ^ low s).testBit (low s) = true by rw [pow_bit]; simp)
    have hle := nu_le l _ (show sd s (2 ^ low s) < 1024 by omega)
    simp only [clocheref03_Most.l1]
    rw [if_pos (by omega), bitT s (low s) (by omega), h1, if_neg (by decide), sub_one (by omega) h1, if_pos (by omega), if_pos (by omega), if_pos (by omega), if_pos (by omega), rdn, hB.2 _ a1, Int.toNat_natCast]
    have hs2 := fun i => getD_set B s i ((nu l (sd s (2 ^ low s)) : Nat) : Int) (by omega)
    have := most_l2 hS left s hs h0 r F hv l.length 0 k (nu l (sd s (2 ^ low s))) (B.set s ((nu l (sd s (2 ^ low s)) : Nat) : Int)) (by omega) (by omega)
      ⟨by rw [List.length_set]; exact hBl, fun t ht => by rw [hs2, if_neg (by omega)]; exact hB.2 t ht⟩ (by rw [hs2, if_pos rfl]) (by omega) (nu_eq l (by omega) h0)
    rw [show ((0 : Nat) : Int) = 0 from rfl] at this
    exact this
  | m + 1, j, k, hj, hk => by
    obtain ⟨k, rfl, _⟩ := succK (show 0 < k by omega)
    have hl := hS.le
    have hp := pow10 hl
    obtain ⟨h1, h2, h3⟩ := low_spec (show s < 1024 by omega) h0
    simp only [clocheref03_Most.l1]
    rw [if_pos (by omega), bitT s j (by omega), h3 j (by omega), if_pos (by decide), inc64 j (by omega)]
    exact most_l1 hS left s hs h0 r F hv B hB m (j + 1) k (by omega) (by omega)
theorem most_l0 {l : List Int} (hS : Shop l) (left : Nat) (hleft : left < 2 ^ l.length) : ∀ (m s k : Nat) (B : List Int), s + m = left + 1 → s ≠ 0 → 40 * m + 1 ≤ k → Upto l B s → clocheref03_Most.l0 k l (left : Int) B (s : Int) = some ((nu l left : Nat) : Int)
  | 0, s, k, B, hs, h0, hk, hB => by
    obtain ⟨k, rfl, _⟩ := succK (show 0 < k by omega)
    have hBl := hB.1
    simp only [clocheref03_Most.l0]
    rw [if_neg (by omega), if_pos (by omega), if_pos (by omega), rdn, hB.2 left (by omega)]
  | m + 1, s, k, B, hs, h0, hk, hB => by
    obtain ⟨k, rfl, _⟩ := succK (show 0 < k by omega)
    have hp := pow10 hS.le
    obtain ⟨h1, h2, h3⟩ := low_spec (show s < 1024 by omega) h0
    simp only [clocheref03_Most.l0]
    rw [if_pos (by omega)]
    have := most_l1 hS left s (by omega) h0 _ (40 * m + 1) (fun B hB k hk => most_l0 hS left hleft m (s + 1) k B (by omega) (by omega) hk hB) B hB (low s) 0 k (by omega) (by omega)
    rw [show ((0 : Nat) : Int) = 0 from rfl] at this
    exact this
theorem getD_zero (n t : Nat) : (List.replicate n (0 : Int)).getD t 0 = 0 := by
  rw [List.getD_eq_getElem?_getD, List.getElem?_replicate]
  split <;> rfl
theorem most_f {l : List Int} (hS : Shop l) (left : Nat) (hleft : left < 2 ^ l.length) (k : Nat) (hk : 45000 ≤ k) : clocheref03_Most.f k l (left : Int) = some ((nu l left : Nat) : Int) := by
  have hl := hS.le
  have hp := pow10 hl
  unfold clocheref03_Most.f
  rw [bShl l.length (by omega), if_pos (Int.natCast_nonneg _), Int.toNat_natCast, if_pos (Nat.le_trans hp (by decide))]
  have := most_l0 hS left hleft left 1 k (List.replicate (2 ^ l.length) 0) (by omega) (by decide) (by omega) ⟨List.length_replicate, fun t ht => by
    obtain rfl : t = 0 := by omega
    rw [getD_zero, nu_zero]
    rfl⟩
  rw [show ((1 : Nat) : Int) = 1 from rfl] at this
  exact this
end Go.Proofs.YtadfcplobidmeaaDoor.Pure
