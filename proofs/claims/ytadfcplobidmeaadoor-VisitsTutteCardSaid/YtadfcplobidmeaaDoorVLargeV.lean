/- The visits' plain laws: Largest of the program. -/
import Derived.Test.YtadfcplobidmeaaDoorVLarge2
namespace Go.Proofs.YtadfcplobidmeaaDoor.Pure
open Go.RowKit Go.Proofs.YtadfcplobidmeaaDoor.Print Go.Proofs.YtadfcplobidmeaaDoorW.PrintWords Go.Proofs.YtadfcplobidmeaaDoorW.PrintLast Go.Proofs.YtadfcplobidmeaaDoorW.PrintMore
theorem restI {l : List Int} (hS : Shop l) {L a b : Nat} (hL : L < 2 ^ l.length) (ha : a < l.length) (hb : b < l.length) :
    Go.bits .andNot .i64 (Go.bits .andNot .i64 (L : Int) (wrap64 ((shl .i64 1 (wrap64 ((a : Int) + 1))) - 1))) (shl .i64 1 (b : Int)) = ((rest L a b : Nat) : Int) := by
  have hl := hS.le
  have hp := pow10 hl
  have p1 : 2 ^ (a + 1) ≤ 2 ^ 10 := Nat.pow_le_pow_right (by decide) (by omega)
  have p2 : 2 ^ b < 2 ^ 10 := Nat.pow_lt_pow_right (by decide) (by omega)
  have p3 := Nat.two_pow_pos (a + 1)
  have e : wrap64 (((2 ^ (a + 1) : Nat) : Int) - 1) = ((2 ^ (a + 1) - 1 : Nat) : Int) := by
    generalize 2 ^ (a + 1) = P at p1 p3 ⊢
    rw [w64 (by omega) (by omega)]
    omega
  have hs := sd_le L (2 ^ (a + 1) - 1)
  rw [inc64 a (by omega), bShl (a + 1) (by omega), e, bShl b (by omega), bDiff L _ (by omega) (by omega), bDiff _ _ (by omega) (by omega)]
  rfl
theorem large_l2 {l : List Int} (hS : Shop l) (L a N m : Nat) (out : List S43) (hL : L < 2 ^ l.length) (ha : a + (m + 1) = l.length) (hN : nu l L = N + 1) (ho : out.length ≤ 100) (F : Nat) (hF : 25000 ≤ F)
    (h0 : ∀ b, b < l.length → nu l (rest L a b) = N → ∀ k, F ≤ k → visits_Largest.l0 k l ((rest L a b : Nat) : Int) (N : Int) (out ++ [(⟨(a : Int), (b : Int)⟩ : S43)]) = some (out ++ [(⟨(a : Int), (b : Int)⟩ : S43)] ++ scan l (rest L a b) 0 l.length, 0))
    (r1 : List S43 × Int) :
    ∀ (m2 b k : Nat), b + m2 = l.length → F + m2 + 1 ≤ k → (rowF l L a b m2 = none → ∀ k, F ≤ k → visits_Largest.l1 k l (L : Int) ((N + 1 : Nat) : Int) out (l.length : Int) ((a + 1 : Nat) : Int) = some r1) → visits_Largest.l2 k l (L : Int) ((N + 1 : Nat) : Int) out (a : Int) (b : Int) (l.length : Int) (a : Int) =
      (match rowF l L a b m2 with | some b' => some (out ++ [(⟨(a : Int), (b' : Int)⟩ : S43)] ++ scan l (rest L a b') 0 l.length, 0) | none => some r1)
  | 0, b, k, hb, hk, h1 => by
    obtain ⟨k, rfl, _⟩ := succK (show 0 < k by omega)
    have hl := hS.le
    simp only [visits_Largest.l2]
    rw [if_neg (by omega), inc64 a (by omega), h1 rfl k (by omega)]
    rfl
  | m2 + 1, b, k, hb, hk, h1 => by
    obtain ⟨k, rfl, _⟩ := succK (show 0 < k by omega)
    have hl := hS.le
    have hp := pow10 hl
    have hrow := hS.row_lt (show a < l.length by omega)
    have hrl := rest_le L a b
    have eW : wrap64 (((N + 1 : Nat) : Int) - 1) = (N : Int) := by
      have := nu_le l L (by omega)
      rw [w64 (by omega) (by omega)]
      omega
    have eB : Go.bits .and .i64 (shr .i64 (Go.bits .and .i64 (L : Int) (rd l (a : Int))) (b : Int)) 1 = ((adj l a b && L.testBit b).toNat : Int) := by
      have hs : L &&& row l a ≤ L := Nat.and_le_left
      rw [rdn, hS.row (by omega), bAnd _ _ (by omega) (by omega), bitA _ _ (by omega) (by omega), Nat.testBit_and, Bool.and_comm]
      rfl
    simp only [visits_Largest.l2]
    rw [if_pos (by omega), if_pos (by rw [inc64 a (by omega)]; omega), if_pos (by omega), if_pos (by omega), bitA L a (by omega) (by omega), eB, restI hS hL (by omega) (by omega), inc64 b (by omega),
      pairs_f hS (rest L a b) (by omega) k (by omega), Option.bind_some, eW]
    simp only [rowF]
    by_cases hok : okP l L a b = true
    · obtain ⟨k1, k2, k3, k4⟩ := okP_at hok
      rw [k1, k2, k3, if_pos (by decide), if_pos (by omega), if_pos (by decide), if_pos (by omega), if_pos (by omega), if_pos hok]
      exact h0 b (by omega) (by omega) k (by omega)
    · have hrec := large_l2 hS L a N m out hL ha hN ho F hF h0 r1 m2 (b + 1) k (by omega) (by omega) (fun h => h1 (by simp only [rowF]; rw [if_neg hok]; exact h))
      rw [if_neg hok, hrec]
      by_cases c1 : L.testBit a = true
      · rw [c1, if_pos (by decide), if_pos (by omega)]
        by_cases c2 : (adj l a b && L.testBit b) = true
        · rw [c2, if_pos (by decide)]
          have : ¬ (((nu l (rest L a b) : Nat) : Int) = (N : Int)) := fun e => hok (by
            unfold okP
            rw [c1, c2, decide_eq_true (by omega)]
            rfl)
          rw [if_neg this]
        · rw [Bool.eq_false_iff.2 c2, if_neg (by decide)]
      · rw [Bool.eq_false_iff.2 c1, if_neg (by decide)]
def F0 (N : Nat) : Nat := 25001 + 200 * N
def LargeAt (l : List Int) (N : Nat) : Prop := ∀ (L : Nat) (out : List S43), L < 2 ^ l.length → nu l L = N → out.length + N ≤ 100 → ∀ k, F0 N ≤ k → visits_Largest.l0 k l (L : Int) (N : Int) out = some (out ++ scan l L 0 l.length, 0)
theorem large_l1 {l : List Int} (hS : Shop l) (N : Nat) (ih : LargeAt l N) (L : Nat) (out : List S43) (hL : L < 2 ^ l.length) (hN : nu l L = N + 1) (ho : out.length + N + 1 ≤ 100) :
    ∀ (m a k : Nat), a + m = l.length → NoOk l L a → F0 N + 13 * m + 1 ≤ k → visits_Largest.l1 k l (L : Int) ((N + 1 : Nat) : Int) out (l.length : Int) (a : Int) = some (out ++ scan l L a m, 0)
  | 0, a, k, ha, hno, hk => by
    obtain ⟨x, y, h1, h2⟩ := ok_exists hS L hL (by omega)
    have := bit_lt hL (okP_at h2).1
    rw [hno x y (by omega) h1] at h2
    exact absurd h2 (by decide)
  | m + 1, a, k, ha, hno, hk => by
    obtain ⟨k, rfl, _⟩ := succK (show 0 < k by omega)
    have hl := hS.le
    have hF : 25000 ≤ F0 N + 13 * m + 1 := by unfold F0; omega
    simp only [visits_Largest.l1, scan]
    rw [if_pos (by omega), inc64 a (by omega)]
    have h0 : ∀ b, b < l.length → nu l (rest L a b) = N → ∀ k, F0 N + 13 * m + 1 ≤ k → visits_Largest.l0 k l ((rest L a b : Nat) : Int) (N : Int) (out ++ [(⟨(a : Int), (b : Int)⟩ : S43)]) = some (out ++ [(⟨(a : Int), (b : Int)⟩ : S43)] ++ scan l (rest L a b) 0 l.length, 0) := fun b hb hn k hk =>
      ih (rest L a b) _ (Nat.lt_of_le_of_lt (rest_le L a b) hL) hn (by rw [List.length_append, List.length_singleton]; omega) k (by omega)
    have := large_l2 hS L a N m out hL ha hN (by omega) (F0 N + 13 * m + 1) hF h0 (out ++ scan l L (a + 1) m, 0) m (a + 1) k (by omega) (by omega)
      (fun hr k hk => large_l1 hS N ih L out hL hN ho m (a + 1) k (by omega) (noOk_next hL ha hno hr) hk)
    rw [this]
    cases hr : rowF l L a (a + 1) m with
    | none => rfl
    | some b =>
      have hst := scan_from (l := l) (L := rest L a b) (Nat.lt_of_le_of_lt (rest_le L a b) hL) (a + 1) 0 m (by omega) (by rw [Nat.zero_add]; exact noOk_rest l L a b)
      rw [show a + 1 + m = l.length by omega, Nat.zero_add] at hst
      simp only []
      rw [hst, List.append_assoc]
      rfl
theorem large_at {l : List Int} (hS : Shop l) : ∀ N, LargeAt l N
  | 0 => fun L out hL hN ho k hk => by
    have hF : F0 0 = 25001 := rfl
    obtain ⟨k, rfl, _⟩ := succK (show 0 < k by omega)
    have hs : (scan l L 0 l.length).length = 0 := by rw [scan_length hS _ L 0 hL (by omega) (fun a' b' h _ => by omega), hN]
    simp only [visits_Largest.l0]
    rw [if_neg (by decide), List.eq_nil_of_length_eq_zero hs, List.append_nil]
  | N + 1 => fun L out hL hN ho k hk => by
    have hl := hS.le
    have e1 : F0 (N + 1) = F0 N + 200 := by unfold F0; omega
    obtain ⟨k, rfl, _⟩ := succK (show 0 < k by omega)
    simp only [visits_Largest.l0]
    rw [if_pos (by omega)]
    exact large_l1 hS N (large_at hS N) L out hL hN (by omega) l.length 0 k (by omega) (fun a' b' h _ => by omega) (by omega)
end Go.Proofs.YtadfcplobidmeaaDoor.Pure
