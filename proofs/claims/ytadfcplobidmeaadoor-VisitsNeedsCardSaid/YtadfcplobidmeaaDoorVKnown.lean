/- The visits' plain laws: the specification's games, with what was found kept, are the same. -/
import Derived.Test.YtadfcplobidmeaaDoorVGame
namespace Go.Proofs.YtadfcplobidmeaaDoor.Pure
open Go.RowKit Go.Proofs.YtadfcplobidmeaaDoor.Print Go.Proofs.YtadfcplobidmeaaDoorW.PrintWords Go.Proofs.YtadfcplobidmeaaDoorW.PrintLast Go.Proofs.YtadfcplobidmeaaDoorW.PrintMore
def sg (b : Bool) : Int := if b = true then 1 else -1
theorem sg_pos (b : Bool) : decide (sg b > 0) = b := by cases b <;> rfl
theorem getD_set (M : List Int) (a i : Nat) (z : Int) (h : a < M.length) : (M.set a z).getD i 0 = if i = a then z else M.getD i 0 := by
  rw [List.getD_eq_getElem?_getD, List.getElem?_set]
  by_cases e : a = i
  · subst e
    rw [if_pos rfl, if_pos h, if_pos rfl]
    rfl
  · rw [if_neg e, if_neg (fun h => e h.symm), ← List.getD_eq_getElem?_getD]
/-- what is kept from V on is right. -/
def Good (l M : List Int) (V : Nat) : Prop := ∀ W y, V ≤ W → W < 2 ^ l.length → y < l.length → M.getD (W * l.length + y) 0 = 0 ∨ M.getD (W * l.length + y) 0 = sg (gw l W y)
theorem Good.more {l M : List Int} {V W : Nat} (h : Good l M V) (hw : V ≤ W) : Good l M W := fun U y h1 h2 h3 => h U y (Nat.le_trans hw h1) h2 h3
def anyFrom (p : Nat → Bool) (j : Nat) : Nat → Bool
  | 0 => false
  | m + 1 => p j || anyFrom p (j + 1) m
theorem anyFrom_iff (p : Nat → Bool) : ∀ m j, anyFrom p j m = true ↔ ∃ i, j ≤ i ∧ i < j + m ∧ p i = true
  | 0, j => by
    simp only [anyFrom]
    constructor
    · intro h; exact absurd h (by decide)
    · rintro ⟨i, h1, h2, _⟩; omega
  | m + 1, j => by
    simp only [anyFrom, Bool.or_eq_true]
    rw [anyFrom_iff p m (j + 1)]
    constructor
    · rintro (h | ⟨i, h1, h2, h3⟩)
      · exact ⟨j, Nat.le_refl _, by omega, h⟩
      · exact ⟨i, by omega, by omega, h3⟩
    · rintro ⟨i, h1, h2, h3⟩
      by_cases e : i = j
      · subst e; exact Or.inl h3
      · exact Or.inr ⟨i, by omega, by omega, h3⟩
theorem anyFrom_gw (l : List Int) (V x : Nat) (hV : V < 2 ^ l.length) : anyFrom (cw l V x) 0 l.length = gw l V x := by
  refine bEq ?_
  rw [anyFrom_iff, gw_iff l V x hV]
  exact ⟨fun ⟨i, _, h2, h3⟩ => ⟨i, by omega, h3⟩, fun ⟨i, h2, h3⟩ => ⟨i, Nat.zero_le _, by omega, h3⟩⟩
def KnownAt (l : List Int) (N : Nat) : Prop := ∀ (V x : Nat), V < 2 ^ l.length → x < l.length → 2 ^ l.length ≤ V + N → ∀ (M : List Int), M.length = 2 ^ l.length * l.length → Good l M V → ∀ k, 40 * N + 1 ≤ k →
  ∃ M', clocheref03_known.f k l (V : Int) (x : Int) M = some (gw l V x, M') ∧ M'.length = M.length ∧ Good l M' V ∧ ∀ i, i < V * l.length → M'.getD i 0 = M.getD i 0
theorem known_l0 {l : List Int} (hS : Shop l) (N : Nat) (ih : KnownAt l N) (V x : Nat) (hV : V < 2 ^ l.length) (hx : x < l.length) (hN : 2 ^ l.length ≤ V + (N + 1)) :
    ∀ (m j k : Nat) (M : List Int) (v : Bool), j + m = l.length → 40 * N + 1 + m + 1 ≤ k → M.length = 2 ^ l.length * l.length → Good l M (V + 1) → M.getD (V * l.length + x) 0 = sg v →
    ∃ M', clocheref03_known.l0 k l (V : Int) (x : Int) M ((V * l.length + x : Nat) : Int) (j : Int) = some ((v || anyFrom (cw l V x) j m), M') ∧ M'.length = M.length ∧ Good l M' (V + 1) ∧
      M'.getD (V * l.length + x) 0 = sg (v || anyFrom (cw l V x) j m) ∧ ∀ i, i < (V + 1) * l.length → i ≠ V * l.length + x → M'.getD i 0 = M.getD i 0
  | 0, j, k, M, v, hj, hk, hM, hG, hv => by
    obtain ⟨k, rfl, _⟩ := succK (show 0 < k by omega)
    have h1 := Nat.mul_le_mul_right l.length (show V + 1 ≤ 2 ^ l.length by omega)
    rw [Nat.succ_mul] at h1
    simp only [clocheref03_known.l0]
    rw [if_neg (by omega), if_pos (by omega), if_pos (by omega), rdn, hv, sg_pos]
    refine ⟨M, ?_, rfl, hG, ?_, fun i _ _ => rfl⟩
    · simp only [anyFrom, Bool.or_false]
    · simp only [anyFrom, Bool.or_false, hv]
  | m + 1, j, k, M, v, hj, hk, hM, hG, hv => by
    obtain ⟨k, rfl, _⟩ := succK (show 0 < k by omega)
    have hl := hS.le
    have h1 := Nat.mul_le_mul_right l.length (show V + 1 ≤ 2 ^ l.length by omega)
    rw [Nat.succ_mul] at h1
    simp only [clocheref03_known.l0]
    rw [if_pos (by omega), if_pos (by omega), if_pos (by omega), if_pos (by omega), testT hS V x j hV hx (by omega), orI hS V j hV (by omega), inc64 j (by omega)]
    by_cases c : (adj l x j && !V.testBit j) = true
    · have hb : V.testBit j = false := by
        rw [Bool.and_eq_true] at c
        simpa using c.2
      have hg := or_gt hb
      obtain ⟨M1, e1, e2, e3, e4⟩ := ih (V ||| 2 ^ j) j (or_lt hV (by omega)) (by omega) (by omega) M hM (hG.more (by omega)) k (by omega)
      have h2 := Nat.mul_le_mul_right l.length (show V + 1 ≤ V ||| 2 ^ j by omega)
      rw [Nat.succ_mul] at h2
      have hG1 : Good l M1 (V + 1) := fun W y a1 a2 a3 => by
        by_cases a4 : V ||| 2 ^ j ≤ W
        · exact e3 W y a4 a2 a3
        · have h3 := Nat.mul_le_mul_right l.length (show W + 1 ≤ V ||| 2 ^ j by omega)
          rw [Nat.succ_mul] at h3
          rw [e4 _ (by omega)]
          exact hG W y a1 a2 a3
      have hv1 : M1.getD (V * l.length + x) 0 = sg v := by rw [e4 _ (by omega), hv]
      have ec : cw l V x j = !gw l (V ||| 2 ^ j) j := by unfold cw; rw [c, Bool.true_and]
      rw [if_pos ((tn1 _).2 c), e1, Option.bind_some]
      simp only [anyFrom, ec]
      cases hgw : gw l (V ||| 2 ^ j) j
      · rw [if_neg (by decide), if_pos (by omega), if_pos (by omega), Int.toNat_natCast]
        have hs := fun i => getD_set M1 (V * l.length + x) i 1 (by omega)
        obtain ⟨M2, f1, f2, f3, f4, f5⟩ := known_l0 hS N ih V x hV hx hN m (j + 1) k (M1.set (V * l.length + x) 1) true (by omega) (by omega) (by rw [List.length_set]; omega)
          (fun W y a1 a2 a3 => by
            have h3 := Nat.mul_le_mul_right l.length a1
            rw [Nat.succ_mul] at h3
            rw [hs, if_neg (by omega)]
            exact hG1 W y a1 a2 a3) (by rw [hs, if_pos rfl]; rfl)
        refine ⟨M2, ?_, by rw [f2, List.length_set, e2], f3, ?_, fun i a1 a2 => ?_⟩
        · rw [f1]; simp
        · rw [f4]; simp
        · rw [f5 i a1 a2, hs, if_neg a2, e4 i (by rw [Nat.succ_mul] at a1; omega)]
      · rw [if_pos rfl]
        obtain ⟨M2, f1, f2, f3, f4, f5⟩ := known_l0 hS N ih V x hV hx hN m (j + 1) k M1 v (by omega) (by omega) (by omega) hG1 hv1
        refine ⟨M2, ?_, by rw [f2, e2], f3, ?_, fun i a1 a2 => ?_⟩
        · rw [f1]; simp
        · rw [f4]; simp
        · rw [f5 i a1 a2, e4 i (by rw [Nat.succ_mul] at a1; omega)]
    · have ec : cw l V x j = false := by unfold cw; rw [Bool.eq_false_iff.2 c, Bool.false_and]
      rw [if_neg (fun h => c ((tn1 _).1 h))]
      simp only [anyFrom, ec, Bool.false_or]
      exact known_l0 hS N ih V x hV hx hN m (j + 1) k M v (by omega) (by omega) hM hG hv
theorem good_join {l M M' : List Int} {V x : Nat} (hG : Good l M V) (f3 : Good l M' (V + 1)) (f4 : M'.getD (V * l.length + x) 0 = sg (gw l V x))
    (f5 : ∀ i, i < (V + 1) * l.length → i ≠ V * l.length + x → M'.getD i 0 = M.getD i 0) : Good l M' V := fun W y a1 a2 a3 => by
  by_cases a4 : V + 1 ≤ W
  · exact f3 W y a4 a2 a3
  · obtain rfl : W = V := by omega
    by_cases a5 : y = x
    · subst a5
      exact Or.inr f4
    · have a6 : W * l.length + y < (W + 1) * l.length := by rw [Nat.succ_mul]; omega
      have a7 : W * l.length + y ≠ W * l.length + x := by omega
      rw [f5 _ a6 a7]
      exact hG W y (Nat.le_refl _) a2 a3
theorem at_eq {l : List Int} (hS : Shop l) (V x : Nat) (hV : V < 2 ^ l.length) (hx : x < l.length) : wrap64 (wrap64 ((V : Int) * (l.length : Int)) + (x : Int)) = ((V * l.length + x : Nat) : Int) ∧ V * l.length + x < 2 ^ l.length * l.length := by
  have hl := hS.le
  have hp := pow10 hl
  have h1 := Nat.mul_le_mul_right l.length (show V + 1 ≤ 2 ^ l.length by omega)
  rw [Nat.succ_mul] at h1
  have h2 := Nat.mul_le_mul hp hl
  refine ⟨?_, by omega⟩
  have e1 : wrap64 ((V : Int) * (l.length : Int)) = ((V * l.length : Nat) : Int) := by
    rw [← Int.natCast_mul, w64 (by omega) (by omega)]
  rw [e1, w64 (by omega) (by omega), Int.natCast_add]
theorem known_step {l : List Int} (hS : Shop l) (N : Nat) (ih : KnownAt l N) : KnownAt l (N + 1) := fun V x hV hx hN M hM hG k hk => by
  obtain ⟨k, rfl, _⟩ := succK (show 0 < k by omega)
  obtain ⟨ea, hlt⟩ := at_eq hS V x hV hx
  have hl := hS.le
  simp only [clocheref03_known.f]
  rw [ea, if_pos (Int.natCast_nonneg _), if_pos (by rw [hM]; exact Int.ofNat_lt.2 hlt), rdn, Int.toNat_natCast]
  rcases hG V x (Nat.le_refl _) hV hx with h0 | h0
  · rw [if_pos h0]
    have hs := fun i => getD_set M (V * l.length + x) i (-1) (by rw [hM]; exact hlt)
    have hG1 : Good l (M.set (V * l.length + x) (-1)) (V + 1) := fun W y a1 a2 a3 => by
      have h3 := Nat.mul_le_mul_right l.length a1
      rw [Nat.succ_mul] at h3
      have a7 : W * l.length + y ≠ V * l.length + x := by omega
      rw [hs, if_neg a7]
      exact hG W y (Nat.le_of_succ_le a1) a2 a3
    have hk2 : 40 * N + 1 + l.length + 1 ≤ k := by omega
    obtain ⟨M', f1, f2, f3, f4, f5⟩ := known_l0 hS N ih V x hV hx hN l.length 0 k (M.set (V * l.length + x) (-1)) false (Nat.zero_add _) hk2 (by rw [List.length_set]; exact hM) hG1 (by rw [hs, if_pos rfl]; rfl)
    rw [show ((0 : Nat) : Int) = 0 from rfl, Bool.false_or, anyFrom_gw l V x hV] at f1
    rw [Bool.false_or, anyFrom_gw l V x hV] at f4
    have f6 : ∀ i, i ≠ V * l.length + x → (M.set (V * l.length + x) (-1)).getD i 0 = M.getD i 0 := fun i hi => by rw [hs, if_neg hi]
    clear hs hG1 hk2 h0
    refine ⟨M', f1, by rw [f2, List.length_set], good_join hG f3 f4 (fun i a1 a2 => by rw [f5 i a1 a2, f6 i a2]), fun i hi => ?_⟩
    have a6 : i < (V + 1) * l.length := by
      rw [Nat.succ_mul]
      exact Nat.lt_of_lt_of_le hi (Nat.le_add_right _ _)
    have a7 : i ≠ V * l.length + x := fun e => by
      rw [e] at hi
      exact absurd hi (Nat.not_lt.2 (Nat.le_add_right _ _))
    rw [f5 i a6 a7, f6 i a7]
  · have hne : ¬ M.getD (V * l.length + x) 0 = 0 := by
      rw [h0]
      unfold sg
      split <;> decide
    rw [if_neg hne, h0, sg_pos]
    exact ⟨M, rfl, rfl, hG, fun i _ => rfl⟩
theorem known_at {l : List Int} (hS : Shop l) : ∀ N, KnownAt l N
  | 0 => fun V x hV hx hN => by omega
  | N + 1 => known_step hS N (known_at hS N)
theorem known_f {l : List Int} (hS : Shop l) (V x : Nat) (hV : V < 2 ^ l.length) (hx : x < l.length) (M : List Int) (hM : M.length = 2 ^ l.length * l.length) (hG : Good l M 0) (k : Nat) (hk : 45000 ≤ k) :
    ∃ M', clocheref03_known.f k l (V : Int) (x : Int) M = some (gw l V x, M') ∧ M'.length = 2 ^ l.length * l.length ∧ Good l M' 0 := by
  have hp := pow10 hS.le
  obtain ⟨M', h1, h2, h3, h4⟩ := known_at hS (2 ^ l.length) V x hV hx (by omega) M hM (hG.more (Nat.zero_le _)) k (by omega)
  refine ⟨M', h1, by omega, fun W y a1 a2 a3 => ?_⟩
  by_cases a4 : V ≤ W
  · exact h3 W y a4 a2 a3
  · have h5 := Nat.mul_le_mul_right l.length (show W + 1 ≤ V by omega)
    rw [Nat.succ_mul] at h5
    rw [h4 _ (by omega)]
    exact hG W y a1 a2 a3
theorem good_new (l : List Int) (n : Nat) : Good l (List.replicate n 0) 0 := fun W y _ _ _ => by
  left
  rw [List.getD_eq_getElem?_getD, List.getElem?_replicate]
  split <;> rfl
theorem shl_len {l : List Int} (hS : Shop l) : shl .i64 (l.length : Int) (l.length : Int) = ((2 ^ l.length * l.length : Nat) : Int) := by
  have hl := hS.le
  have hp := pow10 hl
  have h2 := Nat.mul_le_mul hp hl
  unfold shl
  have e : min (l.length : Int).toNat IntKind.i64.bits = l.length := by
    show min (l.length : Int).toNat 64 = l.length
    rw [Int.toNat_natCast]; omega
  rw [e, show ((2 : Int) ^ l.length) = ((2 ^ l.length : Nat) : Int) by rw [Int.natCast_pow]; rfl, ← Int.natCast_mul, Nat.mul_comm]
  exact wrapN _ (by omega)
end Go.Proofs.YtadfcplobidmeaaDoor.Pure
