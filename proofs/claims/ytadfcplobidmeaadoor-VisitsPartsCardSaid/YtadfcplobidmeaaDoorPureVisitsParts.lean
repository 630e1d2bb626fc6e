/- VisitsParts: Parts, Odd and Barrier are the specification's. -/
import Derived.Test.YtadfcplobidmeaaDoorVPartR
import Derived.Test.YtadfcplobidmeaaDoorVMatch
import Derived.Test.YtadfcplobidmeaaDoorPrintx29
namespace Go.Proofs.YtadfcplobidmeaaDoor.Pure
open Go.RowKit Go.Proofs.YtadfcplobidmeaaDoor.Print Go.Proofs.YtadfcplobidmeaaDoorW.PrintWords Go.Proofs.YtadfcplobidmeaaDoorW.PrintLast Go.Proofs.YtadfcplobidmeaaDoorW.PrintMore
theorem rodd_l0 (P : List Int) (hP : P.length ≤ 100) (hx : ∀ x ∈ P, 0 ≤ x ∧ x < 1024) : ∀ (m i k s : Nat), i + m = P.length → 20 + m + 1 ≤ k → s ≤ i → clocheref03_odd.l0 k P (s : Int) (i : Int) = some ((s + oddI (P.drop i) : Nat) : Int)
  | 0, i, k, s, hi, hk, hs => by
    obtain ⟨k, rfl, _⟩ := succK (show 0 < k by omega)
    rw [clocheref03_odd.l0, if_neg (by omega), List.drop_eq_nil_of_le (by omega)]
    rfl
  | m + 1, i, k, s, hi, hk, hs => by
    obtain ⟨k, rfl, _⟩ := succK (show 0 < k by omega)
    have hil : i < P.length := by omega
    have hd : P.drop i = P.getD i 0 :: P.drop (i + 1) := by
      rw [List.drop_eq_getElem_cons hil, List.getD_eq_getElem?_getD, List.getElem?_eq_getElem hil]
      rfl
    have hm : P.getD i 0 ∈ P := by
      rw [List.getD_eq_getElem?_getD, List.getElem?_eq_getElem hil]
      exact List.getElem_mem hil
    have hb := hx _ hm
    rw [clocheref03_odd.l0, if_pos (by omega), if_pos (by omega), rdn, hd]
    generalize P.getD i 0 = x at hb
    obtain ⟨c, rfl⟩ : ∃ c : Nat, x = c := ⟨x.toNat, by omega⟩
    have e2 : Int.tmod ((sz c : Nat) : Int) 2 = ((sz c % 2 : Nat) : Int) := (Int.ofNat_tmod (sz c) 2).symm
    rw [Size_f (by omega) k (by omega), Option.bind_some, e2, w64 (by omega) (by omega), inc64 i (by omega), ← Int.natCast_add, rodd_l0 P hP hx m (i + 1) k (s + sz c % 2) (by omega) (by omega) (by omega)]
    simp only [oddI, Int.toNat_natCast]
    rw [Nat.add_assoc]
theorem rodd_f {l : List Int} (hS : Shop l) {S : Nat} (k : Nat) (hk : 6000 ≤ k) : clocheref03_odd.f k l (S : Int) = some ((oddV l S : Nat) : Int) := by
  unfold clocheref03_odd.f
  have hlen := partsI_len hS (S := S)
  rw [rparts_f hS k hk, Option.bind_some]
  have := rodd_l0 (partsI l S) (by omega) (partsI_range hS) (partsI l S).length 0 k 0 (by omega) (by omega) (by omega)
  rw [List.drop_zero, Nat.zero_add, odd_I] at this
  exact this
theorem rbar_l0 {l : List Int} (hS : Shop l) : ∀ (m j k : Nat) (b : Nat × Int), j + m = 2 ^ l.length → 6100 + m ≤ k → clocheref03_Barrier.l0 k l (b.1 : Int) b.2 (j : Int) = some (((barF l j m b).1 : Int), (barF l j m b).2, 0)
  | 0, j, k, b, hj, hk => by
    obtain ⟨k, rfl, _⟩ := succK (show 0 < k by omega)
    have hl := hS.le
    rw [clocheref03_Barrier.l0, bShl l.length (by omega), if_neg (by omega)]
    rfl
  | m + 1, j, k, b, hj, hk => by
    obtain ⟨k, rfl, _⟩ := succK (show 0 < k by omega)
    have hl := hS.le
    have hp := pow10 hl
    have hd := dif_range hS j
    have e : ((oddV l j : Nat) : Int) - ((sz j : Nat) : Int) = dif l j := rfl
    rw [clocheref03_Barrier.l0, bShl l.length (by omega), if_pos (by omega), rodd_f hS k (by omega), Option.bind_some, Size_f (by omega) k (by omega), Option.bind_some, e, w64 (by omega) (by omega), inc64 j (by omega)]
    simp only [barF]
    by_cases c : dif l j > b.2
    · rw [if_pos c, if_pos c]
      exact rbar_l0 hS m (j + 1) k (j, dif l j) (by omega) (by omega)
    · rw [if_neg c, if_neg c]
      exact rbar_l0 hS m (j + 1) k b (by omega) (by omega)
theorem rBarrier_f (l : List Int) (k : Nat) (hk : 8000 ≤ k) : clocheref03_Barrier.f k l = some (barrierV l) := by
  unfold clocheref03_Barrier.f barrierV
  rw [IsShop_f l k (by omega), Option.bind_some]
  cases h : isShop l
  · rw [if_neg (by decide), if_neg (by decide)]
  · have hS := (isShop_iff l).1 h
    have hp := pow10 hS.le
    have h2 := Nat.two_pow_pos l.length
    have e0 : ((oddV l 0 : Nat) : Int) = dif l 0 := by
      unfold dif
      have : sz 0 = 0 := szN_zero 10
      omega
    have hv := rodd_f hS (S := 0) k (by omega)
    have hb := rbar_l0 hS (2 ^ l.length - 1) 1 k (0, dif l 0) (by omega) (by omega)
    have e1 : barV l = barF l 1 (2 ^ l.length - 1) (0, dif l 0) := by
      unfold barV
      obtain ⟨m, hm⟩ : ∃ m, 2 ^ l.length = m + 1 := ⟨2 ^ l.length - 1, by omega⟩
      rw [hm, Nat.add_sub_cancel]
      simp only [barF]
      rw [if_neg (by omega)]
    rw [if_pos rfl, if_pos rfl, show ((0 : Int)) = ((0 : Nat) : Int) from rfl, hv, Option.bind_some, e0, e1]
    exact hb
def partsW (l : List Int) (a : Int) : List Int × Int := if (isShop l && decide (0 ≤ a) && decide (a < ((2 ^ l.length : Nat) : Int))) = true then (partsI l a.toNat, 0) else ([], 2)
def oddW (l : List Int) (a : Int) : Int × Int := if (isShop l && decide (0 ≤ a) && decide (a < ((2 ^ l.length : Nat) : Int))) = true then (((oddV l a.toNat : Nat) : Int), 0) else (0, 2)
theorem chosen_any (l : List Int) (a : Int) (k : Nat) (hk : 300 ≤ k) : visits_chosen.f k l a = some (isShop l && decide (0 ≤ a) && decide (a < ((2 ^ l.length : Nat) : Int))) := by
  unfold visits_chosen.f
  rw [read_f l k hk, Option.bind_some]
  cases h : isShop l
  · rw [if_neg (by decide)]; rfl
  · have hS := (isShop_iff l).1 h
    have h2 := Nat.two_pow_pos l.length
    rw [if_pos rfl, all_f l hS.le, Option.bind_some]
    by_cases c : a ≥ 0
    · rw [if_pos c, decide_eq_true (show 0 ≤ a from c)]
      by_cases c2 : a < ((2 ^ l.length : Nat) : Int)
      · rw [decide_eq_true c2, decide_eq_true (by omega)]; rfl
      · rw [decide_eq_false c2, decide_eq_false (by omega)]; rfl
    · rw [if_neg c, decide_eq_false (show ¬ 0 ≤ a from c)]; rfl
theorem vParts_f (l : List Int) (a : Int) (k : Nat) (hk : 3100 ≤ k) : visits_Parts.f k l a = some (partsW l a) := by
  unfold visits_Parts.f partsW
  rw [chosen_any l a k (by omega), Option.bind_some]
  by_cases c : (isShop l && decide (0 ≤ a) && decide (a < ((2 ^ l.length : Nat) : Int))) = true
  · rw [if_pos c, if_pos c]
    simp only [Bool.and_eq_true, decide_eq_true_eq] at c
    obtain ⟨S, rfl⟩ : ∃ S : Nat, a = S := ⟨a.toNat, by omega⟩
    rw [vparts_f ((isShop_iff l).1 c.1.1) (by omega) k hk, Option.bind_some, Int.toNat_natCast]
  · rw [if_neg c, if_neg c]
theorem vOdd_f (l : List Int) (a : Int) (k : Nat) (hk : 3100 ≤ k) : visits_Odd.f k l a = some (oddW l a) := by
  unfold visits_Odd.f oddW
  rw [chosen_any l a k (by omega), Option.bind_some]
  by_cases c : (isShop l && decide (0 ≤ a) && decide (a < ((2 ^ l.length : Nat) : Int))) = true
  · rw [if_pos c, if_pos c]
    simp only [Bool.and_eq_true, decide_eq_true_eq] at c
    obtain ⟨S, rfl⟩ : ∃ S : Nat, a = S := ⟨a.toNat, by omega⟩
    rw [vodd_f ((isShop_iff l).1 c.1.1) (by omega) k hk, Option.bind_some, Int.toNat_natCast]
  · rw [if_neg c, if_neg c]
theorem rParts_f (l : List Int) (a : Int) (k : Nat) (hk : 6000 ≤ k) : clocheref03_Parts.f k l a = some (partsW l a) := by
  unfold clocheref03_Parts.f partsW
  rw [IsShop_f l k (by omega), Option.bind_some]
  cases h : isShop l
  · rw [if_neg (by decide), if_neg (by simp)]
  · have hS := (isShop_iff l).1 h
    have hl := hS.le
    rw [if_pos rfl, bShl l.length (by omega)]
    by_cases c : a < 0
    · rw [if_pos c, decide_eq_false (show ¬ 0 ≤ a by omega), if_neg (by simp)]
    · rw [if_neg c, decide_eq_true (show 0 ≤ a by omega)]
      by_cases c2 : a ≥ ((2 ^ l.length : Nat) : Int)
      · rw [if_pos c2, decide_eq_false (show ¬ a < ((2 ^ l.length : Nat) : Int) by omega), if_neg (by simp)]
      · obtain ⟨S, rfl⟩ : ∃ S : Nat, a = S := ⟨a.toNat, by omega⟩
        rw [if_neg c2, decide_eq_true (show (S : Int) < ((2 ^ l.length : Nat) : Int) by omega), if_pos (by simp), rparts_f hS k hk, Option.bind_some, Int.toNat_natCast]
theorem rOdd_f (l : List Int) (a : Int) (k : Nat) (hk : 6000 ≤ k) : clocheref03_Odd.f k l a = some (oddW l a) := by
  unfold clocheref03_Odd.f oddW
  rw [IsShop_f l k (by omega), Option.bind_some]
  cases h : isShop l
  · rw [if_neg (by decide), if_neg (by simp)]
  · have hS := (isShop_iff l).1 h
    have hl := hS.le
    rw [if_pos rfl, bShl l.length (by omega)]
    by_cases c : a < 0
    · rw [if_pos c, decide_eq_false (show ¬ 0 ≤ a by omega), if_neg (by simp)]
    · rw [if_neg c, decide_eq_true (show 0 ≤ a by omega)]
      by_cases c2 : a ≥ ((2 ^ l.length : Nat) : Int)
      · rw [if_pos c2, decide_eq_false (show ¬ a < ((2 ^ l.length : Nat) : Int) by omega), if_neg (by simp)]
      · obtain ⟨S, rfl⟩ : ∃ S : Nat, a = S := ⟨a.toNat, by omega⟩
        rw [if_neg c2, decide_eq_true (show (S : Int) < ((2 ^ l.length : Nat) : Int) by omega), if_pos (by simp), rodd_f hS k hk, Option.bind_some, Int.toNat_natCast]
theorem same_l0 (a : List Int) (ha : a.length ≤ 1000) : ∀ (m i k : Nat), i + m = a.length → m + 1 ≤ k → clochelaw03_same.l0 k a a (i : Int) = some true
  | 0, i, k, hi, hk => by
    obtain ⟨k, rfl, _⟩ := succK (show 0 < k by omega)
    rw [clochelaw03_same.l0, if_neg (by omega)]
  | m + 1, i, k, hi, hk => by
    obtain ⟨k, rfl, _⟩ := succK (show 0 < k by omega)
    rw [clochelaw03_same.l0, if_pos (by omega), if_pos (by omega), if_pos (by omega), if_pos rfl, inc64 i (by omega), same_l0 a ha m (i + 1) k (by omega) (by omega)]
theorem same_f (a : List Int) (ha : a.length ≤ 1000) (k : Nat) (hk : 1100 ≤ k) : clochelaw03_same.f k a a = some true := by
  unfold clochelaw03_same.f
  rw [if_pos rfl]
  exact same_l0 a ha a.length 0 k (by omega) (by omega)
theorem partsW_len (l : List Int) (a : Int) : (partsW l a).1.length ≤ 10 := by
  unfold partsW
  by_cases c : (isShop l && decide (0 ≤ a) && decide (a < ((2 ^ l.length : Nat) : Int))) = true
  · rw [if_pos c]
    simp only [Bool.and_eq_true, decide_eq_true_eq] at c
    exact partsI_len ((isShop_iff l).1 c.1.1)
  · rw [if_neg c]; exact Nat.zero_le _
theorem VisitsParts : clochelaw03_VisitsParts.Pure := by
  intro l a _ _ _ _
  refine ⟨60002, ?_⟩
  unfold clochelaw03_VisitsParts.f
  rw [few_f, Option.bind_some]
  by_cases h : (decide (l.length ≤ 40) && decide (([] : List S43).length ≤ 40)) = true
  · have hlen := partsW_len l a
    rw [if_pos h, vParts_f l a 60002 (by decide), Option.bind_some, rParts_f l a 60002 (by decide), Option.bind_some, same_f _ (by omega) 60002 (by decide), Option.bind_some, if_pos rfl,
      show ((partsW l a).2 != (partsW l a).2) = false by simp, clochelaw03_VisitsParts.j0, if_neg (by decide), vOdd_f l a 60001 (by decide), Option.bind_some, rOdd_f l a 60001 (by decide), Option.bind_some, if_pos rfl,
      show ((oddW l a).2 != (oddW l a).2) = false by simp, clochelaw03_VisitsParts.j1, if_neg (by decide), vBarrier_f l 60000 (by decide), Option.bind_some, rBarrier_f l 60000 (by decide), Option.bind_some, if_pos rfl, if_pos rfl, if_pos rfl,
      alive_f 60000 (by decide), Option.bind_some]
  · rw [if_neg h, alive_f 60002 (by decide), Option.bind_some]
end Go.Proofs.YtadfcplobidmeaaDoor.Pure
