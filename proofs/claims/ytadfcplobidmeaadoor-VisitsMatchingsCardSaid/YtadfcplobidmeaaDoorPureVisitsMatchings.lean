/- VisitsMatchings: IsShop, Largest and IsMatching are the specification's. -/
import Derived.Test.YtadfcplobidmeaaDoorVLargeF
import Derived.Test.YtadfcplobidmeaaDoorVMatV
import Derived.Test.YtadfcplobidmeaaDoorVMatchR
import Derived.Test.YtadfcplobidmeaaDoorVMost
import Derived.Test.YtadfcplobidmeaaDoorPrintx31
import Derived.Test.YtadfcplobidmeaaDoorPrintx33
namespace Go.Proofs.YtadfcplobidmeaaDoor.Pure
open Go.RowKit Go.Proofs.YtadfcplobidmeaaDoor.Print Go.Proofs.YtadfcplobidmeaaDoorW.PrintWords Go.Proofs.YtadfcplobidmeaaDoorW.PrintLast Go.Proofs.YtadfcplobidmeaaDoorW.PrintMore
def RowsAt (l : List Int) (a m F : Nat) : Prop := ∀ (L : Nat) (out : List S43), L < 2 ^ l.length → out.length + m ≤ 100 → ∀ k, F ≤ k → clocheref03_Largest.l0 k l (l.length : Int) (L : Int) ((nu l L : Nat) : Int) out (a : Int) = some (out ++ scan l L a m, 0)
theorem ref_skip {l : List Int} (hS : Shop l) (a m F : Nat) (ha : a < l.length) (h0 : RowsAt l (a + 1) m F) (L : Nat) (out : List S43) (hL : L < 2 ^ l.length) (ho : out.length + m ≤ 100) (hb : L.testBit a = false) (b k : Nat) (hk : F + 2 ≤ k) :
    clocheref03_Largest.l1 k l (l.length : Int) (L : Int) ((nu l L : Nat) : Int) out (a : Int) (b : Int) = some (out ++ scan l L (a + 1) m, 0) := by
  obtain ⟨k, rfl, _⟩ := succK (show 0 < k by omega)
  obtain ⟨k, rfl, _⟩ := succK (show 0 < k by omega)
  have hl := hS.le
  have hj : clocheref03_Largest.j2 (k + 1) l (l.length : Int) (L : Int) ((nu l L : Nat) : Int) out (a : Int) (b : Int) false = some (out ++ scan l L (a + 1) m, 0) := by
    rw [clocheref03_Largest.j2, if_neg (by decide), inc64 a (by omega), h0 L out hL ho k (by omega)]
  rw [clocheref03_Largest.l1, bitT L a (by omega), hb]
  have e : ((((false : Bool).toNat : Nat) : Int) == 1) = false := rfl
  rw [e, hj]
  split
  · rw [if_pos (by omega)]
  · rfl
theorem rlarge_l1 {l : List Int} (hS : Shop l) (a m F : Nat) (ha : a + (m + 1) = l.length) (hF : 45000 ≤ F) (h0 : RowsAt l (a + 1) m F) (L : Nat) (out : List S43) (hL : L < 2 ^ l.length) (ho : out.length + m + 1 ≤ 100) :
    ∀ (m2 b k : Nat), b + m2 = l.length → F + 2 * m2 + 2 ≤ k → clocheref03_Largest.l1 k l (l.length : Int) (L : Int) ((nu l L : Nat) : Int) out (a : Int) (b : Int) =
      some (out ++ (match rowF l L a b m2 with | some b' => (⟨(a : Int), (b' : Int)⟩ : S43) :: scan l (rest L a b') (a + 1) m | none => scan l L (a + 1) m), 0)
  | 0, b, k, hb, hk => by
    obtain ⟨k, rfl, _⟩ := succK (show 0 < k by omega)
    obtain ⟨k, rfl, _⟩ := succK (show 0 < k by omega)
    have hl := hS.le
    rw [clocheref03_Largest.l1, if_neg (by omega), clocheref03_Largest.j2, if_neg (by decide), inc64 a (by omega), h0 L out hL (by omega) k (by omega)]
    rfl
  | m2 + 1, b, k, hb, hk => by
    have hl := hS.le
    have hp := pow10 hl
    by_cases c1 : L.testBit a = true
    · obtain ⟨k, rfl, _⟩ := succK (show 0 < k by omega)
      obtain ⟨k, rfl, _⟩ := succK (show 0 < k by omega)
      have hrl := rest_le L a b
      have hrb : (rest L a b).testBit a = false := by rw [rest_bit, decide_eq_true (show a < a + 1 by omega)]; simp
      have hrec := rlarge_l1 hS a m F ha hF h0 L out hL ho m2 (b + 1) k (by omega) (by omega)
      have hnl := nu_le l L (by omega)
      have e1 : ((((true : Bool).toNat : Nat) : Int) == 1) = true := rfl
      rw [clocheref03_Largest.l1, if_pos (by omega), if_pos (by omega), bitT L a (by omega), c1, e1, clocheref03_Largest.j2, if_pos rfl, if_pos (by omega), if_pos (by omega), if_pos (by omega), testM hS L a b (by omega) (by omega) (by omega), inc64 b (by omega), hrec]
      simp only [rowF]
      by_cases c2 : (adj l a b && L.testBit b) = true
      · rw [c2, if_neg (by decide), if_pos (by rw [inc64 a (by omega)]; omega), restI hS hL (by omega) (by omega), most_f hS (rest L a b) (by omega) k (by omega), Option.bind_some]
        by_cases c3 : nu l (rest L a b) + 1 = nu l L
        · have hok : okP l L a b = true := by
            unfold okP
            rw [c1, c2, decide_eq_true c3]
            rfl
          have e : wrap64 (((nu l L : Nat) : Int) - 1) = ((nu l (rest L a b) : Nat) : Int) := by rw [w64 (by omega) (by omega)]; omega
          rw [e, if_pos rfl, if_pos (by omega), if_pos hok, ref_skip hS a m F (by omega) h0 (rest L a b) _ (by omega) (by rw [List.length_append, List.length_singleton]; omega) hrb (b + 1) k (by omega), List.append_assoc]
          rfl
        · have hok : ¬ okP l L a b = true := fun h => c3 (okP_at h).2.2.2
          rw [if_neg (by rw [w64 (by omega) (by omega)]; omega), if_neg hok]
      · have hok : ¬ okP l L a b = true := fun h => c2 (by obtain ⟨_, h1, h2, _⟩ := okP_at h; rw [h1, h2]; rfl)
        rw [Bool.eq_false_iff.2 c2, if_pos (by decide), if_neg hok]
    · have hno : rowF l L a b (m2 + 1) = none := by
        cases h : rowF l L a b (m2 + 1) with
        | none => rfl
        | some b' => exact absurd (okP_at (rowF_some l L a _ _ _ h).2.2).1 c1
      rw [hno]
      exact ref_skip hS a m F (by omega) h0 L out hL (by omega) (Bool.eq_false_iff.2 c1) b k (by omega)
theorem rows_at {l : List Int} (hS : Shop l) : ∀ m a, a + m = l.length → RowsAt l a m (45000 + 40 * m)
  | 0, a, ha => fun L out hL ho k hk => by
    obtain ⟨k, rfl, _⟩ := succK (show 0 < k by omega)
    have hl := hS.le
    rw [clocheref03_Largest.l0, if_neg (by omega)]
    simp only [scan, List.append_nil]
  | m + 1, a, ha => fun L out hL ho k hk => by
    obtain ⟨k, rfl, _⟩ := succK (show 0 < k by omega)
    have hl := hS.le
    have h := rlarge_l1 hS a m (45000 + 40 * m) ha (by omega) (rows_at hS m (a + 1) (by omega)) L out hL (by omega) m (a + 1) k (by omega) (by omega)
    rw [clocheref03_Largest.l0, if_pos (by omega), inc64 a (by omega), h]
    simp only [scan]
    cases rowF l L a (a + 1) m <;> rfl
theorem rLargest_f (l : List Int) (k : Nat) (hk : 50000 ≤ k) : clocheref03_Largest.f k l = some (firstV l) := by
  unfold clocheref03_Largest.f firstV
  rw [IsShop_f l k (by omega), Option.bind_some]
  cases h : isShop l
  · rw [if_neg (by decide), if_neg (by decide)]
  · have hS := (isShop_iff l).1 h
    have hl := hS.le
    have hp := pow10 hl
    have h0 : 0 < 2 ^ l.length := Nat.two_pow_pos _
    have e : wrap64 ((shl .i64 1 (l.length : Int)) - 1) = ((full l : Nat) : Int) := by
      rw [bShl l.length (by omega), w64 (by omega) (by omega)]
      unfold full
      omega
    rw [if_pos rfl, if_pos rfl, e, most_f hS _ (full_lt l) k (by omega), Option.bind_some]
    have := rows_at hS l.length 0 (by omega) (full l) [] (full_lt l) (by simp only [List.length_nil]; omega) k (by omega)
    exact this
theorem pairs_l0' (a : List S43) (ha : a.length ≤ 1000) : ∀ (m i k : Nat), i + m = a.length → m + 1 ≤ k → clochelaw03_pairs.l0 k a a (i : Int) = some true
  | 0, i, k, hi, hk => by
    obtain ⟨k, rfl, _⟩ := succK (show 0 < k by omega)
    rw [clochelaw03_pairs.l0, if_neg (by omega)]
  | m + 1, i, k, hi, hk => by
    obtain ⟨k, rfl, _⟩ := succK (show 0 < k by omega)
    rw [clochelaw03_pairs.l0, if_pos (by omega), if_pos (by omega), if_pos (by omega), inc64 i (by omega), pairs_l0' a ha m (i + 1) k (by omega) (by omega)]
    simp
theorem pairs_same (a : List S43) (ha : a.length ≤ 1000) (k : Nat) (hk : 1100 ≤ k) : clochelaw03_pairs.f k a a = some true := by
  unfold clochelaw03_pairs.f
  rw [if_pos rfl]
  exact pairs_l0' a ha a.length 0 k (by omega) (by omega)
theorem first_short {l : List Int} : (firstV l).1.length ≤ 10 := by
  unfold firstV
  cases h : isShop l
  · rw [if_neg (by decide)]; exact Nat.zero_le _
  · have hS := (isShop_iff l).1 h
    rw [if_pos rfl]
    show (first1 l).length ≤ 10
    rw [first_length hS]
    exact nu_small hS
theorem rIsMatching_f (l : List Int) (p : List S43) (hp : p.length ≤ 1000) (k : Nat) (hk : 1100 ≤ k) : clocheref03_IsMatching.f k l p = some (matV l p) := by
  unfold clocheref03_IsMatching.f matV
  rw [IsShop_f l k (by omega), Option.bind_some]
  cases h : isShop l
  · rw [if_neg (by decide), if_neg (by decide)]
  · rw [if_pos rfl, if_pos rfl, rmat_f ((isShop_iff l).1 h) p hp k hk, Option.bind_some]
theorem vIsShop_f (l : List Int) (k : Nat) (hk : 300 ≤ k) : visits_IsShop.f k l = some (isShop l) := by
  unfold visits_IsShop.f
  rw [read_f l k hk, Option.bind_some]
theorem same_l0 (a : List Int) (ha : a.length ≤ 1000) : ∀ (m i k : Nat), i + m = a.length → m + 1 ≤ k → clochelaw03_same.l0 k a a (i : Int) = some true
  | 0, i, k, hi, hk => by
    obtain ⟨k, rfl, _⟩ := succK (show 0 < k by omega)
    rw [clochelaw03_same.l0, if_neg (by omega)]
  | m + 1, i, k, hi, hk => by
    obtain ⟨k, rfl, _⟩ := succK (show 0 < k by omega)
    rw [clochelaw03_same.l0, if_pos (by omega), if_pos (by omega), if_pos (by omega), if_pos rfl, inc64 i (by omega), same_l0 a ha m (i + 1) k (by omega) (by omega)]
theorem same_f (a : List Int) (ha : a.length ≤ 1000) (k : Nat) (hk : 1100 ≤ k) : clochelaw03_same.f k a a = some true := by
  unfold clochelaw03_same.f
  rw [if_pos rfl]
  exact same_l0 a ha a.length 0 k (by omega) (by omega)
theorem VisitsMatchings (l : List Int) (p : List S43) : ∃ k, clochelaw03_VisitsMatchings.f k l p = some true := by
  refine ⟨60001, ?_⟩
  unfold clochelaw03_VisitsMatchings.f
  rw [few_f, Option.bind_some]
  by_cases h : (decide (l.length ≤ 40) && decide (p.length ≤ 40)) = true
  · have hp : l.length ≤ 40 ∧ p.length ≤ 40 := by
      rw [Bool.and_eq_true] at h
      exact ⟨of_decide_eq_true h.1, of_decide_eq_true h.2⟩
    have hs := first_short (l := l)
    rw [if_pos h, Option.bind_some, if_pos (by simp only [List.length_nil]; omega), Option.bind_some, Option.bind_some, if_pos (by simp only [List.length_nil]; omega), List.nil_append, List.nil_append,
      vIsShop_f l 60001 (by decide), Option.bind_some, IsShop_f l 60001 (by decide), Option.bind_some, if_neg (by cases isShop l <;> decide), vLargest_f l 60001 (by decide), Option.bind_some,
      rLargest_f l 60001 (by decide), Option.bind_some, pairs_same _ (by omega) 60001 (by decide), Option.bind_some, if_pos rfl, clochelaw03_VisitsMatchings.j0, if_neg (by simp),
      vIsMatching_f l p (by omega) 60000 (by decide), Option.bind_some, rIsMatching_f l p (by omega) 60000 (by decide), Option.bind_some, if_pos (by simp), if_pos rfl,
      same_f l (by omega) 60000 (by decide), Option.bind_some, if_pos rfl, pairs_same p (by omega) 60000 (by decide), Option.bind_some, if_pos rfl, alive_f 60000 (by decide), Option.bind_some]
  · rw [if_neg h, alive_f 60001 (by decide), Option.bind_some]
end Go.Proofs.YtadfcplobidmeaaDoor.Pure
