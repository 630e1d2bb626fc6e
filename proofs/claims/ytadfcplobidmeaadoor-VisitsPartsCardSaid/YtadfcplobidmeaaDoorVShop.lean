/- The visits' plain laws: read and IsShop say whether it is a shop. -/
import Derived.Test.YtadfcplobidmeaaDoorVBase
namespace Go.Proofs.YtadfcplobidmeaaDoor.Pure
open Go.RowKit Go.Proofs.YtadfcplobidmeaaDoor.Print Go.Proofs.YtadfcplobidmeaaDoorW.PrintWords Go.Proofs.YtadfcplobidmeaaDoorW.PrintLast Go.Proofs.YtadfcplobidmeaaDoorW.PrintMore
def allFrom (p : Nat → Bool) (i : Nat) : Nat → Bool
  | 0 => true
  | n + 1 => p i && allFrom p (i + 1) n
theorem allFrom_iff (p : Nat → Bool) : ∀ n i, allFrom p i n = true ↔ ∀ j, i ≤ j → j < i + n → p j = true
  | 0, i => by
    simp only [allFrom, true_iff]
    intro j h1 h2
    omega
  | n + 1, i => by
    simp only [allFrom, Bool.and_eq_true]
    rw [allFrom_iff p n (i + 1)]
    constructor
    · rintro ⟨h1, h2⟩ j hj1 hj2
      by_cases h : j = i
      · subst h; exact h1
      · exact h2 j (by omega) (by omega)
    · exact fun h => ⟨h i (Nat.le_refl _) (by omega), fun j h1 h2 => h j (by omega) (by omega)⟩
theorem allFrom0 (p : Nat → Bool) (n : Nat) : allFrom p 0 n = true ↔ ∀ j, j < n → p j = true := by
  rw [allFrom_iff]
  exact ⟨fun h j hj => h j (Nat.zero_le _) (by omega), fun h j _ hj => h j (by omega)⟩
def bI (x : Int) (k : Nat) : Int := Go.bits .and .i64 (shr .i64 x (k : Int)) 1
def tI (x : Int) (k : Nat) : Int := Int.tmod (shr .i64 x (k : Int)) 2
def q1 (l : List Int) (i : Nat) : Bool := decide (0 ≤ l.getD i 0) && decide (l.getD i 0 < ((2 ^ l.length : Nat) : Int)) && !(bI (l.getD i 0) i == 1)
def q2 (l : List Int) (i : Nat) : Bool := decide (0 ≤ l.getD i 0) && decide (l.getD i 0 < ((2 ^ l.length : Nat) : Int)) && !decide (tI (l.getD i 0) i = 1)
theorem q1_iff (l : List Int) (hl : l.length ≤ 10) (i : Nat) (hi : i < l.length) : q1 l i = true ↔ rowOk l i := by
  unfold q1 rowOk adj row
  have hp := pow10 hl
  by_cases h0 : 0 ≤ l.getD i 0
  · by_cases h1 : l.getD i 0 < ((2 ^ l.length : Nat) : Int)
    · generalize l.getD i 0 = x at h0 h1 ⊢
      obtain ⟨m, rfl⟩ : ∃ m : Nat, x = m := ⟨x.toNat, by omega⟩
      have hm : m < 2 ^ l.length := Int.ofNat_lt.1 h1
      simp only [h0, h1, decide_true, Bool.true_and, true_and, Int.toNat_natCast, bI]
      rw [bitA m i (by omega) (by omega)]
      cases m.testBit i <;> decide
    · simp only [h1, decide_false, Bool.and_false, Bool.false_and]
      constructor
      · intro h; exact absurd h (by decide)
      · intro h; exact absurd h.2.1 (by simp)
  · simp only [h0, decide_false, Bool.false_and]
    constructor
    · intro h; exact absurd h (by decide)
    · intro h; exact absurd h.1 (by simp)
theorem q2_iff (l : List Int) (hl : l.length ≤ 10) (i : Nat) (hi : i < l.length) : q2 l i = true ↔ rowOk l i := by
  unfold q2 rowOk adj row
  have hp := pow10 hl
  by_cases h0 : 0 ≤ l.getD i 0
  · by_cases h1 : l.getD i 0 < ((2 ^ l.length : Nat) : Int)
    · generalize l.getD i 0 = x at h0 h1 ⊢
      obtain ⟨m, rfl⟩ : ∃ m : Nat, x = m := ⟨x.toNat, by omega⟩
      have e : tI (m : Int) i = ((m.testBit i).toNat : Int) := bitT m i (by omega)
      simp only [h0, h1, decide_true, Bool.true_and, true_and, Int.toNat_natCast, e]
      cases m.testBit i <;> decide
    · simp only [h1, decide_false, Bool.and_false, Bool.false_and]
      constructor
      · intro h; exact absurd h (by decide)
      · intro h; exact absurd h.2.1 (by simp)
  · simp only [h0, decide_false, Bool.false_and]
    constructor
    · intro h; exact absurd h (by decide)
    · intro h; exact absurd h.1 (by simp)
theorem bI_ok (l : List Int) (hl : l.length ≤ 10) (i k : Nat) (_ : i < l.length) (hk : k < l.length) (h : rowOk l i) : bI (l.getD i 0) k = ((adj l i k).toNat : Int) := by
  have hp := pow10 hl
  have e : l.getD i 0 = ((row l i : Nat) : Int) := by have := h.1; unfold row; omega
  have h2 := h.2.1
  rw [e] at h2
  have := Int.ofNat_lt.1 h2
  unfold bI
  rw [e, bitA _ _ (by omega) (by omega)]
  rfl
theorem tI_ok (l : List Int) (hl : l.length ≤ 10) (i k : Nat) (hk : k < l.length) (h : rowOk l i) : tI (l.getD i 0) k = ((adj l i k).toNat : Int) := by
  have e : l.getD i 0 = ((row l i : Nat) : Int) := by have := h.1; unfold row; omega
  unfold tI
  rw [e, bitT _ _ (by omega)]
  rfl
/-- the whole look of read, from row i on. -/
def looks (l : List Int) : Nat → Bool := fun i => q1 l i && allFrom (fun j => decide (bI (l.getD i 0) j = bI (l.getD j 0) i)) 0 l.length
theorem read_l1 (l : List Int) (hl : l.length ≤ 10) (i : Nat) (hi : i < l.length) (v : Bool) (F : Nat) (hv : ∀ k, F ≤ k → visits_read.l0 k l l (l.length : Int) ((i + 1 : Nat) : Int) = some v) :
    ∀ m j k, j + m = l.length → F + m + 1 ≤ k → visits_read.l1 k l (i : Int) (l.getD i 0) l (l.length : Int) (i : Int) l (l.length : Int) (j : Int) = some (allFrom (fun j => decide (bI (l.getD i 0) j = bI (l.getD j 0) i)) j m && v)
  | 0, j, k, hj, hk => by
    obtain ⟨k, rfl, _⟩ := succK (show 0 < k by omega)
    simp only [visits_read.l1]
    rw [if_neg (by omega), inc64 i (by omega), hv k (by omega)]
    rfl
  | m + 1, j, k, hj, hk => by
    obtain ⟨k, rfl, _⟩ := succK (show 0 < k by omega)
    simp only [visits_read.l1]
    rw [if_pos (by omega), if_pos (by omega), if_pos (by omega), if_pos (by omega), rdn]
    show (if bI (l.getD i 0) j = bI (l.getD j 0) i then _ else _) = _
    by_cases h : bI (l.getD i 0) j = bI (l.getD j 0) i
    · rw [if_pos h, inc64 j (by omega), read_l1 l hl i hi v F hv m (j + 1) k (by omega) (by omega)]
      simp only [allFrom, h, decide_true, Bool.true_and]
    · rw [if_neg h]
      simp only [allFrom, h, decide_false, Bool.false_and]
theorem read_l0 (l : List Int) (hl : l.length ≤ 10) : ∀ m i k, i + m = l.length → 20 * m + 1 ≤ k → visits_read.l0 k l l (l.length : Int) (i : Int) = some (allFrom (looks l) i m)
  | 0, i, k, hi, hk => by
    obtain ⟨k, rfl, _⟩ := succK (show 0 < k by omega)
    simp only [visits_read.l0]
    rw [if_neg (by omega)]
    rfl
  | m + 1, i, k, hi, hk => by
    obtain ⟨k, rfl, _⟩ := succK (show 0 < k by omega)
    obtain ⟨k, rfl, _⟩ := succK (show 0 < k by omega)
    have hp := pow10 hl
    simp only [visits_read.l0]
    rw [if_pos (by omega), if_pos (by omega), if_pos (by omega), rdn, bShl l.length (by omega)]
    have h1 := read_l1 l hl i (by omega) (allFrom (looks l) (i + 1) m) (20 * m + 1) (fun k hk => read_l0 l hl m (i + 1) k (by omega) hk) l.length 0 k (by omega) (by omega)
    rw [show ((0 : Nat) : Int) = 0 from rfl] at h1
    simp only [visits_read.j2, h1]
    simp only [allFrom, looks, q1]
    by_cases c1 : l.getD i 0 < 0
    · rw [if_pos c1, if_pos trivial, decide_eq_false (show ¬ 0 ≤ l.getD i 0 by omega)]
      simp only [Bool.false_and]
    · rw [if_neg c1, decide_eq_true (show 0 ≤ l.getD i 0 by omega)]
      by_cases c2 : l.getD i 0 ≥ ((2 ^ l.length : Nat) : Int)
      · rw [if_pos c2, if_pos trivial, decide_eq_false (show ¬ l.getD i 0 < ((2 ^ l.length : Nat) : Int) by omega)]
        simp only [Bool.false_and, Bool.true_and]
      · rw [if_neg c2, decide_eq_true (show l.getD i 0 < ((2 ^ l.length : Nat) : Int) by omega)]
        show (if (bI (l.getD i 0) i == 1) = true then some false else _) = some (true && true && !(bI (l.getD i 0) i == 1) && _ && _)
        cases bI (l.getD i 0) i == 1
        · rw [if_neg (by decide)]
          simp only [Bool.true_and, Bool.not_false]
        · rw [if_pos rfl]
          simp only [Bool.true_and, Bool.not_true, Bool.false_and]
theorem looks_iff (l : List Int) (hl : l.length ≤ 10) (h1 : 1 ≤ l.length) : allFrom (looks l) 0 l.length = true ↔ Shop l := by
  rw [allFrom0]
  constructor
  · intro h
    have ho : ∀ i, i < l.length → rowOk l i := fun i hi => by
      have := h i hi
      simp only [looks, Bool.and_eq_true] at this
      exact (q1_iff l hl i hi).1 this.1
    refine ⟨h1, hl, ho, fun i k hi hk => ?_⟩
    have := h i hi
    simp only [looks, Bool.and_eq_true] at this
    have := of_decide_eq_true ((allFrom0 _ _).1 this.2 k hk)
    rw [bI_ok l hl i k hi hk (ho i hi), bI_ok l hl k i hk hi (ho k hk)] at this
    exact (tnE _ _).1 this
  · intro h i hi
    simp only [looks, Bool.and_eq_true]
    refine ⟨(q1_iff l hl i hi).2 (h.ok i hi), (allFrom0 _ _).2 fun k hk => decide_eq_true ?_⟩
    rw [bI_ok l hl i k hi hk (h.ok i hi), bI_ok l hl k i hk hi (h.ok k hk), h.sym i k hi hk]
theorem bEq {a b : Bool} (h : a = true ↔ b = true) : a = b := by cases a <;> cases b <;> simp_all
theorem read_f (l : List Int) (k : Nat) (hk : 300 ≤ k) : visits_read.f k l = some (isShop l) := by
  unfold visits_read.f
  obtain ⟨k, rfl, _⟩ := succK (show 0 < k by omega)
  simp only [visits_read.j0]
  by_cases h1 : l.length = 0
  · rw [if_pos (by omega), if_pos trivial]
    congr 1
    refine (Bool.eq_false_iff.2 fun h => ?_).symm
    have := ((isShop_iff l).1 h).pos
    omega
  · rw [if_neg (by omega)]
    by_cases h2 : l.length ≤ 10
    · rw [if_neg (by simpa using by omega)]
      have := read_l0 l h2 l.length 0 k (by omega) (by omega)
      rw [show ((0 : Nat) : Int) = 0 from rfl] at this
      rw [this]
      congr 1
      exact bEq ((looks_iff l h2 (by omega)).trans (isShop_iff l).symm)
    · rw [if_pos (by simpa using by omega)]
      congr 1
      refine (Bool.eq_false_iff.2 fun h => ?_).symm
      have := ((isShop_iff l).1 h).le
      omega
theorem ref_l2 (l : List Int) (hl : l.length ≤ 10) (i : Nat) (hi : i < l.length) (v : Bool) (F : Nat) (hv : ∀ k, F ≤ k → clocheref03_IsShop.l1 k l (l.length : Int) ((i + 1 : Nat) : Int) = some v) :
    ∀ m j k, j + m = l.length → F + m + 1 ≤ k → clocheref03_IsShop.l2 k l (l.length : Int) (i : Int) (j : Int) = some (allFrom (fun j => decide (tI (l.getD i 0) j = tI (l.getD j 0) i)) j m && v)
  | 0, j, k, hj, hk => by
    obtain ⟨k, rfl, _⟩ := succK (show 0 < k by omega)
    simp only [clocheref03_IsShop.l2]
    rw [if_neg (by omega), inc64 i (by omega), hv k (by omega)]
    rfl
  | m + 1, j, k, hj, hk => by
    obtain ⟨k, rfl, _⟩ := succK (show 0 < k by omega)
    simp only [clocheref03_IsShop.l2]
    rw [if_pos (by omega), if_pos (by omega), if_pos (by omega), if_pos (by omega), if_pos (by omega), rdn, rdn]
    show (if tI (l.getD i 0) j = tI (l.getD j 0) i then _ else _) = _
    by_cases h : tI (l.getD i 0) j = tI (l.getD j 0) i
    · rw [if_pos h, inc64 j (by omega), ref_l2 l hl i hi v F hv m (j + 1) k (by omega) (by omega)]
      simp only [allFrom, h, decide_true, Bool.true_and]
    · rw [if_neg h]
      simp only [allFrom, h, decide_false, Bool.false_and]
theorem ref_l1 (l : List Int) (hl : l.length ≤ 10) : ∀ m i k, i + m = l.length → 20 * m + 1 ≤ k → clocheref03_IsShop.l1 k l (l.length : Int) (i : Int) = some (allFrom (fun i => allFrom (fun j => decide (tI (l.getD i 0) j = tI (l.getD j 0) i)) 0 l.length) i m)
  | 0, i, k, hi, hk => by
    obtain ⟨k, rfl, _⟩ := succK (show 0 < k by omega)
    simp only [clocheref03_IsShop.l1]
    rw [if_neg (by omega)]
    rfl
  | m + 1, i, k, hi, hk => by
    obtain ⟨k, rfl, _⟩ := succK (show 0 < k by omega)
    simp only [clocheref03_IsShop.l1]
    rw [if_pos (by omega)]
    have h1 := ref_l2 l hl i (by omega) _ (20 * m + 1) (fun k hk => ref_l1 l hl m (i + 1) k (by omega) hk) l.length 0 k (by omega) (by omega)
    rw [show ((0 : Nat) : Int) = 0 from rfl] at h1
    rw [h1]
    simp only [allFrom]
theorem ref_l0 (l : List Int) (hl : l.length ≤ 10) (v : Bool) (F : Nat) (hv : ∀ k, F ≤ k → clocheref03_IsShop.l1 k l (l.length : Int) 0 = some v) : ∀ m i k, i + m = l.length → F + m + 1 ≤ k → clocheref03_IsShop.l0 k l (l.length : Int) (i : Int) = some (allFrom (q2 l) i m && v)
  | 0, i, k, hi, hk => by
    obtain ⟨k, rfl, _⟩ := succK (show 0 < k by omega)
    simp only [clocheref03_IsShop.l0]
    rw [if_neg (by omega), hv k (by omega)]
    rfl
  | m + 1, i, k, hi, hk => by
    obtain ⟨k, rfl, _⟩ := succK (show 0 < k by omega)
    simp only [clocheref03_IsShop.l0]
    have hp := pow10 hl
    rw [if_pos (by omega), if_pos (by omega), if_pos (by omega), if_pos (show (0 : Int) ≤ (l.length : Int) by omega), rdn, bShl l.length (by omega), inc64 i (by omega), ref_l0 l hl v F hv m (i + 1) k (by omega) (by omega)]
    simp only [allFrom, q2]
    by_cases c1 : l.getD i 0 < 0
    · rw [if_pos c1, decide_eq_false (show ¬ 0 ≤ l.getD i 0 by omega)]
      simp only [Bool.false_and]
    · rw [if_neg c1, decide_eq_true (show 0 ≤ l.getD i 0 by omega)]
      by_cases c2 : l.getD i 0 ≥ ((2 ^ l.length : Nat) : Int)
      · rw [if_pos c2, decide_eq_false (show ¬ l.getD i 0 < ((2 ^ l.length : Nat) : Int) by omega)]
        simp only [Bool.false_and, Bool.true_and]
      · rw [if_neg c2, decide_eq_true (show l.getD i 0 < ((2 ^ l.length : Nat) : Int) by omega)]
        show (if tI (l.getD i 0) i = 1 then some false else _) = _
        by_cases c3 : tI (l.getD i 0) i = 1
        · rw [if_pos c3, decide_eq_true c3]
          simp only [Bool.true_and, Bool.not_true, Bool.false_and]
        · rw [if_neg c3, decide_eq_false c3]
          simp only [Bool.true_and, Bool.not_false]
theorem IsShop_f (l : List Int) (k : Nat) (hk : 300 ≤ k) : clocheref03_IsShop.f k l = some (isShop l) := by
  unfold clocheref03_IsShop.f
  obtain ⟨k, rfl, _⟩ := succK (show 0 < k by omega)
  simp only [clocheref03_IsShop.j0]
  by_cases h1 : l.length = 0
  · rw [if_pos (by omega), if_pos trivial]
    congr 1
    refine (Bool.eq_false_iff.2 fun h => ?_).symm
    have := ((isShop_iff l).1 h).pos
    omega
  · rw [if_neg (by omega)]
    by_cases h2 : l.length ≤ 10
    · rw [if_neg (by simpa using by omega)]
      have hv := fun k hk => ref_l1 l h2 l.length 0 k (by omega) hk
      rw [show ((0 : Nat) : Int) = 0 from rfl] at hv
      have := ref_l0 l h2 _ _ hv l.length 0 k (by omega) (by omega)
      rw [show ((0 : Nat) : Int) = 0 from rfl] at this
      rw [this]
      congr 1
      refine bEq (Iff.trans ?_ (isShop_iff l).symm)
      rw [Bool.and_eq_true, allFrom0, allFrom0]
      constructor
      · rintro ⟨a, b⟩
        have ho : ∀ i, i < l.length → rowOk l i := fun i hi => (q2_iff l h2 i hi).1 (a i hi)
        refine ⟨by omega, h2, ho, fun i k hi hk => ?_⟩
        have := of_decide_eq_true ((allFrom0 _ _).1 (b i hi) k hk)
        rw [tI_ok l h2 i k hk (ho i hi), tI_ok l h2 k i hi (ho k hk)] at this
        exact (tnE _ _).1 this
      · intro h
        refine ⟨fun i hi => (q2_iff l h2 i hi).2 (h.ok i hi), fun i hi => (allFrom0 _ _).2 fun k hk => decide_eq_true ?_⟩
        rw [tI_ok l h2 i k hk (h.ok i hi), tI_ok l h2 k i hi (h.ok k hk), h.sym i k hi hk]
    · rw [if_pos (by simpa using by omega)]
      congr 1
      refine (Bool.eq_false_iff.2 fun h => ?_).symm
      have := ((isShop_iff l).1 h).le
      omega
end Go.Proofs.YtadfcplobidmeaaDoor.Pure
