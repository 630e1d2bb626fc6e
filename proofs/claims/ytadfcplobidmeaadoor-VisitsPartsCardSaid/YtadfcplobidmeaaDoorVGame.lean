/- The visits' plain laws: the game; wins and move of the program. -/
import Derived.Test.YtadfcplobidmeaaDoorVShop
import Derived.Test.YtadfcplobidmeaaDoorPrintx7
import Derived.Test.YtadfcplobidmeaaDoorPrintx8
namespace Go.Proofs.YtadfcplobidmeaaDoor.Pure
open Go.RowKit Go.Proofs.YtadfcplobidmeaaDoor.Print Go.Proofs.YtadfcplobidmeaaDoorW.PrintWords Go.Proofs.YtadfcplobidmeaaDoorW.PrintLast Go.Proofs.YtadfcplobidmeaaDoorW.PrintMore
theorem getD_set (M : List Int) (a i : Nat) (z : Int) (h : a < M.length) : (M.set a z).getD i 0 = if i = a then z else M.getD i 0 := by
  rw [List.getD_eq_getElem?_getD, List.getElem?_set]
  by_cases e : a = i
  · subst e
    rw [if_pos rfl, if_pos h, if_pos rfl]
    rfl
  · rw [if_neg e, if_neg (fun h => e h.symm), ← List.getD_eq_getElem?_getD]
/-- a bit of a set with one hat more. -/
theorem or_bit (V k i : Nat) : (V ||| 2 ^ k).testBit i = (V.testBit i || decide (k = i)) := by
  rw [Nat.testBit_or, Nat.testBit_two_pow]
theorem or_lt {V k n : Nat} (h : V < 2 ^ n) (hk : k < n) : V ||| 2 ^ k < 2 ^ n := Nat.or_lt_two_pow h (Nat.pow_lt_pow_right (by decide) hk)
theorem or_gt {V k : Nat} (h : V.testBit k = false) : V < V ||| 2 ^ k := by
  have h1 : V ≤ V ||| 2 ^ k := Nat.left_le_or
  rcases Nat.lt_or_eq_of_le h1 with h2 | h2
  · exact h2
  · have := congrArg (fun z => z.testBit k) h2
    simp only [or_bit, h, decide_true, Bool.or_true] at this
    exact absurd this (by decide)
/-- does the one win who moves next? -/
def win (l : List Int) : Nat → Nat → Nat → Bool
  | 0, _, _ => false
  | d + 1, V, x => (List.range l.length).any fun k => (adj l x k && !V.testBit k) && !win l d (V ||| 2 ^ k) k
def gw (l : List Int) (V x : Nat) : Bool := win l (2 ^ l.length) V x
def cw (l : List Int) (V x k : Nat) : Bool := (adj l x k && !V.testBit k) && !gw l (V ||| 2 ^ k) k
theorem any_congr {α : Type} (p q : α → Bool) : ∀ (l : List α), (∀ x ∈ l, p x = q x) → l.any p = l.any q
  | [], _ => rfl
  | a :: l, h => by
    rw [List.any_cons, List.any_cons, h a List.mem_cons_self, any_congr p q l (fun x hx => h x (List.mem_cons_of_mem _ hx))]
theorem win_ind (l : List Int) : ∀ d d' V x, V < 2 ^ l.length → 2 ^ l.length ≤ V + d → 2 ^ l.length ≤ V + d' → win l d V x = win l d' V x
  | 0, d', V, x, hV, hd, hd' => by omega
  | d + 1, 0, V, x, hV, hd, hd' => by omega
  | d + 1, d' + 1, V, x, hV, hd, hd' => by
    unfold win
    refine any_congr _ _ _ fun k hk => ?_
    have hk := List.mem_range.1 hk
    cases hb : V.testBit k
    · have h1 := or_gt hb
      rw [win_ind l d d' (V ||| 2 ^ k) k (or_lt hV hk) (by omega) (by omega)]
    · simp
theorem gw_eq (l : List Int) (V x : Nat) (hV : V < 2 ^ l.length) : gw l V x = (List.range l.length).any (cw l V x) := by
  unfold gw
  have hp : 0 < 2 ^ l.length := Nat.two_pow_pos _
  obtain ⟨d, hd⟩ : ∃ d, 2 ^ l.length = d + 1 := ⟨2 ^ l.length - 1, by omega⟩
  have : win l (2 ^ l.length) V x = win l (d + 1) V x := by rw [hd]
  rw [this]
  unfold win
  refine any_congr _ _ _ fun k hk => ?_
  have hk := List.mem_range.1 hk
  unfold cw gw
  cases hb : V.testBit k
  · have h1 := or_gt hb
    rw [win_ind l d (2 ^ l.length) (V ||| 2 ^ k) k (or_lt hV hk) (by omega) (by omega)]
  · simp
theorem gw_iff (l : List Int) (V x : Nat) (hV : V < 2 ^ l.length) : gw l V x = true ↔ ∃ k, k < l.length ∧ cw l V x k = true := by
  rw [gw_eq l V x hV, List.any_eq_true]
  exact ⟨fun ⟨k, h1, h2⟩ => ⟨k, List.mem_range.1 h1, h2⟩, fun ⟨k, h1, h2⟩ => ⟨k, List.mem_range.2 h1, h2⟩⟩
/-- the first number that p holds of, or -1. -/
def firstI (p : Nat → Bool) (j : Nat) : Nat → Int
  | 0 => -1
  | m + 1 => if p j = true then (j : Int) else firstI p (j + 1) m
theorem firstI_ge (p : Nat → Bool) : ∀ m j, (firstI p j m ≥ 0) ↔ ∃ i, j ≤ i ∧ i < j + m ∧ p i = true
  | 0, j => by
    simp only [firstI]
    constructor
    · intro h; omega
    · rintro ⟨i, h1, h2, _⟩; omega
  | m + 1, j => by
    simp only [firstI]
    by_cases h : p j = true
    · rw [if_pos h]
      exact ⟨fun _ => ⟨j, Nat.le_refl _, by omega, h⟩, fun _ => by omega⟩
    · rw [if_neg h, firstI_ge p m (j + 1)]
      constructor
      · rintro ⟨i, h1, h2, h3⟩; exact ⟨i, by omega, by omega, h3⟩
      · rintro ⟨i, h1, h2, h3⟩
        have : i ≠ j := fun e => h (e ▸ h3)
        exact ⟨i, by omega, by omega, h3⟩
theorem firstI_or (p : Nat → Bool) : ∀ m j, firstI p j m = -1 ∨ ∃ i, j ≤ i ∧ i < j + m ∧ p i = true ∧ firstI p j m = (i : Int)
  | 0, j => Or.inl rfl
  | m + 1, j => by
    simp only [firstI]
    by_cases h : p j = true
    · rw [if_pos h]
      exact Or.inr ⟨j, Nat.le_refl _, by omega, h, rfl⟩
    · rw [if_neg h]
      rcases firstI_or p m (j + 1) with h1 | ⟨i, h1, h2, h3, h4⟩
      · exact Or.inl h1
      · exact Or.inr ⟨i, by omega, by omega, h3, h4⟩
theorem firstI_gw (l : List Int) (V x : Nat) (hV : V < 2 ^ l.length) : decide (firstI (cw l V x) 0 l.length ≥ 0) = gw l V x := by
  refine bEq ?_
  rw [decide_eq_true_eq, firstI_ge, gw_iff l V x hV]
  exact ⟨fun ⟨i, _, h2, h3⟩ => ⟨i, by omega, h3⟩, fun ⟨i, h2, h3⟩ => ⟨i, Nat.zero_le _, by omega, h3⟩⟩
/-- the test: k goes with x and is not visited. -/
theorem testA {l : List Int} (hS : Shop l) (V x k : Nat) (hV : V < 2 ^ l.length) (hx : x < l.length) (hk : k < l.length) :
    Go.bits .and .i64 (shr .i64 (Go.bits .andNot .i64 (rd l (x : Int)) (V : Int)) (k : Int)) 1 = ((adj l x k && !V.testBit k).toNat : Int) := by
  have hp := pow10 hS.le
  have hr := hS.row_lt hx
  have hl := hS.le
  have hs := sd_le (row l x) V
  rw [rdn, hS.row hx, bDiff _ _ (by omega) (by omega), bitA _ _ (by omega) (by omega), sd_bit]
  rfl
theorem testT {l : List Int} (hS : Shop l) (V x k : Nat) (hV : V < 2 ^ l.length) (hx : x < l.length) (hk : k < l.length) :
    Int.tmod (shr .i64 (Go.bits .andNot .i64 (rd l (x : Int)) (V : Int)) (k : Int)) 2 = ((adj l x k && !V.testBit k).toNat : Int) := by
  have hp := pow10 hS.le
  have hr := hS.row_lt hx
  have hl := hS.le
  rw [rdn, hS.row hx, bDiff _ _ (by omega) (by omega), bitT _ _ (by omega), sd_bit]
  rfl
theorem orI {l : List Int} (hS : Shop l) (V k : Nat) (hV : V < 2 ^ l.length) (hk : k < l.length) :
    Go.bits .or .i64 (V : Int) (shl .i64 1 (k : Int)) = ((V ||| 2 ^ k : Nat) : Int) := by
  have hp := pow10 hS.le
  have hl := hS.le
  rw [bShl k (by omega), bOr _ _ (by omega) (Nat.pow_lt_pow_right (by decide) (show k < 62 by omega))]
theorem move_l0 {l : List Int} (hS : Shop l) : ∀ (N V x : Nat), V < 2 ^ l.length → x < l.length → 2 ^ l.length ≤ V + N → ∀ (m j k : Nat), j + m = l.length → 20 * N + m + 1 ≤ k →
    visits_shop_move.l0 k l (V : Int) (x : Int) (l.length : Int) (j : Int) = some (firstI (cw l V x) j m)
  | 0, V, x, hV, hx, hN, m, j, k, hj, hk => by omega
  | N + 1, V, x, hV, hx, hN, 0, j, k, hj, hk => by
    obtain ⟨k, rfl, _⟩ := succK (show 0 < k by omega)
    simp only [visits_shop_move.l0]
    rw [if_neg (by omega)]
    rfl
  | N + 1, V, x, hV, hx, hN, m + 1, j, k, hj, hk => by
    obtain ⟨k, rfl, _⟩ := succK (show 0 < k by omega)
    have hl := hS.le
    simp only [visits_shop_move.l0]
    rw [if_pos (by omega), if_pos (by omega), if_pos (by omega), if_pos (by omega), testA hS V x j hV hx (by omega), orI hS V j hV (by omega), inc64 j (by omega),
      move_l0 hS (N + 1) V x hV hx hN m (j + 1) k (by omega) (by omega)]
    simp only [firstI]
    by_cases c : (adj l x j && !V.testBit j) = true
    · have hb : V.testBit j = false := by
        rw [Bool.and_eq_true] at c
        simpa using c.2
      have hg := or_gt hb
      have h1 := move_l0 hS N (V ||| 2 ^ j) j (or_lt hV (by omega)) (by omega) (by omega) l.length 0 k (by omega) (by omega)
      rw [show ((0 : Nat) : Int) = 0 from rfl] at h1
      rw [if_pos ((tn1 _).2 c), h1, Option.bind_some, Option.bind_some, firstI_gw l _ _ (or_lt hV (by omega))]
      have e : cw l V x j = !gw l (V ||| 2 ^ j) j := by unfold cw; rw [c, Bool.true_and]
      rw [e]
      cases gw l (V ||| 2 ^ j) j
      · rw [if_neg (by decide), if_pos (by decide)]
      · rw [if_pos rfl, if_neg (by decide)]
    · have e : cw l V x j = false := by unfold cw; rw [Bool.eq_false_iff.2 c, Bool.false_and]
      rw [if_neg (fun h => c ((tn1 _).1 h)), e, if_neg (by decide)]
theorem move_f {l : List Int} (hS : Shop l) (V x k : Nat) (hV : V < 2 ^ l.length) (hx : x < l.length) (hk : 30000 ≤ k) :
    visits_shop_move.f k l (V : Int) (x : Int) = some (firstI (cw l V x) 0 l.length) := by
  have hp := pow10 hS.le
  have hl := hS.le
  have := move_l0 hS (2 ^ l.length) V x hV hx (by omega) l.length 0 k (by omega) (by omega)
  rw [show ((0 : Nat) : Int) = 0 from rfl] at this
  exact this
theorem wins_f {l : List Int} (hS : Shop l) (V x k : Nat) (hV : V < 2 ^ l.length) (hx : x < l.length) (hk : 30000 ≤ k) :
    visits_shop_wins.f k l (V : Int) (x : Int) = some (gw l V x) := by
  unfold visits_shop_wins.f
  rw [move_f hS V x k hV hx hk, Option.bind_some, firstI_gw l V x hV]
/-- does (V, x) stand in the game? -/
def askB (l : List Int) (a1 a2 : Int) : Bool := isShop l && decide (0 ≤ a1 ∧ a1 < ((2 ^ l.length : Nat) : Int) ∧ 0 ≤ a2 ∧ a2 < (l.length : Int)) && a1.toNat.testBit a2.toNat
theorem all_f (l : List Int) (h : l.length ≤ 10) : visits_shop_all.f l = some (((2 ^ l.length - 1 : Nat)) : Int) := by
  unfold visits_shop_all.f
  have hp := pow10 h
  have h0 : 0 < 2 ^ l.length := Nat.two_pow_pos _
  rw [bShl l.length (by omega), w64 (by omega) (by omega)]
  congr 1
  omega
theorem asked_f (l : List Int) (a1 a2 : Int) (k : Nat) (hk : 300 ≤ k) : visits_asked.f k l a1 a2 = some (askB l a1 a2) := by
  unfold visits_asked.f askB
  rw [read_f l k hk, Option.bind_some]
  cases h : isShop l
  · rw [if_neg (by decide)]
    rfl
  · have hS := (isShop_iff l).1 h
    have hp := pow10 hS.le
    have hl := hS.le
    have h0 : 0 < 2 ^ l.length := Nat.two_pow_pos _
    rw [if_pos rfl, all_f l hl, Option.bind_some]
    by_cases c1 : a1 ≥ 0
    · rw [if_pos c1]
      by_cases c2 : a1 ≤ ((2 ^ l.length - 1 : Nat) : Int)
      · rw [if_pos c2]
        by_cases c3 : a2 ≥ 0
        · rw [if_pos c3]
          by_cases c4 : a2 < (l.length : Int)
          · rw [if_pos c4, if_pos c3]
            obtain ⟨V, rfl⟩ : ∃ V : Nat, a1 = V := ⟨a1.toNat, by omega⟩
            obtain ⟨x, rfl⟩ : ∃ x : Nat, a2 = x := ⟨a2.toNat, by omega⟩
            rw [bitA V x (by omega) (by omega), decide_eq_true (by refine ⟨?_, ?_, ?_, ?_⟩ <;> omega), Int.toNat_natCast, Int.toNat_natCast]
            cases V.testBit x <;> rfl
          · rw [if_neg c4, decide_eq_false (fun h => c4 h.2.2.2)]
            simp
        · rw [if_neg c3, decide_eq_false (fun h => c3 h.2.2.1)]
          simp
      · rw [if_neg c2, decide_eq_false (fun h => c2 (by omega))]
        simp
    · rw [if_neg c1, decide_eq_false (fun h => c1 h.1)]
      simp
theorem askB_at {l : List Int} {a1 a2 : Int} (h : askB l a1 a2 = true) : Shop l ∧ ∃ V x : Nat, a1 = V ∧ a2 = x ∧ V < 2 ^ l.length ∧ x < l.length ∧ V.testBit x = true := by
  unfold askB at h
  simp only [Bool.and_eq_true, decide_eq_true_eq] at h
  obtain ⟨⟨h1, h2, h3, h4, h5⟩, h6⟩ := h
  exact ⟨(isShop_iff l).1 h1, a1.toNat, a2.toNat, by omega, by omega, by omega, by omega, h6⟩
end Go.Proofs.YtadfcplobidmeaaDoor.Pure
