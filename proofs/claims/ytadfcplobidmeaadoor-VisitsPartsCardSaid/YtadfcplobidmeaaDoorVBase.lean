/- The visits' plain laws: numbers, sets of hats as bits, shops. -/
import Derived.Test.YtadfcplobidmeaaDoorPrintx10
import Derived.Test.YtadfcplobidmeaaDoorPrintx11
namespace Go.Proofs.YtadfcplobidmeaaDoor.Pure
open Go.RowKit Go.Proofs.YtadfcplobidmeaaDoor.Print Go.Proofs.YtadfcplobidmeaaDoorW.PrintWords Go.Proofs.YtadfcplobidmeaaDoorW.PrintLast Go.Proofs.YtadfcplobidmeaaDoorW.PrintMore
theorem w64 {z : Int} (h1 : -9223372036854775808 ≤ z) (h2 : z ≤ 9223372036854775807) : wrap64 z = z := by
  unfold wrap64
  omega
theorem rdn (l : List Int) (i : Nat) : rd l (i : Int) = l.getD i 0 := by
  unfold rd
  rw [Int.toNat_natCast]
theorem succK {n k : Nat} (h : n < k) : ∃ k', k = k' + 1 ∧ n ≤ k' := ⟨k - 1, by omega, by omega⟩
theorem inc64 (i : Nat) (h : i ≤ 1000000000) : wrap64 ((i : Int) + 1) = ((i + 1 : Nat) : Int) := by
  rw [w64 (by omega) (by omega)]
  omega
theorem wrapN (n : Nat) (h : n < 9223372036854775808) : IntKind.i64.wrap (n : Int) = (n : Int) := by
  have : IntKind.i64.wrap (n : Int) = wrap64 n := i64_w _
  rw [this, w64 (by omega) (by omega)]
theorem ofIntN (n : Nat) (h : n < 9223372036854775808) : (BitVec.ofInt 64 (n : Int)).toNat = n := by
  rw [BitVec.ofInt_natCast, BitVec.toNat_ofNat]
  exact Nat.mod_eq_of_lt (by omega)
/-- the set difference of bits. -/
def sd (a b : Nat) : Nat := a &&& (a ^^^ b)
theorem sd_bit (a b i : Nat) : (sd a b).testBit i = (a.testBit i && !b.testBit i) := by
  unfold sd
  rw [Nat.testBit_and, Nat.testBit_xor]
  cases a.testBit i <;> cases b.testBit i <;> rfl
theorem and_le' (a b : Nat) : a &&& b ≤ a := Nat.and_le_left
theorem sd_le (a b : Nat) : sd a b ≤ a := Nat.and_le_left
theorem bAnd (a b : Nat) (ha : a < 4611686018427387904) (hb : b < 4611686018427387904) : Go.bits .and .i64 (a : Int) (b : Int) = ((a &&& b : Nat) : Int) := by
  unfold Go.bits
  show IntKind.i64.wrap (((BitVec.ofInt 64 (a : Int)) &&& (BitVec.ofInt 64 (b : Int))).toNat : Int) = _
  rw [BitVec.toNat_and, ofIntN a (by omega), ofIntN b (by omega)]
  exact wrapN _ (Nat.lt_of_le_of_lt Nat.and_le_left (by omega))
theorem bOr (a b : Nat) (ha : a < 4611686018427387904) (hb : b < 4611686018427387904) : Go.bits .or .i64 (a : Int) (b : Int) = ((a ||| b : Nat) : Int) := by
  unfold Go.bits
  show IntKind.i64.wrap (((BitVec.ofInt 64 (a : Int)) ||| (BitVec.ofInt 64 (b : Int))).toNat : Int) = _
  rw [BitVec.toNat_or, ofIntN a (by omega), ofIntN b (by omega)]
  exact wrapN _ (Nat.lt_of_lt_of_le (Nat.or_lt_two_pow (n := 62) ha hb) (by decide))
theorem bDiff (a b : Nat) (ha : a < 4611686018427387904) (hb : b < 4611686018427387904) : Go.bits .andNot .i64 (a : Int) (b : Int) = ((sd a b : Nat) : Int) := by
  unfold Go.bits
  show IntKind.i64.wrap (((BitVec.ofInt 64 (a : Int)) &&& ~~~(BitVec.ofInt 64 (b : Int))).toNat : Int) = _
  have h : ((BitVec.ofInt 64 (a : Int)) &&& ~~~(BitVec.ofInt 64 (b : Int))) = ((BitVec.ofInt 64 (a : Int)) &&& ((BitVec.ofInt 64 (a : Int)) ^^^ (BitVec.ofInt 64 (b : Int)))) := by
    apply BitVec.eq_of_getLsbD_eq
    intro i hi
    simp only [BitVec.getLsbD_and, BitVec.getLsbD_not, BitVec.getLsbD_xor, hi, decide_true, Bool.true_and]
    cases (BitVec.ofInt 64 (a : Int)).getLsbD i <;> cases (BitVec.ofInt 64 (b : Int)).getLsbD i <;> rfl
  rw [h, BitVec.toNat_and, BitVec.toNat_xor, ofIntN a (by omega), ofIntN b (by omega)]
  exact wrapN _ (Nat.lt_of_le_of_lt Nat.and_le_left (by omega))
theorem bShl (i : Nat) (h : i < 62) : shl .i64 1 (i : Int) = ((2 ^ i : Nat) : Int) := by
  unfold shl
  have e : min (i : Int).toNat IntKind.i64.bits = i := by
    show min (i : Int).toNat 64 = i
    rw [Int.toNat_natCast]; omega
  rw [e, Int.one_mul]
  have : ((2 : Int) ^ i) = ((2 ^ i : Nat) : Int) := by rw [Int.natCast_pow]; rfl
  rw [this]
  exact wrapN _ (Nat.lt_of_lt_of_le (Nat.pow_lt_pow_right (by decide) h) (by decide))
theorem bShr (a i : Nat) (h : i ≤ 64) : shr .i64 (a : Int) (i : Int) = ((a / 2 ^ i : Nat) : Int) := by
  unfold shr
  have e : min (i : Int).toNat IntKind.i64.bits = i := by
    show min (i : Int).toNat 64 = i
    rw [Int.toNat_natCast]; omega
  rw [e, Int.natCast_ediv, Int.natCast_pow]
  rfl
theorem tb_div (a i : Nat) : a / 2 ^ i % 2 = (a.testBit i).toNat := by
  have := Nat.toNat_testBit a i
  omega
theorem bitA (a i : Nat) (ha : a < 4611686018427387904) (h : i ≤ 64) : Go.bits .and .i64 (shr .i64 (a : Int) (i : Int)) 1 = ((a.testBit i).toNat : Int) := by
  rw [bShr a i h, show (1 : Int) = ((1 : Nat) : Int) from rfl, bAnd _ _ (Nat.lt_of_le_of_lt (Nat.div_le_self _ _) ha) (by decide), Nat.and_one_is_mod, tb_div]
theorem bitT (a i : Nat) (h : i ≤ 64) : Int.tmod (shr .i64 (a : Int) (i : Int)) 2 = ((a.testBit i).toNat : Int) := by
  rw [bShr a i h, show (2 : Int) = ((2 : Nat) : Int) from rfl, ← Int.ofNat_tmod, tb_div]
theorem tn1 (b : Bool) : ((b.toNat : Int) = 1) ↔ b = true := by cases b <;> decide
theorem tn0 (b : Bool) : ((b.toNat : Int) = 0) ↔ b = false := by cases b <;> decide
theorem tnE (a b : Bool) : ((a.toNat : Int) = (b.toNat : Int)) ↔ a = b := by cases a <;> cases b <;> decide
/-- the row i of a shop as bits. -/
def row (l : List Int) (i : Nat) : Nat := (l.getD i 0).toNat
/-- do i and k go with each other? -/
def adj (l : List Int) (i k : Nat) : Bool := (row l i).testBit k
def rowOk (l : List Int) (i : Nat) : Prop := 0 ≤ l.getD i 0 ∧ l.getD i 0 < ((2 ^ l.length : Nat) : Int) ∧ adj l i i = false
instance (l : List Int) (i : Nat) : Decidable (rowOk l i) := inferInstanceAs (Decidable (_ ∧ _))
structure Shop (l : List Int) : Prop where
  pos : 1 ≤ l.length
  le : l.length ≤ 10
  ok : ∀ i, i < l.length → rowOk l i
  sym : ∀ i k, i < l.length → k < l.length → adj l i k = adj l k i
def isShop (l : List Int) : Bool := decide (1 ≤ l.length) && decide (l.length ≤ 10) && (List.range l.length).all (fun i => decide (rowOk l i)) && (List.range l.length).all (fun i => (List.range l.length).all fun k => adj l i k == adj l k i)
theorem isShop_iff (l : List Int) : isShop l = true ↔ Shop l := by
  unfold isShop
  simp only [Bool.and_eq_true, decide_eq_true_eq, List.all_eq_true, List.mem_range, beq_iff_eq]
  constructor
  · rintro ⟨⟨⟨h1, h2⟩, h3⟩, h4⟩
    exact ⟨h1, h2, h3, fun i k hi hk => h4 i hi k hk⟩
  · rintro ⟨h1, h2, h3, h4⟩
    exact ⟨⟨⟨h1, h2⟩, h3⟩, fun i hi k hk => h4 i k hi hk⟩
theorem Shop.row {l : List Int} (h : Shop l) {i : Nat} (hi : i < l.length) : l.getD i 0 = ((row l i : Nat) : Int) := by
  have := (h.ok i hi).1
  unfold Pure.row
  omega
theorem Shop.row_lt {l : List Int} (h : Shop l) {i : Nat} (hi : i < l.length) : Pure.row l i < 2 ^ l.length := by
  have h1 := (h.ok i hi).2.1
  have h2 := h.row hi
  rw [h2] at h1
  exact Int.ofNat_lt.1 h1
theorem pow10 {n : Nat} (h : n ≤ 10) : 2 ^ n ≤ 1024 := Nat.pow_le_pow_right (by decide) h
theorem Shop.irr {l : List Int} (h : Shop l) {i : Nat} (hi : i < l.length) : adj l i i = false := (h.ok i hi).2.2
theorem Shop.adj_lt {l : List Int} (h : Shop l) {i k : Nat} (hi : i < l.length) (ha : adj l i k = true) : k < l.length := by
  refine Nat.lt_of_not_le fun hk => ?_
  have : adj l i k = false := Nat.testBit_lt_two_pow (Nat.lt_of_lt_of_le (h.row_lt hi) (Nat.pow_le_pow_right (by decide) hk))
  rw [this] at ha
  exact absurd ha (by decide)
theorem alive_f : ∀ k, 60 ≤ k → clochelaw03_alive.f k = some true := by
  have h : clochelaw03_alive.f 60 = some true := by decide +kernel
  intro k hk
  obtain ⟨d, rfl⟩ : ∃ d, k = 60 + d := ⟨k - 60, by omega⟩
  clear hk
  induction d with
  | zero => exact h
  | succ d ih => exact clochelaw03_alive.mono _ _ ih
end Go.Proofs.YtadfcplobidmeaaDoor.Pure
