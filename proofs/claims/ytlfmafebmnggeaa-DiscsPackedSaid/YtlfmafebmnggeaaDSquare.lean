/- The products of two parts of the discs: exact; quad.is is the equation of Descartes. -/
import Derived.Test.YtlfmafebmnggeaaHandIs
import Derived.Laws.Bits128
namespace Go.Proofs.Ytlfmafebmnggeaa.Pure
open Go.RowKit Go.Proofs.Ytlfmafebmnggeaa.Print Go.Proofs.YtlfmafebmnggeaaW.PrintWords Go.Proofs.YtlfmafebmnggeaaW.PrintLast
set_option linter.unusedVariables false
set_option linter.unusedSimpArgs false
theorem and21 (n : Int) : Go.bits .and .i64 n 2097151 = n % 2097152 := by
  have h1 : (BitVec.ofInt 64 2097151).toNat = 2 ^ 21 - 1 := by decide
  have key : (BitVec.ofInt 64 n &&& BitVec.ofInt 64 2097151).toNat = (n % ((2 ^ 64 : Nat) : Int)).toNat % 2 ^ 21 := by
    rw [BitVec.toNat_and, BitVec.toNat_ofInt, h1, Nat.and_two_pow_sub_one_eq_mod]
  show IntKind.i64.wrap ((BitVec.ofInt 64 n &&& BitVec.ofInt 64 2097151).toNat : Nat) = n % 2097152
  rw [key, IntKind.wrap_i64]
  omega
theorem and42 (n : Int) : Go.bits .and .i64 n 4398046511103 = n % 4398046511104 := by
  have h1 : (BitVec.ofInt 64 4398046511103).toNat = 2 ^ 42 - 1 := by decide
  have key : (BitVec.ofInt 64 n &&& BitVec.ofInt 64 4398046511103).toNat = (n % ((2 ^ 64 : Nat) : Int)).toNat % 2 ^ 42 := by
    rw [BitVec.toNat_and, BitVec.toNat_ofInt, h1, Nat.and_two_pow_sub_one_eq_mod]
  show IntKind.i64.wrap ((BitVec.ofInt 64 n &&& BitVec.ofInt 64 4398046511103).toNat : Nat) = n % 4398046511104
  rw [key, IntKind.wrap_i64]
  omega
theorem w64 {n : Int} (h1 : -9223372036854775808 ≤ n) (h2 : n < 9223372036854775808) : wrap64 n = n := by unfold wrap64; omega
theorem mulB {x y A B : Int} (h1 : -A ≤ x) (h2 : x ≤ A) (h3 : 0 ≤ y) (h4 : y ≤ B) (hA : 0 ≤ A) : -(A * B) ≤ x * y ∧ x * y ≤ A * B := by
  have a1 : x * y ≤ A * y := Int.mul_le_mul_of_nonneg_right h2 h3
  have a2 : A * y ≤ A * B := Int.mul_le_mul_of_nonneg_left h4 hA
  have a3 : -A * y ≤ x * y := Int.mul_le_mul_of_nonneg_right h1 h3
  rw [Int.neg_mul] at a3
  omega
theorem add_f (h l k m : Int) (a1 : -2305843009213693952 ≤ h) (a2 : h ≤ 2305843009213693952) (b1 : 0 ≤ l) (b2 : l < 9007199254740992) (c1 : -2305843009213693952 ≤ k) (c2 : k ≤ 2305843009213693952) (d1 : 0 ≤ m) (d2 : m < 9007199254740992) :
    ∃ p q, discs_add.f h l k m = some (p, q) ∧ p * 4398046511104 + q = (h + k) * 4398046511104 + l + m ∧ 0 ≤ q ∧ q < 4398046511104 := by
  refine ⟨_, _, rfl, ?_, ?_, ?_⟩
  · rw [and42, w64 (n := l + m) (by omega) (by omega), w64 (n := h + k) (by omega) (by omega), w64 (by omega) (by omega)]
    omega
  · rw [and42]; omega
  · rw [and42]; omega
theorem split_f (a b : Int) (a1 : -8796093022208 ≤ a) (a2 : a ≤ 8796093022208) (b1 : 0 ≤ b) (b2 : b < 4194304) :
    ∃ p q, discs_split.f a b = some (p, q) ∧ p * 4398046511104 + q = a * b ∧ 0 ≤ q ∧ q < 4398046511104 := by
  unfold discs_split.f
  have hx := mulB (x := a / 2097152) (y := b) (A := 4194304) (B := 4194304) (by omega) (by omega) b1 (by omega) (by omega)
  have hy := mulB (x := a % 2097152) (y := b) (A := 2097152) (B := 4194304) (by omega) (by omega) b1 (by omega) (by omega)
  have hy0 : 0 ≤ (a % 2097152) * b := Int.mul_nonneg (by omega) b1
  have hab : a * b = (a / 2097152) * b * 2097152 + (a % 2097152) * b := by
    have : a = a / 2097152 * 2097152 + a % 2097152 := by omega
    conv => lhs; rw [this, Int.add_mul, Int.mul_assoc, Int.mul_comm 2097152 b, ← Int.mul_assoc]
  rw [hab]
  rw [and21 a]
  generalize (a / 2097152) * b = x at hx ⊢
  generalize (a % 2097152) * b = y at hy hy0 ⊢
  simp only [and21, and42]
  rw [w64 (n := x) (by omega) (by omega), w64 (n := y) (by omega) (by omega), w64 (n := x % 2097152 * 2097152) (by omega) (by omega)]
  obtain ⟨p, q, e, h1, h2, h3⟩ := add_f (x / 2097152) (x % 2097152 * 2097152) (y / 4398046511104) (y % 4398046511104) (by omega) (by omega) (by omega) (by omega) (by omega) (by omega) (by omega) (by omega)
  rw [e]
  exact ⟨p, q, rfl, by omega, h2, h3⟩
theorem prod_pos (a b : Int) (a1 : -8796093022207 ≤ a) (a2 : a ≤ 8796093022207) (b1 : 0 ≤ b) (b2 : b < 8796093022208) :
    ∃ p q, ((discs_split.f a (b / 2097152)).bind fun bt109 => ((discs_split.f a (Go.bits .and .i64 b 2097151)).bind fun bt111 => ((discs_add.f (wrap64 ((wrap64 (bt109.1 * 2097152)) + (bt109.2 / 2097152))) (wrap64 ((Go.bits .and .i64 bt109.2 2097151) * 2097152)) bt111.1 bt111.2).bind fun bt113 => (some (bt113.1, bt113.2))))) = some (p, q) ∧ p * 4398046511104 + q = a * b ∧ 0 ≤ q ∧ q < 4398046511104 := by
  obtain ⟨h1, l1, e1, p1, q1, r1⟩ := split_f a (b / 2097152) (by omega) (by omega) (by omega) (by omega)
  rw [and21 b]
  obtain ⟨h0, l0, e0, p0, q0, r0⟩ := split_f a (b % 2097152) (by omega) (by omega) (by omega) (by omega)
  have hx := mulB (x := a) (y := b / 2097152) (A := 8796093022208) (B := 4194304) (by omega) (by omega) (by omega) (by omega) (by omega)
  have hy := mulB (x := a) (y := b % 2097152) (A := 8796093022208) (B := 2097152) (by omega) (by omega) (by omega) (by omega) (by omega)
  have hab : a * b = a * (b / 2097152) * 2097152 + a * (b % 2097152) := by
    have : b = b / 2097152 * 2097152 + b % 2097152 := by omega
    conv => lhs; rw [this, Int.mul_add, ← Int.mul_assoc]
  rw [hab, ← p1, ← p0]
  rw [← p1] at hx
  rw [← p0] at hy
  rw [e1, e0, Option.bind_some, Option.bind_some]
  simp only [and21]
  rw [w64 (n := h1 * 2097152) (by omega) (by omega), w64 (n := h1 * 2097152 + l1 / 2097152) (by omega) (by omega), w64 (n := l1 % 2097152 * 2097152) (by omega) (by omega)]
  obtain ⟨p, q, e, g1, g2, g3⟩ := add_f (h1 * 2097152 + l1 / 2097152) (l1 % 2097152 * 2097152) h0 l0 (by omega) (by omega) (by omega) (by omega) (by omega) (by omega) (by omega) (by omega)
  rw [e]
  exact ⟨p, q, rfl, by omega, g2, g3⟩
theorem product_f (a b : Int) (a1 : -8796093022207 ≤ a) (a2 : a ≤ 8796093022207) (b1 : -8796093022207 ≤ b) (b2 : b ≤ 8796093022207) :
    ∃ p q, discs_product.f a b = some (p, q) ∧ p * 4398046511104 + q = a * b ∧ 0 ≤ q ∧ q < 4398046511104 := by
  unfold discs_product.f
  by_cases hb : b < 0
  · rw [if_pos hb, w64 (n := -a) (by omega) (by omega), w64 (n := -b) (by omega) (by omega)]
    obtain ⟨p, q, e, h1, h2, h3⟩ := prod_pos (-a) (-b) (by omega) (by omega) (by omega) (by omega)
    exact ⟨p, q, e, by rw [h1, Int.neg_mul_neg], h2, h3⟩
  · rw [if_neg hb]
    exact prod_pos a b a1 a2 (by omega) (by omega)
theorem square_f (x a b c : Int) (x1 : -4398046511104 ≤ x) (x2 : x ≤ 4398046511104) (a1 : -1099511627776 ≤ a) (a2 : a ≤ 1099511627776) (b1 : -1099511627776 ≤ b) (b2 : b ≤ 1099511627776) (c1 : -1099511627776 ≤ c) (c2 : c ≤ 1099511627776) :
    discs_square.f x a b c = some (decide (x * x = a * b + (a + b) * c)) := by
  unfold discs_square.f
  obtain ⟨p, q, e1, h1, h2, h3⟩ := product_f x x (by omega) (by omega) (by omega) (by omega)
  obtain ⟨u, v, e2, i1, i2, i3⟩ := product_f a b (by omega) (by omega) (by omega) (by omega)
  obtain ⟨s, t, e3, j1, j2, j3⟩ := product_f (a + b) c (by omega) (by omega) (by omega) (by omega)
  have hab : -1208925819614629174706176 ≤ a * b ∧ a * b ≤ 1208925819614629174706176 := by
    by_cases hb : 0 ≤ b
    · exact mulB (A := 1099511627776) (B := 1099511627776) (by omega) a2 hb b2 (by omega)
    · have := mulB (x := a) (y := -b) (A := 1099511627776) (B := 1099511627776) (by omega) a2 (by omega) (by omega) (by omega)
      rw [Int.mul_neg] at this
      omega
  have hac : -2417851639229258349412352 ≤ (a + b) * c ∧ (a + b) * c ≤ 2417851639229258349412352 := by
    by_cases hb : 0 ≤ c
    · exact mulB (A := 2199023255552) (B := 1099511627776) (by omega) (by omega) hb c2 (by omega)
    · have := mulB (x := a + b) (y := -c) (A := 2199023255552) (B := 1099511627776) (by omega) (by omega) (by omega) (by omega) (by omega)
      rw [Int.mul_neg] at this
      omega
  rw [w64 (n := a + b) (by omega) (by omega), e1, e2, e3, Option.bind_some, Option.bind_some, Option.bind_some]
  rw [← h1, ← i1, ← j1]
  rw [← i1] at hab
  rw [← j1] at hac
  obtain ⟨y, z, e4, k1, k2, k3⟩ := add_f u v s t (by omega) (by omega) (by omega) (by omega) (by omega) (by omega) (by omega) (by omega)
  rw [e4, Option.bind_some]
  simp only
  by_cases hp : p = y
  · rw [if_pos hp]
    by_cases hq : q = z
    · rw [hq, beq_self_eq_true, decide_eq_true (by omega)]
    · rw [beq_eq_false_iff_ne.2 hq, decide_eq_false (by omega)]
  · rw [if_neg hp, decide_eq_false (by omega)]
end Go.Proofs.Ytlfmafebmnggeaa.Pure
