/- Four bends modulo 24: by the kernel, each orbit has six or eight numbers. -/
import Derived.Test.YtlfmafebmnggeaaDTurn
namespace Go.Proofs.Ytlfmafebmnggeaa.Pure
open Go.RowKit Go.Proofs.Ytlfmafebmnggeaa.Print Go.Proofs.YtlfmafebmnggeaaW.PrintWords Go.Proofs.YtlfmafebmnggeaaW.PrintLast
set_option linter.unusedVariables false
set_option linter.unusedSimpArgs false
/-- The bend a, turned. -/
def n4 (a b c d : Nat) : Nat := (2 * (b + c + d) + 24 - a) % 24
/-- The numbers that are met on a way. -/
def wk : List Nat → Nat → Nat → Nat → Nat → Nat → Nat
  | [], _, _, _, _, m => m
  | 0 :: w, a, b, c, d, m => wk w (n4 a b c d) b c d (m ||| (1 <<< (n4 a b c d)))
  | 1 :: w, a, b, c, d, m => wk w a (n4 b a c d) c d (m ||| (1 <<< (n4 b a c d)))
  | 2 :: w, a, b, c, d, m => wk w a b (n4 c a b d) d (m ||| (1 <<< (n4 c a b d)))
  | _ :: w, a, b, c, d, m => wk w a b c (n4 d a b c) (m ||| (1 <<< (n4 d a b c)))
/-- A way on which each orbit is seen whole. -/
def way : List Nat := [1, 3, 2, 0, 2, 0, 3, 0, 1, 2, 3, 1, 2, 1, 2, 0, 3, 0, 3, 1, 0]
def mk4 (a b c d : Nat) : Nat := wk way a b c d ((1 <<< a) ||| (1 <<< b) ||| (1 <<< c) ||| (1 <<< d))
def allB : Nat → (Nat → Bool) → Bool
  | 0, _ => true
  | n + 1, p => p n && allB n p
theorem allB_all {p : Nat → Bool} : ∀ {n : Nat}, allB n p = true → ∀ i, i < n → p i = true
  | 0, _, i, hi => absurd hi (Nat.not_lt_zero i)
  | n + 1, h, i, hi => by
    rw [allB, Bool.and_eq_true] at h
    by_cases e : i = n
    · rw [e]; exact h.1
    · exact allB_all h.2 i (by omega)
def pp : Nat → Nat → Nat
  | 0, _ => 0
  | n + 1, m => pp n m + (m >>> n) % 2
def cnd (a b c d : Nat) : Bool := Nat.beq (((a + b + c + d) * (a + b + c + d)) % 48) ((2 * (a * a + b * b + c * c + d * d)) % 48)
def prm (a b c d : Nat) : Bool := !(Nat.beq (a % 2 + b % 2 + c % 2 + d % 2) 0) && !(Nat.beq (a % 3 + b % 3 + c % 3 + d % 3) 0)
def ok4 (m a b c d : Nat) : Bool := Nat.beq (mk4 a b c d) m && (cnd a b c d && prm a b c d)
def ckm (m a b c d : Nat) : Bool := (Nat.beq (pp 24 m) 6 || Nat.beq (pp 24 m) 8) && (ok4 m (n4 a b c d) b c d && (ok4 m a (n4 b a c d) c d && (ok4 m a b (n4 c a b d) d && ok4 m a b c (n4 d a b c))))
def ck (a b c d : Nat) : Bool := !(cnd a b c d) || (!(prm a b c d) || ckm (mk4 a b c d) a b c d)
def ckA (a : Nat) : Bool := allB 24 fun b => allB 24 fun c => allB 24 fun d => ck a b c d
set_option maxRecDepth 100000 in
theorem six_0 : (ckA 0 && ckA 1) = true := by decide +kernel
set_option maxRecDepth 100000 in
theorem six_1 : (ckA 2 && ckA 3) = true := by decide +kernel
set_option maxRecDepth 100000 in
theorem six_2 : (ckA 4 && ckA 5) = true := by decide +kernel
set_option maxRecDepth 100000 in
theorem six_3 : (ckA 6 && ckA 7) = true := by decide +kernel
set_option maxRecDepth 100000 in
theorem six_4 : (ckA 8 && ckA 9) = true := by decide +kernel
set_option maxRecDepth 100000 in
theorem six_5 : (ckA 10 && ckA 11) = true := by decide +kernel
set_option maxRecDepth 100000 in
theorem six_6 : (ckA 12 && ckA 13) = true := by decide +kernel
set_option maxRecDepth 100000 in
theorem six_7 : (ckA 14 && ckA 15) = true := by decide +kernel
set_option maxRecDepth 100000 in
theorem six_8 : (ckA 16 && ckA 17) = true := by decide +kernel
set_option maxRecDepth 100000 in
theorem six_9 : (ckA 18 && ckA 19) = true := by decide +kernel
set_option maxRecDepth 100000 in
theorem six_10 : (ckA 20 && ckA 21) = true := by decide +kernel
set_option maxRecDepth 100000 in
theorem six_11 : (ckA 22 && ckA 23) = true := by decide +kernel
theorem two_b {f : Nat → Bool} {n : Nat} (h : (f (2 * n) && f (2 * n + 1)) = true) (a : Nat) (ha : a / 2 = n) : f a = true := by
  rw [Bool.and_eq_true] at h
  by_cases e : a = 2 * n
  · rw [e]; exact h.1
  · rw [show a = 2 * n + 1 by omega]; exact h.2
theorem six_abs (f : Nat → Bool) (h0 : (f 0 && f 1) = true) (h1 : (f 2 && f 3) = true) (h2 : (f 4 && f 5) = true) (h3 : (f 6 && f 7) = true) (h4 : (f 8 && f 9) = true) (h5 : (f 10 && f 11) = true) (h6 : (f 12 && f 13) = true) (h7 : (f 14 && f 15) = true) (h8 : (f 16 && f 17) = true) (h9 : (f 18 && f 19) = true) (h10 : (f 20 && f 21) = true) (h11 : (f 22 && f 23) = true) (a : Nat) (ha : a < 24) : f a = true := by
  have e : a / 2 = 0 ∨ a / 2 = 1 ∨ a / 2 = 2 ∨ a / 2 = 3 ∨ a / 2 = 4 ∨ a / 2 = 5 ∨ a / 2 = 6 ∨ a / 2 = 7 ∨ a / 2 = 8 ∨ a / 2 = 9 ∨ a / 2 = 10 ∨ a / 2 = 11 := by omega
  rcases e with e | e | e | e | e | e | e | e | e | e | e | e
  · exact two_b (n := 0) h0 a e
  · exact two_b (n := 1) h1 a e
  · exact two_b (n := 2) h2 a e
  · exact two_b (n := 3) h3 a e
  · exact two_b (n := 4) h4 a e
  · exact two_b (n := 5) h5 a e
  · exact two_b (n := 6) h6 a e
  · exact two_b (n := 7) h7 a e
  · exact two_b (n := 8) h8 a e
  · exact two_b (n := 9) h9 a e
  · exact two_b (n := 10) h10 a e
  · exact two_b (n := 11) h11 a e
theorem six_all (a : Nat) (ha : a < 24) : ckA a = true := six_abs ckA six_0 six_1 six_2 six_3 six_4 six_5 six_6 six_7 six_8 six_9 six_10 six_11 a ha
theorem six_ck (a b c d : Nat) (ha : a < 24) (hb : b < 24) (hc : c < 24) (hd : d < 24) (h1 : cnd a b c d = true) (h2 : prm a b c d = true) : ckm (mk4 a b c d) a b c d = true := by
  have h : ck a b c d = true := allB_all (allB_all (allB_all (six_all a ha) b hb) c hc) d hd
  unfold ck at h
  rw [h1, h2] at h
  simpa using h
end Go.Proofs.Ytlfmafebmnggeaa.Pure
