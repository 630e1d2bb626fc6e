/- Lists of turns, by the program; same. -/
import Derived.Test.YtlfmafebmnggeaaDTurn
import Derived.Test.YtlfmafebmnggeaaPrintx17
namespace Go.Proofs.Ytlfmafebmnggeaa.Pure
open Go.RowKit Go.Proofs.Ytlfmafebmnggeaa.Print Go.Proofs.YtlfmafebmnggeaaW.PrintWords Go.Proofs.YtlfmafebmnggeaaW.PrintLast
set_option linter.unusedVariables false
set_option linter.unusedSimpArgs false
theorem rd_nat' (l : List Int) (i : Nat) (h : i < l.length) : rd l (i : Int) = l[i] := rd_nat l i h
theorem same_l0 (l m : List Int) (hl : l.length = m.length) (hn : l.length ≤ 1000000) : ∀ d i, i + d = l.length → l.take i = m.take i → ∀ k, d + 1 ≤ k → clochelaw01_same.l0 k l m (i : Int) = some (decide (l = m)) := by
  intro d
  induction d with
  | zero =>
    intro i hi ht k hk
    obtain ⟨k, rfl⟩ : ∃ j, k = j + 1 := ⟨k - 1, by omega⟩
    rw [List.take_of_length_le (by omega), List.take_of_length_le (by omega)] at ht
    rw [clochelaw01_same.l0, if_neg (by omega), decide_eq_true ht]
  | succ d ih =>
    intro i hi ht k hk
    obtain ⟨k, rfl⟩ : ∃ j, k = j + 1 := ⟨k - 1, by omega⟩
    rw [clochelaw01_same.l0, if_pos (by omega), if_pos (by omega), if_pos (by omega)]
    by_cases h : rd l (i : Int) = rd m (i : Int)
    · rw [if_pos h, wsucc i (by omega)]
      exact ih (i + 1) (by omega) (by rw [take_snoc l i (by omega), take_snoc m i (by omega), ht, h]) k (by omega)
    · rw [if_neg h, decide_eq_false (fun e => h (by rw [e]))]
theorem same_f (l m : List Int) (hn : l.length ≤ 1000000) (k : Nat) (hk : l.length + 1 ≤ k) : clochelaw01_same.f k l m = some (decide (l = m)) := by
  unfold clochelaw01_same.f
  by_cases hl : l.length = m.length
  · rw [if_pos (by omega)]; exact same_l0 l m hl hn l.length 0 (Nat.zero_add _) (by simp) k hk
  · rw [if_neg (by omega), decide_eq_false (fun e => hl (by rw [e]))]
/-- A turn of a quad: the quad and the error. -/
def tu (q : Q4) (i : Int) : Int × Int × Int × Int × Int :=
  if 0 ≤ i ∧ i < 4 then (if InR (tn q i) then ((tq q i).a, (tq q i).b, (tq q i).c, (tq q i).d, 0) else (0, 0, 0, 0, 4)) else (0, 0, 0, 0, 2)
theorem Turn_q (q : Q4) (i : Int) (hq : QQ q) (k : Nat) (hk : 1 ≤ k) : discs_Turn.f k q.a q.b q.c q.d i = some (tu q i) := by
  rw [Turn_f q i k hk]
  unfold tu
  by_cases hi : 0 ≤ i ∧ i < 4
  · rw [if_pos ⟨hq, hi⟩, if_pos hi]
  · rw [if_neg (fun h => hi h.2), if_neg hi]
theorem Turn_nq (q : Q4) (i : Int) (hq : ¬ QQ q) (k : Nat) (hk : 1 ≤ k) : discs_Turn.f k q.a q.b q.c q.d i = some (0, 0, 0, 0, 2) := by
  rw [Turn_f q i k hk, if_neg (fun h => hq h.1)]
/-- Turns, one after the other. -/
def turns (q : Q4) : List Int → Int × Int × Int × Int × Int
  | [] => (q.a, q.b, q.c, q.d, 0)
  | i :: l => if 0 ≤ i ∧ i < 4 then (if InR (tn q i) then turns (tq q i) l else (0, 0, 0, 0, 4)) else (0, 0, 0, 0, 2)
theorem drop_one (l : List Int) (j : Nat) (h : j < l.length) : l.drop j = rd l (j : Int) :: l.drop (j + 1) := by
  rw [rd_nat l j h, List.drop_eq_getElem_cons h]
theorem Turns_l0 (l : List Int) (hn : l.length ≤ 1000) : ∀ d j (q : Q4), j + d = l.length → QQ q → ∀ k, d + 2 ≤ k → discs_Turns.l0 k l (l.length : Int) (j : Int) q.a q.b q.c q.d = some (turns q (l.drop j)) := by
  intro d
  induction d with
  | zero =>
    intro j q hj hq k hk
    obtain ⟨k, rfl⟩ : ∃ i, k = i + 1 := ⟨k - 1, by omega⟩
    rw [discs_Turns.l0, if_neg (by omega), List.drop_of_length_le (by omega)]; rfl
  | succ d ih =>
    intro j q hj hq k hk
    obtain ⟨k, rfl⟩ : ∃ i, k = i + 1 := ⟨k - 1, by omega⟩
    rw [discs_Turns.l0, if_pos (by omega), if_pos (by omega), if_pos (by omega), Turn_q q _ hq k (by omega), drop_one l j (by omega), turns, Option.bind_some, wsucc j (by omega)]
    unfold tu
    by_cases hi : 0 ≤ rd l (j : Int) ∧ rd l (j : Int) < 4
    · rw [if_pos hi, if_pos hi]
      by_cases hr : InR (tn q (rd l (j : Int)))
      · rw [if_pos hr, if_pos hr]
        exact ih (j + 1) _ (by omega) (turn_quad q _ hi hq hr) k (by omega)
      · rw [if_neg hr, if_neg hr]; rfl
    · rw [if_neg hi, if_neg hi]; rfl
/-- Turns' answer. -/
def TurnsP (q : Q4) (l : List Int) : Int × Int × Int × Int × Int := if QQ q then (if 60 < l.length then (0, 0, 0, 0, 3) else turns q l) else (0, 0, 0, 0, 2)
theorem Turns_f (q : Q4) (l : List Int) (k : Nat) (hk : 100 ≤ k) : discs_Turns.f k q.a q.b q.c q.d l = some (TurnsP q l) := by
  unfold discs_Turns.f TurnsP
  rw [IsQuad_f, Option.bind_some]
  by_cases hq : QQ q
  · rw [if_pos (decide_eq_true (show IsQ q.a q.b q.c q.d from hq)), if_pos hq]
    by_cases hl : 60 < l.length
    · rw [if_pos (by omega), if_pos hl]
    · rw [if_neg (by omega), if_neg hl]
      exact Turns_l0 l (by omega) l.length 0 q (Nat.zero_add _) hq k (by omega)
  · rw [if_neg (by rw [decide_eq_false (show ¬ IsQ q.a q.b q.c q.d from hq)]; simp), if_neg hq]
end Go.Proofs.Ytlfmafebmnggeaa.Pure
