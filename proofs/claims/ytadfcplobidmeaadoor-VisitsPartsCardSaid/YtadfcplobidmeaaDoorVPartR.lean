/- The visits' plain laws: the parts, as the specification finds them. -/
import Derived.Test.YtadfcplobidmeaaDoorVPart
import Derived.Test.YtadfcplobidmeaaDoorPrintx26
namespace Go.Proofs.YtadfcplobidmeaaDoor.Pure
open Go.RowKit Go.Proofs.YtadfcplobidmeaaDoor.Print Go.Proofs.YtadfcplobidmeaaDoorW.PrintWords Go.Proofs.YtadfcplobidmeaaDoorW.PrintLast Go.Proofs.YtadfcplobidmeaaDoorW.PrintMore
/-- the labels of the hats. -/
def Lab (l : List Int) (A : List Int) (f : Nat → Nat) : Prop := A.length = l.length ∧ ∀ x, x < l.length → A.getD x 0 = ((f x : Nat) : Int)
/-- one label for the hats that are seen to go with each other. -/
structure Iv (l : List Int) (L : Nat) (f : Nat → Nat) (i k : Nat) : Prop where
  inL : ∀ x, L.testBit x = true → L.testBit (f x) = true
  cl : ∀ T : Nat → Prop, (∀ a b, L.testBit a = true → L.testBit b = true → adj l a b = true → T a → T b) → ∀ x, L.testBit x = true → (T x ↔ T (f x))
  don : ∀ a b, L.testBit a = true → L.testBit b = true → adj l a b = true → (a < i ∨ (a = i ∧ b < k)) → f a = f b
theorem iv_skip {l : List Int} {L : Nat} {f : Nat → Nat} {i k : Nat} (h : Iv l L f i k) (hn : ¬ (L.testBit i = true ∧ L.testBit k = true ∧ adj l i k = true)) : Iv l L f i (k + 1) :=
  ⟨h.inL, h.cl, fun a b ha hb hab hc => by
    by_cases e : a = i ∧ b = k
    · obtain ⟨rfl, rfl⟩ := e
      exact absurd ⟨ha, hb, hab⟩ hn
    · exact h.don a b ha hb hab (by omega)⟩
theorem iv_row {l : List Int} {L : Nat} {f : Nat → Nat} {i n : Nat} (h : Iv l L f i n) (hL : L < 2 ^ n) : Iv l L f (i + 1) 0 :=
  ⟨h.inL, h.cl, fun a b ha hb hab hc => h.don a b ha hb hab (by have := bit_lt hL hb; omega)⟩
def mrg (f : Nat → Nat) (a b : Nat) : Nat → Nat := fun x => if f x = b then a else f x
theorem iv_merge {l : List Int} (hS : Shop l) {L : Nat} (hL : L < 2 ^ l.length) {f : Nat → Nat} {i k : Nat} (h : Iv l L f i k) (hi : L.testBit i = true) (hk : L.testBit k = true) (hik : adj l i k = true) :
    Iv l L (mrg f (min (f i) (f k)) (max (f i) (f k))) i (k + 1) := by
  have hmin : min (f i) (f k) = f i ∨ min (f i) (f k) = f k := by omega
  have hmax : max (f i) (f k) = f i ∨ max (f i) (f k) = f k := by omega
  have hki : adj l k i = true := by rw [hS.sym k i (bit_lt hL hk) (bit_lt hL hi)]; exact hik
  refine ⟨fun x hx => ?_, fun T hT x hx => ?_, fun a b ha hb hab hc => ?_⟩
  · unfold mrg
    split
    · rcases hmin with e | e <;> rw [e]
      · exact h.inL i hi
      · exact h.inL k hk
    · exact h.inL x hx
  · have e1 := h.cl T hT i hi
    have e2 := h.cl T hT k hk
    have e3 : T i ↔ T k := ⟨hT i k hi hk hik, hT k i hk hi hki⟩
    have ex := h.cl T hT x hx
    unfold mrg
    split
    · rename_i c
      rw [ex, c]
      rcases hmin with e | e <;> rcases hmax with e' | e' <;> rw [e, e']
      · rw [← e1, ← e2]; exact e3.symm
      · rw [← e1, ← e2]; exact e3
    · exact ex
  · unfold mrg
    by_cases e : a = i ∧ b = k
    · obtain ⟨rfl, rfl⟩ := e
      split <;> split <;> omega
    · rw [h.don a b ha hb hab (by omega)]
theorem lab_set {l A : List Int} {f : Nat → Nat} (h : Lab l A f) {j v : Nat} (hj : j < l.length) : Lab l (A.set j (v : Int)) (fun x => if x = j then v else f x) :=
  ⟨by rw [List.length_set]; exact h.1, fun x hx => by
    show (A.set j (v : Int)).getD x 0 = ((if x = j then v else f x : Nat) : Int)
    rw [getD_set A j x _ (by rw [h.1]; exact hj)]
    by_cases e : x = j
    · rw [if_pos e, if_pos e]
    · rw [if_neg e, if_neg e]; exact h.2 x hx⟩
theorem rparts_l3 {l : List Int} (hS : Shop l) (S : Nat) (i k0 a b : Nat) (hk0 : k0 ≤ 10) (r : List Int) (F : Nat) (f0 : Nat → Nat)
    (hv : ∀ A, Lab l A (mrg f0 a b) → ∀ k, F ≤ k → clocheref03_parts.l2 k l (S : Int) A (i : Int) ((k0 + 1 : Nat) : Int) = some r) :
    ∀ (m j k : Nat) (A : List Int), j + m = l.length → F + m + 1 ≤ k → Lab l A (fun x => if x < j then mrg f0 a b x else f0 x) → clocheref03_parts.l3 k l (S : Int) A (i : Int) (k0 : Int) (a : Int) (b : Int) (j : Int) = some r
  | 0, j, k, A, hj, hk, hA => by
    obtain ⟨k, rfl, _⟩ := succK (show 0 < k by omega)
    rw [clocheref03_parts.l3, if_neg (by omega), inc64 k0 (by omega)]
    refine hv A ⟨hA.1, fun x hx => ?_⟩ k (by omega)
    have : A.getD x 0 = ((if x < j then mrg f0 a b x else f0 x : Nat) : Int) := hA.2 x hx
    rw [if_pos (show x < j by omega)] at this
    exact this
  | m + 1, j, k, A, hj, hk, hA => by
    obtain ⟨k, rfl, _⟩ := succK (show 0 < k by omega)
    have hl := hS.le
    have hAl := hA.1
    have hAj : A.getD j 0 = ((if j < j then mrg f0 a b j else f0 j : Nat) : Int) := hA.2 j (by omega)
    rw [if_neg (Nat.lt_irrefl j)] at hAj
    rw [clocheref03_parts.l3, if_pos (by omega), if_pos (by omega), if_pos (by omega), rdn, hAj, inc64 j (by omega), Int.toNat_natCast]
    by_cases c : f0 j = b
    · rw [if_pos (by omega)]
      refine rparts_l3 hS S i k0 a b hk0 r F f0 hv m (j + 1) k _ (by omega) (by omega) ⟨(lab_set hA (by omega)).1, fun x hx => ?_⟩
      rw [(lab_set hA (show j < l.length by omega)).2 x hx]
      show (((if x = j then a else if x < j then mrg f0 a b x else f0 x : Nat)) : Int) = ((if x < j + 1 then mrg f0 a b x else f0 x : Nat) : Int)
      congr 1
      by_cases e : x = j
      · subst e; rw [if_pos rfl, if_pos (Nat.lt_succ_self x)]; unfold mrg; rw [if_pos c]
      · rw [if_neg e]
        by_cases e2 : x < j
        · rw [if_pos e2, if_pos (by omega)]
        · rw [if_neg e2, if_neg (by omega)]
    · rw [if_neg (by omega)]
      refine rparts_l3 hS S i k0 a b hk0 r F f0 hv m (j + 1) k A (by omega) (by omega) ⟨hAl, fun x hx => ?_⟩
      rw [hA.2 x hx]
      show (((if x < j then mrg f0 a b x else f0 x : Nat)) : Int) = ((if x < j + 1 then mrg f0 a b x else f0 x : Nat) : Int)
      congr 1
      by_cases e : x = j
      · subst e; rw [if_neg (Nat.lt_irrefl x), if_pos (Nat.lt_succ_self x)]; unfold mrg; rw [if_neg c]
      · by_cases e2 : x < j
        · rw [if_pos e2, if_pos (by omega)]
        · rw [if_neg e2, if_neg (by omega)]
theorem mnN (a b : Nat) : mn (a : Int) (b : Int) = ((min a b : Nat) : Int) := by
  unfold mn
  split <;> omega
theorem L_bit (l : List Int) (S x : Nat) : (sd (full l) S).testBit x = (decide (x < l.length) && !S.testBit x) := by rw [sd_bit, full_bit]
theorem rparts_l2 {l : List Int} (hS : Shop l) (S : Nat) (i : Nat) (hi : i < l.length) (r : List Int) (F : Nat)
    (hv : ∀ A f, Lab l A f → Iv l (sd (full l) S) f i l.length → ∀ k, F ≤ k → clocheref03_parts.l1 k l (S : Int) A ((i + 1 : Nat) : Int) = some r) :
    ∀ (m j k : Nat) (A : List Int) (f : Nat → Nat), j + m = l.length → F + 20 * m + 1 ≤ k → Lab l A f → Iv l (sd (full l) S) f i j → clocheref03_parts.l2 k l (S : Int) A (i : Int) (j : Int) = some r
  | 0, j, k, A, f, hj, hk, hA, hI => by
    obtain ⟨k, rfl, _⟩ := succK (show 0 < k by omega)
    have hl := hS.le
    obtain rfl : j = l.length := by omega
    rw [clocheref03_parts.l2, if_neg (by omega), inc64 i (by omega), hv A f hA hI k (by omega)]
  | m + 1, j, k, A, f, hj, hk, hA, hI => by
    obtain ⟨k, rfl, _⟩ := succK (show 0 < k by omega)
    obtain ⟨k, rfl, _⟩ := succK (show 0 < k by omega)
    have hl := hS.le
    have hjl : j < l.length := by omega
    have hAl := hA.1
    have hLlt := sd_lt2 S (full_lt l)
    have skip : ¬ ((sd (full l) S).testBit i = true ∧ (sd (full l) S).testBit j = true ∧ adj l i j = true) → clocheref03_parts.j3 (k + 1) l (S : Int) A (i : Int) (j : Int) true = some r := fun hn => by
      rw [clocheref03_parts.j3, if_pos rfl, inc64 j (by omega)]
      exact rparts_l2 hS S i hi r F hv m (j + 1) k A f (by omega) (by omega) hA (iv_skip hI hn)
    rw [clocheref03_parts.l2, if_pos (by omega), if_pos (by omega), bitT S i (by omega), bitT S j (by omega)]
    cases c1 : S.testBit i
    · rw [if_neg (by decide), if_pos (by omega)]
      cases c2 : S.testBit j
      · rw [if_neg (by decide), if_pos (by omega), rdn, hS.row hi, bitT _ j (by omega)]
        have eA : (row l i).testBit j = adj l i j := rfl
        rw [eA]
        cases c3 : adj l i j
        · have e : ((((false : Bool).toNat : Nat) : Int) == 0) = true := rfl
          rw [e]
          exact skip fun h => by rw [c3] at h; exact absurd h.2.2 (by decide)
        · have e : ((((true : Bool).toNat : Nat) : Int) == 0) = false := rfl
          have b1 : (sd (full l) S).testBit i = true := by rw [L_bit, c1, decide_eq_true hi]; rfl
          have b2 : (sd (full l) S).testBit j = true := by rw [L_bit, c2, decide_eq_true hjl]; rfl
          rw [e, clocheref03_parts.j3, if_neg (by decide), if_pos (by omega), if_pos (by omega), if_pos (by omega), if_pos (by omega), rdn, rdn, hA.2 i hi, hA.2 j hjl, mnN, mxN]
          refine rparts_l3 hS S i j (min (f i) (f j)) (max (f i) (f j)) (by omega) r (F + 20 * m + 1) f (fun A' hA' k' hk' => ?_) l.length 0 k A (by omega) (by omega) ⟨hA.1, fun x hx => hA.2 x hx⟩
          exact rparts_l2 hS S i hi r F hv m (j + 1) k' A' _ (by omega) hk' hA' (iv_merge hS hLlt hI b1 b2 c3)
      · rw [if_pos (by decide)]
        exact skip fun h => by
          have h1 := h.2.1
          rw [L_bit, c2] at h1; simp at h1
    · rw [if_pos (by decide)]
      exact skip fun h => by
        have h1 := h.1
        rw [L_bit, c1] at h1; simp at h1
theorem rparts_l1 {l : List Int} (hS : Shop l) (S : Nat) (r : List Int) (F : Nat)
    (hv : ∀ A f, Lab l A f → Iv l (sd (full l) S) f l.length 0 → ∀ k, F ≤ k → clocheref03_parts.l4 k l (S : Int) A [] 0 = some r) :
    ∀ (m i k : Nat) (A : List Int) (f : Nat → Nat), i + m = l.length → F + 300 * m + 1 ≤ k → Lab l A f → Iv l (sd (full l) S) f i 0 → clocheref03_parts.l1 k l (S : Int) A (i : Int) = some r
  | 0, i, k, A, f, hi, hk, hA, hI => by
    obtain ⟨k, rfl, _⟩ := succK (show 0 < k by omega)
    obtain rfl : i = l.length := by omega
    rw [clocheref03_parts.l1, if_neg (by omega), hv A f hA hI k (by omega)]
  | m + 1, i, k, A, f, hi, hk, hA, hI => by
    obtain ⟨k, rfl, _⟩ := succK (show 0 < k by omega)
    have hl := hS.le
    rw [clocheref03_parts.l1, if_pos (by omega)]
    exact rparts_l2 hS S i (by omega) r (F + 300 * m + 1) (fun A' f' hA' hI' k' hk' => rparts_l1 hS S r F hv m (i + 1) k' A' f' (by omega) hk' hA' (iv_row hI' (sd_lt2 S (full_lt l)))) l.length 0 k A f (by omega) (by omega) hA hI
theorem rparts_l0 {l : List Int} (hS : Shop l) (S : Nat) (r : List Int) (F : Nat)
    (hv : ∀ A, Lab l A id → ∀ k, F ≤ k → clocheref03_parts.l1 k l (S : Int) A 0 = some r) :
    ∀ (m i k : Nat) (A : List Int), i + m = l.length → F + m + 1 ≤ k → A.length = l.length → (∀ x, x < i → A.getD x 0 = (x : Int)) → clocheref03_parts.l0 k l (S : Int) A (i : Int) = some r
  | 0, i, k, A, hi, hk, hA, hx => by
    obtain ⟨k, rfl, _⟩ := succK (show 0 < k by omega)
    rw [clocheref03_parts.l0, if_neg (by omega), hv A ⟨hA, fun x hxl => hx x (by omega)⟩ k (by omega)]
  | m + 1, i, k, A, hi, hk, hA, hx => by
    obtain ⟨k, rfl, _⟩ := succK (show 0 < k by omega)
    have hl := hS.le
    rw [clocheref03_parts.l0, if_pos (by omega), if_pos (by omega), if_pos (by omega), inc64 i (by omega), Int.toNat_natCast]
    refine rparts_l0 hS S r F hv m (i + 1) k _ (by omega) (by omega) (by rw [List.length_set]; exact hA) fun x hxi => ?_
    rw [getD_set A i x _ (by omega)]
    split
    · rename_i e; rw [e]
    · exact hx x (by omega)
/-- the hats with the label i. -/
def labB (l : List Int) (S : Nat) (f : Nat → Nat) (i : Nat) : Nat := setB l.length (fun k => decide (f k = i) && !S.testBit k)
def rawF (l : List Int) (S : Nat) (f : Nat → Nat) : Nat → List Nat
  | 0 => []
  | i + 1 => if labB l S f i = 0 then rawF l S f i else rawF l S f i ++ [labB l S f i]
theorem raw_len (l : List Int) (S : Nat) (f : Nat → Nat) : ∀ i, (rawF l S f i).length ≤ i
  | 0 => Nat.le_refl _
  | i + 1 => by
    have := raw_len l S f i
    simp only [rawF]
    split
    · omega
    · rw [List.length_append, List.length_singleton]; omega
theorem raw_mem {l : List Int} {S : Nat} {f : Nat → Nat} {C : Nat} : ∀ i, C ∈ rawF l S f i ↔ ∃ j, j < i ∧ C = labB l S f j ∧ C ≠ 0
  | 0 => by
    simp only [rawF, List.not_mem_nil, false_iff]
    rintro ⟨j, h, _⟩
    omega
  | i + 1 => by
    simp only [rawF]
    by_cases c : labB l S f i = 0
    · rw [if_pos c, raw_mem i]
      constructor
      · rintro ⟨j, h1, h2⟩; exact ⟨j, by omega, h2⟩
      · rintro ⟨j, h1, h2, h3⟩
        by_cases e : j = i
        · subst e; exact absurd (h2.trans c) h3
        · exact ⟨j, by omega, h2, h3⟩
    · rw [if_neg c, List.mem_append, raw_mem i, List.mem_singleton]
      constructor
      · rintro (⟨j, h1, h2⟩ | h)
        · exact ⟨j, by omega, h2⟩
        · exact ⟨i, Nat.lt_succ_self i, h, fun e => c (h.symm.trans e)⟩
      · rintro ⟨j, h1, h2, h3⟩
        by_cases e : j = i
        · subst e; exact Or.inr h2
        · exact Or.inl ⟨j, by omega, h2, h3⟩
theorem lab_bit (l : List Int) (S : Nat) (f : Nat → Nat) (i x : Nat) : (labB l S f i).testBit x = (decide (x < l.length) && (decide (f x = i) && !S.testBit x)) := setB_bit _ _ _
theorem some_bit {C : Nat} (h : C ≠ 0) : ∃ i, C.testBit i = true := by
  refine Classical.byContradiction fun hno => h (bits_eq fun i => ?_)
  rw [Nat.zero_testBit]
  cases c : C.testBit i
  · rfl
  · exact absurd ⟨i, c⟩ hno
theorem raw_nodup (l : List Int) (S : Nat) (f : Nat → Nat) : ∀ i, (rawF l S f i).Nodup
  | 0 => List.nodup_nil
  | i + 1 => by
    simp only [rawF]
    by_cases c : labB l S f i = 0
    · rw [if_pos c]; exact raw_nodup l S f i
    · rw [if_neg c]
      refine List.nodup_append.2 ⟨raw_nodup l S f i, List.nodup_cons.2 ⟨List.not_mem_nil, List.nodup_nil⟩, fun a ha b hb e => ?_⟩
      rw [List.mem_singleton] at hb
      obtain ⟨j, h1, h2, h3⟩ := (raw_mem i).1 ha
      obtain ⟨x, hx⟩ := some_bit h3
      have q1 := hx
      rw [h2, lab_bit] at q1
      have q2 := hx
      rw [e, hb, lab_bit] at q2
      simp only [Bool.and_eq_true, decide_eq_true_eq] at q1 q2
      omega
theorem parts_cover {l : List Int} {H : Nat} {P : List Nat} (h : IsParts l H P) : ∀ x, H.testBit x = true → ∃ C ∈ P, C.testBit x = true := by
  induction h with
  | nil => intro x hx; rw [Nat.zero_testBit] at hx; exact absurd hx (by decide)
  | cons H C P hne hs hp hc h ih =>
    intro x hx
    cases c : C.testBit x
    · obtain ⟨D, h1, h2⟩ := ih x (by rw [sd_bit, hx, c]; rfl)
      exact ⟨D, List.mem_cons_of_mem _ h1, h2⟩
    · exact ⟨C, List.mem_cons_self, c⟩
theorem parts_each {l : List Int} {H : Nat} {P : List Nat} (h : IsParts l H P) : H < 2 ^ l.length → ∀ C ∈ P, (∃ i, C.testBit i = true) ∧ Sub C H ∧ Sep l C H ∧ Conn l C := by
  induction h with
  | nil => intro _ C hC; cases hC
  | cons H C P hne hs hp hc h ih =>
    intro hlt X hX
    rcases List.mem_cons.1 hX with rfl | hX
    · exact ⟨hne, hs, hp, hc⟩
    · obtain ⟨h1, h2, h3, h4⟩ := ih (sd_lt2 _ hlt) X hX
      refine ⟨h1, h2.trans (sd_Sub _ _), fun i k hi hk hx => ?_, h4⟩
      cases ck : C.testBit k
      · exact h3 i k hi (by rw [sd_bit, hk, ck]; rfl) hx
      · have hi2 := h2 i hi
        rw [sd_bit, Bool.and_eq_true, Bool.not_eq_true'] at hi2
        have := hp k i ck hi2.1 hi2.2
        exact ⟨this.2, this.1⟩
theorem parts_nodup {l : List Int} {H : Nat} {P : List Nat} (h : IsParts l H P) : P.Nodup := by
  induction h with
  | nil => exact List.nodup_nil
  | cons H C P hne hs hp hc h ih =>
    refine List.nodup_cons.2 ⟨fun hm => ?_, ih⟩
    obtain ⟨i, hi⟩ := hne
    have := isParts_lt h C hm i hi
    rw [sd_bit, hi] at this
    simp at this
theorem raw_perm {l : List Int} (hS : Shop l) {S : Nat} {f : Nat → Nat} (hI : Iv l (sd (full l) S) f l.length 0) : (rawF l S f l.length).Perm (partsV l S) := by
  have hL := sd_lt2 S (full_lt l)
  have hP := partsV_spec hS (S := S)
  have all : ∀ a b, (sd (full l) S).testBit a = true → (sd (full l) S).testBit b = true → adj l a b = true → f a = f b := fun a b ha hb hab => hI.don a b ha hb hab (Or.inl (bit_lt hL ha))
  have each : ∀ C ∈ partsV l S, ∀ i, C.testBit i = true → C = labB l S f (f i) := fun C hC i hi => by
    obtain ⟨_, h2, h3, h4⟩ := parts_each hP hL C hC
    refine Sub.anti (fun x hx => ?_) (fun x hx => ?_)
    · have hsub := h4 (labB l S f (f i)) ⟨i, hi, by
        have := h2 i hi
        rw [L_bit, Bool.and_eq_true] at this
        rw [lab_bit, this.1, this.2, decide_eq_true rfl]; rfl⟩ (fun a b ha hca hcb hab => by
        have hb := h2 b hcb
        have e := all a b (h2 a hca) hb hab
        rw [lab_bit, Bool.and_eq_true, Bool.and_eq_true] at ha
        rw [L_bit, Bool.and_eq_true] at hb
        rw [lab_bit, hb.1, hb.2, ← e, ha.2.1]; rfl)
      exact hsub x hx
    · rw [lab_bit, Bool.and_eq_true, Bool.and_eq_true, decide_eq_true_eq, decide_eq_true_eq] at hx
      have hxL : (sd (full l) S).testBit x = true := by rw [L_bit, decide_eq_true hx.1, hx.2.2]; rfl
      have cT : ∀ a b, (sd (full l) S).testBit a = true → (sd (full l) S).testBit b = true → adj l a b = true → C.testBit a = true → C.testBit b = true := fun a b ha hb hab hca => by
        cases c : C.testBit b
        · have := (h3 a b hca hb c).1; rw [hab] at this; exact absurd this (by decide)
        · rfl
      have q1 := hI.cl (fun z => C.testBit z = true) cT x hxL
      have q2 := hI.cl (fun z => C.testBit z = true) cT i (h2 i hi)
      rw [hx.2.1] at q1
      exact q1.2 (q2.1 hi)
  refine (List.perm_ext_iff_of_nodup (raw_nodup l S f _) (parts_nodup hP)).2 fun C => ?_
  rw [raw_mem]
  constructor
  · rintro ⟨j, h1, h2, h3⟩
    obtain ⟨x, hx⟩ := some_bit h3
    have hx' := hx
    rw [h2, lab_bit, Bool.and_eq_true, Bool.and_eq_true, decide_eq_true_eq, decide_eq_true_eq] at hx'
    obtain ⟨D, hD, hxD⟩ := parts_cover hP x (by rw [L_bit, decide_eq_true hx'.1, hx'.2.2]; rfl)
    have := each D hD x hxD
    rw [hx'.2.1] at this
    rw [h2, ← this]
    exact hD
  · intro hC
    obtain ⟨⟨i, hi⟩, h2, _, _⟩ := parts_each hP hL C hC
    refine ⟨f i, bit_lt hL (hI.inL i (h2 i hi)), each C hC i hi, fun e => ?_⟩
    rw [e, Nat.zero_testBit] at hi
    exact absurd hi (by decide)
theorem getD_app (P Q : List Int) (v : Int) : (P ++ v :: Q).getD P.length 0 = v := by
  rw [List.getD_eq_getElem?_getD, List.getElem?_append_right (Nat.le_refl _), Nat.sub_self]
  rfl
theorem set_app (P Q : List Int) (v u : Int) : (P ++ v :: Q).set P.length u = P ++ u :: Q := by
  rw [List.set_append_right _ _ (Nat.le_refl _), Nat.sub_self]
  rfl
theorem snoc_cases (P : List Int) : P = [] ∨ ∃ P' u, P = P' ++ [u] := by
  rcases List.eq_nil_or_concat P with h | ⟨P', u, h⟩
  · exact Or.inl h
  · exact Or.inr ⟨P', u, by rw [h, List.concat_eq_append]⟩
theorem rparts_l6 {l : List Int} (S : Nat) (A : List Int) (x13 F : Nat) (r : List Int) (O : List Int) (v : Int)
    (hv : ∀ Z : List Int, Z.Pairwise (· ≤ ·) → Z.Perm (v :: O) → ∀ k, F ≤ k → clocheref03_parts.l4 k l (S : Int) A Z (wrap64 ((x13 : Int) + 1)) = some r) :
    ∀ (m : Nat) (P Q : List Int) (k : Nat), P.length = m → (P ++ Q).Perm O → (P ++ Q).Pairwise (· ≤ ·) → (∀ q ∈ Q, v ≤ q) → P.length + Q.length ≤ 100 → F + m + 1 ≤ k → clocheref03_parts.l6 k l (S : Int) A (P ++ v :: Q) (x13 : Int) (P.length : Int) = some r
  | 0, P, Q, k, hP, hO, hs, hq, hlen, hk => by
    obtain ⟨k, rfl, _⟩ := succK (show 0 < k by omega)
    obtain rfl : P = [] := List.eq_nil_of_length_eq_zero hP
    rw [clocheref03_parts.l6, if_neg (by simp)]
    rw [List.nil_append] at hO hs
    refine hv _ ?_ (List.Perm.cons v hO) k (by omega)
    exact List.pairwise_cons.2 ⟨hq, hs⟩
  | m + 1, P, Q, k, hP, hO, hs, hq, hlen, hk => by
    obtain ⟨k, rfl, _⟩ := succK (show 0 < k by omega)
    rcases snoc_cases P with rfl | ⟨P', u, rfl⟩
    · simp at hP
    · have hP' : P'.length = m := by rw [List.length_append, List.length_singleton] at hP; omega
      have hlen' : (P' ++ [u]).length = P'.length + 1 := by rw [List.length_append, List.length_singleton]
      have e1 : ((P' ++ [u]) ++ v :: Q).length = P'.length + 1 + (Q.length + 1) := by rw [List.length_append, hlen', List.length_cons]
      have e2 : wrap64 ((((P' ++ [u]).length : Nat) : Int) - 1) = ((P'.length : Nat) : Int) := by rw [hlen', w64 (by omega) (by omega)]; omega
      have r1 : rd ((P' ++ [u]) ++ v :: Q) (((P' ++ [u]).length : Nat) : Int) = v := by rw [rdn, getD_app]
      have r2 : rd ((P' ++ [u]) ++ v :: Q) ((P'.length : Nat) : Int) = u := by rw [rdn, List.append_assoc]; exact getD_app P' (v :: Q) u
      rw [clocheref03_parts.l6, e2, if_pos (by omega), if_pos (by omega), if_pos (by omega), if_pos (by omega), if_pos (by omega), r1, r2, Int.toNat_natCast, Int.toNat_natCast]
      have hs' : (P' ++ (u :: Q)).Pairwise (· ≤ ·) := by rw [List.append_assoc] at hs; exact hs
      have hO' : (P' ++ (u :: Q)).Perm O := by rw [List.append_assoc] at hO; exact hO
      obtain ⟨s1, s2, s3⟩ := List.pairwise_append.1 hs'
      by_cases c : v < u
      · rw [if_pos c, set_app (P' ++ [u]) Q v u]
        have e3 : ((P' ++ [u]) ++ u :: Q).set P'.length v = P' ++ v :: (u :: Q) := by
          rw [List.append_assoc]
          exact set_app P' (u :: Q) u v
        rw [e3]
        refine rparts_l6 S A x13 F r O v hv m P' (u :: Q) k hP' hO' hs' (fun q hq' => ?_) (by rw [List.length_cons]; omega) (by omega)
        rcases List.mem_cons.1 hq' with rfl | hq'
        · omega
        · exact hq q hq'
      · rw [if_neg c]
        refine hv _ ?_ (List.perm_middle.trans (List.Perm.cons v hO)) k (by omega)
        rw [List.append_assoc]
        refine List.pairwise_append.2 ⟨s1, ?_, fun a ha b hb => ?_⟩
        · rw [List.pairwise_cons] at s2
          show (u :: v :: Q).Pairwise (· ≤ ·)
          refine List.pairwise_cons.2 ⟨fun b hb => ?_, List.pairwise_cons.2 ⟨hq, s2.2⟩⟩
          rcases List.mem_cons.1 hb with rfl | hb
          · omega
          · exact s2.1 b hb
        · have hau := s3 a ha u List.mem_cons_self
          rcases List.mem_cons.1 hb with rfl | hb
          · exact hau
          · rcases List.mem_cons.1 hb with rfl | hb
            · omega
            · exact s3 a ha b (List.mem_cons_of_mem _ hb)
theorem rparts_l5 {l : List Int} (hS : Shop l) {S : Nat} {f : Nat → Nat} {A : List Int} (hA : Lab l A f) (out : List Int) (i F : Nat) (r : List Int)
    (hv : ∀ k, F ≤ k → clocheref03_parts.l5 k l (S : Int) A out (i : Int) ((labB l S f i : Nat) : Int) (l.length : Int) = some r) :
    ∀ (m j k p : Nat), j + m = l.length → F + m ≤ k → p < 2 ^ j → setF (fun k => decide (f k = i) && !S.testBit k) j m p = labB l S f i → clocheref03_parts.l5 k l (S : Int) A out (i : Int) (p : Int) (j : Int) = some r
  | 0, j, k, p, hj, hk, hp, he => by
    obtain rfl : j = l.length := by omega
    obtain rfl : p = labB l S f i := he
    exact hv k (by omega)
  | m + 1, j, k, p, hj, hk, hp, he => by
    obtain ⟨k, rfl, _⟩ := succK (show 0 < k by omega)
    have hl := hS.le
    have hAl := hA.1
    have hp2 : p < 2 ^ (j + 1) := Nat.lt_of_lt_of_le hp (Nat.pow_le_pow_right (by decide) (Nat.le_succ j))
    have p1 : 2 ^ j < 2 ^ 10 := Nat.pow_lt_pow_right (by decide) (by omega)
    have he' : setF (fun k => decide (f k = i) && !S.testBit k) (j + 1) m (if (decide (f j = i) && !S.testBit j) = true then p ||| 2 ^ j else p) = labB l S f i := he
    have skip := fun he => rparts_l5 hS hA out i F r hv m (j + 1) k p (by omega) (by omega) hp2 he
    rw [clocheref03_parts.l5, if_pos (by omega), if_pos (by omega), if_pos (by omega), rdn, hA.2 j (by omega), bitT S j (by omega), inc64 j (by omega), bShl j (by omega)]
    by_cases c : f j = i
    · rw [if_pos (by omega)]
      rw [decide_eq_true c, Bool.true_and] at he'
      cases c2 : S.testBit j
      · rw [c2, if_pos (by decide)] at he'
        rw [if_pos (by decide), w64 (by omega) (by omega), ← Int.natCast_add, orAdd hp]
        exact rparts_l5 hS hA out i F r hv m (j + 1) k (p ||| 2 ^ j) (by omega) (by omega) (or_lt hp2 (Nat.lt_succ_self j)) he'
      · rw [c2, if_neg (by decide)] at he'
        rw [if_neg (by decide)]
        exact skip he'
    · rw [if_neg (by omega)]
      rw [decide_eq_false c, Bool.false_and, if_neg (by decide)] at he'
      exact skip he'
theorem sorted_eq {P Q : List Int} (h : P.Perm Q) (h1 : P.Pairwise (· ≤ ·)) : P = isort Q :=
  (h.trans (isort_perm Q).symm).eq_of_pairwise (fun _ _ _ _ h1 h2 => Int.le_antisymm h1 h2) h1 (isort_sorted Q)
theorem castL_append (P Q : List Nat) : castL (P ++ Q) = castL P ++ castL Q := List.map_append
theorem rparts_l4 {l : List Int} (hS : Shop l) {S : Nat} {f : Nat → Nat} {A : List Int} (hA : Lab l A f) (hI : Iv l (sd (full l) S) f l.length 0) :
    ∀ (m i k : Nat) (out : List Int), i + m = l.length → 100 * m + 1 ≤ k → out.Pairwise (· ≤ ·) → out.Perm (castL (rawF l S f i)) → clocheref03_parts.l4 k l (S : Int) A out (i : Int) = some (partsI l S)
  | 0, i, k, out, hi, hk, hs, ho => by
    obtain ⟨k, rfl, _⟩ := succK (show 0 < k by omega)
    obtain rfl : i = l.length := by omega
    rw [clocheref03_parts.l4, if_neg (by omega)]
    unfold partsI
    rw [sorted_eq (ho.trans ((raw_perm hS hI).map _)) hs]
    rfl
  | m + 1, i, k, out, hi, hk, hs, ho => by
    obtain ⟨k, rfl, _⟩ := succK (show 0 < k by omega)
    have hl := hS.le
    have hlen := ho.length_eq
    have hraw := raw_len l S f i
    unfold castL at hlen
    rw [List.length_map] at hlen
    have hrec := fun out' h1 h2 k hk => rparts_l4 hS hA hI m (i + 1) k out' (by omega) hk h1 h2
    simp only [rawF] at hrec
    rw [clocheref03_parts.l4, if_pos (by omega)]
    refine rparts_l5 hS hA out i (100 * m + 50) _ (fun k hk => ?_) l.length 0 k 0 (by omega) (by omega) (by decide) rfl
    obtain ⟨k, rfl, _⟩ := succK (show 0 < k by omega)
    rw [clocheref03_parts.l5, if_neg (by omega)]
    by_cases c : labB l S f i = 0
    · rw [if_pos c] at hrec
      rw [c, if_neg (by decide), inc64 i (by omega)]
      exact hrec out hs ho k (by omega)
    · rw [if_neg c] at hrec
      rw [if_pos (by omega), if_pos (by omega), Option.bind_some]
      have e : wrap64 (((out ++ [((labB l S f i : Nat) : Int)]).length : Int) - 1) = ((out.length : Nat) : Int) := by
        rw [List.length_append, List.length_singleton, w64 (by omega) (by omega)]; omega
      rw [e]
      refine rparts_l6 S A i (100 * m + 1) _ (castL (rawF l S f i)) ((labB l S f i : Nat) : Int) (fun Z hZ hp k hk => ?_) out.length out [] k rfl (by rw [List.append_nil]; exact ho) (by rw [List.append_nil]; exact hs) (fun q hq => by cases hq) (by simp only [List.length_nil]; omega) (by omega)
      rw [inc64 i (by omega)]
      refine hrec Z hZ (hp.trans ?_) k hk
      rw [castL_append]
      exact (List.perm_append_singleton _ _).symm
theorem rparts_f {l : List Int} (hS : Shop l) {S : Nat} (k : Nat) (hk : 6000 ≤ k) : clocheref03_parts.f k l (S : Int) = some (partsI l S) := by
  have hl := hS.le
  unfold clocheref03_parts.f
  rw [if_pos (by omega), Int.toNat_natCast, if_pos (by omega)]
  refine rparts_l0 hS S _ 5000 (fun A hA k hk => ?_) l.length 0 k _ (by omega) (by omega) List.length_replicate (fun x hx => absurd hx (Nat.not_lt_zero x))
  refine rparts_l1 hS S _ 1500 (fun A' f hA' hI k hk => ?_) l.length 0 k A id (by omega) (by omega) hA ⟨fun x hx => hx, fun T hT x hx => Iff.rfl, fun _ _ _ _ _ hc => by omega⟩
  exact rparts_l4 hS hA' hI l.length 0 k [] (by omega) (by omega) List.Pairwise.nil (List.Perm.refl _)
end Go.Proofs.YtadfcplobidmeaaDoor.Pure
