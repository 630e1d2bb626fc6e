/- The visits' plain laws: the parts of a set of hats, as the program finds them; Odd and Barrier of the program. -/
import Derived.Test.YtadfcplobidmeaaDoorVGal
import Derived.Test.YtadfcplobidmeaaDoorVSize
import Derived.Test.YtadfcplobidmeaaDoorPrintx9
namespace Go.Proofs.YtadfcplobidmeaaDoor.Pure
open Go.RowKit Go.Proofs.YtadfcplobidmeaaDoor.Print Go.Proofs.YtadfcplobidmeaaDoorW.PrintWords Go.Proofs.YtadfcplobidmeaaDoorW.PrintLast Go.Proofs.YtadfcplobidmeaaDoorW.PrintMore
theorem lowBitAll : ((List.range 1024).all fun s => s == 0 || Go.bits .and .i64 (s : Int) (wrap64 (-(s : Int))) == ((2 ^ low s : Nat) : Int)) = true := by decide +kernel
theorem lowBit {s : Nat} (h : s < 1024) (h0 : s ≠ 0) : Go.bits .and .i64 (s : Int) (wrap64 (-(s : Int))) = ((2 ^ low s : Nat) : Int) := by
  have := List.all_eq_true.1 lowBitAll s (List.mem_range.2 h)
  rw [Bool.or_eq_true] at this
  rcases this with h1 | h1
  · exact absurd (by simpa using h1) h0
  · exact of_decide_eq_true h1
theorem vsizeAll : ((List.range 1024).all fun s => visits_size.f (s : Int) == some ((sz s : Nat) : Int)) = true := by decide +kernel
theorem vsize_f {s : Nat} (hs : s < 1024) : visits_size.f (s : Int) = some ((sz s : Nat) : Int) := by
  have h := List.all_eq_true.1 vsizeAll s (List.mem_range.2 hs)
  simpa using h
/-- one pass: the hats that go with a hat of the part come to it. -/
def passF (l : List Int) (L p j : Nat) : Nat → Nat
  | 0 => p
  | m + 1 => passF l L (if p.testBit j = true then p ||| (row l j &&& L) else p) (j + 1) m
def roundsF (l : List Int) (L p : Nat) : Nat → Nat
  | 0 => p
  | r + 1 => roundsF l L (passF l L p 0 l.length) r
def compF (l : List Int) (L : Nat) : Nat := roundsF l L (2 ^ low L) l.length
theorem Sub.refl (X : Nat) : Sub X X := fun _ h => h
theorem Sub.trans {X Y Z : Nat} (h1 : Sub X Y) (h2 : Sub Y Z) : Sub X Z := fun i h => h2 i (h1 i h)
theorem Sub.anti {X Y : Nat} (h1 : Sub X Y) (h2 : Sub Y X) : X = Y := bits_eq fun i => by
  cases a : X.testBit i
  · cases b : Y.testBit i
    · rfl
    · rw [h2 i b] at a; exact absurd a (by decide)
  · rw [h1 i a]
theorem step_sub (l : List Int) (L p j : Nat) : Sub p (if p.testBit j = true then p ||| (row l j &&& L) else p) := fun i hi => by
  split
  · rw [Nat.testBit_or, hi]; rfl
  · exact hi
theorem pass_sub (l : List Int) (L : Nat) : ∀ m p j, Sub p (passF l L p j m)
  | 0, p, _ => Sub.refl p
  | m + 1, p, j => (step_sub l L p j).trans (pass_sub l L m _ (j + 1))
theorem pass_in (l : List Int) (L : Nat) : ∀ m p j, Sub p L → Sub (passF l L p j m) L
  | 0, p, _, h => h
  | m + 1, p, j, h => pass_in l L m _ (j + 1) fun i hi => by
    split at hi
    · rw [Nat.testBit_or, Nat.testBit_and, Bool.or_eq_true, Bool.and_eq_true] at hi
      exact hi.elim (h i) (fun h => h.2)
    · exact h i hi
/-- every set that has the first hat and all that go with one of its own has the part. -/
def Rc (l : List Int) (u p : Nat) : Prop := ∀ T : Nat, T.testBit u = true → (∀ i k, T.testBit i = true → p.testBit i = true → p.testBit k = true → adj l i k = true → T.testBit k = true) → Sub p T
theorem pass_rc (l : List Int) (L u : Nat) : ∀ m p j, Rc l u p → Rc l u (passF l L p j m)
  | 0, p, _, h => h
  | m + 1, p, j, h => pass_rc l L u m _ (j + 1) (by
    by_cases c : p.testBit j = true
    · rw [if_pos c]
      intro T hT hc
      have hsub : Sub p (p ||| (row l j &&& L)) := fun i hi => by rw [Nat.testBit_or, hi]; rfl
      have h1 := h T hT (fun i k hi hpi hpk => hc i k hi (hsub i hpi) (hsub k hpk))
      intro k hk
      have hk' := hk
      rw [Nat.testBit_or, Nat.testBit_and, Bool.or_eq_true, Bool.and_eq_true] at hk'
      rcases hk' with h2 | h2
      · exact h1 k h2
      · exact hc j k (h1 j c) (hsub j c) hk h2.1
    · rw [if_neg c]; exact h)
theorem pass_fixed (l : List Int) (L : Nat) : ∀ m p j, passF l L p j m = p → ∀ i, j ≤ i → i < j + m → p.testBit i = true → Sub (row l i &&& L) p
  | 0, p, j, _, i, h1, h2, _ => by omega
  | m + 1, p, j, h, i, h1, h2, h3 => by
    have h' : passF l L (if p.testBit j = true then p ||| (row l j &&& L) else p) (j + 1) m = p := h
    have hs := pass_sub l L m (if p.testBit j = true then p ||| (row l j &&& L) else p) (j + 1)
    rw [h'] at hs
    have e : p = (if p.testBit j = true then p ||| (row l j &&& L) else p) := (step_sub l L p j).anti hs
    by_cases c : i = j
    · subst c
      rw [if_pos h3] at e
      intro k hk
      rw [e, Nat.testBit_or, hk, Bool.or_true]
    · rw [← e] at h'
      exact pass_fixed l L m p (j + 1) h' i (by omega) (by omega) h3
theorem sz_strict {X Y : Nat} (hY : Y < 1024) (hs : Sub X Y) (hne : X ≠ Y) : sz X + 1 ≤ sz Y := by
  have : ∃ i, Y.testBit i = true ∧ X.testBit i = false := by
    refine Classical.byContradiction fun hno => hne (hs.anti fun i hi => ?_)
    cases c : X.testBit i
    · exact absurd ⟨i, hi, c⟩ hno
    · rfl
  obtain ⟨i, h1, h2⟩ := this
  have := sz_or (X := X) (a := i) (bit_lt (n := 10) hY h1) h2
  rw [← this]
  exact sz_mono fun k hk => by
    rw [or_bit] at hk
    by_cases c : i = k
    · subst c; exact h1
    · rw [decide_eq_false c, Bool.or_false] at hk
      exact hs k hk
theorem rounds_fix {l : List Int} {L p : Nat} (h : passF l L p 0 l.length = p) : ∀ r, roundsF l L p r = p
  | 0 => rfl
  | r + 1 => by simp only [roundsF]; rw [h]; exact rounds_fix h r
theorem rounds_or {l : List Int} {L : Nat} (hL : L < 1024) : ∀ r p, Sub p L → passF l L (roundsF l L p r) 0 l.length = roundsF l L p r ∨ sz p + r ≤ sz (roundsF l L p r)
  | 0, p, _ => Or.inr (Nat.le_refl _)
  | r + 1, p, hp => by
    by_cases c : passF l L p 0 l.length = p
    · rw [rounds_fix c]; exact Or.inl c
    · simp only [roundsF]
      have h1 := pass_in l L l.length p 0 hp
      have h3 : passF l L p 0 l.length < 1024 := h1.lt (n := 10) hL
      have h2 := sz_strict h3 (pass_sub l L l.length p 0) (fun e => c e.symm)
      rcases rounds_or hL r _ h1 with h | h
      · exact Or.inl h
      · exact Or.inr (by omega)
theorem rounds_in (l : List Int) (L : Nat) : ∀ r p, Sub p L → Sub (roundsF l L p r) L
  | 0, _, h => h
  | r + 1, p, h => rounds_in l L r _ (pass_in l L l.length p 0 h)
theorem rounds_sub (l : List Int) (L : Nat) : ∀ r p, Sub p (roundsF l L p r)
  | 0, p => Sub.refl p
  | r + 1, p => (pass_sub l L l.length p 0).trans (rounds_sub l L r _)
theorem rounds_rc (l : List Int) (L u : Nat) : ∀ r p, Rc l u p → Rc l u (roundsF l L p r)
  | 0, _, h => h
  | r + 1, p, h => rounds_rc l L u r _ (pass_rc l L u l.length p 0 h)
theorem comp_spec {l : List Int} (hS : Shop l) {L : Nat} (hL : L < 2 ^ l.length) (h0 : L ≠ 0) :
    (compF l L).testBit (low L) = true ∧ Sub (compF l L) L ∧ Sep l (compF l L) L ∧ Conn l (compF l L) := by
  have hl := hS.le
  have hp := pow10 hl
  obtain ⟨h1, h2, h3⟩ := low_spec (show L < 1024 by omega) h0
  have hst : Sub (2 ^ low L) L := fun i hi => by
    rw [pow_bit, decide_eq_true_eq] at hi
    subst hi
    exact h1
  have c1 := rounds_sub l L l.length (2 ^ low L) (low L) (by rw [pow_bit]; simp)
  have c2 := rounds_in l L l.length (2 ^ low L) hst
  have c3 := rounds_rc l L (low L) l.length (2 ^ low L) (fun T hT _ i hi => by
    rw [pow_bit, decide_eq_true_eq] at hi
    subst hi
    exact hT)
  have hfix : passF l L (compF l L) 0 l.length = compF l L := by
    rcases rounds_or (l := l) (show L < 1024 by omega) l.length (2 ^ low L) hst with h | h
    · exact h
    · have e1 : sz (2 ^ low L) = 1 := by unfold sz; rw [szN_one, if_pos h2]
      have e2 := sz_mono (Sub.trans c2 (fun i hi => by rw [full_bit]; exact decide_eq_true (bit_lt hL hi) : Sub L (full l)))
      rw [sz_full hl] at e2
      omega
  have hcl : ∀ i k, (compF l L).testBit i = true → L.testBit k = true → adj l i k = true → (compF l L).testBit k = true := fun i k hi hk hik =>
    pass_fixed l L l.length (compF l L) 0 hfix i (Nat.zero_le _) (by have := bit_lt hL (c2 i hi); omega) hi k (by rw [Nat.testBit_and, hk, Bool.and_true]; exact hik)
  refine ⟨c1, c2, fun i k hi hk hc => ?_, fun T hT hTc => ?_⟩
  · have a1 : adj l i k = false := by
      cases c : adj l i k
      · rfl
      · rw [hcl i k hi hk c] at hc; exact absurd hc (by decide)
    refine ⟨a1, ?_⟩
    rw [hS.sym k i (bit_lt hL hk) (bit_lt hL (c2 i hi)), a1]
  · cases hu : T.testBit (low L)
    · exfalso
      obtain ⟨i, hi, hTi⟩ := hT
      have hx := c3 (sd (full l) T) (by rw [sd_bit, full_bit, hu, decide_eq_true (bit_lt hL h1)]; rfl) (fun a b ha hca hcb hab => by
        rw [sd_bit, full_bit, decide_eq_true (bit_lt hL (c2 b hcb))]
        cases c : T.testBit b
        · rfl
        · have := hTc b a c hcb hca (by rw [hS.sym b a (bit_lt hL (c2 b hcb)) (bit_lt hL (c2 a hca))]; exact hab)
          rw [sd_bit, this] at ha
          simp at ha) i hi
      rw [sd_bit, hTi] at hx
      simp at hx
    · exact c3 T hu hTc
/-- the parts, in the order in which they are found. -/
def partsF (l : List Int) : Nat → Nat → List Nat
  | 0, _ => []
  | d + 1, L => if L = 0 then [] else compF l L :: partsF l d (sd L (compF l L))
theorem sz_zero' {L : Nat} (h : L < 1024) (h0 : sz L = 0) : L = 0 := by
  refine Classical.byContradiction fun hne => ?_
  have := sz_strict (X := 0) h (fun i hi => by rw [Nat.zero_testBit] at hi; exact absurd hi (by decide)) (fun e => hne e.symm)
  omega
theorem sz_rest {l : List Int} (hS : Shop l) {L : Nat} (hL : L < 2 ^ l.length) (h0 : L ≠ 0) : sz (sd L (compF l L)) + 1 ≤ sz L := by
  have hp := pow10 hS.le
  obtain ⟨c1, c2, _, _⟩ := comp_spec hS hL h0
  refine sz_strict (show L < 1024 by omega) (sd_Sub _ _) fun e => ?_
  have h1 := c2 _ c1
  have h2 : (sd L (compF l L)).testBit (low L) = true := by rw [e]; exact h1
  rw [sd_bit, c1] at h2
  simp at h2
theorem parts_spec {l : List Int} (hS : Shop l) : ∀ d L, L < 2 ^ l.length → sz L ≤ d → IsParts l L (partsF l d L)
  | 0, L, hL, hd => by
    have hp := pow10 hS.le
    rw [sz_zero' (show L < 1024 by omega) (by omega)]
    exact IsParts.nil
  | d + 1, L, hL, hd => by
    simp only [partsF]
    by_cases h0 : L = 0
    · rw [if_pos h0, h0]; exact IsParts.nil
    · rw [if_neg h0]
      obtain ⟨c1, c2, c3, c4⟩ := comp_spec hS hL h0
      have := sz_rest hS hL h0
      exact IsParts.cons L _ _ ⟨_, c1⟩ c2 c3 c4 (parts_spec hS d _ (sd_lt2 _ hL) (by omega))
/-- the parts without a set of hats. -/
def partsV (l : List Int) (S : Nat) : List Nat := partsF l 10 (sd (full l) S)
def castL (P : List Nat) : List Int := P.map Int.ofNat
theorem part_l2 {l : List Int} (hS : Shop l) (out : List Int) (L x21 F : Nat) (r : List Int) (hL : L < 2 ^ l.length) (hx : x21 ≤ 10) (q : Nat)
    (hv : ∀ k, F ≤ k → visits_shop_parts.l1 k l out (L : Int) (q : Int) (l.length : Int) ((x21 + 1 : Nat) : Int) = some r) :
    ∀ (m j k p : Nat), j + m = l.length → F + m + 1 ≤ k → p < 2 ^ l.length → passF l L p j m = q → visits_shop_parts.l2 k l out (L : Int) (p : Int) (l.length : Int) (x21 : Int) (l.length : Int) (j : Int) = some r
  | 0, j, k, p, hj, hk, hp, hq => by
    obtain ⟨k, rfl, _⟩ := succK (show 0 < k by omega)
    have hl := hS.le
    obtain rfl : p = q := hq
    rw [visits_shop_parts.l2, if_neg (by omega), inc64 x21 (by omega), hv k (by omega)]
  | m + 1, j, k, p, hj, hk, hp, hq => by
    obtain ⟨k, rfl, _⟩ := succK (show 0 < k by omega)
    have hl := hS.le
    have hp2 := pow10 hl
    have hr := hS.row_lt (show j < l.length by omega)
    have hrl : row l j &&& L < 2 ^ l.length := Nat.lt_of_le_of_lt (and_le' _ _) hr
    have hq' : passF l L (if p.testBit j = true then p ||| (row l j &&& L) else p) (j + 1) m = q := hq
    rw [visits_shop_parts.l2, if_pos (by omega), if_pos (by omega), bitA p j (by omega) (by omega), inc64 j (by omega)]
    by_cases c : p.testBit j = true
    · rw [if_pos c] at hq'
      rw [c, if_pos (by decide), if_pos (by omega), rdn, hS.row (by omega), bAnd _ _ (by omega) (by omega), bOr _ _ (by omega) (by omega)]
      exact part_l2 hS out L x21 F r hL hx q hv m (j + 1) k _ (by omega) (by omega) (Nat.or_lt_two_pow hp hrl) hq'
    · rw [if_neg c] at hq'
      rw [Bool.eq_false_iff.2 c, if_neg (by decide)]
      exact part_l2 hS out L x21 F r hL hx q hv m (j + 1) k p (by omega) (by omega) hp hq'
theorem part_l1 {l : List Int} (hS : Shop l) (out : List Int) (L F : Nat) (r : List Int) (hL : L < 2 ^ l.length) (ho : out.length ≤ 100) (q : Nat) (hql : q < 2 ^ l.length)
    (hv : ∀ k, F ≤ k → visits_shop_parts.l0 k l (out ++ [(q : Int)]) ((sd L q : Nat) : Int) = some r) :
    ∀ (m x k p : Nat), x + m = l.length → F + 20 * m + 1 ≤ k → Sub p L → roundsF l L p m = q → visits_shop_parts.l1 k l out (L : Int) (p : Int) (l.length : Int) (x : Int) = some r
  | 0, x, k, p, hx, hk, hp, hq => by
    obtain ⟨k, rfl, _⟩ := succK (show 0 < k by omega)
    have hp2 := pow10 hS.le
    obtain rfl : p = q := hq
    rw [visits_shop_parts.l1, if_neg (by omega), if_pos (by omega), bDiff _ _ (by omega) (by omega), hv k (by omega)]
  | m + 1, x, k, p, hx, hk, hp, hq => by
    obtain ⟨k, rfl, _⟩ := succK (show 0 < k by omega)
    have hl := hS.le
    have hrec := fun k hk => part_l1 hS out L F r hL ho q hql hv m (x + 1) k (passF l L p 0 l.length) (by omega) hk (pass_in l L l.length p 0 hp) hq
    rw [visits_shop_parts.l1, if_pos (by omega)]
    exact part_l2 hS out L x (F + 20 * m + 1) r hL (by omega) _ hrec l.length 0 k p (by omega) (by omega) (hp.lt hL) rfl
theorem part_l0 {l : List Int} (hS : Shop l) : ∀ (d L k : Nat) (out : List Int), L < 2 ^ l.length → sz L ≤ d → out.length + d ≤ 50 → 300 * d + 1 ≤ k → visits_shop_parts.l0 k l out (L : Int) = some (isort (out ++ castL (partsF l d L)))
  | 0, L, k, out, hL, hd, ho, hk => by
    obtain ⟨k, rfl, _⟩ := succK (show 0 < k by omega)
    have hp := pow10 hS.le
    rw [sz_zero' (show L < 1024 by omega) (by omega), visits_shop_parts.l0, if_neg (by omega)]
    unfold slices_Sort_int_int.f
    rw [if_pos (by omega)]
    simp [partsF, castL]
  | d + 1, L, k, out, hL, hd, ho, hk => by
    obtain ⟨k, rfl, _⟩ := succK (show 0 < k by omega)
    have hl := hS.le
    have hp := pow10 hl
    simp only [partsF]
    by_cases h0 : L = 0
    · rw [if_pos h0, h0, visits_shop_parts.l0, if_neg (by omega)]
      unfold slices_Sort_int_int.f
      rw [if_pos (by omega)]
      simp [castL]
    · obtain ⟨c1, c2, c3, c4⟩ := comp_spec hS hL h0
      obtain ⟨h1, h2, h3⟩ := low_spec (show L < 1024 by omega) h0
      have hz := sz_rest hS hL h0
      rw [if_neg h0, visits_shop_parts.l0, if_pos (by omega), lowBit (by omega) h0]
      have hrec := fun k hk => part_l0 hS d (sd L (compF l L)) k (out ++ [((compF l L : Nat) : Int)]) (sd_lt2 _ hL) (by omega) (by rw [List.length_append, List.length_singleton]; omega) hk
      have := part_l1 hS out L (300 * d + 1) _ hL (by omega) (compF l L) (c2.lt hL) hrec l.length 0 k (2 ^ low L) (by omega) (by omega) (fun i hi => by
        rw [pow_bit, decide_eq_true_eq] at hi
        subst hi
        exact h1) rfl
      rw [List.append_assoc] at this
      exact this
def partsI (l : List Int) (S : Nat) : List Int := isort (castL (partsV l S))
theorem vparts_f {l : List Int} (hS : Shop l) {S : Nat} (hs : S < 2 ^ l.length) (k : Nat) (hk : 3100 ≤ k) : visits_shop_parts.f k l (S : Int) = some (partsI l S) := by
  have hl := hS.le
  have hp := pow10 hl
  have hf := full_lt l
  unfold visits_shop_parts.f
  rw [all_f l hl, Option.bind_some]
  show visits_shop_parts.l0 k l [] (Go.bits .andNot .i64 ((full l : Nat) : Int) (S : Int)) = _
  rw [bDiff _ _ (by omega) (by omega)]
  have h1 : sz (sd (full l) S) ≤ 10 := by
    have := sz_mono (sd_Sub (full l) S)
    rw [sz_full hl] at this
    omega
  have := part_l0 hS 10 (sd (full l) S) k [] (sd_lt2 S hf) h1 (by simp) (by omega)
  rw [List.nil_append] at this
  exact this
def oddI : List Int → Nat
  | [] => 0
  | x :: t => sz x.toNat % 2 + oddI t
theorem oddI_perm {P Q : List Int} (h : P.Perm Q) : oddI P = oddI Q := by
  induction h with
  | nil => rfl
  | cons x _ ih => simp only [oddI, ih]
  | swap x y l => simp only [oddI]; omega
  | trans _ _ h1 h2 => exact h1.trans h2
theorem oddI_cast : ∀ P : List Nat, oddI (castL P) = oddS P
  | [] => rfl
  | x :: t => by
    have := oddI_cast t
    unfold castL at this
    simp only [castL, List.map_cons, oddI, oddS, Int.ofNat_eq_natCast, Int.toNat_natCast]
    rw [this]
def oddV (l : List Int) (S : Nat) : Nat := oddS (partsV l S)
theorem odd_I (l : List Int) (S : Nat) : oddI (partsI l S) = oddV l S := by
  unfold partsI oddV
  rw [oddI_perm (isort_perm _), oddI_cast]
theorem partsI_at {l : List Int} {S : Nat} {x : Int} (h : x ∈ partsI l S) : ∃ c : Nat, x = c ∧ c ∈ partsV l S := by
  unfold partsI at h
  have h2 := (isort_perm (castL (partsV l S))).mem_iff.1 h
  unfold castL at h2
  obtain ⟨c, hc, rfl⟩ := List.mem_map.1 h2
  exact ⟨c, rfl, hc⟩
theorem isParts_lt {l : List Int} {L : Nat} {P : List Nat} (h : IsParts l L P) : ∀ C ∈ P, Sub C L := by
  induction h with
  | nil => intro C hC; cases hC
  | cons H C P hne hs hp hc h ih =>
    intro X hX
    rcases List.mem_cons.1 hX with rfl | hX
    · exact hs
    · exact (ih X hX).trans (sd_Sub _ _)
theorem isParts_len {l : List Int} {L : Nat} {P : List Nat} (h : IsParts l L P) : L < 1024 → P.length ≤ sz L := by
  induction h with
  | nil => exact fun _ => Nat.zero_le _
  | cons H C P hne hs hp hc h ih =>
    intro hL
    have h1 := ih (Nat.lt_of_le_of_lt (sd_le _ _) hL)
    have h2 := sz_sub hs
    have h3 : sz C ≠ 0 := fun e => by
      obtain ⟨i, hi⟩ := hne
      rw [sz_zero' (hs.lt (n := 10) hL) e, Nat.zero_testBit] at hi
      exact absurd hi (by decide)
    simp only [List.length_cons]
    omega
theorem partsV_spec {l : List Int} (hS : Shop l) {S : Nat} : IsParts l (sd (full l) S) (partsV l S) := by
  have hl := hS.le
  refine parts_spec hS 10 _ (sd_lt2 S (full_lt l)) ?_
  have := sz_mono (sd_Sub (full l) S)
  rw [sz_full hl] at this
  omega
theorem partsI_len {l : List Int} (hS : Shop l) {S : Nat} : (partsI l S).length ≤ 10 := by
  have hl := hS.le
  have hp := pow10 hl
  have h1 := isParts_len (partsV_spec hS (S := S)) (by have := sd_lt2 S (full_lt l); omega)
  have h2 := sz_mono (sd_Sub (full l) S)
  rw [sz_full hl] at h2
  unfold partsI
  rw [(isort_perm _).length_eq]
  unfold castL
  rw [List.length_map]
  omega
theorem oddI_le : ∀ P : List Int, oddI P ≤ P.length
  | [] => Nat.le_refl _
  | x :: t => by
    have := oddI_le t
    simp only [oddI, List.length_cons]
    omega
theorem odd_l0 (P : List Int) (hP : P.length ≤ 100) (hx : ∀ x ∈ P, 0 ≤ x ∧ x < 1024) : ∀ (m i k s : Nat), i + m = P.length → m + 1 ≤ k → s ≤ i → visits_shop_odd.l0 k (s : Int) P (P.length : Int) (i : Int) = some ((s + oddI (P.drop i) : Nat) : Int)
  | 0, i, k, s, hi, hk, hs => by
    obtain ⟨k, rfl, _⟩ := succK (show 0 < k by omega)
    rw [visits_shop_odd.l0, if_neg (by omega), List.drop_eq_nil_of_le (by omega)]
    rfl
  | m + 1, i, k, s, hi, hk, hs => by
    obtain ⟨k, rfl, _⟩ := succK (show 0 < k by omega)
    have hil : i < P.length := by omega
    have hd : P.drop i = P.getD i 0 :: P.drop (i + 1) := by
      rw [List.drop_eq_getElem_cons hil, List.getD_eq_getElem?_getD, List.getElem?_eq_getElem hil]
      rfl
    have hm : P.getD i 0 ∈ P := by
      rw [List.getD_eq_getElem?_getD, List.getElem?_eq_getElem hil]
      exact List.getElem_mem hil
    have hb := hx _ hm
    rw [visits_shop_odd.l0, if_pos (by omega), if_pos (by omega), if_pos (by omega), rdn, hd]
    generalize P.getD i 0 = x at hb
    obtain ⟨c, rfl⟩ : ∃ c : Nat, x = c := ⟨x.toNat, by omega⟩
    have e2 : Int.tmod ((sz c : Nat) : Int) 2 = ((sz c % 2 : Nat) : Int) := (Int.ofNat_tmod (sz c) 2).symm
    rw [vsize_f (by omega), Option.bind_some, e2, w64 (by omega) (by omega), inc64 i (by omega), ← Int.natCast_add, odd_l0 P hP hx m (i + 1) k (s + sz c % 2) (by omega) (by omega) (by omega)]
    simp only [oddI, Int.toNat_natCast]
    rw [Nat.add_assoc]
theorem partsI_range {l : List Int} (hS : Shop l) {S : Nat} : ∀ x ∈ partsI l S, 0 ≤ x ∧ x < 1024 := fun x hx => by
  have hp := pow10 hS.le
  obtain ⟨c, rfl, hc⟩ := partsI_at hx
  have := (isParts_lt (partsV_spec hS) c hc).lt (sd_lt2 S (full_lt l))
  omega
theorem vodd_f {l : List Int} (hS : Shop l) {S : Nat} (hs : S < 2 ^ l.length) (k : Nat) (hk : 3100 ≤ k) : visits_shop_odd.f k l (S : Int) = some ((oddV l S : Nat) : Int) := by
  unfold visits_shop_odd.f
  have hlen := partsI_len hS (S := S)
  rw [vparts_f hS hs k hk, Option.bind_some]
  have := odd_l0 (partsI l S) (by omega) (partsI_range hS) (partsI l S).length 0 k 0 (by omega) (by omega) (by omega)
  rw [List.drop_zero, Nat.zero_add, odd_I] at this
  exact this
/-- the difference of a set. -/
def dif (l : List Int) (S : Nat) : Int := (oddV l S : Int) - (sz S : Int)
def barF (l : List Int) (j : Nat) : Nat → Nat × Int → Nat × Int
  | 0, b => b
  | m + 1, b => barF l (j + 1) m (if dif l j > b.2 then (j, dif l j) else b)
def barV (l : List Int) : Nat × Int := barF l 0 (2 ^ l.length) (0, dif l 0)
theorem bar_spec (l : List Int) : ∀ m j b, dif l b.1 = b.2 → dif l (barF l j m b).1 = (barF l j m b).2 ∧ b.2 ≤ (barF l j m b).2 ∧ (∀ t, j ≤ t → t < j + m → dif l t ≤ (barF l j m b).2) ∧ ((barF l j m b).1 = b.1 ∨ (barF l j m b).1 < j + m)
  | 0, j, b, h => ⟨h, Int.le_refl _, fun t h1 h2 => by omega, Or.inl rfl⟩
  | m + 1, j, b, h => by
    simp only [barF]
    by_cases c : dif l j > b.2
    · rw [if_pos c]
      obtain ⟨h1, h2, h3, h4⟩ := bar_spec l m (j + 1) (j, dif l j) rfl
      simp only at h2 h4
      refine ⟨h1, by omega, fun t t1 t2 => ?_, ?_⟩
      · by_cases e : t = j
        · subst e; exact h2
        · exact h3 t (by omega) (by omega)
      · omega
    · rw [if_neg c]
      obtain ⟨h1, h2, h3, h4⟩ := bar_spec l m (j + 1) b h
      refine ⟨h1, h2, fun t t1 t2 => ?_, ?_⟩
      · by_cases e : t = j
        · subst e; omega
        · exact h3 t (by omega) (by omega)
      · omega
theorem dif_range {l : List Int} (hS : Shop l) (S : Nat) : -10 ≤ dif l S ∧ dif l S ≤ 10 := by
  have h1 := oddI_le (partsI l S)
  have h2 := partsI_len hS (S := S)
  rw [odd_I] at h1
  have h3 : sz S ≤ 10 := by
    have : ∀ n, szN S n ≤ n := by
      intro n
      induction n with
      | zero => exact Nat.le_refl _
      | succ n ih =>
        simp only [szN]
        cases S.testBit n
        · simp only [Bool.toNat_false]; omega
        · simp only [Bool.toNat_true]; omega
    exact this 10
  unfold dif
  omega
theorem bar_l0 {l : List Int} (hS : Shop l) : ∀ (m j k : Nat) (b : Nat × Int), j + m = 2 ^ l.length → 3200 + m ≤ k → visits_Barrier.l0 k l (b.1 : Int) b.2 ((2 ^ l.length : Nat) : Int) (j : Int) = some (((barF l j m b).1 : Int), (barF l j m b).2, 0)
  | 0, j, k, b, hj, hk => by
    obtain ⟨k, rfl, _⟩ := succK (show 0 < k by omega)
    rw [visits_Barrier.l0, if_neg (by omega)]
    rfl
  | m + 1, j, k, b, hj, hk => by
    obtain ⟨k, rfl, _⟩ := succK (show 0 < k by omega)
    have hp := pow10 hS.le
    have hd := dif_range hS j
    have e : ((oddV l j : Nat) : Int) - ((sz j : Nat) : Int) = dif l j := rfl
    rw [visits_Barrier.l0, if_pos (by omega), vodd_f hS (by omega) k (by omega), Option.bind_some, vsize_f (by omega), Option.bind_some, e, w64 (by omega) (by omega), inc64 j (by omega)]
    simp only [barF]
    by_cases c : dif l j > b.2
    · rw [if_pos c, if_pos c]
      exact bar_l0 hS m (j + 1) k (j, dif l j) (by omega) (by omega)
    · rw [if_neg c, if_neg c]
      exact bar_l0 hS m (j + 1) k b (by omega) (by omega)
def barrierV (l : List Int) : Int × Int × Int := if isShop l = true then (((barV l).1 : Int), (barV l).2, 0) else (0, 0, 2)
theorem vBarrier_f (l : List Int) (k : Nat) (hk : 5000 ≤ k) : visits_Barrier.f k l = some (barrierV l) := by
  unfold visits_Barrier.f barrierV
  rw [read_f l k (by omega), Option.bind_some]
  cases h : isShop l
  · rw [if_neg (by decide), if_neg (by decide)]
  · have hS := (isShop_iff l).1 h
    have hp := pow10 hS.le
    have h2 := Nat.two_pow_pos l.length
    have e : wrap64 (((2 ^ l.length - 1 : Nat) : Int) + 1) = ((2 ^ l.length : Nat) : Int) := by
      rw [w64 (by omega) (by omega)]; omega
    have e0 : ((oddV l 0 : Nat) : Int) = dif l 0 := by
      unfold dif
      have : sz 0 = 0 := szN_zero 10
      omega
    have hv := vodd_f hS (S := 0) h2 k (by omega)
    rw [if_pos rfl, if_pos rfl, show ((0 : Int)) = ((0 : Nat) : Int) from rfl, hv, Option.bind_some, all_f l hS.le, Option.bind_some, e, e0]
    exact bar_l0 hS (2 ^ l.length) 0 k (0, dif l 0) (by omega) (by omega)
end Go.Proofs.YtadfcplobidmeaaDoor.Pure
