/- Whole numbers of any size by their digits: the specification's sums, products and comparisons are exact. -/
import Derived.Test.YtlfmafebmnggeaaPrintx13
import Derived.Test.YtlfmafebmnggeaaDSquare
namespace Go.Proofs.Ytlfmafebmnggeaa.Pure
open Go.RowKit Go.Proofs.Ytlfmafebmnggeaa.Print Go.Proofs.YtlfmafebmnggeaaW.PrintWords Go.Proofs.YtlfmafebmnggeaaW.PrintLast
set_option linter.unusedVariables false
set_option linter.unusedSimpArgs false
def val : List Int → Int
  | [] => 0
  | x :: l => x + 10000 * val l
def Dg (l : List Int) : Prop := ∀ x ∈ l, 0 ≤ x ∧ x < 10000
def Nz (l : List Int) : Prop := ∀ h : l ≠ [], l.getLast h ≠ 0
theorem val_append (l m : List Int) : val (l ++ m) = val l + 10000 ^ l.length * val m := by
  induction l with
  | nil => simp [val]
  | cons x l ih =>
    rw [List.cons_append, val, val, ih, List.length_cons, Int.pow_succ, Int.mul_add]
    rw [Int.mul_right_comm, Int.mul_comm (10000 ^ l.length * val m) 10000]
    omega
theorem val_snoc (l : List Int) (x : Int) : val (l ++ [x]) = val l + 10000 ^ l.length * x := by
  rw [val_append]; simp [val]
theorem Dg.nil : Dg [] := by intro x h; cases h
theorem Dg.app {l m : List Int} (h : Dg l) (g : Dg m) : Dg (l ++ m) := by
  intro x hx
  rcases List.mem_append.1 hx with h1 | h1
  · exact h x h1
  · exact g x h1
theorem Dg.snoc {l : List Int} {x : Int} (h : Dg l) (h0 : 0 ≤ x) (h1 : x < 10000) : Dg (l ++ [x]) :=
  h.app (by intro y hy; rw [List.mem_singleton.1 hy]; exact ⟨h0, h1⟩)
theorem Dg.take {l : List Int} (h : Dg l) (n : Nat) : Dg (l.take n) := fun x hx => h x (List.mem_of_mem_take hx)
theorem Dg.set {l : List Int} {x : Int} (h : Dg l) (j : Nat) (h0 : 0 ≤ x) (h1 : x < 10000) : Dg (l.set j x) := by
  intro y hy
  rcases List.mem_or_eq_of_mem_set hy with g | g
  · exact h y g
  · rw [g]; exact ⟨h0, h1⟩
theorem dg_rd {l : List Int} (h : Dg l) (i : Nat) : 0 ≤ Go.Proofs.YtlfmafebmnggeaaW.PrintWords.rd l (i : Int) ∧ Go.Proofs.YtlfmafebmnggeaaW.PrintWords.rd l (i : Int) < 10000 := by
  unfold Go.Proofs.YtlfmafebmnggeaaW.PrintWords.rd
  rw [Int.toNat_natCast]
  by_cases hi : i < l.length
  · rw [List.getD_eq_getElem?_getD, List.getElem?_eq_getElem hi, Option.getD_some]; exact h _ (List.getElem_mem hi)
  · rw [List.getD_eq_getElem?_getD, List.getElem?_eq_none (by omega), Option.getD_none]; omega
theorem val_nn {l : List Int} (h : Dg l) : 0 ≤ val l := by
  induction l with
  | nil => exact Int.le_refl _
  | cons x l ih =>
    have h1 := h x (List.mem_cons_self ..)
    have h2 := ih fun y hy => h y (List.mem_cons_of_mem _ hy)
    rw [val]; omega
theorem pow_pos' (n : Nat) : (0 : Int) < 10000 ^ n := Int.pow_pos (by omega)
theorem val_lt {l : List Int} (h : Dg l) : val l < 10000 ^ l.length := by
  induction l with
  | nil => exact Int.zero_lt_one
  | cons x l ih =>
    have h1 := h x (List.mem_cons_self ..)
    have h2 := ih fun y hy => h y (List.mem_cons_of_mem _ hy)
    rw [val, List.length_cons, Int.pow_succ]; omega
theorem pow_mono {m n : Nat} (h : m ≤ n) : (10000 : Int) ^ m ≤ 10000 ^ n := by
  induction n with
  | zero => rw [Nat.le_zero.1 h]; omega
  | succ n ih =>
    by_cases e : m = n + 1
    · rw [e]; omega
    · have := ih (by omega); rw [Int.pow_succ]; have := pow_pos' n; omega
theorem rd_nat (l : List Int) (i : Nat) (h : i < l.length) : rd l (i : Int) = l[i] := by
  unfold rd; rw [Int.toNat_natCast, List.getD_eq_getElem?_getD, List.getElem?_eq_getElem h, Option.getD_some]
theorem rd_out (l : List Int) (i : Nat) (h : l.length ≤ i) : rd l (i : Int) = 0 := by
  unfold rd; rw [Int.toNat_natCast, List.getD_eq_getElem?_getD, List.getElem?_eq_none h, Option.getD_none]
theorem val_take_succ (l : List Int) (i : Nat) : val (l.take (i + 1)) = val (l.take i) + 10000 ^ i * rd l (i : Int) := by
  by_cases h : i < l.length
  · rw [List.take_add_one, List.getElem?_eq_getElem h, Option.toList_some, val_snoc, List.length_take, Nat.min_eq_left (by omega), rd_nat l i h]
  · rw [rd_out l i (by omega), List.take_of_length_le (by omega), List.take_of_length_le (by omega)]; omega
theorem take_snoc (l : List Int) (i : Nat) (h : i < l.length) : l.take (i + 1) = l.take i ++ [rd l (i : Int)] := by
  rw [List.take_add_one, List.getElem?_eq_getElem h, Option.toList_some, rd_nat l i h]
theorem nz_ge {l : List Int} (h : Dg l) (g : Nz l) (hl : l ≠ []) : 10000 ^ (l.length - 1) ≤ val l := by
  have e := List.dropLast_concat_getLast hl
  have h1 : 0 < l.getLast hl := by
    have h2 := (h _ (List.getLast_mem hl)).1
    have h3 := g hl
    omega
  have hd : Dg l.dropLast := fun x hx => h x (List.dropLast_subset l hx)
  have h4 := val_nn hd
  rw [← e, val_snoc, List.length_append, List.length_dropLast]
  simp only [List.length_singleton, Nat.add_sub_cancel]
  have h5 := pow_pos' (l.length - 1)
  have h6 : (10000 : Int) ^ (l.length - 1) * 1 ≤ 10000 ^ (l.length - 1) * l.getLast hl := Int.mul_le_mul_of_nonneg_left (by omega) (by omega)
  omega
/-! ### trim, whole, Of -/
theorem trim_l1 (x : List Int) (n : Nat) (hn : n ≤ x.length) (hx : x.length ≤ 60) : ∀ d i, i + d = n → ∀ k, d + 1 ≤ k → clocheref01_trim.l1 k x (n : Int) (x.take i) (i : Int) = some (x.take n) := by
  intro d
  induction d with
  | zero =>
    intro i hi k hk
    obtain ⟨k, rfl⟩ : ∃ j, k = j + 1 := ⟨k - 1, by omega⟩
    obtain rfl : i = n := by omega
    rw [clocheref01_trim.l1, if_neg (by omega)]
  | succ d ih =>
    intro i hi k hk
    obtain ⟨k, rfl⟩ : ∃ j, k = j + 1 := ⟨k - 1, by omega⟩
    rw [clocheref01_trim.l1, if_pos (by omega), if_pos (by omega), if_pos (by omega), if_pos (by rw [List.length_take]; omega), w64 (by omega) (by omega), ← take_snoc x i (by omega)]
    exact ih (i + 1) (by omega) k (by omega)
theorem trim_j1 (x : List Int) (n : Nat) (hn : n ≤ x.length) (hx : x.length ≤ 60) (k : Nat) (hk : n + 2 ≤ k) : clocheref01_trim.j1 k x (n : Int) = some (x.take n) := by
  obtain ⟨k, rfl⟩ : ∃ j, k = j + 1 := ⟨k - 1, by omega⟩
  rw [clocheref01_trim.j1]
  exact trim_l1 x n hn hx n 0 (by omega) k (by omega)
theorem trim_l0 (x : List Int) (hx : x.length ≤ 60) (hd : Dg x) : ∀ n, n ≤ x.length → val (x.take n) = val x → ∀ k, 2 * n + 4 ≤ k → ∃ r, clocheref01_trim.l0 k x (n : Int) = some r ∧ val r = val x ∧ Dg r ∧ Nz r ∧ r.length ≤ n := by
  intro n
  induction n with
  | zero =>
    intro hn hv k hk
    obtain ⟨k, rfl⟩ : ∃ j, k = j + 1 := ⟨k - 1, by omega⟩
    rw [clocheref01_trim.l0, if_neg (by omega), trim_j1 x 0 hn hx k (by omega)]
    exact ⟨_, rfl, hv, hd.take _, fun h => absurd rfl h, by simp⟩
  | succ n ih =>
    intro hn hv k hk
    obtain ⟨k, rfl⟩ : ∃ j, k = j + 1 := ⟨k - 1, by omega⟩
    have e : wrap64 (((n + 1 : Nat) : Int) - 1) = (n : Int) := by rw [w64 (by omega) (by omega)]; omega
    rw [clocheref01_trim.l0, if_pos (by omega), e, if_pos (by omega), if_pos (by omega)]
    by_cases h0 : rd x (n : Int) = 0
    · rw [if_pos h0]
      obtain ⟨r, e1, e2, e3, e4, e5⟩ := ih (by omega) (by rw [← hv, val_take_succ, h0]; omega) k (by omega)
      exact ⟨r, e1, e2, e3, e4, by omega⟩
    · rw [if_neg h0, trim_j1 x (n + 1) hn hx k (by omega)]
      refine ⟨_, rfl, hv, hd.take _, ?_, by rw [List.length_take]; omega⟩
      intro h
      have e := take_snoc x n (by omega)
      have : (x.take (n + 1)).getLast h = rd x (n : Int) := by simp [e]
      rw [this]
      exact h0
theorem trim_f (x : List Int) (hx : x.length ≤ 60) (hd : Dg x) (k : Nat) (hk : 130 ≤ k) : ∃ r, clocheref01_trim.f k x = some r ∧ val r = val x ∧ Dg r ∧ Nz r ∧ r.length ≤ x.length := by
  unfold clocheref01_trim.f
  exact trim_l0 x hx hd x.length (Nat.le_refl _) (by rw [List.take_length]) k (by omega)
def sval (b : Bool) (l : List Int) : Int := if b = true then -val l else val l
structure Rep (b : Bool) (l : List Int) (v : Int) (n : Nat) : Prop where
  dg : Dg l
  nz : Nz l
  len : l.length ≤ n
  eq : sval b l = v
  neg : b = true → 0 < val l
theorem whole_f (b : Bool) (l : List Int) (n : Nat) (hl : l.length ≤ n) (hn : n ≤ 60) (hd : Dg l) (k : Nat) (hk : 130 ≤ k) :
    ∃ r : Bool × List Int, clocheref01_whole.f k b l = some r ∧ Rep r.1 r.2 (sval b l) n := by
  obtain ⟨r, e1, e2, e3, e4, e5⟩ := trim_f l (by omega) hd k hk
  unfold clocheref01_whole.f
  rw [e1, Option.bind_some]
  by_cases hb : b = true
  · rw [if_pos hb]
    refine ⟨_, rfl, e3, e4, Nat.le_trans e5 hl, ?_, ?_⟩
    · unfold sval
      rw [if_pos hb, ← e2]
      by_cases hr : r = []
      · subst hr; simp [val]
      · rw [if_pos (by have := List.length_pos_iff.2 hr; simpa using this)]
    · intro h
      have hr : r ≠ [] := by intro h0; subst h0; simp at h
      have h1 := nz_ge e3 e4 hr
      have h2 := pow_pos' (r.length - 1)
      exact Int.lt_of_lt_of_le h2 h1
  · rw [if_neg hb]
    exact ⟨_, rfl, e3, e4, Nat.le_trans e5 hl, by unfold sval; rw [if_neg hb, if_neg (by simp), e2], fun h => by cases h⟩
theorem Of_l0 (neg : Bool) (v : Int) : ∀ m (n : Int) l, l.length + m ≤ 6 → Dg l → -(10000 ^ m) < n → n < 10000 ^ m → -4611686018427387904 < n → n < 4611686018427387904 → (neg = true → n ≤ 0) → (neg = false → 0 ≤ n) → sval neg l + 10000 ^ l.length * n = v → ∀ k, 131 + m ≤ k →
    ∃ r : Bool × List Int, clocheref01_Of.l0 k n l neg = some r ∧ Rep r.1 r.2 v (l.length + m) := by
  intro m
  induction m with
  | zero =>
    intro n l hl hd h1 h2 _ _ h3 h4 hv k hk
    obtain ⟨k, rfl⟩ : ∃ j, k = j + 1 := ⟨k - 1, by omega⟩
    obtain rfl : n = 0 := by rw [Int.pow_zero] at h1 h2; omega
    rw [clocheref01_Of.l0, if_pos rfl]
    obtain ⟨r, e, hr⟩ := whole_f neg l l.length (Nat.le_refl _) (by omega) hd k (by omega)
    rw [e]
    rw [Int.mul_zero, Int.add_zero] at hv
    exact ⟨r, rfl, hv ▸ hr⟩
  | succ m ih =>
    intro n l hl hd h1 h2 hn1 hn2 h3 h4 hv k hk
    obtain ⟨k, rfl⟩ : ∃ j, k = j + 1 := ⟨k - 1, by omega⟩
    rw [clocheref01_Of.l0]
    by_cases h0 : n = 0
    · rw [if_pos h0]
      obtain ⟨r, e, hr⟩ := whole_f neg l (l.length + (m + 1)) (by omega) (by omega) hd k (by omega)
      rw [e]
      rw [h0, Int.mul_zero, Int.add_zero] at hv
      exact ⟨r, rfl, hv ▸ hr⟩
    · rw [if_neg h0]
      rw [Int.pow_succ] at h1 h2
      have hkey := Int.mul_tdiv_add_tmod n 10000
      have h6 : (Int.tmod n 10000).natAbs < 10000 := by rw [Int.natAbs_tmod]; exact Nat.mod_lt _ (by decide)
      have k4 : 0 < n → 0 ≤ Int.tmod n 10000 := fun h => Int.tmod_nonneg _ (by omega)
      have k5 : n < 0 → Int.tmod n 10000 ≤ 0 := fun h => by
        have e : n = -(-n) := by omega
        rw [e, Int.neg_tmod]; have := Int.tmod_nonneg 10000 (show 0 ≤ -n by omega); omega
      generalize Int.tdiv n 10000 = q at hkey ⊢
      generalize Int.tmod n 10000 = t at hkey h6 k4 k5 ⊢
      have hp := pow_pos' m
      have hlen : ∀ x : Int, (l ++ [x]).length = l.length + 1 := fun x => by simp
      by_cases ht : t < 0
      · rw [if_pos ht, if_pos (by omega), w64 (n := -t) (by omega) (by omega), w64 (n := q) (by omega) (by omega)]
        have hneg : neg = true := by
          cases neg with
          | true => rfl
          | false => have := h4 rfl; have := k4 (by omega); omega
        have hh : sval neg (l ++ [-t]) + 10000 ^ (l ++ [-t]).length * q = v := by
          rw [← hv, hlen, Int.pow_succ, ← hkey]
          unfold sval
          rw [if_pos hneg, if_pos hneg, val_snoc, Int.mul_neg, Int.mul_add, Int.mul_assoc]
          omega
        obtain ⟨r, e, hr⟩ := ih q (l ++ [-t]) (by rw [hlen]; omega) (hd.snoc (by omega) (by omega)) (by omega) (by omega) (by omega) (by omega) (fun _ => by omega) (fun h => by rw [hneg] at h; cases h) hh k (by omega)
        rw [hlen] at hr
        exact ⟨r, e, (show l.length + (m + 1) = l.length + 1 + m by omega) ▸ hr⟩
      · rw [if_neg ht, if_pos (by omega), w64 (n := q) (by omega) (by omega)]
        have hh : sval neg (l ++ [t]) + 10000 ^ (l ++ [t]).length * q = v := by
          rw [← hv, hlen, Int.pow_succ, ← hkey]
          unfold sval
          by_cases hneg : neg = true
          · have : t = 0 := by have := h3 hneg; have := k5 (by omega); omega
            rw [if_pos hneg, if_pos hneg, val_snoc, this, Int.mul_zero, Int.add_zero, Int.mul_add, Int.mul_assoc]
            omega
          · rw [if_neg hneg, if_neg hneg, val_snoc, Int.mul_add, Int.mul_assoc]
            omega
        obtain ⟨r, e, hr⟩ := ih q (l ++ [t]) (by rw [hlen]; omega) (hd.snoc (by omega) (by omega)) (by omega) (by omega) (by omega) (by omega) (fun h => by have := h3 h; omega) (fun h => by have := h4 h; omega) hh k (by omega)
        rw [hlen] at hr
        exact ⟨r, e, (show l.length + (m + 1) = l.length + 1 + m by omega) ▸ hr⟩
theorem Of_f (n : Int) (h1 : -4611686018427387904 < n) (h2 : n < 4611686018427387904) (k : Nat) (hk : 140 ≤ k) :
    ∃ r : Bool × List Int, clocheref01_Of.f k n = some r ∧ Rep r.1 r.2 n 5 := by
  unfold clocheref01_Of.f
  have e : (10000 : Int) ^ 5 = 100000000000000000000 := by decide
  obtain ⟨r, e1, hr⟩ := Of_l0 (decide (n < 0)) n 5 n [] (by simp) Dg.nil (by rw [e]; omega) (by rw [e]; omega) h1 h2 (fun h => by have := of_decide_eq_true h; omega) (fun h => by have := of_decide_eq_false h; omega) (by unfold sval; simp [val]) k (by omega)
  exact ⟨r, e1, by simpa using hr⟩
/-! ### sums of digits -/
theorem wsucc (i : Nat) (h : i ≤ 1000000) : wrap64 ((i : Int) + 1) = ((i + 1 : Nat) : Int) := by rw [w64 (by omega) (by omega)]; omega
theorem add_end (a b out : List Int) (i : Nat) (h1 : a.length ≤ i) (h2 : b.length ≤ i) (k : Nat) (hk : 2 ≤ k) : clocheref01_addD.l0 k a b out 0 (i : Int) = some out := by
  obtain ⟨k, rfl⟩ : ∃ j, k = j + 2 := ⟨k - 2, by omega⟩
  rw [clocheref01_addD.l0, if_neg (by omega), if_neg (by omega), clocheref01_addD.j1]
  simp
theorem add_round (a b out : List Int) (c : Int) (i : Nat) (h1 : i < a.length ∨ i < b.length ∨ 0 < c) (hi : i ≤ 60) (ho : out.length ≤ 100) (ha : Dg a) (hb : Dg b) (c0 : 0 ≤ c) (c1 : c ≤ 1) (k : Nat) :
    clocheref01_addD.l0 (k + 2) a b out c (i : Int) = clocheref01_addD.l0 k a b (out ++ [(c + rd a (i : Int) + rd b (i : Int)) % 10000]) ((c + rd a (i : Int) + rd b (i : Int)) / 10000) ((i + 1 : Nat) : Int) := by
  have ra := dg_rd ha i
  have rb := dg_rd hb i
  have hj : clocheref01_addD.j1 (k + 1) a b out c (i : Int) true = clocheref01_addD.l0 k a b (out ++ [(c + rd a (i : Int) + rd b (i : Int)) % 10000]) ((c + rd a (i : Int) + rd b (i : Int)) / 10000) ((i + 1 : Nat) : Int) := by
    rw [clocheref01_addD.j1, if_pos rfl]
    by_cases hia : i < a.length
    · rw [if_pos (by omega), if_pos (by omega)]
      by_cases hib : i < b.length
      · rw [if_pos (by omega), if_pos (by omega), w64 (n := c + rd a (i : Int)) (by omega) (by omega), w64 (n := c + rd a (i : Int) + rd b (i : Int)) (by omega) (by omega), wsucc i (by omega), Int.tmod_eq_emod_of_nonneg (by omega), Int.tdiv_eq_ediv_of_nonneg (by omega), w64 (by omega) (by omega)]
      · have := rd_out b i (by omega)
        rw [if_neg (by omega), if_pos (by omega), this, Int.add_zero, w64 (n := c + rd a (i : Int)) (by omega) (by omega), wsucc i (by omega), Int.tmod_eq_emod_of_nonneg (by omega), Int.tdiv_eq_ediv_of_nonneg (by omega), w64 (by omega) (by omega)]
    · have := rd_out a i (by omega)
      rw [if_neg (by omega), this, Int.add_zero]
      by_cases hib : i < b.length
      · rw [if_pos (by omega), if_pos (by omega), if_pos (by omega), w64 (n := c + rd b (i : Int)) (by omega) (by omega), wsucc i (by omega), Int.tmod_eq_emod_of_nonneg (by omega), Int.tdiv_eq_ediv_of_nonneg (by omega), w64 (by omega) (by omega)]
      · have := rd_out b i (by omega)
        rw [if_neg (by omega), if_pos (by omega), this, Int.add_zero, wsucc i (by omega), Int.tmod_eq_emod_of_nonneg (by omega), Int.tdiv_eq_ediv_of_nonneg (by omega), w64 (by omega) (by omega)]
  rw [clocheref01_addD.l0]
  by_cases hia : i < a.length
  · rw [if_pos (by omega)]; exact hj
  · rw [if_neg (by omega)]
    by_cases hib : i < b.length
    · rw [if_pos (by omega)]; exact hj
    · rw [if_neg (by omega), decide_eq_true (by omega)]; exact hj
theorem pow_step (i : Nat) (x q r : Int) (h : x = 10000 * q + r) : (10000 : Int) ^ (i + 1) * q + 10000 ^ i * r = 10000 ^ i * x := by
  rw [h, Int.mul_add, Int.pow_succ, Int.mul_assoc]
theorem add_loop (a b : List Int) (M : Nat) (hM : M ≤ 50) (la : a.length ≤ M) (lb : b.length ≤ M) (ha : Dg a) (hb : Dg b) (hm : a.length = M ∨ b.length = M) : ∀ d i out c, i + d = M → out.length = i → Dg out → 0 ≤ c → c ≤ 1 → val out + 10000 ^ i * c = val (a.take i) + val (b.take i) → ∀ k, 2 * d + 6 ≤ k →
    ∃ r, clocheref01_addD.l0 k a b out c (i : Int) = some r ∧ val r = val a + val b ∧ Dg r ∧ r.length ≤ M + 1 := by
  intro d
  induction d with
  | zero =>
    intro i out c hi ho hd c0 c1 hv k hk
    rw [List.take_of_length_le (by omega), List.take_of_length_le (by omega)] at hv
    rcases (show c = 0 ∨ c = 1 by omega) with rfl | rfl
    · exact ⟨_, add_end a b out i (by omega) (by omega) k (by omega), by omega, hd, by omega⟩
    · obtain ⟨k, rfl⟩ : ∃ j, k = j + 2 := ⟨k - 2, by omega⟩
      rw [add_round a b out 1 i (by omega) (by omega) (by omega) ha hb (by omega) (by omega), rd_out a i (by omega), rd_out b i (by omega)]
      refine ⟨_, add_end a b _ (i + 1) (by omega) (by omega) k (by omega), ?_, hd.snoc (by omega) (by omega), by rw [List.length_append, List.length_singleton]; omega⟩
      rw [val_snoc, ho]
      show val out + 10000 ^ i * 1 = _
      omega
  | succ d ih =>
    intro i out c hi ho hd c0 c1 hv k hk
    obtain ⟨k, rfl⟩ : ∃ j, k = j + 2 := ⟨k - 2, by omega⟩
    have ra := dg_rd ha i
    have rb := dg_rd hb i
    rw [add_round a b out c i (by omega) (by omega) (by omega) ha hb (by omega) (by omega)]
    refine ih (i + 1) _ _ (by omega) (by rw [List.length_append, List.length_singleton]; omega) (hd.snoc (by omega) (by omega)) (by omega) (by omega) ?_ k (by omega)
    rw [val_snoc, ho, val_take_succ, val_take_succ]
    have e := pow_step i (c + rd a (i : Int) + rd b (i : Int)) ((c + rd a (i : Int) + rd b (i : Int)) / 10000) ((c + rd a (i : Int) + rd b (i : Int)) % 10000) (by omega)
    rw [Int.mul_add, Int.mul_add] at e
    omega
theorem addD_f (a b : List Int) (n : Nat) (hn : n ≤ 50) (la : a.length ≤ n) (lb : b.length ≤ n) (ha : Dg a) (hb : Dg b) (k : Nat) (hk : 110 ≤ k) :
    ∃ r, clocheref01_addD.f k a b = some r ∧ val r = val a + val b ∧ Dg r ∧ r.length ≤ n + 1 := by
  unfold clocheref01_addD.f
  have hl : max a.length b.length ≤ n := Nat.max_le.2 ⟨la, lb⟩
  obtain ⟨r, e1, e2, e3, e4⟩ := add_loop a b (max a.length b.length) (by omega) (Nat.le_max_left ..) (Nat.le_max_right ..) ha hb (by omega) _ 0 [] 0 (Nat.zero_add _) rfl Dg.nil (by omega) (by omega) (by simp [val]) k (by omega)
  exact ⟨r, e1, e2, e3, by omega⟩
/-! ### digits compared -/
def cmpV (x y : Int) : Int := if x < y then -1 else if x > y then 1 else 0
theorem drop_step (a : List Int) (n : Nat) (h : n < a.length) : a.drop n = rd a (n : Int) :: a.drop (n + 1) := by
  rw [rd_nat a n h, List.drop_eq_getElem_cons h]
theorem val_split (a : List Int) (n : Nat) (h : n ≤ a.length) : val a = val (a.take n) + 10000 ^ n * val (a.drop n) := by
  conv => lhs; rw [← List.take_append_drop n a, val_append, List.length_take, Nat.min_eq_left h]
theorem cmp_lt (a b : List Int) (n : Nat) (h : n < a.length) (hl : a.length = b.length) (ha : Dg a) (hb : Dg b) (hd : a.drop (n + 1) = b.drop (n + 1)) (hr : rd a (n : Int) < rd b (n : Int)) : val a < val b := by
  rw [val_split a (n + 1) (by omega), val_split b (n + 1) (by omega), hd, val_take_succ, val_take_succ]
  have h1 := val_lt (ha.take n)
  rw [List.length_take, Nat.min_eq_left (by omega)] at h1
  have h2 := val_nn (hb.take n)
  have h3 := pow_pos' n
  have h4 : (10000 : Int) ^ n * (rd a (n : Int) + 1) ≤ 10000 ^ n * rd b (n : Int) := Int.mul_le_mul_of_nonneg_left (by omega) (by omega)
  rw [Int.mul_add] at h4
  omega
theorem cmp_loop (a b : List Int) (hl : a.length = b.length) (hn : a.length ≤ 60) (ha : Dg a) (hb : Dg b) : ∀ n, n ≤ a.length → a.drop n = b.drop n → ∀ k, n + 1 ≤ k → clocheref01_cmpD.l0 k a b ((n : Int) - 1) = some (cmpV (val a) (val b)) := by
  intro n
  induction n with
  | zero =>
    intro h hd k hk
    obtain ⟨k, rfl⟩ : ∃ j, k = j + 1 := ⟨k - 1, by omega⟩
    have : a = b := by simpa using hd
    rw [clocheref01_cmpD.l0, if_neg (by omega), this]
    unfold cmpV
    rw [if_neg (by omega), if_neg (by omega)]
  | succ n ih =>
    intro h hd k hk
    obtain ⟨k, rfl⟩ : ∃ j, k = j + 1 := ⟨k - 1, by omega⟩
    have e : ((n + 1 : Nat) : Int) - 1 = (n : Int) := by omega
    rw [e, clocheref01_cmpD.l0, if_pos (by omega), if_pos (by omega), if_pos (by omega), if_pos (by omega)]
    by_cases h1 : rd a (n : Int) < rd b (n : Int)
    · rw [if_pos h1]
      have := cmp_lt a b n (by omega) hl ha hb hd h1
      unfold cmpV
      rw [if_pos this]
    · rw [if_neg h1]
      by_cases h2 : rd a (n : Int) > rd b (n : Int)
      · rw [if_pos h2]
        have := cmp_lt b a n (by omega) hl.symm hb ha hd.symm h2
        unfold cmpV
        rw [if_neg (by omega), if_pos this]
      · rw [if_neg h2, w64 (by omega) (by omega)]
        refine ih (by omega) ?_ k (by omega)
        rw [drop_step a n (by omega), drop_step b n (by omega), hd, show rd a (n : Int) = rd b (n : Int) by omega]
theorem nz_lt {a b : List Int} (ha : Dg a) (hb : Dg b) (nb : Nz b) (h : a.length < b.length) : val a < val b := by
  have hb0 : b ≠ [] := by intro h0; subst h0; simp at h
  have h1 := nz_ge hb nb hb0
  have h2 := val_lt ha
  have h3 : (10000 : Int) ^ a.length ≤ 10000 ^ (b.length - 1) := pow_mono (by omega)
  omega
theorem cmpD_f (a b : List Int) (hn : a.length ≤ 60) (ha : Dg a) (hb : Dg b) (na : Nz a) (nb : Nz b) (k : Nat) (hk : 62 ≤ k) : clocheref01_cmpD.f k a b = some (cmpV (val a) (val b)) := by
  unfold clocheref01_cmpD.f
  by_cases h1 : a.length < b.length
  · have := nz_lt ha hb nb h1
    rw [if_pos (by omega)]; unfold cmpV; rw [if_pos this]
  · rw [if_neg (by omega)]
    by_cases h2 : b.length < a.length
    · have := nz_lt hb ha na h2
      rw [if_pos (by omega)]; unfold cmpV; rw [if_neg (by omega), if_pos this]
    · rw [if_neg (by omega), w64 (by omega) (by omega)]
      exact cmp_loop a b (by omega) hn ha hb a.length (Nat.le_refl _) (by rw [List.drop_length, List.drop_of_length_le (by omega)]) k (by omega)
/-! ### differences of digits -/
theorem sub_loop (a b : List Int) (ln : a.length ≤ 60) (lb : b.length ≤ a.length) (ha : Dg a) (hb : Dg b) (hab : val b ≤ val a) : ∀ d i out c, i + d = a.length → out.length = i → Dg out → 0 ≤ c → c ≤ 1 → val out - 10000 ^ i * c = val (a.take i) - val (b.take i) → ∀ k, d + 132 ≤ k →
    ∃ r, clocheref01_subD.l0 k a b out c (i : Int) = some r ∧ val r = val a - val b ∧ Dg r ∧ Nz r ∧ r.length ≤ a.length := by
  intro d
  induction d with
  | zero =>
    intro i out c hi ho hd c0 c1 hv k hk
    obtain ⟨k, rfl⟩ : ∃ j, k = j + 1 := ⟨k - 1, by omega⟩
    rw [List.take_of_length_le (by omega), List.take_of_length_le (by omega)] at hv
    rw [clocheref01_subD.l0, if_neg (by omega)]
    obtain ⟨r, e1, e2, e3, e4, e5⟩ := trim_f out (by omega) hd k (by omega)
    rw [e1]
    refine ⟨r, rfl, ?_, e3, e4, by omega⟩
    have h1 := val_lt hd
    rw [ho] at h1
    rcases (show c = 0 ∨ c = 1 by omega) with rfl | rfl
    · omega
    · omega
  | succ d ih =>
    intro i out c hi ho hd c0 c1 hv k hk
    obtain ⟨k, rfl⟩ : ∃ j, k = j + 1 := ⟨k - 1, by omega⟩
    have ra := dg_rd ha i
    have rb := dg_rd hb i
    have hlen : ∀ x : Int, (out ++ [x]).length = i + 1 := fun x => by rw [List.length_append, List.length_singleton, ho]
    have go : ∀ s c', 0 ≤ s → s < 10000 → 0 ≤ c' → c' ≤ 1 → rd a (i : Int) - c - rd b (i : Int) = 10000 * (-c') + s → ∃ r, clocheref01_subD.l0 k a b (out ++ [s]) c' ((i + 1 : Nat) : Int) = some r ∧ val r = val a - val b ∧ Dg r ∧ Nz r ∧ r.length ≤ a.length := by
      intro s c' s0 s1 c0' c1' hs
      refine ih (i + 1) _ c' (by omega) (hlen s) (hd.snoc s0 s1) c0' c1' ?_ k (by omega)
      have e := pow_step i _ _ _ hs
      rw [val_snoc, ho, val_take_succ, val_take_succ]
      rw [Int.mul_sub, Int.mul_sub, Int.mul_neg] at e
      omega
    have hia : (i : Int) < (a.length : Int) := by omega
    have hi0 : 0 ≤ (i : Int) := by omega
    rw [clocheref01_subD.l0, if_pos hia, if_pos hi0]
    by_cases hib : i < b.length
    · rw [if_pos (by omega)]
      rw [w64 (n := rd a (i : Int) - c) (by omega) (by omega), w64 (n := rd a (i : Int) - c - rd b (i : Int)) (by omega) (by omega)]
      by_cases hs : rd a (i : Int) - c - rd b (i : Int) < 0
      · rw [if_pos hs, if_pos (by omega), w64 (by omega) (by omega), wsucc i (by omega)]
        exact go _ 1 (by omega) (by omega) (by omega) (by omega) (by omega)
      · rw [if_neg hs, if_pos (by omega), wsucc i (by omega)]
        exact go _ 0 (by omega) (by omega) (by omega) (by omega) (by omega)
    · have e0 := rd_out b i (by omega)
      rw [if_neg (by omega)]
      rw [w64 (n := rd a (i : Int) - c) (by omega) (by omega)]
      by_cases hs : rd a (i : Int) - c < 0
      · rw [if_pos hs, if_pos (by omega), w64 (by omega) (by omega), wsucc i (by omega)]
        exact go _ 1 (by omega) (by omega) (by omega) (by omega) (by omega)
      · rw [if_neg hs, if_pos (by omega), wsucc i (by omega)]
        exact go _ 0 (by omega) (by omega) (by omega) (by omega) (by omega)
theorem subD_f (a b : List Int) (ln : a.length ≤ 60) (lb : b.length ≤ a.length) (ha : Dg a) (hb : Dg b) (hab : val b ≤ val a) (k : Nat) (hk : 200 ≤ k) :
    ∃ r, clocheref01_subD.f k a b = some r ∧ val r = val a - val b ∧ Dg r ∧ Nz r ∧ r.length ≤ a.length := by
  unfold clocheref01_subD.f
  exact sub_loop a b ln lb ha hb hab _ 0 [] 0 (Nat.zero_add _) rfl Dg.nil (by omega) (by omega) (by simp [val]) k (by omega)
/-! ### products of digits -/
theorem val_set (l : List Int) (j : Nat) (v : Int) (h : j < l.length) : val (l.set j v) = val l + 10000 ^ j * (v - rd l (j : Int)) := by
  rw [rd_nat l j h]
  induction l generalizing j with
  | nil => simp at h
  | cons x l ih =>
    cases j with
    | zero => simp [val]; omega
    | succ j =>
      rw [List.length_cons] at h
      rw [List.set_cons_succ, val, val, ih j (by omega), List.getElem_cons_succ, Int.pow_succ, Int.mul_add, Int.mul_right_comm, Int.mul_comm (10000 ^ j * _) 10000]
      omega
theorem rd_set (l : List Int) (j i : Nat) (v : Int) (h : j ≠ i) : rd (l.set j v) (i : Int) = rd l (i : Int) := by
  unfold rd
  rw [List.getD_eq_getElem?_getD, List.getD_eq_getElem?_getD, Int.toNat_natCast, List.getElem?_set_ne h]
theorem mul_small {x y : Int} (h0 : 0 ≤ x) (h1 : x < 10000) (g0 : 0 ≤ y) (g1 : y < 10000) : 0 ≤ x * y ∧ x * y ≤ 99980001 := by
  have := mulB (x := x) (y := y) (A := 9999) (B := 9999) (by omega) (by omega) g0 (by omega) (by omega)
  have := Int.mul_nonneg h0 g0
  omega
theorem tmod_nn {x : Int} (h : 0 ≤ x) : Int.tmod x 10000 = x % 10000 := Int.tmod_eq_emod_of_nonneg h
theorem tdiv_nn {x : Int} (h : 0 ≤ x) : Int.tdiv x 10000 = x / 10000 := Int.tdiv_eq_ediv_of_nonneg h
theorem w64n (n m : Nat) (h : n + m ≤ 1000000) : wrap64 ((n : Int) + (m : Int)) = ((n + m : Nat) : Int) := by rw [w64 (by omega) (by omega)]; omega
theorem mul_step (a b out : List Int) (c : Int) (i j : Nat) (hi : i < a.length) (hj : j < b.length) (ho : out.length = a.length + b.length) (hn : a.length + b.length ≤ 60) (ha : Dg a) (hb : Dg b) (hd : Dg out) (c0 : 0 ≤ c) (c1 : c < 10000) (k : Nat) :
    clocheref01_mulD.l1 (k + 1) a b out (i : Int) c (j : Int) = clocheref01_mulD.l1 k a b (out.set (i + j) ((rd out ((i + j : Nat) : Int) + rd a (i : Int) * rd b (j : Int) + c) % 10000)) (i : Int) ((rd out ((i + j : Nat) : Int) + rd a (i : Int) * rd b (j : Int) + c) / 10000) ((j + 1 : Nat) : Int) := by
  have ra := dg_rd ha i
  have rb := dg_rd hb j
  have ro := dg_rd hd (i + j)
  have hm := mul_small ra.1 ra.2 rb.1 rb.2
  have e : ((i + j : Nat) : Int).toNat = i + j := Int.toNat_natCast _
  rw [clocheref01_mulD.l1, if_pos (by omega), w64n i j (by omega), if_pos (by omega), if_pos (by omega), if_pos (by omega), if_pos (by omega), if_pos (by omega), e, wsucc j (by omega),
    w64 (n := rd a (i : Int) * rd b (j : Int)) (by omega) (by omega), w64 (n := rd out ((i + j : Nat) : Int) + rd a (i : Int) * rd b (j : Int)) (by omega) (by omega),
    w64 (n := rd out ((i + j : Nat) : Int) + rd a (i : Int) * rd b (j : Int) + c) (by omega) (by omega), tmod_nn (by omega), tdiv_nn (by omega), w64 (by omega) (by omega)]
theorem mul_row (a b : List Int) (i : Nat) (hi : i < a.length) (hn : a.length + b.length ≤ 60) (ha : Dg a) (hb : Dg b) (v : Int) : ∀ d j out c, j + d = b.length → out.length = a.length + b.length → Dg out → 0 ≤ c → c < 10000 →
    (∀ q : Nat, i + b.length ≤ q → rd out (q : Int) = 0) → val out + 10000 ^ (i + j) * c = v + 10000 ^ i * (rd a (i : Int) * val (b.take j)) → ∀ k, d + 1 ≤ k →
    ∃ out', out'.length = a.length + b.length ∧ Dg out' ∧ (∀ q : Nat, i + b.length + 1 ≤ q → rd out' (q : Int) = 0) ∧ val out' = v + 10000 ^ i * (rd a (i : Int) * val b) ∧
      clocheref01_mulD.l1 k a b out (i : Int) c (j : Int) = clocheref01_mulD.l0 (k - d - 1) a b out' ((i + 1 : Nat) : Int) := by
  intro d
  induction d with
  | zero =>
    intro j out c hj ho hd c0 c1 hz hv k hk
    obtain ⟨k, rfl⟩ : ∃ j, k = j + 1 := ⟨k - 1, by omega⟩
    obtain rfl : j = b.length := by omega
    rw [List.take_length] at hv
    refine ⟨out.set (i + b.length) c, by rw [List.length_set]; exact ho, hd.set _ c0 c1, ?_, ?_, ?_⟩
    · intro q hq
      rw [rd_set _ _ _ _ (by omega)]; exact hz q (by omega)
    · rw [val_set _ _ _ (by omega), hz _ (Nat.le_refl _), Int.sub_zero]; exact hv
    · have e : ((i + b.length : Nat) : Int).toNat = i + b.length := Int.toNat_natCast _
      rw [clocheref01_mulD.l1, if_neg (by omega), w64n i b.length (by omega), if_pos (by omega), if_pos (by omega), e, wsucc i (by omega)]
      rfl
  | succ d ih =>
    intro j out c hj ho hd c0 c1 hz hv k hk
    obtain ⟨k, rfl⟩ : ∃ j, k = j + 1 := ⟨k - 1, by omega⟩
    rw [mul_step a b out c i j hi (by omega) ho hn ha hb hd c0 c1]
    have ra := dg_rd ha i
    have rb := dg_rd hb j
    have ro := dg_rd hd (i + j)
    have hm := mul_small ra.1 ra.2 rb.1 rb.2
    have ek : k + 1 - (d + 1) - 1 = k - d - 1 := by omega
    rw [ek]
    refine ih (j + 1) _ _ (by omega) (by rw [List.length_set]; exact ho) (hd.set _ (by omega) (by omega)) (by omega) (by omega) ?_ ?_ k (by omega)
    · intro q hq
      rw [rd_set _ _ _ _ (by omega)]; exact hz q hq
    · rw [val_set _ _ _ (by omega), val_take_succ, Int.mul_add (rd a (i : Int)), Int.mul_add (10000 ^ i)]
      have e := pow_step (i + j) (rd out ((i + j : Nat) : Int) + rd a (i : Int) * rd b (j : Int) + c) _ _ (show _ = 10000 * ((rd out ((i + j : Nat) : Int) + rd a (i : Int) * rd b (j : Int) + c) / 10000) + (rd out ((i + j : Nat) : Int) + rd a (i : Int) * rd b (j : Int) + c) % 10000 by omega)
      have e2 : (10000 : Int) ^ i * (rd a (i : Int) * (10000 ^ j * rd b (j : Int))) = 10000 ^ (i + j) * (rd a (i : Int) * rd b (j : Int)) := by
        rw [Int.pow_add, Int.mul_left_comm (rd a (i : Int)), Int.mul_assoc]
      rw [e2, ← Nat.add_assoc i j 1]
      rw [Int.mul_add, Int.mul_add] at e
      rw [Int.mul_sub]
      omega
theorem mul_loop (a b : List Int) (hn : a.length + b.length ≤ 60) (ha : Dg a) (hb : Dg b) : ∀ d i out, i + d = a.length → out.length = a.length + b.length → Dg out → (∀ q : Nat, i + b.length ≤ q → rd out (q : Int) = 0) → val out = val (a.take i) * val b → ∀ k, d * (b.length + 2) + 135 ≤ k →
    ∃ r, clocheref01_mulD.l0 k a b out (i : Int) = some r ∧ val r = val a * val b ∧ Dg r ∧ Nz r ∧ r.length ≤ a.length + b.length := by
  intro d
  induction d with
  | zero =>
    intro i out hi ho hd hz hv k hk
    obtain ⟨k, rfl⟩ : ∃ j, k = j + 1 := ⟨k - 1, by omega⟩
    rw [clocheref01_mulD.l0, if_neg (by omega)]
    obtain ⟨r, e1, e2, e3, e4, e5⟩ := trim_f out (by omega) hd k (by omega)
    rw [e1]
    rw [List.take_of_length_le (by omega)] at hv
    exact ⟨r, rfl, by rw [e2, hv], e3, e4, by omega⟩
  | succ d ih =>
    intro i out hi ho hd hz hv k hk
    obtain ⟨k, rfl⟩ : ∃ j, k = j + 1 := ⟨k - 1, by omega⟩
    rw [Nat.succ_mul] at hk
    rw [clocheref01_mulD.l0, if_pos (by omega)]
    obtain ⟨out', h1, h2, h3, h4, h5⟩ := mul_row a b i (by omega) hn ha hb (val out) b.length 0 out 0 (by omega) ho hd (by omega) (by omega) hz (by simp [val]) k (by omega)
    have e0 : ((0 : Nat) : Int) = 0 := rfl
    rw [e0] at h5
    rw [h5]
    refine ih (i + 1) out' (by omega) h1 h2 (fun q hq => h3 q (by omega)) ?_ _ (by omega)
    rw [h4, hv, val_take_succ, Int.add_mul, Int.mul_assoc]
theorem mulD_f (a b : List Int) (n m : Nat) (la : a.length ≤ n) (lb : b.length ≤ m) (hn : n + m ≤ 60) (ha : Dg a) (hb : Dg b) (k : Nat) (hk : 4000 ≤ k) :
    ∃ r, clocheref01_mulD.f k a b = some r ∧ val r = val a * val b ∧ Dg r ∧ Nz r ∧ r.length ≤ n + m := by
  unfold clocheref01_mulD.f
  have e : ((a.length + b.length : Nat) : Int).toNat = a.length + b.length := Int.toNat_natCast _
  rw [w64n _ _ (by omega), if_pos (by omega), e, if_pos (by omega)]
  have hz : ∀ q : Nat, rd (List.replicate (a.length + b.length) (0 : Int)) (q : Int) = 0 := by
    intro q
    by_cases hq : q < a.length + b.length
    · rw [rd_nat _ _ (by rw [List.length_replicate]; exact hq), List.getElem_replicate]
    · rw [rd_out _ _ (by rw [List.length_replicate]; omega)]
  have hv : ∀ n, val (List.replicate n 0) = 0 := by
    intro n
    induction n with
    | zero => rfl
    | succ n ih => rw [List.replicate_succ, val, ih]; omega
  have hf : a.length * (b.length + 2) ≤ 60 * 62 := Nat.mul_le_mul (by omega) (by omega)
  obtain ⟨r, e1, e2, e3, e4, e5⟩ := mul_loop a b (by omega) ha hb a.length 0 (List.replicate (a.length + b.length) 0) (Nat.zero_add _) (List.length_replicate ..) (fun x hx => by rw [List.eq_of_mem_replicate hx]; omega) (fun q _ => hz q) (by rw [hv]; simp [val]) k (by omega)
  exact ⟨r, e1, e2, e3, e4, by omega⟩
/-! ### sums, products and comparisons of whole numbers -/
theorem Plus_f {s t : Bool} {a b : List Int} {x y : Int} {n : Nat} (h : Rep s a x n) (g : Rep t b y n) (hn : n ≤ 50) (k : Nat) (hk : 4000 ≤ k) :
    ∃ r : Bool × List Int, clocheref01_Plus.f k s a t b = some r ∧ Rep r.1 r.2 (x + y) (n + 1) := by
  have lh := h.len
  have lg := g.len
  have eh := h.eq
  have eg := g.eq
  unfold sval at eh eg
  unfold clocheref01_Plus.f
  by_cases hst : s = t
  · subst hst
    rw [if_pos (by simp)]
    obtain ⟨r, e1, e2, e3, e4⟩ := addD_f a b n hn h.len g.len h.dg g.dg k (by omega)
    rw [e1, Option.bind_some]
    obtain ⟨r', e5, e6⟩ := whole_f s r (n + 1) e4 (by omega) e3 k (by omega)
    rw [e5]
    refine ⟨r', rfl, ?_⟩
    have : sval s r = x + y := by
      unfold sval
      cases s <;> simp_all <;> omega
    exact this ▸ e6
  · rw [if_neg (by simpa using hst), cmpD_f a b (by omega) h.dg g.dg h.nz g.nz k (by omega), Option.bind_some]
    have hst' : t = !s := by cases s <;> cases t <;> simp_all
    by_cases hc : cmpV (val a) (val b) ≥ 0
    · rw [if_pos hc]
      have hab : val b ≤ val a := by
        unfold cmpV at hc
        split at hc
        · omega
        · omega
      have hle : b.length ≤ a.length := by
        refine Nat.le_of_not_lt fun hl => ?_
        have := nz_lt h.dg g.dg g.nz hl
        omega
      obtain ⟨r, e1, e2, e3, e4, e4'⟩ := subD_f a b (by omega) hle h.dg g.dg hab k (by omega)
      rw [e1, Option.bind_some]
      obtain ⟨r', e5, e6⟩ := whole_f s r (n + 1) (by omega) (by omega) e3 k (by omega)
      rw [e5]
      refine ⟨r', rfl, ?_⟩
      have : sval s r = x + y := by
        unfold sval
        subst hst'
        cases s <;> simp_all <;> omega
      exact this ▸ e6
    · rw [if_neg hc]
      have hab : val a ≤ val b := by
        unfold cmpV at hc
        split at hc
        · omega
        · split at hc <;> omega
      have hle : a.length ≤ b.length := by
        refine Nat.le_of_not_lt fun hl => ?_
        have := nz_lt g.dg h.dg h.nz hl
        omega
      obtain ⟨r, e1, e2, e3, e4, e4'⟩ := subD_f b a (by omega) hle g.dg h.dg hab k (by omega)
      rw [e1, Option.bind_some]
      obtain ⟨r', e5, e6⟩ := whole_f t r (n + 1) (by omega) (by omega) e3 k (by omega)
      rw [e5]
      refine ⟨r', rfl, ?_⟩
      have : sval t r = x + y := by
        unfold sval
        subst hst'
        cases s <;> simp_all <;> omega
      exact this ▸ e6
theorem Times_f {s t : Bool} {a b : List Int} {x y : Int} {n m : Nat} (h : Rep s a x n) (g : Rep t b y m) (hn : n + m ≤ 60) (k : Nat) (hk : 4000 ≤ k) :
    ∃ r : Bool × List Int, clocheref01_Times.f k s a t b = some r ∧ Rep r.1 r.2 (x * y) (n + m) := by
  have eh := h.eq
  have eg := g.eq
  unfold sval at eh eg
  unfold clocheref01_Times.f
  obtain ⟨r, e1, e2, e3, e4, e5⟩ := mulD_f a b n m h.len g.len hn h.dg g.dg k hk
  rw [e1, Option.bind_some]
  obtain ⟨r', e6, e7⟩ := whole_f (s != t) r (n + m) e5 hn e3 k (by omega)
  rw [e6]
  refine ⟨r', rfl, ?_⟩
  have : sval (s != t) r = x * y := by
    unfold sval
    rw [← eh, ← eg, e2]
    cases s <;> cases t <;> simp [Int.neg_mul_neg, Int.neg_mul, Int.mul_neg]
  exact this ▸ e7
theorem Compare_f {s t : Bool} {a b : List Int} {x y : Int} {n m : Nat} (h : Rep s a x n) (g : Rep t b y m) (hn : n ≤ 60) (k : Nat) (hk : 4000 ≤ k) :
    clocheref01_Compare.f k s a t b = some (cmpV x y) := by
  have lh := h.len
  have eh := h.eq
  have eg := g.eq
  have nh := h.neg
  have ng := g.neg
  have va := val_nn h.dg
  have vb := val_nn g.dg
  unfold sval at eh eg
  unfold clocheref01_Compare.f
  rw [cmpD_f a b (by omega) h.dg g.dg h.nz g.nz k (by omega)]
  unfold cmpV
  cases s <;> cases t
  · simp only [Bool.false_eq_true, if_false] at eh eg
    simp [eh, eg]
  · have := ng rfl
    simp only [Bool.false_eq_true, if_false, if_true] at eh eg
    rw [if_pos (by decide), if_neg (by decide), if_neg (by omega), if_pos (by omega)]
  · have := nh rfl
    simp only [Bool.false_eq_true, if_false, if_true] at eh eg
    rw [if_pos (by decide), if_pos rfl, if_pos (by omega)]
  · simp only [if_true] at eh eg
    rw [if_neg (by decide), Option.bind_some, if_pos rfl]
    by_cases h1 : val a < val b
    · rw [if_pos h1, if_neg (show ¬ x < y by omega), if_pos (show x > y by omega)]; exact congrArg some (w64 (by omega) (by omega))
    · rw [if_neg h1]
      by_cases h2 : val a > val b
      · rw [if_pos h2, if_pos (show x < y by omega)]; exact congrArg some (w64 (by omega) (by omega))
      · rw [if_neg h2, if_neg (show ¬ x < y by omega), if_neg (show ¬ x > y by omega)]; exact congrArg some (w64 (by omega) (by omega))
end Go.Proofs.Ytlfmafebmnggeaa.Pure
