/- Shapes and their beads: descending lists of different numbers; sorting; shapes of beads. -/
import Derived.Test.YtcmphfcpiciehaaBBase
import Derived.Test.YtcmphfcpiciehaaPrintx6
import Derived.Test.YtcmphfcpiciehaaPrintx7
import Derived.Test.YtcmphfcpiciehaaPrintx12
namespace Go.Proofs.Ytcmphfcpiciehaa.Pure
open Go.RowKit Go.Proofs.Ytcmphfcpiciehaa.Print Go.Proofs.YtcmphfcpiciehaaW.PrintWords Go.Proofs.YtcmphfcpiciehaaW.PrintLast Go.Proofs.YtcmphfcpiciehaaW.PrintMore
/-- Different numbers from 0 on, descending. -/
structure DB (b : List Int) : Prop where
  gt : b.Pairwise (fun x y => y < x)
  nn : ∀ x ∈ b, 0 ≤ x
theorem DB.nil : DB [] := ⟨List.Pairwise.nil, by simp⟩
theorem DB.tail {x : Int} {xs : List Int} (h : DB (x :: xs)) : DB xs := ⟨(List.pairwise_cons.1 h.gt).2, fun y hy => h.nn y (List.mem_cons_of_mem _ hy)⟩
theorem DB.head {x : Int} {xs : List Int} (h : DB (x :: xs)) : ∀ y ∈ xs, y < x := (List.pairwise_cons.1 h.gt).1
theorem DB.cons {x : Int} {xs : List Int} (h : DB xs) (h1 : ∀ y ∈ xs, y < x) (h2 : 0 ≤ x) : DB (x :: xs) := ⟨List.pairwise_cons.2 ⟨h1, h.gt⟩, fun y hy => by
  rcases List.mem_cons.1 hy with rfl | hy
  · exact h2
  · exact h.nn y hy⟩
theorem DB.high : ∀ {x : Int} {xs : List Int}, DB (x :: xs) → (xs.length : Int) ≤ x
  | x, [], h => by have := h.nn x List.mem_cons_self; simpa using this
  | x, y :: ys, h => by
    have h1 := DB.high h.tail
    have h2 := h.head y List.mem_cons_self
    rw [List.length_cons]
    omega
theorem DB.nodup {b : List Int} (h : DB b) : b.Nodup := h.gt.imp (fun {a c} h e => by omega)
theorem DB.eq {a b : List Int} (ha : DB a) (hb : DB b) (h : a.Perm b) : a = b := h.eq_of_pairwise (fun x y _ _ h1 h2 => by omega) ha.gt hb.gt
/-! ### beads, by recursion -/
theorem bd_nil : bd [] = [] := rfl
theorem bd_cons (x : Int) (xs : List Int) : bd (x :: xs) = (x + xs.length) :: bd xs := by
  refine List.ext_getElem (by simp [bd]) fun i h1 h2 => ?_
  cases i with
  | zero => simp [bd, bead]; omega
  | succ i => simp [bd, bead]; omega
theorem bd_le : ∀ (l : List Int) (X : Int), (∀ y ∈ l, y ≤ X) → ∀ z ∈ bd l, z ≤ X + l.length - 1
  | [], X, _, z, hz => by simp [bd_nil] at hz
  | x :: xs, X, h, z, hz => by
    rw [bd_cons] at hz
    rw [List.length_cons]
    have hx := h x List.mem_cons_self
    rcases List.mem_cons.1 hz with rfl | hz
    · omega
    · have := bd_le xs X (fun y hy => h y (List.mem_cons_of_mem _ hy)) z hz
      omega
/-- Rows, not ascending, from 0 on. -/
structure DR (l : List Int) : Prop where
  ge : l.Pairwise (fun x y => y ≤ x)
  nn : ∀ x ∈ l, 0 ≤ x
theorem DR.tail {x : Int} {xs : List Int} (h : DR (x :: xs)) : DR xs := ⟨(List.pairwise_cons.1 h.ge).2, fun y hy => h.nn y (List.mem_cons_of_mem _ hy)⟩
theorem DR.head {x : Int} {xs : List Int} (h : DR (x :: xs)) : ∀ y ∈ xs, y ≤ x := (List.pairwise_cons.1 h.ge).1
theorem DR.cons {x : Int} {xs : List Int} (h : DR xs) (h1 : ∀ y ∈ xs, y ≤ x) (h2 : 0 ≤ x) : DR (x :: xs) := ⟨List.pairwise_cons.2 ⟨h1, h.ge⟩, fun y hy => by
  rcases List.mem_cons.1 hy with rfl | hy
  · exact h2
  · exact h.nn y hy⟩
theorem DR.bd : ∀ {l : List Int}, DR l → DB (bd l)
  | [], _ => DB.nil
  | x :: xs, h => by
    rw [bd_cons]
    refine DB.cons (DR.bd h.tail) (fun y hy => ?_) ?_
    · have := bd_le xs x h.head y hy
      omega
    · have := h.nn x List.mem_cons_self
      omega
theorem DR.zeros (n : Nat) : DR (List.replicate n 0) := by
  refine ⟨?_, fun x hx => by rw [List.eq_of_mem_replicate hx]; exact Int.le_refl _⟩
  rw [List.pairwise_replicate]
  exact .inr (Int.le_refl _)
theorem DR.pad {l : List Int} (h : DR l) (n : Nat) : DR (l ++ List.replicate n 0) := by
  refine ⟨List.pairwise_append.2 ⟨h.ge, (DR.zeros n).ge, fun x hx y hy => ?_⟩, fun x hx => ?_⟩
  · rw [List.eq_of_mem_replicate hy]
    exact h.nn x hx
  · rcases List.mem_append.1 hx with hx | hx
    · exact h.nn x hx
    · rw [List.eq_of_mem_replicate hx]
      exact Int.le_refl _
theorem pw_of_step : ∀ {l : List Int}, (∀ i, i + 1 < l.length → l.getD (i + 1) 0 ≤ l.getD i 0) → l.Pairwise (fun x y => y ≤ x)
  | [], _ => List.Pairwise.nil
  | [x], _ => List.pairwise_singleton _ _
  | x :: y :: ys, h => by
    have ih : (y :: ys).Pairwise (fun x y => y ≤ x) := pw_of_step fun i hi => by
      have := h (i + 1) (by simp at hi ⊢; omega)
      simpa using this
    refine List.pairwise_cons.2 ⟨fun z hz => ?_, ih⟩
    have h0 : y ≤ x := by simpa using h 0 (by simp)
    rcases List.mem_cons.1 hz with rfl | hz
    · exact h0
    · exact Int.le_trans ((List.pairwise_cons.1 ih).1 z hz) h0
theorem step_of_pw {l : List Int} (h : l.Pairwise (fun x y => y ≤ x)) (i : Nat) (hi : i + 1 < l.length) : l.getD (i + 1) 0 ≤ l.getD i 0 := by
  rw [getD_at hi, getD_at (show i < l.length by omega)]
  exact List.pairwise_iff_getElem.1 h i (i + 1) (by omega) hi (by omega)
theorem Shp.dr {l : List Int} (h : Shp l) : DR l := ⟨pw_of_step h.desc, fun x hx => by have := h.bound x hx; omega⟩
theorem Shp.db {l : List Int} (h : Shp l) : DB (bd l) := h.dr.bd
theorem mem_le_sum : ∀ {l : List Int}, (∀ x ∈ l, 0 ≤ x) → 0 ≤ l.sum ∧ ∀ x ∈ l, x ≤ l.sum
  | [], _ => by simp
  | a :: l, h => by
    have ih := mem_le_sum (l := l) (fun x hx => h x (List.mem_cons_of_mem _ hx))
    have ha := h a List.mem_cons_self
    rw [List.sum_cons]
    refine ⟨by omega, fun x hx => ?_⟩
    rcases List.mem_cons.1 hx with rfl | hx
    · omega
    · have := ih.2 x hx
      omega
theorem shp_of {l : List Int} (h1 : l.length ≤ 12) (h : DR l) (hp : ∀ x ∈ l, 1 ≤ x) (hs : l.sum ≤ 40) : Shp l :=
  ⟨h1, fun x hx => ⟨hp x hx, Int.le_trans ((mem_le_sum h.nn).2 x hx) hs⟩, fun i hi => step_of_pw h.ge i hi, hs⟩
/-! ### the rows of beads -/
def rows : List Int → List Int
  | [] => []
  | x :: xs => (x - xs.length) :: rows xs
theorem rows_length : ∀ b : List Int, (rows b).length = b.length
  | [] => rfl
  | x :: xs => by rw [rows, List.length_cons, List.length_cons, rows_length xs]
theorem rows_bd : ∀ l : List Int, rows (bd l) = l
  | [] => rfl
  | x :: xs => by
    rw [bd_cons, rows, rows_bd xs, bd_length, Int.add_sub_cancel]
theorem bd_rows : ∀ b : List Int, bd (rows b) = b
  | [] => rfl
  | x :: xs => by
    rw [rows, bd_cons, bd_rows xs, rows_length, Int.sub_add_cancel]
theorem rows_le : ∀ (b : List Int), DB b → ∀ X : Int, (∀ y ∈ b, y ≤ X) → ∀ z ∈ rows b, z ≤ X - b.length + 1
  | [], _, X, _, z, hz => by simp [rows] at hz
  | x :: xs, h, X, hX, z, hz => by
    have hx := hX x List.mem_cons_self
    rw [rows] at hz
    rw [List.length_cons]
    rcases List.mem_cons.1 hz with rfl | hz
    · omega
    · have := rows_le xs h.tail (X - 1) (fun y hy => by have := h.head y hy; omega) z hz
      omega
theorem DB.rows : ∀ {b : List Int}, DB b → DR (rows b)
  | [], _ => ⟨List.Pairwise.nil, by simp [Pure.rows]⟩
  | x :: xs, h => by
    rw [Pure.rows]
    refine DR.cons (DB.rows h.tail) (fun y hy => ?_) ?_
    · have := rows_le xs h.tail (x - 1) (fun y hy => by have := h.head y hy; omega) y hy
      omega
    · have := h.high
      omega
/-- The shape of beads. -/
def shB (b : List Int) : List Int := (rows b).filter fun x => decide (x > 0)
theorem filter_zeros (n : Nat) : (List.replicate n (0 : Int)).filter (fun x => decide (x > 0)) = [] := by
  rw [List.filter_replicate]
  rfl
theorem filter_pos : ∀ {l : List Int}, DR l → l.filter (fun x => decide (x > 0)) ++ List.replicate (l.length - (l.filter fun x => decide (x > 0)).length) 0 = l
  | [], _ => rfl
  | x :: xs, h => by
    have hx := h.nn x List.mem_cons_self
    by_cases hp : x > 0
    · rw [List.filter_cons, if_pos (decide_eq_true hp), List.cons_append, List.length_cons, List.length_cons, Nat.add_sub_add_right, filter_pos h.tail]
    · have hx0 : x = 0 := by omega
      have hz : xs = List.replicate xs.length 0 := List.eq_replicate_iff.2 ⟨rfl, fun y hy => by
        have h1 := h.head y hy
        have h2 := h.tail.nn y hy
        omega⟩
      have he : (x :: xs).filter (fun x => decide (x > 0)) = [] := by
        rw [List.filter_cons, if_neg (by rw [decide_eq_true_eq]; exact hp), hz, filter_zeros]
      rw [he, List.nil_append, hx0, hz]
      simp [List.replicate_succ]
theorem DB.form {b : List Int} (h : DB b) : bd (shB b ++ List.replicate (b.length - (shB b).length) 0) = b := by
  have := filter_pos h.rows
  rw [rows_length] at this
  unfold shB
  rw [this, bd_rows]
theorem shB_pad {l : List Int} (hp : ∀ x ∈ l, 1 ≤ x) (n : Nat) : shB (bd (l ++ List.replicate n 0)) = l := by
  unfold shB
  rw [rows_bd, List.filter_append, filter_zeros, List.append_nil, List.filter_eq_self.2]
  intro x hx
  have := hp x hx
  exact decide_eq_true (by omega)
theorem shB_bd {l : List Int} (hp : ∀ x ∈ l, 1 ≤ x) : shB (bd l) = l := by
  have := shB_pad hp 0
  rwa [List.replicate_zero, List.append_nil] at this
theorem shB_pos (b : List Int) : ∀ x ∈ shB b, 1 ≤ x := fun x hx => by
  have := (List.mem_filter.1 hx).2
  rw [decide_eq_true_eq] at this
  omega
theorem DB.shB_dr {b : List Int} (h : DB b) : DR (shB b) := ⟨h.rows.ge.filter _, fun x hx => by have := shB_pos b x hx; omega⟩
theorem shB_length (b : List Int) : (shB b).length ≤ b.length := by
  have := List.length_filter_le (fun x : Int => decide (x > 0)) (rows b)
  rw [rows_length] at this
  exact this
def tri : Nat → Int
  | 0 => 0
  | n + 1 => n + tri n
theorem sum_rows : ∀ b : List Int, (rows b).sum = b.sum - tri b.length
  | [] => rfl
  | x :: xs => by
    rw [rows, List.sum_cons, List.sum_cons, sum_rows xs, List.length_cons, tri]
    omega
theorem sum_bd (l : List Int) : (bd l).sum = l.sum + tri l.length := by
  have := sum_rows (bd l)
  rw [rows_bd, bd_length] at this
  omega
theorem sum_zeros (n : Nat) : (List.replicate n (0 : Int)).sum = 0 := by
  induction n with
  | zero => rfl
  | succ n ih => rw [List.replicate_succ, List.sum_cons, ih]; rfl
theorem DB.sum {b : List Int} (h : DB b) : (shB b).sum = b.sum - tri b.length := by
  rw [← sum_rows]
  have := congrArg List.sum (filter_pos h.rows)
  rw [List.sum_append, sum_zeros] at this
  unfold shB
  omega
/-! ### beads at a number of rows -/
def pad (N : Nat) (l : List Int) : List Int := bd (l ++ List.replicate (N - l.length) 0)
theorem pad_length {N : Nat} {l : List Int} (h : l.length ≤ N) : (pad N l).length = N := by
  rw [pad, bd_length, List.length_append, List.length_replicate]
  omega
theorem pad_db {l : List Int} (h : DR l) (N : Nat) : DB (pad N l) := (h.pad _).bd
theorem pad_self (l : List Int) : pad l.length l = bd l := by
  rw [pad, Nat.sub_self, List.replicate_zero, List.append_nil]
theorem shB_of_pad {l : List Int} (hp : ∀ x ∈ l, 1 ≤ x) (N : Nat) : shB (pad N l) = l := shB_pad hp _
theorem DB.pad_shB {b : List Int} (h : DB b) : pad b.length (shB b) = b := h.form
theorem sum_pad {N : Nat} {l : List Int} (h : l.length ≤ N) : (pad N l).sum = l.sum + tri N := by
  rw [pad, sum_bd, List.sum_append, sum_zeros, List.length_append, List.length_replicate, show l.length + (N - l.length) = N by omega]
  omega
/-! ### sorting -/
def dsort (b : List Int) : List Int := (isort b).reverse
theorem dsort_perm (b : List Int) : (dsort b).Perm b := (List.reverse_perm _).trans (isort_perm b)
theorem dsort_length (b : List Int) : (dsort b).length = b.length := (dsort_perm b).length_eq
theorem dsort_ge (b : List Int) : (dsort b).Pairwise (fun x y => y ≤ x) := List.pairwise_reverse.2 (isort_sorted b)
theorem dsort_db {b : List Int} (h : b.Nodup) (hn : ∀ x ∈ b, 0 ≤ x) : DB (dsort b) := by
  refine ⟨?_, fun x hx => hn x ((dsort_perm b).mem_iff.1 hx)⟩
  have h2 : (dsort b).Nodup := (dsort_perm b).nodup_iff.2 h
  have := (dsort_ge b).and h2
  exact this.imp (fun {x y} h => by
    have h1 := h.1
    have h2 := h.2
    omega)
theorem DB.dsort {b : List Int} (h : DB b) : dsort b = b := DB.eq (dsort_db h.nodup h.nn) h (dsort_perm b)
theorem dsort_unique {a b : List Int} (h : a.Perm b) : Pure.dsort a = Pure.dsort b :=
  ((dsort_perm a).trans (h.trans (dsort_perm b).symm)).eq_of_pairwise (fun x y _ _ h1 h2 => by omega) (dsort_ge a) (dsort_ge b)
theorem ext_getD {a b : List Int} (hl : a.length = b.length) (h : ∀ i, i < a.length → a.getD i 0 = b.getD i 0) : a = b := by
  refine List.ext_getElem hl fun i h1 h2 => ?_
  have := h i h1
  rwa [getD_at h1, getD_at h2] at this
theorem getD_set (l : List Int) (i : Nat) (x : Int) (j : Nat) (h : i < l.length) : (l.set i x).getD j 0 = if i = j then x else l.getD j 0 := by
  rw [List.getD_eq_getElem?_getD, List.getElem?_set, List.getD_eq_getElem?_getD]
  split
  · subst_vars
    simp
  · rfl
def mk (n : Nat) (f : Nat → Int) : List Int := (List.range' 0 n).map f
theorem mk_length (n : Nat) (f : Nat → Int) : (mk n f).length = n := by simp [mk]
theorem mk_getD {n : Nat} {f : Nat → Int} {i : Nat} (h : i < n) : (mk n f).getD i 0 = f i := by
  rw [getD_at (by rw [mk_length]; exact h)]
  simp [mk]
/-! ### slices.Reverse -/
def rvF (l : List Int) (i p : Nat) : Int := if p < i ∨ l.length < p + 1 + i then l.getD (l.length - 1 - p) 0 else l.getD p 0
def rvS (l : List Int) (i : Nat) : List Int := mk l.length (rvF l i)
theorem rvS_zero (l : List Int) : rvS l 0 = l := ext_getD (mk_length _ _) fun i hi => by
  have hi : i < l.length := by rwa [rvS, mk_length] at hi
  rw [rvS, mk_getD hi, rvF, if_neg (by omega)]
theorem rvS_end (l : List Int) (i : Nat) (h : l.length ≤ 2 * i + 1) : rvS l i = l.reverse := ext_getD (by rw [rvS, mk_length, List.length_reverse]) fun p hp => by
  have hp : p < l.length := by rwa [rvS, mk_length] at hp
  have e : l.reverse.getD p 0 = l.getD (l.length - 1 - p) 0 := by
    rw [getD_at (by rw [List.length_reverse]; exact hp), getD_at (show l.length - 1 - p < l.length by omega), List.getElem_reverse]
  rw [rvS, mk_getD hp, rvF, e]
  split
  · rfl
  · congr 1
    omega
theorem rvS_step (l : List Int) (i : Nat) (h : 2 * i + 1 < l.length) : ((rvS l i).set i ((rvS l i).getD (l.length - 1 - i) 0)).set (l.length - 1 - i) ((rvS l i).getD i 0) = rvS l (i + 1) := by
  have hl := mk_length l.length (rvF l i)
  have hl' : (rvS l i).length = l.length := hl
  refine ext_getD (by rw [List.length_set, List.length_set, hl', rvS, mk_length]) fun p hp => ?_
  rw [List.length_set, List.length_set, hl'] at hp
  rw [getD_set _ _ _ _ (by rw [List.length_set, hl']; omega), getD_set _ _ _ _ (by rw [hl']; omega), show rvS l (i + 1) = mk l.length (rvF l (i + 1)) from rfl, mk_getD hp, show rvS l i = mk l.length (rvF l i) from rfl, mk_getD (show i < l.length by omega), mk_getD (show l.length - 1 - i < l.length by omega), mk_getD hp]
  by_cases h1 : l.length - 1 - i = p
  · rw [if_pos h1]
    unfold rvF
    rw [if_neg (by omega), if_pos (by omega)]
    congr 1
    omega
  · rw [if_neg h1]
    by_cases h2 : i = p
    · rw [if_pos h2]
      unfold rvF
      rw [if_neg (by omega), if_pos (by omega)]
      congr 1
      omega
    · rw [if_neg h2]
      unfold rvF
      by_cases h3 : p < i ∨ l.length < p + 1 + i
      · rw [if_pos h3, if_pos (by omega)]
      · rw [if_neg h3, if_neg (by omega)]
theorem Reverse_l0 (l : List Int) (hl : l.length ≤ 1000000) : ∀ m k (i : Nat) (j : Int), l.length ≤ 2 * i + m → m < k → i ≤ l.length → j = (l.length : Int) - 1 - i → slices_Reverse_int_int.l0 k (rvS l i) i j = some l.reverse
  | 0, k, i, j, h, hk, hi, hj => by
    obtain ⟨k, rfl, _⟩ := succK hk
    simp only [slices_Reverse_int_int.l0]
    rw [if_neg (by omega), rvS_end l i (by omega)]
  | m + 1, k, i, j, h, hk, hi, hj => by
    obtain ⟨k, rfl, _⟩ := succK hk
    have hl' : (rvS l i).length = l.length := mk_length _ _
    simp only [slices_Reverse_int_int.l0]
    by_cases hc : (i : Int) < j
    · have hj2 : j = ((l.length - 1 - i : Nat) : Int) := by omega
      have ih := Reverse_l0 l hl m k (i + 1) (j - 1) (by omega) (by omega) (by omega) (by omega)
      rw [if_pos hc, if_pos (by omega), if_pos (by omega), if_pos (by omega), if_pos (by omega), inc64 i (by omega), w64 (show -9223372036854775808 ≤ j - 1 by omega) (by omega), ← ih, hj2, rdn, rdn, Int.toNat_natCast, Int.toNat_natCast, rvS_step l i (by omega)]
    · rw [if_neg hc, rvS_end l i (by omega)]
theorem Reverse_f (l : List Int) (hl : l.length ≤ 1000000) (k : Nat) (hk : l.length < k) : slices_Reverse_int_int.f k l = some l.reverse := by
  have := Reverse_l0 l hl l.length k 0 ((l.length : Int) - 1) (by omega) hk (by omega) (by omega)
  rw [rvS_zero] at this
  unfold slices_Reverse_int_int.f
  rw [w64 (by omega) (by omega)]
  exact this
/-! ### slices.Contains -/
theorem Index_l0 (l : List Int) (hl : l.length ≤ 1000000) (x : Int) : ∀ n k (i : Nat), i + n = l.length → n < k → ∃ r, slices_Index_int_int.l0 k l x l.length i = some r ∧ (r ≥ 0 ↔ x ∈ l.drop i)
  | 0, k, i, h, hk => by
    obtain ⟨k, rfl, _⟩ := succK hk
    simp only [slices_Index_int_int.l0]
    rw [if_neg (by omega), List.drop_eq_nil_of_le (by omega)]
    exact ⟨-1, rfl, by simp⟩
  | n + 1, k, i, h, hk => by
    obtain ⟨k, rfl, _⟩ := succK hk
    obtain ⟨r, ih, hr⟩ := Index_l0 l hl x n k (i + 1) (by omega) (by omega)
    simp only [slices_Index_int_int.l0]
    rw [if_pos (by omega), if_pos (by omega), if_pos (by omega), rdn, inc64 i (by omega), ih, drop_getD (show i < l.length by omega), List.mem_cons]
    by_cases hx : x = l.getD i 0
    · rw [if_pos hx]
      exact ⟨_, rfl, ⟨fun _ => .inl hx, fun _ => by omega⟩⟩
    · rw [if_neg hx]
      refine ⟨r, rfl, ?_⟩
      rw [hr]
      exact ⟨fun h => .inr h, fun h => h.resolve_left hx⟩
theorem Contains_f (l : List Int) (hl : l.length ≤ 1000000) (x : Int) (k : Nat) (hk : l.length < k) : slices_Contains_int_int.f k l x = some (decide (x ∈ l)) := by
  obtain ⟨r, h, hr⟩ := Index_l0 l hl x l.length k 0 (by omega) hk
  unfold slices_Contains_int_int.f slices_Index_int_int.f
  rw [show ((0 : Nat) : Int) = 0 from rfl] at h
  rw [h, Option.bind_some]
  rw [List.drop_zero] at hr
  congr 1
  exact decide_eq_decide.2 hr
/-! ### the rows of beads -/
theorem rows_getD : ∀ (b : List Int) (r : Nat), r < b.length → (rows b).getD r 0 = b.getD r 0 - ((b.length : Int) - 1 - r)
  | [], r, h => by simp at h
  | x :: xs, 0, _ => by
    show x - (xs.length : Int) = x - (((x :: xs).length : Int) - 1 - (0 : Nat))
    rw [List.length_cons]
    omega
  | x :: xs, r + 1, h => by
    have ih := rows_getD xs r (by simpa using h)
    show (rows xs).getD r 0 = xs.getD r 0 - (((x :: xs).length : Int) - 1 - (r + 1 : Nat))
    rw [ih, List.length_cons]
    omega
def ofF (m : List Int) (i p : Nat) : Int := if p < i then (rows m).getD p 0 else m.getD p 0
def ofS (m : List Int) (i : Nat) : List Int := mk m.length (ofF m i)
theorem ofS_length (m : List Int) (i : Nat) : (ofS m i).length = m.length := mk_length _ _
theorem ofS_zero (m : List Int) : ofS m 0 = m := ext_getD (mk_length _ _) fun p hp => by
  rw [ofS_length] at hp
  rw [ofS, mk_getD hp, ofF, if_neg (by omega)]
theorem ofS_full (m : List Int) : ofS m m.length = rows m := ext_getD (by rw [ofS_length, rows_length]) fun p hp => by
  rw [ofS_length] at hp
  rw [ofS, mk_getD hp, ofF, if_pos hp]
theorem ofS_getD (m : List Int) (i : Nat) (h : i < m.length) : (ofS m i).getD i 0 = m.getD i 0 := by
  rw [ofS, mk_getD h, ofF, if_neg (by omega)]
theorem ofS_set (m : List Int) (i : Nat) (h : i < m.length) : (ofS m i).set i ((rows m).getD i 0) = ofS m (i + 1) := ext_getD (by rw [List.length_set, ofS_length, ofS_length]) fun p hp => by
  rw [List.length_set, ofS_length] at hp
  rw [getD_set _ _ _ _ (by rw [ofS_length]; exact h), ofS, mk_getD hp, show ofS m (i + 1) = mk m.length (ofF m (i + 1)) from rfl, mk_getD hp, ofF, ofF]
  by_cases h1 : i = p
  · rw [if_pos h1, if_pos (by omega), h1]
  · rw [if_neg h1]
    by_cases h2 : p < i
    · rw [if_pos h2, if_pos (by omega)]
    · rw [if_neg h2, if_neg (by omega)]
theorem of_l0 (m : List Int) (hl : m.length ≤ 1000000) (hb : ∀ x ∈ m, 0 ≤ x ∧ x ≤ 1000000000) : ∀ n k (i : Nat), i + n = m.length → n < k → blocks_of.l0 k (ofS m i) m.length i = some (nz (rows m))
  | 0, k, i, h, hk => by
    obtain ⟨k, rfl, _⟩ := succK hk
    have : i = m.length := by omega
    subst this
    simp only [blocks_of.l0]
    rw [if_neg (by omega), ofS_full]
    unfold slices_DeleteFunc_int_int.f
    rw [if_pos (by rw [rows_length]; omega)]
    rfl
  | n + 1, k, i, h, hk => by
    obtain ⟨k, rfl, _⟩ := succK hk
    have ih := of_l0 m hl hb n k (i + 1) (by omega) (by omega)
    have hx := hb _ (getD_mem (show i < m.length by omega))
    have hr := rows_getD m i (by omega)
    simp only [blocks_of.l0]
    rw [if_pos (by omega), if_pos (by omega), if_pos (by rw [ofS_length]; omega), rdn, ofS_getD m i (by omega), ofS_length, w64 (show -9223372036854775808 ≤ (m.length : Int) - 1 by omega) (by omega), w64 (show -9223372036854775808 ≤ (m.length : Int) - 1 - i by omega) (by omega), w64 (show -9223372036854775808 ≤ m.getD i 0 - ((m.length : Int) - 1 - i) by omega) (by omega), ← hr, Int.toNat_natCast, ofS_set m i (by omega), inc64 i (by omega)]
    exact ih
theorem of_f (b : List Int) (hl : b.length ≤ 1000000) (hb : ∀ x ∈ b, 0 ≤ x ∧ x ≤ 1000000000) (k : Nat) (hk : b.length < k) : blocks_of.f k b = some (nz (rows (dsort b))) := by
  have hlen : (isort b).length = b.length := (isort_perm b).length_eq
  have h0 := of_l0 (dsort b) (by rw [dsort_length]; exact hl) (fun x hx => hb x ((dsort_perm b).mem_iff.1 hx)) (dsort b).length k 0 (by omega) (by rw [dsort_length]; exact hk)
  rw [ofS_zero, dsort_length] at h0
  unfold blocks_of.f slices_Clone_int_int.f slices_Sort_int_int.f
  rw [Option.bind_some, if_pos (by simp; omega), Option.bind_some, List.nil_append, if_pos (by omega), Option.bind_some, Reverse_f _ (by omega) k (by omega), Option.bind_some]
  exact h0
theorem nz_rows {b : List Int} (h : DB b) : nz (rows b) = shB b := by
  unfold nz shB
  refine List.filter_congr fun x hx => ?_
  have := h.rows.nn x hx
  by_cases h0 : x = 0
  · subst h0
    rfl
  · rw [decide_eq_true (by omega), beq_eq_false_iff_ne.2 h0]
    rfl
theorem of_db (b : List Int) (hd : DB (dsort b)) (hl : b.length ≤ 1000000) (hb : ∀ x ∈ b, 0 ≤ x ∧ x ≤ 1000000000) (k : Nat) (hk : b.length < k) : blocks_of.f k b = some (shB (dsort b)) := by
  rw [of_f b hl hb k hk, nz_rows hd]
def mv (t : Int) (b : List Int) (i : Nat) : List Int := b.set i (b.getD i 0 - t)
def can (t : Int) (b : List Int) (i : Nat) : Bool := decide (t ≤ b.getD i 0) && !decide ((b.getD i 0 - t) ∈ b)
def stpB (t : Int) (b : List Int) : List (List Int) := ((List.range' 0 b.length).filter (can t b)).map fun i => dsort (mv t b i)
def strp (t : Int) (l : List Int) : List (List Int) := (stpB t (bd l)).map shB
theorem mv_length (t : Int) (b : List Int) (i : Nat) : (mv t b i).length = b.length := List.length_set
def rest (b : List Int) (i : Nat) : List Int := b.take i ++ b.drop (i + 1)
theorem perm_at {b : List Int} {i : Nat} (h : i < b.length) : b.Perm (b.getD i 0 :: rest b i) := by
  have : b = b.take i ++ b.getD i 0 :: b.drop (i + 1) := by rw [← drop_getD h, List.take_append_drop]
  conv => lhs; rw [this]
  exact List.perm_middle
theorem perm_set {b : List Int} {i : Nat} (h : i < b.length) (x : Int) : (b.set i x).Perm (x :: rest b i) := by
  rw [List.set_eq_take_append_cons_drop, if_pos h]
  exact List.perm_middle
theorem rest_sub {b : List Int} {i : Nat} (h : i < b.length) : ∀ x ∈ rest b i, x ∈ b := fun _ hx => (perm_at h).mem_iff.2 (List.mem_cons_of_mem _ hx)
/-- One strip is taken off. -/
structure Step (t : Int) (b b' : List Int) : Prop where
  db : DB b'
  ex : ∃ x r, b.Perm (x :: r) ∧ b'.Perm ((x - t) :: r) ∧ t ≤ x ∧ (x - t) ∉ b
theorem can_iff (t : Int) (b : List Int) (i : Nat) : can t b i = true ↔ t ≤ b.getD i 0 ∧ (b.getD i 0 - t) ∉ b := by
  unfold can
  rw [Bool.and_eq_true, decide_eq_true_eq, Bool.not_eq_true', decide_eq_false_iff_not]
theorem mv_db {t : Int} {b : List Int} (hb : DB b) {i : Nat} (hi : i < b.length) (hc : can t b i = true) : DB (dsort (mv t b i)) := by
  obtain ⟨h1, h2⟩ := (can_iff t b i).1 hc
  have hp := perm_set hi (b.getD i 0 - t)
  have hn := (List.nodup_cons.1 ((perm_at hi).nodup_iff.1 hb.nodup)).2
  refine dsort_db (hp.nodup_iff.2 (List.nodup_cons.2 ⟨fun h => h2 (rest_sub hi _ h), hn⟩)) fun x hx => ?_
  rcases List.mem_cons.1 (hp.mem_iff.1 hx) with rfl | hx
  · omega
  · exact hb.nn x (rest_sub hi _ hx)
theorem step_of {t : Int} {b : List Int} (hb : DB b) {b' : List Int} (h : b' ∈ stpB t b) : Step t b b' := by
  obtain ⟨i, hi, rfl⟩ := List.mem_map.1 h
  obtain ⟨h1, h2⟩ := List.mem_filter.1 hi
  have hi : i < b.length := by
    rw [List.mem_range'_1] at h1
    omega
  obtain ⟨h3, h4⟩ := (can_iff t b i).1 h2
  exact ⟨mv_db hb hi h2, _, _, perm_at hi, (dsort_perm _).trans (perm_set hi _), h3, h4⟩
theorem Step.length {t : Int} {b b' : List Int} (h : Step t b b') : b'.length = b.length := by
  obtain ⟨x, r, h1, h2, _⟩ := h.ex
  rw [h1.length_eq, h2.length_eq]
  rfl
theorem sum_perm {a b : List Int} (h : a.Perm b) : a.sum = b.sum := by
  induction h with
  | nil => rfl
  | cons x _ ih => rw [List.sum_cons, List.sum_cons, ih]
  | swap x y l => rw [List.sum_cons, List.sum_cons, List.sum_cons, List.sum_cons]; omega
  | trans _ _ h1 h2 => rw [h1, h2]
theorem Step.sum {t : Int} {b b' : List Int} (h : Step t b b') : b'.sum = b.sum - t := by
  obtain ⟨x, r, h1, h2, _⟩ := h.ex
  rw [sum_perm h1, sum_perm h2, List.sum_cons, List.sum_cons]
  omega
/-- The shape that is left is a shape. -/
theorem Step.shp {t : Int} {l b' : List Int} (hs : Shp l) (ht : 0 ≤ t) (h : Step t (bd l) b') : Shp (shB b') ∧ (shB b').sum = l.sum - t := by
  have h1 := h.length
  rw [bd_length] at h1
  have h2 := shB_length b'
  have h3 := hs.len
  have h4 : (shB b').sum = l.sum - t := by
    rw [h.db.sum, h.sum, sum_bd, h1]
    omega
  have := hs.sum
  exact ⟨shp_of (by omega) h.db.shB_dr (shB_pos b') (by omega), h4⟩
theorem strp_shp {t : Int} {l : List Int} (hs : Shp l) (ht : 0 ≤ t) {s : List Int} (h : s ∈ strp t l) : Shp s ∧ s.sum = l.sum - t := by
  obtain ⟨b', hb, rfl⟩ := List.mem_map.1 h
  exact (step_of hs.db hb).shp hs ht
/-! ### the loops -/
structure Bnd (b : List Int) : Prop where
  db : DB b
  len : b.length ≤ 12
  le : ∀ x ∈ b, x ≤ 1000
theorem Shp.bnd {l : List Int} (h : Shp l) : Bnd (bd l) := ⟨h.db, by rw [bd_length]; exact h.len, fun x hx => by
  have := bd_le l 40 (fun y hy => (h.bound y hy).2) x hx
  have := h.len
  omega⟩
theorem mv_bnd {t : Int} {b : List Int} (hb : Bnd b) (ht : 0 < t) {i : Nat} (hi : i < b.length) (hc : can t b i = true) : ∀ x ∈ mv t b i, 0 ≤ x ∧ x ≤ 1000000000 := fun x hx => by
  have h1 := (can_iff t b i).1 hc
  have h2 := hb.le _ (getD_mem hi)
  rcases List.mem_cons.1 ((perm_set hi _).mem_iff.1 hx) with rfl | hx
  · omega
  · have := hb.db.nn x (rest_sub hi _ hx)
    have := hb.le x (rest_sub hi _ hx)
    omega
theorem bs_l0 (t : Int) (ht : 0 < t) (ht2 : t ≤ 1000) (b : List Int) (hb : Bnd b) : ∀ m k (i : Nat) (acc : List (List Int)), i + m = b.length → 2 * m + 20 ≤ k → acc.length ≤ i → blocks_strips.l0 k t b acc b.length i = some (acc ++ ((List.range' i m).filter (can t b)).map fun i => shB (dsort (mv t b i)))
  | 0, k, i, acc, h, hk, ha => by
    obtain ⟨k, rfl, _⟩ := succK (show 0 < k by omega)
    simp only [blocks_strips.l0]
    rw [if_neg (by omega)]
    simp
  | m + 1, k, i, acc, h, hk, ha => by
    have hl := hb.len
    have hi : i < b.length := by omega
    have hx := hb.db.nn _ (getD_mem hi)
    have hx2 := hb.le _ (getD_mem hi)
    obtain ⟨k, rfl⟩ : ∃ K, k = K + 1 + 1 := ⟨k - 2, by omega⟩
    have ih := fun acc' h' => bs_l0 t ht ht2 b hb m k (i + 1) acc' (by omega) (by omega) h'
    have hj : blocks_strips.l0 (k + 1 + 1) t b acc b.length i = blocks_strips.j1 (k + 1) t b acc i (b.getD i 0) b.length i (can t b i) := by
      generalize hF : k + 1 = F
      simp only [blocks_strips.l0]
      rw [if_pos (by omega), if_pos (by omega), if_pos (by omega), rdn, w64 (show -9223372036854775808 ≤ b.getD i 0 - t by omega) (by omega), Contains_f b (by omega) _ F (by omega), Option.bind_some]
      unfold can
      by_cases hc : b.getD i 0 ≥ t
      · rw [if_pos hc, decide_eq_true hc, Bool.true_and]
      · rw [if_neg hc, decide_eq_false hc, Bool.false_and]
    rw [hj, range'_succ', List.filter_cons]
    simp only [blocks_strips.j1]
    rw [inc64 i (by omega)]
    cases hc : can t b i
    · rw [if_neg (by decide), if_neg (by decide), ih _ (by omega)]
    · rw [if_pos rfl, if_pos rfl]
      unfold slices_Clone_int_int.f
      rw [Option.bind_some, if_pos (by simp; omega), Option.bind_some, List.nil_append, if_pos (by omega), if_pos (by omega), Int.toNat_natCast, w64 (show -9223372036854775808 ≤ b.getD i 0 - t by omega) (by omega), show b.set i (b.getD i 0 - t) = mv t b i from rfl, of_db _ (mv_db hb.db hi hc) (by rw [mv_length]; omega) (mv_bnd hb ht hi hc) k (by rw [mv_length]; omega), Option.bind_some, if_pos (by omega), ih _ (by simp; omega), List.append_assoc]
      rfl
theorem bstrips_f (l : List Int) (hs : Shp l) (t : Int) (ht : 0 < t) (ht2 : t ≤ 1000) (k : Nat) (hk : 50 ≤ k) : blocks_strips.f k l t = some (strp t l) := by
  have hl := hs.len
  have hb := hs.bnd
  have h := bs_l0 t ht ht2 (bd l) hb (bd l).length k 0 [] (by omega) (by rw [bd_length]; omega) (Nat.le_refl _)
  unfold blocks_strips.f
  rw [beads_f l (by omega) (fun x hx => by have := hs.bound x hx; omega) k (by omega), Option.bind_some]
  refine Eq.trans h ?_
  unfold strp stpB
  rw [List.nil_append, List.map_map]
  rfl
theorem take_mv (t : Int) (b : List Int) (i j : Nat) (hj : j < b.length) : (mv t b i).take (j + 1) = (mv t b i).take j ++ [if i = j then b.getD i 0 - t else b.getD j 0] := by
  rw [List.take_succ_eq_append_getElem (by rw [mv_length]; exact hj)]
  congr 2
  unfold mv
  rw [List.getElem_set]
  split
  · rfl
  · rw [getD_at hj]
/-! ### the core -/
def coreS (t : Int) : Nat → List Int → List Int × Int
  | 0, l => (l, 0)
  | n + 1, l => match strp t l with
    | [] => (l, 0)
    | s :: _ => ((coreS t n s).1, (coreS t n s).2 + 1)
theorem coreS_nn (t : Int) : ∀ n l, 0 ≤ (coreS t n l).2 ∧ (coreS t n l).2 ≤ n
  | 0, l => by simp [coreS]
  | n + 1, l => by
    unfold coreS
    split
    · simp; omega
    · rename_i s _ _
      have := coreS_nn t n s
      simp
      omega
theorem coreS_shp {t : Int} (ht : 0 ≤ t) : ∀ n l, Shp l → Shp (coreS t n l).1
  | 0, l, h => h
  | n + 1, l, h => by
    unfold coreS
    split
    · exact h
    · rename_i s r e
      exact coreS_shp ht n s (strp_shp h ht (by rw [e]; exact List.mem_cons_self)).1
theorem shp_sum0 {l : List Int} (h : Shp l) : 0 ≤ l.sum := (mem_le_sum h.dr.nn).1
theorem bcore_l0 (t : Int) (ht : 0 < t) (ht2 : t ≤ 1000) : ∀ (n k : Nat) (l : List Int) (i : Nat), Shp l → l.sum ≤ n → n + 60 ≤ k → i ≤ 1000 - n → n ≤ 40 → blocks_core.l0 k l t i = some ((coreS t n l).1, (coreS t n l).2 + i)
  | n, k, l, i, hs, hn, hk, hi, h40 => by
    obtain ⟨k, rfl, _⟩ := succK (show 0 < k by omega)
    simp only [blocks_core.l0]
    rw [bstrips_f l hs t ht ht2 k (by omega), Option.bind_some]
    have hl := hs.len
    have h0 := shp_sum0 hs
    cases e : strp t l with
    | nil =>
      have hc : coreS t n l = (l, 0) := by
        cases n with
        | zero => rfl
        | succ n => unfold coreS; rw [e]
      rw [if_pos (by rfl), hc]
      unfold slices_Clone_int_int.f
      rw [Option.bind_some, if_pos (by simp; omega), Option.bind_some, List.nil_append, Int.zero_add]
    | cons s r =>
      obtain ⟨h1, h2⟩ := strp_shp hs (Int.le_of_lt ht) (show s ∈ strp t l by rw [e]; exact List.mem_cons_self)
      have h3 := shp_sum0 h1
      cases n with
      | zero => omega
      | succ n =>
        have ih := bcore_l0 t ht ht2 n k s (i + 1) h1 (by omega) (by omega) (by omega) (by omega)
        have hc : coreS t (n + 1) l = ((coreS t n s).1, (coreS t n s).2 + 1) := by
          conv => lhs; unfold coreS
          rw [e]
        rw [if_neg (by rw [List.length_cons]; omega), if_pos (by rw [List.length_cons]; omega), inc64 i (by omega)]
        show blocks_core.l0 k s t _ = _
        rw [ih, hc]
        congr 2
        omega
def core (t : Int) (l : List Int) : List Int × Int := coreS t 40 l
theorem bcore_f (l : List Int) (hs : Shp l) (t : Int) (ht : 0 < t) (ht2 : t ≤ 1000) (k : Nat) (hk : 100 ≤ k) : blocks_core.f k l t = some (core t l) := by
  have h := bcore_l0 t ht ht2 40 k l 0 hs hs.sum (by omega) (by omega) (by omega)
  unfold blocks_core.f
  refine Eq.trans h ?_
  show some ((coreS t 40 l).1, (coreS t 40 l).2 + ((0 : Nat) : Int)) = some (coreS t 40 l)
  rw [show ((0 : Nat) : Int) = 0 from rfl, Int.add_zero]
/-! ### the exported functions -/
theorem wired_f (l : List Int) (t : Int) (k : Nat) (hk : 40 ≤ k) : blocks_wired.f k l t = some (isShp l && (decide (2 ≤ t) && decide (t ≤ 6))) := by
  unfold blocks_wired.f
  rw [bIs_f l k hk, Option.bind_some]
  cases isShp l
  · rfl
  · rw [if_pos rfl, Bool.true_and]
    by_cases h : t ≥ 2
    · rw [if_pos h, decide_eq_true (show 2 ≤ t from h), Bool.true_and]
    · rw [if_neg h, decide_eq_false (show ¬ 2 ≤ t from h), Bool.false_and]
def okW (l : List Int) (t : Int) : Bool := isShp l && (decide (2 ≤ t) && decide (t ≤ 6))
theorem okW_iff {l : List Int} {t : Int} (h : okW l t = true) : Shp l ∧ 2 ≤ t ∧ t ≤ 6 := by
  unfold okW at h
  rw [Bool.and_eq_true, Bool.and_eq_true, decide_eq_true_eq, decide_eq_true_eq] at h
  exact ⟨(isShp_iff l).1 h.1, h.2.1, h.2.2⟩
theorem ownW {α : Type} (l : List Int) (t : Int) (k : Nat) (hk : 40 ≤ k) (x : Option α) (e : α) : ((blocks_wired.f k l t).bind fun u => if u = true then x else some e) = if okW l t = true then x else some e := by
  rw [wired_f l t k hk]
  rfl
theorem strp_length (t : Int) (l : List Int) : (strp t l).length ≤ l.length := by
  unfold strp stpB
  rw [List.length_map, List.length_map]
  exact Nat.le_trans (List.length_filter_le _ _) (by rw [List.length_range', bd_length]; exact Nat.le_refl _)
theorem bCore_f (l : List Int) (t : Int) (k : Nat) (hk : 100 ≤ k) : blocks_Core.f k l t = if okW l t = true then some ((core t l).1, (core t l).2, 0) else some ([], 0, 2) := by
  unfold blocks_Core.f
  rw [ownW l t k (by omega)]
  by_cases h : okW l t = true
  · obtain ⟨hs, h1, h2⟩ := okW_iff h
    rw [if_pos h, if_pos h, bcore_f l hs t (by omega) (by omega) k (by omega), Option.bind_some]
  · rw [if_neg h, if_neg h]
end Go.Proofs.Ytcmphfcpiciehaa.Pure
