/- A shape turned: its beads are what the beads of the shape leave, read from the other side. -/
import Derived.Test.YtcmphfcpiciehaaBOf
import Derived.Test.YtcmphfcpiciehaaBGap
namespace Go.Proofs.Ytcmphfcpiciehaa.Pure
open Go.RowKit Go.Proofs.Ytcmphfcpiciehaa.Print Go.Proofs.YtcmphfcpiciehaaW.PrintWords Go.Proofs.YtcmphfcpiciehaaW.PrintLast Go.Proofs.YtcmphfcpiciehaaW.PrintMore
set_option linter.unusedVariables false
/-! ### the columns -/
theorem colI_pos {l : List Int} (hd : DR l) {c : Nat} (h0 : 0 < l.length) (h : (c : Int) < l.getD 0 0) : 1 ≤ colI l c := by
  have := (col_lt hd c 0 h0).2 h
  omega
theorem colI_le : ∀ (l : List Int) (d c : Nat), colI l (c + d) ≤ colI l c
  | _, 0, _ => Int.le_refl _
  | l, d + 1, c => Int.le_trans (colI_anti l (c + d)) (colI_le l d c)
theorem cols_dr {l : List Int} (_hd : DR l) : DR (cols l) := by
  refine ⟨?_, fun x hx => ?_⟩
  · unfold cols
    rw [List.pairwise_map]
    refine (List.pairwise_lt_range' (s := 0) (n := (l.getD 0 0).toNat)).imp (fun {a b} h => ?_)
    have := colI_le l (b - a) a
    rwa [show a + (b - a) = b by omega] at this
  · obtain ⟨c, _, rfl⟩ := List.mem_map.1 hx
    exact (colI_bound l c).1
theorem cols_nil : cols [] = [] := rfl
/-- What a column of the columns has is the row. -/
theorem count_lt : ∀ (n : Nat) (s : Nat) (v : Int), ((List.range' s n).map fun c : Nat => if (c : Int) < v then (1 : Int) else 0).sum = if v ≤ s then 0 else if (s : Int) + n ≤ v then (n : Int) else v - s
  | 0, s, v => by
    rw [List.range'_zero, List.map_nil, List.sum_nil]
    split
    · rfl
    · split <;> omega
  | n + 1, s, v => by
    rw [range'_succ', List.map_cons, List.sum_cons, count_lt n (s + 1) v]
    split <;> split <;> (try split) <;> (try split) <;> omega
theorem head_ge {l : List Int} (hd : DR l) : ∀ r, r < l.length → l.getD r 0 ≤ l.getD 0 0 := fun r hr => by
  cases r with
  | zero => exact Int.le_refl _
  | succ r =>
    cases l with
    | nil => simp at hr
    | cons x xs => exact hd.head _ (getD_mem (l := xs) (show r < xs.length by simpa using hr))
theorem head_nn {l : List Int} (hd : DR l) : 0 ≤ l.getD 0 0 := by
  rcases Nat.eq_zero_or_pos l.length with e | e
  · rw [List.eq_nil_of_length_eq_zero e]
    exact Int.le_refl _
  · exact hd.nn _ (getD_mem e)
theorem colI_cols {l : List Int} (hd : DR l) {r : Nat} (hr : r < l.length) : colI (cols l) r = l.getD r 0 := by
  have h1 : colI (cols l) r = ((List.range' 0 (l.getD 0 0).toNat).map fun c : Nat => if (c : Int) < l.getD r 0 then (1 : Int) else 0).sum := by
    unfold colI cols
    rw [List.map_map]
    congr 1
    refine List.map_congr_left fun c _ => ?_
    have h2 := col_lt hd c r hr
    show gtI (r : Int) (colI l c) = _
    unfold gtI
    by_cases h : (c : Int) < l.getD r 0
    · rw [if_pos h, if_pos (h2.2 h)]
    · rw [if_neg h, if_neg (fun h3 => h (h2.1 h3))]
  have h3 := head_ge hd r hr
  have h4 := hd.nn _ (getD_mem hr)
  rw [h1, count_lt]
  split
  · omega
  · split <;> omega
theorem cols_head {l : List Int} (hd : DR l) (hp : ∀ x ∈ l, 1 ≤ x) : (cols l).getD 0 0 = l.length := by
  rcases Nat.eq_zero_or_pos l.length with e | e
  · rw [List.eq_nil_of_length_eq_zero e]
    rfl
  · have h0 := hp _ (getD_mem e)
    rw [cols_getD (by omega)]
    have hb := colI_bound l 0
    have h1 := (col_lt hd 0 (l.length - 1) (by omega)).2 (by have := hp _ (getD_mem (show l.length - 1 < l.length by omega)); omega)
    omega
theorem cols_cols {l : List Int} (hd : DR l) (hp : ∀ x ∈ l, 1 ≤ x) : cols (cols l) = l := by
  have h := cols_head hd hp
  have hl : (cols (cols l)).length = l.length := by
    rw [cols_length, h]
    omega
  refine ext_getD hl fun r hr => ?_
  rw [cols_getD (by rw [h]; omega), colI_cols hd (by omega)]
/-! ### complements -/
/-- The beads of b' are what the p beads of b leave of p + q places, read from the other side. -/
def Comp (p q : Nat) (b b' : List Int) : Prop := ∀ x, x ∈ b' ↔ 0 ≤ x ∧ x < p + q ∧ ((p : Int) + q - 1 - x) ∉ b
theorem comp_base {l : List Int} (hd : DR l) : Comp l.length (cols l).length (bd l) (bd (cols l)) := fun x => by
  have hM := cols_length l
  have hnn := head_nn hd
  constructor
  · intro hx
    obtain ⟨c, hc, rfl⟩ := bd_mem.1 hx
    have hb := colI_bound l c
    have he : bead (cols l) c = (l.length : Int) + (cols l).length - 1 - gap l c := by
      unfold bead gap
      rw [cols_getD (by omega)]
      omega
    refine ⟨?_, ?_, ?_⟩
    · unfold bead
      rw [cols_getD (by omega)]
      omega
    · rw [he]
      have := gap_nn l c
      omega
    · rw [he, show (l.length : Int) + (cols l).length - 1 - ((l.length : Int) + (cols l).length - 1 - gap l c) = gap l c by omega]
      exact gap_not hd c
  · rintro ⟨h0, h1, h2⟩
    rcases Nat.eq_zero_or_pos l.length with e | e
    · have := List.eq_nil_of_length_eq_zero e
      subst this
      simp only [cols_nil, List.length_nil] at h1
      omega
    · -- the gaps and the beads are all places
      have hp := gap_perm hd e
      have hg : (gaps l (cols l).length ++ bd l).Perm (down (l.length + (cols l).length)) := by
        have hbd : bd l = bead l 0 :: (bd l).drop 1 := by
          have := drop_getD (show 0 < (bd l).length by rw [bd_length]; exact e)
          rw [List.drop_zero, bd_getD e] at this
          exact this
        have hb0 : (bead l 0).toNat + 1 = l.length + (cols l).length := by
          unfold bead
          omega
        have hb1 : bead l 0 = (((bead l 0).toNat : Nat) : Int) := by
          unfold bead
          omega
        rw [← hb0, show down ((bead l 0).toNat + 1) = (((bead l 0).toNat : Nat) : Int) :: down (bead l 0).toNat from rfl, ← hb1, hbd, hM]
        exact List.perm_middle.trans (hp.cons _)
      have hmem : ((l.length : Int) + (cols l).length - 1 - x) ∈ gaps l (cols l).length ++ bd l := by
        rw [hg.mem_iff, down_mem]
        omega
      rcases List.mem_append.1 hmem with h | h
      · obtain ⟨c, hc, he⟩ := gaps_mem.1 h
        refine bd_mem.2 ⟨c, hc, ?_⟩
        unfold bead
        unfold gap at he
        rw [cols_getD (by omega)]
        omega
      · exact absurd h h2
theorem comp_up1 {p q : Nat} {b b' : List Int} (h : Comp p q b b') : Comp (p + 1) q (up b) b' := fun x => by
  have h1 := h x
  rw [h1, up_mem, show ((p + 1 : Nat) : Int) + q - 1 - x - 1 = (p : Int) + q - 1 - x by omega]
  constructor
  · rintro ⟨a, b, c⟩
    exact ⟨a, by omega, fun h => h.elim c (by omega)⟩
  · rintro ⟨a, b, c⟩
    refine ⟨a, ?_, fun h => c (.inl h)⟩
    rcases Int.lt_or_le x ((p : Int) + q) with h | h
    · exact h
    · exact absurd (.inr (by omega)) c
theorem comp_up2 {p q : Nat} {b b' : List Int} (hb : ∀ x ∈ b, x < p + q) (h : Comp p q b b') : Comp p (q + 1) b (up b') := fun x => by
  have h1 := h (x - 1)
  rw [up_mem, h1, show (p : Int) + q - 1 - (x - 1) = (p : Int) + ((q + 1 : Nat) : Int) - 1 - x by omega]
  constructor
  · rintro (⟨a, b, c⟩ | e)
    · exact ⟨by omega, by omega, c⟩
    · refine ⟨by omega, by omega, fun hm => ?_⟩
      have := hb _ hm
      omega
  · rintro ⟨a, b, c⟩
    by_cases e : x = 0
    · exact .inr e
    · exact .inl ⟨by omega, by omega, c⟩
theorem pad_lt {l : List Int} (hd : DR l) {p q : Nat} (hp : l.length ≤ p) (hq : (cols l).length ≤ q) : ∀ x ∈ pad p l, x < p + q := by
  obtain ⟨a, rfl⟩ : ∃ a, p = l.length + a := ⟨p - l.length, by omega⟩
  intro x hx
  rw [pad_ups (Nat.le_refl _), ups_mem, pad_self] at hx
  rcases hx with h | h
  · obtain ⟨r, hr, e⟩ := bd_mem.1 h
    have h1 := head_ge hd r hr
    have h2 := head_nn hd
    have h3 := cols_length l
    unfold bead at e
    omega
  · omega
theorem comp_pad {l : List Int} (hd : DR l) : ∀ a b : Nat, Comp (l.length + a) ((cols l).length + b) (pad (l.length + a) l) (pad ((cols l).length + b) (cols l))
  | 0, 0 => by
    rw [Nat.add_zero, Nat.add_zero, pad_self, pad_self]
    exact comp_base hd
  | a + 1, 0 => by
    rw [← Nat.add_assoc, pad_succ (by omega)]
    exact comp_up1 (comp_pad hd a 0)
  | a, b + 1 => by
    rw [← Nat.add_assoc, pad_succ (N := (cols l).length + b) (by omega)]
    exact comp_up2 (pad_lt hd (by omega) (by omega)) (comp_pad hd a b)
theorem comp_of {l : List Int} (hd : DR l) {p q : Nat} (hp : l.length ≤ p) (hq : (cols l).length ≤ q) : Comp p q (pad p l) (pad q (cols l)) := by
  have := comp_pad hd (p - l.length) (q - (cols l).length)
  rwa [show l.length + (p - l.length) = p by omega, show (cols l).length + (q - (cols l).length) = q by omega] at this
/-- A complement of beads is that of the columns of their shape. -/
theorem comp_eq {b b' : List Int} {q : Nat} (hb : DB b) (hb' : DB b') (hq : ∀ x ∈ b, x < b.length + q) (h : Comp b.length q b b') : b' = pad q (cols (shB b)) := by
  have hd := hb.shB_dr
  have hl := shB_length b
  have hc : (cols (shB b)).length ≤ q := by
    rw [cols_length]
    rcases Nat.eq_zero_or_pos (shB b).length with e | e
    · rw [List.eq_nil_of_length_eq_zero e]
      exact Nat.zero_le _
    · have h1 : bead (shB b ++ List.replicate (b.length - (shB b).length) 0) 0 ∈ b := by
        have : bd (shB b ++ List.replicate (b.length - (shB b).length) 0) = b := hb.form
        rw [← this]
        refine bd_mem.2 ⟨0, ?_, ?_⟩
        · rw [List.length_append]
          omega
        · rw [this]
      have h2 := hq _ h1
      unfold bead at h2
      rw [List.length_append, List.length_replicate] at h2
      have h3 : (shB b ++ List.replicate (b.length - (shB b).length) 0).getD 0 0 = (shB b).getD 0 0 := by
        rw [List.getD_eq_getElem?_getD, List.getElem?_append_left e, List.getD_eq_getElem?_getD]
      rw [h3] at h2
      omega
  have h1 := comp_of hd (p := b.length) hl hc
  rw [hb.pad_shB] at h1
  exact DB.ext hb' (pad_db (cols_dr hd) q) fun x => by rw [h x, h1 x]
/-! ### the wires of a complement -/
theorem comp_run {T P Q : Nat} (ht : 0 < T) {b b' : List Int} (h : Comp (P * T) (Q * T) b b') {p q : Nat} (hpq : p + q = P + Q) {k : Nat} (hk : k < T) : Comp p q (run T (k : Int) b) (run T ((T - 1 - k : Nat) : Int) b') := fun y => by
  rw [run_mem (by omega) (by omega) (by omega), h, run_mem (by omega) (by omega) (by omega)]
  have e : ((P * T : Nat) : Int) + ((Q * T : Nat) : Int) = (p + q) * T := by
    rw [← Int.natCast_add, ← Nat.add_mul, ← hpq, Int.natCast_mul, Int.natCast_add]
  have e2 : ((p : Int) + q) * T - 1 - (y * T + ((T - 1 - k : Nat) : Int)) = ((p : Int) + q - 1 - y) * T + k := by
    rw [Int.sub_mul, Int.sub_mul, Int.one_mul]
    omega
  rw [e, e2]
  constructor
  · rintro ⟨h1, h2, h3⟩
    refine ⟨?_, ?_, h3⟩
    · rcases Int.lt_or_le y 0 with h | h
      · have := Int.mul_le_mul_of_nonneg_right (show y ≤ -1 by omega) (show 0 ≤ (T : Int) by omega)
        omega
      · exact h
    · rcases Int.lt_or_le y ((p : Int) + q) with h | h
      · exact h
      · have := Int.mul_le_mul_of_nonneg_right h (show 0 ≤ (T : Int) by omega)
        omega
  · rintro ⟨h1, h2, h3⟩
    refine ⟨?_, ?_, h3⟩
    · have := Int.mul_nonneg h1 (show 0 ≤ (T : Int) by omega)
      omega
    · have := Int.mul_le_mul_of_nonneg_right (show y ≤ (p : Int) + q - 1 by omega) (show 0 ≤ (T : Int) by omega)
      rw [Int.sub_mul, Int.one_mul] at this
      omega
theorem run_bound {T : Nat} (ht : 0 < T) {b : List Int} {n k : Nat} (hk : k < T) (h : ∀ x ∈ b, x < ((n * T : Nat) : Int)) : ∀ y ∈ run T (k : Int) b, y < n := fun y hy => by
  rw [run_mem (by omega) (by omega) (by omega)] at hy
  have h1 := h _ hy
  rw [Int.natCast_mul] at h1
  rcases Int.lt_or_le y n with h2 | h2
  · exact h2
  · have := Int.mul_le_mul_of_nonneg_right h2 (show 0 ≤ (T : Int) by omega)
    omega
theorem db_length : ∀ {b : List Int}, DB b → ∀ n : Nat, (∀ y ∈ b, y < n) → b.length ≤ n
  | [], _, n, _ => Nat.zero_le _
  | x :: xs, h, n, hb => by
    have h1 := hb x List.mem_cons_self
    have h0 := h.nn x List.mem_cons_self
    have ih := db_length h.tail x.toNat (fun y hy => by have := h.head y hy; omega)
    rw [List.length_cons]
    omega
theorem cols_pos {l : List Int} (hd : DR l) : ∀ x ∈ cols l, 1 ≤ x := fun x hx => by
  obtain ⟨c, hc, rfl⟩ := List.mem_map.1 hx
  rw [List.mem_range'_1] at hc
  rcases Nat.eq_zero_or_pos l.length with e | e
  · rw [List.eq_nil_of_length_eq_zero e] at hc
    simp at hc
  · exact colI_pos hd e (by omega)
/-- The wires of the columns. -/
theorem cols_run {T P Q : Nat} {l : List Int} (ht : 0 < T) (hd : DR l) (hp : l.length ≤ P * T) (hq : (cols l).length ≤ Q * T) {k : Nat} (hk : k < T) : run T ((T - 1 - k : Nat) : Int) (pad (Q * T) (cols l)) = pad (P + Q - (run T (k : Int) (pad (P * T) l)).length) (cols (shB (run T (k : Int) (pad (P * T) l)))) ∧ (cols (shB (run T (k : Int) (pad (P * T) l)))).length ≤ P + Q - (run T (k : Int) (pad (P * T) l)).length ∧ (run T (k : Int) (pad (P * T) l)).length ≤ P + Q := by
  have hb := pad_lt hd hp hq
  have hdb := pad_db hd (P * T)
  have hrb : DB (run T (k : Int) (pad (P * T) l)) := run_db (by omega) hdb
  have hlt : ∀ y ∈ run T (k : Int) (pad (P * T) l), y < ((P + Q : Nat) : Int) := run_bound ht hk (fun x hx => by
    have := hb x hx
    rw [Nat.add_mul]
    omega)
  have hlen := db_length hrb (P + Q) hlt
  have hc := comp_run ht (comp_of hd hp hq) (p := (run T (k : Int) (pad (P * T) l)).length) (q := P + Q - (run T (k : Int) (pad (P * T) l)).length) (by omega) hk
  have he := comp_eq hrb (run_db (by omega) (pad_db (cols_dr hd) _)) (fun x hx => by have := hlt x hx; omega) hc
  refine ⟨he, ?_, hlen⟩
  rw [cols_length]
  rcases Nat.eq_zero_or_pos (shB (run T (k : Int) (pad (P * T) l))).length with e | e
  · rw [List.eq_nil_of_length_eq_zero e]
    exact Nat.zero_le _
  · have h1 : ∀ z ∈ rows (run T (k : Int) (pad (P * T) l)), z ≤ ((P + Q : Nat) : Int) - 1 - (run T (k : Int) (pad (P * T) l)).length + 1 := rows_le _ hrb _ (fun y hy => by have := hlt y hy; omega)
    have h2 : (shB (run T (k : Int) (pad (P * T) l))).getD 0 0 ≤ ((P + Q : Nat) : Int) - 1 - (run T (k : Int) (pad (P * T) l)).length + 1 := h1 _ (List.mem_filter.1 (getD_mem e)).1
    omega
/-! ### the columns of a shape -/
theorem cols_sum_aux (M : Nat) : ∀ l : List Int, (∀ x ∈ l, 0 ≤ x ∧ x ≤ M) → ((List.range' 0 M).map (colI l)).sum = l.sum
  | [], _ => by
    have : colI [] = fun k : Nat => if (-1 : Int) = (k : Int) then 0 else 0 := by
      funext k
      rw [colI_nil]
      split <;> rfl
    rw [this, sum_none 0 (-1) M 0 (by omega)]
    rfl
  | x :: xs, h => by
    have hx := h x List.mem_cons_self
    have e : colI (x :: xs) = fun c : Nat => (if (c : Int) < x then (1 : Int) else 0) + colI xs c := by
      funext c
      rw [colI_cons]
    rw [e, sum_add2, cols_sum_aux M xs (fun y hy => h y (List.mem_cons_of_mem _ hy)), count_lt, List.sum_cons]
    by_cases hz : x ≤ ((0 : Nat) : Int)
    · rw [if_pos hz]
      omega
    · rw [if_neg hz]
      by_cases hm : ((0 : Nat) : Int) + M ≤ x
      · rw [if_pos hm]
        omega
      · rw [if_neg hm]
        omega
theorem cols_sum {l : List Int} (hd : DR l) : (cols l).sum = l.sum := by
  unfold cols
  refine cols_sum_aux _ l fun x hx => ?_
  obtain ⟨i, hi, e⟩ := List.mem_iff_getElem.1 hx
  have h1 := head_ge hd i hi
  have h2 := head_nn hd
  rw [getD_at hi, e] at h1
  have := hd.nn x hx
  omega
theorem cols_shp {l : List Int} (hs : Shp l) (h : l.getD 0 0 ≤ 12) : Shp (cols l) := by
  refine shp_of (by rw [cols_length]; omega) (cols_dr hs.dr) (cols_pos hs.dr) ?_
  rw [cols_sum hs.dr]
  exact hs.sum
structure TurnOf (T : Nat) (l : List Int) : Prop where
  shp : Shp (cols l)
  back : cols (cols l) = l
  core : (core T (cols l)).1 = cols (Pure.core T l).1
  many : (Pure.core T (cols l)).2 = (Pure.core T l).2
  quo : ∀ k, k < T → (quo T (cols l)).getD (T - 1 - k) [] = cols ((Pure.quo T l).getD k [])
theorem quo_get {T N : Nat} {l : List Int} (hs : Shp l) (h2 : 2 ≤ T) (h6 : T ≤ 6) (hN : l.length ≤ N) (hT : N % T = 0) {k : Nat} (hk : k < T) : (quo T l).getD k [] = shB (run T (k : Int) (pad N l)) := by
  rw [quo_at hs h2 h6 hN hT, List.getD_eq_getElem?_getD, List.getElem?_map, List.getElem?_eq_getElem (by rw [wireS_length]; exact hk), wireS_get]
  rfl
theorem turn_of {T : Nat} {l : List Int} (h2 : 2 ≤ T) (h6 : T ≤ 6) (hs : Shp l) (h12 : l.getD 0 0 ≤ 12) : TurnOf T l := by
  have ht : (0 : Int) < T := by omega
  have hcs := cols_shp hs h12
  have hl := hs.len
  have hcl := hcs.len
  have hP : l.length ≤ 12 * T := by omega
  have hQ : (cols l).length ≤ 40 * T := by omega
  have c1 := core_of ht hs hP
  have c2 := core_of ht hcs hQ
  have hch := c1.shp.head
  have hcq : (cols (core T l).1).length ≤ 40 * T := by
    rw [cols_length]
    omega
  have hcp : (core T l).1.length ≤ 12 * T := by have := c1.len; omega
  have hcd := cols_dr c1.shp.dr
  -- the columns of the core are packed
  have hpk : Packed T (pad (40 * T) (cols (core T l).1)) := by
    have hp1 := c1.packed ht hP
    have hcmp := comp_of c1.shp.dr hcp hcq
    intro x hx hle
    obtain ⟨a1, a2, a3⟩ := (hcmp x).1 hx
    refine (hcmp _).2 ⟨by omega, by omega, fun hm => a3 ?_⟩
    have := hp1 _ hm (by omega)
    rwa [show ((12 * T : Nat) : Int) + ((40 * T : Nat) : Int) - 1 - (x - T) - T = ((12 * T : Nat) : Int) + ((40 * T : Nat) : Int) - 1 - x by omega] at this
  have hcore : (core T (cols l)).1 = cols (core T l).1 := by
    have : pad (40 * T) (core T (cols l)).1 = pad (40 * T) (cols (core T l).1) := by
      refine packed_eq ht (pad_db c2.shp.dr _) (pad_db hcd _) (c2.packed ht hQ) hpk fun k h0 hk => ?_
      have e1 := c2.run k
      obtain ⟨j, hj, hjk⟩ : ∃ j : Nat, j < T ∧ k = ((T - 1 - j : Nat) : Int) := ⟨T - 1 - k.toNat, by omega, by omega⟩
      rw [hjk] at e1 ⊢
      have r1 := cols_run (T := T) (P := 12) (Q := 40) (by omega) hs.dr hP hQ hj
      have r2 := cols_run (T := T) (P := 12) (Q := 40) (by omega) c1.shp.dr hcp hcq hj
      rw [e1, r1.1, r2.1, pad_length r1.2.1, pad_length r2.2.1, c1.run j]
    rw [← shB_of_pad (shp_pos c2.shp) (40 * T), this, shB_of_pad (cols_pos c1.shp.dr)]
  refine ⟨hcs, cols_cols hs.dr (shp_pos hs), hcore, ?_, fun k hk => ?_⟩
  · have s1 := core_sum ht hs
    have s2 := core_sum ht hcs
    rw [hcore, cols_sum hs.dr, cols_sum c1.shp.dr] at s2
    have : (T : Int) * (core T (cols l)).2 = T * (core T l).2 := by omega
    exact Int.eq_of_mul_eq_mul_left (by omega) this
  · have r1 := cols_run (T := T) (P := 12) (Q := 40) (by omega) hs.dr hP hQ hk
    rw [quo_get hcs h2 h6 hQ (Nat.mul_mod_left _ _) (show T - 1 - k < T by omega), quo_get hs h2 h6 hP (Nat.mul_mod_left _ _) hk, r1.1]
    exact shB_of_pad (cols_pos (run_db (by omega) (pad_db hs.dr _)).shB_dr) _
theorem hook_cols {l : List Int} (hs : Shp l) {r c : Nat} (hr : r < l.length) : hook (cols l) c r = hook l r c := by
  have h1 := head_ge hs.dr r hr
  have h2 := cols_head hs.dr (shp_pos hs)
  unfold hook
  rw [cols_getD (l := cols l) (by rw [h2]; omega), colI_cols hs.dr hr]
  omega
end Go.Proofs.Ytcmphfcpiciehaa.Pure
