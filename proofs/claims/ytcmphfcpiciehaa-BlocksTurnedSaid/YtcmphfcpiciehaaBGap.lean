/- Hooks as gaps between beads: the lengths of a row's hooks are the distances from its bead to the gaps below. -/
import Derived.Test.YtcmphfcpiciehaaBRun
namespace Go.Proofs.Ytcmphfcpiciehaa.Pure
open Go.RowKit Go.Proofs.Ytcmphfcpiciehaa.Print Go.Proofs.YtcmphfcpiciehaaW.PrintWords Go.Proofs.YtcmphfcpiciehaaW.PrintLast Go.Proofs.YtcmphfcpiciehaaW.PrintMore
theorem colI_nil (c : Nat) : colI [] c = 0 := rfl
theorem colI_cons (x : Int) (xs : List Int) (c : Nat) : colI (x :: xs) c = (if x > c then 1 else 0) + colI xs c := by
  unfold colI
  rw [List.map_cons, List.sum_cons]
  rfl
theorem colI_zero : ∀ {xs : List Int} {c : Nat}, (∀ y ∈ xs, y ≤ c) → colI xs c = 0
  | [], _, _ => rfl
  | x :: xs, c, h => by
    rw [colI_cons, if_neg (by have := h x List.mem_cons_self; omega), colI_zero (fun y hy => h y (List.mem_cons_of_mem _ hy))]
    rfl
theorem col_lt : ∀ {l : List Int}, DR l → ∀ (c r : Nat), r < l.length → ((r : Int) < colI l c ↔ l.getD r 0 > c)
  | [], _, c, r, h => by simp at h
  | x :: xs, hd, c, r, h => by
    rw [colI_cons]
    have hb := colI_bound xs c
    by_cases hx : x > c
    · rw [if_pos hx]
      cases r with
      | zero =>
        show ((0 : Nat) : Int) < _ ↔ x > c
        omega
      | succ r =>
        have ih := col_lt hd.tail c r (by simpa using h)
        show ((r + 1 : Nat) : Int) < _ ↔ xs.getD r 0 > c
        omega
    · rw [if_neg hx, colI_zero (fun y hy => by have := hd.head y hy; omega)]
      cases r with
      | zero =>
        show ((0 : Nat) : Int) < _ ↔ x > c
        omega
      | succ r =>
        have := hd.head _ (getD_mem (show r < xs.length by simpa using h))
        show ((r + 1 : Nat) : Int) < _ ↔ xs.getD r 0 > c
        omega
theorem colI_anti : ∀ (l : List Int) (c : Nat), colI l (c + 1) ≤ colI l c
  | [], _ => Int.le_refl _
  | x :: xs, c => by
    rw [colI_cons, colI_cons]
    have := colI_anti xs c
    split <;> split <;> omega
/-- The gap number c below the beads of l. -/
def gap (l : List Int) (c : Nat) : Int := c + l.length - colI l c
theorem gap_lt (l : List Int) : ∀ (d c : Nat), gap l c < gap l (c + d + 1)
  | 0, c => by
    have := colI_anti l c
    unfold gap
    rw [Nat.add_zero]
    omega
  | d + 1, c => by
    have h1 := gap_lt l d c
    have h2 := colI_anti l (c + d + 1)
    unfold gap at h1 ⊢
    rw [show c + (d + 1) + 1 = c + d + 1 + 1 by omega]
    omega
theorem gap_nn (l : List Int) (c : Nat) : 0 ≤ gap l c := by
  have := colI_bound l c
  unfold gap
  omega
theorem gap_below {l : List Int} (hd : DR l) (c r : Nat) (hr : r < l.length) : gap l c < bead l r ↔ (c : Int) < l.getD r 0 := by
  have h1 := col_lt hd c r hr
  unfold gap bead
  omega
theorem bd_mem {l : List Int} {x : Int} : x ∈ bd l ↔ ∃ r, r < l.length ∧ x = bead l r := by
  unfold bd
  rw [List.mem_map]
  constructor
  · rintro ⟨r, hr, rfl⟩
    rw [List.mem_range'_1] at hr
    exact ⟨r, by omega, rfl⟩
  · rintro ⟨r, hr, rfl⟩
    exact ⟨r, by rw [List.mem_range'_1]; omega, rfl⟩
theorem gap_not {l : List Int} (hd : DR l) (c : Nat) : gap l c ∉ bd l := fun hm => by
  obtain ⟨r, hr, e⟩ := bd_mem.1 hm
  have h1 := col_lt hd c r hr
  unfold gap bead at e
  omega
def gaps (l : List Int) (m : Nat) : List Int := (List.range' 0 m).map (gap l)
theorem gaps_mem {l : List Int} {m : Nat} {x : Int} : x ∈ gaps l m ↔ ∃ c, c < m ∧ x = gap l c := by
  unfold gaps
  rw [List.mem_map]
  constructor
  · rintro ⟨r, hr, rfl⟩
    rw [List.mem_range'_1] at hr
    exact ⟨r, by omega, rfl⟩
  · rintro ⟨r, hr, rfl⟩
    exact ⟨r, by rw [List.mem_range'_1]; omega, rfl⟩
theorem gaps_length (l : List Int) (m : Nat) : (gaps l m).length = m := by simp [gaps]
theorem gaps_lt (l : List Int) (m : Nat) : (gaps l m).Pairwise (fun x y => x < y) := by
  unfold gaps
  rw [List.pairwise_map]
  refine (List.pairwise_lt_range' (s := 0) (n := m)).imp (fun {a b} h => ?_)
  have := gap_lt l (b - a - 1) a
  rwa [show a + (b - a - 1) + 1 = b by omega] at this
theorem full_down : ∀ {b : List Int}, DB b → (∀ x ∈ b, x < b.length) → b = down b.length
  | [], _, _ => rfl
  | x :: xs, h, hl => by
    have h1 := h.high
    have h2 := hl x List.mem_cons_self
    rw [List.length_cons] at h2
    have hx : x = (xs.length : Int) := by omega
    have ih := full_down h.tail (fun y hy => by have := h.head y hy; omega)
    rw [List.length_cons, down, ← ih, ← hx]
theorem full_perm {b : List Int} (hn : b.Nodup) (h0 : ∀ x ∈ b, 0 ≤ x ∧ x < b.length) : b.Perm (down b.length) := by
  have h1 := dsort_db hn (fun x hx => (h0 x hx).1)
  have hp := dsort_perm b
  have h2 := full_down h1 (fun x hx => by rw [dsort_length]; exact (h0 x (hp.mem_iff.1 hx)).2)
  rw [dsort_length] at h2
  rw [h2] at hp
  exact hp.symm
theorem bd_drop_lt {l : List Int} (hd : DR l) {r : Nat} (hr : r < l.length) : ∀ x ∈ (bd l).drop (r + 1), x < bead l r ∧ 0 ≤ x := fun x hx => by
  have hdb := hd.bd
  have he : (bd l).drop r = bead l r :: (bd l).drop (r + 1) := by
    rw [drop_getD (show r < (bd l).length by rw [bd_length]; exact hr), bd_getD hr]
  have h1 : ((bd l).drop r).Pairwise (fun x y => y < x) := hdb.gt.sublist (List.drop_sublist _ _)
  rw [he] at h1
  exact ⟨(List.pairwise_cons.1 h1).1 x hx, hdb.nn x (List.mem_of_mem_drop hx)⟩
/-- The gaps below a bead and the beads below it are all numbers below it. -/
theorem gap_perm {l : List Int} (hd : DR l) {r : Nat} (hr : r < l.length) : (gaps l (l.getD r 0).toNat ++ (bd l).drop (r + 1)).Perm (down (bead l r).toNat) := by
  have h0 := hd.nn _ (getD_mem hr)
  have hlen : (gaps l (l.getD r 0).toNat ++ (bd l).drop (r + 1)).length = (bead l r).toNat := by
    rw [List.length_append, gaps_length, List.length_drop, bd_length]
    unfold bead
    omega
  have := full_perm (b := gaps l (l.getD r 0).toNat ++ (bd l).drop (r + 1)) (List.nodup_append.2 ⟨(gaps_lt l _).imp (fun h e => by omega), hd.bd.nodup.sublist (List.drop_sublist _ _), fun x hx y hy e => by
    obtain ⟨c, hc, rfl⟩ := gaps_mem.1 hx
    subst e
    exact gap_not hd c (List.mem_of_mem_drop hy)⟩) (fun x hx => by
    rw [hlen]
    rcases List.mem_append.1 hx with hx | hx
    · obtain ⟨c, hc, rfl⟩ := gaps_mem.1 hx
      have h1 := (gap_below hd c r hr).2 (by omega)
      have h2 := gap_nn l c
      omega
    · have := bd_drop_lt hd hr x hx
      omega)
  rwa [hlen] at this
theorem hkRow_gaps {l : List Int} (hd : DR l) {r : Nat} (hr : r < l.length) : hkRow l r = (gaps l (l.getD r 0).toNat).map (bead l r - ·) := by
  unfold hkRow gaps
  rw [List.map_map]
  refine List.map_congr_left fun c hc => ?_
  rw [List.mem_range'_1] at hc
  have h0 : l.getD r 0 ≤ l.getD 0 0 := by
    rcases Nat.eq_zero_or_pos r with e | e
    · subst e
      exact Int.le_refl _
    · rw [getD_at hr, getD_at (show 0 < l.length by omega)]
      exact List.pairwise_iff_getElem.1 hd.ge 0 r (by omega) hr e
  show hook l r c = bead l r - gap l c
  unfold hook gap bead
  rw [cols_getD (by omega)]
  omega
theorem hook_pos {l : List Int} (hd : DR l) {r : Nat} (hr : r < l.length) : ∀ x ∈ hkRow l r, 1 ≤ x := fun x hx => by
  rw [hkRow_gaps hd hr] at hx
  obtain ⟨y, hy, rfl⟩ := List.mem_map.1 hx
  obtain ⟨c, hc, rfl⟩ := gaps_mem.1 hy
  have := (gap_below hd c r hr).2 (by omega)
  show 1 ≤ bead l r - gap l c
  omega
/-! ### hooks of length t -/
theorem count_mem {l : List Int} (h : l.Nodup) (x : Int) : l.countP (fun y => decide (y = x)) = if x ∈ l then 1 else 0 := by
  induction l with
  | nil => rfl
  | cons a l ih =>
    obtain ⟨h1, h2⟩ := List.nodup_cons.1 h
    rw [List.countP_cons, ih h2]
    by_cases e : a = x
    · subst e
      rw [if_neg h1, if_pos (decide_eq_true rfl), if_pos List.mem_cons_self]
    · rw [if_neg (show ¬ decide (a = x) = true by rw [decide_eq_true_eq]; exact e), Nat.add_zero]
      by_cases hm : x ∈ l
      · rw [if_pos hm, if_pos (List.mem_cons_of_mem _ hm)]
      · rw [if_neg hm, if_neg (fun hc => (List.mem_cons.1 hc).elim (fun e2 => e e2.symm) hm)]
theorem just_row {l : List Int} (hd : DR l) {t : Int} (ht : 0 < t) {r : Nat} (hr : r < l.length) : (hkRow l r).countP (fun x => decide (x = t)) = if can t (bd l) r = true then 1 else 0 := by
  have hp := (gap_perm hd hr).countP_eq (fun y => decide (y = bead l r - t))
  rw [List.countP_append, count_mem (down_db _).nodup, count_mem (hd.bd.nodup.sublist (List.drop_sublist _ _))] at hp
  have e : (hkRow l r).countP (fun x => decide (x = t)) = (gaps l (l.getD r 0).toNat).countP (fun y => decide (y = bead l r - t)) := by
    rw [hkRow_gaps hd hr, List.countP_map]
    refine List.countP_congr fun y _ => ?_
    simp only [Function.comp, decide_eq_true_eq]
    omega
  have hm : (bead l r - t) ∈ (bd l).drop (r + 1) ↔ (bead l r - t) ∈ bd l := by
    refine ⟨fun h => List.mem_of_mem_drop h, fun h => ?_⟩
    obtain ⟨s, hs, e2⟩ := bd_mem.1 h
    have hge : r < s := by
      rcases Nat.lt_or_ge r s with h3 | h3
      · exact h3
      · exfalso
        rcases Nat.eq_or_lt_of_le h3 with h4 | h4
        · subst h4
          omega
        · have := List.pairwise_iff_getElem.1 hd.bd.gt s r (by rw [bd_length]; omega) (by rw [bd_length]; omega) h4
          rw [← getD_at, ← getD_at, bd_getD hr, bd_getD hs] at this
          omega
    rw [List.mem_drop_iff_getElem]
    refine ⟨s - (r + 1), by rw [bd_length]; omega, ?_⟩
    rw [← getD_at, show r + 1 + (s - (r + 1)) = s by omega, bd_getD hs, e2]
  rw [e]
  have hcan := can_iff t (bd l) r
  rw [bd_getD hr] at hcan
  have hdn := down_mem (bead l r).toNat (bead l r - t)
  by_cases h1 : can t (bd l) r = true
  · obtain ⟨h2, h3⟩ := hcan.1 h1
    rw [if_pos h1]
    rw [if_neg (fun h => h3 (hm.1 h)), if_pos (hdn.2 ⟨by omega, by omega⟩)] at hp
    exact hp
  · rw [if_neg h1]
    by_cases h3 : bead l r - t ∈ bd l
    · rw [if_pos (hm.2 h3)] at hp
      have : (if bead l r - t ∈ down (bead l r).toNat then 1 else 0) ≤ 1 := by split <;> omega
      omega
    · have h2 : ¬ t ≤ bead l r := fun h => h1 (hcan.2 ⟨h, h3⟩)
      rw [if_neg (show ¬ (bead l r - t ∈ down (bead l r).toNat) from fun h => by have := hdn.1 h; omega)] at hp
      omega
theorem countP_rows (p : Int → Bool) (l : List Int) : ∀ (q : Nat → Bool) (rs : List Nat), (∀ r ∈ rs, (hkRow l r).countP p = if q r = true then 1 else 0) → ((rs.map (hkRow l)).flatten).countP p = (rs.filter q).length
  | _, [], _ => rfl
  | q, r :: rs, h => by
    rw [List.map_cons, List.flatten_cons, List.countP_append, countP_rows p l q rs (fun x hx => h x (List.mem_cons_of_mem _ hx)), h r List.mem_cons_self, List.filter_cons]
    split
    · rw [List.length_cons, Nat.add_comm]
    · rw [Nat.zero_add]
theorem just_all {l : List Int} (hd : DR l) {t : Int} (ht : 0 < t) : (hk l).flatten.countP (fun x => decide (x = t)) = (strp t l).length := by
  unfold hk strp stpB
  rw [List.length_map, List.length_map, bd_length]
  exact countP_rows _ l _ _ fun r hr => just_row hd ht (by rw [List.mem_range'_1] at hr; omega)
/-! ### hooks whose length t divides -/
theorem run_length (t k : Int) (b : List Int) : (run t k b).length = b.countP (fun x => decide (x % t = k)) := by
  unfold run
  rw [List.length_map, List.countP_eq_length_filter]
theorem run_down {t : Int} (ht : 0 < t) (n : Nat) : (run t ((n : Int) % t) (down n)).length = ((n : Int) / t).toNat := by
  have h0 := Int.emod_nonneg (n : Int) (show t ≠ 0 by omega)
  have h1 := Int.emod_lt_of_pos (n : Int) ht
  have e := Int.emod_add_ediv_mul (n : Int) t
  have hq : 0 ≤ (n : Int) / t := Int.ediv_nonneg (by omega) (by omega)
  have : run t ((n : Int) % t) (down n) = down ((n : Int) / t).toNat := DB.ext (run_db ht (down_db n)) (down_db _) fun y => by
    rw [run_mem ht h0 h1, down_mem, down_mem, Int.toNat_of_nonneg hq]
    constructor
    · rintro ⟨a1, a2⟩
      have hy : 0 ≤ y := by
        rcases Int.lt_or_le y 0 with h | h
        · have := Int.mul_le_mul_of_nonneg_right (show y ≤ -1 by omega) (show 0 ≤ t by omega)
          omega
        · exact h
      refine ⟨hy, ?_⟩
      rcases Int.lt_or_le y ((n : Int) / t) with h | h
      · exact h
      · have := Int.mul_le_mul_of_nonneg_right h (show 0 ≤ t by omega)
        omega
    · rintro ⟨a1, a2⟩
      have h3 := Int.mul_le_mul_of_nonneg_right (show y ≤ (n : Int) / t - 1 by omega) (show 0 ≤ t by omega)
      have h4 := Int.mul_nonneg a1 (show 0 ≤ t by omega)
      rw [Int.sub_mul, Int.one_mul] at h3
      omega
  rw [this, down_length]
theorem div_row {l : List Int} (hd : DR l) {t : Int} (ht : 0 < t) {r : Nat} (hr : r < l.length) : (((hkRow l r).countP (fun x => decide (x % t = 0)) : Nat) : Int) + ((run t (bead l r % t) ((bd l).drop (r + 1))).length : Nat) = bead l r / t := by
  have h0 : 0 ≤ bead l r := by
    have := hd.nn _ (getD_mem hr)
    unfold bead
    omega
  have hp := (gap_perm hd hr).countP_eq (fun x => decide (x % t = bead l r % t))
  have h1 := run_down ht (bead l r).toNat
  rw [Int.toNat_of_nonneg h0, run_length] at h1
  rw [List.countP_append, h1] at hp
  have e : (hkRow l r).countP (fun x => decide (x % t = 0)) = (gaps l (l.getD r 0).toNat).countP (fun x => decide (x % t = bead l r % t)) := by
    rw [hkRow_gaps hd hr, List.countP_map]
    refine List.countP_congr fun y _ => ?_
    simp only [Function.comp, decide_eq_true_eq]
    rw [← Int.emod_eq_emod_iff_emod_sub_eq_zero]
    exact eq_comm
  have hq : 0 ≤ bead l r / t := Int.ediv_nonneg h0 (by omega)
  rw [e, run_length]
  omega
def inv (t : Int) : List Int → Int
  | [] => 0
  | x :: xs => ((run t (x % t) xs).length : Nat) + inv t xs
theorem div_all {l : List Int} (hd : DR l) {t : Int} (ht : 0 < t) : ∀ m r, r + m = l.length → ((((List.range' r m).map (hkRow l)).flatten.countP (fun x => decide (x % t = 0)) : Nat) : Int) + inv t ((bd l).drop r) = pot t ((bd l).drop r)
  | 0, r, h => by
    rw [List.drop_eq_nil_of_le (by rw [bd_length]; omega)]
    rfl
  | m + 1, r, h => by
    have hr : r < l.length := by omega
    have ih := div_all hd ht m (r + 1) (by omega)
    have h1 := div_row hd ht hr
    rw [range'_succ', List.map_cons, List.flatten_cons, List.countP_append, drop_getD (show r < (bd l).length by rw [bd_length]; exact hr), bd_getD hr]
    unfold pot at ih ⊢
    rw [List.map_cons, List.sum_cons, inv, Int.natCast_add]
    omega
def pairs : List Int → Nat
  | [] => 0
  | x :: xs => xs.countP (fun y => decide (y = x)) + pairs xs
theorem inv_pairs (t : Int) : ∀ b : List Int, inv t b = (pairs (b.map (· % t)) : Nat)
  | [] => rfl
  | x :: xs => by
    rw [inv, inv_pairs t xs, List.map_cons, pairs, run_length, List.countP_map]
    rfl
theorem pairs_perm {a b : List Int} (h : a.Perm b) : pairs a = pairs b := by
  induction h with
  | nil => rfl
  | cons x h ih => rw [pairs, pairs, ih, h.countP_eq]
  | swap x y l =>
    simp only [pairs, List.countP_cons, decide_eq_true_eq]
    by_cases e : x = y
    · subst e
      omega
    · rw [if_neg e, if_neg (fun h => e h.symm)]
      omega
  | trans _ _ h1 h2 => rw [h1, h2]
theorem inv_eq {t : Int} {a b : List Int} (h : ∀ k, (run t k a).length = (run t k b).length) : inv t a = inv t b := by
  rw [inv_pairs, inv_pairs]
  congr 1
  refine pairs_perm (List.perm_iff_count.2 fun k => ?_)
  have := h k
  rw [run_length, run_length] at this
  rw [List.count_eq_countP, List.count_eq_countP, List.countP_map, List.countP_map]
  refine Eq.trans (List.countP_congr fun y _ => ?_) (this.trans (List.countP_congr fun y _ => ?_))
  · simp [Function.comp]
  · simp [Function.comp]
theorem hk_range (l : List Int) : hk l = (List.range' 0 l.length).map (hkRow l) := rfl
theorem countP_zero {p : Int → Bool} {l : List Int} (h : ∀ x ∈ l, ¬ p x = true) : l.countP p = 0 := List.countP_eq_zero.2 h
/-- As many hooks have a length that t divides as strips are taken off. -/
theorem div_core {l : List Int} (hs : Shp l) {t : Int} (ht : 0 < t) : (((hk l).flatten.countP (fun x => decide (x % t = 0)) : Nat) : Int) = (core t l).2 := by
  have c := core_of ht hs (Nat.le_refl l.length)
  have h1 := div_all hs.dr ht l.length 0 (by omega)
  have hd : DR ((core t l).1 ++ List.replicate (l.length - (core t l).1.length) 0) := c.shp.dr.pad _
  have h2 := div_all hd ht _ 0 (Nat.zero_add _)
  have hpk : Packed t (bd ((core t l).1 ++ List.replicate (l.length - (core t l).1.length) 0)) := c.packed ht (Nat.le_refl _)
  have hz : ((((List.range' 0 ((core t l).1 ++ List.replicate (l.length - (core t l).1.length) 0).length).map (hkRow ((core t l).1 ++ List.replicate (l.length - (core t l).1.length) 0))).flatten.countP (fun x => decide (x % t = 0)) : Nat) : Int) = 0 := by
    generalize hL : (core t l).1 ++ List.replicate (l.length - (core t l).1.length) 0 = L at hd hpk
    have : ((List.range' 0 L.length).map (hkRow L)).flatten.countP (fun x => decide (x % t = 0)) = 0 := by
      refine countP_zero fun x hx hc => ?_
      rw [decide_eq_true_eq] at hc
      obtain ⟨row, hrow, hxr⟩ := List.mem_flatten.1 hx
      obtain ⟨r, hr, rfl⟩ := List.mem_map.1 hrow
      rw [List.mem_range'_1] at hr
      have hr : r < L.length := by omega
      rw [hkRow_gaps hd hr] at hxr
      obtain ⟨y, hy, rfl⟩ := List.mem_map.1 hxr
      obtain ⟨c, hcl, rfl⟩ := gaps_mem.1 hy
      -- from the bead down to the gap in steps of t
      have hstep : ∀ j : Nat, 0 ≤ bead L r - j * t → bead L r - j * t ∈ bd L := by
        intro j
        induction j with
        | zero =>
          intro _
          rw [show ((0 : Nat) : Int) * t = 0 from Int.zero_mul t, Int.sub_zero]
          exact bd_mem.2 ⟨r, hr, rfl⟩
        | succ j ih =>
          intro h0
          have e : ((j + 1 : Nat) : Int) * t = j * t + t := by
            rw [Int.natCast_add, Int.add_mul]
            simp
          rw [e] at h0 ⊢
          have := hpk _ (ih (by omega)) (by omega)
          rwa [show bead L r - (↑j * t + t) = bead L r - ↑j * t - t by omega]
      have hb := (gap_below hd c r hr).2 (by omega)
      have hg := gap_nn L c
      have e := Int.emod_add_ediv_mul (bead L r - gap L c) t
      have hq : 0 ≤ (bead L r - gap L c) / t := Int.ediv_nonneg (by omega) (by omega)
      have := hstep ((bead L r - gap L c) / t).toNat (by rw [Int.toNat_of_nonneg hq]; omega)
      rw [Int.toNat_of_nonneg hq, show bead L r - (bead L r - gap L c) / t * t = gap L c by omega] at this
      exact gap_not hd c this
    rw [this]
    rfl
  rw [hz] at h2
  rw [← hk_range] at h1
  have e : inv t (bd ((core t l).1 ++ List.replicate (l.length - (core t l).1.length) 0)) = inv t (bd l) := by
    refine inv_eq fun k => ?_
    have := c.run k
    rw [pad_self] at this
    exact this
  have p := c.pot
  rw [pad_self] at p
  rw [List.drop_zero] at h1 h2
  unfold pad at p
  omega
end Go.Proofs.Ytcmphfcpiciehaa.Pure
