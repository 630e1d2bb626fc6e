/- The beads of each wire; what a strip leaves; the core is the only packed one. -/
import Derived.Test.YtcmphfcpiciehaaBStp
import Derived.Test.YtcmphfcpiciehaaPrintx24
namespace Go.Proofs.Ytcmphfcpiciehaa.Pure
open Go.RowKit Go.Proofs.Ytcmphfcpiciehaa.Print Go.Proofs.YtcmphfcpiciehaaW.PrintWords Go.Proofs.YtcmphfcpiciehaaW.PrintLast Go.Proofs.YtcmphfcpiciehaaW.PrintMore
theorem DB.ext : ∀ {a b : List Int}, DB a → DB b → (∀ x, x ∈ a ↔ x ∈ b) → a = b := fun ha hb h =>
  DB.eq ha hb ((List.perm_ext_iff_of_nodup ha.nodup hb.nodup).2 h)
/-! ### beads with rows of no blocks -/
def up (b : List Int) : List Int := b.map (· + 1) ++ [0]
theorem bd_snoc : ∀ l : List Int, bd (l ++ [0]) = up (bd l)
  | [] => rfl
  | x :: xs => by
    rw [List.cons_append, bd_cons, bd_snoc xs, bd_cons, List.length_append, List.length_singleton]
    unfold up
    rw [List.map_cons, List.cons_append]
    congr 1
    omega
theorem pad_succ {N : Nat} {l : List Int} (h : l.length ≤ N) : pad (N + 1) l = up (pad N l) := by
  unfold pad
  rw [show N + 1 - l.length = (N - l.length) + 1 by omega, List.replicate_succ', ← List.append_assoc, bd_snoc]
theorem up_mem {b : List Int} {x : Int} : x ∈ up b ↔ x - 1 ∈ b ∨ x = 0 := by
  unfold up
  rw [List.mem_append, List.mem_map, List.mem_singleton]
  constructor
  · rintro (⟨y, hy, rfl⟩ | h)
    · exact .inl (by rw [Int.add_sub_cancel]; exact hy)
    · exact .inr h
  · rintro (h | h)
    · exact .inl ⟨x - 1, h, by omega⟩
    · exact .inr h
theorem up_db {b : List Int} (h : DB b) : DB (up b) := by
  refine ⟨List.pairwise_append.2 ⟨List.pairwise_map.2 (h.gt.imp (fun h => by omega)), List.pairwise_singleton _ _, fun x hx y hy => ?_⟩, fun x hx => ?_⟩
  · obtain ⟨z, hz, rfl⟩ := List.mem_map.1 hx
    have := h.nn z hz
    have : y = 0 := by simpa using hy
    omega
  · rcases up_mem.1 hx with h1 | h1
    · have := h.nn _ h1
      omega
    · omega
theorem up_perm {a b : List Int} (h : a.Perm b) : (up a).Perm (up b) := (h.map _).append_right _
theorem Step.up {t : Int} {b b' : List Int} (h : Step t b b') : Step t (Pure.up b) (Pure.up b') := by
  obtain ⟨x, r, h1, h2, h3, h4⟩ := h.ex
  refine ⟨up_db h.db, x + 1, r.map (· + 1) ++ [0], ?_, ?_, by omega, fun hm => ?_⟩
  · exact up_perm h1
  · have := up_perm h2
    unfold Pure.up at this ⊢
    rw [List.map_cons, List.cons_append] at this
    rw [show x + 1 - t = x - t + 1 by omega]
    exact this
  · rcases up_mem.1 hm with hm | hm
    · exact h4 (by rw [show x - t = x + 1 - t - 1 by omega]; exact hm)
    · omega
theorem Step.pad {t : Int} {l : List Int} (hs : DR l) (ht : 0 < t) {b' : List Int} (h : Step t (bd l) b') : ∀ m, Step t (Pure.pad (l.length + m) l) (Pure.pad (l.length + m) (shB b'))
  | 0 => by
    have hl : b'.length = l.length := by rw [h.length, bd_length]
    rw [Nat.add_zero, pad_self, ← hl, h.db.pad_shB]
    exact h
  | m + 1 => by
    have hl : b'.length = l.length := by rw [h.length, bd_length]
    have h2 := shB_length b'
    rw [← Nat.add_assoc, pad_succ (by omega), pad_succ (by omega)]
    exact (Step.pad hs ht h m).up
/-! ### the wires -/
def run (t k : Int) (b : List Int) : List Int := (b.filter fun x => decide (x % t = k)).map (· / t)
theorem run_mem {t k : Int} {b : List Int} {y : Int} (ht : 0 < t) (h0 : 0 ≤ k) (hk : k < t) : y ∈ run t k b ↔ y * t + k ∈ b := by
  unfold run
  rw [List.mem_map]
  constructor
  · rintro ⟨x, hx, rfl⟩
    obtain ⟨h1, h2⟩ := List.mem_filter.1 hx
    rw [decide_eq_true_eq] at h2
    have := Int.emod_add_ediv_mul x t
    rw [show x / t * t + k = x by omega]
    exact h1
  · intro h
    refine ⟨y * t + k, List.mem_filter.2 ⟨h, ?_⟩, ?_⟩
    · rw [decide_eq_true_eq, Int.add_comm, Int.add_mul_emod_self_right, Int.emod_eq_of_lt h0 hk]
    · show (y * t + k) / t = y
      rw [Int.add_comm, Int.add_mul_ediv_right _ _ (by omega), Int.ediv_eq_zero_of_lt h0 hk, Int.zero_add]
theorem run_perm {t k : Int} {a b : List Int} (h : a.Perm b) : (run t k a).Perm (run t k b) := (h.filter _).map _
theorem run_db {t k : Int} {b : List Int} (ht : 0 < t) (h : DB b) : DB (run t k b) := by
  refine ⟨?_, fun y hy => ?_⟩
  · refine List.pairwise_map.2 ((List.pairwise_filter.2 (h.gt.imp ?_)))
    intro x y hxy hx hy
    rw [decide_eq_true_eq] at hx hy
    have e1 := Int.emod_add_ediv_mul x t
    have e2 := Int.emod_add_ediv_mul y t
    by_cases hc : y / t < x / t
    · exact hc
    · have := Int.mul_le_mul_of_nonneg_right (show x / t ≤ y / t by omega) (Int.le_of_lt ht)
      omega
  · obtain ⟨x, hx, rfl⟩ := List.mem_map.1 hy
    exact Int.ediv_nonneg (h.nn x (List.mem_filter.1 hx).1) (Int.le_of_lt ht)
theorem run_ext {t : Int} {a b : List Int} (ht : 0 < t) (ha : DB a) (hb : DB b) (h : ∀ k, 0 ≤ k → k < t → run t k a = run t k b) : a = b := by
  refine DB.ext ha hb fun x => ?_
  have h0 := Int.emod_nonneg x (show t ≠ 0 by omega)
  have h1 := Int.emod_lt_of_pos x ht
  have e := Int.emod_add_ediv_mul x t
  have hm := h (x % t) h0 h1
  have ha := run_mem (b := a) (y := x / t) ht h0 h1
  have hb := run_mem (b := b) (y := x / t) ht h0 h1
  rw [show x / t * t + x % t = x by omega] at ha hb
  rw [← ha, ← hb, hm]
def down : Nat → List Int
  | 0 => []
  | n + 1 => (n : Int) :: down n
theorem down_length : ∀ n, (down n).length = n
  | 0 => rfl
  | n + 1 => by rw [down, List.length_cons, down_length n]
theorem down_mem : ∀ (n : Nat) (x : Int), x ∈ down n ↔ 0 ≤ x ∧ x < n
  | 0, x => by
    simp only [down, List.not_mem_nil, false_iff]
    omega
  | n + 1, x => by
    rw [down, List.mem_cons, down_mem n x]
    omega
theorem down_db : ∀ n, DB (down n)
  | 0 => DB.nil
  | n + 1 => DB.cons (down_db n) (fun y hy => ((down_mem n y).1 hy).2) (by omega)
theorem down_eq : ∀ {b : List Int}, DB b → (∀ x ∈ b, 0 < x → x - 1 ∈ b) → b = down b.length
  | [], _, _ => rfl
  | x :: xs, h, hp => by
    have ih := down_eq h.tail (fun y hy h0 => by
      have h1 := h.head y hy
      rcases List.mem_cons.1 (hp y (List.mem_cons_of_mem _ hy) h0) with e | e
      · omega
      · exact e)
    have hx : x = (xs.length : Int) := by
      have h0 := h.nn x List.mem_cons_self
      have h1 := h.high
      by_cases hc : 0 < x
      · rcases List.mem_cons.1 (hp x List.mem_cons_self hc) with e | e
        · omega
        · rw [ih] at e
          have := (down_mem _ _).1 e
          omega
      · omega
    rw [List.length_cons, down, ← ih, ← hx]
theorem sum_down : ∀ n, (down n).sum = tri n
  | 0 => rfl
  | n + 1 => by rw [down, List.sum_cons, sum_down n]; rfl
theorem bd_zeros : ∀ n, bd (List.replicate n 0) = down n
  | 0 => rfl
  | n + 1 => by
    rw [List.replicate_succ, bd_cons, bd_zeros n, List.length_replicate, down, Int.zero_add]
/-! ### packed beads -/
def Packed (t : Int) (b : List Int) : Prop := ∀ x ∈ b, t ≤ x → x - t ∈ b
theorem packed_iff (t : Int) (b : List Int) : stpB t b = [] ↔ Packed t b := by
  unfold stpB
  rw [List.map_eq_nil_iff, List.filter_eq_nil_iff]
  constructor
  · intro h x hx hle
    obtain ⟨i, hi, rfl⟩ := List.mem_iff_getElem.1 hx
    have := h i (by rw [List.mem_range'_1]; omega)
    rw [can_iff, getD_at hi] at this
    by_cases hm : b[i] - t ∈ b
    · exact hm
    · exact absurd ⟨hle, hm⟩ this
  · intro h i hi hc
    rw [List.mem_range'_1] at hi
    obtain ⟨h1, h2⟩ := (can_iff t b i).1 hc
    exact h2 (h _ (getD_mem (show i < b.length by omega)) h1)
theorem strp_nil (t : Int) (l : List Int) : strp t l = [] ↔ Packed t (bd l) := by
  unfold strp
  rw [List.map_eq_nil_iff, packed_iff]
theorem Packed.up {t : Int} (ht : 0 < t) {b : List Int} (h : Packed t b) : Packed t (up b) := by
  intro x hx hle
  rcases up_mem.1 hx with h1 | h1
  · by_cases hc : t ≤ x - 1
    · have := h _ h1 hc
      exact up_mem.2 (.inl (by rw [show x - t - 1 = x - 1 - t by omega]; exact this))
    · exact up_mem.2 (.inr (by omega))
  · omega
theorem Packed.pad {t : Int} (ht : 0 < t) {l : List Int} (hl : DR l) (h : Packed t (bd l)) : ∀ m, Packed t (pad (l.length + m) l)
  | 0 => by
    rw [Nat.add_zero, pad_self]
    exact h
  | m + 1 => by
    rw [← Nat.add_assoc, pad_succ (by omega)]
    exact (Packed.pad ht hl h m).up ht
theorem Packed.run {t k : Int} {b : List Int} (ht : 0 < t) (h0 : 0 ≤ k) (hk : k < t) (hb : DB b) (h : Packed t b) : run t k b = down (run t k b).length := by
  refine down_eq (run_db ht hb) fun y hy hp => ?_
  rw [run_mem ht h0 hk] at hy ⊢
  have e : (y - 1) * t + k = y * t + k - t := by rw [Int.sub_mul, Int.one_mul]; omega
  rw [e]
  have hty : t ≤ y * t := by
    have := Int.mul_le_mul_of_nonneg_right (show 1 ≤ y by omega) (Int.le_of_lt ht)
    omega
  exact h _ hy (by omega)
theorem packed_eq {t : Int} {a b : List Int} (ht : 0 < t) (ha : DB a) (hb : DB b) (pa : Packed t a) (pb : Packed t b) (h : ∀ k, 0 ≤ k → k < t → (run t k a).length = (run t k b).length) : a = b :=
  run_ext ht ha hb fun k h0 hk => by rw [pa.run ht h0 hk ha, pb.run ht h0 hk hb, h k h0 hk]
def pot (t : Int) (b : List Int) : Int := (b.map (· / t)).sum
theorem pot_perm {t : Int} {a b : List Int} (h : a.Perm b) : pot t a = pot t b := sum_perm (h.map _)
theorem Step.pot {t : Int} {b b' : List Int} (ht : 0 < t) (h : Step t b b') : Pure.pot t b' + 1 = Pure.pot t b := by
  obtain ⟨x, r, h1, h2, _⟩ := h.ex
  rw [pot_perm h1, pot_perm h2]
  unfold Pure.pot
  rw [List.map_cons, List.map_cons, List.sum_cons, List.sum_cons]
  have : (x - t) / t = x / t + -1 := by
    rw [show x - t = x + -1 * t by omega, Int.add_mul_ediv_right _ _ (by omega)]
  omega
theorem Step.run {t : Int} {b b' : List Int} (h : Step t b b') (k : Int) : (Pure.run t k b').length = (Pure.run t k b).length := by
  obtain ⟨x, r, h1, h2, _⟩ := h.ex
  rw [(run_perm h1).length_eq, (run_perm h2).length_eq]
  unfold Pure.run
  have : (x - t) % t = x % t := by
    rw [show x - t = x + -1 * t by omega, Int.add_mul_emod_self_right]
  rw [List.length_map, List.length_map, List.filter_cons, List.filter_cons, this]
  split <;> rfl
/-! ### the core -/
structure CoreOf (t : Int) (N : Nat) (l c : List Int) (n : Int) : Prop where
  shp : Shp c
  len : c.length ≤ l.length
  nil : strp t c = []
  run : ∀ k, (run t k (pad N c)).length = (run t k (pad N l)).length
  pot : pot t (pad N c) + n = pot t (pad N l)
theorem coreS_end (t : Int) (ht : 0 < t) : ∀ (n : Nat) (l : List Int), Shp l → l.sum ≤ n → strp t (coreS t n l).1 = []
  | 0, l, hs, hn => by
    unfold coreS
    cases e : strp t l with
    | nil => rfl
    | cons s r =>
      obtain ⟨h1, h2⟩ := strp_shp hs (Int.le_of_lt ht) (show s ∈ strp t l by rw [e]; exact List.mem_cons_self)
      have := shp_sum0 h1
      omega
  | n + 1, l, hs, hn => by
    unfold coreS
    split
    · rename_i e
      exact e
    · rename_i s r e
      obtain ⟨h1, h2⟩ := strp_shp hs (Int.le_of_lt ht) (show s ∈ strp t l by rw [e]; exact List.mem_cons_self)
      exact coreS_end t ht n s h1 (by omega)
theorem strp_step {t : Int} {l s : List Int} (ht : 0 < t) (hs : Shp l) (h : s ∈ strp t l) {N : Nat} (hN : l.length ≤ N) : Step t (pad N l) (pad N s) ∧ s.length ≤ l.length := by
  obtain ⟨b', hb, rfl⟩ := List.mem_map.1 h
  have hst := step_of hs.db hb
  have := hst.pad hs.dr ht (N - l.length)
  rw [show l.length + (N - l.length) = N by omega] at this
  refine ⟨this, ?_⟩
  have h1 := shB_length b'
  rw [hst.length, bd_length] at h1
  exact h1
theorem coreS_of {t : Int} (ht : 0 < t) (N : Nat) : ∀ (n : Nat) (l : List Int), Shp l → l.length ≤ N → l.sum ≤ n → CoreOf t N l (coreS t n l).1 (coreS t n l).2
  | n, l, hs, hN, hn => by
    have hend := coreS_end t ht n l hs hn
    have hshp := coreS_shp (Int.le_of_lt ht) n l hs
    cases n with
    | zero => exact ⟨hs, Nat.le_refl _, hend, fun _ => rfl, Int.add_zero _⟩
    | succ n =>
      cases e : strp t l with
      | nil =>
        have hc : coreS t (n + 1) l = (l, 0) := by
          unfold coreS
          rw [e]
        rw [hc]
        exact ⟨hs, Nat.le_refl _, e, fun _ => rfl, Int.add_zero _⟩
      | cons s r =>
        have hm : s ∈ strp t l := by rw [e]; exact List.mem_cons_self
        obtain ⟨h1, h2⟩ := strp_shp hs (Int.le_of_lt ht) hm
        obtain ⟨h3, h4⟩ := strp_step ht hs hm hN
        have ih := coreS_of ht N n s h1 (by omega) (by omega)
        have hc : coreS t (n + 1) l = ((coreS t n s).1, (coreS t n s).2 + 1) := by
          conv => lhs; unfold coreS
          rw [e]
        rw [hc]
        have hp := h3.pot ht
        have hp2 := ih.pot
        exact ⟨ih.shp, Nat.le_trans ih.len h4, ih.nil, fun k => (ih.run k).trans (h3.run k), by simp only; omega⟩
theorem core_of {t : Int} (ht : 0 < t) {N : Nat} {l : List Int} (hs : Shp l) (hN : l.length ≤ N) : CoreOf t N l (core t l).1 (core t l).2 := coreS_of ht N 40 l hs hN hs.sum
theorem CoreOf.packed {t : Int} {N : Nat} {l c : List Int} {n : Int} (ht : 0 < t) (hN : l.length ≤ N) (h : CoreOf t N l c n) : Packed t (pad N c) := by
  have := ((strp_nil t c).1 h.nil).pad ht h.shp.dr (N - c.length)
  have h2 := h.len
  rwa [show c.length + (N - c.length) = N by omega] at this
theorem shp_pos {l : List Int} (h : Shp l) : ∀ x ∈ l, 1 ≤ x := fun x hx => (h.bound x hx).1
theorem pad_inj {N : Nat} {a b : List Int} (ha : Shp a) (hb : Shp b) (h : pad N a = pad N b) : a = b := by
  rw [← shB_of_pad (shp_pos ha) N, h, shB_of_pad (shp_pos hb) N]
/-- Two shapes with as many beads on each wire have the same core. -/
theorem core_unique {t : Int} {N : Nat} {l l' c c' : List Int} {n n' : Int} (ht : 0 < t) (hN : l.length ≤ N) (hN' : l'.length ≤ N) (h : CoreOf t N l c n) (h' : CoreOf t N l' c' n') (hr : ∀ k, 0 ≤ k → k < t → (run t k (pad N l)).length = (run t k (pad N l')).length) : c = c' := by
  refine pad_inj (N := N) h.shp h'.shp (packed_eq ht (pad_db h.shp.dr N) (pad_db h'.shp.dr N) (h.packed ht hN) (h'.packed ht hN') fun k h0 hk => ?_)
  rw [h.run k, h'.run k, hr k h0 hk]
theorem same_gen (a b : List Int) (hl : a.length = b.length) (hs : a.length ≤ 1000000) : ∀ n k (i : Nat), i + n = a.length → n < k → clochelaw04_same.l0 k a b i = some (decide (a.drop i = b.drop i))
  | 0, k, i, h, hk => by
    obtain ⟨k, rfl, _⟩ := succK hk
    simp only [clochelaw04_same.l0]
    rw [if_neg (by omega), List.drop_eq_nil_of_le (by omega), List.drop_eq_nil_of_le (by omega)]
    rfl
  | n + 1, k, i, h, hk => by
    obtain ⟨k, rfl, _⟩ := succK hk
    have ih := same_gen a b hl hs n k (i + 1) (by omega) (by omega)
    simp only [clochelaw04_same.l0]
    rw [if_pos (by omega), if_pos (by omega), if_pos (by omega), rdn, rdn, inc64 i (by omega), ih, drop_getD (show i < a.length by omega), drop_getD (show i < b.length by omega)]
    by_cases h : a.getD i 0 = b.getD i 0
    · rw [if_pos h, h]
      congr 1
      exact decide_eq_decide.2 ⟨fun h => by rw [h], fun h => (List.cons.inj h).2⟩
    · rw [if_neg h, decide_eq_false (fun e => h (List.cons.inj e).1)]
theorem same_f (a b : List Int) (hs : a.length ≤ 1000000) (k : Nat) (hk : a.length < k) : clochelaw04_same.f k a b = some (decide (a = b)) := by
  unfold clochelaw04_same.f
  by_cases h : a.length = b.length
  · rw [if_pos (by omega)]
    have := same_gen a b h hs a.length k 0 (by omega) hk
    rwa [List.drop_zero, List.drop_zero] at this
  · rw [if_neg (by omega), decide_eq_false (fun e => h (by rw [e]))]
theorem wires_of (a : Int) (h : (Lit.int .u8 a).wf = true) : ∃ t, clochelaw04_wires.f a = some t ∧ 2 ≤ t ∧ t ≤ 6 := by
  have h1 : IntKind.u8.min = 0 := rfl
  have h2 : IntKind.u8.max = 255 := rfl
  have hw : 0 ≤ a ∧ a ≤ 255 := by
    simp only [Lit.wf, Bool.and_eq_true, decide_eq_true_eq] at h
    omega
  have h3 : Int.tmod a 5 = a % 5 := Int.tmod_eq_emod_of_nonneg hw.1
  refine ⟨2 + a % 5, ?_, by omega, by omega⟩
  unfold clochelaw04_wires.f
  rw [h3, w64 (show -9223372036854775808 ≤ a % 5 by omega) (by omega), w64 (by omega) (by omega)]
/-! ### the core -/
theorem core_strip {t : Int} (ht : 0 < t) {l s : List Int} (hs : Shp l) (h : s ∈ strp t l) : Shp s ∧ s.sum = l.sum - t ∧ (core t s).1 = (core t l).1 ∧ (core t s).2 + 1 = (core t l).2 := by
  obtain ⟨h1, h2⟩ := strp_shp hs (Int.le_of_lt ht) h
  obtain ⟨h3, h4⟩ := strp_step ht hs h (Nat.le_refl l.length)
  have c1 := core_of ht hs (Nat.le_refl l.length)
  have c2 := core_of ht h1 h4
  have e := core_unique ht h4 (Nat.le_refl l.length) c2 c1 (fun k _ _ => h3.run k)
  have p1 := c1.pot
  have p2 := c2.pot
  have p3 := h3.pot ht
  rw [e] at p2
  exact ⟨h1, h2, e, by omega⟩
theorem core_nil {t : Int} {l : List Int} (h : strp t l = []) : core t l = (l, 0) := by
  show (match strp t l with
    | [] => (l, 0)
    | s :: _ => ((coreS t 39 s).1, (coreS t 39 s).2 + 1)) = _
  rw [h]
theorem core_nn (t : Int) (l : List Int) : 0 ≤ (core t l).2 ∧ (core t l).2 ≤ 40 := coreS_nn t 40 l
theorem core_cons {t : Int} (ht : 0 < t) {l : List Int} (hs : Shp l) (h : strp t l ≠ []) : 0 < (core t l).2 ∧ (core t l).1 ≠ l := by
  obtain ⟨s, r, e⟩ := List.exists_cons_of_ne_nil h
  obtain ⟨h1, h2, h3, h4⟩ := core_strip ht hs (show s ∈ strp t l by rw [e]; exact List.mem_cons_self)
  have h5 := core_nn t s
  refine ⟨by omega, fun hc => ?_⟩
  have c1 := core_of ht hs (Nat.le_refl l.length)
  have p1 := c1.pot
  rw [hc] at p1
  omega
theorem core_okW {t : Int} {l : List Int} (h : okW l t = true) : okW (core t l).1 t = true ∧ strp t (core t l).1 = [] := by
  obtain ⟨hs, h1, h2⟩ := okW_iff h
  have c1 := core_of (show 0 < t by omega) hs (Nat.le_refl l.length)
  refine ⟨?_, c1.nil⟩
  unfold okW
  rw [(isShp_iff _).2 c1.shp, decide_eq_true h1, decide_eq_true h2]
  rfl
theorem okW_of {t : Int} {l : List Int} (hs : Shp l) (h1 : 2 ≤ t) (h2 : t ≤ 6) : okW l t = true := by
  unfold okW
  rw [(isShp_iff _).2 hs, decide_eq_true h1, decide_eq_true h2]
  rfl
end Go.Proofs.Ytcmphfcpiciehaa.Pure
