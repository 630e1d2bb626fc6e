/- Of: the beads of a core, moved up by the shapes of a quotient; the number of blocks of both. -/
import Derived.Test.YtcmphfcpiciehaaBQuo
namespace Go.Proofs.Ytcmphfcpiciehaa.Pure
open Go.RowKit Go.Proofs.Ytcmphfcpiciehaa.Print Go.Proofs.YtcmphfcpiciehaaW.PrintWords Go.Proofs.YtcmphfcpiciehaaW.PrintLast Go.Proofs.YtcmphfcpiciehaaW.PrintMore
set_option linter.unusedVariables false
/-! ### sums over the wires -/
theorem sum_add2 (f g : Nat → Int) : ∀ L : List Nat, (L.map fun k => f k + g k).sum = (L.map f).sum + (L.map g).sum
  | [] => rfl
  | x :: xs => by
    rw [List.map_cons, List.map_cons, List.map_cons, List.sum_cons, List.sum_cons, List.sum_cons, sum_add2 f g xs]
    omega
theorem sum_none (v : Int) (r : Int) : ∀ n s : Nat, r < s → ((List.range' s n).map fun k : Nat => if r = (k : Int) then v else 0).sum = 0
  | 0, _, _ => rfl
  | n + 1, s, h => by
    rw [range'_succ', List.map_cons, List.sum_cons, if_neg (by omega), sum_none v r n (s + 1) (by omega)]
    rfl
theorem sum_ind (v : Int) (r : Int) : ∀ n s : Nat, (s : Int) ≤ r → r < s + n → ((List.range' s n).map fun k : Nat => if r = (k : Int) then v else 0).sum = v
  | 0, s, h1, h2 => by omega
  | n + 1, s, h1, h2 => by
    rw [range'_succ', List.map_cons, List.sum_cons]
    by_cases h : r = (s : Int)
    · rw [if_pos h, sum_none v r n (s + 1) (by omega), Int.add_zero]
    · rw [if_neg h, sum_ind v r n (s + 1) (by omega) (by omega), Int.zero_add]
theorem sum_congr (f g : Nat → Int) : ∀ n s : Nat, (∀ k, s ≤ k → k < s + n → f k = g k) → ((List.range' s n).map f).sum = ((List.range' s n).map g).sum
  | 0, _, _ => rfl
  | n + 1, s, h => by
    rw [range'_succ', List.map_cons, List.map_cons, List.sum_cons, List.sum_cons, h s (Nat.le_refl _) (by omega), sum_congr f g n (s + 1) (fun k h1 h2 => h k (by omega) (by omega))]
theorem pot_runs (T : Nat) (ht : 0 < T) : ∀ b : List Int, ((List.range' 0 T).map fun k : Nat => (run T (k : Int) b).sum).sum = pot T b
  | [] => by
    have : (fun k : Nat => (run T (k : Int) ([] : List Int)).sum) = fun k : Nat => if (-1 : Int) = (k : Int) then 0 else 0 := by
      funext k
      split <;> rfl
    rw [this, sum_none 0 (-1) T 0 (by omega)]
    rfl
  | x :: xs => by
    have h0 := Int.emod_nonneg x (show (T : Int) ≠ 0 by omega)
    have h1 := Int.emod_lt_of_pos x (show (0 : Int) < T by omega)
    have e : (fun k : Nat => (run T (k : Int) (x :: xs)).sum) = fun k : Nat => (if x % (T : Int) = (k : Int) then x / (T : Int) else 0) + (run T (k : Int) xs).sum := by
      funext k
      unfold run
      rw [List.filter_cons]
      by_cases h : x % (T : Int) = (k : Int)
      · rw [if_pos (by rw [decide_eq_true_eq]; exact h), if_pos h, List.map_cons, List.sum_cons]
      · rw [if_neg (by rw [decide_eq_true_eq]; exact h), if_neg h, Int.zero_add]
    rw [e, sum_add2, sum_ind _ _ T 0 (by omega) (by omega), pot_runs T ht xs]
    unfold pot
    rw [List.map_cons, List.sum_cons]
/-! ### the core and the quotient of a shape -/
theorem coreS_sum {t : Int} (ht : 0 < t) : ∀ n l, Shp l → (coreS t n l).1.sum + t * (coreS t n l).2 = l.sum
  | 0, l, _ => by
    show l.sum + t * 0 = l.sum
    omega
  | n + 1, l, hs => by
    unfold coreS
    split
    · show l.sum + t * 0 = l.sum
      omega
    · rename_i s r e
      obtain ⟨h1, h2⟩ := strp_shp hs (Int.le_of_lt ht) (show s ∈ strp t l by rw [e]; exact List.mem_cons_self)
      have ih := coreS_sum ht n s h1
      show (coreS t n s).1.sum + t * ((coreS t n s).2 + 1) = l.sum
      rw [Int.mul_add]
      omega
theorem core_sum {t : Int} (ht : 0 < t) {l : List Int} (hs : Shp l) : (core t l).1.sum + t * (core t l).2 = l.sum := coreS_sum ht 40 l hs
/-- How many beads there are on each wire. -/
def many (T N : Nat) (c : List Int) (k : Nat) : Nat := (run T (k : Int) (pad N c)).length
theorem core_run {T N : Nat} {c : List Int} (ht : 0 < T) (hs : Shp c) (hN : c.length ≤ N) (hc : strp T c = []) {k : Nat} (hk : k < T) : run T (k : Int) (pad N c) = down (many T N c k) := by
  have hp : Packed T (pad N c) := by
    have := ((strp_nil (T : Int) c).1 hc).pad (by omega) hs.dr (N - c.length)
    rwa [show c.length + (N - c.length) = N by omega] at this
  exact hp.run (by omega) (by omega) (by omega) (pad_db hs.dr N)
/-- The strips are as many as the blocks of all shapes of the quotient. -/
theorem strips_sum {T N : Nat} {l c : List Int} {n : Int} {q : Nat → List Int} (ht : 0 < T) (h : CoreOf T N l c n) (hl : l.length ≤ N) (hq : ∀ k, k < T → (q k).length ≤ many T N c k ∧ run T (k : Int) (pad N l) = pad (many T N c k) (q k)) : n = ((List.range' 0 T).map fun k => (q k).sum).sum := by
  have hcl := h.len
  have p := h.pot
  rw [← pot_runs T ht, ← pot_runs T ht] at p
  rw [sum_congr (fun k : Nat => (run T (k : Int) (pad N c)).sum) (fun k : Nat => tri (many T N c k)) T 0 (fun k _ h2 => by
    show (run T (k : Int) (pad N c)).sum = _
    rw [core_run ht h.shp (by omega) h.nil (show k < T by omega), sum_down])] at p
  rw [sum_congr (fun k : Nat => (run T (k : Int) (pad N l)).sum) (fun k : Nat => tri (many T N c k) + (q k).sum) T 0 (fun k _ h2 => by
    obtain ⟨h3, h4⟩ := hq k (by omega)
    show (run T (k : Int) (pad N l)).sum = _
    rw [h4, sum_pad h3]
    omega), sum_add2] at p
  omega
/-! ### the beads that are put together -/
theorem mulT {T : Nat} {j : Nat} (hj : j < T) (y : Int) : (y * (T : Int) + j) % (T : Int) = j ∧ (y * (T : Int) + j) / (T : Int) = y := by
  constructor
  · rw [Int.add_comm, Int.add_mul_emod_self_right, Int.emod_eq_of_lt (by omega) (by omega)]
  · rw [Int.add_comm, Int.add_mul_ediv_right _ _ (by omega), Int.ediv_eq_zero_of_lt (by omega) (by omega), Int.zero_add]
theorem run_append (t k : Int) (a b : List Int) : run t k (a ++ b) = run t k a ++ run t k b := by
  unfold run
  rw [List.filter_append, List.map_append]
theorem run_mul {T j : Nat} (hj : j < T) (k : Nat) : ∀ l : List Int, run T (k : Int) (l.map fun y => y * (T : Int) + j) = if j = k then l else []
  | [] => by split <;> rfl
  | y :: ys => by
    have ih := run_mul hj k ys
    obtain ⟨e1, e2⟩ := mulT hj y
    unfold run at ih ⊢
    rw [List.map_cons, List.filter_cons]
    by_cases h : j = k
    · rw [if_pos h] at ih ⊢
      rw [if_pos (by rw [decide_eq_true_eq, e1]; omega), List.map_cons, ih, e2]
    · rw [if_neg h] at ih ⊢
      rw [if_neg (by rw [decide_eq_true_eq, e1]; omega), ih]
def putW (T k m : Nat) (q : List Int) : List Int := (pad m q).map fun y => y * (T : Int) + k
def putA (T : Nat) (m : Nat → Nat) (q : Nat → List Int) (s n : Nat) : List Int := ((List.range' s n).map fun k => putW T k (m k) (q k)).flatten
theorem putA_succ (T : Nat) (m : Nat → Nat) (q : Nat → List Int) (s n : Nat) : putA T m q s (n + 1) = putW T s (m s) (q s) ++ putA T m q (s + 1) n := by
  unfold putA
  rw [range'_succ', List.map_cons, List.flatten_cons]
theorem run_putA (T : Nat) (m : Nat → Nat) (q : Nat → List Int) (k : Nat) : ∀ n s, s + n ≤ T → run T (k : Int) (putA T m q s n) = if s ≤ k ∧ k < s + n then pad (m k) (q k) else []
  | 0, s, _ => by
    rw [if_neg (by omega)]
    rfl
  | n + 1, s, h => by
    rw [putA_succ, run_append, run_putA T m q k n (s + 1) (by omega)]
    unfold putW
    rw [run_mul (show s < T by omega)]
    by_cases h1 : s = k
    · subst h1
      rw [if_pos rfl, if_neg (by omega), if_pos (by omega), List.append_nil]
    · rw [if_neg h1, List.nil_append]
      by_cases h2 : s ≤ k ∧ k < s + (n + 1)
      · rw [if_pos h2, if_pos (by omega)]
      · rw [if_neg h2, if_neg (by omega)]
theorem putA_nodup (T : Nat) (m : Nat → Nat) (q : Nat → List Int) (hq : ∀ k, k < T → DR (q k)) : ∀ n s, s + n ≤ T → (putA T m q s n).Nodup ∧ ∀ x ∈ putA T m q s n, 0 ≤ x ∧ (s : Int) ≤ x % (T : Int)
  | 0, s, _ => ⟨List.nodup_nil, fun x hx => by simp [putA] at hx⟩
  | n + 1, s, h => by
    obtain ⟨i1, i2⟩ := putA_nodup T m q hq n (s + 1) (by omega)
    have hd := pad_db (hq s (by omega)) (m s)
    have hm : ∀ x ∈ putW T s (m s) (q s), 0 ≤ x ∧ x % (T : Int) = s := fun x hx => by
      obtain ⟨y, hy, rfl⟩ := List.mem_map.1 hx
      have := Int.mul_nonneg (hd.nn y hy) (show 0 ≤ (T : Int) by omega)
      exact ⟨by omega, (mulT (show s < T by omega) y).1⟩
    rw [putA_succ]
    refine ⟨List.nodup_append.2 ⟨?_, i1, fun x hx y hy => ?_⟩, fun x hx => ?_⟩
    · unfold putW
      refine List.pairwise_map.2 (hd.gt.imp (fun {a b} hab e => ?_))
      have ha := (mulT (show s < T by omega) a).2
      have hb := (mulT (show s < T by omega) b).2
      rw [e, hb] at ha
      omega
    · have h1 := (hm x hx).2
      have h2 := (i2 y hy).2
      intro e
      subst e
      omega
    · rcases List.mem_append.1 hx with hx | hx
      · have := hm x hx
        omega
      · have := i2 x hx
        omega
def ofB (T N : Nat) (c : List Int) (q : Nat → List Int) : List Int := putA T (many T N c) q 0 T
structure OfB (T N : Nat) (c : List Int) (q : Nat → List Int) (B : List Int) : Prop where
  db : DB B
  run : ∀ k, k < T → run T (k : Int) B = pad (many T N c k) (q k)
theorem ofB_of {T : Nat} (ht : 0 < T) (N : Nat) (c : List Int) {q : Nat → List Int} (hq : ∀ k, k < T → DR (q k)) : OfB T N c q (dsort (ofB T N c q)) := by
  obtain ⟨h1, h2⟩ := putA_nodup T (many T N c) q hq T 0 (by omega)
  have hd : DB (dsort (ofB T N c q)) := dsort_db h1 (fun x hx => (h2 x hx).1)
  refine ⟨hd, fun k hk => DB.eq (run_db (by omega) hd) (pad_db (hq k hk) _) ?_⟩
  refine (run_perm (dsort_perm _)).trans ?_
  unfold ofB
  rw [run_putA T _ q k T 0 (by omega), if_pos (by omega)]
theorem res_perm {t : Int} {a b : List Int} (h : ∀ k, (run t k a).length = (run t k b).length) : (a.map (· % t)).Perm (b.map (· % t)) := by
  refine List.perm_iff_count.2 fun k => ?_
  have := h k
  unfold run at this
  rw [List.length_map, List.length_map, ← List.countP_eq_length_filter, ← List.countP_eq_length_filter] at this
  rw [List.count_eq_countP, List.count_eq_countP, List.countP_map, List.countP_map]
  refine Eq.trans (List.countP_congr fun y _ => ?_) (this.trans (List.countP_congr fun y _ => ?_))
  · simp [Function.comp]
  · simp [Function.comp]
theorem run_none {T : Nat} (ht : 0 < T) {k : Int} (h : ¬ (0 ≤ k ∧ k < T)) (b : List Int) : run T k b = [] := by
  unfold run
  rw [List.map_eq_nil_iff, List.filter_eq_nil_iff]
  intro x _ hx
  rw [decide_eq_true_eq] at hx
  have h0 := Int.emod_nonneg x (show (T : Int) ≠ 0 by omega)
  have h1 := Int.emod_lt_of_pos x (show (0 : Int) < T by omega)
  omega
theorem OfB.many_eq {T N : Nat} {c : List Int} {q : Nat → List Int} {B : List Int} (ht : 0 < T) (h : OfB T N c q B) (hm : ∀ k, k < T → (q k).length ≤ many T N c k) : ∀ k : Int, (Pure.run T k B).length = (Pure.run T k (pad N c)).length := fun k => by
  by_cases hk : 0 ≤ k ∧ k < T
  · have := h.run k.toNat (by omega)
    rw [show ((k.toNat : Nat) : Int) = k by omega] at this
    rw [this, pad_length (hm _ (by omega))]
    unfold many
    rw [show ((k.toNat : Nat) : Int) = k by omega]
  · rw [run_none ht hk, run_none ht hk]
theorem OfB.length {T N : Nat} {c : List Int} {q : Nat → List Int} {B : List Int} (ht : 0 < T) (hN : c.length ≤ N) (h : OfB T N c q B) (hm : ∀ k, k < T → (q k).length ≤ many T N c k) : B.length = N := by
  have := (res_perm (h.many_eq ht hm)).length_eq
  rw [List.length_map, List.length_map, pad_length hN] at this
  exact this
/-- With more rows of no blocks it is the same shape. -/
theorem many_ups {T N : Nat} {c : List Int} (ht : 0 < T) (hc : DR c) (hN : c.length ≤ N) (a : Nat) {k : Nat} (hk : k < T) : many T (N + a * T) c k = many T N c k + a := by
  unfold many
  rw [run_pads ht (by omega) (by omega) hc hN, ups_length]
theorem run_upsN {T : Nat} {k : Int} {b : List Int} (ht : 0 < T) (h0 : 0 ≤ k) (hk : k < T) (hb : DB b) : ∀ a, run T k (ups (a * T) b) = ups a (run T k b)
  | 0 => by rw [Nat.zero_mul]; rfl
  | a + 1 => by
    have e : ∀ x y, ups (x + y) b = ups y (ups x b) := fun x y => by
      induction y with
      | zero => rfl
      | succ y ih => rw [← Nat.add_assoc]; show up (ups (x + y) b) = up (ups y (ups x b)); rw [ih]
    rw [Nat.succ_mul, e, run_ups ht h0 hk (ups_db hb _), run_upsN ht h0 hk hb a]
    rfl
theorem OfB.more {T N : Nat} {c : List Int} {q : Nat → List Int} {B B' : List Int} (ht : 0 < T) (hc : DR c) (hN : c.length ≤ N) (a : Nat) (h : OfB T N c q B) (h' : OfB T (N + a * T) c q B') (hm : ∀ k, k < T → (q k).length ≤ many T N c k) : shB B' = shB B := by
  have : B' = ups (a * T) B := run_ext (t := T) (by omega) h'.db (ups_db h.db _) fun k h0 hk => by
    have h1 := h'.run k.toNat (by omega)
    have h2 := h.run k.toNat (by omega)
    rw [show ((k.toNat : Nat) : Int) = k by omega] at h1 h2
    rw [h1, run_upsN ht h0 hk h.db, h2, many_ups ht hc hN a (by omega), pad_ups (hm _ (by omega))]
  rw [this, shB_ups]
/-- A core has beads enough on every wire. -/
theorem many_ge {T N : Nat} {c : List Int} (h2 : 2 ≤ T) (h6 : T ≤ 6) (hc : DR c) (a : Nat) (hN : c.length ≤ N) (hT : N % T = 0) (ha : c.length + T + a * T ≤ N + 1) {k : Nat} (hk : k < T) : a ≤ many T N c k := by
  obtain ⟨m, e⟩ := ceil_eq (n := c.length) h2 h6 hT hN
  have hce := ceil_of (n := c.length) h2 h6
  have h3 := hce.eq
  have h4 := hce.lt
  rw [e, many_ups (by omega) hc (by omega) m hk]
  have : a ≤ m := by
    rcases Nat.lt_or_ge m a with h | h
    · have := Nat.mul_le_mul_right T (show m + 1 ≤ a from h)
      rw [Nat.succ_mul] at this
      omega
    · exact h
  omega
/-! ### back and there -/
theorem back_of {T N : Nat} {l c : List Int} {n : Int} (h2 : 2 ≤ T) (h6 : T ≤ 6) (hs : Shp l) (hN : l.length ≤ N) (hT : N % T = 0) (h : CoreOf T N l c n) : ∀ k, k < T → ((quo T l).getD k []).length ≤ many T N c k ∧ run T (k : Int) (pad N l) = pad (many T N c k) ((quo T l).getD k []) := fun k hk => by
  have hq : (quo T l).getD k [] = shB (run T (k : Int) (pad N l)) := by
    rw [quo_at hs h2 h6 hN hT, List.getD_eq_getElem?_getD, List.getElem?_map, List.getElem?_eq_getElem (by rw [wireS_length]; exact hk), wireS_get]
    rfl
  have hd : DB (run T (k : Int) (pad N l)) := run_db (by omega) (pad_db hs.dr N)
  have hm : many T N c k = (run T (k : Int) (pad N l)).length := h.run k
  rw [hq, hm]
  exact ⟨shB_length _, hd.pad_shB.symm⟩
theorem len_le_sum : ∀ {l : List Int}, (∀ x ∈ l, 1 ≤ x) → (l.length : Int) ≤ l.sum
  | [], _ => Int.le_refl _
  | x :: xs, h => by
    have h1 := h x List.mem_cons_self
    have h2 := len_le_sum (fun y hy => h y (List.mem_cons_of_mem _ hy))
    rw [List.length_cons, List.sum_cons]
    omega
theorem quo_shp {T : Nat} {l : List Int} (h2 : 2 ≤ T) (h6 : T ≤ 6) (hs : Shp l) : ∀ k, k < T → Shp ((quo T l).getD k []) := fun k hk => by
  obtain ⟨N, hNe⟩ : ∃ N, N = ceil T l.length := ⟨_, rfl⟩
  have hce := ceil_of (n := l.length) h2 h6
  have hT : N % T = 0 := by rw [hNe, hce.eq]; exact hce.dv
  have hN : l.length ≤ N := by rw [hNe, hce.eq]; omega
  have hc := core_of (show (0 : Int) < T by omega) hs hN
  have hb := back_of h2 h6 hs hN hT hc
  have hq : ∀ j, j < T → (quo T l).getD j [] = shB (run T (j : Int) (pad N l)) := fun j hj => by
    rw [quo_at hs h2 h6 hN hT, List.getD_eq_getElem?_getD, List.getElem?_map, List.getElem?_eq_getElem (by rw [wireS_length]; exact hj), wireS_get]
    rfl
  have hdr : ∀ j, j < T → DR ((quo T l).getD j []) := fun j hj => by
    rw [hq j hj]
    exact (run_db (by omega) (pad_db hs.dr N)).shB_dr
  have hnn : ∀ j, j < T → 0 ≤ ((quo T l).getD j []).sum := fun j hj => (mem_le_sum (hdr j hj).nn).1
  have hsum := strips_sum (q := fun k => (quo T l).getD k []) (by omega) hc hN hb
  have hle : ((quo T l).getD k []).sum ≤ (core T l).2 := by
    rw [hsum]
    clear hsum hb hc
    have : ∀ n s, s + n ≤ T → s ≤ k → k < s + n → ((quo T l).getD k []).sum ≤ ((List.range' s n).map fun k => ((quo T l).getD k []).sum).sum := by
      intro n
      induction n with
      | zero => intro s _ h1 h2; omega
      | succ n ih =>
        intro s hs1 h1 h2
        rw [range'_succ', List.map_cons, List.sum_cons]
        have hrest : 0 ≤ ((List.range' (s + 1) n).map fun k => ((quo T l).getD k []).sum).sum := by
          refine (mem_le_sum fun x hx => ?_).1
          obtain ⟨j, hj, rfl⟩ := List.mem_map.1 hx
          rw [List.mem_range'_1] at hj
          exact hnn j (by omega)
        by_cases h3 : s = k
        · subst h3
          omega
        · have := ih (s + 1) (by omega) (by omega) (by omega)
          have := hnn s (by omega)
          omega
    exact this T 0 (by omega) (by omega) (by omega)
  have h40 : T * (core T l).2 ≤ 40 := by
    have h1 := core_sum (show (0 : Int) < T by omega) hs
    have h3 := shp_sum0 hc.shp
    have h4 := hs.sum
    omega
  have h20 : (core T l).2 ≤ 20 := by
    rcases Int.lt_or_le 20 (core T l).2 with h | h
    · have := Int.mul_le_mul (show (2 : Int) ≤ T by omega) (show (21 : Int) ≤ (core T l).2 by omega) (by omega) (by omega)
      omega
    · exact h
  have hlen : ((quo T l).getD k []).length ≤ 12 := by
    have h1 : ((quo T l).getD k []).length ≤ N := by
      have h3 := run_length_le (T : Int) (k : Int) (pad N l)
      rw [pad_length hN] at h3
      rw [hq k hk]
      exact Nat.le_trans (shB_length _) h3
    have hlt := hce.lt
    have hl := hs.len
    have heq := hce.eq
    rcases Nat.lt_or_ge T 4 with h4 | h4
    · rcases (show T = 2 ∨ T = 3 by omega) with e | e
      · subst e
        omega
      · subst e
        omega
    · have h5 : ((quo T l).getD k []).length ≤ ((quo T l).getD k []).sum := len_le_sum fun x hx => by
        rw [hq k hk] at hx
        exact shB_pos _ x hx
      have h6 : (core T l).2 ≤ 10 := by
        rcases Int.lt_or_le 10 (core T l).2 with h | h
        · have := Int.mul_le_mul (show (4 : Int) ≤ T by omega) (show (11 : Int) ≤ (core T l).2 by omega) (by omega) (by omega)
          omega
        · exact h
      omega
  refine shp_of hlen (hdr k hk) (fun x hx => ?_) (by omega)
  rw [hq k hk] at hx
  exact shB_pos _ x hx
/-- A core and a quotient: the shape that is put together has both. -/
structure Of (T : Nat) (c : List Int) (q : Nat → List Int) : Prop where
  core : Shp c
  nil : strp T c = []
  quo : ∀ k, k < T → Shp (q k)
theorem there_of {T N : Nat} {c : List Int} {q : Nat → List Int} {B : List Int} (h2 : 2 ≤ T) (h6 : T ≤ 6) (h : Of T c q) (hN : c.length ≤ N) (hT : N % T = 0) (hm : ∀ k, k < T → (q k).length ≤ many T N c k) (hB : OfB T N c q B) (hs : Shp (shB B)) : (core T (shB B)).1 = c ∧ (∀ k, k < T → (quo T (shB B)).getD k [] = q k) ∧ (core T (shB B)).2 = ((List.range' 0 T).map fun k => (q k).sum).sum := by
  have hlen := hB.length (by omega) hN hm
  have hl : (shB B).length ≤ N := by have := shB_length B; omega
  have hp : pad N (shB B) = B := by rw [← hlen]; exact hB.db.pad_shB
  have c1 := core_of (show (0 : Int) < T by omega) hs hl
  have c2 := core_of (show (0 : Int) < T by omega) h.core hN
  have e : (core T (shB B)).1 = c := by
    have := core_unique (show (0 : Int) < T by omega) hl hN c1 c2 (fun k _ _ => by rw [hp]; exact hB.many_eq (by omega) hm k)
    rw [this, core_nil h.nil]
  refine ⟨e, fun k hk => ?_, ?_⟩
  · rw [quo_at hs h2 h6 hl hT, List.getD_eq_getElem?_getD, List.getElem?_map, List.getElem?_eq_getElem (by rw [wireS_length]; exact hk), wireS_get, hp, hB.run k hk]
    exact shB_of_pad (shp_pos (h.quo k hk)) _
  · rw [e] at c1
    exact strips_sum (by omega) c1 hl (fun k hk => ⟨hm k hk, by rw [hp]; exact hB.run k hk⟩)
theorem back_eq {T N : Nat} {l : List Int} {B : List Int} (h2 : 2 ≤ T) (h6 : T ≤ 6) (hs : Shp l) (hN : l.length ≤ N) (hT : N % T = 0) (hB : OfB T N (core T l).1 (fun k => (quo T l).getD k []) B) : shB B = l := by
  have hb := back_of h2 h6 hs hN hT (core_of (show (0 : Int) < T by omega) hs hN)
  have : B = pad N l := run_ext (t := T) (by omega) hB.db (pad_db hs.dr N) fun k h0 hk => by
    have h1 := hB.run k.toNat (by omega)
    have h3 := (hb k.toNat (by omega)).2
    rw [show ((k.toNat : Nat) : Int) = k by omega] at h1 h3
    rw [h1, h3]
  rw [this, shB_of_pad (shp_pos hs)]
end Go.Proofs.Ytcmphfcpiciehaa.Pure
