/- The discs by the specification: the tally of the bends, and Discs. -/
import Derived.Test.YtlfmafebmnggeaaDTree
import Derived.Test.YtlfmafebmnggeaaDRootR
import Derived.Test.YtlfmafebmnggeaaPrintx32
namespace Go.Proofs.Ytlfmafebmnggeaa.Pure
open Go.RowKit Go.Proofs.Ytlfmafebmnggeaa.Print Go.Proofs.YtlfmafebmnggeaaW.PrintWords Go.Proofs.YtlfmafebmnggeaaW.PrintLast
set_option linter.unusedVariables false
set_option linter.unusedSimpArgs false
/-- A tally with the numbers of B added. -/
structure Ad (m : Int) (u v : List Int) (B : List Int) : Prop where
  len : v.length = u.length
  eq : ∀ x, 0 ≤ x → x ≤ m → rd v x = rd u x + (B.count x : Int)
theorem Ad.nil (m : Int) (u : List Int) : Ad m u u [] := ⟨rfl, fun x _ _ => by simp⟩
theorem Ad.trans {m : Int} {u v w B C : List Int} (h : Ad m u v B) (g : Ad m v w C) : Ad m u w (B ++ C) := by
  refine ⟨by rw [g.len, h.len], fun x h0 hm => ?_⟩
  rw [g.eq x h0 hm, h.eq x h0 hm, List.count_append]
  omega
theorem rd_setI (u : List Int) (t v x : Int) (ht : 0 ≤ t) (htl : t < u.length) (hx : 0 ≤ x) : rd (u.set t.toNat v) x = if x = t then v else rd u x := by
  unfold rd
  rw [List.getD_eq_getElem?_getD, List.getD_eq_getElem?_getD, List.getElem?_set]
  by_cases h : x = t
  · subst h
    rw [if_pos rfl, if_pos (by omega), if_pos rfl]
    rfl
  · rw [if_neg (by omega), if_neg h]
theorem Ad.one {m : Int} {u : List Int} {t : Int} (ht : 0 ≤ t) (htl : t < u.length) (v : Int) (hv : v = rd u t + 1) : Ad m u (u.set t.toNat v) [t] := by
  refine ⟨List.length_set, fun x h0 hm => ?_⟩
  rw [rd_setI u t v x ht htl h0, List.count_singleton]
  by_cases h : x = t
  · subst h; rw [if_pos rfl, hv]; simp
  · rw [if_neg h]
    have : (t == x) = false := by rw [beq_eq_false_iff_ne]; omega
    rw [this]; simp
/-- The numbers of a tally are small. -/
def Sm (m : Int) (u : List Int) (U : Int) : Prop := ∀ x, 0 ≤ x → x ≤ m → 0 ≤ rd u x ∧ rd u x ≤ U
theorem Ad.sm {m : Int} {u v B : List Int} {U : Int} (h : Ad m u v B) (hu : Sm m u U) : Sm m v (U + B.length) := by
  intro x h0 hm
  have := hu x h0 hm
  have := h.eq x h0 hm
  have : B.count x ≤ B.length := List.count_le_length
  omega
def TlP (K : Nat) (m : Int) (q : Q4) (i : Int) (T : List (Q4 × Int)) : Prop := ∀ (u : List Int) (U : Int), (u.length : Int) = m + 1 → Sm m u U → 0 ≤ U → U + T.length ≤ 4611686018427387904 → ∃ v, clocheref01_tally.f K q.a q.b q.c q.d i m u = some v ∧ Ad m u v (T.map bd)
theorem tally_step (T : Q4 → Int → List (Q4 × Int)) (K : Nat) (hK : 5 ≤ K) (m : Int) (q : Q4) (l i : Int) (hi : 0 ≤ i ∧ i < 4) (ha : InA q) (hG : Go1 q l) (u : List Int) (U : Int) (hu : (u.length : Int) = m + 1) (hU : Sm m u U) (h0 : 0 ≤ U) (hlen : U + (pc T m q l i).length ≤ 4611686018427387904)
    (H : i ≠ l → tn q i ≤ m → TlP K m (tq q i) i (T (tq q i) i)) :
    ∃ v, clocheref01_tally.l0 (K + 1) l m u i q.a q.b q.c q.d = clocheref01_tally.l0 K l m v (i + 1) q.a q.b q.c q.d ∧ Ad m u v ((pc T m q l i).map bd) := by
  have w1 : wrap64 (i + 1) = i + 1 := w64 (by omega) (by omega)
  rw [clocheref01_tally.l0, if_pos hi.2, RefTurned_f q i hi ha K hK, Option.bind_some, w1]
  clear w1
  unfold pc at *
  by_cases h1 : i = l
  · rw [if_pos h1]
    rw [if_pos (show i = l ∨ m < tn q i by omega)] at hlen ⊢
    exact ⟨u, rfl, Ad.nil m u⟩
  · rw [if_neg h1]
    by_cases h2 : tn q i ≤ m
    · rw [if_neg (show ¬ (i = l ∨ m < tn q i) by omega)] at hlen ⊢
      rw [List.length_cons] at hlen
      have hpos := (St.step hi hG.1 (hG.2 i hi h1)).2.2.2
      have hsm := hU (tn q i) (by omega) h2
      have w2 : wrap64 (rd u (tn q i) + 1) = rd u (tn q i) + 1 := w64 (by omega) (by omega)
      obtain ⟨e1, e2, e3, e4⟩ := pt4_tq q i hi (tn q i)
      have A1 : Ad m u (u.set (tn q i).toNat (wrap64 (rd u (tn q i) + 1))) [tn q i] := Ad.one (by omega) (by omega) _ w2
      have hsm2 := A1.sm hU
      obtain ⟨v, ev, Av⟩ := H h1 h2 _ (U + 1) (by rw [A1.len]; exact hu) (by simpa using hsm2) (by omega) (by omega)
      have hl2 : tn q i < (u.length : Int) := by omega
      rw [if_neg (show ¬ tn q i > m by omega), if_pos (show 0 ≤ tn q i by omega), if_pos hl2, if_pos hi.1, e1, e2, e3, e4]
      have ev' : clocheref01_tally.f K (q.put i (tn q i)).a (q.put i (tn q i)).b (q.put i (tn q i)).c (q.put i (tn q i)).d i m (u.set (tn q i).toNat (wrap64 (rd u (tn q i) + 1))) = some v := ev
      rw [ev', Option.bind_some]
      refine ⟨v, rfl, ?_⟩
      have := A1.trans Av
      rw [List.map_cons]
      have eb : bd (tq q i, i) = tn q i := tq_at q i hi
      rw [eb]
      exact this
    · rw [if_pos (by omega)]
      rw [if_pos (show i = l ∨ m < tn q i by omega)] at hlen ⊢
      exact ⟨u, rfl, Ad.nil m u⟩
theorem tally_all (g K : Nat) (hK : 5 ≤ K) (m : Int) (q : Q4) (l : Int) (ha : InA q) (hG : Go1 q l)
    (H : ∀ K', K ≤ K' → ∀ i, (0 ≤ i ∧ i < 4) → i ≠ l → tn q i ≤ m → TlP K' m (tq q i) i (tr g m (tq q i) i)) : TlP (K + 6) m q l (tr (g + 1) m q l) := by
  intro u U hu hU h0 hlen
  rw [tr, List.length_append, List.length_append, List.length_append] at hlen
  rw [clocheref01_tally.f]
  obtain ⟨v0, e0, A0⟩ := tally_step (tr g m) (K + 4) (by omega) m q l 0 (by omega) ha hG u U hu hU h0 (by omega) (H (K + 4) (by omega) 0 (by omega))
  have s0 := A0.sm hU
  rw [List.length_map] at s0
  obtain ⟨v1, e1, A1⟩ := tally_step (tr g m) (K + 3) (by omega) m q l 1 (by omega) ha hG v0 _ (by rw [A0.len]; exact hu) s0 (by omega) (by omega) (H (K + 3) (by omega) 1 (by omega))
  have s1 := A1.sm s0
  rw [List.length_map] at s1
  obtain ⟨v2, e2, A2⟩ := tally_step (tr g m) (K + 2) (by omega) m q l 2 (by omega) ha hG v1 _ (by rw [A1.len, A0.len]; exact hu) s1 (by omega) (by omega) (H (K + 2) (by omega) 2 (by omega))
  have s2 := A2.sm s1
  rw [List.length_map] at s2
  obtain ⟨v3, e3, A3⟩ := tally_step (tr g m) (K + 1) (by omega) m q l 3 (by omega) ha hG v2 _ (by rw [A2.len, A1.len, A0.len]; exact hu) s2 (by omega) (by omega) (H (K + 1) (by omega) 3 (by omega))
  refine ⟨v3, ?_, ?_⟩
  · rw [e0, show (0 : Int) + 1 = 1 from rfl, e1, show (1 : Int) + 1 = 2 from rfl, e2, show (2 : Int) + 1 = 3 from rfl, e3, show (3 : Int) + 1 = 4 from rfl, clocheref01_tally.l0, if_neg (by decide)]
  · rw [tr, List.map_append, List.map_append, List.map_append]
    exact A0.trans (A1.trans (A2.trans A3))
theorem tally_f (m : Int) (hm : m ≤ 3000) : ∀ (g : Nat) (q : Q4) (l : Int), St q l → q.at l ≤ m → 6001 ≤ sm q + g → ∀ K, 6 * g + 10 ≤ K → TlP K m q l (tr g m q l) := by
  intro g
  induction g with
  | zero =>
    intro q l hs hl hg
    have := (hs.box m hm hl).2.1
    omega
  | succ g ih =>
    intro q l hs hl hg K hK
    obtain ⟨K, rfl⟩ : ∃ j, K = j + 6 := ⟨K - 6, by omega⟩
    refine tally_all g K (by omega) m q l (hs.box m hm hl).1.inA hs.go1 ?_
    intro K' hK' i hi hil him
    have si := St.step hi hs.pos (hs.go1.2 i hi hil)
    have := si.2.2.1 (hs.oth i hi hil)
    exact ih _ _ si.1 (by rw [tq_at q i hi]; exact him) (by omega) K' (by omega)
theorem tally_root {r : Q4} (h : IsRt r) (h0 : r.a ≠ 0) (m : Int) (hm : m ≤ 3000) (K : Nat) (hK : 50000 ≤ K) : TlP K m r (-1) (tr 6001 m r (-1)) := by
  have hg := (root_go h h0).1
  obtain ⟨K, rfl⟩ : ∃ j, K = j + 6 := ⟨K - 6, by omega⟩
  refine tally_all 6000 K (by omega) m r (-1) h.1.inA hg ?_
  intro K' hK' i hi hil him
  have si := St.step hi hg.1 (hg.2 i hi hil)
  have := h.1.sum_pos
  exact tally_f m hm 6000 _ _ si.1 (by rw [tq_at r i hi]; exact him) (by omega) K' (by omega)
/-! ### the bends, one behind the other -/
def bk (B : List Int) : Nat → List Int
  | 0 => []
  | n + 1 => bk B n ++ List.replicate (B.count (n : Int)) (n : Int)
theorem bk_lt (B : List Int) (n : Nat) : ∀ x ∈ bk B n, 0 ≤ x ∧ x < n := by
  induction n with
  | zero => intro x h; cases h
  | succ n ih =>
    intro x h
    rw [bk, List.mem_append, List.mem_replicate] at h
    rcases h with h | ⟨_, rfl⟩
    · have := ih x h; omega
    · omega
theorem bk_sorted (B : List Int) (n : Nat) : (bk B n).Pairwise (· ≤ ·) := by
  induction n with
  | zero => exact List.Pairwise.nil
  | succ n ih =>
    rw [bk, List.pairwise_append]
    refine ⟨ih, ?_, ?_⟩
    · rw [List.pairwise_replicate]; right; exact Int.le_refl _
    · intro x hx y hy
      rw [List.mem_replicate] at hy
      have := bk_lt B n x hx
      omega
theorem bk_count (B : List Int) (n : Nat) (x : Int) : (bk B n).count x = if 0 ≤ x ∧ x < n then B.count x else 0 := by
  induction n with
  | zero => rw [if_neg (by omega)]; rfl
  | succ n ih =>
    rw [bk, List.count_append, ih, List.count_replicate]
    by_cases h : x = n
    · subst h
      rw [if_neg (by omega), if_pos (by simp), if_pos (by omega), Nat.zero_add]
    · have e : ((n : Int) == x) = false := by rw [beq_eq_false_iff_ne]; omega
      rw [if_neg (show ¬ ((n : Int) == x) = true by rw [e]; decide), Nat.add_zero]
      by_cases h2 : 0 ≤ x ∧ x < n
      · rw [if_pos h2, if_pos (by omega)]
      · rw [if_neg h2, if_neg (by omega)]
theorem bk_perm (B : List Int) (n : Nat) : (bk B n).Perm (B.filter fun x => decide (0 ≤ x ∧ x < n)) := by
  rw [List.perm_iff_count]
  intro x
  rw [bk_count]
  by_cases hx : 0 ≤ x ∧ x < n
  · rw [if_pos hx, List.count_filter (by simpa using hx)]
  · rw [if_neg hx, List.count_eq_zero_of_not_mem fun hm => hx (by simpa using (List.mem_filter.1 hm).2)]
theorem bk_all (B : List Int) (n : Nat) (h : ∀ x ∈ B, 0 ≤ x ∧ x < n) : (bk B n).Perm B := by
  have := bk_perm B n
  rwa [List.filter_eq_self.2 fun x hx => by simpa using h x hx] at this
theorem bk_len (B : List Int) (n : Nat) : (bk B n).length ≤ B.length := by
  rw [(bk_perm B n).length_eq]
  exact List.length_filter_le _ _
/-- The numbers of a tally. -/
def Ct (m : Int) (v B : List Int) : Prop := (v.length : Int) = m + 1 ∧ ∀ x, 0 ≤ x → x ≤ m → rd v x = (B.count x : Int)
theorem discs_l1 (m : Int) (hm : m ≤ 3000) (v B out : List Int) (hv : Ct m v B) (hB : B.length ≤ 9000000000000000) (ho : out.length ≤ 4) : ∀ (d i : Nat), (i : Int) + d = m + 1 → ∀ K, d + 1 ≤ K →
    clocheref01_Discs.l1 K m v out ((out.length + (bk B i).length : Nat) : Int) (i : Int) = if 20000 < out.length + (bk B (m + 1).toNat).length then some ([], 8) else clocheref01_Discs.l2 (K - (d + 1)) m v out 0 := by
  intro d
  induction d with
  | zero =>
    intro i hd K hK
    obtain ⟨K, rfl⟩ : ∃ j, K = j + 1 := ⟨K - 1, by omega⟩
    rw [clocheref01_Discs.l1, if_neg (by omega), show (m + 1).toNat = i by omega]
    by_cases h : 20000 < out.length + (bk B i).length
    · rw [if_pos (by omega), if_pos h]
    · rw [if_neg (by omega), if_neg h]; rfl
  | succ d ih =>
    intro i hd K hK
    obtain ⟨K, rfl⟩ : ∃ j, K = j + 1 := ⟨K - 1, by omega⟩
    have hl := bk_len B i
    have hl2 := bk_len B (i + 1)
    have hc : B.count (i : Int) ≤ B.length := List.count_le_length
    have e1 : wrap64 (((out.length + (bk B i).length : Nat) : Int) + rd v (i : Int)) = ((out.length + (bk B (i + 1)).length : Nat) : Int) := by
      rw [hv.2 i (by omega) (by omega), bk, List.length_append, List.length_replicate, w64 (by omega) (by omega)]
      omega
    have e2 : wrap64 ((i : Int) + 1) = ((i + 1 : Nat) : Int) := by rw [w64 (by omega) (by omega)]; omega
    have hvl := hv.1
    rw [clocheref01_Discs.l1, e1, e2]
    clear e1 e2
    rw [if_pos (by omega), if_pos (by omega), if_pos (by omega), ih (i + 1) (by omega) K (by omega), show K + 1 - (d + 1 + 1) = K - (d + 1) by omega]
theorem discs_l3 (m : Int) (hm : m ≤ 3000) (v B : List Int) (hv : Ct m v B) (i : Nat) (hi : (i : Int) ≤ m) : ∀ (d j : Nat), j + d = B.count (i : Int) → j + d ≤ 100000 → ∀ (out : List Int), out.length + d ≤ 100000 → ∀ K, d + 1 ≤ K →
    clocheref01_Discs.l3 K m v out (i : Int) (j : Int) = clocheref01_Discs.l2 (K - (d + 1)) m v (out ++ List.replicate d (i : Int)) ((i + 1 : Nat) : Int) := by
  have hvl := hv.1
  intro d
  induction d with
  | zero =>
    intro j hd hj out ho K hK
    obtain ⟨K, rfl⟩ : ∃ j, K = j + 1 := ⟨K - 1, by omega⟩
    have e2 : wrap64 ((i : Int) + 1) = ((i + 1 : Nat) : Int) := by rw [w64 (by omega) (by omega)]; omega
    rw [clocheref01_Discs.l3, e2]
    clear e2
    rw [if_pos (by omega), if_pos (by omega), hv.2 i (by omega) (by omega), if_neg (by omega)]
    simp
  | succ d ih =>
    intro j hd hj out ho K hK
    obtain ⟨K, rfl⟩ : ∃ j, K = j + 1 := ⟨K - 1, by omega⟩
    have e3 : wrap64 ((j : Int) + 1) = ((j + 1 : Nat) : Int) := by
      rw [w64 (by omega) (by omega)]
      omega
    rw [clocheref01_Discs.l3, e3]
    clear e3
    rw [if_pos (by omega), if_pos (by omega), hv.2 i (by omega) (by omega), if_pos (by omega), if_pos (by omega),
      ih (j + 1) (by omega) (by omega) (out ++ [(i : Int)]) (by rw [List.length_append, List.length_singleton]; omega) K (by omega), List.append_assoc, show K + 1 - (d + 1 + 1) = K - (d + 1) by omega]
    rfl
theorem discs_l2 (m : Int) (hm : m ≤ 3000) (v B out : List Int) (hv : Ct m v B) (hB : B.length ≤ 20000) (ho : out.length ≤ 4) : ∀ (d i : Nat), (i : Int) + d = m + 1 → ∀ K, 30000 * (d + 1) ≤ K →
    clocheref01_Discs.l2 K m v (out ++ bk B i) (i : Int) = some (out ++ bk B (m + 1).toNat, 0) := by
  intro d
  induction d with
  | zero =>
    intro i hd K hK
    obtain ⟨K, rfl⟩ : ∃ j, K = j + 1 := ⟨K - 1, by omega⟩
    rw [clocheref01_Discs.l2, if_neg (by omega), show (m + 1).toNat = i by omega]
  | succ d ih =>
    intro i hd K hK
    obtain ⟨K, rfl⟩ : ∃ j, K = j + 1 := ⟨K - 1, by omega⟩
    have hc : B.count (i : Int) ≤ B.length := List.count_le_length
    have hl := bk_len B i
    have h3 := discs_l3 m hm v B hv i (by omega) (B.count (i : Int)) 0 (Nat.zero_add _) (by omega) (out ++ bk B i) (by rw [List.length_append]; omega) K (by omega)
    rw [clocheref01_Discs.l2, if_pos (by omega)]
    have h3' : clocheref01_Discs.l3 K m v (out ++ bk B i) (i : Int) 0 = _ := h3
    rw [h3', List.append_assoc]
    exact ih (i + 1) (by omega) _ (by omega)
def RB1 (m x : Int) : List Int := if x ≤ m then [x] else []
/-- One bend of the root. -/
theorem discs_l0 (K : Nat) (m : Int) (hm : m ≤ 3000) (r : Q4) (i : Int) (hi : 0 ≤ i ∧ i < 4) (hp : 0 ≤ r.at i) (u out : List Int) (U : Int) (hu : (u.length : Int) = m + 1) (hU : Sm m u U) (h0 : 0 ≤ U) (hlen : U ≤ 4611686018427387904) :
    ∃ v, clocheref01_Discs.l0 (K + 1) m u out i r.a r.b r.c r.d = clocheref01_Discs.l0 K m v out (i + 1) r.a r.b r.c r.d ∧ Ad m u v (RB1 m (r.at i)) := by
  have w1 : wrap64 (i + 1) = i + 1 := w64 (by omega) (by omega)
  rw [clocheref01_Discs.l0, if_pos hi.2, if_pos hi.1, at4_at, w1]
  clear w1
  unfold RB1
  rw [if_neg (by omega)]
  by_cases h : r.at i ≤ m
  · have hsm := hU (r.at i) hp h
    have w2 : wrap64 (rd u (r.at i) + 1) = rd u (r.at i) + 1 := w64 (by omega) (by omega)
    rw [if_pos h, if_pos h, if_pos hp, if_pos (by omega)]
    exact ⟨_, rfl, Ad.one hp (by omega) _ w2⟩
  · rw [if_neg h, if_neg h]
    exact ⟨u, rfl, Ad.nil m u⟩
theorem startD_eq (m : Int) (r : Q4) (h : r.a ≤ m) : startD m r = r.a :: (RB1 m r.b ++ (RB1 m r.c ++ RB1 m r.d)) := by
  unfold startD RB1
  rw [List.filter_cons_of_pos (by simpa using h)]
  congr 1
  simp only [List.filter_cons, List.filter_nil, decide_eq_true_eq]
  repeat' split
  all_goals rfl
theorem RB1_in (m x : Int) (hx : 0 ≤ x) : ∀ y ∈ RB1 m x, 0 ≤ y ∧ y ≤ m := by
  intro y hy
  unfold RB1 at hy
  split at hy
  · rw [List.mem_singleton] at hy; omega
  · cases hy
theorem RB1_len (m x : Int) : (RB1 m x).length ≤ 1 := by
  unfold RB1
  split <;> simp
theorem ref_discs {r : Q4} (hr : IsRt r) (h0 : r.a ≠ 0) (m : Int) (h1 : 1 ≤ m) (hm : m ≤ 3000) (K : Nat) (hK : 200000000 ≤ K) :
    clocheref01_Discs.j3 K m 0 r.a r.b r.c r.d = some (if 20000 < (DL m r).length then ([], 8) else (isort (DL m r), 0)) := by
  obtain ⟨K, rfl⟩ : ∃ j, K = j + 1 := ⟨K - 1, by omega⟩
  have hg := root_go hr h0
  have hs := hr.2.1
  unfold Srt at hs
  obtain ⟨SX, hSX⟩ : ∃ SX, SX = (tr 6001 m r (-1)).map bd := ⟨_, rfl⟩
  have hT := tr_len m hm 6001 r (-1) hg.1
  have hSl : SX.length ≤ 4 * 1296864216024001 := by rw [hSX, List.length_map]; exact hT
  have hSin : ∀ x ∈ SX, 0 ≤ x ∧ x ≤ m := by
    intro x hx
    rw [hSX, List.mem_map] at hx
    obtain ⟨p, hp, rfl⟩ := hx
    have := tr_st m 6001 r (-1) hg.1 p hp
    have hb := this.1.box m hm this.2
    have ht := this.1.top
    have := this.2
    unfold bd
    omega
  have wm : wrap64 (m + 1) = m + 1 := w64 (by omega) (by omega)
  have hrep : ∀ x, 0 ≤ x → x ≤ m → rd (List.replicate (m + 1).toNat (0 : Int)) x = 0 := by
    intro x hx hxm
    unfold rd
    rw [List.getD_eq_getElem?_getD, List.getElem?_replicate, if_pos (by omega)]
    rfl
  obtain ⟨v0, e0, A0⟩ := tally_root hr h0 m hm K (by omega) (List.replicate (m + 1).toNat 0) 0 (by rw [List.length_replicate]; omega) (fun x hx hxm => by rw [hrep x hx hxm]; omega) (by omega) (by omega)
  rw [← hSX] at A0
  have l0 : (v0.length : Int) = m + 1 := by rw [A0.len, List.length_replicate]; omega
  have s0 : Sm m v0 (SX.length : Int) := by
    have := A0.sm (U := 0) (fun x hx hxm => by rw [hrep x hx hxm]; omega)
    rwa [Int.zero_add] at this
  rw [clocheref01_Discs.j3, if_pos rfl, wm]
  clear wm
  rw [if_pos (by omega), if_pos (by omega), e0, Option.bind_some]
  obtain ⟨K, rfl⟩ : ∃ j, K = j + 5 := ⟨K - 5, by omega⟩
  have ea : r.at 0 = r.a := rfl
  have eb : r.at 1 = r.b := rfl
  have ec : r.at 2 = r.c := rfl
  have ed : r.at 3 = r.d := rfl
  have w0 : wrap64 ((0 : Int) + 1) = 1 := w64 (by omega) (by omega)
  rw [clocheref01_Discs.l0, if_pos (by decide), if_pos (by decide), at4_at, ea, w0, if_pos hg.2.1, if_pos (by simp), List.nil_append]
  clear w0
  obtain ⟨v1, e1, A1⟩ := discs_l0 (K + 3) m hm r 1 (by omega) (by rw [eb]; omega) v0 [r.a] _ l0 s0 (by omega) (by omega)
  have s1 := A1.sm s0
  have g1 := RB1_len m (r.at 1)
  obtain ⟨v2, e2, A2⟩ := discs_l0 (K + 2) m hm r 2 (by omega) (by rw [ec]; omega) v1 [r.a] _ (by rw [A1.len]; exact l0) s1 (by omega) (by omega)
  have s2 := A2.sm s1
  have g2 := RB1_len m (r.at 2)
  obtain ⟨v3, e3, A3⟩ := discs_l0 (K + 1) m hm r 3 (by omega) (by rw [ed]; omega) v2 [r.a] _ (by rw [A2.len, A1.len]; exact l0) s2 (by omega) (by omega)
  have g3 := RB1_len m (r.at 3)
  rw [e1, show (1 : Int) + 1 = 2 from rfl, e2, show (2 : Int) + 1 = 3 from rfl, e3, show (3 : Int) + 1 = 4 from rfl, clocheref01_Discs.l0, if_neg (by decide)]
  have AA := A0.trans (A1.trans (A2.trans A3))
  rw [eb, ec, ed] at AA
  rw [eb] at g1
  rw [ec] at g2
  rw [ed] at g3
  obtain ⟨B, hB⟩ : ∃ B, B = SX ++ (RB1 m r.b ++ (RB1 m r.c ++ RB1 m r.d)) := ⟨_, rfl⟩
  rw [← hB] at AA
  have hct : Ct m v3 B := by
    refine ⟨by rw [A3.len, A2.len, A1.len]; exact l0, fun x hx hxm => ?_⟩
    rw [AA.eq x hx hxm, hrep x hx hxm, Int.zero_add]
  have hBl : B.length ≤ 4 * 1296864216024001 + 3 := by
    rw [hB, List.length_append, List.length_append, List.length_append]
    omega
  have hBin : ∀ x ∈ B, 0 ≤ x ∧ x < ((m + 1).toNat : Int) := by
    intro x hx
    rw [hB, List.mem_append, List.mem_append, List.mem_append] at hx
    rcases hx with hx | hx | hx | hx
    · have := hSin x hx; omega
    · have := RB1_in m r.b (by omega) x hx; omega
    · have := RB1_in m r.c (by omega) x hx; omega
    · have := RB1_in m r.d (by omega) x hx; omega
  have hperm := bk_all B (m + 1).toNat hBin
  have hDL : (r.a :: B).Perm (DL m r) := by
    unfold DL
    rw [← hSX, startD_eq m r (by omega), hB, List.cons_append]
    exact List.Perm.cons _ List.perm_append_comm
  have hDl := hDL.length_eq
  rw [List.length_cons] at hDl
  have hpl := hperm.length_eq
  have h5 := discs_l1 m hm v3 B [r.a] hct (by omega) (by simp) (m + 1).toNat 0 (by omega) K (by omega)
  have h5' : clocheref01_Discs.l1 K m v3 [r.a] (([r.a] : List Int).length : Int) 0 = _ := h5
  rw [h5']
  simp only [List.length_singleton]
  by_cases hF : 20000 < (DL m r).length
  · rw [if_pos (by omega), if_pos hF]
  · rw [if_neg (by omega), if_neg hF]
    have h6 := discs_l2 m hm v3 B [r.a] hct (by omega) (by simp) (m + 1).toNat 0 (by omega) (K - ((m + 1).toNat + 1)) (by omega)
    have h6' : clocheref01_Discs.l2 (K - ((m + 1).toNat + 1)) m v3 [r.a] 0 = _ := h6
    rw [h6']
    congr 2
    refine List.Perm.eq_of_pairwise (fun a b _ _ => Int.le_antisymm) ?_ (isort_sorted _) ?_
    · rw [List.singleton_append, List.pairwise_cons]
      refine ⟨fun x hx => ?_, bk_sorted B _⟩
      have := bk_lt B _ x hx
      omega
    · exact (List.Perm.cons _ hperm).trans (hDL.trans (isort_perm _).symm)
theorem RefDiscs_f (q : Q4) (m : Int) (k : Nat) (hk : 40000000000000 ≤ k) : clocheref01_Discs.f k q.a q.b q.c q.d m = some (DiscsP q m) := by
  unfold clocheref01_Discs.f
  rw [RefRoot_f q k hk, Option.bind_some]
  obtain ⟨k, rfl⟩ : ∃ j, k = j + 3 := ⟨k - 3, by omega⟩
  unfold DiscsP
  by_cases hq : QQ q
  rotate_left
  · rw [RootP_n hq]
    simp only
    rw [if_neg (by decide), clocheref01_Discs.j0, if_neg (by decide), clocheref01_Discs.j1, if_neg (by decide), clocheref01_Discs.j2, if_neg (by decide)]
    obtain ⟨k, rfl⟩ : ∃ j, k = j + 1 := ⟨k - 1, by omega⟩
    rw [clocheref01_Discs.j3, if_neg (by decide), if_neg (fun h => hq h.1)]
  rw [RootP_q hq]
  simp only
  rw [if_pos trivial]
  have bad : clocheref01_Discs.j0 (k + 3) m 0 true (Rt q).a (Rt q).b (Rt q).c (Rt q).d = some ([], 2) := by
    obtain ⟨k, rfl⟩ : ∃ j, k = j + 1 := ⟨k - 1, by omega⟩
    rw [clocheref01_Discs.j0, if_pos rfl, clocheref01_Discs.j1, if_neg (by decide), clocheref01_Discs.j2, if_neg (by decide), clocheref01_Discs.j3, if_neg (by decide)]
  by_cases h1 : m < 1
  · rw [if_pos h1, bad, if_neg (by omega)]
  rw [if_neg h1]
  by_cases h2 : m > 3000
  · rw [decide_eq_true h2, bad, if_neg (by omega)]
  have hc : QQ q ∧ 1 ≤ m ∧ m ≤ 3000 := ⟨hq, by omega, by omega⟩
  rw [if_pos hc, decide_eq_false h2, clocheref01_Discs.j0, if_neg (by decide), clocheref01_Discs.j1, if_pos rfl, clocheref01_Discs.j2]
  by_cases h0 : (Rt q).a = 0
  · obtain ⟨k, rfl⟩ : ∃ j, k = j + 1 := ⟨k - 1, by omega⟩
    rw [if_pos h0, if_pos (show ((Rt q).a == 0) = true by simpa using h0), clocheref01_Discs.j3, if_neg (by decide)]
  · rw [if_neg h0, if_neg (show ¬ ((Rt q).a == 0) = true by simpa using h0), ref_discs (Rt_root hq) h0 m (by omega) (by omega) k (by omega)]
end Go.Proofs.Ytlfmafebmnggeaa.Pure
