/- DiscsPacked: the discs of a quad and of its root, their rests, fewer discs. -/
import Derived.Test.YtlfmafebmnggeaaDTree
import Derived.Test.YtlfmafebmnggeaaDRst
import Derived.Test.YtlfmafebmnggeaaDTurns
import Derived.Test.YtlfmafebmnggeaaDAlive
import Derived.Test.YtlfmafebmnggeaaPrintxp
namespace Go.Proofs.Ytlfmafebmnggeaa.Pure
open Go.RowKit Go.Proofs.Ytlfmafebmnggeaa.Print Go.Proofs.YtlfmafebmnggeaaW.PrintWords Go.Proofs.YtlfmafebmnggeaaW.PrintLast
set_option linter.unusedVariables false
set_option linter.unusedSimpArgs false
/-! ### a lesser most -/
theorem tn_gt {q : Q4} {l i : Int} (hq : St q l) (hi : 0 ≤ i ∧ i < 4) (hil : i ≠ l) : q.at l < tn q i := by
  have h := hq.oth i hi hil
  have hp := hq.pos
  have hl := hq.lo
  have hh := hq.hi
  have ht := hq.top
  rw [tn_sm]
  unfold Pos at hp
  unfold sm at *
  rcases four l ⟨hl, hh⟩ with e | e | e | e <;> subst e <;> rcases four i hi with e | e | e | e <;> subst e <;> first | exact absurd rfl hil | (simp [Q4.at] at h ht ⊢; omega)
theorem tr_gt (m : Int) : ∀ (g : Nat) (q : Q4) (l : Int), St q l → ∀ p ∈ tr g m q l, q.at l < bd p := by
  intro g
  induction g with
  | zero => intro q l _ p h; cases h
  | succ g ih =>
    intro q l hq p h
    obtain ⟨i, hi, h⟩ := mem_tr.1 h
    obtain ⟨h1, h2, h3⟩ := mem_pc h
    have hg := tn_gt hq hi h1
    have e : (tq q i).at i = tn q i := tq_at q i hi
    rcases h3 with rfl | h3
    · show q.at l < (tq q i).at i
      rw [e]; exact hg
    · have := ih _ _ (St.step hi hq.pos (hq.go1.2 i hi h1)).1 p h3
      omega
def le_ (k : Int) (p : Q4 × Int) : Bool := decide (bd p ≤ k)
theorem tr_less {m k : Int} (hk : k ≤ m) : ∀ (g : Nat) (q : Q4) (l : Int), Go1 q l → (tr g m q l).filter (le_ k) = tr g k q l := by
  intro g
  induction g with
  | zero => intro q l _; rfl
  | succ g ih =>
    intro q l hG
    have P : ∀ i, (0 ≤ i ∧ i < 4) → (pc (tr g m) m q l i).filter (le_ k) = pc (tr g k) k q l i := by
      intro i hi
      unfold pc
      by_cases h1 : i = l
      · rw [if_pos (.inl h1), if_pos (.inl h1)]; rfl
      · have hs := (St.step hi hG.1 (hG.2 i hi h1)).1
        have e : bd (tq q i, i) = tn q i := tq_at q i hi
        by_cases h2 : m < tn q i
        · rw [if_pos (.inr h2), if_pos (.inr (by omega))]; rfl
        · by_cases h3 : k < tn q i
          · rw [if_neg (by omega), if_pos (.inr h3), List.filter_cons_of_neg (by unfold le_; rw [e]; simpa using h3), List.filter_eq_nil_iff]
            intro p hp
            have := tr_gt m g _ _ hs p hp
            rw [tq_at q i hi] at this
            unfold le_
            simp only [decide_eq_true_eq]
            omega
          · rw [if_neg (by omega), if_neg (by omega), List.filter_cons_of_pos (by unfold le_; rw [e]; simpa using h3), ih _ _ hs.go1]
    rw [tr, tr, List.filter_append, List.filter_append, List.filter_append, P 0 (by omega), P 1 (by omega), P 2 (by omega), P 3 (by omega)]
theorem DL_less {m k : Int} (hk : k ≤ m) {r : Q4} (hG : Go1 r (-1)) : DL k r = (DL m r).filter fun x => decide (x ≤ k) := by
  unfold DL
  rw [List.filter_append]
  congr 1
  · unfold startD
    rw [List.filter_filter]
    congr 1
    funext x
    by_cases h : x ≤ k
    · simp [h]; omega
    · simp [h]
  · rw [← tr_less hk 6001 r (-1) hG, List.filter_map]
    rfl
/-! ### sorted rows -/
theorem sorted_take {k : Int} : ∀ (l : List Int), l.Pairwise (· ≤ ·) → l.filter (fun x => decide (x ≤ k)) = l.take (l.filter fun x => decide (x ≤ k)).length
  | [], _ => rfl
  | x :: l, h => by
    rw [List.pairwise_cons] at h
    by_cases hx : x ≤ k
    · rw [List.filter_cons_of_pos (by simpa using hx), List.length_cons, List.take_succ_cons, ← sorted_take l h.2]
    · have : l.filter (fun x => decide (x ≤ k)) = [] := by
        rw [List.filter_eq_nil_iff]
        intro y hy
        have := h.1 y hy
        simp only [decide_eq_true_eq]
        omega
      rw [List.filter_cons_of_neg (by simpa using hx), this]
      rfl
theorem isort_less (l : List Int) (k : Int) : isort (l.filter fun x => decide (x ≤ k)) = (isort l).filter fun x => decide (x ≤ k) := by
  refine List.Perm.eq_of_pairwise (fun a b _ _ => Int.le_antisymm) (isort_sorted _) ((isort_sorted l).filter _) ?_
  exact (isort_perm _).trans ((isort_perm l).symm.filter _)
/-! ### the discs' rests -/
theorem tr_reach (m : Int) : ∀ (g : Nat) (q : Q4) (l : Int), ∀ p ∈ tr g m q l, (0 ≤ p.2 ∧ p.2 < 4) ∧ Rch (rq q) (rq p.1) := by
  intro g
  induction g with
  | zero => intro q l p h; cases h
  | succ g ih =>
    intro q l p h
    obtain ⟨i, hi, h⟩ := mem_tr.1 h
    obtain ⟨h1, h2, h3⟩ := mem_pc h
    have hr : Rch (rq q) (rq (tq q i)) := by
      rw [rq_turn q i hi]
      exact Rch.refl.turn i hi
    rcases h3 with rfl | h3
    · exact ⟨hi, hr⟩
    · obtain ⟨g1, g2⟩ := ih _ _ p h3
      exact ⟨g1, hr.trans g2⟩
theorem rq_at (q : Q4) (i : Int) (hi : 0 ≤ i ∧ i < 4) : (rq q).at i = q.at i % 24 := by
  unfold rq Q4.at
  rcases four i hi with rfl | rfl | rfl | rfl <;> rfl
theorem DL_cv {m : Int} {r : Q4} {x : Int} (h : x ∈ DL m r) : Cv (rq r) (x % 24) := by
  unfold DL at h
  rw [List.mem_append, List.mem_map] at h
  rcases h with h | ⟨p, hp, rfl⟩
  · have : x ∈ ls r := (List.mem_filter.1 h).1
    obtain ⟨i, hi, e⟩ := mem_at r x this
    refine ⟨_, .refl, ?_⟩
    rw [← e, ← rq_at r i hi]
    exact at_mem _ _
  · obtain ⟨h1, h2⟩ := tr_reach m 6001 r (-1) p hp
    refine ⟨_, h2, ?_⟩
    show p.1.at p.2 % 24 ∈ _
    rw [← rq_at p.1 p.2 h1]
    exact at_mem _ _
/-! ### all discs of a root -/
theorem DL_in {m : Int} (hm : m ≤ 3000) {r : Q4} (hr : IsRt r) (h0 : r.a ≠ 0) {x : Int} (h : x ∈ DL m r) : x ≤ m ∧ r.a ≤ x := by
  have hg := root_go hr h0
  have hs := hr.2.1
  unfold Srt at hs
  unfold DL at h
  rw [List.mem_append, List.mem_map] at h
  rcases h with h | ⟨p, hp, rfl⟩
  · have h' := List.mem_filter.1 h
    have hle : x ≤ m := by simpa using h'.2
    have hin := h'.1
    simp only [List.mem_cons, List.not_mem_nil, or_false] at hin
    omega
  · have := tr_st m 6001 r (-1) hg.1 p hp
    have hb := this.1.box m hm this.2
    have ht := this.1.top
    have := this.2
    unfold bd
    omega
theorem DL_head {m : Int} (h1 : 1 ≤ m) (hm : m ≤ 3000) {r : Q4} (hr : IsRt r) (h0 : r.a ≠ 0) : ∃ l, isort (DL m r) = r.a :: l := by
  have hg := root_go hr h0
  obtain ⟨rest, e⟩ : ∃ rest, DL m r = r.a :: rest := by
    unfold DL startD
    rw [List.filter_cons_of_pos (by simp; omega)]
    exact ⟨_, rfl⟩
  refine ⟨isort rest, ?_⟩
  rw [e]
  refine List.Perm.eq_of_pairwise (fun a b _ _ => Int.le_antisymm) (isort_sorted _) ?_ ((isort_perm _).trans (List.Perm.cons _ (isort_perm _).symm))
  rw [List.pairwise_cons]
  refine ⟨fun x hx => ?_, isort_sorted _⟩
  have : x ∈ DL m r := by rw [e]; exact List.mem_cons_of_mem _ ((isort_perm rest).mem_iff.1 hx)
  exact (DL_in hm hr h0 this).2
/-! ### the law's loops -/
theorem rd_getI (l : List Int) (i : Nat) (h : i < l.length) : rd l (i : Int) = l[i] := by
  unfold rd
  rw [Int.toNat_natCast, List.getD_eq_getElem?_getD, List.getElem?_eq_getElem h, Option.getD_some]
theorem take_snocI {α : Type} (l : List α) (i : Nat) (h : i < l.length) : l.take (i + 1) = l.take i ++ [l[i]] := by
  rw [List.take_add_one, List.getElem?_eq_getElem h]
  rfl
theorem packed_l0 (x7 x8 : Int) (D L : List Int) (hL : ∀ v ∈ L, 0 ≤ v ∧ v < 24) (hl : (L.length : Int) ≤ 24) (q r : Q4) : ∀ (d i : Nat) (is_ : List Bool), i + d = L.length → is_.length = 24 → (∀ v, 0 ≤ v → (Sn is_ v ↔ v ∈ L.take i)) → ∀ k, d + 1 ≤ k →
    ∃ is' : List Bool, clochelaw01_DiscsPacked.l0 k x7 x8 D L is_ (i : Int) q.a q.b q.c q.d r.a r.b r.c r.d = clochelaw01_DiscsPacked.l1 (k - (d + 1)) x7 x8 D is' 0 0 q.a q.b q.c q.d r.a r.b r.c r.d ∧ is'.length = 24 ∧ ∀ v, 0 ≤ v → (Sn is' v ↔ v ∈ L) := by
  intro d
  induction d with
  | zero =>
    intro i is_ hd h24 h k hk
    obtain ⟨k, rfl⟩ : ∃ j, k = j + 1 := ⟨k - 1, by omega⟩
    refine ⟨is_, ?_, h24, fun v hv => ?_⟩
    · rw [clochelaw01_DiscsPacked.l0, if_neg (by omega)]; rfl
    · rw [h v hv, List.take_of_length_le (by omega)]
  | succ d ih =>
    intro i is_ hd h24 h k hk
    obtain ⟨k, rfl⟩ : ∃ j, k = j + 1 := ⟨k - 1, by omega⟩
    have hi : i < L.length := by omega
    have hv := hL L[i] (List.getElem_mem hi)
    have ew : wrap64 ((i : Int) + 1) = ((i + 1 : Nat) : Int) := by rw [w64 (n := (i : Int) + 1) (by omega) (by omega)]; omega
    rw [clochelaw01_DiscsPacked.l0, ew, rd_getI L i hi]
    clear ew
    rw [if_pos (by omega), if_pos (by omega), if_neg (by omega), if_neg (by omega), if_pos hv.1, if_pos (by omega), show k + 1 - (d + 1 + 1) = k - (d + 1) by omega]
    refine ih (i + 1) _ (by omega) (by rw [List.length_set]; exact h24) ?_ k (by omega)
    intro v hv0
    rw [sn_set h24 hv hv0, h v hv0, take_snocI L i hi, List.mem_append, List.mem_singleton]
    constructor
    · rintro (h | h)
      · exact .inr h
      · exact .inl h
    · rintro (h | h)
      · exact .inr h
      · exact .inl h
/-- How many are not above k. -/
def few (k : Int) (l : List Int) : Nat := (l.filter fun x => decide (x ≤ k)).length
theorem few_le (k : Int) (l : List Int) : few k l ≤ l.length := List.length_filter_le _ _
theorem w_succ (i : Nat) (h : i ≤ 9000000000000000000) : wrap64 ((i : Int) + 1) = ((i + 1 : Nat) : Int) := by rw [w64 (n := (i : Int) + 1) (by omega) (by omega)]; omega
set_option maxHeartbeats 4000000 in
theorem packed_l1 (x7 x8 : Int) (D : List Int) (hs : D.Pairwise (· ≤ ·)) (hD : ∀ x ∈ D, x ≤ x7 ∧ -1099511627776 ≤ x ∧ x ≤ 3000) (hl : (D.length : Int) ≤ 20000) (is_ : List Bool) (h24 : is_.length = 24) (his : ∀ x ∈ D, Sn is_ (x % 24)) (q r : Q4) :
    ∀ (d i : Nat), i + d = D.length → ∀ k, 2 * d + 1 ≤ k →
    clochelaw01_DiscsPacked.l1 k x7 x8 D is_ (few x8 (D.take i) : Int) (i : Int) q.a q.b q.c q.d r.a r.b r.c r.d = clochelaw01_DiscsPacked.l1 (k - 2 * d) x7 x8 D is_ (few x8 D : Int) (D.length : Int) q.a q.b q.c q.d r.a r.b r.c r.d := by
  intro d
  induction d with
  | zero =>
    intro i hd k hk
    rw [show i = D.length by omega, List.take_of_length_le (Nat.le_refl _)]
    rfl
  | succ d ih =>
    intro i hd k hk
    obtain ⟨k, rfl⟩ : ∃ j, k = j + 2 := ⟨k - 2, by omega⟩
    have hi : i < D.length := by omega
    have hv := hD D[i] (List.getElem_mem hi)
    have hsn := his D[i] (List.getElem_mem hi)
    have hfl := few_le x8 (D.take i)
    rw [List.length_take] at hfl
    have hfs : few x8 (D.take (i + 1)) = if D[i] ≤ x8 then few x8 (D.take i) + 1 else few x8 (D.take i) := by
      rw [take_snocI D i hi]
      unfold few
      rw [List.filter_append, List.length_append]
      by_cases h : D[i] ≤ x8
      · rw [if_pos h, List.filter_cons_of_pos (by simpa using h)]; rfl
      · rw [if_neg h, List.filter_cons_of_neg (by simpa using h)]; rfl
    have ih' := ih (i + 1) (by omega) k (by omega)
    rw [show k + 2 - 2 * (d + 1) = k - 2 * d by omega]
    have j3 : clochelaw01_DiscsPacked.j3 (k + 1) x7 x8 D is_ (few x8 (D.take i) : Int) (i : Int) (!(rdOf false is_ (D[i] % 24))) q.a q.b q.c q.d r.a r.b r.c r.d = clochelaw01_DiscsPacked.l1 (k - 2 * d) x7 x8 D is_ (few x8 D : Int) (D.length : Int) q.a q.b q.c q.d r.a r.b r.c r.d := by
      have e : rdOf false is_ (D[i] % 24) = true := hsn
      have g1 : 0 ≤ (i : Int) := by omega
      have g2 : (i : Int) < (D.length : Int) := by omega
      have ew : wrap64 ((i : Int) + 1) = ((i + 1 : Nat) : Int) := w_succ i (by omega)
      have ew2 : wrap64 ((few x8 (D.take i) : Int) + 1) = ((few x8 (D.take i) + 1 : Nat) : Int) := w_succ _ (by clear ew; omega)
      rw [e, clochelaw01_DiscsPacked.j3, if_neg (by decide), ew, ew2, rd_getI D i hi, if_pos g1, if_pos g2]
      clear ew ew2
      rw [hfs] at ih'
      by_cases h : D[i] ≤ x8
      · rw [if_pos h] at ih' ⊢; exact ih'
      · rw [if_neg h] at ih' ⊢; exact ih'
    have m1 := Int.emod_nonneg D[i] (show (24 : Int) ≠ 0 by decide)
    have m2 := Int.emod_lt_of_pos D[i] (show (0 : Int) < 24 by decide)
    have g1 : 0 ≤ (i : Int) := by omega
    have g2 : (i : Int) < (D.length : Int) := by omega
    have g3 : ¬ D[i] > x7 := by omega
    have ew3 : wrap64 ((i : Int) - 1) = (i : Int) - 1 := w64 (by omega) (by omega)
    have hr := restI_eq D[i] (by clear ew3; omega)
    unfold restI at hr
    rw [clochelaw01_DiscsPacked.l1, rd_getI D i hi, ew3, hr, if_pos g2, if_pos g1, if_neg g3]
    clear ew3 hr
    by_cases h0 : (i : Int) > 0
    · have e : ((i : Int) - 1) = ((i - 1 : Nat) : Int) := by omega
      have hle : D[i - 1] ≤ D[i] := List.pairwise_iff_getElem.1 hs (i - 1) i (by omega) hi (by omega)
      rw [if_pos h0, if_pos (by omega), if_pos (by omega), e, rd_getI D (i - 1) (by omega), if_neg (by omega), if_pos m1, if_pos (by omega)]
      exact j3
    · rw [if_neg h0, if_pos m1, if_pos (by omega)]
      exact j3
theorem u16_wf {x : Int} (h : (Lit.int .u16 x).wf = true) : 0 ≤ x ∧ x ≤ 65535 := by
  simp [Lit.wf] at h
  rw [show IntKind.u16.min = 0 by decide, show IntKind.u16.max = 65535 by decide] at h
  exact h
theorem DiscsPacked (a b c d a1 a2 : Int) (wa : (Lit.int .i64 a).wf = true) (wb : (Lit.int .i64 b).wf = true) (wc : (Lit.int .i64 c).wf = true) (wd : (Lit.int .i64 d).wf = true) (w1 : (Lit.int .u16 a1).wf = true) (w2 : (Lit.int .u16 a2).wf = true) : ∃ k, clochelaw01_DiscsPacked.f k a b c d a1 a2 = some true := by
  obtain ⟨K, hK⟩ : ∃ K : Nat, 50000000000000 ≤ K := ⟨_, Nat.le_refl _⟩
  refine ⟨K + 2, ?_⟩
  have u1 := u16_wf w1
  have u2 := u16_wf w2
  clear w1 w2 wa wb wc wd
  obtain ⟨q, hqe⟩ : ∃ q : Q4, q = ⟨a, b, c, d⟩ := ⟨_, rfl⟩
  obtain ⟨rfl, rfl, rfl, rfl⟩ : q.a = a ∧ q.b = b ∧ q.c = c ∧ q.d = d := by rw [hqe]; exact ⟨rfl, rfl, rfl, rfl⟩
  clear hqe
  unfold clochelaw01_DiscsPacked.f
  rw [RefIsQuad_f q.a q.b q.c q.d (K + 2) (by omega), Option.bind_some]
  by_cases hq : QQ q
  rotate_left
  · rw [if_neg (by rw [decide_eq_false (show ¬ IsQ q.a q.b q.c q.d from hq)]; decide), alive_f _ (by omega)]; rfl
  rw [if_pos (decide_eq_true (show IsQ q.a q.b q.c q.d from hq))]
  obtain ⟨m, hm⟩ : ∃ m, m = 1 + a1 % 3000 := ⟨_, rfl⟩
  have em : wrap64 (1 + (Int.tmod (wrap64 (a1)) 3000)) = m := by
    rw [w64 (n := a1) (by omega) (by omega), Int.tmod_eq_emod_of_nonneg u1.1, w64 (by omega) (by omega), hm]
  have m1 : 1 ≤ m ∧ m ≤ 3000 := by clear em; omega
  obtain ⟨n, hn⟩ : ∃ n, n = 1 + a2 % m := ⟨_, rfl⟩
  have n0 := Int.emod_nonneg a2 (show m ≠ 0 by clear em; omega)
  have n1 := Int.emod_lt_of_pos a2 (show 0 < m by clear em; omega)
  rw [em]
  have en : wrap64 (1 + (Int.tmod (wrap64 (a2)) m)) = n := by
    clear em
    rw [w64 (n := a2) (by omega) (by omega), Int.tmod_eq_emod_of_nonneg u2.1, w64 (by omega) (by omega), hn]
  rw [en]
  clear em en
  have hn1 : 1 ≤ n ∧ n ≤ m := by omega
  clear hm hn n0 n1 u1 u2
  have hr := Rt_root hq
  obtain ⟨s1, s2⟩ := root_self hr
  obtain ⟨L, hL, eL⟩ := Rests_f hq
  have hLv : ∀ v ∈ L, 0 ≤ v ∧ v < 24 := fun v hv => Cv_range (rq_b q) ((hL.mem v).1 hv)
  have hLl : L.length ≤ 24 := by
    have := nodup_le (L.map Int.toNat) ?_ 24 ?_
    · rwa [List.length_map] at this
    · unfold List.Nodup
      rw [List.pairwise_map]
      refine List.Pairwise.imp_of_mem ?_ hL.lt
      intro x y hx hy hlt
      have := hLv x hx
      omega
    · intro x hx
      rw [List.mem_map] at hx
      obtain ⟨y, hy, rfl⟩ := hx
      have := hLv y hy
      omega
  have eD : DiscsP (Rt q) m = DiscsP q m := by
    unfold DiscsP
    rw [s1]
    simp only [hq, hr.1, true_and]
  rw [if_neg (by omega), Root_f q (K + 2) (by omega), RootP_q hq, Option.bind_some]
  simp only
  rw [Discs_f q m (K + 2) (by omega), Option.bind_some, Discs_f (Rt q) m (K + 2) (by omega), Option.bind_some, eD, eL (K + 2) (by omega), Option.bind_some, if_pos rfl, if_pos rfl, if_pos trivial]
  have hD : (DiscsP q m).1.length ≤ 20000 := by
    unfold DiscsP
    repeat' split
    all_goals first | exact Nat.zero_le _ | skip
    rename_i h
    simp only
    rw [(isort_perm _).length_eq]
    omega
  rw [same_f _ _ (by omega) (K + 2) (by omega), Option.bind_some, decide_eq_true rfl, clochelaw01_DiscsPacked.j0, if_neg (by decide)]
  have e1 : DiscsP q m = if (Rt q).a = 0 then ([], 9) else if 20000 < (DL m (Rt q)).length then ([], 8) else (isort (DL m (Rt q)), 0) := if_pos ⟨hq, m1.1, m1.2⟩
  rw [e1]
  by_cases h0 : (Rt q).a = 0
  · rw [if_pos h0, if_neg (by decide), if_pos (by simp), if_pos (by simp [h0]), if_pos rfl, alive_f _ (by omega)]; rfl
  rw [if_neg h0]
  by_cases hF : 20000 < (DL m (Rt q)).length
  · rw [if_pos hF, if_neg (by decide), if_pos (by simp), if_pos (by simp [h0]), if_neg (by decide), if_pos rfl, alive_f _ (by omega)]; rfl
  rw [if_neg hF]
  have hg := root_go hr h0
  obtain ⟨D, hDe⟩ : ∃ D, D = isort (DL m (Rt q)) := ⟨_, rfl⟩
  have hDm : ∀ x, x ∈ D ↔ x ∈ DL m (Rt q) := fun x => by rw [hDe]; exact (isort_perm _).mem_iff
  have hDs : D.Pairwise (· ≤ ·) := by rw [hDe]; exact isort_sorted _
  have hDl : D.length = (DL m (Rt q)).length := by rw [hDe]; exact (isort_perm _).length_eq
  have hin := hr.1.inA
  unfold InA InR at hin
  have hDin : ∀ x ∈ D, x ≤ m ∧ -1099511627776 ≤ x ∧ x ≤ 3000 := by
    intro x hx
    have := DL_in m1.2 hr h0 ((hDm x).1 hx)
    omega
  rw [if_pos rfl, if_pos (by decide), ← hDe]
  obtain ⟨is', e2, h24, his⟩ := packed_l0 m n D L hLv (by omega) q (Rt q) L.length 0 (List.replicate 24 false) (Nat.zero_add _) List.length_replicate (fun v hv => by
    unfold Sn
    rw [List.getD_eq_getElem?_getD, List.getElem?_replicate]
    constructor
    · intro h; split at h <;> simp at h
    · intro h; rw [List.take_zero] at h; cases h) (K + 1) (by omega)
  have e2' : clochelaw01_DiscsPacked.l0 (K + 1) m n D L (List.replicate 24 false) 0 q.a q.b q.c q.d (Rt q).a (Rt q).b (Rt q).c (Rt q).d = _ := e2
  rw [e2']
  have hisD : ∀ x ∈ D, Sn is' (x % 24) := by
    intro x hx
    rw [his _ (Int.emod_nonneg x (by decide)), hL.mem, ← Cv_root q hq]
    exact DL_cv ((hDm x).1 hx)
  have e3 := packed_l1 m n D hDs hDin (by omega) is' h24 hisD q (Rt q) D.length 0 (Nat.zero_add _) (K + 1 - (L.length + 1)) (by omega)
  have e3' : clochelaw01_DiscsPacked.l1 (K + 1 - (L.length + 1)) m n D is' 0 0 q.a q.b q.c q.d (Rt q).a (Rt q).b (Rt q).c (Rt q).d = _ := e3
  rw [e3']
  obtain ⟨k', hk'⟩ : ∃ k', K + 1 - (L.length + 1) - 2 * D.length = k' + 1 := ⟨K + 1 - (L.length + 1) - 2 * D.length - 1, by omega⟩
  have hk2 : 6000000000000 ≤ k' := by omega
  have hfl := few_le n D
  obtain ⟨l, hl⟩ := DL_head m1.1 m1.2 hr h0
  rw [← hDe] at hl
  have hfew : DiscsP q n = (D.filter (fun x => decide (x ≤ n)), 0) := by
    unfold DiscsP
    have hle : (DL n (Rt q)).length ≤ (DL m (Rt q)).length := by rw [DL_less hn1.2 hg.1]; exact List.length_filter_le _ _
    rw [if_pos ⟨hq, hn1.1, by omega⟩, if_neg h0, if_neg (by omega), DL_less hn1.2 hg.1, isort_less, hDe]
  have htake : D.filter (fun x => decide (x ≤ n)) = D.take (few n D) := sorted_take D hDs
  rw [hk', clochelaw01_DiscsPacked.l1, if_neg (by omega), Discs_f q n k' (by omega), Option.bind_some, hfew]
  simp only
  have hpos : 0 < D.length := by rw [hl]; simp
  have hhead : rd D 0 = (Rt q).a := by rw [hl]; rfl
  rw [if_pos trivial, if_pos (by omega), if_pos (by omega), htake, Int.toNat_natCast, same_f _ _ (by rw [List.length_take]; omega) k' (by rw [List.length_take]; omega), Option.bind_some, if_pos (by simp), if_pos (by omega), if_pos (by omega), hhead, if_pos rfl, alive_f _ (by omega)]
  rfl
end Go.Proofs.Ytlfmafebmnggeaa.Pure
