/- Rests by the specification: the queue of all quads modulo 24 that are reached. -/
import Derived.Test.YtlfmafebmnggeaaDRst
import Derived.Test.YtlfmafebmnggeaaPrintxr
namespace Go.Proofs.Ytlfmafebmnggeaa.Pure
open Go.RowKit Go.Proofs.Ytlfmafebmnggeaa.Print Go.Proofs.YtlfmafebmnggeaaW.PrintWords Go.Proofs.YtlfmafebmnggeaaW.PrintLast
set_option linter.unusedVariables false
set_option linter.unusedSimpArgs false
def s4q (q : Q4) : S23 := ⟨q.a, q.b, q.c, q.d⟩
/-- The place of a quad in the table. -/
def plq (q : Q4) : Int := ((q.a * 24 + q.b) * 24 + q.c) * 24 + q.d
theorem plq_range {q : Q4} (h : B24 q) : 0 ≤ plq q ∧ plq q < 331776 := by
  unfold B24 at h
  unfold plq
  omega
theorem plq_inj {p q : Q4} (hp : B24 p) (hq : B24 q) (e : plq p = plq q) : p = q := by
  obtain ⟨a, b, c, d⟩ := p
  obtain ⟨a', b', c', d'⟩ := q
  unfold B24 at hp hq
  unfold plq at e
  simp only at hp hq e
  rw [show a = a' by omega, show b = b' by omega, show c = c' by omega, show d = d' by omega]
theorem plq_wrap {q : Q4} (h : B24 q) : wrap64 (wrap64 (wrap64 (wrap64 (wrap64 (wrap64 (q.a * 24) + q.b) * 24) + q.c) * 24) + q.d) = plq q := by
  unfold B24 at h
  rw [w64 (n := q.a * 24) (by omega) (by omega), w64 (n := q.a * 24 + q.b) (by omega) (by omega), w64 (n := (q.a * 24 + q.b) * 24) (by omega) (by omega), w64 (n := (q.a * 24 + q.b) * 24 + q.c) (by omega) (by omega), w64 (n := ((q.a * 24 + q.b) * 24 + q.c) * 24) (by omega) (by omega), w64 (by omega) (by omega)]
  rfl
structure KF (x : Q4) (L : List Q4) (met seen : List Bool) : Prop where
  nd : L.Nodup
  rch : ∀ p ∈ L, Rch x p
  ml : met.length = 331776
  mt : ∀ p, B24 p → (met.getD (plq p).toNat false = true ↔ p ∈ L)
  sl : seen.length = 24
  sn : ∀ v, 0 ≤ v → Sn seen v → Cv x v
theorem KF.step {x now : Q4} (hx : B24 x) (hn : Rch x now) {L : List Q4} {met seen : List Bool} (h : KF x L met seen) (i : Nat) (hi : i < 4) (at_ : Int) (k : Nat) (hk : 10 ≤ k) :
    ∃ E met', clocheref01_Rests.l1 (k + 1) met ((x :: L).map s4q) seen at_ (i : Int) now.a now.b now.c now.d = clocheref01_Rests.l1 k met' ((x :: (L ++ E)).map s4q) (seen.set (now.at i).toNat true) at_ ((i + 1 : Nat) : Int) now.a now.b now.c now.d ∧ KF x (L ++ E) met' (seen.set (now.at i).toNat true) ∧ tR now i ∈ L ++ E := by
  have hb := hn.b24 hx
  have hat := hb.at (i : Int)
  have hi4 : (0 : Int) ≤ i ∧ (i : Int) < 4 := by omega
  have ha : InA now := by unfold B24 at hb; unfold InA InR; omega
  have hset := fun v (hv : 0 ≤ v) => sn_set h.sl (t := now.at i) (v := v) hat hv
  have hsn : ∀ v, 0 ≤ v → Sn (seen.set (now.at i).toNat true) v → Cv x v := by
    intro v hv hs
    rcases (hset v hv).1 hs with rfl | hs
    · exact ⟨now, hn, at_mem now i⟩
    · exact h.sn v hv hs
  have hlen := len24 L h.nd fun q hq => (h.rch q hq).b24 hx
  have ew : wrap64 ((i : Int) + 1) = ((i + 1 : Nat) : Int) := by rw [w64 (n := (i : Int) + 1) (by omega) (by omega)]; omega
  obtain ⟨t, ht⟩ : ∃ t, t = tn now i % 24 := ⟨_, rfl⟩
  have hrest : clocheref01_rest.f (tn now i) = some t := by
    have hr : -1000 ≤ tn now i ∧ tn now i ≤ 1000 := by
      unfold B24 at hb
      unfold tn
      rcases four i hi4 with e | e | e | e <;> rw [e] <;> simp [Q4.at] <;> omega
    rw [ht, ← restI_eq _ (by omega)]
    rfl
  have htr : now.put i t = tR now i := by rw [ht]; rfl
  have hbt : B24 (tR now i) := hb.turn i hi4
  obtain ⟨e1, e2, e3, e4⟩ := pt4_tq now i hi4 t
  rw [htr] at e1 e2 e3 e4
  have hsl := h.sl
  have hml := h.ml
  have hpl := plq_range hbt
  rw [clocheref01_Rests.l1, ew]
  clear ew
  rw [if_pos hi4.2, if_pos hi4.1, at4_at, if_pos hat.1, if_pos (by omega), Option.bind_some, RefTurned_f now i hi4 ha k (by omega), Option.bind_some, hrest, Option.bind_some, e1, e2, e3, e4, plq_wrap hbt, if_pos hpl.1, if_pos (by omega)]
  have hmem := h.mt (tR now i) hbt
  by_cases hm : tR now i ∈ L
  · rw [if_pos (show rdOf false met (plq (tR now i)) = true from hmem.2 hm)]
    refine ⟨[], met, by rw [List.append_nil], ?_, by rw [List.append_nil]; exact hm⟩
    rw [List.append_nil]
    exact ⟨h.nd, h.rch, h.ml, h.mt, by rw [List.length_set]; exact h.sl, hsn⟩
  · rw [if_neg (show ¬ rdOf false met (plq (tR now i)) = true from fun e => hm (hmem.1 e)), if_pos (by rw [List.length_map, List.length_cons]; omega)]
    refine ⟨[tR now i], met.set (plq (tR now i)).toNat true, ?_, ?_, by simp⟩
    · rw [← List.cons_append, List.map_append]; rfl
    · refine ⟨?_, ?_, by rw [List.length_set]; exact h.ml, ?_, by rw [List.length_set]; exact h.sl, hsn⟩
      · rw [List.nodup_append]
        exact ⟨h.nd, by simp, fun a ha b hb e => by rw [List.mem_singleton] at hb; subst hb; subst e; exact hm ha⟩
      · intro p hp
        rw [List.mem_append, List.mem_singleton] at hp
        rcases hp with hp | rfl
        · exact h.rch p hp
        · exact hn.turn i hi4
      · intro p hp
        rw [List.mem_append, List.mem_singleton, List.getD_eq_getElem?_getD, List.getElem?_set]
        have hpp := plq_range hp
        by_cases e : p = tR now i
        · subst e
          rw [if_pos rfl, if_pos (by omega)]
          simp
        · rw [if_neg (fun e2 => e (plq_inj hp hbt (by omega))), ← List.getD_eq_getElem?_getD, h.mt p hp]
          simp [e]
theorem rests_l1 {x now : Q4} (hx : B24 x) (hn : Rch x now) {L : List Q4} {met seen : List Bool} (h : KF x L met seen) (at_ : Nat) (hat : at_ ≤ 400000) (k : Nat) (hk : 20 ≤ k) :
    ∃ E met' seen', clocheref01_Rests.l1 (k + 5) met ((x :: L).map s4q) seen at_ 0 now.a now.b now.c now.d = clocheref01_Rests.l0 k met' ((x :: (L ++ E)).map s4q) seen' ((at_ + 1 : Nat) : Int) ∧ KF x (L ++ E) met' seen' ∧ (∀ i : Nat, i < 4 → tR now i ∈ L ++ E) ∧ (∀ i : Nat, i < 4 → Sn seen' (now.at i)) ∧ ∀ v, 0 ≤ v → Sn seen v → Sn seen' v := by
  have hb := hn.b24 hx
  obtain ⟨E0, m0, e0, k0, t0⟩ := h.step hx hn 0 (by omega) (at_ : Int) (k + 4) (by omega)
  obtain ⟨E1, m1, e1, k1, t1⟩ := k0.step hx hn 1 (by omega) (at_ : Int) (k + 3) (by omega)
  obtain ⟨E2, m2, e2, k2, t2⟩ := k1.step hx hn 2 (by omega) (at_ : Int) (k + 2) (by omega)
  obtain ⟨E3, m3, e3, k3, t3⟩ := k2.step hx hn 3 (by omega) (at_ : Int) (k + 1) (by omega)
  have ew : wrap64 ((at_ : Int) + 1) = ((at_ + 1 : Nat) : Int) := by rw [w64 (n := (at_ : Int) + 1) (by omega) (by omega)]; omega
  have s0 := fun v (hv : 0 ≤ v) => sn_set h.sl (t := now.at (0 : Nat)) (v := v) (hb.at _) hv
  have s1 := fun v (hv : 0 ≤ v) => sn_set k0.sl (t := now.at (1 : Nat)) (v := v) (hb.at _) hv
  have s2 := fun v (hv : 0 ≤ v) => sn_set k1.sl (t := now.at (2 : Nat)) (v := v) (hb.at _) hv
  have s3 := fun v (hv : 0 ≤ v) => sn_set k2.sl (t := now.at (3 : Nat)) (v := v) (hb.at _) hv
  have ea : L ++ E0 ++ E1 ++ E2 ++ E3 = L ++ (E0 ++ E1 ++ E2 ++ E3) := by simp only [List.append_assoc]
  rw [ea] at e3 k3 t3
  refine ⟨E0 ++ E1 ++ E2 ++ E3, m3, _, ?_, k3, ?_, ?_, ?_⟩
  · have e0' : clocheref01_Rests.l1 (k + 5) met ((x :: L).map s4q) seen at_ 0 now.a now.b now.c now.d = _ := e0
    rw [e0', e1, e2, e3, clocheref01_Rests.l1, ew]
    clear ew
    rw [if_neg (by omega)]
  · intro i hi
    rw [← ea]
    rcases (show i = 0 ∨ i = 1 ∨ i = 2 ∨ i = 3 by omega) with rfl | rfl | rfl | rfl
    · exact List.mem_append_left _ (List.mem_append_left _ (List.mem_append_left _ t0))
    · exact List.mem_append_left _ (List.mem_append_left _ t1)
    · exact List.mem_append_left _ t2
    · rw [ea]; exact t3
  · intro i hi
    have hv := (hb.at (i : Int)).1
    rw [s3 _ hv, s2 _ hv, s1 _ hv, s0 _ hv]
    rcases (show i = 0 ∨ i = 1 ∨ i = 2 ∨ i = 3 by omega) with rfl | rfl | rfl | rfl
    · exact .inr (.inr (.inr (.inl rfl)))
    · exact .inr (.inr (.inl rfl))
    · exact .inr (.inl rfl)
    · exact .inl rfl
  · intro v hv hs
    rw [s3 _ hv, s2 _ hv, s1 _ hv, s0 _ hv]
    exact .inr (.inr (.inr (.inr hs)))
theorem rests_l2 (seen : List Bool) (hl : seen.length = 24) : ∀ (d n : Nat), n + d = 24 → ∀ k, d + 1 ≤ k → clocheref01_Rests.l2 k seen (outR seen n) (n : Int) = some (outR seen 24, 0) := by
  intro d
  induction d with
  | zero =>
    intro n hd k hk
    obtain ⟨k, rfl⟩ : ∃ j, k = j + 1 := ⟨k - 1, by omega⟩
    obtain rfl : n = 24 := by omega
    rw [clocheref01_Rests.l2, if_neg (by omega)]
  | succ d ih =>
    intro n hd k hk
    obtain ⟨k, rfl⟩ : ∃ j, k = j + 1 := ⟨k - 1, by omega⟩
    have ew : wrap64 ((n : Int) + 1) = ((n + 1 : Nat) : Int) := by rw [w64 (n := (n : Int) + 1) (by omega) (by omega)]; omega
    have hlen := outR_len seen n
    rw [clocheref01_Rests.l2, ew]
    clear ew
    rw [if_pos (by omega), if_pos (by omega), if_pos (by omega)]
    have e : rdOf false seen (n : Int) = seen.getD n false := by unfold rdOf; rw [Int.toNat_natCast]
    rw [e]
    have ih' := ih (n + 1) (by omega) k (by omega)
    rw [outR] at ih'
    by_cases h : seen.getD n false = true
    · rw [if_pos h] at ih' ⊢
      rw [if_pos (by omega)]
      exact ih'
    · rw [if_neg h] at ih' ⊢
      exact ih'
theorem rests_l0 {x : Q4} (hx : B24 x) : ∀ (d : Nat) (at_ : Nat) (L : List Q4) (met seen : List Bool), at_ + d = 331778 → KF x L met seen → at_ ≤ (x :: L).length →
    (∀ j p, j < at_ → (x :: L)[j]? = some p → (∀ i : Nat, i < 4 → tR p i ∈ L) ∧ ∀ i : Nat, i < 4 → Sn seen (p.at i)) →
    ∀ k, 6 * d + 100 ≤ k → ∃ s, clocheref01_Rests.l0 k met ((x :: L).map s4q) seen (at_ : Int) = some (outR s 24, 0) ∧ ∀ v, 0 ≤ v → (Sn s v ↔ Cv x v) := by
  intro d
  induction d with
  | zero =>
    intro at_ L met seen hd h hat hp k hk
    have := len24 L h.nd fun q hq => (h.rch q hq).b24 hx
    rw [List.length_cons] at hat
    omega
  | succ d ih =>
    intro at_ L met seen hd h hat hp k hk
    obtain ⟨k, rfl⟩ : ∃ j, k = j + 6 := ⟨k - 6, by omega⟩
    have hl24 := len24 L h.nd fun q hq => (h.rch q hq).b24 hx
    rw [clocheref01_Rests.l0]
    by_cases hc : at_ < (x :: L).length
    · have hin : (x :: L)[at_] ∈ x :: L := List.getElem_mem hc
      obtain ⟨now, hnow⟩ : ∃ now, now = (x :: L)[at_] := ⟨_, rfl⟩
      have hn : Rch x now := by
        rw [← hnow, List.mem_cons] at hin
        rcases hin with e | e
        · rw [e]; exact .refl
        · exact h.rch now e
      have er : rd_T23 ((x :: L).map s4q) (at_ : Int) = s4q now := by
        unfold rd_T23
        rw [Int.toNat_natCast, List.getD_eq_getElem?_getD, List.getElem?_map, List.getElem?_eq_getElem hc, ← hnow]
        rfl
      rw [if_pos (by rw [List.length_map]; omega), if_pos (by omega), er]
      obtain ⟨E, m', s', e, hK, ht, hs, hm⟩ := rests_l1 hx hn h at_ (by omega) k (by omega)
      have e' : clocheref01_Rests.l1 (k + 5) met ((x :: L).map s4q) seen at_ 0 (s4q now).f0 (s4q now).f1 (s4q now).f2 (s4q now).f3 = _ := e
      rw [e']
      refine ih (at_ + 1) (L ++ E) m' s' (by omega) hK (by rw [List.length_cons] at hc ⊢; rw [List.length_append]; omega) ?_ k (by omega)
      intro j p hj hjp
      by_cases e : j = at_
      · subst e
        have : p = now := by
          rw [← List.cons_append, List.getElem?_append_left hc, List.getElem?_eq_getElem hc, Option.some.injEq] at hjp
          rw [hnow, hjp]
        subst this
        exact ⟨ht, hs⟩
      · have hj' : j < (x :: L).length := by omega
        rw [← List.cons_append, List.getElem?_append_left hj'] at hjp
        obtain ⟨h1, h2⟩ := hp j p (by omega) hjp
        refine ⟨fun i hi => List.mem_append_left _ (h1 i hi), fun i hi => ?_⟩
        have hr : Rch x p := by
          have : p ∈ x :: L := List.mem_of_getElem? hjp
          rw [List.mem_cons] at this
          rcases this with e | e
          · rw [e]; exact .refl
          · exact h.rch p e
        exact hm _ ((hr.b24 hx).at _).1 (h2 i hi)
    · rw [if_neg (by rw [List.length_map]; omega)]
      refine ⟨seen, rests_l2 seen h.sl 24 0 rfl (k + 5) (by omega), fun v hv => ⟨h.sn v hv, ?_⟩⟩
      have all : ∀ p, Rch x p → p ∈ x :: L := by
        intro p hp'
        induction hp' with
        | refl => exact List.mem_cons_self
        | @turn p i _ hi ih =>
          obtain ⟨j, hj, e⟩ := List.getElem_of_mem ih
          have := (hp j p (by omega) (by rw [List.getElem?_eq_getElem hj, e])).1 i.toNat (by omega)
          rw [show ((i.toNat : Nat) : Int) = i by omega] at this
          exact List.mem_cons_of_mem _ this
      rintro ⟨p, hp', hv⟩
      obtain ⟨i, hi, e⟩ := mem_at p v hv
      obtain ⟨j, hj, e2⟩ := List.getElem_of_mem (all p hp')
      have := (hp j p (by omega) (by rw [List.getElem?_eq_getElem hj, e2])).2 i.toNat (by omega)
      rwa [show ((i.toNat : Nat) : Int) = i by omega, e] at this
theorem KF.start (x : Q4) {met : List Bool} (hm : ∀ n : Nat, met.getD n false = false) (hl : met.length = 331776) : KF x [] met (List.replicate 24 false) := by
  refine ⟨List.nodup_nil, fun p hp => absurd hp List.not_mem_nil, hl, fun p _ => ?_, List.length_replicate, ?_⟩
  · rw [hm]; simp
  · intro v hv hs
    unfold Sn at hs
    rw [List.getD_eq_getElem?_getD, List.getElem?_replicate] at hs
    split at hs <;> simp at hs
theorem getD_rep (n i : Nat) : (List.replicate n false).getD i false = false := by
  rw [List.getD_eq_getElem?_getD, List.getElem?_replicate]
  split <;> rfl
theorem RefRests_f {q : Q4} (hq : QQ q) : ∃ L, IsRests q L ∧ ∀ k, 3000000 ≤ k → clocheref01_Rests.f k q.a q.b q.c q.d = some (L, 0) := by
  have hb := rq_b q
  have hin := hq.inA
  unfold InA InR at hin
  have key : ∀ k, 3000000 ≤ k → ∃ L, IsRests q L ∧ clocheref01_Rests.f k q.a q.b q.c q.d = some (L, 0) := by
    intro k hk
    obtain ⟨met, hmet⟩ : ∃ met, met = List.replicate 331776 false := ⟨_, rfl⟩
    have h1 : ∀ n : Nat, met.getD n false = false := fun n => by rw [hmet]; exact getD_rep _ n
    have h2 : met.length = 331776 := by rw [hmet, List.length_replicate]
    obtain ⟨s, e, hs⟩ := rests_l0 hb 331778 0 [] met (List.replicate 24 false) rfl (KF.start (rq q) h1 h2) (by simp) (fun j p hj _ => absurd hj (Nat.not_lt_zero j)) k (by omega)
    refine ⟨outR s 24, ⟨out_rests hb hs, outR_lt s 24⟩, ?_⟩
    have r := fun y (hy : -1099511627776 ≤ y ∧ y ≤ 1099511627776) => (show clocheref01_rest.f y = some (y % 24) by rw [← restI_eq y (by omega)]; rfl)
    unfold clocheref01_Rests.f
    rw [← hmet, RefIsQuad_f q.a q.b q.c q.d k (by omega), Option.bind_some, if_pos (decide_eq_true (show IsQ q.a q.b q.c q.d from hq)), r q.a hin.1, r q.b hin.2.1, r q.c hin.2.2.1, r q.d hin.2.2.2, Option.bind_some, Option.bind_some, Option.bind_some, Option.bind_some, if_pos (by decide), if_pos (by decide)]
    exact e
  obtain ⟨L, hL, _⟩ := key 3000000 (Nat.le_refl _)
  refine ⟨L, hL, fun k hk => ?_⟩
  obtain ⟨L', hL', e⟩ := key k hk
  rw [e, hL.unique hL']
theorem RefRests_bad {q : Q4} (hq : ¬ QQ q) (k : Nat) (hk : 3000000 ≤ k) : clocheref01_Rests.f k q.a q.b q.c q.d = some ([], 2) := by
  unfold clocheref01_Rests.f
  rw [RefIsQuad_f q.a q.b q.c q.d k (by omega), Option.bind_some, if_neg (by rw [decide_eq_false (show ¬ IsQ q.a q.b q.c q.d from hq)]; decide)]
end Go.Proofs.Ytlfmafebmnggeaa.Pure
