/- Rests by the program: the search through all quads modulo 24. -/
import Derived.Test.YtlfmafebmnggeaaDOrb
import Derived.Test.YtlfmafebmnggeaaHandRests
namespace Go.Proofs.Ytlfmafebmnggeaa.Pure
open Go.RowKit Go.Proofs.Ytlfmafebmnggeaa.Print Go.Proofs.YtlfmafebmnggeaaW.PrintWords Go.Proofs.YtlfmafebmnggeaaW.PrintLast
set_option linter.unusedVariables false
set_option linter.unusedSimpArgs false
theorem eqQ_iff (p q : Q4) : eqQ p q = true ↔ p = q := by unfold eqQ; exact beq4 p q
theorem inQ_iff (q : Q4) (S : List Q4) : inQ q S = true ↔ q ∈ S := by
  unfold inQ
  rw [List.any_eq_true]
  constructor
  · rintro ⟨p, hp, e⟩; rw [eqQ_iff] at e; rw [e]; exact hp
  · intro h; exact ⟨q, h, (eqQ_iff q q).2 rfl⟩
theorem restI_eq (x : Int) (h : -9000000000000000000 ≤ x ∧ x ≤ 9000000000000000000) : restI x = x % 24 := by
  have h1 : -23 ≤ Int.tmod x 24 ∧ Int.tmod x 24 ≤ 23 ∧ (Int.tmod x 24 - x) % 24 = 0 := by
    have := Int.tmod_eq_emod (a := x) (b := 24)
    have := Int.emod_nonneg x (show (24 : Int) ≠ 0 by decide)
    have := Int.emod_lt_of_pos x (show (0 : Int) < 24 by decide)
    split at * <;> omega
  unfold restI
  rw [w64 (n := Int.tmod x 24 + 24) (by omega) (by omega), Int.tmod_eq_emod_of_nonneg (by omega)]
  omega
theorem nextR_eq {q : Q4} (h : B24 q) (i : Nat) (hi : i < 4) : nextR q i = tR q i := by
  have ha : InA q := by unfold B24 at h; unfold InA InR; omega
  have hr : InR (q.at i) ∧ -1000 ≤ tn q i ∧ tn q i ≤ 1000 := by
    unfold B24 at h
    unfold InR tn
    rcases four i (by omega) with e | e | e | e <;> rw [e] <;> simp [Q4.at] <;> omega
  unfold nextR tR
  rw [turnedF_eq q i ha hr.1, restI_eq _ (by omega)]
theorem B24.at {q : Q4} (h : B24 q) (i : Int) : 0 ≤ q.at i ∧ q.at i < 24 := by
  unfold B24 at h
  unfold Q4.at
  repeat' split
  all_goals omega
/-! ### how many quads there are -/
theorem nodup_le (l : List Nat) (nd : l.Nodup) (M : Nat) (h : ∀ x ∈ l, x < M) : l.length ≤ M := by
  have hp : l.Perm ((List.range M).filter fun x => decide (x ∈ l)) := by
    refine (List.perm_ext_iff_of_nodup nd (List.Pairwise.filter _ List.nodup_range)).2 fun x => ?_
    rw [List.mem_filter, List.mem_range, decide_eq_true_eq]
    exact ⟨fun hx => ⟨h x hx, hx⟩, fun hx => hx.2⟩
  rw [hp.length_eq]
  exact Nat.le_trans (List.length_filter_le _ _) (by rw [List.length_range]; exact Nat.le_refl _)
def cd24 (q : Q4) : Nat := (((q.a * 24 + q.b) * 24 + q.c) * 24 + q.d).toNat
theorem len24 (l : List Q4) (nd : l.Nodup) (h : ∀ q ∈ l, B24 q) : l.length ≤ 331776 := by
  have := nodup_le (l.map cd24) ?_ 331776 ?_
  · rw [List.length_map] at this; exact this
  · unfold List.Nodup
    rw [List.pairwise_map]
    refine List.Pairwise.imp_of_mem ?_ nd
    intro p q hp hq hd e
    have hp := h p hp
    have hq := h q hq
    obtain ⟨a, b, c, d⟩ := p
    obtain ⟨a', b', c', d'⟩ := q
    unfold B24 at hp hq
    unfold cd24 at e
    simp only at hp hq e
    refine hd ?_
    rw [show a = a' by omega, show b = b' by omega, show c = c' by omega, show d = d' by omega]
  · intro x hx
    rw [List.mem_map] at hx
    obtain ⟨q, hq, rfl⟩ := hx
    have hq := h q hq
    unfold B24 at hq
    unfold cd24
    omega
/-! ### the search -/
def Sn (s : List Bool) (v : Int) : Prop := s.getD v.toNat false = true
theorem sn_set {s : List Bool} (hl : s.length = 24) {t v : Int} (ht : 0 ≤ t ∧ t < 24) (hv : 0 ≤ v) : Sn (s.set t.toNat true) v ↔ v = t ∨ Sn s v := by
  unfold Sn
  rw [List.getD_eq_getElem?_getD, List.getD_eq_getElem?_getD, List.getElem?_set]
  by_cases h : v = t
  · subst h
    rw [if_pos rfl, if_pos (by omega)]
    simp
  · rw [if_neg (by omega)]
    simp [h]
structure KR (x now : Q4) (i : Nat) (s : List Q4 × List Q4 × List Bool) : Prop where
  nm : s.2.1.Nodup
  nt : s.1.Nodup
  sub : ∀ p ∈ s.1, p ∈ s.2.1
  rch : ∀ p ∈ s.2.1, Rch x p
  nw : now ∈ s.2.1
  nwt : now ∉ s.1
  cl : ∀ p ∈ s.2.1, p ∉ s.1 → p ≠ now → (∀ j : Nat, j < 4 → tR p j ∈ s.2.1) ∧ ∀ j : Nat, j < 4 → Sn s.2.2 (p.at j)
  dn : ∀ j : Nat, j < i → tR now j ∈ s.2.1 ∧ Sn s.2.2 (now.at j)
  sn : ∀ v, 0 ≤ v → Sn s.2.2 v → Cv x v
  len : s.2.2.length = 24
  st : x ∈ s.2.1
theorem KR.step {x now : Q4} {i : Nat} {s : List Q4 × List Q4 × List Bool} (hx : B24 x) (hi : i < 4) (h : KR x now i s) :
    ∃ s', stepR now i s = some s' ∧ KR x now (i + 1) s' ∧ s'.1.length + s.2.1.length = s.1.length + s'.2.1.length := by
  have hn := h.rch now h.nw
  have hb := hn.b24 hx
  have hat := hb.at (i : Int)
  have hlen : s.1.length ≤ 331776 := len24 s.1 h.nt fun q hq => (h.rch q (h.sub q hq)).b24 hx
  have hat0 : ∀ j : Int, 0 ≤ j → True := fun _ _ => trivial
  obtain ⟨todo, met, seen⟩ := s
  unfold stepR
  rw [if_pos hat.1, if_pos hat.2, nextR_eq hb i hi]
  simp only at h hlen ⊢
  have hset := fun v (hv : 0 ≤ v) => sn_set h.len (t := now.at i) (v := v) hat hv
  have hsn : ∀ v, 0 ≤ v → Sn (seen.set (now.at i).toNat true) v → Cv x v := by
    intro v hv hs
    rcases (hset v hv).1 hs with rfl | hs
    · exact ⟨now, hn, at_mem now i⟩
    · exact h.sn v hv hs
  have hkeep : ∀ v, 0 ≤ v → Sn seen v → Sn (seen.set (now.at i).toNat true) v := fun v hv hs => (hset v hv).2 (.inr hs)
  have hnew : Sn (seen.set (now.at i).toNat true) (now.at i) := (hset _ hat.1).2 (.inl rfl)
  have same : tR now i ∈ met → KR x now (i + 1) (todo, met, seen.set (now.at i).toNat true) := by
    intro hin
    refine ⟨h.nm, h.nt, h.sub, h.rch, h.nw, h.nwt, ?_, ?_, hsn, by rw [List.length_set]; exact h.len, h.st⟩
    · intro p hp hpt hpn
      have := h.cl p hp hpt hpn
      exact ⟨this.1, fun j hj => hkeep _ ((h.rch p hp).b24 hx |>.at j).1 (this.2 j hj)⟩
    · intro j hj
      by_cases e : j = i
      · subst e; exact ⟨hin, hnew⟩
      · have := h.dn j (by omega)
        exact ⟨this.1, hkeep _ (hb.at j).1 this.2⟩
  by_cases h1 : tR now i = now
  · rw [if_pos ((eqQ_iff _ _).2 h1)]
    exact ⟨_, rfl, same (by rw [h1]; exact h.nw), rfl⟩
  rw [if_neg (fun e => h1 ((eqQ_iff _ _).1 e))]
  by_cases h2 : tR now i ∈ met
  · rw [if_pos ((inQ_iff _ _).2 h2)]
    exact ⟨_, rfl, same h2, rfl⟩
  rw [if_neg (fun e => h2 ((inQ_iff _ _).1 e)), if_pos (by omega)]
  refine ⟨_, rfl, ?_, by simp only [List.length_append, List.length_singleton]; omega⟩
  refine ⟨?_, ?_, ?_, ?_, ?_, ?_, ?_, ?_, hsn, by simp only [List.length_set]; exact h.len, ?_⟩
  · simp only
    rw [List.nodup_append]
    exact ⟨h.nm, by simp, fun a ha b hb e => by rw [List.mem_singleton] at hb; subst hb; subst e; exact h2 ha⟩
  · simp only
    rw [List.nodup_append]
    exact ⟨h.nt, by simp, fun a ha b hb e => by rw [List.mem_singleton] at hb; subst hb; subst e; exact h2 (h.sub _ ha)⟩
  · intro p hp
    simp only [List.mem_append, List.mem_singleton] at hp ⊢
    rcases hp with hp | hp
    · exact .inl (h.sub p hp)
    · exact .inr hp
  · intro p hp
    simp only [List.mem_append, List.mem_singleton] at hp
    rcases hp with hp | rfl
    · exact h.rch p hp
    · exact hn.turn i (by omega)
  · simp only [List.mem_append]
    exact .inl h.nw
  · simp only [List.mem_append, List.mem_singleton]
    rintro (hp | hp)
    · exact h.nwt hp
    · exact h1 hp.symm
  · intro p hp hpt hpn
    simp only [List.mem_append, List.mem_singleton, not_or] at hp hpt ⊢
    have hp' := hp.resolve_right hpt.2
    have := h.cl p hp' hpt.1 hpn
    exact ⟨fun j hj => .inl (this.1 j hj), fun j hj => hkeep _ ((h.rch p hp').b24 hx |>.at j).1 (this.2 j hj)⟩
  · intro j hj
    simp only [List.mem_append, List.mem_singleton]
    by_cases e : j = i
    · subst e; exact ⟨.inr rfl, hnew⟩
    · have := h.dn j (by omega)
      exact ⟨.inl this.1, hkeep _ (hb.at j).1 this.2⟩
  · simp only [List.mem_append]
    exact .inl h.st
theorem KR.iter {x now : Q4} {s : List Q4 × List Q4 × List Bool} (hx : B24 x) (h : KR x now 0 s) : ∀ n : Nat, n ≤ 4 → ∃ s', iterR now s n = some s' ∧ KR x now n s' ∧ s'.1.length + s.2.1.length = s.1.length + s'.2.1.length
  | 0, _ => ⟨s, rfl, h, rfl⟩
  | n + 1, hn => by
    obtain ⟨s1, e1, k1, l1⟩ := KR.iter hx h n (by omega)
    obtain ⟨s2, e2, k2, l2⟩ := k1.step hx (by omega)
    exact ⟨s2, by rw [iterR, e1, Option.bind_some, e2], k2, by omega⟩
structure JR (x : Q4) (todo met : List Q4) (seen : List Bool) : Prop where
  nm : met.Nodup
  nt : todo.Nodup
  sub : ∀ p ∈ todo, p ∈ met
  rch : ∀ p ∈ met, Rch x p
  cl : ∀ p ∈ met, p ∉ todo → (∀ j : Nat, j < 4 → tR p j ∈ met) ∧ ∀ j : Nat, j < 4 → Sn seen (p.at j)
  sn : ∀ v, 0 ≤ v → Sn seen v → Cv x v
  len : seen.length = 24
  st : x ∈ met
theorem loop_f {x : Q4} (hx : B24 x) : ∀ (k : Nat) (todo met : List Q4) (seen : List Bool), JR x todo met seen → todo.length + 331776 < met.length + k → ∃ s, loopR k todo met seen = some s ∧ s.length = 24 ∧ ∀ v, 0 ≤ v → (Sn s v ↔ Cv x v) := by
  intro k
  induction k with
  | zero =>
    intro todo met seen h hk
    have := len24 met h.nm fun q hq => (h.rch q hq).b24 hx
    omega
  | succ k ih =>
    intro todo met seen h hk
    rw [loopR]
    by_cases h0 : todo.length = 0
    · rw [if_pos h0]
      rw [List.length_eq_zero_iff] at h0
      subst h0
      refine ⟨seen, rfl, h.len, fun v hv => ⟨h.sn v hv, ?_⟩⟩
      have all : ∀ p, Rch x p → p ∈ met := by
        intro p hp
        induction hp with
        | refl => exact h.st
        | @turn p i _ hi ih =>
          have := (h.cl p ih (List.not_mem_nil)).1 i.toNat (by omega)
          rwa [show ((i.toNat : Nat) : Int) = i by omega] at this
      rintro ⟨p, hp, hv⟩
      obtain ⟨i, hi, e⟩ := mem_at p v hv
      have := (h.cl p (all p hp) (List.not_mem_nil)).2 i.toNat (by omega)
      rw [show ((i.toNat : Nat) : Int) = i by omega, e] at this
      exact this
    · rw [if_neg h0]
      have hne : todo ≠ [] := fun e => h0 (by rw [e]; rfl)
      have e1 : todo.getD (todo.length - 1) z58 = todo.getLast hne := by
        rw [List.getLast_eq_getElem, List.getD_eq_getElem?_getD, List.getElem?_eq_getElem (by omega), Option.getD_some]
      have e2 : todo.take (todo.length - 1) = todo.dropLast := by rw [List.dropLast_eq_take]
      rw [e1, e2]
      have hsplit := List.dropLast_concat_getLast hne
      generalize todo.getLast hne = now at *
      generalize todo.dropLast = rest at *
      subst hsplit
      have hnd := h.nt
      rw [List.nodup_append] at hnd
      have hnr : now ∉ rest := fun hm => hnd.2.2 now hm now (by simp) rfl
      have hK : KR x now 0 (rest, met, seen) := by
        refine ⟨h.nm, hnd.1, fun p hp => h.sub p (by simp [hp]), h.rch, h.sub now (by simp), hnr, ?_, fun j hj => absurd hj (Nat.not_lt_zero j), h.sn, h.len, h.st⟩
        intro p hp hpt hpn
        exact h.cl p hp (by simp [hpn]; exact hpt)
      obtain ⟨s', es, k', l'⟩ := hK.iter hx 4 (Nat.le_refl 4)
      rw [es, Option.bind_some]
      simp only [List.length_append, List.length_singleton] at hk l'
      refine ih s'.1 s'.2.1 s'.2.2 ⟨k'.nm, k'.nt, k'.sub, k'.rch, ?_, k'.sn, k'.len, k'.st⟩ (by omega)
      intro p hp hpt
      by_cases e : p = now
      · subst e
        exact ⟨fun j hj => (k'.dn j hj).1, fun j hj => (k'.dn j hj).2⟩
      · exact k'.cl p hp hpt e
theorem loop_start (x : Q4) : JR x [x] [x] (List.replicate 24 false) := by
  refine ⟨by simp, by simp, fun p hp => hp, fun p hp => ?_, fun p hp hpt => absurd hp hpt, ?_, List.length_replicate, by simp⟩
  · rw [List.mem_singleton] at hp; rw [hp]; exact .refl
  · intro v hv hs
    unfold Sn at hs
    rw [List.getD_eq_getElem?_getD, List.getElem?_replicate] at hs
    split at hs <;> simp at hs
theorem restQ_eq {q : Q4} (h : InA q) : restQ q = rq q := by
  unfold InA InR at h
  unfold restQ rq
  rw [restI_eq _ (by omega), restI_eq _ (by omega), restI_eq _ (by omega), restI_eq _ (by omega)]
/-- The numbers of a list of yes and no. -/
theorem outR_mem (s : List Bool) (n : Nat) (v : Int) : v ∈ outR s n ↔ 0 ≤ v ∧ v < n ∧ Sn s v := by
  induction n with
  | zero => simp only [outR, List.not_mem_nil, false_iff]; omega
  | succ n ih =>
    have hn : Sn s (n : Int) ↔ s.getD n false = true := by unfold Sn; rw [Int.toNat_natCast]
    rw [outR]
    by_cases h : s.getD n false = true
    · rw [if_pos h, List.mem_append, List.mem_singleton, ih]
      constructor
      · rintro (⟨h1, h2, h3⟩ | rfl)
        · exact ⟨h1, by omega, h3⟩
        · exact ⟨by omega, by omega, hn.2 h⟩
      · rintro ⟨h1, h2, h3⟩
        by_cases e : v = n
        · exact .inr e
        · exact .inl ⟨h1, by omega, h3⟩
    · rw [if_neg h, ih]
      constructor
      · rintro ⟨h1, h2, h3⟩; exact ⟨h1, by omega, h3⟩
      · rintro ⟨h1, h2, h3⟩
        by_cases e : v = n
        · subst e; exact absurd (hn.1 h3) h
        · exact ⟨h1, by omega, h3⟩
theorem outR_lt (s : List Bool) (n : Nat) : (outR s n).Pairwise (· < ·) := by
  induction n with
  | zero => exact List.Pairwise.nil
  | succ n ih =>
    rw [outR]
    split
    · rw [List.pairwise_append]
      refine ⟨ih, by simp, fun x hx y hy => ?_⟩
      rw [List.mem_singleton] at hy
      have := (outR_mem s n x).1 hx
      omega
    · exact ih
/-- What Rests returns: ascending, just the numbers of the quads modulo 24 that are reached. -/
structure IsRests (q : Q4) (L : List Int) : Prop where
  mem : ∀ v, v ∈ L ↔ Cv (rq q) v
  lt : L.Pairwise (· < ·)
theorem IsRests.unique {q : Q4} {L L' : List Int} (h : IsRests q L) (h' : IsRests q L') : L = L' := by
  refine List.Perm.eq_of_pairwise (le := fun a b => a ≤ b) (fun a b _ _ => Int.le_antisymm) (h.lt.imp Int.le_of_lt) (h'.lt.imp Int.le_of_lt) ?_
  refine (List.perm_ext_iff_of_nodup (h.lt.imp fun g => by omega) (h'.lt.imp fun g => by omega)).2 fun v => ?_
  rw [h.mem, h'.mem]
theorem out_rests {x : Q4} (hx : B24 x) {s : List Bool} (h : ∀ v, 0 ≤ v → (Sn s v ↔ Cv x v)) (v : Int) : v ∈ outR s 24 ↔ Cv x v := by
  rw [outR_mem]
  constructor
  · rintro ⟨h1, _, h3⟩; exact (h v h1).1 h3
  · intro hc
    have := Cv_range hx hc
    exact ⟨this.1, this.2, (h v this.1).2 hc⟩
theorem Rests_f {q : Q4} (hq : QQ q) : ∃ L, IsRests q L ∧ ∀ k, 5000000000000 ≤ k → discs_Rests.f k q.a q.b q.c q.d = some (L, 0) := by
  have hr := Rt_root hq
  have hb := rq_b (Rt q)
  have key : ∀ k, 5000000000000 ≤ k → ∃ L, IsRests q L ∧ discs_Rests.f k q.a q.b q.c q.d = some (L, 0) := by
    intro k hk
    have hsm := sm_le hq
    obtain ⟨s, es, hl, hs⟩ := loop_f hb k [rq (Rt q)] [rq (Rt q)] (List.replicate 24 false) (loop_start _) (by simp only [List.length_singleton]; omega)
    refine ⟨outR s 24, ⟨fun v => ?_, outR_lt s 24⟩, ?_⟩
    · rw [out_rests hb hs v, Cv_root q hq]
    · unfold discs_Rests.f
      have e := is_f q.a q.b q.c q.d
      unfold discs_quad_is.f at e
      rw [e, Option.bind_some, if_pos (decide_eq_true (show IsQ q.a q.b q.c q.d from hq)), rootL_f q hq k 0 (by omega) (by omega) (by omega), Option.bind_some]
      simp only
      rw [restQ_eq hr.1.inA, es, Option.bind_some]
  obtain ⟨L, hL, _⟩ := key 5000000000000 (Nat.le_refl _)
  refine ⟨L, hL, fun k hk => ?_⟩
  obtain ⟨L', hL', e⟩ := key k hk
  rw [e, hL.unique hL']
theorem Rests_bad {q : Q4} (hq : ¬ QQ q) (k : Nat) : discs_Rests.f k q.a q.b q.c q.d = some ([], 2) := by
  unfold discs_Rests.f
  have e := is_f q.a q.b q.c q.d
  unfold discs_quad_is.f at e
  rw [e, Option.bind_some, if_neg (by rw [decide_eq_false (show ¬ IsQ q.a q.b q.c q.d from hq)]; decide)]
end Go.Proofs.Ytlfmafebmnggeaa.Pure
