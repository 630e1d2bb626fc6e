/- The discs that come of a quad by turns, each one greater than all before: their tree, how many there can be, and what the closure on appends. -/
import Derived.Test.YtlfmafebmnggeaaDReach
import Derived.Test.YtlfmafebmnggeaaHandDiscs
namespace Go.Proofs.Ytlfmafebmnggeaa.Pure
open Go.RowKit Go.Proofs.Ytlfmafebmnggeaa.Print Go.Proofs.YtlfmafebmnggeaaW.PrintWords Go.Proofs.YtlfmafebmnggeaaW.PrintLast
set_option linter.unusedVariables false
set_option linter.unusedSimpArgs false
/-- All sums of two bends are above 0. -/
def Pos (q : Q4) : Prop := 0 < q.a + q.b ∧ 0 < q.a + q.c ∧ 0 < q.a + q.d ∧ 0 < q.b + q.c ∧ 0 < q.b + q.d ∧ 0 < q.c + q.d
/-- The bend at l was turned last. -/
structure St (q : Q4) (l : Int) : Prop where
  lo : 0 ≤ l
  hi : l < 4
  pos : Pos q
  top : sm q ≤ 2 * q.at l
  oth : ∀ j, 0 ≤ j ∧ j < 4 → j ≠ l → 2 * q.at j < sm q
theorem St.step {q : Q4} {i : Int} (hi : 0 ≤ i ∧ i < 4) (hp : Pos q) (h : 2 * q.at i ≤ sm q) : St (tq q i) i ∧ sm q ≤ sm (tq q i) ∧ (2 * q.at i < sm q → sm q < sm (tq q i)) ∧ 0 < tn q i := by
  have hs := sm_tq q i hi
  have ht := tn_sm q i
  have hat := tq_at q i hi
  unfold Pos at hp
  refine ⟨⟨hi.1, hi.2, ?_, by omega, ?_⟩, by omega, fun _ => by omega, ?_⟩
  · clear hs hat
    unfold Pos tq sm at *
    rcases four i hi with rfl | rfl | rfl | rfl <;> simp [Q4.at, Q4.put] at h ht ⊢ <;> omega
  · intro j hj hji
    rw [tq_other q i j hi hj hji]
    clear hat
    rw [hs, ht]
    clear hs ht
    unfold sm at *
    rcases four i hi with rfl | rfl | rfl | rfl <;> rcases four j hj with rfl | rfl | rfl | rfl <;> first | exact absurd rfl hji | (simp [Q4.at] at h ⊢; omega)
  · rw [ht]
    clear hs hat
    unfold sm at *
    rcases four i hi with rfl | rfl | rfl | rfl <;> simp [Q4.at] at h ht ⊢ <;> omega
/-- All bends of a quad lie between -3000 and 3000. -/
def Box (q : Q4) : Prop := (-3000 ≤ q.a ∧ q.a ≤ 3000) ∧ (-3000 ≤ q.b ∧ q.b ≤ 3000) ∧ (-3000 ≤ q.c ∧ q.c ≤ 3000) ∧ (-3000 ≤ q.d ∧ q.d ≤ 3000)
theorem St.box {q : Q4} {l : Int} (h : St q l) (m : Int) (hm : m ≤ 3000) (hl : q.at l ≤ m) : Box q ∧ sm q ≤ 6000 ∧ 0 < sm q := by
  have hp := h.pos
  have ht := h.top
  unfold Pos at hp
  unfold Box sm at *
  rcases four l ⟨h.lo, h.hi⟩ with e | e | e | e <;> subst e <;> simp [Q4.at] at ht hl <;> omega
theorem Box.inA {q : Q4} (h : Box q) : InA q := by
  unfold Box at h
  unfold InA InR
  omega
/-- The pieces of the tree. -/
def pc (T : Q4 → Int → List (Q4 × Int)) (m : Int) (q : Q4) (l i : Int) : List (Q4 × Int) := if i = l ∨ m < tn q i then [] else (tq q i, i) :: T (tq q i) i
def tr : Nat → Int → Q4 → Int → List (Q4 × Int)
  | 0, _, _, _ => []
  | g + 1, m, q, l => pc (tr g m) m q l 0 ++ (pc (tr g m) m q l 1 ++ (pc (tr g m) m q l 2 ++ pc (tr g m) m q l 3))
theorem mem_tr {g : Nat} {m : Int} {q : Q4} {l : Int} {p : Q4 × Int} : p ∈ tr (g + 1) m q l ↔ ∃ i, (0 ≤ i ∧ i < 4) ∧ p ∈ pc (tr g m) m q l i := by
  rw [tr, List.mem_append, List.mem_append, List.mem_append]
  constructor
  · rintro (h | h | h | h)
    · exact ⟨0, by omega, h⟩
    · exact ⟨1, by omega, h⟩
    · exact ⟨2, by omega, h⟩
    · exact ⟨3, by omega, h⟩
  · rintro ⟨i, hi, h⟩
    rcases four i hi with rfl | rfl | rfl | rfl
    · exact .inl h
    · exact .inr (.inl h)
    · exact .inr (.inr (.inl h))
    · exact .inr (.inr (.inr h))
theorem mem_pc {T : Q4 → Int → List (Q4 × Int)} {m : Int} {q : Q4} {l i : Int} {p : Q4 × Int} (h : p ∈ pc T m q l i) : i ≠ l ∧ tn q i ≤ m ∧ (p = (tq q i, i) ∨ p ∈ T (tq q i) i) := by
  unfold pc at h
  split at h
  · cases h
  · rename_i hn
    rw [List.mem_cons] at h
    exact ⟨by omega, by omega, h⟩
/-- What may be turned: any bend but that at l. -/
def Go1 (q : Q4) (l : Int) : Prop := Pos q ∧ ∀ j, 0 ≤ j ∧ j < 4 → j ≠ l → 2 * q.at j ≤ sm q
theorem St.go1 {q : Q4} {l : Int} (h : St q l) : Go1 q l := ⟨h.pos, fun j hj hjl => by have := h.oth j hj hjl; omega⟩
theorem tr_st (m : Int) : ∀ (g : Nat) (q : Q4) (l : Int), Go1 q l → ∀ p, p ∈ tr g m q l → St p.1 p.2 ∧ p.1.at p.2 ≤ m := by
  intro g
  induction g with
  | zero => intro q l _ p h; cases h
  | succ g ih =>
    intro q l hG p h
    obtain ⟨i, hi, h⟩ := mem_tr.1 h
    obtain ⟨h1, h2, h3⟩ := mem_pc h
    have hs := (St.step hi hG.1 (hG.2 i hi h1)).1
    rcases h3 with rfl | h3
    · exact ⟨hs, by simp only; rw [tq_at q i hi]; exact h2⟩
    · exact ih _ _ hs.go1 p h3
/-- The bend that was turned last. -/
def top (q : Q4) : Int := if sm q ≤ 2 * q.a then 0 else if sm q ≤ 2 * q.b then 1 else if sm q ≤ 2 * q.c then 2 else 3
theorem St.top_eq {q : Q4} {l : Int} (h : St q l) : _root_.Go.Proofs.Ytlfmafebmnggeaa.Pure.top q = l := by
  have ht := h.top
  have h0 := h.oth 0 (by omega)
  have h1 := h.oth 1 (by omega)
  have h2 := h.oth 2 (by omega)
  have h3 := h.oth 3 (by omega)
  have hl := h.lo
  have hh := h.hi
  unfold Pure.top
  unfold Q4.at at *
  simp at h0 h1 h2 h3
  rcases four l ⟨hl, hh⟩ with e | e | e | e <;> subst e <;> simp at ht h0 h1 h2 h3 <;> (repeat' split) <;> omega
def par (q : Q4) : Q4 := tq q (top q)
theorem par_tq {q : Q4} {i : Int} (hi : 0 ≤ i ∧ i < 4) (h : St (tq q i) i) : par (tq q i) = q := by
  unfold par
  rw [h.top_eq, tq_back q i hi]
def anc : Nat → Q4 → Q4
  | 0, p => p
  | n + 1, p => par (anc n p)
/-- p comes of r. -/
def Blw (p r : Q4) : Prop := ∃ n, anc n p = r ∧ ∀ m, m ≤ n → sm r ≤ sm (anc m p)
theorem tr_blw (m : Int) : ∀ (g : Nat) (q : Q4) (l : Int), Go1 q l → ∀ i, (0 ≤ i ∧ i < 4) → ∀ p, p ∈ pc (tr g m) m q l i → Blw p.1 (tq q i) := by
  intro g
  induction g with
  | zero =>
    intro q l hG i hi p h
    obtain ⟨h1, h2, h3⟩ := mem_pc h
    rcases h3 with rfl | h3
    · exact ⟨0, rfl, fun m hm => by rw [Nat.le_zero.1 hm]; exact Int.le_refl _⟩
    · cases h3
  | succ g ih =>
    intro q l hG i hi p h
    obtain ⟨h1, h2, h3⟩ := mem_pc h
    rcases h3 with rfl | h3
    · exact ⟨0, rfl, fun m hm => by rw [Nat.le_zero.1 hm]; exact Int.le_refl _⟩
    · have hs := (St.step hi hG.1 (hG.2 i hi h1)).1
      obtain ⟨j, hj, h4⟩ := mem_tr.1 h3
      have hb := ih _ _ hs.go1 j hj p h4
      have hji := (mem_pc h4).1
      have hs2 := St.step hj hs.pos (hs.go1.2 j hj hji)
      obtain ⟨n, e, hn⟩ := hb
      have e2 : anc (n + 1) p.1 = tq q i := by rw [anc, e, par_tq hj hs2.1]
      refine ⟨n + 1, e2, ?_⟩
      intro u hu
      by_cases hun : u ≤ n
      · have := hn u hun
        have := hs2.2.1
        omega
      · rw [show u = n + 1 by omega, e2]
        exact Int.le_refl _
theorem anc_add (n m : Nat) (p : Q4) : anc (n + m) p = anc n (anc m p) := by
  induction n with
  | zero => rw [Nat.zero_add]; rfl
  | succ n ih => rw [Nat.succ_add, anc, anc, ih]
theorem blw_one {q : Q4} {l : Int} (hq : St q l) {i j : Int} (hi : 0 ≤ i ∧ i < 4) (hj : 0 ≤ j ∧ j < 4) (hil : i ≠ l) (hjl : j ≠ l) {p : Q4} (h1 : Blw p (tq q i)) (h2 : Blw p (tq q j)) : i = j := by
  have si := St.step hi hq.pos (hq.go1.2 i hi hil)
  have sj := St.step hj hq.pos (hq.go1.2 j hj hjl)
  have key : ∀ (i j : Int), (0 ≤ i ∧ i < 4) → i ≠ l → j ≠ l → (0 ≤ j ∧ j < 4) → ∀ n n', n < n' → anc n p = tq q i → anc n' p = tq q j → (∀ m, m ≤ n' → sm (tq q j) ≤ sm (anc m p)) → False := by
    intro i j hi hil hjl hj n n' hlt e1 e2 h
    have si := St.step hi hq.pos (hq.go1.2 i hi hil)
    have sj := St.step hj hq.pos (hq.go1.2 j hj hjl)
    have e3 : anc (n + 1) p = q := by rw [anc, e1, par_tq hi si.1]
    have := h (n + 1) (by omega)
    rw [e3] at this
    have := sj.2.2.1 (hq.oth j hj hjl)
    omega
  obtain ⟨n, e1, g1⟩ := h1
  obtain ⟨n', e2, g2⟩ := h2
  rcases Nat.lt_trichotomy n n' with h | h | h
  · exact (key i j hi hil hjl hj n n' h e1 e2 g2).elim
  · subst h
    rw [← si.1.top_eq, ← sj.1.top_eq, ← e1, ← e2]
  · exact (key j i hj hjl hil hi n' n h e2 e1 g1).elim
def Dif (x y : Q4 × Int) : Prop := x.1 ≠ y.1
theorem tr_sm (m : Int) (g : Nat) (q : Q4) (l : Int) (hq : St q l) (p : Q4 × Int) (h : p ∈ tr g m q l) : sm q < sm p.1 := by
  cases g with
  | zero => cases h
  | succ g =>
    obtain ⟨i, hi, h⟩ := mem_tr.1 h
    have hil := (mem_pc h).1
    obtain ⟨n, e, hn⟩ := tr_blw m g q l hq.go1 i hi p h
    have := hn 0 (by omega)
    have := (St.step hi hq.pos (hq.go1.2 i hi hil)).2.2.1 (hq.oth i hi hil)
    simp only [anc] at *
    omega
theorem pc_dif (m : Int) (g : Nat) (q : Q4) (l : Int) (hG : Go1 q l) (i : Int) (hi : 0 ≤ i ∧ i < 4) (ih : ∀ (q : Q4) (l : Int), St q l → (tr g m q l).Pairwise Dif) : (pc (tr g m) m q l i).Pairwise Dif := by
  unfold pc
  split
  · exact List.Pairwise.nil
  · rename_i hn
    have si := (St.step hi hG.1 (hG.2 i hi (by omega))).1
    refine List.Pairwise.cons ?_ (ih _ _ si)
    intro p hp e
    have := tr_sm m g _ _ si p hp
    simp only at e
    rw [e] at this
    omega
theorem tr_dif (m : Int) : ∀ (g : Nat) (q : Q4) (l : Int), St q l → (tr g m q l).Pairwise Dif := by
  intro g
  induction g with
  | zero => intro q l _; exact List.Pairwise.nil
  | succ g ih =>
    intro q l hq
    have P := fun i hi => pc_dif m g q l hq.go1 i hi ih
    have D : ∀ i j, (0 ≤ i ∧ i < 4) → (0 ≤ j ∧ j < 4) → i ≠ j → ∀ x ∈ pc (tr g m) m q l i, ∀ y ∈ pc (tr g m) m q l j, Dif x y := by
      intro i j hi hj hij x hx y hy e
      have b1 := tr_blw m g q l hq.go1 i hi x hx
      have b2 := tr_blw m g q l hq.go1 j hj y hy
      rw [e] at b1
      exact hij (blw_one hq hi hj (mem_pc hx).1 (mem_pc hy).1 b1 b2)
    rw [tr, List.pairwise_append, List.pairwise_append, List.pairwise_append]
    refine ⟨P 0 (by omega), ⟨P 1 (by omega), ⟨P 2 (by omega), P 3 (by omega), D 2 3 (by omega) (by omega) (by omega)⟩, ?_⟩, ?_⟩
    · intro x hx y hy
      rw [List.mem_append] at hy
      rcases hy with hy | hy
      · exact D 1 2 (by omega) (by omega) (by omega) x hx y hy
      · exact D 1 3 (by omega) (by omega) (by omega) x hx y hy
    · intro x hx y hy
      rw [List.mem_append, List.mem_append] at hy
      rcases hy with hy | hy | hy
      · exact D 0 1 (by omega) (by omega) (by omega) x hx y hy
      · exact D 0 2 (by omega) (by omega) (by omega) x hx y hy
      · exact D 0 3 (by omega) (by omega) (by omega) x hx y hy
/-- A quad of the box as one number. -/
def cdq (q : Q4) : Nat := (((q.a + 3000) * 6001 + (q.b + 3000)) * 36012001 + ((q.c + 3000) * 6001 + (q.d + 3000))).toNat
theorem cdq_lt {q : Q4} (h : Box q) : cdq q < 1296864216024001 := by
  unfold Box at h
  unfold cdq
  omega
theorem two_inj {x y x' y' k : Int} (hy : 0 ≤ y ∧ y < k) (hy' : 0 ≤ y' ∧ y' < k) (h : x * k + y = x' * k + y') : x = x' ∧ y = y' := by
  have e1 : (x * k + y) / k = x := by rw [Int.add_comm, Int.add_mul_ediv_right _ _ (by omega), Int.ediv_eq_zero_of_lt hy.1 hy.2, Int.zero_add]
  have e2 : (x' * k + y') / k = x' := by rw [Int.add_comm, Int.add_mul_ediv_right _ _ (by omega), Int.ediv_eq_zero_of_lt hy'.1 hy'.2, Int.zero_add]
  have e3 : x = x' := by rw [← e1, ← e2, h]
  subst e3
  exact ⟨rfl, by omega⟩
theorem cdq_inj {q r : Q4} (h : Box q) (h' : Box r) (e : cdq q = cdq r) : q = r := by
  obtain ⟨a, b, c, d⟩ := q
  obtain ⟨a', b', c', d'⟩ := r
  unfold Box at h h'
  unfold cdq at e
  simp only at h h' e
  obtain ⟨e1, e2⟩ := two_inj (x := (a + 3000) * 6001 + (b + 3000)) (y := (c + 3000) * 6001 + (d + 3000)) (x' := (a' + 3000) * 6001 + (b' + 3000)) (y' := (c' + 3000) * 6001 + (d' + 3000)) (k := 36012001) (by omega) (by omega) (by omega)
  obtain ⟨e3, e4⟩ := two_inj (k := 6001) (by omega) (by omega) e1
  obtain ⟨e5, e6⟩ := two_inj (k := 6001) (by omega) (by omega) e2
  rw [show a = a' by omega, show b = b' by omega, show c = c' by omega, show d = d' by omega]
theorem nodup_len (l : List Nat) (nd : l.Nodup) (M : Nat) (h : ∀ x ∈ l, x < M) : l.length ≤ M := by
  have hp : l.Perm ((List.range M).filter fun x => decide (x ∈ l)) := by
    refine (List.perm_ext_iff_of_nodup nd (List.Pairwise.filter _ List.nodup_range)).2 fun x => ?_
    rw [List.mem_filter, List.mem_range, decide_eq_true_eq]
    exact ⟨fun hx => ⟨h x hx, hx⟩, fun hx => hx.2⟩
  rw [hp.length_eq]
  exact Nat.le_trans (List.length_filter_le _ _) (by rw [List.length_range]; exact Nat.le_refl _)
theorem dif_len (l : List (Q4 × Int)) (h : l.Pairwise Dif) (hb : ∀ p ∈ l, Box p.1) : l.length ≤ 1296864216024001 := by
  have := nodup_len (l.map fun p => cdq p.1) ?_ 1296864216024001 ?_
  · rw [List.length_map] at this; exact this
  · unfold List.Nodup
    rw [List.pairwise_map]
    refine List.Pairwise.imp_of_mem ?_ h
    intro x y hx hy hd e
    exact hd (cdq_inj (hb x hx) (hb y hy) e)
  · intro x hx
    rw [List.mem_map] at hx
    obtain ⟨p, hp, rfl⟩ := hx
    exact cdq_lt (hb p hp)
/-- There are fewer than 2^53 discs. -/
theorem tr_len (m : Int) (hm : m ≤ 3000) (g : Nat) (q : Q4) (l : Int) (hG : Go1 q l) : (tr g m q l).length ≤ 4 * 1296864216024001 := by
  cases g with
  | zero => simp [tr]
  | succ g =>
    have P : ∀ i, (0 ≤ i ∧ i < 4) → (pc (tr g m) m q l i).length ≤ 1296864216024001 := by
      intro i hi
      refine dif_len _ (pc_dif m g q l hG i hi fun q l h => tr_dif m g q l h) ?_
      intro p hp
      have := tr_st m (g + 1) q l hG p (mem_tr.2 ⟨i, hi, hp⟩)
      exact (this.1.box m hm this.2).1
    have := P 0 (by omega)
    have := P 1 (by omega)
    have := P 2 (by omega)
    have := P 3 (by omega)
    rw [tr, List.length_append, List.length_append, List.length_append]
    omega
def bd (p : Q4 × Int) : Int := p.1.at p.2
/-- The bends of the tree, as many as there is room for. -/
def ap (out : List Int) (T : List (Q4 × Int)) : List Int := out ++ (T.map bd).take (20001 - out.length)
theorem ap_nil (out : List Int) : ap out [] = out := by simp [ap]
theorem ap_len (out : List Int) (T : List (Q4 × Int)) (h : out.length ≤ 20001) : (ap out T).length ≤ 20001 := by
  unfold ap
  rw [List.length_append, List.length_take]
  omega
theorem ap_app (out : List Int) (T U : List (Q4 × Int)) : ap (ap out T) U = ap out (T ++ U) := by
  unfold ap
  rw [List.length_append, List.length_take, List.map_append, List.take_append, List.append_assoc]
  congr 3
  rw [List.length_map]
  omega
theorem ap_full (out : List Int) (T : List (Q4 × Int)) (h : ¬ out.length ≤ 20000) : ap out T = out := by
  unfold ap
  rw [show 20001 - out.length = 0 by omega, List.take_zero, List.append_nil]
theorem ap_one (out : List Int) (p : Q4 × Int) (h : out.length ≤ 20000) : ap out [p] = out ++ [bd p] := by
  unfold ap
  rw [List.map_cons, List.map_nil, List.take_of_length_le (by simp; omega)]
theorem on_step (T : Q4 → Int → List (Q4 × Int)) (K : Nat) (m : Int) (q : Q4) (l i : Int) (hi : 0 ≤ i ∧ i < 4) (ha : InA q) (out : List Int) (ho : out.length ≤ 20001)
    (H : i ≠ l → tn q i ≤ m → ∀ o : List Int, o.length ≤ 20001 → discsOn.on K m (tq q i) i o = some (ap o (T (tq q i) i))) :
    discsOn.lp (K + 1) m q l out i = discsOn.lp K m q l (ap out (pc T m q l i)) (i + 1) := by
  have hr : InR (q.at i) := by
    unfold InA at ha
    unfold Q4.at
    rcases four i hi with rfl | rfl | rfl | rfl <;> simp <;> first | exact ha.1 | exact ha.2.1 | exact ha.2.2.1 | exact ha.2.2.2
  rw [discsOn.lp, if_pos hi.2, w64 (n := i + 1) (by omega) (by omega), turnedF_eq q i ha hr, turnF_eq q i ha hr]
  unfold pc
  by_cases h1 : i = l
  · rw [if_pos h1, if_pos (.inl h1), ap_nil]
  · rw [if_neg h1]
    by_cases h2 : tn q i ≤ m
    · rw [if_pos h2, if_neg (show ¬ (i = l ∨ m < tn q i) by omega)]
      by_cases h3 : out.length ≤ 20000
      · rw [if_pos (by omega), H h1 h2 _ (by rw [List.length_append, List.length_singleton]; omega), Option.bind_some]
        have e := ap_one out (tq q i, i) h3
        have eb : bd (tq q i, i) = tn q i := tq_at q i hi
        rw [← eb, ← e, ap_app]
        rfl
      · rw [if_neg (by omega), ap_full out _ h3]
    · rw [if_neg h2, if_pos (show i = l ∨ m < tn q i by omega), ap_nil]
theorem on_all (g K : Nat) (m : Int) (q : Q4) (l : Int) (ha : InA q) (out : List Int) (ho : out.length ≤ 20001)
    (H : ∀ K', K ≤ K' → ∀ i, (0 ≤ i ∧ i < 4) → i ≠ l → tn q i ≤ m → ∀ o : List Int, o.length ≤ 20001 → discsOn.on K' m (tq q i) i o = some (ap o (tr g m (tq q i) i))) :
    discsOn.on (K + 6) m q l out = some (ap out (tr (g + 1) m q l)) := by
  rw [discsOn.on, on_step (tr g m) (K + 4) m q l 0 (by omega) ha out ho (H (K + 4) (by omega) 0 (by omega)),
    on_step (tr g m) (K + 3) m q l (0 + 1) (by omega) ha _ (ap_len _ _ ho) (H (K + 3) (by omega) (0 + 1) (by omega)),
    on_step (tr g m) (K + 2) m q l (0 + 1 + 1) (by omega) ha _ (ap_len _ _ (ap_len _ _ ho)) (H (K + 2) (by omega) (0 + 1 + 1) (by omega)),
    on_step (tr g m) (K + 1) m q l (0 + 1 + 1 + 1) (by omega) ha _ (ap_len _ _ (ap_len _ _ (ap_len _ _ ho))) (H (K + 1) (by omega) (0 + 1 + 1 + 1) (by omega)),
    discsOn.lp, if_neg (by decide), ap_app, ap_app, ap_app, tr]
  rfl
theorem on_f (m : Int) (hm : m ≤ 3000) : ∀ (g : Nat) (q : Q4) (l : Int), St q l → q.at l ≤ m → 6001 ≤ sm q + g → ∀ K, 6 * g ≤ K → ∀ out : List Int, out.length ≤ 20001 → discsOn.on K m q l out = some (ap out (tr g m q l)) := by
  intro g
  induction g with
  | zero =>
    intro q l hs hl hg
    have := (hs.box m hm hl).2.1
    omega
  | succ g ih =>
    intro q l hs hl hg K hK out ho
    obtain ⟨K, rfl⟩ : ∃ j, K = j + 6 := ⟨K - 6, by omega⟩
    refine on_all g K m q l (hs.box m hm hl).1.inA out ho ?_
    intro K' hK' i hi hil him o ho
    have si := St.step hi hs.pos (hs.go1.2 i hi hil)
    have := si.2.2.1 (hs.oth i hi hil)
    exact ih _ _ si.1 (by rw [tq_at q i hi]; exact him) (by omega) K' (by omega) o ho
theorem pair_zero {a b c d : Int} (h : IsQ a b c d) (e : a + b = 0) : a = 0 ∧ b = 0 := by
  have h2 := h.2.2
  obtain rfl : b = -a := by omega
  have e1 : a * a * 4 + (c - d) * (c - d) = 0 := by grind
  have := sq_nn a
  have := sq_nn (c - d)
  have := sq_zero (x := a) (by omega)
  omega
/-- Nothing but the bends of a root whose first bend is below 0. -/
theorem root_go {r : Q4} (h : IsRt r) (h0 : r.a ≠ 0) : Go1 r (-1) ∧ r.a < 0 ∧ 0 < r.b := by
  obtain ⟨hq, hs, ha, hd⟩ := h
  have hq' : IsQ r.a r.b r.c r.d := hq
  have p := hq'.pairs
  have q2 : IsQ r.a r.c r.b r.d := ⟨⟨hq'.1.1, hq'.1.2.2.1, hq'.1.2.1, hq'.1.2.2.2⟩, by have := hq'.2.1; omega, by have := hq'.2.2; grind⟩
  have q3 : IsQ r.a r.d r.b r.c := ⟨⟨hq'.1.1, hq'.1.2.2.2, hq'.1.2.1, hq'.1.2.2.1⟩, by have := hq'.2.1; omega, by have := hq'.2.2; grind⟩
  have z1 := fun e => (pair_zero hq' e).1
  have z2 := fun e => (pair_zero q2 e).1
  have z3 := fun e => (pair_zero q3 e).1
  have z4 : r.a + r.b ≠ 0 := fun e => h0 (z1 e)
  unfold Srt at hs
  have hb : 0 < r.b := by omega
  refine ⟨⟨?_, ?_⟩, by omega, hb⟩
  · unfold Pos; omega
  · intro j hj _
    unfold sm
    rcases four j hj with rfl | rfl | rfl | rfl <;> simp [Q4.at] <;> omega
theorem on_root {r : Q4} (h : IsRt r) (h0 : r.a ≠ 0) (m : Int) (hm : m ≤ 3000) (K : Nat) (hK : 50000 ≤ K) (out : List Int) (ho : out.length ≤ 20001) : discsOn.on K m r (-1) out = some (ap out (tr 6001 m r (-1))) := by
  have hg := (root_go h h0).1
  obtain ⟨K, rfl⟩ : ∃ j, K = j + 6 := ⟨K - 6, by omega⟩
  refine on_all 6000 K m r (-1) h.1.inA out ho ?_
  intro K' hK' i hi hil him o ho
  have si := St.step hi hg.1 (hg.2 i hi hil)
  have := h.1.sum_pos
  exact on_f m hm 6000 _ _ si.1 (by rw [tq_at r i hi]; exact him) (by omega) K' (by omega) o ho
/-- What Discs returns. -/
def DL (m : Int) (r : Q4) : List Int := startD m r ++ (tr 6001 m r (-1)).map bd
def DiscsP (q : Q4) (m : Int) : List Int × Int := if QQ q ∧ 1 ≤ m ∧ m ≤ 3000 then (if (Rt q).a = 0 then ([], 9) else if 20000 < (DL m (Rt q)).length then ([], 8) else (isort (DL m (Rt q)), 0)) else ([], 2)
theorem quad_is_f (q : Q4) : quad_is.f q = some (decide (QQ q)) := by
  have h := is_f q.a q.b q.c q.d
  unfold discs_quad_is.f at h
  exact h
theorem startD_len (m : Int) (q : Q4) : (startD m q).length ≤ 4 := by
  unfold startD
  exact Nat.le_trans (List.length_filter_le _ _) (by simp)
theorem startD_pos (m : Int) (q : Q4) (h : q.a ≤ m) : 0 < (startD m q).length := by
  unfold startD
  rw [List.filter_cons_of_pos (by simpa using h)]
  simp
theorem Discs_f (q : Q4) (m : Int) (k : Nat) (hk : 5000000000000 ≤ k) : discs_Discs.f k q.a q.b q.c q.d m = some (DiscsP q m) := by
  unfold discs_Discs.f DiscsP
  rw [quad_is_f, Option.bind_some]
  by_cases hq : QQ q
  rotate_left
  · rw [if_neg (by simpa using hq), if_neg (fun h => hq h.1)]
  rw [if_pos (by simpa using hq)]
  by_cases h1 : m < 1
  · rw [if_pos h1, if_neg (by omega)]
  rw [if_neg h1]
  by_cases h2 : m > 3000
  · rw [if_pos h2, if_neg (by omega)]
  have hsm := sm_le hq
  have hr := Rt_root hq
  rw [if_neg h2, if_pos ⟨hq, by omega, by omega⟩, rootL_f q hq k 0 (by omega) (by omega) (by omega), Option.bind_some]
  simp only
  by_cases h0 : (Rt q).a = 0
  · rw [if_pos h0, if_pos h0]
  have hg := root_go hr h0
  have hs := startD_len m (Rt q)
  have hsp := startD_pos m (Rt q) (by omega)
  rw [if_neg h0, if_neg h0, on_root hr h0 m (by omega) k (by omega) _ (by omega), Option.bind_some]
  have hl : (ap (startD m (Rt q)) (tr 6001 m (Rt q) (-1))).length = min 20001 (DL m (Rt q)).length := by
    unfold ap DL
    rw [List.length_append, List.length_append, List.length_take]
    omega
  by_cases h3 : 20000 < (DL m (Rt q)).length
  · rw [if_pos (by omega), if_pos h3]
  · have hd : (DL m (Rt q)).length = (startD m (Rt q)).length + ((tr 6001 m (Rt q) (-1)).map bd).length := by unfold DL; rw [List.length_append]
    rw [if_neg (by omega), if_neg (by omega), if_neg h3]
    unfold ap
    rw [List.take_of_length_le (by omega)]
    rfl
end Go.Proofs.Ytlfmafebmnggeaa.Pure
