/- What the specification's search counts and finds behind a beginning. -/
import Derived.Test.YtmigibamdeodpaaWaveL
import Derived.Test.YtmigibamdeodpaaHandSearch2
namespace Go.Proofs.Ytmigibamdeodpaa.Pure
open Go.RowKit Go.Proofs.Ytmigibamdeodpaa.Print Go.Proofs.YtmigibamdeodpaaW.PrintWords Go.Proofs.YtmigibamdeodpaaW.PrintLast Go.Proofs.YtmigibamdeodpaaW.PrintMore
/-- A beginning: its numbers, the ones that are left, the mask, and which positions may come. -/
structure Sit (n : Nat) (now left : List Int) (u : Nat) (q : Adm) : Prop where
  hn : n ≤ 10
  perm : (now ++ left).Perm (ups n)
  asc : Asc left
  ql : QL now left q
  up : upB now = true
  mu : u < 2048
  bit : ∀ y, y < 11 → (Nat.testBit u y = true ↔ (y : Int) ∈ now)
theorem Sit.length {n : Nat} {now left : List Int} {u : Nat} {q : Adm} (h : Sit n now left u q) : now.length + left.length = n := by
  have := h.perm.length_eq
  rw [List.length_append, ups_length] at this
  exact this
theorem w64s (y : Nat) (h : y < 11) : wrap64 ((y : Int) + 1) = ((y + 1 : Nat) : Int) := by
  rw [w64 (by omega) (by omega)]
  omega
theorem mem_ups {n : Nat} {x : Int} : x ∈ ups n ↔ 1 ≤ x ∧ x ≤ n := by
  unfold ups
  rw [List.mem_map]
  constructor
  · rintro ⟨i, hi, rfl⟩
    have := List.mem_range.1 hi
    omega
  · intro h
    exact ⟨(x - 1).toNat, List.mem_range.2 (by omega), by omega⟩
theorem ups_nodup (n : Nat) : (ups n).Nodup := by
  unfold ups
  rw [List.nodup_iff_pairwise_ne, List.pairwise_map]
  have := List.nodup_range (n := n)
  rw [List.nodup_iff_pairwise_ne] at this
  exact this.imp (fun hne e => hne (by omega))
theorem Sit.step {n : Nat} {now left : List Int} {u : Nat} {q : Adm} (h : Sit n now left u q) {k : Nat} (hk : k < left.length) (ha : admI q k = true) {x : Nat} (hx : left.getD k 0 = (x : Int)) :
    Sit n (now ++ [left.getD k 0]) (left.eraseIdx k) (u ||| 2 ^ x) (some (k, now.length % 2 == 0)) := by
  have hm : (x : Int) ∈ ups n := by
    rw [← hx]
    exact h.perm.subset (List.mem_append_right _ (getD_mem hk))
  have hx2 := mem_ups.1 hm
  have hx11 : x < 11 := by have := h.hn; omega
  refine ⟨h.hn, ?_, h.asc.erase hk, QL.step h.asc hk, ?_, (mask u x h.mu hx11).2.2.2.2, fun y hy => ?_⟩
  · rw [List.append_assoc]
    refine List.Perm.trans ?_ h.perm
    exact (er_perm hk).append_left now
  · rw [upB_snoc h.ql h.up hk, ha]
  · rw [List.mem_append, List.mem_singleton, Nat.testBit_or, Bool.or_eq_true, h.bit y hy, Nat.testBit_two_pow, decide_eq_true_eq, hx]
    constructor
    · rintro (c | c)
      · exact .inl c
      · exact .inr (by omega)
    · rintro (c | c)
      · exact .inl c
      · exact .inr (by omega)
/-- A number of 1..n is used, or it is the next of those that are left. -/
theorem Sit.next {n : Nat} {now left : List Int} {u : Nat} {q : Adm} (h : Sit n now left u q) {y kk : Nat} (hy : 1 ≤ y) (hy2 : y ≤ n) (lo : ∀ j, j < kk → left.getD j 0 < (y : Int)) (hi : ∀ j, kk ≤ j → j < left.length → (y : Int) ≤ left.getD j 0) :
    ((y : Int) ∈ now ∧ (∀ j, kk ≤ j → j < left.length → (y : Int) < left.getD j 0)) ∨ (¬ (y : Int) ∈ now ∧ kk < left.length ∧ left.getD kk 0 = (y : Int)) := by
  have hmem : (y : Int) ∈ now ++ left := h.perm.symm.subset (mem_ups.2 ⟨by omega, by omega⟩)
  have hnd : (now ++ left).Nodup := h.perm.nodup_iff.2 (ups_nodup n)
  rcases List.mem_append.1 hmem with c | c
  · refine .inl ⟨c, fun j h1 h2 => ?_⟩
    have := hi j h1 h2
    rcases Int.lt_or_eq_of_le this with d | d
    · exact d
    · exact absurd rfl ((List.nodup_append.1 hnd).2.2 _ c _ (d ▸ getD_mem h2))
  · obtain ⟨j, hj, e⟩ := List.mem_iff_getElem.1 c
    have ej : left.getD j 0 = (y : Int) := by rw [getD_at hj, e]
    have hkj : kk ≤ j := by
      rcases Nat.lt_or_ge j kk with d | d
      · have := lo j d; omega
      · exact d
    have hk : kk < left.length := by omega
    have h1 := hi kk (Nat.le_refl _) hk
    have h2 : kk = j := by
      rcases Nat.lt_or_eq_of_le hkj with d | d
      · have := h.asc kk j d hj; omega
      · exact d
    subst h2
    exact .inr ⟨fun hc => absurd rfl ((List.nodup_append.1 hnd).2.2 _ hc _ c), hk, ej⟩
end Go.Proofs.Ytmigibamdeodpaa.Pure
