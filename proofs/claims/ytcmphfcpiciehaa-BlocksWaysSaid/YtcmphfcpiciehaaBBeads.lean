/- Beads: the code's and the specification's are one list; the same lists; short lists. -/
import Derived.Test.YtcmphfcpiciehaaBHook
namespace Go.Proofs.Ytcmphfcpiciehaa.Pure
open Go.RowKit Go.Proofs.Ytcmphfcpiciehaa.Print Go.Proofs.YtcmphfcpiciehaaW.PrintWords Go.Proofs.YtcmphfcpiciehaaW.PrintLast Go.Proofs.YtcmphfcpiciehaaW.PrintMore
def bead (l : List Int) (r : Nat) : Int := l.getD r 0 + l.length - 1 - r
def bd (l : List Int) : List Int := (List.range' 0 l.length).map (bead l)
theorem bd_length (l : List Int) : (bd l).length = l.length := by simp [bd]
theorem bd_getD {l : List Int} {r : Nat} (h : r < l.length) : (bd l).getD r 0 = bead l r := by
  unfold bd
  rw [List.getD_eq_getElem?_getD, List.getElem?_map, List.getElem?_range' h]
  simp
/-- The first i beads, the rest as it was. -/
def stB (l : List Int) (i : Nat) : List Int := (List.range' 0 i).map (bead l) ++ l.drop i
theorem stB_length {l : List Int} {i : Nat} (h : i ≤ l.length) : (stB l i).length = l.length := by
  simp [stB]
  omega
theorem stB_getD {l : List Int} {i : Nat} : (stB l i).getD i 0 = l.getD i 0 := by
  unfold stB
  rw [List.getD_eq_getElem?_getD, List.getElem?_append_right (by simp), List.getD_eq_getElem?_getD]
  simp
theorem stB_set {l : List Int} {i : Nat} (h : i < l.length) : (stB l i).set i (bead l i) = stB l (i + 1) := by
  unfold stB
  rw [List.set_append_right _ _ (by simp), drop_getD h]
  have e : List.range' 0 (i + 1) = List.range' 0 i ++ [i] := by
    rw [List.range'_concat]
    simp
  rw [e, List.map_append, List.append_assoc]
  simp
theorem beads_l0 (l : List Int) (hl : l.length ≤ 1000) (hb : ∀ x ∈ l, 0 ≤ x ∧ x ≤ 1000) : ∀ n k (i : Nat), i + n = l.length → n < k → blocks_beads.l0 k l (stB l i) l.length i = some (stB l l.length)
  | 0, k, i, h, hk => by
    obtain ⟨k, rfl, _⟩ := succK hk
    simp only [blocks_beads.l0]
    rw [if_neg (by omega), show i = l.length by omega]
  | n + 1, k, i, h, hk => by
    obtain ⟨k, rfl, hk'⟩ := succK hk
    have hi : i < l.length := by omega
    have hx := hb _ (getD_mem hi)
    have e1 := inc64 i (by omega)
    have hlen := stB_length (l := l) (i := i) (by omega)
    have hv : wrap64 (l.getD i 0 + wrap64 (wrap64 ((l.length : Int) - 1) - i)) = bead l i := by
      unfold bead
      rw [w64 (z := (l.length : Int) - 1) (by omega) (by omega), w64 (z := (l.length : Int) - 1 - i) (by omega) (by omega), w64 (by omega) (by omega)]
      omega
    have ih := beads_l0 l hl hb n k (i + 1) (by omega) (by omega)
    simp only [blocks_beads.l0]
    rw [if_pos (by omega), if_pos (by omega), if_pos (by rw [hlen]; omega), rdn, stB_getD, hv, Int.toNat_natCast, stB_set hi, e1]
    exact ih
theorem stB_zero (l : List Int) : stB l 0 = l := by simp [stB]
theorem stB_full (l : List Int) : stB l l.length = bd l := by simp [stB, bd]
theorem beads_f (l : List Int) (hl : l.length ≤ 1000) (hb : ∀ x ∈ l, 0 ≤ x ∧ x ≤ 1000) (k : Nat) (hk : l.length < k) : blocks_beads.f k l = some (bd l) := by
  have := beads_l0 l hl hb l.length k 0 (by omega) hk
  rw [stB_zero, stB_full] at this
  unfold blocks_beads.f
  rw [if_pos (by omega), if_pos (by omega), Option.bind_some]
  exact this
theorem rbeads_l0 (l : List Int) (hl : l.length ≤ 1000) (hb : ∀ x ∈ l, 0 ≤ x ∧ x ≤ 1000) : ∀ n k (i : Nat) (acc : List Int), i + n = l.length → n < k → acc.length = i → clocheref04_beads.l0 k l acc i = some (acc ++ (List.range' i n).map (bead l))
  | 0, k, i, acc, h, hk, _ => by
    obtain ⟨k, rfl, _⟩ := succK hk
    simp only [clocheref04_beads.l0]
    rw [if_neg (by omega)]
    simp
  | n + 1, k, i, acc, h, hk, ha => by
    obtain ⟨k, rfl, hk'⟩ := succK hk
    have hi : i < l.length := by omega
    have hx := hb _ (getD_mem hi)
    have e1 := inc64 i (by omega)
    have hv : wrap64 (wrap64 (wrap64 (l.getD i 0 + l.length) - 1) - i) = bead l i := by
      unfold bead
      rw [w64 (z := l.getD i 0 + l.length) (by omega) (by omega), w64 (z := l.getD i 0 + l.length - 1) (by omega) (by omega), w64 (by omega) (by omega)]
    have ih := rbeads_l0 l hl hb n k (i + 1) (acc ++ [bead l i]) (by omega) (by omega) (by simp [ha])
    simp only [clocheref04_beads.l0]
    rw [if_pos (by omega), if_pos (by omega), if_pos (by omega), rdn, hv, e1]
    refine Eq.trans ih ?_
    rw [range'_succ', List.map_cons, List.append_assoc]
    rfl
theorem rbeads_f (l : List Int) (hl : l.length ≤ 1000) (hb : ∀ x ∈ l, 0 ≤ x ∧ x ≤ 1000) (k : Nat) (hk : l.length < k) : clocheref04_beads.f k l = some (bd l) := by
  unfold clocheref04_beads.f
  have := rbeads_l0 l hl hb l.length k 0 [] (by omega) hk rfl
  exact this
/-! ### the same lists -/
theorem same_l0 (a : List Int) (hs : a.length ≤ 1000000) : ∀ n k (i : Nat), i + n = a.length → n < k → clochelaw04_same.l0 k a a i = some true
  | 0, k, i, h, hk => by
    obtain ⟨k, rfl, _⟩ := succK hk
    simp only [clochelaw04_same.l0]
    rw [if_neg (by omega)]
  | n + 1, k, i, h, hk => by
    obtain ⟨k, rfl, hk'⟩ := succK hk
    have ih := same_l0 a hs n k (i + 1) (by omega) (by omega)
    simp only [clochelaw04_same.l0]
    rw [if_pos (by omega), if_pos (by omega), if_pos (by omega), if_pos trivial, inc64 i (by omega)]
    exact ih
theorem same_self (a : List Int) (hs : a.length ≤ 1000000) (k : Nat) (hk : a.length < k) : clochelaw04_same.f k a a = some true := by
  unfold clochelaw04_same.f
  rw [if_pos rfl]
  exact same_l0 a hs a.length k 0 (by omega) hk
theorem shapes_l0 (a : List (List Int)) (hs : a.length ≤ 1000000) (hb : ∀ x ∈ a, x.length ≤ 1000) : ∀ n k (i : Nat), i + n = a.length → n + 1002 < k → clochelaw04_shapes.l0 k a a i = some true
  | 0, k, i, h, hk => by
    obtain ⟨k, rfl, _⟩ := succK (show 0 < k by omega)
    simp only [clochelaw04_shapes.l0]
    rw [if_neg (by omega)]
  | n + 1, k, i, h, hk => by
    obtain ⟨k, rfl, hk'⟩ := succK (show 0 < k by omega)
    have ih := shapes_l0 a hs hb n k (i + 1) (by omega) (by omega)
    have hi : i < a.length := by omega
    have hx : (rd_L1 a (i : Int)).length ≤ 1000 := by
      have : rd_L1 a (i : Int) = a[i] := by
        unfold rd_L1
        rw [Int.toNat_natCast, List.getD_eq_getElem?_getD, List.getElem?_eq_getElem hi]
        rfl
      rw [this]
      exact hb _ (List.getElem_mem hi)
    simp only [clochelaw04_shapes.l0]
    rw [if_pos (by omega), if_pos (by omega), if_pos (by omega), same_self _ (by omega) k (by omega), Option.bind_some, if_pos rfl, inc64 i (by omega)]
    exact ih
theorem shapes_self (a : List (List Int)) (hs : a.length ≤ 1000) (hb : ∀ x ∈ a, x.length ≤ 1000) (k : Nat) (hk : 2100 ≤ k) : clochelaw04_shapes.f k a a = some true := by
  unfold clochelaw04_shapes.f
  rw [if_pos rfl]
  exact shapes_l0 a (by omega) hb a.length k 0 (by omega) (by omega)
theorem few_f (l : List Int) (k : Nat) (hk : 3 ≤ k) : clochelaw04_few.f k l [] = some (decide (l.length ≤ 60)) := by
  obtain ⟨k, rfl⟩ : ∃ K, k = K + 2 := ⟨k - 2, by omega⟩
  unfold clochelaw04_few.f
  by_cases h : (l.length : Int) > 60
  · rw [if_pos h, decide_eq_false (by omega)]
    rfl
  · rw [if_neg h, decide_eq_true (show l.length ≤ 60 by omega)]
    have e : decide (((([] : List (List Int)).length : Nat) : Int) > 20) = false := by decide
    rw [e]
    simp only [clochelaw04_few.j0]
    rw [if_neg (by decide)]
    simp only [clochelaw04_few.l0]
    rw [if_neg (by simp)]
theorem alive200 : clochelaw04_alive.f 200 = some true := by decide +kernel
theorem alive (k : Nat) (hk : 200 ≤ k) : clochelaw04_alive.f k = some true := by
  obtain ⟨d, rfl⟩ : ∃ d, k = 200 + d := ⟨k - 200, by omega⟩
  induction d with
  | zero => exact alive200
  | succ d ih => exact clochelaw04_alive.mono _ _ (ih (by omega))
theorem hk_small {l : List Int} (hs : Shp l) : (hk l).length ≤ 12 ∧ ∀ x ∈ hk l, x.length ≤ 40 := by
  have hl := hs.len
  refine ⟨by simp [hk]; omega, fun x hx => ?_⟩
  obtain ⟨r, hr, rfl⟩ := List.mem_map.1 hx
  have hr := (List.mem_range'_1.1 hr).2
  have hb := hs.bound _ (getD_mem (show r < l.length by omega))
  simp only [hkRow, List.length_map, List.length_range']
  omega
end Go.Proofs.Ytcmphfcpiciehaa.Pure
