/- The blocks' plain laws: the sum of the specification. -/
import Derived.Test.YtcmphfcpiciehaaBBase
import Derived.Test.YtcmphfcpiciehaaPrintx16
namespace Go.Proofs.Ytcmphfcpiciehaa.Pure
open Go.RowKit Go.Proofs.Ytcmphfcpiciehaa.Print Go.Proofs.YtcmphfcpiciehaaW.PrintWords Go.Proofs.YtcmphfcpiciehaaW.PrintLast Go.Proofs.YtcmphfcpiciehaaW.PrintMore
theorem sum_f (l : List Int) (hl : l.length ≤ 12) (hb : ∀ x ∈ l, 1 ≤ x ∧ x ≤ 40) : ∀ n k (i : Nat) (a : Int), i + n = l.length → n < k → 0 ≤ a → a ≤ 40 * i → clocheref04_Sum.l0 k l a i = some (a + (l.drop i).sum)
  | 0, k, i, a, h, hk, _, _ => by
    obtain ⟨k, rfl, _⟩ := succK hk
    simp only [clocheref04_Sum.l0]
    rw [if_neg (by omega), List.drop_eq_nil_of_le (by omega)]
    simp
  | n + 1, k, i, a, h, hk, h0, h1 => by
    obtain ⟨k, rfl, hk'⟩ := succK hk
    have hi : i < l.length := by omega
    have hx := hb _ (getD_mem hi)
    have ih := sum_f l hl hb n k (i + 1) (a + l.getD i 0) (by omega) (by omega) (by omega) (by omega)
    simp only [clocheref04_Sum.l0]
    rw [if_pos (by omega), if_pos (by omega), rdn, w64 (by omega) (by omega), inc64 i (by omega), ih, drop_getD hi, List.sum_cons, Int.add_assoc]
theorem rSum_f (l : List Int) (hs : Shp l) (k : Nat) (hk : 13 ≤ k) : clocheref04_Sum.f k l = some l.sum := by
  have hl := hs.len
  unfold clocheref04_Sum.f
  have := sum_f l hl hs.bound l.length k 0 0 (by omega) (by omega) (Int.le_refl _) (by simp)
  rw [List.drop_zero, Int.zero_add] at this
  exact this
end Go.Proofs.Ytcmphfcpiciehaa.Pure
