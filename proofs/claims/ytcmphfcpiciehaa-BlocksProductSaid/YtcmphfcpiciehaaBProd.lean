/- The blocks' product: the shapes with one block less. -/
import Derived.Test.YtcmphfcpiciehaaBWays
namespace Go.Proofs.Ytcmphfcpiciehaa.Pure
open Go.RowKit Go.Proofs.Ytcmphfcpiciehaa.Print Go.Proofs.YtcmphfcpiciehaaW.PrintWords Go.Proofs.YtcmphfcpiciehaaW.PrintLast Go.Proofs.YtcmphfcpiciehaaW.PrintMore
def lessAt (l : List Int) (r i : Nat) : Int := if i = r then l.getD i 0 - 1 else l.getD i 0
def lessL (l : List Int) (r : Nat) : List Int := ((List.range' 0 l.length).map (lessAt l r)).filter fun x => decide (x > 0)
def skip (l : List Int) (r : Nat) : Bool := decide (r + 1 < l.length) && decide (l.getD (r + 1) 0 = l.getD r 0)
def con (l : List Int) (n r : Nat) : Nat := if skip l r then 0 else waysN (lessL l r) (n - 1)
def sumC (l : List Int) (n i : Nat) : Nat → Nat
  | 0 => 0
  | m + 1 => con l n i + sumC l n (i + 1) m
def okC (n : Nat) (l : List Int) : Bool := (List.range l.length).all (fun r => skip l r || (isShp (lessL l r) && decide ((lessL l r).sum + 1 = (n : Int)))) && decide (n = 0 ∨ sumC l n 0 l.length = waysN l n)
theorem all_parts {l : List (List Int)} {f : List Int → Bool} (c : Nat) (h : (l.take c).all f = true) (h2 : (l.drop c).all f = true) : l.all f = true := by
  rw [← List.take_append_drop c l, List.all_append, h, h2]
  rfl
theorem okC0 : ((List.range 13).all fun n => (partsI 12 20 n).all (okC n)) = true := by decide +kernel
theorem okC13 : (partsI 12 20 13).all (okC 13) = true := by decide +kernel
theorem okC14 : (partsI 12 20 14).all (okC 14) = true := by decide +kernel
theorem okC15 : (partsI 12 20 15).all (okC 15) = true := by decide +kernel
theorem okC16_0 : (((partsI 12 20 16)).take 120).all (okC 16) = true := by decide +kernel
theorem okC16_1 : (((partsI 12 20 16)).drop 120).all (okC 16) = true := by decide +kernel
theorem okC16 : (partsI 12 20 16).all (okC 16) = true := all_parts 120 okC16_0 okC16_1
end Go.Proofs.Ytcmphfcpiciehaa.Pure
