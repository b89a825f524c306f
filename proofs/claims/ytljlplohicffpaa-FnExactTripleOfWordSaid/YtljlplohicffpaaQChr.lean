/- Christoffel words of at most forty letters: each is cut in two that are such words, and where the matrix of the whole is small, those of the parts are. Told word by word by the kernel's own reckoning. -/
import Derived.Test.YtljlplohicffpaaQCohn
namespace Go.Proofs.Ytljlplohicffpaa.Q
open Go.RowKit Go.Proofs.Ytljlplohicffpaa.P Go.Proofs.YtljlplohicffpaaW.PrintWords Go.Proofs.YtljlplohicffpaaW.PrintLast Go.Proofs.Ytljlplohicffpaa.G
def chrW (b n : Nat) : List Int := (List.range n).map fun i => if i * b / n = (i + 1) * b / n then 97 else 98
def cntL (c : Int) : List Int → Nat
  | [] => 0
  | x :: l => if x = c then cntL c l + 1 else cntL c l
def isChr (l : List Int) : Bool := decide (Nat.gcd (l.length - cntL 98 l) (cntL 98 l) = 1) && decide (chrW (cntL 98 l) l.length = l)
def splitGo (l : List Int) : Nat → Nat → Nat
  | 0, _ => 0
  | d + 1, k => if isChr (l.take k) = true then (if isChr (l.drop k) = true then k else splitGo l d (k + 1)) else splitGo l d (k + 1)
def splitL (l : List Int) : Nat := splitGo l (l.length - 1) 1
def fineL (l : List Int) : Bool := (cohnGo l (unitL 2)).2
def chkW (l : List Int) : Bool := decide (l.length ≤ 1) || (decide (1 ≤ splitL l) && (!fineL l || (fineL (l.take (splitL l)) && fineL (l.drop (splitL l)))))
def chkN (n : Nat) : Bool := (List.range (n + 1)).all fun b => !(decide (Nat.gcd (n - b) b = 1)) || chkW (chrW b n)
theorem chk_a : (List.range 21).all chkN = true := by decide +kernel
end Go.Proofs.Ytljlplohicffpaa.Q
