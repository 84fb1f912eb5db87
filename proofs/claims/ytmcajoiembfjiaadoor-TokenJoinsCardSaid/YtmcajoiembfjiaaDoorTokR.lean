/- The plain part of layer token: what Read computes. -/
import Derived.Test.YtmcajoiembfjiaaDoorTokL
namespace Go.Tok
abbrev Tk := Nat × List UInt8 × Nat
abbrev Rd := List Tk × Nat × Nat
def readN (x : Rd) (k : Nat) (t : List UInt8) (a : Nat) (b : Bool) : Rd × Bool :=
  if b = false then ((x.1, 110, a), false) else if x.1.length = 6000 then ((x.1, 6, a), false) else ((x.1 ++ [(k, t, a)], x.2), true)
theorem readN_no (x : Rd) (k : Nat) (t : List UInt8) (a : Nat) : (readN x k t a false).2 = false := rfl
def readS (s : List UInt8) : Rd := lexS readN s (skipTo s 0) ([], 0, 0)
def readP (s : List UInt8) : Rd := if 20000 < s.length then ([], 3, 0) else if (readS s).2.1 = 0 then ((readS s).1, 0, 0) else ([], (readS s).2)
theorem readP_long {s : List UInt8} (h : 20000 < s.length) : readP s = ([], 3, 0) := if_pos h
theorem readP_fine {s : List UInt8} (h : ¬ 20000 < s.length) (h2 : (readS s).2.1 = 0) : readP s = ((readS s).1, 0, 0) := by rw [readP, if_neg h, if_pos h2]
theorem readP_bad {s : List UInt8} (h : ¬ 20000 < s.length) (h2 : ¬ (readS s).2.1 = 0) : readP s = ([], (readS s).2) := by rw [readP, if_neg h, if_neg h2]
end Go.Tok
