/- The plain part of layer token: line and column. -/
import Derived.Test.YtmcajoiembfjiaaDoorTokF
import Derived.Lib.LastIndexByte
namespace Go.Tok
def lineN (s : List UInt8) : Nat → Nat
  | 0 => 1
  | i + 1 => if atP (eqB 10) s i then lineN s i + 1 else lineN s i
def colN (s : List UInt8) : Nat → Nat
  | 0 => 1
  | i + 1 => if atP (eqB 10) s i then 1 else colN s i + 1
theorem colN_le (s : List UInt8) : ∀ i, 1 ≤ colN s i ∧ colN s i ≤ i + 1
  | 0 => ⟨Nat.le_refl _, Nat.le_refl _⟩
  | i + 1 => by
    have := colN_le s i
    unfold colN; split <;> omega
theorem lineN_le (s : List UInt8) : ∀ i, 1 ≤ lineN s i ∧ lineN s i ≤ i + 1
  | 0 => ⟨Nat.le_refl _, Nat.le_refl _⟩
  | i + 1 => by
    have := lineN_le s i
    unfold lineN; split <;> omega
theorem line_eq (s : List UInt8) : ∀ k, k ≤ s.length → (s.take k).count 10 + 1 = lineN s k
  | 0, _ => by simp [lineN]
  | k + 1, h => by
    have ih := line_eq s k (by omega)
    have hk : k < s.length := h
    rw [List.take_succ_eq_append_getElem hk, List.count_append, lineN, atP_in hk]
    by_cases hx : s[k] = 10
    · have : eqB 10 s[k] = true := by rw [hx]; decide
      rw [if_pos this, hx]; simp; omega
    · have : eqB 10 s[k] = false := by simpa [eqB] using hx
      rw [if_neg (by rw [this]; simp), List.count_singleton]
      have h3 : (s[k] == 10) = false := by simpa using hx
      simp [h3]; omega
theorem col_go (s : List UInt8) (t : ByteArray) : ∀ n, n ≤ s.length → (∀ j (hj : j < s.length), j < n → t.data[j]! = s[j]) → (n : Int) - Lib.lastIdx t 10 n = colN s n
  | 0, _, _ => by simp [Lib.lastIdx, colN]
  | n + 1, h, ht => by
    have ih := col_go s t n (by omega) (fun j hj hn => ht j hj (by omega))
    have hn : n < s.length := h
    have hx := ht n hn (by omega)
    unfold Lib.lastIdx
    rw [colN, atP_in hn, eq_int' 10 10 rfl, hx]
    by_cases h10 : (s[n].toNat : Int) = 10
    · rw [if_pos (by simpa using h10), if_pos (by simpa using h10)]; omega
    · rw [if_neg (by simpa using h10), if_neg (by simpa using h10)]; omega
theorem col_eq (s : List UInt8) (k : Nat) (h : k ≤ s.length) : (k : Int) - Lib.lastIndexByte (⟨(s.take k).toArray⟩ : ByteArray) 10 = colN s k := by
  have hsz : (⟨(s.take k).toArray⟩ : ByteArray).size = k := by
    show (s.take k).toArray.size = k
    simp; omega
  unfold Lib.lastIndexByte
  rw [hsz]
  exact col_go s _ k h (fun j hj hk => by
    show ((s.take k).toArray)[j]! = s[j]
    have : j < (s.take k).toArray.size := by simp; omega
    rw [getElem!_pos _ j this]
    simp)
def plcK (n : Nat) (a : Int) : Nat := (if (n : Int) < (if a < 0 then 0 else a) then (n : Int) else (if a < 0 then 0 else a)).toNat
theorem plcK_eq (n : Nat) (a : Int) : (if (n : Int) < (if a < 0 then 0 else a) then (n : Int) else (if a < 0 then 0 else a)) = (plcK n a : Nat) := by
  unfold plcK; split <;> split <;> omega
theorem plcK_le (n : Nat) (a : Int) : plcK n a ≤ n := by
  unfold plcK; split <;> split <;> omega
end Go.Tok
namespace Go.Tok
theorem plcK_lt {n i : Nat} {a : Int} (h : i < n) (h2 : (i : Int) < a) : i + 1 ≤ plcK n a := by
  unfold plcK; split <;> split <;> omega
theorem plcK_end {n i : Nat} {a : Int} (hi : i ≤ plcK n a) (h : ¬ ((i : Int) < n ∧ (i : Int) < a)) : plcK n a = i := by
  unfold plcK at *; split at * <;> split at * <;> omega
end Go.Tok
namespace Go.Tok
theorem readN_len {x : Rd} (h : x.1.length ≤ 6000) (k : Nat) (t : List UInt8) (a : Nat) (b : Bool) : (readN x k t a b).1.1.length ≤ 6000 := by
  unfold readN
  split
  · exact h
  · split
    · exact h
    · simp; omega
theorem lexF_len (s : List UInt8) : ∀ (f i : Nat) (x : Rd), x.1.length ≤ 6000 → (lexF readN s f i x).1.length ≤ 6000
  | 0, _, _, h => h
  | f + 1, i, x, h => by
    unfold lexF
    split
    · split
      · exact lexF_len s f _ _ (readN_len h _ _ _ _)
      · exact readN_len h _ _ _ _
    · exact h
theorem readP_len (s : List UInt8) : (readP s).1.length ≤ 6000 := by
  unfold readP
  split
  · simp
  · split
    · exact lexF_len s _ _ _ (by simp)
    · simp
end Go.Tok
