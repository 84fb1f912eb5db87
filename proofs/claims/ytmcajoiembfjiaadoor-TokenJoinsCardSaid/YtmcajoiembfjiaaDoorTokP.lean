/- The plain part of layer token: what the tokens of a text are, in plain functions on lists of bytes. -/
import Derived.Lib.Bytealg
import Derived.Lib.Strings
import Derived.Lib.Fields
namespace Go.Tok

theorem byte_all (P : UInt8 → Prop) (h : ∀ n, n < 256 → P (UInt8.ofNat n)) (b : UInt8) : P b := by
  have := h b.toNat b.toNat_lt
  simpa using this

def atP (p : UInt8 → Bool) (s : List UInt8) (i : Nat) : Bool :=
  match s[i]? with
  | some b => p b
  | none => false
def runTo (p : UInt8 → Bool) (s : List UInt8) (i : Nat) : Nat := i + ((s.drop i).takeWhile p).length

theorem atP_lt {p : UInt8 → Bool} {s : List UInt8} {i : Nat} (h : atP p s i = true) : i < s.length := by
  unfold atP at h
  split at h
  · rename_i b hb; exact (List.getElem?_eq_some_iff.1 hb).1
  · cases h
theorem atP_in {p : UInt8 → Bool} {s : List UInt8} {i : Nat} (h : i < s.length) : atP p s i = p s[i] := by simp [atP, h]
theorem atP_out {p : UInt8 → Bool} {s : List UInt8} {i : Nat} (h : s.length ≤ i) : atP p s i = false := by simp [atP, h]
theorem runTo_ge (p : UInt8 → Bool) (s : List UInt8) (i : Nat) : i ≤ runTo p s i := by unfold runTo; omega
theorem runTo_step {p : UInt8 → Bool} {s : List UInt8} {i : Nat} (h : atP p s i = true) : runTo p s i = runTo p s (i + 1) := by
  have hi := atP_lt h
  rw [atP_in hi] at h
  unfold runTo
  rw [List.drop_eq_getElem_cons hi, List.takeWhile_cons, if_pos h]
  simp; omega
theorem runTo_stop {p : UInt8 → Bool} {s : List UInt8} {i : Nat} (h : atP p s i = false) : runTo p s i = i := by
  unfold runTo
  by_cases hi : i < s.length
  · rw [atP_in hi] at h
    rw [List.drop_eq_getElem_cons hi, List.takeWhile_cons, if_neg (by simp [h])]
    simp
  · rw [List.drop_eq_nil_of_le (by omega)]; simp
theorem runTo_le {p : UInt8 → Bool} {s : List UInt8} {i : Nat} (h : i ≤ s.length) : runTo p s i ≤ s.length := by
  unfold runTo
  have h1 := (List.takeWhile_prefix p (l := s.drop i)).length_le
  simp at h1; omega
theorem runTo_end {p : UInt8 → Bool} {s : List UInt8} {i : Nat} : atP p s (runTo p s i) = false := by
  by_cases hi : i < s.length
  · generalize hk : s.length - i = k
    induction k using Nat.strongRecOn generalizing i with
    | _ k ih =>
      cases ha : atP p s i with
      | false => rw [runTo_stop ha]; exact ha
      | true =>
        rw [runTo_step ha]
        by_cases h2 : i + 1 < s.length
        · exact ih (s.length - (i + 1)) (by omega) h2 rfl
        · have : runTo p s (i + 1) = i + 1 := by
            unfold runTo; rw [List.drop_eq_nil_of_le (by omega)]; simp
          rw [this]; exact atP_out (by omega)
  · have : runTo p s i = i := by unfold runTo; rw [List.drop_eq_nil_of_le (by omega)]; simp
    rw [this]; exact atP_out (by omega)

theorem index_contains (so : List UInt8) (b : UInt8) : decide (0 ≤ Lib.indexByte so b) = so.contains b := by
  induction so with
  | nil => simp [Lib.indexByte]
  | cons x l ih =>
    have hg := Lib.indexByte_ge l b
    unfold Lib.indexByte
    by_cases hx : x = b
    · subst hx; simp
    · have hx' : (b == x) = false := by simpa using Ne.symm hx
      have hx2 : (x == b) = false := by simpa using hx
      rw [List.contains_cons, hx', hx2, Bool.false_or, ← ih]
      by_cases h2 : Lib.indexByte l b = -1
      · simp [h2]
      · have h3 : (Lib.indexByte l b == -1) = false := by simpa using h2
        rw [h3]
        simp only [Bool.false_eq_true, if_false]
        have : (0 ≤ Lib.indexByte l b + 1) ↔ (0 ≤ Lib.indexByte l b) := by omega
        simp only [this]

def isAt (s so : List UInt8) (i : Nat) : Bool := atP so.contains s i
theorem isAt_in (s so : List UInt8) (i : Nat) (h : i < s.length) : isAt s so i = decide (0 ≤ Lib.indexByte so s[i]) := by
  rw [index_contains]; exact atP_in h
theorem isAt_out (s so : List UInt8) (i : Nat) (h : ¬ i < s.length) : isAt s so i = false := atP_out (by omega)

def letterB (b : UInt8) : Bool := (97 ≤ b && b ≤ 122) || (65 ≤ b && b ≤ 90) || b == 95
def digitB (b : UInt8) : Bool := 48 ≤ b && b ≤ 57
def wordB (b : UInt8) : Bool := letterB b || digitB b
def tailB (b : UInt8) : Bool := letterB b || digitB b || b == 46
def pmB (b : UInt8) : Bool := b == 43 || b == 45
def blankB (b : UInt8) : Bool := b == 32 || b == 9 || b == 10 || b == 13
def eqB (x b : UInt8) : Bool := b == x
def notNl (b : UInt8) : Bool := b != 10
theorem con_letters : List.contains ([97, 98, 99, 100, 101, 102, 103, 104, 105, 106, 107, 108, 109, 110, 111, 112, 113, 114, 115, 116, 117, 118, 119, 120, 121, 122, 65, 66, 67, 68, 69, 70, 71, 72, 73, 74, 75, 76, 77, 78, 79, 80, 81, 82, 83, 84, 85, 86, 87, 88, 89, 90, 95] : List UInt8) = letterB := funext (byte_all _ (by decide +kernel))
theorem con_digits : List.contains ([48, 49, 50, 51, 52, 53, 54, 55, 56, 57] : List UInt8) = digitB := funext (byte_all _ (by decide +kernel))
theorem con_words : List.contains ([97, 98, 99, 100, 101, 102, 103, 104, 105, 106, 107, 108, 109, 110, 111, 112, 113, 114, 115, 116, 117, 118, 119, 120, 121, 122, 65, 66, 67, 68, 69, 70, 71, 72, 73, 74, 75, 76, 77, 78, 79, 80, 81, 82, 83, 84, 85, 86, 87, 88, 89, 90, 95, 48, 49, 50, 51, 52, 53, 54, 55, 56, 57] : List UInt8) = wordB := funext (byte_all _ (by decide +kernel))
theorem con_tails : List.contains ([97, 98, 99, 100, 101, 102, 103, 104, 105, 106, 107, 108, 109, 110, 111, 112, 113, 114, 115, 116, 117, 118, 119, 120, 121, 122, 65, 66, 67, 68, 69, 70, 71, 72, 73, 74, 75, 76, 77, 78, 79, 80, 81, 82, 83, 84, 85, 86, 87, 88, 89, 90, 95, 48, 49, 50, 51, 52, 53, 54, 55, 56, 57, 46] : List UInt8) = tailB := funext (byte_all _ (by decide +kernel))
theorem con_pm : List.contains ([43, 45] : List UInt8) = pmB := funext (byte_all _ (by decide +kernel))
theorem con_blanks : List.contains ([32, 9, 10, 13] : List UInt8) = blankB := funext (byte_all _ (by decide +kernel))
theorem con_one (x : UInt8) : List.contains [x] = eqB x := by funext b; simp only [List.contains_cons, List.contains_nil, Bool.or_false, eqB]

/-! blanks and remarks -/
def cmt (s : List UInt8) (j : Nat) : Bool := atP (eqB 47) s j && atP (eqB 47) s (j + 1)
def skipF : Nat → List UInt8 → Nat → Nat
  | 0, _, i => i
  | f + 1, s, i => if cmt s (runTo blankB s i) then skipF f s (runTo notNl s (runTo blankB s i)) else runTo blankB s i
def skipTo (s : List UInt8) (i : Nat) : Nat := skipF (s.length + 1 - i) s i
theorem eqB_notNl {b : UInt8} (h : eqB 47 b = true) : notNl b = true := by
  simp only [eqB, beq_iff_eq] at h; subst h; decide
theorem cmt_run {s : List UInt8} {j : Nat} (h : cmt s j = true) : j + 2 ≤ runTo notNl s j := by
  simp only [cmt, Bool.and_eq_true] at h
  have up : ∀ i, atP (eqB 47) s i = true → atP notNl s i = true := fun i hi => by
    have hl := atP_lt hi
    rw [atP_in hl] at hi ⊢
    exact eqB_notNl hi
  rw [runTo_step (up _ h.1), runTo_step (up _ h.2)]
  exact runTo_ge _ _ _
theorem skipF_more (s : List UInt8) : ∀ (f f' i : Nat), s.length + 1 - i ≤ f → s.length + 1 - i ≤ f' → i ≤ s.length → skipF f s i = skipF f' s i
  | 0, _, i, h, _, hi => by omega
  | _ + 1, 0, i, _, h, hi => by omega
  | f + 1, f' + 1, i, h, h', hi => by
    unfold skipF
    split
    · rename_i hc
      have h1 := cmt_run hc
      have h2 := runTo_ge blankB s i
      exact skipF_more s f f' _ (by omega) (by omega) (runTo_le (runTo_le hi))
    · rfl
theorem skipTo_eq {s : List UInt8} {i : Nat} (hi : i ≤ s.length) : skipTo s i = if cmt s (runTo blankB s i) then skipTo s (runTo notNl s (runTo blankB s i)) else runTo blankB s i := by
  unfold skipTo
  rw [show s.length + 1 - i = (s.length - i) + 1 from by omega]
  rw [skipF]
  split
  · rename_i hc
    have h1 := cmt_run hc
    have h2 := runTo_ge blankB s i
    exact skipF_more s _ _ _ (by omega) (by omega) (runTo_le (runTo_le hi))
  · rfl
theorem skipTo_le {s : List UInt8} : ∀ {i : Nat}, i ≤ s.length → skipTo s i ≤ s.length ∧ i ≤ skipTo s i := by
  intro i
  generalize hk : s.length - i = k
  induction k using Nat.strongRecOn generalizing i with
  | _ k ih =>
    intro hi
    rw [skipTo_eq hi]
    have h2 := runTo_ge blankB s i
    have h3 := runTo_le (p := blankB) hi
    split
    · rename_i hc
      have h1 := cmt_run hc
      have h4 := runTo_le (p := notNl) h3
      have := ih (s.length - runTo notNl s (runTo blankB s i)) (by omega) rfl h4
      omega
    · omega
theorem prefix_cmt (s : List UInt8) (j : Nat) : List.isPrefixOf [47, 47] (s.drop j) = cmt s j := by
  unfold cmt atP
  have e1 : s[j]? = (s.drop j)[0]? := by simp
  have e2 : s[j + 1]? = (s.drop j)[1]? := by simp
  rw [e1, e2]
  cases s.drop j with
  | nil => rfl
  | cons a l =>
    cases l with
    | nil => simp [List.isPrefixOf]
    | cons b l => simp [List.isPrefixOf, eqB, Bool.beq_comm]
theorem index_run (s : List UInt8) (j : Nat) (h : j ≤ s.length) : runTo notNl s j = if Lib.indexByte (s.drop j) 10 < 0 then s.length else j + (Lib.indexByte (s.drop j) 10).toNat := by
  unfold runTo
  have key : ∀ l : List UInt8, (l.takeWhile notNl).length = if Lib.indexByte l 10 < 0 then l.length else (Lib.indexByte l 10).toNat := by
    intro l
    induction l with
    | nil => simp [Lib.indexByte]
    | cons a l ih =>
      have hg := Lib.indexByte_ge l 10
      unfold Lib.indexByte
      by_cases ha : a = 10
      · subst ha; simp [notNl]
      · have h1 : notNl a = true := by simp [notNl, ha]
        have h2 : (a == 10) = false := by simpa using ha
        rw [List.takeWhile_cons, if_pos h1, h2]
        simp only [Bool.false_eq_true, if_false, List.length_cons, ih]
        by_cases h3 : Lib.indexByte l 10 = -1
        · simp [h3]
        · have h4 : (Lib.indexByte l 10 == -1) = false := by simpa using h3
          rw [h4]
          simp only [Bool.false_eq_true, if_false]
          rw [if_neg (by omega), if_neg (by omega)]
          omega
  rw [key]
  split
  · simp; omega
  · rfl

/-! numbers -/
def numDot (s : List UInt8) (i : Nat) : Nat := if atP (eqB 46) s i && atP digitB s (i + 1) then runTo digitB s (i + 1) else i
def numTens (s : List UInt8) (i : Nat) : Nat × Nat :=
  if atP (eqB 101) s i && atP digitB s (i + 1) then (runTo digitB s (i + 1) - (i + 1), runTo digitB s (i + 1))
  else if atP (eqB 101) s i && (atP pmB s (i + 1) && atP digitB s (i + 2)) then (runTo digitB s (i + 2) - (i + 2), runTo digitB s (i + 2))
  else (0, i)
def numEnd (s : List UInt8) (i : Nat) : Nat := (numTens s (numDot s (runTo digitB s i))).2
def numFine (s : List UInt8) (i : Nat) : Bool := decide ((numTens s (numDot s (runTo digitB s i))).1 ≤ 4) && !atP tailB s (numEnd s i)

theorem run_zero (p : UInt8 → Bool) (s : List UInt8) (i : Nat) : (runTo p s i - i = 0) ↔ (atP p s i = false) := by
  have h := runTo_ge p s i
  constructor
  · intro h0
    cases ha : atP p s i with
    | false => rfl
    | true =>
      have h1 := runTo_step ha
      have h2 := runTo_ge p s (i + 1)
      omega
  · intro ha; rw [runTo_stop ha]; omega
theorem numDot_le {s : List UInt8} {i : Nat} (h : i ≤ s.length) : numDot s i ≤ s.length ∧ i ≤ numDot s i := by
  unfold numDot
  split
  · rename_i hc
    simp only [Bool.and_eq_true] at hc
    have h1 := atP_lt hc.2
    have h2 := runTo_ge digitB s (i + 1)
    have h3 := runTo_le (p := digitB) (s := s) (i := i + 1) (by omega)
    omega
  · omega
theorem numTens_le {s : List UInt8} {i : Nat} (h : i ≤ s.length) : (numTens s i).2 ≤ s.length ∧ i ≤ (numTens s i).2 ∧ (numTens s i).1 ≤ s.length := by
  unfold numTens
  split
  · rename_i hc
    simp only [Bool.and_eq_true] at hc
    have h1 := atP_lt hc.2
    have h2 := runTo_ge digitB s (i + 1)
    have h3 := runTo_le (p := digitB) (s := s) (i := i + 1) (by omega)
    simp only; omega
  · split
    · rename_i hc
      simp only [Bool.and_eq_true] at hc
      have h1 := atP_lt hc.2.2
      have h2 := runTo_ge digitB s (i + 2)
      have h3 := runTo_le (p := digitB) (s := s) (i := i + 2) (by omega)
      simp only; omega
    · simp only; omega
/-! signs -/
def signsL : List (List UInt8) := [[61, 61], [33, 61], [60, 61], [62, 61], [43, 61], [123], [125], [91], [93], [40], [41], [60], [62], [61], [43], [45], [42], [47], [126], [44], [59], [58]]
def signOf (s : List UInt8) (i : Nat) : Option (List UInt8) := signsL.find? (fun t => t.isPrefixOf (s.drop i))
def signsT : List UInt8 := [61, 61, 32, 33, 61, 32, 60, 61, 32, 62, 61, 32, 43, 61, 32, 123, 32, 125, 32, 91, 32, 93, 32, 40, 32, 41, 32, 60, 32, 62, 32, 61, 32, 43, 32, 45, 32, 42, 32, 47, 32, 126, 32, 44, 32, 59, 32, 58]
theorem signs_fields : Lib.fields signsT = signsL := by decide +kernel
theorem signs_ascii : ∀ (j : Nat) b, signsT[j]? = some b → b.toNat < 128 := by
  intro j b h
  have hm := List.mem_of_getElem? h
  have : ∀ b ∈ signsT, b.toNat < 128 := by decide +kernel
  exact this b hm
def signLen (s : List UInt8) (i : Nat) : Nat := ((signOf s i).map List.length).getD 0

theorem sig_len (k : Nat) : (signsL.getD k []).length ≤ 2 := by
  rcases Nat.lt_or_ge k 22 with h | h
  · revert k; decide +kernel
  · have : signsL.length ≤ k := h
    rw [List.getD_eq_getElem?_getD, List.getElem?_eq_none this]; simp
theorem sig_pos (k : Nat) (h : k < 22) : 0 < (signsL.getD k []).length := by revert k; decide +kernel
theorem take_at {k : Nat} (h : k < 22) : signsL.take (k + 1) = signsL.take k ++ [signsL.getD k []] := by
  have hl : k < signsL.length := h
  rw [List.take_succ_eq_append_getElem hl]; simp [hl]
theorem sig_step {s : List UInt8} {j k : Nat} (h : k < 22) (hn : (signsL.take k).find? (fun t => t.isPrefixOf (s.drop j)) = none) (hk : (signsL.getD k []).isPrefixOf (s.drop j) = false) :
    (signsL.take (k + 1)).find? (fun t => t.isPrefixOf (s.drop j)) = none := by
  rw [take_at h, List.find?_append, hn]; simp only [Option.none_or, List.find?_cons, hk, List.find?_nil]
theorem sig_found {s : List UInt8} {j k : Nat} (h : k < 22) (hn : (signsL.take k).find? (fun t => t.isPrefixOf (s.drop j)) = none) (hk : (signsL.getD k []).isPrefixOf (s.drop j) = true) :
    signLen s j = (signsL.getD k []).length := by
  have e : signsL = signsL.take (k + 1) ++ signsL.drop (k + 1) := (List.take_append_drop _ _).symm
  have h1 : signOf s j = some (signsL.getD k []) := by
    unfold signOf
    rw [e, List.find?_append, take_at h, List.find?_append, hn]
    simp only [Option.none_or, List.find?_cons, hk]
    rw [← take_at h, ← e]; rfl
  simp [signLen, h1]
theorem sig_none {s : List UInt8} {j k : Nat} (h : 22 ≤ k) (hn : (signsL.take k).find? (fun t => t.isPrefixOf (s.drop j)) = none) : signLen s j = 0 := by
  rw [List.take_of_length_le (by exact h)] at hn
  have h1 : signOf s j = none := hn
  simp [signLen, h1]
/-! a token -/
def nameB (s : List UInt8) (i : Nat) : Bool := atP letterB s i && !atP (eqB 95) s i
/-- kind, end, is it one -/
def tokAt (s : List UInt8) (i : Nat) : Nat × Nat × Bool :=
  if nameB s i then (1, runTo wordB s i, true)
  else if atP digitB s i then (2, numEnd s i, numFine s i)
  else if signLen s i = 0 then (0, i, false) else (3, i + signLen s i, true)
end Go.Tok
