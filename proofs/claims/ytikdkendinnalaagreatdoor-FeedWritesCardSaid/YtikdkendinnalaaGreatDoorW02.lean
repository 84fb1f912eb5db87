/- Layer 14, FeedWrites: that Write and Find tell what the document says, and that what is written is read as the same data again. Part 2 of 14. -/
import Derived.Lib.Bytealg
import Derived.Lib.Strings
import Derived.Lib.Fields
import Derived.Test.YtikdkendinnalaaGreatDoorW01
import Derived.Defers
import Derived.Recover
import Derived.WalkSmall
import Derived.Laws.Bits64b
import Derived.Deep.Upon
import Derived.Laws.Externs
import Derived.Lib.SliceRun
section
namespace Go.Tok
theorem byte_all (P : UInt8 → Prop) (h : ∀ n, n < 256 → P (UInt8.ofNat n)) (b : UInt8) : P b := by
  have := h b.toNat b.toNat_lt
  simpa using this
def atP (p : UInt8 → Bool) (s : List UInt8) (i : Nat) : Bool :=
  match s[i]? with
  | some b => p b
  | none => false
def runTo (p : UInt8 → Bool) (s : List UInt8) (i : Nat) : Nat := i + ((s.drop i).takeWhile p).length
theorem atP_lt {p : UInt8 → Bool} {s : List UInt8} {i : Nat} (h : atP p s i = true) : i < s.length := by
  unfold atP at h
  split at h
  · rename_i b hb; exact (List.getElem?_eq_some_iff.1 hb).1
  cases h
theorem atP_in {p : UInt8 → Bool} {s : List UInt8} {i : Nat} (h : i < s.length) : atP p s i = p s[i] := by simp [atP, h]
theorem atP_out {p : UInt8 → Bool} {s : List UInt8} {i : Nat} (h : s.length ≤ i) : atP p s i = false := by simp [atP, h]
theorem runTo_ge (p : UInt8 → Bool) (s : List UInt8) (i : Nat) : i ≤ runTo p s i := by unfold runTo; omega
theorem runTo_step {p : UInt8 → Bool} {s : List UInt8} {i : Nat} (h : atP p s i = true) : runTo p s i = runTo p s (i + 1) := by
  have hi := atP_lt h
  rw [atP_in hi] at h
  unfold runTo
  rw [List.drop_eq_getElem_cons hi, List.takeWhile_cons, if_pos h]
  simp; omega
theorem runTo_stop {p : UInt8 → Bool} {s : List UInt8} {i : Nat} (h : atP p s i = false) : runTo p s i = i := by
  unfold runTo
  by_cases hi : i < s.length
  · rw [atP_in hi] at h
    rw [List.drop_eq_getElem_cons hi, List.takeWhile_cons, if_neg (by simp [h])]
    simp
  rw [List.drop_eq_nil_of_le (by omega)]; simp
theorem runTo_le {p : UInt8 → Bool} {s : List UInt8} {i : Nat} (h : i ≤ s.length) : runTo p s i ≤ s.length := by
  unfold runTo
  have h1 := (List.takeWhile_prefix p (l := s.drop i)).length_le
  simp at h1; omega
theorem index_contains (so : List UInt8) (b : UInt8) : decide (0 ≤ Lib.indexByte so b) = so.contains b := by
  induction so with
  | nil => simp [Lib.indexByte]
  | cons x l ih =>
    have hg := Lib.indexByte_ge l b
    unfold Lib.indexByte
    by_cases hx : x = b
    · subst hx; simp
    · have hx' : (b == x) = false := by simpa using Ne.symm hx
      have hx2 : (x == b) = false := by simpa using hx
      rw [List.contains_cons, hx', hx2, Bool.false_or, ← ih]
      by_cases h2 : Lib.indexByte l b = -1
      · simp [h2]
      · have h3 : (Lib.indexByte l b == -1) = false := by simpa using h2
        rw [h3]
        simp only [Bool.false_eq_true, if_false]
        have : (0 ≤ Lib.indexByte l b + 1) ↔ (0 ≤ Lib.indexByte l b) := by omega
        simp only [this]
def isAt (s so : List UInt8) (i : Nat) : Bool := atP so.contains s i
def letterB (b : UInt8) : Bool := (97 ≤ b && b ≤ 122) || (65 ≤ b && b ≤ 90) || b == 95
def digitB (b : UInt8) : Bool := 48 ≤ b && b ≤ 57
def wordB (b : UInt8) : Bool := letterB b || digitB b
def tailB (b : UInt8) : Bool := letterB b || digitB b || b == 46
def pmB (b : UInt8) : Bool := b == 43 || b == 45
def blankB (b : UInt8) : Bool := b == 32 || b == 9 || b == 10 || b == 13
def eqB (x b : UInt8) : Bool := b == x
def notNl (b : UInt8) : Bool := b != 10
theorem con_letters : List.contains ([97, 98, 99, 100, 101, 102, 103, 104, 105, 106, 107, 108, 109, 110, 111, 112, 113, 114, 115, 116, 117, 118, 119, 120, 121, 122, 65, 66, 67, 68, 69, 70, 71, 72, 73, 74, 75, 76, 77, 78, 79, 80, 81, 82, 83, 84, 85, 86, 87, 88, 89, 90, 95] : List UInt8) = letterB := funext (byte_all _ (by decide +kernel))
theorem con_digits : List.contains ([48, 49, 50, 51, 52, 53, 54, 55, 56, 57] : List UInt8) = digitB := funext (byte_all _ (by decide +kernel))
theorem con_words : List.contains ([97, 98, 99, 100, 101, 102, 103, 104, 105, 106, 107, 108, 109, 110, 111, 112, 113, 114, 115, 116, 117, 118, 119, 120, 121, 122, 65, 66, 67, 68, 69, 70, 71, 72, 73, 74, 75, 76, 77, 78, 79, 80, 81, 82, 83, 84, 85, 86, 87, 88, 89, 90, 95, 48, 49, 50, 51, 52, 53, 54, 55, 56, 57] : List UInt8) = wordB := funext (byte_all _ (by decide +kernel))
theorem con_tails : List.contains ([97, 98, 99, 100, 101, 102, 103, 104, 105, 106, 107, 108, 109, 110, 111, 112, 113, 114, 115, 116, 117, 118, 119, 120, 121, 122, 65, 66, 67, 68, 69, 70, 71, 72, 73, 74, 75, 76, 77, 78, 79, 80, 81, 82, 83, 84, 85, 86, 87, 88, 89, 90, 95, 48, 49, 50, 51, 52, 53, 54, 55, 56, 57, 46] : List UInt8) = tailB := funext (byte_all _ (by decide +kernel))
theorem con_pm : List.contains ([43, 45] : List UInt8) = pmB := funext (byte_all _ (by decide +kernel))
theorem con_blanks : List.contains ([32, 9, 10, 13] : List UInt8) = blankB := funext (byte_all _ (by decide +kernel))
theorem con_one (x : UInt8) : List.contains [x] = eqB x := by funext b; simp only [List.contains_cons, List.contains_nil, Bool.or_false, eqB]
def cmt (s : List UInt8) (j : Nat) : Bool := atP (eqB 47) s j && atP (eqB 47) s (j + 1)
def skipF : Nat → List UInt8 → Nat → Nat
  | 0, _, i => i
  | f + 1, s, i => if cmt s (runTo blankB s i) then skipF f s (runTo notNl s (runTo blankB s i)) else runTo blankB s i
def skipTo (s : List UInt8) (i : Nat) : Nat := skipF (s.length + 1 - i) s i
theorem eqB_notNl {b : UInt8} (h : eqB 47 b = true) : notNl b = true := by
  simp only [eqB, beq_iff_eq] at h; subst h; decide
theorem cmt_run {s : List UInt8} {j : Nat} (h : cmt s j = true) : j + 2 ≤ runTo notNl s j := by
  simp only [cmt, Bool.and_eq_true] at h
  have up : ∀ i, atP (eqB 47) s i = true → atP notNl s i = true := fun i hi => by
    have hl := atP_lt hi
    rw [atP_in hl] at hi ⊢
    exact eqB_notNl hi
  rw [runTo_step (up _ h.1), runTo_step (up _ h.2)]
  exact runTo_ge _ _ _
theorem skipF_more (s : List UInt8) : ∀ (f f' i : Nat), s.length + 1 - i ≤ f → s.length + 1 - i ≤ f' → i ≤ s.length → skipF f s i = skipF f' s i
  | 0, _, i, h, _, hi => by omega
  | _ + 1, 0, i, _, h, hi => by omega
  | f + 1, f' + 1, i, h, h', hi => by
    unfold skipF
    split
    · rename_i hc
      have h1 := cmt_run hc
      have h2 := runTo_ge blankB s i
      exact skipF_more s f f' _ (by omega) (by omega) (runTo_le (runTo_le hi))
    · rfl
theorem skipTo_eq {s : List UInt8} {i : Nat} (hi : i ≤ s.length) : skipTo s i = if cmt s (runTo blankB s i) then skipTo s (runTo notNl s (runTo blankB s i)) else runTo blankB s i := by
  unfold skipTo
  rw [show s.length + 1 - i = (s.length - i) + 1 from by omega]
  rw [skipF]
  split
  · rename_i hc
    have h1 := cmt_run hc
    have h2 := runTo_ge blankB s i
    exact skipF_more s _ _ _ (by omega) (by omega) (runTo_le (runTo_le hi))
  rfl
theorem skipTo_le {s : List UInt8} : ∀ {i : Nat}, i ≤ s.length → skipTo s i ≤ s.length ∧ i ≤ skipTo s i := by
  intro i
  generalize hk : s.length - i = k
  induction k using Nat.strongRecOn generalizing i with
  | _ k ih =>
    intro hi
    rw [skipTo_eq hi]
    have h2 := runTo_ge blankB s i
    have h3 := runTo_le (p := blankB) hi
    split
    · rename_i hc
      have h1 := cmt_run hc
      have h4 := runTo_le (p := notNl) h3
      have := ih (s.length - runTo notNl s (runTo blankB s i)) (by omega) rfl h4
      omega
    · omega
theorem prefix_cmt (s : List UInt8) (j : Nat) : List.isPrefixOf [47, 47] (s.drop j) = cmt s j := by
  unfold cmt atP
  have e1 : s[j]? = (s.drop j)[0]? := by simp
  have e2 : s[j + 1]? = (s.drop j)[1]? := by simp
  rw [e1, e2]
  cases s.drop j with
  | nil => rfl
  | cons a l =>
    cases l with
    | nil => simp [List.isPrefixOf]
    | cons b l => simp [List.isPrefixOf, eqB, Bool.beq_comm]
theorem index_run (s : List UInt8) (j : Nat) (h : j ≤ s.length) : runTo notNl s j = if Lib.indexByte (s.drop j) 10 < 0 then s.length else j + (Lib.indexByte (s.drop j) 10).toNat := by
  unfold runTo
  have key : ∀ l : List UInt8, (l.takeWhile notNl).length = if Lib.indexByte l 10 < 0 then l.length else (Lib.indexByte l 10).toNat := by
    intro l
    induction l with
    | nil => simp [Lib.indexByte]
    | cons a l ih =>
      have hg := Lib.indexByte_ge l 10
      unfold Lib.indexByte
      by_cases ha : a = 10
      · subst ha; simp [notNl]
      · have h1 : notNl a = true := by simp [notNl, ha]
        have h2 : (a == 10) = false := by simpa using ha
        rw [List.takeWhile_cons, if_pos h1, h2]
        simp only [Bool.false_eq_true, if_false, List.length_cons, ih]
        by_cases h3 : Lib.indexByte l 10 = -1
        · simp [h3]
        · have h4 : (Lib.indexByte l 10 == -1) = false := by simpa using h3
          rw [h4]
          simp only [Bool.false_eq_true, if_false]
          rw [if_neg (by omega), if_neg (by omega)]
          omega
  rw [key]
  split
  · simp; omega
  · rfl
def numDot (s : List UInt8) (i : Nat) : Nat := if atP (eqB 46) s i && atP digitB s (i + 1) then runTo digitB s (i + 1) else i
def numTens (s : List UInt8) (i : Nat) : Nat × Nat :=
  if atP (eqB 101) s i && atP digitB s (i + 1) then (runTo digitB s (i + 1) - (i + 1), runTo digitB s (i + 1))
  else if atP (eqB 101) s i && (atP pmB s (i + 1) && atP digitB s (i + 2)) then (runTo digitB s (i + 2) - (i + 2), runTo digitB s (i + 2))
  else (0, i)
def numEnd (s : List UInt8) (i : Nat) : Nat := (numTens s (numDot s (runTo digitB s i))).2
def numFine (s : List UInt8) (i : Nat) : Bool := decide ((numTens s (numDot s (runTo digitB s i))).1 ≤ 4) && !atP tailB s (numEnd s i)
theorem run_zero (p : UInt8 → Bool) (s : List UInt8) (i : Nat) : (runTo p s i - i = 0) ↔ (atP p s i = false) := by
  have h := runTo_ge p s i
  constructor
  · intro h0
    cases ha : atP p s i with
    | false => rfl
    | true =>
      have h1 := runTo_step ha
      have h2 := runTo_ge p s (i + 1)
      omega
  · intro ha; rw [runTo_stop ha]; omega
theorem numDot_le {s : List UInt8} {i : Nat} (h : i ≤ s.length) : numDot s i ≤ s.length ∧ i ≤ numDot s i := by
  unfold numDot
  split
  · rename_i hc
    simp only [Bool.and_eq_true] at hc
    have h1 := atP_lt hc.2
    have h2 := runTo_ge digitB s (i + 1)
    have h3 := runTo_le (p := digitB) (s := s) (i := i + 1) (by omega)
    omega
  omega
theorem numTens_le {s : List UInt8} {i : Nat} (h : i ≤ s.length) : (numTens s i).2 ≤ s.length ∧ i ≤ (numTens s i).2 ∧ (numTens s i).1 ≤ s.length := by
  unfold numTens
  split
  · rename_i hc
    simp only [Bool.and_eq_true] at hc
    have h1 := atP_lt hc.2
    have h2 := runTo_ge digitB s (i + 1)
    have h3 := runTo_le (p := digitB) (s := s) (i := i + 1) (by omega)
    simp only; omega
  split
  · rename_i hc
    simp only [Bool.and_eq_true] at hc
    have h1 := atP_lt hc.2.2
    have h2 := runTo_ge digitB s (i + 2)
    have h3 := runTo_le (p := digitB) (s := s) (i := i + 2) (by omega)
    simp only; omega
  simp only; omega
def signsL : List (List UInt8) := [[61, 61], [33, 61], [60, 61], [62, 61], [43, 61], [123], [125], [91], [93], [40], [41], [60], [62], [61], [43], [45], [42], [47], [126], [44], [59], [58]]
def signOf (s : List UInt8) (i : Nat) : Option (List UInt8) := signsL.find? (fun t => t.isPrefixOf (s.drop i))
def signsT : List UInt8 := [61, 61, 32, 33, 61, 32, 60, 61, 32, 62, 61, 32, 43, 61, 32, 123, 32, 125, 32, 91, 32, 93, 32, 40, 32, 41, 32, 60, 32, 62, 32, 61, 32, 43, 32, 45, 32, 42, 32, 47, 32, 126, 32, 44, 32, 59, 32, 58]
theorem signs_fields : Lib.fields signsT = signsL := by decide +kernel
theorem signs_ascii : ∀ (j : Nat) b, signsT[j]? = some b → b.toNat < 128 := by
  intro j b h
  have hm := List.mem_of_getElem? h
  have : ∀ b ∈ signsT, b.toNat < 128 := by decide +kernel
  exact this b hm
def signLen (s : List UInt8) (i : Nat) : Nat := ((signOf s i).map List.length).getD 0
theorem sig_len (k : Nat) : (signsL.getD k []).length ≤ 2 := by
  rcases Nat.lt_or_ge k 22 with h | h
  · revert k; decide +kernel
  have : signsL.length ≤ k := h
  rw [List.getD_eq_getElem?_getD, List.getElem?_eq_none this]; simp
theorem sig_pos (k : Nat) (h : k < 22) : 0 < (signsL.getD k []).length := by revert k; decide +kernel
theorem take_at {k : Nat} (h : k < 22) : signsL.take (k + 1) = signsL.take k ++ [signsL.getD k []] := by
  have hl : k < signsL.length := h
  rw [List.take_succ_eq_append_getElem hl]; simp [hl]
theorem sig_step {s : List UInt8} {j k : Nat} (h : k < 22) (hn : (signsL.take k).find? (fun t => t.isPrefixOf (s.drop j)) = none) (hk : (signsL.getD k []).isPrefixOf (s.drop j) = false) :
    (signsL.take (k + 1)).find? (fun t => t.isPrefixOf (s.drop j)) = none := by
  rw [take_at h, List.find?_append, hn]; simp only [Option.none_or, List.find?_cons, hk, List.find?_nil]
theorem sig_found {s : List UInt8} {j k : Nat} (h : k < 22) (hn : (signsL.take k).find? (fun t => t.isPrefixOf (s.drop j)) = none) (hk : (signsL.getD k []).isPrefixOf (s.drop j) = true) :
    signLen s j = (signsL.getD k []).length := by
  have e : signsL = signsL.take (k + 1) ++ signsL.drop (k + 1) := (List.take_append_drop _ _).symm
  have h1 : signOf s j = some (signsL.getD k []) := by
    unfold signOf
    rw [e, List.find?_append, take_at h, List.find?_append, hn]
    simp only [Option.none_or, List.find?_cons, hk]
    rw [← take_at h, ← e]; rfl
  simp [signLen, h1]
theorem sig_none {s : List UInt8} {j k : Nat} (h : 22 ≤ k) (hn : (signsL.take k).find? (fun t => t.isPrefixOf (s.drop j)) = none) : signLen s j = 0 := by
  rw [List.take_of_length_le (by exact h)] at hn
  have h1 : signOf s j = none := hn
  simp [signLen, h1]
def nameB (s : List UInt8) (i : Nat) : Bool := atP letterB s i && !atP (eqB 95) s i
def tokAt (s : List UInt8) (i : Nat) : Nat × Nat × Bool :=
  if nameB s i then (1, runTo wordB s i, true)
  else if atP digitB s i then (2, numEnd s i, numFine s i)
  else if signLen s i = 0 then (0, i, false) else (3, i + signLen s i, true)
end Go.Tok
end
section
namespace Go.Tok
theorem numEnd_le {s : List UInt8} {i : Nat} (h : i ≤ s.length) : numEnd s i ≤ s.length ∧ runTo digitB s i ≤ numEnd s i := by
  have h1 := runTo_le (p := digitB) h
  have h2 := numDot_le h1
  have h3 := numTens_le h2.1
  unfold numEnd; omega
theorem nameB_run {s : List UInt8} {i : Nat} (h : nameB s i = true) : i < runTo wordB s i := by
  simp only [nameB, Bool.and_eq_true] at h
  have h1 : atP wordB s i = true := by
    have hl := atP_lt h.1
    rw [atP_in hl] at *
    simp [wordB, h.1]
  rw [runTo_step h1]
  have := runTo_ge wordB s (i + 1)
  omega
theorem digit_run {s : List UInt8} {i : Nat} (h : atP digitB s i = true) : i < runTo digitB s i := by
  rw [runTo_step h]
  have := runTo_ge digitB s (i + 1)
  omega
theorem signLen_le {s : List UInt8} {i : Nat} (h : i ≤ s.length) : i + signLen s i ≤ s.length := by
  unfold signLen
  cases ho : signOf s i with
  | none => simpa using h
  | some t =>
    have hp := List.find?_some ho
    have := (List.isPrefixOf_iff_prefix.1 hp).length_le
    simp at this ⊢
    omega
theorem tok_le {s : List UInt8} {i : Nat} (h : i ≤ s.length) : i ≤ (tokAt s i).2.1 ∧ (tokAt s i).2.1 ≤ s.length ∧ ((tokAt s i).2.2 = true → i < (tokAt s i).2.1) := by
  unfold tokAt
  split
  · rename_i h1
    have h2 := nameB_run h1
    have h3 := runTo_le (p := wordB) h
    exact ⟨by simp only; omega, h3, fun _ => h2⟩
  split
  · rename_i h1
    have h2 := digit_run h1
    have h3 := numEnd_le h
    exact ⟨by simp only; omega, h3.1, fun _ => by simp only; omega⟩
  split
  · exact ⟨Nat.le_refl _, h, fun hh => by cases hh⟩
  have := signLen_le h
  exact ⟨by simp only; omega, this, fun _ => by simp only; omega⟩
def tokTx (s : List UInt8) (i : Nat) : List UInt8 := (s.drop i).take ((tokAt s i).2.1 - i)
theorem tokTx_len (s : List UInt8) (i : Nat) (h : s.length ≤ 10000000) : (tokTx s i).length ≤ 10000000 := by
  unfold tokTx; simp only [List.length_take, List.length_drop]; omega
section
variable {σ : Type} (nx : σ → Nat → List UInt8 → Nat → Bool → σ × Bool)
def lexF (s : List UInt8) : Nat → Nat → σ → σ
  | 0, _, x => x
  | f + 1, i, x =>
    if i < s.length then
      if (nx x (tokAt s i).1 (tokTx s i) i (tokAt s i).2.2).2 then lexF s f (skipTo s (tokAt s i).2.1) (nx x (tokAt s i).1 (tokTx s i) i (tokAt s i).2.2).1
      else (nx x (tokAt s i).1 (tokTx s i) i (tokAt s i).2.2).1
    else x
def lexS (s : List UInt8) (i : Nat) (x : σ) : σ := lexF nx s (s.length + 1 - i) i x
variable (hn : ∀ x k t a, (nx x k t a false).2 = false)
include hn
theorem fine_of {s : List UInt8} {i : Nat} {x : σ} (h : (nx x (tokAt s i).1 (tokTx s i) i (tokAt s i).2.2).2 = true) : (tokAt s i).2.2 = true := by
  cases hb : (tokAt s i).2.2 with
  | true => rfl
  | false => rw [hb, hn] at h; cases h
theorem lexF_more (s : List UInt8) : ∀ (f f' i : Nat) (x : σ), s.length + 1 - i ≤ f → s.length + 1 - i ≤ f' → i ≤ s.length → lexF nx s f i x = lexF nx s f' i x
  | 0, _, i, _, h, _, hi => by omega
  | _ + 1, 0, i, _, _, h, hi => by omega
  | f + 1, f' + 1, i, x, h, h', hi => by
    unfold lexF
    split
    · split
      · rename_i h1 h2
        have h3 := tok_le hi
        have h4 := h3.2.2 (fine_of nx hn h2)
        have h5 := skipTo_le h3.2.1
        exact lexF_more s f f' _ _ (by omega) (by omega) h5.1
      · rfl
    · rfl
omit hn in
theorem lexS_stop {s : List UInt8} {i : Nat} {x : σ} (h : ¬ i < s.length) : lexS nx s i x = x := by
  unfold lexS
  cases hf : s.length + 1 - i with
  | zero => rfl
  | succ f => rw [lexF, if_neg h]
omit hn in
theorem lexS_end {s : List UInt8} {i : Nat} {x : σ} (h : i < s.length) (h2 : (nx x (tokAt s i).1 (tokTx s i) i (tokAt s i).2.2).2 = false) : lexS nx s i x = (nx x (tokAt s i).1 (tokTx s i) i (tokAt s i).2.2).1 := by
  unfold lexS
  rw [show s.length + 1 - i = (s.length - i) + 1 from by omega, lexF, if_pos h, if_neg (by rw [h2]; simp)]
theorem lexS_go {s : List UInt8} {i : Nat} {x : σ} (h : i < s.length) (h2 : (nx x (tokAt s i).1 (tokTx s i) i (tokAt s i).2.2).2 = true) : lexS nx s i x = lexS nx s (skipTo s (tokAt s i).2.1) (nx x (tokAt s i).1 (tokTx s i) i (tokAt s i).2.2).1 := by
  have h3 := tok_le (Nat.le_of_lt h)
  have h4 := h3.2.2 (fine_of nx hn h2)
  have h5 := skipTo_le h3.2.1
  unfold lexS
  rw [show s.length + 1 - i = (s.length - i) + 1 from by omega, lexF, if_pos h, if_pos h2]
  exact lexF_more nx hn s _ _ _ _ (by omega) (by omega) h5.1
end
end Go.Tok
end
section
namespace Go.Tok
abbrev Tk := Nat × List UInt8 × Nat
abbrev Rd := List Tk × Nat × Nat
def readN (x : Rd) (k : Nat) (t : List UInt8) (a : Nat) (b : Bool) : Rd × Bool :=
  if b = false then ((x.1, 110, a), false) else if x.1.length = 6000 then ((x.1, 6, a), false) else ((x.1 ++ [(k, t, a)], x.2), true)
theorem readN_no (x : Rd) (k : Nat) (t : List UInt8) (a : Nat) : (readN x k t a false).2 = false := rfl
def readS (s : List UInt8) : Rd := lexS readN s (skipTo s 0) ([], 0, 0)
def readP (s : List UInt8) : Rd := if 20000 < s.length then ([], 3, 0) else if (readS s).2.1 = 0 then ((readS s).1, 0, 0) else ([], (readS s).2)
theorem readP_long {s : List UInt8} (h : 20000 < s.length) : readP s = ([], 3, 0) := if_pos h
theorem readP_fine {s : List UInt8} (h : ¬ 20000 < s.length) (h2 : (readS s).2.1 = 0) : readP s = ((readS s).1, 0, 0) := by rw [readP, if_neg h, if_pos h2]
theorem readP_bad {s : List UInt8} (h : ¬ 20000 < s.length) (h2 : ¬ (readS s).2.1 = 0) : readP s = ([], (readS s).2) := by rw [readP, if_neg h, if_neg h2]
end Go.Tok
end
section
namespace Go.Tree
open Go.Tok
abbrev Str := List UInt8
inductive Ex where
  | mk (op : Nat) (at_ : Int) (nm : Str) (kids : List Ex)
namespace Ex
def op : Ex → Nat | .mk o _ _ _ => o
def at_ : Ex → Int | .mk _ a _ _ => a
def nm : Ex → Str | .mk _ _ n _ => n
def kids : Ex → List Ex | .mk _ _ _ k => k
end Ex
mutual
def exW : Ex → Nat
  | .mk _ _ nm ks => 1 + nm.length + ks.length + exsW ks
def exsW : List Ex → Nat
  | [] => 0
  | e :: l => exW e + exsW l
end
inductive Sm where
  | mk (op : Nat) (at_ : Int) (nm : Str) (kids : List Ex) (body els : List Sm)
namespace Sm
def op : Sm → Nat | .mk o _ _ _ _ _ => o
end Sm
mutual
def smW : Sm → Nat
  | .mk _ _ nm ks b e => 1 + nm.length + ks.length + b.length + e.length + exsW ks + smsW b + smsW e
def smsW : List Sm → Nat
  | [] => 0
  | s :: l => smW s + smsW l
end
structure Dc where
  ty : Nat
  at_ : Int
  nm : Str
  size : List Ex
  lower : List Ex
  upper : List Ex
  init : List Ex
def dcW (d : Dc) : Nat := 1 + d.nm.length + (d.size.length + exsW d.size) + (d.lower.length + exsW d.lower) + (d.upper.length + exsW d.upper) + (d.init.length + exsW d.init)
structure Bk where
  is : Bool
  decls : List Dc
  stmts : List Sm
def oneB (k : Nat) (s : Str) : Bool := decide ((readP s).2.1 = 0) && (match (readP s).1 with | [t] => decide (t.1 = k) && decide (t.2.1 = s) | _ => false)
def wordsL : List Str := [[100, 97, 116, 97], [116, 114, 97, 110, 115, 102, 111, 114, 109, 101, 100], [112, 97, 114, 97, 109, 101, 116, 101, 114, 115], [109, 111, 100, 101, 108], [103, 101, 110, 101, 114, 97, 116, 101, 100], [113, 117, 97, 110, 116, 105, 116, 105, 101, 115], [105, 110, 116], [114, 101, 97, 108], [118, 101, 99, 116, 111, 114], [97, 114, 114, 97, 121], [102, 111, 114], [105, 110], [105, 102], [101, 108, 115, 101], [116, 97, 114, 103, 101, 116], [108, 111, 119, 101, 114], [117, 112, 112, 101, 114]]
def wordsT : Str := [32] ++ wordsL.flatMap (fun x => x ++ [32])
def nameOk (s : Str) : Bool := oneB 1 s && !wordsL.contains s
def ruleOk (op : Nat) (nm : Str) (n : Nat) : Bool :=
  match op with
  | 1 => decide (n = 0) && oneB 2 nm
  | 2 => decide (n = 0) && nameOk nm
  | 3 => decide (n = 1) && nameOk nm
  | 4 => nameOk nm
  | 5 => decide (nm = []) && decide (n = 1)
  | 6 => decide (nm = []) && decide (n = 2)
  | 7 => decide (nm = []) && decide (n = 2)
  | 8 => decide (nm = []) && decide (n = 2)
  | 9 => decide (nm = []) && decide (n = 2)
  | _ => false
mutual
def exOk : Ex → Bool
  | .mk op _ nm ks => ruleOk op nm ks.length && exsOk ks
def exsOk : List Ex → Bool
  | [] => true
  | e :: l => exOk e && exsOk l
end
def cmpOp (op : Nat) : Bool := decide (10 ≤ op) && decide (op ≤ 15)
def cmpOk (e : Ex) : Bool := cmpOp e.op && (decide (e.nm = []) && (decide (e.kids.length = 2) && exsOk e.kids))
def headOk (ks : List Ex) : Bool := match ks with | x :: _ => cmpOk x | [] => false
def sruleOk (op : Nat) (nm : Str) (ks : List Ex) : Bool :=
  match op with
  | 1 => nameOk nm && (decide (ks.length = 1) || decide (ks.length = 2))
  | 2 => decide (nm = []) && decide (ks.length = 1)
  | 3 => nameOk nm && decide (1 ≤ ks.length)
  | 4 => nameOk nm && decide (ks.length = 2)
  | 5 => decide (nm = []) && (decide (ks.length = 1) && headOk ks)
  | 6 => decide (nm = []) && decide (ks.length = 0)
  | _ => false
mutual
def smOk : Sm → Bool
  | .mk op _ nm ks b e => sruleOk op nm ks && (decide (op = 5) || exsOk ks) && !(decide (op < 4) && decide (0 < b.length)) && !(decide (op ≠ 5) && decide (0 < e.length)) && (smsOk b && smsOk e)
def smsOk : List Sm → Bool
  | [] => true
  | s :: l => smOk s && smsOk l
end
def partOk (l : List Ex) : Bool := decide (l.length ≤ 1) && exsOk l
def dcOk (d : Dc) : Bool := decide (1 ≤ d.ty) && decide (d.ty ≤ 5) && nameOk d.nm && (decide (d.size.length = 1) == decide (3 ≤ d.ty)) && !(decide (3 < d.ty) && decide (0 < d.init.length)) && (partOk d.size && (partOk d.lower && (partOk d.upper && partOk d.init)))
def rank (op : Nat) : Nat := if op = 6 ∨ op = 7 then 1 else if op = 8 ∨ op = 9 then 2 else if op = 5 then 3 else 4
def signs (op : Nat) : Str :=
  match op with
  | 6 => [43] | 7 => [45] | 8 => [42] | 9 => [47] | 10 => [61, 61] | 11 => [33, 61] | 12 => [60] | 13 => [60, 61] | 14 => [62] | 15 => [62, 61]
  | _ => []
def rowT : List (List Str) → List Str
  | [] => []
  | t :: l => t ++ l.flatMap (fun x => [44] :: x)
def kidT (op : Nat) (t : List Str) (least : Nat) : List Str := if rank op < least then [[40]] ++ t ++ [[41]] else t
def low (op : Nat) : Nat := if cmpOp op then 0 else rank op
def exTok (op : Nat) (nm : Str) (ops : List Nat) (ts : List (List Str)) : List Str :=
  if op = 1 ∨ op = 2 then [nm]
  else if op = 3 then [nm, [91]] ++ rowT ts ++ [[93]]
  else if op = 4 then [nm, [40]] ++ rowT ts ++ [[41]]
  else if op = 5 then [[45]] ++ kidT (ops.getD 0 0) (ts.getD 0 []) 3
  else kidT (ops.getD 0 0) (ts.getD 0 []) (low op) ++ [signs op] ++ kidT (ops.getD 1 0) (ts.getD 1 []) (min (low op + 1) (low op * 9))
mutual
def exT : Ex → List Str
  | .mk op _ nm ks => exTok op nm (ks.map Ex.op) (exsT ks)
def exsT : List Ex → List (List Str)
  | [] => []
  | e :: l => exT e :: exsT l
end
def bodyT (b : List (List Str)) : List Str := [[123]] ++ b.flatten ++ [[125]]
def smTok (op : Nat) (nm : Str) (ks : List (List Str)) (b e : List (List Str)) : List Str :=
  if op = 1 then [nm] ++ (if 1 < ks.length then [[91]] ++ ks.getD 0 [] ++ [[93]] else []) ++ [[61]] ++ ks.getD (ks.length - 1) [] ++ [[59]]
  else if op = 2 then [[116, 97, 114, 103, 101, 116], [43, 61]] ++ ks.getD 0 [] ++ [[59]]
  else if op = 3 then ks.getD 0 [] ++ [[126], nm, [40]] ++ rowT (ks.drop 1) ++ [[41], [59]]
  else if op = 4 then [[102, 111, 114], [40], nm, [105, 110]] ++ ks.getD 0 [] ++ [[58]] ++ ks.getD 1 [] ++ [[41]] ++ bodyT b
  else if op = 5 then [[105, 102], [40]] ++ ks.getD 0 [] ++ [[41]] ++ bodyT b ++ (if 0 < e.length then [[101, 108, 115, 101]] ++ bodyT e else [])
  else bodyT b
mutual
def smT : Sm → List Str
  | .mk op _ nm ks b e => smTok op nm (exsT ks) (smsT b) (smsT e)
def smsT : List Sm → List (List Str)
  | [] => []
  | s :: l => smT s :: smsT l
end
end Go.Tree
namespace Go.Tree
def dcsW : List Dc → Nat
  | [] => 0
  | d :: l => dcW d + dcsW l
def bkW (b : Bk) : Nat := 1 + b.decls.length + dcsW b.decls + b.stmts.length + smsW b.stmts
def gv (i : Nat) : Bool := decide (i = 0) || decide (i = 2)
def headB (i : Nat) (b : Bk) : Bool := !(!b.is && decide (0 < b.decls.length + b.stmts.length)) && !(gv i && decide (0 < b.stmts.length)) && !(decide (i = 4) && decide (0 < b.decls.length)) && smsOk b.stmts
def dgood (i : Nat) (d : Dc) : Bool := dcOk d && !(gv i && decide (0 < d.init.length))
def bkOk (i : Nat) (b : Bk) : Bool := headB i b && b.decls.all (dgood i)
def pgOk (p : List Bk) : Bool := (List.range 6).all fun i => match p[i]? with | some b => bkOk i b | none => false
def ldT (pre : List Str) (l : List Ex) : List Str := l.flatMap (fun e => pre ++ exT e)
def lowW : List Str := [[108, 111, 119, 101, 114], [61]]
def upW : List Str := [[117, 112, 112, 101, 114], [61]]
def sizeT (d : Dc) : List Str := [[91]] ++ rowT (exsT d.size) ++ [[93]]
def boundsT (d : Dc) : List Str := if d.lower.length + d.upper.length = 0 then [] else [[60]] ++ ldT lowW d.lower ++ (if d.lower.length + d.upper.length = 2 then [[44]] else []) ++ ldT upW d.upper ++ [[62]]
def tyT : Nat → Str
  | 1 => [105, 110, 116] | 2 => [114, 101, 97, 108] | 3 => [118, 101, 99, 116, 111, 114] | 4 => [105, 110, 116] | 5 => [114, 101, 97, 108]
  | _ => []
def dcT (d : Dc) : List Str := (if 4 ≤ d.ty then [[97, 114, 114, 97, 121]] ++ sizeT d else []) ++ [tyT d.ty] ++ boundsT d ++ (if d.ty = 3 then sizeT d else []) ++ [d.nm] ++ ldT [[61]] d.init ++ [[59]]
def dheadT (d : Dc) : List Str := (if 4 ≤ d.ty then [[97, 114, 114, 97, 121]] ++ sizeT d else []) ++ [tyT d.ty] ++ boundsT d ++ (if d.ty = 3 then sizeT d else []) ++ [d.nm]
end Go.Tree
end
section
namespace Go.Sx
open Go.RowKit Go.Tree
def At (W : World) (N : Nat → Prop) (a : Option Addr) (i : Nat) (cs : List Value) : Prop :=
  ∃ b o, a = some ⟨b, o, none⟩ ∧ N b ∧ ∀ j v, cs[j]? = some v → W.cell? ⟨b, o + i + j, none⟩ = some v
mutual
def exM (W : World) (N : Nat → Prop) : Ex → List Value → Prop
  | .mk op at_ nm ks, cs => ∃ a c, cs = [.int .u8 (op : Nat), .int .i64 at_, str nm, .slice a ks.length c] ∧ ks.length ≤ c ∧ exsM W N ks a 0
def exsM (W : World) (N : Nat → Prop) : List Ex → Option Addr → Nat → Prop
  | [], _, _ => True
  | e :: l, a, i => (∃ cs, At W N a i cs ∧ exM W N e cs) ∧ exsM W N l a (i + 4)
end
mutual
def smM (W : World) (N : Nat → Prop) : Sm → List Value → Prop
  | .mk op at_ nm ks b e, cs => ∃ a c ab cb ae ce, cs = [.int .u8 (op : Nat), .int .i64 at_, str nm, .slice a ks.length c, .slice ab b.length cb, .slice ae e.length ce] ∧ ks.length ≤ c ∧ exsM W N ks a 0 ∧ smsM W N b ab 0 ∧ smsM W N e ae 0
def smsM (W : World) (N : Nat → Prop) : List Sm → Option Addr → Nat → Prop
  | [], _, _ => True
  | e :: l, a, i => (∃ cs, At W N a i cs ∧ smM W N e cs) ∧ smsM W N l a (i + 6)
end
theorem At.fr {W W' : World} {S N : Nat → Prop} {a : Option Addr} {i : Nat} {cs : List Value} (h : At W N a i cs) (hf : Fr S W W') (hn : ∀ b, N b → ¬ S b) : At W' N a i cs := by
  obtain ⟨b, o, ha, hb, hc⟩ := h
  exact ⟨b, o, ha, hb, fun j v hj => hf.cell (hc j v hj) (hn b hb)⟩
mutual
theorem exM.fr {W W' : World} {S N : Nat → Prop} (hf : Fr S W W') (hn : ∀ b, N b → ¬ S b) : ∀ (e : Ex) (cs : List Value), exM W N e cs → exM W' N e cs
  | .mk op at_ nm ks, cs, h => by
    unfold exM at h ⊢
    obtain ⟨a, c, h1, h2, h3⟩ := h
    exact ⟨a, c, h1, h2, exsM.fr hf hn ks a 0 h3⟩
theorem exsM.fr {W W' : World} {S N : Nat → Prop} (hf : Fr S W W') (hn : ∀ b, N b → ¬ S b) : ∀ (l : List Ex) (a : Option Addr) (i : Nat), exsM W N l a i → exsM W' N l a i
  | [], _, _, _ => by unfold exsM; trivial
  | e :: l, a, i, h => by
    unfold exsM at h ⊢
    obtain ⟨⟨cs, h1, h2⟩, h3⟩ := h
    exact ⟨⟨cs, h1.fr hf hn, exM.fr hf hn e cs h2⟩, exsM.fr hf hn l a (i + 4) h3⟩
end
mutual
theorem smM.fr {W W' : World} {S N : Nat → Prop} (hf : Fr S W W') (hn : ∀ b, N b → ¬ S b) : ∀ (e : Sm) (cs : List Value), smM W N e cs → smM W' N e cs
  | .mk op at_ nm ks b e, cs, h => by
    unfold smM at h ⊢
    obtain ⟨a, c, ab, cb, ae, ce, h1, h2, h3, h4, h5⟩ := h
    exact ⟨a, c, ab, cb, ae, ce, h1, h2, exsM.fr hf hn ks a 0 h3, smsM.fr hf hn b ab 0 h4, smsM.fr hf hn e ae 0 h5⟩
theorem smsM.fr {W W' : World} {S N : Nat → Prop} (hf : Fr S W W') (hn : ∀ b, N b → ¬ S b) : ∀ (l : List Sm) (a : Option Addr) (i : Nat), smsM W N l a i → smsM W' N l a i
  | [], _, _, _ => by unfold smsM; trivial
  | e :: l, a, i, h => by
    unfold smsM at h ⊢
    obtain ⟨⟨cs, h1, h2⟩, h3⟩ := h
    exact ⟨⟨cs, h1.fr hf hn, smM.fr hf hn e cs h2⟩, smsM.fr hf hn l a (i + 6) h3⟩
end
abbrev Apart (x : World × (Nat → Prop)) (N : Nat → Prop) : Prop := ∀ b, N b → ¬ x.2 b
theorem exM.now {x : World × (Nat → Prop)} {N : Nat → Prop} {e : Ex} {cs : List Value} {B : Base} {L : Heap} {w : World} (h : exM x.1 N e cs) (hn : Apart x N) (hx : x ∈ B) (hw : St B L w) : exM w N e cs := exM.fr (hw.fr x hx) hn e cs h
theorem exsM.now {x : World × (Nat → Prop)} {N : Nat → Prop} {l : List Ex} {a : Option Addr} {i : Nat} {B : Base} {L : Heap} {w : World} (h : exsM x.1 N l a i) (hn : Apart x N) (hx : x ∈ B) (hw : St B L w) : exsM w N l a i := exsM.fr (hw.fr x hx) hn l a i h
theorem smM.now {x : World × (Nat → Prop)} {N : Nat → Prop} {e : Sm} {cs : List Value} {B : Base} {L : Heap} {w : World} (h : smM x.1 N e cs) (hn : Apart x N) (hx : x ∈ B) (hw : St B L w) : smM w N e cs := smM.fr (hw.fr x hx) hn e cs h
theorem smsM.now {x : World × (Nat → Prop)} {N : Nat → Prop} {l : List Sm} {a : Option Addr} {i : Nat} {B : Base} {L : Heap} {w : World} (h : smsM x.1 N l a i) (hn : Apart x N) (hx : x ∈ B) (hw : St B L w) : smsM w N l a i := smsM.fr (hw.fr x hx) hn l a i h
theorem exsM.get {W : World} {N : Nat → Prop} : ∀ {l : List Ex} {a : Option Addr} {i k : Nat} {e : Ex}, exsM W N l a i → l[k]? = some e → ∃ cs, At W N a (i + k * 4) cs ∧ exM W N e cs
  | [], _, _, _, _, _, h => by simp at h
  | x :: l, a, i, 0, e, h, hk => by
    obtain rfl : x = e := by simpa using hk
    unfold exsM at h
    obtain ⟨⟨cs, h1, h2⟩, _⟩ := h
    exact ⟨cs, by simpa using h1, h2⟩
  | x :: l, a, i, k + 1, e, h, hk => by
    unfold exsM at h
    obtain ⟨cs, h1, h2⟩ := exsM.get (k := k) h.2 (by simpa using hk)
    exact ⟨cs, by rw [show i + (k + 1) * 4 = i + 4 + k * 4 by omega]; exact h1, h2⟩
theorem smsM.get {W : World} {N : Nat → Prop} : ∀ {l : List Sm} {a : Option Addr} {i k : Nat} {e : Sm}, smsM W N l a i → l[k]? = some e → ∃ cs, At W N a (i + k * 6) cs ∧ smM W N e cs
  | [], _, _, _, _, _, h => by simp at h
  | x :: l, a, i, 0, e, h, hk => by
    obtain rfl : x = e := by simpa using hk
    unfold smsM at h
    obtain ⟨⟨cs, h1, h2⟩, _⟩ := h
    exact ⟨cs, by simpa using h1, h2⟩
  | x :: l, a, i, k + 1, e, h, hk => by
    unfold smsM at h
    obtain ⟨cs, h1, h2⟩ := smsM.get (k := k) h.2 (by simpa using hk)
    exact ⟨cs, by rw [show i + (k + 1) * 6 = i + 6 + k * 6 by omega]; exact h1, h2⟩
theorem At.cell {x : World × (Nat → Prop)} {N : Nat → Prop} {b o i : Nat} {cs : List Value} {B : Base} {L : Heap} {w : World} (h : At x.1 N (some ⟨b, o, none⟩) i cs) (hn : Apart x N) (hx : x ∈ B) (hw : St B L w) (j : Nat) (v : Value) (hj : cs[j]? = some v) : w.cell? ⟨b, o + i + j, none⟩ = some v := by
  obtain ⟨b', o', ha, hb, hc⟩ := h.fr (hw.fr x hx) hn
  cases ha
  exact hc j v hj
theorem At.ptr {W : World} {N : Nat → Prop} {a : Option Addr} {i : Nat} {cs : List Value} (h : At W N a i cs) : ∃ b o, a = some ⟨b, o, none⟩ := by obtain ⟨b, o, ha, _⟩ := h; exact ⟨b, o, ha⟩
section
variable {P : Program} {ops : Array Oper} {Q : Exit → Act → World → Prop} {c : Cf} {e : Env} {B : Base} {L : Heap} {rest : List Oper} {o : Oper} {v : Value} {d : Nat} {q : Md} {w : World} {ρ : Operand → Value} {x y z : Operand} {ty T : TypeId} {pos p : String} {aft a : Array Edge} {D : Option Tmp} {g : Option (Nat × Bool)}
def fdB (P : Program) (t f ft off : Nat) : Bool :=
  match P.underlying t with
  | some (.struct fs) => (match fs[f]? with | some x => x.type == ft && x.offset == off | none => false)
  | _ => false
theorem R_fieldA {t f ft off : Nat} {xs : List Value} (hf : fdB P t f ft off = true) (hz : szB P ft 1 false = true) (hx : ρ x = .agg xs.toArray) (hv : xs[off]? = some v) : Run P ⟨D, .field t x f, ty, pos, aft, g⟩ ρ w v w := by
  unfold fdB at hf
  split at hf
  · rename_i fs h1
    split at hf
    · rename_i fl h2
      simp only [Bool.and_eq_true, beq_iff_eq] at hf
      simp only [Run, execOp, hx, Instr.field, Sem.run_bind, run_underlying h1, Result.andThen, h2, hf.1, hf.2]
      have h3 := run_part1 (w := w) hz hv
      have h4 : (asAgg (.agg xs.toArray)).run P w = .ok xs.toArray w := rfl
      simp only [Sem.run_bind, h4, Result.andThen, h3]
      rfl
    cases hf
  cases hf
theorem eq_bb {t : TypeId} {a b : Bool} (h : P.underlying t = some .bool) : (Op.equal t (.bool a) (.bool b)).run P w = .ok (a == b) w := by
  unfold Op.equal Op.maxDepth
  rw [show 10000 = 9999 + 1 from rfl]
  unfold Op.equalIn
  simp only [Sem.run_bind, run_underlying h, Result.andThen]
  rfl
theorem R_bne {t yt : TypeId} {a b : Bool} (h : P.underlying t = some .bool) (hx : ρ x = .bool a) (hy : ρ y = .bool b) : Run P ⟨D, .binOp .neq t x y yt, ty, pos, aft, g⟩ ρ w (.bool (!(a == b))) w := by
  simp only [Run, execOp, hx, hy, eqGuard, binOp, Sem.run_bind, eq_bb h, Result.andThen]
  rfl
end
end Go.Sx
end
section
namespace Go.Sx
open Go.RowKit
def WO (P : Program) (ops : Array Oper) (c : Cf) (Q : Exit → Act → World → Prop) (S : World → Prop) (fuel : Nat) (listed : Array Bool) (i : Nat) (e : Env) (B : Base) (L : Heap) : Prop :=
  ∀ w, St B L w → wpOp P ops (Qn Q) i (fun a' w' => S w' ∧ wpAnyH P .any ops (Qn Q) S fuel (listed.setIfInBounds i true) a' w') (act c e) w
section
variable {P : Program} {ops : Array Oper} {Q : Exit → Act → World → Prop} {c : Cf} {e : Env} {B B' : Base} {L L' : Heap} {o : Oper} {v : Value} {d id fuel : Nat} {S : World → Prop} {listed : Array Bool}
theorem h_two (i j : Nat) (hr : Region.ready .any ops listed = [i, j]) (hs : ∀ w, St B L w → S w) (h1 : WO P ops c Q S fuel listed i e B L) (h2 : WO P ops c Q S fuel listed j e B L) : WH P ops c Q S (fuel + 1) listed e B L := by
  refine ⟨hs, fun w hw => wpAnyH_all hr (by simp) (fun k hk => ?_)⟩
  rcases List.mem_cons.1 hk with rfl | hk
  · exact h1 w hw
  obtain rfl : k = j := by simpa using hk
  exact h2 w hw
theorem zH (i : Nat) (hr : Region.ready .any ops listed = [i]) (hs : ∀ w, St B L w → S w) (h1 : WO P ops c Q S fuel listed i e B L) : WH P ops c Q S (fuel + 1) listed e B L := by
  refine ⟨hs, fun w hw => wpAnyH_all hr (by simp) (fun k hk => ?_)⟩
  obtain rfl : k = i := by simpa using hk
  exact h1 w hw
theorem zH2 (i : Nat) (hs : ∀ w, St B L w → S w) (h1 : WO P ops c Q S fuel listed i e B L) (hr : Region.ready .any ops listed = [i] := by kernel_rfl) : WH P ops c Q S (fuel + 1) listed e B L := zH i hr hs h1
theorem o_val {i : Nat} (hi : ops[i]? = some o) (hg : plainB o = true) (hd : o.dst = some d)
    (h : ∀ w, St B L w → ∃ v w' B' L', Run P o (ev c.n e) w v w' ∧ St B' L' w' ∧ WH P ops c Q S fuel (listed.setIfInBounds i true) (upd e d v) B' L') : WO P ops c Q S fuel listed i e B L := by
  intro w hw
  obtain ⟨v, w', B', L', h1, h2, h3⟩ := h w hw
  unfold wpOp
  simp only [hi, Region.wanted, (plainB_spec hg).1, if_true]
  refine .inl ?_
  unfold Oper.wp
  unfold Run at h1
  rw [act_eval, h1, Oper.upon_value, hd, act_put]
  exact ⟨h3.s w' h2, h3.h w' h2⟩
theorem o_unit {i : Nat} (hi : ops[i]? = some o) (hg : plainB o = true) (hd : o.dst = none)
    (h : ∀ w, St B L w → ∃ w' B' L', RunU P o (ev c.n e) w w' ∧ St B' L' w' ∧ WH P ops c Q S fuel (listed.setIfInBounds i true) e B' L') : WO P ops c Q S fuel listed i e B L := by
  intro w hw
  obtain ⟨w', B', L', h1, h2, h3⟩ := h w hw
  unfold wpOp
  simp only [hi, Region.wanted, (plainB_spec hg).1, if_true]
  refine .inl ?_
  unfold Oper.wp
  unfold RunU at h1
  rw [act_eval, h1]
  simp only [Oper.upon, hd, act_put_none]
  exact ⟨h3.s w' h2, h3.h w' h2⟩
theorem o_alloc {i : Nat} {t T : TypeId} {zv : Value} {p : String} {a : Array Edge} (hi : ops[i]? = some ⟨some d, .alloc t, T, p, a, none⟩) (hz : zeroB P t zv)
    (h : ∀ b, (∀ x ∈ L, x.1 < b) → (∀ x ∈ B, x.1.heap.size ≤ b) → WH P ops c Q S fuel (listed.setIfInBounds i true) (upd e d (pX b)) B ((b, .cells zv.cells t (0, 0)) :: L)) : WO P ops c Q S fuel listed i e B L :=
  o_val hi rfl rfl fun w hw => ⟨_, _, B, _, R_alloc hz, hw.new, h w.heap.size (fun p hp => lt_of_blk (hw.own p hp)) (fun x hx => (hw.fr x hx).size)⟩
theorem zJ {i : Nat} {t T ty : TypeId} {x y : Operand} {p : String} {a : Array Edge} {b off k : Nat} {cs vs cs' : List Value} {ag : Bool} (j : Nat) (hi : ops[i]? = some ⟨none, .store t x y, ty, p, a, none⟩) (hj : L[j]? = some (b, cel cs T)) (hz : szB P t k ag = true) (hx : ev c.n e x = .pointer (some ⟨b, off, none⟩)) (hy : ev c.n e y = v)
    (hv : v.cells = vs.toArray) (hl : vs.length = k) (h1 : vs.all Value.oneCell' = true) (ho : Nat.ble (off + k) cs.length = true) (hc : cs.take off ++ vs ++ cs.drop (off + k) = cs')
    (h : WH P ops c Q S fuel (listed.setIfInBounds i true) e B (L.set j (b, cel cs' T))) : WO P ops c Q S fuel listed i e B L :=
  o_unit hi rfl rfl fun w hw => by
    subst hc
    exact ⟨_, B, _, R_st hz hx hy hv hl h1 (hw.at_ j hj) (Nat.le_of_ble_eq_true ho), hw.put j hj, h⟩
end
attribute [irreducible] WO
end Go.Sx
end
section
namespace Go.Sx
open Go.RowKit
def RetP (P : Program) (f : FuncId) (args : Array Value) (w : World) (R : Value → World → Prop) (E : List PanicEntry → World → Prop) : Prop :=
 Calls P f args w fun e w' => (∃ v, e = .returned v ∧ R v w') ∨ (∃ ch, e = .panicked ch ∧ E ch w')
theorem RetP.mono {P : Program} {f : FuncId} {args : Array Value} {w : World} {R R' : Value → World → Prop} {E E' : List PanicEntry → World → Prop} (h : RetP P f args w R E) (hr : ∀ v w', R v w' → R' v w') (he : ∀ ch w', E ch w' → E' ch w') : RetP P f args w R' E' :=
 Calls.mono h fun _ _ h => h.elim (fun ⟨v, h1, h2⟩ => .inl ⟨v, h1, hr _ _ h2⟩) (fun ⟨ch, h1, h2⟩ => .inr ⟨ch, h1, he _ _ h2⟩)
theorem Ret.toP {P : Program} {f : FuncId} {args : Array Value} {w : World} {R : Value → World → Prop} {E : List PanicEntry → World → Prop} (h : Ret P f args w R) : RetP P f args w R E :=
 Calls.mono h fun _ _ ⟨v, h1, h2⟩ => .inl ⟨v, h1, h2⟩
def PostP (P : Program) (fn : Func) (R : Value → World → Prop) (E : List PanicEntry → World → Prop) : Exit → Act → World → Prop :=
 bodyPost P fn fun e w' => (∃ v, e = .returned v ∧ R v w') ∨ (∃ ch, e = .panicked ch ∧ E ch w')
section
variable {P : Program} {ops : Array Oper} {Q : Exit → Act → World → Prop} {c : Cf} {e : Env} {w : World} {rest : List Oper} {o : Oper} {d : Nat} {B B' : Base} {L L' : Heap} {f : FuncId} {args : Array Value}
theorem s_callP {R : Value → World → Prop} {E : List PanicEntry → World → Prop} (hr : RunE P o (ev c.n e) w f args) (hg : plainB o = true) (hc : RetP P f args w R E)
  (h : ∀ v w', R v w' → wpListIn (fw c.ro) 0 P ops Q rest ((act c e).put o.dst v) w') (hE : ∀ ch w', E ch w' → Q (.panic ch) (act c e) w') : WL c P ops Q (o :: rest) e w :=
 s_op hr hg fun K hK => by
  rw [Oper.uponIn_enter]
  refine ⟨fun hh => absurd hh (by simp [fw, Fence.wide]), ?_⟩
  have hc' : CallsIn (fw c.ro) (0 - 1) P f args w _ := callsIn_wide.2 hc
  refine hc'.mono ?_
  rintro x w' (⟨v, rfl, hv⟩ | ⟨ch, rfl, hv⟩)
  ·exact hK _ _ (h v w' hv)
  ·exact hE _ _ hv
theorem w_callP {R : World → Value → World → Prop} {E : World → List PanicEntry → World → Prop} (hr : ∀ w, RunE P o (ev c.n e) w f args) (hg : plainB o = true) (hd : o.dst = some d) (hc : ∀ w, St B L w → RetP P f args w (R w) (E w))
  (h : ∀ w, St B L w → ∀ v w', R w v w' → ∃ B' L', St B' L' w' ∧ WX .sq P ops c Q rest (upd e d v) B' L')
  (hE : ∀ w, St B L w → ∀ ch w', E w ch w' → ∀ a : Act, a.defers = c.ds → Q (.panic ch) a w') : WX .sq P ops c Q (o :: rest) e B L := by
 unfold WX at *
 exact fun w hw => s_callP (hr w) hg (hc w hw) (fun v w' hv => by
  obtain ⟨B', L', h1, h2⟩ := h w hw v w' hv
  rw [hd, act_put]
  exact h2 w' h1) (fun ch w' h => hE w hw ch w' h _ rfl)
theorem w_halt {v : Value} (hr : ∀ w, (execOp (ev c.n e) o).run P w = .halt (.panic v) w) (hg : plainB o = true) (h : ∀ w, St B L w → Q (.panic [{ v, recovered := false }]) (act c e) w) : WX .sq P ops c Q (o :: rest) e B L := by
 unfold WX
 exact fun w hw => s_op (hr w) hg fun K _ => by rw [Oper.uponIn_panic]; exact h w hw
end
section
variable {P : Program} {fn : Func} {R : Value → World → Prop} {E : List PanicEntry → World → Prop} {c : Cf} {e : Env} {B : Base} {L : Heap} {x : Exit}
theorem enterP {f : FuncId} {x : Code} {l : List Value} {w : World} {S : Nat → Prop} {L : Heap} (n : Nat)
  (hf : P.funcs[f]? = some fn) (hb : fn.body = some x) (hn : fn.ntmps = n) (hl : Nat.ble l.length n = true) (hL : St [(w, S)] L w)
  (h : WC P (cf n) x (PostP P fn R E) (ofL l) [(w, S)] L) : RetP P f l.toArray w R E := by
 unfold WC at h
 exact calls n hf hb hn hl (h w hL)
theorem p_out {ch : List PanicEntry} {w : World} {a : Act} (ha : a.defers = []) (h : E ch w) : PostP P fn R E (.panic ch) a w := by
 unfold PostP
 exact ⟨ha, .inr ⟨ch, rfl, h⟩⟩
end
attribute [irreducible] PostP
section
variable {P : Program} {ρ : Operand → Value} {w : World} {D : Option Tmp} {ty t : TypeId} {pos : String} {aft : Array Edge} {g : Option (Nat × Bool)} {x : Operand} {v : Value}
theorem R_mkI (h : P.concrete t = true) (hx : ρ x = v) : Run P ⟨D, .makeInterface t x, ty, pos, aft, g⟩ ρ w (.iface t v) w := by
 simp [Run, execOp, hx, run_makeInterface _ t v h, go_sem]
theorem R_panic (hx : ρ x = .iface t v) : (execOp ρ ⟨D, .panic x, ty, pos, aft, g⟩).run P w = .halt (.panic (.iface t v)) w := by
 simp [execOp, hx, run_panic_iface, go_sem]
end
section
variable {P : Program} {ops : Array Oper} {Q : Exit → Act → World → Prop} {c : Cf} {e : Env} {B : Base} {L : Heap} {d i fuel : Nat} {S : World → Prop} {listed : Array Bool}
theorem o_run {o : Oper} {v : Value} (hi : ops[i]? = some o) (hg : plainB o = true) (hd : o.dst = some d) (hr : ∀ w, St B L w → Run P o (ev c.n e) w v w) (h : WH P ops c Q S fuel (listed.setIfInBounds i true) (upd e d v) B L) : WO P ops c Q S fuel listed i e B L :=
 o_val hi hg hd fun w hw => ⟨v, w, B, L, hr w hw, hw, h⟩
end
end Go.Sx
end
section
namespace Go.Num
def dg (b n i : Nat) : Nat := n / b ^ i % b
section
variable {b : Nat}
theorem dg_lt (hb : 0 < b) (n i : Nat) : dg b n i < b := Nat.mod_lt _ hb
theorem mod_step (b n i : Nat) : n % b ^ (i + 1) = n % b ^ i + b ^ i * dg b n i := Nat.mod_pow_succ
theorem dg_out {n i : Nat} (h : n < b ^ i) : dg b n i = 0 := by unfold dg; rw [Nat.div_eq_of_lt h, Nat.zero_mod]
theorem dg_zero (b i : Nat) : dg b 0 i = 0 := by unfold dg; rw [Nat.zero_div, Nat.zero_mod]
theorem div_step (b n i : Nat) : n / b ^ i = dg b n i + b * (n / b ^ (i + 1)) := by
  unfold dg; rw [Nat.pow_succ, ← Nat.div_div_eq_div_mul, Nat.mod_add_div]
theorem dg_div (b n j i : Nat) : dg b (n / b ^ j) i = dg b n (j + i) := by
  unfold dg; rw [Nat.div_div_eq_div_mul, ← Nat.pow_add]
theorem dg_low {x y i j : Nat} (hb : 0 < b) (h : i < j) : dg b (x + b ^ j * y) i = dg b x i := by
  unfold dg
  obtain ⟨d, rfl⟩ : ∃ d, j = i + (d + 1) := ⟨j - i - 1, by omega⟩
  have hp : 0 < b ^ i := Nat.pow_pos hb
  rw [Nat.pow_add, Nat.mul_assoc, Nat.add_mul_div_left _ _ hp, Nat.pow_succ, Nat.mul_comm (b ^ d) b, Nat.mul_assoc, Nat.add_mul_mod_self_left]
theorem dg_high {x y i j : Nat} (hx : x < b ^ j) : dg b (x + b ^ j * y) (j + i) = dg b y i := by
  rw [← dg_div]
  have hp : 0 < b ^ j := by omega
  rw [Nat.add_mul_div_left _ _ hp, Nat.div_eq_of_lt hx, Nat.zero_add]
theorem dg_mod {n i j : Nat} (hb : 0 < b) (h : i < j) : dg b (n % b ^ j) i = dg b n i := by
  have := dg_low (x := n % b ^ j) (y := n / b ^ j) hb h
  rw [Nat.mod_add_div] at this
  exact this.symm
theorem dg_self {d : Nat} (hd : d < b) : dg b d 0 = d := by unfold dg; rw [Nat.pow_zero, Nat.div_one, Nat.mod_eq_of_lt hd]
theorem dg_top {x d j : Nat} (hx : x < b ^ j) (hd : d < b) : dg b (x + b ^ j * d) j = d := by
  have := dg_high (y := d) (i := 0) hx
  rw [Nat.add_zero] at this
  rw [this, dg_self hd]
theorem eq_of_dg {x y : Nat} : ∀ k : Nat, (∀ i, i < k → dg b x i = dg b y i) → x % b ^ k = y % b ^ k
  | 0, _ => by simp [Nat.mod_one]
  | k + 1, h => by rw [mod_step, mod_step, eq_of_dg k (fun i hi => h i (by omega)), h k (by omega)]
def setd (b z j d : Nat) : Nat := (z % b ^ j + b ^ j * d) + b ^ (j + 1) * (z / b ^ (j + 1))
theorem lt_snoc {x d j : Nat} (hx : x < b ^ j) (hd : d < b) : x + b ^ j * d < b ^ (j + 1) := by
  have h1 : b ^ j * (d + 1) ≤ b ^ j * b := Nat.mul_le_mul_left _ hd
  rw [Nat.pow_succ]
  rw [Nat.mul_add] at h1
  omega
theorem setd_same {z j d : Nat} (hb : 0 < b) (hd : d < b) : dg b (setd b z j d) j = d := by
  unfold setd
  rw [dg_low hb (Nat.lt_succ_self j), dg_top (Nat.mod_lt _ (Nat.pow_pos hb)) hd]
theorem setd_other {z i j d : Nat} (hb : 0 < b) (hd : d < b) (h : i ≠ j) : dg b (setd b z j d) i = dg b z i := by
  unfold setd
  rcases Nat.lt_or_ge i j with h1 | h1
  · rw [dg_low hb (by omega), dg_low hb h1, dg_mod hb h1]
  obtain ⟨e, rfl⟩ : ∃ e, i = (j + 1) + e := ⟨i - (j + 1), by omega⟩
  rw [dg_high (lt_snoc (Nat.mod_lt _ (Nat.pow_pos hb)) hd), dg_div]
theorem setd_mod {z j d : Nat} (hb : 0 < b) (hd : d < b) : setd b z j d % b ^ (j + 1) = z % b ^ j + b ^ j * d := by
  unfold setd
  rw [Nat.add_mul_mod_self_left, Nat.mod_eq_of_lt (lt_snoc (Nat.mod_lt _ (Nat.pow_pos hb)) hd)]
theorem setd_div {z j d : Nat} (hb : 0 < b) (hd : d < b) : setd b z j d / b ^ (j + 1) = z / b ^ (j + 1) := by
  unfold setd
  rw [Nat.add_mul_div_left _ _ (Nat.pow_pos hb), Nat.div_eq_of_lt (lt_snoc (Nat.mod_lt _ (Nat.pow_pos hb)) hd), Nat.zero_add]
theorem setd_lt {z j d k : Nat} (hb : 0 < b) (hd : d < b) (hz : z < b ^ k) (hj : j < k) : setd b z j d < b ^ k := by
  obtain ⟨e, rfl⟩ : ∃ e, k = (j + 1) + e := ⟨k - (j + 1), by omega⟩
  have h1 : setd b z j d / b ^ (j + 1) < b ^ e := by
    rw [setd_div hb hd]
    exact Nat.div_lt_of_lt_mul (by rw [← Nat.pow_add]; exact hz)
  rw [Nat.pow_add, Nat.mul_comm]
  exact (Nat.div_lt_iff_lt_mul (Nat.pow_pos hb)).1 h1
theorem lt_of_dg {n k : Nat} (h : n < b ^ (k + 1)) (h0 : dg b n k = 0) : n < b ^ k := by
  have := mod_step b n k
  rw [h0, Nat.mul_zero, Nat.add_zero, Nat.mod_eq_of_lt h] at this
  rcases Nat.eq_zero_or_pos (b ^ k) with hp | hp
  · rw [Nat.pow_succ, hp] at h; omega
  rw [this]; exact Nat.mod_lt _ hp
end
abbrev B : Nat := 18446744073709551616
abbrev b32 : Nat := 4294967296
theorem B_two : B = 2 ^ 64 := by decide
theorem b32_two : b32 = 2 ^ 32 := by decide
theorem B_pos : 0 < B := by decide
theorem b32_pos : 0 < b32 := by decide
theorem B_pow (i : Nat) : B ^ i = 2 ^ (64 * i) := by rw [B_two, ← Nat.pow_mul]
theorem b32_pow (i : Nat) : b32 ^ i = 2 ^ (32 * i) := by rw [b32_two, ← Nat.pow_mul]
theorem Bpow_pos (i : Nat) : 0 < B ^ i := Nat.pow_pos B_pos
theorem b32pow_pos (i : Nat) : 0 < b32 ^ i := Nat.pow_pos b32_pos
theorem B_b32 (i : Nat) : B ^ i = b32 ^ (2 * i) := by rw [B_pow, b32_pow, show 64 * i = 32 * (2 * i) by omega]
def bl (n : Nat) : Nat := if n = 0 then 0 else Nat.log2 n + 1
theorem lt_bl (n : Nat) : n < 2 ^ bl n := by
  unfold bl
  split
  · rename_i h; subst h; decide
  exact Nat.lt_log2_self
theorem bl_le {n k : Nat} (h : n < 2 ^ k) : bl n ≤ k := by
  unfold bl
  split
  · omega
  rename_i h0; exact (Nat.log2_lt h0).2 h
theorem bl_iff {n k : Nat} : bl n ≤ k ↔ n < 2 ^ k := ⟨fun h => Nat.lt_of_lt_of_le (lt_bl n) (Nat.pow_le_pow_right (by decide) h), bl_le⟩
theorem bl_pos {n : Nat} (h : n ≠ 0) : 0 < bl n := by unfold bl; rw [if_neg h]; omega
theorem bl_ge {n : Nat} (h : n ≠ 0) : 2 ^ (bl n - 1) ≤ n := by
  rcases Nat.lt_or_ge n (2 ^ (bl n - 1)) with h1 | h1
  · have := bl_le h1; have := bl_pos h; omega
  exact h1
theorem bl_eq {n k : Nat} (h1 : 2 ^ k ≤ n) (h2 : n < 2 ^ (k + 1)) : bl n = k + 1 := by
  have h3 := bl_le h2
  rcases Nat.lt_or_ge (bl n) (k + 1) with h | h
  · have := (bl_iff (n := n) (k := k)).1 (by omega); omega
  omega
def sz (n : Nat) : Nat := (bl n + 63) / 64
theorem sz_iff {n k : Nat} : sz n ≤ k ↔ n < B ^ k := by
  rw [B_pow, ← bl_iff]; unfold sz; omega
theorem lt_sz (n : Nat) : n < B ^ sz n := sz_iff.1 (Nat.le_refl _)
theorem sz_zero : sz 0 = 0 := rfl
theorem sz_eq_zero {n : Nat} : sz n = 0 ↔ n = 0 := by
  constructor
  · intro h
    have := lt_sz n
    rw [h, Nat.pow_zero] at this; omega
  rintro rfl; rfl
theorem sz_pos {n : Nat} (h : n ≠ 0) : 0 < sz n := by
  have := mt sz_eq_zero.1 h; omega
theorem sz_ge {n : Nat} (h : n ≠ 0) : B ^ (sz n - 1) ≤ n := by
  rcases Nat.lt_or_ge n (B ^ (sz n - 1)) with h1 | h1
  · have := sz_iff.2 h1; have := sz_pos h; omega
  exact h1
theorem sz_of_top {n k : Nat} (h : n < B ^ (k + 1)) (h0 : dg B n k ≠ 0) : sz n = k + 1 := by
  have h1 := sz_iff.2 h
  rcases Nat.lt_or_ge (sz n) (k + 1) with h2 | h2
  · exact absurd (dg_out (sz_iff.1 (by omega : sz n ≤ k))) h0
  omega
theorem top_ne {n : Nat} (h : n ≠ 0) : dg B n (sz n - 1) ≠ 0 := by
  intro h0
  have hp := sz_pos h
  have := lt_of_dg (b := B) (n := n) (k := sz n - 1) (by rw [show sz n - 1 + 1 = sz n by omega]; exact lt_sz n) h0
  have := sz_ge h
  omega
end Go.Num
end
section
namespace Go.Sx
open Go.RowKit Go.Num
def lmV (n k : Nat) : List Value := (List.range k).map fun j => .int .u64 (dg Go.Num.B n j : Nat)
theorem lmV_len (n k : Nat) : (lmV n k).length = k := by simp [lmV]
theorem lmV_at {n k j : Nat} (h : j < k) : (lmV n k)[j]? = some (.int .u64 (dg Go.Num.B n j : Nat)) := by simp [lmV, h]
theorem lmV_zero (k : Nat) : lmV 0 k = List.replicate k (.int .u64 0) := by
  apply List.ext_getElem?
  intro j
  rcases Nat.lt_or_ge j k with h | h
  · rw [lmV_at h, dg_zero]; simp [h]
  rw [List.getElem?_eq_none (by rw [lmV_len]; exact h), List.getElem?_eq_none (by simpa using h)]
theorem lmV_ext {k : Nat} {l : List Value} {n : Nat} (hl : l.length = k) (h : ∀ j, j < k → l[j]? = some (.int .u64 (dg Go.Num.B n j : Nat))) : l = lmV n k := by
  apply List.ext_getElem?
  intro j
  rcases Nat.lt_or_ge j k with hj | hj
  · rw [lmV_at hj, h j hj]
  rw [List.getElem?_eq_none (by omega), List.getElem?_eq_none (by rw [lmV_len]; exact hj)]
theorem lmV_set {n k j d : Nat} (hd : d < Go.Num.B) (hj : j < k) : (lmV n k).set j (.int .u64 (d : Nat)) = lmV (setd Go.Num.B n j d) k := by
  apply lmV_ext (by simp [lmV_len])
  intro i hi
  rw [List.getElem?_set]
  split
  · rename_i h; subst h; rw [lmV_len, if_pos hj, setd_same B_pos hd]
  rename_i h; rw [lmV_at hi, setd_other B_pos hd (Ne.symm h)]
theorem lmV_put {n k j d : Nat} (hd : d < Go.Num.B) (hj : j < k) : (lmV n k).take (0 + j * 1) ++ [.int .u64 (d : Nat)] ++ (lmV n k).drop (0 + j * 1 + 1) = lmV (setd Go.Num.B n j d) k := by
  rw [← lmV_set hd hj, Nat.zero_add, Nat.mul_one, List.set_eq_take_append_cons_drop, if_pos (by rw [lmV_len]; exact hj)]
  simp
structure Nm (w : World) (a : Option Addr) (k c n : Nat) : Prop where
  lt : n < Go.Num.B ^ k
  kc : k ≤ c
  ad : a = none ∨ (∃ b o, a = some ⟨b, o, none⟩) ∨ k = 0
  cell : ∀ j, j < k → ∃ b o, a = some ⟨b, o, none⟩ ∧ w.cell? ⟨b, o + j, none⟩ = some (.int .u64 (dg Go.Num.B n j : Nat))
def Fsh (m : Nat) (a : Option Addr) (k : Nat) : Prop := ∀ b o q, a = some ⟨b, o, q⟩ → 0 < k → m ≤ b
theorem Fsh.mono {m m' : Nat} {a : Option Addr} {k : Nat} (h : Fsh m a k) (hm : m' ≤ m) : Fsh m' a k := fun b o q ha hk => Nat.le_trans hm (h b o q ha hk)
theorem Fsh.nil (m : Nat) (a : Option Addr) : Fsh m a 0 := fun _ _ _ _ hk => absurd hk (Nat.lt_irrefl 0)
theorem Nm.nil (w : World) : Nm w none 0 0 0 := ⟨by simp, Nat.le_refl _, .inl rfl, fun j hj => absurd hj (Nat.not_lt_zero j)⟩
theorem Nm.frS {w w' : World} {a : Option Addr} {k c n : Nat} {S : Nat → Prop} (h : Nm w a k c n) (hf : Fr S w w') (hs : ∀ b o q, a = some ⟨b, o, q⟩ → 0 < k → ¬ S b) : Nm w' a k c n :=
  ⟨h.lt, h.kc, h.ad, fun j hj => by
    obtain ⟨b, o, ha, hc⟩ := h.cell j hj
    exact ⟨b, o, ha, hf.cell hc (hs b o none ha (by omega))⟩⟩
theorem Nm.ext {w w' : World} {a : Option Addr} {k c n : Nat} (h : Nm w a k c n) (hf : Ext w w') : Nm w' a k c n := h.frS hf (fun _ _ _ _ _ x => x)
def Kn (x : World × (Nat → Prop)) (a : Option Addr) (k c n : Nat) : Prop := Nm x.1 a k c n ∧ ∀ b o q, a = some ⟨b, o, q⟩ → 0 < k → ¬ x.2 b
theorem Kn.at_ {x : World × (Nat → Prop)} {a : Option Addr} {k c n : Nat} {B : Base} {L : Heap} {w : World} (h : Kn x a k c n) (i : Nat) (hx : B[i]? = some x) (hw : St B L w) : Nm w a k c n :=
  h.1.frS (hw.fr x (List.mem_of_getElem? hx)) h.2
theorem Kn.old {w : World} {a : Option Addr} {k c n : Nat} (h : Nm w a k c n) : Kn (w, No) a k c n := ⟨h, fun _ _ _ _ _ x => x⟩
theorem Kn.new {B : Base} {L : Heap} {w0 w1 : World} {a : Option Addr} {k c n : Nat} (h : Nm w1 a k c n) (hf : Fsh w0.heap.size a k) (hs : St B L w0) : Kn (w1, fun j => j ∈ L.map (·.1)) a k c n :=
  ⟨h, fun b o q ha hk hm => by
    obtain ⟨p, hp, rfl⟩ := List.mem_map.1 hm
    have := hs.newN p hp
    have := hf _ _ _ ha hk
    omega⟩
theorem Kn.cl {x : World × (Nat → Prop)} {b o k c n j : Nat} {B : Base} {L : Heap} {w : World} (h : Kn x (some ⟨b, o, none⟩) k c n) (i : Nat) (hx : B[i]? = some x) (hj : j < k) (hw : St B L w) : w.cell? ⟨b, o + j * 1, none⟩ = some (.int .u64 (dg Go.Num.B n j : Nat)) := by
  obtain ⟨b', o', ha, hc⟩ := (h.at_ i hx hw).cell j hj
  cases ha
  rw [Nat.mul_one]; exact hc
theorem Kn.ptr {x : World × (Nat → Prop)} {a : Option Addr} {k c n : Nat} (h : Kn x a k c n) (hk : 0 < k) : ∃ b o, a = some ⟨b, o, none⟩ := by
  obtain ⟨b, o, ha, _⟩ := h.1.cell 0 hk; exact ⟨b, o, ha⟩
end Go.Sx
end
section
namespace Go.Sx
open Go.RowKit Go.Num
section
variable {P : Program} {ρ : Operand → Value} {w : World} {D : Option Tmp} {t ty yt : TypeId} {pos : String} {aft : Array Edge} {g : Option (Nat × Bool)} {x y : Operand} {a b n : Nat} {k ky : IntKind}
theorem wrap_u (h : a < Go.Num.B) : IntKind.u64.wrap (a : Int) = ((a : Nat) : Int) := by rw [IntKind.wrap_u64]; unfold Go.Num.B at h; omega
theorem wrap_um (a : Nat) : IntKind.u64.wrap (a : Int) = ((a % Go.Num.B : Nat) : Int) := by rw [IntKind.wrap_u64]; unfold Go.Num.B; omega
theorem R_addU (hx : ρ x = .int .u64 (a : Nat)) (hy : ρ y = .int .u64 (b : Nat)) (h : a + b < Go.Num.B) : Run P ⟨D, .binOp .add t x y yt, ty, pos, aft, g⟩ ρ w (.int .u64 ((a + b : Nat) : Int)) w := by
  have := R_add (P := P) (w := w) (D := D) (t := t) (ty := ty) (yt := yt) (pos := pos) (aft := aft) (g := g) hx hy
  rwa [show ((a : Int) + (b : Int)) = ((a + b : Nat) : Int) by omega, wrap_u h] at this
theorem R_addM (hx : ρ x = .int .u64 (a : Nat)) (hy : ρ y = .int .u64 (b : Nat)) : Run P ⟨D, .binOp .add t x y yt, ty, pos, aft, g⟩ ρ w (.int .u64 (((a + b) % Go.Num.B : Nat) : Int)) w := by
  have := R_add (P := P) (w := w) (D := D) (t := t) (ty := ty) (yt := yt) (pos := pos) (aft := aft) (g := g) hx hy
  rwa [show ((a : Int) + (b : Int)) = ((a + b : Nat) : Int) by omega, wrap_um] at this
theorem R_subU (hx : ρ x = .int .u64 (a : Nat)) (hy : ρ y = .int .u64 (b : Nat)) (h : b ≤ a) (h2 : a < Go.Num.B) : Run P ⟨D, .binOp .sub t x y yt, ty, pos, aft, g⟩ ρ w (.int .u64 ((a - b : Nat) : Int)) w := by
  have := R_sub (P := P) (w := w) (D := D) (t := t) (ty := ty) (yt := yt) (pos := pos) (aft := aft) (g := g) hx hy
  rwa [show ((a : Int) - (b : Int)) = ((a - b : Nat) : Int) by omega, wrap_u (by omega)] at this
theorem R_mulU (hx : ρ x = .int .u64 (a : Nat)) (hy : ρ y = .int .u64 (b : Nat)) (h : a * b < Go.Num.B) : Run P ⟨D, .binOp .mul t x y yt, ty, pos, aft, g⟩ ρ w (.int .u64 ((a * b : Nat) : Int)) w := by
  have := R_mul (P := P) (w := w) (D := D) (t := t) (ty := ty) (yt := yt) (pos := pos) (aft := aft) (g := g) hx hy
  rwa [show ((a : Int) * (b : Int)) = ((a * b : Nat) : Int) by simp, wrap_u h] at this
theorem R_quoU (hx : ρ x = .int .u64 (a : Nat)) (hy : ρ y = .int .u64 (b : Nat)) (h : b ≠ 0) (h2 : a < Go.Num.B) : Run P ⟨D, .binOp .quo t x y yt, ty, pos, aft, g⟩ ρ w (.int .u64 ((a / b : Nat) : Int)) w := by
  have hb : ¬ (b : Int) = 0 := by omega
  have e1 : IntKind.u64.wrap ((a : Int).tdiv (b : Int)) = ((a / b : Nat) : Int) := by
    rw [← Int.ofNat_tdiv, wrap_u (Nat.lt_of_le_of_lt (Nat.div_le_self _ _) h2)]
  unfold Run
  simp only [execOp, hx, hy, binOp, Op.intDiv, ne_eq, not_true, if_false, hb, e1]
  rfl
theorem R_remU (hx : ρ x = .int k (a : Nat)) (hy : ρ y = .int k (b : Nat)) (h : b ≠ 0) : Run P ⟨D, .binOp .rem t x y yt, ty, pos, aft, g⟩ ρ w (.int k ((a % b : Nat) : Int)) w := by
  have hb : ¬ (b : Int) = 0 := by omega
  have e1 : (a : Int).tmod (b : Int) = ((a % b : Nat) : Int) := (Int.ofNat_tmod a b).symm
  unfold Run
  simp only [execOp, hx, hy, binOp, Op.intDiv, ne_eq, not_true, if_false, hb, e1]
  rfl
theorem R_quoN (hx : ρ x = .int .i64 (a : Nat)) (hy : ρ y = .int .i64 (b : Nat)) (h : b ≠ 0) (h2 : a ≤ 9223372036854775807) : Run P ⟨D, .binOp .quo t x y yt, ty, pos, aft, g⟩ ρ w (.int .i64 ((a / b : Nat) : Int)) w := by
  have hb : ¬ (b : Int) = 0 := by omega
  have h3 : a / b ≤ a := Nat.div_le_self _ _
  have e1 : IntKind.i64.wrap ((a : Int).tdiv (b : Int)) = ((a / b : Nat) : Int) := by
    rw [← Int.ofNat_tdiv, wrap_i64 (by have := Int.natCast_nonneg (a / b); omega) (by have : ((a / b : Nat) : Int) ≤ (a : Int) := Int.ofNat_le.2 h3; omega)]
  unfold Run
  simp only [execOp, hx, hy, binOp, Op.intDiv, ne_eq, not_true, if_false, hb, e1]
  rfl
theorem R_shlU (hx : ρ x = .int .u64 (a : Nat)) (hy : ρ y = .int ky (n : Nat)) (h : n ≤ 64) : Run P ⟨D, .binOp .shl t x y yt, ty, pos, aft, g⟩ ρ w (.int .u64 ((a * 2 ^ n % Go.Num.B : Nat) : Int)) w := by
  have h0 : ¬ ((n : Nat) : Int) < 0 := by omega
  have h1 : min ((n : Nat) : Int).toNat IntKind.u64.bits = n := by rw [Int.toNat_natCast]; exact Nat.min_eq_left h
  have e1 : IntKind.u64.wrap ((a : Int) * 2 ^ n) = ((a * 2 ^ n % Go.Num.B : Nat) : Int) := by
    rw [show (a : Int) * 2 ^ n = ((a * 2 ^ n : Nat) : Int) by simp, wrap_um]
  unfold Run
  simp only [execOp, hx, hy, binOp, Op.shift, h0, if_false, h1, e1]
  rfl
theorem R_shrU (hx : ρ x = .int .u64 (a : Nat)) (hy : ρ y = .int ky (n : Nat)) (h : n ≤ 64) : Run P ⟨D, .binOp .shr t x y yt, ty, pos, aft, g⟩ ρ w (.int .u64 ((a / 2 ^ n : Nat) : Int)) w := by
  have h0 : ¬ ((n : Nat) : Int) < 0 := by omega
  have h1 : min ((n : Nat) : Int).toNat IntKind.u64.bits = n := by rw [Int.toNat_natCast]; exact Nat.min_eq_left h
  have e1 : ((a : Nat) : Int).fdiv (2 ^ n) = ((a / 2 ^ n : Nat) : Int) := by
    rw [show (2 : Int) ^ n = ((2 ^ n : Nat) : Int) by simp, Int.fdiv_eq_ediv_of_nonneg _ (Int.natCast_nonneg _)]; rfl
  unfold Run
  simp only [execOp, hx, hy, binOp, Op.shift, h0, if_false, h1, e1]
  rfl
theorem R_and1 (hx : ρ x = .int .u64 (a : Nat)) (hy : ρ y = .int .u64 1) (h : a < Go.Num.B) : Run P ⟨D, .binOp .and t x y yt, ty, pos, aft, g⟩ ρ w (.int .u64 ((a % 2 : Nat) : Int)) w := by
  have e1 : IntKind.u64.wrap (BitVec.toNat (BitVec.ofInt IntKind.u64.bits ((a : Nat) : Int) &&& BitVec.ofInt IntKind.u64.bits 1)) = ((a % 2 : Nat) : Int) := by
    have : BitVec.toNat (BitVec.ofInt IntKind.u64.bits ((a : Nat) : Int) &&& BitVec.ofInt IntKind.u64.bits 1) = a % 2 := by
      rw [BitVec.toNat_and, BitVec.toNat_ofInt, BitVec.toNat_ofInt, show ((2 ^ IntKind.u64.bits : Nat) : Int) = 18446744073709551616 from rfl,
        show ((a : Int) % 18446744073709551616).toNat = a by unfold Go.Num.B at h; omega, show ((1 : Int) % 18446744073709551616).toNat = 1 from rfl, Nat.and_one_is_mod]
    rw [this, wrap_u (by unfold Go.Num.B; omega)]
  unfold Run
  simp only [execOp, hx, hy, binOp, Op.intBits, ne_eq, not_true, if_false, e1]
  rfl
theorem R_mulM (hx : ρ x = .int .u64 (a : Nat)) (hy : ρ y = .int .u64 (b : Nat)) : Run P ⟨D, .binOp .mul t x y yt, ty, pos, aft, g⟩ ρ w (.int .u64 ((a * b % Go.Num.B : Nat) : Int)) w := by
  have := R_mul (P := P) (w := w) (D := D) (t := t) (ty := ty) (yt := yt) (pos := pos) (aft := aft) (g := g) hx hy
  rwa [show ((a : Int) * (b : Int)) = ((a * b : Nat) : Int) by simp, wrap_um] at this
theorem R_subM (hx : ρ x = .int .u64 (a : Nat)) (hy : ρ y = .int .u64 (b : Nat)) (h2 : b ≤ Go.Num.B) : Run P ⟨D, .binOp .sub t x y yt, ty, pos, aft, g⟩ ρ w (.int .u64 (((a + Go.Num.B - b) % Go.Num.B : Nat) : Int)) w := by
  have := R_sub (P := P) (w := w) (D := D) (t := t) (ty := ty) (yt := yt) (pos := pos) (aft := aft) (g := g) hx hy
  have e1 : IntKind.u64.wrap ((a : Int) - (b : Int)) = (((a + Go.Num.B - b) % Go.Num.B : Nat) : Int) := by
    rw [IntKind.wrap_u64]
    unfold Go.Num.B at *
    omega
  rwa [e1] at this
theorem R_andM (hx : ρ x = .int .u64 (a : Nat)) (hy : ρ y = .int .u64 4294967295) (h : a < Go.Num.B) : Run P ⟨D, .binOp .and t x y yt, ty, pos, aft, g⟩ ρ w (.int .u64 ((a % 4294967296 : Nat) : Int)) w := by
  have e1 : IntKind.u64.wrap (BitVec.toNat (BitVec.ofInt IntKind.u64.bits ((a : Nat) : Int) &&& BitVec.ofInt IntKind.u64.bits 4294967295)) = ((a % 4294967296 : Nat) : Int) := by
    have : BitVec.toNat (BitVec.ofInt IntKind.u64.bits ((a : Nat) : Int) &&& BitVec.ofInt IntKind.u64.bits 4294967295) = a % 4294967296 := by
      rw [BitVec.toNat_and, BitVec.toNat_ofInt, BitVec.toNat_ofInt, show ((2 ^ IntKind.u64.bits : Nat) : Int) = 18446744073709551616 from rfl,
        show ((a : Int) % 18446744073709551616).toNat = a by unfold Go.Num.B at h; omega, show ((4294967295 : Int) % 18446744073709551616).toNat = 2 ^ 32 - 1 from rfl, Nat.and_two_pow_sub_one_eq_mod]
    rw [this, wrap_u (by unfold Go.Num.B; omega)]
  unfold Run
  simp only [execOp, hx, hy, binOp, Op.intBits, ne_eq, not_true, if_false, e1]
  rfl
theorem R_orU (hx : ρ x = .int .u64 (a : Nat)) (hy : ρ y = .int .u64 (b : Nat)) (h : a < Go.Num.B) (h2 : b < Go.Num.B) : Run P ⟨D, .binOp .or t x y yt, ty, pos, aft, g⟩ ρ w (.int .u64 ((a ||| b : Nat) : Int)) w := by
  have e1 : IntKind.u64.wrap (BitVec.toNat (BitVec.ofInt IntKind.u64.bits ((a : Nat) : Int) ||| BitVec.ofInt IntKind.u64.bits ((b : Nat) : Int))) = ((a ||| b : Nat) : Int) := by
    have : BitVec.toNat (BitVec.ofInt IntKind.u64.bits ((a : Nat) : Int) ||| BitVec.ofInt IntKind.u64.bits ((b : Nat) : Int)) = a ||| b := by
      rw [BitVec.toNat_or, BitVec.toNat_ofInt, BitVec.toNat_ofInt, show ((2 ^ IntKind.u64.bits : Nat) : Int) = 18446744073709551616 from rfl,
        show ((a : Int) % 18446744073709551616).toNat = a by unfold Go.Num.B at h; omega, show ((b : Int) % 18446744073709551616).toNat = b by unfold Go.Num.B at h2; omega]
    rw [this, wrap_u (by rw [B_two] at *; exact Nat.or_lt_two_pow h h2)]
  unfold Run
  simp only [execOp, hx, hy, binOp, Op.intBits, ne_eq, not_true, if_false, e1]
  rfl
theorem R_ltN (hx : ρ x = .int k (a : Nat)) (hy : ρ y = .int k (b : Nat)) : Run P ⟨D, .binOp .lss t x y yt, ty, pos, aft, g⟩ ρ w (.bool (decide (a < b))) w := by
  have := R_lt (P := P) (w := w) (D := D) (t := t) (ty := ty) (yt := yt) (pos := pos) (aft := aft) (g := g) hx hy
  rwa [show decide ((a : Int) < (b : Int)) = decide (a < b) from decide_eq_decide.2 (by omega)] at this
theorem R_leN (hx : ρ x = .int k (a : Nat)) (hy : ρ y = .int k (b : Nat)) : Run P ⟨D, .binOp .leq t x y yt, ty, pos, aft, g⟩ ρ w (.bool (decide (a ≤ b))) w := by
  have := R_le (P := P) (w := w) (D := D) (t := t) (ty := ty) (yt := yt) (pos := pos) (aft := aft) (g := g) hx hy
  rwa [show decide ((a : Int) ≤ (b : Int)) = decide (a ≤ b) from decide_eq_decide.2 (by omega)] at this
theorem R_gtN (hx : ρ x = .int k (a : Nat)) (hy : ρ y = .int k (b : Nat)) : Run P ⟨D, .binOp .gtr t x y yt, ty, pos, aft, g⟩ ρ w (.bool (decide (b < a))) w := by
  have := R_gt (P := P) (w := w) (D := D) (t := t) (ty := ty) (yt := yt) (pos := pos) (aft := aft) (g := g) hx hy
  rwa [show decide ((b : Int) < (a : Int)) = decide (b < a) from decide_eq_decide.2 (by omega)] at this
theorem R_geN (hx : ρ x = .int k (a : Nat)) (hy : ρ y = .int k (b : Nat)) : Run P ⟨D, .binOp .geq t x y yt, ty, pos, aft, g⟩ ρ w (.bool (decide (b ≤ a))) w := by
  have := R_ge (P := P) (w := w) (D := D) (t := t) (ty := ty) (yt := yt) (pos := pos) (aft := aft) (g := g) hx hy
  rwa [show decide ((b : Int) ≤ (a : Int)) = decide (b ≤ a) from decide_eq_decide.2 (by omega)] at this
theorem R_eqN (hx : ρ x = .int k (a : Nat)) (hy : ρ y = .int k (b : Nat)) : Run P ⟨D, .binOp .eql t x y yt, ty, pos, aft, g⟩ ρ w (.bool (decide (a = b))) w := by
  have := R_eq (P := P) (w := w) (D := D) (t := t) (ty := ty) (yt := yt) (pos := pos) (aft := aft) (g := g) hx hy
  rwa [show decide ((a : Int) = (b : Int)) = decide (a = b) from decide_eq_decide.2 (by omega)] at this
theorem R_neN (hx : ρ x = .int k (a : Nat)) (hy : ρ y = .int k (b : Nat)) : Run P ⟨D, .binOp .neq t x y yt, ty, pos, aft, g⟩ ρ w (.bool (decide (¬ a = b))) w := by
  have := R_ne (P := P) (w := w) (D := D) (t := t) (ty := ty) (yt := yt) (pos := pos) (aft := aft) (g := g) hx hy
  rwa [show decide (¬ (a : Int) = (b : Int)) = decide (¬ a = b) from decide_eq_decide.2 (by omega)] at this
end
def Tel (F : Option Addr → Nat → Value) (k n : Nat) (w : World) (v : Value) (w' : World) : Prop := ∃ a c, v = F a c ∧ Nm w' a k c n ∧ Fsh w.heap.size a k ∧ Ext w w'
def New_ (B : Base) (a : Option Addr) (k : Nat) : Prop := ∀ y ∈ B, Fsh y.1.heap.size a k
section
variable {P : Program} {ops : Array Oper} {Q : Exit → Act → World → Prop} {c : Cf} {e : Env} {B : Base} {L : Heap} {rest : List Oper} {d : Nat} {o : Oper}
theorem w_tel {f : FuncId} {args : Array Value} {F : Option Addr → Nat → Value} {k n : Nat} (hr : ∀ w, RunE P o (ev c.n e) w f args) (hg : plainB o = true) (hd : o.dst = some d)
    (hc : ∀ w, St B L w → Ret P f args w (Tel F k n w))
    (h : ∀ x a c', Kn x a k c' n → New_ B a k → WX .sq P ops c Q rest (upd e d (F a c')) (x :: B) L) : WX .sq P ops c Q (o :: rest) e B L := by
  refine zP (R := fun w u w' => Tel F k n w u w') hr hg hd hc fun w hw v w' ⟨a, c', hv, hN, hF, hx⟩ => ?_
  subst hv
  have h1 := hw.ext hx
  refine ⟨(w', fun j => j ∈ L.map (·.1)) :: B, L, ?_, h _ a c' (Kn.new hN hF hw) fun y hy => hF.mono (hw.fr y hy).size⟩
  refine ⟨?_, h1.own, h1.nd, ?_⟩
  · intro x hx
    rcases List.mem_cons.1 hx with rfl | hx
    · exact Fr.refl _ _
    exact h1.fr x hx
  intro p hp x hx
  rcases List.mem_cons.1 hx with rfl | hx
  · exact .inl (List.mem_map_of_mem hp)
  exact h1.ok p hp x hx
end
theorem cel_lmV {n k j : Nat} {sp : List Value} (h : j < k) : (lmV n k ++ sp)[j]? = some (.int .u64 (dg Go.Num.B n j : Nat)) := by
  rw [List.getElem?_append_left (by rw [lmV_len]; exact h), lmV_at h]
theorem Nm.row {w : World} {b k c n : Nat} {sp : List Value} {T : TypeId} (hb : w.heap[b]? = some (cel (lmV n k ++ sp) T)) (hn : n < Go.Num.B ^ k) (hc : k ≤ c) : Nm w (some ⟨b, 0, none⟩) k c n :=
  ⟨hn, hc, .inr (.inl ⟨_, _, rfl⟩), fun j hj => ⟨_, _, rfl, by
    simp only [World.cell?, hb]
    simp [cel_lmV hj]⟩⟩
theorem Own.nm {T : TypeId} {v : Value} {k n : Nat} {W : Heap} (h : Own T 1 v (lmV n k) k W) (hn : n < Go.Num.B ^ k) : ∃ a c, v = .slice a k c ∧ (∀ w, (∀ p ∈ W, w.heap[p.1]? = some p.2) → Nm w a k c n) ∧ (∀ m, (∀ p ∈ W, m ≤ p.1) → Fsh m a k) := by
  rcases h.2 with ⟨rfl, rfl, rfl⟩ | ⟨b, c, sp, rfl, hc, _, rfl⟩
  · refine ⟨none, 0, rfl, fun w _ => ?_, fun _ _ => Fsh.nil _ _⟩
    rw [Nat.pow_zero] at hn
    obtain rfl : n = 0 := by omega
    exact Nm.nil w
  exact ⟨_, _, rfl, fun w hw => Nm.row (hw _ zm0) hn hc, fun m hm b' o q e _ => by cases e; exact hm _ zm0⟩
theorem Nm.part {w : World} {b o q k c n j : Nat} (h : Nm w (some ⟨b, o, none⟩) k c n) (hj : j + q ≤ k) (c' : Nat) (hc : q ≤ c') : Nm w (some ⟨b, o + j, none⟩) q c' (n / Go.Num.B ^ j % Go.Num.B ^ q) :=
  ⟨Nat.mod_lt _ (Bpow_pos q), hc, .inr (.inl ⟨_, _, rfl⟩), fun i hi => by
    obtain ⟨b', o', he, h2⟩ := h.cell (j + i) (by omega)
    cases he
    refine ⟨_, _, rfl, ?_⟩
    rw [Nat.add_assoc, h2, dg_mod B_pos hi, dg_div]⟩
theorem Nm.cut {w : World} {a : Option Addr} {k c n q : Nat} (h : Nm w a k c n) (hq : q ≤ k) (hn : n < Go.Num.B ^ q) (c' : Nat) (hc : q ≤ c') : Nm w a q c' n :=
  ⟨hn, hc, h.ad.imp_right (Or.imp_right fun h => by omega), fun j hj => h.cell j (by omega)⟩
theorem Nm.news {w : World} {b o k c n : Nat} (h : Nm w (some ⟨b, o, none⟩) k c n) : ∀ j u, (lmV n k)[j]? = some u → w.cell? ⟨b, o + j, none⟩ = some u := fun j u hu => by
  have hj : j < k := by have := (List.getElem?_eq_some_iff.1 hu).1; rwa [lmV_len] at this
  rw [lmV_at hj] at hu
  obtain ⟨b', o', he, h2⟩ := h.cell j hj
  cases he
  rw [h2]; exact hu
theorem lmV_one (n k : Nat) : (lmV n k).all Value.oneCell' = true := by
  rw [List.all_eq_true]
  intro u hu
  obtain ⟨j, hj⟩ := List.getElem?_of_mem hu
  have hl : j < k := by have := (List.getElem?_eq_some_iff.1 hj).1; rwa [lmV_len] at this
  rw [lmV_at hl] at hj
  cases hj
  rfl
end Go.Sx
end
section
namespace Go.Sx
open Go.RowKit Go.Tree
def dcM (W : World) (N : Nat → Prop) (d : Dc) (cs : List Value) : Prop := ∃ sa sc la lc ua uc ia ic, cs = [.int .u8 (d.ty : Nat), .int .i64 d.at_, str d.nm, .slice sa d.size.length sc, .slice la d.lower.length lc, .slice ua d.upper.length uc, .slice ia d.init.length ic] ∧ exsM W N d.size sa 0 ∧ exsM W N d.lower la 0 ∧ exsM W N d.upper ua 0 ∧ exsM W N d.init ia 0
theorem dcM.fr {W W' : World} {S N : Nat → Prop} {d : Dc} {cs : List Value} (h : dcM W N d cs) (hf : Fr S W W') (hn : ∀ b, N b → ¬ S b) : dcM W' N d cs := by
 obtain ⟨sa, sc, la, lc, ua, uc, ia, ic, h1, h2, h3, h4, h5⟩ := h
 exact ⟨sa, sc, la, lc, ua, uc, ia, ic, h1, exsM.fr hf hn _ _ _ h2, exsM.fr hf hn _ _ _ h3, exsM.fr hf hn _ _ _ h4, exsM.fr hf hn _ _ _ h5⟩
theorem dcM.now {x : World × (Nat → Prop)} {N : Nat → Prop} {d : Dc} {cs : List Value} {B : Base} {L : Heap} {w : World} (h : dcM x.1 N d cs) (hn : Apart x N) (hx : x ∈ B) (hw : St B L w) : dcM w N d cs := h.fr (hw.fr x hx) hn
def dcsM (W : World) (N : Nat → Prop) (l : List Dc) (a : Option Addr) : Prop := ∀ k d, l[k]? = some d → ∃ cs, At W N a (k * 7) cs ∧ dcM W N d cs
theorem dcsM.fr {W W' : World} {S N : Nat → Prop} {l : List Dc} {a : Option Addr} (h : dcsM W N l a) (hf : Fr S W W') (hn : ∀ b, N b → ¬ S b) : dcsM W' N l a := fun k d hk => by
 obtain ⟨cs, h1, h2⟩ := h k d hk
 exact ⟨cs, h1.fr hf hn, h2.fr hf hn⟩
theorem dcsM.now {x : World × (Nat → Prop)} {N : Nat → Prop} {l : List Dc} {a : Option Addr} {B : Base} {L : Heap} {w : World} (h : dcsM x.1 N l a) (hn : Apart x N) (hx : x ∈ B) (hw : St B L w) : dcsM w N l a := h.fr (hw.fr x hx) hn
def bkM (W : World) (N : Nat → Prop) (b : Bk) (cs : List Value) : Prop := ∃ da dc sa sc, cs = [.bool b.is, .slice da b.decls.length dc, .slice sa b.stmts.length sc] ∧ dcsM W N b.decls da ∧ smsM W N b.stmts sa 0
theorem bkM.fr {W W' : World} {S N : Nat → Prop} {b : Bk} {cs : List Value} (h : bkM W N b cs) (hf : Fr S W W') (hn : ∀ b, N b → ¬ S b) : bkM W' N b cs := by
 obtain ⟨da, dc, sa, sc, h1, h2, h3⟩ := h
 exact ⟨da, dc, sa, sc, h1, h2.fr hf hn, smsM.fr hf hn _ _ _ h3⟩
structure pgM (W : World) (N : Nat → Prop) (p : List Bk) (cs : List Value) : Prop where
 six : p.length = 6
 len : cs.length = 18
 one : ∀ i b, p[i]? = some b → bkM W N b ((cs.drop (i * 3)).take 3)
theorem pgM.fr {W W' : World} {S N : Nat → Prop} {p : List Bk} {cs : List Value} (h : pgM W N p cs) (hf : Fr S W W') (hn : ∀ b, N b → ¬ S b) : pgM W' N p cs := ⟨h.six, h.len, fun i b hb => (h.one i b hb).fr hf hn⟩
theorem pgM.now {x : World × (Nat → Prop)} {N : Nat → Prop} {p : List Bk} {cs : List Value} {B : Base} {L : Heap} {w : World} (h : pgM x.1 N p cs) (hn : Apart x N) (hx : x ∈ B) (hw : St B L w) : pgM w N p cs := h.fr (hw.fr x hx) hn
end Go.Sx
end
section
namespace Go.Sx
open Go.RowKit Go.Tree
abbrev OwnS (te : TypeId) (v : Value) (ts : List (List UInt8)) (W : Heap) : Prop := Own te 1 v (ts.map str) ts.length W
theorem OwnS.more {te : TypeId} {v : Value} {xs ts : List (List UInt8)} {W : Heap} (h : Own te 1 v (xs.map str ++ ts.map str) (xs.length + ts.length) W) : OwnS te v (xs ++ ts) W := by
  unfold OwnS; rw [List.map_append, List.length_append]; exact h
def PenAt (te T : TypeId) (p : Nat) (xs : List (List UInt8)) (B : Base) (Lr : Heap) (w : World) : Prop := ∃ v W, OwnS te v xs W ∧ St B ((p, cel [v] T) :: (W ++ Lr)) w
theorem At.shift {W : World} {N : Nat → Prop} {b o i : Nat} {cs : List Value} (h : At W N (some ⟨b, o, none⟩) (i + 4) cs) : At W N (some ⟨b, o + 4, none⟩) i cs := by
  obtain ⟨b', o', ha, hb, hc⟩ := h
  cases ha
  exact ⟨b, o + 4, rfl, hb, fun j v hj => by have := hc j v hj; rwa [show o + (i + 4) + j = o + 4 + i + j by omega] at this⟩
theorem exsM.shift {W : World} {N : Nat → Prop} {b o : Nat} : ∀ {l : List Ex} {i : Nat}, exsM W N l (some ⟨b, o, none⟩) (i + 4) → exsM W N l (some ⟨b, o + 4, none⟩) i
  | [], _, _ => by unfold exsM; trivial
  | x :: l, i, h => by
    unfold exsM at h ⊢
    obtain ⟨⟨cs, h1, h2⟩, h3⟩ := h
    exact ⟨⟨cs, h1.shift, h2⟩, exsM.shift h3⟩
theorem exsM.rest {W : World} {N : Nat → Prop} {b o c : Nat} {l : List Ex} (h : exsM W N l (some ⟨b, o, none⟩) 0) (hl : 1 ≤ l.length) (hc : l.length ≤ c) : ∃ a, (if c = 1 then (some ⟨b, o, none⟩ : Option Addr) else (some ⟨b, o, none⟩ : Option Addr).map (fun z => z.add (1 * 4))) = a ∧ exsM W N (l.drop 1) a 0 := by
  match l, hl with
  | x :: l, _ =>
    unfold exsM at h
    refine ⟨_, rfl, ?_⟩
    simp only [List.drop_succ_cons, List.drop_zero]
    split
    · have : l = [] := by cases l with | nil => rfl | cons => simp at hc; omega
      subst this; unfold exsM; trivial
    · exact exsM.shift h.2
theorem OwnS.eq {te : TypeId} {v : Value} {xs ys : List (List UInt8)} {W : Heap} (h : OwnS te v xs W) (he : xs = ys) : OwnS te v ys W := he ▸ h
theorem PenAt.fin {te T : TypeId} {p : Nat} {xs ys : List (List UInt8)} {B : Base} {A Lr W : Heap} {v : Value} {w : World} (hO : OwnS te v xs W) (h : xs = ys) (hs : St B (A ++ ((p, cel [v] T) :: (W ++ Lr))) w) : PenAt te T p ys B Lr w := by
  subst h
  exact ⟨v, W, hO, hs.drop (List.sublist_append_right _ _)⟩
end Go.Sx
end
section
namespace Go.Sx
open Go.RowKit Go.Tree
section
variable {P : Program} {ops : Array Oper} {Q : Exit → Act → World → Prop} {c : Cf} {e : Env} {B : Base} {L L1 A : Heap} {rest : List Oper} {d : Nat}
theorem app_run {ρ : Operand → Value} {D : Option Tmp} {g : Option (Nat × Bool)} {x y : Operand} {T : TypeId} {p : String} {ed : Array Edge} {t el k bytes : Nat} {z v : Value} {xs news : List Value} {n m b2 o2 c2 : Nat} (hT : slT P t el k bytes z) (hk : 0 < k) (hx : ρ x = v) (hown : OwnR el k v xs n A L L1) (hy : ρ y = .slice (some ⟨b2, o2, none⟩) m c2)
    (hl : news.length = m * k) (hnews : ∀ w, St B L1 w → ∀ j u, news[j]? = some u → w.cell? ⟨b2, o2 + j, none⟩ = some u) (h1 : news.all Value.oneCell' = true) (hm : 0 < m) (h63 : n + m ≤ 9223372036854775807) (hbytes : (n + m) * bytes ≤ 140737488355328) {w : World} (hw : St B L1 w) :
    ∃ v' w' L2, Run P ⟨D, .call ⟨.builtin .append, #[x, y], #[t, t]⟩, T, p, ed, g⟩ ρ w v' w' ∧ OwnR el k v' (xs ++ news) (n + m) A L L2 ∧ St B L2 w' := by
  obtain ⟨i, ht, hi, hsz, hby, hz, hzs⟩ := slT_spec hT
  subst hsz; subst hby
  obtain ⟨hxl, hown⟩ := hown
  have hn2 : ∀ w, St B L1 w → ∀ j u, news[j]? = some u → w.cell? ((⟨b2, o2, none⟩ : Addr).add j) = some u := fun w hw j u hu => by
    have := hnews w hw j u hu
    simp only [Addr.add]; split <;> simp_all
  have hlen : (xs ++ news).length = (n + m) * i.size := by rw [List.length_append, hxl, hl, Nat.add_mul]
  rcases hown with ⟨rfl, rfl, rfl⟩ | ⟨b, cp, sp, rfl, hc, hs', rfl⟩
  · rw [Nat.zero_add] at *
    have hr := run_append_nil (P := P) w t T el i z ht hi hz ⟨b2, o2, none⟩ m c2 news hl (hn2 w hw) hm (by omega) (by omega)
    have hx0 : xs = [] := by simpa using hxl
    subst hx0
    have hge := grownCap_ge w m 0 el
    have hs := (hw.drawn (w.drawn + 1)).new (o := cel ([] ++ news ++ (Builtin.zeroCells z.cells (grownCap w m 0 el - m)).toList) el)
    refine ⟨_, _, (A ++ (w.heap.size, cel ([] ++ news ++ (Builtin.zeroCells z.cells (grownCap w m 0 el - m)).toList) el) :: L), R_append hx hy hr, ⟨hlen, .inr ⟨w.heap.size, grownCap w m 0 el, _, rfl, hge, ?_, rfl⟩⟩, ?_⟩
    · rw [Array.length_toList, size_zeroCells, hzs]
    have := hs.perm (List.perm_middle.symm)
    have e1 : (news.toArray ++ Builtin.zeroCells z.cells (grownCap w m 0 el - m) : Array Value) = ([] ++ news ++ (Builtin.zeroCells z.cells (grownCap w m 0 el - m)).toList).toArray := by simp
    rw [e1]
    exact this
  have hb := hw.own (b, cel (xs ++ sp) el) (by simp)
  by_cases hroom : n + m ≤ cp
  · have hmk : (cp - n) * i.size = m * i.size + (cp - (n + m)) * i.size := by rw [← Nat.add_mul]; congr 1; omega
    have hr := run_append_room (P := P) w t T el i ht hi b n cp (xs ++ sp).toArray hb ⟨b2, o2, none⟩ m c2 news hl (hn2 w hw) (all_mem h1) hroom (by simp; omega)
    have hs := hw.put A.length (l' := xs ++ news ++ sp.drop news.length) (b := b) (l := xs ++ sp) (T := el) (by simp)
    rw [set_mid] at hs
    have e1 : ((xs ++ sp).toArray.toList.take (n * i.size) ++ news ++ (xs ++ sp).toArray.toList.drop (n * i.size + news.length)) = xs ++ news ++ sp.drop news.length := by
      simp only []
      rw [← hxl, List.take_left', List.drop_append]
      · simp [List.drop_eq_nil_of_le]
      rfl
    rw [e1] at hr
    refine ⟨_, _, _, R_append hx hy hr, ⟨hlen, .inr ⟨b, cp, sp.drop news.length, rfl, hroom, ?_, rfl⟩⟩, hs⟩
    rw [List.length_drop, hs', hl] <;> omega
  have hge := grownCap_ge w (n + m) cp el
  have hr := run_append_grow (P := P) w t T el i z ht hi hz ⟨b, 0, none⟩ n cp xs hxl (fun j u hu => by
      have hj := (List.getElem?_eq_some_iff.1 hu).1
      have : w.cell? ⟨b, 0 + j, none⟩ = some u := by
        simp only [World.cell?, hb]
        simp [List.getElem?_append_left hj, hu]
      simp only [Addr.add]; split <;> simp_all) ⟨b2, o2, none⟩ m c2 news hl (hn2 w hw) (by omega) (by omega) (growslice_fits (by omega) hbytes)
  have hs := (hw.drawn (w.drawn + 1)).new (o := cel (xs ++ news ++ (Builtin.zeroCells z.cells (grownCap w (n + m) cp el - (n + m))).toList) el)
  refine ⟨_, _, (A ++ (w.heap.size, cel (xs ++ news ++ (Builtin.zeroCells z.cells (grownCap w (n + m) cp el - (n + m))).toList) el) :: L), R_append hx hy hr, ⟨hlen, .inr ⟨w.heap.size, grownCap w (n + m) cp el, _, rfl, hge, ?_, rfl⟩⟩, ?_⟩
  · rw [Array.length_toList, size_zeroCells, hzs]
  have h2 := hs.drop (L' := (w.heap.size, cel (xs ++ news ++ (Builtin.zeroCells z.cells (grownCap w (n + m) cp el - (n + m))).toList) el) :: (A ++ L)) (by
    refine List.Sublist.cons_cons _ ?_
    exact List.Sublist.append (List.Sublist.refl _) (List.sublist_cons_self _ _))
  have := h2.perm (List.perm_middle.symm)
  have e1 : (xs.toArray ++ news.toArray ++ Builtin.zeroCells z.cells (grownCap w (n + m) cp el - (n + m)) : Array Value) = (xs ++ news ++ (Builtin.zeroCells z.cells (grownCap w (n + m) cp el - (n + m))).toList).toArray := by simp
  rw [e1]
  exact this
theorem Own.le {T : TypeId} {k : Nat} {a : Option Addr} {n c : Nat} {xs : List Value} {W : Heap} (h : Own T k (.slice a n c) xs n W) : n ≤ c := by
  rcases h.2 with ⟨h1, h2, _⟩ | ⟨b, c', sp, h1, h2, _⟩
  · omega
  simp only [Value.slice.injEq] at h1; omega
end
end Go.Sx
end
section
namespace Go.Sx
open Go.RowKit
section
variable {P : Program} {ops : Array Oper} {Q : Exit → Act → World → Prop} {c : Cf} {e : Env} {B B' : Base} {L L' : Heap} {o : Oper} {v : Value} {d id fuel : Nat} {S : World → Prop} {listed : Array Bool} {f : FuncId} {args : Array Value}
theorem c_heldS {n : Nat} {ds : List Deferred} (hm : P.follows .mixedOrders = true) (h : WH P ops ⟨n, ds, none⟩ Q (St B L) ops.size (Array.replicate ops.size false) e B L) : WC P ⟨n, ds, none⟩ (.region id ops true) Q e B L := c_held _ hm h
theorem wn_none (hg : o.guard = none) {t : Array Value} : Region.wanted o (yielded ops t) = true := by simp [Region.wanted, hg]
theorem wn_yes {j t : Nat} {b : Bool} (hg : o.guard = some (j, b)) (hj : (ops[j]?).bind (·.dst) = some t) (ht : Nat.blt t c.n = true) (he : e t = .bool b) : Region.wanted o (yielded ops (act c e).tmps) = true := by
  rw [wanted_of hg hj ht he]; cases b <;> rfl
theorem h_takeG (i : Nat) {j t : Nat} {b : Bool} (hi : ops[i]? = some o) (hk : (Region.noSelect ops && Region.free .any ops listed i && (Region.ready .any ops listed).contains i) = true) (hg : o.guard = some (j, b)) (hj : (ops[j]?).bind (·.dst) = some t) (ht : Nat.blt t c.n = true) (he : e t = .bool b) (hd : o.dst = some d) (hs : ∀ w, St B L w → S w)
    (hv : ∀ w, S w → Run P o (ev c.n e) w v w) (h : WH P ops c Q S fuel (listed.setIfInBounds i true) (upd e d v) B L) : WH P ops c Q S (fuel + 1) listed e B L := by
  simp only [Bool.and_eq_true] at hk
  refine ⟨hs, fun w hw => wpAnyH_take hi hk.1.1 hk.1.2 hk.2 (fun _ a _ hq a' ha => hq a' (ha.trans (by cases o.dst <;> rfl))) (v := v) (.inl ⟨wn_yes hg hj ht he, fun w hw => ?_⟩) (hs w hw) ?_⟩
  · rw [act_eval]; exact hv w hw
  rw [hd, act_put]; exact h.h w hw
theorem h_not (i : Nat) (hi : ops[i]? = some o) (hk : (Region.noSelect ops && Region.free .any ops listed i && (Region.ready .any ops listed).contains i) = true) (hw : Region.wanted o (yielded ops (act c e).tmps) = false) (hd : o.dst = some d) (hs : ∀ w, St B L w → S w)
    (h : WH P ops c Q S fuel (listed.setIfInBounds i true) (upd e d undef) B L) : WH P ops c Q S (fuel + 1) listed e B L := by
  simp only [Bool.and_eq_true] at hk
  refine ⟨hs, fun w hw' => wpAnyH_take hi hk.1.1 hk.1.2 hk.2 (fun _ a _ hq a' ha => hq a' (ha.trans (by cases o.dst <;> rfl))) (v := undef) (.inr ⟨hw, rfl⟩) (hs w hw') ?_⟩
  rw [hd, act_put]; exact h.h w hw'
theorem h_skip (i : Nat) {j t : Nat} {b : Bool} (hi : ops[i]? = some o) (hk : (Region.noSelect ops && Region.free .any ops listed i && (Region.ready .any ops listed).contains i) = true) (hg : o.guard = some (j, b)) (hj : (ops[j]?).bind (·.dst) = some t) (ht : Nat.blt t c.n = true) (he : e t = .bool (!b)) (hd : o.dst = some d) (hs : ∀ w, St B L w → S w)
    (h : WH P ops c Q S fuel (listed.setIfInBounds i true) (upd e d undef) B L) : WH P ops c Q S (fuel + 1) listed e B L :=
  h_not i hi hk (by rw [wanted_of hg hj ht he]; cases b <;> rfl) hd hs h
theorem h_loadA (i : Nat) {t ty T : TypeId} {x : Operand} {p : String} {a : Array Edge} {b off k : Nat} {cs : List Value} (hi : ops[i]? = some ⟨some d, .load t x, ty, p, a, none⟩) (hk : (Region.noSelect ops && Region.free .any ops listed i && (Region.ready .any ops listed).contains i) = true) (hs : ∀ w, St B L w → S w)
    (hz : szB P t k true = true) (hx : ev c.n e x = .pointer (some ⟨b, off, none⟩)) (hc : ∀ w, S w → w.heap[b]? = some (cel cs T)) (hn : Nat.ble (off + k) cs.length = true) (h : WH P ops c Q S fuel (listed.setIfInBounds i true) (upd e d (.agg ((cs.drop off).take k).toArray)) B L) : WH P ops c Q S (fuel + 1) listed e B L :=
  zh i hi hk rfl rfl hs (fun w hw => R_ldb hz hx (hc w hw) hn) h
theorem o_callV {i : Nat} {R : World → Value → World → Prop} {E : World → List PanicEntry → World → Prop} (hi : ops[i]? = some o) (hw : Region.wanted o (yielded ops (act c e).tmps) = true) (hd : o.dst = some d)
    (hr : ∀ w, RunE P o (ev c.n e) w f args) (hc : ∀ w, St B L w → RetP P f args w (R w) (E w))
    (h : ∀ w, St B L w → ∀ v w', R w v w' → ∃ B' L', St B' L' w' ∧ WH P ops c Q S fuel (listed.setIfInBounds i true) (upd e d v) B' L')
    (hE : ∀ w, St B L w → ∀ ch w', E w ch w' → ∀ a : Act, a.defers = c.ds → Q (.panic ch) a w') : WO P ops c Q S fuel listed i e B L := by
  unfold WO
  intro w hw'
  unfold wpOp
  simp only [hi, hw, if_true]
  refine .inl ?_
  unfold Oper.wp
  have h1 := hr w
  unfold RunE at h1
  rw [act_eval, h1]
  simp only [Oper.upon]
  refine Calls.mono (hc w hw') ?_
  rintro x w' (⟨v, rfl, hv⟩ | ⟨ch, rfl, hv⟩)
  · obtain ⟨B', L', h2, h3⟩ := h w hw' v w' hv
    show S w' ∧ _
    rw [hd, act_put]
    exact ⟨h3.s w' h2, h3.h w' h2⟩
  exact fun a' ha' => hE w hw' ch w' hv a' (ha'.trans rfl)
theorem o_pureW {i : Nat} {u : Value} (hi : ops[i]? = some o) (hw : Region.wanted o (yielded ops (act c e).tmps) = true) (hd : o.dst = some d) (hr : ∀ w, RunE P o (ev c.n e) w f args)
    (hc : ∀ w, St B L w → Ret P f args w fun v w' => v = u ∧ Ext w w') (h : WH P ops c Q S fuel (listed.setIfInBounds i true) (upd e d u) B L) : WO P ops c Q S fuel listed i e B L :=
  o_callV (R := fun w v w' => v = u ∧ Ext w w') (E := fun _ _ _ => False) hi hw hd hr (fun w hw => (hc w hw).toP) (fun w hw v w' ⟨hv, hx⟩ => ⟨B, L, hw.ext hx, by subst hv; exact h⟩) (fun _ _ _ _ h => h.elim)
theorem o_valW {i : Nat} (hi : ops[i]? = some o) (hw : Region.wanted o (yielded ops (act c e).tmps) = true) (hd : o.dst = some d)
    (h : ∀ w, St B L w → ∃ v w' B' L', Run P o (ev c.n e) w v w' ∧ St B' L' w' ∧ WH P ops c Q S fuel (listed.setIfInBounds i true) (upd e d v) B' L') : WO P ops c Q S fuel listed i e B L := by
  unfold WO
  intro w hw'
  obtain ⟨v, w', B', L', h1, h2, h3⟩ := h w hw'
  unfold wpOp
  simp only [hi, hw, if_true]
  refine .inl ?_
  unfold Oper.wp
  unfold Run at h1
  rw [act_eval, h1, Oper.upon_value, hd, act_put]
  exact ⟨h3.s w' h2, h3.h w' h2⟩
theorem h_three (i j k : Nat) (hr : Region.ready .any ops listed = [i, j, k]) (hs : ∀ w, St B L w → S w) (h1 : WO P ops c Q S fuel listed i e B L) (h2 : WO P ops c Q S fuel listed j e B L) (h3 : WO P ops c Q S fuel listed k e B L) : WH P ops c Q S (fuel + 1) listed e B L := by
  unfold WO at *
  refine ⟨hs, fun w hw => wpAnyH_all hr (by simp) (fun q hq => ?_)⟩
  rcases List.mem_cons.1 hq with rfl | hq
  · exact h1 w hw
  rcases List.mem_cons.1 hq with rfl | hq
  · exact h2 w hw
  obtain rfl : q = k := by simpa using hq
  exact h3 w hw
theorem o_bsliceV {T : TypeId} {pp : String} {ed : Array Edge} {t el k bytes len i : Nat} {z : Value} {parts : List (Nat × Operand)} {g : Option (Nat × Bool)} (hi : ops[i]? = some ⟨some d, .buildSlice t len parts.toArray, T, pp, ed, g⟩) (hw : Region.wanted ⟨some d, .buildSlice t len parts.toArray, T, pp, ed, g⟩ (yielded ops (act c e).tmps) = true) (hT : slT P t el k bytes z) (hk : 0 < len * k) (hs : Nat.ble (len * k) 16777216 = true) (hf : fillB (plA len k) (parts.map fun p => (p.1, ev c.n e p.2)) (len * k) = true)
    (h : ∀ b, (∀ x ∈ L, x.1 < b) → (∀ x ∈ B, x.1.heap.size ≤ b) → WH P ops c Q S fuel (listed.setIfInBounds i true) (upd e d (.slice (some ⟨b, 0, none⟩) len len)) B ((b, cel (fillL (plA len k) (parts.map fun p => (p.1, ev c.n e p.2)) (zsL z (len * k))) el) :: L)) :
    WO P ops c Q S fuel listed i e B L := by
  obtain ⟨ti, ht, hti, hsize, hby, hz, hzs⟩ := slT_spec hT
  subst hsize
  have hlen : (zsL z (len * ti.size)).length = len * ti.size := by simp [zsL]
  have hf' := hf
  rw [← hlen] at hf'
  have hfe := fill_eq (plA len ti.size) (parts.map fun p => (p.1, ev c.n e p.2)) _ hf'
  rw [← fill_arr len ti.size _ _ hf'] at hfe
  refine o_valW hi hw rfl (fun w hw => ⟨_, _, B, _, ?_, hw.new, h w.heap.size (fun p hp => lt_of_blk (hw.own p hp)) (fun x hx => (hw.fr x hx).size)⟩)
  have e1 : ((Array.range (len * ti.size)).map (fun j => z.cells[j % z.cells.size]!)) = (zsL z (len * ti.size)).toArray := by simp [zsL, Array.toList_range, ← List.toArray_range]
  have h0 : ¬ len * ti.size = 0 := by omega
  have h1 : ¬ 16777216 < len * ti.size := by have := Nat.le_of_ble_eq_true hs; omega
  unfold Run
  simp only [execOp, Instr.buildSlice, Sem.run_bind, run_underlying ht, Result.andThen_ok, sizeOf, typeInfo, run_program, hti, Sem.run_pure, zeroValue, hz, h0, if_false, List.map_toArray]
  rw [if_neg (by simpa using h1)]
  simp only [Sem.run_bind, run_program, Result.andThen_ok, hti, Sem.run_pure, hz, e1, hfe, newRow, run_newObj]
  rfl
end
end Go.Sx
end
section
namespace Go.Sx
open Go.RowKit Go.Num
def adr (a : Option Addr) (j : Nat) : Addr := match a with
  | some z => ⟨z.block, z.off + j * 1, none⟩
  | none => ⟨0, 0, none⟩
theorem adr_some (b o j : Nat) : adr (some ⟨b, o, none⟩) j = ⟨b, o + j * 1, none⟩ := rfl
def slA (a : Option Addr) (l c : Nat) : Option Addr := if c = l then a else a.map fun z => z.add (l * 1)
section
variable {P : Program} {ρ : Operand → Value} {w : World} {D : Option Tmp} {t ty yt : TypeId} {pos : String} {aft : Array Edge} {g : Option (Nat × Bool)} {x y : Operand} {a : Option Addr} {k c n i : Nat} {kk kl kh : IntKind}
theorem R_iaK (hu : slB P t 1 = true) (hx : ρ x = .slice a k c) (hp : ∃ b o, a = some ⟨b, o, none⟩) (hy : ρ y = .int kk (i : Nat)) (h1 : i < k) : Run P ⟨D, .indexAddr t x y, ty, pos, aft, g⟩ ρ w (.pointer (some (adr a i))) w := by
  obtain ⟨b, o, rfl⟩ := hp
  exact R_iaN hu hx hy h1
theorem R_lowN {lo : Operand} {l : Nat} (hu : slB P t 1 = true) (hx : ρ x = .slice a k c) (hlo : ρ lo = .int kl (l : Nat)) (h1 : l ≤ k) (h2 : k ≤ c) :
    Run P ⟨D, .slice t x (some lo) none none, ty, pos, aft, g⟩ ρ w (.slice (slA a l c) (k - l) (c - l)) w := by
  obtain ⟨e, ti, h3, h4, h5⟩ := slB_spec hu
  have h6 : (l : Int) ≤ (k : Int) := by omega
  simp [Run, execOp, hx, hlo, go_sem, Instr.sliceAt, Instr.slice, run_underlying h3, Instr.sliceBounds, Instr.sliceBound, asIntOf, h1, sizeOf, typeInfo, h4, h5, slA]
theorem R_cutN {hi mx : Operand} {q : Nat} (hu : slB P t 1 = true) (hx : ρ x = .slice a k c) (hh : ρ hi = .int kl (q : Nat)) (hm : ρ mx = .int kh (q : Nat)) (h2 : q ≤ c) :
    Run P ⟨D, .slice t x none (some hi) (some mx), ty, pos, aft, g⟩ ρ w (.slice a q q) w := by
  obtain ⟨e, ti, h3, h4, h5⟩ := slB_spec hu
  have h6 : (q : Int) ≤ (c : Int) := by omega
  cases a <;> simp [Run, execOp, hx, hh, hm, go_sem, Instr.sliceAt, Instr.slice, run_underlying h3, Instr.sliceBounds, Instr.sliceBound, asIntOf, h2, h6, sizeOf, typeInfo, h4, h5, Addr.add]
theorem R_hiN {hi : Operand} {q : Nat} (hu : slB P t 1 = true) (hx : ρ x = .slice a k c) (hh : ρ hi = .int kl (q : Nat)) (h2 : q ≤ c) :
    Run P ⟨D, .slice t x none (some hi) none, ty, pos, aft, g⟩ ρ w (.slice a q c) w := by
  obtain ⟨e, ti, h3, h4, h5⟩ := slB_spec hu
  have h6 : (q : Int) ≤ (c : Int) := by omega
  cases a <;> simp [Run, execOp, hx, hh, go_sem, Instr.sliceAt, Instr.slice, run_underlying h3, Instr.sliceBounds, Instr.sliceBound, asIntOf, h2, h6, sizeOf, typeInfo, h4, h5, Addr.add]
theorem R_isnil {te : TypeId} (hu : P.underlying t = some (.slice te)) (hx : ρ x = .slice a k c) (hy : ρ y = .slice none 0 0) : Run P ⟨D, .binOp .eql t x y yt, ty, pos, aft, g⟩ ρ w (.bool a.isNone) w := by
  have hb := Go.Lib.run_eql_slice_nil (P := P) w t te a k c 0 0 hu
  have hg : eqGuard .eql t x y (.slice a k c) (.slice none 0 0) = pure () := by cases a <;> rfl
  unfold Run
  simp only [execOp, hx, hy, hg, Sem.run_bind, pure_run, Result.andThen_ok, hb]
theorem R_subN {b : Nat} (hx : ρ x = .int .i64 (n : Nat)) (hy : ρ y = .int .i64 (b : Nat)) (h : b ≤ n) (h2 : n ≤ 9223372036854775807) : Run P ⟨D, .binOp .sub t x y yt, ty, pos, aft, g⟩ ρ w (.int .i64 ((n - b : Nat) : Int)) w := by
  have := R_subi (P := P) (w := w) (D := D) (t := t) (ty := ty) (yt := yt) (pos := pos) (aft := aft) (g := g) hx hy (by omega)
  rwa [show ((n : Int) - (b : Int)) = ((n - b : Nat) : Int) by omega] at this
theorem R_addN {b : Nat} (hx : ρ x = .int .i64 (n : Nat)) (hy : ρ y = .int .i64 (b : Nat)) (h : n + b ≤ 9223372036854775807) : Run P ⟨D, .binOp .add t x y yt, ty, pos, aft, g⟩ ρ w (.int .i64 ((n + b : Nat) : Int)) w :=
  R_addi hx hy (by omega)
theorem R_mulN {b : Nat} (hx : ρ x = .int .i64 (n : Nat)) (hy : ρ y = .int .i64 (b : Nat)) (h : n * b ≤ 9223372036854775807) : Run P ⟨D, .binOp .mul t x y yt, ty, pos, aft, g⟩ ρ w (.int .i64 ((n * b : Nat) : Int)) w := by
  have h3 : ((n : Int) * (b : Int)) = ((n * b : Nat) : Int) := by simp
  have := R_muli (P := P) (w := w) (D := D) (t := t) (ty := ty) (yt := yt) (pos := pos) (aft := aft) (g := g) hx hy (by omega)
  rwa [h3] at this
theorem R_convK {s : TypeId} {k k2 : IntKind} (hs : P.underlying s = some (.int k)) (hd : P.underlying t = some (.int k2)) (hx : ρ x = .int k (n : Nat)) (h : k2.wrap (n : Int) = (n : Nat)) : Run P ⟨D, .convert s t x, ty, pos, aft, g⟩ ρ w (.int k2 (n : Nat)) w := by
  have := R_convI (P := P) (w := w) (D := D) (ty := ty) (pos := pos) (aft := aft) (g := g) hs hd hx
  rwa [h] at this
theorem wrap_u8 (h : n < 256) : IntKind.u8.wrap (n : Int) = ((n : Nat) : Int) := by rw [IntKind.wrap_u8]; omega
theorem R_callX {f : FuncId} {al : List Operand} {v : Value} {tys : Array TypeId} (hx : ρ x = .func (.func f) #[] #[]) (h : (callFunc f (al.map ρ).toArray).run P w = .ok (.value v) w) : Run P ⟨D, .call ⟨.value x, al.toArray, tys⟩, ty, pos, aft, g⟩ ρ w v w := by
  unfold Run
  simp [execOp, hx, go_sem, resolve, invoke, h]
end
def sub64E : Array Value → Sem Value := fun args => do
  let (x, y, b) ← Extern.MathBitsCarry.three "Sub64" args
  pure (Extern.MathBitsCarry.pair ((x + Extern.MathBitsCarry.m64 - y - b) % Extern.MathBitsCarry.m64) (if x < y + b then 1 else 0))
theorem run_sub64E {P : Program} (x y b : Nat) (hb : b ≤ 1) (w : World) :
    (sub64E #[.int .u64 x, .int .u64 y, .int .u64 b]).run P w =
      .ok (.tuple #[.int .u64 (((x + Go.Num.B - y - b) % Go.Num.B : Nat) : Int), .int .u64 ((if x < y + b then 1 else 0 : Nat) : Int)]) w := by
  have : b = 0 ∨ b = 1 := by omega
  rcases this with rfl | rfl <;> rfl
theorem sub64_call {P : Program} {f : FuncId} {fn : Func} (hf : P.funcs[f]? = some fn) (hname : (fn.name == "runtime.NumGoroutine") = false) (hb : fn.body.isNone = true) (hn : Extern.findNext fn = none) (he : Extern.find fn = some sub64E) (x y b : Nat) (h : b ≤ 1) (w : World) :
    (callFunc f #[.int .u64 x, .int .u64 y, .int .u64 b]).run P w = .ok (.value (.tuple #[.int .u64 (((x + Go.Num.B - y - b) % Go.Num.B : Nat) : Int), .int .u64 ((if x < y + b then 1 else 0 : Nat) : Int)])) w := by
  rw [run_callFunc_extern hf hname hb hn he, run_sub64E x y b h]; rfl
theorem add64_call {P : Program} {f : FuncId} {fn : Func} (hf : P.funcs[f]? = some fn) (hname : (fn.name == "runtime.NumGoroutine") = false) (hb : fn.body.isNone = true) (hn : Extern.findNext fn = none) (he : Extern.find fn = some add64Entry) (x y c : Nat) (h : c ≤ 1) (w : World) :
    (callFunc f #[.int .u64 x, .int .u64 y, .int .u64 c]).run P w = .ok (.value (.tuple #[.int .u64 (((x + y + c) % Go.Num.B : Nat) : Int), .int .u64 (((x + y + c) / Go.Num.B : Nat) : Int)])) w := by
  rw [run_callFunc_extern hf hname hb hn he, run_add64 x y c (by omega) (by omega) (by omega) (by omega)]
  simp only [Result.andThen]
  congr 5 <;> (unfold Go.Num.B; omega)
section
variable {a : Option Addr} {k c n l : Nat} {x : World × (Nat → Prop)} {B : Base} {L : Heap} {w : World}
theorem Kn.ca {j : Nat} (h : Kn x a k c n) (i : Nat) (hx : B[i]? = some x) (hj : j < k) (hw : St B L w) : w.cell? (adr a j) = some (.int .u64 (dg Go.Num.B n j : Nat)) := by
  obtain ⟨b, o, ha, hc⟩ := (h.at_ i hx hw).cell j hj
  subst ha
  rw [adr_some, Nat.mul_one]; exact hc
theorem Nm.ca {j : Nat} (h : Nm w a k c n) (hj : j < k) : w.cell? (adr a j) = some (.int .u64 (dg Go.Num.B n j : Nat)) := by
  obtain ⟨b, o, ha, hc⟩ := h.cell j hj
  subst ha
  rw [adr_some, Nat.mul_one]; exact hc
theorem Nm.ptr (h : Nm w a k c n) (hk : 0 < k) : ∃ b o, a = some ⟨b, o, none⟩ := by
  obtain ⟨b, o, ha, _⟩ := h.cell 0 hk; exact ⟨b, o, ha⟩
theorem Nm.low (h : Nm w a k c n) (hl : l ≤ k) : Nm w (slA a l c) (k - l) (c - l) (n / Go.Num.B ^ l) := by
  refine ⟨?_, by have := h.kc; omega, ?_, fun j hj => ?_⟩
  · have := h.lt
    rw [Nat.div_lt_iff_lt_mul (Bpow_pos l), ← Nat.pow_add, Nat.sub_add_cancel hl]; exact this
  · unfold slA
    split
    · exact h.ad.imp_right (Or.imp_right fun h => by omega)
    rcases h.ad with rfl | ⟨b, o, rfl⟩ | h0
    · exact .inl rfl
    · exact .inr (.inl ⟨b, o + l * 1, by simp [Addr.add]⟩)
    exact .inr (.inr (by omega))
  have := h.kc
  obtain ⟨b, o, ha, hc⟩ := h.cell (l + j) (by omega)
  refine ⟨b, o + l * 1, ?_, ?_⟩
  · unfold slA; rw [if_neg (by omega), ha]; simp [Addr.add]
  rw [Nat.mul_one, Nat.add_assoc, hc, dg_div]
theorem Fsh.low {m : Nat} (h : Fsh m a k) (hl : l ≤ k) : Fsh m (slA a l c) (k - l) := fun b o q e hk => by
  unfold slA at e
  split at e
  · exact h b o q e (by omega)
  rw [Option.map_eq_some_iff] at e
  obtain ⟨z, hz, e⟩ := e
  have hb : z.block = b := by
    have := congrArg Addr.block e
    unfold Addr.add at this
    split at this <;> exact this
  exact h b z.off z.spot (by rw [hz, ← hb]) (by omega)
theorem Kn.low (h : Kn x a k c n) (hl : l ≤ k) : Kn x (slA a l c) (k - l) (c - l) (n / Go.Num.B ^ l) := by
  refine ⟨h.1.low hl, fun b o q e hk => ?_⟩
  unfold slA at e
  split at e
  · exact h.2 b o q e (by omega)
  rw [Option.map_eq_some_iff] at e
  obtain ⟨z, hz, e⟩ := e
  have hb : z.block = b := by
    have := congrArg Addr.block e
    unfold Addr.add at this
    split at this <;> exact this
  exact h.2 b z.off z.spot (by rw [hz, ← hb]) (by omega)
theorem Kn.cut {q : Nat} (h : Kn x a k c n) (hq : q ≤ k) (hn : n < Go.Num.B ^ q) (c' : Nat) (hc : q ≤ c') : Kn x a q c' n :=
  ⟨h.1.cut hq hn c' hc, fun b o r e hk => h.2 b o r e (by omega)⟩
theorem Kn.lt (h : Kn x a k c n) : n < Go.Num.B ^ k := h.1.lt
theorem Kn.kc (h : Kn x a k c n) : k ≤ c := h.1.kc
theorem New_.low (h : New_ B a k) (hl : l ≤ k) : New_ B (slA a l c) (k - l) := fun y hy => (h y hy).low hl
theorem Fsh.cut {m q : Nat} (h : Fsh m a k) (hq : q ≤ k) : Fsh m a q := fun b o r e hk => h b o r e (by omega)
theorem New_.cut {q : Nat} (h : New_ B a k) (hq : q ≤ k) : New_ B a q := fun y hy => (h y hy).cut hq
theorem St.fresh {w0 : World} {p : Nat × Obj} (hs : St B L w) (hB : (w0, No) ∈ B) (hp : p ∈ L) : w0.heap.size ≤ p.1 := (hs.ok p hp _ hB).resolve_left (fun h => h)
theorem Nm.zero (w : World) (c : Nat) : Nm w a 0 c 0 := ⟨by simp, Nat.zero_le _, .inr (.inr rfl), fun j hj => absurd hj (Nat.not_lt_zero j)⟩
end
section
variable {P : Program} {ops : Array Oper} {Q : Exit → Act → World → Prop} {c : Cf} {e : Env} {B : Base} {L : Heap} {d : Nat} {o : Oper} {S : World → Prop} {fuel : Nat} {listed : Array Bool}
theorem c_heldI {id n : Nat} {ds : List Deferred} (idx : List Nat) (hm : P.follows .mixedOrders = true) (h : WH P ops ⟨n, ds, none⟩ Q (St B (idx.filterMap fun i => L[i]?)) ops.size (Array.replicate ops.size false) e B L) : WC P ⟨n, ds, none⟩ (.region id ops true) Q e B L := c_held _ hm h
theorem o_tel {f : FuncId} {args : Array Value} {F : Option Addr → Nat → Value} {i k n : Nat} (hi : ops[i]? = some o) (hw : Region.wanted o (yielded ops (act c e).tmps) = true) (hd : o.dst = some d) (hr : ∀ w, RunE P o (ev c.n e) w f args)
    (hc : ∀ w, St B L w → Ret P f args w (Tel F k n w))
    (h : ∀ x a c', Kn x a k c' n → New_ B a k → WH P ops c Q S fuel (listed.setIfInBounds i true) (upd e d (F a c')) (x :: B) L) : WO P ops c Q S fuel listed i e B L := by
  refine o_callV (R := fun w v w' => Tel F k n w v w') (E := fun _ _ _ => False) hi hw hd hr (fun w hw => (hc w hw).toP) (fun w hw v w' ⟨a, c', hv, hN, hF, hx⟩ => ?_) (fun _ _ _ _ h => h.elim)
  subst hv
  have h1 := hw.ext hx
  refine ⟨(w', fun j => j ∈ L.map (·.1)) :: B, L, ?_, h _ a c' (Kn.new hN hF hw) fun y hy => hF.mono (hw.fr y hy).size⟩
  refine ⟨?_, h1.own, h1.nd, ?_⟩
  · intro x hx
    rcases List.mem_cons.1 hx with rfl | hx
    · exact Fr.refl _ _
    exact h1.fr x hx
  intro p hp x hx
  rcases List.mem_cons.1 hx with rfl | hx
  · exact .inl (List.mem_map_of_mem hp)
  exact h1.ok p hp x hx
end
end Go.Sx
end
section
namespace Go.Num
section
variable {b : Nat}
theorem add_step {n m i z c : Nat} (h : z + b ^ i * c = n % b ^ i + m % b ^ i) :
    (z + b ^ i * ((dg b n i + dg b m i + c) % b)) + b ^ (i + 1) * ((dg b n i + dg b m i + c) / b) = n % b ^ (i + 1) + m % b ^ (i + 1) := by
  rw [mod_step, mod_step, Nat.pow_succ]
  generalize dg b n i = x at *
  generalize dg b m i = y at *
  generalize b ^ i = p at *
  have e : p * ((x + y + c) % b) + p * b * ((x + y + c) / b) = p * (x + y + c) := by rw [Nat.mul_assoc, ← Nat.mul_add, Nat.mod_add_div]
  rw [Nat.mul_add, Nat.mul_add] at e
  omega
theorem add_carry {n m i c : Nat} (hb : 0 < b) (hc : c ≤ 1) : (dg b n i + dg b m i + c) / b ≤ 1 := by
  have h1 := dg_lt hb n i
  have h2 := dg_lt hb m i
  have : (dg b n i + dg b m i + c) / b < 2 := Nat.div_lt_of_lt_mul (by omega)
  omega
theorem sub_step {n m i z r d r' : Nat} (h : z + m % b ^ i = n % b ^ i + b ^ i * r) (hd : d + dg b m i + r = dg b n i + b * r') :
    (z + b ^ i * d) + m % b ^ (i + 1) = n % b ^ (i + 1) + b ^ (i + 1) * r' := by
  rw [mod_step, mod_step, Nat.pow_succ]
  generalize dg b n i = x at *
  generalize dg b m i = y at *
  generalize b ^ i = p at *
  have e : p * (d + y + r) = p * (x + b * r') := by rw [hd]
  rw [Nat.mul_add, Nat.mul_add, Nat.mul_add, ← Nat.mul_assoc] at e
  omega
theorem sub_digit {x y r : Nat} (hx : x < b) (hy : y < b) (hr : r ≤ 1) : (x + b - y - r) % b + y + r = x + b * (if x < y + r then 1 else 0) := by
  split
  · rw [Nat.mod_eq_of_lt (by omega)]; omega
  rw [show x + b - y - r = (x - y - r) + b by omega, Nat.add_mod_right, Nat.mod_eq_of_lt (by omega)]; omega
theorem sub_end {n m k z r : Nat} (h : z + m % b ^ k = n % b ^ k + b ^ k * r) (hn : n < b ^ k) (hm : m ≤ n) (hz : z < b ^ k) : z = n - m ∧ r = 0 := by
  rw [Nat.mod_eq_of_lt hn, Nat.mod_eq_of_lt (by omega)] at h
  have hr : r = 0 := by
    rcases Nat.eq_zero_or_pos r with h0 | h0
    · exact h0
    have := Nat.mul_le_mul_left (b ^ k) h0
    omega
  subst hr
  rw [Nat.mul_zero] at h
  omega
def cmpN (n m : Nat) : Int := if n < m then -1 else if m < n then 1 else 0
theorem cmpN_self (n : Nat) : cmpN n n = 0 := by simp [cmpN]
theorem pair_lt {p x y s t : Nat} (hx : x < p) (hst : s < t) : x + p * s < y + p * t := by
  have := Nat.mul_le_mul_left p hst
  rw [Nat.mul_succ] at this
  omega
theorem cmp_step {n m i : Nat} (hb : 0 < b) : cmpN (n % b ^ (i + 1)) (m % b ^ (i + 1)) = if dg b n i < dg b m i then -1 else if dg b m i < dg b n i then 1 else cmpN (n % b ^ i) (m % b ^ i) := by
  have hp : 0 < b ^ i := Nat.pow_pos hb
  have h1 := Nat.mod_lt n hp
  have h2 := Nat.mod_lt m hp
  rw [mod_step, mod_step]
  generalize n % b ^ i = x at *
  generalize m % b ^ i = y at *
  generalize dg b n i = s at *
  generalize dg b m i = t at *
  generalize b ^ i = p at *
  rcases Nat.lt_trichotomy s t with h | h | h
  · have := pair_lt (y := y) h1 h
    unfold cmpN; rw [if_pos this, if_pos h]
  · subst h
    rw [if_neg (Nat.lt_irrefl _), if_neg (Nat.lt_irrefl _)]
    unfold cmpN
    simp only [Nat.add_lt_add_iff_right]
  have := pair_lt (y := x) h2 h
  unfold cmpN; rw [if_neg (by omega), if_pos this, if_neg (by omega), if_pos h]
theorem cmp_end {n m k : Nat} (hn : n < b ^ k) (hm : m < b ^ k) : cmpN (n % b ^ k) (m % b ^ k) = cmpN n m := by rw [Nat.mod_eq_of_lt hn, Nat.mod_eq_of_lt hm]
theorem top_lt {n m i : Nat} (h : n / b ^ (i + 1) = m / b ^ (i + 1)) (hd : dg b n i < dg b m i) : n < m := by
  rcases Nat.lt_or_ge n m with h1 | h1
  · exact h1
  have h2 := Nat.div_le_div_right (c := b ^ i) h1
  rw [div_step b n, div_step b m, h] at h2
  omega
theorem top_eq {n m i : Nat} (h : n / b ^ (i + 1) = m / b ^ (i + 1)) (hd : dg b n i = dg b m i) : n / b ^ i = m / b ^ i := by
  rw [div_step b n, div_step b m, h, hd]
end
section
variable {b : Nat}
theorem mul_digit {x y o c : Nat} (hx : x < b) (hy : y < b) (ho : o < b) (hc : c < b) : (x * y + o + c) / b < b := by
  have h1 : x * y ≤ (b - 1) * (b - 1) := Nat.mul_le_mul (by omega) (by omega)
  have h2 : (b - 1) * (b - 1) + (b - 1) + (b - 1) < b * b := by
    obtain ⟨d, rfl⟩ : ∃ d, b = d + 1 := ⟨b - 1, by omega⟩
    simp only [Nat.add_sub_cancel]
    rw [Nat.add_mul, Nat.mul_add]; omega
  exact Nat.div_lt_of_lt_mul (by omega)
theorem mul_step {z z0 x m i k c : Nat} (hb : 0 < b) (h : z % b ^ (i + k) + b ^ (i + k) * c = z0 % b ^ (i + k) + x * (m % b ^ k) * b ^ i) (hd : dg b z (i + k) = dg b z0 (i + k)) :
    setd b z (i + k) ((x * dg b m k + dg b z (i + k) + c) % b) % b ^ (i + (k + 1)) + b ^ (i + (k + 1)) * ((x * dg b m k + dg b z (i + k) + c) / b) = z0 % b ^ (i + (k + 1)) + x * (m % b ^ (k + 1)) * b ^ i := by
  rw [← Nat.add_assoc, setd_mod hb (Nat.mod_lt _ hb), mod_step b z0, mod_step b m, hd, Nat.pow_succ]
  generalize dg b z0 (i + k) = y
  have e0 : b ^ (i + k) = b ^ i * b ^ k := Nat.pow_add _ _ _
  generalize hp : b ^ (i + k) = p at *
  generalize dg b m k = u
  have e : p * ((x * u + y + c) % b) + p * b * ((x * u + y + c) / b) = p * (x * u + y + c) := by rw [Nat.mul_assoc, ← Nat.mul_add, Nat.mod_add_div]
  have e2 : x * (m % b ^ k + b ^ k * u) * b ^ i = x * (m % b ^ k) * b ^ i + p * (x * u) := by rw [e0]; grind
  rw [e2]
  rw [Nat.mul_add, Nat.mul_add] at e
  omega
end
end Go.Num
end
section
namespace Go.Num
def vlb (b : Nat) : List Nat → Nat
  | [] => 0
  | x :: l => x + b * vlb b l
abbrev vl : List Nat → Nat := vlb B
def Dig (b : Nat) (l : List Nat) : Prop := ∀ x ∈ l, x < b
section
variable {b : Nat}
theorem vlb_app : ∀ l m : List Nat, vlb b (l ++ m) = vlb b l + b ^ l.length * vlb b m
  | [], m => by simp [vlb]
  | x :: l, m => by
    rw [List.cons_append, vlb, vlb, vlb_app l m, List.length_cons, Nat.pow_succ, Nat.mul_add, ← Nat.add_assoc]
    congr 1
    rw [← Nat.mul_assoc, Nat.mul_comm b]
theorem vlb_snoc (l : List Nat) (x : Nat) : vlb b (l ++ [x]) = vlb b l + b ^ l.length * x := by
  rw [vlb_app]; simp [vlb]
theorem Dig.nil : Dig b [] := fun _ h => by simp at h
theorem Dig.cons {x : Nat} {l : List Nat} (hx : x < b) (hl : Dig b l) : Dig b (x :: l) := fun y hy => by
  rcases List.mem_cons.1 hy with rfl | hy
  · exact hx
  exact hl y hy
theorem Dig.tail {x : Nat} {l : List Nat} (h : Dig b (x :: l)) : Dig b l := fun y hy => h y (.tail _ hy)
theorem Dig.head {x : Nat} {l : List Nat} (h : Dig b (x :: l)) : x < b := h x (.head _)
theorem Dig.app {l m : List Nat} (hl : Dig b l) (hm : Dig b m) : Dig b (l ++ m) := fun y hy => by
  rcases List.mem_append.1 hy with hy | hy
  · exact hl y hy
  exact hm y hy
theorem Dig.take {l : List Nat} (h : Dig b l) (k : Nat) : Dig b (l.take k) := fun y hy => h y (List.mem_of_mem_take hy)
theorem Dig.drop {l : List Nat} (h : Dig b l) (k : Nat) : Dig b (l.drop k) := fun y hy => h y (List.mem_of_mem_drop hy)
theorem Dig.get {l : List Nat} (h : Dig b l) {i x : Nat} (hi : l[i]? = some x) : x < b := h x (List.mem_of_getElem? hi)
theorem Dig.set {l : List Nat} (h : Dig b l) {i x : Nat} (hx : x < b) : Dig b (l.set i x) := fun y hy => by
  rcases List.mem_or_eq_of_mem_set hy with hy | rfl
  · exact h y hy
  exact hx
theorem Dig.zeros (hb : 0 < b) (n : Nat) : Dig b (List.replicate n 0) := fun y hy => by rw [(List.mem_replicate.1 hy).2]; exact hb
theorem vlb_lt : ∀ {l : List Nat}, Dig b l → vlb b l < b ^ l.length
  | [], _ => by simp [vlb]
  | x :: l, h => by
    have h1 := vlb_lt h.tail
    have h2 := h.head
    rw [vlb, List.length_cons, Nat.pow_succ]
    have h3 : b * (vlb b l + 1) ≤ b * b ^ l.length := Nat.mul_le_mul_left _ h1
    rw [Nat.mul_comm (b ^ l.length)]
    rw [Nat.mul_add] at h3; omega
theorem dg_vlb {l : List Nat} (hb : 0 < b) (h : Dig b l) {i x : Nat} (hi : l[i]? = some x) : dg b (vlb b l) i = x := by
  obtain ⟨h1, h2⟩ := List.getElem?_eq_some_iff.1 hi
  have e : l = l.take i ++ x :: l.drop (i + 1) := by
    rw [← h2]
    conv => lhs; rw [← List.take_append_drop i l, List.drop_eq_getElem_cons h1]
  have hlen : (l.take i).length = i := by rw [List.length_take]; omega
  rw [e, vlb_app, hlen]
  have h3 := dg_high (b := b) (x := vlb b (l.take i)) (y := vlb b (x :: l.drop (i + 1))) (i := 0) (j := i) (by have := vlb_lt (h.take i); rwa [hlen] at this)
  refine Eq.trans (show dg b _ i = dg b _ 0 from h3) ?_
  unfold dg
  rw [Nat.pow_zero, Nat.div_one, vlb, Nat.add_mul_mod_self_left, Nat.mod_eq_of_lt (h.get hi)]
def dgs (b n k : Nat) : List Nat := (List.range k).map (dg b n)
theorem dgs_len (n k : Nat) : (dgs b n k).length = k := by unfold dgs; rw [List.length_map, List.length_range]
theorem dgs_get {n k i : Nat} (h : i < k) : (dgs b n k)[i]? = some (dg b n i) := by
  unfold dgs; rw [List.getElem?_map, List.getElem?_range h]; rfl
theorem dgs_dig (hb : 0 < b) (n k : Nat) : Dig b (dgs b n k) := fun x hx => by
  unfold dgs at hx
  obtain ⟨i, _, rfl⟩ := List.mem_map.1 hx
  exact dg_lt hb n i
theorem dgs_succ (n k : Nat) : dgs b n (k + 1) = dgs b n k ++ [dg b n k] := by
  unfold dgs; rw [List.range_succ, List.map_append]; rfl
theorem vlb_dgs (n : Nat) : ∀ k : Nat, vlb b (dgs b n k) = n % b ^ k
  | 0 => by simp [dgs, vlb, Nat.mod_one]
  | k + 1 => by rw [dgs_succ, vlb_snoc, vlb_dgs n k, dgs_len, mod_step]
end
def lm (n : Nat) : List Nat := dgs B n (sz n)
end Go.Num
end
section
namespace Go.Num
section
variable {b n m k i j x y : Nat}
theorem dgs_set (hb : 0 < b) (hx : x < b) (hj : j < k) : (dgs b n k).set j x = dgs b (setd b n j x) k := by
  apply List.ext_getElem?
  intro i
  rcases Nat.lt_or_ge i k with h1 | h1
  · rw [dgs_get h1, List.getElem?_set, dgs_len]
    by_cases h : j = i
    · subst h; rw [if_pos rfl, if_pos hj, setd_same hb hx]
    rw [if_neg h, dgs_get h1, setd_other hb hx (by omega)]
  rw [List.getElem?_eq_none (by rw [List.length_set, dgs_len]; exact h1), List.getElem?_eq_none (by rw [dgs_len]; exact h1)]
theorem dg_parts (b n j : Nat) : n % b ^ j + b ^ j * dg b n j + b ^ (j + 1) * (n / b ^ (j + 1)) = n := by
  have h1 := Nat.mod_add_div n (b ^ (j + 1))
  rw [mod_step] at h1; exact h1
theorem setd_add : setd b n j (dg b n j + y) = n + b ^ j * y := by
  have h := dg_parts b n j
  unfold setd
  rw [Nat.mul_add]; omega
theorem dgs_add (hb : 0 < b) (hy : dg b n j + y < b) (hj : j < k) : (dgs b n k).set j (dg b n j + y) = dgs b (n + b ^ j * y) k := by
  rw [dgs_set hb hy hj, setd_add]
theorem dgs_put (hb : 0 < b) (h0 : dg b n j = 0) (hy : y < b) (hj : j < k) : (dgs b n k).set j y = dgs b (n + b ^ j * y) k := by
  have := dgs_add (y := y) hb (by omega : dg b n j + y < b) hj
  rw [h0, Nat.zero_add] at this; exact this
theorem times_step (hb : 0 < b) (a g i : Nat) :
    let t := a % b ^ i * g
    let u := dg b a i * g + t / b ^ i
    (a % b ^ (i + 1) * g) % b ^ (i + 1) = t % b ^ i + b ^ i * (u % b) ∧ (a % b ^ (i + 1) * g) / b ^ (i + 1) = u / b := by
  intro t u
  have hp : 0 < b ^ i := Nat.pow_pos hb
  have e : a % b ^ (i + 1) * g = t % b ^ i + b ^ i * u := by
    have h1 := Nat.mod_add_div t (b ^ i)
    have h2 : u = dg b a i * g + t / b ^ i := rfl
    rw [mod_step, Nat.add_mul, h2, Nat.mul_add, Nat.mul_assoc]
    have h3 : a % b ^ i * g = t := rfl
    rw [h3]
    clear_value t
    omega
  have h3 := Nat.mod_lt t hp
  rw [e]
  generalize t % b ^ i = z at *
  clear e
  clear_value u
  clear t
  have e2 : z + b ^ i * u = z + b ^ i * (u % b) + b ^ (i + 1) * (u / b) := by
    have := Nat.mod_add_div u b
    conv => lhs; rw [← this]
    rw [Nat.mul_add, Nat.pow_succ, Nat.mul_assoc, Nat.add_assoc]
  have h4 := lt_snoc h3 (Nat.mod_lt u hb)
  have hp2 : 0 < b ^ (i + 1) := Nat.pow_pos hb
  constructor
  · rw [e2, Nat.add_mul_mod_self_left, Nat.mod_eq_of_lt h4]
  rw [e2, Nat.add_mul_div_left _ _ hp2, Nat.div_eq_of_lt h4, Nat.zero_add]
theorem times_carry (hb : 0 < b) {a g : Nat} (hg : g < b) (i : Nat) : a % b ^ i * g / b ^ i < b := by
  have hp : 0 < b ^ i := Nat.pow_pos hb
  refine (Nat.div_lt_iff_lt_mul hp).2 ?_
  have h1 := Nat.mod_lt a hp
  have h2 : a % b ^ i * g ≤ b ^ i * g := Nat.mul_le_mul_right _ (Nat.le_of_lt h1)
  have h3 : b ^ i * (g + 1) ≤ b ^ i * b := Nat.mul_le_mul_left _ hg
  rw [Nat.mul_add] at h3
  rw [Nat.mul_comm b]; omega
theorem small_step (_hb : 0 < b) {d : Nat} (hd : 0 < d) (a i : Nat) :
    let r := a / b ^ (i + 1) % d
    let u := r * b + dg b a i
    a / b ^ i / d = a / b ^ (i + 1) / d * b + u / d ∧ a / b ^ i % d = u % d := by
  intro r u
  have h1 := div_step b a i
  have h2 := Nat.div_add_mod (a / b ^ (i + 1)) d
  have hu : u = a / b ^ (i + 1) % d * b + dg b a i := rfl
  generalize a / b ^ (i + 1) = w at *
  clear_value u
  clear r
  generalize a / b ^ i = v at *
  generalize dg b a i = c at *
  have e : v = w / d * b * d + u := by
    have h4 : w * b = d * (w / d) * b + w % d * b := by rw [← Nat.add_mul, h2]
    have e2 : w / d * b * d = d * (w / d) * b := by rw [Nat.mul_right_comm, Nat.mul_comm (w / d)]
    rw [h1, hu, e2, Nat.mul_comm b]; omega
  rw [e, Nat.add_comm, Nat.add_mul_div_right _ _ hd, Nat.add_mul_mod_self_right, Nat.add_comm]
  exact ⟨rfl, rfl⟩
theorem small_digit (hb : 0 < b) {d : Nat} (hd : 0 < d) (a i : Nat) : (a / b ^ (i + 1) % d * b + dg b a i) / d < b ∧ dg b (a / d) i = (a / b ^ (i + 1) % d * b + dg b a i) / d := by
  have h0 : (a / b ^ (i + 1) % d * b + dg b a i) / d < b := by
    refine (Nat.div_lt_iff_lt_mul hd).2 ?_
    have h1 := Nat.mod_lt (a / b ^ (i + 1)) hd
    have h2 := dg_lt hb a i
    have h3 : (a / b ^ (i + 1) % d + 1) * b ≤ d * b := Nat.mul_le_mul_right _ h1
    rw [Nat.add_mul] at h3
    rw [Nat.mul_comm b]; omega
  refine ⟨h0, ?_⟩
  unfold dg at *
  rw [Nat.div_div_eq_div_mul, Nat.mul_comm d, ← Nat.div_div_eq_div_mul, (small_step hb hd a i).1]
  unfold dg
  rw [Nat.add_comm, Nat.add_mul_mod_self_right, Nat.mod_eq_of_lt h0]
theorem high_step (b n i : Nat) : n / b ^ i * b ^ i = n / b ^ (i + 1) * b ^ (i + 1) + b ^ i * dg b n i := by
  rw [div_step b n i, Nat.add_mul, Nat.pow_succ, Nat.mul_comm (dg b n i), Nat.mul_comm b, Nat.mul_assoc, Nat.mul_comm b (b ^ i)]; omega
theorem high_dg (hb : 0 < b) (n i : Nat) : dg b (n / b ^ (i + 1) * b ^ (i + 1)) i = 0 := by
  have := dg_low (b := b) (x := 0) (y := n / b ^ (i + 1)) hb (Nat.lt_succ_self i)
  rw [Nat.zero_add, Nat.mul_comm, dg_zero] at this
  exact this
end
theorem or_add {c y n : Nat} (hc : c < 2 ^ n) : c ||| (2 ^ n * y) = c + 2 ^ n * y := by
  rw [Nat.or_comm, Nat.add_comm, Nat.two_pow_add_eq_or_of_lt hc]
theorem shl_parts (x : Nat) {n : Nat} (hn : n < 64) : x * 2 ^ n = 2 ^ n * (x % 2 ^ (64 - n)) + B * (x / 2 ^ (64 - n)) ∧ x * 2 ^ n % B = 2 ^ n * (x % 2 ^ (64 - n)) ∧ x / 2 / 2 ^ (63 - n) = x / 2 ^ (64 - n) := by
  have e : B = 2 ^ n * 2 ^ (64 - n) := by rw [← Nat.pow_add, B_two]; congr 1; omega
  have h1 := Nat.mod_add_div x (2 ^ (64 - n))
  refine ⟨?_, ?_, ?_⟩
  · rw [e, Nat.mul_assoc, ← Nat.mul_add, h1, Nat.mul_comm]
  · rw [e, Nat.mul_comm x, Nat.mul_mod_mul_left]
  rw [Nat.div_div_eq_div_mul, show 64 - n = 63 - n + 1 by omega, Nat.pow_succ, Nat.mul_comm 2]
theorem shift_step {a i n k x c : Nat} (hn : n < 64) (hk : i + 1 < k) (hx : x = dg B a i) (hc : c = dg B (a % B ^ i * 2 ^ n) i) :
    c < 2 ^ n ∧ (c ||| (x * 2 ^ n % B)) < B ∧ x / 2 / 2 ^ (63 - n) < B ∧
    ((dgs B (a % B ^ i * 2 ^ n) k).set i (c ||| (x * 2 ^ n % B))).set (i + 1) (x / 2 / 2 ^ (63 - n)) = dgs B (a % B ^ (i + 1) * 2 ^ n) k := by
  obtain ⟨h1, h2, h3⟩ := shl_parts x hn
  have hxB : x < B := by rw [hx]; exact dg_lt B_pos _ _
  have hp : 0 < B ^ i := Bpow_pos i
  have hz : a % B ^ i * 2 ^ n < 2 ^ n * B ^ i := by rw [Nat.mul_comm (2 ^ n)]; exact Nat.mul_lt_mul_of_pos_right (Nat.mod_lt _ hp) (Nat.pow_pos (by decide))
  have hcd : c = a % B ^ i * 2 ^ n / B ^ i := by
    rw [hc]; unfold dg
    refine Nat.mod_eq_of_lt ?_; refine Nat.lt_of_lt_of_le ((Nat.div_lt_iff_lt_mul hp).2 hz) ?_
    rw [B_two]; exact Nat.pow_le_pow_right (by decide) (by omega)
  have hcl : c < 2 ^ n := by rw [hcd]; exact (Nat.div_lt_iff_lt_mul hp).2 hz
  have e : B = 2 ^ n * 2 ^ (64 - n) := by rw [← Nat.pow_add, B_two]; congr 1; omega
  have hm : x % 2 ^ (64 - n) < 2 ^ (64 - n) := Nat.mod_lt _ (Nat.pow_pos (by decide))
  have hs : c + 2 ^ n * (x % 2 ^ (64 - n)) < B := by
    rw [e]
    have : 2 ^ n * (x % 2 ^ (64 - n) + 1) ≤ 2 ^ n * 2 ^ (64 - n) := Nat.mul_le_mul_left _ hm
    rw [Nat.mul_add] at this; omega
  have hd : x / 2 ^ (64 - n) < B := Nat.lt_of_le_of_lt (Nat.div_le_self _ _) hxB
  rw [h2, h3, or_add hcl]
  refine ⟨hcl, hs, hd, ?_⟩
  have s1 := dgs_add (n := a % B ^ i * 2 ^ n) (j := i) (k := k) (y := 2 ^ n * (x % 2 ^ (64 - n))) B_pos (by rw [← hc]; exact hs) (by omega)
  rw [← hc] at s1
  rw [s1]
  have hlow : a % B ^ i * 2 ^ n + B ^ i * (2 ^ n * (x % 2 ^ (64 - n))) < B ^ (i + 1) := by
    have h4 := Nat.mod_add_div (a % B ^ i * 2 ^ n) (B ^ i)
    have h5 := Nat.mod_lt (a % B ^ i * 2 ^ n) hp
    rw [← hcd] at h4
    have h6 := lt_snoc (b := B) h5 hs
    rw [Nat.mul_add] at h6; omega
  rw [dgs_put B_pos (dg_out hlow) hd hk]
  congr 1
  rw [mod_step, Nat.add_mul, ← hx, Nat.mul_assoc, h1, Nat.mul_add, Nat.pow_succ, Nat.mul_assoc]; omega
theorem dg_half (n i : Nat) : dg b32 n (2 * i) = dg B n i % b32 ∧ dg b32 n (2 * i + 1) = dg B n i / b32 := by
  unfold dg
  have e : B = b32 * b32 := by decide
  rw [← B_b32]
  constructor
  · rw [e, Nat.mod_mul_right_mod]
  rw [Nat.pow_succ, ← B_b32, ← Nat.div_div_eq_div_mul, e, Nat.mod_mul_right_div_self]
end Go.Num
end
