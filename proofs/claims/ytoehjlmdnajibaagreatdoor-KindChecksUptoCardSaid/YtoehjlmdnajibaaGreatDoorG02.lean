/- Layer 15, KindChecks: Check and Vars of kind tell the fault, and the variables, of the document, for programs of at most 600 nodes and names of at most 200 bytes; in the Upto form. Part 2 of 17. -/
import Derived.Lib.Bytealg
import Derived.Lib.Strings
import Derived.Lib.Fields
import Derived.Test.YtoehjlmdnajibaaGreatDoorG01
import Derived.Defers
import Derived.Recover
import Derived.WalkSmall
import Derived.Lib.LastIndexByte
import Derived.Lib.IndexMore
section
namespace Go.Tok
theorem byte_all (P : UInt8 → Prop) (h : ∀ n, n < 256 → P (UInt8.ofNat n)) (b : UInt8) : P b := by
  have := h b.toNat b.toNat_lt
  simpa using this
def atP (p : UInt8 → Bool) (s : List UInt8) (i : Nat) : Bool :=
  match s[i]? with
  | some b => p b
  | none => false
def runTo (p : UInt8 → Bool) (s : List UInt8) (i : Nat) : Nat := i + ((s.drop i).takeWhile p).length
theorem atP_lt {p : UInt8 → Bool} {s : List UInt8} {i : Nat} (h : atP p s i = true) : i < s.length := by
  unfold atP at h
  split at h
  · rename_i b hb; exact (List.getElem?_eq_some_iff.1 hb).1
  cases h
theorem atP_in {p : UInt8 → Bool} {s : List UInt8} {i : Nat} (h : i < s.length) : atP p s i = p s[i] := by simp [atP, h]
theorem atP_out {p : UInt8 → Bool} {s : List UInt8} {i : Nat} (h : s.length ≤ i) : atP p s i = false := by simp [atP, h]
theorem runTo_ge (p : UInt8 → Bool) (s : List UInt8) (i : Nat) : i ≤ runTo p s i := by unfold runTo; omega
theorem runTo_step {p : UInt8 → Bool} {s : List UInt8} {i : Nat} (h : atP p s i = true) : runTo p s i = runTo p s (i + 1) := by
  have hi := atP_lt h
  rw [atP_in hi] at h
  unfold runTo
  rw [List.drop_eq_getElem_cons hi, List.takeWhile_cons, if_pos h]
  simp; omega
theorem runTo_stop {p : UInt8 → Bool} {s : List UInt8} {i : Nat} (h : atP p s i = false) : runTo p s i = i := by
  unfold runTo
  by_cases hi : i < s.length
  · rw [atP_in hi] at h
    rw [List.drop_eq_getElem_cons hi, List.takeWhile_cons, if_neg (by simp [h])]
    simp
  rw [List.drop_eq_nil_of_le (by omega)]; simp
theorem runTo_le {p : UInt8 → Bool} {s : List UInt8} {i : Nat} (h : i ≤ s.length) : runTo p s i ≤ s.length := by
  unfold runTo
  have h1 := (List.takeWhile_prefix p (l := s.drop i)).length_le
  simp at h1; omega
theorem index_contains (so : List UInt8) (b : UInt8) : decide (0 ≤ Lib.indexByte so b) = so.contains b := by
  induction so with
  | nil => simp [Lib.indexByte]
  | cons x l ih =>
    have hg := Lib.indexByte_ge l b
    unfold Lib.indexByte
    by_cases hx : x = b
    · subst hx; simp
    · have hx' : (b == x) = false := by simpa using Ne.symm hx
      have hx2 : (x == b) = false := by simpa using hx
      rw [List.contains_cons, hx', hx2, Bool.false_or, ← ih]
      by_cases h2 : Lib.indexByte l b = -1
      · simp [h2]
      · have h3 : (Lib.indexByte l b == -1) = false := by simpa using h2
        rw [h3]
        simp only [Bool.false_eq_true, if_false]
        have : (0 ≤ Lib.indexByte l b + 1) ↔ (0 ≤ Lib.indexByte l b) := by omega
        simp only [this]
def isAt (s so : List UInt8) (i : Nat) : Bool := atP so.contains s i
def letterB (b : UInt8) : Bool := (97 ≤ b && b ≤ 122) || (65 ≤ b && b ≤ 90) || b == 95
def digitB (b : UInt8) : Bool := 48 ≤ b && b ≤ 57
def wordB (b : UInt8) : Bool := letterB b || digitB b
def tailB (b : UInt8) : Bool := letterB b || digitB b || b == 46
def pmB (b : UInt8) : Bool := b == 43 || b == 45
def blankB (b : UInt8) : Bool := b == 32 || b == 9 || b == 10 || b == 13
def eqB (x b : UInt8) : Bool := b == x
def notNl (b : UInt8) : Bool := b != 10
theorem con_letters : List.contains ([97, 98, 99, 100, 101, 102, 103, 104, 105, 106, 107, 108, 109, 110, 111, 112, 113, 114, 115, 116, 117, 118, 119, 120, 121, 122, 65, 66, 67, 68, 69, 70, 71, 72, 73, 74, 75, 76, 77, 78, 79, 80, 81, 82, 83, 84, 85, 86, 87, 88, 89, 90, 95] : List UInt8) = letterB := funext (byte_all _ (by decide +kernel))
theorem con_digits : List.contains ([48, 49, 50, 51, 52, 53, 54, 55, 56, 57] : List UInt8) = digitB := funext (byte_all _ (by decide +kernel))
theorem con_words : List.contains ([97, 98, 99, 100, 101, 102, 103, 104, 105, 106, 107, 108, 109, 110, 111, 112, 113, 114, 115, 116, 117, 118, 119, 120, 121, 122, 65, 66, 67, 68, 69, 70, 71, 72, 73, 74, 75, 76, 77, 78, 79, 80, 81, 82, 83, 84, 85, 86, 87, 88, 89, 90, 95, 48, 49, 50, 51, 52, 53, 54, 55, 56, 57] : List UInt8) = wordB := funext (byte_all _ (by decide +kernel))
theorem con_tails : List.contains ([97, 98, 99, 100, 101, 102, 103, 104, 105, 106, 107, 108, 109, 110, 111, 112, 113, 114, 115, 116, 117, 118, 119, 120, 121, 122, 65, 66, 67, 68, 69, 70, 71, 72, 73, 74, 75, 76, 77, 78, 79, 80, 81, 82, 83, 84, 85, 86, 87, 88, 89, 90, 95, 48, 49, 50, 51, 52, 53, 54, 55, 56, 57, 46] : List UInt8) = tailB := funext (byte_all _ (by decide +kernel))
theorem con_pm : List.contains ([43, 45] : List UInt8) = pmB := funext (byte_all _ (by decide +kernel))
theorem con_blanks : List.contains ([32, 9, 10, 13] : List UInt8) = blankB := funext (byte_all _ (by decide +kernel))
theorem con_one (x : UInt8) : List.contains [x] = eqB x := by funext b; simp only [List.contains_cons, List.contains_nil, Bool.or_false, eqB]
def cmt (s : List UInt8) (j : Nat) : Bool := atP (eqB 47) s j && atP (eqB 47) s (j + 1)
def skipF : Nat → List UInt8 → Nat → Nat
  | 0, _, i => i
  | f + 1, s, i => if cmt s (runTo blankB s i) then skipF f s (runTo notNl s (runTo blankB s i)) else runTo blankB s i
def skipTo (s : List UInt8) (i : Nat) : Nat := skipF (s.length + 1 - i) s i
theorem eqB_notNl {b : UInt8} (h : eqB 47 b = true) : notNl b = true := by
  simp only [eqB, beq_iff_eq] at h; subst h; decide
theorem cmt_run {s : List UInt8} {j : Nat} (h : cmt s j = true) : j + 2 ≤ runTo notNl s j := by
  simp only [cmt, Bool.and_eq_true] at h
  have up : ∀ i, atP (eqB 47) s i = true → atP notNl s i = true := fun i hi => by
    have hl := atP_lt hi
    rw [atP_in hl] at hi ⊢
    exact eqB_notNl hi
  rw [runTo_step (up _ h.1), runTo_step (up _ h.2)]
  exact runTo_ge _ _ _
theorem skipF_more (s : List UInt8) : ∀ (f f' i : Nat), s.length + 1 - i ≤ f → s.length + 1 - i ≤ f' → i ≤ s.length → skipF f s i = skipF f' s i
  | 0, _, i, h, _, hi => by omega
  | _ + 1, 0, i, _, h, hi => by omega
  | f + 1, f' + 1, i, h, h', hi => by
    unfold skipF
    split
    · rename_i hc
      have h1 := cmt_run hc
      have h2 := runTo_ge blankB s i
      exact skipF_more s f f' _ (by omega) (by omega) (runTo_le (runTo_le hi))
    · rfl
theorem skipTo_eq {s : List UInt8} {i : Nat} (hi : i ≤ s.length) : skipTo s i = if cmt s (runTo blankB s i) then skipTo s (runTo notNl s (runTo blankB s i)) else runTo blankB s i := by
  unfold skipTo
  rw [show s.length + 1 - i = (s.length - i) + 1 from by omega]
  rw [skipF]
  split
  · rename_i hc
    have h1 := cmt_run hc
    have h2 := runTo_ge blankB s i
    exact skipF_more s _ _ _ (by omega) (by omega) (runTo_le (runTo_le hi))
  rfl
theorem skipTo_le {s : List UInt8} : ∀ {i : Nat}, i ≤ s.length → skipTo s i ≤ s.length ∧ i ≤ skipTo s i := by
  intro i
  generalize hk : s.length - i = k
  induction k using Nat.strongRecOn generalizing i with
  | _ k ih =>
    intro hi
    rw [skipTo_eq hi]
    have h2 := runTo_ge blankB s i
    have h3 := runTo_le (p := blankB) hi
    split
    · rename_i hc
      have h1 := cmt_run hc
      have h4 := runTo_le (p := notNl) h3
      have := ih (s.length - runTo notNl s (runTo blankB s i)) (by omega) rfl h4
      omega
    · omega
theorem prefix_cmt (s : List UInt8) (j : Nat) : List.isPrefixOf [47, 47] (s.drop j) = cmt s j := by
  unfold cmt atP
  have e1 : s[j]? = (s.drop j)[0]? := by simp
  have e2 : s[j + 1]? = (s.drop j)[1]? := by simp
  rw [e1, e2]
  cases s.drop j with
  | nil => rfl
  | cons a l =>
    cases l with
    | nil => simp [List.isPrefixOf]
    | cons b l => simp [List.isPrefixOf, eqB, Bool.beq_comm]
theorem index_run (s : List UInt8) (j : Nat) (h : j ≤ s.length) : runTo notNl s j = if Lib.indexByte (s.drop j) 10 < 0 then s.length else j + (Lib.indexByte (s.drop j) 10).toNat := by
  unfold runTo
  have key : ∀ l : List UInt8, (l.takeWhile notNl).length = if Lib.indexByte l 10 < 0 then l.length else (Lib.indexByte l 10).toNat := by
    intro l
    induction l with
    | nil => simp [Lib.indexByte]
    | cons a l ih =>
      have hg := Lib.indexByte_ge l 10
      unfold Lib.indexByte
      by_cases ha : a = 10
      · subst ha; simp [notNl]
      · have h1 : notNl a = true := by simp [notNl, ha]
        have h2 : (a == 10) = false := by simpa using ha
        rw [List.takeWhile_cons, if_pos h1, h2]
        simp only [Bool.false_eq_true, if_false, List.length_cons, ih]
        by_cases h3 : Lib.indexByte l 10 = -1
        · simp [h3]
        · have h4 : (Lib.indexByte l 10 == -1) = false := by simpa using h3
          rw [h4]
          simp only [Bool.false_eq_true, if_false]
          rw [if_neg (by omega), if_neg (by omega)]
          omega
  rw [key]
  split
  · simp; omega
  · rfl
def numDot (s : List UInt8) (i : Nat) : Nat := if atP (eqB 46) s i && atP digitB s (i + 1) then runTo digitB s (i + 1) else i
def numTens (s : List UInt8) (i : Nat) : Nat × Nat :=
  if atP (eqB 101) s i && atP digitB s (i + 1) then (runTo digitB s (i + 1) - (i + 1), runTo digitB s (i + 1))
  else if atP (eqB 101) s i && (atP pmB s (i + 1) && atP digitB s (i + 2)) then (runTo digitB s (i + 2) - (i + 2), runTo digitB s (i + 2))
  else (0, i)
def numEnd (s : List UInt8) (i : Nat) : Nat := (numTens s (numDot s (runTo digitB s i))).2
def numFine (s : List UInt8) (i : Nat) : Bool := decide ((numTens s (numDot s (runTo digitB s i))).1 ≤ 4) && !atP tailB s (numEnd s i)
theorem run_zero (p : UInt8 → Bool) (s : List UInt8) (i : Nat) : (runTo p s i - i = 0) ↔ (atP p s i = false) := by
  have h := runTo_ge p s i
  constructor
  · intro h0
    cases ha : atP p s i with
    | false => rfl
    | true =>
      have h1 := runTo_step ha
      have h2 := runTo_ge p s (i + 1)
      omega
  · intro ha; rw [runTo_stop ha]; omega
theorem numDot_le {s : List UInt8} {i : Nat} (h : i ≤ s.length) : numDot s i ≤ s.length ∧ i ≤ numDot s i := by
  unfold numDot
  split
  · rename_i hc
    simp only [Bool.and_eq_true] at hc
    have h1 := atP_lt hc.2
    have h2 := runTo_ge digitB s (i + 1)
    have h3 := runTo_le (p := digitB) (s := s) (i := i + 1) (by omega)
    omega
  omega
theorem numTens_le {s : List UInt8} {i : Nat} (h : i ≤ s.length) : (numTens s i).2 ≤ s.length ∧ i ≤ (numTens s i).2 ∧ (numTens s i).1 ≤ s.length := by
  unfold numTens
  split
  · rename_i hc
    simp only [Bool.and_eq_true] at hc
    have h1 := atP_lt hc.2
    have h2 := runTo_ge digitB s (i + 1)
    have h3 := runTo_le (p := digitB) (s := s) (i := i + 1) (by omega)
    simp only; omega
  split
  · rename_i hc
    simp only [Bool.and_eq_true] at hc
    have h1 := atP_lt hc.2.2
    have h2 := runTo_ge digitB s (i + 2)
    have h3 := runTo_le (p := digitB) (s := s) (i := i + 2) (by omega)
    simp only; omega
  simp only; omega
def signsL : List (List UInt8) := [[61, 61], [33, 61], [60, 61], [62, 61], [43, 61], [123], [125], [91], [93], [40], [41], [60], [62], [61], [43], [45], [42], [47], [126], [44], [59], [58]]
def signOf (s : List UInt8) (i : Nat) : Option (List UInt8) := signsL.find? (fun t => t.isPrefixOf (s.drop i))
def signsT : List UInt8 := [61, 61, 32, 33, 61, 32, 60, 61, 32, 62, 61, 32, 43, 61, 32, 123, 32, 125, 32, 91, 32, 93, 32, 40, 32, 41, 32, 60, 32, 62, 32, 61, 32, 43, 32, 45, 32, 42, 32, 47, 32, 126, 32, 44, 32, 59, 32, 58]
theorem signs_fields : Lib.fields signsT = signsL := by decide +kernel
theorem signs_ascii : ∀ (j : Nat) b, signsT[j]? = some b → b.toNat < 128 := by
  intro j b h
  have hm := List.mem_of_getElem? h
  have : ∀ b ∈ signsT, b.toNat < 128 := by decide +kernel
  exact this b hm
def signLen (s : List UInt8) (i : Nat) : Nat := ((signOf s i).map List.length).getD 0
theorem sig_len (k : Nat) : (signsL.getD k []).length ≤ 2 := by
  rcases Nat.lt_or_ge k 22 with h | h
  · revert k; decide +kernel
  have : signsL.length ≤ k := h
  rw [List.getD_eq_getElem?_getD, List.getElem?_eq_none this]; simp
theorem sig_pos (k : Nat) (h : k < 22) : 0 < (signsL.getD k []).length := by revert k; decide +kernel
theorem take_at {k : Nat} (h : k < 22) : signsL.take (k + 1) = signsL.take k ++ [signsL.getD k []] := by
  have hl : k < signsL.length := h
  rw [List.take_succ_eq_append_getElem hl]; simp [hl]
theorem sig_step {s : List UInt8} {j k : Nat} (h : k < 22) (hn : (signsL.take k).find? (fun t => t.isPrefixOf (s.drop j)) = none) (hk : (signsL.getD k []).isPrefixOf (s.drop j) = false) :
    (signsL.take (k + 1)).find? (fun t => t.isPrefixOf (s.drop j)) = none := by
  rw [take_at h, List.find?_append, hn]; simp only [Option.none_or, List.find?_cons, hk, List.find?_nil]
theorem sig_found {s : List UInt8} {j k : Nat} (h : k < 22) (hn : (signsL.take k).find? (fun t => t.isPrefixOf (s.drop j)) = none) (hk : (signsL.getD k []).isPrefixOf (s.drop j) = true) :
    signLen s j = (signsL.getD k []).length := by
  have e : signsL = signsL.take (k + 1) ++ signsL.drop (k + 1) := (List.take_append_drop _ _).symm
  have h1 : signOf s j = some (signsL.getD k []) := by
    unfold signOf
    rw [e, List.find?_append, take_at h, List.find?_append, hn]
    simp only [Option.none_or, List.find?_cons, hk]
    rw [← take_at h, ← e]; rfl
  simp [signLen, h1]
theorem sig_none {s : List UInt8} {j k : Nat} (h : 22 ≤ k) (hn : (signsL.take k).find? (fun t => t.isPrefixOf (s.drop j)) = none) : signLen s j = 0 := by
  rw [List.take_of_length_le (by exact h)] at hn
  have h1 : signOf s j = none := hn
  simp [signLen, h1]
def nameB (s : List UInt8) (i : Nat) : Bool := atP letterB s i && !atP (eqB 95) s i
def tokAt (s : List UInt8) (i : Nat) : Nat × Nat × Bool :=
  if nameB s i then (1, runTo wordB s i, true)
  else if atP digitB s i then (2, numEnd s i, numFine s i)
  else if signLen s i = 0 then (0, i, false) else (3, i + signLen s i, true)
end Go.Tok
end
section
namespace Go.Tok
theorem numEnd_le {s : List UInt8} {i : Nat} (h : i ≤ s.length) : numEnd s i ≤ s.length ∧ runTo digitB s i ≤ numEnd s i := by
  have h1 := runTo_le (p := digitB) h
  have h2 := numDot_le h1
  have h3 := numTens_le h2.1
  unfold numEnd; omega
theorem nameB_run {s : List UInt8} {i : Nat} (h : nameB s i = true) : i < runTo wordB s i := by
  simp only [nameB, Bool.and_eq_true] at h
  have h1 : atP wordB s i = true := by
    have hl := atP_lt h.1
    rw [atP_in hl] at *
    simp [wordB, h.1]
  rw [runTo_step h1]
  have := runTo_ge wordB s (i + 1)
  omega
theorem digit_run {s : List UInt8} {i : Nat} (h : atP digitB s i = true) : i < runTo digitB s i := by
  rw [runTo_step h]
  have := runTo_ge digitB s (i + 1)
  omega
theorem signLen_le {s : List UInt8} {i : Nat} (h : i ≤ s.length) : i + signLen s i ≤ s.length := by
  unfold signLen
  cases ho : signOf s i with
  | none => simpa using h
  | some t =>
    have hp := List.find?_some ho
    have := (List.isPrefixOf_iff_prefix.1 hp).length_le
    simp at this ⊢
    omega
theorem tok_le {s : List UInt8} {i : Nat} (h : i ≤ s.length) : i ≤ (tokAt s i).2.1 ∧ (tokAt s i).2.1 ≤ s.length ∧ ((tokAt s i).2.2 = true → i < (tokAt s i).2.1) := by
  unfold tokAt
  split
  · rename_i h1
    have h2 := nameB_run h1
    have h3 := runTo_le (p := wordB) h
    exact ⟨by simp only; omega, h3, fun _ => h2⟩
  split
  · rename_i h1
    have h2 := digit_run h1
    have h3 := numEnd_le h
    exact ⟨by simp only; omega, h3.1, fun _ => by simp only; omega⟩
  split
  · exact ⟨Nat.le_refl _, h, fun hh => by cases hh⟩
  have := signLen_le h
  exact ⟨by simp only; omega, this, fun _ => by simp only; omega⟩
def tokTx (s : List UInt8) (i : Nat) : List UInt8 := (s.drop i).take ((tokAt s i).2.1 - i)
theorem tokTx_len (s : List UInt8) (i : Nat) (h : s.length ≤ 10000000) : (tokTx s i).length ≤ 10000000 := by
  unfold tokTx; simp only [List.length_take, List.length_drop]; omega
section
variable {σ : Type} (nx : σ → Nat → List UInt8 → Nat → Bool → σ × Bool)
def lexF (s : List UInt8) : Nat → Nat → σ → σ
  | 0, _, x => x
  | f + 1, i, x =>
    if i < s.length then
      if (nx x (tokAt s i).1 (tokTx s i) i (tokAt s i).2.2).2 then lexF s f (skipTo s (tokAt s i).2.1) (nx x (tokAt s i).1 (tokTx s i) i (tokAt s i).2.2).1
      else (nx x (tokAt s i).1 (tokTx s i) i (tokAt s i).2.2).1
    else x
def lexS (s : List UInt8) (i : Nat) (x : σ) : σ := lexF nx s (s.length + 1 - i) i x
variable (hn : ∀ x k t a, (nx x k t a false).2 = false)
include hn
theorem fine_of {s : List UInt8} {i : Nat} {x : σ} (h : (nx x (tokAt s i).1 (tokTx s i) i (tokAt s i).2.2).2 = true) : (tokAt s i).2.2 = true := by
  cases hb : (tokAt s i).2.2 with
  | true => rfl
  | false => rw [hb, hn] at h; cases h
theorem lexF_more (s : List UInt8) : ∀ (f f' i : Nat) (x : σ), s.length + 1 - i ≤ f → s.length + 1 - i ≤ f' → i ≤ s.length → lexF nx s f i x = lexF nx s f' i x
  | 0, _, i, _, h, _, hi => by omega
  | _ + 1, 0, i, _, _, h, hi => by omega
  | f + 1, f' + 1, i, x, h, h', hi => by
    unfold lexF
    split
    · split
      · rename_i h1 h2
        have h3 := tok_le hi
        have h4 := h3.2.2 (fine_of nx hn h2)
        have h5 := skipTo_le h3.2.1
        exact lexF_more s f f' _ _ (by omega) (by omega) h5.1
      · rfl
    · rfl
omit hn in
theorem lexS_stop {s : List UInt8} {i : Nat} {x : σ} (h : ¬ i < s.length) : lexS nx s i x = x := by
  unfold lexS
  cases hf : s.length + 1 - i with
  | zero => rfl
  | succ f => rw [lexF, if_neg h]
omit hn in
theorem lexS_end {s : List UInt8} {i : Nat} {x : σ} (h : i < s.length) (h2 : (nx x (tokAt s i).1 (tokTx s i) i (tokAt s i).2.2).2 = false) : lexS nx s i x = (nx x (tokAt s i).1 (tokTx s i) i (tokAt s i).2.2).1 := by
  unfold lexS
  rw [show s.length + 1 - i = (s.length - i) + 1 from by omega, lexF, if_pos h, if_neg (by rw [h2]; simp)]
theorem lexS_go {s : List UInt8} {i : Nat} {x : σ} (h : i < s.length) (h2 : (nx x (tokAt s i).1 (tokTx s i) i (tokAt s i).2.2).2 = true) : lexS nx s i x = lexS nx s (skipTo s (tokAt s i).2.1) (nx x (tokAt s i).1 (tokTx s i) i (tokAt s i).2.2).1 := by
  have h3 := tok_le (Nat.le_of_lt h)
  have h4 := h3.2.2 (fine_of nx hn h2)
  have h5 := skipTo_le h3.2.1
  unfold lexS
  rw [show s.length + 1 - i = (s.length - i) + 1 from by omega, lexF, if_pos h, if_pos h2]
  exact lexF_more nx hn s _ _ _ _ (by omega) (by omega) h5.1
end
end Go.Tok
end
section
namespace Go.Tok
abbrev Tk := Nat × List UInt8 × Nat
abbrev Rd := List Tk × Nat × Nat
def readN (x : Rd) (k : Nat) (t : List UInt8) (a : Nat) (b : Bool) : Rd × Bool :=
  if b = false then ((x.1, 110, a), false) else if x.1.length = 6000 then ((x.1, 6, a), false) else ((x.1 ++ [(k, t, a)], x.2), true)
theorem readN_no (x : Rd) (k : Nat) (t : List UInt8) (a : Nat) : (readN x k t a false).2 = false := rfl
def readS (s : List UInt8) : Rd := lexS readN s (skipTo s 0) ([], 0, 0)
def readP (s : List UInt8) : Rd := if 20000 < s.length then ([], 3, 0) else if (readS s).2.1 = 0 then ((readS s).1, 0, 0) else ([], (readS s).2)
theorem readP_long {s : List UInt8} (h : 20000 < s.length) : readP s = ([], 3, 0) := if_pos h
theorem readP_fine {s : List UInt8} (h : ¬ 20000 < s.length) (h2 : (readS s).2.1 = 0) : readP s = ((readS s).1, 0, 0) := by rw [readP, if_neg h, if_pos h2]
theorem readP_bad {s : List UInt8} (h : ¬ 20000 < s.length) (h2 : ¬ (readS s).2.1 = 0) : readP s = ([], (readS s).2) := by rw [readP, if_neg h, if_neg h2]
end Go.Tok
end
section
namespace Go.Tree
open Go.Tok
abbrev Str := List UInt8
inductive Ex where
  | mk (op : Nat) (at_ : Int) (nm : Str) (kids : List Ex)
namespace Ex
def op : Ex → Nat | .mk o _ _ _ => o
def at_ : Ex → Int | .mk _ a _ _ => a
def nm : Ex → Str | .mk _ _ n _ => n
def kids : Ex → List Ex | .mk _ _ _ k => k
end Ex
mutual
def exW : Ex → Nat
  | .mk _ _ nm ks => 1 + nm.length + ks.length + exsW ks
def exsW : List Ex → Nat
  | [] => 0
  | e :: l => exW e + exsW l
end
theorem exsW_mem {e : Ex} : ∀ {l : List Ex}, e ∈ l → exW e ≤ exsW l
  | x :: l, h => by
    rcases List.mem_cons.1 h with rfl | h
    · unfold exsW; omega
    · have := exsW_mem h; unfold exsW; omega
inductive Sm where
  | mk (op : Nat) (at_ : Int) (nm : Str) (kids : List Ex) (body els : List Sm)
namespace Sm
def op : Sm → Nat | .mk o _ _ _ _ _ => o
end Sm
mutual
def smW : Sm → Nat
  | .mk _ _ nm ks b e => 1 + nm.length + ks.length + b.length + e.length + exsW ks + smsW b + smsW e
def smsW : List Sm → Nat
  | [] => 0
  | s :: l => smW s + smsW l
end
theorem smsW_mem {s : Sm} : ∀ {l : List Sm}, s ∈ l → smW s ≤ smsW l
  | x :: l, h => by
    rcases List.mem_cons.1 h with rfl | h
    · unfold smsW; omega
    · have := smsW_mem h; unfold smsW; omega
structure Dc where
  ty : Nat
  at_ : Int
  nm : Str
  size : List Ex
  lower : List Ex
  upper : List Ex
  init : List Ex
def dcW (d : Dc) : Nat := 1 + d.nm.length + (d.size.length + exsW d.size) + (d.lower.length + exsW d.lower) + (d.upper.length + exsW d.upper) + (d.init.length + exsW d.init)
structure Bk where
  is : Bool
  decls : List Dc
  stmts : List Sm
def oneB (k : Nat) (s : Str) : Bool := decide ((readP s).2.1 = 0) && (match (readP s).1 with | [t] => decide (t.1 = k) && decide (t.2.1 = s) | _ => false)
def wordsL : List Str := [[100, 97, 116, 97], [116, 114, 97, 110, 115, 102, 111, 114, 109, 101, 100], [112, 97, 114, 97, 109, 101, 116, 101, 114, 115], [109, 111, 100, 101, 108], [103, 101, 110, 101, 114, 97, 116, 101, 100], [113, 117, 97, 110, 116, 105, 116, 105, 101, 115], [105, 110, 116], [114, 101, 97, 108], [118, 101, 99, 116, 111, 114], [97, 114, 114, 97, 121], [102, 111, 114], [105, 110], [105, 102], [101, 108, 115, 101], [116, 97, 114, 103, 101, 116], [108, 111, 119, 101, 114], [117, 112, 112, 101, 114]]
def wordsT : Str := [32] ++ wordsL.flatMap (fun x => x ++ [32])
def nameOk (s : Str) : Bool := oneB 1 s && !wordsL.contains s
def ruleOk (op : Nat) (nm : Str) (n : Nat) : Bool :=
  match op with
  | 1 => decide (n = 0) && oneB 2 nm
  | 2 => decide (n = 0) && nameOk nm
  | 3 => decide (n = 1) && nameOk nm
  | 4 => nameOk nm
  | 5 => decide (nm = []) && decide (n = 1)
  | 6 => decide (nm = []) && decide (n = 2)
  | 7 => decide (nm = []) && decide (n = 2)
  | 8 => decide (nm = []) && decide (n = 2)
  | 9 => decide (nm = []) && decide (n = 2)
  | _ => false
mutual
def exOk : Ex → Bool
  | .mk op _ nm ks => ruleOk op nm ks.length && exsOk ks
def exsOk : List Ex → Bool
  | [] => true
  | e :: l => exOk e && exsOk l
end
theorem exsOk_all : ∀ l : List Ex, exsOk l = l.all exOk
  | [] => by simp [exsOk]
  | e :: l => by rw [exsOk, exsOk_all l, List.all_cons]
def cmpOp (op : Nat) : Bool := decide (10 ≤ op) && decide (op ≤ 15)
def cmpOk (e : Ex) : Bool := cmpOp e.op && (decide (e.nm = []) && (decide (e.kids.length = 2) && exsOk e.kids))
def headOk (ks : List Ex) : Bool := match ks with | x :: _ => cmpOk x | [] => false
def sruleOk (op : Nat) (nm : Str) (ks : List Ex) : Bool :=
  match op with
  | 1 => nameOk nm && (decide (ks.length = 1) || decide (ks.length = 2))
  | 2 => decide (nm = []) && decide (ks.length = 1)
  | 3 => nameOk nm && decide (1 ≤ ks.length)
  | 4 => nameOk nm && decide (ks.length = 2)
  | 5 => decide (nm = []) && (decide (ks.length = 1) && headOk ks)
  | 6 => decide (nm = []) && decide (ks.length = 0)
  | _ => false
mutual
def smOk : Sm → Bool
  | .mk op _ nm ks b e => sruleOk op nm ks && (decide (op = 5) || exsOk ks) && !(decide (op < 4) && decide (0 < b.length)) && !(decide (op ≠ 5) && decide (0 < e.length)) && (smsOk b && smsOk e)
def smsOk : List Sm → Bool
  | [] => true
  | s :: l => smOk s && smsOk l
end
theorem smsOk_all : ∀ l : List Sm, smsOk l = l.all smOk
  | [] => by simp [smsOk]
  | e :: l => by rw [smsOk, smsOk_all l, List.all_cons]
def partOk (l : List Ex) : Bool := decide (l.length ≤ 1) && exsOk l
def dcOk (d : Dc) : Bool := decide (1 ≤ d.ty) && decide (d.ty ≤ 5) && nameOk d.nm && (decide (d.size.length = 1) == decide (3 ≤ d.ty)) && !(decide (3 < d.ty) && decide (0 < d.init.length)) && (partOk d.size && (partOk d.lower && (partOk d.upper && partOk d.init)))
def rank (op : Nat) : Nat := if op = 6 ∨ op = 7 then 1 else if op = 8 ∨ op = 9 then 2 else if op = 5 then 3 else 4
def signs (op : Nat) : Str :=
  match op with
  | 6 => [43] | 7 => [45] | 8 => [42] | 9 => [47] | 10 => [61, 61] | 11 => [33, 61] | 12 => [60] | 13 => [60, 61] | 14 => [62] | 15 => [62, 61]
  | _ => []
def rowT : List (List Str) → List Str
  | [] => []
  | t :: l => t ++ l.flatMap (fun x => [44] :: x)
def kidT (op : Nat) (t : List Str) (least : Nat) : List Str := if rank op < least then [[40]] ++ t ++ [[41]] else t
def low (op : Nat) : Nat := if cmpOp op then 0 else rank op
def exTok (op : Nat) (nm : Str) (ops : List Nat) (ts : List (List Str)) : List Str :=
  if op = 1 ∨ op = 2 then [nm]
  else if op = 3 then [nm, [91]] ++ rowT ts ++ [[93]]
  else if op = 4 then [nm, [40]] ++ rowT ts ++ [[41]]
  else if op = 5 then [[45]] ++ kidT (ops.getD 0 0) (ts.getD 0 []) 3
  else kidT (ops.getD 0 0) (ts.getD 0 []) (low op) ++ [signs op] ++ kidT (ops.getD 1 0) (ts.getD 1 []) (min (low op + 1) (low op * 9))
mutual
def exT : Ex → List Str
  | .mk op _ nm ks => exTok op nm (ks.map Ex.op) (exsT ks)
def exsT : List Ex → List (List Str)
  | [] => []
  | e :: l => exT e :: exsT l
end
def bodyT (b : List (List Str)) : List Str := [[123]] ++ b.flatten ++ [[125]]
def smTok (op : Nat) (nm : Str) (ks : List (List Str)) (b e : List (List Str)) : List Str :=
  if op = 1 then [nm] ++ (if 1 < ks.length then [[91]] ++ ks.getD 0 [] ++ [[93]] else []) ++ [[61]] ++ ks.getD (ks.length - 1) [] ++ [[59]]
  else if op = 2 then [[116, 97, 114, 103, 101, 116], [43, 61]] ++ ks.getD 0 [] ++ [[59]]
  else if op = 3 then ks.getD 0 [] ++ [[126], nm, [40]] ++ rowT (ks.drop 1) ++ [[41], [59]]
  else if op = 4 then [[102, 111, 114], [40], nm, [105, 110]] ++ ks.getD 0 [] ++ [[58]] ++ ks.getD 1 [] ++ [[41]] ++ bodyT b
  else if op = 5 then [[105, 102], [40]] ++ ks.getD 0 [] ++ [[41]] ++ bodyT b ++ (if 0 < e.length then [[101, 108, 115, 101]] ++ bodyT e else [])
  else bodyT b
mutual
def smT : Sm → List Str
  | .mk op _ nm ks b e => smTok op nm (exsT ks) (smsT b) (smsT e)
def smsT : List Sm → List (List Str)
  | [] => []
  | s :: l => smT s :: smsT l
end
end Go.Tree
namespace Go.Tree
def dcsW : List Dc → Nat
  | [] => 0
  | d :: l => dcW d + dcsW l
theorem dcsW_mem {d : Dc} : ∀ {l : List Dc}, d ∈ l → dcW d ≤ dcsW l
  | x :: l, h => by
    rcases List.mem_cons.1 h with rfl | h
    · unfold dcsW; omega
    · have := dcsW_mem h; unfold dcsW; omega
def bkW (b : Bk) : Nat := 1 + b.decls.length + dcsW b.decls + b.stmts.length + smsW b.stmts
def gv (i : Nat) : Bool := decide (i = 0) || decide (i = 2)
def headB (i : Nat) (b : Bk) : Bool := !(!b.is && decide (0 < b.decls.length + b.stmts.length)) && !(gv i && decide (0 < b.stmts.length)) && !(decide (i = 4) && decide (0 < b.decls.length)) && smsOk b.stmts
def dgood (i : Nat) (d : Dc) : Bool := dcOk d && !(gv i && decide (0 < d.init.length))
def bkOk (i : Nat) (b : Bk) : Bool := headB i b && b.decls.all (dgood i)
def pgOk (p : List Bk) : Bool := (List.range 6).all fun i => match p[i]? with | some b => bkOk i b | none => false
theorem pgOk_no {p : List Bk} {i : Nat} {b : Bk} (hi : i < 6) (hb : p[i]? = some b) (h : bkOk i b = false) : pgOk p = false := by
  unfold pgOk
  rw [List.all_eq_false]
  exact ⟨i, List.mem_range.2 hi, by rw [hb]; simp [h]⟩
theorem pgOk_yes {p : List Bk} (hl : p.length = 6) (h : ∀ j b, j < 6 → p[j]? = some b → bkOk j b = true) : pgOk p = true := by
  unfold pgOk
  rw [List.all_eq_true]
  intro i hi
  have hi := List.mem_range.1 hi
  have : p[i]? = some p[i] := List.getElem?_eq_getElem (by omega)
  rw [this]
  exact h i _ hi this
theorem bk_next {p : List Bk} {i : Nat} {b : Bk} (h : ∀ j b, j < i → p[j]? = some b → bkOk j b = true) (hb : p[i]? = some b) (hk : bkOk i b = true) : ∀ j b, j < i + 1 → p[j]? = some b → bkOk j b = true := by
  intro j x hj hx
  rcases Nat.lt_or_ge j i with h1 | h1
  · exact h j x h1 hx
  obtain rfl : j = i := by omega
  rw [hb] at hx
  obtain rfl := Option.some.inj hx
  exact hk
theorem all_of_take {α : Type} {q : α → Bool} {l : List α} {k : Nat} (h : ∀ y ∈ l.take k, (!q y) = false) (hk : l.length ≤ k) : l.all q = true := by
  rw [List.take_of_length_le hk] at h
  rw [List.all_eq_true]
  intro x hx
  simpa using h x hx
theorem all_no {α : Type} {q : α → Bool} {l : List α} {k : Nat} {x : α} (hx : l[k]? = some x) (h : q x = false) : l.all q = false := by
  rw [List.all_eq_false]
  exact ⟨x, List.mem_of_getElem? hx, by simp [h]⟩
def ldT (pre : List Str) (l : List Ex) : List Str := l.flatMap (fun e => pre ++ exT e)
def lowW : List Str := [[108, 111, 119, 101, 114], [61]]
def upW : List Str := [[117, 112, 112, 101, 114], [61]]
def sizeT (d : Dc) : List Str := [[91]] ++ rowT (exsT d.size) ++ [[93]]
def boundsT (d : Dc) : List Str := if d.lower.length + d.upper.length = 0 then [] else [[60]] ++ ldT lowW d.lower ++ (if d.lower.length + d.upper.length = 2 then [[44]] else []) ++ ldT upW d.upper ++ [[62]]
def tyT : Nat → Str
  | 1 => [105, 110, 116] | 2 => [114, 101, 97, 108] | 3 => [118, 101, 99, 116, 111, 114] | 4 => [105, 110, 116] | 5 => [114, 101, 97, 108]
  | _ => []
def dcT (d : Dc) : List Str := (if 4 ≤ d.ty then [[97, 114, 114, 97, 121]] ++ sizeT d else []) ++ [tyT d.ty] ++ boundsT d ++ (if d.ty = 3 then sizeT d else []) ++ [d.nm] ++ ldT [[61]] d.init ++ [[59]]
theorem dc_facts {d : Dc} (h : dcOk d = true) : 1 ≤ d.ty ∧ d.ty ≤ 5 ∧ exsOk d.size = true ∧ exsOk d.lower = true ∧ exsOk d.upper = true ∧ exsOk d.init = true := by
  simp only [dcOk, partOk, Bool.and_eq_true, decide_eq_true_eq] at h
  obtain ⟨⟨⟨⟨⟨h1, h2⟩, _⟩, _⟩, _⟩, h3, h4, h5, h6⟩ := h
  exact ⟨h1, h2, h3.2, h4.2, h5.2, h6.2⟩
def dheadT (d : Dc) : List Str := (if 4 ≤ d.ty then [[97, 114, 114, 97, 121]] ++ sizeT d else []) ++ [tyT d.ty] ++ boundsT d ++ (if d.ty = 3 then sizeT d else []) ++ [d.nm]
end Go.Tree
end
section
namespace Go.Sx
open Go.RowKit Go.Tree
def At (W : World) (N : Nat → Prop) (a : Option Addr) (i : Nat) (cs : List Value) : Prop :=
  ∃ b o, a = some ⟨b, o, none⟩ ∧ N b ∧ ∀ j v, cs[j]? = some v → W.cell? ⟨b, o + i + j, none⟩ = some v
mutual
def exM (W : World) (N : Nat → Prop) : Ex → List Value → Prop
  | .mk op at_ nm ks, cs => ∃ a c, cs = [.int .u8 (op : Nat), .int .i64 at_, str nm, .slice a ks.length c] ∧ ks.length ≤ c ∧ exsM W N ks a 0
def exsM (W : World) (N : Nat → Prop) : List Ex → Option Addr → Nat → Prop
  | [], _, _ => True
  | e :: l, a, i => (∃ cs, At W N a i cs ∧ exM W N e cs) ∧ exsM W N l a (i + 4)
end
mutual
def smM (W : World) (N : Nat → Prop) : Sm → List Value → Prop
  | .mk op at_ nm ks b e, cs => ∃ a c ab cb ae ce, cs = [.int .u8 (op : Nat), .int .i64 at_, str nm, .slice a ks.length c, .slice ab b.length cb, .slice ae e.length ce] ∧ ks.length ≤ c ∧ exsM W N ks a 0 ∧ smsM W N b ab 0 ∧ smsM W N e ae 0
def smsM (W : World) (N : Nat → Prop) : List Sm → Option Addr → Nat → Prop
  | [], _, _ => True
  | e :: l, a, i => (∃ cs, At W N a i cs ∧ smM W N e cs) ∧ smsM W N l a (i + 6)
end
theorem At.fr {W W' : World} {S N : Nat → Prop} {a : Option Addr} {i : Nat} {cs : List Value} (h : At W N a i cs) (hf : Fr S W W') (hn : ∀ b, N b → ¬ S b) : At W' N a i cs := by
  obtain ⟨b, o, ha, hb, hc⟩ := h
  exact ⟨b, o, ha, hb, fun j v hj => hf.cell (hc j v hj) (hn b hb)⟩
mutual
theorem exM.fr {W W' : World} {S N : Nat → Prop} (hf : Fr S W W') (hn : ∀ b, N b → ¬ S b) : ∀ (e : Ex) (cs : List Value), exM W N e cs → exM W' N e cs
  | .mk op at_ nm ks, cs, h => by
    unfold exM at h ⊢
    obtain ⟨a, c, h1, h2, h3⟩ := h
    exact ⟨a, c, h1, h2, exsM.fr hf hn ks a 0 h3⟩
theorem exsM.fr {W W' : World} {S N : Nat → Prop} (hf : Fr S W W') (hn : ∀ b, N b → ¬ S b) : ∀ (l : List Ex) (a : Option Addr) (i : Nat), exsM W N l a i → exsM W' N l a i
  | [], _, _, _ => by unfold exsM; trivial
  | e :: l, a, i, h => by
    unfold exsM at h ⊢
    obtain ⟨⟨cs, h1, h2⟩, h3⟩ := h
    exact ⟨⟨cs, h1.fr hf hn, exM.fr hf hn e cs h2⟩, exsM.fr hf hn l a (i + 4) h3⟩
end
mutual
theorem smM.fr {W W' : World} {S N : Nat → Prop} (hf : Fr S W W') (hn : ∀ b, N b → ¬ S b) : ∀ (e : Sm) (cs : List Value), smM W N e cs → smM W' N e cs
  | .mk op at_ nm ks b e, cs, h => by
    unfold smM at h ⊢
    obtain ⟨a, c, ab, cb, ae, ce, h1, h2, h3, h4, h5⟩ := h
    exact ⟨a, c, ab, cb, ae, ce, h1, h2, exsM.fr hf hn ks a 0 h3, smsM.fr hf hn b ab 0 h4, smsM.fr hf hn e ae 0 h5⟩
theorem smsM.fr {W W' : World} {S N : Nat → Prop} (hf : Fr S W W') (hn : ∀ b, N b → ¬ S b) : ∀ (l : List Sm) (a : Option Addr) (i : Nat), smsM W N l a i → smsM W' N l a i
  | [], _, _, _ => by unfold smsM; trivial
  | e :: l, a, i, h => by
    unfold smsM at h ⊢
    obtain ⟨⟨cs, h1, h2⟩, h3⟩ := h
    exact ⟨⟨cs, h1.fr hf hn, smM.fr hf hn e cs h2⟩, smsM.fr hf hn l a (i + 6) h3⟩
end
abbrev Apart (x : World × (Nat → Prop)) (N : Nat → Prop) : Prop := ∀ b, N b → ¬ x.2 b
theorem exM.now {x : World × (Nat → Prop)} {N : Nat → Prop} {e : Ex} {cs : List Value} {B : Base} {L : Heap} {w : World} (h : exM x.1 N e cs) (hn : Apart x N) (hx : x ∈ B) (hw : St B L w) : exM w N e cs := exM.fr (hw.fr x hx) hn e cs h
theorem exsM.now {x : World × (Nat → Prop)} {N : Nat → Prop} {l : List Ex} {a : Option Addr} {i : Nat} {B : Base} {L : Heap} {w : World} (h : exsM x.1 N l a i) (hn : Apart x N) (hx : x ∈ B) (hw : St B L w) : exsM w N l a i := exsM.fr (hw.fr x hx) hn l a i h
theorem smM.now {x : World × (Nat → Prop)} {N : Nat → Prop} {e : Sm} {cs : List Value} {B : Base} {L : Heap} {w : World} (h : smM x.1 N e cs) (hn : Apart x N) (hx : x ∈ B) (hw : St B L w) : smM w N e cs := smM.fr (hw.fr x hx) hn e cs h
theorem smsM.now {x : World × (Nat → Prop)} {N : Nat → Prop} {l : List Sm} {a : Option Addr} {i : Nat} {B : Base} {L : Heap} {w : World} (h : smsM x.1 N l a i) (hn : Apart x N) (hx : x ∈ B) (hw : St B L w) : smsM w N l a i := smsM.fr (hw.fr x hx) hn l a i h
theorem exsM.get {W : World} {N : Nat → Prop} : ∀ {l : List Ex} {a : Option Addr} {i k : Nat} {e : Ex}, exsM W N l a i → l[k]? = some e → ∃ cs, At W N a (i + k * 4) cs ∧ exM W N e cs
  | [], _, _, _, _, _, h => by simp at h
  | x :: l, a, i, 0, e, h, hk => by
    obtain rfl : x = e := by simpa using hk
    unfold exsM at h
    obtain ⟨⟨cs, h1, h2⟩, _⟩ := h
    exact ⟨cs, by simpa using h1, h2⟩
  | x :: l, a, i, k + 1, e, h, hk => by
    unfold exsM at h
    obtain ⟨cs, h1, h2⟩ := exsM.get (k := k) h.2 (by simpa using hk)
    exact ⟨cs, by rw [show i + (k + 1) * 4 = i + 4 + k * 4 by omega]; exact h1, h2⟩
theorem exsM.get0 {W : World} {N : Nat → Prop} {l : List Ex} {a : Option Addr} {k : Nat} {e : Ex} (h : exsM W N l a 0) (hk : l[k]? = some e) : ∃ cs, At W N a (k * 4) cs ∧ exM W N e cs := by
  have := exsM.get h hk
  rwa [Nat.zero_add] at this
theorem smsM.get {W : World} {N : Nat → Prop} : ∀ {l : List Sm} {a : Option Addr} {i k : Nat} {e : Sm}, smsM W N l a i → l[k]? = some e → ∃ cs, At W N a (i + k * 6) cs ∧ smM W N e cs
  | [], _, _, _, _, _, h => by simp at h
  | x :: l, a, i, 0, e, h, hk => by
    obtain rfl : x = e := by simpa using hk
    unfold smsM at h
    obtain ⟨⟨cs, h1, h2⟩, _⟩ := h
    exact ⟨cs, by simpa using h1, h2⟩
  | x :: l, a, i, k + 1, e, h, hk => by
    unfold smsM at h
    obtain ⟨cs, h1, h2⟩ := smsM.get (k := k) h.2 (by simpa using hk)
    exact ⟨cs, by rw [show i + (k + 1) * 6 = i + 6 + k * 6 by omega]; exact h1, h2⟩
theorem smsM.get0 {W : World} {N : Nat → Prop} {l : List Sm} {a : Option Addr} {k : Nat} {e : Sm} (h : smsM W N l a 0) (hk : l[k]? = some e) : ∃ cs, At W N a (k * 6) cs ∧ smM W N e cs := by
  have := smsM.get h hk
  rwa [Nat.zero_add] at this
theorem At.cell {x : World × (Nat → Prop)} {N : Nat → Prop} {b o i : Nat} {cs : List Value} {B : Base} {L : Heap} {w : World} (h : At x.1 N (some ⟨b, o, none⟩) i cs) (hn : Apart x N) (hx : x ∈ B) (hw : St B L w) (j : Nat) (v : Value) (hj : cs[j]? = some v) : w.cell? ⟨b, o + i + j, none⟩ = some v := by
  obtain ⟨b', o', ha, hb, hc⟩ := h.fr (hw.fr x hx) hn
  cases ha
  exact hc j v hj
theorem At.ptr {W : World} {N : Nat → Prop} {a : Option Addr} {i : Nat} {cs : List Value} (h : At W N a i cs) : ∃ b o, a = some ⟨b, o, none⟩ := by obtain ⟨b, o, ha, _⟩ := h; exact ⟨b, o, ha⟩
section
variable {P : Program} {ops : Array Oper} {Q : Exit → Act → World → Prop} {c : Cf} {e : Env} {B : Base} {L : Heap} {rest : List Oper} {o : Oper} {v : Value} {d : Nat} {q : Md} {w : World} {ρ : Operand → Value} {x y z : Operand} {ty T : TypeId} {pos p : String} {aft a : Array Edge} {D : Option Tmp} {g : Option (Nat × Bool)}
theorem w_insI (i : Nat) {b : Nat} {k : IntKind} {n : Int} {l : List (Int × Value)} {t te : TypeId} {tk : TypeId} (hi : L[i]? = some (b, mpI k l)) (ht : P.underlying t = some (.map tk te)) (hk : P.underlying tk = some (.int k)) (hx : ev c.n e x = .map (some b)) (hy : ev c.n e y = .int k n) (hz : ev c.n e z = v) (hn : (l.lookup n).isNone = true)
    (h : WX .sq P ops c Q rest e B (L.set i (b, mpI k (l ++ [(n, v)])))) : WX .sq P ops c Q (⟨none, .insert t x y z, T, p, a, none⟩ :: rest) e B L := by
  unfold WX at *
  intro w hw
  have hb := hw.at_ i hi
  unfold mpI at hb
  obtain ⟨r, h1, h2⟩ := find_ints k k n l 0 0
  have hr : r = none := by
    rw [Option.isNone_iff_eq_none.1 hn] at h2
    cases r with
    | none => rfl
    | some r => simp at h2
  subst hr
  have hck : ∀ (em : Bool) (w : World), (Instr.checkKey em 10000 tk (.int k n)).run P w = .ok () w := fun em w => MapKept.run_checkKey (d := .int k) hk (show MapKept.IsKey (.int k) (.int k n) from rfl) em 9999
  have hr : (Instr.mapUpdate t (.map (some b)) (.int k n) v).run P w = .ok () (w.putObj b (mpI k (l ++ [(n, v)]))) := by
    simp [Instr.mapUpdate, run_underlying ht, MapKept.run_getObj_map hb, hck, MapKept.run_findKey hk h1, MapKept.run_setObj_map _ hb, Result.andThen, World.putObj, mpI, entsF_snoc]
  refine s_unit (w' := w.putObj b (mpI k (l ++ [(n, v)]))) ?_ rfl rfl (h _ (hw.putO i hi))
  simp only [RunU, execOp, hx, hy, hz, Sem.run_bind, hr, Result.andThen]
  rfl
theorem w_lookI (i : Nat) {b : Nat} {k : IntKind} {n : Int} {l : List (Int × Value)} {t te : TypeId} {tk : TypeId} {zv : Value} (hi : L[i]? = some (b, mpI k l)) (ht : P.underlying t = some (.map tk te)) (hk : P.underlying tk = some (.int k)) (hz : zeroB P te zv) (hx : ev c.n e x = .map (some b)) (hy : ev c.n e y = .int k n) (hv : (l.lookup n).getD zv = v)
    (h : WX q P ops c Q rest (upd e d v) B L) : WX q P ops c Q (⟨some d, .lookup t x y false, T, p, a, none⟩ :: rest) e B L := by
  refine w_run (fun w hw => ?_) rfl rfl h
  have hb := hw.at_ i hi
  unfold mpI at hb
  obtain ⟨r, h1, h2⟩ := find_ints k k n l 0 0
  have hzr : (zeroValue te).run P w = .ok zv w := by
    unfold zeroB at hz
    cases hti : P.info? te with
    | none => rw [hti] at hz; cases hz
    | some j => rw [hti] at hz; simp [zeroValue, typeInfo, hti, show j.zero = some zv by simpa using hz, go_sem]
  have hck : ∀ (em : Bool) (w : World), (Instr.checkKey em 10000 tk (.int k n)).run P w = .ok () w := fun em w => MapKept.run_checkKey (d := .int k) hk (show MapKept.IsKey (.int k) (.int k n) from rfl) em 9999
  simp only [Run, execOp, hx, hy]
  subst hv
  rw [← h2]
  cases r with
  | none => simp [Instr.lookup, run_underlying ht, MapKept.run_getObj_map hb, hck, MapKept.run_findKey hk h1, hzr, Result.andThen, go_sem]
  | some r => simp [Instr.lookup, run_underlying ht, MapKept.run_getObj_map hb, hck, MapKept.run_findKey hk h1, Result.andThen, go_sem]
def fdB (P : Program) (t f ft off : Nat) : Bool :=
  match P.underlying t with
  | some (.struct fs) => (match fs[f]? with | some x => x.type == ft && x.offset == off | none => false)
  | _ => false
theorem R_fieldA {t f ft off : Nat} {xs : List Value} (hf : fdB P t f ft off = true) (hz : szB P ft 1 false = true) (hx : ρ x = .agg xs.toArray) (hv : xs[off]? = some v) : Run P ⟨D, .field t x f, ty, pos, aft, g⟩ ρ w v w := by
  unfold fdB at hf
  split at hf
  · rename_i fs h1
    split at hf
    · rename_i fl h2
      simp only [Bool.and_eq_true, beq_iff_eq] at hf
      simp only [Run, execOp, hx, Instr.field, Sem.run_bind, run_underlying h1, Result.andThen, h2, hf.1, hf.2]
      have h3 := run_part1 (w := w) hz hv
      have h4 : (asAgg (.agg xs.toArray)).run P w = .ok xs.toArray w := rfl
      simp only [Sem.run_bind, h4, Result.andThen, h3]
      rfl
    cases hf
  cases hf
theorem eq_fn {t : TypeId} {a b : Array TypeId} {vr : Bool} {fn : Fn} {fi ca : Array Value} (h : P.underlying t = some (.func a b vr)) : (Op.equal t (.func fn fi ca) .nilFunc).run P w = .ok false w := by
  unfold Op.equal Op.maxDepth
  rw [show 10000 = 9999 + 1 from rfl]
  unfold Op.equalIn
  simp only [Sem.run_bind, run_underlying h, Result.andThen]
  rfl
theorem eq_nn {t : TypeId} {a b : Array TypeId} {vr : Bool} (h : P.underlying t = some (.func a b vr)) : (Op.equal t .nilFunc .nilFunc).run P w = .ok true w := by
  unfold Op.equal Op.maxDepth
  rw [show 10000 = 9999 + 1 from rfl]
  unfold Op.equalIn
  simp only [Sem.run_bind, run_underlying h, Result.andThen]
  rfl
theorem eq_bb {t : TypeId} {a b : Bool} (h : P.underlying t = some .bool) : (Op.equal t (.bool a) (.bool b)).run P w = .ok (a == b) w := by
  unfold Op.equal Op.maxDepth
  rw [show 10000 = 9999 + 1 from rfl]
  unfold Op.equalIn
  simp only [Sem.run_bind, run_underlying h, Result.andThen]
  rfl
theorem R_bne {t yt : TypeId} {a b : Bool} (h : P.underlying t = some .bool) (hx : ρ x = .bool a) (hy : ρ y = .bool b) : Run P ⟨D, .binOp .neq t x y yt, ty, pos, aft, g⟩ ρ w (.bool (!(a == b))) w := by
  simp only [Run, execOp, hx, hy, eqGuard, binOp, Sem.run_bind, eq_bb h, Result.andThen]
  rfl
theorem R_fne {fn : Fn} {fi ca : Array Value} {t yt : TypeId} {fa fb : Array TypeId} {vr : Bool} (h : P.underlying t = some (.func fa fb vr)) (hx : ρ x = .func fn fi ca) (hy : ρ y = .nilFunc) : Run P ⟨D, .binOp .neq t x y yt, ty, pos, aft, g⟩ ρ w (.bool true) w := by
  simp only [Run, execOp, hx, hy, eqGuard, binOp, Sem.run_bind, eq_fn h, Result.andThen]
  rfl
theorem R_nne {t yt : TypeId} {fa fb : Array TypeId} {vr : Bool} (h : P.underlying t = some (.func fa fb vr)) (hx : ρ x = .nilFunc) (hy : ρ y = .nilFunc) : Run P ⟨D, .binOp .neq t x y yt, ty, pos, aft, g⟩ ρ w (.bool false) w := by
  simp only [Run, execOp, hx, hy, eqGuard, binOp, Sem.run_bind, eq_nn h, Result.andThen]
  rfl
theorem R_feq {fn : Fn} {fi ca : Array Value} {t yt : TypeId} {fa fb : Array TypeId} {vr : Bool} (h : P.underlying t = some (.func fa fb vr)) (hx : ρ x = .func fn fi ca) (hy : ρ y = .nilFunc) : Run P ⟨D, .binOp .eql t x y yt, ty, pos, aft, g⟩ ρ w (.bool false) w := by
  simp only [Run, execOp, hx, hy, eqGuard, binOp, Sem.run_bind, eq_fn h, Result.andThen]
  rfl
theorem R_neq {t yt : TypeId} {fa fb : Array TypeId} {vr : Bool} (h : P.underlying t = some (.func fa fb vr)) (hx : ρ x = .nilFunc) (hy : ρ y = .nilFunc) : Run P ⟨D, .binOp .eql t x y yt, ty, pos, aft, g⟩ ρ w (.bool true) w := by
  simp only [Run, execOp, hx, hy, eqGuard, binOp, Sem.run_bind, eq_nn h, Result.andThen]
  rfl
end
end Go.Sx
end
section
namespace Go.Sx
open Go.RowKit
def WO (P : Program) (ops : Array Oper) (c : Cf) (Q : Exit → Act → World → Prop) (S : World → Prop) (fuel : Nat) (listed : Array Bool) (i : Nat) (e : Env) (B : Base) (L : Heap) : Prop :=
  ∀ w, St B L w → wpOp P ops (Qn Q) i (fun a' w' => S w' ∧ wpAnyH P .any ops (Qn Q) S fuel (listed.setIfInBounds i true) a' w') (act c e) w
section
variable {P : Program} {ops : Array Oper} {Q : Exit → Act → World → Prop} {c : Cf} {e : Env} {B B' : Base} {L L' : Heap} {o : Oper} {v : Value} {d id fuel : Nat} {S : World → Prop} {listed : Array Bool}
theorem h_two (i j : Nat) (hr : Region.ready .any ops listed = [i, j]) (hs : ∀ w, St B L w → S w) (h1 : WO P ops c Q S fuel listed i e B L) (h2 : WO P ops c Q S fuel listed j e B L) : WH P ops c Q S (fuel + 1) listed e B L := by
  refine ⟨hs, fun w hw => wpAnyH_all hr (by simp) (fun k hk => ?_)⟩
  rcases List.mem_cons.1 hk with rfl | hk
  · exact h1 w hw
  obtain rfl : k = j := by simpa using hk
  exact h2 w hw
theorem zH (i : Nat) (hr : Region.ready .any ops listed = [i]) (hs : ∀ w, St B L w → S w) (h1 : WO P ops c Q S fuel listed i e B L) : WH P ops c Q S (fuel + 1) listed e B L := by
  refine ⟨hs, fun w hw => wpAnyH_all hr (by simp) (fun k hk => ?_)⟩
  obtain rfl : k = i := by simpa using hk
  exact h1 w hw
theorem zH2 (i : Nat) (hs : ∀ w, St B L w → S w) (h1 : WO P ops c Q S fuel listed i e B L) (hr : Region.ready .any ops listed = [i] := by kernel_rfl) : WH P ops c Q S (fuel + 1) listed e B L := zH i hr hs h1
theorem o_val {i : Nat} (hi : ops[i]? = some o) (hg : plainB o = true) (hd : o.dst = some d)
    (h : ∀ w, St B L w → ∃ v w' B' L', Run P o (ev c.n e) w v w' ∧ St B' L' w' ∧ WH P ops c Q S fuel (listed.setIfInBounds i true) (upd e d v) B' L') : WO P ops c Q S fuel listed i e B L := by
  intro w hw
  obtain ⟨v, w', B', L', h1, h2, h3⟩ := h w hw
  unfold wpOp
  simp only [hi, Region.wanted, (plainB_spec hg).1, if_true]
  refine .inl ?_
  unfold Oper.wp
  unfold Run at h1
  rw [act_eval, h1, Oper.upon_value, hd, act_put]
  exact ⟨h3.s w' h2, h3.h w' h2⟩
theorem o_unit {i : Nat} (hi : ops[i]? = some o) (hg : plainB o = true) (hd : o.dst = none)
    (h : ∀ w, St B L w → ∃ w' B' L', RunU P o (ev c.n e) w w' ∧ St B' L' w' ∧ WH P ops c Q S fuel (listed.setIfInBounds i true) e B' L') : WO P ops c Q S fuel listed i e B L := by
  intro w hw
  obtain ⟨w', B', L', h1, h2, h3⟩ := h w hw
  unfold wpOp
  simp only [hi, Region.wanted, (plainB_spec hg).1, if_true]
  refine .inl ?_
  unfold Oper.wp
  unfold RunU at h1
  rw [act_eval, h1]
  simp only [Oper.upon, hd, act_put_none]
  exact ⟨h3.s w' h2, h3.h w' h2⟩
theorem o_alloc {i : Nat} {t T : TypeId} {zv : Value} {p : String} {a : Array Edge} (hi : ops[i]? = some ⟨some d, .alloc t, T, p, a, none⟩) (hz : zeroB P t zv)
    (h : ∀ b, (∀ x ∈ L, x.1 < b) → (∀ x ∈ B, x.1.heap.size ≤ b) → WH P ops c Q S fuel (listed.setIfInBounds i true) (upd e d (pX b)) B ((b, .cells zv.cells t (0, 0)) :: L)) : WO P ops c Q S fuel listed i e B L :=
  o_val hi rfl rfl fun w hw => ⟨_, _, B, _, R_alloc hz, hw.new, h w.heap.size (fun p hp => lt_of_blk (hw.own p hp)) (fun x hx => (hw.fr x hx).size)⟩
theorem zJ {i : Nat} {t T ty : TypeId} {x y : Operand} {p : String} {a : Array Edge} {b off k : Nat} {cs vs cs' : List Value} {ag : Bool} (j : Nat) (hi : ops[i]? = some ⟨none, .store t x y, ty, p, a, none⟩) (hj : L[j]? = some (b, cel cs T)) (hz : szB P t k ag = true) (hx : ev c.n e x = .pointer (some ⟨b, off, none⟩)) (hy : ev c.n e y = v)
    (hv : v.cells = vs.toArray) (hl : vs.length = k) (h1 : vs.all Value.oneCell' = true) (ho : Nat.ble (off + k) cs.length = true) (hc : cs.take off ++ vs ++ cs.drop (off + k) = cs')
    (h : WH P ops c Q S fuel (listed.setIfInBounds i true) e B (L.set j (b, cel cs' T))) : WO P ops c Q S fuel listed i e B L :=
  o_unit hi rfl rfl fun w hw => by
    subst hc
    exact ⟨_, B, _, R_st hz hx hy hv hl h1 (hw.at_ j hj) (Nat.le_of_ble_eq_true ho), hw.put j hj, h⟩
end
attribute [irreducible] WO
theorem nc_eq (a b : Nat) : ((a : Int) = (b : Int)) = (a = b) := propext ⟨fun h => by omega, fun h => by omega⟩
theorem nc_eql (a n : Nat) : ((a : Int) = (no_index (@OfNat.ofNat Int n instOfNat))) = (a = @OfNat.ofNat Nat n (instOfNatNat n)) := propext ⟨fun h => Int.ofNat.inj h, fun h => congrArg Int.ofNat h⟩
theorem nc_lt (a b : Nat) : ((a : Int) < (b : Int)) = (a < b) := propext ⟨fun h => by omega, fun h => by omega⟩
theorem nc_le (a b : Nat) : ((a : Int) ≤ (b : Int)) = (a ≤ b) := propext ⟨fun h => by omega, fun h => by omega⟩
theorem nc_ltl (a n : Nat) : ((a : Int) < (no_index (@OfNat.ofNat Int n instOfNat))) = (a < @OfNat.ofNat Nat n (instOfNatNat n)) := propext ⟨fun h => Int.ofNat_lt.1 h, fun h => Int.ofNat_lt.2 h⟩
theorem nc_lel (a n : Nat) : ((a : Int) ≤ (no_index (@OfNat.ofNat Int n instOfNat))) = (a ≤ @OfNat.ofNat Nat n (instOfNatNat n)) := propext ⟨fun h => Int.ofNat_le.1 h, fun h => Int.ofNat_le.2 h⟩
theorem nc_llt (a n : Nat) : ((no_index (@OfNat.ofNat Int n instOfNat)) < (a : Int)) = (@OfNat.ofNat Nat n (instOfNatNat n) < a) := propext ⟨fun h => Int.ofNat_lt.1 h, fun h => Int.ofNat_lt.2 h⟩
theorem nc_lle (a n : Nat) : ((no_index (@OfNat.ofNat Int n instOfNat)) ≤ (a : Int)) = (@OfNat.ofNat Nat n (instOfNatNat n) ≤ a) := propext ⟨fun h => Int.ofNat_le.1 h, fun h => Int.ofNat_le.2 h⟩
theorem nc_add (a b : Nat) : ((a : Int) + (b : Int)) = ((a + b : Nat) : Int) := by omega
theorem ncs : (∀ a b : Nat, ((a : Int) = (b : Int)) = (a = b)) ∧ (∀ a n : Nat, ((a : Int) = (no_index (@OfNat.ofNat Int n instOfNat))) = (a = (@OfNat.ofNat Nat n (instOfNatNat n)))) ∧ (∀ a b : Nat, ((a : Int) < (b : Int)) = (a < b)) ∧ (∀ a b : Nat, ((a : Int) ≤ (b : Int)) = (a ≤ b)) ∧ (∀ a n : Nat, ((a : Int) < (no_index (@OfNat.ofNat Int n instOfNat))) = (a < (@OfNat.ofNat Nat n (instOfNatNat n)))) ∧ (∀ a n : Nat, ((a : Int) ≤ (no_index (@OfNat.ofNat Int n instOfNat))) = (a ≤ (@OfNat.ofNat Nat n (instOfNatNat n)))) ∧ (∀ a n : Nat, ((no_index (@OfNat.ofNat Int n instOfNat)) < (a : Int)) = ((@OfNat.ofNat Nat n (instOfNatNat n)) < a)) ∧ (∀ a n : Nat, ((no_index (@OfNat.ofNat Int n instOfNat)) ≤ (a : Int)) = ((@OfNat.ofNat Nat n (instOfNatNat n)) ≤ a)) ∧ (∀ a b : Nat, ((a : Int) + (b : Int)) = ((a + b : Nat) : Int)) ∧ (∀ a b : Int, (a ≥ b) = (b ≤ a)) ∧ (∀ a b : Int, (a > b) = (b < a)) ∧ (∀ a b : Nat, (a ≥ b) = (b ≤ a)) ∧ (∀ a b : Nat, (a > b) = (b < a)) :=
  ⟨nc_eq, nc_eql, nc_lt, nc_le, nc_ltl, nc_lel, nc_llt, nc_lle, nc_add, fun _ _ => rfl, fun _ _ => rfl, fun _ _ => rfl, fun _ _ => rfl⟩
end Go.Sx
end
section
namespace Go.Sx
open Go.RowKit
def RetP (P : Program) (f : FuncId) (args : Array Value) (w : World) (R : Value → World → Prop) (E : List PanicEntry → World → Prop) : Prop :=
 Calls P f args w fun e w' => (∃ v, e = .returned v ∧ R v w') ∨ (∃ ch, e = .panicked ch ∧ E ch w')
theorem RetP.mono {P : Program} {f : FuncId} {args : Array Value} {w : World} {R R' : Value → World → Prop} {E E' : List PanicEntry → World → Prop} (h : RetP P f args w R E) (hr : ∀ v w', R v w' → R' v w') (he : ∀ ch w', E ch w' → E' ch w') : RetP P f args w R' E' :=
 Calls.mono h fun _ _ h => h.elim (fun ⟨v, h1, h2⟩ => .inl ⟨v, h1, hr _ _ h2⟩) (fun ⟨ch, h1, h2⟩ => .inr ⟨ch, h1, he _ _ h2⟩)
theorem Ret.toP {P : Program} {f : FuncId} {args : Array Value} {w : World} {R : Value → World → Prop} {E : List PanicEntry → World → Prop} (h : Ret P f args w R) : RetP P f args w R E :=
 Calls.mono h fun _ _ ⟨v, h1, h2⟩ => .inl ⟨v, h1, h2⟩
def PostP (P : Program) (fn : Func) (R : Value → World → Prop) (E : List PanicEntry → World → Prop) : Exit → Act → World → Prop :=
 bodyPost P fn fun e w' => (∃ v, e = .returned v ∧ R v w') ∨ (∃ ch, e = .panicked ch ∧ E ch w')
section
variable {P : Program} {ops : Array Oper} {Q : Exit → Act → World → Prop} {c : Cf} {e : Env} {w : World} {rest : List Oper} {o : Oper} {d : Nat} {B B' : Base} {L L' : Heap} {f : FuncId} {args : Array Value}
theorem s_callP {R : Value → World → Prop} {E : List PanicEntry → World → Prop} (hr : RunE P o (ev c.n e) w f args) (hg : plainB o = true) (hc : RetP P f args w R E)
  (h : ∀ v w', R v w' → wpListIn (fw c.ro) 0 P ops Q rest ((act c e).put o.dst v) w') (hE : ∀ ch w', E ch w' → Q (.panic ch) (act c e) w') : WL c P ops Q (o :: rest) e w :=
 s_op hr hg fun K hK => by
  rw [Oper.uponIn_enter]
  refine ⟨fun hh => absurd hh (by simp [fw, Fence.wide]), ?_⟩
  have hc' : CallsIn (fw c.ro) (0 - 1) P f args w _ := callsIn_wide.2 hc
  refine hc'.mono ?_
  rintro x w' (⟨v, rfl, hv⟩ | ⟨ch, rfl, hv⟩)
  ·exact hK _ _ (h v w' hv)
  ·exact hE _ _ hv
theorem w_callP {R : World → Value → World → Prop} {E : World → List PanicEntry → World → Prop} (hr : ∀ w, RunE P o (ev c.n e) w f args) (hg : plainB o = true) (hd : o.dst = some d) (hc : ∀ w, St B L w → RetP P f args w (R w) (E w))
  (h : ∀ w, St B L w → ∀ v w', R w v w' → ∃ B' L', St B' L' w' ∧ WX .sq P ops c Q rest (upd e d v) B' L')
  (hE : ∀ w, St B L w → ∀ ch w', E w ch w' → ∀ a : Act, a.defers = c.ds → Q (.panic ch) a w') : WX .sq P ops c Q (o :: rest) e B L := by
 unfold WX at *
 exact fun w hw => s_callP (hr w) hg (hc w hw) (fun v w' hv => by
  obtain ⟨B', L', h1, h2⟩ := h w hw v w' hv
  rw [hd, act_put]
  exact h2 w' h1) (fun ch w' h => hE w hw ch w' h _ rfl)
theorem w_halt {v : Value} (hr : ∀ w, (execOp (ev c.n e) o).run P w = .halt (.panic v) w) (hg : plainB o = true) (h : ∀ w, St B L w → Q (.panic [{ v, recovered := false }]) (act c e) w) : WX .sq P ops c Q (o :: rest) e B L := by
 unfold WX
 exact fun w hw => s_op (hr w) hg fun K _ => by rw [Oper.uponIn_panic]; exact h w hw
end
section
variable {P : Program} {fn : Func} {R : Value → World → Prop} {E : List PanicEntry → World → Prop} {c : Cf} {e : Env} {B : Base} {L : Heap} {x : Exit}
theorem enterP {f : FuncId} {x : Code} {l : List Value} {w : World} {S : Nat → Prop} {L : Heap} (n : Nat)
  (hf : P.funcs[f]? = some fn) (hb : fn.body = some x) (hn : fn.ntmps = n) (hl : Nat.ble l.length n = true) (hL : St [(w, S)] L w)
  (h : WC P (cf n) x (PostP P fn R E) (ofL l) [(w, S)] L) : RetP P f l.toArray w R E := by
 unfold WC at h
 exact calls n hf hb hn hl (h w hL)
theorem post_p {a : Act} {w : World} (hx : x = .ret ∨ x = .normal) (h : Post P fn R x a w) : PostP P fn R E x a w := by
 unfold Post at h
 unfold PostP
 rcases hx with rfl | rfl
 all_goals
  obtain ⟨h1, v, h2, v', h3, h4⟩ := h
  exact ⟨h1, v, h2, .inl ⟨v', h3, h4⟩⟩
theorem k_p (hx : x = .ret ∨ x = .normal) (h : WK c (Post P fn R) x e B L) : WK c (PostP P fn R E) x e B L := by
 unfold WK at *
 exact fun w hw => post_p hx (h w hw)
theorem p_out {ch : List PanicEntry} {w : World} {a : Act} (ha : a.defers = []) (h : E ch w) : PostP P fn R E (.panic ch) a w := by
 unfold PostP
 exact ⟨ha, .inr ⟨ch, rfl, h⟩⟩
end
attribute [irreducible] PostP
section
variable {P : Program} {ρ : Operand → Value} {w : World} {D : Option Tmp} {ty t : TypeId} {pos : String} {aft : Array Edge} {g : Option (Nat × Bool)} {x : Operand} {v : Value}
theorem R_mkI (h : P.concrete t = true) (hx : ρ x = v) : Run P ⟨D, .makeInterface t x, ty, pos, aft, g⟩ ρ w (.iface t v) w := by
 simp [Run, execOp, hx, run_makeInterface _ t v h, go_sem]
theorem R_subN1 {yt T : TypeId} {n : Nat} {y : Operand} (hx : ρ x = .int .i64 ((n + 1 : Nat) : Int)) (hy : ρ y = .int .i64 1) (hn : n ≤ 1000000000) : Run P ⟨D, .binOp .sub T x y yt, ty, pos, aft, g⟩ ρ w (.int .i64 (n : Nat)) w := by
 have := R_subi (P := P) (w := w) (D := D) (t := T) (yt := yt) (ty := ty) (pos := pos) (aft := aft) (g := g) hx hy (by omega)
 rwa [show ((n + 1 : Nat) : Int) - 1 = (n : Nat) by omega] at this
theorem R_panic (hx : ρ x = .iface t v) : (execOp ρ ⟨D, .panic x, ty, pos, aft, g⟩).run P w = .halt (.panic (.iface t v)) w := by
 simp [execOp, hx, run_panic_iface, go_sem]
end
section
variable {P : Program} {ops : Array Oper} {Q : Exit → Act → World → Prop} {c : Cf} {e : Env} {B : Base} {L : Heap} {d i fuel : Nat} {S : World → Prop} {listed : Array Bool}
theorem o_callP {o : Oper} {f : FuncId} {args : Array Value} {R : World → Value → World → Prop} {E : World → List PanicEntry → World → Prop} (hi : ops[i]? = some o) (hg : plainB o = true) (hd : o.dst = some d)
  (hr : ∀ w, RunE P o (ev c.n e) w f args) (hc : ∀ w, St B L w → RetP P f args w (R w) (E w))
  (h : ∀ w, St B L w → ∀ v w', R w v w' → ∃ B' L', St B' L' w' ∧ WH P ops c Q S fuel (listed.setIfInBounds i true) (upd e d v) B' L')
  (hE : ∀ w, St B L w → ∀ ch w', E w ch w' → ∀ a : Act, a.defers = c.ds → Q (.panic ch) a w') : WO P ops c Q S fuel listed i e B L := by
 unfold WO
 intro w hw
 unfold wpOp
 simp only [hi, Region.wanted, (plainB_spec hg).1, if_true]
 refine .inl ?_
 unfold Oper.wp
 have h1 := hr w
 unfold RunE at h1
 rw [act_eval, h1]
 simp only [Oper.upon]
 refine Calls.mono (hc w hw) ?_
 rintro x w' (⟨v, rfl, hv⟩ | ⟨ch, rfl, hv⟩)
 ·obtain ⟨B', L', h2, h3⟩ := h w hw v w' hv
  show S w' ∧ _
  rw [hd, act_put]
  exact ⟨h3.s w' h2, h3.h w' h2⟩
 ·exact fun a' ha' => hE w hw ch w' hv a' (ha'.trans rfl)
theorem o_run {o : Oper} {v : Value} (hi : ops[i]? = some o) (hg : plainB o = true) (hd : o.dst = some d) (hr : ∀ w, St B L w → Run P o (ev c.n e) w v w) (h : WH P ops c Q S fuel (listed.setIfInBounds i true) (upd e d v) B L) : WO P ops c Q S fuel listed i e B L :=
 o_val hi hg hd fun w hw => ⟨v, w, B, L, hr w hw, hw, h⟩
end
end Go.Sx
end
section
namespace Go.Sx
open Go.RowKit Go.Tree
def dcM (W : World) (N : Nat → Prop) (d : Dc) (cs : List Value) : Prop := ∃ sa sc la lc ua uc ia ic, cs = [.int .u8 (d.ty : Nat), .int .i64 d.at_, str d.nm, .slice sa d.size.length sc, .slice la d.lower.length lc, .slice ua d.upper.length uc, .slice ia d.init.length ic] ∧ exsM W N d.size sa 0 ∧ exsM W N d.lower la 0 ∧ exsM W N d.upper ua 0 ∧ exsM W N d.init ia 0
theorem dcM.fr {W W' : World} {S N : Nat → Prop} {d : Dc} {cs : List Value} (h : dcM W N d cs) (hf : Fr S W W') (hn : ∀ b, N b → ¬ S b) : dcM W' N d cs := by
 obtain ⟨sa, sc, la, lc, ua, uc, ia, ic, h1, h2, h3, h4, h5⟩ := h
 exact ⟨sa, sc, la, lc, ua, uc, ia, ic, h1, exsM.fr hf hn _ _ _ h2, exsM.fr hf hn _ _ _ h3, exsM.fr hf hn _ _ _ h4, exsM.fr hf hn _ _ _ h5⟩
theorem dcM.now {x : World × (Nat → Prop)} {N : Nat → Prop} {d : Dc} {cs : List Value} {B : Base} {L : Heap} {w : World} (h : dcM x.1 N d cs) (hn : Apart x N) (hx : x ∈ B) (hw : St B L w) : dcM w N d cs := h.fr (hw.fr x hx) hn
def dcsM (W : World) (N : Nat → Prop) (l : List Dc) (a : Option Addr) : Prop := ∀ k d, l[k]? = some d → ∃ cs, At W N a (k * 7) cs ∧ dcM W N d cs
theorem dcsM.fr {W W' : World} {S N : Nat → Prop} {l : List Dc} {a : Option Addr} (h : dcsM W N l a) (hf : Fr S W W') (hn : ∀ b, N b → ¬ S b) : dcsM W' N l a := fun k d hk => by
 obtain ⟨cs, h1, h2⟩ := h k d hk
 exact ⟨cs, h1.fr hf hn, h2.fr hf hn⟩
theorem dcsM.now {x : World × (Nat → Prop)} {N : Nat → Prop} {l : List Dc} {a : Option Addr} {B : Base} {L : Heap} {w : World} (h : dcsM x.1 N l a) (hn : Apart x N) (hx : x ∈ B) (hw : St B L w) : dcsM w N l a := h.fr (hw.fr x hx) hn
def bkM (W : World) (N : Nat → Prop) (b : Bk) (cs : List Value) : Prop := ∃ da dc sa sc, cs = [.bool b.is, .slice da b.decls.length dc, .slice sa b.stmts.length sc] ∧ dcsM W N b.decls da ∧ smsM W N b.stmts sa 0
theorem bkM.fr {W W' : World} {S N : Nat → Prop} {b : Bk} {cs : List Value} (h : bkM W N b cs) (hf : Fr S W W') (hn : ∀ b, N b → ¬ S b) : bkM W' N b cs := by
 obtain ⟨da, dc, sa, sc, h1, h2, h3⟩ := h
 exact ⟨da, dc, sa, sc, h1, h2.fr hf hn, smsM.fr hf hn _ _ _ h3⟩
structure pgM (W : World) (N : Nat → Prop) (p : List Bk) (cs : List Value) : Prop where
 six : p.length = 6
 len : cs.length = 18
 one : ∀ i b, p[i]? = some b → bkM W N b ((cs.drop (i * 3)).take 3)
theorem pgM.fr {W W' : World} {S N : Nat → Prop} {p : List Bk} {cs : List Value} (h : pgM W N p cs) (hf : Fr S W W') (hn : ∀ b, N b → ¬ S b) : pgM W' N p cs := ⟨h.six, h.len, fun i b hb => (h.one i b hb).fr hf hn⟩
theorem pgM.now {x : World × (Nat → Prop)} {N : Nat → Prop} {p : List Bk} {cs : List Value} {B : Base} {L : Heap} {w : World} (h : pgM x.1 N p cs) (hn : Apart x N) (hx : x ∈ B) (hw : St B L w) : pgM w N p cs := h.fr (hw.fr x hx) hn
section
variable {P : Program} {ops : Array Oper} {Q : Exit → Act → World → Prop} {c : Cf} {e : Env} {B : Base} {L : Heap} {rest : List Oper} {o : Oper} {v : Value} {d : Nat} {q : Md} {w : World} {ρ : Operand → Value} {x y z : Operand} {ty T : TypeId} {pos p : String} {aft a : Array Edge} {D : Option Tmp} {g : Option (Nat × Bool)}
theorem w_loadW {t : TypeId} {b k : Nat} {cs : List Value} {Tb : TypeId} (hz : szB P t k true = true) (hx : ev c.n e x = pX b) (hc : ∀ w, St B L w → w.heap[b]? = some (cel cs Tb)) (hn : cs.length = k) (h : WX q P ops c Q rest (upd e d (.agg cs.toArray)) B L) : WX q P ops c Q (⟨some d, .load t x, ty, p, a, none⟩ :: rest) e B L := by
 refine zY hz hx hc (by rw [Nat.zero_add, hn]; exact Nat.ble_eq_true_of_le (Nat.le_refl _)) ?_
 rw [List.drop_zero, ← hn, List.take_length]; exact h
theorem R_aidxA {t m i k : Nat} {kk : IntKind} {l vs : List Value} (hu : arB P t m k true = true) (hx : ρ x = .agg l.toArray) (hy : ρ y = .int kk (i : Nat)) (h1 : i < m) (hv : (l.drop (i * k)).take k = vs) : Run P ⟨D, .index t x y, ty, pos, aft, g⟩ ρ w (.agg vs.toArray) w := by
 unfold arB at hu
 split at hu
 ·rename_i m' e he
  simp only [Bool.and_eq_true] at hu
  obtain ⟨hm, hz⟩ := hu
  have hm := Nat.eq_of_beq_eq_true hm
  subst hm
  have hp : (part e l.toArray (i * k)).run P w = .ok (.agg vs.toArray) w := by
   unfold part
   rw [Sem.run_bind, run_isAgg hz, Result.andThen_ok]
   simp only [if_true, Sem.run_bind, run_sizeOf hz, Result.andThen_ok]
   rw [← hv]; simp [go_sem, List.extract_toArray, List.extract_eq_take_drop]
  unfold Run
  simp only [execOp, hx, hy, Instr.index, asIntOf, Sem.run_bind, pure_run, Result.andThen_ok, run_underlying he]
  rw [if_pos (by omega)]
  simp only [Sem.run_bind, run_sizeOf hz, Result.andThen_ok, Int.toNat_natCast, hp]
 ·cases hu
end
end Go.Sx
end
section
namespace Go.Sx
open Go.RowKit Go.Tree
abbrev OwnS (te : TypeId) (v : Value) (ts : List (List UInt8)) (W : Heap) : Prop := Own te 1 v (ts.map str) ts.length W
theorem OwnS.more {te : TypeId} {v : Value} {xs ts : List (List UInt8)} {W : Heap} (h : Own te 1 v (xs.map str ++ ts.map str) (xs.length + ts.length) W) : OwnS te v (xs ++ ts) W := by
  unfold OwnS; rw [List.map_append, List.length_append]; exact h
def PenAt (te T : TypeId) (p : Nat) (xs : List (List UInt8)) (B : Base) (Lr : Heap) (w : World) : Prop := ∃ v W, OwnS te v xs W ∧ St B ((p, cel [v] T) :: (W ++ Lr)) w
section
variable {P : Program} {ops : Array Oper} {Q : Exit → Act → World → Prop} {c : Cf} {e : Env} {B : Base} {rest : List Oper} {o : Oper} {d i fuel : Nat} {te T : TypeId} {p : Nat} {A Lr W : Heap} {v : Value} {xs : List (List UInt8)} {f : FuncId} {args : Array Value} {S : World → Prop} {listed : Array Bool}
theorem h_pure {L : Heap} {u : Value} (i : Nat) (hi : ops[i]? = some o) (hk : Region.ready .any ops listed = [i]) (hg : plainB o = true) (hd : o.dst = some d) (hs : ∀ w, St B L w → S w) (hr : ∀ w, RunE P o (ev c.n e) w f args)
    (hc : ∀ w, St B L w → Ret P f args w fun v w' => v = u ∧ Ext w w') (h : WH P ops c Q S fuel (listed.setIfInBounds i true) (upd e d u) B L) : WH P ops c Q S (fuel + 1) listed e B L :=
  h_call (R := fun w v w' => v = u ∧ Ext w w') i hi hk hg hd hs hr hc (fun w hw v w' ⟨hv, hx⟩ => ⟨B, L, hw.ext hx, by subst hv; exact h⟩)
end
theorem R_slLo {P : Program} {ρ : Operand → Value} {w : World} {D : Option Tmp} {ty t : TypeId} {pos : String} {aft : Array Edge} {g : Option (Nat × Bool)} {x lo : Operand} {k : IntKind} {a : Option Addr} {q l n m : Nat} (hu : slB P t q = true) (hx : ρ x = .slice a n m) (hlo : ρ lo = .int k (l : Nat)) (h1 : l ≤ n) (h2 : n ≤ m) :
    Run P ⟨D, .slice t x (some lo) none none, ty, pos, aft, g⟩ ρ w (.slice (if m = l then a else a.map (fun z => z.add (l * q))) (n - l) (m - l)) w := by
  obtain ⟨e, ti, h3, h4, h5⟩ := slB_spec hu
  have h6 : (l : Int) ≤ (n : Int) := by omega
  simp [Run, execOp, hx, hlo, go_sem, Instr.sliceAt, Instr.slice, run_underlying h3, Instr.sliceBounds, Instr.sliceBound, asIntOf, h1, sizeOf, typeInfo, h4, h5]
theorem R_slE {P : Program} {ρ : Operand → Value} {w : World} {D : Option Tmp} {ty t : TypeId} {pos : String} {aft : Array Edge} {g : Option (Nat × Bool)} {x lo : Operand} {k : IntKind} {a a' : Option Addr} {q l n n' m : Nat} (hu : slB P t q = true) (hx : ρ x = .slice a n m) (hlo : ρ lo = .int k (l : Nat)) (h1 : l ≤ n) (h2 : n ≤ m) (ha : (if m = l then a else a.map (fun z => z.add (l * q))) = a') (hn : n - l = n') :
    Run P ⟨D, .slice t x (some lo) none none, ty, pos, aft, g⟩ ρ w (.slice a' n' (m - l)) w := by subst ha; subst hn; exact R_slLo hu hx hlo h1 h2
theorem At.shift {W : World} {N : Nat → Prop} {b o i : Nat} {cs : List Value} (h : At W N (some ⟨b, o, none⟩) (i + 4) cs) : At W N (some ⟨b, o + 4, none⟩) i cs := by
  obtain ⟨b', o', ha, hb, hc⟩ := h
  cases ha
  exact ⟨b, o + 4, rfl, hb, fun j v hj => by have := hc j v hj; rwa [show o + (i + 4) + j = o + 4 + i + j by omega] at this⟩
theorem exsM.shift {W : World} {N : Nat → Prop} {b o : Nat} : ∀ {l : List Ex} {i : Nat}, exsM W N l (some ⟨b, o, none⟩) (i + 4) → exsM W N l (some ⟨b, o + 4, none⟩) i
  | [], _, _ => by unfold exsM; trivial
  | x :: l, i, h => by
    unfold exsM at h ⊢
    obtain ⟨⟨cs, h1, h2⟩, h3⟩ := h
    exact ⟨⟨cs, h1.shift, h2⟩, exsM.shift h3⟩
theorem exsM.rest {W : World} {N : Nat → Prop} {b o c : Nat} {l : List Ex} (h : exsM W N l (some ⟨b, o, none⟩) 0) (hl : 1 ≤ l.length) (hc : l.length ≤ c) : ∃ a, (if c = 1 then (some ⟨b, o, none⟩ : Option Addr) else (some ⟨b, o, none⟩ : Option Addr).map (fun z => z.add (1 * 4))) = a ∧ exsM W N (l.drop 1) a 0 := by
  match l, hl with
  | x :: l, _ =>
    unfold exsM at h
    refine ⟨_, rfl, ?_⟩
    simp only [List.drop_succ_cons, List.drop_zero]
    split
    · have : l = [] := by cases l with | nil => rfl | cons => simp at hc; omega
      subst this; unfold exsM; trivial
    · exact exsM.shift h.2
theorem exM_len {W : World} {N : Nat → Prop} {x : Ex} {cs : List Value} (h : exM W N x cs) : cs.length = 4 := by
  obtain ⟨op, at_, nm, ks⟩ := x
  unfold exM at h
  obtain ⟨a, c, rfl, _⟩ := h
  rfl
theorem PenAt.fin {te T : TypeId} {p : Nat} {xs ys : List (List UInt8)} {B : Base} {A Lr W : Heap} {v : Value} {w : World} (hO : OwnS te v xs W) (h : xs = ys) (hs : St B (A ++ ((p, cel [v] T) :: (W ++ Lr))) w) : PenAt te T p ys B Lr w := by
  subst h
  exact ⟨v, W, hO, hs.drop (List.sublist_append_right _ _)⟩
end Go.Sx
end
section
namespace Go.Tok
theorem digit_int (b : UInt8) : digitB b = (decide ((b.toNat : Int) ≥ 48) && decide ((b.toNat : Int) ≤ 57)) := byte_all (fun b => digitB b = (decide ((b.toNat : Int) ≥ 48) && decide ((b.toNat : Int) ≤ 57))) (by decide +kernel) b
theorem letter_int (b : UInt8) : letterB b = ((decide ((b.toNat : Int) ≥ 97) && decide ((b.toNat : Int) ≤ 122)) || (decide ((b.toNat : Int) ≥ 65) && decide ((b.toNat : Int) ≤ 90)) || decide ((b.toNat : Int) = 95)) := byte_all (fun b => letterB b = ((decide ((b.toNat : Int) ≥ 97) && decide ((b.toNat : Int) ≤ 122)) || (decide ((b.toNat : Int) ≥ 65) && decide ((b.toNat : Int) ≤ 90)) || decide ((b.toNat : Int) = 95))) (by decide +kernel) b
theorem blank_int (b : UInt8) : blankB b = (decide ((b.toNat : Int) = 32) || decide ((b.toNat : Int) = 9) || decide ((b.toNat : Int) = 10) || decide ((b.toNat : Int) = 13)) := byte_all (fun b => blankB b = (decide ((b.toNat : Int) = 32) || decide ((b.toNat : Int) = 9) || decide ((b.toNat : Int) = 10) || decide ((b.toNat : Int) = 13))) (by decide +kernel) b
theorem eq_int (x b : UInt8) : eqB x b = decide ((b.toNat : Int) = (x.toNat : Int)) := by
  have h : b = x ↔ (b.toNat : Int) = (x.toNat : Int) := by
    rw [← UInt8.toNat_inj]; omega
  unfold eqB
  by_cases hx : b = x
  · subst hx; simp
  have h2 := mt h.2 hx
  have h3 : (b == x) = false := by simpa using hx
  rw [h3, decide_eq_false h2]
theorem eq_int' (x : UInt8) (k : Int) (hk : k = (x.toNat : Int)) (b : UInt8) : eqB x b = decide ((b.toNat : Int) = k) := by rw [hk, eq_int]
theorem skip_blank {s : List UInt8} {i : Nat} (hi : i < s.length) (h : atP blankB s i = true) : skipTo s i = skipTo s (i + 1) := by
  rw [skipTo_eq (Nat.le_of_lt hi), skipTo_eq (by omega : i + 1 ≤ s.length), runTo_step h]
theorem skip_stop {s : List UInt8} {i : Nat} (hi : i ≤ s.length) (h : atP blankB s i = false) (h2 : cmt s i = false) : skipTo s i = i := by
  rw [skipTo_eq hi, runTo_stop h, if_neg (by rw [h2]; simp)]
theorem skip_cmt {s : List UInt8} {i : Nat} (hi : i ≤ s.length) (h : atP blankB s i = false) (h2 : cmt s i = true) : skipTo s i = skipTo s (runTo notNl s i) := by
  rw [skipTo_eq hi, runTo_stop h, if_pos h2]
theorem notNl_int (b : UInt8) : notNl b = decide ¬((b.toNat : Int) = 10) := byte_all (fun b => notNl b = decide ¬((b.toNat : Int) = 10)) (by decide +kernel) b
theorem at_or {p q r : UInt8 → Bool} (h : ∀ b, r b = (p b || q b)) (s : List UInt8) (i : Nat) : atP r s i = (atP p s i || atP q s i) := by
  unfold atP; split <;> simp [h]
theorem at_word (s : List UInt8) (i : Nat) : atP wordB s i = (atP letterB s i || atP digitB s i) := at_or (fun _ => rfl) s i
theorem at_tail (s : List UInt8) (i : Nat) : atP tailB s i = (atP letterB s i || atP digitB s i || atP (eqB 46) s i) := by
  rw [at_or (p := wordB) (q := eqB 46) (r := tailB) (fun _ => rfl), at_word]
theorem at_pm (s : List UInt8) (i : Nat) : atP pmB s i = (atP (eqB 43) s i || atP (eqB 45) s i) := at_or (fun _ => rfl) s i
theorem pre_two {s : List UInt8} {i : Nat} (t : List UInt8) (ht : t.length = 2) : t.isPrefixOf (s.drop i) = (decide (i + 2 ≤ s.length) && decide ((s.drop i).take 2 = t)) := by
  rw [Bool.eq_iff_iff]
  simp only [List.isPrefixOf_iff_prefix, Bool.and_eq_true, decide_eq_true_eq]
  constructor
  · intro h
    have h1 := h.length_le
    have h2 := List.prefix_iff_eq_take.1 h
    simp only [List.length_drop] at h1
    rw [ht] at h1 h2
    exact ⟨by omega, h2.symm⟩
  intro h
  rw [List.prefix_iff_eq_take, ht, h.2]
theorem pre_one {s : List UInt8} {i : Nat} (b : UInt8) (hi : i < s.length) : [b].isPrefixOf (s.drop i) = decide ((s[i].toNat : Int) = (b.toNat : Int)) := by
  rw [List.drop_eq_getElem_cons hi]
  have := eq_int b s[i]
  simp only [eqB] at this
  rw [← this]
  simp [List.isPrefixOf, Bool.beq_comm]
def oneT : List UInt8 := [123, 125, 91, 93, 40, 41, 60, 62, 61, 43, 45, 42, 47, 126, 44, 59, 58]
theorem sig_two (k : Nat) (h : k < 5) : (signsL.getD k []).length = 2 := by revert k; decide +kernel
theorem sig_one (k : Nat) (h : k < 17) : signsL.getD (5 + k) [] = [oneT.getD k 0] := by revert k; decide +kernel
end Go.Tok
end
section
namespace Go.Tok
def lineN (s : List UInt8) : Nat → Nat
  | 0 => 1
  | i + 1 => if atP (eqB 10) s i then lineN s i + 1 else lineN s i
def colN (s : List UInt8) : Nat → Nat
  | 0 => 1
  | i + 1 => if atP (eqB 10) s i then 1 else colN s i + 1
def plcK (n : Nat) (a : Int) : Nat := (if (n : Int) < (if a < 0 then 0 else a) then (n : Int) else (if a < 0 then 0 else a)).toNat
theorem readN_len {x : Rd} (h : x.1.length ≤ 6000) (k : Nat) (t : List UInt8) (a : Nat) (b : Bool) : (readN x k t a b).1.1.length ≤ 6000 := by
  unfold readN
  split
  · exact h
  split
  · exact h
  simp; omega
theorem lexF_len (s : List UInt8) : ∀ (f i : Nat) (x : Rd), x.1.length ≤ 6000 → (lexF readN s f i x).1.length ≤ 6000
  | 0, _, _, h => h
  | f + 1, i, x, h => by
    unfold lexF
    split
    · split
      · exact lexF_len s f _ _ (readN_len h _ _ _ _)
      · exact readN_len h _ _ _ _
    · exact h
theorem readP_len (s : List UInt8) : (readP s).1.length ≤ 6000 := by
  unfold readP
  split
  · simp
  split
  · exact lexF_len s _ _ _ (by simp)
  simp
end Go.Tok
end
section
namespace Go.Tree
open Go.Tok
theorem oneB_E {k : Nat} {s : Str} (h : (readP s).2.1 ≠ 0) : oneB k s = false := by unfold oneB; rw [decide_eq_false h]; rfl
theorem oneB_len {k : Nat} {s : Str} (h : (readP s).1.length ≠ 1) : oneB k s = false := by
  unfold oneB
  rw [Bool.and_eq_false_iff]; right
  split
  · rename_i t ht; rw [ht] at h; exact absurd rfl h
  rfl
theorem oneB_at {k : Nat} {s : Str} {t : Tk} (h0 : (readP s).2.1 = 0) (h1 : (readP s).1[0]? = some t) (hl : (readP s).1.length = 1) : oneB k s = (decide ((t.1 : Int) = (k : Int)) && decide (t.2.1 = s)) := by
  have h2 : (readP s).1 = [t] := by
    match hr : (readP s).1, hl with
    | [x], _ => rw [hr] at h1; simpa using h1
  unfold oneB
  rw [decide_eq_true h0, h2]
  have : decide (t.1 = k) = decide ((t.1 : Int) = (k : Int)) := by congr 1; apply propext; omega
  simp only [this, Bool.true_and]
theorem tokTx_word {s : Str} {i : Nat} (h : (tokAt s i).1 = 1) : (32 : UInt8) ∉ tokTx s i := by
  unfold tokTx
  unfold tokAt at h ⊢
  split
  · intro hm
    have e : (s.drop i).take (runTo wordB s i - i) = (s.drop i).takeWhile wordB := by
      unfold runTo
      rw [show i + ((s.drop i).takeWhile wordB).length - i = ((s.drop i).takeWhile wordB).length by omega]
      exact (List.prefix_iff_eq_take.1 (List.takeWhile_prefix wordB)).symm
    rw [e] at hm
    have := List.all_eq_true.1 (List.all_takeWhile (p := wordB) (l := s.drop i)) _ hm
    exact absurd this (by decide)
  rename_i hn
  rw [if_neg hn] at h
  split at h
  · cases h
  split at h <;> cases h
theorem lexF_names (s : Str) : ∀ (f i : Nat) (x : Rd), (∀ t ∈ x.1, t.1 = 1 → (32 : UInt8) ∉ t.2.1) → ∀ t ∈ (lexF readN s f i x).1, t.1 = 1 → (32 : UInt8) ∉ t.2.1
  | 0, _, x, h => h
  | f + 1, i, x, h => by
    have h2 : ∀ t ∈ (readN x (tokAt s i).1 (tokTx s i) i (tokAt s i).2.2).1.1, t.1 = 1 → (32 : UInt8) ∉ t.2.1 := by
      unfold readN
      split
      · exact h
      · split
        · exact h
        · intro t ht
          rcases List.mem_append.1 ht with ht | ht
          · exact h t ht
          · obtain rfl : t = _ := by simpa using ht
            exact fun hk => tokTx_word hk
    unfold lexF
    split
    · split
      · exact lexF_names s f _ _ h2
      · exact h2
    · exact h
theorem readP_names (s : Str) : ∀ t ∈ (readP s).1, t.1 = 1 → (32 : UInt8) ∉ t.2.1 := by
  have h : ∀ t ∈ (readS s).1, t.1 = 1 → (32 : UInt8) ∉ t.2.1 := lexF_names s _ _ _ (fun t ht => (List.not_mem_nil ht).elim)
  unfold readP
  split
  · exact fun t ht => (List.not_mem_nil ht).elim
  split
  · exact h
  exact fun t ht => (List.not_mem_nil ht).elim
theorem one_name {s : Str} (h : oneB 1 s = true) : (32 : UInt8) ∉ s := by
  unfold oneB at h
  rw [Bool.and_eq_true] at h
  obtain ⟨_, h2⟩ := h
  split at h2
  · rename_i t ht
    simp only [Bool.and_eq_true, decide_eq_true_eq] at h2
    have := readP_names s t (by rw [ht]; exact .head _) h2.1
    rwa [h2.2] at this
  cases h2
theorem index_iff {sub : List UInt8} (hs : sub ≠ []) : ∀ s : List UInt8, 0 ≤ Lib.index s sub ↔ ∃ i, sub.isPrefixOf (s.drop i) = true
  | [] => by
    have : sub.isEmpty = false := by cases sub with | nil => exact absurd rfl hs | cons => rfl
    unfold Lib.index
    rw [this]
    constructor
    · intro h; exact absurd h (by decide)
    · rintro ⟨i, hi⟩
      cases sub with
      | nil => exact absurd rfl hs
      | cons a l => simp at hi
  | b :: l => by
    have ih := index_iff hs l
    have hg := Lib.index_ge l sub
    unfold Lib.index
    split
    · rename_i hp
      exact ⟨fun _ => ⟨0, by simpa using hp⟩, fun _ => Int.le_refl _⟩
    · rename_i hp
      split
      · rename_i h1
        have h1 : Lib.index l sub = -1 := by simpa using h1
        constructor
        · intro h; exact absurd h (by decide)
        · rintro ⟨i, hi⟩
          cases i with
          | zero => exact absurd (by simpa using hi) hp
          | succ i => have := ih.2 ⟨i, by simpa using hi⟩; omega
      · rename_i h1
        have h1 : ¬ Lib.index l sub = -1 := by simpa using h1
        constructor
        · intro _
          obtain ⟨i, hi⟩ := ih.1 (by omega)
          exact ⟨i + 1, by simpa using hi⟩
        · intro _; omega
theorem words_fwd : ∀ i, i < 112 → (wordsT.drop i).head? = some 32 → i = 111 ∨ wordsL.contains ((wordsT.drop (i + 1)).takeWhile (fun b => b != 32)) = true := by decide +kernel
theorem words_bwd : ∀ x ∈ wordsL, Lib.contains wordsT ([32] ++ x ++ [32]) = true := by decide +kernel
theorem words_len : wordsT.length = 112 := by decide +kernel
theorem take_while_stop (s : List UInt8) (hs : (32 : UInt8) ∉ s) (r : List UInt8) : (s ++ 32 :: r).takeWhile (fun b => b != 32) = s := by
  induction s with
  | nil => simp
  | cons a l ih =>
    have ha : a ≠ 32 := fun h => hs (by simp [h])
    have hl : (32 : UInt8) ∉ l := fun h => hs (List.mem_cons_of_mem _ h)
    rw [List.cons_append, List.takeWhile_cons, if_pos (by simpa using ha), ih hl]
theorem words_contains {s : Str} (hs : (32 : UInt8) ∉ s) : Lib.contains wordsT ([32] ++ s ++ [32]) = wordsL.contains s := by
  rw [Bool.eq_iff_iff]
  constructor
  · intro h
    unfold Lib.contains at h
    obtain ⟨i, hi⟩ := (index_iff (by simp) _).1 (of_decide_eq_true h)
    obtain ⟨r, hr⟩ := List.isPrefixOf_iff_prefix.1 hi
    have hl : i < 112 := by
      rcases Nat.lt_or_ge i 112 with h1 | h1
      · exact h1
      rw [List.drop_eq_nil_of_le (by rw [words_len]; exact h1)] at hr; simp at hr
    have e1 : wordsT.drop i = 32 :: (s ++ 32 :: r) := by rw [← hr]; simp
    have e2 : wordsT.drop (i + 1) = s ++ 32 :: r := by
      rw [← List.drop_drop, e1]; rfl
    rcases words_fwd i hl (by rw [e1]; rfl) with h1 | h1
    · subst h1
      rw [List.drop_eq_nil_of_le (by rw [words_len]; exact Nat.le_refl _)] at e2
      simp at e2
    rw [e2, take_while_stop s hs] at h1; exact h1
  intro h
  exact words_bwd s (by simpa using h)
theorem nameOk_one {s : Str} (h : oneB 1 s = true) : nameOk s = !Lib.contains wordsT ([32] ++ s ++ [32]) := by
  unfold nameOk; rw [h, words_contains (one_name h)]; rfl
theorem nameOk_no {s : Str} (h : oneB 1 s = false) : nameOk s = false := by unfold nameOk; rw [h]; rfl
def firstI {α : Type} (p : α → Bool) (l : List α) : Int := match l.findIdx? p with | some k => k | none => -1
theorem firstI_at {α : Type} {p : α → Bool} {l : List α} {k : Nat} {x : α} (h : ∀ y ∈ l.take k, p y = false) (hx : l[k]? = some x) (hp : p x = true) : firstI p l = k := by
  have hk := (List.getElem?_eq_some_iff.1 hx).1
  have hg := (List.getElem?_eq_some_iff.1 hx).2
  have : l.findIdx? p = some k := by
    rw [List.findIdx?_eq_some_iff_getElem]
    refine ⟨hk, by rw [hg]; exact hp, fun j hj => ?_⟩
    have := h l[j] (by rw [List.mem_take_iff_getElem]; exact ⟨j, by omega, rfl⟩)
    simp [this]
  unfold firstI; rw [this]
theorem firstI_no {α : Type} {p : α → Bool} {l : List α} (h : ∀ y ∈ l, p y = false) : firstI p l = -1 := by
  have : l.findIdx? p = none := by rw [List.findIdx?_eq_none_iff]; exact h
  unfold firstI; rw [this]
theorem firstI_ge {α : Type} (p : α → Bool) (l : List α) : decide (firstI p l ≥ 0) = l.any p := by
  unfold firstI
  cases h : l.findIdx? p with
  | none =>
    rw [List.findIdx?_eq_none_iff] at h
    have : l.any p = false := List.any_eq_false.2 (fun x hx => by simp [h x hx])
    rw [this]; rfl
  | some k =>
    rw [List.findIdx?_eq_some_iff_getElem] at h
    obtain ⟨hk, hp, _⟩ := h
    have : l.any p = true := List.any_eq_true.2 ⟨l[k], List.getElem_mem hk, hp⟩
    rw [this]
    exact decide_eq_true (Int.natCast_nonneg k)
theorem take_all {α : Type} {p : α → Bool} {l : List α} {k : Nat} {x : α} (h : ∀ y ∈ l.take k, p y = false) (hx : l[k]? = some x) (hp : p x = false) : ∀ y ∈ l.take (k + 1), p y = false := by
  obtain ⟨hk, hg⟩ := List.getElem?_eq_some_iff.1 hx
  intro y hy
  rw [List.take_succ_eq_append_getElem hk, List.mem_append, hg] at hy
  rcases hy with hy | hy
  · exact h y hy
  obtain rfl : y = x := by simpa using hy
  exact hp
theorem look_none {α : Type} (l : List (Int × α)) (n : Int) (z : α) (h : l.all (fun p => decide (p.1 ≠ n)) = true) : (l.lookup n).getD z = z := by
  induction l with
  | nil => rfl
  | cons p l ih =>
    rw [List.all_cons, Bool.and_eq_true, decide_eq_true_eq] at h
    have h2 : (n == p.1) = false := by simpa using fun e => h.1 e.symm
    obtain ⟨q, v⟩ := p
    simp only [List.lookup, h2]
    exact ih h.2
theorem any_not {α : Type} (p : α → Bool) (l : List α) : (!l.any fun x => !p x) = l.all p := by
  induction l with
  | nil => rfl
  | cons x l ih => rw [List.any_cons, List.all_cons, ← ih]; cases p x <;> simp
theorem op_cases9 (op : Nat) : op = 1 ∨ op = 2 ∨ op = 3 ∨ op = 4 ∨ op = 5 ∨ op = 6 ∨ op = 7 ∨ op = 8 ∨ op = 9 ∨ (op = 0 ∨ 10 ≤ op) := by omega
theorem op_cases6 (op : Nat) : op = 1 ∨ op = 2 ∨ op = 3 ∨ op = 4 ∨ op = 5 ∨ op = 6 ∨ (op = 0 ∨ 7 ≤ op) := by omega
theorem srule_miss {op : Nat} (h : op = 0 ∨ 7 ≤ op) (nm : Str) (ks : List Ex) : sruleOk op nm ks = false := by
  unfold sruleOk
  split <;> first | rfl | omega
theorem cmp_int (op : Nat) : cmpOp op = (decide ((op : Int) ≥ 10) && decide ((op : Int) ≤ 15)) := by
  unfold cmpOp
  have h1 : decide (10 ≤ op) = decide ((op : Int) ≥ 10) := by congr 1; apply propext; omega
  have h2 : decide (op ≤ 15) = decide ((op : Int) ≤ 15) := by congr 1; apply propext; omega
  rw [h1, h2]
theorem rule_miss {op : Nat} (h : op = 0 ∨ 10 ≤ op) (nm : Str) (n : Nat) : ruleOk op nm n = false := by
  unfold ruleOk
  split <;> first | rfl | omega
end Go.Tree
end
section
namespace Go.Tree
open Go.Tok
def brk (s : Str) : Bool := s == [123] || s == [125] || s == [59]
def endT (n k : Nat) (s : Str) : Str := if brk s then [10] else if k + 1 < n then [32] else []
def textTo (xs : List Str) (k : Nat) : Str := (List.range k).flatMap fun i => xs.getD i [] ++ endT xs.length i (xs.getD i [])
def textT (xs : List Str) : Str := textTo xs xs.length
attribute [irreducible] textTo
end Go.Tree
end
section
namespace Go.Tree
open Go.Tok
def headS : Nat → Str
  | 0 => [100, 97, 116, 97]
  | 1 => [116, 114, 97, 110, 115, 102, 111, 114, 109, 101, 100, 32, 100, 97, 116, 97]
  | 2 => [112, 97, 114, 97, 109, 101, 116, 101, 114, 115]
  | 3 => [116, 114, 97, 110, 115, 102, 111, 114, 109, 101, 100, 32, 112, 97, 114, 97, 109, 101, 116, 101, 114, 115]
  | 4 => [109, 111, 100, 101, 108]
  | 5 => [103, 101, 110, 101, 114, 97, 116, 101, 100, 32, 113, 117, 97, 110, 116, 105, 116, 105, 101, 115]
  | _ => []
def headW : Nat → List Str
  | 0 => [[100, 97, 116, 97]]
  | 1 => [[116, 114, 97, 110, 115, 102, 111, 114, 109, 101, 100], [100, 97, 116, 97]]
  | 2 => [[112, 97, 114, 97, 109, 101, 116, 101, 114, 115]]
  | 3 => [[116, 114, 97, 110, 115, 102, 111, 114, 109, 101, 100], [112, 97, 114, 97, 109, 101, 116, 101, 114, 115]]
  | 4 => [[109, 111, 100, 101, 108]]
  | 5 => [[103, 101, 110, 101, 114, 97, 116, 101, 100], [113, 117, 97, 110, 116, 105, 116, 105, 101, 115]]
  | _ => []
def dcsT (l : List Dc) : List Str := l.flatMap dcT
def bkT (i : Nat) (b : Bk) : List Str := if b.is then headW i ++ [[123]] ++ dcsT b.decls ++ (smsT b.stmts).flatten ++ [[125]] else []
def pgTo (p : List Bk) (i : Nat) : List Str := (List.range i).flatMap fun j => match p[j]? with | some b => bkT j b | none => []
def pgT (p : List Bk) : List Str := pgTo p 6
theorem pg_facts {p : List Bk} (h : pgOk p = true) {i : Nat} {b : Bk} (hi : i < 6) (hb : p[i]? = some b) : (∀ y ∈ b.decls, dcOk y = true) ∧ smsOk b.stmts = true := by
  unfold pgOk at h
  rw [List.all_eq_true] at h
  have h1 := h i (List.mem_range.2 hi)
  rw [hb] at h1
  simp only [bkOk, headB, Bool.and_eq_true, List.all_eq_true, dgood] at h1
  exact ⟨fun y hy => (h1.2 y hy).1, h1.1.2⟩
attribute [irreducible] pgTo
end Go.Tree
end
section
namespace Go.Tree
mutual
def exN : Ex → Nat
  | .mk _ _ _ ks => 1 + exsN ks
def exsN : List Ex → Nat
  | [] => 0
  | e :: l => exN e + exsN l
end
mutual
theorem exN_le : ∀ x : Ex, exN x ≤ exW x
  | .mk _ _ _ ks => by
    have := exsN_le ks
    unfold exN exW; omega
theorem exsN_le : ∀ l : List Ex, exsN l ≤ exsW l
  | [] => by unfold exsN; exact Nat.zero_le _
  | e :: l => by
    have h1 := exN_le e
    have h2 := exsN_le l
    unfold exsN exsW; omega
end
theorem exsN_append : ∀ (l m : List Ex), exsN (l ++ m) = exsN l + exsN m
  | [], m => by simp [exsN]
  | e :: l, m => by
    have := exsN_append l m
    simp only [List.cons_append, exsN, this]; omega
theorem exsN_next {l : List Ex} {k : Nat} {x : Ex} (h : l[k]? = some x) : exsN (l.take (k + 1)) = exsN (l.take k) + exN x := by
  obtain ⟨hk, hg⟩ := List.getElem?_eq_some_iff.1 h
  rw [List.take_succ_eq_append_getElem hk, exsN_append, hg]
  simp [exsN]
theorem exsN_take (l : List Ex) (k : Nat) : exsN (l.take k) ≤ exsN l := by
  have : exsN l = exsN (l.take k) + exsN (l.drop k) := by rw [← exsN_append, List.take_append_drop]
  omega
end Go.Tree
end
section
namespace Go.Tree
mutual
def smN : Sm → Nat
  | .mk _ _ _ ks b e => 1 + exsN ks + smsN b + smsN e
def smsN : List Sm → Nat
  | [] => 0
  | s :: l => smN s + smsN l
end
mutual
theorem smN_le : ∀ x : Sm, smN x ≤ smW x
  | .mk _ _ _ ks b e => by
    have h1 := exsN_le ks
    have h2 := smsN_le b
    have h3 := smsN_le e
    unfold smN smW; omega
theorem smsN_le : ∀ l : List Sm, smsN l ≤ smsW l
  | [] => by unfold smsN; exact Nat.zero_le _
  | s :: l => by
    have h1 := smN_le s
    have h2 := smsN_le l
    unfold smsN smsW; omega
end
theorem smsN_append : ∀ (l m : List Sm), smsN (l ++ m) = smsN l + smsN m
  | [], m => by simp [smsN]
  | e :: l, m => by
    have := smsN_append l m
    simp only [List.cons_append, smsN, this]; omega
theorem smsN_next {l : List Sm} {k : Nat} {x : Sm} (h : l[k]? = some x) : smsN (l.take (k + 1)) = smsN (l.take k) + smN x := by
  obtain ⟨hk, hg⟩ := List.getElem?_eq_some_iff.1 h
  rw [List.take_succ_eq_append_getElem hk, smsN_append, hg]
  simp [smsN]
theorem smsN_take (l : List Sm) (k : Nat) : smsN (l.take k) ≤ smsN l := by
  have : smsN l = smsN (l.take k) + smsN (l.drop k) := by rw [← smsN_append, List.take_append_drop]
  omega
end Go.Tree
end
section
namespace Go.Tree
def dcN (d : Dc) : Nat := 1 + (exsN d.size + exsN d.lower + exsN d.upper + exsN d.init)
def dcsN : List Dc → Nat
  | [] => 0
  | d :: l => dcN d + dcsN l
theorem dcN_le (d : Dc) : dcN d ≤ dcW d := by
  have h1 := exsN_le d.size
  have h2 := exsN_le d.lower
  have h3 := exsN_le d.upper
  have h4 := exsN_le d.init
  unfold dcN dcW; omega
theorem dcsN_le : ∀ l : List Dc, dcsN l ≤ dcsW l
  | [] => Nat.zero_le _
  | d :: l => by
    have h1 := dcN_le d
    have h2 := dcsN_le l
    unfold dcsN dcsW; omega
theorem dcsN_append : ∀ (l m : List Dc), dcsN (l ++ m) = dcsN l + dcsN m
  | [], m => by simp [dcsN]
  | e :: l, m => by
    have := dcsN_append l m
    simp only [List.cons_append, dcsN, this]; omega
theorem dcsN_next {l : List Dc} {k : Nat} {x : Dc} (h : l[k]? = some x) : dcsN (l.take (k + 1)) = dcsN (l.take k) + dcN x := by
  obtain ⟨hk, hg⟩ := List.getElem?_eq_some_iff.1 h
  rw [List.take_succ_eq_append_getElem hk, dcsN_append, hg]
  simp [dcsN]
theorem dcsN_take (l : List Dc) (k : Nat) : dcsN (l.take k) ≤ dcsN l := by
  have : dcsN l = dcsN (l.take k) + dcsN (l.drop k) := by rw [← dcsN_append, List.take_append_drop]
  omega
def bkN (b : Bk) : Nat := smsN b.stmts + dcsN b.decls
theorem bkN_le (b : Bk) : bkN b ≤ bkW b := by
  have h1 := smsN_le b.stmts
  have h2 := dcsN_le b.decls
  unfold bkN bkW; omega
def pgNTo (p : List Bk) (i : Nat) : Nat := ((List.range i).map fun j => match p[j]? with | some b => bkN b | none => 0).sum
def pgN (p : List Bk) : Nat := pgNTo p 6
theorem pgNTo_next {p : List Bk} {i : Nat} {b : Bk} (h : p[i]? = some b) : pgNTo p (i + 1) = pgNTo p i + bkN b := by
  unfold pgNTo
  rw [List.range_succ, List.map_append, List.sum_append]
  simp [h]
end Go.Tree
end
section
namespace Go.Tree
mutual
def exLong : Ex → Bool
  | .mk _ _ nm ks => decide (200 < nm.length) || exsLong ks
def exsLong : List Ex → Bool
  | [] => false
  | e :: l => exLong e || exsLong l
end
theorem exsLong_any : ∀ l : List Ex, exsLong l = l.any exLong
  | [] => by simp [exsLong]
  | e :: l => by rw [exsLong, exsLong_any l, List.any_cons]
mutual
def smLong : Sm → Bool
  | .mk _ _ nm ks b e => decide (200 < nm.length) || exsLong ks || smsLong b || smsLong e
def smsLong : List Sm → Bool
  | [] => false
  | e :: l => smLong e || smsLong l
end
theorem smsLong_any : ∀ l : List Sm, smsLong l = l.any smLong
  | [] => by simp [smsLong]
  | e :: l => by rw [smsLong, smsLong_any l, List.any_cons]
def dcLong (d : Dc) : Bool := decide (200 < d.nm.length) || exsLong d.size || exsLong d.lower || exsLong d.upper || exsLong d.init
def bkLong (b : Bk) : Bool := smsLong b.stmts || b.decls.any dcLong
def pgLong (p : List Bk) : Bool := p.any bkLong
def exSmall (x : Ex) : Bool := decide (exN x ≤ 400) && !exLong x
def pgSmall (p : List Bk) : Bool := decide (pgN p ≤ 600) && !pgLong p
theorem any_of_take {α : Type} {q : α → Bool} {l : List α} {k : Nat} (h : ∀ y ∈ l.take k, q y = false) (hk : l.length ≤ k) : l.any q = false := by
  rw [List.take_of_length_le hk] at h
  rw [List.any_eq_false]
  intro x hx
  simp [h x hx]
theorem any_yes {α : Type} {q : α → Bool} {l : List α} {k : Nat} {x : α} (hx : l[k]? = some x) (h : q x = true) : l.any q = true := by
  rw [List.any_eq_true]
  exact ⟨x, List.mem_of_getElem? hx, h⟩
mutual
def exSame : Ex → Ex → Bool
  | .mk o _ n k, y => decide (o = y.op) && (decide (n = y.nm) && exsSame k y.kids)
def exsSame : List Ex → List Ex → Bool
  | [], m => m.isEmpty
  | x :: l, m => match m with
    | [] => false
    | y :: m => exSame x y && exsSame l m
end
def pairOk {α : Type} (q : α → α → Bool) (l m : List α) : Bool := decide (l.length = m.length) && (l.zip m).all (fun p => q p.1 p.2)
namespace Sm
def nm : Sm → Str | .mk _ _ n _ _ _ => n
def kids : Sm → List Ex | .mk _ _ _ k _ _ => k
def body : Sm → List Sm | .mk _ _ _ _ b _ => b
def els : Sm → List Sm | .mk _ _ _ _ _ e => e
end Sm
mutual
def smSame : Sm → Sm → Bool
  | .mk o _ n k b e, y => decide (o = y.op) && (decide (n = y.nm) && (exsSame k y.kids && (smsSame b y.body && smsSame e y.els)))
def smsSame : List Sm → List Sm → Bool
  | [], m => m.isEmpty
  | x :: l, m => match m with
    | [] => false
    | y :: m => smSame x y && smsSame l m
end
def dcSame (c d : Dc) : Bool := decide (c.ty = d.ty) && (decide (c.nm = d.nm) && (exsSame c.size d.size && (exsSame c.lower d.lower && (exsSame c.upper d.upper && exsSame c.init d.init))))
def bkSame (x y : Bk) : Bool := decide (x.is = y.is) && (pairOk dcSame x.decls y.decls && smsSame x.stmts y.stmts)
def pgSame (p q : List Bk) : Bool := pairOk bkSame p q
theorem sub_get {α : Type} {cs l : List α} {k n : Nat} (h : (cs.drop k).take n = l) {j : Nat} {v : α} (hj : l[j]? = some v) : cs[0 + k + j]? = some v := by
  subst h
  have h1 := (List.getElem?_eq_some_iff.1 hj).1
  rw [List.getElem?_take, if_pos (by rw [List.length_take] at h1; omega), List.getElem?_drop] at hj
  rw [Nat.zero_add]; exact hj
end Go.Tree
end
section
namespace Go.Prs
open Go.Tok Go.Tree
abbrev Fl := Nat × Nat
def place (z : Nat) : List Tk → Nat
  | [] => z
  | t :: _ => t.2.2
def isW (x : Str) : List Tk → Bool
  | [] => false
  | t :: _ => !decide (t.1 = 2) && decide (t.2.1 = x)
def named : List Tk → Bool
  | [] => false
  | t :: _ => decide (t.1 = 1) && nameOk t.2.1
def txt : List Tk → Str
  | [] => []
  | t :: _ => t.2.1
abbrev Rs (α : Type) := Except Fl (α × List Tk)
def andR {α β : Type} (x : Rs α) (f : α → List Tk → Except Fl β) : Except Fl β :=
  match x with
  | .ok (a, r) => f a r
  | .error e => .error e
theorem andR_ok {α β : Type} (a : α) (r : List Tk) (f : α → List Tk → Except Fl β) : andR (.ok (a, r)) f = f a r := rfl
def nowT (z : Nat) : List Tk → Tk
  | [] => (0, [], z)
  | t :: _ => t
def want {β : Type} (z : Nat) (x : Str) (ts : List Tk) (f : List Tk → Except Fl β) : Except Fl β := if isW x ts then f ts.tail else .error (130, place z ts)
def opn {β : Type} (z o : Nat) (x : Str) (ts : List Tk) (f : List Tk → Except Fl β) : Except Fl β := if isW x ts then (if o < 64 then f ts.tail else .error (131, place z ts)) else .error (130, place z ts)
def name {β : Type} (z : Nat) (ts : List Tk) (f : Str → List Tk → Except Fl β) : Except Fl β := if named ts then f (txt ts) ts.tail else .error (130, place z ts)
def nameX (z : Nat) (ts : List Tk) : Rs Str := if named ts = true then .ok (txt ts, ts.tail) else .error (130, place z ts)
def pair (op : Nat) (a b : Ex) : Ex := .mk op a.at_ [] [a, b]
def setAt (e : Ex) (a : Int) : Ex := .mk e.op a e.nm e.kids
mutual
def pSum (z : Nat) : Nat → List Tk → Nat → Rs Ex
  | 0, _, _ => .error (0, 0)
  | n + 1, ts, o => andR (pProd z n ts o) fun e r => pSumL z n e r o
def pSumL (z : Nat) : Nat → Ex → List Tk → Nat → Rs Ex
  | 0, _, _, _ => .error (0, 0)
  | n + 1, e, ts, o =>
    if isW [43] ts then andR (pProd z n ts.tail o) fun k r => pSumL z n (pair 6 e k) r o
    else if isW [45] ts then andR (pProd z n ts.tail o) fun k r => pSumL z n (pair 7 e k) r o
    else .ok (e, ts)
def pProd (z : Nat) : Nat → List Tk → Nat → Rs Ex
  | 0, _, _ => .error (0, 0)
  | n + 1, ts, o => andR (pSign z n ts o) fun e r => pProdL z n e r o
def pProdL (z : Nat) : Nat → Ex → List Tk → Nat → Rs Ex
  | 0, _, _, _ => .error (0, 0)
  | n + 1, e, ts, o =>
    if isW [42] ts then andR (pSign z n ts.tail o) fun k r => pProdL z n (pair 8 e k) r o
    else if isW [47] ts then andR (pSign z n ts.tail o) fun k r => pProdL z n (pair 9 e k) r o
    else .ok (e, ts)
def pSign (z : Nat) : Nat → List Tk → Nat → Rs Ex
  | 0, _, _ => .error (0, 0)
  | n + 1, ts, o =>
    if isW [45] ts then opn z o [45] ts fun r => andR (pSign z n r (o + 1)) fun k r => .ok (.mk 5 (place z ts) [] [k], r)
    else if isW [40] ts then opn z o [40] ts fun r => andR (pSum z n r (o + 1)) fun e r => want z [41] r fun r => .ok (setAt e (place z ts), r)
    else match ts with
      | [] => .error (130, z)
      | t :: r =>
        if t.1 = 2 then (if 400 < t.2.1.length then .error (3, t.2.2) else .ok (.mk 1 t.2.2 t.2.1 [], r))
        else name z (t :: r) fun nm r =>
          if isW [91] r then opn z o [91] r fun r => andR (pSum z n r (o + 1)) fun k r => want z [93] r fun r => .ok (.mk 3 t.2.2 nm [k], r)
          else if isW [40] r then opn z o [40] r fun r => andR (pSums z n r (o + 1)) fun l r => want z [41] r fun r => .ok (.mk 4 t.2.2 nm l, r)
          else .ok (.mk 2 t.2.2 nm [], r)
def pSums (z : Nat) : Nat → List Tk → Nat → Rs (List Ex)
  | 0, _, _ => .error (0, 0)
  | n + 1, ts, o => if isW [41] ts then .ok ([], ts) else andR (pSum z n ts o) fun e r => pSumsL z n [e] r o
def pSumsL (z : Nat) : Nat → List Ex → List Tk → Nat → Rs (List Ex)
  | 0, _, _, _ => .error (0, 0)
  | n + 1, l, ts, o => if isW [44] ts then andR (pSum z n ts.tail o) fun e r => pSumsL z n (l ++ [e]) r o else .ok (l, ts)
end
def cmpS : List Str := [[61, 61], [33, 61], [60], [60, 61], [62], [62, 61]]
def cmpU : Nat → List Tk → Nat
  | 0, _ => 0
  | i + 1, ts => if cmpU i ts = 0 then (if isW (cmpS.getD i []) ts = true then 10 + i else 0) else cmpU i ts
def setS : Sm → Int → Sm | .mk o _ n k b e, a => .mk o a n k b e
def pAdd (z n : Nat) (ts : List Tk) (o : Nat) : Rs Sm := want z [116, 97, 114, 103, 101, 116] ts fun r => want z [43, 61] r fun r => andR (pSum z n r o) fun e r => want z [59] r fun r => .ok (.mk 2 0 [] [e] [] [], r)
def pLoopC (body : List Tk → Rs (List Sm)) (z : Nat) (nm : Str) (x y : Ex) (r : List Tk) : Rs Sm := want z [41] r fun r => andR (body r) fun b r => .ok (.mk 4 0 nm [x, y] b [], r)
def pLoopB (body : List Tk → Rs (List Sm)) (z n o : Nat) (nm : Str) (x : Ex) (r : List Tk) : Rs Sm := want z [58] r fun r => andR (pSum z n r (o + 1)) fun y r => pLoopC body z nm x y r
def pLoop (body : List Tk → Rs (List Sm)) (z n : Nat) (ts : List Tk) (o : Nat) : Rs Sm := want z [102, 111, 114] ts fun r => opn z o [40] r fun r => andR (nameX z r) fun nm r => want z [105, 110] r fun r => andR (pSum z n r (o + 1)) fun x r => pLoopB body z n o nm x r
def pChoiceB (body : List Tk → Rs (List Sm)) (z : Nat) (x : Ex) (r : List Tk) : Rs Sm := want z [41] r fun r => andR (body r) fun b r =>
  if isW [101, 108, 115, 101] r = true then andR (body r.tail) fun e r => .ok (.mk 5 0 [] [x] b e, r) else .ok (.mk 5 0 [] [x] b [], r)
def pChoiceA (body : List Tk → Rs (List Sm)) (z n o : Nat) (x : Ex) (r : List Tk) : Rs Sm :=
  if cmpU 6 r = 0 then .error (130, place z r) else andR (pSum z n r.tail (o + 1)) fun y r' => pChoiceB body z (pair (cmpU 6 r) x y) r'
def pChoice (body : List Tk → Rs (List Sm)) (z n : Nat) (ts : List Tk) (o : Nat) : Rs Sm := want z [105, 102] ts fun r => opn z o [40] r fun r => andR (pSum z n r (o + 1)) fun x r => pChoiceA body z n o x r
def pPlainB (z n o : Nat) (pl : Bool) (e : Ex) (r : List Tk) : Rs Sm :=
  if (pl && isW [61] r) = true then andR (pSum z n r.tail o) fun k r => want z [59] r fun r => .ok (.mk 1 0 e.nm (e.kids ++ [k]) [] [], r)
  else want z [126] r fun r => andR (nameX z r) fun nm r => opn z o [40] r fun r => andR (pSums z n r (o + 1)) fun l r => want z [41] r fun r => want z [59] r fun r => .ok (.mk 3 0 nm (e :: l) [] [], r)
def pPlain (z n : Nat) (ts : List Tk) (o : Nat) : Rs Sm := andR (pSum z n ts o) fun e r => pPlainB z n o (named ts && (decide (e.op = 2) || decide (e.op = 3))) e r
mutual
def pStmt (z : Nat) : Nat → List Tk → Nat → Rs Sm
  | 0, _, _ => .error (0, 0)
  | n + 1, ts, o => andR (
      if isW [116, 97, 114, 103, 101, 116] ts = true then pAdd z n ts o
      else if isW [102, 111, 114] ts = true then pLoop (fun r => pBody z n r o) z n ts o
      else if isW [105, 102] ts = true then pChoice (fun r => pBody z n r o) z n ts o
      else if isW [123] ts = true then andR (pBody z n ts o) fun b r => .ok (.mk 6 0 [] [] b [], r)
      else pPlain z n ts o) fun s r => .ok (setS s ((nowT z ts).2.2 : Nat), r)
def pBody (z : Nat) : Nat → List Tk → Nat → Rs (List Sm)
  | 0, _, _ => .error (0, 0)
  | n + 1, ts, o => opn z o [123] ts fun r => andR (pStmts z n [] r (o + 1)) fun l r => want z [125] r fun r => .ok (l, r)
def pStmts (z : Nat) : Nat → List Sm → List Tk → Nat → Rs (List Sm)
  | 0, _, _, _ => .error (0, 0)
  | n + 1, l, ts, o => if isW [125] ts = true then .ok (l, ts) else andR (pStmt z n ts o) fun s r => pStmts z n (l ++ [s]) r o
end
def pSize (z n : Nat) (ts : List Tk) (o : Nat) : Rs (List Ex) := opn z o [91] ts fun r => andR (pSum z n r (o + 1)) fun e r => want z [93] r fun r => .ok ([e], r)
def pUpper (z n : Nat) (lo : List Ex) (ts : List Tk) (o : Nat) : Rs (List Ex × List Ex) := want z [117, 112, 112, 101, 114] ts fun r => want z [61] r fun r => andR (pSum z n r o) fun e r => want z [62] r fun r => .ok ((lo, [e]), r)
def pBoundsB (z n o : Nat) (e : Ex) (r : List Tk) : Rs (List Ex × List Ex) := if isW [44] r = true then pUpper z n [e] r.tail o else want z [62] r fun r => .ok (([e], []), r)
def pBounds (z n : Nat) (ts : List Tk) (o : Nat) : Rs (List Ex × List Ex) :=
  if isW [60] ts = true then
    (if isW [108, 111, 119, 101, 114] ts.tail = true then want z [61] ts.tail.tail fun r => andR (pSum z n r o) fun e r => pBoundsB z n o e r
    else pUpper z n [] ts.tail o)
  else .ok (([], []), ts)
def pDeclE (z ty a : Nat) (nm : Str) (size lo up init : List Ex) (r : List Tk) : Rs (Bool × Dc) := want z [59] r fun r => .ok ((true, ⟨ty, a, nm, size, lo, up, init⟩), r)
def pDeclN (z n : Nat) (first : Bool) (ty a o : Nat) (size lo up : List Ex) (nm : Str) (r : List Tk) : Rs (Bool × Dc) :=
  if ((first && decide (ty ≤ 3)) && isW [61] r) = true then andR (pSum z n r.tail o) fun e r => pDeclE z ty a nm size lo up [e] r else pDeclE z ty a nm size lo up [] r
def pDeclV (z n : Nat) (first : Bool) (ty a o : Nat) (size lo up : List Ex) (r : List Tk) : Rs (Bool × Dc) := andR (nameX z r) fun nm r => pDeclN z n first ty a o size lo up nm r
def pDeclU (z n : Nat) (first : Bool) (ty a o : Nat) (size : List Ex) (b : List Ex × List Ex) (r : List Tk) : Rs (Bool × Dc) :=
  if ty = 3 then andR (pSize z n r o) fun size r => pDeclV z n first ty a o size b.1 b.2 r else pDeclV z n first ty a o size b.1 b.2 r
def pDeclT (z n : Nat) (first : Bool) (ty a o : Nat) (size : List Ex) (ts : List Tk) : Rs (Bool × Dc) := andR (pBounds z n ts o) fun b r => pDeclU z n first ty a o size b r
def pDecl (z n : Nat) (first : Bool) (ts : List Tk) (o : Nat) : Rs (Bool × Dc) :=
  if isW [105, 110, 116] ts = true then pDeclT z n first 1 (nowT z ts).2.2 o [] ts.tail
  else if isW [114, 101, 97, 108] ts = true then pDeclT z n first 2 (nowT z ts).2.2 o [] ts.tail
  else if isW [118, 101, 99, 116, 111, 114] ts = true then pDeclT z n first 3 (nowT z ts).2.2 o [] ts.tail
  else if isW [97, 114, 114, 97, 121] ts = true then andR (pSize z n ts.tail o) fun size r =>
    if isW [105, 110, 116] r = true then pDeclT z n first 4 (nowT z ts).2.2 o size r.tail else want z [114, 101, 97, 108] r fun r => pDeclT z n first 5 (nowT z ts).2.2 o size r
  else .ok ((false, ⟨0, (nowT z ts).2.2, [], [], [], [], []⟩), ts)
def pDecls (z : Nat) : Nat → Bool → List Dc → List Tk → Nat → Rs (List Dc)
  | 0, _, _, _, _ => .error (0, 0)
  | n + 1, first, l, ts, o => andR (pDecl z n first ts o) fun d r => if d.1 = true then pDecls z n first (l ++ [d.2]) r o else .ok (l, r)
def pFillE (z : Nat) (ds : List Dc) (ss : List Sm) (r : List Tk) : Rs Bk := want z [125] r fun r => .ok (⟨true, ds, ss⟩, r)
def pFillS (z n i o : Nat) (ds : List Dc) (r : List Tk) : Rs Bk := if gv i = true then pFillE z ds [] r else andR (pStmts z n [] r (o + 1)) fun ss r => pFillE z ds ss r
def pFillD (z n q i o : Nat) (l : List Dc) (r : List Tk) : Rs Bk := andR (if i = 4 then .ok (l, r) else pDecls z q (!gv i) l r (o + 1)) fun ds r => pFillS z n i o ds r
def pFill (z n i : Nat) (ts : List Tk) (o : Nat) : Rs Bk := opn z o [123] ts fun r => pFillD z n n i o [] r
def pHead (z last : Nat) (ts : List Tk) : Rs (Nat × Bool) :=
  if (decide (last < 1) && isW [100, 97, 116, 97] ts) = true then .ok ((0, true), ts.tail)
  else if (decide (last < 4) && isW [116, 114, 97, 110, 115, 102, 111, 114, 109, 101, 100] ts) = true then
    (if (decide (last < 2) && isW [100, 97, 116, 97] ts.tail) = true then .ok ((1, true), ts.tail.tail) else want z [112, 97, 114, 97, 109, 101, 116, 101, 114, 115] ts.tail fun r => .ok ((3, true), r))
  else if (decide (last < 3) && isW [112, 97, 114, 97, 109, 101, 116, 101, 114, 115] ts) = true then .ok ((2, true), ts.tail)
  else if (decide (last < 5) && isW [109, 111, 100, 101, 108] ts) = true then .ok ((4, true), ts.tail)
  else if (decide (last < 6) && isW [103, 101, 110, 101, 114, 97, 116, 101, 100] ts) = true then want z [113, 117, 97, 110, 116, 105, 116, 105, 101, 115] ts.tail fun r => .ok ((5, true), r)
  else .ok ((0, false), ts)
def noBk : Bk := ⟨false, [], []⟩
def pProg (z : Nat) : Nat → Nat → List Bk → List Tk → Rs (List Bk)
  | 0, _, _, _ => .error (0, 0)
  | n + 1, last, out, ts => andR (pHead z last ts) fun i r => if i.2 = true then andR (pFill z n i.1 r 0) fun b r => pProg z n (i.1 + 1) (out.set i.1 b) r else .ok (out, r)
def whole {α : Type} (z : Nat) (x : Rs α) : Except Fl α := andR x fun a r => match r with
  | [] => .ok a
  | t :: _ => .error (130, t.2.2)
def fuel (ts : List Tk) : Nat := 8 * ts.length + 16
def face {α : Type} (s : Str) (f : Nat → Nat → List Tk → Rs α) : Except Fl α :=
  if (readP s).2.1 = 0 then whole s.length (f s.length (fuel (readP s).1) (readP s).1) else .error (readP s).2
def parseP (s : Str) : Except Fl (List Bk) := face s fun z n ts => pProg z n 0 (List.replicate 6 noBk) ts
def exprP (s : Str) : Except Fl Ex := face s fun z n ts => pSum z n ts 0
theorem andR_of {α β : Type} {x : Rs α} {a : α} {r : List Tk} {f : α → List Tk → Except Fl β} (h : x = .ok (a, r)) : andR x f = f a r := by rw [h]; rfl
theorem andR_er {α β : Type} {x : Rs α} {e : Fl} {f : α → List Tk → Except Fl β} (h : x = .error e) : andR x f = .error e := by rw [h]; rfl
theorem place_now (z : Nat) (ts : List Tk) : place z ts = (nowT z ts).2.2 := by cases ts <;> rfl
theorem isW_now {x : Str} (hx : x ≠ []) (z : Nat) (ts : List Tk) : isW x ts = (!decide ((nowT z ts).1 = 2) && decide ((nowT z ts).2.1 = x)) := by
  cases ts with
  | nil =>
    have : ¬ ([] : Str) = x := Ne.symm hx
    simp [isW, nowT, this]
  | cons t l => rfl
theorem named_now (z : Nat) (ts : List Tk) : named ts = (decide ((nowT z ts).1 = 1) && nameOk (nowT z ts).2.1) := by cases ts <;> rfl
theorem isW_pos {x : Str} {ts : List Tk} (h : isW x ts = true) : 0 < ts.length := by
  cases ts with
  | nil => cases h
  | cons t l => simp
theorem named_pos {ts : List Tk} (h : named ts = true) : 0 < ts.length := by
  cases ts with
  | nil => cases h
  | cons t l => simp
theorem isW_one {x y : Str} {ts : List Tk} (h : isW x ts = true) (hn : x ≠ y) : isW y ts = false := by
  cases ts with
  | nil => rfl
  | cons t l =>
    simp only [isW, Bool.and_eq_true, decide_eq_true_eq] at h
    have : ¬ t.2.1 = y := by rw [h.2]; exact hn
    simp [isW, this]
theorem want_yes {β : Type} {z : Nat} {x : Str} {ts : List Tk} {f : List Tk → Except Fl β} (h : isW x ts = true) : want z x ts f = f ts.tail := if_pos h
theorem want_no {β : Type} {z : Nat} {x : Str} {ts : List Tk} {f : List Tk → Except Fl β} (h : isW x ts = false) : want z x ts f = .error (130, place z ts) := if_neg (by rw [h]; exact Bool.false_ne_true)
theorem opn_yes {β : Type} {z o : Nat} {x : Str} {ts : List Tk} {f : List Tk → Except Fl β} (h : isW x ts = true) (ho : o < 64) : opn z o x ts f = f ts.tail := by rw [opn, if_pos h, if_pos ho]
theorem opn_deep {β : Type} {z o : Nat} {x : Str} {ts : List Tk} {f : List Tk → Except Fl β} (h : isW x ts = true) (ho : ¬ o < 64) : opn z o x ts f = .error (131, place z ts) := by rw [opn, if_pos h, if_neg ho]
def openB (x : Str) : Bool := decide (x = [40]) || decide (x = [91]) || decide (x = [123])
def closeB (x : Str) : Bool := decide (x = [41]) || decide (x = [93]) || decide (x = [125])
def upo (x : Str) (o : Nat) : Nat := if openB x = true then o + 1 else if closeB x = true then o - 1 else o
def upos : Nat → List Str → Nat
  | o, [] => o
  | o, x :: xs => upos (upo x o) xs
def wants (z : Nat) : Nat → List Str → List Tk → Rs Nat
  | o, [], ts => .ok (o, ts)
  | o, x :: xs, ts => if isW x ts = true then (if openB x = true ∧ ¬ o < 64 then .error (131, place z ts) else wants z (upo x o) xs ts.tail) else .error (130, place z ts)
theorem wants_up {z o2 a : Nat} {r : List Tk} : ∀ {xs : List Str} {o : Nat} {ts : List Tk}, wants z o xs ts = .ok (a, r) → o ≤ 64 → upos o xs = o2 → o2 ≤ 64
  | [], o, ts, _, ho, hu => by rw [← hu]; exact ho
  | x :: xs, o, ts, h, ho, hu => by
    rw [wants] at h
    split at h
    · split at h
      · cases h
      · rename_i hx
        refine wants_up (xs := xs) h ?_ hu
        unfold upo
        split
        · rename_i h1
          false_or_by_contra
          exact hx ⟨h1, by omega⟩
        · split <;> omega
    · cases h
theorem name_as {β : Type} {z : Nat} {ts : List Tk} {f : Str → List Tk → Except Fl β} : name z ts f = andR (nameX z ts) f := by
  unfold name nameX; split <;> rfl
theorem want_as {β : Type} {z : Nat} {x : Str} {ts : List Tk} {f : List Tk → Except Fl β} (o : Nat) (h : openB x = false) : want z x ts f = andR (wants z o [x] ts) (fun _ r => f r) := by
  unfold want
  rw [wants, wants]
  split
  · rw [if_neg (by rw [h]; simp)]; rfl
  rfl
theorem opn_as {β : Type} {z o : Nat} {x : Str} {ts : List Tk} {f : List Tk → Except Fl β} (h : openB x = true) : opn z o x ts f = andR (wants z o [x] ts) (fun _ r => f r) := by
  unfold opn
  rw [wants, wants]
  split
  · by_cases ho : o < 64
    · rw [if_pos ho, if_neg (by simp [ho])]; rfl
    rw [if_neg ho, if_pos ⟨h, ho⟩]; rfl
  rfl
theorem two_as {β : Type} {z : Nat} {x y : Str} {ts : List Tk} {f : List Tk → Except Fl β} (o : Nat) (h : openB x = false) (hc : closeB x = false) (hy : openB y = false) : want z x ts (fun r => want z y r f) = andR (wants z o [x, y] ts) (fun _ r => f r) := by
  unfold want
  rw [wants, wants, wants]
  split
  · rw [if_neg (by rw [h]; simp)]
    dsimp only
    split
    · rw [if_neg (by rw [hy]; simp)]; rfl
    rfl
  rfl
theorem two_op {β : Type} {z o : Nat} {x y : Str} {ts : List Tk} {f : List Tk → Except Fl β} (h : openB x = false) (hc : closeB x = false) (hy : openB y = true) : want z x ts (fun r => opn z o y r f) = andR (wants z o [x, y] ts) (fun _ r => f r) := by
  have hu : upo x o = o := by unfold upo; rw [h, hc]; rfl
  unfold want opn
  rw [wants, wants, wants, hu]
  split
  · rw [if_neg (by rw [h]; simp)]
    dsimp only
    split
    · by_cases ho : o < 64
      · rw [if_pos ho, if_neg (by simp [ho])]; rfl
      rw [if_neg ho, if_pos ⟨hy, ho⟩]; rfl
    rfl
  rfl
theorem cmpU_hit {i : Nat} {ts : List Tk} {x : Str} (h : 0 = cmpU i ts) (hx : cmpS[i]? = some x) (hi : isW x ts = true) : 10 + i = cmpU (i + 1) ts := by
  rw [cmpU, if_pos h.symm, List.getD_eq_getElem?_getD, hx]
  exact (if_pos hi).symm
theorem cmpU_miss {i : Nat} {ts : List Tk} {x : Str} (h : 0 = cmpU i ts) (hx : cmpS[i]? = some x) (hi : isW x ts = false) : 0 = cmpU (i + 1) ts := by
  rw [cmpU, if_pos h.symm, List.getD_eq_getElem?_getD, hx]
  exact (if_neg (by rw [Option.getD_some, hi]; exact Bool.false_ne_true)).symm
theorem cmpU_had {i op : Nat} {ts : List Tk} (h : op = cmpU i ts) (h0 : op ≠ 0) : op = cmpU (i + 1) ts := by
  rw [cmpU, if_neg (by rw [← h]; exact h0)]; exact h
theorem cmpU_ge (i : Nat) (ts : List Tk) : cmpU i ts = 0 ∨ 10 ≤ cmpU i ts := by
  induction i with
  | zero => exact .inl rfl
  | succ i ih =>
    rw [cmpU]
    split
    · split
      · exact .inr (by omega)
      · exact .inl rfl
    · exact ih
theorem cmp_fine : ∀ x ∈ cmpS, x ≠ [] ∧ openB x = false ∧ closeB x = false := by decide
theorem nf {b : Bool} (h : b = false) : ¬ b = true := by rw [h]; exact Bool.false_ne_true
section
variable {z n o : Nat} {ts : List Tk} {e : Ex} {l : List Ex}
theorem pSum_eq : pSum z (n + 1) ts o = andR (pProd z n ts o) fun e r => pSumL z n e r o := by rw [pSum]
theorem pProd_eq : pProd z (n + 1) ts o = andR (pSign z n ts o) fun e r => pProdL z n e r o := by rw [pProd]
theorem pSumL_eq : pSumL z (n + 1) e ts o = if isW [43] ts = true then andR (pProd z n ts.tail o) fun k r => pSumL z n (pair 6 e k) r o else if isW [45] ts = true then andR (pProd z n ts.tail o) fun k r => pSumL z n (pair 7 e k) r o else .ok (e, ts) := by rw [pSumL]
theorem pProdL_eq : pProdL z (n + 1) e ts o = if isW [42] ts = true then andR (pSign z n ts.tail o) fun k r => pProdL z n (pair 8 e k) r o else if isW [47] ts = true then andR (pSign z n ts.tail o) fun k r => pProdL z n (pair 9 e k) r o else .ok (e, ts) := by rw [pProdL]
theorem pSums_eq : pSums z (n + 1) ts o = if isW [41] ts = true then .ok ([], ts) else andR (pSum z n ts o) fun e r => pSumsL z n [e] r o := by rw [pSums]
theorem pSumsL_eq : pSumsL z (n + 1) l ts o = if isW [44] ts = true then andR (pSum z n ts.tail o) fun e r => pSumsL z n (l ++ [e]) r o else .ok (l, ts) := by rw [pSumsL]
def pTail (z n o a : Nat) (nm : Str) (r : List Tk) : Rs Ex :=
  if isW [91] r = true then opn z o [91] r fun r => andR (pSum z n r (o + 1)) fun k r => want z [93] r fun r => .ok (.mk 3 a nm [k], r)
  else if isW [40] r = true then opn z o [40] r fun r => andR (pSums z n r (o + 1)) fun l r => want z [41] r fun r => .ok (.mk 4 a nm l, r)
  else .ok (.mk 2 a nm [], r)
theorem pSign_eq : pSign z (n + 1) ts o = if isW [45] ts = true then opn z o [45] ts fun r => andR (pSign z n r (o + 1)) fun k r => .ok (.mk 5 ((nowT z ts).2.2 : Nat) [] [k], r)
    else if isW [40] ts = true then opn z o [40] ts fun r => andR (pSum z n r (o + 1)) fun e r => want z [41] r fun r => .ok (setAt e ((nowT z ts).2.2 : Nat), r)
    else if (nowT z ts).1 = 2 then (if 400 < (nowT z ts).2.1.length then .error (3, place z ts) else .ok (.mk 1 ((nowT z ts).2.2 : Nat) (nowT z ts).2.1 [], ts.tail))
    else andR (nameX z ts) fun nm r => pTail z n o (nowT z ts).2.2 nm r := by
  cases ts with
  | nil => rw [pSign]; rfl
  | cons t r =>
    rw [pSign]
    split
    · rfl
    · split
      · rfl
      · rw [show nowT z (t :: r) = t from rfl]
        by_cases ht : t.1 = 2
        · rw [if_pos ht, if_pos ht]; rfl
        · rw [if_neg ht, if_neg ht, name_as]; rfl
theorem pStmt_eq : pStmt z (n + 1) ts o = andR (
      if isW [116, 97, 114, 103, 101, 116] ts = true then pAdd z n ts o
      else if isW [102, 111, 114] ts = true then pLoop (fun r => pBody z n r o) z n ts o
      else if isW [105, 102] ts = true then pChoice (fun r => pBody z n r o) z n ts o
      else if isW [123] ts = true then andR (pBody z n ts o) fun b r => .ok (.mk 6 0 [] [] b [], r)
      else pPlain z n ts o) fun s r => .ok (setS s ((nowT z ts).2.2 : Nat), r) := by rw [pStmt]
theorem pBody_eq : pBody z (n + 1) ts o = opn z o [123] ts fun r => andR (pStmts z n [] r (o + 1)) fun l r => want z [125] r fun r => .ok (l, r) := by rw [pBody]
theorem pStmts_eq {l : List Sm} : pStmts z (n + 1) l ts o = if isW [125] ts = true then .ok (l, ts) else andR (pStmt z n ts o) fun s r => pStmts z n (l ++ [s]) r o := by rw [pStmts]
theorem pStmt_1 (h : isW [116, 97, 114, 103, 101, 116] ts = true) : pStmt z (n + 1) ts o = andR (pAdd z n ts o) fun s r => .ok (setS s ((nowT z ts).2.2 : Nat), r) := by rw [pStmt_eq, if_pos h]
theorem pStmt_2 (h : isW [102, 111, 114] ts = true) : pStmt z (n + 1) ts o = andR (pLoop (fun r => pBody z n r o) z n ts o) fun s r => .ok (setS s ((nowT z ts).2.2 : Nat), r) := by rw [pStmt_eq, if_neg (nf (isW_one h (by decide))), if_pos h]
theorem pStmt_3 (h : isW [105, 102] ts = true) : pStmt z (n + 1) ts o = andR (pChoice (fun r => pBody z n r o) z n ts o) fun s r => .ok (setS s ((nowT z ts).2.2 : Nat), r) := by
  rw [pStmt_eq, if_neg (nf (isW_one h (by decide))), if_neg (nf (isW_one h (by decide))), if_pos h]
theorem pStmt_4 (h : isW [123] ts = true) : pStmt z (n + 1) ts o = andR (andR (pBody z n ts o) fun b r => .ok (.mk 6 0 [] [] b [], r)) fun s r => .ok (setS s ((nowT z ts).2.2 : Nat), r) := by
  rw [pStmt_eq, if_neg (nf (isW_one h (by decide))), if_neg (nf (isW_one h (by decide))), if_neg (nf (isW_one h (by decide))), if_pos h]
theorem pStmt_5 (h1 : isW [116, 97, 114, 103, 101, 116] ts = false) (h2 : isW [102, 111, 114] ts = false) (h3 : isW [105, 102] ts = false) (h4 : isW [123] ts = false) : pStmt z (n + 1) ts o = andR (pPlain z n ts o) fun s r => .ok (setS s ((nowT z ts).2.2 : Nat), r) := by
  rw [pStmt_eq, if_neg (nf h1), if_neg (nf h2), if_neg (nf h3), if_neg (nf h4)]
theorem isW_by {x : Str} (hx : x ≠ []) (h1 : (nowT z ts).1 ≠ 2) (h2 : (nowT z ts).2.1 = x) : isW x ts = true := by rw [isW_now hx z]; simp [h1, h2]
theorem isW_num {x : Str} (hx : x ≠ []) (h : (nowT z ts).1 = 2) : isW x ts = false := by rw [isW_now hx z]; simp [h]
theorem isW_other {x : Str} (hx : x ≠ []) (h : (nowT z ts).2.1 ≠ x) : isW x ts = false := by rw [isW_now hx z]; simp [h]
theorem stm_cases (s : Str) : s = [116, 97, 114, 103, 101, 116] ∨ s = [102, 111, 114] ∨ s = [105, 102] ∨ s = [123] ∨ (s ≠ [116, 97, 114, 103, 101, 116] ∧ s ≠ [102, 111, 114] ∧ s ≠ [105, 102] ∧ s ≠ [123]) := by
  by_cases h1 : s = [116, 97, 114, 103, 101, 116]
  · exact .inl h1
  by_cases h2 : s = [102, 111, 114]
  · exact .inr (.inl h2)
  by_cases h3 : s = [105, 102]
  · exact .inr (.inr (.inl h3))
  by_cases h4 : s = [123]
  · exact .inr (.inr (.inr (.inl h4)))
  exact .inr (.inr (.inr (.inr ⟨h1, h2, h3, h4⟩)))
theorem pDecls_eq {first : Bool} {l : List Dc} : pDecls z (n + 1) first l ts o = andR (pDecl z n first ts o) fun d r => if d.1 = true then pDecls z n first (l ++ [d.2]) r o else .ok (l, r) := by rw [pDecls]
theorem pProg_eq {last : Nat} {out : List Bk} : pProg z (n + 1) last out ts = andR (pHead z last ts) fun i r => if i.2 = true then andR (pFill z n i.1 r 0) fun b r => pProg z n (i.1 + 1) (out.set i.1 b) r else .ok (out, r) := by rw [pProg]
theorem pHead_i {last : Nat} {i : Nat × Bool} {r : List Tk} (h : pHead z last ts = .ok (i, r)) : i.1 < 6 ∧ (i.2 = true → last < i.1 + 1) := by
  unfold pHead want at h
  repeat' split at h
  all_goals first
    | (cases h; simp_all; done)
    | cases h
    | (cases h; rename_i q; simp only [Bool.and_eq_true, decide_eq_true_eq] at *; omega)
end
end Go.Prs
end
