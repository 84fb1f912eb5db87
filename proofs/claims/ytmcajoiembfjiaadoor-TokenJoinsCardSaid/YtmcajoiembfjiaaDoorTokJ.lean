/- The plain part of layer token: texts one behind the other. -/
import Derived.Test.YtmcajoiembfjiaaDoorTokM
namespace Go.Tok
/-! a text ahead of a new line -/
theorem atP_pre {p : UInt8 → Bool} {u r : List UInt8} {i : Nat} (hp : p 10 = false) (h : i ≤ u.length) : atP p (u ++ 10 :: r) i = atP p u i := by
  rcases Nat.lt_or_ge i u.length with hl | hl
  · unfold atP; rw [List.getElem?_append_left hl]
  · have : i = u.length := by omega
    subst this
    rw [atP_out (Nat.le_refl _)]
    unfold atP
    rw [List.getElem?_append_right (Nat.le_refl _)]
    simpa using hp
theorem takeWhile_pre {p : UInt8 → Bool} (hp : p 10 = false) (r : List UInt8) : ∀ l : List UInt8, (l ++ 10 :: r).takeWhile p = l.takeWhile p
  | [] => by simp [hp]
  | a :: l => by
    simp only [List.cons_append, List.takeWhile_cons]
    rw [takeWhile_pre hp r l]
theorem runTo_pre {p : UInt8 → Bool} {u r : List UInt8} {i : Nat} (hp : p 10 = false) (h : i ≤ u.length) : runTo p (u ++ 10 :: r) i = runTo p u i := by
  unfold runTo
  rw [List.drop_append_of_le_length h, takeWhile_pre hp]
theorem prefix_pre (r : List UInt8) : ∀ (t l : List UInt8), (10 : UInt8) ∉ t → t.isPrefixOf (l ++ 10 :: r) = t.isPrefixOf l
  | [], _, _ => rfl
  | a :: t, [], h => by
    have : (a == 10) = false := by
      have hh : (10 : UInt8) ≠ a ∧ (10 : UInt8) ∉ t := by simpa [List.mem_cons, not_or] using h
      exact beq_eq_false_iff_ne.2 (Ne.symm hh.1)
    simp [List.isPrefixOf, this]
  | a :: t, b :: l, h => by
    simp only [List.cons_append, List.isPrefixOf]
    rw [prefix_pre r t l (show (10 : UInt8) ≠ a ∧ (10 : UInt8) ∉ t by simpa [List.mem_cons, not_or] using h).2]
theorem sign_pre {u r : List UInt8} {i : Nat} (h : i ≤ u.length) : signLen (u ++ 10 :: r) i = signLen u i := by
  have hall : ∀ t ∈ signsL, (10 : UInt8) ∉ t := by decide +kernel
  have : signOf (u ++ 10 :: r) i = signOf u i := by
    unfold signOf
    rw [List.drop_append_of_le_length h]
    have key : ∀ L : List (List UInt8), (∀ t ∈ L, (10 : UInt8) ∉ t) → L.find? (fun t => t.isPrefixOf (u.drop i ++ 10 :: r)) = L.find? (fun t => t.isPrefixOf (u.drop i)) := by
      intro L
      induction L with
      | nil => intro _; rfl
      | cons t L ih =>
        intro hL
        rw [List.find?_cons, List.find?_cons, prefix_pre r t _ (hL t (.head _)), ih (fun t ht => hL t (.tail _ ht))]
    exact key _ hall
  unfold signLen; rw [this]
theorem numDot_pre {u r : List UInt8} {i : Nat} (h : i ≤ u.length) : numDot (u ++ 10 :: r) i = numDot u i := by
  unfold numDot
  rw [atP_pre (by decide) h]
  cases h1 : atP (eqB 46) u i with
  | false => simp
  | true =>
    have := atP_lt h1
    rw [atP_pre (by decide) (by omega : i + 1 ≤ u.length), runTo_pre (by decide) (by omega : i + 1 ≤ u.length)]
theorem numTens_pre {u r : List UInt8} {i : Nat} (h : i ≤ u.length) : numTens (u ++ 10 :: r) i = numTens u i := by
  unfold numTens
  rw [atP_pre (by decide) h]
  cases h1 : atP (eqB 101) u i with
  | false => simp
  | true =>
    have h2 := atP_lt h1
    rw [atP_pre (by decide) (by omega : i + 1 ≤ u.length), runTo_pre (by decide) (by omega : i + 1 ≤ u.length), atP_pre (by decide) (by omega : i + 1 ≤ u.length)]
    cases h3 : atP pmB u (i + 1) with
    | false => simp
    | true =>
      have h4 := atP_lt h3
      rw [atP_pre (by decide) (by omega : i + 2 ≤ u.length), runTo_pre (by decide) (by omega : i + 2 ≤ u.length)]
theorem num_pre {u r : List UInt8} {i : Nat} (h : i ≤ u.length) : numEnd (u ++ 10 :: r) i = numEnd u i ∧ numFine (u ++ 10 :: r) i = numFine u i := by
  have h1 := runTo_le (p := digitB) h
  have h2 := numDot_le h1
  have h3 := numTens_le h2.1
  have e1 : numEnd (u ++ 10 :: r) i = numEnd u i := by
    unfold numEnd
    rw [runTo_pre (by decide) h, numDot_pre h1, numTens_pre h2.1]
  refine ⟨e1, ?_⟩
  unfold numFine
  rw [e1, runTo_pre (by decide) h, numDot_pre h1, numTens_pre h2.1, atP_pre (by decide) (numEnd_le h).1]
theorem tok_pre {u r : List UInt8} {i : Nat} (h : i ≤ u.length) : tokAt (u ++ 10 :: r) i = tokAt u i := by
  unfold tokAt nameB
  rw [atP_pre (by decide) h, atP_pre (by decide) h, atP_pre (by decide) h, runTo_pre (by decide) h, (num_pre h).1, (num_pre h).2, sign_pre h]
theorem tx_pre {u r : List UInt8} {i : Nat} (h : i ≤ u.length) : tokTx (u ++ 10 :: r) i = tokTx u i := by
  have h1 := tok_le h
  unfold tokTx
  rw [tok_pre h, List.drop_append_of_le_length h, List.take_append_of_le_length (by simp; omega)]
theorem cmt_pre {u r : List UInt8} {i : Nat} (h : i ≤ u.length) : cmt (u ++ 10 :: r) i = cmt u i := by
  unfold cmt
  rw [atP_pre (by decide) h]
  cases h1 : atP (eqB 47) u i with
  | false => simp
  | true =>
    have := atP_lt h1
    rw [atP_pre (by decide) (by omega : i + 1 ≤ u.length)]
/-- blanks: to the same place, or over the new line -/
theorem blank_pre {u r : List UInt8} {i : Nat} (h : i ≤ u.length) : runTo blankB (u ++ 10 :: r) i = if runTo blankB u i < u.length then runTo blankB u i else runTo blankB (u ++ 10 :: r) (u.length + 1) := by
  generalize hk : u.length - i = k
  induction k generalizing i with
  | zero =>
    have : i = u.length := by omega
    subst this
    have h1 : runTo blankB u u.length = u.length := runTo_stop (atP_out (Nat.le_refl _))
    rw [h1, if_neg (by omega), runTo_step]
    unfold atP
    rw [List.getElem?_append_right (Nat.le_refl _)]; simp [blankB]
  | succ k ih =>
    have hl : i < u.length := by omega
    have e1 : atP blankB (u ++ 10 :: r) i = atP blankB u i := by unfold atP; rw [List.getElem?_append_left hl]
    cases hb : atP blankB u i with
    | true => rw [runTo_step hb, runTo_step (e1.trans hb)]; exact ih (by omega) (by omega)
    | false => rw [runTo_stop hb, runTo_stop (e1.trans hb), if_pos hl]
theorem skip_pre {u r : List UInt8} : ∀ {i : Nat}, i ≤ u.length → skipTo (u ++ 10 :: r) i = if skipTo u i < u.length then skipTo u i else skipTo (u ++ 10 :: r) (u.length + 1) := by
  intro i
  generalize hk : u.length - i = k
  induction k using Nat.strongRecOn generalizing i with
  | _ k ih =>
    intro hi
    have hlen : (u ++ 10 :: r).length = u.length + 1 + r.length := by simp; omega
    have hb := blank_pre (r := r) hi
    have hbl := runTo_le (p := blankB) hi
    rw [skipTo_eq (s := u) hi, skipTo_eq (s := u ++ 10 :: r) (by omega)]
    rcases Nat.lt_or_ge (runTo blankB u i) u.length with hl | hl
    · rw [if_pos hl] at hb
      rw [hb, cmt_pre hbl]
      split
      · rename_i hc
        have h1 := cmt_run hc
        have h2 := runTo_ge blankB u i
        rw [runTo_pre (by decide) hbl]
        exact ih _ (by omega) rfl (runTo_le hbl)
      · first | rw [if_pos hl] | rfl
    · rw [if_neg (by omega)] at hb
      have he : runTo blankB u i = u.length := by omega
      have hc : cmt u u.length = false := by rw [cmt, atP_out (Nat.le_refl _)]; rfl
      rw [hb, he, hc]
      simp only [Bool.false_eq_true, if_false, Nat.lt_irrefl]
      rw [skipTo_eq (s := u ++ 10 :: r) (i := u.length + 1) (by omega)]
end Go.Tok
namespace Go.Tok
/-! a text behind another: places move -/
variable {u v : List UInt8}
theorem atP_sh (p : UInt8 → Bool) (i : Nat) : atP p (u ++ v) (u.length + i) = atP p v i := by
  unfold atP
  rw [List.getElem?_append_right (Nat.le_add_right _ _), Nat.add_sub_cancel_left]
theorem drop_sh (i : Nat) : (u ++ v).drop (u.length + i) = v.drop i := by
  rw [List.drop_append]; simp
theorem runTo_sh (p : UInt8 → Bool) (i : Nat) : runTo p (u ++ v) (u.length + i) = u.length + runTo p v i := by
  unfold runTo; rw [drop_sh]; omega
theorem cmt_sh (i : Nat) : cmt (u ++ v) (u.length + i) = cmt v i := by
  unfold cmt; rw [atP_sh, Nat.add_assoc, atP_sh]
theorem skipF_sh : ∀ (f i : Nat), skipF f (u ++ v) (u.length + i) = u.length + skipF f v i
  | 0, _ => rfl
  | f + 1, i => by
    unfold skipF
    rw [runTo_sh, cmt_sh, runTo_sh, skipF_sh f]
    split <;> rfl
theorem skip_sh (i : Nat) : skipTo (u ++ v) (u.length + i) = u.length + skipTo v i := by
  unfold skipTo
  rw [List.length_append, show u.length + v.length + 1 - (u.length + i) = v.length + 1 - i by omega, skipF_sh]
theorem numDot_sh (i : Nat) : numDot (u ++ v) (u.length + i) = u.length + numDot v i := by
  unfold numDot
  rw [Nat.add_assoc, atP_sh, atP_sh, runTo_sh]
  split <;> rfl
theorem numTens_sh (i : Nat) : numTens (u ++ v) (u.length + i) = ((numTens v i).1, u.length + (numTens v i).2) := by
  unfold numTens
  rw [Nat.add_assoc, Nat.add_assoc, atP_sh, atP_sh, atP_sh, atP_sh, runTo_sh, runTo_sh]
  split
  · simp only [Prod.mk.injEq, and_true]; omega
  · split
    · simp only [Prod.mk.injEq, and_true]; omega
    · rfl
theorem num_sh (i : Nat) : numEnd (u ++ v) (u.length + i) = u.length + numEnd v i ∧ numFine (u ++ v) (u.length + i) = numFine v i := by
  have e1 : numEnd (u ++ v) (u.length + i) = u.length + numEnd v i := by
    unfold numEnd; rw [runTo_sh, numDot_sh, numTens_sh]
  refine ⟨e1, ?_⟩
  unfold numFine
  rw [e1, runTo_sh, numDot_sh, numTens_sh, atP_sh]
theorem sign_sh (i : Nat) : signLen (u ++ v) (u.length + i) = signLen v i := by
  unfold signLen signOf; rw [drop_sh]
theorem tok_sh (i : Nat) : tokAt (u ++ v) (u.length + i) = ((tokAt v i).1, u.length + (tokAt v i).2.1, (tokAt v i).2.2) := by
  unfold tokAt nameB
  rw [atP_sh, atP_sh, atP_sh, runTo_sh, (num_sh i).1, (num_sh i).2, sign_sh]
  split
  · rfl
  · split
    · rfl
    · split
      · rfl
      · simp only [Prod.mk.injEq, and_true, true_and]; omega
theorem tx_sh (i : Nat) : tokTx (u ++ v) (u.length + i) = tokTx v i := by
  unfold tokTx
  rw [tok_sh, drop_sh]
  congr 1
  simp only; omega
end Go.Tok
