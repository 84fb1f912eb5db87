/- Layer 13, ParseBlanks: what the claim imports, merged. Part 15 of 15. -/
import Derived.Test.YtaniogadknakoaaGreatDoorB14
import Derived.Test.YtaniogadknakoaaGreatDoorB04
import Derived.Test.YtaniogadknakoaaGreatDoorB05
import Derived.Test.YtaniogadknakoaaGreatDoorB02
import Derived.ChangeArms
import Derived.OpenShut
import Derived.ChangeSlices
import Derived.Carry
import Derived.HandedShaped
import Derived.Handed
import Derived.Test.YtaniogadknakoaaGreatDoorRows
import Derived.Deep.DeepHandedRow
import Derived.ProofKit
import Derived.LaidMore
import Derived.Shelf.Vars
import Derived.Stop.Joined
import Derived.Test.YtaniogadknakoaaGreatDoorTie
import Derived.Test.YtaniogadknakoaaGreatDoorCards
import Derived.SevenTiedAt
section
/- The plain part of layer token: the tokens of a text with blanks between them. -/
namespace Go.Tok
theorem letter_blank (b : UInt8) : letterB b = true → blankB b = false ∧ eqB 47 b = false := byte_all (fun b => letterB b = true → blankB b = false ∧ eqB 47 b = false) (by decide +kernel) b
theorem digit_blank (b : UInt8) : digitB b = true → blankB b = false ∧ eqB 47 b = false := byte_all (fun b => digitB b = true → blankB b = false ∧ eqB 47 b = false) (by decide +kernel) b
theorem at_two {p q : UInt8 → Bool} {s : List UInt8} {i : Nat} (h : ∀ b, p b = true → q b = false) (ha : atP p s i = true) : atP q s i = false := by
  have hl := atP_lt ha
  rw [atP_in hl] at ha ⊢
  exact h _ ha
/-- a token alone before a blank or the end reads as it did -/
theorem tok_cut {s R : List UInt8} {k e kd : Nat} (hR : Bl R) (hk : k ≤ s.length) (h : tokAt s k = (kd, e, true)) :
    tokAt ((s.drop k).take (e - k) ++ R) 0 = (kd, e - k, true) ∧ atP blankB ((s.drop k).take (e - k) ++ R) 0 = false ∧ cmt ((s.drop k).take (e - k) ++ R) 0 = false := by
  have h1 := tok_le hk
  rw [h] at h1
  simp only at h1
  have hke : k < e := h1.2.2 trivial
  have he := h1.2.1
  have z : ∀ p : UInt8 → Bool, p 32 = false → atP p ((s.drop k).take (e - k) ++ R) 0 = atP p s k := fun p hp => by
    have := bl_cut (k := k) (i := 0) (p := p) hR hp he (by omega)
    rw [if_pos (by omega), Nat.add_zero] at this
    exact this
  have zn : nameB ((s.drop k).take (e - k) ++ R) 0 = nameB s k := by unfold nameB; rw [z _ (by decide), z _ (by decide)]
  unfold tokAt at h
  split at h
  · rename_i hn
    simp only [Prod.mk.injEq, and_true] at h
    obtain ⟨rfl, hr⟩ := h
    have e1 := run_cut' (p := wordB) (i := 0) (j := k) hR (by decide) he (Nat.le_refl _) (by omega) (by omega) (by omega)
    have hn2 := hn
    simp only [nameB, Bool.and_eq_true] at hn2
    refine ⟨?_, ?_, ?_⟩
    · rw [tokAt, if_pos (zn.trans hn), e1, hr]
    · have := at_two (fun b hb => (letter_blank b hb).1) ((z letterB (by decide)).trans hn2.1)
      exact this
    · rw [cmt, at_two (fun b hb => (letter_blank b hb).2) ((z letterB (by decide)).trans hn2.1)]; rfl
  · rename_i hn
    split at h
    · rename_i hd
      simp only [Prod.mk.injEq] at h
      obtain ⟨rfl, hr, hf⟩ := h
      have e1 := num_cut (k := k) hR he (by omega) hr hf
      refine ⟨?_, ?_, ?_⟩
      · rw [tokAt, if_neg (by rw [zn]; exact hn), if_pos ((z digitB (by decide)).trans hd), e1.1, e1.2]
      · exact at_two (fun b hb => (digit_blank b hb).1) ((z digitB (by decide)).trans hd)
      · rw [cmt, at_two (fun b hb => (digit_blank b hb).2) ((z digitB (by decide)).trans hd)]; rfl
    · rename_i hd
      split at h
      · simp at h
      · rename_i hs
        simp only [Prod.mk.injEq, and_true] at h
        obtain ⟨rfl, hr⟩ := h
        cases ho : signOf s k with
        | none => exact absurd (by simp [signLen, ho]) hs
        | some t =>
          have hL : signLen s k = t.length := by simp [signLen, ho]
          have hmem : t ∈ signsL := List.mem_of_find?_eq_some ho
          have hpre0 := List.find?_some ho
          have hpre := List.isPrefixOf_iff_prefix.1 hpre0
          have ht : (s.drop k).take (e - k) = t := by
            rw [show e - k = t.length by omega]
            exact (List.prefix_iff_eq_take.1 hpre).symm
          have ha := sign_alone hR t hmem
          rw [ht] at z zn ⊢
          refine ⟨?_, ha.2.1, ha.2.2⟩
          have hs2 : signLen (t ++ R) 0 = t.length := by
            unfold signLen signOf
            rw [List.drop_zero, ha.1]; rfl
          rw [tokAt, if_neg (by rw [zn]; exact hn), if_neg (by rw [z _ (by decide)]; exact hd), if_neg (by rw [hs2]; omega), hs2]
          simp only [Prod.mk.injEq, and_true, true_and]; omega
end Go.Tok
end

section
/- The plain part of layer token: the tokens of a text with blanks between them. -/
namespace Go.Tok
def Jn (ts : List Tk) : List UInt8 := ts.flatMap fun t => 32 :: t.2.1
def kt (t : Tk) : Nat × List UInt8 := (t.1, t.2.1)
def Good (t : Tk) : Prop := ∃ s k e, k ≤ s.length ∧ tokAt s k = (t.1, e, true) ∧ t.2.1 = (s.drop k).take (e - k)
theorem chain_good {s : List UInt8} : ∀ {i : Nat} {ts : List Tk}, Chain s i ts → ∀ t ∈ ts, Good t := by
  intro i ts h
  induction h with
  | nil i => intro t ht; exact (List.not_mem_nil ht).elim
  | @cons i e kd ts hi hl htk _ ih =>
    intro t ht
    rcases List.mem_cons.1 ht with rfl | ht
    · exact ⟨s, skipTo s i, e, (skipTo_le hi).1, htk, by unfold tokTx; rw [htk]⟩
    · exact ih t ht
end Go.Tok
end

section
/- The plain part of layer token: a token alone, before a blank, a tab, a line's end, or at the end (TokW, with the tab). -/
namespace Go.Tok.B
open Go.Tok
/-! a token alone, before a blank or at the end -/
def Bl (R : List UInt8) : Prop := R = [] ∨ ∃ c r, (c = 32 ∨ c = 10 ∨ c = 9) ∧ R = c :: r
theorem bl_at {p : UInt8 → Bool} {t R : List UInt8} {i : Nat} (hR : Bl R) (hp : p 32 = false ∧ p 10 = false ∧ p 9 = false) (h : i ≤ t.length) : atP p (t ++ R) i = atP p t i := by
  rcases Nat.lt_or_ge i t.length with hl | hl
  · unfold atP; rw [List.getElem?_append_left hl]
  · have : i = t.length := by omega
    subst this
    rw [atP_out (Nat.le_refl _)]
    rcases hR with rfl | ⟨c, r, hc, rfl⟩
    · rw [List.append_nil]; exact atP_out (Nat.le_refl _)
    · unfold atP; rw [List.getElem?_append_right (Nat.le_refl _)]; rcases hc with rfl | rfl | rfl <;> simp [hp]
/-- at a place up to the end of the token: as in s, or false at the end itself -/
theorem bl_cut {p : UInt8 → Bool} {s R : List UInt8} {k e i : Nat} (hR : Bl R) (hp : p 32 = false ∧ p 10 = false ∧ p 9 = false) (he : e ≤ s.length) (h : k + i ≤ e) : atP p ((s.drop k).take (e - k) ++ R) i = if k + i < e then atP p s (k + i) else false := by
  have hl := cut_len he (by omega : k ≤ e)
  rw [bl_at hR hp (by omega)]
  split
  · rename_i h2; exact cut_at he h2
  · exact atP_out (by omega)
theorem run_cut {p : UInt8 → Bool} {s R : List UInt8} {k e : Nat} (hR : Bl R) (hp : p 32 = false ∧ p 10 = false ∧ p 9 = false) (he : e ≤ s.length) : ∀ (m i : Nat), m = e - (k + i) → k + i ≤ e → runTo p s (k + i) ≤ e → k + runTo p ((s.drop k).take (e - k) ++ R) i = runTo p s (k + i) := by
  intro m
  induction m with
  | zero =>
    intro i hm hi h
    have hg := runTo_ge p s (k + i)
    rw [runTo_stop (by rw [bl_cut hR hp he hi, if_neg (by omega)])]; omega
  | succ m ih =>
    intro i hm hi h
    have hb := bl_cut (i := i) hR hp he hi
    rw [if_pos (by omega)] at hb
    cases ha : atP p s (k + i) with
    | true =>
      rw [runTo_step ha, runTo_step (hb.trans ha)]
      exact ih (i + 1) (by omega) (by omega) (by rw [← Nat.add_assoc, ← runTo_step ha]; exact h)
    | false => rw [runTo_stop ha, runTo_stop (hb.trans ha)]

theorem and_cut {p q : UInt8 → Bool} {s R : List UInt8} {k e j i : Nat} (hR : Bl R) (hp : p 32 = false ∧ p 10 = false ∧ p 9 = false) (hq : q 32 = false ∧ q 10 = false ∧ q 9 = false) (he : e ≤ s.length) (hk : k ≤ j) (h : j ≤ e) (hi : i = j - k) (hend : (atP p s j && atP q s (j + 1)) = true → j + 2 ≤ e) :
    (atP p ((s.drop k).take (e - k) ++ R) i && atP q ((s.drop k).take (e - k) ++ R) (i + 1)) = (atP p s j && atP q s (j + 1)) := by
  subst hi
  have b1 := bl_cut (k := k) (i := j - k) hR hp he (by omega)
  rw [show k + (j - k) = j by omega] at b1
  rw [b1]
  split
  · rename_i h1
    have b2 := bl_cut (k := k) (i := j - k + 1) hR hq he (by omega)
    rw [show k + (j - k + 1) = j + 1 by omega] at b2
    rw [b2]
    split
    · rfl
    · cases hc : (atP p s j && atP q s (j + 1)) with
      | true => have := hend hc; omega
      | false => simp
  · cases hc : (atP p s j && atP q s (j + 1)) with
    | true => have := hend hc; omega
    | false => simp
theorem run_cut' {p : UInt8 → Bool} {s R : List UInt8} {k e j i : Nat} (hR : Bl R) (hp : p 32 = false ∧ p 10 = false ∧ p 9 = false) (he : e ≤ s.length) (hk : k ≤ j) (h : j ≤ e) (hi : i = j - k) (hr : runTo p s j ≤ e) : runTo p ((s.drop k).take (e - k) ++ R) i = runTo p s j - k := by
  subst hi
  have := run_cut (k := k) (i := j - k) hR hp he _ rfl (by omega) (by rw [show k + (j - k) = j by omega]; exact hr)
  rw [show k + (j - k) = j by omega] at this
  omega
theorem dot_cut {s R : List UInt8} {k e j i : Nat} (hR : Bl R) (he : e ≤ s.length) (hk : k ≤ j) (h : j ≤ e) (hi : i = j - k) (hr : numDot s j ≤ e) : numDot ((s.drop k).take (e - k) ++ R) i = numDot s j - k := by
  have ha := and_cut (p := eqB 46) (q := digitB) hR (by decide) (by decide) he hk h hi (fun hc => by
    unfold numDot at hr
    rw [if_pos hc] at hr
    simp only [Bool.and_eq_true] at hc
    have h1 := runTo_step hc.2
    have h2 := runTo_ge digitB s (j + 1 + 1)
    omega)
  unfold numDot at hr ⊢
  rw [ha]
  split
  · rename_i hc
    rw [if_pos hc] at hr
    exact run_cut' hR (by decide) he (by omega) (by have := runTo_ge digitB s (j + 1); omega) (by omega) hr
  · exact hi
theorem tens_cut {s R : List UInt8} {k e j i : Nat} (hR : Bl R) (he : e ≤ s.length) (hk : k ≤ j) (h : j ≤ e) (hi : i = j - k) (hr : (numTens s j).2 = e) : numTens ((s.drop k).take (e - k) ++ R) i = ((numTens s j).1, e - k) := by
  by_cases c1 : (atP (eqB 101) s j && atP digitB s (j + 1)) = true
  · have hs : numTens s j = (runTo digitB s (j + 1) - (j + 1), runTo digitB s (j + 1)) := by unfold numTens; rw [if_pos c1]
    rw [hs] at hr ⊢
    simp only at hr ⊢
    have c1' := c1
    simp only [Bool.and_eq_true] at c1'
    have h1 := runTo_step c1'.2
    have h2 := runTo_ge digitB s (j + 1 + 1)
    have ha := and_cut (p := eqB 101) (q := digitB) hR (by decide) (by decide) he hk h hi (fun _ => by omega)
    have hrun := run_cut' (p := digitB) (i := i + 1) hR (by decide) he (by omega : k ≤ j + 1) (by omega) (by omega) (by omega)
    unfold numTens
    rw [ha, if_pos c1, hrun, hr]
    simp only [Prod.mk.injEq, and_true]; omega
  · by_cases c2 : (atP (eqB 101) s j && (atP pmB s (j + 1) && atP digitB s (j + 2))) = true
    · have hs : numTens s j = (runTo digitB s (j + 2) - (j + 2), runTo digitB s (j + 2)) := by unfold numTens; rw [if_neg c1, if_pos c2]
      rw [hs] at hr ⊢
      simp only at hr ⊢
      have c2' := c2
      simp only [Bool.and_eq_true] at c2'
      have h1 := runTo_step c2'.2.2
      have h2 := runTo_ge digitB s (j + 2 + 1)
      have ha := and_cut (p := eqB 101) (q := digitB) hR (by decide) (by decide) he hk h hi (fun hc => absurd hc c1)
      have b0 := bl_cut (p := eqB 101) (k := k) (i := i) hR (by decide) he (by omega : k + i ≤ e)
      have b1 := bl_cut (p := pmB) (k := k) (i := i + 1) hR (by decide) he (by omega : k + (i + 1) ≤ e)
      have b2 := bl_cut (p := digitB) (k := k) (i := i + 2) hR (by decide) he (by omega : k + (i + 2) ≤ e)
      rw [if_pos (by omega), show k + i = j by omega] at b0
      rw [if_pos (by omega), show k + (i + 1) = j + 1 by omega] at b1
      rw [if_pos (by omega), show k + (i + 2) = j + 2 by omega] at b2
      have hrun := run_cut' (p := digitB) (i := i + 2) hR (by decide) he (by omega : k ≤ j + 2) (by omega) (by omega) (by omega)
      unfold numTens
      rw [ha, if_neg c1, b0, b1, b2, if_pos c2, hrun, hr]
      simp only [Prod.mk.injEq, and_true]; omega
    · have hs : numTens s j = (0, j) := by unfold numTens; rw [if_neg c1, if_neg c2]
      rw [hs] at hr ⊢
      simp only at hr ⊢
      have b0 := bl_cut (p := eqB 101) (k := k) (i := i) hR (by decide) he (by omega : k + i ≤ e)
      rw [if_neg (by omega)] at b0
      unfold numTens
      rw [b0]
      simp only [Bool.false_and, Bool.false_eq_true, if_false, Prod.mk.injEq, true_and]
      omega
theorem num_cut {s R : List UInt8} {k e : Nat} (hR : Bl R) (he : e ≤ s.length) (hk : k ≤ e) (hn : numEnd s k = e) (hf : numFine s k = true) : numEnd ((s.drop k).take (e - k) ++ R) 0 = e - k ∧ numFine ((s.drop k).take (e - k) ++ R) 0 = true := by
  have h1 := runTo_le (p := digitB) (s := s) (i := k) (by omega)
  have h2 := numDot_le h1
  have h3 := numTens_le h2.1
  have g1 := runTo_ge digitB s k
  unfold numEnd at hn
  have e1 := run_cut' (p := digitB) (i := 0) (j := k) hR (by decide) he (Nat.le_refl _) hk (by omega) (by omega)
  have e2 := dot_cut (i := runTo digitB s k - k) (j := runTo digitB s k) hR he g1 (by omega) rfl (by omega)
  have e3 := tens_cut (i := numDot s (runTo digitB s k) - k) (j := numDot s (runTo digitB s k)) hR he (by omega) (by omega) rfl hn
  have hE : numEnd ((s.drop k).take (e - k) ++ R) 0 = e - k := by unfold numEnd; rw [e1, e2, e3]
  refine ⟨hE, ?_⟩
  unfold numFine at hf ⊢
  rw [hE, e1, e2, e3]
  simp only [Bool.and_eq_true] at hf
  have b := bl_cut (p := tailB) (k := k) (i := e - k) hR (by decide) he (by omega : k + (e - k) ≤ e)
  rw [if_neg (by omega)] at b
  rw [b]
  simp only [Bool.and_eq_true]
  exact ⟨hf.1, rfl⟩
theorem sign_alone {R : List UInt8} (hR : Bl R) : ∀ t ∈ signsL, signsL.find? (fun x => x.isPrefixOf (t ++ R)) = some t ∧ atP blankB (t ++ R) 0 = false ∧ cmt (t ++ R) 0 = false := by
  intro t ht
  rcases hR with rfl | ⟨c, r, hc, rfl⟩
  · rw [List.append_nil]
    revert t; decide +kernel
  · simp only [signsL, List.mem_cons, List.not_mem_nil, or_false] at ht
    rcases hc with rfl | rfl | rfl <;> rcases ht with rfl | rfl | rfl | rfl | rfl | rfl | rfl | rfl | rfl | rfl | rfl | rfl | rfl | rfl | rfl | rfl | rfl | rfl | rfl | rfl | rfl | rfl <;>
      exact ⟨by simp [signsL, List.find?, List.isPrefixOf], by simp [atP, blankB], by simp [cmt, atP, eqB]⟩

theorem tok_cut {s R : List UInt8} {k e kd : Nat} (hR : Bl R) (hk : k ≤ s.length) (h : tokAt s k = (kd, e, true)) :
    tokAt ((s.drop k).take (e - k) ++ R) 0 = (kd, e - k, true) ∧ atP blankB ((s.drop k).take (e - k) ++ R) 0 = false ∧ cmt ((s.drop k).take (e - k) ++ R) 0 = false := by
  have h1 := tok_le hk
  rw [h] at h1
  simp only at h1
  have hke : k < e := h1.2.2 trivial
  have he := h1.2.1
  have z : ∀ p : UInt8 → Bool, p 32 = false ∧ p 10 = false ∧ p 9 = false → atP p ((s.drop k).take (e - k) ++ R) 0 = atP p s k := fun p hp => by
    have := bl_cut (k := k) (i := 0) (p := p) hR hp he (by omega)
    rw [if_pos (by omega), Nat.add_zero] at this
    exact this
  have zn : nameB ((s.drop k).take (e - k) ++ R) 0 = nameB s k := by unfold nameB; rw [z _ (by decide), z _ (by decide)]
  unfold tokAt at h
  split at h
  · rename_i hn
    simp only [Prod.mk.injEq, and_true] at h
    obtain ⟨rfl, hr⟩ := h
    have e1 := run_cut' (p := wordB) (i := 0) (j := k) hR (by decide) he (Nat.le_refl _) (by omega) (by omega) (by omega)
    have hn2 := hn
    simp only [nameB, Bool.and_eq_true] at hn2
    refine ⟨?_, ?_, ?_⟩
    · rw [tokAt, if_pos (zn.trans hn), e1, hr]
    · have := at_two (fun b hb => (letter_blank b hb).1) ((z letterB (by decide)).trans hn2.1)
      exact this
    · rw [cmt, at_two (fun b hb => (letter_blank b hb).2) ((z letterB (by decide)).trans hn2.1)]; rfl
  · rename_i hn
    split at h
    · rename_i hd
      simp only [Prod.mk.injEq] at h
      obtain ⟨rfl, hr, hf⟩ := h
      have e1 := num_cut (k := k) hR he (by omega) hr hf
      refine ⟨?_, ?_, ?_⟩
      · rw [tokAt, if_neg (by rw [zn]; exact hn), if_pos ((z digitB (by decide)).trans hd), e1.1, e1.2]
      · exact at_two (fun b hb => (digit_blank b hb).1) ((z digitB (by decide)).trans hd)
      · rw [cmt, at_two (fun b hb => (digit_blank b hb).2) ((z digitB (by decide)).trans hd)]; rfl
    · rename_i hd
      split at h
      · simp at h
      · rename_i hs
        simp only [Prod.mk.injEq, and_true] at h
        obtain ⟨rfl, hr⟩ := h
        cases ho : signOf s k with
        | none => exact absurd (by simp [signLen, ho]) hs
        | some t =>
          have hL : signLen s k = t.length := by simp [signLen, ho]
          have hmem : t ∈ signsL := List.mem_of_find?_eq_some ho
          have hpre0 := List.find?_some ho
          have hpre := List.isPrefixOf_iff_prefix.1 hpre0
          have ht : (s.drop k).take (e - k) = t := by
            rw [show e - k = t.length by omega]
            exact (List.prefix_iff_eq_take.1 hpre).symm
          have ha := sign_alone hR t hmem
          rw [ht] at z zn ⊢
          refine ⟨?_, ha.2.1, ha.2.2⟩
          have hs2 : signLen (t ++ R) 0 = t.length := by
            unfold signLen signOf
            rw [List.drop_zero, ha.1]; rfl
          rw [tokAt, if_neg (by rw [zn]; exact hn), if_neg (by rw [z _ (by decide)]; exact hd), if_neg (by rw [hs2]; omega), hs2]
          simp only [Prod.mk.injEq, and_true, true_and]; omega

end Go.Tok.B
end

section
/- The plain part of layer token: tokens with blanks and remarks between them. -/
namespace Go.Tok.B
open Go.Tok
/-- what may stand between tokens -/
def bls : List (List UInt8) := [[32], [10], [9, 47, 47, 32, 120, 10], [32, 32]]
def Jb (xs : List (List UInt8 × Tk)) : List UInt8 := xs.flatMap fun x => x.1 ++ x.2.2.1
theorem bl_Jb : ∀ xs : List (List UInt8 × Tk), (∀ x ∈ xs, x.1 ∈ bls) → Bl (Jb xs)
  | [], _ => .inl rfl
  | (b, t) :: xs, h => by
    have hb := h (b, t) (.head _)
    simp only [bls, List.mem_cons, List.not_mem_nil, or_false] at hb
    refine .inr ?_
    rcases hb with rfl | rfl | rfl | rfl
    · exact ⟨32, t.2.1 ++ Jb xs, .inl rfl, by simp [Jb]⟩
    · exact ⟨10, t.2.1 ++ Jb xs, .inr (.inl rfl), by simp [Jb]⟩
    · exact ⟨9, [47, 47, 32, 120, 10] ++ (t.2.1 ++ Jb xs), .inr (.inr rfl), by simp [Jb]⟩
    · exact ⟨32, 32 :: (t.2.1 ++ Jb xs), .inl rfl, by simp [Jb]⟩
/-- blanks are skipped -/
theorem skip_bls {b R : List UInt8} (hb : b ∈ bls) (h0 : skipTo R 0 = 0) : skipTo (b ++ R) 0 = b.length := by
  have one : ∀ (c : UInt8) (S : List UInt8), blankB c = true → skipTo (c :: S) 0 = 1 + skipTo S 0 := fun c S hc => by
    rw [skip_blank (by simp) (by simp [atP, hc])]
    have := skip_sh (u := [c]) (v := S) 0
    simpa using this
  simp only [bls, List.mem_cons, List.not_mem_nil, or_false] at hb
  rcases hb with rfl | rfl | rfl | rfl
  · show skipTo (32 :: R) 0 = 1
    rw [one 32 R (by decide), h0]
  · show skipTo (10 :: R) 0 = 1
    rw [one 10 R (by decide), h0]
  · show skipTo (9 :: 47 :: 47 :: 32 :: 120 :: 10 :: R) 0 = 6
    rw [one 9 _ (by decide), skip_cmt (by simp) (by simp [atP, blankB]) (by simp [cmt, atP, eqB])]
    have hr : runTo notNl (47 :: 47 :: 32 :: 120 :: 10 :: R) 0 = 4 := by
      rw [runTo_step (by simp [atP, notNl]), runTo_step (by simp [atP, notNl]), runTo_step (by simp [atP, notNl]), runTo_step (by simp [atP, notNl]), runTo_stop (by simp [atP, notNl])]
    rw [hr, skip_blank (by simp) (by simp [atP, blankB])]
    have := skip_sh (u := [47, 47, 32, 120, 10]) (v := R) 0
    rw [h0] at this
    simp only [List.cons_append, List.nil_append, List.length_cons, List.length_nil, Nat.add_zero] at this
    rw [this]
  · show skipTo (32 :: 32 :: R) 0 = 2
    rw [one 32 _ (by decide), one 32 R (by decide), h0]
theorem lex_B : ∀ (xs : List (List UInt8 × Tk)), (∀ x ∈ xs, x.1 ∈ bls ∧ Good x.2) → ∀ (u : List UInt8) (x : Rd), x.2 = (0, 0) → x.1.length + xs.length ≤ 6000 →
    ∃ l, lexS readN (u ++ Jb xs) (skipTo (u ++ Jb xs) u.length) x = (x.1 ++ l, 0, 0) ∧ l.map kt = xs.map (fun x => kt x.2)
  | [], _, u, x, h0, _ => by
    have hJ : Jb [] = [] := rfl
    have hs : skipTo u u.length = u.length := skip_stop (Nat.le_refl _) (atP_out (Nat.le_refl _)) (by rw [cmt, atP_out (Nat.le_refl _)]; rfl)
    refine ⟨[], ?_, rfl⟩
    rw [hJ, List.append_nil, hs, lexS_stop readN (by omega), List.append_nil, ← h0]
  | (b, t) :: xs, hg, u, x, h0, hn => by
    obtain ⟨hb, s, k, e, hk, htk, htx⟩ := hg (b, t) (.head _)
    dsimp only at hb htk htx
    have h1 := tok_le hk
    rw [htk] at h1
    simp only at h1
    have hke : k < e := h1.2.2 trivial
    have he := h1.2.1
    have hc := tok_cut (bl_Jb xs (fun x hx => (hg x (.tail _ hx)).1)) hk htk
    rw [← htx] at hc
    have hlen : t.2.1.length = e - k := by rw [htx]; exact cut_len he (by omega)
    have hw : u ++ Jb ((b, t) :: xs) = (u ++ b) ++ (t.2.1 ++ Jb xs) := by simp [Jb]
    have hw2 : u ++ Jb ((b, t) :: xs) = ((u ++ b) ++ t.2.1) ++ Jb xs := by simp [Jb]
    have hul : (u ++ b).length = u.length + b.length := by simp
    have hs0 : skipTo (t.2.1 ++ Jb xs) 0 = 0 := skip_stop (Nat.zero_le _) hc.2.1 hc.2.2
    have hsk : skipTo (u ++ Jb ((b, t) :: xs)) u.length = u.length + b.length := by
      have h2 := skip_sh (u := u) (v := b ++ (t.2.1 ++ Jb xs)) 0
      rw [skip_bls hb hs0, ← List.append_assoc, ← hw, Nat.add_zero] at h2
      exact h2
    have htok := tok_sh (u := u ++ b) (v := t.2.1 ++ Jb xs) 0
    have htx2 := tx_sh (u := u ++ b) (v := t.2.1 ++ Jb xs) 0
    rw [← hw, hul, Nat.add_zero] at htok htx2
    rw [hc.1] at htok
    have htx3 : tokTx (t.2.1 ++ Jb xs) 0 = t.2.1 := by
      unfold tokTx
      rw [hc.1]
      simp only [List.drop_zero, Nat.sub_zero]
      rw [← hlen, List.take_left']
      rfl
    rw [htx3] at htx2
    have hl2 : u.length + b.length < (u ++ Jb ((b, t) :: xs)).length := by
      rw [hw]; simp; omega
    have hN : readN x (tokAt (u ++ Jb ((b, t) :: xs)) (u.length + b.length)).1 (tokTx (u ++ Jb ((b, t) :: xs)) (u.length + b.length)) (u.length + b.length) (tokAt (u ++ Jb ((b, t) :: xs)) (u.length + b.length)).2.2 = ((x.1 ++ [(t.1, t.2.1, u.length + b.length)], x.2), true) := by
      rw [htok, htx2]
      simp only
      rw [readN, if_neg (by simp), if_neg (by simp at hn; omega)]
    rw [hsk, lexS_go readN readN_no hl2 (by rw [hN]), hN, htok]
    simp only
    obtain ⟨l, e1, e2⟩ := lex_B xs (fun x hx => hg x (.tail _ hx)) ((u ++ b) ++ t.2.1) (x.1 ++ [(t.1, t.2.1, u.length + b.length)], x.2) h0 (by simp at hn ⊢; omega)
    have hu2 : ((u ++ b) ++ t.2.1).length = u.length + b.length + (e - k) := by rw [List.length_append, hul, hlen]
    rw [← hw2, hu2] at e1
    refine ⟨(t.1, t.2.1, u.length + b.length) :: l, ?_, ?_⟩
    · rw [e1]; simp
    · simp only [List.map_cons, e2]; rfl
theorem rejoin_B {xs : List (List UInt8 × Tk)} (hg : ∀ x ∈ xs, x.1 ∈ bls ∧ Good x.2) (hn : xs.length ≤ 6000) (hl : (Jb xs).length ≤ 20000) : ∃ l, readP (Jb xs) = (l, 0, 0) ∧ l.map kt = xs.map (fun x => kt x.2) := by
  obtain ⟨l, e1, e2⟩ := lex_B xs hg [] ([], 0, 0) rfl (by simpa using hn)
  simp only [List.nil_append, List.length_nil] at e1
  have hS : readS (Jb xs) = (l, 0, 0) := e1
  exact ⟨l, by rw [readP_fine (by omega) (by rw [hS]), hS], e2⟩
end Go.Tok.B
end

section
/- The plain part of layer token: a token alone, before a blank, a line's end, or at the end. -/
namespace Go.Tok.W
open Go.Tok
/-! a token alone, before a blank or at the end -/
def Bl (R : List UInt8) : Prop := R = [] ∨ ∃ c r, (c = 32 ∨ c = 10) ∧ R = c :: r
theorem bl_at {p : UInt8 → Bool} {t R : List UInt8} {i : Nat} (hR : Bl R) (hp : p 32 = false ∧ p 10 = false) (h : i ≤ t.length) : atP p (t ++ R) i = atP p t i := by
  rcases Nat.lt_or_ge i t.length with hl | hl
  · unfold atP; rw [List.getElem?_append_left hl]
  · have : i = t.length := by omega
    subst this
    rw [atP_out (Nat.le_refl _)]
    rcases hR with rfl | ⟨c, r, hc, rfl⟩
    · rw [List.append_nil]; exact atP_out (Nat.le_refl _)
    · unfold atP; rw [List.getElem?_append_right (Nat.le_refl _)]; rcases hc with rfl | rfl <;> simp [hp]
/-- at a place up to the end of the token: as in s, or false at the end itself -/
theorem bl_cut {p : UInt8 → Bool} {s R : List UInt8} {k e i : Nat} (hR : Bl R) (hp : p 32 = false ∧ p 10 = false) (he : e ≤ s.length) (h : k + i ≤ e) : atP p ((s.drop k).take (e - k) ++ R) i = if k + i < e then atP p s (k + i) else false := by
  have hl := cut_len he (by omega : k ≤ e)
  rw [bl_at hR hp (by omega)]
  split
  · rename_i h2; exact cut_at he h2
  · exact atP_out (by omega)
theorem run_cut {p : UInt8 → Bool} {s R : List UInt8} {k e : Nat} (hR : Bl R) (hp : p 32 = false ∧ p 10 = false) (he : e ≤ s.length) : ∀ (m i : Nat), m = e - (k + i) → k + i ≤ e → runTo p s (k + i) ≤ e → k + runTo p ((s.drop k).take (e - k) ++ R) i = runTo p s (k + i) := by
  intro m
  induction m with
  | zero =>
    intro i hm hi h
    have hg := runTo_ge p s (k + i)
    rw [runTo_stop (by rw [bl_cut hR hp he hi, if_neg (by omega)])]; omega
  | succ m ih =>
    intro i hm hi h
    have hb := bl_cut (i := i) hR hp he hi
    rw [if_pos (by omega)] at hb
    cases ha : atP p s (k + i) with
    | true =>
      rw [runTo_step ha, runTo_step (hb.trans ha)]
      exact ih (i + 1) (by omega) (by omega) (by rw [← Nat.add_assoc, ← runTo_step ha]; exact h)
    | false => rw [runTo_stop ha, runTo_stop (hb.trans ha)]

theorem and_cut {p q : UInt8 → Bool} {s R : List UInt8} {k e j i : Nat} (hR : Bl R) (hp : p 32 = false ∧ p 10 = false) (hq : q 32 = false ∧ q 10 = false) (he : e ≤ s.length) (hk : k ≤ j) (h : j ≤ e) (hi : i = j - k) (hend : (atP p s j && atP q s (j + 1)) = true → j + 2 ≤ e) :
    (atP p ((s.drop k).take (e - k) ++ R) i && atP q ((s.drop k).take (e - k) ++ R) (i + 1)) = (atP p s j && atP q s (j + 1)) := by
  subst hi
  have b1 := bl_cut (k := k) (i := j - k) hR hp he (by omega)
  rw [show k + (j - k) = j by omega] at b1
  rw [b1]
  split
  · rename_i h1
    have b2 := bl_cut (k := k) (i := j - k + 1) hR hq he (by omega)
    rw [show k + (j - k + 1) = j + 1 by omega] at b2
    rw [b2]
    split
    · rfl
    · cases hc : (atP p s j && atP q s (j + 1)) with
      | true => have := hend hc; omega
      | false => simp
  · cases hc : (atP p s j && atP q s (j + 1)) with
    | true => have := hend hc; omega
    | false => simp
theorem run_cut' {p : UInt8 → Bool} {s R : List UInt8} {k e j i : Nat} (hR : Bl R) (hp : p 32 = false ∧ p 10 = false) (he : e ≤ s.length) (hk : k ≤ j) (h : j ≤ e) (hi : i = j - k) (hr : runTo p s j ≤ e) : runTo p ((s.drop k).take (e - k) ++ R) i = runTo p s j - k := by
  subst hi
  have := run_cut (k := k) (i := j - k) hR hp he _ rfl (by omega) (by rw [show k + (j - k) = j by omega]; exact hr)
  rw [show k + (j - k) = j by omega] at this
  omega
theorem dot_cut {s R : List UInt8} {k e j i : Nat} (hR : Bl R) (he : e ≤ s.length) (hk : k ≤ j) (h : j ≤ e) (hi : i = j - k) (hr : numDot s j ≤ e) : numDot ((s.drop k).take (e - k) ++ R) i = numDot s j - k := by
  have ha := and_cut (p := eqB 46) (q := digitB) hR (by decide) (by decide) he hk h hi (fun hc => by
    unfold numDot at hr
    rw [if_pos hc] at hr
    simp only [Bool.and_eq_true] at hc
    have h1 := runTo_step hc.2
    have h2 := runTo_ge digitB s (j + 1 + 1)
    omega)
  unfold numDot at hr ⊢
  rw [ha]
  split
  · rename_i hc
    rw [if_pos hc] at hr
    exact run_cut' hR (by decide) he (by omega) (by have := runTo_ge digitB s (j + 1); omega) (by omega) hr
  · exact hi
theorem tens_cut {s R : List UInt8} {k e j i : Nat} (hR : Bl R) (he : e ≤ s.length) (hk : k ≤ j) (h : j ≤ e) (hi : i = j - k) (hr : (numTens s j).2 = e) : numTens ((s.drop k).take (e - k) ++ R) i = ((numTens s j).1, e - k) := by
  by_cases c1 : (atP (eqB 101) s j && atP digitB s (j + 1)) = true
  · have hs : numTens s j = (runTo digitB s (j + 1) - (j + 1), runTo digitB s (j + 1)) := by unfold numTens; rw [if_pos c1]
    rw [hs] at hr ⊢
    simp only at hr ⊢
    have c1' := c1
    simp only [Bool.and_eq_true] at c1'
    have h1 := runTo_step c1'.2
    have h2 := runTo_ge digitB s (j + 1 + 1)
    have ha := and_cut (p := eqB 101) (q := digitB) hR (by decide) (by decide) he hk h hi (fun _ => by omega)
    have hrun := run_cut' (p := digitB) (i := i + 1) hR (by decide) he (by omega : k ≤ j + 1) (by omega) (by omega) (by omega)
    unfold numTens
    rw [ha, if_pos c1, hrun, hr]
    simp only [Prod.mk.injEq, and_true]; omega
  · by_cases c2 : (atP (eqB 101) s j && (atP pmB s (j + 1) && atP digitB s (j + 2))) = true
    · have hs : numTens s j = (runTo digitB s (j + 2) - (j + 2), runTo digitB s (j + 2)) := by unfold numTens; rw [if_neg c1, if_pos c2]
      rw [hs] at hr ⊢
      simp only at hr ⊢
      have c2' := c2
      simp only [Bool.and_eq_true] at c2'
      have h1 := runTo_step c2'.2.2
      have h2 := runTo_ge digitB s (j + 2 + 1)
      have ha := and_cut (p := eqB 101) (q := digitB) hR (by decide) (by decide) he hk h hi (fun hc => absurd hc c1)
      have b0 := bl_cut (p := eqB 101) (k := k) (i := i) hR (by decide) he (by omega : k + i ≤ e)
      have b1 := bl_cut (p := pmB) (k := k) (i := i + 1) hR (by decide) he (by omega : k + (i + 1) ≤ e)
      have b2 := bl_cut (p := digitB) (k := k) (i := i + 2) hR (by decide) he (by omega : k + (i + 2) ≤ e)
      rw [if_pos (by omega), show k + i = j by omega] at b0
      rw [if_pos (by omega), show k + (i + 1) = j + 1 by omega] at b1
      rw [if_pos (by omega), show k + (i + 2) = j + 2 by omega] at b2
      have hrun := run_cut' (p := digitB) (i := i + 2) hR (by decide) he (by omega : k ≤ j + 2) (by omega) (by omega) (by omega)
      unfold numTens
      rw [ha, if_neg c1, b0, b1, b2, if_pos c2, hrun, hr]
      simp only [Prod.mk.injEq, and_true]; omega
    · have hs : numTens s j = (0, j) := by unfold numTens; rw [if_neg c1, if_neg c2]
      rw [hs] at hr ⊢
      simp only at hr ⊢
      have b0 := bl_cut (p := eqB 101) (k := k) (i := i) hR (by decide) he (by omega : k + i ≤ e)
      rw [if_neg (by omega)] at b0
      unfold numTens
      rw [b0]
      simp only [Bool.false_and, Bool.false_eq_true, if_false, Prod.mk.injEq, true_and]
      omega
theorem num_cut {s R : List UInt8} {k e : Nat} (hR : Bl R) (he : e ≤ s.length) (hk : k ≤ e) (hn : numEnd s k = e) (hf : numFine s k = true) : numEnd ((s.drop k).take (e - k) ++ R) 0 = e - k ∧ numFine ((s.drop k).take (e - k) ++ R) 0 = true := by
  have h1 := runTo_le (p := digitB) (s := s) (i := k) (by omega)
  have h2 := numDot_le h1
  have h3 := numTens_le h2.1
  have g1 := runTo_ge digitB s k
  unfold numEnd at hn
  have e1 := run_cut' (p := digitB) (i := 0) (j := k) hR (by decide) he (Nat.le_refl _) hk (by omega) (by omega)
  have e2 := dot_cut (i := runTo digitB s k - k) (j := runTo digitB s k) hR he g1 (by omega) rfl (by omega)
  have e3 := tens_cut (i := numDot s (runTo digitB s k) - k) (j := numDot s (runTo digitB s k)) hR he (by omega) (by omega) rfl hn
  have hE : numEnd ((s.drop k).take (e - k) ++ R) 0 = e - k := by unfold numEnd; rw [e1, e2, e3]
  refine ⟨hE, ?_⟩
  unfold numFine at hf ⊢
  rw [hE, e1, e2, e3]
  simp only [Bool.and_eq_true] at hf
  have b := bl_cut (p := tailB) (k := k) (i := e - k) hR (by decide) he (by omega : k + (e - k) ≤ e)
  rw [if_neg (by omega)] at b
  rw [b]
  simp only [Bool.and_eq_true]
  exact ⟨hf.1, rfl⟩
theorem sign_alone {R : List UInt8} (hR : Bl R) : ∀ t ∈ signsL, signsL.find? (fun x => x.isPrefixOf (t ++ R)) = some t ∧ atP blankB (t ++ R) 0 = false ∧ cmt (t ++ R) 0 = false := by
  intro t ht
  rcases hR with rfl | ⟨c, r, hc, rfl⟩
  · rw [List.append_nil]
    revert t; decide +kernel
  · simp only [signsL, List.mem_cons, List.not_mem_nil, or_false] at ht
    rcases hc with rfl | rfl <;> rcases ht with rfl | rfl | rfl | rfl | rfl | rfl | rfl | rfl | rfl | rfl | rfl | rfl | rfl | rfl | rfl | rfl | rfl | rfl | rfl | rfl | rfl | rfl <;>
      exact ⟨by simp [signsL, List.find?, List.isPrefixOf], by simp [atP, blankB], by simp [cmt, atP, eqB]⟩

theorem tok_cut {s R : List UInt8} {k e kd : Nat} (hR : Bl R) (hk : k ≤ s.length) (h : tokAt s k = (kd, e, true)) :
    tokAt ((s.drop k).take (e - k) ++ R) 0 = (kd, e - k, true) ∧ atP blankB ((s.drop k).take (e - k) ++ R) 0 = false ∧ cmt ((s.drop k).take (e - k) ++ R) 0 = false := by
  have h1 := tok_le hk
  rw [h] at h1
  simp only at h1
  have hke : k < e := h1.2.2 trivial
  have he := h1.2.1
  have z : ∀ p : UInt8 → Bool, p 32 = false ∧ p 10 = false → atP p ((s.drop k).take (e - k) ++ R) 0 = atP p s k := fun p hp => by
    have := bl_cut (k := k) (i := 0) (p := p) hR hp he (by omega)
    rw [if_pos (by omega), Nat.add_zero] at this
    exact this
  have zn : nameB ((s.drop k).take (e - k) ++ R) 0 = nameB s k := by unfold nameB; rw [z _ (by decide), z _ (by decide)]
  unfold tokAt at h
  split at h
  · rename_i hn
    simp only [Prod.mk.injEq, and_true] at h
    obtain ⟨rfl, hr⟩ := h
    have e1 := run_cut' (p := wordB) (i := 0) (j := k) hR (by decide) he (Nat.le_refl _) (by omega) (by omega) (by omega)
    have hn2 := hn
    simp only [nameB, Bool.and_eq_true] at hn2
    refine ⟨?_, ?_, ?_⟩
    · rw [tokAt, if_pos (zn.trans hn), e1, hr]
    · have := at_two (fun b hb => (letter_blank b hb).1) ((z letterB (by decide)).trans hn2.1)
      exact this
    · rw [cmt, at_two (fun b hb => (letter_blank b hb).2) ((z letterB (by decide)).trans hn2.1)]; rfl
  · rename_i hn
    split at h
    · rename_i hd
      simp only [Prod.mk.injEq] at h
      obtain ⟨rfl, hr, hf⟩ := h
      have e1 := num_cut (k := k) hR he (by omega) hr hf
      refine ⟨?_, ?_, ?_⟩
      · rw [tokAt, if_neg (by rw [zn]; exact hn), if_pos ((z digitB (by decide)).trans hd), e1.1, e1.2]
      · exact at_two (fun b hb => (digit_blank b hb).1) ((z digitB (by decide)).trans hd)
      · rw [cmt, at_two (fun b hb => (digit_blank b hb).2) ((z digitB (by decide)).trans hd)]; rfl
    · rename_i hd
      split at h
      · simp at h
      · rename_i hs
        simp only [Prod.mk.injEq, and_true] at h
        obtain ⟨rfl, hr⟩ := h
        cases ho : signOf s k with
        | none => exact absurd (by simp [signLen, ho]) hs
        | some t =>
          have hL : signLen s k = t.length := by simp [signLen, ho]
          have hmem : t ∈ signsL := List.mem_of_find?_eq_some ho
          have hpre0 := List.find?_some ho
          have hpre := List.isPrefixOf_iff_prefix.1 hpre0
          have ht : (s.drop k).take (e - k) = t := by
            rw [show e - k = t.length by omega]
            exact (List.prefix_iff_eq_take.1 hpre).symm
          have ha := sign_alone hR t hmem
          rw [ht] at z zn ⊢
          refine ⟨?_, ha.2.1, ha.2.2⟩
          have hs2 : signLen (t ++ R) 0 = t.length := by
            unfold signLen signOf
            rw [List.drop_zero, ha.1]; rfl
          rw [tokAt, if_neg (by rw [zn]; exact hn), if_neg (by rw [z _ (by decide)]; exact hd), if_neg (by rw [hs2]; omega), hs2]
          simp only [Prod.mk.injEq, and_true, true_and]; omega

/-! texts, each with a blank or a line's end behind it -/
def Sp (xs : List (Tk × UInt8)) : List UInt8 := xs.flatMap fun t => t.1.2.1 ++ [t.2]
def isSp (c : UInt8) : Prop := c = 32 ∨ c = 10
end Go.Tok.W
end

section
/- Trees: the tokens of what is written, apart in the text; expressions told apart. -/
namespace Go.Tree
open Go.Tok Go.Tok.W
/-! a token by itself -/
def Tk1 (s : Str) : Prop := ∃ kd, Go.Tok.Good (kd, s, 0)
/-! expressions told apart -/
mutual
theorem exSame_Z : ∀ x y : Ex, exZ x = exZ y → exSame x y = true
  | .mk o a n k, .mk o2 a2 n2 k2, h => by
    simp only [exZ, Ex.mk.injEq, true_and] at h
    have h2 := exsSame_Z k k2 h.2.2
    simp only [exSame, Ex.op, Ex.nm, Ex.kids, h.1, h.2.1, h2, decide_true, Bool.and_true]
theorem exsSame_Z : ∀ l m : List Ex, exsZ l = exsZ m → exsSame l m = true
  | [], [], _ => by simp [exsSame]
  | [], y :: m, h => by simp [exsZ] at h
  | x :: l, [], h => by simp [exsZ] at h
  | x :: l, y :: m, h => by
    simp only [exsZ, List.cons.injEq] at h
    rw [exsSame]; simp [exSame_Z x y h.1, exsSame_Z l m h.2]
end
/-! their tokens -/
def Tks (l : List Str) : Prop := ∀ s ∈ l, Tk1 s
end Go.Tree
end

section
/- The plain part of layer token: what TokenRises asks. -/
namespace Go.Tok
theorem readP_chain {s : List UInt8} (hs : s.length ≤ 20000) (h : (readP s).2.1 = 0) : Chain s 0 (readP s).1 := by
  by_cases h2 : (readS s).2.1 = 0
  · rw [readP_fine (by omega) h2]; exact chain_read h2
  · rw [readP_bad (by omega) h2] at h; exact absurd h h2
end Go.Tok
namespace Go.Tok
end Go.Tok
end

section
/- The plain part of layer parse: what two sources that are the same but for places give; bounds. -/
namespace Go.Tree
open Go.Prs
mutual
theorem smSame_Z : ∀ x y : Sm, smZ x = smZ y → smSame x y = true
  | .mk o a n k b e, .mk o2 a2 n2 k2 b2 e2, h => by
    simp only [smZ, Sm.mk.injEq, true_and] at h
    have h2 := exsSame_Z k k2 h.2.2.1
    have h3 := smsSame_Z b b2 h.2.2.2.1
    have h4 := smsSame_Z e e2 h.2.2.2.2
    simp only [smSame, Sm.op, Sm.nm, Sm.kids, Sm.body, Sm.els, h.1, h.2.1, h2, h3, h4, decide_true, Bool.and_true]
theorem smsSame_Z : ∀ l m : List Sm, smsZ l = smsZ m → smsSame l m = true
  | [], [], _ => by simp [smsSame]
  | [], y :: m, h => by simp [smsZ] at h
  | x :: l, [], h => by simp [smsZ] at h
  | x :: l, y :: m, h => by
    simp only [smsZ, List.cons.injEq] at h
    rw [smsSame]; simp [smSame_Z x y h.1, smsSame_Z l m h.2]
end
theorem pair_Z {α β : Type} {q : α → α → Bool} {g : α → β} (h : ∀ x y, g x = g y → q x y = true) : ∀ l m : List α, l.map g = m.map g → pairOk q l m = true
  | [], [], _ => by simp [pairOk]
  | [], y :: m, h => by simp at h
  | x :: l, [], h => by simp at h
  | x :: l, y :: m, e => by
    simp only [List.map_cons, List.cons.injEq] at e
    rw [pairOk_cons, h x y e.1, pair_Z h l m e.2]; rfl
theorem dcSame_Z (c d : Dc) (h : dcZ c = dcZ d) : dcSame c d = true := by
  simp only [dcZ, Dc.mk.injEq, true_and] at h
  obtain ⟨h1, h2, h3, h4, h5, h6⟩ := h
  simp only [dcSame, h1, h2, exsSame_Z _ _ h3, exsSame_Z _ _ h4, exsSame_Z _ _ h5, exsSame_Z _ _ h6, decide_true, Bool.and_true]
theorem bkSame_Z (x y : Bk) (h : bkZ x = bkZ y) : bkSame x y = true := by
  simp only [bkZ, Bk.mk.injEq] at h
  obtain ⟨h1, h2, h3⟩ := h
  simp only [bkSame, h1, pair_Z dcSame_Z _ _ h2, smsSame_Z _ _ h3, decide_true, Bool.and_true]
theorem pgSame_Z (p q : List Bk) (h : p.map bkZ = q.map bkZ) : pgSame p q = true := pair_Z bkSame_Z p q h
end Go.Tree
namespace Go.Tok
open Go.Prs
theorem lex_tw {s : List UInt8} : ∀ (m i : Nat) (x : Rd), m = s.length - i → i ≤ s.length → tw (lexS readN s i x).1 + 3 * i ≤ tw x.1 + 3 * s.length := by
  intro m
  induction m using Nat.strongRecOn with
  | _ m ih =>
    intro i x hm hi
    rcases Nat.lt_or_ge i s.length with hl | hl
    · cases hgo : (readN x (tokAt s i).1 (tokTx s i) i (tokAt s i).2.2).2 with
      | true =>
        have hN := readN_go hgo
        have h1 := tok_le hi
        have h2 := h1.2.2 hN.1
        have h3 := skipTo_le h1.2.1
        rw [lexS_go readN readN_no hl hgo]
        have := ih _ (by omega) _ (readN x (tokAt s i).1 (tokTx s i) i (tokAt s i).2.2).1 rfl h3.1
        rw [hN.2] at this ⊢
        rw [tw_snoc] at this
        have hx : (tokTx s i).length = (tokAt s i).2.1 - i := by unfold tokTx; simp only [List.length_take, List.length_drop]; omega
        dsimp only at this ⊢
        rw [hx] at this
        omega
      | false =>
        rw [lexS_end readN hl hgo]
        unfold readN
        split
        · dsimp only; omega
        · split
          · dsimp only; omega
          · rename_i hb h6; unfold readN at hgo; rw [if_neg hb, if_neg h6] at hgo; cases hgo
    · rw [lexS_stop readN (by omega)]; omega
theorem readP_tw (s : List UInt8) : tw (readP s).1 ≤ 3 * s.length := by
  have h1 := skipTo_le (s := s) (Nat.zero_le _)
  have h2 := lex_tw (s := s) _ _ ([], 0, 0) rfl h1.1
  unfold readP
  split
  · simp [tw]
  · split
    · unfold readS; dsimp only at h2 ⊢; rw [show tw ([] : List Tk) = 0 from rfl] at h2; omega
    · simp [tw]
end Go.Tok
namespace Go.Prs
open Go.Tok Go.Tree
theorem bkW_noBk : ∀ b ∈ List.replicate 6 noBk, bkW b ≤ 1 := fun b hb => by
  rw [(List.mem_replicate.1 hb).2]; simp [noBk, bkW, dcsW, smsW]
theorem res_W {s : Str} {M : Nat} (h1 : 1 ≤ M) (h : tw (readP s).1 ≤ M) : ∀ b ∈ (resOf (List.replicate 6 noBk) (parseP s)).1, bkW b ≤ M := by
  by_cases hz : (readP s).2.1 = 0
  · have e1 : parseP s = andR (pProg s.length (fuel (readP s).1) 0 (List.replicate 6 noBk) (readP s).1) endR := face_go hz
    rw [e1]
    have hp := prog_W (z := s.length) h1 (fuel (readP s).1) 0 (List.replicate 6 noBk) (readP s).1 (fun b hb => Nat.le_trans (bkW_noBk b hb) h1) h
    cases hx : pProg s.length (fuel (readP s).1) 0 (List.replicate 6 noBk) (readP s).1 with
    | error e => exact fun b hb => Nat.le_trans (bkW_noBk b hb) h1
    | ok p =>
      obtain ⟨a, r⟩ := p
      cases r with
      | nil => exact hp _ hx
      | cons t r => exact fun b hb => Nat.le_trans (bkW_noBk b hb) h1
  · rw [show parseP s = .error (readP s).2 from face_bad hz]
    exact fun b hb => Nat.le_trans (bkW_noBk b hb) h1
theorem tsZ_kt : ∀ {l m : List Tk}, l.map kt = m.map kt → tsZ l = tsZ m ∧ tw l = tw m
  | [], [], _ => ⟨rfl, rfl⟩
  | [], y :: m, h => by simp at h
  | x :: l, [], h => by simp at h
  | x :: l, y :: m, h => by
    simp only [List.map_cons, List.cons.injEq, kt, Prod.mk.injEq] at h
    obtain ⟨h1, h2⟩ := tsZ_kt h.2
    refine ⟨?_, by rw [tw, tw, h.1.2, h2]⟩
    show (x.1, x.2.1, 0) :: tsZ l = (y.1, y.2.1, 0) :: tsZ m
    rw [h.1.1, h.1.2, h1]
/-- two sources whose tokens are the same but for places -/
theorem same_law {s t : Str} (hs : (readP s).2.1 = 0) (ht : (readP t).2.1 = 0) (h : (readP t).1.map kt = (readP s).1.map kt) :
    pgSame (resOf (List.replicate 6 noBk) (parseP s)).1 (resOf (List.replicate 6 noBk) (parseP t)).1 = true ∧ (resOf (List.replicate 6 noBk) (parseP s)).2.1 = (resOf (List.replicate 6 noBk) (parseP t)).2.1 ∧ ((resOf (List.replicate 6 noBk) (parseP s)).2 = (0, 0) → (resOf (List.replicate 6 noBk) (parseP t)).2.1 = 0) := by
  have hl : (readP t).1.length = (readP s).1.length := by simpa using congrArg List.length h
  have key := prog_same (z := s.length) (z2 := t.length) (n := fuel (readP s).1) (tsZ_kt h).1.symm
  have e1 : parseP s = andR (pProg s.length (fuel (readP s).1) 0 (List.replicate 6 noBk) (readP s).1) endR := face_go hs
  have e2 : parseP t = andR (pProg t.length (fuel (readP s).1) 0 (List.replicate 6 noBk) (readP t).1) endR := by
    have : fuel (readP s).1 = fuel (readP t).1 := by unfold fuel; rw [hl]
    rw [this]; exact face_go ht
  rw [← e1, ← e2] at key
  cases h1 : parseP s with
  | ok p =>
    cases h2 : parseP t with
    | ok q =>
      rw [h1, h2] at key
      simp only [mapZ, Except.ok.injEq] at key
      exact ⟨pgSame_Z p q key, rfl, fun _ => rfl⟩
    | error e => rw [h1, h2] at key; simp [mapZ] at key
  | error e =>
    cases h2 : parseP t with
    | ok q => rw [h1, h2] at key; simp [mapZ] at key
    | error e' =>
      rw [h1, h2] at key
      simp only [mapZ, Except.error.injEq, Prod.mk.injEq, and_true] at key
      exact ⟨pgSame_refl _, key, fun h => key.symm.trans (congrArg Prod.fst h)⟩
/-! the source with other blanks -/
def sepAt (us : List Nat) (i : Nat) : Str := Go.Tok.B.bls.getD (us.getD i 0 % 4) []
def xsF (us : List Nat) (T : List Tk) (i : Nat) : List (Str × Tk) := (List.range i).filterMap fun j => (T[j]?).map fun t => (sepAt us j, t)
theorem sepAt_mem (us : List Nat) (i : Nat) : sepAt us i ∈ Go.Tok.B.bls := by
  unfold sepAt
  have : us.getD i 0 % 4 < 4 := Nat.mod_lt _ (by decide)
  generalize us.getD i 0 % 4 = k at this
  match k, this with
  | 0, _ => decide
  | 1, _ => decide
  | 2, _ => decide
  | 3, _ => decide
theorem xsF_succ {us : List Nat} {T : List Tk} {i : Nat} {t : Tk} (h : T[i]? = some t) : xsF us T (i + 1) = xsF us T i ++ [(sepAt us i, t)] := by
  unfold xsF
  rw [List.range_succ, List.filterMap_append]
  simp [h]
theorem Jb_succ {us : List Nat} {T : List Tk} {i : Nat} {t : Tk} (h : T[i]? = some t) : Go.Tok.B.Jb (xsF us T (i + 1)) = Go.Tok.B.Jb (xsF us T i) ++ sepAt us i ++ t.2.1 := by
  rw [xsF_succ h]; simp [Go.Tok.B.Jb]
theorem xsF_map {us : List Nat} {T : List Tk} : ∀ i, i ≤ T.length → (xsF us T i).map (fun x => kt x.2) = (T.take i).map kt ∧ (xsF us T i).length = i
  | 0, _ => ⟨by simp [xsF], by simp [xsF]⟩
  | i + 1, h => by
    obtain ⟨h1, h2⟩ := xsF_map (us := us) (T := T) i (by omega)
    have ht : T[i]? = some T[i] := List.getElem?_eq_getElem (by omega)
    have h3 : i < T.length := by omega
    rw [xsF_succ ht, List.map_append, h1, List.take_succ_eq_append_getElem h3, List.map_append, List.length_append, h2]
    exact ⟨rfl, rfl⟩
theorem xsF_mem {us : List Nat} {T : List Tk} {i : Nat} {x : Str × Tk} (h : x ∈ xsF us T i) : x.1 ∈ Go.Tok.B.bls ∧ x.2 ∈ T := by
  unfold xsF at h
  obtain ⟨j, _, hj⟩ := List.mem_filterMap.1 h
  cases ht : T[j]? with
  | none => rw [ht] at hj; cases hj
  | some t => rw [ht] at hj; cases hj; exact ⟨sepAt_mem _ _, List.mem_of_getElem? ht⟩
theorem bls_len {b : Str} (h : b ∈ Go.Tok.B.bls) : b.length ≤ 6 := by
  simp only [Go.Tok.B.bls, List.mem_cons, List.not_mem_nil, or_false] at h
  rcases h with rfl | rfl | rfl | rfl <;> decide
theorem Jb_len {us : List Nat} {T : List Tk} : ∀ i, i ≤ T.length → (Go.Tok.B.Jb (xsF us T i)).length ≤ 3 * tw (T.take i)
  | 0, _ => by simp [xsF, Go.Tok.B.Jb]
  | i + 1, h => by
    have ht : T[i]? = some T[i] := List.getElem?_eq_getElem (by omega)
    have := Jb_len (us := us) (T := T) i (by omega)
    have hb := bls_len (sepAt_mem us i)
    have h3 : i < T.length := by omega
    rw [Jb_succ ht, List.take_succ_eq_append_getElem h3, tw_snoc]
    simp only [List.length_append]; omega
theorem blanks_read {s : Str} {us : List Nat} (hl : s.length ≤ 2000) (hs : (readP s).2.1 = 0) :
    (Go.Tok.B.Jb (xsF us (readP s).1 (readP s).1.length)).length ≤ 20000 ∧ (readP (Go.Tok.B.Jb (xsF us (readP s).1 (readP s).1.length))).2.1 = 0 ∧ (readP (Go.Tok.B.Jb (xsF us (readP s).1 (readP s).1.length))).1.map kt = (readP s).1.map kt := by
  have hJ := Jb_len (us := us) (T := (readP s).1) (readP s).1.length (Nat.le_refl _)
  have hw := readP_tw s
  rw [List.take_length] at hJ
  have hJ2 : (Go.Tok.B.Jb (xsF us (readP s).1 (readP s).1.length)).length ≤ 20000 := by omega
  obtain ⟨h1, h2⟩ := xsF_map (us := us) (T := (readP s).1) _ (Nat.le_refl _)
  rw [List.take_length] at h1
  obtain ⟨l, e1, e2⟩ := Go.Tok.B.rejoin_B (xs := xsF us (readP s).1 (readP s).1.length) (fun x hx => ⟨(xsF_mem hx).1, chain_good (readP_chain (by omega) hs) _ (xsF_mem hx).2⟩) (by rw [h2]; exact readP_len s) hJ2
  exact ⟨hJ2, by rw [e1], by rw [e1]; exact e2.trans h1⟩
end Go.Prs
end

section
namespace Go.Proofs.YtaniogadknakoaaGreatDoor
open Go.RowKit Go.Sx
open Go.Tok Go.Tree Go.Prs

set_option maxRecDepth 100000 in
set_option maxHeartbeats 400000 in
theorem rReadL_spec (s : List UInt8) (hl : 20000 < s.length) (hs : s.length ≤ 9223372036854775807) (w : World) :
    Ret Tryz.prog 20 #[str s] w (fun v w' => ∃ W, RdV (readP s) v W ∧ New w w' W) := by
  refine enter (S := No) (l := [_]) (L := []) 84 Tryz.func20 rfl rfl rfl (St.start w No) ?_; refine yA ?_; refine za (v := .slice _ _ _) rfl ?_; refine w_alloc zr32 (fun t3b gt3b ut3b => ?_)
  refine yB ?_; refine zq ?_; refine yA ?_; refine zm (v := str _) rfl ?_; refine w_r (fun _ => R_slen st9 rfl (by omega)) rfl rfl ?_; refine w_r (fun _ => R_gt rfl rfl) rfl rfl ?_; refine yB ?_; refine zD rfl (fun h2 => ?_) (fun h2 => ?_)
  · refine yA ?_; refine w_r (fun _ => R_build bt32 rfl) rfl rfl ?_; refine za (v := .slice _ _ _) rfl ?_; refine w_store 0 rfl z32 rfl rfl rfl rfl rfl rfl rfl ?_; refine yB ?_; refine ze ?_; refine zt (?_)
    refine r_fin (.inl rfl) rfl (.tmp rfl rfl (.agg rfl rfl z32 (fun _ h => h.at_ 0 rfl) rfl .nil)) ?_; exact fun w' hw => ⟨[], by rw [readP_long (by omega)]; exact ⟨none, 0, rfl, Own.nil _ _⟩, .none (hw.fr _ (.head _))⟩
  · exfalso; omega

theorem rReadA_spec (s : List UInt8) (hs : s.length ≤ 9223372036854775807) (w : World) : Ret Tryz.prog 20 #[str s] w fun v w' => ∃ W, RdV (readP s) v W ∧ New w w' W := by
  by_cases h : s.length ≤ 10000000
  · exact rRead_spec s h w
  · exact rReadL_spec s (by omega) hs w

theorem tw_take : ∀ (i : Nat) (T : List Tk), tw (T.take i) ≤ tw T
  | 0, _ => by simp [tw]
  | i + 1, [] => by simp [tw]
  | i + 1, t :: T => by have := tw_take i T; rw [List.take_succ_cons, tw, tw]; omega
theorem sep_cell (us : List Nat) (i : Nat) : ([str [32], str [10], str [9, 47, 47, 32, 120, 10], str [32, 32]] : List Value)[0 + us.getD i 0 % 4 * 1]? = some (str (sepAt us i)) := by
  unfold sepAt
  have : us.getD i 0 % 4 < 4 := Nat.mod_lt _ (by decide)
  generalize us.getD i 0 % 4 = k at this
  match k, this with
  | 0, _ => rfl
  | 1, _ => rfl
  | 2, _ => rfl
  | 3, _ => rfl
theorem toks_b {T : List Tk} {a : Option Addr} {c : Nat} {W : Heap} {i : Nat} (h : Toks (.slice a T.length c) T W) (hi : i < T.length) : ∃ tb, a = some ⟨tb, 0, none⟩ ∧ ∀ w : World, (∀ p ∈ W, w.heap[p.1]? = some p.2) → w.cell? ⟨tb, 0 + i * 3 + 1, none⟩ = some (str T[i].2.1) := by
  obtain ⟨hl, ⟨_, h0, _⟩ | ⟨q, cc, sp, hv, hc, hsp, rfl⟩⟩ := h
  · omega
  · cases hv
    refine ⟨q, rfl, fun w hm => ?_⟩
    have h1 := hm (q, cel (tksC T ++ sp) 58) (by simp)
    have h2 := tks_at T i T[i] (List.getElem?_eq_getElem hi) 1 (str T[i].2.1) rfl
    have h3 : (tksC T ++ sp)[0 + i * 3 + 1]? = some (str T[i].2.1) := by rw [Nat.zero_add, List.getElem?_append_left (List.getElem?_eq_some_iff.1 h2).1]; exact h2
    dsimp only at h1
    rw [Nat.zero_add] at h3
    simp [World.cell?, h1, h3]
theorem Parse_any (s : Str) (hs : s.length ≤ 10000000) (w : World) (hW : Wd w) (hng : 4 ≤ w.heap.size) :
    Ret Tryz.prog 10 #[str s] w fun v w' => ∃ cs, v = .tuple #[.agg cs.toArray, .agg #[.int .i64 ((resOf (List.replicate 6 noBk) (parseP s)).2.1 : Nat), .int .i64 ((resOf (List.replicate 6 noBk) (parseP s)).2.2 : Nat)]] ∧ pgM w' (Nn w w') (resOf (List.replicate 6 noBk) (parseP s)).1 cs ∧ Ext w w' :=
  (Parse_ok s hs w hW hng).mono fun v w' ⟨cs, h1, h2, _, h4⟩ => ⟨cs, h1, h2, h4⟩
theorem same2 {p q : List Bk} {cs ds : List Value} {N N2 : Nat → Prop} {w : World} (hp : ∀ b ∈ p, bkW b < 10000000) (hm : pgM w N p cs) (hm2 : pgM w N2 q ds) (h : pgSame p q = true) : Ret Tryz.prog 21 #[.agg cs.toArray, .agg ds.toArray] w fun v w' => v = .bool true ∧ Ext w w' := by
  have h1 := Same_spec p q cs ds (fun _ => True) w hp (TL.pg.mono hm (fun _ _ => trivial)) (TL.pg.mono hm2 (fun _ _ => trivial))
  rw [h] at h1
  exact h1

set_option maxRecDepth 100000 in
set_option maxHeartbeats 16000000 in
theorem blanks_law (s : Str) (hs : s.length ≤ 9223372036854775807) (T : List Tk) (hTe : (readP s).1 = T) (us : List Nat) (wa : Option Addr) (wc : Nat) (w : World) (hwh : ∀ (j : Nat) u, us[j]? = some u → u < 256 ∧ ∃ b o, wa = some ⟨b, o, none⟩ ∧ w.cell? ⟨b, o + j * 1, none⟩ = some (.int .u8 (u : Nat))) (hW : Wd w) (hng : 4 ≤ w.heap.size) :
    Ret Tryz.prog 8 #[str s, .slice wa us.length wc] w (fun v w' => v = .bool true ∧ Ext w w') := by
  refine enter (S := No) (l := [_, _]) (L := []) 78 Tryz.func8 rfl rfl rfl (St.start w No) ?_; refine yA ?_; refine aB rfl ?_; refine yC ?_; refine zm (v := str _) rfl ?_; refine w_callW (R := fun v W => ∃ a c, v = .tuple #[.slice a T.length c, .agg #[.int .i64 ((readP s).2.1 : Nat), .int .i64 ((readP s).2.2 : Nat)]] ∧ Toks (.slice a T.length c) T W) (fun w => zR Tryz.func20 rfl rfl rfl) rfl rfl (fun w h => by subst hTe; exact rReadA_spec s hs w) ?_
  rintro v W0 ⟨ta, tc, rfl, hO⟩
  refine w_st (fun w h => h.perm List.perm_append_comm) ?_; refine zm rfl ?_; refine w_r (fun _ => R_extract rfl rfl) rfl rfl ?_; refine w_r (fun _ => R_extract rfl rfl) rfl rfl ?_; refine w_alloc zr32 (fun fb gfb ufb => ?_)
  refine za (v := .slice _ _ _) rfl ?_; refine w_store 0 rfl z32 rfl rfl rfl rfl rfl rfl rfl ?_; refine yB ?_; refine zq ?_; refine yA ?_; refine zm (v := str _) rfl ?_; refine w_r (fun _ => R_slen st9 rfl (by omega)) rfl rfl ?_; refine w_r (fun _ => R_gt rfl rfl) rfl rfl ?_; refine mB rfl ?_; refine zd (t := 22) rfl (fun h2 => ?_) (fun h2 => ?_)
  · refine zs rfl rfl (bT h2) ?_; refine zs rfl rfl (bT h2) ?_; refine zs rfl rfl (bT h2) ?_; refine w_r (v := .bool _) (fun _ => zT (bT h2) rfl) rfl rfl ?_; refine yB ?_; refine zE rfl ?_; refine yA ?_; refine zC (fun w => zR Tryz.func9 rfl rfl rfl) rfl rfl (fun w h => head13_ok w (hW.now (.head _) h) (Nat.le_trans hng (h.fr _ (.head _)).size)) ?_; refine aB rfl ?_; refine yB ?_; refine ze ?_; refine zt (?_)
    refine zo (v := .bool _) rfl rfl rfl ?_; exact fun w' hw => ⟨rfl, hw.fr _ (.head _)⟩
  · refine zw rfl rfl (bF h2) ?_; refine zf fa32_0 rfl ?_; refine zw rfl rfl (bF h2) ?_; refine zl z30 rfl (fun _ h => zc 0 rfl rfl h) ?_; refine zw rfl rfl (bF h2) ?_; refine w_r (fun _ => R_ne rfl rfl) rfl rfl ?_; refine w_r (v := .bool _) (fun _ => zF (bF h2) rfl) rfl rfl ?_; refine yB ?_; refine zD rfl (fun h3 => ?_) (fun h3 => ?_)
    · refine yA ?_; refine zC (fun w => zR Tryz.func9 rfl rfl rfl) rfl rfl (fun w h => head13_ok w (hW.now (.head _) h) (Nat.le_trans hng (h.fr _ (.head _)).size)) ?_; refine aB rfl ?_; refine yB ?_; refine ze ?_; refine zt (?_)
      refine zo (v := .bool _) rfl rfl rfl ?_; exact fun w' hw => ⟨rfl, hw.fr _ (.head _)⟩
    · refine zi ?_; refine zk ?_; refine yA ?_; refine za (v := str _) rfl ?_; refine yB ?_; refine zq ?_; refine yA ?_; refine aI rfl ?_; refine yB ?_; refine zB ?_; refine c_loop (fun m e B L => ∃ (i : Nat), e 0 = str s ∧ e 1 = .slice wa us.length wc ∧ e 5 = .slice ta T.length tc ∧ e 6 = .pointer (some ⟨fb, 0, none⟩) ∧ e 7 = str (Go.Tok.B.Jb (xsF us T i)) ∧ e 8 = .int .i64 (i : Nat) ∧ B = [(w, No)] ∧ L = [(fb, cel [.int .i64 ((readP s).2.1 : Nat), .int .i64 ((readP s).2.2 : Nat)] 32)] ++ W0 ∧ i ≤ T.length ∧ m = T.length - i) _ ⟨0, rfl, rfl, rfl, rfl, rfl, rfl, rfl, rfl, Nat.zero_le _, rfl⟩ ?_
      rintro m e B L ⟨i, e0_1, e1_1, e5_1, e6_1, e7_1, e8_1, rfl, rfl, hi, rfl⟩
      have htw := readP_tw s; rw [hTe] at htw; have hTl := readP_len s; rw [hTe] at hTl; have hJl := Jb_len (us := us) (T := T) i hi; have htk := tw_take i T
      refine zq ?_; refine yA ?_; refine mI e8_1 ?_; refine mS e5_1 ?_; refine w_r (fun _ => R_len sl50 rfl) rfl rfl ?_; refine w_r (fun _ => R_lt rfl rfl) rfl rfl ?_; refine yB ?_; refine zD rfl (fun h4 => ?_) (fun h4 => ?_)
      · have hlt : i < T.length := (by omega); have htx := readP_tx s T[i] (by rw [hTe]; exact List.getElem_mem hlt); have hsp := bls_len (sepAt_mem us i); obtain ⟨tb, hta, hcS⟩ := toks_b hO hlt
        refine zi ?_; refine zk ?_; refine zq ?_; refine zB ?_; refine yA ?_; refine aI rfl ?_; refine yB ?_; refine c_cut (fun e B L => e 0 = str s ∧ e 1 = .slice wa us.length wc ∧ e 5 = .slice ta T.length tc ∧ e 6 = .pointer (some ⟨fb, 0, none⟩) ∧ e 7 = str (Go.Tok.B.Jb (xsF us T i)) ∧ e 8 = .int .i64 (i : Nat) ∧ e 9 = .int .u8 ((us.getD i 0 % 4 : Nat) : Int) ∧ B = [(w, No)] ∧ L = [(fb, cel [.int .i64 ((readP s).2.1 : Nat), .int .i64 ((readP s).2.2 : Nat)] 32)] ++ W0) ?_ ?_
        · refine yA ?_; refine mI e8_1 ?_; refine mS e1_1 ?_; refine w_r (fun _ => R_len sl55 rfl) rfl rfl ?_; refine w_r (fun _ => R_lt rfl rfl) rfl rfl ?_; refine yB ?_; refine zD rfl (fun h5 => ?_) (fun h5 => ?_)
          · have hiu : i < us.length := (by omega); obtain ⟨hu8, ub, uo, rfl, hcell⟩ := hwh i us[i] (List.getElem?_eq_getElem hiu)
            refine zr ?_; refine mS e1_1 ?_; refine mI e8_1 ?_; refine w_r (fun _ => R_iaN (i := i) sl55 rfl rfl (by first | omega | decide)) rfl rfl ?_; refine zl z5 rfl (fun _ h => cel_old (.head _) hcell (fun h => h) h) ?_
            refine w_r (fun _ => R_remN (n := us[i]) (m := 4) rfl rfl (by decide)) rfl rfl ?_; refine aI rfl ?_; refine zn ?_; exact k_mid ⟨e0_1, e1_1, e5_1, e6_1, e7_1, e8_1, (congrArg (fun q : Nat => Value.int .u8 ((q % 4 : Nat) : Int)) (by simp [List.getD, hiu])), rfl, rfl⟩
          · refine zi ?_; exact k_mid ⟨e0_1, e1_1, e5_1, e6_1, e7_1, e8_1, (congrArg (fun q : Nat => Value.int .u8 ((q : Nat) : Int)) (by rw [List.getD_eq_getElem?_getD, List.getElem?_eq_none (by omega)]; rfl)), rfl, rfl⟩
        rintro e B L ⟨e0_2, e1_2, e5_2, e6_2, e7_2, e8_2, e9_2, rfl, rfl⟩
        refine c_held (fun w => w.cell? ⟨tb, 0 + i * 3 + 1, none⟩ = some (str T[i].2.1)) mixed ?_; refine zh 0 rfl (by kernel_rfl) rfl rfl (fun w h => hcS w (fun p hp => h.own p (by simp [hp]))) (fun w h => R_move e7_2) ?_; refine zh 2 rfl (by kernel_rfl) rfl rfl (fun w h => hcS w (fun p hp => h.own p (by simp [hp]))) (fun w h => R_move e9_2) ?_; refine zh 6 rfl (by kernel_rfl) rfl rfl (fun w h => hcS w (fun p hp => h.own p (by simp [hp]))) (fun w h => R_move e5_2) ?_; refine zh 7 rfl (by kernel_rfl) rfl rfl (fun w h => hcS w (fun p hp => h.own p (by simp [hp]))) (fun w h => R_move e8_2) ?_; refine zh 8 rfl (by kernel_rfl) rfl rfl (fun w h => hcS w (fun p hp => h.own p (by simp [hp]))) (fun w h => R_iaN (i := i) sl50 (show _ = Value.slice (some ⟨tb, 0, none⟩) T.length tc by rw [← hta]; exact rfl) rfl (by omega)) ?_
        refine zh 9 rfl (by kernel_rfl) rfl rfl (fun w h => hcS w (fun p hp => h.own p (by simp [hp]))) (fun w h => R_fa fa58_1 rfl) ?_; refine zh 10 rfl (by kernel_rfl) rfl rfl (fun w h => hcS w (fun p hp => h.own p (by simp [hp]))) (fun w h => R_ld1 z9 rfl (h)) ?_; refine h_one 1 (by kernel_rfl) (fun w h => hcS w (fun p hp => h.own p (by simp [hp]))) ?_; refine o_bslice rfl slt56 (by decide) rfl rfl (fun lb glb ulb => ?_)
        refine zh 3 rfl (by kernel_rfl) rfl rfl (fun w h => hcS w (fun p hp => h.own p (by simp [hp]))) (fun w h => R_iaN (i := us.getD i 0 % 4) sl56 rfl rfl (Nat.mod_lt _ (by decide))) ?_; refine h_one 4 (by kernel_rfl) (fun w h => hcS w (fun p hp => h.own p (by simp [hp]))) ?_; refine o_run rfl rfl rfl (fun w h => R_ld1 z9 rfl (zc 0 rfl (sep_cell us i) h)) ?_; refine zh 5 rfl (by kernel_rfl) rfl rfl (fun w h => hcS w (fun p hp => h.own p (by simp [hp]))) (fun w h => R_cat rfl rfl (by (try simp only [List.length_append]); omega)) ?_; refine zh 11 rfl (by kernel_rfl) rfl rfl (fun w h => hcS w (fun p hp => h.own p (by simp [hp]))) (fun w h => R_cat rfl rfl (by (try simp only [List.length_append]); omega)) ?_; refine zh 12 rfl (by kernel_rfl) rfl rfl (fun w h => hcS w (fun p hp => h.own p (by simp [hp]))) (fun w h => R_assign rfl) ?_
        refine h_done (by kernel_rfl) (fun w h => hcS w (fun p hp => h.own p (by simp [hp]))) ?_; refine b_on (zk ?_); refine zr ?_; refine mI e8_2 ?_; refine w_r (fun _ => R_addi rfl rfl (by omega)) rfl rfl ?_; refine aI rfl ?_; refine zn ?_; refine k_st (B' := _) (L' := [(fb, cel [.int .i64 ((readP s).2.1 : Nat), .int .i64 ((readP s).2.2 : Nat)] 32)] ++ W0) (fun w' h => h.drop (List.sublist_cons_self _ _)) ?_; exact k_again _ (by omega) ⟨i + 1, e0_2, e1_2, e5_2, e6_2, (congrArg str (Jb_succ (List.getElem?_eq_getElem hlt)).symm), rfl, rfl, rfl, by omega, rfl⟩
      · have hiT : i = T.length := (by omega); have hz0 : (readP s).2.1 = 0 := (by omega); have hbr := blanks_read (us := us) (s := s) (by omega) hz0; rw [hTe, ← hiT] at hbr; have hsm := same_law (s := s) hz0 hbr.2.1 (by rw [hTe]; exact hbr.2.2); have hpW : ∀ b ∈ (resOf (List.replicate 6 noBk) (parseP s)).1, bkW b < 10000000 := fun b hb => Nat.lt_of_le_of_lt (res_W (s := s) (M := 6001) (by omega) (by have := readP_tw s; omega) b hb) (by omega)
        refine c_exit ?_; refine zx (zx (b_here rfl (zk ?_))); refine yA ?_; refine zm (v := str _) e0_1 ?_; refine w_callR (fun w => zR Tryz.func10 rfl rfl rfl) rfl rfl (fun w h => Parse_any s (by omega) w (hW.now (.head _) h) (Nat.le_trans hng (h.fr _ (.head _)).size)) ?_
        rintro wa hwa v x1 ⟨cs1, rfl, hM, hx⟩
        refine ⟨_, _, (hwa.ext hx).base1, ?_⟩
        have hK1 : Kt (x1, inL _) w.heap.size pgM _ cs1 := Kt.new hM TL.pg hwa (hwa.fr _ (.head _)).size; clear hM hx hwa
        have hcl1 : cs1.length = 18 := hK1.len
        refine zm rfl ?_; refine w_r (fun _ => R_extract rfl rfl) rfl rfl ?_; refine w_r (fun _ => R_extract rfl rfl) rfl rfl ?_; refine w_alloc zr29 (fun p1b gp1b up1b => ?_)
        refine w_alloc zr32 (fun f1b gf1b uf1b => ?_)
        refine w_storeW cs1 1 rfl z29 rfl rfl rfl hcl1 (pg_one hK1) rfl ?_; refine w_store 0 rfl z32 rfl rfl rfl rfl rfl rfl rfl ?_; refine yC ?_; refine zm (v := str _) e7_1 ?_; refine w_callR (fun w => zR Tryz.func10 rfl rfl rfl) rfl rfl (fun w h => Parse_any (Go.Tok.B.Jb (xsF us T i)) (by omega) w (hW.now (.tail _ (.head _)) h) (Nat.le_trans hng (h.fr _ (.tail _ (.head _))).size)) ?_
        rintro wa hwa v x2 ⟨cs2, rfl, hM, hx⟩
        refine ⟨_, _, (hwa.ext hx).base1, ?_⟩
        have hK2 : Kt (x2, inL _) w.heap.size pgM _ cs2 := Kt.new hM TL.pg hwa (hwa.fr _ (.tail _ (.head _))).size; clear hM hx hwa
        have hcl2 : cs2.length = 18 := hK2.len
        refine zm rfl ?_; refine w_r (fun _ => R_extract rfl rfl) rfl rfl ?_; refine w_r (fun _ => R_extract rfl rfl) rfl rfl ?_; refine w_alloc zr29 (fun p2b gp2b up2b => ?_)
        refine w_alloc zr32 (fun f2b gf2b uf2b => ?_)
        refine w_storeW cs2 1 rfl z29 rfl rfl rfl hcl2 (pg_one hK2) rfl ?_; refine w_store 0 rfl z32 rfl rfl rfl rfl rfl rfl rfl ?_; refine yC ?_; refine w_loadW z29 rfl (fun w h => h.at_ 3 rfl) hcl1 ?_; refine w_loadW z29 rfl (fun w h => h.at_ 1 rfl) hcl2 ?_; refine zC (fun w => zR Tryz.func21 rfl rfl rfl) rfl rfl (fun w h => same2 hpW (hK1.now TL.pg (.tail _ (.head _)) h) (hK2.now TL.pg (.head _) h) hsm.1) ?_; refine mB rfl ?_; refine zw rfl rfl rfl ?_; refine zf fa32_0 rfl ?_; refine zw rfl rfl rfl ?_; refine zl z30 rfl (fun _ h => zc 2 rfl rfl h) ?_; refine zw rfl rfl rfl ?_; refine zf fa32_0 rfl ?_; refine zw rfl rfl rfl ?_; refine zl z30 rfl (fun _ h => zc 0 rfl rfl h) ?_; refine zw rfl rfl rfl ?_
        refine w_r (fun _ => R_eq rfl rfl) rfl rfl ?_; refine w_r (v := .bool _) (fun _ => zT rfl rfl) rfl rfl ?_; refine mB rfl ?_; refine zd (t := 75) rfl (fun h10 => ?_) (fun h10 => ?_)
        · refine zw rfl rfl (bT h10) ?_; refine zC (fun w => zR Tryz.func9 rfl rfl rfl) rfl rfl (fun w h => head13_ok w (hW.now (.tail _ (.tail _ (.head _))) h) (Nat.le_trans hng (h.fr _ (.tail _ (.tail _ (.head _)))).size)) ?_; refine w_r (v := .bool _) (fun _ => zT (bT h10) rfl) rfl rfl ?_; refine aB rfl ?_; refine yB ?_; refine ze ?_; refine zo (v := .bool _) rfl rfl rfl ?_; exact fun w' hw => ⟨rfl, hw.fr _ (.tail _ (.tail _ (.head _)))⟩
        · exact absurd (congrArg (Nat.cast : Nat → Int) hsm.2.1) h10
end Go.Proofs.YtaniogadknakoaaGreatDoor
end

section
/- Trees that are handed in: a reading of an argument opened into a tree in memory. -/
namespace Go.Sx
open Go.RowKit Go.Tree
section
variable {H : Type} {enc : TypeId × Value → H} {P : Program} {w : World} {sp : Nat → Bool} {hd : Bool}
end
end Go.Sx
end

section
/- A row of bytes that is handed in. -/
namespace Go.Sx
open Go.RowKit Go.ChangeShapes Go.ChangeShapes
section
variable {H : Type} {enc : TypeId × Value → H} {P : Program} {w : World} {base : Nat} {spare : Nat → Bool} {held : Bool}
theorem open_u8s {t e : TypeId} {fuel : Nat} {v : Value} {x : DataW H × List MemPlace} (ht : P.underlying t = some (.slice e)) (he : P.underlying e = some (.int .u8)) (hc : P.cellsOf e = 1) (hv : ∃ a n m, v = .slice a n m)
    (h : DataW.trod enc P w base spare held fuel t v.cells.toList = some x) :
    ∃ (us : List Nat) (wa : Option Addr) (wc : Nat), v = .slice wa us.length wc ∧ ∀ (j : Nat) u, us[j]? = some u → u < 256 ∧ ∃ b o, wa = some ⟨b, o, none⟩ ∧ w.cell? ⟨b, o + j * 1, none⟩ = some (.int .u8 (u : Nat)) := by
  obtain ⟨va, vn, vm, rfl⟩ := hv
  have one : ∀ {a : Option Addr} {n m : Nat}, (Value.slice va vn vm).cells.toList = [.slice a n m] → Value.slice va vn vm = .slice a n m := fun hu => by simpa [Value.cells] using hu
  rcases open_ints ht he hc h with ⟨hcs, _⟩ | ⟨a, len, cap, zs, hcs, hb, hl, hm, hz, _, hcell, hw⟩
  · exact ⟨[], none, 0, one hcs, fun j u hu => by simp at hu⟩
  · have hlz : len ≤ zs.length := by rw [hz]; split <;> omega
    refine ⟨(zs.take len).map Int.toNat, some a, cap, ?_, fun j u hu => ?_⟩
    · rw [one hcs, List.length_map, List.length_take, Nat.min_eq_left hlz]
    · have hj : j < len := by have := (List.getElem?_eq_some_iff.1 hu).1; simp at this; omega
      have hzj : zs[j]? = some zs[j] := List.getElem?_eq_getElem (by omega)
      have hu2 : u = (zs[j]).toNat := by
        rw [List.getElem?_map, List.getElem?_take, if_pos hj, hzj] at hu
        exact (Option.some.inj hu).symm
      have hwf := hw zs[j] (List.getElem_mem _)
      simp only [Lit.wf, Bool.and_eq_true, decide_eq_true_eq] at hwf
      have e1 : IntKind.u8.min = 0 := by decide
      have e2 : IntKind.u8.max = 255 := by decide
      have h0 := hcell 0 (by omega)
      have hsp : a.spot = none := by simpa [Addr.add] using World.cell?_spot h0
      obtain ⟨b, o, s⟩ := a
      simp only at hsp
      subst hsp
      have hc2 := hcell j (by omega)
      rw [List.getD_eq_getElem?_getD, hzj] at hc2
      refine ⟨by omega, b, o, rfl, ?_⟩
      rw [Nat.mul_one, hu2, Int.toNat_of_nonneg (by omega)]
      have : (⟨b, o, none⟩ : Addr).add j = ⟨b, o + j, none⟩ := by unfold Addr.add; split <;> simp_all
      rw [← this]; exact hc2
end
end Go.Sx
end

section
/- A row's lifting with what is laid and the world's shape. -/
namespace Go.Sx
theorem handed_and_shaped {H : Type} {enc : TypeId × Value → H} {a : Assume} {C : Checked} {os : Os} {f : FuncId} {fn : Func} {s : ChangeSpec} {conds : List PathCond} {apart fresh handsOn again : Bool} {X : World → Array Value → Prop}
    (hX : ∀ (w w' : World) (args : Array Value), w.heap = w'.heap → X w args → X w' args)
    (own : ownKnob C.prog.godebug = none) (started : os.Started) (noInit : C.prog.inits.idxOf? f = none) (hfn : C.prog.funcs[f]? = some fn)
    (witness : ∃ (w : World) (tape : Tape) (i : Input), w.os = os ∧ (w.forCall tape i).Shaped C.prog ∧ i.vars = [] ∧ Input.okWide C.prog (w.forCall tape i) .any w.heap.size f i ∧
      ((s.pre enc C.prog fn conds apart (w.forCall tape i).memory i.args ∧ X (w.forCall tape i).memory i.args) ∧ sizedMet enc C.prog fn (OpenSpec.ofChange s) apart (w.forCall tape i).memory i.args) ∧ a.holds C.prog (lone (Frame.enter C.prog f i.args .normal) [] (w.forCall tape i)))
    (contract : ∀ (W : World) (base : Nat) (args : Array Value) (ds gs : List (DataW H)) (before : List MemPlace),
      (∀ (j : Nat) t v, fn.params[j]? = some t → args[j]? = some v → Value.okWide C.prog W .any base t v) →
      DataW.Whole enc C.prog fn.params.toList s.vars apart W args.toList ds gs before →
      X W args → W.ShapedOpen C.prog →
      Calls C.prog f args W fun e W' => ∃ v, e = .returned v ∧ s.post enc C.prog fn apart fresh handsOn again W args v W') :
    ReturnsInHanded a C os f .any (fun w args => (s.pre enc C.prog fn conds apart w args ∧ X w args) ∧ sizedMet enc C.prog fn (OpenSpec.ofChange s) apart w args) (s.post enc C.prog fn apart fresh handsOn again) := by
  refine returnsInHanded_of_calls own started noInit witness ?_
  intro w tape i _ hsh _ hok hpre hholds
  obtain ⟨_, _, _, fn', hfn', _, _, _, _, hval⟩ := hok
  have e : fn' = fn := Option.some.inj (hfn'.symm.trans hfn)
  subst e
  obtain ⟨⟨⟨ds, gs, before, hw, hc⟩, hx⟩, hz⟩ := hpre
  have hw' := DataW.Whole.of_heap (w' := w.forCall tape i) (by rfl) hw
  refine (contract (w.forCall tape i) w.heap.size i.args ds gs before hval hw' (hX _ _ _ (by rfl) hx) hsh).mono fun e W' ⟨v, he, hp⟩ => ?_
  subst he
  exact ChangeSpec.post_blind hp
end Go.Sx
end

section
namespace Go.Proofs.YtaniogadknakoaaGreatDoor
open Go.ChangeShapes Go.WideShapes Go.ChangeAt Go.RowKit Go.Sx
open Go.ChangeMaps (open_string)
theorem own : ownKnob Tryz.prog.godebug = none := by kernel_rfl
theorem below_ext {w w' : World} (h : Ext w w') : Below w.heap.size w w' := ⟨h.os, h.tape, h.output, h.size, fun k hk => h.blk k hk (fun x => x)⟩
section
variable {H : Type} {enc : TypeId × Value → H} {P : Program}
theorem post_ext2 {f : Func} {s : ChangeSpec} {apart fresh handsOn : Bool} {W W' : World} {args : Array Value} {v : Value} {ds gs : List (DataW H)} {before pa pv : List MemPlace}
    (hW : DataW.Whole enc P f.params.toList s.vars apart W args.toList ds gs before)
    (hres : ∀ (b : Nat) (sp : Nat → Bool) (hd : Bool), DataW.TrodAll enc P W' b sp hd f.resultTypes.toList (v.resultList f.resultTypes.size) (s.fn H (ds ++ gs)).results [])
    (hargs : DataW.TrodAll enc P W' 0 (fun b => decide (b < W.heap.size)) true f.params.toList args.toList (s.fn H (ds ++ gs)).args pa)
    (hvars : ∀ sp : Nat → Bool, (∀ p ∈ before, sp p.block = true) → DataW.TrodVars enc P W' sp s.vars (s.fn H (ds ++ gs)).vars pv)
    (hps : before = pa ++ pv) (hb : Below W.heap.size W W') : s.post enc P f apart fresh handsOn false W args v W' := by
  have hold : ∀ p ∈ before, (fun b => decide (b < W.heap.size)) p.block = true := fun p hp => by simpa using hW.lt p hp
  exact ⟨ds, gs, before, [], pa, pv, hW, hres _ _ _, hargs, hvars _ hold, hb.frame _, fun h => by cases h⟩
end
theorem laidB : laidOutB Tryz.prog = true := by kernel_rfl
theorem door_met (os : Os) (args : Array Value) : laidMetH Tryz.prog Rows.parseBlanksRow.laid ((World.doorLaid Tryz.prog 400 os).forCall (fun _ _ => 0) ⟨#[], args, []⟩).memory :=
  laidMetH_of_parts3 (fuel := 8) (laidMet_of_run' 8 (by kernel_rfl) (by kernel_rfl)) (by kernel_rfl) (by kernel_rfl)
set_option maxRecDepth 100000 in
theorem tb_of_laid {W : World} (h : laidMetH Tryz.prog Rows.parseBlanksRow.laid W) : Tb W := by
  rw [MakeChecks.laidMetH_plain _ _ _ (by kernel_rfl)] at h
  obtain ⟨ps, ⟨g0, t0, cs0, f0, p0, q0, hg0, ht0, hv0, hd0, ⟨g1, t1, cs1, f1, p1, q1, hg1, ht1, hv1, hd1, hr1, hq0⟩, hps⟩, hn, hm⟩ := h
  refine Tb.of (Lib.tabIs_of_head (g := 0) (t := 115) (e := 5) (n := 256) (rest := []) (by kernel_rfl) (by kernel_rfl) Tryz.underlying115 Tryz.underlying5 (by kernel_rfl) (by kernel_rfl) (W := W) ⟨q0, ⟨g1, t1, cs1, f1, p1, q1, hg1, ht1, hv1, hd1, hr1, hq0⟩, ?_, ?_⟩)
  · rw [hps] at hn; exact (List.nodup_append.1 hn).2.1
  · exact fun b off hx => hm b off (by rw [hps]; exact List.mem_append.2 (.inr hx))
theorem size_of_shaped {P : Program} {w : World} {g : Nat} (h : w.ShapedOpen P) (hg : g < P.globals.size) (h0 : (((begin P (fun _ _ => 0) default).world.heap[g]?).bind Obj.row?).isSome = true) : g < w.heap.size := by
  obtain ⟨⟨zero, t⟩, h1⟩ := Option.isSome_iff_exists.1 h0
  obtain ⟨cs, hh, _⟩ := h.1 g zero t hg h1
  exact (Array.getElem?_eq_some_iff.1 hh).1

set_option maxRecDepth 100000 in
theorem parseBlanks_lifted (os : Os) (started : os.Started) (H : Type) (enc : TypeId × Value → H) :
    ReturnsInHanded {} Tryz.checked os 8 .any (fun w args => (Rows.parseBlanksSpec.pre enc Tryz.prog Tryz.f8 [] false w args ∧ laidMetH Tryz.prog Rows.parseBlanksRow.laid w) ∧ sizedMet enc Tryz.prog Tryz.f8 (OpenSpec.ofChange Rows.parseBlanksSpec) false w args)
      (Rows.parseBlanksSpec.post enc Tryz.prog Tryz.f8 false true false false) := by
  refine handed_and_shaped (C := Tryz.checked) (X := fun w _ => laidMetH Tryz.prog Rows.parseBlanksRow.laid w) (fun _ _ _ hh h => h.of_heap hh) own started (by kernel_rfl) Tryz.func8
    (ChangeSpec.witness_shaped (enc := enc) (C := Tryz.checked) (os := os) (X := fun w _ => laidMetH Tryz.prog Rows.parseBlanksRow.laid w) false (World.doorLaid Tryz.prog 400 os) #[.string ⟨#[]⟩, .slice none 0 0] 8 rfl (World.shaped_of_RefB (by kernel_rfl) (by kernel_rfl)) (by kernel_rfl) (by kernel_rfl) (by kernel_rfl) (door_met os _)) ?_
  intro W base args ds gs before hval0 hW hL hsh
  have hval : ∀ (j : Nat) t v, Tryz.f8.params[j]? = some t → args[j]? = some v → Value.okWide Tryz.prog W .any base t v := hval0
  have hW' := hW
  have hlt : ∀ y ∈ before, y.block < W.heap.size := fun y hy => by simpa using hW'.lt y hy
  obtain ⟨p, q, hA0, hV, rfl, _, _⟩ := hW
  have hA : DataW.TrodAll enc Tryz.prog W 0 (fun _ => true) true Tryz.f8.params.toList args.toList ds p := hA0
  rw [Tryz.params8] at hA hval
  obtain ⟨v0, v1, d0, d1, p0, p1, rfl, rfl, rfl, h0, h1⟩ := trodAll_two hA
  obtain ⟨rfl, rfl⟩ := trodVars_none hV
  obtain ⟨x0, rfl, rfl, rfl, wx0⟩ := open_string Tryz.underlying9 (hval 0 9 v0 rfl rfl) h0
  have hk1 := h1
  obtain ⟨f1, ht1⟩ := h1
  obtain ⟨us, wa, wc, rfl, hwh⟩ := open_u8s Tryz.underlying55 Tryz.underlying5 (by kernel_rfl) (Go.WideShapes.okWide_slice Tryz.underlying55 (hval 1 55 v1 rfl rfl)) ht1
  have ht := tb_of_laid hL
  clear hA0 hval0
  simp only [List.append_nil] at hW' hlt
  refine Calls.mono (blanks_law x0.data.toList (by have := wx0; unfold maxLen at this; simp; omega) _ rfl us wa wc W hwh ⟨ht, ht.lt, cell_of_shapedOpen_int hsh (zero := #[.int .i64 0]) (g := 2) (t := 3) (by decide) (by kernel_rfl) rfl (by kernel_rfl) (by kernel_rfl) Tryz.underlying3⟩ (size_of_shaped hsh (g := 3) (by decide) (by kernel_rfl))) fun e W' ⟨v, he, hv, hx⟩ => ?_
  subst he; subst hv
  exact ⟨_, rfl, post_ext2 (pv := []) hW' (fun _ _ _ => trodAll_mk1 (shut_bool Tryz.underlying4 _)) (trodAll_mk2 (ChangeMaps.shut_string Tryz.underlying9 wx0) (Below.trod laidB (by kernel_rfl) (of_decide_eq_true (by kernel_rfl)) hk1 (below_ext hx) (fun y hy => hlt y (by simp [hy])))) (fun _ _ => rfl) (by simp) (below_ext hx)⟩
theorem parseBlanks_holds : Rows.ParseBlanksSaid :=
  OpenClaim.holds_of_wide 8 Tryz.f8 rfl rfl rfl rfl rfl rfl rfl ⟨rfl, rfl, rfl, rfl, rfl⟩ rfl rfl rfl rfl rfl (by kernel_rfl) Tryz.func8 (by kernel_rfl)
    (of_decide_eq_true (by kernel_rfl)) (by unfold Func.isWrapper; first | (rw [if_pos (by decide +kernel)]; kernel_rfl) | (rw [if_neg (by decide +kernel)]; exact ⟨rfl, rfl⟩))
    (fun os started H enc _ => parseBlanks_lifted os started H enc)
end Go.Proofs.YtaniogadknakoaaGreatDoor
end

section
namespace Go.Proofs.YtaniogadknakoaaGreatDoor
open Go
theorem parseBlanks_card : Rows.ParseBlanksCardSaid :=
  Claim7.holds_tied_plain_at .later [] [.listed, .data] true (true, "a9064e2a442c3b536780d827cf246cb9ffd59ece4e9a70045f3d8d8099ffcaba") true
    parseBlanks_holds (fun _ h => by cases h) (by kernel_rfl) (fun _ h => by cases h) parseBlanks_row_tie rfl ⟨rfl, rfl⟩ (by kernel_rfl) rfl
    (fun f fn hf hfn => by
      obtain rfl : f = 8 := Option.some.inj ((show Tryz.prog.funcNamed "stepstone/stepstonelaw13.ParseBlanks" = some 8 by kernel_rfl).symm.trans hf) |>.symm
      obtain rfl : fn = Tryz.f8 := (Option.some.inj (Tryz.func8.symm.trans hfn)).symm
      exact ⟨by kernel_rfl, fun j t ht => by
        rw [Tryz.params8] at ht
        rcases j with _ | _ | j
        · obtain rfl : t = 9 := by simpa using ht.symm
          exact (show Tryz.prog.wantsStandIn 9 = false by kernel_rfl)
        · obtain rfl : t = 55 := by simpa using ht.symm
          exact (show Tryz.prog.wantsStandIn 55 = false by kernel_rfl)
        · simp at ht⟩)
    (by kernel_rfl)
end Go.Proofs.YtaniogadknakoaaGreatDoor
end
