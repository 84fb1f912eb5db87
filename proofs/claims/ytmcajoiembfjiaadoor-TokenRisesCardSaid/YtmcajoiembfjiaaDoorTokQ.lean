/- The plain part of layer token: a token alone reads as it did. -/
import Derived.Test.YtmcajoiembfjiaaDoorTokO
namespace Go.Tok
theorem and_cut {p q : UInt8 → Bool} {s R : List UInt8} {k e j i : Nat} (hR : Bl R) (hp : p 32 = false) (hq : q 32 = false) (he : e ≤ s.length) (hk : k ≤ j) (h : j ≤ e) (hi : i = j - k) (hend : (atP p s j && atP q s (j + 1)) = true → j + 2 ≤ e) :
    (atP p ((s.drop k).take (e - k) ++ R) i && atP q ((s.drop k).take (e - k) ++ R) (i + 1)) = (atP p s j && atP q s (j + 1)) := by
  subst hi
  have b1 := bl_cut (k := k) (i := j - k) hR hp he (by omega)
  rw [show k + (j - k) = j by omega] at b1
  rw [b1]
  split
  · rename_i h1
    have b2 := bl_cut (k := k) (i := j - k + 1) hR hq he (by omega)
    rw [show k + (j - k + 1) = j + 1 by omega] at b2
    rw [b2]
    split
    · rfl
    · cases hc : (atP p s j && atP q s (j + 1)) with
      | true => have := hend hc; omega
      | false => simp
  · cases hc : (atP p s j && atP q s (j + 1)) with
    | true => have := hend hc; omega
    | false => simp
theorem run_cut' {p : UInt8 → Bool} {s R : List UInt8} {k e j i : Nat} (hR : Bl R) (hp : p 32 = false) (he : e ≤ s.length) (hk : k ≤ j) (h : j ≤ e) (hi : i = j - k) (hr : runTo p s j ≤ e) : runTo p ((s.drop k).take (e - k) ++ R) i = runTo p s j - k := by
  subst hi
  have := run_cut (k := k) (i := j - k) hR hp he _ rfl (by omega) (by rw [show k + (j - k) = j by omega]; exact hr)
  rw [show k + (j - k) = j by omega] at this
  omega
theorem dot_cut {s R : List UInt8} {k e j i : Nat} (hR : Bl R) (he : e ≤ s.length) (hk : k ≤ j) (h : j ≤ e) (hi : i = j - k) (hr : numDot s j ≤ e) : numDot ((s.drop k).take (e - k) ++ R) i = numDot s j - k := by
  have ha := and_cut (p := eqB 46) (q := digitB) hR (by decide) (by decide) he hk h hi (fun hc => by
    unfold numDot at hr
    rw [if_pos hc] at hr
    simp only [Bool.and_eq_true] at hc
    have h1 := runTo_step hc.2
    have h2 := runTo_ge digitB s (j + 1 + 1)
    omega)
  unfold numDot at hr ⊢
  rw [ha]
  split
  · rename_i hc
    rw [if_pos hc] at hr
    exact run_cut' hR (by decide) he (by omega) (by have := runTo_ge digitB s (j + 1); omega) (by omega) hr
  · exact hi
theorem tens_cut {s R : List UInt8} {k e j i : Nat} (hR : Bl R) (he : e ≤ s.length) (hk : k ≤ j) (h : j ≤ e) (hi : i = j - k) (hr : (numTens s j).2 = e) : numTens ((s.drop k).take (e - k) ++ R) i = ((numTens s j).1, e - k) := by
  by_cases c1 : (atP (eqB 101) s j && atP digitB s (j + 1)) = true
  · have hs : numTens s j = (runTo digitB s (j + 1) - (j + 1), runTo digitB s (j + 1)) := by unfold numTens; rw [if_pos c1]
    rw [hs] at hr ⊢
    simp only at hr ⊢
    have c1' := c1
    simp only [Bool.and_eq_true] at c1'
    have h1 := runTo_step c1'.2
    have h2 := runTo_ge digitB s (j + 1 + 1)
    have ha := and_cut (p := eqB 101) (q := digitB) hR (by decide) (by decide) he hk h hi (fun _ => by omega)
    have hrun := run_cut' (p := digitB) (i := i + 1) hR (by decide) he (by omega : k ≤ j + 1) (by omega) (by omega) (by omega)
    unfold numTens
    rw [ha, if_pos c1, hrun, hr]
    simp only [Prod.mk.injEq, and_true]; omega
  · by_cases c2 : (atP (eqB 101) s j && (atP pmB s (j + 1) && atP digitB s (j + 2))) = true
    · have hs : numTens s j = (runTo digitB s (j + 2) - (j + 2), runTo digitB s (j + 2)) := by unfold numTens; rw [if_neg c1, if_pos c2]
      rw [hs] at hr ⊢
      simp only at hr ⊢
      have c2' := c2
      simp only [Bool.and_eq_true] at c2'
      have h1 := runTo_step c2'.2.2
      have h2 := runTo_ge digitB s (j + 2 + 1)
      have ha := and_cut (p := eqB 101) (q := digitB) hR (by decide) (by decide) he hk h hi (fun hc => absurd hc c1)
      have b0 := bl_cut (p := eqB 101) (k := k) (i := i) hR (by decide) he (by omega : k + i ≤ e)
      have b1 := bl_cut (p := pmB) (k := k) (i := i + 1) hR (by decide) he (by omega : k + (i + 1) ≤ e)
      have b2 := bl_cut (p := digitB) (k := k) (i := i + 2) hR (by decide) he (by omega : k + (i + 2) ≤ e)
      rw [if_pos (by omega), show k + i = j by omega] at b0
      rw [if_pos (by omega), show k + (i + 1) = j + 1 by omega] at b1
      rw [if_pos (by omega), show k + (i + 2) = j + 2 by omega] at b2
      have hrun := run_cut' (p := digitB) (i := i + 2) hR (by decide) he (by omega : k ≤ j + 2) (by omega) (by omega) (by omega)
      unfold numTens
      rw [ha, if_neg c1, b0, b1, b2, if_pos c2, hrun, hr]
      simp only [Prod.mk.injEq, and_true]; omega
    · have hs : numTens s j = (0, j) := by unfold numTens; rw [if_neg c1, if_neg c2]
      rw [hs] at hr ⊢
      simp only at hr ⊢
      have b0 := bl_cut (p := eqB 101) (k := k) (i := i) hR (by decide) he (by omega : k + i ≤ e)
      rw [if_neg (by omega)] at b0
      unfold numTens
      rw [b0]
      simp only [Bool.false_and, Bool.false_eq_true, if_false, Prod.mk.injEq, true_and]
      omega
theorem num_cut {s R : List UInt8} {k e : Nat} (hR : Bl R) (he : e ≤ s.length) (hk : k ≤ e) (hn : numEnd s k = e) (hf : numFine s k = true) : numEnd ((s.drop k).take (e - k) ++ R) 0 = e - k ∧ numFine ((s.drop k).take (e - k) ++ R) 0 = true := by
  have h1 := runTo_le (p := digitB) (s := s) (i := k) (by omega)
  have h2 := numDot_le h1
  have h3 := numTens_le h2.1
  have g1 := runTo_ge digitB s k
  unfold numEnd at hn
  have e1 := run_cut' (p := digitB) (i := 0) (j := k) hR (by decide) he (Nat.le_refl _) hk (by omega) (by omega)
  have e2 := dot_cut (i := runTo digitB s k - k) (j := runTo digitB s k) hR he g1 (by omega) rfl (by omega)
  have e3 := tens_cut (i := numDot s (runTo digitB s k) - k) (j := numDot s (runTo digitB s k)) hR he (by omega) (by omega) rfl hn
  have hE : numEnd ((s.drop k).take (e - k) ++ R) 0 = e - k := by unfold numEnd; rw [e1, e2, e3]
  refine ⟨hE, ?_⟩
  unfold numFine at hf ⊢
  rw [hE, e1, e2, e3]
  simp only [Bool.and_eq_true] at hf
  have b := bl_cut (p := tailB) (k := k) (i := e - k) hR (by decide) he (by omega : k + (e - k) ≤ e)
  rw [if_neg (by omega)] at b
  rw [b]
  simp only [Bool.and_eq_true]
  exact ⟨hf.1, rfl⟩
theorem sign_alone {R : List UInt8} (hR : Bl R) : ∀ t ∈ signsL, signsL.find? (fun x => x.isPrefixOf (t ++ R)) = some t ∧ atP blankB (t ++ R) 0 = false ∧ cmt (t ++ R) 0 = false := by
  intro t ht
  rcases hR with rfl | ⟨r, rfl⟩
  · rw [List.append_nil]
    revert t; decide +kernel
  · simp only [signsL, List.mem_cons, List.not_mem_nil, or_false] at ht
    rcases ht with rfl | rfl | rfl | rfl | rfl | rfl | rfl | rfl | rfl | rfl | rfl | rfl | rfl | rfl | rfl | rfl | rfl | rfl | rfl | rfl | rfl | rfl <;>
      exact ⟨by simp [signsL, List.find?, List.isPrefixOf], by simp [atP, blankB], by simp [cmt, atP, eqB]⟩
end Go.Tok
