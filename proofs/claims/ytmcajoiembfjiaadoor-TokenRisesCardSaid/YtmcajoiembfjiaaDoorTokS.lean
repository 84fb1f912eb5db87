/- The plain part of layer token: the tokens of a text with blanks between them. -/
import Derived.Test.YtmcajoiembfjiaaDoorTokQ
namespace Go.Tok
theorem letter_blank (b : UInt8) : letterB b = true → blankB b = false ∧ eqB 47 b = false := byte_all (fun b => letterB b = true → blankB b = false ∧ eqB 47 b = false) (by decide +kernel) b
theorem digit_blank (b : UInt8) : digitB b = true → blankB b = false ∧ eqB 47 b = false := byte_all (fun b => digitB b = true → blankB b = false ∧ eqB 47 b = false) (by decide +kernel) b
theorem at_two {p q : UInt8 → Bool} {s : List UInt8} {i : Nat} (h : ∀ b, p b = true → q b = false) (ha : atP p s i = true) : atP q s i = false := by
  have hl := atP_lt ha
  rw [atP_in hl] at ha ⊢
  exact h _ ha
/-- a token alone before a blank or the end reads as it did -/
theorem tok_cut {s R : List UInt8} {k e kd : Nat} (hR : Bl R) (hk : k ≤ s.length) (h : tokAt s k = (kd, e, true)) :
    tokAt ((s.drop k).take (e - k) ++ R) 0 = (kd, e - k, true) ∧ atP blankB ((s.drop k).take (e - k) ++ R) 0 = false ∧ cmt ((s.drop k).take (e - k) ++ R) 0 = false := by
  have h1 := tok_le hk
  rw [h] at h1
  simp only at h1
  have hke : k < e := h1.2.2 trivial
  have he := h1.2.1
  have z : ∀ p : UInt8 → Bool, p 32 = false → atP p ((s.drop k).take (e - k) ++ R) 0 = atP p s k := fun p hp => by
    have := bl_cut (k := k) (i := 0) (p := p) hR hp he (by omega)
    rw [if_pos (by omega), Nat.add_zero] at this
    exact this
  have zn : nameB ((s.drop k).take (e - k) ++ R) 0 = nameB s k := by unfold nameB; rw [z _ (by decide), z _ (by decide)]
  unfold tokAt at h
  split at h
  · rename_i hn
    simp only [Prod.mk.injEq, and_true] at h
    obtain ⟨rfl, hr⟩ := h
    have e1 := run_cut' (p := wordB) (i := 0) (j := k) hR (by decide) he (Nat.le_refl _) (by omega) (by omega) (by omega)
    have hn2 := hn
    simp only [nameB, Bool.and_eq_true] at hn2
    refine ⟨?_, ?_, ?_⟩
    · rw [tokAt, if_pos (zn.trans hn), e1, hr]
    · have := at_two (fun b hb => (letter_blank b hb).1) ((z letterB (by decide)).trans hn2.1)
      exact this
    · rw [cmt, at_two (fun b hb => (letter_blank b hb).2) ((z letterB (by decide)).trans hn2.1)]; rfl
  · rename_i hn
    split at h
    · rename_i hd
      simp only [Prod.mk.injEq] at h
      obtain ⟨rfl, hr, hf⟩ := h
      have e1 := num_cut (k := k) hR he (by omega) hr hf
      refine ⟨?_, ?_, ?_⟩
      · rw [tokAt, if_neg (by rw [zn]; exact hn), if_pos ((z digitB (by decide)).trans hd), e1.1, e1.2]
      · exact at_two (fun b hb => (digit_blank b hb).1) ((z digitB (by decide)).trans hd)
      · rw [cmt, at_two (fun b hb => (digit_blank b hb).2) ((z digitB (by decide)).trans hd)]; rfl
    · rename_i hd
      split at h
      · simp at h
      · rename_i hs
        simp only [Prod.mk.injEq, and_true] at h
        obtain ⟨rfl, hr⟩ := h
        cases ho : signOf s k with
        | none => exact absurd (by simp [signLen, ho]) hs
        | some t =>
          have hL : signLen s k = t.length := by simp [signLen, ho]
          have hmem : t ∈ signsL := List.mem_of_find?_eq_some ho
          have hpre0 := List.find?_some ho
          have hpre := List.isPrefixOf_iff_prefix.1 hpre0
          have ht : (s.drop k).take (e - k) = t := by
            rw [show e - k = t.length by omega]
            exact (List.prefix_iff_eq_take.1 hpre).symm
          have ha := sign_alone hR t hmem
          rw [ht] at z zn ⊢
          refine ⟨?_, ha.2.1, ha.2.2⟩
          have hs2 : signLen (t ++ R) 0 = t.length := by
            unfold signLen signOf
            rw [List.drop_zero, ha.1]; rfl
          rw [tokAt, if_neg (by rw [zn]; exact hn), if_neg (by rw [z _ (by decide)]; exact hd), if_neg (by rw [hs2]; omega), hs2]
          simp only [Prod.mk.injEq, and_true, true_and]; omega
end Go.Tok
