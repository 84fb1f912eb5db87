/- The plain part of layer token: the tokens of a text one behind the other. -/
import Derived.Test.YtmcajoiembfjiaaDoorTokP
namespace Go.Tok

theorem numEnd_le {s : List UInt8} {i : Nat} (h : i ≤ s.length) : numEnd s i ≤ s.length ∧ runTo digitB s i ≤ numEnd s i := by
  have h1 := runTo_le (p := digitB) h
  have h2 := numDot_le h1
  have h3 := numTens_le h2.1
  unfold numEnd; omega
theorem nameB_run {s : List UInt8} {i : Nat} (h : nameB s i = true) : i < runTo wordB s i := by
  simp only [nameB, Bool.and_eq_true] at h
  have h1 : atP wordB s i = true := by
    have hl := atP_lt h.1
    rw [atP_in hl] at *
    simp [wordB, h.1]
  rw [runTo_step h1]
  have := runTo_ge wordB s (i + 1)
  omega
theorem digit_run {s : List UInt8} {i : Nat} (h : atP digitB s i = true) : i < runTo digitB s i := by
  rw [runTo_step h]
  have := runTo_ge digitB s (i + 1)
  omega
theorem signLen_le {s : List UInt8} {i : Nat} (h : i ≤ s.length) : i + signLen s i ≤ s.length := by
  unfold signLen
  cases ho : signOf s i with
  | none => simpa using h
  | some t =>
    have hp := List.find?_some ho
    have := (List.isPrefixOf_iff_prefix.1 hp).length_le
    simp at this ⊢
    omega
theorem tok_le {s : List UInt8} {i : Nat} (h : i ≤ s.length) : i ≤ (tokAt s i).2.1 ∧ (tokAt s i).2.1 ≤ s.length ∧ ((tokAt s i).2.2 = true → i < (tokAt s i).2.1) := by
  unfold tokAt
  split
  · rename_i h1
    have h2 := nameB_run h1
    have h3 := runTo_le (p := wordB) h
    exact ⟨by simp only; omega, h3, fun _ => h2⟩
  · split
    · rename_i h1
      have h2 := digit_run h1
      have h3 := numEnd_le h
      exact ⟨by simp only; omega, h3.1, fun _ => by simp only; omega⟩
    · split
      · exact ⟨Nat.le_refl _, h, fun hh => by cases hh⟩
      · have := signLen_le h
        exact ⟨by simp only; omega, this, fun _ => by simp only; omega⟩
def tokTx (s : List UInt8) (i : Nat) : List UInt8 := (s.drop i).take ((tokAt s i).2.1 - i)
theorem tokTx_len (s : List UInt8) (i : Nat) (h : s.length ≤ 100000) : (tokTx s i).length ≤ 100000 := by
  unfold tokTx; simp only [List.length_take, List.length_drop]; omega

section
variable {σ : Type} (nx : σ → Nat → List UInt8 → Nat → Bool → σ × Bool)
def lexF (s : List UInt8) : Nat → Nat → σ → σ
  | 0, _, x => x
  | f + 1, i, x =>
    if i < s.length then
      if (nx x (tokAt s i).1 (tokTx s i) i (tokAt s i).2.2).2 then lexF s f (skipTo s (tokAt s i).2.1) (nx x (tokAt s i).1 (tokTx s i) i (tokAt s i).2.2).1
      else (nx x (tokAt s i).1 (tokTx s i) i (tokAt s i).2.2).1
    else x
def lexS (s : List UInt8) (i : Nat) (x : σ) : σ := lexF nx s (s.length + 1 - i) i x
variable (hn : ∀ x k t a, (nx x k t a false).2 = false)
include hn
theorem fine_of {s : List UInt8} {i : Nat} {x : σ} (h : (nx x (tokAt s i).1 (tokTx s i) i (tokAt s i).2.2).2 = true) : (tokAt s i).2.2 = true := by
  cases hb : (tokAt s i).2.2 with
  | true => rfl
  | false => rw [hb, hn] at h; cases h
theorem lexF_more (s : List UInt8) : ∀ (f f' i : Nat) (x : σ), s.length + 1 - i ≤ f → s.length + 1 - i ≤ f' → i ≤ s.length → lexF nx s f i x = lexF nx s f' i x
  | 0, _, i, _, h, _, hi => by omega
  | _ + 1, 0, i, _, _, h, hi => by omega
  | f + 1, f' + 1, i, x, h, h', hi => by
    unfold lexF
    split
    · split
      · rename_i h1 h2
        have h3 := tok_le hi
        have h4 := h3.2.2 (fine_of nx hn h2)
        have h5 := skipTo_le h3.2.1
        exact lexF_more s f f' _ _ (by omega) (by omega) h5.1
      · rfl
    · rfl
omit hn in
theorem lexS_stop {s : List UInt8} {i : Nat} {x : σ} (h : ¬ i < s.length) : lexS nx s i x = x := by
  unfold lexS
  cases hf : s.length + 1 - i with
  | zero => rfl
  | succ f => rw [lexF, if_neg h]
omit hn in
theorem lexS_end {s : List UInt8} {i : Nat} {x : σ} (h : i < s.length) (h2 : (nx x (tokAt s i).1 (tokTx s i) i (tokAt s i).2.2).2 = false) : lexS nx s i x = (nx x (tokAt s i).1 (tokTx s i) i (tokAt s i).2.2).1 := by
  unfold lexS
  rw [show s.length + 1 - i = (s.length - i) + 1 from by omega, lexF, if_pos h, if_neg (by rw [h2]; simp)]
theorem lexS_go {s : List UInt8} {i : Nat} {x : σ} (h : i < s.length) (h2 : (nx x (tokAt s i).1 (tokTx s i) i (tokAt s i).2.2).2 = true) : lexS nx s i x = lexS nx s (skipTo s (tokAt s i).2.1) (nx x (tokAt s i).1 (tokTx s i) i (tokAt s i).2.2).1 := by
  have h3 := tok_le (Nat.le_of_lt h)
  have h4 := h3.2.2 (fine_of nx hn h2)
  have h5 := skipTo_le h3.2.1
  unfold lexS
  rw [show s.length + 1 - i = (s.length - i) + 1 from by omega, lexF, if_pos h, if_pos h2]
  exact lexF_more nx hn s _ _ _ _ (by omega) (by omega) h5.1
end
end Go.Tok
