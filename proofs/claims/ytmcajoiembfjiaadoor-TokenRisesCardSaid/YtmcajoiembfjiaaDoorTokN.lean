/- The plain part of layer token: what lies between the tokens; a token alone before a blank. -/
import Derived.Test.YtmcajoiembfjiaaDoorTokK
namespace Go.Tok
theorem atP_take {p : UInt8 → Bool} {s : List UInt8} {j k : Nat} (h : k < j) : atP p (s.take j) k = atP p s k := by
  unfold atP; rw [List.getElem?_take_of_lt h]
theorem atP_take_out {p : UInt8 → Bool} {s : List UInt8} {j k : Nat} (h : j ≤ k) : atP p (s.take j) k = false := atP_out (by simp; omega)
/-- a run in a text cut off no sooner than the run ends -/
theorem runTo_take {p : UInt8 → Bool} {s : List UInt8} {j : Nat} : ∀ (m i : Nat), m = j - i → i ≤ j → runTo p s i ≤ j → runTo p (s.take j) i = runTo p s i := by
  intro m
  induction m with
  | zero =>
    intro i hm hi h
    have hg := runTo_ge p s i
    have : i = j := by omega
    subst this
    rw [runTo_stop (atP_take_out (Nat.le_refl _))]; omega
  | succ m ih =>
    intro i hm hi h
    cases ha : atP p s i with
    | true =>
      rw [runTo_step ha, runTo_step ((atP_take (by omega)).trans ha)]
      exact ih (i + 1) (by omega) (by omega) (by rw [← runTo_step ha]; exact h)
    | false => rw [runTo_stop ha, runTo_stop ((atP_take (by omega)).trans ha)]
theorem skip_take {s : List UInt8} {j : Nat} (hj : j ≤ s.length) : ∀ (m i : Nat), m = s.length - i → i ≤ j → skipTo s i = j → skipTo (s.take j) i = j := by
  intro m
  induction m using Nat.strongRecOn with
  | _ m ih =>
    intro i hm hi h
    have hlen : (s.take j).length = j := by simp; omega
    have hb := runTo_le (p := blankB) (s := s) (i := i) (by omega)
    have hb2 := runTo_ge blankB s i
    have hs := skipTo_eq (s := s) (i := i) (by omega)
    rw [hs] at h
    rw [skipTo_eq (s := s.take j) (i := i) (by omega)]
    split at h
    · rename_i hc
      have h1 := cmt_run hc
      have h2 := runTo_le (p := notNl) hb
      have h3 := skipTo_le h2
      have e1 : runTo blankB (s.take j) i = runTo blankB s i := runTo_take _ _ rfl hi (by omega)
      have e2 : cmt (s.take j) (runTo blankB s i) = true := by
        have hc' := hc
        simp only [cmt, Bool.and_eq_true] at hc' ⊢
        exact ⟨(atP_take (by omega)).trans hc'.1, (atP_take (by omega)).trans hc'.2⟩
      have e3 : runTo notNl (s.take j) (runTo blankB s i) = runTo notNl s (runTo blankB s i) := runTo_take _ _ rfl (by omega) (by omega)
      rw [e1, if_pos e2, e3]
      exact ih _ (by omega) _ rfl (by omega) h
    · have e1 : runTo blankB (s.take j) i = runTo blankB s i := runTo_take _ _ rfl hi (by omega)
      have e2 : cmt (s.take j) j = false := by rw [cmt, atP_take_out (Nat.le_refl _)]; rfl
      rw [e1, h, e2]; rfl
/-- between two tokens there is nothing to read -/
theorem gap_read {s : List UInt8} {i : Nat} (hi : i ≤ s.length) (hs : s.length ≤ 20000) : readP ((s.drop i).take (skipTo s i - i)) = ([], 0, 0) := by
  have h := skipTo_le hi
  have h1 := skip_take h.1 _ i rfl h.2 rfl
  have hg : s.take (skipTo s i) = s.take i ++ (s.drop i).take (skipTo s i - i) := by
    rw [← List.take_add, show i + (skipTo s i - i) = skipTo s i by omega]
  have hl : (s.take i).length = i := by simp; omega
  have h2 := skip_sh (u := s.take i) (v := (s.drop i).take (skipTo s i - i)) 0
  rw [hl, ← hg, Nat.add_zero, h1] at h2
  have hgl : ((s.drop i).take (skipTo s i - i)).length = skipTo s i - i := by simp; omega
  have hS : readS ((s.drop i).take (skipTo s i - i)) = ([], 0, 0) := by
    unfold readS; rw [lexS_stop readN (by omega)]
  rw [readP_fine (by omega) (by rw [hS]), hS]
end Go.Tok
