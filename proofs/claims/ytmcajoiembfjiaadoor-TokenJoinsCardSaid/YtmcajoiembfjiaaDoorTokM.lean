/- The plain part of layer token: many signs, many blanks. -/
import Derived.Test.YtmcajoiembfjiaaDoorTokG
namespace Go.Tok
theorem rep_at {p : UInt8 → Bool} {c : UInt8} {n i : Nat} (h : i < n) : atP p (List.replicate n c) i = p c := by
  rw [atP_in (by simpa using h)]; simp
theorem semi_tok {n i : Nat} (h : i < n) : tokAt (List.replicate n 59) i = (3, i + 1, true) := by
  have h1 : nameB (List.replicate n 59) i = false := by rw [nameB, rep_at h, rep_at h]; decide
  have h2 : atP digitB (List.replicate n 59) i = false := by rw [rep_at h]; decide
  have h3 : signLen (List.replicate n 59) i = 1 := by
    obtain ⟨m, hm⟩ : ∃ m, n - i = m + 1 := ⟨n - i - 1, by omega⟩
    have : (List.replicate n (59 : UInt8)).drop i = 59 :: List.replicate m 59 := by rw [List.drop_replicate, hm, List.replicate_succ]
    unfold signLen signOf
    rw [this]
    simp [signsL, List.isPrefixOf, List.find?]
  rw [tokAt, if_neg (by rw [h1]; simp), if_neg (by rw [h2]; simp), if_neg (by rw [h3]; simp), h3]
theorem semi_skip {n i : Nat} (h : i ≤ n) : skipTo (List.replicate n 59) i = i := by
  rcases Nat.lt_or_ge i n with hl | hl
  · refine skip_stop (by simpa using h) (by rw [rep_at hl]; decide) ?_
    rw [cmt, rep_at hl]; rfl
  · refine skip_stop (by simpa using h) (atP_out (by simpa using hl)) ?_
    rw [cmt, atP_out (by simpa using hl)]; rfl
theorem semi_lex (n : Nat) : ∀ (m i : Nat) (x : Rd), m = n - i → i ≤ n → i ≤ 6000 → x.1.length = i → x.2 = (0, 0) →
    (n ≤ 6000 → (lexS readN (List.replicate n 59) i x).1.length = n ∧ (lexS readN (List.replicate n 59) i x).2 = (0, 0)) ∧ (6000 < n → (lexS readN (List.replicate n 59) i x).2 = (6, 6000))
  | 0, i, x, hm, hi, h6, hx, h0 => by
    rw [lexS_stop readN (by simp; omega)]
    exact ⟨fun _ => ⟨by omega, h0⟩, fun _ => by omega⟩
  | m + 1, i, x, hm, hi, h6, hx, h0 => by
    have hl : i < n := by omega
    have ht := semi_tok hl
    rcases Nat.lt_or_ge i 6000 with h7 | h7
    · have hN : readN x (tokAt (List.replicate n 59) i).1 (tokTx (List.replicate n 59) i) i (tokAt (List.replicate n 59) i).2.2 = ((x.1 ++ [(3, tokTx (List.replicate n 59) i, i)], x.2), true) := by
        rw [ht, readN, if_neg (by simp), if_neg (by omega)]
      rw [lexS_go readN readN_no (by simpa using hl) (by rw [hN]), hN, ht]
      simp only
      rw [semi_skip (by omega)]
      exact semi_lex n m (i + 1) _ (by omega) (by omega) (by omega) (by simp; omega) h0
    · have hN : readN x (tokAt (List.replicate n 59) i).1 (tokTx (List.replicate n 59) i) i (tokAt (List.replicate n 59) i).2.2 = ((x.1, 6, i), false) := by
        rw [ht, readN, if_neg (by simp), if_pos (by omega)]
      rw [lexS_end readN (by simpa using hl) (by rw [hN]), hN]
      exact ⟨fun _ => by omega, fun _ => by simp only; rw [show i = 6000 by omega]⟩
theorem semi_read {n : Nat} (h : n ≤ 20000) : (n ≤ 6000 → (readP (List.replicate n 59)).1.length = n ∧ (readP (List.replicate n 59)).2 = (0, 0)) ∧ (6000 < n → readP (List.replicate n 59) = ([], 6, 6000)) := by
  have hk := semi_lex n n 0 ([], 0, 0) (by omega) (Nat.zero_le _) (by omega) rfl rfl
  have hs : readS (List.replicate n 59) = lexS readN (List.replicate n 59) 0 ([], 0, 0) := by rw [readS, semi_skip (Nat.zero_le _)]
  rw [← hs] at hk
  constructor
  · intro h6
    have h1 := hk.1 h6
    rw [readP_fine (by simpa using h) (by rw [h1.2])]
    exact ⟨h1.1, rfl⟩
  · intro h6
    have h1 := hk.2 h6
    rw [readP_bad (by simpa using h) (by rw [h1]; simp), h1]
theorem blank_skip (n : Nat) : skipTo (List.replicate n 32) 0 = n := by
  have h1 : runTo blankB (List.replicate n 32) 0 = n := by
    unfold runTo
    have : (List.replicate n (32 : UInt8)).takeWhile blankB = List.replicate n 32 := by
      rw [List.takeWhile_replicate]; rw [if_pos (by decide)]
    simp [this]
  rw [skipTo_eq (Nat.zero_le _), h1, if_neg (by rw [cmt, atP_out (by simp)]; simp)]
theorem blank_read (n : Nat) : readP (List.replicate n 32) = if 20000 < n then ([], 3, 0) else ([], 0, 0) := by
  have hs : readS (List.replicate n 32) = ([], 0, 0) := by rw [readS, blank_skip, lexS_stop readN (by simp)]
  split
  · rename_i h; exact readP_long (by simpa using h)
  · rename_i h; rw [readP_fine (by simpa using h) (by rw [hs]), hs]
end Go.Tok
