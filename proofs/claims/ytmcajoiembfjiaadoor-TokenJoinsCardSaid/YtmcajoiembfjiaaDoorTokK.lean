/- The plain part of layer token: Read of texts one behind the other. -/
import Derived.Test.YtmcajoiembfjiaaDoorTokJ
namespace Go.Tok
theorem readN_go {x : Rd} {k : Nat} {t : List UInt8} {a : Nat} {b : Bool} (h : (readN x k t a b).2 = true) : b = true ∧ readN x k t a b = ((x.1 ++ [(k, t, a)], x.2), true) := by
  unfold readN at h ⊢
  split at h
  · cases h
  · rename_i hb
    split at h
    · cases h
    · rename_i h6
      rw [if_neg hb, if_neg h6]
      exact ⟨by cases b <;> simp_all, rfl⟩
theorem readN_end {x : Rd} {k : Nat} {t : List UInt8} {a : Nat} {b : Bool} (h : (readN x k t a b).2 = false) : (readN x k t a b).1.2.1 ≠ 0 := by
  unfold readN at h ⊢
  split at h
  · rename_i hb; rw [if_pos hb]; simp
  · rename_i hb
    split at h
    · rename_i h6; rw [if_neg hb, if_pos h6]; simp
    · cases h
theorem lex_pre {u r : List UInt8} : ∀ (m i : Nat) (x : Rd), m = u.length - i → i ≤ u.length → x.2.1 = 0 →
    lexS readN (u ++ 10 :: r) (if i < u.length then i else skipTo (u ++ 10 :: r) (u.length + 1)) x =
      if (lexS readN u i x).2.1 = 0 then lexS readN (u ++ 10 :: r) (skipTo (u ++ 10 :: r) (u.length + 1)) (lexS readN u i x) else lexS readN u i x := by
  intro m
  induction m using Nat.strongRecOn with
  | _ m ih =>
    intro i x hm hi hx
    rcases Nat.lt_or_ge i u.length with hl | hl
    · rw [if_pos hl]
      have hls : i < (u ++ 10 :: r).length := by simp; omega
      have ht := tok_pre (r := r) hi
      have hx2 := tx_pre (r := r) hi
      cases hgo : (readN x (tokAt u i).1 (tokTx u i) i (tokAt u i).2.2).2 with
      | true =>
        have hN := readN_go hgo
        have h1 := tok_le hi
        have h2 := h1.2.2 hN.1
        have h3 := skipTo_le h1.2.1
        have h4 := skip_pre (r := r) h1.2.1
        rw [lexS_go readN readN_no hls (by rw [ht, hx2]; exact hgo), lexS_go readN readN_no hl hgo, ht, hx2, h4]
        exact ih _ (by omega) _ _ rfl h3.1 (by rw [hN.2]; exact hx)
      | false =>
        rw [lexS_end readN hls (by rw [ht, hx2]; exact hgo), lexS_end readN hl hgo, ht, hx2, if_neg (readN_end hgo)]
    · have hst : lexS readN u i x = x := lexS_stop readN (by omega)
      rw [if_neg (by omega), hst, if_pos hx]
theorem lex_len {s : List UInt8} : ∀ (m i : Nat) (x : Rd), m = s.length - i → i ≤ s.length → x.1.length ≤ i → (lexS readN s i x).1.length ≤ s.length := by
  intro m
  induction m using Nat.strongRecOn with
  | _ m ih =>
    intro i x hm hi hx
    rcases Nat.lt_or_ge i s.length with hl | hl
    · cases hgo : (readN x (tokAt s i).1 (tokTx s i) i (tokAt s i).2.2).2 with
      | true =>
        have hN := readN_go hgo
        have h1 := tok_le hi
        have h2 := h1.2.2 hN.1
        have h3 := skipTo_le h1.2.1
        rw [lexS_go readN readN_no hl hgo]
        exact ih _ (by omega) _ _ rfl h3.1 (by rw [hN.2]; simp; omega)
      | false =>
        rw [lexS_end readN hl hgo]
        have : (readN x (tokAt s i).1 (tokTx s i) i (tokAt s i).2.2).1.1 = x.1 := by
          unfold readN at hgo ⊢
          split
          · rfl
          · rename_i hb
            split
            · rfl
            · rename_i h6; rw [if_neg hb, if_neg h6] at hgo; cases hgo
        rw [this]; omega
    · rw [lexS_stop readN (by omega)]; omega
def sh (d : Nat) (t : Tk) : Tk := (t.1, t.2.1, d + t.2.2)
def shF (d : Nat) (f : Nat × Nat) : Nat × Nat := if f.1 = 0 then (0, 0) else (f.1, d + f.2)
theorem lex_sh {u v : List UInt8} (pre : List Tk) (hpre : pre.length + v.length < 6000) : ∀ (m i : Nat) (x : Rd), m = v.length - i → i ≤ v.length → x.1.length ≤ i → x.2 = (0, 0) →
    lexS readN (u ++ v) (u.length + i) (pre ++ x.1.map (sh u.length), (0, 0)) = (pre ++ (lexS readN v i x).1.map (sh u.length), shF u.length (lexS readN v i x).2) := by
  intro m
  induction m using Nat.strongRecOn with
  | _ m ih =>
    intro i x hm hi hx h0
    rcases Nat.lt_or_ge i v.length with hl | hl
    · have hls : u.length + i < (u ++ v).length := by simp; omega
      have ht := tok_sh (u := u) (v := v) i
      have hx2 := tx_sh (u := u) (v := v) i
      cases hb : (tokAt v i).2.2 with
      | true =>
        have hN : readN x (tokAt v i).1 (tokTx v i) i (tokAt v i).2.2 = ((x.1 ++ [((tokAt v i).1, tokTx v i, i)], x.2), true) := by
          rw [hb, readN, if_neg (by simp), if_neg (by omega)]
        have hN2 : readN (pre ++ x.1.map (sh u.length), (0, 0)) (tokAt (u ++ v) (u.length + i)).1 (tokTx (u ++ v) (u.length + i)) (u.length + i) (tokAt (u ++ v) (u.length + i)).2.2 =
            ((pre ++ (x.1 ++ [((tokAt v i).1, tokTx v i, i)]).map (sh u.length), (0, 0)), true) := by
          rw [ht, hx2]; simp only [hb]; rw [readN, if_neg (by simp), if_neg (by simp; omega)]; simp [sh]
        have h1 := tok_le hi
        have h2 := h1.2.2 hb
        have h3 := skipTo_le h1.2.1
        rw [lexS_go readN readN_no hls (by rw [hN2]), lexS_go readN readN_no hl (by rw [hN]), hN2, hN, ht]
        simp only
        rw [skip_sh]
        exact ih _ (by omega) _ (x.1 ++ [((tokAt v i).1, tokTx v i, i)], x.2) rfl h3.1 (by simp; omega) h0
      | false =>
        have hN : readN x (tokAt v i).1 (tokTx v i) i (tokAt v i).2.2 = ((x.1, 110, i), false) := by rw [hb]; rfl
        have hN2 : readN (pre ++ x.1.map (sh u.length), (0, 0)) (tokAt (u ++ v) (u.length + i)).1 (tokTx (u ++ v) (u.length + i)) (u.length + i) (tokAt (u ++ v) (u.length + i)).2.2 =
            ((pre ++ x.1.map (sh u.length), 110, u.length + i), false) := by
          rw [ht]; simp only [hb]; rfl
        rw [lexS_end readN hls (by rw [hN2]), lexS_end readN hl (by rw [hN]), hN2, hN]
        rfl
    · rw [lexS_stop readN (by simp; omega), lexS_stop readN (by omega), h0]; rfl
theorem readS_len (s : List UInt8) : (readS s).1.length ≤ s.length := by
  have h := skipTo_le (s := s) (Nat.zero_le _)
  exact lex_len _ _ _ rfl h.1 (Nat.zero_le _)
theorem readS_two (u r : List UInt8) : readS (u ++ 10 :: r) = if (readS u).2.1 = 0 then lexS readN (u ++ 10 :: r) (skipTo (u ++ 10 :: r) (u.length + 1)) (readS u) else readS u := by
  have h := skipTo_le (s := u) (Nat.zero_le _)
  have h1 := skip_pre (u := u) (r := r) (Nat.zero_le _)
  unfold readS
  rw [h1]
  exact lex_pre _ _ _ rfl h.1 rfl
theorem readS_tail (b : List UInt8) : readS (b ++ 10 :: [47, 47, 32, 120]) = readS b := by
  rw [readS_two]
  split
  · have e : skipTo (b ++ 10 :: [47, 47, 32, 120]) (b.length + 1) = (b ++ 10 :: [47, 47, 32, 120]).length := by
      have h1 := skip_sh (u := b ++ [10]) (v := [47, 47, 32, 120]) 0
      have h2 : skipTo [47, 47, 32, 120] 0 = 4 := by decide +kernel
      rw [h2] at h1
      simpa using h1
    rw [e, lexS_stop readN (by omega)]
  · rfl
theorem readS_zero {s : List UInt8} (h : (readS s).2.1 = 0) : (readS s).2 = (0, 0) := by
  have key : ∀ (m i : Nat) (x : Rd), m = s.length - i → i ≤ s.length → x.2 = (0, 0) → (lexS readN s i x).2.1 = 0 → (lexS readN s i x).2 = (0, 0) := by
    intro m
    induction m using Nat.strongRecOn with
    | _ m ih =>
      intro i x hm hi h0 hz
      rcases Nat.lt_or_ge i s.length with hl | hl
      · cases hgo : (readN x (tokAt s i).1 (tokTx s i) i (tokAt s i).2.2).2 with
        | true =>
          have hN := readN_go hgo
          have h1 := tok_le hi
          have h2 := h1.2.2 hN.1
          have h3 := skipTo_le h1.2.1
          rw [lexS_go readN readN_no hl hgo] at hz ⊢
          exact ih _ (by omega) _ _ rfl h3.1 (by rw [hN.2]; exact h0) hz
        | false => rw [lexS_end readN hl hgo] at hz; exact absurd hz (readN_end hgo)
      · rw [lexS_stop readN (by omega)]; exact h0
  have h1 := skipTo_le (s := s) (Nat.zero_le _)
  exact key _ _ _ rfl h1.1 rfl h
theorem joins_read {a b : List UInt8} (ha : a.length ≤ 2000) (hb : b.length ≤ 2000) :
    readS (a ++ 10 :: (b ++ 10 :: [47, 47, 32, 120])) = if (readS a).2.1 = 0 then ((readS a).1 ++ (readS b).1.map (sh (a.length + 1)), shF (a.length + 1) (readS b).2) else readS a := by
  rw [readS_two]
  split
  · rename_i hz
    have h0 := readS_zero hz
    have hl := readS_len a
    have h1 := skip_sh (u := a ++ [10]) (v := b ++ 10 :: [47, 47, 32, 120]) 0
    have hlen : (a ++ [10]).length = a.length + 1 := by simp
    have happ : (a ++ [10]) ++ (b ++ 10 :: [47, 47, 32, 120]) = a ++ 10 :: (b ++ 10 :: [47, 47, 32, 120]) := by simp
    rw [hlen, Nat.add_zero, happ] at h1
    have h2 := skipTo_le (s := b ++ 10 :: [47, 47, 32, 120]) (Nat.zero_le _)
    have h3 := lex_sh (u := a ++ [10]) (v := b ++ 10 :: [47, 47, 32, 120]) (readS a).1 (by simp; omega) _ (skipTo (b ++ 10 :: [47, 47, 32, 120]) 0) ([], 0, 0) rfl h2.1 (Nat.zero_le _) rfl
    rw [hlen, happ] at h3
    have h4 : lexS readN (b ++ 10 :: [47, 47, 32, 120]) (skipTo (b ++ 10 :: [47, 47, 32, 120]) 0) ([], 0, 0) = readS b := readS_tail b
    rw [h4] at h3
    have h5 : readS a = ((readS a).1, (0, 0)) := by rw [← h0]
    rw [h1, h5]
    simpa using h3
  · rfl
end Go.Tok
namespace Go.Tok
theorem readP_A {a : List UInt8} (ha : a.length ≤ 20000) : ((readS a).2.1 = 0 → readP a = ((readS a).1, 0, 0)) ∧ (¬ (readS a).2.1 = 0 → readP a = ([], (readS a).2)) :=
  ⟨fun h => readP_fine (by omega) h, fun h => readP_bad (by omega) h⟩
theorem joins_law {a b : List UInt8} (ha : a.length ≤ 2000) (hb : b.length ≤ 2000) :
    (¬ (readP a).2.1 = 0 → readP (((a ++ [10]) ++ b) ++ [10, 47, 47, 32, 120]) = ([], (readP a).2)) ∧
    ((readP a).2.1 = 0 → ¬ (readP b).2.1 = 0 → readP (((a ++ [10]) ++ b) ++ [10, 47, 47, 32, 120]) = ([], (readP b).2.1, a.length + 1 + (readP b).2.2)) ∧
    ((readP a).2.1 = 0 → (readP b).2.1 = 0 → readP (((a ++ [10]) ++ b) ++ [10, 47, 47, 32, 120]) = ((readP a).1 ++ (readP b).1.map (sh (a.length + 1)), 0, 0)) := by
  have he : ((a ++ [10]) ++ b) ++ [10, 47, 47, 32, 120] = a ++ 10 :: (b ++ 10 :: [47, 47, 32, 120]) := by simp
  have hj := joins_read ha hb
  have hC := readP_A (a := a ++ 10 :: (b ++ 10 :: [47, 47, 32, 120])) (by simp; omega)
  have hA := readP_A (a := a) (by omega)
  have hB := readP_A (a := b) (by omega)
  rw [he]
  generalize readS (a ++ 10 :: (b ++ 10 :: [47, 47, 32, 120])) = c at hj hC
  by_cases h1 : (readS a).2.1 = 0
  · rw [if_pos h1] at hj
    rw [hA.1 h1]
    by_cases h2 : (readS b).2.1 = 0
    · rw [hB.1 h2]
      refine ⟨fun h => absurd rfl h, fun _ h => absurd rfl h, fun _ _ => ?_⟩
      rw [hC.1 (by rw [hj]; simp [shF, h2]), hj]
    · rw [hB.2 h2]
      refine ⟨fun h => absurd rfl h, fun _ _ => ?_, fun _ h => absurd h h2⟩
      rw [hC.2 (by rw [hj]; simp [shF, h2]), hj]
      simp [shF, h2]
  · rw [if_neg h1] at hj
    rw [hA.2 h1]
    refine ⟨fun _ => ?_, fun h => absurd h h1, fun h => absurd h h1⟩
    rw [hC.2 (by rw [hj]; exact h1), hj]
end Go.Tok
namespace Go.Tok
theorem lex_at {s : List UInt8} : ∀ (m i : Nat) (x : Rd), m = s.length - i → i ≤ s.length → (∀ t ∈ x.1, t.2.2 ≤ s.length) → x.2.2 ≤ s.length → (∀ t ∈ (lexS readN s i x).1, t.2.2 ≤ s.length) ∧ (lexS readN s i x).2.2 ≤ s.length := by
  intro m
  induction m using Nat.strongRecOn with
  | _ m ih =>
    intro i x hm hi hx h0
    rcases Nat.lt_or_ge i s.length with hl | hl
    · cases hgo : (readN x (tokAt s i).1 (tokTx s i) i (tokAt s i).2.2).2 with
      | true =>
        have hN := readN_go hgo
        have h1 := tok_le hi
        have h2 := h1.2.2 hN.1
        have h3 := skipTo_le h1.2.1
        rw [lexS_go readN readN_no hl hgo]
        refine ih _ (by omega) _ _ rfl h3.1 ?_ (by rw [hN.2]; exact h0)
        rw [hN.2]
        intro t ht
        rcases List.mem_append.1 ht with ht | ht
        · exact hx t ht
        · obtain rfl := List.mem_singleton.1 ht; exact hi
      | false =>
        rw [lexS_end readN hl hgo]
        unfold readN at hgo ⊢
        split
        · exact ⟨hx, hi⟩
        · rename_i hb
          split
          · exact ⟨hx, hi⟩
          · rename_i h6; rw [if_neg hb, if_neg h6] at hgo; cases hgo
    · rw [lexS_stop readN (by omega)]; exact ⟨hx, h0⟩
theorem readP_at (s : List UInt8) : (∀ t ∈ (readP s).1, t.2.2 ≤ s.length) ∧ (readP s).2.2 ≤ s.length := by
  have h1 := skipTo_le (s := s) (Nat.zero_le _)
  have h2 := lex_at _ _ ([], 0, 0) rfl h1.1 (fun t ht => (List.not_mem_nil ht).elim) (Nat.zero_le _)
  unfold readP
  split
  · exact ⟨fun t ht => (List.not_mem_nil ht).elim, Nat.zero_le _⟩
  · split
    · exact ⟨h2.1, Nat.zero_le _⟩
    · exact ⟨fun t ht => (List.not_mem_nil ht).elim, h2.2⟩
end Go.Tok
