/- The plain part of layer token: what TokenRises asks. -/
import Derived.Test.YtmcajoiembfjiaaDoorTokU
namespace Go.Tok
theorem fault_lex {s : List UInt8} : ∀ (m i : Nat) (x : Rd), m = s.length - i → i ≤ s.length → x.2.1 = 0 → (lexS readN s i x).2.1 ≠ 0 → (lexS readN s i x).2.2 < s.length := by
  intro m
  induction m using Nat.strongRecOn with
  | _ m ih =>
    intro i x hm hi h0 hz
    rcases Nat.lt_or_ge i s.length with hl | hl
    · cases hgo : (readN x (tokAt s i).1 (tokTx s i) i (tokAt s i).2.2).2 with
      | true =>
        have hN := readN_go hgo
        have h1 := tok_le hi
        have h2 := h1.2.2 hN.1
        have h3 := skipTo_le h1.2.1
        rw [lexS_go readN readN_no hl hgo] at hz ⊢
        rw [hN.2] at hz ⊢
        exact ih _ (by omega) _ _ rfl h3.1 (by exact h0) hz
      | false =>
        rw [lexS_end readN hl hgo]
        unfold readN at hgo ⊢
        split at hgo
        · rename_i h; rw [if_pos h]; exact hl
        · split at hgo
          · rename_i h h'; rw [if_neg h, if_pos h']; exact hl
          · cases hgo
    · rw [lexS_stop readN (by omega)] at hz; exact absurd h0 hz
theorem fault_lt {s : List UInt8} (hs : s.length ≤ 20000) (h : (readP s).2.1 ≠ 0) : (readP s).1 = [] ∧ (readP s).2.2 < s.length := by
  by_cases h2 : (readS s).2.1 = 0
  · rw [readP_fine (by omega) h2] at h; exact absurd rfl h
  · rw [readP_bad (by omega) h2]
    exact ⟨rfl, fault_lex _ _ _ rfl (skipTo_le (Nat.zero_le _)).1 rfl h2⟩
theorem readP_chain {s : List UInt8} (hs : s.length ≤ 20000) (h : (readP s).2.1 = 0) : Chain s 0 (readP s).1 := by
  by_cases h2 : (readS s).2.1 = 0
  · rw [readP_fine (by omega) h2]; exact chain_read h2
  · rw [readP_bad (by omega) h2] at h; exact absurd h h2
/-- one token of a chain -/
theorem chain_at {s : List UInt8} {e i : Nat} {T : List Tk} (h : Chain s e (T.drop i)) (hi : i < T.length) : ∃ e2, e ≤ s.length ∧ T[i].2.2 = skipTo s e ∧ e ≤ skipTo s e ∧ skipTo s e < e2 ∧ e2 ≤ s.length ∧ T[i].2.1 = (s.drop (skipTo s e)).take (e2 - skipTo s e) ∧ T[i].2.1.length = e2 - skipTo s e ∧ Chain s e2 (T.drop (i + 1)) := by
  rw [List.drop_eq_getElem_cons hi] at h
  generalize hx : T[i] = x at h ⊢
  generalize T.drop (i + 1) = R at h ⊢
  cases h with
  | @cons _ e2 kd _ h1 h2 h3 h4 =>
    have hk := skipTo_le h1
    have ht := tok_le hk.1
    rw [h3] at ht
    simp only at ht
    have he := ht.2.2 trivial
    have htx : tokTx s (skipTo s e) = (s.drop (skipTo s e)).take (e2 - skipTo s e) := by unfold tokTx; rw [h3]
    exact ⟨e2, h1, rfl, hk.2, he, ht.2.1, htx, by rw [htx]; exact cut_len ht.2.1 (by omega), h4⟩
theorem Jn_take {T : List Tk} {i : Nat} (hi : i < T.length) : Jn (T.take (i + 1)) = Jn (T.take i) ++ [32] ++ T[i].2.1 := by
  unfold Jn
  rw [List.take_succ_eq_append_getElem hi, List.flatMap_append]
  simp
theorem Jn_all {T : List Tk} {i : Nat} (hi : T.length ≤ i) : Jn (T.take i) = Jn T := by rw [List.take_of_length_le hi]
theorem rejoin_at {T l : List Tk} (h : l.map kt = T.map kt) : l.length = T.length ∧ ∀ (i : Nat) a b, l[i]? = some a → T[i]? = some b → a.1 = b.1 ∧ a.2.1 = b.2.1 := by
  refine ⟨by simpa using congrArg List.length h, fun i a b ha hb => ?_⟩
  have := congrArg (fun z => z[i]?) h
  simp only [List.getElem?_map, ha, hb, Option.map_some, Option.some.injEq, kt, Prod.mk.injEq] at this
  exact this
end Go.Tok
namespace Go.Tok
theorem chain_tk {s : List UInt8} {e i kd k : Nat} {tx : List UInt8} {T : List Tk} (h : Chain s e (T.drop i)) (q : T[i]? = some (kd, tx, k)) : ∃ e2, e ≤ s.length ∧ k = skipTo s e ∧ e ≤ k ∧ k < e2 ∧ e2 ≤ s.length ∧ tx = (s.drop k).take (e2 - k) ∧ tx.length = e2 - k ∧ Chain s e2 (T.drop (i + 1)) ∧ Jn (T.take (i + 1)) = Jn (T.take i) ++ [32] ++ tx := by
  obtain ⟨hi, hx⟩ := List.getElem?_eq_some_iff.1 q
  obtain ⟨e2, h1, h2, h3, h4, h5, h6, h7, h8⟩ := chain_at h hi
  have hJ := Jn_take hi
  rw [hx] at h2 h6 h7 hJ
  simp only at h2 h6 h7 hJ
  subst h2
  exact ⟨e2, h1, rfl, h3, h4, h5, h6, h7, h8, hJ⟩
end Go.Tok
