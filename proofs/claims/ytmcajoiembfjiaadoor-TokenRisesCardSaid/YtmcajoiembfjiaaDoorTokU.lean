/- The plain part of layer token: the tokens of a text with blanks between them. -/
import Derived.Test.YtmcajoiembfjiaaDoorTokS
namespace Go.Tok
def Jn (ts : List Tk) : List UInt8 := ts.flatMap fun t => 32 :: t.2.1
def kt (t : Tk) : Nat × List UInt8 := (t.1, t.2.1)
def Good (t : Tk) : Prop := ∃ s k e, k ≤ s.length ∧ tokAt s k = (t.1, e, true) ∧ t.2.1 = (s.drop k).take (e - k)
theorem bl_J : ∀ ts : List Tk, Bl (Jn ts)
  | [] => .inl rfl
  | t :: ts => .inr ⟨t.2.1 ++ Jn ts, rfl⟩
theorem lex_J : ∀ (ts : List Tk), (∀ t ∈ ts, Good t) → ∀ (u : List UInt8) (x : Rd), x.2 = (0, 0) → x.1.length + ts.length ≤ 6000 →
    ∃ l, lexS readN (u ++ Jn ts) (skipTo (u ++ Jn ts) u.length) x = (x.1 ++ l, 0, 0) ∧ l.map kt = ts.map kt
  | [], _, u, x, h0, _ => by
    have hJ : Jn [] = [] := rfl
    have hs : skipTo u u.length = u.length := skip_stop (Nat.le_refl _) (atP_out (Nat.le_refl _)) (by rw [cmt, atP_out (Nat.le_refl _)]; rfl)
    refine ⟨[], ?_, rfl⟩
    rw [hJ, List.append_nil, hs, lexS_stop readN (by omega), List.append_nil, ← h0]
  | t :: ts, hg, u, x, h0, hn => by
    obtain ⟨s, k, e, hk, htk, htx⟩ := hg t (.head _)
    have h1 := tok_le hk
    rw [htk] at h1
    simp only at h1
    have hke : k < e := h1.2.2 trivial
    have he := h1.2.1
    have hc := tok_cut (bl_J ts) hk htk
    rw [← htx] at hc
    have hlen : t.2.1.length = e - k := by rw [htx]; exact cut_len he (by omega)
    have hw : u ++ Jn (t :: ts) = (u ++ [32]) ++ (t.2.1 ++ Jn ts) := by simp [Jn]
    have hw2 : u ++ Jn (t :: ts) = ((u ++ [32]) ++ t.2.1) ++ Jn ts := by simp [Jn]
    have hul : (u ++ [32]).length = u.length + 1 := by simp
    have hlt : u.length < (u ++ Jn (t :: ts)).length := by simp [Jn]
    have hb : atP blankB (u ++ Jn (t :: ts)) u.length = true := by
      unfold atP
      rw [List.getElem?_append_right (Nat.le_refl _)]; simp [Jn, blankB]
    have hs0 : skipTo (t.2.1 ++ Jn ts) 0 = 0 := skip_stop (Nat.zero_le _) hc.2.1 hc.2.2
    have hsk : skipTo (u ++ Jn (t :: ts)) u.length = u.length + 1 := by
      have h2 := skip_sh (u := u ++ [32]) (v := t.2.1 ++ Jn ts) 0
      rw [skip_blank hlt hb, hw]
      rw [hul, hs0] at h2
      exact h2
    have htok := tok_sh (u := u ++ [32]) (v := t.2.1 ++ Jn ts) 0
    have htx2 := tx_sh (u := u ++ [32]) (v := t.2.1 ++ Jn ts) 0
    rw [← hw, hul, Nat.add_zero] at htok htx2
    rw [hc.1] at htok
    have htx3 : tokTx (t.2.1 ++ Jn ts) 0 = t.2.1 := by
      unfold tokTx
      rw [hc.1]
      simp only [List.drop_zero, Nat.sub_zero]
      rw [← hlen, List.take_left']
      rfl
    rw [htx3] at htx2
    have hl2 : u.length + 1 < (u ++ Jn (t :: ts)).length := by
      rw [hw]; simp; omega
    have hN : readN x (tokAt (u ++ Jn (t :: ts)) (u.length + 1)).1 (tokTx (u ++ Jn (t :: ts)) (u.length + 1)) (u.length + 1) (tokAt (u ++ Jn (t :: ts)) (u.length + 1)).2.2 = ((x.1 ++ [(t.1, t.2.1, u.length + 1)], x.2), true) := by
      rw [htok, htx2]
      simp only
      rw [readN, if_neg (by simp), if_neg (by simp at hn; omega)]
    rw [hsk, lexS_go readN readN_no hl2 (by rw [hN]), hN, htok]
    simp only
    obtain ⟨l, e1, e2⟩ := lex_J ts (fun t ht => hg t (.tail _ ht)) ((u ++ [32]) ++ t.2.1) (x.1 ++ [(t.1, t.2.1, u.length + 1)], x.2) h0 (by simp at hn ⊢; omega)
    have hu2 : ((u ++ [32]) ++ t.2.1).length = u.length + 1 + (e - k) := by rw [List.length_append, hul, hlen]
    rw [← hw2, hu2] at e1
    refine ⟨(t.1, t.2.1, u.length + 1) :: l, ?_, ?_⟩
    · rw [e1]; simp
    · simp only [List.map_cons, e2]; rfl
theorem chain_good {s : List UInt8} : ∀ {i : Nat} {ts : List Tk}, Chain s i ts → ∀ t ∈ ts, Good t := by
  intro i ts h
  induction h with
  | nil i => intro t ht; exact (List.not_mem_nil ht).elim
  | @cons i e kd ts hi hl htk _ ih =>
    intro t ht
    rcases List.mem_cons.1 ht with rfl | ht
    · exact ⟨s, skipTo s i, e, (skipTo_le hi).1, htk, by unfold tokTx; rw [htk]⟩
    · exact ih t ht
theorem rejoin {ts : List Tk} (hg : ∀ t ∈ ts, Good t) (hn : ts.length ≤ 6000) (hl : (Jn ts).length ≤ 20000) : ∃ l, readP (Jn ts) = (l, 0, 0) ∧ l.map kt = ts.map kt := by
  obtain ⟨l, e1, e2⟩ := lex_J ts hg [] ([], 0, 0) rfl (by simpa using hn)
  simp only [List.nil_append, List.length_nil] at e1
  have hS : readS (Jn ts) = (l, 0, 0) := e1
  exact ⟨l, by rw [readP_fine (by omega) (by rw [hS]), hS], e2⟩
end Go.Tok
