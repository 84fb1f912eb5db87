/- The plain part of layer token: the tokens of a text as a chain; tokens alone, blanks between them. -/
import Derived.Test.YtmcajoiembfjiaaDoorTokN
namespace Go.Tok
/-- the tokens of s from place i on -/
inductive Chain (s : List UInt8) : Nat → List Tk → Prop
  | nil (i : Nat) : Chain s i []
  | cons {i e kd : Nat} {ts : List Tk} : i ≤ s.length → skipTo s i < s.length → tokAt s (skipTo s i) = (kd, e, true) → Chain s e ts → Chain s i ((kd, tokTx s (skipTo s i), skipTo s i) :: ts)
theorem chain_lex {s : List UInt8} : ∀ (m i : Nat) (x : Rd), m = s.length - i → i ≤ s.length → x.2 = (0, 0) → (lexS readN s (skipTo s i) x).2.1 = 0 → ∃ ts, (lexS readN s (skipTo s i) x).1 = x.1 ++ ts ∧ Chain s i ts := by
  intro m
  induction m using Nat.strongRecOn with
  | _ m ih =>
    intro i x hm hi h0 hz
    have hk := skipTo_le hi
    rcases Nat.lt_or_ge (skipTo s i) s.length with hl | hl
    · cases hgo : (readN x (tokAt s (skipTo s i)).1 (tokTx s (skipTo s i)) (skipTo s i) (tokAt s (skipTo s i)).2.2).2 with
      | true =>
        have hN := readN_go hgo
        have h1 := tok_le hk.1
        have h2 := h1.2.2 hN.1
        rw [lexS_go readN readN_no hl hgo] at hz ⊢
        rw [hN.2] at hz ⊢
        obtain ⟨ts, e1, e2⟩ := ih _ (by omega) (tokAt s (skipTo s i)).2.1 _ rfl h1.2.1 (by exact h0) hz
        exact ⟨_ :: ts, by rw [e1]; simp, Chain.cons hi hl (Prod.ext rfl (Prod.ext rfl hN.1)) e2⟩
      | false => rw [lexS_end readN hl hgo] at hz; exact absurd hz (readN_end hgo)
    · rw [lexS_stop readN (by omega)]
      exact ⟨[], by simp, .nil _⟩
theorem chain_read {s : List UInt8} (h : (readS s).2.1 = 0) : Chain s 0 (readS s).1 := by
  obtain ⟨ts, e1, e2⟩ := chain_lex _ 0 ([], 0, 0) rfl (Nat.zero_le _) rfl h
  have : (readS s).1 = ts := by simpa [readS] using e1
  rw [this]; exact e2
/-! a token alone, before a blank or at the end -/
def Bl (R : List UInt8) : Prop := R = [] ∨ ∃ r, R = 32 :: r
theorem bl_at {p : UInt8 → Bool} {t R : List UInt8} {i : Nat} (hR : Bl R) (hp : p 32 = false) (h : i ≤ t.length) : atP p (t ++ R) i = atP p t i := by
  rcases Nat.lt_or_ge i t.length with hl | hl
  · unfold atP; rw [List.getElem?_append_left hl]
  · have : i = t.length := by omega
    subst this
    rw [atP_out (Nat.le_refl _)]
    rcases hR with rfl | ⟨r, rfl⟩
    · rw [List.append_nil]; exact atP_out (Nat.le_refl _)
    · unfold atP; rw [List.getElem?_append_right (Nat.le_refl _)]; simpa using hp
theorem cut_at {p : UInt8 → Bool} {s : List UInt8} {k e i : Nat} (he : e ≤ s.length) (h : k + i < e) : atP p ((s.drop k).take (e - k)) i = atP p s (k + i) := by
  rw [atP_take (by omega)]
  unfold atP; rw [List.getElem?_drop]
theorem cut_len {s : List UInt8} {k e : Nat} (he : e ≤ s.length) (h : k ≤ e) : ((s.drop k).take (e - k)).length = e - k := by simp; omega
/-- at a place up to the end of the token: as in s, or false at the end itself -/
theorem bl_cut {p : UInt8 → Bool} {s R : List UInt8} {k e i : Nat} (hR : Bl R) (hp : p 32 = false) (he : e ≤ s.length) (h : k + i ≤ e) : atP p ((s.drop k).take (e - k) ++ R) i = if k + i < e then atP p s (k + i) else false := by
  have hl := cut_len he (by omega : k ≤ e)
  rw [bl_at hR hp (by omega)]
  split
  · rename_i h2; exact cut_at he h2
  · exact atP_out (by omega)
theorem run_cut {p : UInt8 → Bool} {s R : List UInt8} {k e : Nat} (hR : Bl R) (hp : p 32 = false) (he : e ≤ s.length) : ∀ (m i : Nat), m = e - (k + i) → k + i ≤ e → runTo p s (k + i) ≤ e → k + runTo p ((s.drop k).take (e - k) ++ R) i = runTo p s (k + i) := by
  intro m
  induction m with
  | zero =>
    intro i hm hi h
    have hg := runTo_ge p s (k + i)
    rw [runTo_stop (by rw [bl_cut hR hp he hi, if_neg (by omega)])]; omega
  | succ m ih =>
    intro i hm hi h
    have hb := bl_cut (i := i) hR hp he hi
    rw [if_pos (by omega)] at hb
    cases ha : atP p s (k + i) with
    | true =>
      rw [runTo_step ha, runTo_step (hb.trans ha)]
      exact ih (i + 1) (by omega) (by omega) (by rw [← Nat.add_assoc, ← runTo_step ha]; exact h)
    | false => rw [runTo_stop ha, runTo_stop (hb.trans ha)]
end Go.Tok
