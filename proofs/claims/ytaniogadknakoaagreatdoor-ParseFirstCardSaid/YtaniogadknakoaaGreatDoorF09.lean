/- Layer 13, ParseFirst: a fault by ErrSyntax at a token is the first one, and blanks or a remark behind a source that is read turn nothing (the card of the statement); without conditions. Part 9 of 14. -/
import Derived.Test.YtaniogadknakoaaGreatDoorF08
import Derived.Test.YtaniogadknakoaaGreatDoorF03
import Derived.Test.YtaniogadknakoaaGreatDoorF04
import Derived.Test.YtaniogadknakoaaGreatDoorF05
section
/- The plain part of layer token: Read of texts one behind the other. -/
namespace Go.Tok
theorem readN_go {x : Rd} {k : Nat} {t : List UInt8} {a : Nat} {b : Bool} (h : (readN x k t a b).2 = true) : b = true ∧ readN x k t a b = ((x.1 ++ [(k, t, a)], x.2), true) := by
  unfold readN at h ⊢
  split at h
  · cases h
  · rename_i hb
    split at h
    · cases h
    · rename_i h6
      rw [if_neg hb, if_neg h6]
      exact ⟨by cases b <;> simp_all, rfl⟩
theorem readN_end {x : Rd} {k : Nat} {t : List UInt8} {a : Nat} {b : Bool} (h : (readN x k t a b).2 = false) : (readN x k t a b).1.2.1 ≠ 0 := by
  unfold readN at h ⊢
  split at h
  · rename_i hb; rw [if_pos hb]; simp
  · rename_i hb
    split at h
    · rename_i h6; rw [if_neg hb, if_pos h6]; simp
    · cases h
theorem lex_pre {u r : List UInt8} : ∀ (m i : Nat) (x : Rd), m = u.length - i → i ≤ u.length → x.2.1 = 0 →
    lexS readN (u ++ 10 :: r) (if i < u.length then i else skipTo (u ++ 10 :: r) (u.length + 1)) x =
      if (lexS readN u i x).2.1 = 0 then lexS readN (u ++ 10 :: r) (skipTo (u ++ 10 :: r) (u.length + 1)) (lexS readN u i x) else lexS readN u i x := by
  intro m
  induction m using Nat.strongRecOn with
  | _ m ih =>
    intro i x hm hi hx
    rcases Nat.lt_or_ge i u.length with hl | hl
    · rw [if_pos hl]
      have hls : i < (u ++ 10 :: r).length := by simp; omega
      have ht := tok_pre (r := r) hi
      have hx2 := tx_pre (r := r) hi
      cases hgo : (readN x (tokAt u i).1 (tokTx u i) i (tokAt u i).2.2).2 with
      | true =>
        have hN := readN_go hgo
        have h1 := tok_le hi
        have h2 := h1.2.2 hN.1
        have h3 := skipTo_le h1.2.1
        have h4 := skip_pre (r := r) h1.2.1
        rw [lexS_go readN readN_no hls (by rw [ht, hx2]; exact hgo), lexS_go readN readN_no hl hgo, ht, hx2, h4]
        exact ih _ (by omega) _ _ rfl h3.1 (by rw [hN.2]; exact hx)
      | false =>
        rw [lexS_end readN hls (by rw [ht, hx2]; exact hgo), lexS_end readN hl hgo, ht, hx2, if_neg (readN_end hgo)]
    · have hst : lexS readN u i x = x := lexS_stop readN (by omega)
      rw [if_neg (by omega), hst, if_pos hx]
def sh (d : Nat) (t : Tk) : Tk := (t.1, t.2.1, d + t.2.2)
def shF (d : Nat) (f : Nat × Nat) : Nat × Nat := if f.1 = 0 then (0, 0) else (f.1, d + f.2)
theorem readS_two (u r : List UInt8) : readS (u ++ 10 :: r) = if (readS u).2.1 = 0 then lexS readN (u ++ 10 :: r) (skipTo (u ++ 10 :: r) (u.length + 1)) (readS u) else readS u := by
  have h := skipTo_le (s := u) (Nat.zero_le _)
  have h1 := skip_pre (u := u) (r := r) (Nat.zero_le _)
  unfold readS
  rw [h1]
  exact lex_pre _ _ _ rfl h.1 rfl
end Go.Tok
namespace Go.Tok
end Go.Tok
namespace Go.Tok
theorem lex_at {s : List UInt8} : ∀ (m i : Nat) (x : Rd), m = s.length - i → i ≤ s.length → (∀ t ∈ x.1, t.2.2 ≤ s.length) → x.2.2 ≤ s.length → (∀ t ∈ (lexS readN s i x).1, t.2.2 ≤ s.length) ∧ (lexS readN s i x).2.2 ≤ s.length := by
  intro m
  induction m using Nat.strongRecOn with
  | _ m ih =>
    intro i x hm hi hx h0
    rcases Nat.lt_or_ge i s.length with hl | hl
    · cases hgo : (readN x (tokAt s i).1 (tokTx s i) i (tokAt s i).2.2).2 with
      | true =>
        have hN := readN_go hgo
        have h1 := tok_le hi
        have h2 := h1.2.2 hN.1
        have h3 := skipTo_le h1.2.1
        rw [lexS_go readN readN_no hl hgo]
        refine ih _ (by omega) _ _ rfl h3.1 ?_ (by rw [hN.2]; exact h0)
        rw [hN.2]
        intro t ht
        rcases List.mem_append.1 ht with ht | ht
        · exact hx t ht
        · obtain rfl := List.mem_singleton.1 ht; exact hi
      | false =>
        rw [lexS_end readN hl hgo]
        unfold readN at hgo ⊢
        split
        · exact ⟨hx, hi⟩
        · rename_i hb
          split
          · exact ⟨hx, hi⟩
          · rename_i h6; rw [if_neg hb, if_neg h6] at hgo; cases hgo
    · rw [lexS_stop readN (by omega)]; exact ⟨hx, h0⟩
theorem readP_at (s : List UInt8) : (∀ t ∈ (readP s).1, t.2.2 ≤ s.length) ∧ (readP s).2.2 ≤ s.length := by
  have h1 := skipTo_le (s := s) (Nat.zero_le _)
  have h2 := lex_at _ _ ([], 0, 0) rfl h1.1 (fun t ht => (List.not_mem_nil ht).elim) (Nat.zero_le _)
  unfold readP
  split
  · exact ⟨fun t ht => (List.not_mem_nil ht).elim, Nat.zero_le _⟩
  · split
    · exact ⟨h2.1, Nat.zero_le _⟩
    · exact ⟨fun t ht => (List.not_mem_nil ht).elim, h2.2⟩
end Go.Tok
end

section
/- The plain part of layer parse: tokens are not longer than the source; the end of a source. -/
namespace Go.Tok
theorem tokTx_le (s : List UInt8) (i : Nat) : (tokTx s i).length ≤ s.length := by
  unfold tokTx; simp only [List.length_take, List.length_drop]; omega
theorem lex_tx {s : List UInt8} : ∀ (m i : Nat) (x : Rd), m = s.length - i → i ≤ s.length → (∀ t ∈ x.1, t.2.1.length ≤ s.length) → ∀ t ∈ (lexS readN s i x).1, t.2.1.length ≤ s.length := by
  intro m
  induction m using Nat.strongRecOn with
  | _ m ih =>
    intro i x hm hi hx
    rcases Nat.lt_or_ge i s.length with hl | hl
    · cases hgo : (readN x (tokAt s i).1 (tokTx s i) i (tokAt s i).2.2).2 with
      | true =>
        have hN := readN_go hgo
        have h1 := tok_le hi
        have h2 := h1.2.2 hN.1
        have h3 := skipTo_le h1.2.1
        rw [lexS_go readN readN_no hl hgo]
        refine ih _ (by omega) _ _ rfl h3.1 ?_
        rw [hN.2]
        intro t ht
        rcases List.mem_append.1 ht with ht | ht
        · exact hx t ht
        · obtain rfl := List.mem_singleton.1 ht; exact tokTx_le s i
      | false =>
        rw [lexS_end readN hl hgo]
        unfold readN
        split
        · exact hx
        · split
          · exact hx
          · rename_i hb h6; unfold readN at hgo; rw [if_neg hb, if_neg h6] at hgo; cases hgo
    · rw [lexS_stop readN (by omega)]; exact hx
theorem readP_tx (s : List UInt8) : ∀ t ∈ (readP s).1, t.2.1.length ≤ s.length := by
  have h1 := skipTo_le (s := s) (Nat.zero_le _)
  have h2 := lex_tx _ _ ([], 0, 0) rfl h1.1 (fun t ht => (List.not_mem_nil ht).elim)
  unfold readP
  split
  · exact fun t ht => (List.not_mem_nil ht).elim
  · split
    · exact h2
    · exact fun t ht => (List.not_mem_nil ht).elim
end Go.Tok
namespace Go.Prs
open Go.Tok Go.Tree
/-- the end of a source -/
def endR {α : Type} (a : α) : List Tk → Except Fl α
  | [] => .ok a
  | t :: _ => .error (130, t.2.2)
theorem face_bad {α : Type} {s : Str} {f : Nat → Nat → List Tk → Rs α} (h : (readP s).2.1 ≠ 0) : face s f = .error (readP s).2 := if_neg h
theorem face_go {α : Type} {s : Str} {f : Nat → Nat → List Tk → Rs α} (h : (readP s).2.1 = 0) : face s f = andR (f s.length (fuel (readP s).1) (readP s).1) endR := if_pos h
theorem endR_more {α : Type} {a : α} {T : List Tk} {k : Nat} (z : Nat) (h : k < T.length) : endR a (T.drop k) = .error (130, place z (T.drop k)) := by
  cases hT : T.drop k with
  | nil => have := congrArg List.length hT; rw [List.length_drop] at this; simp at this; omega
  | cons t l => rfl
theorem endR_done {α : Type} {a : α} {T : List Tk} {k : Nat} (h : ¬ k < T.length) : endR a (T.drop k) = .ok a := by
  rw [List.drop_eq_nil_of_le (by omega)]; rfl
def resOf {α : Type} (z : α) : Except Fl α → α × Fl
  | .ok a => (a, (0, 0))
  | .error f => (z, f)
def noEx : Ex := .mk 0 0 [] []
end Go.Prs
end

section
namespace Go.Proofs.YtaniogadknakoaaGreatDoor
open Go.RowKit Go.Sx
open Go.Tok Go.Tree Go.Prs

set_option maxRecDepth 100000 in
set_option maxHeartbeats 2000000 in
theorem catchP_ok (fl : Fl) (ob fb : Nat) (xs ys : List Value) (hxl : xs.length = 18) (hyl : ys.length = 2) (w : World) (ho : w.heap[ob]? = some (cel xs 29)) (hf : w.heap[fb]? = some (cel ys 32)) (hne : ob ≠ fb) : CallsD Tryz.prog 57 #[.pointer (some ⟨ob, 0, none⟩), .pointer (some ⟨fb, 0, none⟩)] (.panicking (pan fl)) w fun e u w' => (∃ v, e = .returned v) ∧ settle u = .returning ∧ Fr (fun j => j = ob ∨ j = fb) w w' ∧ w'.heap[ob]? = some (cel [.bool false, .slice none 0 0, .slice none 0 0, .bool false, .slice none 0 0, .slice none 0 0, .bool false, .slice none 0 0, .slice none 0 0, .bool false, .slice none 0 0, .slice none 0 0, .bool false, .slice none 0 0, .slice none 0 0, .bool false, .slice none 0 0, .slice none 0 0] 29) ∧ w'.heap[fb]? = some (cel [.int .i64 (fl.1 : Nat), .int .i64 (fl.2 : Nat)] 32) := by
 refine (enterR (l := [_, _]) (t := 32) (pv := (.agg #[.int .i64 (fl.1 : Nat), .int .i64 (fl.2 : Nat)])) (older := []) (R := fun w' => Fr (fun j => j = ob ∨ j = fb) w w' ∧ w'.heap[ob]? = some (cel [.bool false, .slice none 0 0, .slice none 0 0, .bool false, .slice none 0 0, .slice none 0 0, .bool false, .slice none 0 0, .slice none 0 0, .bool false, .slice none 0 0, .slice none 0 0, .bool false, .slice none 0 0, .slice none 0 0, .bool false, .slice none 0 0, .slice none 0 0] 29) ∧ w'.heap[fb]? = some (cel [.int .i64 (fl.1 : Nat), .int .i64 (fl.2 : Nat)] 32)) 10 Tryz.func57 rfl rfl rfl rfl ⟨_, _, St.start2 (S := (fun j => j = ob ∨ j = fb)) w ho hf hne (.inl rfl) (.inr rfl), ?_⟩).mono (fun e u w' ⟨h1, h2, h3⟩ => ⟨h1, by rw [h2]; rfl, h3⟩)
 refine yA ?_; refine zm rfl ?_; refine w_r (fun _ => R_ine uni20 rfl rfl) rfl rfl ?_; refine yB ?_; refine zE rfl ?_; refine yA ?_; refine w_alloc zr29 (fun nb gnb unb => ?_)
 refine yB ?_; refine c_held (fun w => w.heap[nb]? = some (cel [.bool false, .slice none 0 0, .slice none 0 0, .bool false, .slice none 0 0, .slice none 0 0, .bool false, .slice none 0 0, .slice none 0 0, .bool false, .slice none 0 0, .slice none 0 0, .bool false, .slice none 0 0, .slice none 0 0, .bool false, .slice none 0 0, .slice none 0 0] 29)) mixed ?_; refine zh 0 rfl (by kernel_rfl) rfl rfl (fun w h => h.at_ 0 rfl) (fun w h => R_ldb z29 rfl h rfl) ?_; refine zh 1 rfl (by kernel_rfl) rfl rfl (fun w h => h.at_ 0 rfl) (fun w h => R_move rfl) ?_; refine zh 2 rfl (by kernel_rfl) rfl rfl (fun w h => h.at_ 0 rfl) (fun w h => R_ta tab32 rfl) ?_; refine h_one 3 (by kernel_rfl) (fun w h => h.at_ 0 rfl) ?_
 refine o_storeW [.bool false, .slice none 0 0, .slice none 0 0, .bool false, .slice none 0 0, .slice none 0 0, .bool false, .slice none 0 0, .slice none 0 0, .bool false, .slice none 0 0, .slice none 0 0, .bool false, .slice none 0 0, .slice none 0 0, .bool false, .slice none 0 0, .slice none 0 0] 1 rfl rfl z29 rfl rfl rfl rfl rfl hxl ?_; refine h_one 4 (by kernel_rfl) (fun w h => h.at_ 0 rfl) ?_; refine o_storeW [.int .i64 (fl.1 : Nat), .int .i64 (fl.2 : Nat)] 2 rfl rfl z32 rfl rfl rfl rfl rfl hyl ?_; refine h_done (by kernel_rfl) (fun w h => h.at_ 0 rfl) ?_; exact r_rec (.inr rfl) rfl fun w' hw => ⟨hw.fr _ (.head _), hw.at_ 1 rfl, hw.at_ 2 rfl⟩

set_option maxRecDepth 100000 in
set_option maxHeartbeats 2000000 in
theorem idleP_ok (ob fb : Nat) {B : Base} {L : Heap} (w : World) (hw : St B L w) : CallsD Tryz.prog 57 #[.pointer (some ⟨ob, 0, none⟩), .pointer (some ⟨fb, 0, none⟩)] .returning w fun e u w' => (∃ v, e = .returned v) ∧ u = .returning ∧ St B L w' := by
 refine enterR0 (l := [_, _]) 10 Tryz.func57 rfl rfl rfl rfl ⟨_, _, hw, ?_⟩
 refine yA ?_; refine zm rfl ?_; refine w_r (fun _ => R_ine0 uni20 rfl rfl) rfl rfl ?_; refine yB ?_; refine c_condF rfl ?_; refine zi ?_; exact r_rec (.inr rfl) rfl fun w' hw => hw

set_option maxRecDepth 100000 in
set_option maxHeartbeats 2000000 in
theorem catchE_ok (fl : Fl) (ob fb : Nat) (xs ys : List Value) (hxl : xs.length = 4) (hyl : ys.length = 2) (w : World) (ho : w.heap[ob]? = some (cel xs 39)) (hf : w.heap[fb]? = some (cel ys 32)) (hne : ob ≠ fb) : CallsD Tryz.prog 68 #[.pointer (some ⟨ob, 0, none⟩), .pointer (some ⟨fb, 0, none⟩)] (.panicking (pan fl)) w fun e u w' => (∃ v, e = .returned v) ∧ settle u = .returning ∧ Fr (fun j => j = ob ∨ j = fb) w w' ∧ w'.heap[ob]? = some (cel [.int .u8 0, .int .i64 0, str [], .slice none 0 0] 39) ∧ w'.heap[fb]? = some (cel [.int .i64 (fl.1 : Nat), .int .i64 (fl.2 : Nat)] 32) := by
 refine (enterR (l := [_, _]) (t := 32) (pv := (.agg #[.int .i64 (fl.1 : Nat), .int .i64 (fl.2 : Nat)])) (older := []) (R := fun w' => Fr (fun j => j = ob ∨ j = fb) w w' ∧ w'.heap[ob]? = some (cel [.int .u8 0, .int .i64 0, str [], .slice none 0 0] 39) ∧ w'.heap[fb]? = some (cel [.int .i64 (fl.1 : Nat), .int .i64 (fl.2 : Nat)] 32)) 10 Tryz.func68 rfl rfl rfl rfl ⟨_, _, St.start2 (S := (fun j => j = ob ∨ j = fb)) w ho hf hne (.inl rfl) (.inr rfl), ?_⟩).mono (fun e u w' ⟨h1, h2, h3⟩ => ⟨h1, by rw [h2]; rfl, h3⟩)
 refine yA ?_; refine zm rfl ?_; refine w_r (fun _ => R_ine uni20 rfl rfl) rfl rfl ?_; refine yB ?_; refine zE rfl ?_; refine yA ?_; refine w_alloc zr39 (fun nb gnb unb => ?_)
 refine yB ?_; refine c_held (fun w => w.heap[nb]? = some (cel [.int .u8 0, .int .i64 0, str [], .slice none 0 0] 39)) mixed ?_; refine zh 0 rfl (by kernel_rfl) rfl rfl (fun w h => h.at_ 0 rfl) (fun w h => R_ldb z39 rfl h rfl) ?_; refine zh 1 rfl (by kernel_rfl) rfl rfl (fun w h => h.at_ 0 rfl) (fun w h => R_move rfl) ?_; refine zh 2 rfl (by kernel_rfl) rfl rfl (fun w h => h.at_ 0 rfl) (fun w h => R_ta tab32 rfl) ?_; refine h_one 3 (by kernel_rfl) (fun w h => h.at_ 0 rfl) ?_; refine o_storeW [.int .u8 0, .int .i64 0, str [], .slice none 0 0] 1 rfl rfl z39 rfl rfl rfl rfl rfl hxl ?_; refine h_one 4 (by kernel_rfl) (fun w h => h.at_ 0 rfl) ?_; refine o_storeW [.int .i64 (fl.1 : Nat), .int .i64 (fl.2 : Nat)] 2 rfl rfl z32 rfl rfl rfl rfl rfl hyl ?_; refine h_done (by kernel_rfl) (fun w h => h.at_ 0 rfl) ?_
 exact r_rec (.inr rfl) rfl fun w' hw => ⟨hw.fr _ (.head _), hw.at_ 1 rfl, hw.at_ 2 rfl⟩

set_option maxRecDepth 100000 in
set_option maxHeartbeats 2000000 in
theorem idleE_ok (ob fb : Nat) {B : Base} {L : Heap} (w : World) (hw : St B L w) : CallsD Tryz.prog 68 #[.pointer (some ⟨ob, 0, none⟩), .pointer (some ⟨fb, 0, none⟩)] .returning w fun e u w' => (∃ v, e = .returned v) ∧ u = .returning ∧ St B L w' := by
 refine enterR0 (l := [_, _]) 10 Tryz.func68 rfl rfl rfl rfl ⟨_, _, hw, ?_⟩
 refine yA ?_; refine zm rfl ?_; refine w_r (fun _ => R_ine0 uni20 rfl rfl) rfl rfl ?_; refine yB ?_; refine c_condF rfl ?_; refine zi ?_; exact r_rec (.inr rfl) rfl fun w' hw => hw

theorem toks_at {T : List Tk} {a : Option Addr} {c : Nat} {W : Heap} {w : World} {rb : Nat} (h : Toks (.slice a T.length c) T W) (hm : ∀ p ∈ W, w.heap[p.1]? = some p.2) (hne : ∀ p ∈ W, p.1 ≠ rb) {k : Nat} {t : Tk} (hk : T[k]? = some t) : At w (fun j => j ≠ rb) a (k * 3) (tkC t) := by
 obtain ⟨hl, ⟨_, h0, _⟩ | ⟨q, cc, sp, hv, hc, hsp, rfl⟩⟩ := h
 ·have := (List.getElem?_eq_some_iff.1 hk).1; omega
 ·cases hv
  refine ⟨q, 0, rfl, hne (q, cel (tksC T ++ sp) 58) (by simp), fun j u hj => ?_⟩
  have h1 := hm (q, cel (tksC T ++ sp) 58) (by simp)
  have h2 := tks_at T k t hk j u hj
  have h3 : (tksC T ++ sp)[k * 3 + j]? = some u := by rw [List.getElem?_append_left (List.getElem?_eq_some_iff.1 h2).1]; exact h2
  dsimp only at h1
  simp [World.cell?, h1, h3]

theorem exT.none {w : World} {N : Nat → Prop} : exT w N noEx (none, 0) := ⟨Nat.le_refl _, by unfold noEx Ex.kids exsM; trivial, fun _ => ⟨rfl, rfl⟩, fun h => by cases h⟩

set_option maxRecDepth 100000 in
set_option maxHeartbeats 8000000 in
theorem faceP_ok (s : Str) (hs : s.length ≤ 10000000) (T : List Tk) (hTe : (readP s).1 = T) (w : World) (hW : Wd w) (hng : 4 ≤ w.heap.size) :
  Ret Tryz.prog 23 #[str s, .func (.func 24) #[] #[]] w (fun v w' => ∃ cs, v = .tuple #[.agg cs.toArray, .agg #[.int .i64 ((resOf (List.replicate 6 noBk) (parseP s)).2.1 : Nat), .int .i64 ((resOf (List.replicate 6 noBk) (parseP s)).2.2 : Nat)]] ∧ pgM w' (Nn w w') (resOf (List.replicate 6 noBk) (parseP s)).1 cs ∧ (∀ fl, parseP s = .error fl → fl.1 ≠ 0) ∧ Ext w w') := by
 refine enterD (S := No) (l := [_, _]) (L := []) 42 Tryz.func23 rfl rfl rfl (St.start w No) ?_; refine yA ?_; refine w_alloc zr29 (fun ob gob uob => ?_)
 refine w_alloc zr32 (fun fb gfb ufb => ?_)
 refine yC ?_; refine zm (v := str _) rfl ?_; refine w_callW (R := fun v W => ∃ a c, v = .tuple #[.slice a T.length c, .agg #[.int .i64 ((readP s).2.1 : Nat), .int .i64 ((readP s).2.2 : Nat)]] ∧ Toks (.slice a T.length c) T W) (fun w => zR Tryz.func56 rfl rfl rfl) rfl rfl (fun w h => by subst hTe; exact Read_spec s hs w (hW.now (.head _) h).tb (hW.now (.head _) h).gs) ?_
 rintro v W0 ⟨ta, tc, rfl, hO⟩
 refine w_st (fun w h => h.perm List.perm_append_comm) ?_; refine zm rfl ?_; refine w_r (fun _ => R_extract rfl rfl) rfl rfl ?_; refine w_r (fun _ => R_extract rfl rfl) rfl rfl ?_; refine w_alloc zr32 (fun eb geb ueb => ?_)
 refine za (v := .slice _ _ _) rfl ?_; refine w_store 0 rfl z32 rfl rfl rfl rfl rfl rfl rfl ?_; refine yB ?_; refine zq ?_; refine yA ?_; refine zf fa32_0 rfl ?_; refine zl z30 rfl (fun _ h => zc 0 rfl rfl h) ?_; refine w_r (fun _ => R_ne rfl rfl) rfl rfl ?_; refine yB ?_; refine zD rfl (fun h4 => ?_) (fun h4 => ?_)
 ·refine zq ?_; refine c_held (fun w => w.heap[ob]? = some (cel [.bool false, .slice none 0 0, .slice none 0 0, .bool false, .slice none 0 0, .slice none 0 0, .bool false, .slice none 0 0, .slice none 0 0, .bool false, .slice none 0 0, .slice none 0 0, .bool false, .slice none 0 0, .slice none 0 0, .bool false, .slice none 0 0, .slice none 0 0] 29) ∧ w.heap[eb]? = some (cel [.int .i64 ((readP s).2.1 : Nat), .int .i64 ((readP s).2.2 : Nat)] 32)) mixed ?_; refine zh 0 rfl (by kernel_rfl) rfl rfl (fun w h => ⟨h.at_ 2 rfl, h.at_ 0 rfl⟩) (fun w h => R_ldb z29 rfl h.1 rfl) ?_; refine zh 1 rfl (by kernel_rfl) rfl rfl (fun w h => ⟨h.at_ 2 rfl, h.at_ 0 rfl⟩) (fun w h => R_ldb z32 rfl h.2 rfl) ?_; refine h_one 2 (by kernel_rfl) (fun w h => ⟨h.at_ 2 rfl, h.at_ 0 rfl⟩) ?_; refine o_store 2 rfl rfl z29 rfl rfl rfl rfl rfl rfl rfl ?_
  refine h_one 3 (by kernel_rfl) (fun w h => ⟨h.at_ 2 rfl, h.at_ 0 rfl⟩) ?_; refine o_store 1 rfl rfl z32 rfl rfl rfl rfl rfl rfl rfl ?_; refine h_done (by kernel_rfl) (fun w h => ⟨h.at_ 2 rfl, h.at_ 0 rfl⟩) ?_; refine zk ?_; refine ze ?_; refine zt (?_)
  refine r_finD0 (.inl rfl) rfl (.agg rfl rfl z29 (fun _ h => h.at_ 2 rfl) (by first | rfl | (rw [Nat.ble_eq, hcl]; omega)) (.agg rfl rfl z32 (fun _ h => h.at_ 1 rfl) rfl .nil)) ?_; exact fun w' hw => by rw [show parseP s = .error (readP s).2 from face_bad (by omega)]; exact ⟨_, rfl, pgM.zero, fun fl' h' => by cases h'; omega, hw.fr _ (.head _)⟩
 ·refine zi ?_; refine zk ?_; refine yA ?_; refine w_r (fun _ => R_makeFunc) rfl rfl ?_; refine w_defer (fun w => R_defer (ca := [.pointer (some ⟨ob, 0, none⟩), .pointer (some ⟨fb, 0, none⟩)]) rfl) rfl rfl ?_; refine yC ?_; refine mS rfl ?_; refine zm (v := str _) rfl ?_; refine w_r (fun _ => R_slen st9 rfl (by omega)) rfl rfl ?_; refine w_r (fun _ => R_build bt106 rfl) rfl rfl ?_; refine w_boxA rfl (fun rb grb urb => ?_)
  refine w_r (fun _ => R_build bt66 rfl) rfl rfl ?_; refine w_alloc zr66 (fun pb gpb upb => ?_)
  refine w_store 0 rfl z66 rfl rfl rfl rfl rfl rfl rfl ?_; refine yC ?_; refine zm rfl ?_; refine w_loadA z66 rfl (fun _ h => h.at_ 0 rfl) rfl ?_
  have hPe : ∀ w', Wd w' → (∀ p ∈ W0, w'.heap[p.1]? = some p.2) → Pe w' rb T s.length (.slice ta T.length tc) := fun w' h1 h2 => ⟨h1, Nat.le_trans hng (urb (w, No) (by simp)), ⟨ta, tc, rfl, fun k t hk => toks_at hO h2 (fun p hp => Nat.ne_of_lt (grb p (by simp [hp]))) hk⟩, by rw [← hTe]; exact readP_len s, hs, fun t ht => ⟨Nat.le_trans (readP_tx s t (by rw [hTe]; exact ht)) hs, Nat.le_trans ((readP_at s).1 t (by rw [hTe]; exact ht)) hs⟩⟩
  have hG : parseP s = andR (pProg s.length (fuel T) 0 (List.replicate 6 noBk) T) endR := (by subst hTe; exact face_go (by omega))
  refine w_pcD (T := T) (ob := fun k => Ro (.slice ta T.length tc) s.length k 0) (lo := 0) (V := (fun (_ : List Bk) (cs : List Value) => .agg cs.toArray)) (pan := pan) 1 rfl (.head _) TL.pg hG (fun w => zR Tryz.func24 rfl rfl rfl) rfl rfl (fun w h => prog_ok T s.length (.slice ta T.length tc) (fuel T) rb 0 w (hPe w (hW.now (.head _) h) (fun p hp => h.own p (by simp [hp]))) (h.at_ 1 rfl) (Nat.zero_le _) (by unfold fuel; omega)) (fun fl w' o' hf h0 hw' => d_out (l := [.cell 4 29, .cell 5 32]) (B := _) (L := _) rfl (fun _ => invoke_cl (ca := [.pointer (some ⟨ob, 0, none⟩), .pointer (some ⟨fb, 0, none⟩)]) Tryz.func57 rfl rfl) ((catchP_ok _ ob fb [.bool false, .slice none 0 0, .slice none 0 0, .bool false, .slice none 0 0, .slice none 0 0, .bool false, .slice none 0 0, .slice none 0 0, .bool false, .slice none 0 0, .slice none 0 0, .bool false, .slice none 0 0, .slice none 0 0, .bool false, .slice none 0 0, .slice none 0 0] [.int .i64 0, .int .i64 0] rfl rfl _ (hw'.at_ 4 rfl) (hw'.at_ 3 rfl) (hw'.ne 4 3 rfl rfl (by decide))).mono (fun e u w2 ⟨h1, h2, h3, h4, h5⟩ => ⟨h1, h2, hw'.mod2 4 3 rfl rfl (by decide) h3 h4 h5⟩)) (.agg rfl rfl z29 (fun _ h => h.at_ 4 rfl) rfl (.agg rfl rfl z32 (fun _ h => h.at_ 3 rfl) rfl .nil)) (fun w2 hw2 => by rw [hf]; exact ⟨_, rfl, pgM.zero, fun fl' h' => by cases h'; exact h0, hw2.fr _ (.head _)⟩)) (fun e1 b1 k1 w1 hX hG1 hlo hk1 hK => ?_)
  have hcl : b1.length = 18 := hK.len
  refine w_storeW b1 4 rfl z29 rfl rfl rfl hcl (pg_one hK) rfl ?_; refine yB ?_; refine zq ?_; refine yA ?_; refine zf fa66_0 rfl ?_; refine zl z64 rfl (fun _ h => zc 0 rfl rfl h) ?_; refine w_nilc rfl ?_; refine zf fa106_1 rfl ?_; refine zl z3 rfl (fun _ h => zc 1 rfl rfl h) ?_; refine mS rfl ?_; refine w_r (fun _ => R_len sl50 rfl) rfl rfl ?_; refine w_r (fun _ => R_lt rfl rfl) rfl rfl ?_; refine yB ?_; refine zD rfl (fun h7 => ?_) (fun h7 => ?_)
  ·refine zr ?_; refine zf fa66_0 rfl ?_; refine zl z64 rfl (fun _ h => zc 0 rfl rfl h) ?_
   have hf : parseP s = .error (130, place s.length (T.drop k1)) := hG1.trans (endR_more _ (by omega))
   refine w_callD (R := fun _ _ _ => False) (E := fun w ch w' => ch = pan (130, place s.length (T.drop k1)) ∧ Ext w w') (fun w => zR Tryz.func58 rfl rfl rfl) rfl rfl (fun w h => fail_ok 130 rb k1 0 s.length T (.slice ta T.length tc) w (hPe w (hW.now (.tail _ (.head _)) h) (fun p hp => h.own p (by simp [hp]))) (h.at_ 1 rfl) (by omega)) (fun w hw v w' h => h.elim) (fun w hw ch w' hh => by obtain ⟨rfl, hx⟩ := hh; have hw' := hw.ext hx; exact d_out (l := [.cell 4 29, .cell 5 32]) (B := _) (L := _) rfl (fun _ => invoke_cl (ca := [.pointer (some ⟨ob, 0, none⟩), .pointer (some ⟨fb, 0, none⟩)]) Tryz.func57 rfl rfl) ((catchP_ok _ ob fb b1 [.int .i64 0, .int .i64 0] hcl rfl _ (hw'.at_ 4 rfl) (hw'.at_ 3 rfl) (hw'.ne 4 3 rfl rfl (by decide))).mono (fun e u w2 ⟨h1, h2, h3, h4, h5⟩ => ⟨h1, h2, hw'.mod2 4 3 rfl rfl (by decide) h3 h4 h5⟩)) (.agg rfl rfl z29 (fun _ h => h.at_ 4 rfl) rfl (.agg rfl rfl z32 (fun _ h => h.at_ 3 rfl) rfl .nil)) (fun w2 hw2 => by rw [hf]; exact ⟨_, rfl, pgM.zero, fun fl' h' => by cases h'; exact (show (130 : Nat) ≠ 0 by decide), hw2.fr _ (.tail _ (.head _))⟩))
  ·refine zi ?_; refine zk ?_; refine yA ?_; refine w_loadW z29 rfl (fun w h => h.at_ 4 rfl) hcl ?_; refine w_r (fun _ => R_build bt32 rfl) rfl rfl ?_; refine w_storeW b1 4 rfl z29 rfl rfl rfl hcl (pg_one hK) hcl ?_; refine w_store 3 rfl z32 rfl rfl rfl rfl rfl rfl rfl ?_; refine yB ?_; refine ze ?_
   have hGd : parseP s = .ok e1 := hG1.trans (endR_done (by omega))
   refine r_finD (.inl rfl) rfl (f := 57) (ca := [.pointer (some ⟨ob, 0, none⟩), .pointer (some ⟨fb, 0, none⟩)]) (fun _ => invoke_cl Tryz.func57 rfl rfl) (fun w hw => idleP_ok ob fb w hw) (.agg rfl rfl z29 (fun _ h => h.at_ 4 rfl) (by first | rfl | (rw [Nat.ble_eq, hcl]; omega)) (.agg rfl rfl z32 (fun _ h => h.at_ 3 rfl) rfl .nil)) ?_
   rw [show List.take 18 (List.drop 0 b1) = b1 from by rw [List.drop_zero, List.take_of_length_le (by omega)]]; exact fun w' hw => by rw [hGd]; exact ⟨b1, rfl, hK.fin TL.pg (.head _) hw, (fun fl' h' => by cases h'), hw.fr _ (.tail _ (.head _))⟩

set_option maxRecDepth 100000 in
set_option maxHeartbeats 8000000 in
theorem faceE_ok (s : Str) (hs : s.length ≤ 10000000) (T : List Tk) (hTe : (readP s).1 = T) (w : World) (hW : Wd w) (hng : 4 ≤ w.heap.size) :
  Ret Tryz.prog 33 #[str s, .func (.func 34) #[] #[]] w (fun v w' => ∃ b, v = .tuple #[.agg (exE (resOf noEx (exprP s)).1 b).toArray, .agg #[.int .i64 ((resOf noEx (exprP s)).2.1 : Nat), .int .i64 ((resOf noEx (exprP s)).2.2 : Nat)]] ∧ exT w' (Nn w w') (resOf noEx (exprP s)).1 b ∧ (∀ fl, exprP s = .error fl → fl.1 ≠ 0) ∧ Ext w w') := by
 refine enterD (S := No) (l := [_, _]) (L := []) 42 Tryz.func33 rfl rfl rfl (St.start w No) ?_; refine yA ?_; refine w_alloc zr39 (fun ob gob uob => ?_)
 refine w_alloc zr32 (fun fb gfb ufb => ?_)
 refine yC ?_; refine zm (v := str _) rfl ?_; refine w_callW (R := fun v W => ∃ a c, v = .tuple #[.slice a T.length c, .agg #[.int .i64 ((readP s).2.1 : Nat), .int .i64 ((readP s).2.2 : Nat)]] ∧ Toks (.slice a T.length c) T W) (fun w => zR Tryz.func56 rfl rfl rfl) rfl rfl (fun w h => by subst hTe; exact Read_spec s hs w (hW.now (.head _) h).tb (hW.now (.head _) h).gs) ?_
 rintro v W0 ⟨ta, tc, rfl, hO⟩
 refine w_st (fun w h => h.perm List.perm_append_comm) ?_; refine zm rfl ?_; refine w_r (fun _ => R_extract rfl rfl) rfl rfl ?_; refine w_r (fun _ => R_extract rfl rfl) rfl rfl ?_; refine w_alloc zr32 (fun eb geb ueb => ?_)
 refine za (v := .slice _ _ _) rfl ?_; refine w_store 0 rfl z32 rfl rfl rfl rfl rfl rfl rfl ?_; refine yB ?_; refine zq ?_; refine yA ?_; refine zf fa32_0 rfl ?_; refine zl z30 rfl (fun _ h => zc 0 rfl rfl h) ?_; refine w_r (fun _ => R_ne rfl rfl) rfl rfl ?_; refine yB ?_; refine zD rfl (fun h4 => ?_) (fun h4 => ?_)
 ·refine zq ?_; refine c_held (fun w => w.heap[ob]? = some (cel [.int .u8 0, .int .i64 0, str [], .slice none 0 0] 39) ∧ w.heap[eb]? = some (cel [.int .i64 ((readP s).2.1 : Nat), .int .i64 ((readP s).2.2 : Nat)] 32)) mixed ?_; refine zh 0 rfl (by kernel_rfl) rfl rfl (fun w h => ⟨h.at_ 2 rfl, h.at_ 0 rfl⟩) (fun w h => R_ldb z39 rfl h.1 rfl) ?_; refine zh 1 rfl (by kernel_rfl) rfl rfl (fun w h => ⟨h.at_ 2 rfl, h.at_ 0 rfl⟩) (fun w h => R_ldb z32 rfl h.2 rfl) ?_; refine h_one 2 (by kernel_rfl) (fun w h => ⟨h.at_ 2 rfl, h.at_ 0 rfl⟩) ?_; refine o_store 2 rfl rfl z39 rfl rfl rfl rfl rfl rfl rfl ?_; refine h_one 3 (by kernel_rfl) (fun w h => ⟨h.at_ 2 rfl, h.at_ 0 rfl⟩) ?_; refine o_store 1 rfl rfl z32 rfl rfl rfl rfl rfl rfl rfl ?_; refine h_done (by kernel_rfl) (fun w h => ⟨h.at_ 2 rfl, h.at_ 0 rfl⟩) ?_; refine zk ?_; refine ze ?_; refine zt (?_)
  refine r_finD0 (.inl rfl) rfl (.agg rfl rfl z39 (fun _ h => h.at_ 2 rfl) rfl (.agg rfl rfl z32 (fun _ h => h.at_ 1 rfl) rfl .nil)) ?_; exact fun w' hw => by rw [show exprP s = .error (readP s).2 from face_bad (by omega)]; exact ⟨_, rfl, exT.none, fun fl' h' => by cases h'; omega, hw.fr _ (.head _)⟩
 ·refine zi ?_; refine zk ?_; refine yA ?_; refine w_r (fun _ => R_makeFunc) rfl rfl ?_; refine w_defer (fun w => R_defer (ca := [.pointer (some ⟨ob, 0, none⟩), .pointer (some ⟨fb, 0, none⟩)]) rfl) rfl rfl ?_; refine yC ?_; refine mS rfl ?_; refine zm (v := str _) rfl ?_; refine w_r (fun _ => R_slen st9 rfl (by omega)) rfl rfl ?_; refine w_r (fun _ => R_build bt106 rfl) rfl rfl ?_; refine w_boxA rfl (fun rb grb urb => ?_)
  refine w_r (fun _ => R_build bt66 rfl) rfl rfl ?_; refine w_alloc zr66 (fun pb gpb upb => ?_)
  refine w_store 0 rfl z66 rfl rfl rfl rfl rfl rfl rfl ?_; refine yC ?_; refine zm rfl ?_; refine w_loadA z66 rfl (fun _ h => h.at_ 0 rfl) rfl ?_
  have hPe : ∀ w', Wd w' → (∀ p ∈ W0, w'.heap[p.1]? = some p.2) → Pe w' rb T s.length (.slice ta T.length tc) := fun w' h1 h2 => ⟨h1, Nat.le_trans hng (urb (w, No) (by simp)), ⟨ta, tc, rfl, fun k t hk => toks_at hO h2 (fun p hp => Nat.ne_of_lt (grb p (by simp [hp]))) hk⟩, by rw [← hTe]; exact readP_len s, hs, fun t ht => ⟨Nat.le_trans (readP_tx s t (by rw [hTe]; exact ht)) hs, Nat.le_trans ((readP_at s).1 t (by rw [hTe]; exact ht)) hs⟩⟩
  have hG : exprP s = andR (pSum s.length (fuel T) T 0) endR := (by subst hTe; exact face_go (by omega))
  refine w_pcD (T := T) (ob := fun k => Ro (.slice ta T.length tc) s.length k 0) (lo := 0 + 1) (V := (fun e b => .agg (exE e b).toArray)) (pan := pan) 1 rfl (.head _) TL.ext hG (fun w => zR Tryz.func34 rfl rfl rfl) rfl rfl (fun w h => (ex_all T s.length (.slice ta T.length tc) (fuel T)).1 rb 0 0 w (hPe w (hW.now (.head _) h) (fun p hp => h.own p (by simp [hp]))) (h.at_ 1 rfl) (Nat.zero_le _) (by omega) (by unfold fuel; omega)) (fun fl w' o' hf h0 hw' => d_out (l := [.cell 4 39, .cell 5 32]) (B := _) (L := _) rfl (fun _ => invoke_cl (ca := [.pointer (some ⟨ob, 0, none⟩), .pointer (some ⟨fb, 0, none⟩)]) Tryz.func68 rfl rfl) ((catchE_ok _ ob fb [.int .u8 0, .int .i64 0, str [], .slice none 0 0] [.int .i64 0, .int .i64 0] rfl rfl _ (hw'.at_ 4 rfl) (hw'.at_ 3 rfl) (hw'.ne 4 3 rfl rfl (by decide))).mono (fun e u w2 ⟨h1, h2, h3, h4, h5⟩ => ⟨h1, h2, hw'.mod2 4 3 rfl rfl (by decide) h3 h4 h5⟩)) (.agg rfl rfl z39 (fun _ h => h.at_ 4 rfl) rfl (.agg rfl rfl z32 (fun _ h => h.at_ 3 rfl) rfl .nil)) (fun w2 hw2 => by rw [hf]; exact ⟨_, rfl, exT.none, fun fl' h' => by cases h'; exact h0, hw2.fr _ (.head _)⟩)) (fun e1 b1 k1 w1 hX hG1 hlo hk1 hK => ?_)
  refine w_store 4 rfl z39 rfl rfl rfl rfl rfl rfl rfl ?_; refine yB ?_; refine zq ?_; refine yA ?_; refine zf fa66_0 rfl ?_; refine zl z64 rfl (fun _ h => zc 0 rfl rfl h) ?_; refine w_nilc rfl ?_; refine zf fa106_1 rfl ?_; refine zl z3 rfl (fun _ h => zc 1 rfl rfl h) ?_; refine mS rfl ?_; refine w_r (fun _ => R_len sl50 rfl) rfl rfl ?_; refine w_r (fun _ => R_lt rfl rfl) rfl rfl ?_; refine yB ?_; refine zD rfl (fun h7 => ?_) (fun h7 => ?_)
  ·refine zr ?_; refine zf fa66_0 rfl ?_; refine zl z64 rfl (fun _ h => zc 0 rfl rfl h) ?_
   have hf : exprP s = .error (130, place s.length (T.drop k1)) := hG1.trans (endR_more _ (by omega))
   refine w_callD (R := fun _ _ _ => False) (E := fun w ch w' => ch = pan (130, place s.length (T.drop k1)) ∧ Ext w w') (fun w => zR Tryz.func58 rfl rfl rfl) rfl rfl (fun w h => fail_ok 130 rb k1 0 s.length T (.slice ta T.length tc) w (hPe w (hW.now (.tail _ (.head _)) h) (fun p hp => h.own p (by simp [hp]))) (h.at_ 1 rfl) (by omega)) (fun w hw v w' h => h.elim) (fun w hw ch w' hh => by obtain ⟨rfl, hx⟩ := hh; have hw' := hw.ext hx; exact d_out (l := [.cell 4 39, .cell 5 32]) (B := _) (L := _) rfl (fun _ => invoke_cl (ca := [.pointer (some ⟨ob, 0, none⟩), .pointer (some ⟨fb, 0, none⟩)]) Tryz.func68 rfl rfl) ((catchE_ok _ ob fb (exE e1 b1) [.int .i64 0, .int .i64 0] rfl rfl _ (hw'.at_ 4 rfl) (hw'.at_ 3 rfl) (hw'.ne 4 3 rfl rfl (by decide))).mono (fun e u w2 ⟨h1, h2, h3, h4, h5⟩ => ⟨h1, h2, hw'.mod2 4 3 rfl rfl (by decide) h3 h4 h5⟩)) (.agg rfl rfl z39 (fun _ h => h.at_ 4 rfl) rfl (.agg rfl rfl z32 (fun _ h => h.at_ 3 rfl) rfl .nil)) (fun w2 hw2 => by rw [hf]; exact ⟨_, rfl, exT.none, fun fl' h' => by cases h'; exact (show (130 : Nat) ≠ 0 by decide), hw2.fr _ (.tail _ (.head _))⟩))
  ·refine zi ?_; refine zk ?_; refine yA ?_; refine w_loadA z39 rfl (fun _ h => h.at_ 4 rfl) rfl ?_; refine w_r (fun _ => R_build bt32 rfl) rfl rfl ?_; refine w_store 4 rfl z39 rfl rfl rfl rfl rfl rfl rfl ?_; refine w_store 3 rfl z32 rfl rfl rfl rfl rfl rfl rfl ?_; refine yB ?_; refine ze ?_
   have hGd : exprP s = .ok e1 := hG1.trans (endR_done (by omega))
   refine r_finD (.inl rfl) rfl (f := 68) (ca := [.pointer (some ⟨ob, 0, none⟩), .pointer (some ⟨fb, 0, none⟩)]) (fun _ => invoke_cl Tryz.func68 rfl rfl) (fun w hw => idleE_ok ob fb w hw) (.agg rfl rfl z39 (fun _ h => h.at_ 4 rfl) rfl (.agg rfl rfl z32 (fun _ h => h.at_ 3 rfl) rfl .nil)) ?_; exact fun w' hw => by rw [hGd]; exact ⟨b1, rfl, hK.fin TL.ext (.head _) hw, (fun fl' h' => by cases h'), hw.fr _ (.tail _ (.head _))⟩

set_option maxRecDepth 100000 in
set_option maxHeartbeats 4000000 in
theorem Parse_ok (s : Str) (hs : s.length ≤ 10000000) (w : World) (hW : Wd w) (hng : 4 ≤ w.heap.size) :
  Ret Tryz.prog 10 #[str s] w (fun v w' => ∃ cs, v = .tuple #[.agg cs.toArray, .agg #[.int .i64 ((resOf (List.replicate 6 noBk) (parseP s)).2.1 : Nat), .int .i64 ((resOf (List.replicate 6 noBk) (parseP s)).2.2 : Nat)]] ∧ pgM w' (Nn w w') (resOf (List.replicate 6 noBk) (parseP s)).1 cs ∧ (∀ fl, parseP s = .error fl → fl.1 ≠ 0) ∧ Ext w w') := by
 refine enter (S := No) (l := [_]) (L := []) 8 Tryz.func10 rfl rfl rfl (St.start w No) ?_; refine yA ?_; refine w_alloc zr29 (fun ob gob uob => ?_)
 refine w_alloc zr32 (fun fb gfb ufb => ?_)
 refine yC ?_; refine zm (v := str _) rfl ?_; refine w_callR (fun w => zR Tryz.func23 rfl rfl rfl) rfl rfl (fun w h => faceP_ok s hs _ rfl w (hW.now (.head _) h) (Nat.le_trans hng (h.fr _ (.head _)).size)) ?_
 rintro w1 hw1 v w2 ⟨cs, rfl, hM, hne, hx⟩
 refine ⟨_, _, (hw1.ext hx).base1, ?_⟩
 have hK : Kt (w2, inL [_, _]) w.heap.size pgM (resOf (List.replicate 6 noBk) (parseP s)).1 cs := Kt.new hM TL.pg hw1 (hw1.fr _ (.head _)).size; clear hM hx hw1
 have hcl : cs.length = 18 := hK.len
 refine w_r (fun _ => R_extract rfl rfl) rfl rfl ?_; refine w_r (fun _ => R_extract rfl rfl) rfl rfl ?_; refine w_storeW cs 1 rfl z29 rfl rfl rfl hcl (pg_one hK) rfl ?_; refine w_store 0 rfl z32 rfl rfl rfl rfl rfl rfl rfl ?_; refine yB ?_; refine ze ?_; refine r_fin (.inl rfl) rfl (.agg rfl rfl z29 (fun _ h => h.at_ 1 rfl) (by rw [Nat.ble_eq, hcl]; omega) (.agg rfl rfl z32 (fun _ h => h.at_ 0 rfl) rfl .nil)) ?_
 rw [show List.take 18 (List.drop 0 cs) = cs from by rw [List.drop_zero, List.take_of_length_le (by omega)]]; exact fun w' hw => ⟨cs, rfl, hK.fin TL.pg (.head _) hw, hne, hw.fr _ (.tail _ (.head _))⟩

set_option maxRecDepth 100000 in
set_option maxHeartbeats 4000000 in
theorem Expr_ok (s : Str) (hs : s.length ≤ 10000000) (w : World) (hW : Wd w) (hng : 4 ≤ w.heap.size) :
  Ret Tryz.prog 13 #[str s] w (fun v w' => ∃ b, v = .tuple #[.agg (exE (resOf noEx (exprP s)).1 b).toArray, .agg #[.int .i64 ((resOf noEx (exprP s)).2.1 : Nat), .int .i64 ((resOf noEx (exprP s)).2.2 : Nat)]] ∧ exT w' (Nn w w') (resOf noEx (exprP s)).1 b ∧ (∀ fl, exprP s = .error fl → fl.1 ≠ 0) ∧ Ext w w') := by
 refine enter (S := No) (l := [_]) (L := []) 8 Tryz.func13 rfl rfl rfl (St.start w No) ?_; refine yA ?_; refine w_alloc zr39 (fun ob gob uob => ?_)
 refine w_alloc zr32 (fun fb gfb ufb => ?_)
 refine yC ?_; refine zm (v := str _) rfl ?_; refine w_callR (fun w => zR Tryz.func33 rfl rfl rfl) rfl rfl (fun w h => faceE_ok s hs _ rfl w (hW.now (.head _) h) (Nat.le_trans hng (h.fr _ (.head _)).size)) ?_
 rintro w1 hw1 v w2 ⟨b, rfl, hM, hne, hx⟩
 refine ⟨_, _, (hw1.ext hx).base1, ?_⟩
 have hK : Kt (w2, inL [_, _]) w.heap.size exT (resOf noEx (exprP s)).1 b := Kt.new hM TL.ext hw1 (hw1.fr _ (.head _)).size; clear hM hx hw1
 refine w_r (fun _ => R_extract rfl rfl) rfl rfl ?_; refine w_r (fun _ => R_extract rfl rfl) rfl rfl ?_; refine w_store 1 rfl z39 rfl rfl rfl rfl rfl rfl rfl ?_; refine w_store 0 rfl z32 rfl rfl rfl rfl rfl rfl rfl ?_; refine yB ?_; refine ze ?_; refine r_fin (.inl rfl) rfl (.agg rfl rfl z39 (fun _ h => h.at_ 1 rfl) rfl (.agg rfl rfl z32 (fun _ h => h.at_ 0 rfl) rfl .nil)) ?_; exact fun w' hw => ⟨b, rfl, hK.fin TL.ext (.head _) hw, hne, hw.fr _ (.tail _ (.head _))⟩
end Go.Proofs.YtaniogadknakoaaGreatDoor
end

section
namespace Go.Proofs.YtaniogadknakoaaGreatDoor
open Go.RowKit Go.Sx
open Go.Tok Go.Tree

set_option maxRecDepth 100000 in
set_option maxHeartbeats 400000 in
theorem compares_spec (op : Nat) (w : World) :
    Ret Tryz.prog 103 #[.int .u8 (op : Nat)] w (fun v w' => v = .bool (cmpOp op) ∧ Ext w w') := by
  refine enter (S := No) (l := [_]) (L := []) 9 Tryz.func103 rfl rfl rfl (St.start w No) ?_; refine yA ?_; refine aB rfl ?_; refine yC ?_; refine mI rfl ?_; refine w_r (fun _ => R_ge rfl rfl) rfl rfl ?_; refine mB rfl ?_; refine zd (t := 5) rfl (fun h1 => ?_) (fun h1 => ?_)
  · (try (have qh1 := h1; norm_cast at qh1))
    refine zw rfl rfl (bT h1) ?_; refine mI rfl ?_; refine zw rfl rfl (bT h1) ?_; refine w_r (fun _ => R_le rfl rfl) rfl rfl ?_; refine w_r (v := .bool _) (fun _ => zT (bT h1) rfl) rfl rfl ?_; refine aB rfl ?_; refine yB ?_; refine ze ?_; refine zo (v := .bool _) rfl rfl rfl ?_; exact fun w' hw => ⟨by rw [cmp_int, decide_eq_true h1]; rfl, hw.fr _ (.head _)⟩
  · (try (have qh1 := h1; norm_cast at qh1))
    refine zs rfl rfl (bF h1) ?_; refine zs rfl rfl (bF h1) ?_; refine w_r (v := .bool _) (fun _ => zF (bF h1) rfl) rfl rfl ?_; refine aB rfl ?_; refine yB ?_; refine ze ?_; refine zo (v := .bool _) rfl rfl rfl ?_; exact fun w' hw => ⟨by rw [cmp_int, decide_eq_false h1]; rfl, hw.fr _ (.head _)⟩

set_option maxRecDepth 100000 in
set_option maxHeartbeats 400000 in
theorem compare_spec (x : Ex) (cs : List Value) (N : Nat → Prop) (w : World) (hx : exW x < 10000000) (hm : exM w N x cs) (hW : Wd w) :
    Ret Tryz.prog 142 #[.agg cs.toArray] w (fun v w' => v = .bool (cmpOk x) ∧ Ext w w') := by
  obtain ⟨op, at_, nm, ks⟩ := x
  have hm2 := hm
  unfold exM at hm2
  obtain ⟨ka, kc, rfl, hkc, hks⟩ := hm2
  have hx2 := hx
  unfold exW at hx2
  refine enter (S := No) (l := [_]) (L := []) 22 Tryz.func142 rfl rfl rfl (St.start w No) ?_; refine yA ?_; refine w_boxA rfl (fun t1b gt1b ut1b => ?_)
  refine aB rfl ?_; refine yC ?_; refine zf fa39_0 rfl ?_; refine zl z5 rfl (fun _ h => zc 0 rfl rfl h) ?_; refine zC (fun w => zR Tryz.func103 rfl rfl rfl) rfl rfl (fun w h => compares_spec _ w) ?_; refine mB rfl ?_; refine zp (t := 6) rfl (fun h2 => ?_) (fun h2 => ?_)
  · (try (have qh2 := h2; norm_cast at qh2))
    refine zw rfl rfl (bV h2) ?_; refine zf fa39_2 rfl ?_; refine zw rfl rfl (bV h2) ?_; refine zl z9 rfl (fun _ h => zc 0 rfl rfl h) ?_; refine zw rfl rfl (bV h2) ?_; refine w_r (fun _ => R_seq rfl rfl) rfl rfl ?_; refine w_r (v := .bool _) (fun _ => zT (bV h2) rfl) rfl rfl ?_; refine mB rfl ?_; refine zd (t := 11) rfl (fun h3 => ?_) (fun h3 => ?_)
    · (try (have qh3 := h3; norm_cast at qh3))
      refine zw rfl rfl (bT h3) ?_; refine zf fa39_3 rfl ?_; refine zw rfl rfl (bT h3) ?_; refine zl z37 rfl (fun _ h => zc 0 rfl rfl h) ?_; refine zw rfl rfl (bT h3) ?_; refine w_r (fun _ => R_len sl37 rfl) rfl rfl ?_; refine zw rfl rfl (bT h3) ?_; refine w_r (fun _ => R_eq rfl rfl) rfl rfl ?_; refine w_r (v := .bool _) (fun _ => zT (bT h3) rfl) rfl rfl ?_; refine mB rfl ?_; refine zd (t := 17) rfl (fun h4 => ?_) (fun h4 => ?_)
      · (try (have qh4 := h4; norm_cast at qh4))
        refine zw rfl rfl (bT h4) ?_; refine zf fa39_3 rfl ?_; refine zw rfl rfl (bT h4) ?_; refine zl z37 rfl (fun _ h => zc 0 rfl rfl h) ?_; refine zw rfl rfl (bT h4) ?_; refine zC (fun w => zR Tryz.func100 rfl rfl rfl) rfl rfl (fun w h => exprs_ok ks ka kc N w (by omega) (by omega) (hks.now (fun _ _ hh => hh) (.head _) h) (hW.now (.head _) h)) ?_; refine w_r (v := .bool _) (fun _ => zT (bT h4) rfl) rfl rfl ?_; refine aB rfl ?_; refine yB ?_; refine ze ?_; refine zo (v := .bool _) rfl rfl rfl ?_; exact fun w' hw => ⟨by simp_all [cmpOk, Ex.op, Ex.nm, Ex.kids], hw.fr _ (.head _)⟩
      · (try (have qh4 := h4; norm_cast at qh4))
        refine zs rfl rfl (bF h4) ?_; refine zs rfl rfl (bF h4) ?_; refine zs rfl rfl (bF h4) ?_; refine w_r (v := .bool _) (fun _ => zF (bF h4) rfl) rfl rfl ?_; refine aB rfl ?_; refine yB ?_; refine ze ?_; refine zo (v := .bool _) rfl rfl rfl ?_; exact fun w' hw => ⟨by simp_all [cmpOk, Ex.op, Ex.nm, Ex.kids], hw.fr _ (.head _)⟩
    · (try (have qh3 := h3; norm_cast at qh3))
      refine zs rfl rfl (bF h3) ?_; refine zs rfl rfl (bF h3) ?_; refine zs rfl rfl (bF h3) ?_; refine zs rfl rfl (bF h3) ?_; refine w_r (v := .bool _) (fun _ => zF (bF h3) rfl) rfl rfl ?_; refine mB rfl ?_; refine zs rfl rfl rfl ?_; refine zs rfl rfl rfl ?_; refine zs rfl rfl rfl ?_; refine w_r (v := .bool _) (fun _ => zF rfl rfl) rfl rfl ?_; refine aB rfl ?_; refine yB ?_; refine ze ?_; refine zo (v := .bool _) rfl rfl rfl ?_; exact fun w' hw => ⟨by simp_all [cmpOk, Ex.op, Ex.nm, Ex.kids], hw.fr _ (.head _)⟩
  · (try (have qh2 := h2; norm_cast at qh2))
    refine zs rfl rfl (bV h2) ?_; refine zs rfl rfl (bV h2) ?_; refine zs rfl rfl (bV h2) ?_; refine w_r (v := .bool _) (fun _ => zF (bV h2) rfl) rfl rfl ?_; refine mB rfl ?_; refine zs rfl rfl rfl ?_; refine zs rfl rfl rfl ?_; refine zs rfl rfl rfl ?_; refine zs rfl rfl rfl ?_; refine w_r (v := .bool _) (fun _ => zF rfl rfl) rfl rfl ?_; refine mB rfl ?_; refine zs rfl rfl rfl ?_; refine zs rfl rfl rfl ?_; refine zs rfl rfl rfl ?_; refine w_r (v := .bool _) (fun _ => zF rfl rfl) rfl rfl ?_; refine aB rfl ?_; refine yB ?_; refine ze ?_; refine zo (v := .bool _) rfl rfl rfl ?_; exact fun w' hw => ⟨by simp_all [cmpOk, Ex.op, Ex.nm, Ex.kids], hw.fr _ (.head _)⟩

set_option maxRecDepth 100000 in
set_option maxHeartbeats 400000 in
theorem stmt1_spec (w : World) (hW : Wd w) (p3 : Nat) (op : Nat) (at_ : Int) (nm : Str) (v4 v5 v6 : Value) (hq3 : w.heap[p3]? = some (cel [.int .u8 (op : Nat), .int .i64 at_, str nm, v4, v5, v6] 76)) (hs : nm.length ≤ 10000000) (p2 : Nat) (n : Nat) (hq2 : w.heap[p2]? = some (cel [.int .i64 (n : Nat)] 3)) :
    Ret Tryz.prog 137 #[.pointer (some ⟨p3, 0, none⟩), .pointer (some ⟨p2, 0, none⟩)] w (fun v w' => v = .bool (nameOk nm && (decide (n = 1) || decide (n = 2))) ∧ Ext w w') := by
  refine enter (S := No) (l := [_, _]) (L := []) 14 Tryz.func137 rfl rfl rfl (St.start w No) ?_; refine yA ?_; refine aB rfl ?_; refine yC ?_; refine zf fa76_2 rfl ?_; refine zl z9 rfl (fun _ h => cel_oldb hq3 (.head _) id rfl h) ?_; refine zC (fun w => zR Tryz.func96 rfl rfl rfl) rfl rfl (fun w h => Name_spec _ (by omega) w (hW.now (.head _) h)) ?_; refine mB rfl ?_; refine zp (t := 6) rfl (fun h1 => ?_) (fun h1 => ?_)
  · (try (have qh1 := h1; norm_cast at qh1))
    refine zw rfl rfl (bV h1) ?_; refine zl z3 rfl (fun _ h => cel_oldb hq2 (.head _) id rfl h) ?_; refine zw rfl rfl (bV h1) ?_; refine w_r (fun _ => R_eq rfl rfl) rfl rfl ?_; refine zw rfl rfl (bV h1) ?_; refine mB rfl ?_; refine zd (t := 9) rfl (fun h2 => ?_) (fun h2 => ?_)
    · (try (have qh2 := h2; norm_cast at qh2))
      refine zs rfl rfl (bT h2) ?_; refine zs rfl rfl (bT h2) ?_; refine zw rfl rfl (bV h1) ?_; refine w_r (v := .bool _) (fun _ => zT (bT h2) rfl) rfl rfl ?_; refine w_r (v := .bool _) (fun _ => zT (bV h1) rfl) rfl rfl ?_; refine aB rfl ?_; refine yB ?_; refine ze ?_; refine zo (v := .bool _) rfl rfl rfl ?_; exact fun w' hw => ⟨by simp_all <;> omega, hw.fr _ (.head _)⟩
    · (try (have qh2 := h2; norm_cast at qh2))
      refine zw rfl rfl (bF h2) ?_; refine zl z3 rfl (fun _ h => cel_oldb hq2 (.head _) id rfl h) ?_; refine zw rfl rfl (bF h2) ?_; refine w_r (fun _ => R_eq rfl rfl) rfl rfl ?_; refine zw rfl rfl (bV h1) ?_; refine w_r (v := .bool _) (fun _ => zF (bF h2) rfl) rfl rfl ?_; refine w_r (v := .bool _) (fun _ => zT (bV h1) rfl) rfl rfl ?_; refine aB rfl ?_; refine yB ?_; refine ze ?_; refine zo (v := .bool _) rfl rfl rfl ?_; exact fun w' hw => ⟨by simp_all <;> omega, hw.fr _ (.head _)⟩
  · (try (have qh1 := h1; norm_cast at qh1))
    refine zs rfl rfl (bV h1) ?_; refine zs rfl rfl (bV h1) ?_; refine zs rfl rfl (bV h1) ?_; refine zU rfl rfl rfl ?_; refine zU rfl rfl rfl ?_; refine zs rfl rfl (bV h1) ?_; refine w_r (v := .bool _) (fun _ => zF (bV h1) rfl) rfl rfl ?_; refine aB rfl ?_; refine yB ?_; refine ze ?_; refine zo (v := .bool _) rfl rfl rfl ?_; exact fun w' hw => ⟨by simp_all <;> omega, hw.fr _ (.head _)⟩

set_option maxRecDepth 100000 in
set_option maxHeartbeats 400000 in
theorem stmt2_spec (w : World) (hW : Wd w) (p1 : Nat) (bare : Bool) (hq1 : w.heap[p1]? = some (cel [.bool bare] 4)) (p2 : Nat) (n : Nat) (hq2 : w.heap[p2]? = some (cel [.int .i64 (n : Nat)] 3)) :
    Ret Tryz.prog 138 #[.pointer (some ⟨p1, 0, none⟩), .pointer (some ⟨p2, 0, none⟩)] w (fun v w' => v = .bool (bare && decide (n = 1)) ∧ Ext w w') := by
  refine enter (S := No) (l := [_, _]) (L := []) 8 Tryz.func138 rfl rfl rfl (St.start w No) ?_; refine yA ?_; refine aB rfl ?_; refine yC ?_; refine zl z4 rfl (fun _ h => cel_oldb hq1 (.head _) id rfl h) ?_; refine mB rfl ?_; refine zp (t := 4) rfl (fun h1 => ?_) (fun h1 => ?_)
  · (try (have qh1 := h1; norm_cast at qh1))
    refine zw rfl rfl (bV h1) ?_; refine zl z3 rfl (fun _ h => cel_oldb hq2 (.head _) id rfl h) ?_; refine zw rfl rfl (bV h1) ?_; refine w_r (fun _ => R_eq rfl rfl) rfl rfl ?_; refine w_r (v := .bool _) (fun _ => zT (bV h1) rfl) rfl rfl ?_; refine aB rfl ?_; refine yB ?_; refine ze ?_; refine zo (v := .bool _) rfl rfl rfl ?_; exact fun w' hw => ⟨by simp_all <;> omega, hw.fr _ (.head _)⟩
  · (try (have qh1 := h1; norm_cast at qh1))
    refine zs rfl rfl (bV h1) ?_; refine zs rfl rfl (bV h1) ?_; refine w_r (v := .bool _) (fun _ => zF (bV h1) rfl) rfl rfl ?_; refine aB rfl ?_; refine yB ?_; refine ze ?_; refine zo (v := .bool _) rfl rfl rfl ?_; exact fun w' hw => ⟨by simp_all <;> omega, hw.fr _ (.head _)⟩

set_option maxRecDepth 100000 in
set_option maxHeartbeats 400000 in
theorem stmt3_spec (w : World) (hW : Wd w) (p3 : Nat) (op : Nat) (at_ : Int) (nm : Str) (v4 v5 v6 : Value) (hq3 : w.heap[p3]? = some (cel [.int .u8 (op : Nat), .int .i64 at_, str nm, v4, v5, v6] 76)) (hs : nm.length ≤ 10000000) (p2 : Nat) (n : Nat) (hq2 : w.heap[p2]? = some (cel [.int .i64 (n : Nat)] 3)) :
    Ret Tryz.prog 139 #[.pointer (some ⟨p3, 0, none⟩), .pointer (some ⟨p2, 0, none⟩)] w (fun v w' => v = .bool (nameOk nm && decide (1 ≤ n)) ∧ Ext w w') := by
  refine enter (S := No) (l := [_, _]) (L := []) 10 Tryz.func139 rfl rfl rfl (St.start w No) ?_; refine yA ?_; refine aB rfl ?_; refine yC ?_; refine zf fa76_2 rfl ?_; refine zl z9 rfl (fun _ h => cel_oldb hq3 (.head _) id rfl h) ?_; refine zC (fun w => zR Tryz.func96 rfl rfl rfl) rfl rfl (fun w h => Name_spec _ (by omega) w (hW.now (.head _) h)) ?_; refine mB rfl ?_; refine zp (t := 6) rfl (fun h1 => ?_) (fun h1 => ?_)
  · (try (have qh1 := h1; norm_cast at qh1))
    refine zw rfl rfl (bV h1) ?_; refine zl z3 rfl (fun _ h => cel_oldb hq2 (.head _) id rfl h) ?_; refine zw rfl rfl (bV h1) ?_; refine w_r (fun _ => R_ge rfl rfl) rfl rfl ?_; refine w_r (v := .bool _) (fun _ => zT (bV h1) rfl) rfl rfl ?_; refine aB rfl ?_; refine yB ?_; refine ze ?_; refine zo (v := .bool _) rfl rfl rfl ?_; exact fun w' hw => ⟨by simp_all <;> omega, hw.fr _ (.head _)⟩
  · (try (have qh1 := h1; norm_cast at qh1))
    refine zs rfl rfl (bV h1) ?_; refine zs rfl rfl (bV h1) ?_; refine w_r (v := .bool _) (fun _ => zF (bV h1) rfl) rfl rfl ?_; refine aB rfl ?_; refine yB ?_; refine ze ?_; refine zo (v := .bool _) rfl rfl rfl ?_; exact fun w' hw => ⟨by simp_all <;> omega, hw.fr _ (.head _)⟩

set_option maxRecDepth 100000 in
set_option maxHeartbeats 400000 in
theorem stmt4_spec (w : World) (hW : Wd w) (p3 : Nat) (op : Nat) (at_ : Int) (nm : Str) (v4 v5 v6 : Value) (hq3 : w.heap[p3]? = some (cel [.int .u8 (op : Nat), .int .i64 at_, str nm, v4, v5, v6] 76)) (hs : nm.length ≤ 10000000) (p2 : Nat) (n : Nat) (hq2 : w.heap[p2]? = some (cel [.int .i64 (n : Nat)] 3)) :
    Ret Tryz.prog 140 #[.pointer (some ⟨p3, 0, none⟩), .pointer (some ⟨p2, 0, none⟩)] w (fun v w' => v = .bool (nameOk nm && decide (n = 2)) ∧ Ext w w') := by
  refine enter (S := No) (l := [_, _]) (L := []) 10 Tryz.func140 rfl rfl rfl (St.start w No) ?_; refine yA ?_; refine aB rfl ?_; refine yC ?_; refine zf fa76_2 rfl ?_; refine zl z9 rfl (fun _ h => cel_oldb hq3 (.head _) id rfl h) ?_; refine zC (fun w => zR Tryz.func96 rfl rfl rfl) rfl rfl (fun w h => Name_spec _ (by omega) w (hW.now (.head _) h)) ?_; refine mB rfl ?_; refine zp (t := 6) rfl (fun h1 => ?_) (fun h1 => ?_)
  · (try (have qh1 := h1; norm_cast at qh1))
    refine zw rfl rfl (bV h1) ?_; refine zl z3 rfl (fun _ h => cel_oldb hq2 (.head _) id rfl h) ?_; refine zw rfl rfl (bV h1) ?_; refine w_r (fun _ => R_eq rfl rfl) rfl rfl ?_; refine w_r (v := .bool _) (fun _ => zT (bV h1) rfl) rfl rfl ?_; refine aB rfl ?_; refine yB ?_; refine ze ?_; refine zo (v := .bool _) rfl rfl rfl ?_; exact fun w' hw => ⟨by simp_all <;> omega, hw.fr _ (.head _)⟩
  · (try (have qh1 := h1; norm_cast at qh1))
    refine zs rfl rfl (bV h1) ?_; refine zs rfl rfl (bV h1) ?_; refine w_r (v := .bool _) (fun _ => zF (bV h1) rfl) rfl rfl ?_; refine aB rfl ?_; refine yB ?_; refine ze ?_; refine zo (v := .bool _) rfl rfl rfl ?_; exact fun w' hw => ⟨by simp_all <;> omega, hw.fr _ (.head _)⟩

set_option maxRecDepth 100000 in
set_option maxHeartbeats 400000 in
theorem stmt5_spec (w : World) (hW : Wd w) (ks : List Ex) (ka : Option Addr) (kc : Nat) (N : Nat → Prop) (hkw : exsW ks < 10000000) (hks : exsM w N ks ka 0) (p1 : Nat) (bare : Bool) (hq1 : w.heap[p1]? = some (cel [.bool bare] 4)) (p2 : Nat) (n : Nat) (hq2 : w.heap[p2]? = some (cel [.int .i64 (n : Nat)] 3)) (p3 : Nat) (op : Nat) (at_ : Int) (nm : Str) (v5 v6 : Value) (hq3 : w.heap[p3]? = some (cel [.int .u8 (op : Nat), .int .i64 at_, str nm, .slice ka ks.length kc, v5, v6] 76)) (hs : nm.length ≤ 10000000) (hnk : n = ks.length) :
    Ret Tryz.prog 141 #[.pointer (some ⟨p1, 0, none⟩), .pointer (some ⟨p2, 0, none⟩), .pointer (some ⟨p3, 0, none⟩)] w (fun v w' => v = .bool (bare && (decide (n = 1) && headOk ks)) ∧ Ext w w') := by
  refine enter (S := No) (l := [_, _, _]) (L := []) 16 Tryz.func141 rfl rfl rfl (St.start w No) ?_; refine yA ?_; refine aB rfl ?_; refine yC ?_; refine zl z4 rfl (fun _ h => cel_oldb hq1 (.head _) id rfl h) ?_; refine mB rfl ?_; refine zp (t := 5) rfl (fun h1 => ?_) (fun h1 => ?_)
  · (try (have qh1 := h1; norm_cast at qh1))
    refine zw rfl rfl (bV h1) ?_; refine zl z3 rfl (fun _ h => cel_oldb hq2 (.head _) id rfl h) ?_; refine zw rfl rfl (bV h1) ?_; refine w_r (fun _ => R_eq rfl rfl) rfl rfl ?_; refine w_r (v := .bool _) (fun _ => zT (bV h1) rfl) rfl rfl ?_; refine mB rfl ?_; refine zd (t := 9) rfl (fun h2 => ?_) (fun h2 => ?_)
    · (try (have qh2 := h2; norm_cast at qh2))
      obtain ⟨y2, hky2⟩ : ∃ x, ks[0]? = some x := ⟨_, List.getElem?_eq_getElem (by omega)⟩; have hyw2 := exsW_mem (List.mem_of_getElem? hky2); obtain ⟨cs2, hA, hE⟩ := hks.get0 hky2; obtain ⟨b1, o1, rfl⟩ := hA.ptr; obtain ⟨op2, at2, nm2, ks2⟩ := y2; have hE2 := hE; unfold exM at hE2; obtain ⟨ka2, kc2, rfl, hkc2, hks2⟩ := hE2
      refine zw rfl rfl (bT h2) ?_; refine zf fa76_3 rfl ?_; refine zw rfl rfl (bT h2) ?_; refine zl z37 rfl (fun _ h => cel_oldb hq3 (.head _) id rfl h) ?_; refine zw rfl rfl (bT h2) ?_; refine w_r (fun _ => R_iaN (i := 0) sl37 rfl rfl (by first | omega | decide)) rfl rfl ?_; refine zw rfl rfl (bT h2) ?_; refine w_loadC (l := [.int .u8 (op2 : Nat), .int .i64 at2, str nm2, .slice ka2 ks2.length kc2]) z39 rfl rfl (fun w h j v hj => hA.cell (fun _ _ hh => hh) (.head _) h j v hj) ?_; refine zw rfl rfl (bT h2) ?_; refine zC (fun w => zR Tryz.func142 rfl rfl rfl) rfl rfl (fun w h => compare_spec _ _ N w (by omega) (hE.now (fun _ _ hh => hh) (.head _) h) (hW.now (.head _) h)) ?_; refine w_r (v := .bool _) (fun _ => zT (bT h2) rfl) rfl rfl ?_; refine aB rfl ?_; refine yB ?_; refine ze ?_
      refine zo (v := .bool _) rfl rfl rfl ?_; exact fun w' hw => ⟨by cases ks with | nil => simp_all [headOk] | cons z l => simp_all [headOk], hw.fr _ (.head _)⟩
    · (try (have qh2 := h2; norm_cast at qh2))
      refine zs rfl rfl (bF h2) ?_; refine zs rfl rfl (bF h2) ?_; refine zs rfl rfl (bF h2) ?_; refine zs rfl rfl (bF h2) ?_; refine zs rfl rfl (bF h2) ?_; refine w_r (v := .bool _) (fun _ => zF (bF h2) rfl) rfl rfl ?_; refine aB rfl ?_; refine yB ?_; refine ze ?_; refine zo (v := .bool _) rfl rfl rfl ?_; exact fun w' hw => ⟨by cases ks with | nil => simp_all [headOk] | cons z l => simp_all [headOk], hw.fr _ (.head _)⟩
  · (try (have qh1 := h1; norm_cast at qh1))
    refine zs rfl rfl (bV h1) ?_; refine zs rfl rfl (bV h1) ?_; refine w_r (v := .bool _) (fun _ => zF (bV h1) rfl) rfl rfl ?_; refine mB rfl ?_; refine zs rfl rfl rfl ?_; refine zs rfl rfl rfl ?_; refine zs rfl rfl rfl ?_; refine zs rfl rfl rfl ?_; refine zs rfl rfl rfl ?_; refine w_r (v := .bool _) (fun _ => zF rfl rfl) rfl rfl ?_; refine aB rfl ?_; refine yB ?_; refine ze ?_; refine zo (v := .bool _) rfl rfl rfl ?_; exact fun w' hw => ⟨by cases ks with | nil => simp_all [headOk] | cons z l => simp_all [headOk], hw.fr _ (.head _)⟩

set_option maxRecDepth 100000 in
set_option maxHeartbeats 400000 in
theorem stmt6_spec (w : World) (hW : Wd w) (p1 : Nat) (bare : Bool) (hq1 : w.heap[p1]? = some (cel [.bool bare] 4)) (p2 : Nat) (n : Nat) (hq2 : w.heap[p2]? = some (cel [.int .i64 (n : Nat)] 3)) :
    Ret Tryz.prog 143 #[.pointer (some ⟨p1, 0, none⟩), .pointer (some ⟨p2, 0, none⟩)] w (fun v w' => v = .bool (bare && decide (n = 0)) ∧ Ext w w') := by
  refine enter (S := No) (l := [_, _]) (L := []) 8 Tryz.func143 rfl rfl rfl (St.start w No) ?_; refine yA ?_; refine aB rfl ?_; refine yC ?_; refine zl z4 rfl (fun _ h => cel_oldb hq1 (.head _) id rfl h) ?_; refine mB rfl ?_; refine zp (t := 4) rfl (fun h1 => ?_) (fun h1 => ?_)
  · (try (have qh1 := h1; norm_cast at qh1))
    refine zw rfl rfl (bV h1) ?_; refine zl z3 rfl (fun _ h => cel_oldb hq2 (.head _) id rfl h) ?_; refine zw rfl rfl (bV h1) ?_; refine w_r (fun _ => R_eq rfl rfl) rfl rfl ?_; refine w_r (v := .bool _) (fun _ => zT (bV h1) rfl) rfl rfl ?_; refine aB rfl ?_; refine yB ?_; refine ze ?_; refine zo (v := .bool _) rfl rfl rfl ?_; exact fun w' hw => ⟨by simp_all <;> omega, hw.fr _ (.head _)⟩
  · (try (have qh1 := h1; norm_cast at qh1))
    refine zs rfl rfl (bV h1) ?_; refine zs rfl rfl (bV h1) ?_; refine w_r (v := .bool _) (fun _ => zF (bV h1) rfl) rfl rfl ?_; refine aB rfl ?_; refine yB ?_; refine ze ?_; refine zo (v := .bool _) rfl rfl rfl ?_; exact fun w' hw => ⟨by simp_all <;> omega, hw.fr _ (.head _)⟩


def StmtH (n : Nat) : Prop := ∀ (x : Sm) (cs : List Value) (N : Nat → Prop) (w : World), smW x < n → smM w N x cs → Wd w → Ret Tryz.prog 118 #[.agg cs.toArray] w fun v w' => v = .bool (smOk x) ∧ Ext w w'

set_option maxRecDepth 100000 in
set_option maxHeartbeats 400000 in
theorem stmtsC_spec (n : Nat) (ih : StmtH n) (hn : n ≤ 10000000) (x : Sm) (cs : List Value) (N : Nat → Prop) (w : World) (hx : smW x < n) (hm : smM w N x cs) (hW : Wd w) :
    Ret Tryz.prog 117 #[.agg cs.toArray] w (fun v w' => v = .bool (!smOk x) ∧ Ext w w') := by
  obtain ⟨op, at_, nm, ks, bo, el⟩ := x
  have hm2 := hm
  unfold smM at hm2
  obtain ⟨ka, kc, ba, bc, ea, ec, rfl, hkc, hks, hbo, hel⟩ := hm2
  have hx2 := hx
  unfold smW at hx2
  refine enter (S := No) (l := [_]) (L := []) 6 Tryz.func117 rfl rfl rfl (St.start w No) ?_; refine yA ?_; refine w_boxA rfl (fun b1 gb1 ub1 => ?_)
  refine aB rfl ?_; refine yC ?_; refine w_loadA z76 rfl (fun _ h => h.at_ 0 rfl) rfl ?_; refine zC (fun w => zR Tryz.func118 rfl rfl rfl) rfl rfl (fun w h => ih _ _ N w hx (hm.now (fun _ _ hh => hh) (.head _) h) (hW.now (.head _) h)) ?_; refine w_r (fun _ => R_not rfl) rfl rfl ?_; refine aB rfl ?_; refine yB ?_; refine ze ?_; refine zo (v := .bool _) rfl rfl rfl ?_; exact fun w' hw => ⟨rfl, hw.fr _ (.head _)⟩

set_option maxRecDepth 100000 in
set_option maxHeartbeats 400000 in
theorem idxS_spec (n : Nat) (ih : StmtH n) (hn : n ≤ 10000000) (l : List Sm) (a : Option Addr) (c : Nat) (N : Nat → Prop) (w : World) (hl : ∀ x ∈ l, smW x < n) (hll : l.length ≤ 10000000) (hm : smsM w N l a 0) (hW : Wd w) :
    Ret Tryz.prog 136 #[.slice a l.length c, .func (.func 117) #[] #[]] w (fun v w' => v = .int .i64 (firstI (fun x => !smOk x) l) ∧ Ext w w') := by
  refine enter (S := No) (l := [_, _]) (L := []) 19 Tryz.func136 rfl rfl rfl (St.start w No) ?_; refine yA ?_; refine aI rfl ?_; refine yB ?_; refine zq ?_; refine yA ?_; refine mS rfl ?_; refine w_r (fun _ => R_len sl24 rfl) rfl rfl ?_; refine mI rfl ?_; refine yB ?_; refine zB ?_; refine c_loop (fun m e B L => ∃ (k : Nat), e 0 = .slice a l.length c ∧ e 1 = .func (.func 117) #[] #[] ∧ e 7 = .int .i64 (l.length : Nat) ∧ e 8 = .int .i64 (k : Nat) ∧ B = [(w, No)] ∧ L = [] ∧ k ≤ l.length ∧ (∀ y ∈ l.take k, (!smOk y) = false) ∧ m = l.length - k) _ ⟨0, rfl, rfl, rfl, rfl, rfl, rfl, Nat.zero_le _, (by simp), rfl⟩ ?_
  rintro m e B L ⟨k, e0_1, e1_1, e7_1, e8_1, rfl, rfl, hk, hy, rfl⟩
  refine yA ?_; refine w_r (fun _ => R_lt e8_1 e7_1) rfl rfl ?_; refine yB ?_; refine zq ?_; refine zD rfl (fun h1 => ?_) (fun h1 => ?_)
  · have hlt : k < l.length := (by omega); obtain ⟨x, hxk⟩ : ∃ x, l[k]? = some x := ⟨_, List.getElem?_eq_getElem hlt⟩; obtain ⟨cs, hA, hE⟩ := hm.get0 hxk; have hxn := hl x (List.mem_of_getElem? hxk); obtain ⟨b1, o1, rfl⟩ := hA.ptr; obtain ⟨op, at_, nm, ks, bo, el⟩ := x; have hE2 := hE; unfold smM at hE2; obtain ⟨ka, kc, ba, bc, ea, ec, rfl, hkc, hks, hbo, hel⟩ := hE2
    refine zi ?_; refine zk ?_; refine zq ?_; refine zB ?_; refine yA ?_; refine mI e8_1 ?_; refine aI rfl ?_; refine yC ?_; refine zm e1_1 ?_; refine mS e0_1 ?_; refine mI rfl ?_; refine w_r (fun _ => R_iaN (i := k) sl24 rfl rfl (by first | omega | decide)) rfl rfl ?_; refine w_loadC (l := [.int .u8 (op : Nat), .int .i64 at_, str nm, .slice ka ks.length kc, .slice ba bo.length bc, .slice ea el.length ec]) z76 rfl rfl (fun w h j v hj => hA.cell (fun _ _ hh => hh) (.head _) h j v hj) ?_; refine zC (fun w => R_callv rfl Tryz.func117 rfl rfl) rfl rfl (fun w h => stmtsC_spec n ih hn _ _ N w hxn (hE.now (fun _ _ hh => hh) (.head _) h) (hW.now (.head _) h)) ?_; refine yB ?_
    refine c_cond rfl (fun h2 => ?_) (fun h2 => ?_)
    · refine yA ?_; refine mI rfl ?_; refine aI rfl ?_; refine yB ?_; refine ze ?_; refine zb (zt (zt (zb (zt (?_)))))
      refine zo (v := .int _ _) rfl rfl rfl ?_; exact fun w' hw => ⟨by rw [firstI_at hy hxk h2], hw.fr _ (.head _)⟩
    · refine zi ?_; refine b_on (zk ?_); refine zr ?_; refine w_r (fun _ => R_addi e8_1 rfl (by omega)) rfl rfl ?_; refine mI rfl ?_; refine zn ?_; exact k_again _ (by omega) ⟨k + 1, e0_1, e1_1, e7_1, rfl, rfl, rfl, by omega, take_all hy hxk h2, rfl⟩
  · refine c_exit ?_; refine zx (zx (b_here rfl (zk ?_))); refine yA ?_; refine aI rfl ?_; refine yB ?_; refine ze ?_
    obtain rfl : k = l.length := by omega
    rw [List.take_length] at hy
    refine zo (v := .int _ _) rfl rfl rfl ?_; exact fun w' hw => ⟨by rw [firstI_no hy], hw.fr _ (.head _)⟩

set_option maxRecDepth 100000 in
set_option maxHeartbeats 400000 in
theorem hasS_spec (n : Nat) (ih : StmtH n) (hn : n ≤ 10000000) (l : List Sm) (a : Option Addr) (c : Nat) (N : Nat → Prop) (w : World) (hl : ∀ x ∈ l, smW x < n) (hll : l.length ≤ 10000000) (hm : smsM w N l a 0) (hW : Wd w) :
    Ret Tryz.prog 116 #[.slice a l.length c, .func (.func 117) #[] #[]] w (fun v w' => v = .bool (l.any fun x => !smOk x) ∧ Ext w w') := by
  refine enter (S := No) (l := [_, _]) (L := []) 9 Tryz.func116 rfl rfl rfl (St.start w No) ?_; refine yA ?_; refine aB rfl ?_; refine yC ?_; refine mS rfl ?_; refine zm rfl ?_; refine zC (fun w => zR Tryz.func136 rfl rfl rfl) rfl rfl (fun w h => idxS_spec n ih hn l a c N w hl hll (hm.now (fun _ _ hh => hh) (.head _) h) (hW.now (.head _) h)) ?_; refine w_r (fun _ => R_ge rfl rfl) rfl rfl ?_; refine aB rfl ?_; refine yB ?_; refine ze ?_; refine zo (v := .bool _) rfl rfl rfl ?_; exact fun w' hw => ⟨by rw [← firstI_ge], hw.fr _ (.head _)⟩

set_option maxRecDepth 100000 in
set_option maxHeartbeats 400000 in
theorem stmts_spec (n : Nat) (ih : StmtH n) (hn : n ≤ 10000000) (l : List Sm) (a : Option Addr) (c : Nat) (N : Nat → Prop) (w : World) (hl : ∀ x ∈ l, smW x < n) (hll : l.length ≤ 10000000) (hm : smsM w N l a 0) (hW : Wd w) :
    Ret Tryz.prog 75 #[.slice a l.length c] w (fun v w' => v = .bool (smsOk l) ∧ Ext w w') := by
  refine enter (S := No) (l := [_]) (L := []) 6 Tryz.func75 rfl rfl rfl (St.start w No) ?_; refine yA ?_; refine aB rfl ?_; refine yC ?_; refine mS rfl ?_; refine zC (fun w => zR Tryz.func116 rfl rfl rfl) rfl rfl (fun w h => hasS_spec n ih hn l a c N w hl hll (hm.now (fun _ _ hh => hh) (.head _) h) (hW.now (.head _) h)) ?_; refine w_r (fun _ => R_not rfl) rfl rfl ?_; refine aB rfl ?_; refine yB ?_; refine ze ?_; refine zo (v := .bool _) rfl rfl rfl ?_; exact fun w' hw => ⟨by rw [any_not, smsOk_all], hw.fr _ (.head _)⟩

set_option maxRecDepth 100000 in
set_option maxHeartbeats 8000000 in
theorem stmt_step (n : Nat) (ih : StmtH n) (hn : n ≤ 10000000) (x : Sm) (cs : List Value) (N : Nat → Prop) (w : World) (hx : smW x < n + 1) (hm : smM w N x cs) (hW : Wd w) :
    Ret Tryz.prog 118 #[.agg cs.toArray] w (fun v w' => v = .bool (smOk x) ∧ Ext w w') := by
  obtain ⟨op, at_, nm, ks, bo, el⟩ := x
  have hm2 := hm
  unfold smM at hm2
  obtain ⟨ka, kc, ba, bc, ea, ec, rfl, hkc, hks, hbo, hel⟩ := hm2
  have hx2 := hx
  unfold smW at hx2
  have hbl : ∀ x ∈ bo, smW x < n := fun x hx => by have := smsW_mem hx; omega
  have hll2 : ∀ x ∈ el, smW x < n := fun x hx => by have := smsW_mem hx; omega
  refine enter (S := No) (l := [_]) (L := []) 71 Tryz.func118 rfl rfl rfl (St.start w No) ?_; refine yA ?_; refine w_boxA rfl (fun t1b gt1b ut1b => ?_)
  refine aB rfl ?_; refine yC ?_; refine zf fa76_3 rfl ?_; refine zl z37 rfl (fun _ h => zc 0 rfl rfl h) ?_; refine w_r (fun _ => R_len sl37 rfl) rfl rfl ?_; refine w_alloc zr3 (fun t3b gt3b ut3b => ?_)
  refine w_store 0 rfl z3 rfl rfl rfl rfl rfl rfl rfl ?_; refine yC ?_; refine zf fa76_2 rfl ?_; refine zl z9 rfl (fun _ h => zc 1 rfl rfl h) ?_; refine w_r (fun _ => R_seq rfl rfl) rfl rfl ?_; refine w_alloc zr4 (fun t4b gt4b ut4b => ?_)
  refine w_store 0 rfl z4 rfl rfl rfl rfl rfl rfl rfl ?_; refine yC ?_; refine w_makeMap (k := .u8) (fun mb gmb umb => ?_)
  refine w_r (fun _ => R_makeFunc) rfl rfl ?_; refine w_insI 0 rfl unm132 unk5 rfl rfl rfl rfl ?_; refine w_r (fun _ => R_makeFunc) rfl rfl ?_; refine w_insI 0 rfl unm132 unk5 rfl rfl rfl rfl ?_; refine w_r (fun _ => R_makeFunc) rfl rfl ?_; refine w_insI 0 rfl unm132 unk5 rfl rfl rfl rfl ?_; refine w_r (fun _ => R_makeFunc) rfl rfl ?_; refine w_insI 0 rfl unm132 unk5 rfl rfl rfl rfl ?_; refine w_r (fun _ => R_makeFunc) rfl rfl ?_; refine w_insI 0 rfl unm132 unk5 rfl rfl rfl rfl ?_; refine w_r (fun _ => R_makeFunc) rfl rfl ?_; refine w_insI 0 rfl unm132 unk5 rfl rfl rfl rfl ?_; refine zm rfl ?_; refine za rfl ?_; refine yC ?_; refine zm rfl ?_; refine zf fa76_0 rfl ?_
  rcases op_cases6 op with rfl | rfl | rfl | rfl | rfl | rfl | hop
  · (try (have qcase0 := case0; norm_cast at qcase0))
    refine zl z5 rfl (fun _ h => zc 3 rfl rfl h) ?_; refine w_lookI 0 (v := .func (.func 137) _ _) rfl unm132 unk5 zr22 rfl rfl rfl ?_; refine za rfl ?_; refine yB ?_; refine zq ?_; refine yA ?_; refine zm rfl ?_; refine w_r (fun _ => R_feq unf22 rfl rfl) rfl rfl ?_; refine mB rfl ?_; refine zw rfl rfl rfl ?_; refine zm rfl ?_; refine zw rfl rfl rfl ?_; refine zC (fun w => R_callv rfl Tryz.func137 rfl rfl) rfl rfl (fun w h => stmt1_spec w (hW.now (.head _) h) t1b _ _ _ _ _ _ (h.at_ 3 rfl) (by omega) t3b _ (h.at_ 2 rfl)) ?_; refine zw rfl rfl rfl ?_; refine w_r (fun _ => R_not rfl) rfl rfl ?_; refine w_r (v := .bool _) (fun _ => zF rfl rfl) rfl rfl ?_; refine mB rfl ?_; refine zp (t := 32) rfl (fun h4 => ?_) (fun h4 => ?_)
    · (try (have qh4 := h4; norm_cast at qh4))
      refine zs rfl rfl (bV h4) ?_; refine zs rfl rfl (bV h4) ?_; refine zs rfl rfl (bV h4) ?_; refine zs rfl rfl (bV h4) ?_; refine zU rfl rfl rfl ?_; refine zU rfl rfl rfl ?_; refine zU rfl rfl rfl ?_; refine zU rfl rfl rfl ?_; refine zs rfl rfl (bV h4) ?_; refine w_r (v := .bool _) (fun _ => zT (bV h4) rfl) rfl rfl ?_; refine yB ?_; refine zE rfl ?_; refine yA ?_; refine aB rfl ?_; refine yB ?_; refine ze ?_; refine zt (?_)
      refine zo (v := .bool _) rfl rfl rfl ?_; exact fun w' hw => ⟨by first | (simp_all [smOk, sruleOk]; done) | (unfold smOk; rw [srule_miss hop]; rfl) | (clear hw; clear hm hx gmb umb; simp only [smOk, sruleOk]; grind), hw.fr _ (.head _)⟩
    · (try (have qh4 := h4; norm_cast at qh4))
      refine zw rfl rfl (bV h4) ?_; refine zf fa76_0 rfl ?_; refine zw rfl rfl (bV h4) ?_; refine zl z5 rfl (fun _ h => zc 3 rfl rfl h) ?_; refine zw rfl rfl (bV h4) ?_; refine w_r (fun _ => R_ne rfl rfl) rfl rfl ?_; refine zw rfl rfl (bV h4) ?_; refine mB rfl ?_; refine zw rfl rfl (congrArg Value.bool (decide_eq_true (by decide))) ?_; refine zf fa76_3 rfl ?_; refine zw rfl rfl (congrArg Value.bool (decide_eq_true (by decide))) ?_; refine zl z37 rfl (fun _ h => zc 3 rfl rfl h) ?_; refine zw rfl rfl (congrArg Value.bool (decide_eq_true (by decide))) ?_; refine zC (fun w => zR Tryz.func100 rfl rfl rfl) rfl rfl (fun w h => exprs_ok ks ka kc N w (by omega) (by omega) (hks.now (fun _ _ hh => hh) (.head _) h) (hW.now (.head _) h)) ?_
      refine zw rfl rfl (congrArg Value.bool (decide_eq_true (by decide))) ?_; refine w_r (fun _ => R_not rfl) rfl rfl ?_; refine zw rfl rfl (bV h4) ?_; refine w_r (v := .bool _) (fun _ => zT (congrArg Value.bool (decide_eq_true (by decide))) rfl) rfl rfl ?_; refine w_r (v := .bool _) (fun _ => zF (bV h4) rfl) rfl rfl ?_; refine yB ?_; refine c_condN rfl (fun h5 => ?_) (fun h5 => ?_)
      · (try (have qh5 := h5; norm_cast at qh5))
        refine yA ?_; refine aB rfl ?_; refine yB ?_; refine ze ?_; refine zt (?_)
        refine zo (v := .bool _) rfl rfl rfl ?_; exact fun w' hw => ⟨by first | (simp_all [smOk, sruleOk]; done) | (unfold smOk; rw [srule_miss hop]; rfl) | (clear hw; clear hm hx gmb umb; simp only [smOk, sruleOk]; grind), hw.fr _ (.head _)⟩
      · (try (have qh5 := h5; norm_cast at qh5))
        refine zi ?_; refine zk ?_; refine zq ?_; refine yA ?_; refine zf fa76_0 rfl ?_; refine zl z5 rfl (fun _ h => zc 3 rfl rfl h) ?_; refine w_r (fun _ => R_lt rfl rfl) rfl rfl ?_; refine mB rfl ?_; refine zw rfl rfl (congrArg Value.bool (decide_eq_true (by decide))) ?_; refine zf fa76_4 rfl ?_; refine zw rfl rfl (congrArg Value.bool (decide_eq_true (by decide))) ?_; refine zl z24 rfl (fun _ h => zc 3 rfl rfl h) ?_; refine zw rfl rfl (congrArg Value.bool (decide_eq_true (by decide))) ?_; refine w_r (fun _ => R_len sl24 rfl) rfl rfl ?_; refine zw rfl rfl (congrArg Value.bool (decide_eq_true (by decide))) ?_; refine w_r (fun _ => R_gt rfl rfl) rfl rfl ?_; refine w_r (v := .bool _) (fun _ => zT (congrArg Value.bool (decide_eq_true (by decide))) rfl) rfl rfl ?_
        refine mB rfl ?_; refine zd (t := 52) rfl (fun h6 => ?_) (fun h6 => ?_)
        · (try (have qh6 := h6; norm_cast at qh6))
          refine zs rfl rfl (bT h6) ?_; refine zs rfl rfl (bT h6) ?_; refine zs rfl rfl (bT h6) ?_; refine zs rfl rfl (bT h6) ?_; refine zU rfl rfl rfl ?_; refine zU rfl rfl rfl ?_; refine zU rfl rfl rfl ?_; refine zU rfl rfl rfl ?_; refine zs rfl rfl (bT h6) ?_; refine w_r (v := .bool _) (fun _ => zT (bT h6) rfl) rfl rfl ?_; refine yB ?_; refine zE rfl ?_; refine yA ?_; refine aB rfl ?_; refine yB ?_; refine ze ?_; refine zt (?_)
          refine zo (v := .bool _) rfl rfl rfl ?_; exact fun w' hw => ⟨by first | (simp_all [smOk, sruleOk]; done) | (unfold smOk; rw [srule_miss hop]; rfl) | (clear hw; clear hm hx gmb umb; simp only [smOk, sruleOk]; grind), hw.fr _ (.head _)⟩
        · (try (have qh6 := h6; norm_cast at qh6))
          refine zw rfl rfl (bF h6) ?_; refine zf fa76_0 rfl ?_; refine zw rfl rfl (bF h6) ?_; refine zl z5 rfl (fun _ h => zc 3 rfl rfl h) ?_; refine zw rfl rfl (bF h6) ?_; refine w_r (fun _ => R_ne rfl rfl) rfl rfl ?_; refine zw rfl rfl (bF h6) ?_; refine mB rfl ?_; refine zw rfl rfl (congrArg Value.bool (decide_eq_true (by decide))) ?_; refine zf fa76_5 rfl ?_; refine zw rfl rfl (congrArg Value.bool (decide_eq_true (by decide))) ?_; refine zl z24 rfl (fun _ h => zc 3 rfl rfl h) ?_; refine zw rfl rfl (congrArg Value.bool (decide_eq_true (by decide))) ?_; refine w_r (fun _ => R_len sl24 rfl) rfl rfl ?_; refine zw rfl rfl (congrArg Value.bool (decide_eq_true (by decide))) ?_
          refine w_r (fun _ => R_gt rfl rfl) rfl rfl ?_; refine zw rfl rfl (bF h6) ?_; refine w_r (v := .bool _) (fun _ => zT (congrArg Value.bool (decide_eq_true (by decide))) rfl) rfl rfl ?_; refine w_r (v := .bool _) (fun _ => zF (bF h6) rfl) rfl rfl ?_; refine yB ?_; refine zD rfl (fun h7 => ?_) (fun h7 => ?_)
          · (try (have qh7 := h7; norm_cast at qh7))
            refine yA ?_; refine aB rfl ?_; refine yB ?_; refine ze ?_; refine zt (?_)
            refine zo (v := .bool _) rfl rfl rfl ?_; exact fun w' hw => ⟨by first | (simp_all [smOk, sruleOk]; done) | (unfold smOk; rw [srule_miss hop]; rfl) | (clear hw; clear hm hx gmb umb; simp only [smOk, sruleOk]; grind), hw.fr _ (.head _)⟩
          · (try (have qh7 := h7; norm_cast at qh7))
            refine zi ?_; refine zk ?_; refine yA ?_; refine zf fa76_4 rfl ?_; refine zl z24 rfl (fun _ h => zc 3 rfl rfl h) ?_; refine zC (fun w => zR Tryz.func75 rfl rfl rfl) rfl rfl (fun w h => stmts_spec n ih hn bo ba bc N w hbl (by omega) (hbo.now (fun _ _ hh => hh) (.head _) h) (hW.now (.head _) h)) ?_; refine mB rfl ?_; refine zp (t := 66) rfl (fun h8 => ?_) (fun h8 => ?_)
            · (try (have qh8 := h8; norm_cast at qh8))
              refine zw rfl rfl (bV h8) ?_; refine zf fa76_5 rfl ?_; refine zw rfl rfl (bV h8) ?_; refine zl z24 rfl (fun _ h => zc 3 rfl rfl h) ?_; refine zw rfl rfl (bV h8) ?_; refine zC (fun w => zR Tryz.func75 rfl rfl rfl) rfl rfl (fun w h => stmts_spec n ih hn el ea ec N w hll2 (by omega) (hel.now (fun _ _ hh => hh) (.head _) h) (hW.now (.head _) h)) ?_; refine w_r (v := .bool _) (fun _ => zT (bV h8) rfl) rfl rfl ?_; refine aB rfl ?_; refine yB ?_; refine ze ?_; refine zo (v := .bool _) rfl rfl rfl ?_; exact fun w' hw => ⟨by first | (simp_all [smOk, sruleOk]; done) | (unfold smOk; rw [srule_miss hop]; rfl) | (clear hw; clear hm hx gmb umb; simp only [smOk, sruleOk]; grind), hw.fr _ (.head _)⟩
            · (try (have qh8 := h8; norm_cast at qh8))
              refine zs rfl rfl (bV h8) ?_; refine zs rfl rfl (bV h8) ?_; refine zs rfl rfl (bV h8) ?_; refine w_r (v := .bool _) (fun _ => zF (bV h8) rfl) rfl rfl ?_; refine aB rfl ?_; refine yB ?_; refine ze ?_; refine zo (v := .bool _) rfl rfl rfl ?_; exact fun w' hw => ⟨by first | (simp_all [smOk, sruleOk]; done) | (unfold smOk; rw [srule_miss hop]; rfl) | (clear hw; clear hm hx gmb umb; simp only [smOk, sruleOk]; grind), hw.fr _ (.head _)⟩
  · (try (have qcase1 := case1; norm_cast at qcase1))
    refine zl z5 rfl (fun _ h => zc 3 rfl rfl h) ?_; refine w_lookI 0 (v := .func (.func 138) _ _) rfl unm132 unk5 zr22 rfl rfl rfl ?_; refine za rfl ?_; refine yB ?_; refine zq ?_; refine yA ?_; refine zm rfl ?_; refine w_r (fun _ => R_feq unf22 rfl rfl) rfl rfl ?_; refine mB rfl ?_; refine zw rfl rfl rfl ?_; refine zm rfl ?_; refine zw rfl rfl rfl ?_; refine zC (fun w => R_callv rfl Tryz.func138 rfl rfl) rfl rfl (fun w h => stmt2_spec w (hW.now (.head _) h) t4b _ (h.at_ 1 rfl) t3b _ (h.at_ 2 rfl)) ?_; refine zw rfl rfl rfl ?_; refine w_r (fun _ => R_not rfl) rfl rfl ?_; refine w_r (v := .bool _) (fun _ => zF rfl rfl) rfl rfl ?_; refine mB rfl ?_; refine zp (t := 32) rfl (fun h9 => ?_) (fun h9 => ?_)
    · (try (have qh9 := h9; norm_cast at qh9))
      refine zs rfl rfl (bV h9) ?_; refine zs rfl rfl (bV h9) ?_; refine zs rfl rfl (bV h9) ?_; refine zs rfl rfl (bV h9) ?_; refine zU rfl rfl rfl ?_; refine zU rfl rfl rfl ?_; refine zU rfl rfl rfl ?_; refine zU rfl rfl rfl ?_; refine zs rfl rfl (bV h9) ?_; refine w_r (v := .bool _) (fun _ => zT (bV h9) rfl) rfl rfl ?_; refine yB ?_; refine zE rfl ?_; refine yA ?_; refine aB rfl ?_; refine yB ?_; refine ze ?_; refine zt (?_)
      refine zo (v := .bool _) rfl rfl rfl ?_; exact fun w' hw => ⟨by first | (simp_all [smOk, sruleOk]; done) | (unfold smOk; rw [srule_miss hop]; rfl) | (clear hw; clear hm hx gmb umb; simp only [smOk, sruleOk]; grind), hw.fr _ (.head _)⟩
    · (try (have qh9 := h9; norm_cast at qh9))
      refine zw rfl rfl (bV h9) ?_; refine zf fa76_0 rfl ?_; refine zw rfl rfl (bV h9) ?_; refine zl z5 rfl (fun _ h => zc 3 rfl rfl h) ?_; refine zw rfl rfl (bV h9) ?_; refine w_r (fun _ => R_ne rfl rfl) rfl rfl ?_; refine zw rfl rfl (bV h9) ?_; refine mB rfl ?_; refine zw rfl rfl (congrArg Value.bool (decide_eq_true (by decide))) ?_; refine zf fa76_3 rfl ?_; refine zw rfl rfl (congrArg Value.bool (decide_eq_true (by decide))) ?_; refine zl z37 rfl (fun _ h => zc 3 rfl rfl h) ?_; refine zw rfl rfl (congrArg Value.bool (decide_eq_true (by decide))) ?_; refine zC (fun w => zR Tryz.func100 rfl rfl rfl) rfl rfl (fun w h => exprs_ok ks ka kc N w (by omega) (by omega) (hks.now (fun _ _ hh => hh) (.head _) h) (hW.now (.head _) h)) ?_
      refine zw rfl rfl (congrArg Value.bool (decide_eq_true (by decide))) ?_; refine w_r (fun _ => R_not rfl) rfl rfl ?_; refine zw rfl rfl (bV h9) ?_; refine w_r (v := .bool _) (fun _ => zT (congrArg Value.bool (decide_eq_true (by decide))) rfl) rfl rfl ?_; refine w_r (v := .bool _) (fun _ => zF (bV h9) rfl) rfl rfl ?_; refine yB ?_; refine c_condN rfl (fun h10 => ?_) (fun h10 => ?_)
      · (try (have qh10 := h10; norm_cast at qh10))
        refine yA ?_; refine aB rfl ?_; refine yB ?_; refine ze ?_; refine zt (?_)
        refine zo (v := .bool _) rfl rfl rfl ?_; exact fun w' hw => ⟨by first | (simp_all [smOk, sruleOk]; done) | (unfold smOk; rw [srule_miss hop]; rfl) | (clear hw; clear hm hx gmb umb; simp only [smOk, sruleOk]; grind), hw.fr _ (.head _)⟩
      · (try (have qh10 := h10; norm_cast at qh10))
        refine zi ?_; refine zk ?_; refine zq ?_; refine yA ?_; refine zf fa76_0 rfl ?_; refine zl z5 rfl (fun _ h => zc 3 rfl rfl h) ?_; refine w_r (fun _ => R_lt rfl rfl) rfl rfl ?_; refine mB rfl ?_; refine zw rfl rfl (congrArg Value.bool (decide_eq_true (by decide))) ?_; refine zf fa76_4 rfl ?_; refine zw rfl rfl (congrArg Value.bool (decide_eq_true (by decide))) ?_; refine zl z24 rfl (fun _ h => zc 3 rfl rfl h) ?_; refine zw rfl rfl (congrArg Value.bool (decide_eq_true (by decide))) ?_; refine w_r (fun _ => R_len sl24 rfl) rfl rfl ?_; refine zw rfl rfl (congrArg Value.bool (decide_eq_true (by decide))) ?_; refine w_r (fun _ => R_gt rfl rfl) rfl rfl ?_; refine w_r (v := .bool _) (fun _ => zT (congrArg Value.bool (decide_eq_true (by decide))) rfl) rfl rfl ?_
        refine mB rfl ?_; refine zd (t := 52) rfl (fun h11 => ?_) (fun h11 => ?_)
        · (try (have qh11 := h11; norm_cast at qh11))
          refine zs rfl rfl (bT h11) ?_; refine zs rfl rfl (bT h11) ?_; refine zs rfl rfl (bT h11) ?_; refine zs rfl rfl (bT h11) ?_; refine zU rfl rfl rfl ?_; refine zU rfl rfl rfl ?_; refine zU rfl rfl rfl ?_; refine zU rfl rfl rfl ?_; refine zs rfl rfl (bT h11) ?_; refine w_r (v := .bool _) (fun _ => zT (bT h11) rfl) rfl rfl ?_; refine yB ?_; refine zE rfl ?_; refine yA ?_; refine aB rfl ?_; refine yB ?_; refine ze ?_; refine zt (?_)
          refine zo (v := .bool _) rfl rfl rfl ?_; exact fun w' hw => ⟨by first | (simp_all [smOk, sruleOk]; done) | (unfold smOk; rw [srule_miss hop]; rfl) | (clear hw; clear hm hx gmb umb; simp only [smOk, sruleOk]; grind), hw.fr _ (.head _)⟩
        · (try (have qh11 := h11; norm_cast at qh11))
          refine zw rfl rfl (bF h11) ?_; refine zf fa76_0 rfl ?_; refine zw rfl rfl (bF h11) ?_; refine zl z5 rfl (fun _ h => zc 3 rfl rfl h) ?_; refine zw rfl rfl (bF h11) ?_; refine w_r (fun _ => R_ne rfl rfl) rfl rfl ?_; refine zw rfl rfl (bF h11) ?_; refine mB rfl ?_; refine zw rfl rfl (congrArg Value.bool (decide_eq_true (by decide))) ?_; refine zf fa76_5 rfl ?_; refine zw rfl rfl (congrArg Value.bool (decide_eq_true (by decide))) ?_; refine zl z24 rfl (fun _ h => zc 3 rfl rfl h) ?_; refine zw rfl rfl (congrArg Value.bool (decide_eq_true (by decide))) ?_; refine w_r (fun _ => R_len sl24 rfl) rfl rfl ?_; refine zw rfl rfl (congrArg Value.bool (decide_eq_true (by decide))) ?_
          refine w_r (fun _ => R_gt rfl rfl) rfl rfl ?_; refine zw rfl rfl (bF h11) ?_; refine w_r (v := .bool _) (fun _ => zT (congrArg Value.bool (decide_eq_true (by decide))) rfl) rfl rfl ?_; refine w_r (v := .bool _) (fun _ => zF (bF h11) rfl) rfl rfl ?_; refine yB ?_; refine zD rfl (fun h12 => ?_) (fun h12 => ?_)
          · (try (have qh12 := h12; norm_cast at qh12))
            refine yA ?_; refine aB rfl ?_; refine yB ?_; refine ze ?_; refine zt (?_)
            refine zo (v := .bool _) rfl rfl rfl ?_; exact fun w' hw => ⟨by first | (simp_all [smOk, sruleOk]; done) | (unfold smOk; rw [srule_miss hop]; rfl) | (clear hw; clear hm hx gmb umb; simp only [smOk, sruleOk]; grind), hw.fr _ (.head _)⟩
          · (try (have qh12 := h12; norm_cast at qh12))
            refine zi ?_; refine zk ?_; refine yA ?_; refine zf fa76_4 rfl ?_; refine zl z24 rfl (fun _ h => zc 3 rfl rfl h) ?_; refine zC (fun w => zR Tryz.func75 rfl rfl rfl) rfl rfl (fun w h => stmts_spec n ih hn bo ba bc N w hbl (by omega) (hbo.now (fun _ _ hh => hh) (.head _) h) (hW.now (.head _) h)) ?_; refine mB rfl ?_; refine zp (t := 66) rfl (fun h13 => ?_) (fun h13 => ?_)
            · (try (have qh13 := h13; norm_cast at qh13))
              refine zw rfl rfl (bV h13) ?_; refine zf fa76_5 rfl ?_; refine zw rfl rfl (bV h13) ?_; refine zl z24 rfl (fun _ h => zc 3 rfl rfl h) ?_; refine zw rfl rfl (bV h13) ?_; refine zC (fun w => zR Tryz.func75 rfl rfl rfl) rfl rfl (fun w h => stmts_spec n ih hn el ea ec N w hll2 (by omega) (hel.now (fun _ _ hh => hh) (.head _) h) (hW.now (.head _) h)) ?_; refine w_r (v := .bool _) (fun _ => zT (bV h13) rfl) rfl rfl ?_; refine aB rfl ?_; refine yB ?_; refine ze ?_; refine zo (v := .bool _) rfl rfl rfl ?_; exact fun w' hw => ⟨by first | (simp_all [smOk, sruleOk]; done) | (unfold smOk; rw [srule_miss hop]; rfl) | (clear hw; clear hm hx gmb umb; simp only [smOk, sruleOk]; grind), hw.fr _ (.head _)⟩
            · (try (have qh13 := h13; norm_cast at qh13))
              refine zs rfl rfl (bV h13) ?_; refine zs rfl rfl (bV h13) ?_; refine zs rfl rfl (bV h13) ?_; refine w_r (v := .bool _) (fun _ => zF (bV h13) rfl) rfl rfl ?_; refine aB rfl ?_; refine yB ?_; refine ze ?_; refine zo (v := .bool _) rfl rfl rfl ?_; exact fun w' hw => ⟨by first | (simp_all [smOk, sruleOk]; done) | (unfold smOk; rw [srule_miss hop]; rfl) | (clear hw; clear hm hx gmb umb; simp only [smOk, sruleOk]; grind), hw.fr _ (.head _)⟩
  · (try (have qcase2 := case2; norm_cast at qcase2))
    refine zl z5 rfl (fun _ h => zc 3 rfl rfl h) ?_; refine w_lookI 0 (v := .func (.func 139) _ _) rfl unm132 unk5 zr22 rfl rfl rfl ?_; refine za rfl ?_; refine yB ?_; refine zq ?_; refine yA ?_; refine zm rfl ?_; refine w_r (fun _ => R_feq unf22 rfl rfl) rfl rfl ?_; refine mB rfl ?_; refine zw rfl rfl rfl ?_; refine zm rfl ?_; refine zw rfl rfl rfl ?_; refine zC (fun w => R_callv rfl Tryz.func139 rfl rfl) rfl rfl (fun w h => stmt3_spec w (hW.now (.head _) h) t1b _ _ _ _ _ _ (h.at_ 3 rfl) (by omega) t3b _ (h.at_ 2 rfl)) ?_; refine zw rfl rfl rfl ?_; refine w_r (fun _ => R_not rfl) rfl rfl ?_; refine w_r (v := .bool _) (fun _ => zF rfl rfl) rfl rfl ?_; refine mB rfl ?_; refine zp (t := 32) rfl (fun h14 => ?_) (fun h14 => ?_)
    · (try (have qh14 := h14; norm_cast at qh14))
      refine zs rfl rfl (bV h14) ?_; refine zs rfl rfl (bV h14) ?_; refine zs rfl rfl (bV h14) ?_; refine zs rfl rfl (bV h14) ?_; refine zU rfl rfl rfl ?_; refine zU rfl rfl rfl ?_; refine zU rfl rfl rfl ?_; refine zU rfl rfl rfl ?_; refine zs rfl rfl (bV h14) ?_; refine w_r (v := .bool _) (fun _ => zT (bV h14) rfl) rfl rfl ?_; refine yB ?_; refine zE rfl ?_; refine yA ?_; refine aB rfl ?_; refine yB ?_; refine ze ?_; refine zt (?_)
      refine zo (v := .bool _) rfl rfl rfl ?_; exact fun w' hw => ⟨by first | (simp_all [smOk, sruleOk]; done) | (unfold smOk; rw [srule_miss hop]; rfl) | (clear hw; clear hm hx gmb umb; simp only [smOk, sruleOk]; grind), hw.fr _ (.head _)⟩
    · (try (have qh14 := h14; norm_cast at qh14))
      refine zw rfl rfl (bV h14) ?_; refine zf fa76_0 rfl ?_; refine zw rfl rfl (bV h14) ?_; refine zl z5 rfl (fun _ h => zc 3 rfl rfl h) ?_; refine zw rfl rfl (bV h14) ?_; refine w_r (fun _ => R_ne rfl rfl) rfl rfl ?_; refine zw rfl rfl (bV h14) ?_; refine mB rfl ?_; refine zw rfl rfl (congrArg Value.bool (decide_eq_true (by decide))) ?_; refine zf fa76_3 rfl ?_; refine zw rfl rfl (congrArg Value.bool (decide_eq_true (by decide))) ?_; refine zl z37 rfl (fun _ h => zc 3 rfl rfl h) ?_; refine zw rfl rfl (congrArg Value.bool (decide_eq_true (by decide))) ?_; refine zC (fun w => zR Tryz.func100 rfl rfl rfl) rfl rfl (fun w h => exprs_ok ks ka kc N w (by omega) (by omega) (hks.now (fun _ _ hh => hh) (.head _) h) (hW.now (.head _) h)) ?_
      refine zw rfl rfl (congrArg Value.bool (decide_eq_true (by decide))) ?_; refine w_r (fun _ => R_not rfl) rfl rfl ?_; refine zw rfl rfl (bV h14) ?_; refine w_r (v := .bool _) (fun _ => zT (congrArg Value.bool (decide_eq_true (by decide))) rfl) rfl rfl ?_; refine w_r (v := .bool _) (fun _ => zF (bV h14) rfl) rfl rfl ?_; refine yB ?_; refine c_condN rfl (fun h15 => ?_) (fun h15 => ?_)
      · (try (have qh15 := h15; norm_cast at qh15))
        refine yA ?_; refine aB rfl ?_; refine yB ?_; refine ze ?_; refine zt (?_)
        refine zo (v := .bool _) rfl rfl rfl ?_; exact fun w' hw => ⟨by first | (simp_all [smOk, sruleOk]; done) | (unfold smOk; rw [srule_miss hop]; rfl) | (clear hw; clear hm hx gmb umb; simp only [smOk, sruleOk]; grind), hw.fr _ (.head _)⟩
      · (try (have qh15 := h15; norm_cast at qh15))
        refine zi ?_; refine zk ?_; refine zq ?_; refine yA ?_; refine zf fa76_0 rfl ?_; refine zl z5 rfl (fun _ h => zc 3 rfl rfl h) ?_; refine w_r (fun _ => R_lt rfl rfl) rfl rfl ?_; refine mB rfl ?_; refine zw rfl rfl (congrArg Value.bool (decide_eq_true (by decide))) ?_; refine zf fa76_4 rfl ?_; refine zw rfl rfl (congrArg Value.bool (decide_eq_true (by decide))) ?_; refine zl z24 rfl (fun _ h => zc 3 rfl rfl h) ?_; refine zw rfl rfl (congrArg Value.bool (decide_eq_true (by decide))) ?_; refine w_r (fun _ => R_len sl24 rfl) rfl rfl ?_; refine zw rfl rfl (congrArg Value.bool (decide_eq_true (by decide))) ?_; refine w_r (fun _ => R_gt rfl rfl) rfl rfl ?_; refine w_r (v := .bool _) (fun _ => zT (congrArg Value.bool (decide_eq_true (by decide))) rfl) rfl rfl ?_
        refine mB rfl ?_; refine zd (t := 52) rfl (fun h16 => ?_) (fun h16 => ?_)
        · (try (have qh16 := h16; norm_cast at qh16))
          refine zs rfl rfl (bT h16) ?_; refine zs rfl rfl (bT h16) ?_; refine zs rfl rfl (bT h16) ?_; refine zs rfl rfl (bT h16) ?_; refine zU rfl rfl rfl ?_; refine zU rfl rfl rfl ?_; refine zU rfl rfl rfl ?_; refine zU rfl rfl rfl ?_; refine zs rfl rfl (bT h16) ?_; refine w_r (v := .bool _) (fun _ => zT (bT h16) rfl) rfl rfl ?_; refine yB ?_; refine zE rfl ?_; refine yA ?_; refine aB rfl ?_; refine yB ?_; refine ze ?_; refine zt (?_)
          refine zo (v := .bool _) rfl rfl rfl ?_; exact fun w' hw => ⟨by first | (simp_all [smOk, sruleOk]; done) | (unfold smOk; rw [srule_miss hop]; rfl) | (clear hw; clear hm hx gmb umb; simp only [smOk, sruleOk]; grind), hw.fr _ (.head _)⟩
        · (try (have qh16 := h16; norm_cast at qh16))
          refine zw rfl rfl (bF h16) ?_; refine zf fa76_0 rfl ?_; refine zw rfl rfl (bF h16) ?_; refine zl z5 rfl (fun _ h => zc 3 rfl rfl h) ?_; refine zw rfl rfl (bF h16) ?_; refine w_r (fun _ => R_ne rfl rfl) rfl rfl ?_; refine zw rfl rfl (bF h16) ?_; refine mB rfl ?_; refine zw rfl rfl (congrArg Value.bool (decide_eq_true (by decide))) ?_; refine zf fa76_5 rfl ?_; refine zw rfl rfl (congrArg Value.bool (decide_eq_true (by decide))) ?_; refine zl z24 rfl (fun _ h => zc 3 rfl rfl h) ?_; refine zw rfl rfl (congrArg Value.bool (decide_eq_true (by decide))) ?_; refine w_r (fun _ => R_len sl24 rfl) rfl rfl ?_; refine zw rfl rfl (congrArg Value.bool (decide_eq_true (by decide))) ?_
          refine w_r (fun _ => R_gt rfl rfl) rfl rfl ?_; refine zw rfl rfl (bF h16) ?_; refine w_r (v := .bool _) (fun _ => zT (congrArg Value.bool (decide_eq_true (by decide))) rfl) rfl rfl ?_; refine w_r (v := .bool _) (fun _ => zF (bF h16) rfl) rfl rfl ?_; refine yB ?_; refine zD rfl (fun h17 => ?_) (fun h17 => ?_)
          · (try (have qh17 := h17; norm_cast at qh17))
            refine yA ?_; refine aB rfl ?_; refine yB ?_; refine ze ?_; refine zt (?_)
            refine zo (v := .bool _) rfl rfl rfl ?_; exact fun w' hw => ⟨by first | (simp_all [smOk, sruleOk]; done) | (unfold smOk; rw [srule_miss hop]; rfl) | (clear hw; clear hm hx gmb umb; simp only [smOk, sruleOk]; grind), hw.fr _ (.head _)⟩
          · (try (have qh17 := h17; norm_cast at qh17))
            refine zi ?_; refine zk ?_; refine yA ?_; refine zf fa76_4 rfl ?_; refine zl z24 rfl (fun _ h => zc 3 rfl rfl h) ?_; refine zC (fun w => zR Tryz.func75 rfl rfl rfl) rfl rfl (fun w h => stmts_spec n ih hn bo ba bc N w hbl (by omega) (hbo.now (fun _ _ hh => hh) (.head _) h) (hW.now (.head _) h)) ?_; refine mB rfl ?_; refine zp (t := 66) rfl (fun h18 => ?_) (fun h18 => ?_)
            · (try (have qh18 := h18; norm_cast at qh18))
              refine zw rfl rfl (bV h18) ?_; refine zf fa76_5 rfl ?_; refine zw rfl rfl (bV h18) ?_; refine zl z24 rfl (fun _ h => zc 3 rfl rfl h) ?_; refine zw rfl rfl (bV h18) ?_; refine zC (fun w => zR Tryz.func75 rfl rfl rfl) rfl rfl (fun w h => stmts_spec n ih hn el ea ec N w hll2 (by omega) (hel.now (fun _ _ hh => hh) (.head _) h) (hW.now (.head _) h)) ?_; refine w_r (v := .bool _) (fun _ => zT (bV h18) rfl) rfl rfl ?_; refine aB rfl ?_; refine yB ?_; refine ze ?_; refine zo (v := .bool _) rfl rfl rfl ?_; exact fun w' hw => ⟨by first | (simp_all [smOk, sruleOk]; done) | (unfold smOk; rw [srule_miss hop]; rfl) | (clear hw; clear hm hx gmb umb; simp only [smOk, sruleOk]; grind), hw.fr _ (.head _)⟩
            · (try (have qh18 := h18; norm_cast at qh18))
              refine zs rfl rfl (bV h18) ?_; refine zs rfl rfl (bV h18) ?_; refine zs rfl rfl (bV h18) ?_; refine w_r (v := .bool _) (fun _ => zF (bV h18) rfl) rfl rfl ?_; refine aB rfl ?_; refine yB ?_; refine ze ?_; refine zo (v := .bool _) rfl rfl rfl ?_; exact fun w' hw => ⟨by first | (simp_all [smOk, sruleOk]; done) | (unfold smOk; rw [srule_miss hop]; rfl) | (clear hw; clear hm hx gmb umb; simp only [smOk, sruleOk]; grind), hw.fr _ (.head _)⟩
  · (try (have qcase3 := case3; norm_cast at qcase3))
    refine zl z5 rfl (fun _ h => zc 3 rfl rfl h) ?_; refine w_lookI 0 (v := .func (.func 140) _ _) rfl unm132 unk5 zr22 rfl rfl rfl ?_; refine za rfl ?_; refine yB ?_; refine zq ?_; refine yA ?_; refine zm rfl ?_; refine w_r (fun _ => R_feq unf22 rfl rfl) rfl rfl ?_; refine mB rfl ?_; refine zw rfl rfl rfl ?_; refine zm rfl ?_; refine zw rfl rfl rfl ?_; refine zC (fun w => R_callv rfl Tryz.func140 rfl rfl) rfl rfl (fun w h => stmt4_spec w (hW.now (.head _) h) t1b _ _ _ _ _ _ (h.at_ 3 rfl) (by omega) t3b _ (h.at_ 2 rfl)) ?_; refine zw rfl rfl rfl ?_; refine w_r (fun _ => R_not rfl) rfl rfl ?_; refine w_r (v := .bool _) (fun _ => zF rfl rfl) rfl rfl ?_; refine mB rfl ?_; refine zp (t := 32) rfl (fun h19 => ?_) (fun h19 => ?_)
    · (try (have qh19 := h19; norm_cast at qh19))
      refine zs rfl rfl (bV h19) ?_; refine zs rfl rfl (bV h19) ?_; refine zs rfl rfl (bV h19) ?_; refine zs rfl rfl (bV h19) ?_; refine zU rfl rfl rfl ?_; refine zU rfl rfl rfl ?_; refine zU rfl rfl rfl ?_; refine zU rfl rfl rfl ?_; refine zs rfl rfl (bV h19) ?_; refine w_r (v := .bool _) (fun _ => zT (bV h19) rfl) rfl rfl ?_; refine yB ?_; refine zE rfl ?_; refine yA ?_; refine aB rfl ?_; refine yB ?_; refine ze ?_; refine zt (?_)
      refine zo (v := .bool _) rfl rfl rfl ?_; exact fun w' hw => ⟨by first | (simp_all [smOk, sruleOk]; done) | (unfold smOk; rw [srule_miss hop]; rfl) | (clear hw; clear hm hx gmb umb; simp only [smOk, sruleOk]; grind), hw.fr _ (.head _)⟩
    · (try (have qh19 := h19; norm_cast at qh19))
      refine zw rfl rfl (bV h19) ?_; refine zf fa76_0 rfl ?_; refine zw rfl rfl (bV h19) ?_; refine zl z5 rfl (fun _ h => zc 3 rfl rfl h) ?_; refine zw rfl rfl (bV h19) ?_; refine w_r (fun _ => R_ne rfl rfl) rfl rfl ?_; refine zw rfl rfl (bV h19) ?_; refine mB rfl ?_; refine zw rfl rfl (congrArg Value.bool (decide_eq_true (by decide))) ?_; refine zf fa76_3 rfl ?_; refine zw rfl rfl (congrArg Value.bool (decide_eq_true (by decide))) ?_; refine zl z37 rfl (fun _ h => zc 3 rfl rfl h) ?_; refine zw rfl rfl (congrArg Value.bool (decide_eq_true (by decide))) ?_; refine zC (fun w => zR Tryz.func100 rfl rfl rfl) rfl rfl (fun w h => exprs_ok ks ka kc N w (by omega) (by omega) (hks.now (fun _ _ hh => hh) (.head _) h) (hW.now (.head _) h)) ?_
      refine zw rfl rfl (congrArg Value.bool (decide_eq_true (by decide))) ?_; refine w_r (fun _ => R_not rfl) rfl rfl ?_; refine zw rfl rfl (bV h19) ?_; refine w_r (v := .bool _) (fun _ => zT (congrArg Value.bool (decide_eq_true (by decide))) rfl) rfl rfl ?_; refine w_r (v := .bool _) (fun _ => zF (bV h19) rfl) rfl rfl ?_; refine yB ?_; refine c_condN rfl (fun h20 => ?_) (fun h20 => ?_)
      · (try (have qh20 := h20; norm_cast at qh20))
        refine yA ?_; refine aB rfl ?_; refine yB ?_; refine ze ?_; refine zt (?_)
        refine zo (v := .bool _) rfl rfl rfl ?_; exact fun w' hw => ⟨by first | (simp_all [smOk, sruleOk]; done) | (unfold smOk; rw [srule_miss hop]; rfl) | (clear hw; clear hm hx gmb umb; simp only [smOk, sruleOk]; grind), hw.fr _ (.head _)⟩
      · (try (have qh20 := h20; norm_cast at qh20))
        refine zi ?_; refine zk ?_; refine zq ?_; refine yA ?_; refine zf fa76_0 rfl ?_; refine zl z5 rfl (fun _ h => zc 3 rfl rfl h) ?_; refine w_r (fun _ => R_lt rfl rfl) rfl rfl ?_; refine mB rfl ?_; refine zs rfl rfl (congrArg Value.bool (decide_eq_false (by decide))) ?_; refine zs rfl rfl (congrArg Value.bool (decide_eq_false (by decide))) ?_; refine zs rfl rfl (congrArg Value.bool (decide_eq_false (by decide))) ?_; refine zs rfl rfl (congrArg Value.bool (decide_eq_false (by decide))) ?_; refine w_r (v := .bool _) (fun _ => zF (congrArg Value.bool (decide_eq_false (by decide))) rfl) rfl rfl ?_; refine mB rfl ?_; refine zw rfl rfl rfl ?_; refine zf fa76_0 rfl ?_; refine zw rfl rfl rfl ?_; refine zl z5 rfl (fun _ h => zc 3 rfl rfl h) ?_
        refine zw rfl rfl rfl ?_; refine w_r (fun _ => R_ne rfl rfl) rfl rfl ?_; refine zw rfl rfl rfl ?_; refine mB rfl ?_; refine zw rfl rfl (congrArg Value.bool (decide_eq_true (by decide))) ?_; refine zf fa76_5 rfl ?_; refine zw rfl rfl (congrArg Value.bool (decide_eq_true (by decide))) ?_; refine zl z24 rfl (fun _ h => zc 3 rfl rfl h) ?_; refine zw rfl rfl (congrArg Value.bool (decide_eq_true (by decide))) ?_; refine w_r (fun _ => R_len sl24 rfl) rfl rfl ?_; refine zw rfl rfl (congrArg Value.bool (decide_eq_true (by decide))) ?_; refine w_r (fun _ => R_gt rfl rfl) rfl rfl ?_; refine zw rfl rfl rfl ?_; refine w_r (v := .bool _) (fun _ => zT (congrArg Value.bool (decide_eq_true (by decide))) rfl) rfl rfl ?_; refine w_r (v := .bool _) (fun _ => zF rfl rfl) rfl rfl ?_; refine yB ?_
        refine zD rfl (fun h21 => ?_) (fun h21 => ?_)
        · (try (have qh21 := h21; norm_cast at qh21))
          refine yA ?_; refine aB rfl ?_; refine yB ?_; refine ze ?_; refine zt (?_)
          refine zo (v := .bool _) rfl rfl rfl ?_; exact fun w' hw => ⟨by first | (simp_all [smOk, sruleOk]; done) | (unfold smOk; rw [srule_miss hop]; rfl) | (clear hw; clear hm hx gmb umb; simp only [smOk, sruleOk]; grind), hw.fr _ (.head _)⟩
        · (try (have qh21 := h21; norm_cast at qh21))
          refine zi ?_; refine zk ?_; refine yA ?_; refine zf fa76_4 rfl ?_; refine zl z24 rfl (fun _ h => zc 3 rfl rfl h) ?_; refine zC (fun w => zR Tryz.func75 rfl rfl rfl) rfl rfl (fun w h => stmts_spec n ih hn bo ba bc N w hbl (by omega) (hbo.now (fun _ _ hh => hh) (.head _) h) (hW.now (.head _) h)) ?_; refine mB rfl ?_; refine zp (t := 66) rfl (fun h22 => ?_) (fun h22 => ?_)
          · (try (have qh22 := h22; norm_cast at qh22))
            refine zw rfl rfl (bV h22) ?_; refine zf fa76_5 rfl ?_; refine zw rfl rfl (bV h22) ?_; refine zl z24 rfl (fun _ h => zc 3 rfl rfl h) ?_; refine zw rfl rfl (bV h22) ?_; refine zC (fun w => zR Tryz.func75 rfl rfl rfl) rfl rfl (fun w h => stmts_spec n ih hn el ea ec N w hll2 (by omega) (hel.now (fun _ _ hh => hh) (.head _) h) (hW.now (.head _) h)) ?_; refine w_r (v := .bool _) (fun _ => zT (bV h22) rfl) rfl rfl ?_; refine aB rfl ?_; refine yB ?_; refine ze ?_; refine zo (v := .bool _) rfl rfl rfl ?_; exact fun w' hw => ⟨by first | (simp_all [smOk, sruleOk]; done) | (unfold smOk; rw [srule_miss hop]; rfl) | (clear hw; clear hm hx gmb umb; simp only [smOk, sruleOk]; grind), hw.fr _ (.head _)⟩
          · (try (have qh22 := h22; norm_cast at qh22))
            refine zs rfl rfl (bV h22) ?_; refine zs rfl rfl (bV h22) ?_; refine zs rfl rfl (bV h22) ?_; refine w_r (v := .bool _) (fun _ => zF (bV h22) rfl) rfl rfl ?_; refine aB rfl ?_; refine yB ?_; refine ze ?_; refine zo (v := .bool _) rfl rfl rfl ?_; exact fun w' hw => ⟨by first | (simp_all [smOk, sruleOk]; done) | (unfold smOk; rw [srule_miss hop]; rfl) | (clear hw; clear hm hx gmb umb; simp only [smOk, sruleOk]; grind), hw.fr _ (.head _)⟩
  · (try (have qcase4 := case4; norm_cast at qcase4))
    refine zl z5 rfl (fun _ h => zc 3 rfl rfl h) ?_; refine w_lookI 0 (v := .func (.func 141) _ _) rfl unm132 unk5 zr22 rfl rfl rfl ?_; refine za rfl ?_; refine yB ?_; refine zq ?_; refine yA ?_; refine zm rfl ?_; refine w_r (fun _ => R_feq unf22 rfl rfl) rfl rfl ?_; refine mB rfl ?_; refine zw rfl rfl rfl ?_; refine zm rfl ?_; refine zw rfl rfl rfl ?_; refine zC (fun w => R_callv rfl Tryz.func141 rfl rfl) rfl rfl (fun w h => stmt5_spec w (hW.now (.head _) h) ks ka kc N (by omega) (hks.now (fun _ _ hh => hh) (.head _) h) t4b _ (h.at_ 1 rfl) t3b _ (h.at_ 2 rfl) t1b _ _ _ _ _ (h.at_ 3 rfl) (by omega) rfl) ?_; refine zw rfl rfl rfl ?_; refine w_r (fun _ => R_not rfl) rfl rfl ?_; refine w_r (v := .bool _) (fun _ => zF rfl rfl) rfl rfl ?_; refine mB rfl ?_
    refine zp (t := 32) rfl (fun h23 => ?_) (fun h23 => ?_)
    · (try (have qh23 := h23; norm_cast at qh23))
      refine zs rfl rfl (bV h23) ?_; refine zs rfl rfl (bV h23) ?_; refine zs rfl rfl (bV h23) ?_; refine zs rfl rfl (bV h23) ?_; refine zU rfl rfl rfl ?_; refine zU rfl rfl rfl ?_; refine zU rfl rfl rfl ?_; refine zU rfl rfl rfl ?_; refine zs rfl rfl (bV h23) ?_; refine w_r (v := .bool _) (fun _ => zT (bV h23) rfl) rfl rfl ?_; refine yB ?_; refine zE rfl ?_; refine yA ?_; refine aB rfl ?_; refine yB ?_; refine ze ?_; refine zt (?_)
      refine zo (v := .bool _) rfl rfl rfl ?_; exact fun w' hw => ⟨by first | (simp_all [smOk, sruleOk]; done) | (unfold smOk; rw [srule_miss hop]; rfl) | (clear hw; clear hm hx gmb umb; simp only [smOk, sruleOk]; grind), hw.fr _ (.head _)⟩
    · (try (have qh23 := h23; norm_cast at qh23))
      refine zw rfl rfl (bV h23) ?_; refine zf fa76_0 rfl ?_; refine zw rfl rfl (bV h23) ?_; refine zl z5 rfl (fun _ h => zc 3 rfl rfl h) ?_; refine zw rfl rfl (bV h23) ?_; refine w_r (fun _ => R_ne rfl rfl) rfl rfl ?_; refine zw rfl rfl (bV h23) ?_; refine mB rfl ?_; refine zs rfl rfl (congrArg Value.bool (decide_eq_false (by decide))) ?_; refine zs rfl rfl (congrArg Value.bool (decide_eq_false (by decide))) ?_; refine zs rfl rfl (congrArg Value.bool (decide_eq_false (by decide))) ?_; refine zs rfl rfl (congrArg Value.bool (decide_eq_false (by decide))) ?_; refine zw rfl rfl (bV h23) ?_; refine w_r (v := .bool _) (fun _ => zF (congrArg Value.bool (decide_eq_false (by decide))) rfl) rfl rfl ?_
      refine w_r (v := .bool _) (fun _ => zF (bV h23) rfl) rfl rfl ?_; refine yB ?_; refine c_condF rfl ?_; refine zi ?_; refine zk ?_; refine zq ?_; refine yA ?_; refine zf fa76_0 rfl ?_; refine zl z5 rfl (fun _ h => zc 3 rfl rfl h) ?_; refine w_r (fun _ => R_lt rfl rfl) rfl rfl ?_; refine mB rfl ?_; refine zs rfl rfl (congrArg Value.bool (decide_eq_false (by decide))) ?_; refine zs rfl rfl (congrArg Value.bool (decide_eq_false (by decide))) ?_; refine zs rfl rfl (congrArg Value.bool (decide_eq_false (by decide))) ?_; refine zs rfl rfl (congrArg Value.bool (decide_eq_false (by decide))) ?_; refine w_r (v := .bool _) (fun _ => zF (congrArg Value.bool (decide_eq_false (by decide))) rfl) rfl rfl ?_; refine mB rfl ?_; refine zw rfl rfl rfl ?_
      refine zf fa76_0 rfl ?_; refine zw rfl rfl rfl ?_; refine zl z5 rfl (fun _ h => zc 3 rfl rfl h) ?_; refine zw rfl rfl rfl ?_; refine w_r (fun _ => R_ne rfl rfl) rfl rfl ?_; refine zw rfl rfl rfl ?_; refine mB rfl ?_; refine zs rfl rfl (congrArg Value.bool (decide_eq_false (by decide))) ?_; refine zs rfl rfl (congrArg Value.bool (decide_eq_false (by decide))) ?_; refine zs rfl rfl (congrArg Value.bool (decide_eq_false (by decide))) ?_; refine zs rfl rfl (congrArg Value.bool (decide_eq_false (by decide))) ?_; refine zw rfl rfl rfl ?_; refine w_r (v := .bool _) (fun _ => zF (congrArg Value.bool (decide_eq_false (by decide))) rfl) rfl rfl ?_; refine w_r (v := .bool _) (fun _ => zF rfl rfl) rfl rfl ?_
      refine yB ?_; refine c_condF rfl ?_; refine zi ?_; refine zk ?_; refine yA ?_; refine zf fa76_4 rfl ?_; refine zl z24 rfl (fun _ h => zc 3 rfl rfl h) ?_; refine zC (fun w => zR Tryz.func75 rfl rfl rfl) rfl rfl (fun w h => stmts_spec n ih hn bo ba bc N w hbl (by omega) (hbo.now (fun _ _ hh => hh) (.head _) h) (hW.now (.head _) h)) ?_; refine mB rfl ?_; refine zp (t := 66) rfl (fun h24 => ?_) (fun h24 => ?_)
      · (try (have qh24 := h24; norm_cast at qh24))
        refine zw rfl rfl (bV h24) ?_; refine zf fa76_5 rfl ?_; refine zw rfl rfl (bV h24) ?_; refine zl z24 rfl (fun _ h => zc 3 rfl rfl h) ?_; refine zw rfl rfl (bV h24) ?_; refine zC (fun w => zR Tryz.func75 rfl rfl rfl) rfl rfl (fun w h => stmts_spec n ih hn el ea ec N w hll2 (by omega) (hel.now (fun _ _ hh => hh) (.head _) h) (hW.now (.head _) h)) ?_; refine w_r (v := .bool _) (fun _ => zT (bV h24) rfl) rfl rfl ?_; refine aB rfl ?_; refine yB ?_; refine ze ?_; refine zo (v := .bool _) rfl rfl rfl ?_; exact fun w' hw => ⟨by first | (simp_all [smOk, sruleOk]; done) | (unfold smOk; rw [srule_miss hop]; rfl) | (clear hw; clear hm hx gmb umb; simp only [smOk, sruleOk]; grind), hw.fr _ (.head _)⟩
      · (try (have qh24 := h24; norm_cast at qh24))
        refine zs rfl rfl (bV h24) ?_; refine zs rfl rfl (bV h24) ?_; refine zs rfl rfl (bV h24) ?_; refine w_r (v := .bool _) (fun _ => zF (bV h24) rfl) rfl rfl ?_; refine aB rfl ?_; refine yB ?_; refine ze ?_; refine zo (v := .bool _) rfl rfl rfl ?_; exact fun w' hw => ⟨by first | (simp_all [smOk, sruleOk]; done) | (unfold smOk; rw [srule_miss hop]; rfl) | (clear hw; clear hm hx gmb umb; simp only [smOk, sruleOk]; grind), hw.fr _ (.head _)⟩
  · (try (have qcase5 := case5; norm_cast at qcase5))
    refine zl z5 rfl (fun _ h => zc 3 rfl rfl h) ?_; refine w_lookI 0 (v := .func (.func 143) _ _) rfl unm132 unk5 zr22 rfl rfl rfl ?_; refine za rfl ?_; refine yB ?_; refine zq ?_; refine yA ?_; refine zm rfl ?_; refine w_r (fun _ => R_feq unf22 rfl rfl) rfl rfl ?_; refine mB rfl ?_; refine zw rfl rfl rfl ?_; refine zm rfl ?_; refine zw rfl rfl rfl ?_; refine zC (fun w => R_callv rfl Tryz.func143 rfl rfl) rfl rfl (fun w h => stmt6_spec w (hW.now (.head _) h) t4b _ (h.at_ 1 rfl) t3b _ (h.at_ 2 rfl)) ?_; refine zw rfl rfl rfl ?_; refine w_r (fun _ => R_not rfl) rfl rfl ?_; refine w_r (v := .bool _) (fun _ => zF rfl rfl) rfl rfl ?_; refine mB rfl ?_; refine zp (t := 32) rfl (fun h25 => ?_) (fun h25 => ?_)
    · (try (have qh25 := h25; norm_cast at qh25))
      refine zs rfl rfl (bV h25) ?_; refine zs rfl rfl (bV h25) ?_; refine zs rfl rfl (bV h25) ?_; refine zs rfl rfl (bV h25) ?_; refine zU rfl rfl rfl ?_; refine zU rfl rfl rfl ?_; refine zU rfl rfl rfl ?_; refine zU rfl rfl rfl ?_; refine zs rfl rfl (bV h25) ?_; refine w_r (v := .bool _) (fun _ => zT (bV h25) rfl) rfl rfl ?_; refine yB ?_; refine zE rfl ?_; refine yA ?_; refine aB rfl ?_; refine yB ?_; refine ze ?_; refine zt (?_)
      refine zo (v := .bool _) rfl rfl rfl ?_; exact fun w' hw => ⟨by first | (simp_all [smOk, sruleOk]; done) | (unfold smOk; rw [srule_miss hop]; rfl) | (clear hw; clear hm hx gmb umb; simp only [smOk, sruleOk]; grind), hw.fr _ (.head _)⟩
    · (try (have qh25 := h25; norm_cast at qh25))
      refine zw rfl rfl (bV h25) ?_; refine zf fa76_0 rfl ?_; refine zw rfl rfl (bV h25) ?_; refine zl z5 rfl (fun _ h => zc 3 rfl rfl h) ?_; refine zw rfl rfl (bV h25) ?_; refine w_r (fun _ => R_ne rfl rfl) rfl rfl ?_; refine zw rfl rfl (bV h25) ?_; refine mB rfl ?_; refine zw rfl rfl (congrArg Value.bool (decide_eq_true (by decide))) ?_; refine zf fa76_3 rfl ?_; refine zw rfl rfl (congrArg Value.bool (decide_eq_true (by decide))) ?_; refine zl z37 rfl (fun _ h => zc 3 rfl rfl h) ?_; refine zw rfl rfl (congrArg Value.bool (decide_eq_true (by decide))) ?_; refine zC (fun w => zR Tryz.func100 rfl rfl rfl) rfl rfl (fun w h => exprs_ok ks ka kc N w (by omega) (by omega) (hks.now (fun _ _ hh => hh) (.head _) h) (hW.now (.head _) h)) ?_
      refine zw rfl rfl (congrArg Value.bool (decide_eq_true (by decide))) ?_; refine w_r (fun _ => R_not rfl) rfl rfl ?_; refine zw rfl rfl (bV h25) ?_; refine w_r (v := .bool _) (fun _ => zT (congrArg Value.bool (decide_eq_true (by decide))) rfl) rfl rfl ?_; refine w_r (v := .bool _) (fun _ => zF (bV h25) rfl) rfl rfl ?_; refine yB ?_; refine c_condN rfl (fun h26 => ?_) (fun h26 => ?_)
      · (try (have qh26 := h26; norm_cast at qh26))
        refine yA ?_; refine aB rfl ?_; refine yB ?_; refine ze ?_; refine zt (?_)
        refine zo (v := .bool _) rfl rfl rfl ?_; exact fun w' hw => ⟨by first | (simp_all [smOk, sruleOk]; done) | (unfold smOk; rw [srule_miss hop]; rfl) | (clear hw; clear hm hx gmb umb; simp only [smOk, sruleOk]; grind), hw.fr _ (.head _)⟩
      · (try (have qh26 := h26; norm_cast at qh26))
        refine zi ?_; refine zk ?_; refine zq ?_; refine yA ?_; refine zf fa76_0 rfl ?_; refine zl z5 rfl (fun _ h => zc 3 rfl rfl h) ?_; refine w_r (fun _ => R_lt rfl rfl) rfl rfl ?_; refine mB rfl ?_; refine zs rfl rfl (congrArg Value.bool (decide_eq_false (by decide))) ?_; refine zs rfl rfl (congrArg Value.bool (decide_eq_false (by decide))) ?_; refine zs rfl rfl (congrArg Value.bool (decide_eq_false (by decide))) ?_; refine zs rfl rfl (congrArg Value.bool (decide_eq_false (by decide))) ?_; refine w_r (v := .bool _) (fun _ => zF (congrArg Value.bool (decide_eq_false (by decide))) rfl) rfl rfl ?_; refine mB rfl ?_; refine zw rfl rfl rfl ?_; refine zf fa76_0 rfl ?_; refine zw rfl rfl rfl ?_; refine zl z5 rfl (fun _ h => zc 3 rfl rfl h) ?_
        refine zw rfl rfl rfl ?_; refine w_r (fun _ => R_ne rfl rfl) rfl rfl ?_; refine zw rfl rfl rfl ?_; refine mB rfl ?_; refine zw rfl rfl (congrArg Value.bool (decide_eq_true (by decide))) ?_; refine zf fa76_5 rfl ?_; refine zw rfl rfl (congrArg Value.bool (decide_eq_true (by decide))) ?_; refine zl z24 rfl (fun _ h => zc 3 rfl rfl h) ?_; refine zw rfl rfl (congrArg Value.bool (decide_eq_true (by decide))) ?_; refine w_r (fun _ => R_len sl24 rfl) rfl rfl ?_; refine zw rfl rfl (congrArg Value.bool (decide_eq_true (by decide))) ?_; refine w_r (fun _ => R_gt rfl rfl) rfl rfl ?_; refine zw rfl rfl rfl ?_; refine w_r (v := .bool _) (fun _ => zT (congrArg Value.bool (decide_eq_true (by decide))) rfl) rfl rfl ?_; refine w_r (v := .bool _) (fun _ => zF rfl rfl) rfl rfl ?_; refine yB ?_
        refine zD rfl (fun h27 => ?_) (fun h27 => ?_)
        · (try (have qh27 := h27; norm_cast at qh27))
          refine yA ?_; refine aB rfl ?_; refine yB ?_; refine ze ?_; refine zt (?_)
          refine zo (v := .bool _) rfl rfl rfl ?_; exact fun w' hw => ⟨by first | (simp_all [smOk, sruleOk]; done) | (unfold smOk; rw [srule_miss hop]; rfl) | (clear hw; clear hm hx gmb umb; simp only [smOk, sruleOk]; grind), hw.fr _ (.head _)⟩
        · (try (have qh27 := h27; norm_cast at qh27))
          refine zi ?_; refine zk ?_; refine yA ?_; refine zf fa76_4 rfl ?_; refine zl z24 rfl (fun _ h => zc 3 rfl rfl h) ?_; refine zC (fun w => zR Tryz.func75 rfl rfl rfl) rfl rfl (fun w h => stmts_spec n ih hn bo ba bc N w hbl (by omega) (hbo.now (fun _ _ hh => hh) (.head _) h) (hW.now (.head _) h)) ?_; refine mB rfl ?_; refine zp (t := 66) rfl (fun h28 => ?_) (fun h28 => ?_)
          · (try (have qh28 := h28; norm_cast at qh28))
            refine zw rfl rfl (bV h28) ?_; refine zf fa76_5 rfl ?_; refine zw rfl rfl (bV h28) ?_; refine zl z24 rfl (fun _ h => zc 3 rfl rfl h) ?_; refine zw rfl rfl (bV h28) ?_; refine zC (fun w => zR Tryz.func75 rfl rfl rfl) rfl rfl (fun w h => stmts_spec n ih hn el ea ec N w hll2 (by omega) (hel.now (fun _ _ hh => hh) (.head _) h) (hW.now (.head _) h)) ?_; refine w_r (v := .bool _) (fun _ => zT (bV h28) rfl) rfl rfl ?_; refine aB rfl ?_; refine yB ?_; refine ze ?_; refine zo (v := .bool _) rfl rfl rfl ?_; exact fun w' hw => ⟨by first | (simp_all [smOk, sruleOk]; done) | (unfold smOk; rw [srule_miss hop]; rfl) | (clear hw; clear hm hx gmb umb; simp only [smOk, sruleOk]; grind), hw.fr _ (.head _)⟩
          · (try (have qh28 := h28; norm_cast at qh28))
            refine zs rfl rfl (bV h28) ?_; refine zs rfl rfl (bV h28) ?_; refine zs rfl rfl (bV h28) ?_; refine w_r (v := .bool _) (fun _ => zF (bV h28) rfl) rfl rfl ?_; refine aB rfl ?_; refine yB ?_; refine ze ?_; refine zo (v := .bool _) rfl rfl rfl ?_; exact fun w' hw => ⟨by first | (simp_all [smOk, sruleOk]; done) | (unfold smOk; rw [srule_miss hop]; rfl) | (clear hw; clear hm hx gmb umb; simp only [smOk, sruleOk]; grind), hw.fr _ (.head _)⟩
  · (try (have qcase6 := case6; norm_cast at qcase6))
    refine zl z5 rfl (fun _ h => zc 3 rfl rfl h) ?_; refine w_lookI 0 (v := .nilFunc) rfl unm132 unk5 zr22 rfl rfl (look_none _ _ _ (by simp; omega)) ?_; refine za rfl ?_; refine yB ?_; refine zq ?_; refine yA ?_; refine zm rfl ?_; refine w_r (fun _ => R_neq unf22 rfl rfl) rfl rfl ?_; refine mB rfl ?_; refine zs rfl rfl rfl ?_; refine zs rfl rfl rfl ?_; refine zs rfl rfl rfl ?_; refine w_r (v := .bool _) (fun _ => zT rfl rfl) rfl rfl ?_; refine mB rfl ?_; refine zs rfl rfl rfl ?_; refine zs rfl rfl rfl ?_; refine zs rfl rfl rfl ?_; refine zs rfl rfl rfl ?_; refine zU rfl rfl rfl ?_
    refine zU rfl rfl rfl ?_; refine zU rfl rfl rfl ?_; refine zU rfl rfl rfl ?_; refine zs rfl rfl rfl ?_; refine w_r (v := .bool _) (fun _ => zT rfl rfl) rfl rfl ?_; refine yB ?_; refine zE rfl ?_; refine yA ?_; refine aB rfl ?_; refine yB ?_; refine ze ?_; refine zt (?_)
    refine zo (v := .bool _) rfl rfl rfl ?_; exact fun w' hw => ⟨by first | (simp_all [smOk, sruleOk]; done) | (unfold smOk; rw [srule_miss hop]; rfl) | (clear hw; clear hm hx gmb umb; simp only [smOk, sruleOk]; grind), hw.fr _ (.head _)⟩


theorem stmt_all : ∀ n : Nat, n ≤ 10000000 → StmtH n
  | 0, _ => fun _ _ _ _ h _ _ => absurd h (Nat.not_lt_zero _)
  | n + 1, hn => fun x cs N w hx hm hW => stmt_step n (stmt_all n (by omega)) (by omega) x cs N w hx hm hW
theorem stmts_ok (l : List Sm) (a : Option Addr) (c : Nat) (N : Nat → Prop) (w : World) (hl : smsW l < 10000000) (hll : l.length ≤ 10000000) (hm : smsM w N l a 0) (hW : Wd w) : Ret Tryz.prog 75 #[.slice a l.length c] w fun v w' => v = .bool (smsOk l) ∧ Ext w w' :=
  stmts_spec _ (stmt_all _ (Nat.le_refl _)) (Nat.le_refl _) l a c N w (fun _ hx => Nat.lt_of_le_of_lt (smsW_mem hx) hl) hll hm hW
end Go.Proofs.YtaniogadknakoaaGreatDoor
end
