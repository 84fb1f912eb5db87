/- For every program and every number, of a bulk of at most 1048576, the law TreeOwn holds of the given program. Part 5 of 13. -/
import Derived.Test.YtcmcdgkjipnfnaaDoorO02
import Derived.Test.YtcmcdgkjipnfnaaDoorO04
import Derived.Lib.IndexMore
section
/- The plain part of layer tree: names and words; the first of a row that is so. -/
namespace Go.Tree
open Go.Tok
theorem oneB_E {k : Nat} {s : Str} (h : (readP s).2.1 ≠ 0) : oneB k s = false := by unfold oneB; rw [decide_eq_false h]; rfl
theorem oneB_len {k : Nat} {s : Str} (h : (readP s).1.length ≠ 1) : oneB k s = false := by
  unfold oneB
  rw [Bool.and_eq_false_iff]; right
  split
  · rename_i t ht; rw [ht] at h; exact absurd rfl h
  · rfl
theorem oneB_at {k : Nat} {s : Str} {t : Tk} (h0 : (readP s).2.1 = 0) (h1 : (readP s).1[0]? = some t) (hl : (readP s).1.length = 1) : oneB k s = (decide ((t.1 : Int) = (k : Int)) && decide (t.2.1 = s)) := by
  have h2 : (readP s).1 = [t] := by
    match hr : (readP s).1, hl with
    | [x], _ => rw [hr] at h1; simpa using h1
  unfold oneB
  rw [decide_eq_true h0, h2]
  have : decide (t.1 = k) = decide ((t.1 : Int) = (k : Int)) := by congr 1; apply propext; omega
  simp only [this, Bool.true_and]
/-! a name has no blank in it -/
theorem tokTx_word {s : Str} {i : Nat} (h : (tokAt s i).1 = 1) : (32 : UInt8) ∉ tokTx s i := by
  unfold tokTx
  unfold tokAt at h ⊢
  split
  · intro hm
    have e : (s.drop i).take (runTo wordB s i - i) = (s.drop i).takeWhile wordB := by
      unfold runTo
      rw [show i + ((s.drop i).takeWhile wordB).length - i = ((s.drop i).takeWhile wordB).length by omega]
      exact (List.prefix_iff_eq_take.1 (List.takeWhile_prefix wordB)).symm
    rw [e] at hm
    have := List.all_eq_true.1 (List.all_takeWhile (p := wordB) (l := s.drop i)) _ hm
    exact absurd this (by decide)
  · rename_i hn
    rw [if_neg hn] at h
    split at h
    · cases h
    · split at h <;> cases h
theorem lexF_names (s : Str) : ∀ (f i : Nat) (x : Rd), (∀ t ∈ x.1, t.1 = 1 → (32 : UInt8) ∉ t.2.1) → ∀ t ∈ (lexF readN s f i x).1, t.1 = 1 → (32 : UInt8) ∉ t.2.1
  | 0, _, x, h => h
  | f + 1, i, x, h => by
    have h2 : ∀ t ∈ (readN x (tokAt s i).1 (tokTx s i) i (tokAt s i).2.2).1.1, t.1 = 1 → (32 : UInt8) ∉ t.2.1 := by
      unfold readN
      split
      · exact h
      · split
        · exact h
        · intro t ht
          rcases List.mem_append.1 ht with ht | ht
          · exact h t ht
          · obtain rfl : t = _ := by simpa using ht
            exact fun hk => tokTx_word hk
    unfold lexF
    split
    · split
      · exact lexF_names s f _ _ h2
      · exact h2
    · exact h
theorem readP_names (s : Str) : ∀ t ∈ (readP s).1, t.1 = 1 → (32 : UInt8) ∉ t.2.1 := by
  have h : ∀ t ∈ (readS s).1, t.1 = 1 → (32 : UInt8) ∉ t.2.1 := lexF_names s _ _ _ (fun t ht => (List.not_mem_nil ht).elim)
  unfold readP
  split
  · exact fun t ht => (List.not_mem_nil ht).elim
  · split
    · exact h
    · exact fun t ht => (List.not_mem_nil ht).elim
theorem one_name {s : Str} (h : oneB 1 s = true) : (32 : UInt8) ∉ s := by
  unfold oneB at h
  rw [Bool.and_eq_true] at h
  obtain ⟨_, h2⟩ := h
  split at h2
  · rename_i t ht
    simp only [Bool.and_eq_true, decide_eq_true_eq] at h2
    have := readP_names s t (by rw [ht]; exact .head _) h2.1
    rwa [h2.2] at this
  · cases h2
theorem index_iff {sub : List UInt8} (hs : sub ≠ []) : ∀ s : List UInt8, 0 ≤ Lib.index s sub ↔ ∃ i, sub.isPrefixOf (s.drop i) = true
  | [] => by
    have : sub.isEmpty = false := by cases sub with | nil => exact absurd rfl hs | cons => rfl
    unfold Lib.index
    rw [this]
    constructor
    · intro h; exact absurd h (by decide)
    · rintro ⟨i, hi⟩
      cases sub with
      | nil => exact absurd rfl hs
      | cons a l => simp at hi
  | b :: l => by
    have ih := index_iff hs l
    have hg := Lib.index_ge l sub
    unfold Lib.index
    split
    · rename_i hp
      exact ⟨fun _ => ⟨0, by simpa using hp⟩, fun _ => Int.le_refl _⟩
    · rename_i hp
      split
      · rename_i h1
        have h1 : Lib.index l sub = -1 := by simpa using h1
        constructor
        · intro h; exact absurd h (by decide)
        · rintro ⟨i, hi⟩
          cases i with
          | zero => exact absurd (by simpa using hi) hp
          | succ i => have := ih.2 ⟨i, by simpa using hi⟩; omega
      · rename_i h1
        have h1 : ¬ Lib.index l sub = -1 := by simpa using h1
        constructor
        · intro _
          obtain ⟨i, hi⟩ := ih.1 (by omega)
          exact ⟨i + 1, by simpa using hi⟩
        · intro _; omega
theorem words_fwd : ∀ i, i < 112 → (wordsT.drop i).head? = some 32 → i = 111 ∨ wordsL.contains ((wordsT.drop (i + 1)).takeWhile (fun b => b != 32)) = true := by decide +kernel
theorem words_bwd : ∀ x ∈ wordsL, Lib.contains wordsT ([32] ++ x ++ [32]) = true := by decide +kernel
theorem words_len : wordsT.length = 112 := by decide +kernel
theorem take_while_stop (s : List UInt8) (hs : (32 : UInt8) ∉ s) (r : List UInt8) : (s ++ 32 :: r).takeWhile (fun b => b != 32) = s := by
  induction s with
  | nil => simp
  | cons a l ih =>
    have ha : a ≠ 32 := fun h => hs (by simp [h])
    have hl : (32 : UInt8) ∉ l := fun h => hs (List.mem_cons_of_mem _ h)
    rw [List.cons_append, List.takeWhile_cons, if_pos (by simpa using ha), ih hl]
theorem words_contains {s : Str} (hs : (32 : UInt8) ∉ s) : Lib.contains wordsT ([32] ++ s ++ [32]) = wordsL.contains s := by
  rw [Bool.eq_iff_iff]
  constructor
  · intro h
    unfold Lib.contains at h
    obtain ⟨i, hi⟩ := (index_iff (by simp) _).1 (of_decide_eq_true h)
    obtain ⟨r, hr⟩ := List.isPrefixOf_iff_prefix.1 hi
    have hl : i < 112 := by
      rcases Nat.lt_or_ge i 112 with h1 | h1
      · exact h1
      · rw [List.drop_eq_nil_of_le (by rw [words_len]; exact h1)] at hr; simp at hr
    have e1 : wordsT.drop i = 32 :: (s ++ 32 :: r) := by rw [← hr]; simp
    have e2 : wordsT.drop (i + 1) = s ++ 32 :: r := by
      rw [← List.drop_drop, e1]; rfl
    rcases words_fwd i hl (by rw [e1]; rfl) with h1 | h1
    · subst h1
      rw [List.drop_eq_nil_of_le (by rw [words_len]; exact Nat.le_refl _)] at e2
      simp at e2
    · rw [e2, take_while_stop s hs] at h1; exact h1
  · intro h
    exact words_bwd s (by simpa using h)
theorem nameOk_one {s : Str} (h : oneB 1 s = true) : nameOk s = !Lib.contains wordsT ([32] ++ s ++ [32]) := by
  unfold nameOk; rw [h, words_contains (one_name h)]; rfl
theorem nameOk_no {s : Str} (h : oneB 1 s = false) : nameOk s = false := by unfold nameOk; rw [h]; rfl
/-! the first that is so -/
def firstI {α : Type} (p : α → Bool) (l : List α) : Int := match l.findIdx? p with | some k => k | none => -1
theorem firstI_at {α : Type} {p : α → Bool} {l : List α} {k : Nat} {x : α} (h : ∀ y ∈ l.take k, p y = false) (hx : l[k]? = some x) (hp : p x = true) : firstI p l = k := by
  have hk := (List.getElem?_eq_some_iff.1 hx).1
  have hg := (List.getElem?_eq_some_iff.1 hx).2
  have : l.findIdx? p = some k := by
    rw [List.findIdx?_eq_some_iff_getElem]
    refine ⟨hk, by rw [hg]; exact hp, fun j hj => ?_⟩
    have := h l[j] (by rw [List.mem_take_iff_getElem]; exact ⟨j, by omega, rfl⟩)
    simp [this]
  unfold firstI; rw [this]
theorem firstI_no {α : Type} {p : α → Bool} {l : List α} (h : ∀ y ∈ l, p y = false) : firstI p l = -1 := by
  have : l.findIdx? p = none := by rw [List.findIdx?_eq_none_iff]; exact h
  unfold firstI; rw [this]
theorem firstI_ge {α : Type} (p : α → Bool) (l : List α) : decide (firstI p l ≥ 0) = l.any p := by
  unfold firstI
  cases h : l.findIdx? p with
  | none =>
    rw [List.findIdx?_eq_none_iff] at h
    have : l.any p = false := List.any_eq_false.2 (fun x hx => by simp [h x hx])
    rw [this]; rfl
  | some k =>
    rw [List.findIdx?_eq_some_iff_getElem] at h
    obtain ⟨hk, hp, _⟩ := h
    have : l.any p = true := List.any_eq_true.2 ⟨l[k], List.getElem_mem hk, hp⟩
    rw [this]
    exact decide_eq_true (Int.natCast_nonneg k)
theorem take_all {α : Type} {p : α → Bool} {l : List α} {k : Nat} {x : α} (h : ∀ y ∈ l.take k, p y = false) (hx : l[k]? = some x) (hp : p x = false) : ∀ y ∈ l.take (k + 1), p y = false := by
  obtain ⟨hk, hg⟩ := List.getElem?_eq_some_iff.1 hx
  intro y hy
  rw [List.take_succ_eq_append_getElem hk, List.mem_append, hg] at hy
  rcases hy with hy | hy
  · exact h y hy
  · obtain rfl : y = x := by simpa using hy
    exact hp
theorem look_none {α : Type} (l : List (Int × α)) (n : Int) (z : α) (h : l.all (fun p => decide (p.1 ≠ n)) = true) : (l.lookup n).getD z = z := by
  induction l with
  | nil => rfl
  | cons p l ih =>
    rw [List.all_cons, Bool.and_eq_true, decide_eq_true_eq] at h
    have h2 : (n == p.1) = false := by simpa using fun e => h.1 e.symm
    obtain ⟨q, v⟩ := p
    simp only [List.lookup, h2]
    exact ih h.2
theorem any_not {α : Type} (p : α → Bool) (l : List α) : (!l.any fun x => !p x) = l.all p := by
  induction l with
  | nil => rfl
  | cons x l ih => rw [List.any_cons, List.all_cons, ← ih]; cases p x <;> simp
theorem op_cases9 (op : Nat) : op = 1 ∨ op = 2 ∨ op = 3 ∨ op = 4 ∨ op = 5 ∨ op = 6 ∨ op = 7 ∨ op = 8 ∨ op = 9 ∨ (op = 0 ∨ 10 ≤ op) := by omega
theorem op_cases6 (op : Nat) : op = 1 ∨ op = 2 ∨ op = 3 ∨ op = 4 ∨ op = 5 ∨ op = 6 ∨ (op = 0 ∨ 7 ≤ op) := by omega
theorem srule_miss {op : Nat} (h : op = 0 ∨ 7 ≤ op) (nm : Str) (ks : List Ex) : sruleOk op nm ks = false := by
  unfold sruleOk
  split <;> first | rfl | omega
theorem cmp_int (op : Nat) : cmpOp op = (decide ((op : Int) ≥ 10) && decide ((op : Int) ≤ 15)) := by
  unfold cmpOp
  have h1 : decide (10 ≤ op) = decide ((op : Int) ≥ 10) := by congr 1; apply propext; omega
  have h2 : decide (op ≤ 15) = decide ((op : Int) ≤ 15) := by congr 1; apply propext; omega
  rw [h1, h2]
theorem rule_miss {op : Nat} (h : op = 0 ∨ 10 ≤ op) (nm : Str) (n : Nat) : ruleOk op nm n = false := by
  unfold ruleOk
  split <;> first | rfl | omega
end Go.Tree
end

section
namespace Go.Proofs.YtcmcdgkjipnfnaaDoor
open Go.RowKit Go.Sx
open Go.Tok Go.Tree
theorem Toks.cellS {l : List Tk} {a : Option Addr} {c k : Nat} {W : Heap} (h : Toks (.slice a l.length c) l W) (hk : k < l.length) : ∃ b, a = some ⟨b, 0, none⟩ ∧ ∀ (B : Base) (L : Heap) (w : World), (∀ p ∈ W, p ∈ L) → St B L w → ∀ (t : Tk), l[k]? = some t → ∀ (j : Nat) u, (tkC t)[j]? = some u → w.cell? ⟨b, 0 + k * 3 + j, none⟩ = some u := by
  obtain ⟨b, rfl, hc⟩ := Own.cell h hk
  exact ⟨b, rfl, fun B L w hW hw t ht j u hu => by rw [Nat.zero_add]; exact hc B L w hW hw _ u (tks_at l k t ht j u hu)⟩
/-- what the world must have: the tables of Go's library -/
structure Wd (w : World) : Prop where
  tb : Tb w
  gs : 0 < w.heap.size
  ml : ∃ m, w.cell? ⟨2, 0, none⟩ = some (.int .i64 m)
theorem Wd.ext {w w' : World} (h : Wd w) (k : Ext w w') : Wd w' := ⟨h.tb.fr k (fun x => x), Nat.le_trans h.gs k.size, by obtain ⟨m, hm⟩ := h.ml; exact ⟨m, k.cell hm (fun x => x)⟩⟩
theorem Wd.now {w w' : World} {B : Base} {L : Heap} (h : Wd w) (hx : (w, No) ∈ B) (hw : St B L w') : Wd w' := h.ext (hw.fr _ hx)
theorem Contains_spec (s t : List UInt8) (w : World) (hs : s.length < 4294967281) (hw : Wd w) : Ret Tryd.prog 19 #[str s, str t] w fun v w' => v = .bool (Lib.contains s t) ∧ Ext w w' := by
  obtain ⟨m, hm⟩ := hw.ml
  exact Calls.mono (Tryd.strings_Contains ⟨s.toArray⟩ ⟨t.toArray⟩ m w hs hm) fun e w' ⟨h1, h2⟩ => ⟨_, h1, by simp, by rw [h2]; exact Fr.refl _ _⟩

set_option maxRecDepth 100000 in
set_option maxHeartbeats 400000 in
theorem one_spec (s : Str) (k : Nat) (hs : s.length ≤ 10000000) (w : World) (hW : Wd w) :
    Ret Tryd.prog 18 #[str s, .int .u8 (k : Nat)] w (fun v w' => v = .bool (oneB k s) ∧ Ext w w') := by
  have ht := hW.tb
  have hgs := hW.gs
  refine enter (S := No) (l := [_, _]) (L := []) 36 Tryd.func18 rfl rfl rfl (St.start w No) ?_
  refine c_seq ?_; refine c_region ?_; refine w_asg (v := .bool _) rfl ?_; refine w_nil ?_; refine k_on ?_; refine c_seq ?_; refine c_region ?_; refine w_move (v := str _) rfl ?_
  refine w_callW (R := RdV (readP s)) (fun w => R_call Tryd.func12 rfl rfl rfl) rfl rfl (fun w h => Read_spec s hs w (ht.fr (h.fr _ (.head _)) (fun x => x)) (Nat.le_trans hgs (h.fr _ (.head _)).size)) ?_
  refine fun u W1 hR1 => w_st (fun w h => h.perm List.perm_append_comm) ?_
  obtain ⟨a1, c1, rfl, hT1⟩ := hR1
  refine w_move rfl ?_; refine w_r (fun _ => R_extract rfl rfl) rfl rfl ?_; refine w_r (fun _ => R_extract rfl rfl) rfl rfl ?_
  refine w_alloc zr41 (fun t6b gt6b ut6b => ?_)
  refine w_asg (v := .slice _ _ _) rfl ?_; refine w_store 0 rfl z41 rfl rfl rfl rfl rfl rfl rfl ?_; refine w_nil ?_; refine k_on ?_; refine c_seq ?_; refine c_region ?_
  refine w_fa fa41_0 rfl ?_; refine w_load z32 rfl (fun _ h => cel_own 0 rfl rfl h) ?_; refine w_r (fun _ => R_eq rfl rfl) rfl rfl ?_; refine w_move (v := .bool _) rfl ?_
  refine w_splitD (t := 15) rfl (fun h2 => ?_) (fun h2 => ?_)
  · refine w_want rfl rfl (congrArg Value.bool (decide_eq_true h2)) ?_; refine w_move (v := .slice _ _ _) rfl ?_; refine w_want rfl rfl (congrArg Value.bool (decide_eq_true h2)) ?_
    refine w_r (fun _ => R_len sl39 rfl) rfl rfl ?_; refine w_want rfl rfl (congrArg Value.bool (decide_eq_true h2)) ?_; refine w_r (fun _ => R_eq rfl rfl) rfl rfl ?_
    refine w_r (v := .bool _) (fun _ => R_pickT (congrArg Value.bool (decide_eq_true h2)) rfl) rfl rfl ?_; refine w_move (v := .bool _) rfl ?_
    refine w_splitD (t := 20) rfl (fun h3 => ?_) (fun h3 => ?_)
    · obtain ⟨b1, rfl, hc1⟩ := hT1.cellS (k := 0) (by omega); obtain ⟨t, q1⟩ : ∃ t, (readP s).1[0]? = some t := ⟨_, List.getElem?_eq_getElem (by omega)⟩; have e1 := oneB_at (k := k) (by omega) q1 (by omega)
      refine w_want rfl rfl (congrArg Value.bool (decide_eq_true h3)) ?_; refine w_move (v := .slice _ _ _) rfl ?_; refine w_want rfl rfl (congrArg Value.bool (decide_eq_true h3)) ?_
      refine w_r (fun _ => R_iaN (i := 0) sl39 rfl rfl (by first | omega | decide)) rfl rfl ?_; refine w_want rfl rfl (congrArg Value.bool (decide_eq_true h3)) ?_
      refine w_fa fa80_0 rfl ?_; refine w_want rfl rfl (congrArg Value.bool (decide_eq_true h3)) ?_; refine w_load z5 rfl (fun _ h => by first | exact cel_own 0 rfl rfl h | exact hc1 _ _ _ (fun p hp => by simp [hp]) h _ q1 _ _ rfl) ?_
      refine w_want rfl rfl (congrArg Value.bool (decide_eq_true h3)) ?_; refine w_move (v := .int _ _) rfl ?_; refine w_want rfl rfl (congrArg Value.bool (decide_eq_true h3)) ?_
      refine w_r (fun _ => R_eq rfl rfl) rfl rfl ?_; refine w_r (v := .bool _) (fun _ => R_pickT (congrArg Value.bool (decide_eq_true h3)) rfl) rfl rfl ?_; refine w_move (v := .bool _) rfl ?_
      refine w_splitD (t := 28) rfl (fun h4 => ?_) (fun h4 => ?_)
      · refine w_want rfl rfl (congrArg Value.bool (decide_eq_true h4)) ?_; refine w_move (v := .slice _ _ _) rfl ?_; refine w_want rfl rfl (congrArg Value.bool (decide_eq_true h4)) ?_
        refine w_r (fun _ => R_iaN (i := 0) sl39 rfl rfl (by first | omega | decide)) rfl rfl ?_; refine w_want rfl rfl (congrArg Value.bool (decide_eq_true h4)) ?_
        refine w_fa fa80_1 rfl ?_; refine w_want rfl rfl (congrArg Value.bool (decide_eq_true h4)) ?_; refine w_load z9 rfl (fun _ h => by first | exact cel_own 0 rfl rfl h | exact hc1 _ _ _ (fun p hp => by simp [hp]) h _ q1 _ _ rfl) ?_
        refine w_want rfl rfl (congrArg Value.bool (decide_eq_true h4)) ?_; refine w_move (v := str _) rfl ?_; refine w_want rfl rfl (congrArg Value.bool (decide_eq_true h4)) ?_
        refine w_r (fun _ => R_seq rfl rfl) rfl rfl ?_; refine w_r (v := .bool _) (fun _ => R_pickT (congrArg Value.bool (decide_eq_true h4)) rfl) rfl rfl ?_; refine w_asg (v := .bool _) rfl ?_
        refine w_nil ?_; refine k_on ?_; refine c_ret ?_
        refine r_one (v := .bool _) rfl rfl rfl ?_
        exact fun w' hw => ⟨by rw [e1, decide_eq_true h4]; rfl, hw.fr _ (.head _)⟩
      · refine w_skip rfl rfl (congrArg Value.bool (decide_eq_false h4)) ?_; refine w_skip rfl rfl (congrArg Value.bool (decide_eq_false h4)) ?_; refine w_skip rfl rfl (congrArg Value.bool (decide_eq_false h4)) ?_
        refine w_skip rfl rfl (congrArg Value.bool (decide_eq_false h4)) ?_; refine w_skip rfl rfl (congrArg Value.bool (decide_eq_false h4)) ?_; refine w_skip rfl rfl (congrArg Value.bool (decide_eq_false h4)) ?_
        refine w_r (v := .bool _) (fun _ => R_pickF (congrArg Value.bool (decide_eq_false h4)) rfl) rfl rfl ?_; refine w_asg (v := .bool _) rfl ?_; refine w_nil ?_
        refine k_on ?_; refine c_ret ?_
        refine r_one (v := .bool _) rfl rfl rfl ?_
        exact fun w' hw => ⟨by rw [e1, decide_eq_false h4]; rfl, hw.fr _ (.head _)⟩
    · refine w_skip rfl rfl (congrArg Value.bool (decide_eq_false h3)) ?_; refine w_skip rfl rfl (congrArg Value.bool (decide_eq_false h3)) ?_; refine w_skip rfl rfl (congrArg Value.bool (decide_eq_false h3)) ?_
      refine w_skip rfl rfl (congrArg Value.bool (decide_eq_false h3)) ?_; refine w_skip rfl rfl (congrArg Value.bool (decide_eq_false h3)) ?_; refine w_skip rfl rfl (congrArg Value.bool (decide_eq_false h3)) ?_
      refine w_r (v := .bool _) (fun _ => R_pickF (congrArg Value.bool (decide_eq_false h3)) rfl) rfl rfl ?_; refine w_move (v := .bool _) rfl ?_; refine w_skip rfl rfl rfl ?_
      refine w_skip rfl rfl rfl ?_; refine w_skip rfl rfl rfl ?_; refine w_skip rfl rfl rfl ?_; refine w_skip rfl rfl rfl ?_; refine w_skip rfl rfl rfl ?_; refine w_r (v := .bool _) (fun _ => R_pickF rfl rfl) rfl rfl ?_
      refine w_asg (v := .bool _) rfl ?_; refine w_nil ?_; refine k_on ?_; refine c_ret ?_
      refine r_one (v := .bool _) rfl rfl rfl ?_
      exact fun w' hw => ⟨by rw [oneB_len (by omega)], hw.fr _ (.head _)⟩
  · refine w_skip rfl rfl (congrArg Value.bool (decide_eq_false h2)) ?_; refine w_skip rfl rfl (congrArg Value.bool (decide_eq_false h2)) ?_; refine w_skip rfl rfl (congrArg Value.bool (decide_eq_false h2)) ?_
    refine w_r (v := .bool _) (fun _ => R_pickF (congrArg Value.bool (decide_eq_false h2)) rfl) rfl rfl ?_; refine w_move (v := .bool _) rfl ?_; refine w_skip rfl rfl rfl ?_
    refine w_skip rfl rfl rfl ?_; refine w_skip rfl rfl rfl ?_; refine w_skip rfl rfl rfl ?_; refine w_skip rfl rfl rfl ?_; refine w_skip rfl rfl rfl ?_; refine w_r (v := .bool _) (fun _ => R_pickF rfl rfl) rfl rfl ?_
    refine w_move (v := .bool _) rfl ?_; refine w_skip rfl rfl rfl ?_; refine w_skip rfl rfl rfl ?_; refine w_skip rfl rfl rfl ?_; refine w_skip rfl rfl rfl ?_; refine w_skip rfl rfl rfl ?_
    refine w_skip rfl rfl rfl ?_; refine w_r (v := .bool _) (fun _ => R_pickF rfl rfl) rfl rfl ?_; refine w_asg (v := .bool _) rfl ?_; refine w_nil ?_; refine k_on ?_
    refine c_ret ?_
    refine r_one (v := .bool _) rfl rfl rfl ?_
    exact fun w' hw => ⟨by rw [oneB_E (by omega)], hw.fr _ (.head _)⟩

set_option maxRecDepth 100000 in
set_option maxHeartbeats 400000 in
theorem Name_spec (s : Str) (hs : s.length ≤ 10000000) (w : World) (hW : Wd w) :
    Ret Tryd.prog 7 #[str s] w (fun v w' => v = .bool (nameOk s) ∧ Ext w w') := by
  refine enter (S := No) (l := [_]) (L := []) 12 Tryd.func7 rfl rfl rfl (St.start w No) ?_
  refine c_seq ?_; refine c_region ?_; refine w_asg (v := .bool _) rfl ?_; refine w_nil ?_; refine k_on ?_; refine c_seq ?_; refine c_region ?_; refine w_move (v := str _) rfl ?_
  refine w_call (fun w => R_call Tryd.func18 rfl rfl rfl) rfl rfl (fun w h => one_spec _ 1 (by omega) w (hW.now (.head _) h)) ?_; refine w_move (v := .bool _) rfl ?_
  refine w_split (t := 5) rfl (fun h1 => ?_) (fun h1 => ?_)
  · refine w_want rfl rfl (congrArg Value.bool h1) ?_; refine w_move (v := str _) rfl ?_; refine w_want rfl rfl (congrArg Value.bool h1) ?_; refine w_r (fun _ => R_cat rfl rfl (by simp only [List.length_append, List.length_cons, List.length_nil]; omega)) rfl rfl ?_
    refine w_want rfl rfl (congrArg Value.bool h1) ?_; refine w_r (fun _ => R_cat rfl rfl (by simp only [List.length_append, List.length_cons, List.length_nil]; omega)) rfl rfl ?_
    refine w_want rfl rfl (congrArg Value.bool h1) ?_; refine w_call (fun w => R_call Tryd.func19 rfl rfl rfl) rfl rfl (fun w h => Contains_spec wordsT ([32] ++ s ++ [32]) w (by decide) (hW.now (.head _) h)) ?_
    refine w_want rfl rfl (congrArg Value.bool h1) ?_; refine w_r (fun _ => R_not rfl) rfl rfl ?_; refine w_r (v := .bool _) (fun _ => R_pickT (congrArg Value.bool h1) rfl) rfl rfl ?_
    refine w_asg (v := .bool _) rfl ?_; refine w_nil ?_; refine k_on ?_; refine c_ret ?_
    refine r_one (v := .bool _) rfl rfl rfl ?_
    exact fun w' hw => ⟨by rw [nameOk_one h1], hw.fr _ (.head _)⟩
  · refine w_skip rfl rfl (congrArg Value.bool h1) ?_; refine w_skip rfl rfl (congrArg Value.bool h1) ?_; refine w_skip rfl rfl (congrArg Value.bool h1) ?_; refine w_skip rfl rfl (congrArg Value.bool h1) ?_
    refine w_skip rfl rfl (congrArg Value.bool h1) ?_; refine w_r (v := .bool _) (fun _ => R_pickF (congrArg Value.bool h1) rfl) rfl rfl ?_; refine w_asg (v := .bool _) rfl ?_
    refine w_nil ?_; refine k_on ?_; refine c_ret ?_
    refine r_one (v := .bool _) rfl rfl rfl ?_
    exact fun w' hw => ⟨by rw [nameOk_no h1], hw.fr _ (.head _)⟩

set_option maxRecDepth 100000 in
set_option maxHeartbeats 400000 in
theorem expr1_spec (w : World) (hW : Wd w) (p1 : Nat) (bare : Bool) (hq1 : w.heap[p1]? = some (cel [.bool bare] 4)) (p2 : Nat) (n : Nat) (hq2 : w.heap[p2]? = some (cel [.int .i64 (n : Nat)] 3)) :
    Ret Tryd.prog 64 #[.pointer (some ⟨p1, 0, none⟩), .pointer (some ⟨p2, 0, none⟩)] w (fun v w' => v = .bool (bare && decide (n = 2)) ∧ Ext w w') := by
  refine enter (S := No) (l := [_, _]) (L := []) 8 Tryd.func64 rfl rfl rfl (St.start w No) ?_
  refine c_seq ?_; refine c_region ?_; refine w_asg (v := .bool _) rfl ?_; refine w_nil ?_; refine k_on ?_; refine c_seq ?_; refine c_region ?_; refine w_load z4 rfl (fun _ h => cel_oldb hq1 (.head _) id rfl h) ?_
  refine w_move (v := .bool _) rfl ?_
  refine w_split (t := 4) rfl (fun h1 => ?_) (fun h1 => ?_)
  · refine w_want rfl rfl (congrArg Value.bool h1) ?_; refine w_load z3 rfl (fun _ h => cel_oldb hq2 (.head _) id rfl h) ?_; refine w_want rfl rfl (congrArg Value.bool h1) ?_
    refine w_r (fun _ => R_eq rfl rfl) rfl rfl ?_; refine w_r (v := .bool _) (fun _ => R_pickT (congrArg Value.bool h1) rfl) rfl rfl ?_; refine w_asg (v := .bool _) rfl ?_
    refine w_nil ?_; refine k_on ?_; refine c_ret ?_
    refine r_one (v := .bool _) rfl rfl rfl ?_
    exact fun w' hw => ⟨by simp_all <;> omega, hw.fr _ (.head _)⟩
  · refine w_skip rfl rfl (congrArg Value.bool h1) ?_; refine w_skip rfl rfl (congrArg Value.bool h1) ?_; refine w_r (v := .bool _) (fun _ => R_pickF (congrArg Value.bool h1) rfl) rfl rfl ?_
    refine w_asg (v := .bool _) rfl ?_; refine w_nil ?_; refine k_on ?_; refine c_ret ?_
    refine r_one (v := .bool _) rfl rfl rfl ?_
    exact fun w' hw => ⟨by simp_all <;> omega, hw.fr _ (.head _)⟩

set_option maxRecDepth 100000 in
set_option maxHeartbeats 400000 in
theorem expr2_spec (w : World) (hW : Wd w) (p2 : Nat) (n : Nat) (hq2 : w.heap[p2]? = some (cel [.int .i64 (n : Nat)] 3)) (p3 : Nat) (op : Nat) (at_ : Int) (nm : Str) (v4 : Value) (hq3 : w.heap[p3]? = some (cel [.int .u8 (op : Nat), .int .i64 at_, str nm, v4] 49)) (hs : nm.length ≤ 10000000) :
    Ret Tryd.prog 65 #[.pointer (some ⟨p2, 0, none⟩), .pointer (some ⟨p3, 0, none⟩)] w (fun v w' => v = .bool (decide (n = 0) && oneB 2 nm) ∧ Ext w w') := by
  refine enter (S := No) (l := [_, _]) (L := []) 10 Tryd.func65 rfl rfl rfl (St.start w No) ?_
  refine c_seq ?_; refine c_region ?_; refine w_asg (v := .bool _) rfl ?_; refine w_nil ?_; refine k_on ?_; refine c_seq ?_; refine c_region ?_; refine w_load z3 rfl (fun _ h => cel_oldb hq2 (.head _) id rfl h) ?_
  refine w_r (fun _ => R_eq rfl rfl) rfl rfl ?_; refine w_move (v := .bool _) rfl ?_
  refine w_splitD (t := 5) rfl (fun h1 => ?_) (fun h1 => ?_)
  · refine w_want rfl rfl (congrArg Value.bool (decide_eq_true h1)) ?_; refine w_fa fa49_2 rfl ?_; refine w_want rfl rfl (congrArg Value.bool (decide_eq_true h1)) ?_
    refine w_load z9 rfl (fun _ h => cel_oldb hq3 (.head _) id rfl h) ?_; refine w_want rfl rfl (congrArg Value.bool (decide_eq_true h1)) ?_; refine w_call (fun w => R_call Tryd.func18 rfl rfl rfl) rfl rfl (fun w h => one_spec _ 2 (by omega) w (hW.now (.head _) h)) ?_
    refine w_r (v := .bool _) (fun _ => R_pickT (congrArg Value.bool (decide_eq_true h1)) rfl) rfl rfl ?_; refine w_asg (v := .bool _) rfl ?_; refine w_nil ?_; refine k_on ?_
    refine c_ret ?_
    refine r_one (v := .bool _) rfl rfl rfl ?_
    exact fun w' hw => ⟨by simp_all <;> omega, hw.fr _ (.head _)⟩
  · refine w_skip rfl rfl (congrArg Value.bool (decide_eq_false h1)) ?_; refine w_skip rfl rfl (congrArg Value.bool (decide_eq_false h1)) ?_; refine w_skip rfl rfl (congrArg Value.bool (decide_eq_false h1)) ?_
    refine w_r (v := .bool _) (fun _ => R_pickF (congrArg Value.bool (decide_eq_false h1)) rfl) rfl rfl ?_; refine w_asg (v := .bool _) rfl ?_; refine w_nil ?_
    refine k_on ?_; refine c_ret ?_
    refine r_one (v := .bool _) rfl rfl rfl ?_
    exact fun w' hw => ⟨by simp_all <;> omega, hw.fr _ (.head _)⟩

set_option maxRecDepth 100000 in
set_option maxHeartbeats 400000 in
theorem expr3_spec (w : World) (hW : Wd w) (p2 : Nat) (n : Nat) (hq2 : w.heap[p2]? = some (cel [.int .i64 (n : Nat)] 3)) (p3 : Nat) (op : Nat) (at_ : Int) (nm : Str) (v4 : Value) (hq3 : w.heap[p3]? = some (cel [.int .u8 (op : Nat), .int .i64 at_, str nm, v4] 49)) (hs : nm.length ≤ 10000000) :
    Ret Tryd.prog 66 #[.pointer (some ⟨p2, 0, none⟩), .pointer (some ⟨p3, 0, none⟩)] w (fun v w' => v = .bool (decide (n = 0) && nameOk nm) ∧ Ext w w') := by
  refine enter (S := No) (l := [_, _]) (L := []) 10 Tryd.func66 rfl rfl rfl (St.start w No) ?_
  refine c_seq ?_; refine c_region ?_; refine w_asg (v := .bool _) rfl ?_; refine w_nil ?_; refine k_on ?_; refine c_seq ?_; refine c_region ?_; refine w_load z3 rfl (fun _ h => cel_oldb hq2 (.head _) id rfl h) ?_
  refine w_r (fun _ => R_eq rfl rfl) rfl rfl ?_; refine w_move (v := .bool _) rfl ?_
  refine w_splitD (t := 5) rfl (fun h1 => ?_) (fun h1 => ?_)
  · refine w_want rfl rfl (congrArg Value.bool (decide_eq_true h1)) ?_; refine w_fa fa49_2 rfl ?_; refine w_want rfl rfl (congrArg Value.bool (decide_eq_true h1)) ?_
    refine w_load z9 rfl (fun _ h => cel_oldb hq3 (.head _) id rfl h) ?_; refine w_want rfl rfl (congrArg Value.bool (decide_eq_true h1)) ?_; refine w_call (fun w => R_call Tryd.func7 rfl rfl rfl) rfl rfl (fun w h => Name_spec _ (by omega) w (hW.now (.head _) h)) ?_
    refine w_r (v := .bool _) (fun _ => R_pickT (congrArg Value.bool (decide_eq_true h1)) rfl) rfl rfl ?_; refine w_asg (v := .bool _) rfl ?_; refine w_nil ?_; refine k_on ?_
    refine c_ret ?_
    refine r_one (v := .bool _) rfl rfl rfl ?_
    exact fun w' hw => ⟨by simp_all <;> omega, hw.fr _ (.head _)⟩
  · refine w_skip rfl rfl (congrArg Value.bool (decide_eq_false h1)) ?_; refine w_skip rfl rfl (congrArg Value.bool (decide_eq_false h1)) ?_; refine w_skip rfl rfl (congrArg Value.bool (decide_eq_false h1)) ?_
    refine w_r (v := .bool _) (fun _ => R_pickF (congrArg Value.bool (decide_eq_false h1)) rfl) rfl rfl ?_; refine w_asg (v := .bool _) rfl ?_; refine w_nil ?_
    refine k_on ?_; refine c_ret ?_
    refine r_one (v := .bool _) rfl rfl rfl ?_
    exact fun w' hw => ⟨by simp_all <;> omega, hw.fr _ (.head _)⟩

set_option maxRecDepth 100000 in
set_option maxHeartbeats 400000 in
theorem expr4_spec (w : World) (hW : Wd w) (p2 : Nat) (n : Nat) (hq2 : w.heap[p2]? = some (cel [.int .i64 (n : Nat)] 3)) (p3 : Nat) (op : Nat) (at_ : Int) (nm : Str) (v4 : Value) (hq3 : w.heap[p3]? = some (cel [.int .u8 (op : Nat), .int .i64 at_, str nm, v4] 49)) (hs : nm.length ≤ 10000000) :
    Ret Tryd.prog 67 #[.pointer (some ⟨p2, 0, none⟩), .pointer (some ⟨p3, 0, none⟩)] w (fun v w' => v = .bool (decide (n = 1) && nameOk nm) ∧ Ext w w') := by
  refine enter (S := No) (l := [_, _]) (L := []) 10 Tryd.func67 rfl rfl rfl (St.start w No) ?_
  refine c_seq ?_; refine c_region ?_; refine w_asg (v := .bool _) rfl ?_; refine w_nil ?_; refine k_on ?_; refine c_seq ?_; refine c_region ?_; refine w_load z3 rfl (fun _ h => cel_oldb hq2 (.head _) id rfl h) ?_
  refine w_r (fun _ => R_eq rfl rfl) rfl rfl ?_; refine w_move (v := .bool _) rfl ?_
  refine w_splitD (t := 5) rfl (fun h1 => ?_) (fun h1 => ?_)
  · refine w_want rfl rfl (congrArg Value.bool (decide_eq_true h1)) ?_; refine w_fa fa49_2 rfl ?_; refine w_want rfl rfl (congrArg Value.bool (decide_eq_true h1)) ?_
    refine w_load z9 rfl (fun _ h => cel_oldb hq3 (.head _) id rfl h) ?_; refine w_want rfl rfl (congrArg Value.bool (decide_eq_true h1)) ?_; refine w_call (fun w => R_call Tryd.func7 rfl rfl rfl) rfl rfl (fun w h => Name_spec _ (by omega) w (hW.now (.head _) h)) ?_
    refine w_r (v := .bool _) (fun _ => R_pickT (congrArg Value.bool (decide_eq_true h1)) rfl) rfl rfl ?_; refine w_asg (v := .bool _) rfl ?_; refine w_nil ?_; refine k_on ?_
    refine c_ret ?_
    refine r_one (v := .bool _) rfl rfl rfl ?_
    exact fun w' hw => ⟨by simp_all <;> omega, hw.fr _ (.head _)⟩
  · refine w_skip rfl rfl (congrArg Value.bool (decide_eq_false h1)) ?_; refine w_skip rfl rfl (congrArg Value.bool (decide_eq_false h1)) ?_; refine w_skip rfl rfl (congrArg Value.bool (decide_eq_false h1)) ?_
    refine w_r (v := .bool _) (fun _ => R_pickF (congrArg Value.bool (decide_eq_false h1)) rfl) rfl rfl ?_; refine w_asg (v := .bool _) rfl ?_; refine w_nil ?_
    refine k_on ?_; refine c_ret ?_
    refine r_one (v := .bool _) rfl rfl rfl ?_
    exact fun w' hw => ⟨by simp_all <;> omega, hw.fr _ (.head _)⟩

set_option maxRecDepth 100000 in
set_option maxHeartbeats 400000 in
theorem expr5_spec (w : World) (hW : Wd w) (p3 : Nat) (op : Nat) (at_ : Int) (nm : Str) (v4 : Value) (hq3 : w.heap[p3]? = some (cel [.int .u8 (op : Nat), .int .i64 at_, str nm, v4] 49)) (hs : nm.length ≤ 10000000) :
    Ret Tryd.prog 68 #[.pointer (some ⟨p3, 0, none⟩)] w (fun v w' => v = .bool (nameOk nm) ∧ Ext w w') := by
  refine enter (S := No) (l := [_]) (L := []) 5 Tryd.func68 rfl rfl rfl (St.start w No) ?_
  refine c_seq ?_; refine c_region ?_; refine w_asg (v := .bool _) rfl ?_; refine w_nil ?_; refine k_on ?_; refine c_seq ?_; refine c_region ?_; refine w_fa fa49_2 rfl ?_
  refine w_load z9 rfl (fun _ h => cel_oldb hq3 (.head _) id rfl h) ?_; refine w_call (fun w => R_call Tryd.func7 rfl rfl rfl) rfl rfl (fun w h => Name_spec _ (by omega) w (hW.now (.head _) h)) ?_
  refine w_asg (v := .bool _) rfl ?_; refine w_nil ?_; refine k_on ?_; refine c_ret ?_
  refine r_one (v := .bool _) rfl rfl rfl ?_
  exact fun w' hw => ⟨by simp_all <;> omega, hw.fr _ (.head _)⟩

set_option maxRecDepth 100000 in
set_option maxHeartbeats 400000 in
theorem expr6_spec (w : World) (hW : Wd w) (p1 : Nat) (bare : Bool) (hq1 : w.heap[p1]? = some (cel [.bool bare] 4)) (p2 : Nat) (n : Nat) (hq2 : w.heap[p2]? = some (cel [.int .i64 (n : Nat)] 3)) :
    Ret Tryd.prog 69 #[.pointer (some ⟨p1, 0, none⟩), .pointer (some ⟨p2, 0, none⟩)] w (fun v w' => v = .bool (bare && decide (n = 1)) ∧ Ext w w') := by
  refine enter (S := No) (l := [_, _]) (L := []) 8 Tryd.func69 rfl rfl rfl (St.start w No) ?_
  refine c_seq ?_; refine c_region ?_; refine w_asg (v := .bool _) rfl ?_; refine w_nil ?_; refine k_on ?_; refine c_seq ?_; refine c_region ?_; refine w_load z4 rfl (fun _ h => cel_oldb hq1 (.head _) id rfl h) ?_
  refine w_move (v := .bool _) rfl ?_
  refine w_split (t := 4) rfl (fun h1 => ?_) (fun h1 => ?_)
  · refine w_want rfl rfl (congrArg Value.bool h1) ?_; refine w_load z3 rfl (fun _ h => cel_oldb hq2 (.head _) id rfl h) ?_; refine w_want rfl rfl (congrArg Value.bool h1) ?_
    refine w_r (fun _ => R_eq rfl rfl) rfl rfl ?_; refine w_r (v := .bool _) (fun _ => R_pickT (congrArg Value.bool h1) rfl) rfl rfl ?_; refine w_asg (v := .bool _) rfl ?_
    refine w_nil ?_; refine k_on ?_; refine c_ret ?_
    refine r_one (v := .bool _) rfl rfl rfl ?_
    exact fun w' hw => ⟨by simp_all <;> omega, hw.fr _ (.head _)⟩
  · refine w_skip rfl rfl (congrArg Value.bool h1) ?_; refine w_skip rfl rfl (congrArg Value.bool h1) ?_; refine w_r (v := .bool _) (fun _ => R_pickF (congrArg Value.bool h1) rfl) rfl rfl ?_
    refine w_asg (v := .bool _) rfl ?_; refine w_nil ?_; refine k_on ?_; refine c_ret ?_
    refine r_one (v := .bool _) rfl rfl rfl ?_
    exact fun w' hw => ⟨by simp_all <;> omega, hw.fr _ (.head _)⟩


/-- expr tells of all that are smaller -/
def ExprH (n : Nat) : Prop := ∀ (x : Ex) (cs : List Value) (N : Nat → Prop) (w : World), exW x < n → exM w N x cs → Wd w → Ret Tryd.prog 38 #[.agg cs.toArray] w fun v w' => v = .bool (exOk x) ∧ Ext w w'

set_option maxRecDepth 100000 in
set_option maxHeartbeats 400000 in
theorem exprsC_spec (n : Nat) (ih : ExprH n) (hn : n ≤ 10000000) (x : Ex) (cs : List Value) (N : Nat → Prop) (w : World) (hx : exW x < n) (hm : exM w N x cs) (hW : Wd w) :
    Ret Tryd.prog 92 #[.agg cs.toArray] w (fun v w' => v = .bool (!exOk x) ∧ Ext w w') := by
  obtain ⟨op, at_, nm, ks⟩ := x
  have hm2 := hm
  unfold exM at hm2
  obtain ⟨ka, kc, rfl, hkc, hks⟩ := hm2
  have hx2 := hx
  unfold exW at hx2
  refine enter (S := No) (l := [_]) (L := []) 6 Tryd.func92 rfl rfl rfl (St.start w No) ?_
  refine c_seq ?_; refine c_region ?_
  refine w_boxA rfl (fun b1 gb1 ub1 => ?_)
  refine w_asg (v := .bool _) rfl ?_; refine w_nil ?_; refine k_on ?_; refine c_seq ?_; refine c_region ?_; refine w_loadA z49 rfl (fun _ h => h.at_ 0 rfl) rfl ?_; refine w_call (fun w => R_call Tryd.func38 rfl rfl rfl) rfl rfl (fun w h => ih _ _ N w hx (hm.now (fun _ _ hh => hh) (.head _) h) (hW.now (.head _) h)) ?_
  refine w_r (fun _ => R_not rfl) rfl rfl ?_; refine w_asg (v := .bool _) rfl ?_; refine w_nil ?_; refine k_on ?_; refine c_ret ?_
  refine r_one (v := .bool _) rfl rfl rfl ?_
  exact fun w' hw => ⟨rfl, hw.fr _ (.head _)⟩

set_option maxRecDepth 100000 in
set_option maxHeartbeats 400000 in
theorem idxE_spec (n : Nat) (ih : ExprH n) (hn : n ≤ 10000000) (l : List Ex) (a : Option Addr) (c : Nat) (N : Nat → Prop) (w : World) (hl : ∀ x ∈ l, exW x < n) (hll : l.length ≤ 10000000) (hm : exsM w N l a 0) (hW : Wd w) :
    Ret Tryd.prog 112 #[.slice a l.length c, .func (.func 92) #[] #[]] w (fun v w' => v = .int .i64 (firstI (fun x => !exOk x) l) ∧ Ext w w') := by
  refine enter (S := No) (l := [_, _]) (L := []) 19 Tryd.func112 rfl rfl rfl (St.start w No) ?_
  refine c_seq ?_; refine c_region ?_; refine w_asg (v := .int _ _) rfl ?_; refine w_nil ?_; refine k_on ?_; refine c_seq ?_; refine c_seq ?_; refine c_region ?_; refine w_move (v := .slice _ _ _) rfl ?_
  refine w_r (fun _ => R_len sl36 rfl) rfl rfl ?_; refine w_move (v := .int _ _) rfl ?_; refine w_nil ?_; refine k_on ?_; refine c_block ?_
  refine c_loop (fun m e B L => ∃ (k : Nat), e 0 = .slice a l.length c ∧ e 1 = .func (.func 92) #[] #[] ∧ e 7 = .int .i64 (l.length : Nat) ∧ e 8 = .int .i64 (k : Nat) ∧ B = [(w, No)] ∧ L = [] ∧ k ≤ l.length ∧ (∀ y ∈ l.take k, (!exOk y) = false) ∧ m = l.length - k) _ ⟨0, rfl, rfl, rfl, rfl, rfl, rfl, Nat.zero_le _, (by simp), rfl⟩ ?_
  rintro m e B L ⟨k, e0_1, e1_1, e7_1, e8_1, rfl, rfl, hk, hy, rfl⟩
  refine c_seq ?_; refine c_region ?_; refine w_r (fun _ => R_lt e8_1 e7_1) rfl rfl ?_; refine w_nil ?_; refine k_on ?_; refine c_seq ?_
  refine c_condD rfl (fun h1 => ?_) (fun h1 => ?_)
  · have hlt : k < l.length := (by omega); obtain ⟨x, hxk⟩ : ∃ x, l[k]? = some x := ⟨_, List.getElem?_eq_getElem hlt⟩; obtain ⟨cs, hA, hE⟩ := hm.get0 hxk; have hxn := hl x (List.mem_of_getElem? hxk); obtain ⟨b1, o1, rfl⟩ := hA.ptr; obtain ⟨op, at_, nm, ks⟩ := x; have hE2 := hE; unfold exM at hE2; obtain ⟨ka, kc, rfl, hkc, hks⟩ := hE2
    refine c_skip ?_; refine k_on ?_; refine c_seq ?_; refine c_block ?_; refine c_seq ?_; refine c_region ?_; refine w_move (v := .int _ _) e8_1 ?_; refine w_asg (v := .int _ _) rfl ?_
    refine w_nil ?_; refine k_on ?_; refine c_seq ?_; refine c_region ?_; refine w_move e1_1 ?_; refine w_move (v := .slice _ _ _) e0_1 ?_; refine w_move (v := .int _ _) rfl ?_
    refine w_r (fun _ => R_iaN (i := k) sl36 rfl rfl (by first | omega | decide)) rfl rfl ?_
    refine w_loadC (l := [.int .u8 (op : Nat), .int .i64 at_, str nm, .slice ka ks.length kc]) z49 rfl rfl (fun w h j v hj => hA.cell (fun _ _ hh => hh) (.head _) h j v hj) ?_
    refine w_call (fun w => R_callv rfl Tryd.func92 rfl rfl) rfl rfl (fun w h => exprsC_spec n ih hn _ _ N w hxn (hE.now (fun _ _ hh => hh) (.head _) h) (hW.now (.head _) h)) ?_
    refine w_nil ?_; refine k_on ?_
    refine c_cond rfl (fun h2 => ?_) (fun h2 => ?_)
    · refine c_seq ?_; refine c_region ?_; refine w_move (v := .int _ _) rfl ?_; refine w_asg (v := .int _ _) rfl ?_; refine w_nil ?_; refine k_on ?_; refine c_ret ?_; refine b_ret (k_ret (k_ret (b_ret (k_ret (?_)))))
      refine r_one (v := .int _ _) rfl rfl rfl ?_
      exact fun w' hw => ⟨by rw [firstI_at hy hxk h2], hw.fr _ (.head _)⟩
    · refine c_skip ?_; refine b_on (k_on ?_); refine c_region ?_; refine w_r (fun _ => R_addi e8_1 rfl (by omega)) rfl rfl ?_; refine w_move (v := .int _ _) rfl ?_; refine w_nil ?_
      exact k_again _ (by omega) ⟨k + 1, e0_1, e1_1, e7_1, rfl, rfl, rfl, by omega, take_all hy hxk h2, rfl⟩
  · refine c_exit ?_; refine k_exit (k_exit (b_here rfl (k_on ?_))); refine c_seq ?_; refine c_region ?_; refine w_asg (v := .int _ _) rfl ?_; refine w_nil ?_; refine k_on ?_
    refine c_ret ?_
    obtain rfl : k = l.length := by omega
    rw [List.take_length] at hy
    refine r_one (v := .int _ _) rfl rfl rfl ?_
    exact fun w' hw => ⟨by rw [firstI_no hy], hw.fr _ (.head _)⟩

set_option maxRecDepth 100000 in
set_option maxHeartbeats 400000 in
theorem hasE_spec (n : Nat) (ih : ExprH n) (hn : n ≤ 10000000) (l : List Ex) (a : Option Addr) (c : Nat) (N : Nat → Prop) (w : World) (hl : ∀ x ∈ l, exW x < n) (hll : l.length ≤ 10000000) (hm : exsM w N l a 0) (hW : Wd w) :
    Ret Tryd.prog 91 #[.slice a l.length c, .func (.func 92) #[] #[]] w (fun v w' => v = .bool (l.any fun x => !exOk x) ∧ Ext w w') := by
  refine enter (S := No) (l := [_, _]) (L := []) 9 Tryd.func91 rfl rfl rfl (St.start w No) ?_
  refine c_seq ?_; refine c_region ?_; refine w_asg (v := .bool _) rfl ?_; refine w_nil ?_; refine k_on ?_; refine c_seq ?_; refine c_region ?_; refine w_move (v := .slice _ _ _) rfl ?_
  refine w_move rfl ?_; refine w_call (fun w => R_call Tryd.func112 rfl rfl rfl) rfl rfl (fun w h => idxE_spec n ih hn l a c N w hl hll (hm.now (fun _ _ hh => hh) (.head _) h) (hW.now (.head _) h)) ?_
  refine w_r (fun _ => R_ge rfl rfl) rfl rfl ?_; refine w_asg (v := .bool _) rfl ?_; refine w_nil ?_; refine k_on ?_; refine c_ret ?_
  refine r_one (v := .bool _) rfl rfl rfl ?_
  exact fun w' hw => ⟨by rw [← firstI_ge], hw.fr _ (.head _)⟩

set_option maxRecDepth 100000 in
set_option maxHeartbeats 400000 in
theorem exprs_spec (n : Nat) (ih : ExprH n) (hn : n ≤ 10000000) (l : List Ex) (a : Option Addr) (c : Nat) (N : Nat → Prop) (w : World) (hl : ∀ x ∈ l, exW x < n) (hll : l.length ≤ 10000000) (hm : exsM w N l a 0) (hW : Wd w) :
    Ret Tryd.prog 70 #[.slice a l.length c] w (fun v w' => v = .bool (exsOk l) ∧ Ext w w') := by
  refine enter (S := No) (l := [_]) (L := []) 6 Tryd.func70 rfl rfl rfl (St.start w No) ?_
  refine c_seq ?_; refine c_region ?_; refine w_asg (v := .bool _) rfl ?_; refine w_nil ?_; refine k_on ?_; refine c_seq ?_; refine c_region ?_; refine w_move (v := .slice _ _ _) rfl ?_
  refine w_call (fun w => R_call Tryd.func91 rfl rfl rfl) rfl rfl (fun w h => hasE_spec n ih hn l a c N w hl hll (hm.now (fun _ _ hh => hh) (.head _) h) (hW.now (.head _) h)) ?_
  refine w_r (fun _ => R_not rfl) rfl rfl ?_; refine w_asg (v := .bool _) rfl ?_; refine w_nil ?_; refine k_on ?_; refine c_ret ?_
  refine r_one (v := .bool _) rfl rfl rfl ?_
  exact fun w' hw => ⟨by rw [any_not, exsOk_all], hw.fr _ (.head _)⟩

set_option maxRecDepth 100000 in
set_option maxHeartbeats 4000000 in
theorem expr_step (n : Nat) (ih : ExprH n) (hn : n ≤ 10000000) (x : Ex) (cs : List Value) (N : Nat → Prop) (w : World) (hx : exW x < n + 1) (hm : exM w N x cs) (hW : Wd w) :
    Ret Tryd.prog 38 #[.agg cs.toArray] w (fun v w' => v = .bool (exOk x) ∧ Ext w w') := by
  obtain ⟨op, at_, nm, ks⟩ := x
  have hm2 := hm
  unfold exM at hm2
  obtain ⟨ka, kc, rfl, hkc, hks⟩ := hm2
  have hx2 := hx
  unfold exW at hx2
  have hkl : ∀ x ∈ ks, exW x < n := fun x hx => by have := exsW_mem hx; omega
  refine enter (S := No) (l := [_]) (L := []) 41 Tryd.func38 rfl rfl rfl (St.start w No) ?_
  refine c_seq ?_; refine c_region ?_
  refine w_boxA rfl (fun t1b gt1b ut1b => ?_)
  refine w_asg (v := .bool _) rfl ?_; refine w_nil ?_; refine k_on ?_; refine c_seq ?_; refine c_region ?_; refine w_fa fa49_3 rfl ?_; refine w_load z36 rfl (fun _ h => cel_own 0 rfl rfl h) ?_
  refine w_r (fun _ => R_len sl36 rfl) rfl rfl ?_
  refine w_alloc zr3 (fun t3b gt3b ut3b => ?_)
  refine w_store 0 rfl z3 rfl rfl rfl rfl rfl rfl rfl ?_; refine w_nil ?_; refine k_on ?_; refine c_seq ?_; refine c_region ?_; refine w_fa fa49_2 rfl ?_; refine w_load z9 rfl (fun _ h => cel_own 1 rfl rfl h) ?_
  refine w_r (fun _ => R_seq rfl rfl) rfl rfl ?_
  refine w_alloc zr4 (fun t4b gt4b ut4b => ?_)
  refine w_store 0 rfl z4 rfl rfl rfl rfl rfl rfl rfl ?_; refine w_nil ?_; refine k_on ?_; refine c_seq ?_; refine c_region ?_; refine w_r (fun _ => R_makeFunc) rfl rfl ?_
  refine w_asg rfl ?_; refine w_nil ?_; refine k_on ?_; refine c_seq ?_; refine c_region ?_
  refine w_makeMap (k := .u8) (fun mb gmb umb => ?_)
  refine w_r (fun _ => R_makeFunc) rfl rfl ?_; refine w_insI 0 rfl unm113 unk5 rfl rfl rfl rfl ?_; refine w_r (fun _ => R_makeFunc) rfl rfl ?_; refine w_insI 0 rfl unm113 unk5 rfl rfl rfl rfl ?_
  refine w_r (fun _ => R_makeFunc) rfl rfl ?_; refine w_insI 0 rfl unm113 unk5 rfl rfl rfl rfl ?_; refine w_r (fun _ => R_makeFunc) rfl rfl ?_; refine w_insI 0 rfl unm113 unk5 rfl rfl rfl rfl ?_
  refine w_r (fun _ => R_makeFunc) rfl rfl ?_; refine w_insI 0 rfl unm113 unk5 rfl rfl rfl rfl ?_; refine w_move rfl ?_; refine w_insI 0 rfl unm113 unk5 rfl rfl rfl rfl ?_
  refine w_move rfl ?_; refine w_insI 0 rfl unm113 unk5 rfl rfl rfl rfl ?_; refine w_move rfl ?_; refine w_insI 0 rfl unm113 unk5 rfl rfl rfl rfl ?_; refine w_move rfl ?_
  refine w_insI 0 rfl unm113 unk5 rfl rfl rfl rfl ?_; refine w_move rfl ?_; refine w_asg rfl ?_; refine w_nil ?_; refine k_on ?_; refine c_seq ?_; refine c_region ?_
  refine w_move rfl ?_; refine w_fa fa49_0 rfl ?_
  rcases op_cases9 op with rfl | rfl | rfl | rfl | rfl | rfl | rfl | rfl | rfl | hop
  · refine w_load z5 rfl (fun _ h => cel_own 3 rfl rfl h) ?_; refine w_lookI 0 (v := .func (.func 65) _ _) rfl unm113 unk5 zr22 rfl rfl rfl ?_; refine w_asg rfl ?_
    refine w_nil ?_; refine k_on ?_; refine c_seq ?_; refine c_region ?_; refine w_move rfl ?_; refine w_r (fun _ => R_fne unf22 rfl rfl) rfl rfl ?_; refine w_move (v := .bool _) rfl ?_
    refine w_want rfl rfl rfl ?_; refine w_move rfl ?_; refine w_want rfl rfl rfl ?_; refine w_call (fun w => R_callv rfl Tryd.func65 rfl rfl) rfl rfl (fun w h => expr2_spec w (hW.now (.head _) h) t3b _ (h.at_ 2 rfl) t1b _ _ _ _ (h.at_ 3 rfl) (by omega)) ?_
    refine w_r (v := .bool _) (fun _ => R_pickT rfl rfl) rfl rfl ?_; refine w_move (v := .bool _) rfl ?_
    refine w_split (t := 36) rfl (fun h4 => ?_) (fun h4 => ?_)
    · refine w_want rfl rfl (congrArg Value.bool h4) ?_; refine w_fa fa49_3 rfl ?_; refine w_want rfl rfl (congrArg Value.bool h4) ?_; refine w_load z36 rfl (fun _ h => cel_own 3 rfl rfl h) ?_
      refine w_want rfl rfl (congrArg Value.bool h4) ?_; refine w_call (fun w => R_call Tryd.func70 rfl rfl rfl) rfl rfl (fun w h => exprs_spec n ih hn ks ka kc N w hkl (by omega) (hks.now (fun _ _ hh => hh) (.head _) h) (hW.now (.head _) h)) ?_
      refine w_r (v := .bool _) (fun _ => R_pickT (congrArg Value.bool h4) rfl) rfl rfl ?_; refine w_asg (v := .bool _) rfl ?_; refine w_nil ?_; refine k_on ?_; refine c_ret ?_
      refine r_one (v := .bool _) rfl rfl rfl ?_
      exact fun w' hw => ⟨by first | (simp_all [exOk, ruleOk]; done) | (unfold exOk; rw [rule_miss hop]; rfl), hw.fr _ (.head _)⟩
    · refine w_skip rfl rfl (congrArg Value.bool h4) ?_; refine w_skip rfl rfl (congrArg Value.bool h4) ?_; refine w_skip rfl rfl (congrArg Value.bool h4) ?_; refine w_r (v := .bool _) (fun _ => R_pickF (congrArg Value.bool h4) rfl) rfl rfl ?_
      refine w_asg (v := .bool _) rfl ?_; refine w_nil ?_; refine k_on ?_; refine c_ret ?_
      refine r_one (v := .bool _) rfl rfl rfl ?_
      exact fun w' hw => ⟨by first | (simp_all [exOk, ruleOk]; done) | (unfold exOk; rw [rule_miss hop]; rfl), hw.fr _ (.head _)⟩
  · refine w_load z5 rfl (fun _ h => cel_own 3 rfl rfl h) ?_; refine w_lookI 0 (v := .func (.func 66) _ _) rfl unm113 unk5 zr22 rfl rfl rfl ?_; refine w_asg rfl ?_
    refine w_nil ?_; refine k_on ?_; refine c_seq ?_; refine c_region ?_; refine w_move rfl ?_; refine w_r (fun _ => R_fne unf22 rfl rfl) rfl rfl ?_; refine w_move (v := .bool _) rfl ?_
    refine w_want rfl rfl rfl ?_; refine w_move rfl ?_; refine w_want rfl rfl rfl ?_; refine w_call (fun w => R_callv rfl Tryd.func66 rfl rfl) rfl rfl (fun w h => expr3_spec w (hW.now (.head _) h) t3b _ (h.at_ 2 rfl) t1b _ _ _ _ (h.at_ 3 rfl) (by omega)) ?_
    refine w_r (v := .bool _) (fun _ => R_pickT rfl rfl) rfl rfl ?_; refine w_move (v := .bool _) rfl ?_
    refine w_split (t := 36) rfl (fun h5 => ?_) (fun h5 => ?_)
    · refine w_want rfl rfl (congrArg Value.bool h5) ?_; refine w_fa fa49_3 rfl ?_; refine w_want rfl rfl (congrArg Value.bool h5) ?_; refine w_load z36 rfl (fun _ h => cel_own 3 rfl rfl h) ?_
      refine w_want rfl rfl (congrArg Value.bool h5) ?_; refine w_call (fun w => R_call Tryd.func70 rfl rfl rfl) rfl rfl (fun w h => exprs_spec n ih hn ks ka kc N w hkl (by omega) (hks.now (fun _ _ hh => hh) (.head _) h) (hW.now (.head _) h)) ?_
      refine w_r (v := .bool _) (fun _ => R_pickT (congrArg Value.bool h5) rfl) rfl rfl ?_; refine w_asg (v := .bool _) rfl ?_; refine w_nil ?_; refine k_on ?_; refine c_ret ?_
      refine r_one (v := .bool _) rfl rfl rfl ?_
      exact fun w' hw => ⟨by first | (simp_all [exOk, ruleOk]; done) | (unfold exOk; rw [rule_miss hop]; rfl), hw.fr _ (.head _)⟩
    · refine w_skip rfl rfl (congrArg Value.bool h5) ?_; refine w_skip rfl rfl (congrArg Value.bool h5) ?_; refine w_skip rfl rfl (congrArg Value.bool h5) ?_; refine w_r (v := .bool _) (fun _ => R_pickF (congrArg Value.bool h5) rfl) rfl rfl ?_
      refine w_asg (v := .bool _) rfl ?_; refine w_nil ?_; refine k_on ?_; refine c_ret ?_
      refine r_one (v := .bool _) rfl rfl rfl ?_
      exact fun w' hw => ⟨by first | (simp_all [exOk, ruleOk]; done) | (unfold exOk; rw [rule_miss hop]; rfl), hw.fr _ (.head _)⟩
  · refine w_load z5 rfl (fun _ h => cel_own 3 rfl rfl h) ?_; refine w_lookI 0 (v := .func (.func 67) _ _) rfl unm113 unk5 zr22 rfl rfl rfl ?_; refine w_asg rfl ?_
    refine w_nil ?_; refine k_on ?_; refine c_seq ?_; refine c_region ?_; refine w_move rfl ?_; refine w_r (fun _ => R_fne unf22 rfl rfl) rfl rfl ?_; refine w_move (v := .bool _) rfl ?_
    refine w_want rfl rfl rfl ?_; refine w_move rfl ?_; refine w_want rfl rfl rfl ?_; refine w_call (fun w => R_callv rfl Tryd.func67 rfl rfl) rfl rfl (fun w h => expr4_spec w (hW.now (.head _) h) t3b _ (h.at_ 2 rfl) t1b _ _ _ _ (h.at_ 3 rfl) (by omega)) ?_
    refine w_r (v := .bool _) (fun _ => R_pickT rfl rfl) rfl rfl ?_; refine w_move (v := .bool _) rfl ?_
    refine w_split (t := 36) rfl (fun h6 => ?_) (fun h6 => ?_)
    · refine w_want rfl rfl (congrArg Value.bool h6) ?_; refine w_fa fa49_3 rfl ?_; refine w_want rfl rfl (congrArg Value.bool h6) ?_; refine w_load z36 rfl (fun _ h => cel_own 3 rfl rfl h) ?_
      refine w_want rfl rfl (congrArg Value.bool h6) ?_; refine w_call (fun w => R_call Tryd.func70 rfl rfl rfl) rfl rfl (fun w h => exprs_spec n ih hn ks ka kc N w hkl (by omega) (hks.now (fun _ _ hh => hh) (.head _) h) (hW.now (.head _) h)) ?_
      refine w_r (v := .bool _) (fun _ => R_pickT (congrArg Value.bool h6) rfl) rfl rfl ?_; refine w_asg (v := .bool _) rfl ?_; refine w_nil ?_; refine k_on ?_; refine c_ret ?_
      refine r_one (v := .bool _) rfl rfl rfl ?_
      exact fun w' hw => ⟨by first | (simp_all [exOk, ruleOk]; done) | (unfold exOk; rw [rule_miss hop]; rfl), hw.fr _ (.head _)⟩
    · refine w_skip rfl rfl (congrArg Value.bool h6) ?_; refine w_skip rfl rfl (congrArg Value.bool h6) ?_; refine w_skip rfl rfl (congrArg Value.bool h6) ?_; refine w_r (v := .bool _) (fun _ => R_pickF (congrArg Value.bool h6) rfl) rfl rfl ?_
      refine w_asg (v := .bool _) rfl ?_; refine w_nil ?_; refine k_on ?_; refine c_ret ?_
      refine r_one (v := .bool _) rfl rfl rfl ?_
      exact fun w' hw => ⟨by first | (simp_all [exOk, ruleOk]; done) | (unfold exOk; rw [rule_miss hop]; rfl), hw.fr _ (.head _)⟩
  · refine w_load z5 rfl (fun _ h => cel_own 3 rfl rfl h) ?_; refine w_lookI 0 (v := .func (.func 68) _ _) rfl unm113 unk5 zr22 rfl rfl rfl ?_; refine w_asg rfl ?_
    refine w_nil ?_; refine k_on ?_; refine c_seq ?_; refine c_region ?_; refine w_move rfl ?_; refine w_r (fun _ => R_fne unf22 rfl rfl) rfl rfl ?_; refine w_move (v := .bool _) rfl ?_
    refine w_want rfl rfl rfl ?_; refine w_move rfl ?_; refine w_want rfl rfl rfl ?_; refine w_call (fun w => R_callv rfl Tryd.func68 rfl rfl) rfl rfl (fun w h => expr5_spec w (hW.now (.head _) h) t1b _ _ _ _ (h.at_ 3 rfl) (by omega)) ?_
    refine w_r (v := .bool _) (fun _ => R_pickT rfl rfl) rfl rfl ?_; refine w_move (v := .bool _) rfl ?_
    refine w_split (t := 36) rfl (fun h7 => ?_) (fun h7 => ?_)
    · refine w_want rfl rfl (congrArg Value.bool h7) ?_; refine w_fa fa49_3 rfl ?_; refine w_want rfl rfl (congrArg Value.bool h7) ?_; refine w_load z36 rfl (fun _ h => cel_own 3 rfl rfl h) ?_
      refine w_want rfl rfl (congrArg Value.bool h7) ?_; refine w_call (fun w => R_call Tryd.func70 rfl rfl rfl) rfl rfl (fun w h => exprs_spec n ih hn ks ka kc N w hkl (by omega) (hks.now (fun _ _ hh => hh) (.head _) h) (hW.now (.head _) h)) ?_
      refine w_r (v := .bool _) (fun _ => R_pickT (congrArg Value.bool h7) rfl) rfl rfl ?_; refine w_asg (v := .bool _) rfl ?_; refine w_nil ?_; refine k_on ?_; refine c_ret ?_
      refine r_one (v := .bool _) rfl rfl rfl ?_
      exact fun w' hw => ⟨by first | (simp_all [exOk, ruleOk]; done) | (unfold exOk; rw [rule_miss hop]; rfl), hw.fr _ (.head _)⟩
    · refine w_skip rfl rfl (congrArg Value.bool h7) ?_; refine w_skip rfl rfl (congrArg Value.bool h7) ?_; refine w_skip rfl rfl (congrArg Value.bool h7) ?_; refine w_r (v := .bool _) (fun _ => R_pickF (congrArg Value.bool h7) rfl) rfl rfl ?_
      refine w_asg (v := .bool _) rfl ?_; refine w_nil ?_; refine k_on ?_; refine c_ret ?_
      refine r_one (v := .bool _) rfl rfl rfl ?_
      exact fun w' hw => ⟨by first | (simp_all [exOk, ruleOk]; done) | (unfold exOk; rw [rule_miss hop]; rfl), hw.fr _ (.head _)⟩
  · refine w_load z5 rfl (fun _ h => cel_own 3 rfl rfl h) ?_; refine w_lookI 0 (v := .func (.func 69) _ _) rfl unm113 unk5 zr22 rfl rfl rfl ?_; refine w_asg rfl ?_
    refine w_nil ?_; refine k_on ?_; refine c_seq ?_; refine c_region ?_; refine w_move rfl ?_; refine w_r (fun _ => R_fne unf22 rfl rfl) rfl rfl ?_; refine w_move (v := .bool _) rfl ?_
    refine w_want rfl rfl rfl ?_; refine w_move rfl ?_; refine w_want rfl rfl rfl ?_; refine w_call (fun w => R_callv rfl Tryd.func69 rfl rfl) rfl rfl (fun w h => expr6_spec w (hW.now (.head _) h) t4b _ (h.at_ 1 rfl) t3b _ (h.at_ 2 rfl)) ?_
    refine w_r (v := .bool _) (fun _ => R_pickT rfl rfl) rfl rfl ?_; refine w_move (v := .bool _) rfl ?_
    refine w_split (t := 36) rfl (fun h8 => ?_) (fun h8 => ?_)
    · refine w_want rfl rfl (congrArg Value.bool h8) ?_; refine w_fa fa49_3 rfl ?_; refine w_want rfl rfl (congrArg Value.bool h8) ?_; refine w_load z36 rfl (fun _ h => cel_own 3 rfl rfl h) ?_
      refine w_want rfl rfl (congrArg Value.bool h8) ?_; refine w_call (fun w => R_call Tryd.func70 rfl rfl rfl) rfl rfl (fun w h => exprs_spec n ih hn ks ka kc N w hkl (by omega) (hks.now (fun _ _ hh => hh) (.head _) h) (hW.now (.head _) h)) ?_
      refine w_r (v := .bool _) (fun _ => R_pickT (congrArg Value.bool h8) rfl) rfl rfl ?_; refine w_asg (v := .bool _) rfl ?_; refine w_nil ?_; refine k_on ?_; refine c_ret ?_
      refine r_one (v := .bool _) rfl rfl rfl ?_
      exact fun w' hw => ⟨by first | (simp_all [exOk, ruleOk]; done) | (unfold exOk; rw [rule_miss hop]; rfl), hw.fr _ (.head _)⟩
    · refine w_skip rfl rfl (congrArg Value.bool h8) ?_; refine w_skip rfl rfl (congrArg Value.bool h8) ?_; refine w_skip rfl rfl (congrArg Value.bool h8) ?_; refine w_r (v := .bool _) (fun _ => R_pickF (congrArg Value.bool h8) rfl) rfl rfl ?_
      refine w_asg (v := .bool _) rfl ?_; refine w_nil ?_; refine k_on ?_; refine c_ret ?_
      refine r_one (v := .bool _) rfl rfl rfl ?_
      exact fun w' hw => ⟨by first | (simp_all [exOk, ruleOk]; done) | (unfold exOk; rw [rule_miss hop]; rfl), hw.fr _ (.head _)⟩
  · refine w_load z5 rfl (fun _ h => cel_own 3 rfl rfl h) ?_; refine w_lookI 0 (v := .func (.func 64) _ _) rfl unm113 unk5 zr22 rfl rfl rfl ?_; refine w_asg rfl ?_
    refine w_nil ?_; refine k_on ?_; refine c_seq ?_; refine c_region ?_; refine w_move rfl ?_; refine w_r (fun _ => R_fne unf22 rfl rfl) rfl rfl ?_; refine w_move (v := .bool _) rfl ?_
    refine w_want rfl rfl rfl ?_; refine w_move rfl ?_; refine w_want rfl rfl rfl ?_; refine w_call (fun w => R_callv rfl Tryd.func64 rfl rfl) rfl rfl (fun w h => expr1_spec w (hW.now (.head _) h) t4b _ (h.at_ 1 rfl) t3b _ (h.at_ 2 rfl)) ?_
    refine w_r (v := .bool _) (fun _ => R_pickT rfl rfl) rfl rfl ?_; refine w_move (v := .bool _) rfl ?_
    refine w_split (t := 36) rfl (fun h9 => ?_) (fun h9 => ?_)
    · refine w_want rfl rfl (congrArg Value.bool h9) ?_; refine w_fa fa49_3 rfl ?_; refine w_want rfl rfl (congrArg Value.bool h9) ?_; refine w_load z36 rfl (fun _ h => cel_own 3 rfl rfl h) ?_
      refine w_want rfl rfl (congrArg Value.bool h9) ?_; refine w_call (fun w => R_call Tryd.func70 rfl rfl rfl) rfl rfl (fun w h => exprs_spec n ih hn ks ka kc N w hkl (by omega) (hks.now (fun _ _ hh => hh) (.head _) h) (hW.now (.head _) h)) ?_
      refine w_r (v := .bool _) (fun _ => R_pickT (congrArg Value.bool h9) rfl) rfl rfl ?_; refine w_asg (v := .bool _) rfl ?_; refine w_nil ?_; refine k_on ?_; refine c_ret ?_
      refine r_one (v := .bool _) rfl rfl rfl ?_
      exact fun w' hw => ⟨by first | (simp_all [exOk, ruleOk]; done) | (unfold exOk; rw [rule_miss hop]; rfl), hw.fr _ (.head _)⟩
    · refine w_skip rfl rfl (congrArg Value.bool h9) ?_; refine w_skip rfl rfl (congrArg Value.bool h9) ?_; refine w_skip rfl rfl (congrArg Value.bool h9) ?_; refine w_r (v := .bool _) (fun _ => R_pickF (congrArg Value.bool h9) rfl) rfl rfl ?_
      refine w_asg (v := .bool _) rfl ?_; refine w_nil ?_; refine k_on ?_; refine c_ret ?_
      refine r_one (v := .bool _) rfl rfl rfl ?_
      exact fun w' hw => ⟨by first | (simp_all [exOk, ruleOk]; done) | (unfold exOk; rw [rule_miss hop]; rfl), hw.fr _ (.head _)⟩
  · refine w_load z5 rfl (fun _ h => cel_own 3 rfl rfl h) ?_; refine w_lookI 0 (v := .func (.func 64) _ _) rfl unm113 unk5 zr22 rfl rfl rfl ?_; refine w_asg rfl ?_
    refine w_nil ?_; refine k_on ?_; refine c_seq ?_; refine c_region ?_; refine w_move rfl ?_; refine w_r (fun _ => R_fne unf22 rfl rfl) rfl rfl ?_; refine w_move (v := .bool _) rfl ?_
    refine w_want rfl rfl rfl ?_; refine w_move rfl ?_; refine w_want rfl rfl rfl ?_; refine w_call (fun w => R_callv rfl Tryd.func64 rfl rfl) rfl rfl (fun w h => expr1_spec w (hW.now (.head _) h) t4b _ (h.at_ 1 rfl) t3b _ (h.at_ 2 rfl)) ?_
    refine w_r (v := .bool _) (fun _ => R_pickT rfl rfl) rfl rfl ?_; refine w_move (v := .bool _) rfl ?_
    refine w_split (t := 36) rfl (fun h10 => ?_) (fun h10 => ?_)
    · refine w_want rfl rfl (congrArg Value.bool h10) ?_; refine w_fa fa49_3 rfl ?_; refine w_want rfl rfl (congrArg Value.bool h10) ?_; refine w_load z36 rfl (fun _ h => cel_own 3 rfl rfl h) ?_
      refine w_want rfl rfl (congrArg Value.bool h10) ?_; refine w_call (fun w => R_call Tryd.func70 rfl rfl rfl) rfl rfl (fun w h => exprs_spec n ih hn ks ka kc N w hkl (by omega) (hks.now (fun _ _ hh => hh) (.head _) h) (hW.now (.head _) h)) ?_
      refine w_r (v := .bool _) (fun _ => R_pickT (congrArg Value.bool h10) rfl) rfl rfl ?_; refine w_asg (v := .bool _) rfl ?_; refine w_nil ?_; refine k_on ?_; refine c_ret ?_
      refine r_one (v := .bool _) rfl rfl rfl ?_
      exact fun w' hw => ⟨by first | (simp_all [exOk, ruleOk]; done) | (unfold exOk; rw [rule_miss hop]; rfl), hw.fr _ (.head _)⟩
    · refine w_skip rfl rfl (congrArg Value.bool h10) ?_; refine w_skip rfl rfl (congrArg Value.bool h10) ?_; refine w_skip rfl rfl (congrArg Value.bool h10) ?_; refine w_r (v := .bool _) (fun _ => R_pickF (congrArg Value.bool h10) rfl) rfl rfl ?_
      refine w_asg (v := .bool _) rfl ?_; refine w_nil ?_; refine k_on ?_; refine c_ret ?_
      refine r_one (v := .bool _) rfl rfl rfl ?_
      exact fun w' hw => ⟨by first | (simp_all [exOk, ruleOk]; done) | (unfold exOk; rw [rule_miss hop]; rfl), hw.fr _ (.head _)⟩
  · refine w_load z5 rfl (fun _ h => cel_own 3 rfl rfl h) ?_; refine w_lookI 0 (v := .func (.func 64) _ _) rfl unm113 unk5 zr22 rfl rfl rfl ?_; refine w_asg rfl ?_
    refine w_nil ?_; refine k_on ?_; refine c_seq ?_; refine c_region ?_; refine w_move rfl ?_; refine w_r (fun _ => R_fne unf22 rfl rfl) rfl rfl ?_; refine w_move (v := .bool _) rfl ?_
    refine w_want rfl rfl rfl ?_; refine w_move rfl ?_; refine w_want rfl rfl rfl ?_; refine w_call (fun w => R_callv rfl Tryd.func64 rfl rfl) rfl rfl (fun w h => expr1_spec w (hW.now (.head _) h) t4b _ (h.at_ 1 rfl) t3b _ (h.at_ 2 rfl)) ?_
    refine w_r (v := .bool _) (fun _ => R_pickT rfl rfl) rfl rfl ?_; refine w_move (v := .bool _) rfl ?_
    refine w_split (t := 36) rfl (fun h11 => ?_) (fun h11 => ?_)
    · refine w_want rfl rfl (congrArg Value.bool h11) ?_; refine w_fa fa49_3 rfl ?_; refine w_want rfl rfl (congrArg Value.bool h11) ?_; refine w_load z36 rfl (fun _ h => cel_own 3 rfl rfl h) ?_
      refine w_want rfl rfl (congrArg Value.bool h11) ?_; refine w_call (fun w => R_call Tryd.func70 rfl rfl rfl) rfl rfl (fun w h => exprs_spec n ih hn ks ka kc N w hkl (by omega) (hks.now (fun _ _ hh => hh) (.head _) h) (hW.now (.head _) h)) ?_
      refine w_r (v := .bool _) (fun _ => R_pickT (congrArg Value.bool h11) rfl) rfl rfl ?_; refine w_asg (v := .bool _) rfl ?_; refine w_nil ?_; refine k_on ?_; refine c_ret ?_
      refine r_one (v := .bool _) rfl rfl rfl ?_
      exact fun w' hw => ⟨by first | (simp_all [exOk, ruleOk]; done) | (unfold exOk; rw [rule_miss hop]; rfl), hw.fr _ (.head _)⟩
    · refine w_skip rfl rfl (congrArg Value.bool h11) ?_; refine w_skip rfl rfl (congrArg Value.bool h11) ?_; refine w_skip rfl rfl (congrArg Value.bool h11) ?_; refine w_r (v := .bool _) (fun _ => R_pickF (congrArg Value.bool h11) rfl) rfl rfl ?_
      refine w_asg (v := .bool _) rfl ?_; refine w_nil ?_; refine k_on ?_; refine c_ret ?_
      refine r_one (v := .bool _) rfl rfl rfl ?_
      exact fun w' hw => ⟨by first | (simp_all [exOk, ruleOk]; done) | (unfold exOk; rw [rule_miss hop]; rfl), hw.fr _ (.head _)⟩
  · refine w_load z5 rfl (fun _ h => cel_own 3 rfl rfl h) ?_; refine w_lookI 0 (v := .func (.func 64) _ _) rfl unm113 unk5 zr22 rfl rfl rfl ?_; refine w_asg rfl ?_
    refine w_nil ?_; refine k_on ?_; refine c_seq ?_; refine c_region ?_; refine w_move rfl ?_; refine w_r (fun _ => R_fne unf22 rfl rfl) rfl rfl ?_; refine w_move (v := .bool _) rfl ?_
    refine w_want rfl rfl rfl ?_; refine w_move rfl ?_; refine w_want rfl rfl rfl ?_; refine w_call (fun w => R_callv rfl Tryd.func64 rfl rfl) rfl rfl (fun w h => expr1_spec w (hW.now (.head _) h) t4b _ (h.at_ 1 rfl) t3b _ (h.at_ 2 rfl)) ?_
    refine w_r (v := .bool _) (fun _ => R_pickT rfl rfl) rfl rfl ?_; refine w_move (v := .bool _) rfl ?_
    refine w_split (t := 36) rfl (fun h12 => ?_) (fun h12 => ?_)
    · refine w_want rfl rfl (congrArg Value.bool h12) ?_; refine w_fa fa49_3 rfl ?_; refine w_want rfl rfl (congrArg Value.bool h12) ?_; refine w_load z36 rfl (fun _ h => cel_own 3 rfl rfl h) ?_
      refine w_want rfl rfl (congrArg Value.bool h12) ?_; refine w_call (fun w => R_call Tryd.func70 rfl rfl rfl) rfl rfl (fun w h => exprs_spec n ih hn ks ka kc N w hkl (by omega) (hks.now (fun _ _ hh => hh) (.head _) h) (hW.now (.head _) h)) ?_
      refine w_r (v := .bool _) (fun _ => R_pickT (congrArg Value.bool h12) rfl) rfl rfl ?_; refine w_asg (v := .bool _) rfl ?_; refine w_nil ?_; refine k_on ?_; refine c_ret ?_
      refine r_one (v := .bool _) rfl rfl rfl ?_
      exact fun w' hw => ⟨by first | (simp_all [exOk, ruleOk]; done) | (unfold exOk; rw [rule_miss hop]; rfl), hw.fr _ (.head _)⟩
    · refine w_skip rfl rfl (congrArg Value.bool h12) ?_; refine w_skip rfl rfl (congrArg Value.bool h12) ?_; refine w_skip rfl rfl (congrArg Value.bool h12) ?_; refine w_r (v := .bool _) (fun _ => R_pickF (congrArg Value.bool h12) rfl) rfl rfl ?_
      refine w_asg (v := .bool _) rfl ?_; refine w_nil ?_; refine k_on ?_; refine c_ret ?_
      refine r_one (v := .bool _) rfl rfl rfl ?_
      exact fun w' hw => ⟨by first | (simp_all [exOk, ruleOk]; done) | (unfold exOk; rw [rule_miss hop]; rfl), hw.fr _ (.head _)⟩
  · refine w_load z5 rfl (fun _ h => cel_own 3 rfl rfl h) ?_; refine w_lookI 0 (v := .nilFunc) rfl unm113 unk5 zr22 rfl rfl (look_none _ _ _ (by simp; omega)) ?_
    refine w_asg rfl ?_; refine w_nil ?_; refine k_on ?_; refine c_seq ?_; refine c_region ?_; refine w_move rfl ?_; refine w_r (fun _ => R_nne unf22 rfl rfl) rfl rfl ?_
    refine w_move (v := .bool _) rfl ?_; refine w_skip rfl rfl rfl ?_; refine w_skip rfl rfl rfl ?_; refine w_r (v := .bool _) (fun _ => R_pickF rfl rfl) rfl rfl ?_
    refine w_move (v := .bool _) rfl ?_; refine w_skip rfl rfl rfl ?_; refine w_skip rfl rfl rfl ?_; refine w_skip rfl rfl rfl ?_; refine w_r (v := .bool _) (fun _ => R_pickF rfl rfl) rfl rfl ?_
    refine w_asg (v := .bool _) rfl ?_; refine w_nil ?_; refine k_on ?_; refine c_ret ?_
    refine r_one (v := .bool _) rfl rfl rfl ?_
    exact fun w' hw => ⟨by first | (simp_all [exOk, ruleOk]; done) | (unfold exOk; rw [rule_miss hop]; rfl), hw.fr _ (.head _)⟩


theorem expr_all : ∀ n : Nat, n ≤ 10000000 → ExprH n
  | 0, _ => fun _ _ _ _ h _ _ => absurd h (Nat.not_lt_zero _)
  | n + 1, hn => fun x cs N w hx hm hW => expr_step n (expr_all n (by omega)) (by omega) x cs N w hx hm hW
theorem expr_ok (x : Ex) (cs : List Value) (N : Nat → Prop) (w : World) (hx : exW x < 10000000) (hm : exM w N x cs) (hW : Wd w) : Ret Tryd.prog 38 #[.agg cs.toArray] w fun v w' => v = .bool (exOk x) ∧ Ext w w' := expr_all _ (Nat.le_refl _) x cs N w hx hm hW
theorem exprs_ok (l : List Ex) (a : Option Addr) (c : Nat) (N : Nat → Prop) (w : World) (hl : exsW l < 10000000) (hll : l.length ≤ 10000000) (hm : exsM w N l a 0) (hW : Wd w) : Ret Tryd.prog 70 #[.slice a l.length c] w fun v w' => v = .bool (exsOk l) ∧ Ext w w' :=
  exprs_spec _ (expr_all _ (Nat.le_refl _)) (Nat.le_refl _) l a c N w (fun _ hx => Nat.lt_of_le_of_lt (exsW_mem hx) hl) hll hm hW
end Go.Proofs.YtcmcdgkjipnfnaaDoor
end
