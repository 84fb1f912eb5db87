/- TreeApart: what is written of two right programs is the same just when they are. Part 12 of 12. -/
import Derived.Test.YtcmcdgkjipnfnaaDoorA11
import Derived.Test.YtcmcdgkjipnfnaaDoorA02
import Derived.Test.YtcmcdgkjipnfnaaDoorA10
import Derived.Test.YtcmcdgkjipnfnaaDoorA05
import Derived.ChangeArms
import Derived.OpenShut
import Derived.Test.YtcmcdgkjipnfnaaDoorRows
import Derived.Deep.DeepHandedRow
import Derived.ProofKit
import Derived.LaidMore
import Derived.Shelf.Vars
import Derived.Carry
import Derived.JoinedCond
import Derived.Deep.DeepWitnessRowRef
import Derived.Stop.Joined
import Derived.Test.YtcmcdgkjipnfnaaDoorTie
import Derived.Test.YtcmcdgkjipnfnaaDoorCards
import Derived.SevenTiedAt
section
/- Trees: programs told apart by what is written of them; what is written can be read; places do not matter. -/
namespace Go.Tree
open Go.Tok Go.Tok.W
/-! programs -/
theorem hk_sms {l : List Sm} (h : smsOk l = true) (r : List Str) : hk ((smsT l).flatten ++ [125] :: r) < 9 := by
  cases l with
  | nil => show (7 : Nat) < 9; decide
  | cons s l =>
    rw [smsOk, Bool.and_eq_true] at h
    rw [smsT, List.flatten_cons, List.append_assoc, hk_sm h.1]
    have := kS_lt h.1
    omega
theorem bk_facts {i : Nat} {b : Bk} (h : bkOk i b = true) : (∀ d ∈ b.decls, dcOk d = true) ∧ smsOk b.stmts = true ∧ (b.is = false → b.decls = [] ∧ b.stmts = []) := by
  unfold bkOk headB at h
  simp only [Bool.and_eq_true, List.all_eq_true] at h
  obtain ⟨⟨⟨⟨h1, _⟩, _⟩, h4⟩, h5⟩ := h
  refine ⟨fun d hd => ?_, h4, fun hi => ?_⟩
  · have := h5 d hd
    unfold dgood at this
    rw [Bool.and_eq_true] at this
    exact this.1
  · rw [hi] at h1
    simp only [Bool.not_false, Bool.true_and, Bool.not_eq_true', decide_eq_false_iff_not] at h1
    exact ⟨List.length_eq_zero_iff.1 (by omega), List.length_eq_zero_iff.1 (by omega)⟩
theorem bkT_is {i : Nat} {b : Bk} (h : b.is = true) (r : List Str) : bkT i b ++ r = headW i ++ [123] :: (dcsT b.decls ++ ((smsT b.stmts).flatten ++ [125] :: r)) := by
  unfold bkT; rw [if_pos h]; simp
theorem bkT_no {i : Nat} {b : Bk} (h : b.is = false) (r : List Str) : bkT i b ++ r = r := by unfold bkT; rw [h]; rfl
/-- it does not begin as block i begins -/
def nhd (i : Nat) (r : List Str) : Prop := r.take 2 ≠ (headW i ++ [[123]]).take 2
theorem take2 (i : Nat) (h : i < 6) (r : List Str) : (headW i ++ [123] :: r).take 2 = (headW i ++ [[123]]).take 2 := by
  have : i = 0 ∨ i = 1 ∨ i = 2 ∨ i = 3 ∨ i = 4 ∨ i = 5 := by omega
  rcases this with rfl | rfl | rfl | rfl | rfl | rfl <;> rfl
theorem heads_apart : ∀ i, i < 6 → ∀ j, j < 6 → i ≠ j → (headW j ++ [[123]]).take 2 ≠ (headW i ++ [[123]]).take 2 := by decide
theorem nhd_nil {i : Nat} (h : i < 6) : nhd i [] := by
  have : i = 0 ∨ i = 1 ∨ i = 2 ∨ i = 3 ∨ i = 4 ∨ i = 5 := by omega
  unfold nhd
  rcases this with rfl | rfl | rfl | rfl | rfl | rfl <;> decide
theorem nhd_bk {i j : Nat} (hi : i < 6) (hj : j < 6) (hij : i ≠ j) (b : Bk) {r : List Str} (h : nhd i r) : nhd i (bkT j b ++ r) := by
  cases hq : b.is with
  | true => rw [bkT_is hq]; unfold nhd; rw [take2 j hj]; exact heads_apart i hi j hj hij
  | false => rw [bkT_no hq]; exact h
theorem bk_cut {i : Nat} {b c : Bk} (hi : i < 6) (hb : bkOk i b = true) (hc : bkOk i c = true) {r r' : List Str} (hr : nhd i r) (hr' : nhd i r') (h : bkT i b ++ r = bkT i c ++ r') : bkSame b c = true ∧ r = r' := by
  have fb := bk_facts hb
  have fc := bk_facts hc
  cases hq : b.is with
  | true =>
    rw [bkT_is hq] at h
    cases hz : c.is with
    | true =>
      rw [bkT_is hz] at h
      have h1 := (List.cons.inj (List.append_cancel_left h)).2
      have h2 := dcs_cut fb.1 fc.1 (hk_sms fb.2.1 _) (hk_sms fc.2.1 _) h1
      have h3 := stmts_cut fb.2.1 fc.2.1 h2.2
      exact ⟨by simp [bkSame, hq, hz, h2.1, h3.1], h3.2⟩
    | false =>
      rw [bkT_no hz] at h
      exact absurd (by rw [← h, take2 i hi]) hr'
  | false =>
    rw [bkT_no hq] at h
    cases hz : c.is with
    | true =>
      rw [bkT_is hz] at h
      exact absurd (by rw [h, take2 i hi]) hr
    | false =>
      rw [bkT_no hz] at h
      have h1 := fb.2.2 hq
      have h2 := fc.2.2 hz
      exact ⟨by simp [bkSame, hq, hz, h1, h2, pairOk, smsSame], h⟩
theorem six {p : List Bk} (h : p.length = 6) : ∃ a b c d e f, p = [a, b, c, d, e, f] := by
  match p, h with
  | [a, b, c, d, e, f], _ => exact ⟨a, b, c, d, e, f, rfl⟩
theorem pgT_six (a b c d e f : Bk) : pgT [a, b, c, d, e, f] = bkT 0 a ++ (bkT 1 b ++ (bkT 2 c ++ (bkT 3 d ++ (bkT 4 e ++ (bkT 5 f ++ []))))) := by
  simp [pgT, pgTo, List.range_succ]
theorem pgOk_six {a b c d e f : Bk} (h : pgOk [a, b, c, d, e, f] = true) : bkOk 0 a = true ∧ bkOk 1 b = true ∧ bkOk 2 c = true ∧ bkOk 3 d = true ∧ bkOk 4 e = true ∧ bkOk 5 f = true := by
  simpa [pgOk, List.range_succ, and_assoc] using h
theorem pg_cut {p q : List Bk} (lp : p.length = 6) (lq : q.length = 6) (hp : pgOk p = true) (hq : pgOk q = true) (h : pgT p = pgT q) : pgSame p q = true := by
  obtain ⟨a, b, c, d, e, f, rfl⟩ := six lp
  obtain ⟨a', b', c', d', e', f', rfl⟩ := six lq
  obtain ⟨ha, hb, hc, hd, he, hf⟩ := pgOk_six hp
  obtain ⟨ha', hb', hc', hd', he', hf'⟩ := pgOk_six hq
  rw [pgT_six, pgT_six] at h
  have n : ∀ {i j : Nat}, i < 6 → j < 6 → i ≠ j → ∀ (b : Bk) {r : List Str}, nhd i r → nhd i (bkT j b ++ r) := fun hi hj hij b => nhd_bk hi hj hij b
  have h0 := bk_cut (by decide) ha ha' (n (by decide) (by decide) (by decide) _ (n (by decide) (by decide) (by decide) _ (n (by decide) (by decide) (by decide) _ (n (by decide) (by decide) (by decide) _ (n (by decide) (by decide) (by decide) _ (nhd_nil (by decide)))))))
    (n (by decide) (by decide) (by decide) _ (n (by decide) (by decide) (by decide) _ (n (by decide) (by decide) (by decide) _ (n (by decide) (by decide) (by decide) _ (n (by decide) (by decide) (by decide) _ (nhd_nil (by decide))))))) h
  have h1 := bk_cut (by decide) hb hb' (n (by decide) (by decide) (by decide) _ (n (by decide) (by decide) (by decide) _ (n (by decide) (by decide) (by decide) _ (n (by decide) (by decide) (by decide) _ (nhd_nil (by decide))))))
    (n (by decide) (by decide) (by decide) _ (n (by decide) (by decide) (by decide) _ (n (by decide) (by decide) (by decide) _ (n (by decide) (by decide) (by decide) _ (nhd_nil (by decide)))))) h0.2
  have h2 := bk_cut (by decide) hc hc' (n (by decide) (by decide) (by decide) _ (n (by decide) (by decide) (by decide) _ (n (by decide) (by decide) (by decide) _ (nhd_nil (by decide)))))
    (n (by decide) (by decide) (by decide) _ (n (by decide) (by decide) (by decide) _ (n (by decide) (by decide) (by decide) _ (nhd_nil (by decide))))) h1.2
  have h3 := bk_cut (by decide) hd hd' (n (by decide) (by decide) (by decide) _ (n (by decide) (by decide) (by decide) _ (nhd_nil (by decide))))
    (n (by decide) (by decide) (by decide) _ (n (by decide) (by decide) (by decide) _ (nhd_nil (by decide)))) h2.2
  have h4 := bk_cut (by decide) he he' (n (by decide) (by decide) (by decide) _ (nhd_nil (by decide))) (n (by decide) (by decide) (by decide) _ (nhd_nil (by decide))) h3.2
  have h5 := bk_cut (by decide) hf hf' (nhd_nil (by decide)) (nhd_nil (by decide)) h4.2
  simp [pgSame, pairOk, h0.1, h1.1, h2.1, h3.1, h4.1, h5.1]
/-! the same is written the same -/
mutual
theorem smT_same : ∀ x y : Sm, smSame x y = true → smT x = smT y
  | .mk o a n k b e, .mk o2 a2 n2 k2 b2 e2, h => by
    rw [smSame] at h
    simp only [Sm.op, Sm.nm, Sm.kids, Sm.body, Sm.els, Bool.and_eq_true] at h
    obtain ⟨h1, h3, h4, h5, h6⟩ := h
    obtain rfl := of_decide_eq_true h1
    obtain rfl := of_decide_eq_true h3
    rw [smT, smT, (exsT_same k k2 h4).1, smsT_same b b2 h5, smsT_same e e2 h6]
theorem smsT_same : ∀ l m : List Sm, smsSame l m = true → smsT l = smsT m
  | [], [], _ => rfl
  | [], y :: m, h => by simp [smsSame] at h
  | x :: l, [], h => by simp [smsSame] at h
  | x :: l, y :: m, h => by
    rw [smsSame] at h
    simp only [Bool.and_eq_true] at h
    rw [smsT, smsT, smT_same x y h.1, smsT_same l m h.2]
end
theorem same_len {l m : List Ex} (h : exsSame l m = true) : l.length = m.length := by
  have h1 := (exsT_same l m h).1
  have h2 := congrArg List.length h1
  rwa [exsT_map, exsT_map, List.length_map, List.length_map] at h2
theorem ldT_same (pre : List Str) {l m : List Ex} (h : exsSame l m = true) : ldT pre l = ldT pre m := by
  have h1 := (exsT_same l m h).1
  rw [exsT_map, exsT_map] at h1
  unfold ldT
  rw [List.flatMap_def, List.flatMap_def]
  have h2 : ∀ l : List Ex, l.map (fun e => pre ++ exT e) = (l.map exT).map (fun t => pre ++ t) := fun l => by rw [List.map_map]; rfl
  rw [h2, h2, h1]
theorem dcT_same {c d : Dc} (h : dcSame c d = true) : dcT c = dcT d := by
  simp only [dcSame, Bool.and_eq_true] at h
  obtain ⟨h1, h2, h3, h4, h5, h6⟩ := h
  have h1 := of_decide_eq_true h1
  have h2 := of_decide_eq_true h2
  have hs : sizeT c = sizeT d := by unfold sizeT; rw [(exsT_same _ _ h3).1]
  have hb : boundsT c = boundsT d := by unfold boundsT; rw [same_len h4, same_len h5, ldT_same _ h4, ldT_same _ h5]
  unfold dcT
  rw [hs, hb, h1, h2, ldT_same _ h6]
theorem dcsT_same : ∀ {l m : List Dc}, pairOk dcSame l m = true → dcsT l = dcsT m
  | [], [], _ => rfl
  | [], y :: m, h => by simp [pairOk] at h
  | x :: l, [], h => by simp [pairOk] at h
  | x :: l, y :: m, h => by
    rw [pairOk_cons, Bool.and_eq_true] at h
    have := dcsT_same h.2
    unfold dcsT at *
    rw [List.flatMap_cons, List.flatMap_cons, dcT_same h.1, this]
theorem bkT_same {i : Nat} {b c : Bk} (h : bkSame b c = true) : bkT i b = bkT i c := by
  simp only [bkSame, Bool.and_eq_true] at h
  obtain ⟨h1, h2, h3⟩ := h
  have h1 := of_decide_eq_true h1
  unfold bkT
  rw [h1, dcsT_same h2, smsT_same _ _ h3]
theorem pgT_same {p q : List Bk} (lp : p.length = 6) (lq : q.length = 6) (h : pgSame p q = true) : pgT p = pgT q := by
  obtain ⟨a, b, c, d, e, f, rfl⟩ := six lp
  obtain ⟨a', b', c', d', e', f', rfl⟩ := six lq
  simp only [pgSame, pairOk_cons, Bool.and_eq_true] at h
  obtain ⟨h0, h1, h2, h3, h4, h5, _⟩ := h
  rw [pgT_six, pgT_six, bkT_same h0, bkT_same h1, bkT_same h2, bkT_same h3, bkT_same h4, bkT_same h5]
/-! the tokens of what is written -/
theorem tks_flat {l : List (List Str)} (h : ∀ t ∈ l, Tks t) : Tks l.flatten := fun s hs => by
  obtain ⟨t, ht, hs⟩ := List.mem_flatten.1 hs
  exact h t ht s hs
theorem tks_one {s : Str} (h : Tk1 s) : Tks [s] := tks_cons h tks_nil
theorem tk_c {s : Str} (h : (tokAt s 0).2 = (s.length, true)) : Tks [s] := tks_one (tk_fix h)
theorem tks_body {b : List Sm} (h : ∀ s ∈ b, Tks (smT s)) : Tks (bodyT (smsT b)) := by
  unfold bodyT
  refine tks_append (tks_append (tk_c (by decide +kernel)) (tks_flat fun t ht => ?_)) (tk_c (by decide +kernel))
  rw [smsT_map] at ht
  obtain ⟨s, hs, rfl⟩ := List.mem_map.1 ht
  exact h s hs
theorem tks_exs {l : List Ex} (h : exsOk l = true) : ∀ t ∈ exsT l, Tks t := fun t ht => by
  rw [exsT_map] at ht
  obtain ⟨x, hx, rfl⟩ := List.mem_map.1 ht
  rw [exsOk_all, List.all_eq_true] at h
  exact tks_ex (h x hx)
theorem tks_cmp {e : Ex} (h : cmpOk e = true) : Tks (exT e) := by
  obtain ⟨op, a, x, y, rfl, h1, h2, hx, hy, ht⟩ := cmp_cases h
  rw [ht]
  exact tks_append (tks_ex hx) (tks_cons (tk_signs op (by omega) h2) (tks_ex hy))
theorem smT_tks : ∀ (n : Nat) (s : Sm), smW s ≤ n → smOk s = true → Tks (smT s)
  | 0, .mk op a nm ks b e, hn, _ => by rw [smW] at hn; omega
  | n + 1, .mk op a nm ks b e, hn, hok => by
    rw [smW] at hn
    have body : ∀ {b : List Sm}, smsW b ≤ n → smsOk b = true → Tks (bodyT (smsT b)) := fun {b} hb hok => tks_body fun s hs => smT_tks n s (by have := smsW_mem hs; omega) (by rw [smsOk_all, List.all_eq_true] at hok; exact hok s hs)
    rcases sm_cases hok with ⟨rfl, hn1, rfl, rfl, x, rfl, hx⟩ | ⟨rfl, hn1, rfl, rfl, x, y, rfl, hx, hy⟩ | ⟨rfl, hn1, rfl, rfl, x, l, rfl, hx, hl⟩ | ⟨rfl, rfl, rfl, rfl, x, rfl, hx⟩ | ⟨rfl, hn1, rfl, hb, x, y, rfl, hx, hy⟩ | ⟨rfl, rfl, hb, he, x, rfl, hx⟩ | ⟨rfl, rfl, rfl, rfl, hb⟩
    · rw [smT_1b a nm [x] [] [] rfl rfl]
      exact tks_append (tks_append (tks_append (tks_one (tk_name hn1)) (tk_c (by decide +kernel))) (tks_ex hx)) (tk_c (by decide +kernel))
    · rw [smT_1 a nm [x, y] [] [] rfl rfl rfl]
      exact tks_append (tks_append (tks_append (tks_append (tks_one (tk_name hn1)) (tks_append (tks_append (tk_c (by decide +kernel)) (tks_ex hx)) (tk_c (by decide +kernel)))) (tk_c (by decide +kernel))) (tks_ex hy)) (tk_c (by decide +kernel))
    · rw [smT_3 a nm (x :: l) [] [] rfl]
      exact tks_append (tks_append (tks_append (tks_ex hx) (tks_cons (tk_fix (by decide +kernel)) (tks_cons (tk_name hn1) (tk_c (by decide +kernel))))) (tks_row (tks_exs hl))) (tks_cons (tk_fix (by decide +kernel)) (tk_c (by decide +kernel)))
    · rw [smT_2 a [] [x] [] [] rfl]
      exact tks_append (tks_append (tks_cons (tk_fix (by decide +kernel)) (tk_c (by decide +kernel))) (tks_ex hx)) (tk_c (by decide +kernel))
    · rw [smT_4 a nm [x, y] b [] rfl rfl]
      exact tks_append (tks_append (tks_append (tks_append (tks_append (tks_cons (tk_fix (by decide +kernel)) (tks_cons (tk_fix (by decide +kernel)) (tks_cons (tk_name hn1) (tk_c (by decide +kernel))))) (tks_ex hx)) (tk_c (by decide +kernel))) (tks_ex hy)) (tk_c (by decide +kernel))) (body (by omega) hb)
    · rw [smT_5 a [] [x] b e rfl]
      refine tks_append (tks_append (tks_append (tks_append (tks_cons (tk_fix (by decide +kernel)) (tk_c (by decide +kernel))) (tks_cmp hx)) (tk_c (by decide +kernel))) (body (by omega) hb)) ?_
      split
      · exact tks_append (tk_c (by decide +kernel)) (body (by omega) he)
      · exact tks_nil
    · rw [smT_6 a [] [] b []]
      exact body (by omega) hb
theorem ldT_tks {pre : List Str} (hp : Tks pre) {l : List Ex} (h : partOk l = true) : Tks (ldT pre l) := by
  rcases part_cases h with rfl | ⟨x, rfl, hx⟩
  · exact tks_nil
  · have : ldT pre [x] = pre ++ exT x := by simp [ldT]
    rw [this]; exact tks_append hp (tks_ex hx)
theorem dcT_tks {d : Dc} (h : dcOk d = true) : Tks (dcT d) := by
  have h0 := h
  simp only [dcOk, Bool.and_eq_true] at h0
  obtain ⟨⟨⟨⟨⟨h1, h2⟩, h3⟩, _⟩, _⟩, h6, h7, h8, h9⟩ := h0
  have h1 := of_decide_eq_true h1
  have h2 := of_decide_eq_true h2
  have hs : Tks (sizeT d) := tks_append (tks_append (tk_c (by decide +kernel)) (tks_row (tks_exs (by simp only [partOk, Bool.and_eq_true] at h6; exact h6.2)))) (tk_c (by decide +kernel))
  have hb : Tks (boundsT d) := by
    unfold boundsT
    split
    · exact tks_nil
    · refine tks_append (tks_append (tks_append (tks_append (tk_c (by decide +kernel)) (ldT_tks (tks_cons (tk_fix (by decide +kernel)) (tk_c (by decide +kernel))) h7)) ?_) (ldT_tks (tks_cons (tk_fix (by decide +kernel)) (tk_c (by decide +kernel))) h8)) (tk_c (by decide +kernel))
      split
      · exact tk_c (by decide +kernel)
      · exact tks_nil
  have ht : Tks [tyT d.ty] := by
    have : d.ty = 1 ∨ d.ty = 2 ∨ d.ty = 3 ∨ d.ty = 4 ∨ d.ty = 5 := by omega
    rcases this with e | e | e | e | e <;> rw [e] <;> exact tk_c (by decide +kernel)
  unfold dcT
  refine tks_append (tks_append (tks_append (tks_append (tks_append (tks_append ?_ ht) hb) ?_) (tks_one (tk_name h3))) (ldT_tks (tk_c (by decide +kernel)) h9)) (tk_c (by decide +kernel))
  · split
    · exact tks_append (tk_c (by decide +kernel)) hs
    · exact tks_nil
  · split
    · exact hs
    · exact tks_nil
theorem headW_tks {i : Nat} (h : i < 6) : Tks (headW i) := by
  have : i = 0 ∨ i = 1 ∨ i = 2 ∨ i = 3 ∨ i = 4 ∨ i = 5 := by omega
  rcases this with rfl | rfl | rfl | rfl | rfl | rfl <;> first | exact tk_c (by decide +kernel) | exact tks_cons (tk_fix (by decide +kernel)) (tk_c (by decide +kernel))
theorem bkT_tks {i : Nat} {b : Bk} (hi : i < 6) (h : bkOk i b = true) : Tks (bkT i b) := by
  have f := bk_facts h
  unfold bkT
  split
  · refine tks_append (tks_append (tks_append (tks_append (headW_tks hi) (tk_c (by decide +kernel))) ?_) (tks_flat ?_)) (tk_c (by decide +kernel))
    · intro s hs
      obtain ⟨d, hd, hs⟩ := List.mem_flatMap.1 hs
      exact dcT_tks (f.1 d hd) s hs
    · intro t ht
      rw [smsT_map] at ht
      obtain ⟨s, hs, rfl⟩ := List.mem_map.1 ht
      have := f.2.1
      rw [smsOk_all, List.all_eq_true] at this
      exact smT_tks _ s (Nat.le_refl _) (this s hs)
  · exact tks_nil
theorem pgT_tks {p : List Bk} (lp : p.length = 6) (h : pgOk p = true) : Tks (pgT p) := by
  obtain ⟨a, b, c, d, e, f, rfl⟩ := six lp
  obtain ⟨ha, hb, hc, hd, he, hf⟩ := pgOk_six h
  rw [pgT_six]
  exact tks_append (bkT_tks (by decide) ha) (tks_append (bkT_tks (by decide) hb) (tks_append (bkT_tks (by decide) hc) (tks_append (bkT_tks (by decide) hd) (tks_append (bkT_tks (by decide) he) (tks_append (bkT_tks (by decide) hf) tks_nil)))))
/-! the law -/
theorem apart_law {p q : List Bk} (lp : p.length = 6) (lq : q.length = 6) (hp : pgOk p = true) (hq : pgOk q = true) : (textT (pgT p) = textT (pgT q)) ↔ pgSame p q = true := by
  constructor
  · intro h
    rw [textT_pg, textT_pg] at h
    exact pg_cut lp lq hp hq (sp_inj (pgT_tks lp hp) (pgT_tks lq hq) h)
  · intro h
    rw [pgT_same lp lq h]
theorem read_law {p : List Bk} (lp : p.length = 6) (hp : pgOk p = true) (hl : (textT (pgT p)).length ≤ 20000) : (readP (textT (pgT p))).2.1 = 0 ∨ (readP (textT (pgT p))).2.1 = 6 := by
  rw [textT_pg] at *
  exact sp_read (pgT_tks lp hp) hl
/-! places do not matter -/
def moveS (at_ : Int) : Sm → Sm
  | .mk o _ n k b e => .mk o at_ n k b e
def moveB (at_ : Int) (b : Bk) : Bk := { b with stmts := b.stmts.map (moveS at_) }
theorem moveS_ok (at_ : Int) (s : Sm) : smOk (moveS at_ s) = smOk s := by obtain ⟨o, a, n, k, b, e⟩ := s; rw [moveS, smOk, smOk]
theorem moveS_same (at_ : Int) (s : Sm) : smSame (moveS at_ s) s = true := by
  obtain ⟨o, a, n, k, b, e⟩ := s
  have := smSame_refl (.mk o a n k b e)
  rw [moveS, smSame]
  rwa [smSame] at this
theorem moveS_smsOk (at_ : Int) (l : List Sm) : smsOk (l.map (moveS at_)) = smsOk l := by
  rw [smsOk_all, smsOk_all, List.all_map]
  congr 1
  funext s
  exact moveS_ok at_ s
theorem moveS_smsSame (at_ : Int) : ∀ l : List Sm, smsSame (l.map (moveS at_)) l = true
  | [] => by simp [smsSame]
  | s :: l => by rw [List.map_cons, smsSame]; simp [moveS_same at_ s, moveS_smsSame at_ l]
theorem moveB_ok (at_ : Int) (i : Nat) (b : Bk) : bkOk i (moveB at_ b) = bkOk i b := by
  unfold bkOk headB moveB
  simp only [List.length_map, moveS_smsOk]
theorem moveB_same (at_ : Int) (b : Bk) : bkSame (moveB at_ b) b = true := by
  unfold bkSame moveB
  simp [pairOk_refl dcSame_refl, moveS_smsSame]
theorem move_ok (at_ : Int) (p : List Bk) : pgOk (p.map (moveB at_)) = pgOk p := by
  unfold pgOk
  congr 1
  funext i
  rw [List.getElem?_map]
  cases p[i]? with
  | none => rfl
  | some b => exact moveB_ok at_ i b
theorem move_same (at_ : Int) : ∀ p : List Bk, pgSame (p.map (moveB at_)) p = true
  | [] => rfl
  | b :: p => by
    have := move_same at_ p
    unfold pgSame at *
    rw [List.map_cons, pairOk_cons, moveB_same, this]; rfl
end Go.Tree
end

section
namespace Go.Proofs.YtcmcdgkjipnfnaaDoor
open Go.RowKit Go.Sx
open Go.Tok Go.Tree


abbrev Tt : Nat → Prop := fun _ => True
theorem celEqA {B : Base} {L : Heap} {w : World} {b : Nat} {cs cs2 : List Value} {T : TypeId} (h : St B ((b, cel cs T) :: L) w) (he : cs = cs2) : St B ((b, cel cs2 T) :: L) w := he ▸ h
theorem At.all {W : World} {N : Nat → Prop} {a : Option Addr} {i : Nat} {cs : List Value} (h : At W N a i cs) : At W Tt a i cs := by
  obtain ⟨b, o, h1, _, h3⟩ := h; exact ⟨b, o, h1, trivial, h3⟩
mutual
theorem exM.all {W : World} {N : Nat → Prop} : ∀ (e : Ex) (cs : List Value), exM W N e cs → exM W Tt e cs
  | .mk op at_ nm ks, cs, h => by
    unfold exM at h ⊢
    obtain ⟨a, c, h1, h2, h3⟩ := h
    exact ⟨a, c, h1, h2, exsM.all ks a 0 h3⟩
theorem exsM.all {W : World} {N : Nat → Prop} : ∀ (l : List Ex) (a : Option Addr) (i : Nat), exsM W N l a i → exsM W Tt l a i
  | [], _, _, _ => by unfold exsM; trivial
  | e :: l, a, i, h => by
    unfold exsM at h ⊢
    obtain ⟨⟨cs, h1, h2⟩, h3⟩ := h
    exact ⟨⟨cs, At.all h1, exM.all e cs h2⟩, exsM.all l a (i + 4) h3⟩
end
mutual
theorem smM.all {W : World} {N : Nat → Prop} : ∀ (e : Sm) (cs : List Value), smM W N e cs → smM W Tt e cs
  | .mk op at_ nm ks b e, cs, h => by
    unfold smM at h ⊢
    obtain ⟨a, c, ab, cb, ae, ce, h1, h2, h3, h4, h5⟩ := h
    exact ⟨a, c, ab, cb, ae, ce, h1, h2, exsM.all ks a 0 h3, smsM.all b ab 0 h4, smsM.all e ae 0 h5⟩
theorem smsM.all {W : World} {N : Nat → Prop} : ∀ (l : List Sm) (a : Option Addr) (i : Nat), smsM W N l a i → smsM W Tt l a i
  | [], _, _, _ => by unfold smsM; trivial
  | e :: l, a, i, h => by
    unfold smsM at h ⊢
    obtain ⟨⟨cs, h1, h2⟩, h3⟩ := h
    exact ⟨⟨cs, At.all h1, smM.all e cs h2⟩, smsM.all l a (i + 6) h3⟩
end
theorem dcM.all {W : World} {N : Nat → Prop} {d : Dc} {cs : List Value} (h : dcM W N d cs) : dcM W Tt d cs := by
  obtain ⟨sa, sc, la, lc, ua, uc, ia, ic, h1, h2, h3, h4, h5⟩ := h
  exact ⟨sa, sc, la, lc, ua, uc, ia, ic, h1, exsM.all _ _ _ h2, exsM.all _ _ _ h3, exsM.all _ _ _ h4, exsM.all _ _ _ h5⟩
theorem dcsM.all {W : World} {N : Nat → Prop} {l : List Dc} {a : Option Addr} (h : dcsM W N l a) : dcsM W Tt l a := fun k d hk => by
  obtain ⟨cs, h1, h2⟩ := h k d hk; exact ⟨cs, At.all h1, dcM.all h2⟩
theorem bkM.all {W : World} {N : Nat → Prop} {b : Bk} {cs : List Value} (h : bkM W N b cs) : bkM W Tt b cs := by
  obtain ⟨da, dc, sa, sc, h1, h2, h3⟩ := h; exact ⟨da, dc, sa, sc, h1, dcsM.all h2, smsM.all _ _ _ h3⟩
theorem pgM.all {W : World} {N : Nat → Prop} {p : List Bk} {cs : List Value} (h : pgM W N p cs) : pgM W Tt p cs := ⟨h.six, h.len, fun i b hb => bkM.all (h.one i b hb)⟩
/-- each of a row -/
theorem smsM.of {W : World} {N : Nat → Prop} {a : Option Addr} : ∀ {l : List Sm} {i : Nat}, (∀ k e, l[k]? = some e → ∃ cs, At W N a (i + k * 6) cs ∧ smM W N e cs) → smsM W N l a i
  | [], _, _ => by unfold smsM; trivial
  | e :: l, i, h => by
    unfold smsM
    refine ⟨by simpa using h 0 e rfl, smsM.of fun k e hk => ?_⟩
    have := h (k + 1) e (by simpa using hk)
    rwa [show i + (k + 1) * 6 = i + 6 + k * 6 by omega] at this
/-- the program, of which the first i blocks are moved -/
def mx (at_ : Int) (pg : List Bk) (i : Nat) : List Bk := (pg.take i).map (moveB at_) ++ pg.drop i
theorem mx_0 (at_ : Int) (pg : List Bk) : mx at_ pg 0 = pg := by simp [mx]
theorem mx_6 {at_ : Int} {pg : List Bk} (h : pg.length = 6) : mx at_ pg 6 = pg.map (moveB at_) := by
  unfold mx; rw [List.take_of_length_le (by omega), List.drop_eq_nil_of_le (by omega), List.append_nil]
theorem mx_len (at_ : Int) (pg : List Bk) (i : Nat) : (mx at_ pg i).length = pg.length := by simp [mx]; omega
theorem mx_next {at_ : Int} {pg : List Bk} {i : Nat} {b : Bk} (hb : pg[i]? = some b) : mx at_ pg (i + 1) = (mx at_ pg i).set i (moveB at_ b) := by
  obtain ⟨hi, he⟩ := List.getElem?_eq_some_iff.1 hb
  unfold mx
  have h1 : ((pg.take i).map (moveB at_)).length = i := by simp; omega
  rw [List.set_append_right _ _ (by omega), h1, Nat.sub_self, List.take_succ_eq_append_getElem hi, List.map_append, List.append_assoc, List.drop_eq_getElem_cons hi, he]
  rfl
def Keeps (w0 : World) (at_ : Int) (pg : List Bk) (i : Nat) (cs : List Value) (Ws : Heap) : Prop := ∀ w, Fr No w0 w → (∀ p ∈ Ws, w.heap[p.1]? = some p.2) → pgM w Tt (mx at_ pg i) cs
theorem keeps_0 {w0 : World} {N : Nat → Prop} {pg : List Bk} {cs : List Value} (h : pgM w0 N pg cs) (at_ : Int) : Keeps w0 at_ pg 0 cs [] := fun w hw _ => by
  rw [mx_0]; exact pgM.all (h.fr hw (fun _ _ h => h))
/-- the statements of a moved block, in a row of the call's own -/
def SmOwn (w0 : World) (N : Nat → Prop) (at_ : Int) (l : List Sm) (v : Value) (xs : List Value) (k : Nat) (W : Heap) : Prop :=
  Own 38 6 v xs k W ∧ ∀ j s, j < k → l[j]? = some s → smM w0 N (moveS at_ s) ((xs.drop (j * 6)).take 6)
theorem smOwn_0 (w0 : World) (N : Nat → Prop) (at_ : Int) (l : List Sm) : SmOwn w0 N at_ l (.slice none 0 0) [] 0 [] := ⟨Own.nil _ _, fun j s h => absurd h (Nat.not_lt_zero _)⟩
theorem smOwn_next {w0 : World} {N : Nat → Prop} {at_ : Int} {l : List Sm} {v v2 : Value} {xs news : List Value} {k : Nat} {W W2 : Heap} {s : Sm} (h : SmOwn w0 N at_ l v xs k W) (hs : l[k]? = some s) (hn : news.length = 6) (hm : smM w0 N (moveS at_ s) news)
    (h2 : Own 38 6 v2 (xs ++ news) (k + 1) W2) : SmOwn w0 N at_ l v2 (xs ++ news) (k + 1) W2 := by
  refine ⟨h2, fun j s2 hj hs2 => ?_⟩
  have hl := h.1.1
  rcases Nat.lt_or_ge j k with h3 | h3
  · have := h.2 j s2 h3 hs2
    rwa [List.drop_append_of_le_length (by omega), List.take_append_of_le_length (by rw [List.length_drop]; omega)]
  · obtain rfl : j = k := by omega
    rw [hs] at hs2
    obtain rfl := Option.some.inj hs2
    rw [List.drop_append, List.drop_eq_nil_of_le (by omega), List.nil_append, hl, Nat.sub_self, List.drop_zero, List.take_of_length_le (by omega)]
    exact hm
theorem smOwn_row {w0 : World} {N : Nat → Prop} {at_ : Int} {l : List Sm} {v : Value} {xs : List Value} {W : Heap} (h : SmOwn w0 N at_ l v xs l.length W) :
    ∃ a c, v = .slice a l.length c ∧ ∀ w, Fr No w0 w → (∀ p ∈ W, w.heap[p.1]? = some p.2) → smsM w Tt (l.map (moveS at_)) a 0 := by
  obtain ⟨⟨hl, h1⟩, h2⟩ := h
  rcases h1 with ⟨rfl, h0, _⟩ | ⟨b, c, sp, rfl, hc, hsp, rfl⟩
  · have : l = [] := List.length_eq_zero_iff.1 h0
    subst this
    exact ⟨none, 0, rfl, fun w _ _ => by unfold List.map smsM; trivial⟩
  · refine ⟨_, _, rfl, fun w hw hp => smsM.of fun k e hk => ?_⟩
    rw [List.getElem?_map] at hk
    cases hq : l[k]? with
    | none => rw [hq] at hk; cases hk
    | some s =>
      rw [hq] at hk
      obtain rfl : moveS at_ s = e := by simpa using hk
      have hlt := (List.getElem?_eq_some_iff.1 hq).1
      have hm := h2 k s hlt hq
      refine ⟨_, ⟨b, 0, rfl, trivial, fun j u hj => ?_⟩, smM.all _ _ (smM.fr hw (fun _ _ h => h) _ _ hm)⟩
      have hb := hp _ (List.mem_singleton.2 rfl)
      have hj6 : j < 6 := by have := (List.getElem?_eq_some_iff.1 hj).1; rw [List.length_take] at this; omega
      rw [List.getElem?_take, if_pos hj6, List.getElem?_drop] at hj
      have hx := (List.getElem?_eq_some_iff.1 hj).1
      simp only [World.cell?, hb]
      simp [List.getElem?_append_left hx, hj]
theorem keeps_next {w0 : World} {at_ : Int} {pg : List Bk} {i : Nat} {b : Bk} {cs : List Value} {Ws W : Heap} {a : Option Addr} {c : Nat} (h : Keeps w0 at_ pg i cs Ws) (hb : pg[i]? = some b)
    (hr : ∀ w, Fr No w0 w → (∀ p ∈ W, w.heap[p.1]? = some p.2) → smsM w Tt (b.stmts.map (moveS at_)) a 0) : Keeps w0 at_ pg (i + 1) (cs.set (i * 3 + 2) (.slice a b.stmts.length c)) (W ++ Ws) := fun w hw hp => by
  have hm := h w hw (fun p h => hp p (List.mem_append_right _ h))
  have hs := hr w hw (fun p h => hp p (List.mem_append_left _ h))
  have hi := (List.getElem?_eq_some_iff.1 hb).1
  have h6 := hm.six
  have hl := hm.len
  have hpl := mx_len at_ pg i
  have hbm : (mx at_ pg i)[i]? = some b := by
    unfold mx
    have h1 : ((pg.take i).map (moveB at_)).length = i := by simp; omega
    rw [List.getElem?_append_right (by omega), h1, Nat.sub_self, List.getElem?_drop, Nat.add_zero, hb]
  rw [mx_next hb]
  refine ⟨by rw [List.length_set]; exact h6, by rw [List.length_set]; exact hl, fun j x hx => ?_⟩
  by_cases hj : j = i
  · subst hj
    rw [List.getElem?_set_self (by omega)] at hx
    obtain rfl := Option.some.inj hx
    obtain ⟨da, dc, sa, sc, he, hd, _⟩ := hm.one j b hbm
    refine ⟨da, dc, a, c, ?_, hd, hs⟩
    rw [List.drop_set, if_neg (by omega), show j * 3 + 2 - j * 3 = 2 by omega, List.take_set, he]
    simp [moveB]
  · rw [List.getElem?_set_ne (by omega)] at hx
    obtain ⟨da, dc, sa, sc, he, hd, hs⟩ := hm.one j x hx
    refine ⟨da, dc, sa, sc, ?_, hd, hs⟩
    rw [← he, List.drop_set]
    split
    · rfl
    · rw [List.take_set_of_le (by omega)]
theorem moveB_W (at_ : Int) (b : Bk) : bkW (moveB at_ b) = bkW b := by
  have h : ∀ l : List Sm, smsW (l.map (moveS at_)) = smsW l := fun l => by
    induction l with
    | nil => rfl
    | cons s l ih => obtain ⟨o, a, n, k, b, e⟩ := s; rw [List.map_cons, smsW, smsW, ih, moveS, smW, smW]
  unfold bkW moveB
  simp only [List.length_map, h]
theorem move_W {at_ : Int} {p : List Bk} {m : Nat} (h : ∀ b ∈ p, bkW b ≤ m) : ∀ b ∈ p.map (moveB at_), bkW b ≤ m := fun b hb => by
  obtain ⟨c, hc, rfl⟩ := List.mem_map.1 hb
  rw [moveB_W]; exact h c hc

set_option maxRecDepth 100000 in
set_option maxHeartbeats 8000000 in
theorem apart_walk (pg qg : List Bk) (cs cq : List Value) (at_ : Int) (N : Nat → Prop) (w : World) (hW : Wd w) (hp : ∀ b ∈ pg, bkW b ≤ 1048576) (hq : ∀ b ∈ qg, bkW b ≤ 1048576) (hm : pgM w N pg cs) (hm2 : pgM w N qg cq) :
    Ret Tryd.prog 4 #[.agg cs.toArray, .agg cq.toArray, .int .i64 at_] w (fun v w' => v = .bool true ∧ Ext w w') := by
  have hlen := pgT_len hp
  have hlen2 := pgT_len hq
  have hlm := pgT_len (move_W (at_ := at_) hp)
  have hl1 : (if pgOk pg = true then textT (pgT pg) else []).length ≤ 1000000000 := by split <;> first | exact hlen.2 | exact Nat.zero_le _
  refine enter (S := No) (l := [_, _, _]) (L := []) 132 Tryd.func4 rfl rfl rfl (St.start w No) ?_; refine yA ?_; refine w_boxA rfl (fun t3b gt3b ut3b => ?_)
  refine w_boxA rfl (fun t4b gt4b ut4b => ?_)
  refine aB rfl ?_; refine yB ?_; refine zq ?_; refine yA ?_; refine w_loadW z30 rfl (fun _ h => h.at_ 1 rfl) hm.len ?_; refine zC (fun w => zR Tryd.func9 rfl rfl rfl) rfl rfl (fun w h => Small_spec pg cs N w (fun b hb => Nat.lt_of_le_of_lt (hp b hb) (by decide)) (hm.now (fun _ _ hh => hh) (.head _) h)) ?_; refine w_r (fun _ => R_not rfl) rfl rfl ?_; refine mB rfl ?_; refine zp (t := 23) rfl (fun h3 => ?_) (fun h3 => ?_)
  · refine zs rfl rfl (bV h3) ?_; refine zs rfl rfl (bV h3) ?_; refine zs rfl rfl (bV h3) ?_; refine w_r (v := .bool _) (fun _ => zT (bV h3) rfl) rfl rfl ?_; refine yB ?_; refine zE rfl ?_; refine yA ?_; refine zC (fun w => zR Tryd.func6 rfl rfl rfl) rfl rfl (fun w h => thead_spec w (hW.now (.head _) h)) ?_; refine aB rfl ?_; refine yB ?_; refine ze ?_; refine zt (?_)
    refine zo (v := .bool _) rfl rfl rfl ?_; exact fun w' hw => ⟨by first | rfl | (simp_all; done), hw.fr _ (.head _)⟩
  · refine zw rfl rfl (bV h3) ?_; refine w_loadW z30 rfl (fun _ h => h.at_ 0 rfl) hm2.len ?_; refine zw rfl rfl (bV h3) ?_; refine zC (fun w => zR Tryd.func9 rfl rfl rfl) rfl rfl (fun w h => Small_spec qg cq N w (fun b hb => Nat.lt_of_le_of_lt (hq b hb) (by decide)) (hm2.now (fun _ _ hh => hh) (.head _) h)) ?_; refine zw rfl rfl (bV h3) ?_; refine w_r (fun _ => R_not rfl) rfl rfl ?_; refine w_r (v := .bool _) (fun _ => zF (bV h3) rfl) rfl rfl ?_; refine yB ?_; refine c_condN rfl (fun h4 => ?_) (fun h4 => ?_)
    · refine yA ?_; refine zC (fun w => zR Tryd.func6 rfl rfl rfl) rfl rfl (fun w h => thead_spec w (hW.now (.head _) h)) ?_; refine aB rfl ?_; refine yB ?_; refine ze ?_; refine zt (?_)
      refine zo (v := .bool _) rfl rfl rfl ?_; exact fun w' hw => ⟨by first | rfl | (simp_all; done), hw.fr _ (.head _)⟩
    · refine zi ?_; refine zk ?_; refine yA ?_; refine w_loadW z30 rfl (fun _ h => h.at_ 1 rfl) hm.len ?_; refine zC (fun w => zR Tryd.func10 rfl rfl rfl) rfl rfl (fun w h => Write_spec pg _ N w (fun b hb => Nat.lt_of_le_of_lt (hp b hb) (by decide)) (hm.now (fun _ _ hh => hh) (.head _) h) (hW.now (.head _) h) hlen.1 hlen.2) ?_; refine zm rfl ?_; refine w_r (fun _ => R_extract rfl rfl) rfl rfl ?_; refine w_r (fun _ => R_extract rfl rfl) rfl rfl ?_; refine za (v := str _) rfl ?_; refine aI rfl ?_; refine yC ?_; refine w_loadW z30 rfl (fun _ h => h.at_ 0 rfl) hm2.len ?_
      refine zC (fun w => zR Tryd.func10 rfl rfl rfl) rfl rfl (fun w h => Write_spec qg _ N w (fun b hb => Nat.lt_of_le_of_lt (hq b hb) (by decide)) (hm2.now (fun _ _ hh => hh) (.head _) h) (hW.now (.head _) h) hlen2.1 hlen2.2) ?_; refine zm rfl ?_; refine w_r (fun _ => R_extract rfl rfl) rfl rfl ?_; refine w_r (fun _ => R_extract rfl rfl) rfl rfl ?_; refine za (v := str _) rfl ?_; refine aI rfl ?_; refine yB ?_; refine zq ?_; refine yA ?_; refine mI rfl ?_; refine w_r (fun _ => R_ne rfl rfl) rfl rfl ?_; refine mB rfl ?_; refine zd (t := 41) rfl (fun h5 => ?_) (fun h5 => ?_)
      · refine zs rfl rfl (bT h5) ?_; refine zs rfl rfl (bT h5) ?_; refine w_r (v := .bool _) (fun _ => zT (bT h5) rfl) rfl rfl ?_; refine yB ?_; refine zE rfl ?_; refine yA ?_; refine zC (fun w => zR Tryd.func6 rfl rfl rfl) rfl rfl (fun w h => thead_spec w (hW.now (.head _) h)) ?_; refine aB rfl ?_; refine yB ?_; refine ze ?_; refine zt (?_)
        refine zo (v := .bool _) rfl rfl rfl ?_; exact fun w' hw => ⟨by first | rfl | (simp_all; done), hw.fr _ (.head _)⟩
      · refine zw rfl rfl (bF h5) ?_; refine mI rfl ?_; refine zw rfl rfl (bF h5) ?_; refine w_r (fun _ => R_ne rfl rfl) rfl rfl ?_; refine w_r (v := .bool _) (fun _ => zF (bF h5) rfl) rfl rfl ?_; refine yB ?_; refine zD rfl (fun h6 => ?_) (fun h6 => ?_)
        · refine yA ?_; refine zC (fun w => zR Tryd.func6 rfl rfl rfl) rfl rfl (fun w h => thead_spec w (hW.now (.head _) h)) ?_; refine aB rfl ?_; refine yB ?_; refine ze ?_; refine zt (?_)
          refine zo (v := .bool _) rfl rfl rfl ?_; exact fun w' hw => ⟨by first | rfl | (simp_all; done), hw.fr _ (.head _)⟩
        · have hpo : pgOk pg = true := (by false_or_by_contra; rename_i hh; exact h5 (by simp [hh])); have hqo : pgOk qg = true := (by false_or_by_contra; rename_i hh; exact h6 (by simp [hh]))
          refine zi ?_; refine zk ?_; refine zq ?_; refine yA ?_; refine zm (v := str _) rfl ?_; refine zm (v := str _) rfl ?_; refine w_r (fun _ => R_seq rfl rfl) rfl rfl ?_; refine w_loadW z30 rfl (fun _ h => h.at_ 1 rfl) hm.len ?_; refine w_loadW z30 rfl (fun _ h => h.at_ 0 rfl) hm2.len ?_; refine zC (fun w => zR Tryd.func11 rfl rfl rfl) rfl rfl (fun w h => Same_spec pg qg cs cq N w (fun b hb => Nat.lt_of_le_of_lt (hp b hb) (by decide)) (hm.now (fun _ _ hh => hh) (.head _) h) (hm2.now (fun _ _ hh => hh) (.head _) h)) ?_; refine w_r (fun _ => R_bne unb4 rfl rfl) rfl rfl ?_; refine yB ?_; refine c_cond rfl (fun h7 => ?_) (fun h7 => ?_)
          · exfalso; rw [if_pos hpo, if_pos hqo, show decide (textT (pgT pg) = textT (pgT qg)) = pgSame pg qg from (by rw [Bool.eq_iff_iff, decide_eq_true_iff]; exact apart_law hm.six hm2.six hpo hqo)] at h7; simp at h7
          · refine zi ?_; refine zk ?_; refine yA ?_; refine w_loadW z30 rfl (fun _ h => h.at_ 1 rfl) hm.len ?_; refine w_alloc zr30 (fun t11b gt11b ut11b => ?_)
            refine w_store (cs' := cs) 0 rfl z30 rfl rfl rfl hm.len (pg_one hm) rfl (by simp) ?_; refine yB ?_; refine zq ?_; refine yA ?_; refine aI rfl ?_; refine yB ?_; refine zB ?_; refine c_st (B' := _) (L' := (t11b, cel cs 30) :: (t3b, cel cs 30) :: []) (fun w h => h.drop (.cons_cons _ (.cons _ (List.Sublist.refl _)))) ?_; refine c_loop (fun m e B L => ∃ (i : Nat) (ds : List Value) (Ws : Heap), e 2 = .int .i64 at_ ∧ e 3 = .pointer (some ⟨t3b, 0, none⟩) ∧ e 7 = str (textT (pgT pg)) ∧ e 11 = .pointer (some ⟨t11b, 0, none⟩) ∧ e 12 = .int .i64 (i : Nat) ∧ B = [(w, No)] ∧ L = (t11b, cel ds 30) :: (t3b, cel cs 30) :: Ws ∧ i ≤ 6 ∧ ds.length = 18 ∧ Keeps w at_ pg i ds Ws ∧ m = 6 - i) _ ⟨0, cs, [], rfl, rfl, (congrArg str (if_pos hpo)), rfl, rfl, rfl, rfl, Nat.zero_le _, hm.len, keeps_0 hm at_, rfl⟩ ?_
            rintro m e B L ⟨i, ds, Ws, e2_1, e3_1, e7_1, e11_1, e12_1, rfl, rfl, hi, hdl, hKm, rfl⟩
            refine zq ?_; refine yA ?_; refine mI e12_1 ?_; refine w_r (fun _ => R_lt rfl rfl) rfl rfl ?_; refine yB ?_; refine zD rfl (fun h9 => ?_) (fun h9 => ?_)
            · obtain ⟨b, hb⟩ : ∃ b, pg[i]? = some b := ⟨_, List.getElem?_eq_getElem (by rw [hm.six]; omega)⟩; obtain ⟨da, dc, sa, sc, hcb, hds, hss⟩ := hm.one _ b hb; have hbw := hp b (List.mem_of_getElem? hb); have hll : b.stmts.length ≤ 1048576 := (by unfold bkW at hbw; omega); have hi6 : i < 6 := (by omega)
              refine zi ?_; refine zk ?_; refine zq ?_; refine zB ?_; refine yA ?_; refine za (v := .slice _ _ _) rfl ?_; refine yB ?_; refine zq ?_; refine yA ?_; refine aI rfl ?_; refine yB ?_; refine zB ?_; refine c_loop (fun m e B L => ∃ (k : Nat) (v : Value) (xs : List Value) (W : Heap), e 2 = .int .i64 at_ ∧ e 3 = .pointer (some ⟨t3b, 0, none⟩) ∧ e 7 = str (textT (pgT pg)) ∧ e 11 = .pointer (some ⟨t11b, 0, none⟩) ∧ e 12 = .int .i64 (i : Nat) ∧ e 13 = v ∧ e 14 = .int .i64 (k : Nat) ∧ B = [(w, No)] ∧ L = (t11b, cel ds 30) :: (t3b, cel cs 30) :: (W ++ Ws) ∧ k ≤ b.stmts.length ∧ SmOwn w N at_ b.stmts v xs k W ∧ m = b.stmts.length - k) _ ⟨0, _, [], [], e2_1, e3_1, e7_1, e11_1, e12_1, rfl, rfl, rfl, rfl, Nat.zero_le _, smOwn_0 w N at_ _, rfl⟩ ?_
              rintro m e B L ⟨k, v, xs, W, e2_2, e3_2, e7_2, e11_2, e12_2, e13_2, e14_2, rfl, rfl, hk, hO, rfl⟩
              refine zq ?_; refine yA ?_; refine mI e14_2 ?_; refine mI e12_2 ?_; refine zf fa30_0 e3_2 ?_; refine w_r (fun _ => R_iaA (i := i) ara28 (by decide) rfl rfl (by first | omega | decide)) rfl rfl ?_; refine zf fa27_2 rfl ?_; refine zl (v := .slice sa b.stmts.length sc) z25 rfl (fun w h => zc 1 rfl (sub_get hcb (j := 2) rfl) h) ?_; refine w_r (fun _ => R_len sl25 rfl) rfl rfl ?_; refine w_r (fun _ => R_lt rfl rfl) rfl rfl ?_; refine yB ?_; refine zD rfl (fun h10 => ?_) (fun h10 => ?_)
              · obtain ⟨x, hxk⟩ : ∃ x, b.stmts[k]? = some x := ⟨_, List.getElem?_eq_getElem (by omega)⟩; obtain ⟨es, hA, hE⟩ := hss.get0 hxk; obtain ⟨b1, o1, rfl⟩ := hA.ptr; have hEm := hE; obtain ⟨op, a0, nm, ks, bo, el⟩ := x; unfold smM at hE; obtain ⟨ka, kc, ba, bc, ea, ec, rfl, hkc, hks, hbo, hel⟩ := hE; have hmv : smM w N (moveS at_ (.mk op a0 nm ks bo el)) [.int .u8 (op : Nat), .int .i64 at_, str nm, .slice ka ks.length kc, .slice ba bo.length bc, .slice ea el.length ec] := (by unfold moveS smM; exact ⟨ka, kc, ba, bc, ea, ec, rfl, hkc, hks, hbo, hel⟩)
                refine zi ?_; refine zk ?_; refine zq ?_; refine zB ?_; refine yA ?_; refine mI e12_2 ?_; refine zf fa30_0 e3_2 ?_; refine w_r (fun _ => R_iaA (i := i) ara28 (by decide) rfl rfl (by first | omega | decide)) rfl rfl ?_; refine zf fa27_2 rfl ?_; refine zl (v := .slice (some ⟨b1, o1, none⟩) b.stmts.length sc) z25 rfl (fun w h => zc 1 rfl (sub_get hcb (j := 2) rfl) h) ?_; refine mI e14_2 ?_; refine w_r (fun _ => R_iaN (i := k) sl25 rfl rfl (by first | omega | decide)) rfl rfl ?_; refine w_loadC (l := [.int .u8 (op : Nat), .int .i64 a0, str nm, .slice ka ks.length kc, .slice ba bo.length bc, .slice ea el.length ec]) z38 rfl rfl (fun w h j v hj => hA.cell (fun _ _ hh => hh) (.head _) h j v hj) ?_; refine w_alloc zr38 (fun t15b gt15b ut15b => ?_)
                refine w_store 0 rfl z38 rfl rfl rfl rfl rfl rfl rfl ?_; refine yC ?_; refine mI e2_2 ?_; refine zf fa38_1 rfl ?_; refine w_store 0 rfl z3 rfl rfl rfl rfl rfl rfl rfl ?_; refine yB ?_; refine zr ?_; refine zm (v := v) e13_2 ?_; refine w_loadA z38 rfl (fun _ h => h.at_ 0 rfl) rfl ?_; refine zS slt25 (by decide) rfl rfl (fun sgb gsgb usgb => ?_)
                refine w_st (B' := _) (L' := (sgb, cel [.int .u8 (op : Nat), .int .i64 at_, str nm, .slice ka ks.length kc, .slice ba bo.length bc, .slice ea el.length ec] 38) :: (t15b, cel [.int .u8 (op : Nat), .int .i64 at_, str nm, .slice ka ks.length kc, .slice ba bo.length bc, .slice ea el.length ec] 38) :: (t11b, cel ds 30) :: (t3b, cel cs 30) :: (W ++ Ws)) (fun w h => celEqA h (by kernel_rfl)) ?_; refine w_app (L := Ws) (W := W) (news := [.int .u8 (op : Nat), .int .i64 at_, str nm, .slice ka ks.length kc, .slice ba bo.length bc, .slice ea el.length ec]) [_, _, _, _] slt25 (by decide) rfl hO.1 rfl rfl (row_own 0 rfl (fun j u h => h)) rfl (by decide) (by omega) (by omega) (fun v2 W2 hO2 => ?_)
                refine za (v := v2) rfl ?_; refine zn ?_; refine b_on (zk ?_); refine zr ?_; refine mI e14_2 ?_; refine w_r (fun _ => R_addi rfl rfl (by omega)) rfl rfl ?_; refine aI rfl ?_; refine zn ?_; refine k_st (B' := _) (L' := (t11b, cel ds 30) :: (t3b, cel cs 30) :: (W2 ++ Ws)) (fun w h => h.drop (.cons _ (.cons _ (List.Sublist.refl _)))) ?_; exact k_again _ (by omega) ⟨k + 1, _, _, _, e2_2, e3_2, e7_2, e11_2, e12_2, rfl, rfl, rfl, rfl, by omega, smOwn_next hO hxk rfl hmv hO2, rfl⟩
              · obtain rfl : k = b.stmts.length := (by omega); obtain ⟨a9, c9, rfl, hr9⟩ := smOwn_row hO
                refine c_exit ?_; refine zx (zx (b_here rfl (zk ?_))); refine zr ?_; refine mI e12_2 ?_; refine zm (v := .slice a9 b.stmts.length c9) e13_2 ?_; refine zf fa30_0 e11_2 ?_; refine w_r (fun _ => R_iaA (i := i) ara28 (by decide) rfl rfl (by first | omega | decide)) rfl rfl ?_; refine zf fa27_2 rfl ?_; refine w_store (cs' := ds.set (i * 3 + 2) (.slice a9 b.stmts.length c9)) (vs := [.slice a9 b.stmts.length c9]) 0 rfl z25 rfl rfl rfl rfl rfl (by rw [Nat.ble_eq, hdl]; omega) (by rw [List.set_eq_take_append_cons_drop, if_pos (by omega)]; simp) ?_; refine zn ?_; refine b_on (zk ?_); refine zr ?_; refine mI e12_2 ?_; refine w_r (fun _ => R_addi rfl rfl (by omega)) rfl rfl ?_; refine aI rfl ?_; refine zn ?_
                refine k_st (B' := _) (L' := (t11b, _) :: (t3b, _) :: (W ++ Ws)) (fun w h => h) ?_; exact k_again _ (by omega) ⟨i + 1, _, W ++ Ws, e2_2, e3_2, e7_2, e11_2, rfl, rfl, rfl, by omega, by rw [List.length_set]; exact hdl, keeps_next hKm hb hr9, rfl⟩
            · obtain rfl : i = 6 := (by omega); have hKm2 : ∀ w', Fr No w w' → (∀ p ∈ Ws, w'.heap[p.1]? = some p.2) → pgM w' Tt (pg.map (moveB at_)) ds := (by rw [← mx_6 hm.six]; exact hKm); have hmo : pgOk (pg.map (moveB at_)) = true := (by rw [move_ok]; exact hpo); have hms := move_same at_ pg; have hmt : textT (pgT (pg.map (moveB at_))) = textT (pgT pg) := (by rw [pgT_same (by rw [List.length_map]; exact hm.six) hm.six hms])
              refine c_exit ?_; refine zx (zx (b_here rfl (zk ?_))); refine yA ?_; refine w_loadW z30 e11_1 (fun _ h => h.at_ 0 rfl) hdl ?_; refine zC (fun w => zR Tryd.func10 rfl rfl rfl) rfl rfl (fun w h => Write_spec (pg.map (moveB at_)) _ Tt w (fun b hb => Nat.lt_of_le_of_lt (move_W hp b hb) (by decide)) (hKm2 w (h.fr _ (.head _)) (fun p hp => h.own p (by simp [hp]))) (hW.now (.head _) h) hlm.1 hlm.2) ?_; refine zm rfl ?_; refine w_r (fun _ => R_extract rfl rfl) rfl rfl ?_; refine w_r (fun _ => R_extract rfl rfl) rfl rfl ?_; refine za (v := str _) rfl ?_; refine aI rfl ?_; refine yB ?_; refine zq ?_; refine yA ?_; refine mI rfl ?_; refine w_r (fun _ => R_ne rfl rfl) rfl rfl ?_; refine mB rfl ?_
              refine zd (t := 94) rfl (fun h12 => ?_) (fun h12 => ?_)
              · refine zs rfl rfl (bT h12) ?_; refine zs rfl rfl (bT h12) ?_; refine zs rfl rfl (bT h12) ?_; refine w_r (v := .bool _) (fun _ => zT (bT h12) rfl) rfl rfl ?_; refine mB rfl ?_; refine zs rfl rfl rfl ?_; refine zs rfl rfl rfl ?_; refine zs rfl rfl rfl ?_; refine zs rfl rfl rfl ?_; refine w_r (v := .bool _) (fun _ => zT rfl rfl) rfl rfl ?_; refine mB rfl ?_; refine zs rfl rfl rfl ?_; refine zs rfl rfl rfl ?_; refine zs rfl rfl rfl ?_; refine w_r (v := .bool _) (fun _ => zT rfl rfl) rfl rfl ?_; refine yB ?_; refine zE rfl ?_; refine yA ?_; refine zm (v := str _) e7_1 ?_; refine w_r (fun _ => R_slen st9 rfl (by omega)) rfl rfl ?_; refine w_r (fun _ => R_gt rfl rfl) rfl rfl ?_; refine mB rfl ?_
                refine zd (t := 113) rfl (fun h13 => ?_) (fun h13 => ?_)
                · refine zw rfl rfl (bT h13) ?_; refine zC (fun w => zR Tryd.func6 rfl rfl rfl) rfl rfl (fun w h => thead_spec w (hW.now (.head _) h)) ?_; refine w_r (v := .bool _) (fun _ => zT (bT h13) rfl) rfl rfl ?_; refine aB rfl ?_; refine yB ?_; refine ze ?_; refine zt (?_)
                  refine zo (v := .bool _) rfl rfl rfl ?_; exact fun w' hw => ⟨by first | rfl | (simp_all; done), hw.fr _ (.head _)⟩
                · refine zs rfl rfl (bF h13) ?_; refine w_r (v := .bool _) (fun _ => zF (bF h13) rfl) rfl rfl ?_; refine aB rfl ?_; refine yB ?_; refine ze ?_; refine zt (?_)
                  refine zo (v := .bool _) rfl rfl rfl ?_; exact fun w' hw => ⟨by first | rfl | (simp_all; done), hw.fr _ (.head _)⟩
              · refine zw rfl rfl (bF h12) ?_; refine zm (v := str _) rfl ?_; refine zw rfl rfl (bF h12) ?_; refine zm (v := str _) e7_1 ?_; refine zw rfl rfl (bF h12) ?_; refine w_r (fun _ => R_sne rfl rfl) rfl rfl ?_; refine w_r (v := .bool _) (fun _ => zF (bF h12) rfl) rfl rfl ?_; refine mB rfl ?_; refine zd (t := 99) rfl (fun h14 => ?_) (fun h14 => ?_)
                · refine zs rfl rfl (bT h14) ?_; refine zs rfl rfl (bT h14) ?_; refine zs rfl rfl (bT h14) ?_; refine zs rfl rfl (bT h14) ?_; refine w_r (v := .bool _) (fun _ => zT (bT h14) rfl) rfl rfl ?_; refine mB rfl ?_; refine zs rfl rfl rfl ?_; refine zs rfl rfl rfl ?_; refine zs rfl rfl rfl ?_; refine w_r (v := .bool _) (fun _ => zT rfl rfl) rfl rfl ?_; refine yB ?_; refine zE rfl ?_; refine yA ?_; refine zm (v := str _) e7_1 ?_; refine w_r (fun _ => R_slen st9 rfl (by omega)) rfl rfl ?_; refine w_r (fun _ => R_gt rfl rfl) rfl rfl ?_; refine mB rfl ?_; refine zd (t := 113) rfl (fun h15 => ?_) (fun h15 => ?_)
                  · refine zw rfl rfl (bT h15) ?_; refine zC (fun w => zR Tryd.func6 rfl rfl rfl) rfl rfl (fun w h => thead_spec w (hW.now (.head _) h)) ?_; refine w_r (v := .bool _) (fun _ => zT (bT h15) rfl) rfl rfl ?_; refine aB rfl ?_; refine yB ?_; refine ze ?_; refine zt (?_)
                    refine zo (v := .bool _) rfl rfl rfl ?_; exact fun w' hw => ⟨by first | rfl | (simp_all; done), hw.fr _ (.head _)⟩
                  · refine zs rfl rfl (bF h15) ?_; refine w_r (v := .bool _) (fun _ => zF (bF h15) rfl) rfl rfl ?_; refine aB rfl ?_; refine yB ?_; refine ze ?_; refine zt (?_)
                    refine zo (v := .bool _) rfl rfl rfl ?_; exact fun w' hw => ⟨by first | rfl | (simp_all; done), hw.fr _ (.head _)⟩
                · refine zw rfl rfl (bF h14) ?_; refine w_loadW z30 e11_1 (fun _ h => h.at_ 0 rfl) hdl ?_; refine zw rfl rfl (bF h14) ?_; refine w_loadW z30 e3_1 (fun _ h => h.at_ 1 rfl) hm.len ?_; refine zw rfl rfl (bF h14) ?_; refine zC (fun w => zR Tryd.func11 rfl rfl rfl) rfl rfl (fun w h => Same_spec (pg.map (moveB at_)) pg ds cs Tt w (fun b hb => Nat.lt_of_le_of_lt (move_W hp b hb) (by decide)) (hKm2 w (h.fr _ (.head _)) (fun p hp => h.own p (by simp [hp]))) (pgM.all (hm.now (fun _ _ hh => hh) (.head _) h))) ?_; refine zw rfl rfl (bF h14) ?_; refine w_r (fun _ => R_not rfl) rfl rfl ?_; refine w_r (v := .bool _) (fun _ => zF (bF h14) rfl) rfl rfl ?_; refine mB rfl ?_; refine zp (t := 105) rfl (fun h16 => ?_) (fun h16 => ?_)
                  · refine zs rfl rfl (bV h16) ?_; refine zs rfl rfl (bV h16) ?_; refine zs rfl rfl (bV h16) ?_; refine w_r (v := .bool _) (fun _ => zT (bV h16) rfl) rfl rfl ?_; refine yB ?_; refine zE rfl ?_; refine yA ?_; refine zm (v := str _) e7_1 ?_; refine w_r (fun _ => R_slen st9 rfl (by omega)) rfl rfl ?_; refine w_r (fun _ => R_gt rfl rfl) rfl rfl ?_; refine mB rfl ?_; refine zd (t := 113) rfl (fun h17 => ?_) (fun h17 => ?_)
                    · refine zw rfl rfl (bT h17) ?_; refine zC (fun w => zR Tryd.func6 rfl rfl rfl) rfl rfl (fun w h => thead_spec w (hW.now (.head _) h)) ?_; refine w_r (v := .bool _) (fun _ => zT (bT h17) rfl) rfl rfl ?_; refine aB rfl ?_; refine yB ?_; refine ze ?_; refine zt (?_)
                      refine zo (v := .bool _) rfl rfl rfl ?_; exact fun w' hw => ⟨by first | rfl | (simp_all; done), hw.fr _ (.head _)⟩
                    · refine zs rfl rfl (bF h17) ?_; refine w_r (v := .bool _) (fun _ => zF (bF h17) rfl) rfl rfl ?_; refine aB rfl ?_; refine yB ?_; refine ze ?_; refine zt (?_)
                      refine zo (v := .bool _) rfl rfl rfl ?_; exact fun w' hw => ⟨by first | rfl | (simp_all; done), hw.fr _ (.head _)⟩
                  · refine zw rfl rfl (bV h16) ?_; refine zm (v := str _) e7_1 ?_; refine zw rfl rfl (bV h16) ?_; refine w_r (fun _ => R_slen st9 rfl (by omega)) rfl rfl ?_; refine zw rfl rfl (bV h16) ?_; refine w_r (fun _ => R_gt rfl rfl) rfl rfl ?_; refine w_r (v := .bool _) (fun _ => zF (bV h16) rfl) rfl rfl ?_; refine yB ?_; refine zD rfl (fun h18 => ?_) (fun h18 => ?_)
                    · refine yA ?_; refine zm (v := str _) e7_1 ?_; refine w_r (fun _ => R_slen st9 rfl (by omega)) rfl rfl ?_; refine w_r (fun _ => R_gt rfl rfl) rfl rfl ?_; refine mB rfl ?_; refine zd (t := 113) rfl (fun h19 => ?_) (fun h19 => ?_)
                      · refine zw rfl rfl (bT h19) ?_; refine zC (fun w => zR Tryd.func6 rfl rfl rfl) rfl rfl (fun w h => thead_spec w (hW.now (.head _) h)) ?_; refine w_r (v := .bool _) (fun _ => zT (bT h19) rfl) rfl rfl ?_; refine aB rfl ?_; refine yB ?_; refine ze ?_; refine zt (?_)
                        refine zo (v := .bool _) rfl rfl rfl ?_; exact fun w' hw => ⟨by first | rfl | (simp_all; done), hw.fr _ (.head _)⟩
                      · refine zs rfl rfl (bF h19) ?_; refine w_r (v := .bool _) (fun _ => zF (bF h19) rfl) rfl rfl ?_; refine aB rfl ?_; refine yB ?_; refine ze ?_; refine zt (?_)
                        refine zo (v := .bool _) rfl rfl rfl ?_; exact fun w' hw => ⟨by first | rfl | (simp_all; done), hw.fr _ (.head _)⟩
                    · have hrd := read_law hm.six hpo (by omega)
                      refine zi ?_; refine zk ?_; refine yA ?_; refine zm (v := str _) e7_1 ?_; refine w_callW (R := RdV (readP (textT (pgT pg)))) (fun w => zR Tryd.func12 rfl rfl rfl) rfl rfl (fun w h => Read_spec (textT (pgT pg)) (by omega) w (hW.now (.head _) h).tb (hW.now (.head _) h).gs) ?_; refine fun u W1 hR1 => w_st (fun w h => h.perm List.perm_append_comm) ?_
                      obtain ⟨a1, c1, rfl, hT1⟩ := hR1
                      refine zm rfl ?_; refine w_r (fun _ => R_extract rfl rfl) rfl rfl ?_; refine w_r (fun _ => R_extract rfl rfl) rfl rfl ?_; refine w_alloc zr41 (fun b20 gb20 ub20 => ?_)
                      refine za (v := .slice _ _ _) rfl ?_; refine w_store 0 rfl z41 rfl rfl rfl rfl rfl rfl rfl ?_; refine yC ?_; refine zf fa41_0 rfl ?_; refine zl z32 rfl (fun _ h => zc 0 rfl rfl h) ?_; refine w_r (fun _ => R_eq rfl rfl) rfl rfl ?_; refine mB rfl ?_; refine zd (t := 124) rfl (fun h21 => ?_) (fun h21 => ?_)
                      · refine zs rfl rfl (bT h21) ?_; refine zs rfl rfl (bT h21) ?_; refine zs rfl rfl (bT h21) ?_; refine w_r (v := .bool _) (fun _ => zT (bT h21) rfl) rfl rfl ?_; refine mB rfl ?_; refine zw rfl rfl rfl ?_; refine zC (fun w => zR Tryd.func6 rfl rfl rfl) rfl rfl (fun w h => thead_spec w (hW.now (.head _) h)) ?_; refine w_r (v := .bool _) (fun _ => zT rfl rfl) rfl rfl ?_; refine aB rfl ?_; refine yB ?_; refine ze ?_; refine zo (v := .bool _) rfl rfl rfl ?_; exact fun w' hw => ⟨by first | rfl | (simp_all; done), hw.fr _ (.head _)⟩
                      · refine zw rfl rfl (bF h21) ?_; refine zf fa41_0 rfl ?_; refine zw rfl rfl (bF h21) ?_; refine zl z32 rfl (fun _ h => zc 0 rfl rfl h) ?_; refine zw rfl rfl (bF h21) ?_; refine w_r (fun _ => R_eq rfl rfl) rfl rfl ?_; refine w_r (v := .bool _) (fun _ => zF (bF h21) rfl) rfl rfl ?_; refine mB rfl ?_; refine zd (t := 129) rfl (fun h22 => ?_) (fun h22 => ?_)
                        · refine zw rfl rfl (bT h22) ?_; refine zC (fun w => zR Tryd.func6 rfl rfl rfl) rfl rfl (fun w h => thead_spec w (hW.now (.head _) h)) ?_; refine w_r (v := .bool _) (fun _ => zT (bT h22) rfl) rfl rfl ?_; refine aB rfl ?_; refine yB ?_; refine ze ?_; refine zo (v := .bool _) rfl rfl rfl ?_; exact fun w' hw => ⟨by first | rfl | (simp_all; done), hw.fr _ (.head _)⟩
                        · refine zs rfl rfl (bF h22) ?_; refine w_r (v := .bool _) (fun _ => zF (bF h22) rfl) rfl rfl ?_; refine aB rfl ?_; refine yB ?_; refine ze ?_; refine zo (v := .bool _) rfl rfl rfl ?_; exact fun w' hw => ⟨by first | rfl | (simp_all; done), hw.fr _ (.head _)⟩
end Go.Proofs.YtcmcdgkjipnfnaaDoor
end

section
/- Trees that are handed in: a reading of an argument opened into a tree in memory. -/
namespace Go.Sx
open Go.RowKit Go.Tree
theorem at_of {w : World} {base b o n k : Nat} {cs : List Value} (h : w.cells? base ((⟨b, o, none⟩ : Addr).add n) k = some cs) : At w (fun _ => True) (some ⟨b, o, none⟩) n cs := by
  obtain ⟨_, hl, hc⟩ := World.cells?_some h
  refine ⟨b, o, rfl, trivial, fun j v hj => ?_⟩
  have hj2 := (List.getElem?_eq_some_iff.1 hj).1
  have := hc j (by omega)
  rw [hj] at this
  rw [← this]
  congr 1
  unfold Addr.add
  by_cases h1 : n = 0 <;> by_cases h2 : j = 0 <;> simp [h1, h2, Nat.add_assoc]
theorem spot_of {w : World} {base k : Nat} {a : Addr} {cs : List Value} (hk : 0 < k) (h : w.cells? base (a.add 0) k = some cs) : a.spot = none := by
  obtain ⟨_, hl, hc⟩ := World.cells?_some h
  have h0 := hc 0 hk
  rw [List.getElem?_eq_getElem (by omega)] at h0
  simpa [Addr.add] using World.cell?_spot h0
theorem list_of {α : Type} {Q : Nat → α → Prop} : ∀ {n : Nat}, (∀ i, i < n → ∃ z, Q i z) → ∃ l : List α, l.length = n ∧ ∀ i z, l[i]? = some z → Q i z
  | 0, _ => ⟨[], rfl, fun i z h => by simp at h⟩
  | n + 1, h => by
    obtain ⟨l, hl, hq⟩ := list_of (n := n) (fun i hi => h i (by omega))
    obtain ⟨z, hz⟩ := h n (by omega)
    refine ⟨l ++ [z], by simp [hl], fun i y hy => ?_⟩
    by_cases hi : i < l.length
    · rw [List.getElem?_append_left hi] at hy
      exact hq i y hy
    · rw [List.getElem?_append_right (by omega)] at hy
      have h1 := (List.getElem?_eq_some_iff.1 hy).1
      have h2 : i = n := by simp at h1; omega
      subst h2
      rw [hl, Nat.sub_self] at hy
      obtain rfl : z = y := by simpa using hy
      exact hz
theorem sum_le {α β : Type} {f : α → Nat} {g : β → Nat} : ∀ (l : List α) (m : List β), l.length = m.length → (∀ (i : Nat) (z : α) (y : β), l[i]? = some z → m[i]? = some y → f z + 1 ≤ g y) → l.length + (l.map f).sum ≤ (m.map g).sum
  | [], [], _, _ => Nat.zero_le _
  | [], _ :: _, h, _ => by simp at h
  | _ :: _, [], h, _ => by simp at h
  | x :: l, y :: m, h, hq => by
    have h1 := hq 0 x y rfl rfl
    have h2 := sum_le l m (by simpa using h) (fun i z u hz hu => hq (i + 1) z u (by simpa using hz) (by simpa using hu))
    simp only [List.length_cons, List.map_cons, List.sum_cons]; omega
section
variable {H : Type} {enc : TypeId × Value → H} {P : Program} {w : World} {sp : Nat → Bool} {hd : Bool}
theorem open_list {α : Type} {R : α → List Value → Prop} {wt : α → Nat} {bk : DataW H → Nat} (hbs : ∀ es rs, (es.map bk).sum ≤ bk (.slice es rs)) {t e k fuel : Nat} {cs : List Value} {x : DataW H × List MemPlace}
    (ht : P.underlying t = some (.slice e)) (hk : P.cellsOf e = k) (hk0 : 0 < k) (h : DataW.trod enc P w 0 sp hd fuel t cs = some x)
    (ih : ∀ n cs y, n < fuel → DataW.trod enc P w 0 sp hd n e cs = some y → ∃ z, R z cs ∧ wt z + 1 ≤ bk y.1) :
    ∃ (l : List α) (a : Option Addr) (c : Nat), cs = [.slice a l.length c] ∧ l.length ≤ c ∧ l.length + (l.map wt).sum ≤ bk x.1 ∧ ∀ i z, l[i]? = some z → ∃ cs', At w (fun _ => True) a (i * k) cs' ∧ R z cs' := by
  rcases DataW.trod_slice ht h with ⟨rfl, rfl⟩ | ⟨a, len, cap, elems, rest, n, rfl, rfl, rfl, hb, hl, hm, hlen, hel, _, _⟩
  · exact ⟨[], none, 0, rfl, Nat.zero_le _, by simp, fun i z hz => by simp at hz⟩
  rw [hk] at hel
  obtain ⟨l, hll, hq⟩ := list_of (n := len) (Q := fun i z => ∃ cs' y, w.cells? 0 (a.add (i * k)) k = some cs' ∧ elems[i]? = some y ∧ R z cs' ∧ wt z + 1 ≤ bk y.1) (fun i hi => by
    have h1 := hel i hi
    rw [List.getElem?_eq_getElem (by omega)] at h1
    obtain ⟨cs', h2, h3⟩ := Option.bind_eq_some_iff.1 h1
    obtain ⟨z, h4, h5⟩ := ih n cs' _ (Nat.lt_succ_self n) h3
    exact ⟨z, cs', _, h2, List.getElem?_eq_getElem (by omega), h4, h5⟩)
  refine ⟨l, some a, cap, by rw [hll], by omega, ?_, fun i z hz => ?_⟩
  · refine Nat.le_trans ?_ (hbs _ _)
    rw [List.map_map]
    refine sum_le l elems (by omega) (fun i z y hz hy => ?_)
    obtain ⟨_, y', _, h2, _, h4⟩ := hq i z hz
    rw [hy] at h2
    obtain rfl := Option.some.inj h2
    exact h4
  · have hi := (List.getElem?_eq_some_iff.1 hz).1
    have hs : a.spot = none := by
      obtain ⟨z0, hz0⟩ : ∃ z, l[0]? = some z := ⟨_, List.getElem?_eq_getElem (by omega)⟩
      obtain ⟨cs', _, h1, _⟩ := hq 0 z0 hz0
      rw [Nat.zero_mul] at h1
      exact spot_of hk0 h1
    obtain ⟨b, o, s⟩ := a
    simp only at hs
    subst hs
    obtain ⟨cs', _, h1, _, h3, _⟩ := hq i z hz
    exact ⟨cs', at_of h1, h3⟩
end
theorem len3 {α : Type} {l : List α} (h : l.length = 3) : ∃ a b c, l = [a, b, c] := by
  match l, h with
  | [a, b, c], _ => exact ⟨a, b, c, rfl⟩
theorem len4 {α : Type} {l : List α} (h : l.length = 4) : ∃ a b c d, l = [a, b, c, d] := by
  match l, h with
  | [a, b, c, d], _ => exact ⟨a, b, c, d, rfl⟩
theorem len6 {α : Type} {l : List α} (h : l.length = 6) : ∃ a b c d e f, l = [a, b, c, d, e, f] := by
  match l, h with
  | [a, b, c, d, e, f], _ => exact ⟨a, b, c, d, e, f, rfl⟩
theorem len7 {α : Type} {l : List α} (h : l.length = 7) : ∃ a b c d e f g, l = [a, b, c, d, e, f, g] := by
  match l, h with
  | [a, b, c, d, e, f, g], _ => exact ⟨a, b, c, d, e, f, g, rfl⟩
theorem exsM_of {w : World} {N : Nat → Prop} {a : Option Addr} : ∀ (l : List Ex) (i0 : Nat), (∀ i z, l[i]? = some z → ∃ cs, At w N a (i0 + i * 4) cs ∧ exM w N z cs) → exsM w N l a i0
  | [], _, _ => by unfold exsM; trivial
  | x :: l, i0, h => by
    unfold exsM
    refine ⟨by simpa using h 0 x rfl, exsM_of l (i0 + 4) (fun i z hz => ?_)⟩
    have := h (i + 1) z (by simpa using hz)
    rwa [show i0 + (i + 1) * 4 = i0 + 4 + i * 4 by omega] at this
theorem smsM_of {w : World} {N : Nat → Prop} {a : Option Addr} : ∀ (l : List Sm) (i0 : Nat), (∀ i z, l[i]? = some z → ∃ cs, At w N a (i0 + i * 6) cs ∧ smM w N z cs) → smsM w N l a i0
  | [], _, _ => by unfold smsM; trivial
  | x :: l, i0, h => by
    unfold smsM
    refine ⟨by simpa using h 0 x rfl, smsM_of l (i0 + 6) (fun i z hz => ?_)⟩
    have := h (i + 1) z (by simpa using hz)
    rwa [show i0 + (i + 1) * 6 = i0 + 6 + i * 6 by omega] at this
theorem exsW_sum : ∀ l : List Ex, exsW l = (l.map exW).sum
  | [] => rfl
  | x :: l => by rw [exsW, exsW_sum l]; rfl
theorem smsW_sum : ∀ l : List Sm, smsW l = (l.map smW).sum
  | [] => rfl
  | x :: l => by rw [smsW, smsW_sum l]; rfl
theorem dcsW_sum : ∀ l : List Dc, dcsW l = (l.map dcW).sum
  | [] => rfl
  | x :: l => by rw [dcsW, dcsW_sum l]; rfl
end Go.Sx
end

section
namespace Go.Proofs.YtcmcdgkjipnfnaaDoor
open Go.RowKit Go.Sx
open Go.Tok Go.Tree

theorem cel5 : Tryd.prog.cellsOf 5 = 1 := by kernel_rfl
theorem cel3 : Tryd.prog.cellsOf 3 = 1 := by kernel_rfl
theorem cel9 : Tryd.prog.cellsOf 9 = 1 := by kernel_rfl
theorem cel4 : Tryd.prog.cellsOf 4 = 1 := by kernel_rfl
theorem cel36 : Tryd.prog.cellsOf 36 = 1 := by kernel_rfl
theorem cel25 : Tryd.prog.cellsOf 25 = 1 := by kernel_rfl
theorem cel24 : Tryd.prog.cellsOf 24 = 1 := by kernel_rfl
theorem cel49 : Tryd.prog.cellsOf 49 = 4 := by kernel_rfl
theorem cel38 : Tryd.prog.cellsOf 38 = 6 := by kernel_rfl
theorem cel53 : Tryd.prog.cellsOf 53 = 7 := by kernel_rfl
theorem cel27 : Tryd.prog.cellsOf 27 = 3 := by kernel_rfl
theorem cel28 : Tryd.prog.cellsOf 28 = 18 := by kernel_rfl
theorem cel30 : Tryd.prog.cellsOf 30 = 18 := by kernel_rfl

section
variable {H : Type} {enc : TypeId × Value → H} {W : World} {sp : Nat → Bool} {hd : Bool}

theorem le_sum_mem {a : Nat} : ∀ {l : List Nat}, a ∈ l → a ≤ l.sum
  | x :: l, h => by
    rw [List.sum_cons]
    rcases List.mem_cons.1 h with rfl | h
    · omega
    · have := le_sum_mem h; omega
theorem bulkAll_sum : ∀ l : List (DataW H), Rows.uptoBulkAll l = (l.map Rows.uptoBulk).sum
  | [] => by simp [Rows.uptoBulkAll]
  | d :: l => by rw [Rows.uptoBulkAll, bulkAll_sum l]; simp
theorem bulk_slice (es rs : List (DataW H)) : (es.map Rows.uptoBulk).sum ≤ Rows.uptoBulk (.slice es rs) := by rw [Rows.uptoBulk, bulkAll_sum]; omega
theorem open_ex : ∀ (fuel : Nat) (cs : List Value) (x : DataW H × List MemPlace), DataW.trod enc Tryd.prog W 0 sp hd fuel 49 cs = some x → ∃ z : Ex, exM W (fun _ => True) z cs ∧ exW z + 1 ≤ Rows.uptoBulk x.1 := by
  intro fuel
  induction fuel using Nat.strongRecOn with | _ fuel ih => ?_
  intro cs x h
  obtain ⟨xs, n, rfl, rfl, hl, hxl, hf⟩ := DataW.trod_struct Tryd.underlying49 h
  have hl := hl.trans cel49
  obtain ⟨c0, c1, c2, c3, rfl⟩ := len4 hl
  obtain ⟨y0, y1, y2, y3, rfl⟩ := len4 (hxl.trans rfl)
  have h0 : DataW.trod enc Tryd.prog W 0 sp hd n 5 (([c0, c1, c2, c3].drop 0).take (Tryd.prog.cellsOf 5)) = some y0 := hf 0 _ rfl
  rw [cel5] at h0
  obtain ⟨n0, e0, rfl, wf0⟩ := DataW.trod_int Tryd.underlying5 h0; obtain rfl : _ = _ := (List.cons.inj e0).1
  have h1 : DataW.trod enc Tryd.prog W 0 sp hd n 3 (([_, c1, c2, c3].drop 1).take (Tryd.prog.cellsOf 3)) = some y1 := hf 1 _ rfl
  rw [cel3] at h1
  obtain ⟨n1, e1, rfl, wf1⟩ := DataW.trod_int Tryd.underlying3 h1; obtain rfl : _ = _ := (List.cons.inj e1).1
  have h2 : DataW.trod enc Tryd.prog W 0 sp hd n 9 (([_, _, c2, c3].drop 2).take (Tryd.prog.cellsOf 9)) = some y2 := hf 2 _ rfl
  rw [cel9] at h2
  obtain ⟨s2, e2, rfl, wf2⟩ := DataW.trod_string Tryd.underlying9 h2; obtain rfl : _ = _ := (List.cons.inj e2).1
  have h3 : DataW.trod enc Tryd.prog W 0 sp hd n 36 (([_, _, _, c3].drop 3).take (Tryd.prog.cellsOf 36)) = some y3 := hf 3 _ rfl
  rw [cel36] at h3
  obtain ⟨l3, a3, k3, e3, hk3, hb3, hl3⟩ := open_list (R := exM W (fun _ => True)) (wt := exW) bulk_slice Tryd.underlying36 cel49 (by decide) h3 (fun m cs y hm hy => ih m (by omega) cs y hy); obtain rfl : _ = _ := (List.cons.inj e3).1
  have w0 := bounds_u8 wf0; obtain ⟨m0, rfl⟩ : ∃ m : Nat, n0 = m := ⟨n0.toNat, by omega⟩
  refine ⟨.mk m0 n1 s2.data.toList l3, ?_, ?_⟩
  · unfold exM; exact ⟨a3, k3, by simp [str], hk3, exsM_of _ 0 (fun i z hz => by rw [Nat.zero_add]; exact hl3 i z hz)⟩
  · unfold exW; rw [exsW_sum]
    simp only [List.map_cons, List.map_nil, Rows.uptoBulk, Rows.uptoBulkAll]
    omega

theorem open_exs (fuel : Nat) {cs : List Value} {x : DataW H × List MemPlace} (h : DataW.trod enc Tryd.prog W 0 sp hd fuel 36 cs = some x) : ∃ (l : List Ex) (a : Option Addr) (c : Nat), cs = [.slice a l.length c] ∧ l.length ≤ c ∧ l.length + (l.map exW).sum ≤ Rows.uptoBulk x.1 ∧ ∀ i z, l[i]? = some z → ∃ cs', At W (fun _ => True) a (i * 4) cs' ∧ exM W (fun _ => True) z cs' :=
  open_list bulk_slice Tryd.underlying36 cel49 (by decide) h (fun m cs y _ hy => open_ex m cs y hy)

theorem open_sm : ∀ (fuel : Nat) (cs : List Value) (x : DataW H × List MemPlace), DataW.trod enc Tryd.prog W 0 sp hd fuel 38 cs = some x → ∃ z : Sm, smM W (fun _ => True) z cs ∧ smW z + 1 ≤ Rows.uptoBulk x.1 := by
  intro fuel
  induction fuel using Nat.strongRecOn with | _ fuel ih => ?_
  intro cs x h
  obtain ⟨xs, n, rfl, rfl, hl, hxl, hf⟩ := DataW.trod_struct Tryd.underlying38 h
  have hl := hl.trans cel38
  obtain ⟨c0, c1, c2, c3, c4, c5, rfl⟩ := len6 hl
  obtain ⟨y0, y1, y2, y3, y4, y5, rfl⟩ := len6 (hxl.trans rfl)
  have h0 : DataW.trod enc Tryd.prog W 0 sp hd n 5 (([c0, c1, c2, c3, c4, c5].drop 0).take (Tryd.prog.cellsOf 5)) = some y0 := hf 0 _ rfl
  rw [cel5] at h0
  obtain ⟨n0, e0, rfl, wf0⟩ := DataW.trod_int Tryd.underlying5 h0; obtain rfl : _ = _ := (List.cons.inj e0).1
  have h1 : DataW.trod enc Tryd.prog W 0 sp hd n 3 (([_, c1, c2, c3, c4, c5].drop 1).take (Tryd.prog.cellsOf 3)) = some y1 := hf 1 _ rfl
  rw [cel3] at h1
  obtain ⟨n1, e1, rfl, wf1⟩ := DataW.trod_int Tryd.underlying3 h1; obtain rfl : _ = _ := (List.cons.inj e1).1
  have h2 : DataW.trod enc Tryd.prog W 0 sp hd n 9 (([_, _, c2, c3, c4, c5].drop 2).take (Tryd.prog.cellsOf 9)) = some y2 := hf 2 _ rfl
  rw [cel9] at h2
  obtain ⟨s2, e2, rfl, wf2⟩ := DataW.trod_string Tryd.underlying9 h2; obtain rfl : _ = _ := (List.cons.inj e2).1
  have h3 : DataW.trod enc Tryd.prog W 0 sp hd n 36 (([_, _, _, c3, c4, c5].drop 3).take (Tryd.prog.cellsOf 36)) = some y3 := hf 3 _ rfl
  rw [cel36] at h3
  obtain ⟨l3, a3, k3, e3, hk3, hb3, hl3⟩ := open_exs n h3; obtain rfl : _ = _ := (List.cons.inj e3).1
  have h4 : DataW.trod enc Tryd.prog W 0 sp hd n 25 (([_, _, _, _, c4, c5].drop 4).take (Tryd.prog.cellsOf 25)) = some y4 := hf 4 _ rfl
  rw [cel25] at h4
  obtain ⟨l4, a4, k4, e4, hk4, hb4, hl4⟩ := open_list (R := smM W (fun _ => True)) (wt := smW) bulk_slice Tryd.underlying25 cel38 (by decide) h4 (fun m cs y hm hy => ih m (by omega) cs y hy); obtain rfl : _ = _ := (List.cons.inj e4).1
  have h5 : DataW.trod enc Tryd.prog W 0 sp hd n 25 (([_, _, _, _, _, c5].drop 5).take (Tryd.prog.cellsOf 25)) = some y5 := hf 5 _ rfl
  rw [cel25] at h5
  obtain ⟨l5, a5, k5, e5, hk5, hb5, hl5⟩ := open_list (R := smM W (fun _ => True)) (wt := smW) bulk_slice Tryd.underlying25 cel38 (by decide) h5 (fun m cs y hm hy => ih m (by omega) cs y hy); obtain rfl : _ = _ := (List.cons.inj e5).1
  have w0 := bounds_u8 wf0; obtain ⟨m0, rfl⟩ : ∃ m : Nat, n0 = m := ⟨n0.toNat, by omega⟩
  refine ⟨.mk m0 n1 s2.data.toList l3 l4 l5, ?_, ?_⟩
  · unfold smM; exact ⟨a3, k3, a4, k4, a5, k5, by simp [str], hk3, exsM_of _ 0 (fun i z hz => by rw [Nat.zero_add]; exact hl3 i z hz), smsM_of _ 0 (fun i z hz => by rw [Nat.zero_add]; exact hl4 i z hz), smsM_of _ 0 (fun i z hz => by rw [Nat.zero_add]; exact hl5 i z hz)⟩
  · unfold smW; rw [exsW_sum, smsW_sum, smsW_sum]
    simp only [List.map_cons, List.map_nil, Rows.uptoBulk, Rows.uptoBulkAll]
    omega

theorem open_sms (fuel : Nat) {cs : List Value} {x : DataW H × List MemPlace} (h : DataW.trod enc Tryd.prog W 0 sp hd fuel 25 cs = some x) : ∃ (l : List Sm) (a : Option Addr) (c : Nat), cs = [.slice a l.length c] ∧ l.length ≤ c ∧ l.length + (l.map smW).sum ≤ Rows.uptoBulk x.1 ∧ ∀ i z, l[i]? = some z → ∃ cs', At W (fun _ => True) a (i * 6) cs' ∧ smM W (fun _ => True) z cs' :=
  open_list bulk_slice Tryd.underlying25 cel38 (by decide) h (fun m cs y _ hy => open_sm m cs y hy)

theorem open_dc : ∀ (fuel : Nat) (cs : List Value) (x : DataW H × List MemPlace), DataW.trod enc Tryd.prog W 0 sp hd fuel 53 cs = some x → ∃ z : Dc, dcM W (fun _ => True) z cs ∧ dcW z + 1 ≤ Rows.uptoBulk x.1 := by
  intro fuel
  induction fuel using Nat.strongRecOn with | _ fuel ih => ?_
  intro cs x h
  obtain ⟨xs, n, rfl, rfl, hl, hxl, hf⟩ := DataW.trod_struct Tryd.underlying53 h
  have hl := hl.trans cel53
  obtain ⟨c0, c1, c2, c3, c4, c5, c6, rfl⟩ := len7 hl
  obtain ⟨y0, y1, y2, y3, y4, y5, y6, rfl⟩ := len7 (hxl.trans rfl)
  have h0 : DataW.trod enc Tryd.prog W 0 sp hd n 5 (([c0, c1, c2, c3, c4, c5, c6].drop 0).take (Tryd.prog.cellsOf 5)) = some y0 := hf 0 _ rfl
  rw [cel5] at h0
  obtain ⟨n0, e0, rfl, wf0⟩ := DataW.trod_int Tryd.underlying5 h0; obtain rfl : _ = _ := (List.cons.inj e0).1
  have h1 : DataW.trod enc Tryd.prog W 0 sp hd n 3 (([_, c1, c2, c3, c4, c5, c6].drop 1).take (Tryd.prog.cellsOf 3)) = some y1 := hf 1 _ rfl
  rw [cel3] at h1
  obtain ⟨n1, e1, rfl, wf1⟩ := DataW.trod_int Tryd.underlying3 h1; obtain rfl : _ = _ := (List.cons.inj e1).1
  have h2 : DataW.trod enc Tryd.prog W 0 sp hd n 9 (([_, _, c2, c3, c4, c5, c6].drop 2).take (Tryd.prog.cellsOf 9)) = some y2 := hf 2 _ rfl
  rw [cel9] at h2
  obtain ⟨s2, e2, rfl, wf2⟩ := DataW.trod_string Tryd.underlying9 h2; obtain rfl : _ = _ := (List.cons.inj e2).1
  have h3 : DataW.trod enc Tryd.prog W 0 sp hd n 36 (([_, _, _, c3, c4, c5, c6].drop 3).take (Tryd.prog.cellsOf 36)) = some y3 := hf 3 _ rfl
  rw [cel36] at h3
  obtain ⟨l3, a3, k3, e3, hk3, hb3, hl3⟩ := open_exs n h3; obtain rfl : _ = _ := (List.cons.inj e3).1
  have h4 : DataW.trod enc Tryd.prog W 0 sp hd n 36 (([_, _, _, _, c4, c5, c6].drop 4).take (Tryd.prog.cellsOf 36)) = some y4 := hf 4 _ rfl
  rw [cel36] at h4
  obtain ⟨l4, a4, k4, e4, hk4, hb4, hl4⟩ := open_exs n h4; obtain rfl : _ = _ := (List.cons.inj e4).1
  have h5 : DataW.trod enc Tryd.prog W 0 sp hd n 36 (([_, _, _, _, _, c5, c6].drop 5).take (Tryd.prog.cellsOf 36)) = some y5 := hf 5 _ rfl
  rw [cel36] at h5
  obtain ⟨l5, a5, k5, e5, hk5, hb5, hl5⟩ := open_exs n h5; obtain rfl : _ = _ := (List.cons.inj e5).1
  have h6 : DataW.trod enc Tryd.prog W 0 sp hd n 36 (([_, _, _, _, _, _, c6].drop 6).take (Tryd.prog.cellsOf 36)) = some y6 := hf 6 _ rfl
  rw [cel36] at h6
  obtain ⟨l6, a6, k6, e6, hk6, hb6, hl6⟩ := open_exs n h6; obtain rfl : _ = _ := (List.cons.inj e6).1
  have w0 := bounds_u8 wf0; obtain ⟨m0, rfl⟩ : ∃ m : Nat, n0 = m := ⟨n0.toNat, by omega⟩
  refine ⟨⟨m0, n1, s2.data.toList, l3, l4, l5, l6⟩, ?_, ?_⟩
  · unfold dcM; exact ⟨a3, k3, a4, k4, a5, k5, a6, k6, by simp [str], exsM_of _ 0 (fun i z hz => by rw [Nat.zero_add]; exact hl3 i z hz), exsM_of _ 0 (fun i z hz => by rw [Nat.zero_add]; exact hl4 i z hz), exsM_of _ 0 (fun i z hz => by rw [Nat.zero_add]; exact hl5 i z hz), exsM_of _ 0 (fun i z hz => by rw [Nat.zero_add]; exact hl6 i z hz)⟩
  · unfold dcW; rw [exsW_sum, exsW_sum, exsW_sum, exsW_sum]
    simp only [List.map_cons, List.map_nil, Rows.uptoBulk, Rows.uptoBulkAll]
    omega

theorem open_dcs (fuel : Nat) {cs : List Value} {x : DataW H × List MemPlace} (h : DataW.trod enc Tryd.prog W 0 sp hd fuel 24 cs = some x) : ∃ (l : List Dc) (a : Option Addr) (c : Nat), cs = [.slice a l.length c] ∧ l.length ≤ c ∧ l.length + (l.map dcW).sum ≤ Rows.uptoBulk x.1 ∧ ∀ i z, l[i]? = some z → ∃ cs', At W (fun _ => True) a (i * 7) cs' ∧ dcM W (fun _ => True) z cs' :=
  open_list bulk_slice Tryd.underlying24 cel53 (by decide) h (fun m cs y _ hy => open_dc m cs y hy)

theorem open_bk : ∀ (fuel : Nat) (cs : List Value) (x : DataW H × List MemPlace), DataW.trod enc Tryd.prog W 0 sp hd fuel 27 cs = some x → ∃ z : Bk, bkM W (fun _ => True) z cs ∧ bkW z + 1 ≤ Rows.uptoBulk x.1 := by
  intro fuel
  induction fuel using Nat.strongRecOn with | _ fuel ih => ?_
  intro cs x h
  obtain ⟨xs, n, rfl, rfl, hl, hxl, hf⟩ := DataW.trod_struct Tryd.underlying27 h
  have hl := hl.trans cel27
  obtain ⟨c0, c1, c2, rfl⟩ := len3 hl
  obtain ⟨y0, y1, y2, rfl⟩ := len3 (hxl.trans rfl)
  have h0 : DataW.trod enc Tryd.prog W 0 sp hd n 4 (([c0, c1, c2].drop 0).take (Tryd.prog.cellsOf 4)) = some y0 := hf 0 _ rfl
  rw [cel4] at h0
  obtain ⟨q0, e0, rfl⟩ := DataW.trod_bool Tryd.underlying4 h0; obtain rfl : _ = _ := (List.cons.inj e0).1
  have h1 : DataW.trod enc Tryd.prog W 0 sp hd n 24 (([_, c1, c2].drop 1).take (Tryd.prog.cellsOf 24)) = some y1 := hf 1 _ rfl
  rw [cel24] at h1
  obtain ⟨l1, a1, k1, e1, hk1, hb1, hl1⟩ := open_dcs n h1; obtain rfl : _ = _ := (List.cons.inj e1).1
  have h2 : DataW.trod enc Tryd.prog W 0 sp hd n 25 (([_, _, c2].drop 2).take (Tryd.prog.cellsOf 25)) = some y2 := hf 2 _ rfl
  rw [cel25] at h2
  obtain ⟨l2, a2, k2, e2, hk2, hb2, hl2⟩ := open_sms n h2; obtain rfl : _ = _ := (List.cons.inj e2).1
  skip
  refine ⟨⟨q0, l1, l2⟩, ?_, ?_⟩
  · unfold bkM; exact ⟨a1, k1, a2, k2, rfl, hl1, smsM_of _ 0 (fun i z hz => by rw [Nat.zero_add]; exact hl2 i z hz)⟩
  · unfold bkW; rw [dcsW_sum, smsW_sum]
    simp only [List.map_cons, List.map_nil, Rows.uptoBulk, Rows.uptoBulkAll]
    omega

theorem open_pg (fuel : Nat) (cs : List Value) (x : DataW H × List MemPlace) (h : DataW.trod enc Tryd.prog W 0 sp hd fuel 30 cs = some x) : ∃ p : List Bk, pgM W (fun _ => True) p cs ∧ ∀ b ∈ p, bkW b ≤ Rows.uptoBulk x.1 := by
  obtain ⟨xs, n, rfl, rfl, hl, hxl, hf⟩ := DataW.trod_struct Tryd.underlying30 h
  have hl := hl.trans cel30
  obtain ⟨y, rfl⟩ := List.length_eq_one_iff.1 (hxl.trans rfl)
  have h0 : DataW.trod enc Tryd.prog W 0 sp hd n 28 ((cs.drop 0).take (Tryd.prog.cellsOf 28)) = some y := hf 0 _ rfl
  rw [cel28, List.drop_zero] at h0
  rw [show cs.take 18 = cs from List.take_of_length_le (by omega)] at h0
  obtain ⟨zs, m, rfl, hy, hl2, hzl, hg⟩ := DataW.trod_array Tryd.underlying28 h0
  obtain rfl : y = _ := hy
  obtain ⟨l, hll, hq⟩ := list_of (n := 6) (Q := fun i z => bkM W (fun _ => True) z ((cs.drop (i * 3)).take 3) ∧ ∃ y, zs[i]? = some y ∧ bkW z + 1 ≤ Rows.uptoBulk y.1) (fun i hi => by
    have h1 := hg i hi
    rw [cel27] at h1
    rw [List.getElem?_eq_getElem (by omega)] at h1
    obtain ⟨z, h4, h5⟩ := open_bk m _ _ h1
    exact ⟨z, h4, _, List.getElem?_eq_getElem (by omega), h5⟩)
  refine ⟨l, ⟨hll, hl, fun i b hb => (hq i b hb).1⟩, fun b hb => ?_⟩
  obtain ⟨i, hi⟩ := List.getElem?_of_mem hb
  obtain ⟨_, y, h1, h2⟩ := hq i b hi
  have h3 : Rows.uptoBulk y.1 ≤ ((zs.map (·.1)).map Rows.uptoBulk).sum := le_sum_mem (List.mem_map_of_mem (List.mem_map_of_mem (List.mem_of_getElem? h1)))
  simp only [List.map_cons, List.map_nil, Rows.uptoBulk, Rows.uptoBulkAll, bulkAll_sum, List.sum_cons, List.sum_nil]
  omega
end
end Go.Proofs.YtcmcdgkjipnfnaaDoor
end

section
namespace Go.Proofs.YtcmcdgkjipnfnaaDoor
open Go.ChangeShapes Go.WideShapes Go.ChangeAt Go.RowKit Go.Sx
open Go.ChangeMaps (open_string)
theorem own : ownKnob Tryd.prog.godebug = none := by kernel_rfl
theorem below_ext {w w' : World} (h : Ext w w') : Below w.heap.size w w' := ⟨h.os, h.tape, h.output, h.size, fun k hk => h.blk k hk (fun x => x)⟩
section
variable {H : Type} {enc : TypeId × Value → H} {P : Program}
theorem post_ext2 {f : Func} {s : ChangeSpec} {apart fresh handsOn : Bool} {W W' : World} {args : Array Value} {v : Value} {ds gs : List (DataW H)} {before pa pv : List MemPlace}
    (hW : DataW.Whole enc P f.params.toList s.vars apart W args.toList ds gs before)
    (hres : ∀ (b : Nat) (sp : Nat → Bool) (hd : Bool), DataW.TrodAll enc P W' b sp hd f.resultTypes.toList (v.resultList f.resultTypes.size) (s.fn H (ds ++ gs)).results [])
    (hargs : DataW.TrodAll enc P W' 0 (fun b => decide (b < W.heap.size)) true f.params.toList args.toList (s.fn H (ds ++ gs)).args pa)
    (hvars : ∀ sp : Nat → Bool, (∀ p ∈ before, sp p.block = true) → DataW.TrodVars enc P W' sp s.vars (s.fn H (ds ++ gs)).vars pv)
    (hps : before = pa ++ pv) (hb : Below W.heap.size W W') : s.post enc P f apart fresh handsOn false W args v W' := by
  have hold : ∀ p ∈ before, (fun b => decide (b < W.heap.size)) p.block = true := fun p hp => by simpa using hW.lt p hp
  exact ⟨ds, gs, before, [], pa, pv, hW, hres _ _ _, hargs, hvars _ hold, hb.frame _, fun h => by cases h⟩
end
theorem agg_of {v : Value} {n : Nat} (h : v.cells.toList.length = n + 2) : v = .agg v.cells.toList.toArray := by
  cases v <;> first | rfl | (simp [Value.cells] at h)
theorem laidB : laidOutB Tryd.prog = true := by kernel_rfl
theorem door_met (os : Os) (args : Array Value) : laidMetH Tryd.prog Rows.treeApartUptoRow.laid ((World.doorLaid Tryd.prog 400 os).forCall (fun _ _ => 0) ⟨#[], args, []⟩).memory :=
  laidMetH_of_parts3 (fuel := 8) (laidMet_of_run' 8 (by kernel_rfl) (by kernel_rfl)) (by kernel_rfl) (by kernel_rfl)
set_option maxRecDepth 100000 in
theorem tb_of_laid {W : World} (h : laidMetH Tryd.prog Rows.treeApartUptoRow.laid W) : Tb W := by
  rw [MakeChecks.laidMetH_plain _ _ _ (by kernel_rfl)] at h
  obtain ⟨ps, ⟨g0, t0, cs0, f0, p0, q0, hg0, ht0, hv0, hd0, ⟨g1, t1, cs1, f1, p1, q1, hg1, ht1, hv1, hd1, hr1, hq0⟩, hps⟩, hn, hm⟩ := h
  refine Tb.of (Lib.tabIs_of_head (g := 0) (t := 88) (e := 5) (n := 256) (rest := []) (by kernel_rfl) (by kernel_rfl) Tryd.underlying88 Tryd.underlying5 (by kernel_rfl) (by kernel_rfl) (W := W) ⟨q0, ⟨g1, t1, cs1, f1, p1, q1, hg1, ht1, hv1, hd1, hr1, hq0⟩, ?_, ?_⟩)
  · rw [hps] at hn; exact (List.nodup_append.1 hn).2.1
  · exact fun b off hx => hm b off (by rw [hps]; exact List.mem_append.2 (.inr hx))

set_option maxRecDepth 100000 in
theorem treeApart_reads (os : Os) {H : Type} (enc : TypeId × Value → H) : DataW.whole enc Tryd.prog ((World.doorLaid Tryd.prog 400 os).forCall (fun _ _ => 0) ⟨#[], #[(.agg #[.bool false, .slice none 0 0, .slice none 0 0, .bool false, .slice none 0 0, .slice none 0 0, .bool false, .slice none 0 0, .slice none 0 0, .bool false, .slice none 0 0, .slice none 0 0, .bool false, .slice none 0 0, .slice none 0 0, .bool false, .slice none 0 0, .slice none 0 0]), (.agg #[.bool false, .slice none 0 0, .slice none 0 0, .bool false, .slice none 0 0, .slice none 0 0, .bool false, .slice none 0 0, .slice none 0 0, .bool false, .slice none 0 0, .slice none 0 0, .bool false, .slice none 0 0, .slice none 0 0, .bool false, .slice none 0 0, .slice none 0 0]), .int .i64 0], []⟩).memory Tryd.f4.params.toList Rows.treeApartSpec.vars false #[(.agg #[.bool false, .slice none 0 0, .slice none 0 0, .bool false, .slice none 0 0, .slice none 0 0, .bool false, .slice none 0 0, .slice none 0 0, .bool false, .slice none 0 0, .slice none 0 0, .bool false, .slice none 0 0, .slice none 0 0, .bool false, .slice none 0 0, .slice none 0 0]), (.agg #[.bool false, .slice none 0 0, .slice none 0 0, .bool false, .slice none 0 0, .slice none 0 0, .bool false, .slice none 0 0, .slice none 0 0, .bool false, .slice none 0 0, .slice none 0 0, .bool false, .slice none 0 0, .slice none 0 0, .bool false, .slice none 0 0, .slice none 0 0]), .int .i64 0].toList 8 = some ([.agg [.agg [.agg [.lit (.bool false), .nil, .nil], .agg [.lit (.bool false), .nil, .nil], .agg [.lit (.bool false), .nil, .nil], .agg [.lit (.bool false), .nil, .nil], .agg [.lit (.bool false), .nil, .nil], .agg [.lit (.bool false), .nil, .nil]]], .agg [.agg [.agg [.lit (.bool false), .nil, .nil], .agg [.lit (.bool false), .nil, .nil], .agg [.lit (.bool false), .nil, .nil], .agg [.lit (.bool false), .nil, .nil], .agg [.lit (.bool false), .nil, .nil], .agg [.lit (.bool false), .nil, .nil]]], .lit (.int .i64 0)], [], []) := by kernel_rfl
set_option maxRecDepth 100000 in
theorem treeApart_lifted (os : Os) (started : os.Started) (H : Type) (enc : TypeId × Value → H) (F : Stop.Interp) :
    ReturnsInHanded {} Tryd.checked os 4 .any ((Rows.OpenSpec.upto Rows.treeApartSpec).preRow enc Tryd.prog Tryd.f4 Rows.treeApartUptoRow.domain false Rows.treeApartUptoRow.laid) (((Rows.OpenSpec.upto Rows.treeApartSpec).at F).post enc Tryd.prog Tryd.f4 false true false false) := by
  refine returnsInHanded_of_row (C := Tryd.checked) (s := Rows.OpenSpec.upto Rows.treeApartSpec) own started (by kernel_rfl) Tryd.func4
    (witness_row_atRef (enc := enc) (C := Tryd.checked) false (World.doorLaid Tryd.prog 400 os) #[(.agg #[.bool false, .slice none 0 0, .slice none 0 0, .bool false, .slice none 0 0, .slice none 0 0, .bool false, .slice none 0 0, .slice none 0 0, .bool false, .slice none 0 0, .slice none 0 0, .bool false, .slice none 0 0, .slice none 0 0, .bool false, .slice none 0 0, .slice none 0 0]), (.agg #[.bool false, .slice none 0 0, .slice none 0 0, .bool false, .slice none 0 0, .slice none 0 0, .bool false, .slice none 0 0, .slice none 0 0, .bool false, .slice none 0 0, .slice none 0 0, .bool false, .slice none 0 0, .slice none 0 0, .bool false, .slice none 0 0, .slice none 0 0]), .int .i64 0] rfl (by kernel_rfl) (by kernel_rfl) (by kernel_rfl)
      (OpenSpec.preRow_of_cond 8 (treeApart_reads os enc) (by rfl) (fun k hkk => by cases hkk; kernel_rfl) (by kernel_rfl) (door_met os _))) ?_
  intro W base args ds gs before hval0 hW _ hcond _ hL hsh _
  have hval : ∀ (j : Nat) t v, Tryd.f4.params[j]? = some t → args[j]? = some v → Value.okWide Tryd.prog W .any base t v := hval0
  have hW' := hW
  have hlt : ∀ y ∈ before, y.block < W.heap.size := fun y hy => by simpa using hW'.lt y hy
  obtain ⟨p, q, hA0, hV, rfl, _, _⟩ := hW
  have hA : DataW.TrodAll enc Tryd.prog W 0 (fun _ => true) true Tryd.f4.params.toList args.toList ds p := hA0
  rw [Tryd.params4] at hA hval
  obtain ⟨v0, v1, v2, d0, d1, d2, p0, p1, p2, rfl, rfl, rfl, h0, h1, h2⟩ := trodAll_three hA
  obtain ⟨rfl, rfl⟩ := trodVars_none hV
  have hk0 := h0
  obtain ⟨f0, ht0⟩ := h0
  obtain ⟨x0, hm0, hb0⟩ := open_pg f0 _ _ ht0
  have ha0 := agg_of (n := 16) (hm0.len)
  obtain ⟨cs0, hcs0⟩ : ∃ cs, cs = v0.cells.toList := ⟨_, rfl⟩
  rw [← hcs0] at ha0 hm0
  dsimp only at hb0
  have hk1 := h1
  obtain ⟨f1, ht1⟩ := h1
  obtain ⟨x1, hm1, hb1⟩ := open_pg f1 _ _ ht1
  have ha1 := agg_of (n := 16) (hm1.len)
  obtain ⟨cs1, hcs1⟩ : ∃ cs, cs = v1.cells.toList := ⟨_, rfl⟩
  rw [← hcs1] at ha1 hm1
  dsimp only at hb1
  obtain ⟨x2, rfl, rfl, rfl, wx2⟩ := open_int Tryd.underlying3 (hval 2 3 v2 rfl rfl) h2; have wy2 := wx2
  have hbk := of_decide_eq_true (hcond _ rfl)
  simp only [Rows.uptoBulkAll, List.cons_append, List.nil_append] at hbk
  have ht := tb_of_laid hL
  have hml := cell_of_shapedOpen_int hsh (zero := #[.int .i64 0]) (g := 2) (t := 3) (by decide) (by kernel_rfl) rfl (by kernel_rfl) (by kernel_rfl) Tryd.underlying3
  clear hA0 hval0
  simp only [List.append_nil] at hW' hlt
  subst ha0; subst ha1
  refine Calls.mono (apart_walk x0 x1 cs0 cs1 x2 _ W ⟨ht, ht.lt, hml⟩ (fun b hb => by have := hb0 b hb; omega) (fun b hb => by have := hb1 b hb; omega) hm0 hm1) fun e W' ⟨v, he, hv, hx⟩ => ?_
  subst he; subst hv
  exact ⟨_, rfl, post_ext2 (pv := []) hW' (fun _ _ _ => trodAll_mk1 (shut_bool Tryd.underlying4 _)) (trodAll_mk3 (Below.trod laidB (by kernel_rfl) (of_decide_eq_true (by kernel_rfl)) hk0 (below_ext hx) (fun y hy => hlt y (by simp [hy]))) (Below.trod laidB (by kernel_rfl) (of_decide_eq_true (by kernel_rfl)) hk1 (below_ext hx) (fun y hy => hlt y (by simp [hy]))) (shut_int Tryd.underlying3 wy2)) (fun _ _ => rfl) (by simp) (below_ext hx)⟩
theorem treeApartUpto_holds : Rows.TreeApartUptoSaid :=
  OpenClaim.holds_of_cond 4 Tryd.f4 rfl rfl rfl rfl rfl rfl rfl ⟨rfl, rfl, rfl, rfl, rfl⟩ rfl rfl rfl rfl rfl (by kernel_rfl) Tryd.func4 (by kernel_rfl)
    (of_decide_eq_true (by kernel_rfl)) (by unfold Func.isWrapper; first | (rw [if_pos (by decide +kernel)]; kernel_rfl) | (rw [if_neg (by decide +kernel)]; exact ⟨rfl, rfl⟩))
    (fun os started H enc _ F => by rw [OpenClaim.pre_eq_preRow]; exact treeApart_lifted os started H enc F)
end Go.Proofs.YtcmcdgkjipnfnaaDoor
end

section
namespace Go.Proofs.YtcmcdgkjipnfnaaDoor
open Go
theorem treeApartUpto_card : Rows.TreeApartUptoCardSaid :=
  Claim7.holds_tied_plain_at .later [] [.listed, .data] true (true, "614634e4812a1ceafbd0abe881a854bc591947a8d3d568739848297dd729f6be") false
    treeApartUpto_holds (fun _ h => by cases h) (by kernel_rfl) (fun _ h => by cases h) treeApartUpto_row_tie rfl ⟨rfl, rfl⟩ (by kernel_rfl) rfl
    (fun f fn hf hfn => by
      obtain rfl : f = 4 := Option.some.inj ((show Tryd.prog.funcNamed "stepstone/stepstonelaw12.TreeApart" = some 4 by kernel_rfl).symm.trans hf) |>.symm
      obtain rfl : fn = Tryd.f4 := (Option.some.inj (Tryd.func4.symm.trans hfn)).symm
      exact ⟨by kernel_rfl, fun j t ht => by
        rw [Tryd.params4] at ht
        rcases j with _ | _ | _ | j
        · obtain rfl : t = 30 := by simpa using ht.symm
          exact (show Tryd.prog.wantsStandIn 30 = false by kernel_rfl)
        · obtain rfl : t = 30 := by simpa using ht.symm
          exact (show Tryd.prog.wantsStandIn 30 = false by kernel_rfl)
        · obtain rfl : t = 3 := by simpa using ht.symm
          exact (show Tryd.prog.wantsStandIn 3 = false by kernel_rfl)
        · simp at ht⟩)
    (by kernel_rfl)
end Go.Proofs.YtcmcdgkjipnfnaaDoor
end
