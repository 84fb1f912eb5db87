/- For every two expressions, of a bulk of at most 1048576, the law TreeExprs holds of the given program. Part 14 of 15. -/
import Derived.Test.YtcmcdgkjipnfnaaGreatDoorE10
import Derived.Test.YtcmcdgkjipnfnaaGreatDoorE09
import Derived.Test.YtcmcdgkjipnfnaaGreatDoorE02
import Derived.Test.YtcmcdgkjipnfnaaGreatDoorE13
section
/- Trees: how long what is written is; the same tree is the same; a block more. -/
namespace Go.Tree
/-! how many bytes, with a blank behind each token -/
def tb (ts : List Str) : Nat := (ts.map fun s => s.length + 1).sum
theorem tb_nil : tb [] = 0 := rfl
theorem tb_cons (s : Str) (l : List Str) : tb (s :: l) = s.length + 1 + tb l := by simp [tb]
theorem tb_append (a b : List Str) : tb (a ++ b) = tb a + tb b := by simp [tb]
theorem tb_flatten : ∀ l : List (List Str), tb l.flatten = (l.map tb).sum
  | [] => rfl
  | x :: l => by rw [List.flatten_cons, tb_append, tb_flatten l, List.map_cons, List.sum_cons]
theorem tb_len : ∀ l : List Str, l.length ≤ tb l
  | [] => Nat.zero_le _
  | s :: l => by rw [tb_cons, List.length_cons]; have := tb_len l; omega
theorem endT_le (n k : Nat) (s : Str) : (endT n k s).length ≤ 1 := by unfold endT; split <;> (try split) <;> simp
theorem textTo_tb (xs : List Str) : ∀ k, k ≤ xs.length → (textTo xs k).length ≤ tb (xs.take k)
  | 0, _ => by rw [textTo_zero]; exact Nat.zero_le _
  | k + 1, h => by
    have hk : xs[k]? = some xs[k] := List.getElem?_eq_getElem (by omega)
    have ih := textTo_tb xs k (by omega)
    have he := endT_le xs.length k xs[k]
    rw [textTo_next hk, List.take_succ_eq_append_getElem (by omega), tb_append, tb_cons, tb_nil, List.length_append, List.length_append]
    omega
theorem textT_tb (xs : List Str) : (textT xs).length ≤ tb xs := by
  have := textTo_tb xs xs.length (Nat.le_refl _)
  rwa [List.take_length] at this
theorem rowT_tb : ∀ l : List (List Str), tb (rowT l) ≤ (l.map tb).sum + 2 * l.length
  | [] => Nat.zero_le _
  | t :: l => by
    have h : ∀ m : List (List Str), tb (m.flatMap (fun x => [44] :: x)) = (m.map tb).sum + 2 * m.length := by
      intro m
      induction m with
      | nil => rfl
      | cons x m ih => rw [List.flatMap_cons, tb_append, ih, tb_cons]; simp only [List.map_cons, List.sum_cons, List.length_cons, List.length_nil]; omega
    rw [rowT, tb_append, h]; simp only [List.map_cons, List.sum_cons, List.length_cons]; omega
theorem kidT_tb (op : Nat) (t : List Str) (n : Nat) : tb (kidT op t n) ≤ tb t + 4 := by
  unfold kidT; split
  · simp only [tb_append, tb_cons, tb_nil, List.length_cons, List.length_nil]; omega
  · omega
theorem getD_tb (l : List (List Str)) (i : Nat) : tb (l.getD i []) ≤ (l.map tb).sum := by
  induction l generalizing i with
  | nil => simp [tb_nil]
  | cons x l ih =>
    cases i with
    | zero => simp
    | succ i => have := ih i; simp only [List.getD_cons_succ, List.map_cons, List.sum_cons]; omega
theorem getD2_tb (l : List (List Str)) : tb (l.getD 0 []) + tb (l.getD 1 []) ≤ (l.map tb).sum := by
  cases l with
  | nil => simp [tb_nil]
  | cons x l =>
    have := getD_tb l 0
    simp only [List.getD_cons_zero, List.getD_cons_succ, List.map_cons, List.sum_cons]; omega
theorem signs_len (op : Nat) : (signs op).length ≤ 2 := by unfold signs; split <;> simp
theorem exTok_tb (op : Nat) (nm : Str) (ops : List Nat) (ts : List (List Str)) : tb (exTok op nm ops ts) ≤ nm.length + 11 + (ts.map tb).sum + 2 * ts.length := by
  have h1 := rowT_tb ts
  have h2 := getD2_tb ts
  unfold exTok
  split
  · simp only [tb_cons, tb_nil]; omega
  split
  · simp only [tb_append, tb_cons, tb_nil, List.length_cons, List.length_nil]; omega
  split
  · simp only [tb_append, tb_cons, tb_nil, List.length_cons, List.length_nil]; omega
  split
  · have := kidT_tb (ops.getD 0 0) (ts.getD 0 []) 3
    simp only [tb_append, tb_cons, tb_nil, List.length_cons, List.length_nil]; omega
  · have h3 := kidT_tb (ops.getD 0 0) (ts.getD 0 []) (low op)
    have h4 := kidT_tb (ops.getD 1 0) (ts.getD 1 []) (min (low op + 1) (low op * 9))
    have h5 := signs_len op
    simp only [tb_append, tb_cons, tb_nil]; omega
mutual
theorem exT_tb : ∀ x : Ex, tb (exT x) ≤ 16 * exW x
  | .mk op at_ nm ks => by
    have h := exTok_tb op nm (ks.map Ex.op) (exsT ks)
    have h2 := exsT_tb ks
    have h3 : (exsT ks).length = ks.length := by rw [exsT_map, List.length_map]
    rw [exT, exW]; omega
theorem exsT_tb : ∀ l : List Ex, ((exsT l).map tb).sum ≤ 16 * exsW l
  | [] => Nat.zero_le _
  | e :: l => by
    have h := exT_tb e
    have h2 := exsT_tb l
    rw [exsT, exsW, List.map_cons, List.sum_cons]; omega
end
theorem bodyT_tb (b : List (List Str)) : tb (bodyT b) = (b.map tb).sum + 4 := by
  unfold bodyT; simp only [tb_append, tb_cons, tb_nil, tb_flatten, List.length_cons, List.length_nil]; omega
theorem smTok_tb (op : Nat) (nm : Str) (ks b e : List (List Str)) : tb (smTok op nm ks b e) ≤ nm.length + 32 + (ks.map tb).sum * 2 + 2 * ks.length + (b.map tb).sum + (e.map tb).sum := by
  have h1 := rowT_tb (ks.drop 1)
  have hd : ((ks.drop 1).map tb).sum ≤ (ks.map tb).sum := by cases ks <;> simp
  have hl : (ks.drop 1).length ≤ ks.length := by rw [List.length_drop]; omega
  have h2 := getD2_tb ks
  have h3 := getD_tb ks (ks.length - 1)
  have hb := bodyT_tb b
  have he := bodyT_tb e
  unfold smTok
  split
  · simp only [tb_append, tb_cons, tb_nil, List.length_cons, List.length_nil]; split <;> simp only [tb_append, tb_cons, tb_nil, List.length_cons, List.length_nil] <;> omega
  split
  · simp only [tb_append, tb_cons, tb_nil, List.length_cons, List.length_nil]; omega
  split
  · simp only [tb_append, tb_cons, tb_nil, List.length_cons, List.length_nil]; omega
  split
  · simp only [tb_append, tb_cons, tb_nil, List.length_cons, List.length_nil]; omega
  split
  · simp only [tb_append, tb_cons, tb_nil, List.length_cons, List.length_nil]; split <;> simp only [tb_append, tb_cons, tb_nil, List.length_cons, List.length_nil] <;> omega
  · omega
mutual
theorem smT_tb : ∀ x : Sm, tb (smT x) ≤ 32 * smW x
  | .mk op at_ nm ks b e => by
    have h := smTok_tb op nm (exsT ks) (smsT b) (smsT e)
    have h2 := exsT_tb ks
    have h3 : (exsT ks).length = ks.length := by rw [exsT_map, List.length_map]
    have h4 := smsT_tb b
    have h5 := smsT_tb e
    rw [smT, smW]; omega
theorem smsT_tb : ∀ l : List Sm, ((smsT l).map tb).sum ≤ 32 * smsW l
  | [] => Nat.zero_le _
  | e :: l => by
    have h := smT_tb e
    have h2 := smsT_tb l
    rw [smsT, smsW, List.map_cons, List.sum_cons]; omega
end
theorem ldT_tb (pre : List Str) : ∀ l : List Ex, tb (ldT pre l) ≤ tb pre * l.length + 16 * exsW l
  | [] => Nat.zero_le _
  | x :: l => by
    have h := ldT_tb pre l
    have h2 := exT_tb x
    have h3 : ldT pre (x :: l) = pre ++ exT x ++ ldT pre l := by simp [ldT]
    rw [h3, exsW, List.length_cons, Nat.mul_add]; simp only [tb_append]; omega
theorem sizeT_tb (d : Dc) : tb (sizeT d) ≤ 4 + 2 * d.size.length + 16 * exsW d.size := by
  have h := rowT_tb (exsT d.size)
  have h2 := exsT_tb d.size
  have h3 : (exsT d.size).length = d.size.length := by rw [exsT_map, List.length_map]
  unfold sizeT; simp only [tb_append, tb_cons, tb_nil, List.length_cons, List.length_nil]; omega
theorem boundsT_tb (d : Dc) : tb (boundsT d) ≤ 6 + 8 * d.lower.length + 8 * d.upper.length + 16 * exsW d.lower + 16 * exsW d.upper := by
  have h := ldT_tb lowW d.lower
  have h2 := ldT_tb upW d.upper
  have h3 : tb lowW = 8 := by decide
  have h4 : tb upW = 8 := by decide
  rw [h3] at h; rw [h4] at h2
  unfold boundsT; split
  · exact Nat.zero_le _
  · simp only [tb_append, tb_cons, tb_nil, List.length_cons, List.length_nil]; split <;> simp only [tb_cons, tb_nil, List.length_cons, List.length_nil] <;> omega
theorem tyT_len (n : Nat) : (tyT n).length ≤ 6 := by unfold tyT; split <;> simp
theorem dcT_tb (d : Dc) : tb (dcT d) ≤ 32 * dcW d := by
  have h1 := sizeT_tb d
  have h2 := boundsT_tb d
  have h3 := ldT_tb [[61]] d.init
  have h5 : tb [[61]] = 2 := by decide
  rw [h5] at h3
  have h4 := tyT_len d.ty
  unfold dcT dcW; simp only [tb_append, tb_cons, tb_nil, List.length_cons, List.length_nil]
  split <;> split <;> simp only [tb_append, tb_cons, tb_nil, List.length_cons, List.length_nil] <;> omega
theorem dcsT_tb : ∀ l : List Dc, tb (dcsT l) ≤ 32 * dcsW l
  | [] => Nat.zero_le _
  | d :: l => by
    have h := dcsT_tb l
    have h2 := dcT_tb d
    have h3 : dcsT (d :: l) = dcT d ++ dcsT l := by simp [dcsT]
    rw [h3, tb_append, dcsW]; omega
theorem headW_tb (i : Nat) : tb (headW i) ≤ 28 := by unfold headW; split <;> decide
theorem bkT_tb (i : Nat) (b : Bk) : tb (bkT i b) ≤ 32 * bkW b := by
  have h1 := headW_tb i
  have h2 := dcsT_tb b.decls
  have h3 := smsT_tb b.stmts
  unfold bkT bkW; split
  · simp only [tb_append, tb_cons, tb_nil, tb_flatten, List.length_cons, List.length_nil]; omega
  · rw [tb_nil]; exact Nat.zero_le _
def pgW (p : List Bk) : Nat := (p.map bkW).sum
theorem pgTo_tb {p : List Bk} {m : Nat} (hm : ∀ b ∈ p, bkW b ≤ m) : ∀ i, tb (pgTo p i) ≤ i * (32 * m)
  | 0 => by rw [pgTo_zero, tb_nil]; exact Nat.zero_le _
  | i + 1 => by
    have ih := pgTo_tb hm i
    rw [Nat.succ_mul]
    cases hb : p[i]? with
    | some b =>
      have h := bkT_tb i b
      have h2 := hm b (List.mem_of_getElem? hb)
      rw [pgTo_next hb, tb_append]; omega
    | none =>
      have : pgTo p (i + 1) = pgTo p i := by unfold pgTo; rw [List.range_succ, List.flatMap_append]; simp [hb]
      rw [this]; omega
theorem pgT_tb {p : List Bk} {m : Nat} (hm : ∀ b ∈ p, bkW b ≤ m) : tb (pgT p) ≤ 6 * (32 * m) := pgTo_tb hm 6
theorem pgT_len {p : List Bk} (hm : ∀ b ∈ p, bkW b ≤ 1048576) : (pgT p).length ≤ 1000000000 ∧ (textT (pgT p)).length ≤ 1000000000 := by
  have h1 := pgT_tb hm
  have h2 := tb_len (pgT p)
  have h3 := textT_tb (pgT p)
  omega
/-! the same as itself -/
mutual
theorem exSame_refl : ∀ x : Ex, exSame x x = true
  | .mk op at_ nm ks => by rw [exSame, show (Ex.mk op at_ nm ks).kids = ks from rfl, exsSame_refl ks]; simp [Ex.op, Ex.nm]
theorem exsSame_refl : ∀ l : List Ex, exsSame l l = true
  | [] => by simp [exsSame]
  | x :: l => by rw [exsSame]; simp [exSame_refl x, exsSame_refl l]
end
mutual
theorem smSame_refl : ∀ x : Sm, smSame x x = true
  | .mk op at_ nm ks b e => by rw [smSame, show (Sm.mk op at_ nm ks b e).kids = ks from rfl, show (Sm.mk op at_ nm ks b e).body = b from rfl, show (Sm.mk op at_ nm ks b e).els = e from rfl, exsSame_refl ks, smsSame_refl b, smsSame_refl e]; simp [Sm.op, Sm.nm]
theorem smsSame_refl : ∀ l : List Sm, smsSame l l = true
  | [] => by simp [smsSame]
  | x :: l => by rw [smsSame]; simp [smSame_refl x, smsSame_refl l]
end
theorem dcSame_refl (d : Dc) : dcSame d d = true := by simp [dcSame, exsSame_refl]
theorem pairOk_refl {α : Type} {q : α → α → Bool} (h : ∀ x, q x x = true) : ∀ l : List α, pairOk q l l = true
  | [] => by simp [pairOk]
  | x :: l => by rw [pairOk_cons, h, pairOk_refl h l]; rfl
theorem bkSame_refl (b : Bk) : bkSame b b = true := by simp [bkSame, pairOk_refl dcSame_refl, smsSame_refl]
theorem pgSame_refl (p : List Bk) : pgSame p p = true := pairOk_refl bkSame_refl p
/-! a block more -/
def sp (s : Str) : Str := s ++ (if brk s then [10] else [32])
theorem textTo_sp (xs : List Str) : ∀ k, k ≤ xs.length → (k = xs.length → ∀ s, xs.getLast? = some s → brk s = true) → textTo xs k = (xs.take k).flatMap sp
  | 0, _, _ => by rw [textTo_zero]; simp
  | k + 1, h, hb => by
    have hk : xs[k]? = some xs[k] := List.getElem?_eq_getElem (by omega)
    rw [textTo_next hk, textTo_sp xs k (by omega) (fun h => by omega), List.take_succ_eq_append_getElem (by omega), List.flatMap_append]
    congr 1
    simp only [List.flatMap_cons, List.flatMap_nil, List.append_nil, sp, endT]
    by_cases hq : brk xs[k] = true
    · rw [if_pos hq, if_pos hq]
    · rw [if_neg hq, if_neg hq]
      by_cases hl : k + 1 < xs.length
      · rw [if_pos hl]
      · exfalso
        refine hq (hb (by omega) _ ?_)
        rw [List.getLast?_eq_getElem?, show xs.length - 1 = k by omega, hk]
theorem textT_sp {xs : List Str} (h : ∀ s, xs.getLast? = some s → brk s = true) : textT xs = xs.flatMap sp := by
  have := textTo_sp xs xs.length (Nat.le_refl _) (fun _ => h)
  rwa [List.take_length] at this
theorem bkT_last {i : Nat} {b : Bk} {s : Str} (h : (bkT i b).getLast? = some s) : brk s = true := by
  unfold bkT at h
  split at h
  · rw [List.getLast?_append] at h
    have : s = [125] := by simpa using h.symm
    subst this; decide
  · simp at h
theorem pgTo_last {p : List Bk} : ∀ i s, (pgTo p i).getLast? = some s → brk s = true
  | 0, s, h => by rw [pgTo_zero] at h; simp at h
  | i + 1, s, h => by
    cases hb : p[i]? with
    | some b =>
      rw [pgTo_next hb, List.getLast?_append] at h
      cases hl : (bkT i b).getLast? with
      | some t =>
        rw [hl] at h
        obtain rfl : t = s := by simpa using h
        exact bkT_last hl
      | none =>
        rw [hl] at h
        exact pgTo_last i s (by simpa using h)
    | none =>
      have : pgTo p (i + 1) = pgTo p i := by unfold pgTo; rw [List.range_succ, List.flatMap_append]; simp [hb]
      rw [this] at h
      exact pgTo_last i s h
theorem textT_pg (p : List Bk) : textT (pgT p) = (pgT p).flatMap sp := textT_sp (pgTo_last 6)
def setIs (p : List Bk) (i : Nat) (b : Bk) : List Bk := p.set i { b with is := true }
theorem pgTo_set {p : List Bk} {i : Nat} {b : Bk} (hb : p[i]? = some b) (hi : b.is = false) (hd : b.decls = []) (hs : b.stmts = []) : ∀ k, (((pgTo (setIs p i b) k).flatMap sp).length = ((pgTo p k).flatMap sp).length + (if i < k then ((bkT i { b with is := true }).flatMap sp).length else 0))
  | 0 => by simp [pgTo_zero]
  | k + 1 => by
    have ih := pgTo_set hb hi hd hs k
    have hbk : bkT i b = [] := by unfold bkT; rw [hi]; rfl
    by_cases hk : k = i
    · subst hk
      have h1 : (setIs p k b)[k]? = some { b with is := true } := by unfold setIs; rw [List.getElem?_set_self (List.getElem?_eq_some_iff.1 hb).1]
      rw [pgTo_next h1, pgTo_next hb, hbk, List.flatMap_append, List.length_append, ih, if_neg (by omega), if_pos (by omega)]; simp
    · have h1 : (setIs p i b)[k]? = p[k]? := by unfold setIs; rw [List.getElem?_set_ne (by omega)]
      have h2 : (if i < k + 1 then ((bkT i { b with is := true }).flatMap sp).length else 0) = (if i < k then ((bkT i { b with is := true }).flatMap sp).length else 0) := by
        by_cases h3 : i < k
        · rw [if_pos h3, if_pos (by omega)]
        · rw [if_neg h3, if_neg (by omega)]
      cases hx : p[k]? with
      | some x =>
        rw [pgTo_next (h1.trans hx), pgTo_next hx, List.flatMap_append, List.flatMap_append, List.length_append, List.length_append, ih, h2]; omega
      | none =>
        have e1 : pgTo p (k + 1) = pgTo p k := by unfold pgTo; rw [List.range_succ, List.flatMap_append]; simp [hx]
        have e2 : pgTo (setIs p i b) (k + 1) = pgTo (setIs p i b) k := by unfold pgTo; rw [List.range_succ, List.flatMap_append]; simp [h1.trans hx]
        rw [e1, e2, ih, h2]
theorem own_longer {p : List Bk} {i : Nat} {b : Bk} (h6 : i < 6) (hb : p[i]? = some b) (hi : b.is = false) (hok : pgOk p = true) : (textT (pgT p)).length < (textT (pgT (setIs p i b))).length := by
  have hk : bkOk i b = true := by
    cases hq : bkOk i b with
    | true => rfl
    | false => rw [pgOk_no h6 hb hq] at hok; cases hok
  have hd : b.decls = [] ∧ b.stmts = [] := by
    unfold bkOk headB at hk
    simp only [Bool.and_eq_true] at hk
    have h1 := hk.1.1.1.1
    rw [hi] at h1
    simp only [Bool.not_false, Bool.true_and, Bool.not_eq_true', decide_eq_false_iff_not] at h1
    exact ⟨List.length_eq_zero_iff.1 (by omega), List.length_eq_zero_iff.1 (by omega)⟩
  have h := pgTo_set hb hi hd.1 hd.2 6
  rw [if_pos h6] at h
  rw [textT_pg, textT_pg]
  have h2 : 0 < ((bkT i { b with is := true }).flatMap sp).length := by
    have : bkT i { b with is := true } = headW i ++ [[123]] ++ dcsT b.decls ++ (smsT b.stmts).flatten ++ [[125]] := by unfold bkT; rw [if_pos rfl]
    rw [this, List.flatMap_append, List.length_append]
    have : (List.flatMap sp [[125]]).length = 2 := by decide
    omega
  have e1 : pgT (setIs p i b) = pgTo (setIs p i b) 6 := rfl
  have e2 : pgT p = pgTo p 6 := rfl
  rw [e1, e2]; omega
theorem own_same {p : List Bk} {i : Nat} {b : Bk} (hb : p[i]? = some b) (hi : b.is = false) : pgSame p (setIs p i b) = false := by
  have h1 : (setIs p i b)[i]? = some { b with is := true } := by unfold setIs; rw [List.getElem?_set_self (List.getElem?_eq_some_iff.1 hb).1]
  exact pairOk_no hb h1 (by unfold bkSame; rw [hi]; rfl)
theorem own_nodes {p : List Bk} {i : Nat} {b : Bk} (hb : p[i]? = some b) : pgN (setIs p i b) = pgN p := by
  unfold pgN pgNTo
  congr 1
  refine List.map_congr_left fun j _ => ?_
  by_cases hj : j = i
  · subst hj
    have h1 : (setIs p j b)[j]? = some { b with is := true } := by unfold setIs; rw [List.getElem?_set_self (List.getElem?_eq_some_iff.1 hb).1]
    rw [h1, hb]; rfl
  · have h1 : (setIs p i b)[j]? = p[j]? := by unfold setIs; rw [List.getElem?_set_ne (by omega)]
    rw [h1]
end Go.Tree
end

section
namespace Go.Proofs.YtcmcdgkjipnfnaaGreatDoor
open Go.RowKit Go.Sx
open Go.Tok Go.Tree


theorem exT_lenB {x : Ex} (h : exW x < 10000001) : (exT x).length ≤ 160000016 := by
  have h1 := tb_len (exT x)
  have h2 := exT_tb x
  omega
theorem rowT_lenB {l : List Ex} (h : exsW l < 10000001) (hl : l.length ≤ 10000000) : (rowT (exsT l)).length ≤ 180000016 := by
  have h1 := tb_len (rowT (exsT l))
  have h2 := rowT_tb (exsT l)
  have h3 := exsT_tb l
  have h4 : (exsT l).length = l.length := by rw [exsT_map, List.length_map]
  omega
theorem kidT_lenB {x : Ex} (h : exW x < 10000001) (n : Nat) : (kidT x.op (exT x) n).length ≤ 160000018 := by
  have := exT_lenB h
  unfold kidT; split <;> (try simp only [List.length_append, List.length_cons, List.length_nil]) <;> omega
/-- what is told is a slice of the call's own, of these texts -/
abbrev Tells (ts : List Str) (w : World) (v : Value) (w' : World) : Prop := ∃ W, OwnT v ts W ∧ New w w' W
def RExprT (n : Nat) : Prop := ∀ (x : Ex) (cs : List Value) (N : Nat → Prop) (w : World), exW x < n → penOk x = true → exM w N x cs → Ret Tryz.prog 30 #[.agg cs.toArray] w (Tells (exT x) w)

set_option maxRecDepth 100000 in
set_option maxHeartbeats 400000 in
theorem rrank_spec (op : Nat) (w : World) :
    Ret Tryz.prog 72 #[.int .u8 (op : Nat)] w (fun v w' => v = .int .i64 (rank op : Nat) ∧ Ext w w') := by
  refine enter (S := No) (l := [_]) (L := []) 17 Tryz.func72 rfl rfl rfl (St.start w No) ?_
  refine c_seq ?_; refine c_region ?_; refine w_asg (v := .int _ _) rfl ?_; refine w_nil ?_; refine k_on ?_; refine c_seq ?_; refine c_seq ?_; refine c_region ?_; refine w_move (v := .int _ _) rfl ?_
  refine w_r (fun _ => R_eq rfl rfl) rfl rfl ?_; refine w_move (v := .bool _) rfl ?_
  refine w_splitD (t := 5) rfl (fun h1 => ?_) (fun h1 => ?_)
  · refine w_skip rfl rfl (bT h1) ?_; refine w_skip rfl rfl (bT h1) ?_; refine w_r (v := .bool _) (fun _ => R_pickT (bT h1) rfl) rfl rfl ?_
    refine w_nil ?_; refine k_on ?_; refine c_condT rfl ?_; refine c_seq ?_; refine c_region ?_; refine w_asg (v := .int _ _) rfl ?_; refine w_nil ?_; refine k_on ?_; refine c_ret ?_
    refine k_ret (?_)
    refine r_one (v := .int _ _) rfl rfl rfl ?_
    exact fun w' hw => ⟨by unfold rank; first | (rw [if_pos (by omega)]; rfl) | (rw [if_neg (by omega), if_pos (by omega)]; rfl) | (rw [if_neg (by omega), if_neg (by omega), if_pos (by omega)]; rfl) | (rw [if_neg (by omega), if_neg (by omega), if_neg (by omega)]; rfl), hw.fr _ (.head _)⟩
  · refine w_want rfl rfl (bF h1) ?_; refine w_move (v := .int _ _) rfl ?_; refine w_want rfl rfl (bF h1) ?_
    refine w_r (fun _ => R_eq rfl rfl) rfl rfl ?_; refine w_r (v := .bool _) (fun _ => R_pickF (bF h1) rfl) rfl rfl ?_; refine w_nil ?_
    refine k_on ?_
    refine c_condD rfl (fun h2 => ?_) (fun h2 => ?_)
    · refine c_seq ?_; refine c_region ?_; refine w_asg (v := .int _ _) rfl ?_; refine w_nil ?_; refine k_on ?_; refine c_ret ?_; refine k_ret (?_)
      refine r_one (v := .int _ _) rfl rfl rfl ?_
      exact fun w' hw => ⟨by unfold rank; first | (rw [if_pos (by omega)]; rfl) | (rw [if_neg (by omega), if_pos (by omega)]; rfl) | (rw [if_neg (by omega), if_neg (by omega), if_pos (by omega)]; rfl) | (rw [if_neg (by omega), if_neg (by omega), if_neg (by omega)]; rfl), hw.fr _ (.head _)⟩
    · refine c_skip ?_; refine k_on ?_; refine c_seq ?_; refine c_seq ?_; refine c_region ?_; refine w_move (v := .int _ _) rfl ?_; refine w_r (fun _ => R_eq rfl rfl) rfl rfl ?_
      refine w_move (v := .bool _) rfl ?_
      refine w_splitD (t := 11) rfl (fun h3 => ?_) (fun h3 => ?_)
      · refine w_skip rfl rfl (bT h3) ?_; refine w_skip rfl rfl (bT h3) ?_; refine w_r (v := .bool _) (fun _ => R_pickT (bT h3) rfl) rfl rfl ?_
        refine w_nil ?_; refine k_on ?_; refine c_condT rfl ?_; refine c_seq ?_; refine c_region ?_; refine w_asg (v := .int _ _) rfl ?_; refine w_nil ?_; refine k_on ?_; refine c_ret ?_
        refine k_ret (?_)
        refine r_one (v := .int _ _) rfl rfl rfl ?_
        exact fun w' hw => ⟨by unfold rank; first | (rw [if_pos (by omega)]; rfl) | (rw [if_neg (by omega), if_pos (by omega)]; rfl) | (rw [if_neg (by omega), if_neg (by omega), if_pos (by omega)]; rfl) | (rw [if_neg (by omega), if_neg (by omega), if_neg (by omega)]; rfl), hw.fr _ (.head _)⟩
      · refine w_want rfl rfl (bF h3) ?_; refine w_move (v := .int _ _) rfl ?_; refine w_want rfl rfl (bF h3) ?_
        refine w_r (fun _ => R_eq rfl rfl) rfl rfl ?_; refine w_r (v := .bool _) (fun _ => R_pickF (bF h3) rfl) rfl rfl ?_; refine w_nil ?_
        refine k_on ?_
        refine c_condD rfl (fun h4 => ?_) (fun h4 => ?_)
        · refine c_seq ?_; refine c_region ?_; refine w_asg (v := .int _ _) rfl ?_; refine w_nil ?_; refine k_on ?_; refine c_ret ?_; refine k_ret (?_)
          refine r_one (v := .int _ _) rfl rfl rfl ?_
          exact fun w' hw => ⟨by unfold rank; first | (rw [if_pos (by omega)]; rfl) | (rw [if_neg (by omega), if_pos (by omega)]; rfl) | (rw [if_neg (by omega), if_neg (by omega), if_pos (by omega)]; rfl) | (rw [if_neg (by omega), if_neg (by omega), if_neg (by omega)]; rfl), hw.fr _ (.head _)⟩
        · refine c_skip ?_; refine k_on ?_; refine c_seq ?_; refine c_seq ?_; refine c_region ?_; refine w_move (v := .int _ _) rfl ?_; refine w_r (fun _ => R_eq rfl rfl) rfl rfl ?_
          refine w_nil ?_; refine k_on ?_
          refine c_condD rfl (fun h5 => ?_) (fun h5 => ?_)
          · refine c_seq ?_; refine c_region ?_; refine w_asg (v := .int _ _) rfl ?_; refine w_nil ?_; refine k_on ?_; refine c_ret ?_; refine k_ret (?_)
            refine r_one (v := .int _ _) rfl rfl rfl ?_
            exact fun w' hw => ⟨by unfold rank; first | (rw [if_pos (by omega)]; rfl) | (rw [if_neg (by omega), if_pos (by omega)]; rfl) | (rw [if_neg (by omega), if_neg (by omega), if_pos (by omega)]; rfl) | (rw [if_neg (by omega), if_neg (by omega), if_neg (by omega)]; rfl), hw.fr _ (.head _)⟩
          · refine c_skip ?_; refine k_on ?_; refine c_seq ?_; refine c_region ?_; refine w_asg (v := .int _ _) rfl ?_; refine w_nil ?_; refine k_on ?_; refine c_ret ?_
            refine r_one (v := .int _ _) rfl rfl rfl ?_
            exact fun w' hw => ⟨by unfold rank; first | (rw [if_pos (by omega)]; rfl) | (rw [if_neg (by omega), if_pos (by omega)]; rfl) | (rw [if_neg (by omega), if_neg (by omega), if_pos (by omega)]; rfl) | (rw [if_neg (by omega), if_neg (by omega), if_neg (by omega)]; rfl), hw.fr _ (.head _)⟩

set_option maxRecDepth 100000 in
set_option maxHeartbeats 400000 in
theorem rrow_spec (n : Nat) (ih : RExprT n) (hN : n ≤ 10000000) (l : List Ex) (a : Option Addr) (c : Nat) (N : Nat → Prop) (w : World) (hl : exsW l < n) (hll : l.length ≤ 10000000) (hok : exsOk l = true) (hm : exsM w N l a 0) :
    Ret Tryz.prog 70 #[.slice a l.length c] w (Tells (rowT (exsT l)) w) := by
  have hb := rowT_lenB (l := l) (by omega) hll
  refine enter (S := No) (l := [_]) (L := []) 24 Tryz.func70 rfl rfl rfl (St.start w No) ?_
  refine c_seq ?_; refine c_region ?_; refine w_asg (v := .slice _ _ _) rfl ?_; refine w_nil ?_; refine k_on ?_; refine c_seq ?_; refine c_region ?_; refine w_asg (v := .slice _ _ _) rfl ?_
  refine w_nil ?_; refine k_on ?_; refine c_seq ?_; refine c_seq ?_; refine c_region ?_; refine w_asg (v := .int _ _) rfl ?_; refine w_nil ?_; refine k_on ?_; refine c_block ?_
  refine c_loop (fun m e B L => ∃ (k : Nat) (v : Value) (W : Heap), e 0 = .slice a l.length c ∧ e 3 = v ∧ e 4 = .int .i64 (k : Nat) ∧ B = [(w, No)] ∧ L = W ++ [] ∧ k ≤ l.length ∧ OwnT v (rowT (exsT (l.take k))) W ∧ m = l.length - k) _ ⟨0, _, [], rfl, rfl, rfl, rfl, rfl, Nat.zero_le _, OwnS.eq OwnS.nilT (by simp [exsT, rowT]), rfl⟩ ?_
  rintro m e B L ⟨k, v, W, e0_1, e3_1, e4_1, rfl, rfl, hk, hO, rfl⟩
  refine c_seq ?_; refine c_seq ?_; refine c_region ?_; refine w_move (v := .int _ _) e4_1 ?_; refine w_move (v := .slice _ _ _) e0_1 ?_; refine w_r (fun _ => R_len sl22 rfl) rfl rfl ?_
  refine w_r (fun _ => R_lt rfl rfl) rfl rfl ?_; refine w_nil ?_; refine k_on ?_
  refine c_condD rfl (fun h1 => ?_) (fun h1 => ?_)
  · have hlt : k < l.length := (by omega); obtain ⟨x, hxk⟩ : ∃ x, l[k]? = some x := ⟨_, List.getElem?_eq_getElem hlt⟩; obtain ⟨cs, hA, hE⟩ := hm.get0 hxk; have hxn := exsW_mem (List.mem_of_getElem? hxk); have hxo := exsOk_get hok hxk; have hle := rowT_le l (k + 1); have hnx := rowT_next hxk; rw [hnx] at hle; simp only [List.length_append] at hle; obtain ⟨b1, o1, rfl⟩ := hA.ptr; obtain ⟨op, at_, nm, ks⟩ := x; have hE2 := hE; unfold exM at hE2; obtain ⟨ka, kc, rfl, hkc, hks⟩ := hE2
    refine c_skip ?_; refine k_on ?_; refine c_seq ?_; refine c_block ?_; refine c_seq ?_; refine c_seq ?_; refine c_region ?_; refine w_move (v := .int _ _) e4_1 ?_; refine w_r (fun _ => R_gt rfl rfl) rfl rfl ?_
    refine w_nil ?_; refine k_on ?_
    refine c_condD rfl (fun h2 => ?_) (fun h2 => ?_)
    · rw [if_pos (show 0 < k by omega)] at hle; simp only [List.length_cons, List.length_nil] at hle
      refine c_region ?_; refine w_move (v := v) e3_1 ?_
      refine w_bslice slt55 (by decide) rfl rfl (fun b3 gb3 ub3 => ?_)
      refine w_st (B' := _) (L' := [(b3, cel (([[44]] : List Str).map str) 9)] ++ (W ++ [])) (fun w h => h) ?_
      refine w_appT (L := []) (W2 := [(b3, cel (([[44]] : List Str).map str) 9)]) slt55 rfl hO rfl (OwnS.litT b3 [[44]]) (by first | omega | (simp only [List.length_append, List.length_cons, List.length_nil] at *; omega)) (by decide) (fun v4 W4 hO4 => ?_)
      refine w_asg (v := v4) rfl ?_; refine w_nil ?_; refine k_on ?_; refine c_region ?_; refine w_move (v := v4) rfl ?_; refine w_move (v := .slice _ _ _) e0_1 ?_; refine w_move (v := .int _ _) e4_1 ?_
      refine w_r (fun _ => R_iaN (i := k) sl22 rfl rfl (by first | omega | decide)) rfl rfl ?_
      refine w_loadC (l := [.int .u8 (op : Nat), .int .i64 at_, str nm, .slice ka ks.length kc]) z24 rfl rfl (fun w h j v hj => hA.cell (fun _ _ hh => hh) (.head _) h j v hj) ?_
      refine w_callW (R := fun u W => OwnT u (exT (Ex.mk op at_ nm ks)) W) (fun w => R_call Tryz.func30 rfl rfl rfl) rfl rfl (fun w h => ih _ _ N w (by omega) (penOk_of hxo) (hE.now (fun _ _ hh => hh) (.head _) h)) (fun u5 Wu5 hU5 => ?_)
      refine w_st (B' := _) (L' := Wu5 ++ (W4 ++ [])) (fun w h => h) ?_
      refine w_appT (L := []) slt55 rfl hO4 rfl hU5 (by first | omega | (simp only [List.length_append, List.length_cons, List.length_nil] at *; omega)) (by decide) (fun v6 W6 hO6 => ?_)
      refine w_asg (v := v6) rfl ?_; refine w_nil ?_; refine b_on (k_on ?_); refine c_region ?_; refine w_move (v := .int _ _) e4_1 ?_; refine w_r (fun _ => R_addi rfl rfl (by omega)) rfl rfl ?_
      refine w_asg (v := .int _ _) rfl ?_; refine w_nil ?_
      rw [if_pos (show 0 < k by omega)] at hnx
      exact k_again _ (by omega) ⟨k + 1, _, _, e0_1, rfl, rfl, rfl, rfl, by omega, OwnS.eq hO6 (by rw [hnx]; simp), rfl⟩
    · rw [if_neg (show ¬ 0 < k by omega)] at hle; simp only [List.length_nil] at hle
      refine c_skip ?_; refine k_on ?_; refine c_region ?_; refine w_move (v := v) e3_1 ?_; refine w_move (v := .slice _ _ _) e0_1 ?_; refine w_move (v := .int _ _) e4_1 ?_
      refine w_r (fun _ => R_iaN (i := k) sl22 rfl rfl (by first | omega | decide)) rfl rfl ?_
      refine w_loadC (l := [.int .u8 (op : Nat), .int .i64 at_, str nm, .slice ka ks.length kc]) z24 rfl rfl (fun w h j v hj => hA.cell (fun _ _ hh => hh) (.head _) h j v hj) ?_
      refine w_callW (R := fun u W => OwnT u (exT (Ex.mk op at_ nm ks)) W) (fun w => R_call Tryz.func30 rfl rfl rfl) rfl rfl (fun w h => ih _ _ N w (by omega) (penOk_of hxo) (hE.now (fun _ _ hh => hh) (.head _) h)) (fun u7 Wu7 hU7 => ?_)
      refine w_st (B' := _) (L' := Wu7 ++ (W ++ [])) (fun w h => h) ?_
      refine w_appT (L := []) slt55 rfl hO rfl hU7 (by first | omega | (simp only [List.length_append, List.length_cons, List.length_nil] at *; omega)) (by decide) (fun v8 W8 hO8 => ?_)
      refine w_asg (v := v8) rfl ?_; refine w_nil ?_; refine b_on (k_on ?_); refine c_region ?_; refine w_move (v := .int _ _) e4_1 ?_; refine w_r (fun _ => R_addi rfl rfl (by omega)) rfl rfl ?_
      refine w_asg (v := .int _ _) rfl ?_; refine w_nil ?_
      rw [if_neg (show ¬ 0 < k by omega)] at hnx
      exact k_again _ (by omega) ⟨k + 1, _, _, e0_1, rfl, rfl, rfl, rfl, by omega, OwnS.eq hO8 (by rw [hnx]; simp), rfl⟩
  · refine c_exit ?_; refine k_exit (k_exit (b_here rfl (k_on ?_))); refine c_seq ?_; refine c_region ?_; refine w_move (v := v) e3_1 ?_; refine w_asg (v := v) rfl ?_
    refine w_nil ?_; refine k_on ?_; refine c_ret ?_
    refine r_one (v := v) rfl rfl rfl ?_
    exact fun w' hw => ⟨_, OwnS.eq hO (by rw [List.take_of_length_le (by omega)]), St.made (A := []) (hw.drop (List.sublist_append_left _ _))⟩

set_option maxRecDepth 100000 in
set_option maxHeartbeats 400000 in
theorem rkid_spec (n : Nat) (ih : RExprT n) (hN : n ≤ 10000000) (least : Nat) (x : Ex) (cs : List Value) (N : Nat → Prop) (w : World) (b : Bool) (hb : b = decide (rank x.op < least)) (hx : exW x < n) (hok : penOk x = true) (hm : exM w N x cs) :
    Ret Tryz.prog 71 #[.agg cs.toArray, .bool b] w (Tells (kidT x.op (exT x) least) w) := by
  obtain ⟨op, at_, nm, ks⟩ := x
  have hm2 := hm
  unfold exM at hm2
  obtain ⟨ka, kc, rfl, hkc, hks⟩ := hm2
  have hx2 := hx
  unfold exW at hx2
  have hlx := exT_lenB (x := (Ex.mk op at_ nm ks)) (by omega)
  refine enter (S := No) (l := [_, _]) (L := []) 18 Tryz.func71 rfl rfl rfl (St.start w No) ?_
  refine c_seq ?_; refine c_region ?_
  refine w_boxA rfl (fun t2b gt2b ut2b => ?_)
  refine w_asg (v := .slice _ _ _) rfl ?_; refine w_nil ?_; refine k_on ?_; refine c_seq ?_; refine c_seq ?_; refine c_region ?_; refine w_move (v := .bool _) rfl ?_
  refine w_r (fun _ => R_not rfl) rfl rfl ?_; refine w_nil ?_; refine k_on ?_
  refine c_condN rfl (fun h2 => ?_) (fun h2 => ?_)
  · refine c_seq ?_; refine c_region ?_; refine w_loadA z24 rfl (fun _ h => h.at_ 0 rfl) rfl ?_
    refine w_callW (R := fun u W => OwnT u (exT (Ex.mk op at_ nm ks)) W) (fun w => R_call Tryz.func30 rfl rfl rfl) rfl rfl (fun w h => ih _ _ N w hx hok (hm.now (fun _ _ hh => hh) (.head _) h)) (fun u3 Wu3 hU3 => ?_)
    refine w_asg (v := u3) rfl ?_; refine w_nil ?_; refine k_on ?_; refine c_ret ?_; refine k_ret (?_)
    refine r_one (v := u3) rfl rfl rfl ?_
    exact fun w' hw => ⟨_, OwnS.eq hU3 (by unfold kidT; split <;> first | (simp_all; done) | (simp_all <;> omega)), St.made (A := []) (hw.drop (List.sublist_append_left _ _))⟩
  · refine c_skip ?_; refine k_on ?_; refine c_seq ?_; refine c_region ?_
    refine w_bslice slt55 (by decide) rfl rfl (fun b4 gb4 ub4 => ?_)
    refine w_asg (v := .slice _ _ _) rfl ?_; refine w_nil ?_; refine k_on ?_; refine c_seq ?_; refine c_region ?_; refine w_move (v := .slice _ _ _) rfl ?_; refine w_loadA z24 rfl (fun _ h => h.at_ 1 rfl) rfl ?_
    refine w_callW (R := fun u W => OwnT u (exT (Ex.mk op at_ nm ks)) W) (fun w => R_call Tryz.func30 rfl rfl rfl) rfl rfl (fun w h => ih _ _ N w hx hok (hm.now (fun _ _ hh => hh) (.head _) h)) (fun u5 Wu5 hU5 => ?_)
    refine w_st (B' := _) (L' := Wu5 ++ ([(b4, cel (([[40]] : List Str).map str) 9)] ++ [(t2b, cel [.int .u8 (op : Nat), .int .i64 at_, str nm, .slice ka ks.length kc] 24)])) (fun w h => h) ?_
    refine w_appT (L := [(t2b, cel [.int .u8 (op : Nat), .int .i64 at_, str nm, .slice ka ks.length kc] 24)]) slt55 rfl (OwnS.litT b4 [[40]]) rfl hU5 (by first | omega | (simp only [List.length_append, List.length_cons, List.length_nil] at *; omega)) (by decide) (fun v6 W6 hO6 => ?_)
    refine w_asg (v := v6) rfl ?_; refine w_nil ?_; refine k_on ?_; refine c_seq ?_; refine c_region ?_; refine w_move (v := v6) rfl ?_
    refine w_bslice slt55 (by decide) rfl rfl (fun b7 gb7 ub7 => ?_)
    refine w_st (B' := _) (L' := [(b7, cel (([[41]] : List Str).map str) 9)] ++ (W6 ++ [(t2b, cel [.int .u8 (op : Nat), .int .i64 at_, str nm, .slice ka ks.length kc] 24)])) (fun w h => h) ?_
    refine w_appT (L := [(t2b, cel [.int .u8 (op : Nat), .int .i64 at_, str nm, .slice ka ks.length kc] 24)]) (W2 := [(b7, cel (([[41]] : List Str).map str) 9)]) slt55 rfl hO6 rfl (OwnS.litT b7 [[41]]) (by first | omega | (simp only [List.length_append, List.length_cons, List.length_nil] at *; omega)) (by decide) (fun v8 W8 hO8 => ?_)
    refine w_asg (v := v8) rfl ?_; refine w_nil ?_; refine k_on ?_; refine c_ret ?_
    refine r_one (v := v8) rfl rfl rfl ?_
    exact fun w' hw => ⟨_, OwnS.eq hO8 (by unfold kidT; split <;> first | (simp_all; done) | (simp_all <;> omega)), St.made (A := []) (hw.drop (List.sublist_append_left _ _))⟩


theorem exM_op {W : World} {N : Nat → Prop} {x : Ex} {cs : List Value} (h : exM W N x cs) : cs[0]? = some (.int .u8 (x.op : Nat)) := by
  obtain ⟨op, at_, nm, ks⟩ := x
  unfold exM at h
  obtain ⟨a, c, rfl, _⟩ := h
  rfl
theorem signsL {op : Nat} (h6 : 6 ≤ op) (h15 : op ≤ 15) : [str [43], str [45], str [42], str [47], str [61, 61], str [33, 61], str [60], str [60, 61], str [62], str [62, 61]][0 + (op - 6) * 1]? = some (str (signs op)) := by
  obtain rfl | rfl | rfl | rfl | rfl | rfl | rfl | rfl | rfl | rfl : op = 6 ∨ op = 7 ∨ op = 8 ∨ op = 9 ∨ op = 10 ∨ op = 11 ∨ op = 12 ∨ op = 13 ∨ op = 14 ∨ op = 15 := by omega
  all_goals rfl
theorem low_left {op m : Nat} (h6 : 6 ≤ op) (h15 : op ≤ 15) : (decide (op < 10) && decide (m < rank op)) = decide (m < low op) := by
  by_cases h : op < 10
  · have hc : cmpOp op = false := by unfold cmpOp; rw [decide_eq_false (by omega)]; rfl
    unfold low; rw [hc, decide_eq_true h]; rfl
  · have hc : cmpOp op = true := by unfold cmpOp; rw [decide_eq_true (by omega), decide_eq_true (by omega)]; rfl
    unfold low; rw [hc, decide_eq_false h, if_pos rfl, decide_eq_false (Nat.not_lt_zero _)]; rfl
theorem low_right {op m : Nat} (h6 : 6 ≤ op) (h15 : op ≤ 15) : (decide (op < 10) && decide (m ≤ rank op)) = decide (m < min (low op + 1) (low op * 9)) := by
  by_cases h : op < 10
  · have hc : cmpOp op = false := by unfold cmpOp; rw [decide_eq_false (by omega)]; rfl
    have hr : 1 ≤ rank op := by unfold rank; split <;> (try split) <;> (try split) <;> omega
    unfold low; rw [hc, decide_eq_true h, Bool.true_and]
    refine decide_eq_decide.2 ?_
    simp only [Bool.false_eq_true, if_false]; omega
  · have hc : cmpOp op = true := by unfold cmpOp; rw [decide_eq_true (by omega), decide_eq_true (by omega)]; rfl
    have hl : low op = 0 := by unfold low; rw [hc]; rfl
    rw [hl, decide_eq_false h]; simp

set_option maxRecDepth 100000 in
set_option maxHeartbeats 4000000 in
theorem rexprT_step (n : Nat) (ih : RExprT n) (hN : n ≤ 10000000) (x : Ex) (cs : List Value) (N : Nat → Prop) (w : World) (hx : exW x < n + 1) (hok : penOk x = true) (hm : exM w N x cs) :
    Ret Tryz.prog 30 #[.agg cs.toArray] w (Tells (exT x) w) := by
  obtain ⟨op, at_, nm, ks⟩ := x
  have hm2 := hm
  unfold exM at hm2
  obtain ⟨ka, kc, rfl, hkc, hks⟩ := hm2
  have hx2 := hx
  unfold exW at hx2
  have hf := pen_facts hok
  have hxk : exsW ks < n := by omega
  have hlr := rowT_lenB (l := ks) (by omega) (by omega)
  refine enter (S := No) (l := [_]) (L := []) 111 Tryz.func30 rfl rfl rfl (St.start w No) ?_
  refine c_seq ?_; refine c_region ?_
  refine w_boxA rfl (fun t1b gt1b ut1b => ?_)
  refine w_asg (v := .slice _ _ _) rfl ?_; refine w_nil ?_; refine k_on ?_; refine c_seq ?_; refine c_seq ?_; refine c_region ?_; refine w_fa fa24_0 rfl ?_; refine w_load z5 rfl (fun _ h => cel_own 0 rfl rfl h) ?_
  refine w_nil ?_; refine k_on ?_; refine c_block ?_; refine c_seq ?_; refine c_seq ?_; refine c_region ?_; refine w_r (fun _ => R_eq rfl rfl) rfl rfl ?_; refine w_asg (v := .bool _) rfl ?_
  refine w_nil ?_; refine k_on ?_
  refine c_condD rfl (fun h2 => ?_) (fun h2 => ?_)
  · have heq := exT_12 (op := op) (.inl (by omega)) at_ nm ks
    refine c_skip ?_; refine k_on ?_; refine c_condT (bT h2) ?_; refine c_seq ?_; refine c_region ?_; refine w_fa fa24_2 rfl ?_; refine w_load z9 rfl (fun _ h => cel_own 0 rfl rfl h) ?_
    refine w_bslice slt55 (by decide) rfl rfl (fun b3 gb3 ub3 => ?_)
    refine w_asg (v := .slice _ _ _) rfl ?_; refine w_nil ?_; refine k_on ?_; refine c_ret ?_; refine b_ret (k_ret (?_))
    refine r_one (v := .slice _ _ _) rfl rfl rfl ?_
    exact fun w' hw => ⟨_, OwnS.eq (OwnS.litT b3 [nm]) (by first | (rw [heq]; done) | (rw [heq]; rfl) | (rw [heq]; simp; done)), St.made (A := []) (hw.drop (List.sublist_append_left _ _))⟩
  · refine c_region ?_; refine w_r (fun _ => R_eq rfl rfl) rfl rfl ?_; refine w_asg (v := .bool _) rfl ?_; refine w_nil ?_; refine k_on ?_
    refine c_condD rfl (fun h4 => ?_) (fun h4 => ?_)
    · have heq := exT_12 (op := op) (.inr (by omega)) at_ nm ks
      refine c_seq ?_; refine c_region ?_; refine w_fa fa24_2 rfl ?_; refine w_load z9 rfl (fun _ h => cel_own 0 rfl rfl h) ?_
      refine w_bslice slt55 (by decide) rfl rfl (fun b5 gb5 ub5 => ?_)
      refine w_asg (v := .slice _ _ _) rfl ?_; refine w_nil ?_; refine k_on ?_; refine c_ret ?_; refine b_ret (k_ret (?_))
      refine r_one (v := .slice _ _ _) rfl rfl rfl ?_
      exact fun w' hw => ⟨_, OwnS.eq (OwnS.litT b5 [nm]) (by first | (rw [heq]; done) | (rw [heq]; rfl) | (rw [heq]; simp; done)), St.made (A := []) (hw.drop (List.sublist_append_left _ _))⟩
    · refine c_seq ?_; refine c_region ?_; refine w_r (fun _ => R_eq rfl rfl) rfl rfl ?_; refine w_asg (v := .bool _) rfl ?_; refine w_nil ?_; refine k_on ?_
      refine c_condD rfl (fun h6 => ?_) (fun h6 => ?_)
      · have heq := exT_3 (op := op) (by omega) at_ nm ks
        refine c_seq ?_
        refine c_held (St [(w, No)] [(t1b, cel [.int .u8 (op : Nat), .int .i64 at_, str nm, .slice ka ks.length kc] 24)]) mixed ?_
        refine h_take 0 rfl (by kernel_rfl) rfl rfl (fun w h => h.drop (List.Sublist.refl _)) (fun w h => R_fa fa24_2 rfl) ?_
        refine h_take 1 rfl (by kernel_rfl) rfl rfl (fun w h => h.drop (List.Sublist.refl _)) (fun w h => R_ld1 z9 rfl (cel_own 0 rfl rfl h)) ?_
        refine h_take 3 rfl (by kernel_rfl) rfl rfl (fun w h => h.drop (List.Sublist.refl _)) (fun w h => R_fa fa24_3 rfl) ?_
        refine h_take 4 rfl (by kernel_rfl) rfl rfl (fun w h => h.drop (List.Sublist.refl _)) (fun w h => R_ld1 z22 rfl (cel_own 0 rfl rfl h)) ?_
        refine h_two 2 5 (by kernel_rfl) (fun w h => h.drop (List.Sublist.refl _)) ?_ ?_
        · refine o_bslice rfl slt55 (by decide) rfl rfl (fun b7 gb7 ub7 => ?_)
          refine h_one 5 (by kernel_rfl) (fun w h => h.drop (.cons _ (List.Sublist.refl _))) ?_
          refine o_callW (R := fun u W => OwnT u (rowT (exsT ks)) W) rfl rfl rfl (fun w => R_call Tryz.func70 rfl rfl rfl) (fun w h => rrow_spec n ih hN ks ka kc N w hxk (by omega) hf.1 (hks.now (fun _ _ hh => hh) (.head _) h)) (fun u8 Wu8 hU8 => ?_)
          refine h_one 6 (by kernel_rfl) (fun w h => h.drop (sub_right (.cons _ (List.Sublist.refl _)))) ?_
          refine o_appT (L := [(t1b, cel [.int .u8 (op : Nat), .int .i64 at_, str nm, .slice ka ks.length kc] 24)]) (W2 := Wu8) (W := [(b7, cel (([nm, [91]] : List Str).map str) 9)]) rfl slt55 rfl (OwnS.litT b7 [nm, [91]]) rfl hU8 (by first | omega | (simp only [List.length_append, List.length_cons, List.length_nil] at *; omega)) (by decide) (fun v9 W9 hO9 => ?_)
          refine h_take 7 rfl (by kernel_rfl) rfl rfl (fun w h => h.drop (sub_right (List.Sublist.refl _))) (fun w h => R_assign (v := v9) rfl) ?_
          refine h_done (by kernel_rfl) (fun w h => h.drop (sub_right (List.Sublist.refl _))) ?_
          refine k_on ?_; refine c_seq ?_; refine c_region ?_; refine w_move (v := v9) rfl ?_
          refine w_bslice slt55 (by decide) rfl rfl (fun b10 gb10 ub10 => ?_)
          refine w_st (B' := _) (L' := [(b10, cel (([[93]] : List Str).map str) 9)] ++ (W9 ++ [(t1b, cel [.int .u8 (op : Nat), .int .i64 at_, str nm, .slice ka ks.length kc] 24)])) (fun w h => h) ?_
          refine w_appT (L := [(t1b, cel [.int .u8 (op : Nat), .int .i64 at_, str nm, .slice ka ks.length kc] 24)]) (W2 := [(b10, cel (([[93]] : List Str).map str) 9)]) slt55 rfl hO9 rfl (OwnS.litT b10 [[93]]) (by first | omega | (simp only [List.length_append, List.length_cons, List.length_nil] at *; omega)) (by decide) (fun v11 W11 hO11 => ?_)
          refine w_asg (v := v11) rfl ?_; refine w_nil ?_; refine k_on ?_; refine c_ret ?_; refine b_ret (k_ret (?_))
          refine r_one (v := v11) rfl rfl rfl ?_
          exact fun w' hw => ⟨_, OwnS.eq hO11 (by first | (rw [heq]; done) | (rw [heq]; rfl) | (rw [heq]; simp; done)), St.made (A := []) (hw.drop (List.sublist_append_left _ _))⟩
        · refine o_callW (R := fun u W => OwnT u (rowT (exsT ks)) W) rfl rfl rfl (fun w => R_call Tryz.func70 rfl rfl rfl) (fun w h => rrow_spec n ih hN ks ka kc N w hxk (by omega) hf.1 (hks.now (fun _ _ hh => hh) (.head _) h)) (fun u12 Wu12 hU12 => ?_)
          refine h_one 2 (by kernel_rfl) (fun w h => h.drop (sub_right (List.Sublist.refl _))) ?_
          refine o_bslice rfl slt55 (by decide) rfl rfl (fun b13 gb13 ub13 => ?_)
          refine h_st (B' := _) (L' := Wu12 ++ ([(b13, cel (([nm, [91]] : List Str).map str) 9)] ++ [(t1b, cel [.int .u8 (op : Nat), .int .i64 at_, str nm, .slice ka ks.length kc] 24)])) (fun w h => h.perm List.perm_middle.symm) ?_
          refine h_one 6 (by kernel_rfl) (fun w h => h.drop (sub_right (.cons _ (List.Sublist.refl _)))) ?_
          refine o_appT (L := [(t1b, cel [.int .u8 (op : Nat), .int .i64 at_, str nm, .slice ka ks.length kc] 24)]) (W2 := Wu12) (W := [(b13, cel (([nm, [91]] : List Str).map str) 9)]) rfl slt55 rfl (OwnS.litT b13 [nm, [91]]) rfl hU12 (by first | omega | (simp only [List.length_append, List.length_cons, List.length_nil] at *; omega)) (by decide) (fun v14 W14 hO14 => ?_)
          refine h_take 7 rfl (by kernel_rfl) rfl rfl (fun w h => h.drop (sub_right (List.Sublist.refl _))) (fun w h => R_assign (v := v14) rfl) ?_
          refine h_done (by kernel_rfl) (fun w h => h.drop (sub_right (List.Sublist.refl _))) ?_
          refine k_on ?_; refine c_seq ?_; refine c_region ?_; refine w_move (v := v14) rfl ?_
          refine w_bslice slt55 (by decide) rfl rfl (fun b15 gb15 ub15 => ?_)
          refine w_st (B' := _) (L' := [(b15, cel (([[93]] : List Str).map str) 9)] ++ (W14 ++ [(t1b, cel [.int .u8 (op : Nat), .int .i64 at_, str nm, .slice ka ks.length kc] 24)])) (fun w h => h) ?_
          refine w_appT (L := [(t1b, cel [.int .u8 (op : Nat), .int .i64 at_, str nm, .slice ka ks.length kc] 24)]) (W2 := [(b15, cel (([[93]] : List Str).map str) 9)]) slt55 rfl hO14 rfl (OwnS.litT b15 [[93]]) (by first | omega | (simp only [List.length_append, List.length_cons, List.length_nil] at *; omega)) (by decide) (fun v16 W16 hO16 => ?_)
          refine w_asg (v := v16) rfl ?_; refine w_nil ?_; refine k_on ?_; refine c_ret ?_; refine b_ret (k_ret (?_))
          refine r_one (v := v16) rfl rfl rfl ?_
          exact fun w' hw => ⟨_, OwnS.eq hO16 (by first | (rw [heq]; done) | (rw [heq]; rfl) | (rw [heq]; simp; done)), St.made (A := []) (hw.drop (List.sublist_append_left _ _))⟩
      · refine c_seq ?_; refine c_region ?_; refine w_r (fun _ => R_eq rfl rfl) rfl rfl ?_; refine w_asg (v := .bool _) rfl ?_; refine w_nil ?_; refine k_on ?_
        refine c_condD rfl (fun h17 => ?_) (fun h17 => ?_)
        · have heq := exT_4 (op := op) (by omega) at_ nm ks
          refine c_seq ?_
          refine c_held (St [(w, No)] [(t1b, cel [.int .u8 (op : Nat), .int .i64 at_, str nm, .slice ka ks.length kc] 24)]) mixed ?_
          refine h_take 0 rfl (by kernel_rfl) rfl rfl (fun w h => h.drop (List.Sublist.refl _)) (fun w h => R_fa fa24_2 rfl) ?_
          refine h_take 1 rfl (by kernel_rfl) rfl rfl (fun w h => h.drop (List.Sublist.refl _)) (fun w h => R_ld1 z9 rfl (cel_own 0 rfl rfl h)) ?_
          refine h_take 3 rfl (by kernel_rfl) rfl rfl (fun w h => h.drop (List.Sublist.refl _)) (fun w h => R_fa fa24_3 rfl) ?_
          refine h_take 4 rfl (by kernel_rfl) rfl rfl (fun w h => h.drop (List.Sublist.refl _)) (fun w h => R_ld1 z22 rfl (cel_own 0 rfl rfl h)) ?_
          refine h_two 2 5 (by kernel_rfl) (fun w h => h.drop (List.Sublist.refl _)) ?_ ?_
          · refine o_bslice rfl slt55 (by decide) rfl rfl (fun b18 gb18 ub18 => ?_)
            refine h_one 5 (by kernel_rfl) (fun w h => h.drop (.cons _ (List.Sublist.refl _))) ?_
            refine o_callW (R := fun u W => OwnT u (rowT (exsT ks)) W) rfl rfl rfl (fun w => R_call Tryz.func70 rfl rfl rfl) (fun w h => rrow_spec n ih hN ks ka kc N w hxk (by omega) hf.1 (hks.now (fun _ _ hh => hh) (.head _) h)) (fun u19 Wu19 hU19 => ?_)
            refine h_one 6 (by kernel_rfl) (fun w h => h.drop (sub_right (.cons _ (List.Sublist.refl _)))) ?_
            refine o_appT (L := [(t1b, cel [.int .u8 (op : Nat), .int .i64 at_, str nm, .slice ka ks.length kc] 24)]) (W2 := Wu19) (W := [(b18, cel (([nm, [40]] : List Str).map str) 9)]) rfl slt55 rfl (OwnS.litT b18 [nm, [40]]) rfl hU19 (by first | omega | (simp only [List.length_append, List.length_cons, List.length_nil] at *; omega)) (by decide) (fun v20 W20 hO20 => ?_)
            refine h_take 7 rfl (by kernel_rfl) rfl rfl (fun w h => h.drop (sub_right (List.Sublist.refl _))) (fun w h => R_assign (v := v20) rfl) ?_
            refine h_done (by kernel_rfl) (fun w h => h.drop (sub_right (List.Sublist.refl _))) ?_
            refine k_on ?_; refine c_seq ?_; refine c_region ?_; refine w_move (v := v20) rfl ?_
            refine w_bslice slt55 (by decide) rfl rfl (fun b21 gb21 ub21 => ?_)
            refine w_st (B' := _) (L' := [(b21, cel (([[41]] : List Str).map str) 9)] ++ (W20 ++ [(t1b, cel [.int .u8 (op : Nat), .int .i64 at_, str nm, .slice ka ks.length kc] 24)])) (fun w h => h) ?_
            refine w_appT (L := [(t1b, cel [.int .u8 (op : Nat), .int .i64 at_, str nm, .slice ka ks.length kc] 24)]) (W2 := [(b21, cel (([[41]] : List Str).map str) 9)]) slt55 rfl hO20 rfl (OwnS.litT b21 [[41]]) (by first | omega | (simp only [List.length_append, List.length_cons, List.length_nil] at *; omega)) (by decide) (fun v22 W22 hO22 => ?_)
            refine w_asg (v := v22) rfl ?_; refine w_nil ?_; refine k_on ?_; refine c_ret ?_; refine b_ret (k_ret (?_))
            refine r_one (v := v22) rfl rfl rfl ?_
            exact fun w' hw => ⟨_, OwnS.eq hO22 (by first | (rw [heq]; done) | (rw [heq]; rfl) | (rw [heq]; simp; done)), St.made (A := []) (hw.drop (List.sublist_append_left _ _))⟩
          · refine o_callW (R := fun u W => OwnT u (rowT (exsT ks)) W) rfl rfl rfl (fun w => R_call Tryz.func70 rfl rfl rfl) (fun w h => rrow_spec n ih hN ks ka kc N w hxk (by omega) hf.1 (hks.now (fun _ _ hh => hh) (.head _) h)) (fun u23 Wu23 hU23 => ?_)
            refine h_one 2 (by kernel_rfl) (fun w h => h.drop (sub_right (List.Sublist.refl _))) ?_
            refine o_bslice rfl slt55 (by decide) rfl rfl (fun b24 gb24 ub24 => ?_)
            refine h_st (B' := _) (L' := Wu23 ++ ([(b24, cel (([nm, [40]] : List Str).map str) 9)] ++ [(t1b, cel [.int .u8 (op : Nat), .int .i64 at_, str nm, .slice ka ks.length kc] 24)])) (fun w h => h.perm List.perm_middle.symm) ?_
            refine h_one 6 (by kernel_rfl) (fun w h => h.drop (sub_right (.cons _ (List.Sublist.refl _)))) ?_
            refine o_appT (L := [(t1b, cel [.int .u8 (op : Nat), .int .i64 at_, str nm, .slice ka ks.length kc] 24)]) (W2 := Wu23) (W := [(b24, cel (([nm, [40]] : List Str).map str) 9)]) rfl slt55 rfl (OwnS.litT b24 [nm, [40]]) rfl hU23 (by first | omega | (simp only [List.length_append, List.length_cons, List.length_nil] at *; omega)) (by decide) (fun v25 W25 hO25 => ?_)
            refine h_take 7 rfl (by kernel_rfl) rfl rfl (fun w h => h.drop (sub_right (List.Sublist.refl _))) (fun w h => R_assign (v := v25) rfl) ?_
            refine h_done (by kernel_rfl) (fun w h => h.drop (sub_right (List.Sublist.refl _))) ?_
            refine k_on ?_; refine c_seq ?_; refine c_region ?_; refine w_move (v := v25) rfl ?_
            refine w_bslice slt55 (by decide) rfl rfl (fun b26 gb26 ub26 => ?_)
            refine w_st (B' := _) (L' := [(b26, cel (([[41]] : List Str).map str) 9)] ++ (W25 ++ [(t1b, cel [.int .u8 (op : Nat), .int .i64 at_, str nm, .slice ka ks.length kc] 24)])) (fun w h => h) ?_
            refine w_appT (L := [(t1b, cel [.int .u8 (op : Nat), .int .i64 at_, str nm, .slice ka ks.length kc] 24)]) (W2 := [(b26, cel (([[41]] : List Str).map str) 9)]) slt55 rfl hO25 rfl (OwnS.litT b26 [[41]]) (by first | omega | (simp only [List.length_append, List.length_cons, List.length_nil] at *; omega)) (by decide) (fun v27 W27 hO27 => ?_)
            refine w_asg (v := v27) rfl ?_; refine w_nil ?_; refine k_on ?_; refine c_ret ?_; refine b_ret (k_ret (?_))
            refine r_one (v := v27) rfl rfl rfl ?_
            exact fun w' hw => ⟨_, OwnS.eq hO27 (by first | (rw [heq]; done) | (rw [heq]; rfl) | (rw [heq]; simp; done)), St.made (A := []) (hw.drop (List.sublist_append_left _ _))⟩
        · refine c_seq ?_; refine c_region ?_; refine w_r (fun _ => R_eq rfl rfl) rfl rfl ?_; refine w_asg (v := .bool _) rfl ?_; refine w_nil ?_; refine k_on ?_
          refine c_condD rfl (fun h28 => ?_) (fun h28 => ?_)
          · have hk2 := hf.2.1 (by omega); obtain ⟨x0, hx0⟩ : ∃ x, ks[0]? = some x := ⟨_, List.getElem?_eq_getElem (by omega)⟩; have ho0 := exsOk_get hf.1 hx0; have hw0 := exsW_mem (List.mem_of_getElem? hx0); obtain ⟨cs0, hA0, hE0⟩ := hks.get0 hx0; have hcl0 := exM_len hE0; have hlk0 := kidT_lenB (x := x0) (by omega); have hop0 := exM_op hE0; obtain ⟨b0, o0, rfl⟩ := hA0.ptr; have hlk := hlk0 3; have heq := exT_5 (op := op) (by omega) at_ nm hx0; have hr5 : rank op = 3 := (by rw [show op = 5 by omega]; rfl); rw [hr5] at heq
            refine c_seq ?_
            refine c_held (St [(w, No)] [(t1b, cel [.int .u8 (op : Nat), .int .i64 at_, str nm, .slice (some ⟨b0, o0, none⟩) ks.length kc] 24)]) mixed ?_
            refine h_take 1 rfl (by kernel_rfl) rfl rfl (fun w h => h.drop (List.Sublist.refl _)) (fun w h => R_fa fa24_3 rfl) ?_
            refine h_take 2 rfl (by kernel_rfl) rfl rfl (fun w h => h.drop (List.Sublist.refl _)) (fun w h => R_ld1 z22 rfl (by first | exact cel_own 0 rfl rfl h | exact hA0.cell (fun _ _ hh => hh) (.head _) h 0 _ hop0)) ?_
            refine h_take 3 rfl (by kernel_rfl) rfl rfl (fun w h => h.drop (List.Sublist.refl _)) (fun w h => R_iaN (i := 0) sl22 rfl rfl (by first | omega | decide)) ?_
            refine h_take 4 rfl (by kernel_rfl) rfl rfl (fun w h => h.drop (List.Sublist.refl _)) (fun w h => R_ldA z24 rfl hcl0 (fun j v hj => hA0.cell (fun _ _ hh => hh) (.head _) h j v hj)) ?_
            refine h_take 5 rfl (by kernel_rfl) rfl rfl (fun w h => h.drop (List.Sublist.refl _)) (fun w h => R_fa fa24_3 rfl) ?_
            refine h_take 6 rfl (by kernel_rfl) rfl rfl (fun w h => h.drop (List.Sublist.refl _)) (fun w h => R_ld1 z22 rfl (by first | exact cel_own 0 rfl rfl h | exact hA0.cell (fun _ _ hh => hh) (.head _) h 0 _ hop0)) ?_
            refine h_take 7 rfl (by kernel_rfl) rfl rfl (fun w h => h.drop (List.Sublist.refl _)) (fun w h => R_iaN (i := 0) sl22 rfl rfl (by first | omega | decide)) ?_
            refine h_take 8 rfl (by kernel_rfl) rfl rfl (fun w h => h.drop (List.Sublist.refl _)) (fun w h => R_fa fa24_0 rfl) ?_
            refine h_take 9 rfl (by kernel_rfl) rfl rfl (fun w h => h.drop (List.Sublist.refl _)) (fun w h => R_ld1 z5 rfl (by first | exact cel_own 0 rfl rfl h | exact hA0.cell (fun _ _ hh => hh) (.head _) h 0 _ hop0)) ?_
            refine h_two 0 10 (by kernel_rfl) (fun w h => h.drop (List.Sublist.refl _)) ?_ ?_
            · refine o_bslice rfl slt55 (by decide) rfl rfl (fun b29 gb29 ub29 => ?_)
              refine h_one 10 (by kernel_rfl) (fun w h => h.drop (.cons _ (List.Sublist.refl _))) ?_
              refine o_pure rfl rfl rfl (fun w => R_call Tryz.func72 rfl rfl rfl) (fun w h => rrank_spec x0.op w) ?_
              refine h_take 11 rfl (by kernel_rfl) rfl rfl (fun w h => h.drop (.cons _ (List.Sublist.refl _))) (fun w h => R_lt rfl rfl) ?_
              refine h_one 12 (by kernel_rfl) (fun w h => h.drop (.cons _ (List.Sublist.refl _))) ?_
              refine o_callW (R := fun u W => OwnT u (kidT x0.op (exT x0) 3) W) rfl rfl rfl (fun w => R_call Tryz.func71 rfl rfl rfl) (fun w h => rkid_spec n ih hN 3 x0 _ N w _ (decide_eq_decide.2 (by omega)) (by omega) (penOk_of ho0) (hE0.now (fun _ _ hh => hh) (.head _) h)) (fun u30 Wu30 hU30 => ?_)
              refine h_one 13 (by kernel_rfl) (fun w h => h.drop (sub_right (.cons _ (List.Sublist.refl _)))) ?_
              refine o_appT (L := [(t1b, cel [.int .u8 (op : Nat), .int .i64 at_, str nm, .slice (some ⟨b0, o0, none⟩) ks.length kc] 24)]) (W2 := Wu30) (W := [(b29, cel (([[45]] : List Str).map str) 9)]) rfl slt55 rfl (OwnS.litT b29 [[45]]) rfl hU30 (by first | omega | (simp only [List.length_append, List.length_cons, List.length_nil] at *; omega)) (by decide) (fun v31 W31 hO31 => ?_)
              refine h_take 14 rfl (by kernel_rfl) rfl rfl (fun w h => h.drop (sub_right (List.Sublist.refl _))) (fun w h => R_assign (v := v31) rfl) ?_
              refine h_done (by kernel_rfl) (fun w h => h.drop (sub_right (List.Sublist.refl _))) ?_
              refine k_on ?_; refine c_ret ?_; refine b_ret (k_ret (?_))
              refine r_one (v := v31) rfl rfl rfl ?_
              exact fun w' hw => ⟨_, OwnS.eq hO31 (by first | (rw [heq]; done) | (rw [heq]; rfl) | (rw [heq]; simp; done)), St.made (A := []) (hw.drop (List.sublist_append_left _ _))⟩
            · refine o_pure rfl rfl rfl (fun w => R_call Tryz.func72 rfl rfl rfl) (fun w h => rrank_spec x0.op w) ?_
              refine h_take 11 rfl (by kernel_rfl) rfl rfl (fun w h => h.drop (List.Sublist.refl _)) (fun w h => R_lt rfl rfl) ?_
              refine h_two 0 12 (by kernel_rfl) (fun w h => h.drop (List.Sublist.refl _)) ?_ ?_
              · refine o_bslice rfl slt55 (by decide) rfl rfl (fun b32 gb32 ub32 => ?_)
                refine h_one 12 (by kernel_rfl) (fun w h => h.drop (.cons _ (List.Sublist.refl _))) ?_
                refine o_callW (R := fun u W => OwnT u (kidT x0.op (exT x0) 3) W) rfl rfl rfl (fun w => R_call Tryz.func71 rfl rfl rfl) (fun w h => rkid_spec n ih hN 3 x0 _ N w _ (decide_eq_decide.2 (by omega)) (by omega) (penOk_of ho0) (hE0.now (fun _ _ hh => hh) (.head _) h)) (fun u33 Wu33 hU33 => ?_)
                refine h_one 13 (by kernel_rfl) (fun w h => h.drop (sub_right (.cons _ (List.Sublist.refl _)))) ?_
                refine o_appT (L := [(t1b, cel [.int .u8 (op : Nat), .int .i64 at_, str nm, .slice (some ⟨b0, o0, none⟩) ks.length kc] 24)]) (W2 := Wu33) (W := [(b32, cel (([[45]] : List Str).map str) 9)]) rfl slt55 rfl (OwnS.litT b32 [[45]]) rfl hU33 (by first | omega | (simp only [List.length_append, List.length_cons, List.length_nil] at *; omega)) (by decide) (fun v34 W34 hO34 => ?_)
                refine h_take 14 rfl (by kernel_rfl) rfl rfl (fun w h => h.drop (sub_right (List.Sublist.refl _))) (fun w h => R_assign (v := v34) rfl) ?_
                refine h_done (by kernel_rfl) (fun w h => h.drop (sub_right (List.Sublist.refl _))) ?_
                refine k_on ?_; refine c_ret ?_; refine b_ret (k_ret (?_))
                refine r_one (v := v34) rfl rfl rfl ?_
                exact fun w' hw => ⟨_, OwnS.eq hO34 (by first | (rw [heq]; done) | (rw [heq]; rfl) | (rw [heq]; simp; done)), St.made (A := []) (hw.drop (List.sublist_append_left _ _))⟩
              · refine o_callW (R := fun u W => OwnT u (kidT x0.op (exT x0) 3) W) rfl rfl rfl (fun w => R_call Tryz.func71 rfl rfl rfl) (fun w h => rkid_spec n ih hN 3 x0 _ N w _ (decide_eq_decide.2 (by omega)) (by omega) (penOk_of ho0) (hE0.now (fun _ _ hh => hh) (.head _) h)) (fun u35 Wu35 hU35 => ?_)
                refine h_one 0 (by kernel_rfl) (fun w h => h.drop (sub_right (List.Sublist.refl _))) ?_
                refine o_bslice rfl slt55 (by decide) rfl rfl (fun b36 gb36 ub36 => ?_)
                refine h_st (B' := _) (L' := Wu35 ++ ([(b36, cel (([[45]] : List Str).map str) 9)] ++ [(t1b, cel [.int .u8 (op : Nat), .int .i64 at_, str nm, .slice (some ⟨b0, o0, none⟩) ks.length kc] 24)])) (fun w h => h.perm List.perm_middle.symm) ?_
                refine h_one 13 (by kernel_rfl) (fun w h => h.drop (sub_right (.cons _ (List.Sublist.refl _)))) ?_
                refine o_appT (L := [(t1b, cel [.int .u8 (op : Nat), .int .i64 at_, str nm, .slice (some ⟨b0, o0, none⟩) ks.length kc] 24)]) (W2 := Wu35) (W := [(b36, cel (([[45]] : List Str).map str) 9)]) rfl slt55 rfl (OwnS.litT b36 [[45]]) rfl hU35 (by first | omega | (simp only [List.length_append, List.length_cons, List.length_nil] at *; omega)) (by decide) (fun v37 W37 hO37 => ?_)
                refine h_take 14 rfl (by kernel_rfl) rfl rfl (fun w h => h.drop (sub_right (List.Sublist.refl _))) (fun w h => R_assign (v := v37) rfl) ?_
                refine h_done (by kernel_rfl) (fun w h => h.drop (sub_right (List.Sublist.refl _))) ?_
                refine k_on ?_; refine c_ret ?_; refine b_ret (k_ret (?_))
                refine r_one (v := v37) rfl rfl rfl ?_
                exact fun w' hw => ⟨_, OwnS.eq hO37 (by first | (rw [heq]; done) | (rw [heq]; rfl) | (rw [heq]; simp; done)), St.made (A := []) (hw.drop (List.sublist_append_left _ _))⟩
          · have h6 : 6 ≤ op := (by omega); have hk2 := hf.2.2.1 (by omega); have h15 := hk2.2; have hk2 := hk2.1; obtain ⟨x0, hx0⟩ : ∃ x, ks[0]? = some x := ⟨_, List.getElem?_eq_getElem (by omega)⟩; have ho0 := exsOk_get hf.1 hx0; have hw0 := exsW_mem (List.mem_of_getElem? hx0); obtain ⟨cs0, hA0, hE0⟩ := hks.get0 hx0; have hcl0 := exM_len hE0; have hlk0 := kidT_lenB (x := x0) (by omega); have hop0 := exM_op hE0; obtain ⟨x1, hx1⟩ : ∃ x, ks[1]? = some x := ⟨_, List.getElem?_eq_getElem (by omega)⟩; have ho1 := exsOk_get hf.1 hx1; have hw1 := exsW_mem (List.mem_of_getElem? hx1); obtain ⟨cs1, hA1, hE1⟩ := hks.get0 hx1; have hcl1 := exM_len hE1; have hlk1 := kidT_lenB (x := x1) (by omega); have hop1 := exM_op hE1; obtain ⟨b0, o0, rfl⟩ := hA0.ptr; have heq := exT_two h6 at_ nm hx0 hx1; have hsl := signs_len op; have hlkA := hlk0 (low op); have hlkB := hlk1 (min (low op + 1) (low op * 9)); have hlq := congrArg List.length heq; simp only [List.length_append, List.length_cons, List.length_nil] at hlq
            refine c_skip ?_; refine b_on (k_on ?_); refine c_seq ?_; refine c_region ?_
            refine w_bslice slt55 (by decide) rfl rfl (fun sgb gsgb usgb => ?_)
            refine w_st (B' := _) (L' := [(sgb, cel [str [43], str [45], str [42], str [47], str [61, 61], str [33, 61], str [60], str [60, 61], str [62], str [62, 61]] 9), (t1b, cel [.int .u8 (op : Nat), .int .i64 at_, str nm, .slice (some ⟨b0, o0, none⟩) ks.length kc] 24)]) (fun w h => celEqH h (by kernel_rfl)) ?_
            refine w_asg (v := .slice _ _ _) rfl ?_; refine w_nil ?_; refine k_on ?_; refine c_seq ?_; refine c_region ?_; refine w_fa fa24_0 rfl ?_; refine w_load z5 rfl (fun _ h => by first | exact cel_mem (b := t1b) (cs := [.int .u8 (op : Nat), .int .i64 at_, str nm, .slice ka ks.length kc]) (T := 24) (by simp) rfl h | exact cel_mem (b := t1b) (cs := [.int .u8 (op : Nat), .int .i64 at_, str nm, .slice (some ⟨b0, o0, none⟩) ks.length kc]) (T := 24) (by simp) rfl h) ?_
            refine w_call (fun w => R_call Tryz.func72 rfl rfl rfl) rfl rfl (fun w h => rrank_spec _ w) ?_; refine w_asg (v := .int _ _) rfl ?_; refine w_nil ?_; refine k_on ?_
            refine c_seq ?_; refine c_region ?_; refine w_fa fa24_0 rfl ?_; refine w_load z5 rfl (fun _ h => by first | exact cel_mem (b := t1b) (cs := [.int .u8 (op : Nat), .int .i64 at_, str nm, .slice ka ks.length kc]) (T := 24) (by simp) rfl h | exact cel_mem (b := t1b) (cs := [.int .u8 (op : Nat), .int .i64 at_, str nm, .slice (some ⟨b0, o0, none⟩) ks.length kc]) (T := 24) (by simp) rfl h) ?_
            refine w_r (fun _ => R_lt rfl rfl) rfl rfl ?_; refine w_move (v := .bool _) rfl ?_
            refine w_splitD (t := 65) rfl (fun h38 => ?_) (fun h38 => ?_)
            · refine w_want rfl rfl (bT h38) ?_; refine w_fa fa24_3 rfl ?_; refine w_want rfl rfl (bT h38) ?_
              refine w_load z22 rfl (fun _ h => by first | exact cel_mem (b := t1b) (cs := [.int .u8 (op : Nat), .int .i64 at_, str nm, .slice ka ks.length kc]) (T := 24) (by simp) rfl h | exact cel_mem (b := t1b) (cs := [.int .u8 (op : Nat), .int .i64 at_, str nm, .slice (some ⟨b0, o0, none⟩) ks.length kc]) (T := 24) (by simp) rfl h) ?_
              refine w_want rfl rfl (bT h38) ?_; refine w_r (fun _ => R_iaN (i := 0) sl22 rfl rfl (by first | omega | decide)) rfl rfl ?_
              refine w_want rfl rfl (bT h38) ?_; refine w_fa fa24_0 rfl ?_; refine w_want rfl rfl (bT h38) ?_
              refine w_load (v := .int .u8 (x0.op : Nat)) z5 rfl (fun w h => hA0.cell (fun _ _ hh => hh) (.head _) h 0 _ hop0) ?_
              refine w_want rfl rfl (bT h38) ?_; refine w_call (fun w => R_call Tryz.func72 rfl rfl rfl) rfl rfl (fun w h => rrank_spec _ w) ?_
              refine w_want rfl rfl (bT h38) ?_; refine w_move (v := .int _ _) rfl ?_; refine w_want rfl rfl (bT h38) ?_
              refine w_r (fun _ => R_lt rfl rfl) rfl rfl ?_; refine w_r (v := .bool _) (fun _ => R_pickT (bT h38) rfl) rfl rfl ?_; refine w_asg (v := .bool _) rfl ?_
              refine w_nil ?_; refine k_on ?_; refine c_seq ?_; refine c_region ?_; refine w_fa fa24_0 rfl ?_; refine w_load z5 rfl (fun _ h => by first | exact cel_mem (b := t1b) (cs := [.int .u8 (op : Nat), .int .i64 at_, str nm, .slice ka ks.length kc]) (T := 24) (by simp) rfl h | exact cel_mem (b := t1b) (cs := [.int .u8 (op : Nat), .int .i64 at_, str nm, .slice (some ⟨b0, o0, none⟩) ks.length kc]) (T := 24) (by simp) rfl h) ?_
              refine w_r (fun _ => R_lt rfl rfl) rfl rfl ?_; refine w_move (v := .bool _) rfl ?_
              refine w_splitD (t := 78) rfl (fun h39 => ?_) (fun h39 => ?_)
              · refine w_want rfl rfl (bT h39) ?_; refine w_fa fa24_3 rfl ?_; refine w_want rfl rfl (bT h39) ?_
                refine w_load z22 rfl (fun _ h => by first | exact cel_mem (b := t1b) (cs := [.int .u8 (op : Nat), .int .i64 at_, str nm, .slice ka ks.length kc]) (T := 24) (by simp) rfl h | exact cel_mem (b := t1b) (cs := [.int .u8 (op : Nat), .int .i64 at_, str nm, .slice (some ⟨b0, o0, none⟩) ks.length kc]) (T := 24) (by simp) rfl h) ?_
                refine w_want rfl rfl (bT h39) ?_; refine w_r (fun _ => R_iaN (i := 1) sl22 rfl rfl (by first | omega | decide)) rfl rfl ?_
                refine w_want rfl rfl (bT h39) ?_; refine w_fa fa24_0 rfl ?_; refine w_want rfl rfl (bT h39) ?_
                refine w_load (v := .int .u8 (x1.op : Nat)) z5 rfl (fun w h => hA1.cell (fun _ _ hh => hh) (.head _) h 0 _ hop1) ?_
                refine w_want rfl rfl (bT h39) ?_; refine w_call (fun w => R_call Tryz.func72 rfl rfl rfl) rfl rfl (fun w h => rrank_spec _ w) ?_
                refine w_want rfl rfl (bT h39) ?_; refine w_move (v := .int _ _) rfl ?_; refine w_want rfl rfl (bT h39) ?_
                refine w_r (fun _ => R_le rfl rfl) rfl rfl ?_; refine w_r (v := .bool _) (fun _ => R_pickT (bT h39) rfl) rfl rfl ?_; refine w_asg (v := .bool _) rfl ?_
                refine w_nil ?_; refine k_on ?_; refine c_seq ?_; refine c_region ?_; refine w_fa fa24_3 rfl ?_; refine w_load z22 rfl (fun _ h => by first | exact cel_mem (b := t1b) (cs := [.int .u8 (op : Nat), .int .i64 at_, str nm, .slice ka ks.length kc]) (T := 24) (by simp) rfl h | exact cel_mem (b := t1b) (cs := [.int .u8 (op : Nat), .int .i64 at_, str nm, .slice (some ⟨b0, o0, none⟩) ks.length kc]) (T := 24) (by simp) rfl h) ?_
                refine w_r (fun _ => R_iaN (i := 0) sl22 rfl rfl (by first | omega | decide)) rfl rfl ?_
                refine w_loadC (l := cs0) z24 rfl hcl0 (fun w h j v hj => hA0.cell (fun _ _ hh => hh) (.head _) h j v hj) ?_
                refine w_move (v := .bool _) rfl ?_
                refine w_callW (R := fun u W => OwnT u (kidT x0.op (exT x0) (low op)) W) (fun w => R_call Tryz.func71 rfl rfl rfl) rfl rfl (fun w h => rkid_spec n ih hN (low op) x0 _ N w _ (by first | (rw [← low_left h6 h15, decide_eq_true (show op < 10 by omega), Bool.true_and]; exact decide_eq_decide.2 (by omega)) | (rw [← low_left h6 h15, decide_eq_false (show ¬ op < 10 by omega)]; rfl)) (by omega) (penOk_of ho0) (hE0.now (fun _ _ hh => hh) (.head _) h)) (fun u40 Wu40 hU40 => ?_)
                refine w_asg (v := u40) rfl ?_; refine w_nil ?_; refine k_on ?_; refine c_seq ?_; refine c_region ?_; refine w_move (v := u40) rfl ?_; refine w_move (v := .slice _ _ _) rfl ?_
                refine w_fa fa24_0 rfl ?_; refine w_load z5 rfl (fun _ h => by first | exact cel_mem (b := t1b) (cs := [.int .u8 (op : Nat), .int .i64 at_, str nm, .slice ka ks.length kc]) (T := 24) (by simp) rfl h | exact cel_mem (b := t1b) (cs := [.int .u8 (op : Nat), .int .i64 at_, str nm, .slice (some ⟨b0, o0, none⟩) ks.length kc]) (T := 24) (by simp) rfl h) ?_
                refine w_r (v := .int .u8 ((op - 6 : Nat) : Int)) (fun _ => R_sub8 (n := op) (m := 6) h6 (by omega) rfl rfl) rfl rfl ?_
                refine w_r (fun _ => R_iaN (i := (op - 6)) sl55 rfl rfl (by first | omega | decide)) rfl rfl ?_
                refine w_load (v := str (signs op)) z9 rfl (fun w h => cel_mem (b := sgb) (T := 9) (by simp) (signsL h6 h15) h) ?_
                refine w_bslice slt55 (by decide) rfl rfl (fun b41 gb41 ub41 => ?_)
                refine w_st (B' := _) (L' := [(b41, cel (([signs op] : List Str).map str) 9)] ++ (Wu40 ++ [(sgb, cel [str [43], str [45], str [42], str [47], str [61, 61], str [33, 61], str [60], str [60, 61], str [62], str [62, 61]] 9), (t1b, cel [.int .u8 (op : Nat), .int .i64 at_, str nm, .slice (some ⟨b0, o0, none⟩) ks.length kc] 24)])) (fun w h => h) ?_
                refine w_appT (L := [(sgb, cel [str [43], str [45], str [42], str [47], str [61, 61], str [33, 61], str [60], str [60, 61], str [62], str [62, 61]] 9), (t1b, cel [.int .u8 (op : Nat), .int .i64 at_, str nm, .slice (some ⟨b0, o0, none⟩) ks.length kc] 24)]) (W2 := [(b41, cel (([signs op] : List Str).map str) 9)]) slt55 rfl hU40 rfl (OwnS.litT b41 [signs op]) (by first | omega | (simp only [List.length_append, List.length_cons, List.length_nil] at *; omega)) (by decide) (fun v42 W42 hO42 => ?_)
                refine w_asg (v := v42) rfl ?_; refine w_nil ?_; refine k_on ?_; refine c_seq ?_; refine c_region ?_; refine w_move (v := v42) rfl ?_; refine w_fa fa24_3 rfl ?_; refine w_load z22 rfl (fun _ h => by first | exact cel_mem (b := t1b) (cs := [.int .u8 (op : Nat), .int .i64 at_, str nm, .slice ka ks.length kc]) (T := 24) (by simp) rfl h | exact cel_mem (b := t1b) (cs := [.int .u8 (op : Nat), .int .i64 at_, str nm, .slice (some ⟨b0, o0, none⟩) ks.length kc]) (T := 24) (by simp) rfl h) ?_
                refine w_r (fun _ => R_iaN (i := 1) sl22 rfl rfl (by first | omega | decide)) rfl rfl ?_
                refine w_loadC (l := cs1) z24 rfl hcl1 (fun w h j v hj => hA1.cell (fun _ _ hh => hh) (.head _) h j v hj) ?_
                refine w_move (v := .bool _) rfl ?_
                refine w_callW (R := fun u W => OwnT u (kidT x1.op (exT x1) (min (low op + 1) (low op * 9))) W) (fun w => R_call Tryz.func71 rfl rfl rfl) rfl rfl (fun w h => rkid_spec n ih hN (min (low op + 1) (low op * 9)) x1 _ N w _ (by first | (rw [← low_right h6 h15, decide_eq_true (show op < 10 by omega), Bool.true_and]; exact decide_eq_decide.2 (by omega)) | (rw [← low_right h6 h15, decide_eq_false (show ¬ op < 10 by omega)]; rfl)) (by omega) (penOk_of ho1) (hE1.now (fun _ _ hh => hh) (.head _) h)) (fun u43 Wu43 hU43 => ?_)
                refine w_st (B' := _) (L' := Wu43 ++ (W42 ++ [(sgb, cel [str [43], str [45], str [42], str [47], str [61, 61], str [33, 61], str [60], str [60, 61], str [62], str [62, 61]] 9), (t1b, cel [.int .u8 (op : Nat), .int .i64 at_, str nm, .slice (some ⟨b0, o0, none⟩) ks.length kc] 24)])) (fun w h => h) ?_
                refine w_appT (L := [(sgb, cel [str [43], str [45], str [42], str [47], str [61, 61], str [33, 61], str [60], str [60, 61], str [62], str [62, 61]] 9), (t1b, cel [.int .u8 (op : Nat), .int .i64 at_, str nm, .slice (some ⟨b0, o0, none⟩) ks.length kc] 24)]) slt55 rfl hO42 rfl hU43 (by first | omega | (simp only [List.length_append, List.length_cons, List.length_nil] at *; omega)) (by decide) (fun v44 W44 hO44 => ?_)
                refine w_asg (v := v44) rfl ?_; refine w_nil ?_; refine k_on ?_; refine c_ret ?_
                refine r_one (v := v44) rfl rfl rfl ?_
                exact fun w' hw => ⟨_, OwnS.eq hO44 (by first | (rw [heq]; done) | (rw [heq]; rfl) | (rw [heq]; simp; done)), St.made (A := []) (hw.drop (List.sublist_append_left _ _))⟩
              · refine w_skip rfl rfl (bF h39) ?_; refine w_skip rfl rfl (bF h39) ?_; refine w_skip rfl rfl (bF h39) ?_
                refine w_skip rfl rfl (bF h39) ?_; refine w_skip rfl rfl (bF h39) ?_; refine w_skip rfl rfl (bF h39) ?_
                refine w_skip rfl rfl (bF h39) ?_; refine w_skip rfl rfl (bF h39) ?_; refine w_r (v := .bool _) (fun _ => R_pickF (bF h39) rfl) rfl rfl ?_
                refine w_asg (v := .bool _) rfl ?_; refine w_nil ?_; refine k_on ?_; refine c_seq ?_; refine c_region ?_; refine w_fa fa24_3 rfl ?_; refine w_load z22 rfl (fun _ h => by first | exact cel_mem (b := t1b) (cs := [.int .u8 (op : Nat), .int .i64 at_, str nm, .slice ka ks.length kc]) (T := 24) (by simp) rfl h | exact cel_mem (b := t1b) (cs := [.int .u8 (op : Nat), .int .i64 at_, str nm, .slice (some ⟨b0, o0, none⟩) ks.length kc]) (T := 24) (by simp) rfl h) ?_
                refine w_r (fun _ => R_iaN (i := 0) sl22 rfl rfl (by first | omega | decide)) rfl rfl ?_
                refine w_loadC (l := cs0) z24 rfl hcl0 (fun w h j v hj => hA0.cell (fun _ _ hh => hh) (.head _) h j v hj) ?_
                refine w_move (v := .bool _) rfl ?_
                refine w_callW (R := fun u W => OwnT u (kidT x0.op (exT x0) (low op)) W) (fun w => R_call Tryz.func71 rfl rfl rfl) rfl rfl (fun w h => rkid_spec n ih hN (low op) x0 _ N w _ (by first | (rw [← low_left h6 h15, decide_eq_true (show op < 10 by omega), Bool.true_and]; exact decide_eq_decide.2 (by omega)) | (rw [← low_left h6 h15, decide_eq_false (show ¬ op < 10 by omega)]; rfl)) (by omega) (penOk_of ho0) (hE0.now (fun _ _ hh => hh) (.head _) h)) (fun u45 Wu45 hU45 => ?_)
                refine w_asg (v := u45) rfl ?_; refine w_nil ?_; refine k_on ?_; refine c_seq ?_; refine c_region ?_; refine w_move (v := u45) rfl ?_; refine w_move (v := .slice _ _ _) rfl ?_
                refine w_fa fa24_0 rfl ?_; refine w_load z5 rfl (fun _ h => by first | exact cel_mem (b := t1b) (cs := [.int .u8 (op : Nat), .int .i64 at_, str nm, .slice ka ks.length kc]) (T := 24) (by simp) rfl h | exact cel_mem (b := t1b) (cs := [.int .u8 (op : Nat), .int .i64 at_, str nm, .slice (some ⟨b0, o0, none⟩) ks.length kc]) (T := 24) (by simp) rfl h) ?_
                refine w_r (v := .int .u8 ((op - 6 : Nat) : Int)) (fun _ => R_sub8 (n := op) (m := 6) h6 (by omega) rfl rfl) rfl rfl ?_
                refine w_r (fun _ => R_iaN (i := (op - 6)) sl55 rfl rfl (by first | omega | decide)) rfl rfl ?_
                refine w_load (v := str (signs op)) z9 rfl (fun w h => cel_mem (b := sgb) (T := 9) (by simp) (signsL h6 h15) h) ?_
                refine w_bslice slt55 (by decide) rfl rfl (fun b46 gb46 ub46 => ?_)
                refine w_st (B' := _) (L' := [(b46, cel (([signs op] : List Str).map str) 9)] ++ (Wu45 ++ [(sgb, cel [str [43], str [45], str [42], str [47], str [61, 61], str [33, 61], str [60], str [60, 61], str [62], str [62, 61]] 9), (t1b, cel [.int .u8 (op : Nat), .int .i64 at_, str nm, .slice (some ⟨b0, o0, none⟩) ks.length kc] 24)])) (fun w h => h) ?_
                refine w_appT (L := [(sgb, cel [str [43], str [45], str [42], str [47], str [61, 61], str [33, 61], str [60], str [60, 61], str [62], str [62, 61]] 9), (t1b, cel [.int .u8 (op : Nat), .int .i64 at_, str nm, .slice (some ⟨b0, o0, none⟩) ks.length kc] 24)]) (W2 := [(b46, cel (([signs op] : List Str).map str) 9)]) slt55 rfl hU45 rfl (OwnS.litT b46 [signs op]) (by first | omega | (simp only [List.length_append, List.length_cons, List.length_nil] at *; omega)) (by decide) (fun v47 W47 hO47 => ?_)
                refine w_asg (v := v47) rfl ?_; refine w_nil ?_; refine k_on ?_; refine c_seq ?_; refine c_region ?_; refine w_move (v := v47) rfl ?_; refine w_fa fa24_3 rfl ?_; refine w_load z22 rfl (fun _ h => by first | exact cel_mem (b := t1b) (cs := [.int .u8 (op : Nat), .int .i64 at_, str nm, .slice ka ks.length kc]) (T := 24) (by simp) rfl h | exact cel_mem (b := t1b) (cs := [.int .u8 (op : Nat), .int .i64 at_, str nm, .slice (some ⟨b0, o0, none⟩) ks.length kc]) (T := 24) (by simp) rfl h) ?_
                refine w_r (fun _ => R_iaN (i := 1) sl22 rfl rfl (by first | omega | decide)) rfl rfl ?_
                refine w_loadC (l := cs1) z24 rfl hcl1 (fun w h j v hj => hA1.cell (fun _ _ hh => hh) (.head _) h j v hj) ?_
                refine w_move (v := .bool _) rfl ?_
                refine w_callW (R := fun u W => OwnT u (kidT x1.op (exT x1) (min (low op + 1) (low op * 9))) W) (fun w => R_call Tryz.func71 rfl rfl rfl) rfl rfl (fun w h => rkid_spec n ih hN (min (low op + 1) (low op * 9)) x1 _ N w _ (by first | (rw [← low_right h6 h15, decide_eq_true (show op < 10 by omega), Bool.true_and]; exact decide_eq_decide.2 (by omega)) | (rw [← low_right h6 h15, decide_eq_false (show ¬ op < 10 by omega)]; rfl)) (by omega) (penOk_of ho1) (hE1.now (fun _ _ hh => hh) (.head _) h)) (fun u48 Wu48 hU48 => ?_)
                refine w_st (B' := _) (L' := Wu48 ++ (W47 ++ [(sgb, cel [str [43], str [45], str [42], str [47], str [61, 61], str [33, 61], str [60], str [60, 61], str [62], str [62, 61]] 9), (t1b, cel [.int .u8 (op : Nat), .int .i64 at_, str nm, .slice (some ⟨b0, o0, none⟩) ks.length kc] 24)])) (fun w h => h) ?_
                refine w_appT (L := [(sgb, cel [str [43], str [45], str [42], str [47], str [61, 61], str [33, 61], str [60], str [60, 61], str [62], str [62, 61]] 9), (t1b, cel [.int .u8 (op : Nat), .int .i64 at_, str nm, .slice (some ⟨b0, o0, none⟩) ks.length kc] 24)]) slt55 rfl hO47 rfl hU48 (by first | omega | (simp only [List.length_append, List.length_cons, List.length_nil] at *; omega)) (by decide) (fun v49 W49 hO49 => ?_)
                refine w_asg (v := v49) rfl ?_; refine w_nil ?_; refine k_on ?_; refine c_ret ?_
                refine r_one (v := v49) rfl rfl rfl ?_
                exact fun w' hw => ⟨_, OwnS.eq hO49 (by first | (rw [heq]; done) | (rw [heq]; rfl) | (rw [heq]; simp; done)), St.made (A := []) (hw.drop (List.sublist_append_left _ _))⟩
            · refine w_skip rfl rfl (bF h38) ?_; refine w_skip rfl rfl (bF h38) ?_; refine w_skip rfl rfl (bF h38) ?_
              refine w_skip rfl rfl (bF h38) ?_; refine w_skip rfl rfl (bF h38) ?_; refine w_skip rfl rfl (bF h38) ?_
              refine w_skip rfl rfl (bF h38) ?_; refine w_skip rfl rfl (bF h38) ?_; refine w_r (v := .bool _) (fun _ => R_pickF (bF h38) rfl) rfl rfl ?_
              refine w_asg (v := .bool _) rfl ?_; refine w_nil ?_; refine k_on ?_; refine c_seq ?_; refine c_region ?_; refine w_fa fa24_0 rfl ?_; refine w_load z5 rfl (fun _ h => by first | exact cel_mem (b := t1b) (cs := [.int .u8 (op : Nat), .int .i64 at_, str nm, .slice ka ks.length kc]) (T := 24) (by simp) rfl h | exact cel_mem (b := t1b) (cs := [.int .u8 (op : Nat), .int .i64 at_, str nm, .slice (some ⟨b0, o0, none⟩) ks.length kc]) (T := 24) (by simp) rfl h) ?_
              refine w_r (fun _ => R_lt rfl rfl) rfl rfl ?_; refine w_move (v := .bool _) rfl ?_
              refine w_splitD (t := 78) rfl (fun h50 => ?_) (fun h50 => ?_)
              · refine w_want rfl rfl (bT h50) ?_; refine w_fa fa24_3 rfl ?_; refine w_want rfl rfl (bT h50) ?_
                refine w_load z22 rfl (fun _ h => by first | exact cel_mem (b := t1b) (cs := [.int .u8 (op : Nat), .int .i64 at_, str nm, .slice ka ks.length kc]) (T := 24) (by simp) rfl h | exact cel_mem (b := t1b) (cs := [.int .u8 (op : Nat), .int .i64 at_, str nm, .slice (some ⟨b0, o0, none⟩) ks.length kc]) (T := 24) (by simp) rfl h) ?_
                refine w_want rfl rfl (bT h50) ?_; refine w_r (fun _ => R_iaN (i := 1) sl22 rfl rfl (by first | omega | decide)) rfl rfl ?_
                refine w_want rfl rfl (bT h50) ?_; refine w_fa fa24_0 rfl ?_; refine w_want rfl rfl (bT h50) ?_
                refine w_load (v := .int .u8 (x1.op : Nat)) z5 rfl (fun w h => hA1.cell (fun _ _ hh => hh) (.head _) h 0 _ hop1) ?_
                refine w_want rfl rfl (bT h50) ?_; refine w_call (fun w => R_call Tryz.func72 rfl rfl rfl) rfl rfl (fun w h => rrank_spec _ w) ?_
                refine w_want rfl rfl (bT h50) ?_; refine w_move (v := .int _ _) rfl ?_; refine w_want rfl rfl (bT h50) ?_
                refine w_r (fun _ => R_le rfl rfl) rfl rfl ?_; refine w_r (v := .bool _) (fun _ => R_pickT (bT h50) rfl) rfl rfl ?_; refine w_asg (v := .bool _) rfl ?_
                refine w_nil ?_; refine k_on ?_; refine c_seq ?_; refine c_region ?_; refine w_fa fa24_3 rfl ?_; refine w_load z22 rfl (fun _ h => by first | exact cel_mem (b := t1b) (cs := [.int .u8 (op : Nat), .int .i64 at_, str nm, .slice ka ks.length kc]) (T := 24) (by simp) rfl h | exact cel_mem (b := t1b) (cs := [.int .u8 (op : Nat), .int .i64 at_, str nm, .slice (some ⟨b0, o0, none⟩) ks.length kc]) (T := 24) (by simp) rfl h) ?_
                refine w_r (fun _ => R_iaN (i := 0) sl22 rfl rfl (by first | omega | decide)) rfl rfl ?_
                refine w_loadC (l := cs0) z24 rfl hcl0 (fun w h j v hj => hA0.cell (fun _ _ hh => hh) (.head _) h j v hj) ?_
                refine w_move (v := .bool _) rfl ?_
                refine w_callW (R := fun u W => OwnT u (kidT x0.op (exT x0) (low op)) W) (fun w => R_call Tryz.func71 rfl rfl rfl) rfl rfl (fun w h => rkid_spec n ih hN (low op) x0 _ N w _ (by first | (rw [← low_left h6 h15, decide_eq_true (show op < 10 by omega), Bool.true_and]; exact decide_eq_decide.2 (by omega)) | (rw [← low_left h6 h15, decide_eq_false (show ¬ op < 10 by omega)]; rfl)) (by omega) (penOk_of ho0) (hE0.now (fun _ _ hh => hh) (.head _) h)) (fun u51 Wu51 hU51 => ?_)
                refine w_asg (v := u51) rfl ?_; refine w_nil ?_; refine k_on ?_; refine c_seq ?_; refine c_region ?_; refine w_move (v := u51) rfl ?_; refine w_move (v := .slice _ _ _) rfl ?_
                refine w_fa fa24_0 rfl ?_; refine w_load z5 rfl (fun _ h => by first | exact cel_mem (b := t1b) (cs := [.int .u8 (op : Nat), .int .i64 at_, str nm, .slice ka ks.length kc]) (T := 24) (by simp) rfl h | exact cel_mem (b := t1b) (cs := [.int .u8 (op : Nat), .int .i64 at_, str nm, .slice (some ⟨b0, o0, none⟩) ks.length kc]) (T := 24) (by simp) rfl h) ?_
                refine w_r (v := .int .u8 ((op - 6 : Nat) : Int)) (fun _ => R_sub8 (n := op) (m := 6) h6 (by omega) rfl rfl) rfl rfl ?_
                refine w_r (fun _ => R_iaN (i := (op - 6)) sl55 rfl rfl (by first | omega | decide)) rfl rfl ?_
                refine w_load (v := str (signs op)) z9 rfl (fun w h => cel_mem (b := sgb) (T := 9) (by simp) (signsL h6 h15) h) ?_
                refine w_bslice slt55 (by decide) rfl rfl (fun b52 gb52 ub52 => ?_)
                refine w_st (B' := _) (L' := [(b52, cel (([signs op] : List Str).map str) 9)] ++ (Wu51 ++ [(sgb, cel [str [43], str [45], str [42], str [47], str [61, 61], str [33, 61], str [60], str [60, 61], str [62], str [62, 61]] 9), (t1b, cel [.int .u8 (op : Nat), .int .i64 at_, str nm, .slice (some ⟨b0, o0, none⟩) ks.length kc] 24)])) (fun w h => h) ?_
                refine w_appT (L := [(sgb, cel [str [43], str [45], str [42], str [47], str [61, 61], str [33, 61], str [60], str [60, 61], str [62], str [62, 61]] 9), (t1b, cel [.int .u8 (op : Nat), .int .i64 at_, str nm, .slice (some ⟨b0, o0, none⟩) ks.length kc] 24)]) (W2 := [(b52, cel (([signs op] : List Str).map str) 9)]) slt55 rfl hU51 rfl (OwnS.litT b52 [signs op]) (by first | omega | (simp only [List.length_append, List.length_cons, List.length_nil] at *; omega)) (by decide) (fun v53 W53 hO53 => ?_)
                refine w_asg (v := v53) rfl ?_; refine w_nil ?_; refine k_on ?_; refine c_seq ?_; refine c_region ?_; refine w_move (v := v53) rfl ?_; refine w_fa fa24_3 rfl ?_; refine w_load z22 rfl (fun _ h => by first | exact cel_mem (b := t1b) (cs := [.int .u8 (op : Nat), .int .i64 at_, str nm, .slice ka ks.length kc]) (T := 24) (by simp) rfl h | exact cel_mem (b := t1b) (cs := [.int .u8 (op : Nat), .int .i64 at_, str nm, .slice (some ⟨b0, o0, none⟩) ks.length kc]) (T := 24) (by simp) rfl h) ?_
                refine w_r (fun _ => R_iaN (i := 1) sl22 rfl rfl (by first | omega | decide)) rfl rfl ?_
                refine w_loadC (l := cs1) z24 rfl hcl1 (fun w h j v hj => hA1.cell (fun _ _ hh => hh) (.head _) h j v hj) ?_
                refine w_move (v := .bool _) rfl ?_
                refine w_callW (R := fun u W => OwnT u (kidT x1.op (exT x1) (min (low op + 1) (low op * 9))) W) (fun w => R_call Tryz.func71 rfl rfl rfl) rfl rfl (fun w h => rkid_spec n ih hN (min (low op + 1) (low op * 9)) x1 _ N w _ (by first | (rw [← low_right h6 h15, decide_eq_true (show op < 10 by omega), Bool.true_and]; exact decide_eq_decide.2 (by omega)) | (rw [← low_right h6 h15, decide_eq_false (show ¬ op < 10 by omega)]; rfl)) (by omega) (penOk_of ho1) (hE1.now (fun _ _ hh => hh) (.head _) h)) (fun u54 Wu54 hU54 => ?_)
                refine w_st (B' := _) (L' := Wu54 ++ (W53 ++ [(sgb, cel [str [43], str [45], str [42], str [47], str [61, 61], str [33, 61], str [60], str [60, 61], str [62], str [62, 61]] 9), (t1b, cel [.int .u8 (op : Nat), .int .i64 at_, str nm, .slice (some ⟨b0, o0, none⟩) ks.length kc] 24)])) (fun w h => h) ?_
                refine w_appT (L := [(sgb, cel [str [43], str [45], str [42], str [47], str [61, 61], str [33, 61], str [60], str [60, 61], str [62], str [62, 61]] 9), (t1b, cel [.int .u8 (op : Nat), .int .i64 at_, str nm, .slice (some ⟨b0, o0, none⟩) ks.length kc] 24)]) slt55 rfl hO53 rfl hU54 (by first | omega | (simp only [List.length_append, List.length_cons, List.length_nil] at *; omega)) (by decide) (fun v55 W55 hO55 => ?_)
                refine w_asg (v := v55) rfl ?_; refine w_nil ?_; refine k_on ?_; refine c_ret ?_
                refine r_one (v := v55) rfl rfl rfl ?_
                exact fun w' hw => ⟨_, OwnS.eq hO55 (by first | (rw [heq]; done) | (rw [heq]; rfl) | (rw [heq]; simp; done)), St.made (A := []) (hw.drop (List.sublist_append_left _ _))⟩
              · refine w_skip rfl rfl (bF h50) ?_; refine w_skip rfl rfl (bF h50) ?_; refine w_skip rfl rfl (bF h50) ?_
                refine w_skip rfl rfl (bF h50) ?_; refine w_skip rfl rfl (bF h50) ?_; refine w_skip rfl rfl (bF h50) ?_
                refine w_skip rfl rfl (bF h50) ?_; refine w_skip rfl rfl (bF h50) ?_; refine w_r (v := .bool _) (fun _ => R_pickF (bF h50) rfl) rfl rfl ?_
                refine w_asg (v := .bool _) rfl ?_; refine w_nil ?_; refine k_on ?_; refine c_seq ?_; refine c_region ?_; refine w_fa fa24_3 rfl ?_; refine w_load z22 rfl (fun _ h => by first | exact cel_mem (b := t1b) (cs := [.int .u8 (op : Nat), .int .i64 at_, str nm, .slice ka ks.length kc]) (T := 24) (by simp) rfl h | exact cel_mem (b := t1b) (cs := [.int .u8 (op : Nat), .int .i64 at_, str nm, .slice (some ⟨b0, o0, none⟩) ks.length kc]) (T := 24) (by simp) rfl h) ?_
                refine w_r (fun _ => R_iaN (i := 0) sl22 rfl rfl (by first | omega | decide)) rfl rfl ?_
                refine w_loadC (l := cs0) z24 rfl hcl0 (fun w h j v hj => hA0.cell (fun _ _ hh => hh) (.head _) h j v hj) ?_
                refine w_move (v := .bool _) rfl ?_
                refine w_callW (R := fun u W => OwnT u (kidT x0.op (exT x0) (low op)) W) (fun w => R_call Tryz.func71 rfl rfl rfl) rfl rfl (fun w h => rkid_spec n ih hN (low op) x0 _ N w _ (by first | (rw [← low_left h6 h15, decide_eq_true (show op < 10 by omega), Bool.true_and]; exact decide_eq_decide.2 (by omega)) | (rw [← low_left h6 h15, decide_eq_false (show ¬ op < 10 by omega)]; rfl)) (by omega) (penOk_of ho0) (hE0.now (fun _ _ hh => hh) (.head _) h)) (fun u56 Wu56 hU56 => ?_)
                refine w_asg (v := u56) rfl ?_; refine w_nil ?_; refine k_on ?_; refine c_seq ?_; refine c_region ?_; refine w_move (v := u56) rfl ?_; refine w_move (v := .slice _ _ _) rfl ?_
                refine w_fa fa24_0 rfl ?_; refine w_load z5 rfl (fun _ h => by first | exact cel_mem (b := t1b) (cs := [.int .u8 (op : Nat), .int .i64 at_, str nm, .slice ka ks.length kc]) (T := 24) (by simp) rfl h | exact cel_mem (b := t1b) (cs := [.int .u8 (op : Nat), .int .i64 at_, str nm, .slice (some ⟨b0, o0, none⟩) ks.length kc]) (T := 24) (by simp) rfl h) ?_
                refine w_r (v := .int .u8 ((op - 6 : Nat) : Int)) (fun _ => R_sub8 (n := op) (m := 6) h6 (by omega) rfl rfl) rfl rfl ?_
                refine w_r (fun _ => R_iaN (i := (op - 6)) sl55 rfl rfl (by first | omega | decide)) rfl rfl ?_
                refine w_load (v := str (signs op)) z9 rfl (fun w h => cel_mem (b := sgb) (T := 9) (by simp) (signsL h6 h15) h) ?_
                refine w_bslice slt55 (by decide) rfl rfl (fun b57 gb57 ub57 => ?_)
                refine w_st (B' := _) (L' := [(b57, cel (([signs op] : List Str).map str) 9)] ++ (Wu56 ++ [(sgb, cel [str [43], str [45], str [42], str [47], str [61, 61], str [33, 61], str [60], str [60, 61], str [62], str [62, 61]] 9), (t1b, cel [.int .u8 (op : Nat), .int .i64 at_, str nm, .slice (some ⟨b0, o0, none⟩) ks.length kc] 24)])) (fun w h => h) ?_
                refine w_appT (L := [(sgb, cel [str [43], str [45], str [42], str [47], str [61, 61], str [33, 61], str [60], str [60, 61], str [62], str [62, 61]] 9), (t1b, cel [.int .u8 (op : Nat), .int .i64 at_, str nm, .slice (some ⟨b0, o0, none⟩) ks.length kc] 24)]) (W2 := [(b57, cel (([signs op] : List Str).map str) 9)]) slt55 rfl hU56 rfl (OwnS.litT b57 [signs op]) (by first | omega | (simp only [List.length_append, List.length_cons, List.length_nil] at *; omega)) (by decide) (fun v58 W58 hO58 => ?_)
                refine w_asg (v := v58) rfl ?_; refine w_nil ?_; refine k_on ?_; refine c_seq ?_; refine c_region ?_; refine w_move (v := v58) rfl ?_; refine w_fa fa24_3 rfl ?_; refine w_load z22 rfl (fun _ h => by first | exact cel_mem (b := t1b) (cs := [.int .u8 (op : Nat), .int .i64 at_, str nm, .slice ka ks.length kc]) (T := 24) (by simp) rfl h | exact cel_mem (b := t1b) (cs := [.int .u8 (op : Nat), .int .i64 at_, str nm, .slice (some ⟨b0, o0, none⟩) ks.length kc]) (T := 24) (by simp) rfl h) ?_
                refine w_r (fun _ => R_iaN (i := 1) sl22 rfl rfl (by first | omega | decide)) rfl rfl ?_
                refine w_loadC (l := cs1) z24 rfl hcl1 (fun w h j v hj => hA1.cell (fun _ _ hh => hh) (.head _) h j v hj) ?_
                refine w_move (v := .bool _) rfl ?_
                refine w_callW (R := fun u W => OwnT u (kidT x1.op (exT x1) (min (low op + 1) (low op * 9))) W) (fun w => R_call Tryz.func71 rfl rfl rfl) rfl rfl (fun w h => rkid_spec n ih hN (min (low op + 1) (low op * 9)) x1 _ N w _ (by first | (rw [← low_right h6 h15, decide_eq_true (show op < 10 by omega), Bool.true_and]; exact decide_eq_decide.2 (by omega)) | (rw [← low_right h6 h15, decide_eq_false (show ¬ op < 10 by omega)]; rfl)) (by omega) (penOk_of ho1) (hE1.now (fun _ _ hh => hh) (.head _) h)) (fun u59 Wu59 hU59 => ?_)
                refine w_st (B' := _) (L' := Wu59 ++ (W58 ++ [(sgb, cel [str [43], str [45], str [42], str [47], str [61, 61], str [33, 61], str [60], str [60, 61], str [62], str [62, 61]] 9), (t1b, cel [.int .u8 (op : Nat), .int .i64 at_, str nm, .slice (some ⟨b0, o0, none⟩) ks.length kc] 24)])) (fun w h => h) ?_
                refine w_appT (L := [(sgb, cel [str [43], str [45], str [42], str [47], str [61, 61], str [33, 61], str [60], str [60, 61], str [62], str [62, 61]] 9), (t1b, cel [.int .u8 (op : Nat), .int .i64 at_, str nm, .slice (some ⟨b0, o0, none⟩) ks.length kc] 24)]) slt55 rfl hO58 rfl hU59 (by first | omega | (simp only [List.length_append, List.length_cons, List.length_nil] at *; omega)) (by decide) (fun v60 W60 hO60 => ?_)
                refine w_asg (v := v60) rfl ?_; refine w_nil ?_; refine k_on ?_; refine c_ret ?_
                refine r_one (v := v60) rfl rfl rfl ?_
                exact fun w' hw => ⟨_, OwnS.eq hO60 (by first | (rw [heq]; done) | (rw [heq]; rfl) | (rw [heq]; simp; done)), St.made (A := []) (hw.drop (List.sublist_append_left _ _))⟩


theorem rexprT_all : ∀ n : Nat, n ≤ 10000000 → RExprT n
  | 0, _ => fun _ _ _ _ h => absurd h (Nat.not_lt_zero _)
  | n + 1, h => rexprT_step n (rexprT_all n (by omega)) (by omega)
theorem rexprT_ok : RExprT 10000000 := rexprT_all _ (Nat.le_refl _)
theorem rrow_ok (l : List Ex) (a : Option Addr) (c : Nat) (N : Nat → Prop) (w : World) (hl : exsW l < 10000000) (hll : l.length ≤ 10000000) (hok : exsOk l = true) (hm : exsM w N l a 0) : Ret Tryz.prog 70 #[.slice a l.length c] w (Tells (rowT (exsT l)) w) :=
  rrow_spec _ rexprT_ok (Nat.le_refl _) l a c N w hl hll hok hm

set_option maxRecDepth 100000 in
set_option maxHeartbeats 1000000 in
theorem rtext_spec (ts : List Str) (v : Value) (W : Heap) (w : World) (hO : OwnT v ts W) (hmem : ∀ p ∈ W, w.heap[p.1]? = some p.2) (hl : ts.length ≤ 1000000000) (hb : (textT ts).length ≤ 1000000000) :
    Ret Tryz.prog 29 #[v] w (fun v w' => v = str (textT ts) ∧ Ext w w') := by
  obtain ⟨a, c, rfl⟩ := hO.slice
  refine enter (S := No) (l := [_]) (L := []) 46 Tryz.func29 rfl rfl rfl (St.start w No) ?_
  refine c_seq ?_; refine c_region ?_; refine w_asg (v := str _) rfl ?_; refine w_nil ?_; refine k_on ?_; refine c_seq ?_; refine c_region ?_; refine w_asg (v := str _) rfl ?_
  refine w_nil ?_; refine k_on ?_; refine c_seq ?_; refine c_seq ?_; refine c_region ?_; refine w_asg (v := .int _ _) rfl ?_; refine w_nil ?_; refine k_on ?_; refine c_block ?_
  refine c_loop (fun m e B L => ∃ (k : Nat), e 0 = .slice a ts.length c ∧ e 3 = str (textTo ts k) ∧ e 4 = .int .i64 (k : Nat) ∧ B = [(w, No)] ∧ L = [] ∧ k ≤ ts.length ∧ m = ts.length - k) _ ⟨0, rfl, (congrArg str (textTo_zero ts).symm), rfl, rfl, rfl, Nat.zero_le _, rfl⟩ ?_
  rintro m e B L ⟨k, e0_1, e3_1, e4_1, rfl, rfl, hk, rfl⟩
  refine c_seq ?_; refine c_seq ?_; refine c_region ?_; refine w_move (v := .int _ _) e4_1 ?_; refine w_move (v := .slice _ _ _) e0_1 ?_; refine w_r (fun _ => R_len sl55 rfl) rfl rfl ?_
  refine w_r (fun _ => R_lt rfl rfl) rfl rfl ?_; refine w_nil ?_; refine k_on ?_
  refine c_condD rfl (fun h1 => ?_) (fun h1 => ?_)
  · have hlt : k < ts.length := (by omega); obtain ⟨x, hxk⟩ : ∃ x, ts[k]? = some x := ⟨_, List.getElem?_eq_getElem hlt⟩; obtain ⟨b1, rfl, hc⟩ := Own.cellw hO hlt; have hcx : w.cell? ⟨b1, 0 + k * 1, none⟩ = some (str x) := (by have := hc w hmem k (str x) (by rw [List.getElem?_map, hxk]; rfl); simpa using this); have hnx := textTo_next hxk; have hle := textTo_le_all (xs := ts) (k := k + 1) (by omega); have hle2 := congrArg List.length hnx; simp only [List.length_append] at hle2
    refine c_skip ?_; refine k_on ?_; refine c_seq ?_; refine c_block ?_; refine c_seq ?_; refine c_region ?_; refine w_move (v := str _) e3_1 ?_; refine w_move (v := .slice _ _ _) e0_1 ?_
    refine w_move (v := .int _ _) e4_1 ?_; refine w_r (fun _ => R_iaN (i := k) sl55 rfl rfl (by first | omega | decide)) rfl rfl ?_; refine w_load z9 rfl (fun _ h => cel_old (.head _) hcx (fun x => x) h) ?_
    refine w_r (fun _ => R_cat rfl rfl (by (try simp only [List.length_append, List.length_cons, List.length_nil]); omega)) rfl rfl ?_; refine w_asg (v := str _) rfl ?_
    refine w_nil ?_; refine k_on ?_; refine c_seq ?_; refine c_region ?_; refine w_move (v := .slice _ _ _) e0_1 ?_; refine w_move (v := .int _ _) e4_1 ?_; refine w_r (fun _ => R_iaN (i := k) sl55 rfl rfl (by first | omega | decide)) rfl rfl ?_
    refine w_load z9 rfl (fun _ h => cel_old (.head _) hcx (fun x => x) h) ?_; refine w_r (fun _ => R_seq rfl rfl) rfl rfl ?_; refine w_move (v := .bool _) rfl ?_
    refine w_splitD (t := 22) rfl (fun h2 => ?_) (fun h2 => ?_)
    · refine w_skip rfl rfl (bT h2) ?_; refine w_skip rfl rfl (bT h2) ?_; refine w_skip rfl rfl (bT h2) ?_
      refine w_skip rfl rfl (bT h2) ?_; refine w_skip rfl rfl (bT h2) ?_; refine w_r (v := .bool _) (fun _ => R_pickT (bT h2) rfl) rfl rfl ?_
      refine w_move (v := .bool _) rfl ?_; refine w_skip rfl rfl rfl ?_; refine w_skip rfl rfl rfl ?_; refine w_skip rfl rfl rfl ?_; refine w_skip rfl rfl rfl ?_; refine w_skip rfl rfl rfl ?_
      refine w_r (v := .bool _) (fun _ => R_pickT rfl rfl) rfl rfl ?_; refine w_nil ?_; refine k_on ?_; refine c_condT rfl ?_; refine c_region ?_; refine w_move (v := str _) rfl ?_
      refine w_r (fun _ => R_cat rfl rfl (by (try simp only [List.length_append, List.length_cons, List.length_nil]); omega)) rfl rfl ?_; refine w_asg (v := str _) rfl ?_
      refine w_nil ?_; refine b_on (k_on ?_); refine c_region ?_; refine w_move (v := .int _ _) e4_1 ?_; refine w_r (fun _ => R_addi rfl rfl (by omega)) rfl rfl ?_; refine w_asg (v := .int _ _) rfl ?_
      refine w_nil ?_
      exact k_again _ (by omega) ⟨k + 1, e0_1, (congrArg str (by rw [hnx, endT]; first | (rw [if_pos (by simp_all [brk])]; simp; done) | (rw [if_neg (by simp_all [brk]), if_pos (by omega)]; simp; done) | (rw [if_neg (by simp_all [brk]), if_neg (by omega)]; simp; done))), rfl, rfl, rfl, by omega, rfl⟩
    · refine w_want rfl rfl (bF h2) ?_; refine w_move (v := .slice _ _ _) e0_1 ?_; refine w_want rfl rfl (bF h2) ?_
      refine w_move (v := .int _ _) e4_1 ?_; refine w_want rfl rfl (bF h2) ?_; refine w_r (fun _ => R_iaN (i := k) sl55 rfl rfl (by first | omega | decide)) rfl rfl ?_
      refine w_want rfl rfl (bF h2) ?_; refine w_load z9 rfl (fun _ h => cel_old (.head _) hcx (fun x => x) h) ?_; refine w_want rfl rfl (bF h2) ?_
      refine w_r (fun _ => R_seq rfl rfl) rfl rfl ?_; refine w_r (v := .bool _) (fun _ => R_pickF (bF h2) rfl) rfl rfl ?_; refine w_move (v := .bool _) rfl ?_
      refine w_splitD (t := 29) rfl (fun h3 => ?_) (fun h3 => ?_)
      · refine w_skip rfl rfl (bT h3) ?_; refine w_skip rfl rfl (bT h3) ?_; refine w_skip rfl rfl (bT h3) ?_
        refine w_skip rfl rfl (bT h3) ?_; refine w_skip rfl rfl (bT h3) ?_; refine w_r (v := .bool _) (fun _ => R_pickT (bT h3) rfl) rfl rfl ?_
        refine w_nil ?_; refine k_on ?_; refine c_condT rfl ?_; refine c_region ?_; refine w_move (v := str _) rfl ?_; refine w_r (fun _ => R_cat rfl rfl (by (try simp only [List.length_append, List.length_cons, List.length_nil]); omega)) rfl rfl ?_
        refine w_asg (v := str _) rfl ?_; refine w_nil ?_; refine b_on (k_on ?_); refine c_region ?_; refine w_move (v := .int _ _) e4_1 ?_; refine w_r (fun _ => R_addi rfl rfl (by omega)) rfl rfl ?_
        refine w_asg (v := .int _ _) rfl ?_; refine w_nil ?_
        exact k_again _ (by omega) ⟨k + 1, e0_1, (congrArg str (by rw [hnx, endT]; first | (rw [if_pos (by simp_all [brk])]; simp; done) | (rw [if_neg (by simp_all [brk]), if_pos (by omega)]; simp; done) | (rw [if_neg (by simp_all [brk]), if_neg (by omega)]; simp; done))), rfl, rfl, rfl, by omega, rfl⟩
      · refine w_want rfl rfl (bF h3) ?_; refine w_move (v := .slice _ _ _) e0_1 ?_; refine w_want rfl rfl (bF h3) ?_
        refine w_move (v := .int _ _) e4_1 ?_; refine w_want rfl rfl (bF h3) ?_; refine w_r (fun _ => R_iaN (i := k) sl55 rfl rfl (by first | omega | decide)) rfl rfl ?_
        refine w_want rfl rfl (bF h3) ?_; refine w_load z9 rfl (fun _ h => cel_old (.head _) hcx (fun x => x) h) ?_; refine w_want rfl rfl (bF h3) ?_
        refine w_r (fun _ => R_seq rfl rfl) rfl rfl ?_; refine w_r (v := .bool _) (fun _ => R_pickF (bF h3) rfl) rfl rfl ?_; refine w_nil ?_
        refine k_on ?_
        refine c_condD rfl (fun h4 => ?_) (fun h4 => ?_)
        · refine c_region ?_; refine w_move (v := str _) rfl ?_; refine w_r (fun _ => R_cat rfl rfl (by (try simp only [List.length_append, List.length_cons, List.length_nil]); omega)) rfl rfl ?_
          refine w_asg (v := str _) rfl ?_; refine w_nil ?_; refine b_on (k_on ?_); refine c_region ?_; refine w_move (v := .int _ _) e4_1 ?_; refine w_r (fun _ => R_addi rfl rfl (by omega)) rfl rfl ?_
          refine w_asg (v := .int _ _) rfl ?_; refine w_nil ?_
          exact k_again _ (by omega) ⟨k + 1, e0_1, (congrArg str (by rw [hnx, endT]; first | (rw [if_pos (by simp_all [brk])]; simp; done) | (rw [if_neg (by simp_all [brk]), if_pos (by omega)]; simp; done) | (rw [if_neg (by simp_all [brk]), if_neg (by omega)]; simp; done))), rfl, rfl, rfl, by omega, rfl⟩
        · refine c_seq ?_; refine c_region ?_; refine w_move (v := .int _ _) e4_1 ?_; refine w_r (fun _ => R_addi rfl rfl (by omega)) rfl rfl ?_; refine w_move (v := .slice _ _ _) e0_1 ?_
          refine w_r (fun _ => R_len sl55 rfl) rfl rfl ?_; refine w_r (fun _ => R_lt rfl rfl) rfl rfl ?_; refine w_nil ?_; refine k_on ?_
          refine c_condD rfl (fun h5 => ?_) (fun h5 => ?_)
          · refine c_region ?_; refine w_move (v := str _) rfl ?_; refine w_r (fun _ => R_cat rfl rfl (by (try simp only [List.length_append, List.length_cons, List.length_nil]); omega)) rfl rfl ?_
            refine w_asg (v := str _) rfl ?_; refine w_nil ?_; refine b_on (k_on ?_); refine c_region ?_; refine w_move (v := .int _ _) e4_1 ?_; refine w_r (fun _ => R_addi rfl rfl (by omega)) rfl rfl ?_
            refine w_asg (v := .int _ _) rfl ?_; refine w_nil ?_
            exact k_again _ (by omega) ⟨k + 1, e0_1, (congrArg str (by rw [hnx, endT]; first | (rw [if_pos (by simp_all [brk])]; simp; done) | (rw [if_neg (by simp_all [brk]), if_pos (by omega)]; simp; done) | (rw [if_neg (by simp_all [brk]), if_neg (by omega)]; simp; done))), rfl, rfl, rfl, by omega, rfl⟩
          · refine c_skip ?_; refine b_on (k_on ?_); refine c_region ?_; refine w_move (v := .int _ _) e4_1 ?_; refine w_r (fun _ => R_addi rfl rfl (by omega)) rfl rfl ?_; refine w_asg (v := .int _ _) rfl ?_
            refine w_nil ?_
            exact k_again _ (by omega) ⟨k + 1, e0_1, (congrArg str (by rw [hnx, endT]; first | (rw [if_pos (by simp_all [brk])]; simp; done) | (rw [if_neg (by simp_all [brk]), if_pos (by omega)]; simp; done) | (rw [if_neg (by simp_all [brk]), if_neg (by omega)]; simp; done))), rfl, rfl, rfl, by omega, rfl⟩
  · refine c_exit ?_; refine k_exit (k_exit (b_here rfl (k_on ?_))); refine c_seq ?_; refine c_region ?_; refine w_move (v := str _) e3_1 ?_; refine w_asg (v := str _) rfl ?_
    refine w_nil ?_; refine k_on ?_; refine c_ret ?_
    refine r_one (v := str _) rfl rfl rfl ?_
    exact fun w' hw => ⟨by rw [show k = ts.length by omega]; rfl, hw.fr _ (.head _)⟩

set_option maxRecDepth 100000 in
set_option maxHeartbeats 1000000 in
theorem rWriteExpr_spec (x : Ex) (cs : List Value) (N : Nat → Prop) (w : World) (hx : exW x < 10000000) (hm : exM w N x cs) :
    Ret Tryz.prog 8 #[.agg cs.toArray] w (fun v w' => v = .tuple #[str (if exOk x then textT (exT x) else []), .int .i64 (if exOk x then 0 else 120)] ∧ Ext w w') := by
  obtain ⟨op, at_, nm, ks⟩ := x
  have hm2 := hm
  unfold exM at hm2
  obtain ⟨ka, kc, rfl, hkc, hks⟩ := hm2
  have hx2 := hx
  unfold exW at hx2
  have hl1 := exT_lenB (x := (Ex.mk op at_ nm ks)) (by omega)
  have hl2 : (textT (exT (Ex.mk op at_ nm ks))).length ≤ 1000000000 := by have h1 := textT_tb (exT (Ex.mk op at_ nm ks)); have h2 := exT_tb (Ex.mk op at_ nm ks); omega
  refine enter (S := No) (l := [_]) (L := []) 10 Tryz.func8 rfl rfl rfl (St.start w No) ?_
  refine c_seq ?_; refine c_region ?_
  refine w_boxA rfl (fun t1b gt1b ut1b => ?_)
  refine w_asg (v := str _) rfl ?_; refine w_asg (v := .int _ _) rfl ?_; refine w_nil ?_; refine k_on ?_; refine c_seq ?_; refine c_seq ?_; refine c_region ?_; refine w_loadA z24 rfl (fun _ h => h.at_ 0 rfl) rfl ?_
  refine w_call (fun w => R_call Tryz.func28 rfl rfl rfl) rfl rfl (fun w h => rexpr_ok _ _ N w hx (hm.now (fun _ _ hh => hh) (.head _) h)) ?_; refine w_r (fun _ => R_not rfl) rfl rfl ?_
  refine w_nil ?_; refine k_on ?_
  refine c_condN rfl (fun h2 => ?_) (fun h2 => ?_)
  · refine c_seq ?_; refine c_region ?_; refine w_asg (v := str _) rfl ?_; refine w_asg (v := .int _ _) rfl ?_; refine w_nil ?_; refine k_on ?_; refine c_ret ?_; refine k_ret (?_)
    refine r_two (v := str _) (v2 := .int _ _) rfl rfl rfl rfl rfl ?_
    exact fun w' hw => ⟨by simp_all, hw.fr _ (.head _)⟩
  · refine c_skip ?_; refine k_on ?_; refine c_seq ?_; refine c_region ?_; refine w_loadA z24 rfl (fun _ h => h.at_ 0 rfl) rfl ?_
    refine w_callW (R := fun u W => OwnT u (exT (Ex.mk op at_ nm ks)) W) (fun w => R_call Tryz.func30 rfl rfl rfl) rfl rfl (fun w h => rexprT_ok _ _ N w hx (penOk_of (by simpa using h2)) (hm.now (fun _ _ hh => hh) (.head _) h)) (fun u3 Wu3 hU3 => ?_)
    refine w_call (fun w => R_call Tryz.func29 rfl rfl rfl) rfl rfl (fun w h => rtext_spec (exT (Ex.mk op at_ nm ks)) _ _ w hU3 (fun p hp => h.own p (List.mem_append_left _ hp)) (by omega) hl2) ?_
    refine w_asg (v := str _) rfl ?_; refine w_asg (v := .int _ _) rfl ?_; refine w_nil ?_; refine k_on ?_; refine c_ret ?_
    refine r_two (v := str _) (v2 := .int _ _) rfl rfl rfl rfl rfl ?_
    exact fun w' hw => ⟨by simp_all, hw.fr _ (.head _)⟩
end Go.Proofs.YtcmcdgkjipnfnaaGreatDoor
end
