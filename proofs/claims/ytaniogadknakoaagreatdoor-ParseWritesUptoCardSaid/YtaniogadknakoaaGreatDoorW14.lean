/- Layer 13, ParseWrites. Part 14 of 15. -/
import Derived.Test.YtaniogadknakoaaGreatDoorW13
import Derived.ChangeArms
import Derived.OpenShut
set_option maxRecDepth 100000
set_option maxHeartbeats 16000000
section
namespace Go.Prs
open Go.Tok Go.Tree
def kd (x : Str) : Nat := (tokAt x 0).1
def tk (x : Str) : Tk := (kd x, x, 0)
def R (xs : List Str) : List Tk := xs.map tk
theorem R_cons (x : Str) (r : List Str) : R (x :: r) = tk x :: R r := rfl
theorem isW_yes {c : Str} {r : List Str} (h : kd c ≠ 2) : isW c (R (c :: r)) = true := by
  rw [R_cons]
  simp [isW, tk, h]
theorem isW_hd {c : Str} {r : List Str} (h : r.head? ≠ some c) : isW c (R r) = false := by
  cases r with
  | nil => rfl
  | cons y r =>
    have : ¬ y = c := fun h2 => h (by rw [h2]; rfl)
    rw [R_cons]; simp [isW, tk, this]
theorem now_R (z : Nat) (x : Str) (r : List Str) : nowT z (R (x :: r)) = tk x := rfl
theorem kd_sign : ∀ c ∈ ([[45], [40], [41], [91], [93], [44], [43], [42], [47], [123], [125], [59], [61], [126], [58], [60], [62], [61, 61], [33, 61], [60, 61], [62, 61], [43, 61], [116, 97, 114, 103, 101, 116], [102, 111, 114], [105, 102], [105, 110], [101, 108, 115, 101], [105, 110, 116], [114, 101, 97, 108], [118, 101, 99, 116, 111, 114], [97, 114, 114, 97, 121], [108, 111, 119, 101, 114], [117, 112, 112, 101, 114], [100, 97, 116, 97], [116, 114, 97, 110, 115, 102, 111, 114, 109, 101, 100], [112, 97, 114, 97, 109, 101, 116, 101, 114, 115], [109, 111, 100, 101, 108], [103, 101, 110, 101, 114, 97, 116, 101, 100], [113, 117, 97, 110, 116, 105, 116, 105, 101, 115]] : List Str), kd c ≠ 2 := by decide +kernel
theorem isW_one1 {c : Str} {r : List Str} (h : c ∈ ([[45], [40], [41], [91], [93], [44], [43], [42], [47], [123], [125], [59], [61], [126], [58], [60], [62], [61, 61], [33, 61], [60, 61], [62, 61], [43, 61], [116, 97, 114, 103, 101, 116], [102, 111, 114], [105, 102], [105, 110], [101, 108, 115, 101], [105, 110, 116], [114, 101, 97, 108], [118, 101, 99, 116, 111, 114], [97, 114, 114, 97, 121], [108, 111, 119, 101, 114], [117, 112, 112, 101, 114], [100, 97, 116, 97], [116, 114, 97, 110, 115, 102, 111, 114, 109, 101, 100], [112, 97, 114, 97, 109, 101, 116, 101, 114, 115], [109, 111, 100, 101, 108], [103, 101, 110, 101, 114, 97, 116, 101, 100], [113, 117, 97, 110, 116, 105, 116, 105, 101, 115]] : List Str) := by decide) : isW c (R (c :: r)) = true := isW_yes (kd_sign c h)
theorem kd_good {k : Nat} {s : Str} (h : Go.Tok.Good (k, s, 0)) : k = kd s := by
  obtain ⟨s', k', e, hk, htk, htx⟩ := h
  simp only at htk htx
  have h1 := tok_le hk
  rw [htk] at h1
  simp only at h1
  have hc := Go.Tok.W.tok_cut (R := []) (.inl rfl) hk htk
  rw [← htx, List.append_nil] at hc
  unfold kd; rw [hc.1]
theorem kd_one {k : Nat} {s : Str} (h : oneB k s = true) : kd s = k := by
  have h2 := h
  unfold oneB at h
  simp only [Bool.and_eq_true, decide_eq_true_eq] at h
  obtain ⟨h0, h1⟩ := h
  split at h1
  · rename_i t e1
    simp only [Bool.and_eq_true, decide_eq_true_eq] at h1
    have hl : s.length ≤ 20000 := by
      rcases Nat.lt_or_ge 20000 s.length with h | h
      · rw [readP_long h] at h0; exact absurd h0 (by decide)
      · exact h
    have hS : (readS s).2.1 = 0 := by
      by_cases h2 : (readS s).2.1 = 0
      · exact h2
      · rw [readP_bad (by omega) h2] at h0; exact absurd h0 h2
    rw [readP_fine (by omega) hS] at e1
    have hc := chain_read hS
    simp only at e1
    have hg := chain_good hc t (by rw [e1]; exact .head _)
    have := kd_good (k := t.1) (s := t.2.1) (by obtain ⟨s', k', e', q1, q2, q3⟩ := hg; exact ⟨s', k', e', q1, q2, q3⟩)
    rw [h1.2] at this
    rw [← this]; exact h1.1
  · cases h1
theorem kd_name {s : Str} (h : nameOk s = true) : kd s = 1 := by
  unfold nameOk at h
  simp only [Bool.and_eq_true] at h
  exact kd_one h.1
theorem named_R {s : Str} {r : List Str} (h : nameOk s = true) : named (R (s :: r)) = true := by
  rw [R_cons]; simp [named, tk, kd_name h, h]
mutual
def hgt : Ex → Nat
  | .mk _ _ _ ks => hgts ks
def hgts : List Ex → Nat
  | [] => 0
  | e :: l => max (1 + hgt e) (hgts l)
end
theorem hgts_mem {x : Ex} : ∀ {l : List Ex}, x ∈ l → 1 + hgt x ≤ hgts l
  | y :: l, h => by
    rw [hgts]
    rcases List.mem_cons.1 h with rfl | h
    · omega
    · have := hgts_mem h; omega
theorem hgt_mk (op : Nat) (a : Int) (nm : Str) (ks : List Ex) : hgt (.mk op a nm ks) = hgts ks := by rw [hgt]
def Lx (e : Ex) : Nat := 8 * (Tree.exT e).length
def Lxs : List Ex → Nat
  | [] => 0
  | e :: l => Lx e + Lxs l
theorem Lx_one {e : Ex} (h : exOk e = true) : 8 ≤ Lx e := by
  have h1 := (exT_ne h).2
  have h2 : 0 < (Tree.exT e).length := List.length_pos_iff.2 h1
  unfold Lx; omega
theorem kidT_len (op : Nat) (t : List Str) (m : Nat) : t.length ≤ (kidT op t m).length := by
  unfold kidT
  split
  · simp only [List.length_append]; omega
  · exact Nat.le_refl _
theorem Lxs_flat : ∀ l : List Ex, 8 * ((exsT l).flatMap (fun x => [44] :: x)).length = 8 * l.length + Lxs l
  | [] => by simp [exsT, Lxs]
  | x :: l => by
    have := Lxs_flat l
    simp only [exsT, List.flatMap_cons, List.length_append, List.length_cons, Lxs, Lx]
    omega
theorem Lxs_row (l : List Ex) : 8 * l.length + Lxs l ≤ 8 * (rowT (exsT l)).length + 8 := by
  cases l with
  | nil => simp [Lxs]
  | cons x l =>
    have := Lxs_flat l
    simp only [exsT, rowT, List.length_append, List.length_cons, Lxs, Lx]
    omega
section
variable (z : Nat)
def SgQ (e : Ex) : Prop := ∀ f r o, Lx e ≤ f + 4 → nb r → o + 2 * hgt e ≤ 63 → pSign z f (R (Tree.exT e ++ r)) o = .ok (exZ e, R r)
def PdQ (e : Ex) : Prop := ∀ f r o, Lx e ≤ f + 2 → nb r → o + 2 * hgt e ≤ 63 → ∃ g, f + 4 ≤ g + Lx e ∧ pProd z f (R (Tree.exT e ++ r)) o = pProdL z g (exZ e) (R r) o
def SuQ (e : Ex) : Prop := ∀ f r o, Lx e ≤ f → nm8 r → o + 2 * hgt e ≤ 63 → ∃ g, f + 2 ≤ g + Lx e ∧ pSum z f (R (Tree.exT e ++ r)) o = pSumL z g (exZ e) (R r) o
end
section
variable {z : Nat}
theorem pProdL_stop {f o : Nat} {e : Ex} {r : List Str} (h : nm8 r) : pProdL z (f + 1) e (R r) o = .ok (e, R r) := by
  rw [pProdL_eq, isW_hd h.2.1, isW_hd h.2.2]; rfl
theorem pSumL_stop {f o : Nat} {e : Ex} {r : List Str} (h : nm6 r) : pSumL z (f + 1) e (R r) o = .ok (e, R r) := by
  rw [pSumL_eq, isW_hd h.2.1, isW_hd h.2.2]; rfl
theorem suq_done {e : Ex} (h : SuQ z e) {f o : Nat} {r : List Str} (hf : Lx e ≤ f) (hr : nm6 r) (ho : o + 2 * hgt e ≤ 63) : pSum z f (R (Tree.exT e ++ r)) o = .ok (exZ e, R r) := by
  obtain ⟨g, hg, h1⟩ := h f r o hf hr.1 ho
  obtain ⟨g, rfl⟩ : ∃ n, g = n + 1 := ⟨g - 1, by omega⟩
  rw [h1, pSumL_stop hr]
theorem pdq_done {e : Ex} (h : PdQ z e) {f o : Nat} {r : List Str} (hf : Lx e ≤ f + 2) (hr : nm8 r) (ho : o + 2 * hgt e ≤ 63) : pProd z f (R (Tree.exT e ++ r)) o = .ok (exZ e, R r) := by
  obtain ⟨g, hg, h1⟩ := h f r o hf hr.1 ho
  obtain ⟨g, rfl⟩ : ∃ n, g = n + 1 := ⟨g - 1, by omega⟩
  rw [h1, pProdL_stop hr]
theorem setAt_Z (e : Ex) : setAt (exZ e) 0 = exZ e := by
  obtain ⟨op, a, nm, ks⟩ := e
  rw [exZ]; rfl
theorem at_Z (e : Ex) : (exZ e).at_ = 0 := by
  obtain ⟨op, a, nm, ks⟩ := e
  rw [exZ]; rfl
theorem sgq_brackets {e : Ex} (h : SuQ z e) {f o : Nat} {r : List Str} (hf : Lx e + 2 ≤ f) (ho : o + 1 + 2 * hgt e ≤ 63) : pSign z f (R ([[40]] ++ Tree.exT e ++ [[41]] ++ r)) o = .ok (exZ e, R r) := by
  obtain ⟨f, rfl⟩ : ∃ n, f = n + 1 := ⟨f - 1, by omega⟩
  have e1 : [[40]] ++ Tree.exT e ++ [[41]] ++ r = [40] :: (Tree.exT e ++ [41] :: r) := by simp
  rw [e1, pSign_eq, isW_hd (c := [45]) (by simp), if_neg Bool.false_ne_true, isW_one1, if_pos rfl, opn_yes (isW_one1) (by omega), R_cons, List.tail_cons]
  rw [suq_done h (by omega) (nm6_close r _ (by decide) (by decide) (by decide) (by decide) (by decide) (by decide)) ho, andR_ok, want_yes isW_one1, R_cons, List.tail_cons]
  show Except.ok (setAt (exZ e) ((0 : Nat) : Int), R r) = _
  rw [show (((0 : Nat) : Int)) = 0 from rfl, setAt_Z]
theorem kidq_sg {e : Ex} (hS : SuQ z e) (hG : 3 ≤ rank e.op → SgQ z e) {f o : Nat} {r : List Str} (hf : Lx e + 2 ≤ f) (hr : nb r) (ho : o + 1 + 2 * hgt e ≤ 63) : pSign z f (R (kidT e.op (Tree.exT e) 3 ++ r)) o = .ok (exZ e, R r) := by
  unfold kidT
  split
  · exact sgq_brackets hS hf ho
  · exact hG (by omega) f r o (by omega) hr (by omega)
theorem kidq_pd {e : Ex} (hS : SuQ z e) (hP : 2 ≤ rank e.op → PdQ z e) {f o : Nat} {r : List Str} (hf : Lx e + 4 ≤ f) (hr : nb r) (ho : o + 1 + 2 * hgt e ≤ 63) : ∃ g, f ≤ g + 1 + Lx e ∧ Lx e + 3 ≤ g + Lx e ∧ pProd z f (R (kidT e.op (Tree.exT e) 2 ++ r)) o = pProdL z g (exZ e) (R r) o := by
  unfold kidT
  split
  · obtain ⟨f, rfl⟩ : ∃ n, f = n + 1 := ⟨f - 1, by omega⟩
    refine ⟨f, by omega, by omega, ?_⟩
    rw [pProd_eq, sgq_brackets hS (by omega) ho, andR_ok]
  · obtain ⟨g, h1, h2⟩ := hP (by omega) f r o (by omega) hr (by omega)
    exact ⟨g, by omega, by omega, h2⟩
theorem pdq_of_sg {e : Ex} (h8 : 8 ≤ Lx e) (h : SgQ z e) : PdQ z e := fun f r o hf hr ho => by
  obtain ⟨f, rfl⟩ : ∃ n, f = n + 1 := ⟨f - 1, by omega⟩
  exact ⟨f, by omega, by rw [pProd_eq, h f r o (by omega) hr ho, andR_ok]⟩
theorem suq_of_pd {e : Ex} (h8 : 8 ≤ Lx e) (h : PdQ z e) : SuQ z e := fun f r o hf hr ho => by
  obtain ⟨f, rfl⟩ : ∃ n, f = n + 1 := ⟨f - 1, by omega⟩
  exact ⟨f, by omega, by rw [pSum_eq, pdq_done h (by omega) hr ho, andR_ok]⟩
theorem pair_Z2 {op : Nat} {a b : Ex} (at_ : Int) : pair op (exZ a) (exZ b) = exZ (.mk op at_ [] [a, b]) := by
  unfold pair
  rw [at_Z]; simp [exZ, exsZ]
theorem pdq_two {a b : Ex} {op : Nat} (ha8 : 8 ≤ Lx a) (hb8 : 8 ≤ Lx b) (hop : op = 8 ∨ op = 9) (at_ : Int) (ha : SuQ z a) (ha2 : 2 ≤ rank a.op → PdQ z a) (hb : SuQ z b) (hb2 : 3 ≤ rank b.op → SgQ z b) : PdQ z (.mk op at_ [] [a, b]) := fun f r o hf hr ho => by
  rw [hgt_mk] at ho
  have hma := hgts_mem (x := a) (l := [a, b]) (by simp)
  have hmb := hgts_mem (x := b) (l := [a, b]) (by simp)
  have hT : Tree.exT (.mk op at_ [] [a, b]) ++ r = kidT a.op (Tree.exT a) 2 ++ (signs op :: (kidT b.op (Tree.exT b) 3 ++ r)) := by
    have h6 : 6 ≤ op := by omega
    rw [exT_two h6 at_ [] (x := a) (z := b) rfl rfl]
    rcases hop with rfl | rfl <;> simp [low, cmpOp, rank]
  have hK : 8 + Lx a + Lx b ≤ Lx (.mk op at_ [] [a, b]) := by
    have h1 := congrArg List.length hT
    have h2 := kidT_len a.op (Tree.exT a) 2
    have h3 := kidT_len b.op (Tree.exT b) 3
    simp only [List.length_append, List.length_cons] at h1
    unfold Lx; omega
  have hs : nb (signs op :: (kidT b.op (Tree.exT b) 3 ++ r)) := by rcases hop with rfl | rfl <;> exact nb_close _ _ (by decide) (by decide)
  obtain ⟨g, h1, h2, h3⟩ := kidq_pd ha ha2 (f := f) (o := o) (by omega) hs (by omega)
  obtain ⟨g, rfl⟩ : ∃ n, g = n + 1 := ⟨g - 1, by omega⟩
  refine ⟨g, by omega, ?_⟩
  rw [hT, h3, pProdL_eq]
  have h4 := kidq_sg hb hb2 (f := g) (o := o) (r := r) (by omega) hr (by omega)
  rcases hop with rfl | rfl
  · rw [show signs 8 = [42] from rfl, isW_one1, if_pos rfl, R_cons, List.tail_cons, h4, andR_ok, pair_Z2]
  · rw [show signs 9 = [47] from rfl, isW_hd (c := [42]) (by simp), if_neg Bool.false_ne_true, isW_one1, if_pos rfl, R_cons, List.tail_cons, h4, andR_ok, pair_Z2]
theorem suq_two {a b : Ex} {op : Nat} (ha8 : 8 ≤ Lx a) (hb8 : 8 ≤ Lx b) (hop : op = 6 ∨ op = 7) (at_ : Int) (ha : SuQ z a) (hb : SuQ z b) (hb2 : 2 ≤ rank b.op → PdQ z b) : SuQ z (.mk op at_ [] [a, b]) := fun f r o hf hr ho => by
  rw [hgt_mk] at ho
  have hma := hgts_mem (x := a) (l := [a, b]) (by simp)
  have hmb := hgts_mem (x := b) (l := [a, b]) (by simp)
  have hra : ¬ rank a.op < 1 := by unfold rank; split <;> (try split) <;> (try split) <;> omega
  have hT : Tree.exT (.mk op at_ [] [a, b]) ++ r = Tree.exT a ++ (signs op :: (kidT b.op (Tree.exT b) 2 ++ r)) := by
    have h6 : 6 ≤ op := by omega
    rw [exT_two h6 at_ [] (x := a) (z := b) rfl rfl]
    have hk : kidT a.op (Tree.exT a) 1 = Tree.exT a := by unfold kidT; rw [if_neg hra]
    have hl : low op = 1 := by rcases hop with rfl | rfl <;> rfl
    rw [hl, hk]; simp
  have hK : 8 + Lx a + Lx b ≤ Lx (.mk op at_ [] [a, b]) := by
    have h1 := congrArg List.length hT
    have h3 := kidT_len b.op (Tree.exT b) 2
    simp only [List.length_append, List.length_cons] at h1
    unfold Lx; omega
  have hs : nm8 (signs op :: (kidT b.op (Tree.exT b) 2 ++ r)) := by rcases hop with rfl | rfl <;> exact nm8_close _ _ (by decide) (by decide) (by decide) (by decide)
  obtain ⟨g, h1, h3⟩ := ha f _ o (by omega) hs (by omega)
  obtain ⟨g, rfl⟩ : ∃ n, g = n + 1 := ⟨g - 1, by omega⟩
  obtain ⟨g2, h5, h6, h7⟩ := kidq_pd hb hb2 (f := g) (o := o) (r := r) (by omega) hr.1 (by omega)
  obtain ⟨g2, rfl⟩ : ∃ n, g2 = n + 1 := ⟨g2 - 1, by omega⟩
  rw [pProdL_stop hr] at h7
  refine ⟨g, by omega, ?_⟩
  rw [hT, h3, pSumL_eq]
  rcases hop with rfl | rfl
  · rw [show signs 6 = [43] from rfl, isW_one1, if_pos rfl, R_cons, List.tail_cons, h7, andR_ok, pair_Z2]
  · rw [show signs 7 = [45] from rfl, isW_hd (c := [43]) (by simp), if_neg Bool.false_ne_true, isW_one1, if_pos rfl, R_cons, List.tail_cons, h7, andR_ok, pair_Z2]
theorem sgq_num {nm : Str} (h : oneB 2 nm = true) (hl : nm.length ≤ 400) (at_ : Int) : SgQ z (.mk 1 at_ nm []) := fun f r o hf _ _ => by
  have h8 : 8 ≤ Lx (.mk 1 at_ nm []) := by unfold Lx; rw [exT_12 (.inl rfl)]; simp
  obtain ⟨f, rfl⟩ : ∃ n, f = n + 1 := ⟨f - 1, by omega⟩
  have hn := one_not h
  rw [exT_12 (.inl rfl), List.singleton_append, pSign_eq, isW_hd (c := [45]) (by simpa using hn.1), isW_hd (c := [40]) (by simpa using hn.2), if_neg Bool.false_ne_true, if_neg Bool.false_ne_true, now_R]
  rw [if_pos (show (tk nm).1 = 2 from kd_one h), if_neg (show ¬ 400 < (tk nm).2.1.length by show ¬ 400 < nm.length; omega)]
  simp [exZ, exsZ, tk, R_cons]
theorem sgq_nm {nm : Str} (h : nameOk nm = true) {f o : Nat} {r : List Str} : pSign z (f + 1) (R (nm :: r)) o = pTail z f o 0 nm (R r) := by
  have hn := name_not h
  rw [pSign_eq, isW_hd (c := [45]) (by simpa using hn.1), isW_hd (c := [40]) (by simpa using hn.2.1), if_neg Bool.false_ne_true, if_neg Bool.false_ne_true, now_R, if_neg (show ¬ (tk nm).1 = 2 by show ¬ kd nm = 2; rw [kd_name h]; decide), nameX, if_pos (named_R h)]
  rfl
theorem sgq_name {nm : Str} (h : nameOk nm = true) (at_ : Int) : SgQ z (.mk 2 at_ nm []) := fun f r o hf hr _ => by
  have h8 : 8 ≤ Lx (.mk 2 at_ nm []) := by unfold Lx; rw [exT_12 (.inr rfl)]; simp
  obtain ⟨f, rfl⟩ : ∃ n, f = n + 1 := ⟨f - 1, by omega⟩
  rw [exT_12 (.inr rfl), List.singleton_append, sgq_nm h, pTail, isW_hd hr.1, isW_hd hr.2]
  simp [exZ, exsZ]
theorem sgq_index {nm : Str} {x : Ex} (h8 : 8 ≤ Lx x) (h : nameOk nm = true) (hx : SuQ z x) (at_ : Int) : SgQ z (.mk 3 at_ nm [x]) := fun f r o hf _ ho => by
  rw [hgt_mk] at ho
  have hm := hgts_mem (x := x) (l := [x]) (by simp)
  have hT : Tree.exT (.mk 3 at_ nm [x]) ++ r = nm :: [91] :: (Tree.exT x ++ [93] :: r) := by rw [exT_3 rfl]; simp [exsT, rowT]
  have hK : 24 + Lx x ≤ Lx (.mk 3 at_ nm [x]) := by
    have h1 := congrArg List.length hT
    simp only [List.length_append, List.length_cons] at h1
    unfold Lx; omega
  obtain ⟨f, rfl⟩ : ∃ n, f = n + 1 := ⟨f - 1, by omega⟩
  rw [hT, sgq_nm h, pTail, isW_one1, if_pos rfl, opn_yes isW_one1 (by omega), R_cons, List.tail_cons]
  rw [suq_done hx (by omega) (nm6_close r _ (by decide) (by decide) (by decide) (by decide) (by decide) (by decide)) (by omega), andR_ok, want_yes isW_one1, R_cons, List.tail_cons]
  simp [exZ, exsZ]
theorem sgq_neg {x : Ex} (h8 : 8 ≤ Lx x) (hS : SuQ z x) (hG : 3 ≤ rank x.op → SgQ z x) (at_ : Int) : SgQ z (.mk 5 at_ [] [x]) := fun f r o hf hr ho => by
  rw [hgt_mk] at ho
  have hm := hgts_mem (x := x) (l := [x]) (by simp)
  have hT : Tree.exT (.mk 5 at_ [] [x]) ++ r = [45] :: (kidT x.op (Tree.exT x) 3 ++ r) := by rw [exT_5 rfl (x := x) at_ [] rfl]; simp [rank]
  have hK : 8 + Lx x ≤ Lx (.mk 5 at_ [] [x]) := by
    have h1 := congrArg List.length hT
    have h2 := kidT_len x.op (Tree.exT x) 3
    simp only [List.length_append, List.length_cons] at h1
    unfold Lx; omega
  obtain ⟨f, rfl⟩ : ∃ n, f = n + 1 := ⟨f - 1, by omega⟩
  rw [hT, pSign_eq, isW_one1, if_pos rfl, opn_yes isW_one1 (by omega), R_cons, List.tail_cons]
  rw [kidq_sg hS hG (by omega) hr (by omega), andR_ok]
  simp [exZ, exsZ, nowT, tk]
theorem argq_rest : ∀ (l : List Ex), (∀ x ∈ l, SuQ z x) → ∀ (acc : List Ex) (f o : Nat) (r : List Str), 8 * l.length + Lxs l + 1 ≤ f → o + 2 * hgts l ≤ 65 →
    pSumsL z f acc (R ((exsT l).flatMap (fun x => [44] :: x) ++ [41] :: r)) o = .ok (acc ++ exsZ l, R ([41] :: r))
  | [], _, acc, f, o, r, hf, _ => by
    obtain ⟨f, rfl⟩ : ∃ n, f = n + 1 := ⟨f - 1, by omega⟩
    rw [pSumsL_eq]
    simp only [exsT, List.flatMap_nil, List.nil_append]
    rw [isW_hd (by simp)]; simp [exsZ]
  | x :: l, hl, acc, f, o, r, hf, ho => by
    have hW : Lxs (x :: l) = Lx x + Lxs l := rfl
    rw [hW, List.length_cons] at hf
    rw [hgts] at ho
    obtain ⟨f, rfl⟩ : ∃ n, f = n + 1 := ⟨f - 1, by omega⟩
    have hx : SuQ z x := hl x (.head _)
    have hT : (exsT (x :: l)).flatMap (fun x => [44] :: x) ++ [41] :: r = [44] :: (Tree.exT x ++ ((exsT l).flatMap (fun x => [44] :: x) ++ [41] :: r)) := by simp [exsT]
    have hr : nm6 ((exsT l).flatMap (fun x => [44] :: x) ++ [41] :: r) := by
      cases l with
      | nil => exact nm6_close r _ (by decide) (by decide) (by decide) (by decide) (by decide) (by decide)
      | cons y l => simp only [exsT, List.flatMap_cons, List.cons_append]; exact nm6_close _ _ (by decide) (by decide) (by decide) (by decide) (by decide) (by decide)
    rw [hT, pSumsL_eq, isW_one1, if_pos rfl, R_cons, List.tail_cons, suq_done hx (by omega) hr (by omega), andR_ok]
    rw [argq_rest l (fun y hy => hl y (.tail _ hy)) (acc ++ [exZ x]) f o r (by omega) (by omega)]
    simp [exsZ]
theorem sumsq {ks : List Ex} (hx : ∀ x ∈ ks, SuQ z x) (hne : ∀ x ∈ ks, (Tree.exT x).head? ≠ some [41] ∧ Tree.exT x ≠ []) {f o : Nat} {r : List Str} (hf : 8 * ks.length + Lxs ks + 2 ≤ f) (ho : o + 2 * hgts ks ≤ 65) :
    pSums z f (R (rowT (exsT ks) ++ [41] :: r)) o = .ok (exsZ ks, R ([41] :: r)) := by
  obtain ⟨f, rfl⟩ : ∃ n, f = n + 1 := ⟨f - 1, by omega⟩
  cases ks with
  | nil =>
    rw [show rowT (exsT []) ++ [41] :: r = [41] :: r by simp [exsT, rowT], pSums_eq, isW_one1, if_pos rfl]; simp [exsZ]
  | cons x l =>
    have hW : Lxs (x :: l) = Lx x + Lxs l := rfl
    rw [hW, List.length_cons] at hf
    rw [hgts] at ho
    have hx0 := hne x (.head _)
    have hR : rowT (exsT (x :: l)) ++ [41] :: r = Tree.exT x ++ ((exsT l).flatMap (fun x => [44] :: x) ++ [41] :: r) := by simp [exsT, rowT]
    have hh : (Tree.exT x ++ ((exsT l).flatMap (fun x => [44] :: x) ++ [41] :: r)).head? ≠ some [41] := by
      cases hq : Tree.exT x with
      | nil => exact absurd hq hx0.2
      | cons a b => have := hx0.1; rw [hq] at this; simpa using this
    have hr : nm6 ((exsT l).flatMap (fun x => [44] :: x) ++ [41] :: r) := by
      cases l with
      | nil => exact nm6_close r _ (by decide) (by decide) (by decide) (by decide) (by decide) (by decide)
      | cons y l => simp only [exsT, List.flatMap_cons, List.cons_append]; exact nm6_close _ _ (by decide) (by decide) (by decide) (by decide) (by decide) (by decide)
    rw [hR, pSums_eq, isW_hd hh, if_neg Bool.false_ne_true, suq_done (hx x (.head _)) (by omega) hr (by omega), andR_ok]
    rw [argq_rest l (fun y hy => hx y (.tail _ hy)) [exZ x] f o r (by omega) (by omega)]
    simp [exsZ]
theorem sgq_call {nm : Str} {ks : List Ex} (h : nameOk nm = true) (hx : ∀ x ∈ ks, SuQ z x) (hne : ∀ x ∈ ks, (Tree.exT x).head? ≠ some [41] ∧ Tree.exT x ≠ []) (at_ : Int) : SgQ z (.mk 4 at_ nm ks) := fun f r o hf _ ho => by
  rw [hgt_mk] at ho
  have hT : Tree.exT (.mk 4 at_ nm ks) ++ r = nm :: [40] :: (rowT (exsT ks) ++ [41] :: r) := by rw [exT_4 rfl]; simp
  have hK : 16 + 8 * ks.length + Lxs ks ≤ Lx (.mk 4 at_ nm ks) := by
    have h1 := congrArg List.length hT
    have h2 := Lxs_row ks
    simp only [List.length_append, List.length_cons] at h1
    unfold Lx; omega
  obtain ⟨f, rfl⟩ : ∃ n, f = n + 1 := ⟨f - 1, by omega⟩
  rw [hT, sgq_nm h, pTail, isW_hd (c := [91]) (by simp), if_neg Bool.false_ne_true, isW_one1, if_pos rfl, opn_yes isW_one1 (by omega), R_cons, List.tail_cons]
  rw [sumsq hx hne (by omega) (by omega), andR_ok, want_yes isW_one1, R_cons, List.tail_cons]
  simp [exZ]
theorem allq : ∀ (n : Nat) (e : Ex), exW e ≤ n → exOk e = true → exLong e = false → (3 ≤ rank e.op → SgQ z e) ∧ (2 ≤ rank e.op → PdQ z e) ∧ SuQ z e
  | 0, .mk op a nm ks, hn, _, _ => by rw [exW] at hn; omega
  | n + 1, .mk op a nm ks, hn, hok, hlg => by
    have h8 := Lx_one hok
    rw [exW] at hn
    rw [exLong, Bool.or_eq_false_iff, decide_eq_false_iff_not, exsLong_any, List.any_eq_false] at hlg
    have hlk : ∀ x ∈ ks, exLong x = false := fun x hx => by have := hlg.2 x hx; simpa using this
    have sg : SgQ z (.mk op a nm ks) → (3 ≤ rank (Ex.op (.mk op a nm ks)) → SgQ z (.mk op a nm ks)) ∧ (2 ≤ rank (Ex.op (.mk op a nm ks)) → PdQ z (.mk op a nm ks)) ∧ SuQ z (.mk op a nm ks) :=
      fun h => ⟨fun _ => h, fun _ => pdq_of_sg h8 h, suq_of_pd h8 (pdq_of_sg h8 h)⟩
    rcases ok_cases hok with ⟨rfl, rfl, h⟩ | ⟨rfl, rfl, h⟩ | ⟨rfl, h, x, rfl, hx⟩ | ⟨rfl, h, hx⟩ | ⟨rfl, rfl, x, rfl, hx⟩ | ⟨ho, rfl, x, y, rfl, hx, hy⟩ | ⟨ho, rfl, x, y, rfl, hx, hy⟩
    · exact sg (sgq_num h (by omega) a)
    · exact sg (sgq_name h a)
    · have h1 := allq n x (by simp only [exsW] at hn; omega) hx (hlk x (by simp))
      exact sg (sgq_index (Lx_one hx) h h1.2.2 a)
    · refine sg (sgq_call h (fun x hm => ?_) (fun x hm => exT_ne (hx x hm)) a)
      exact (allq n x (by have := exsW_mem hm; omega) (hx x hm) (hlk x hm)).2.2
    · have h1 := allq n x (by simp only [exsW] at hn; omega) hx (hlk x (by simp))
      exact sg (sgq_neg (Lx_one hx) h1.2.2 h1.1 a)
    · have h1 := allq n x (by simp only [exsW] at hn; omega) hx (hlk x (by simp))
      have h2 := allq n y (by simp only [exsW] at hn; omega) hy (hlk y (by simp))
      have hs := suq_two (Lx_one hx) (Lx_one hy) ho a h1.2.2 h2.2.2 h2.2.1
      have hr : rank op = 1 := by rcases ho with rfl | rfl <;> rfl
      exact ⟨fun h => absurd h (by show ¬ 3 ≤ rank op; omega), fun h => absurd h (by show ¬ 2 ≤ rank op; omega), hs⟩
    · have h1 := allq n x (by simp only [exsW] at hn; omega) hx (hlk x (by simp))
      have h2 := allq n y (by simp only [exsW] at hn; omega) hy (hlk y (by simp))
      have hs := pdq_two (Lx_one hx) (Lx_one hy) ho a h1.2.2 h1.2.1 h2.2.2 h2.1
      have hr : rank op = 2 := by rcases ho with rfl | rfl <;> rfl
      exact ⟨fun h => absurd h (by show ¬ 3 ≤ rank op; omega), fun _ => hs, suq_of_pd h8 hs⟩
theorem exq {e : Ex} (h : exOk e = true) (hl : exLong e = false) : SuQ z e := (allq (exW e) e (Nat.le_refl _) h hl).2.2
theorem exq_done {e : Ex} (h : exOk e = true) (hl : exLong e = false) {f o : Nat} {r : List Str} (hf : Lx e ≤ f) (hr : nm6 r) (ho : o + 2 * hgt e ≤ 63) : pSum z f (R (Tree.exT e ++ r)) o = .ok (exZ e, R r) := suq_done (exq h hl) hf hr ho
end
end Go.Prs
end

section
namespace Go.Prs
open Go.Tok Go.Tree
theorem isW_hk {c : Str} {ts : List Str} (h : Tree.hk ts ≠ hdK c) : isW c (R ts) = false := by
  refine isW_hd (fun h2 => h ?_)
  cases ts with
  | nil => simp at h2
  | cons y r => obtain rfl : y = c := by simpa using h2
                rfl
theorem isW_lit {c x : Str} {r : List Str} (h : kd x ≠ 2) : isW c (R (x :: r)) = decide (x = c) := by
  rw [R_cons]
  have e : decide ((tk x).1 = 2) = false := decide_eq_false h
  show (!decide ((tk x).1 = 2) && decide ((tk x).2.1 = c)) = _
  rw [e]; rfl
def hgt2 (l : List Ex) : Nat := if l = [] then 0 else hgts l + 1
mutual
def shgt : Sm → Nat
  | .mk _ _ _ ks b e => max (hgt2 ks) (max (1 + shgts b) (1 + shgts e))
def shgts : List Sm → Nat
  | [] => 0
  | s :: l => max (shgt s) (shgts l)
end
theorem shgt_kid {op : Nat} {a : Int} {nm : Str} {ks : List Ex} {b e : List Sm} {x : Ex} (h : x ∈ ks) : 2 + hgt x ≤ shgt (.mk op a nm ks b e) ∧ hgts ks + 1 ≤ shgt (.mk op a nm ks b e) := by
  rw [shgt]
  have h1 := hgts_mem h
  have h2 : hgt2 ks = hgts ks + 1 := if_neg (fun h2 => by rw [h2] at h; cases h)
  omega
theorem shgt_sub {op : Nat} {a : Int} {nm : Str} {ks : List Ex} {b e : List Sm} : 1 + shgts b ≤ shgt (.mk op a nm ks b e) ∧ 1 + shgts e ≤ shgt (.mk op a nm ks b e) := by rw [shgt]; omega
theorem cmpU_R {op : Nat} (h : 10 ≤ op) (h2 : op ≤ 15) (r : List Str) : cmpU 6 (R (signs op :: r)) = op := by
  have : op = 10 ∨ op = 11 ∨ op = 12 ∨ op = 13 ∨ op = 14 ∨ op = 15 := by omega
  have w : ∀ i, isW (cmpS.getD i []) (R (signs op :: r)) = decide (signs op = cmpS.getD i []) := fun i => isW_lit (by
    rcases this with rfl | rfl | rfl | rfl | rfl | rfl <;> exact kd_sign _ (by decide))
  simp only [cmpU, w]
  rcases this with rfl | rfl | rfl | rfl | rfl | rfl <;> decide
section
variable {z : Nat}
theorem e61 (r : List Str) : nm6 ([61] :: r) := nm6_of r (by decide)
theorem e126 (r : List Str) : nm6 ([126] :: r) := nm6_of r (by decide)
theorem e59 (r : List Str) : nm6 ([59] :: r) := nm6_of r (by decide)
theorem e58 (r : List Str) : nm6 ([58] :: r) := nm6_of r (by decide)
theorem e41 (r : List Str) : nm6 ([41] :: r) := nm6_of r (by decide)
theorem o2 {nm : Str} (h : nameOk nm = true) : exOk (.mk 2 0 nm []) = true := by simp [exOk, ruleOk, exsOk, h]
theorem o3 {nm : Str} {x : Ex} (h : nameOk nm = true) (h2 : exOk x = true) : exOk (.mk 3 0 nm [x]) = true := by simp [exOk, ruleOk, exsOk, h, h2]
def SmQ (z : Nat) (s : Sm) : Prop := ∀ f r o, 8 * (smT s).length ≤ f → Tree.hk r ≠ 8 → o + 2 * shgt s ≤ 65 → pStmt z f (R (smT s ++ r)) o = .ok (smZ s, R r)
theorem smT_pos {s : Sm} (h : smOk s = true) : 0 < (smT s).length := by
  cases hq : smT s with
  | nil =>
    have h1 := hk_sm h []
    have h2 := kS_lt h
    rw [hq] at h1
    have h3 : Tree.hk ([] ++ []) = kS s.op := h1
    rw [List.append_nil] at h3
    have h4 : Tree.hk [] = 13 ∨ 9 ≤ Tree.hk [] := by decide
    omega
  | cons a l => simp
theorem smsq : ∀ (l : List Sm), smsOk l = true → (∀ s ∈ l, SmQ z s) → ∀ (acc : List Sm) (f o : Nat) (r : List Str), 8 * (smsT l).flatten.length + 1 ≤ f → o + 2 * shgts l ≤ 65 →
    pStmts z f acc (R ((smsT l).flatten ++ [125] :: r)) o = .ok (acc ++ smsZ l, R ([125] :: r))
  | [], _, _, acc, f, o, r, hf, _ => by
    obtain ⟨f, rfl⟩ : ∃ n, f = n + 1 := ⟨f - 1, by omega⟩
    rw [show (smsT []).flatten ++ [125] :: r = [125] :: r by simp [smsT], pStmts_eq, isW_one1, if_pos rfl]; simp [smsZ]
  | s :: l, hl, hr, acc, f, o, r, hf, ho => by
    rw [smsOk, Bool.and_eq_true] at hl
    have hW : (smsT (s :: l)).flatten.length = (smT s).length + (smsT l).flatten.length := by rw [smsT, List.flatten_cons, List.length_append]
    rw [hW] at hf
    have hp : 0 < (smT s).length := smT_pos hl.1
    rw [shgts] at ho
    obtain ⟨f, rfl⟩ : ∃ n, f = n + 1 := ⟨f - 1, by omega⟩
    have hT : (smsT (s :: l)).flatten ++ [125] :: r = smT s ++ ((smsT l).flatten ++ [125] :: r) := by rw [smsT, List.flatten_cons, List.append_assoc]
    have h1 := hk_sm hl.1 ((smsT l).flatten ++ [125] :: r)
    have h2 := kS_lt hl.1
    have h3 : Tree.hk ((smsT l).flatten ++ [125] :: r) ≠ 8 := by
      cases l with
      | nil => show (7 : Nat) ≠ 8; decide
      | cons s l =>
        have hl2 := hl.2
        rw [smsOk, Bool.and_eq_true] at hl2
        rw [smsT, List.flatten_cons, List.append_assoc, hk_sm hl2.1]
        have := kS_lt hl2.1
        omega
    rw [hT, pStmts_eq, isW_hk (by rw [h1]; show kS s.op ≠ 7; omega), if_neg Bool.false_ne_true, hr s (.head _) f _ o (by omega) h3 (by omega), andR_ok]
    rw [smsq l hl.2 (fun s hs => hr s (.tail _ hs)) (acc ++ [smZ s]) f o r (by omega) (by omega)]
    simp [smsZ]
theorem bodyq {b : List Sm} (hb : smsOk b = true) (hr : ∀ s ∈ b, SmQ z s) {f o : Nat} {r : List Str} (hf : 8 * (smsT b).flatten.length + 2 ≤ f) (ho : o + 2 + 2 * shgts b ≤ 65) : pBody z f (R ([123] :: ((smsT b).flatten ++ [125] :: r))) o = .ok (smsZ b, R r) := by
  obtain ⟨f, rfl⟩ : ∃ n, f = n + 1 := ⟨f - 1, by omega⟩
  have h64 : o < 64 := by omega
  rw [pBody_eq, opn_yes isW_one1 h64, R_cons, List.tail_cons, smsq b hb hr [] f (o + 1) r (by omega) (by omega), andR_ok, want_yes isW_one1, R_cons, List.tail_cons, List.nil_append]
theorem hgts_one (x : Ex) : hgts [x] = 1 + hgt x := by rw [hgts, hgts]; omega
theorem sum_tok {e : Ex} (h : exOk e = true) (hl : exLong e = false) {f o : Nat} {r : List Str} (hf : 8 * (Tree.exT e).length ≤ f) (hr : nm6 r) (ho : o + 2 * hgt e ≤ 63) : pSum z f (R (Tree.exT e ++ r)) o = .ok (exZ e, R r) := exq_done h hl hf hr ho
theorem smq_step (n : Nat) (ih : ∀ s, smW s ≤ n → smOk s = true → smLong s = false → SmQ z s) (s : Sm) (hn : smW s ≤ n + 1) (hs : smOk s = true) (hlg : smLong s = false) : SmQ z s := by
  obtain ⟨op, a, nm, ks, b, e⟩ := s
  intro f r o hf hr ho
  rw [smLong] at hlg
  simp only [Bool.or_eq_false_iff, decide_eq_false_iff_not, exsLong_any, smsLong_any, List.any_eq_false, Bool.not_eq_true] at hlg
  obtain ⟨⟨⟨hl0, hlk⟩, hlb⟩, hle⟩ := hlg
  have hn0 := hn
  rw [smW] at hn
  have sub : ∀ {b : List Sm}, smsW b ≤ n → smsOk b = true → (∀ s ∈ b, smLong s = false) → ∀ s ∈ b, SmQ z s := fun hb hok hlg s hs => ih s (by have := smsW_mem hs; omega) (by rw [smsOk_all, List.all_eq_true] at hok; exact hok s hs) (hlg s hs)
  have hL : (smT (.mk op a nm ks b e) ++ r).length = (smT (.mk op a nm ks b e)).length + r.length := List.length_append
  obtain ⟨f, rfl⟩ : ∃ m, f = m + 1 := ⟨f - 1, by have := smT_pos hs; omega⟩
  rcases sm_cases hs with ⟨rfl, hn1, rfl, rfl, x, rfl, hx⟩ | ⟨rfl, hn1, rfl, rfl, x, y, rfl, hx, hy⟩ | ⟨rfl, hn1, rfl, rfl, x, l, rfl, hx, hl⟩ | ⟨rfl, rfl, rfl, rfl, x, rfl, hx⟩ | ⟨rfl, hn1, rfl, hb, x, y, rfl, hx, hy⟩ | ⟨rfl, rfl, hb, he, x, rfl, hx⟩ | ⟨rfl, rfl, rfl, rfl, hb⟩
  · have hm := shgt_kid (op := 1) (a := a) (nm := nm) (ks := [x]) (b := []) (e := []) (x := x) (by simp)
    rw [smX_1a] at hL
    simp only [List.length_append, List.length_cons] at hL
    rw [smX_1a]
    have hh : Tree.hk (Tree.exT (.mk 2 0 nm []) ++ [61] :: (Tree.exT x ++ [59] :: r)) = 0 := hk_ex (o2 hn1) _
    rw [pStmt_5 (isW_hk (by rw [hh]; decide)) (isW_hk (by rw [hh]; decide)) (isW_hk (by rw [hh]; decide)) (isW_hk (by rw [hh]; decide)), pPlain]
    rw [sum_tok (o2 hn1) (by rw [exLong]; simp [exsLong]; omega) (by omega) (e61 _) (by rw [hgt_mk, hgts]; omega), andR_ok]
    rw [exT_12 (.inr rfl), List.singleton_append, named_R hn1, pPlainB]
    simp only [exZ, exsZ, Ex.op, Ex.nm, Ex.kids]
    rw [isW_one1, if_pos (by simp), R_cons, List.tail_cons, sum_tok hx (hlk x (by simp)) (by omega) (e59 _) (by omega), andR_ok, want_yes isW_one1, R_cons, List.tail_cons, andR_ok]
    simp [setS, smZ, exsZ, smsZ, nowT, tk, R_cons]
  · have hm := shgt_kid (op := 1) (a := a) (nm := nm) (ks := [x, y]) (b := []) (e := []) (x := x) (by simp)
    have hm2 := shgt_kid (op := 1) (a := a) (nm := nm) (ks := [x, y]) (b := []) (e := []) (x := y) (by simp)
    rw [smX_1b] at hL
    simp only [List.length_append, List.length_cons] at hL
    rw [smX_1b]
    have hh : Tree.hk (Tree.exT (.mk 3 0 nm [x]) ++ [61] :: (Tree.exT y ++ [59] :: r)) = 0 := hk_ex (o3 hn1 hx) _
    rw [pStmt_5 (isW_hk (by rw [hh]; decide)) (isW_hk (by rw [hh]; decide)) (isW_hk (by rw [hh]; decide)) (isW_hk (by rw [hh]; decide)), pPlain]
    rw [sum_tok (o3 hn1 hx) (by rw [exLong]; simp [exsLong, hlk x (by simp)]; omega) (by omega) (e61 _) (by rw [hgt_mk, hgts_one]; omega), andR_ok]
    rw [exT_3 rfl]
    simp only [List.cons_append]
    rw [named_R hn1, pPlainB]
    simp only [exZ, exsZ, Ex.op, Ex.nm, Ex.kids]
    rw [isW_one1, if_pos (by simp), R_cons, List.tail_cons, sum_tok hy (hlk y (by simp)) (by omega) (e59 _) (by omega), andR_ok, want_yes isW_one1, R_cons, List.tail_cons, andR_ok]
    simp [setS, smZ, exsZ, smsZ, nowT, tk, R_cons]
  · have hm := shgt_kid (op := 3) (a := a) (nm := nm) (ks := x :: l) (b := []) (e := []) (x := x) (by simp)
    have hg : hgts l ≤ hgts (x :: l) := by rw [hgts]; omega
    have hl' : ∀ y ∈ l, exOk y = true := by rw [exsOk_all, List.all_eq_true] at hl; exact hl
    rw [smX_3] at hL
    simp only [List.length_append, List.length_cons] at hL
    rw [smX_3]
    have hh : Tree.hk (Tree.exT x ++ [126] :: (Tree.exT (.mk 4 0 nm l) ++ [59] :: r)) = 0 := hk_ex hx _
    have hT : Tree.exT (.mk 4 0 nm l) ++ [59] :: r = nm :: [40] :: (rowT (exsT l) ++ [41] :: [59] :: r) := by rw [exT_4 rfl]; simp
    have hTl := congrArg List.length hT
    simp only [List.length_append, List.length_cons] at hTl
    have hrow := Lxs_row l
    rw [pStmt_5 (isW_hk (by rw [hh]; decide)) (isW_hk (by rw [hh]; decide)) (isW_hk (by rw [hh]; decide)) (isW_hk (by rw [hh]; decide)), pPlain]
    rw [sum_tok hx (hlk x (by simp)) (by omega) (e126 _) (by omega), andR_ok, pPlainB, isW_hd (c := [61]) (by simp), Bool.and_false, if_neg Bool.false_ne_true, want_yes isW_one1, R_cons, List.tail_cons, hT]
    rw [nameX, if_pos (named_R hn1), andR_ok, R_cons, List.tail_cons, opn_yes isW_one1 (by omega), R_cons, List.tail_cons]
    rw [sumsq (fun y hy => exq (hl' y hy) (hlk y (by simp [hy]))) (fun y hy => exT_ne (hl' y hy)) (by omega) (by omega), andR_ok, want_yes isW_one1, R_cons, List.tail_cons, want_yes isW_one1, R_cons, List.tail_cons, andR_ok]
    have hp : ∃ q t, Tree.exT x = q :: t := by
      obtain ⟨q, t, h1, _⟩ := exT_hd (exW x) x (Nat.le_refl _) hx
      exact ⟨q, t, h1⟩
    obtain ⟨q, t, hq⟩ := hp
    rw [hq]
    simp [setS, smZ, exsZ, smsZ, nowT, tk, R_cons, txt]
  · have hm := shgt_kid (op := 2) (a := a) (nm := []) (ks := [x]) (b := []) (e := []) (x := x) (by simp)
    rw [smX_2] at hL
    simp only [List.length_append, List.length_cons] at hL
    rw [smX_2, pStmt_1 isW_one1, pAdd, want_yes isW_one1, R_cons, List.tail_cons, want_yes isW_one1, R_cons, List.tail_cons, sum_tok hx (hlk x (by simp)) (by omega) (e59 _) (by omega), andR_ok, want_yes isW_one1, R_cons, List.tail_cons, andR_ok]
    simp [setS, smZ, exsZ, smsZ, nowT, tk, R_cons]
  · have hm := shgt_kid (op := 4) (a := a) (nm := nm) (ks := [x, y]) (b := b) (e := []) (x := x) (by simp)
    have hm2 := shgt_kid (op := 4) (a := a) (nm := nm) (ks := [x, y]) (b := b) (e := []) (x := y) (by simp)
    have hs2 := shgt_sub (op := 4) (a := a) (nm := nm) (ks := [x, y]) (b := b) (e := [])
    simp only [exsW, List.length_cons, List.length_nil] at hn
    rw [smX_4] at hL
    simp only [List.length_append, List.length_cons] at hL
    rw [smX_4, pStmt_2 isW_one1, pLoop, want_yes isW_one1, R_cons, List.tail_cons, opn_yes isW_one1 (by omega), R_cons, List.tail_cons, nameX, if_pos (named_R hn1), andR_ok, R_cons, List.tail_cons, want_yes isW_one1, R_cons, List.tail_cons]
    rw [sum_tok hx (hlk x (by simp)) (by omega) (e58 _) (by omega), andR_ok, pLoopB, want_yes isW_one1, R_cons, List.tail_cons, sum_tok hy (hlk y (by simp)) (by omega) (e41 _) (by omega), andR_ok, pLoopC, want_yes isW_one1, R_cons, List.tail_cons]
    rw [bodyq hb (sub (by omega) hb hlb) (by omega) (by omega), andR_ok, andR_ok]
    simp [setS, smZ, exsZ, smsZ, nowT, tk, R_cons, txt]
  · have hm := shgt_kid (op := 5) (a := a) (nm := []) (ks := [x]) (b := b) (e := e) (x := x) (by simp)
    have hs2 := shgt_sub (op := 5) (a := a) (nm := []) (ks := [x]) (b := b) (e := e)
    simp only [exsW, List.length_cons, List.length_nil] at hn
    obtain ⟨cop, ca, u, v, rfl, h10, h15, hu, hv, hT⟩ := cmp_cases hx
    have hlx := hlk _ (List.mem_singleton.2 rfl)
    rw [exLong] at hlx
    simp only [Bool.or_eq_false_iff, exsLong] at hlx
    have hxW : exW (.mk cop ca [] [u, v]) = 3 + exW u + exW v := by simp only [exW, exsW, List.length_cons, List.length_nil]; omega
    rw [hgt_mk, hgts, hgts, hgts] at hm
    rw [hxW] at hn
    have hTl := congrArg List.length hT
    simp only [List.length_append, List.length_cons] at hTl
    have hT2 : Tree.exT (.mk cop ca [] [u, v]) ++ [41] :: [123] :: ((smsT b).flatten ++ [125] :: (elT e ++ r)) = Tree.exT u ++ signs cop :: (Tree.exT v ++ [41] :: [123] :: ((smsT b).flatten ++ [125] :: (elT e ++ r))) := by rw [hT]; simp
    rw [smX_5] at hL
    simp only [List.length_append, List.length_cons] at hL
    rw [smX_5, hT2, pStmt_3 isW_one1, pChoice, want_yes isW_one1, R_cons, List.tail_cons, opn_yes isW_one1 (by omega), R_cons, List.tail_cons]
    rw [sum_tok hu hlx.2.1 (by omega) (signs_cmp h10 h15 _) (by omega), andR_ok, pChoiceA, cmpU_R h10 h15, if_neg (by omega), R_cons, List.tail_cons]
    rw [sum_tok hv hlx.2.2.1 (by omega) (e41 _) (by omega), andR_ok, pChoiceB, want_yes isW_one1, R_cons, List.tail_cons]
    rw [bodyq hb (sub (by omega) hb hlb) (by omega) (by omega), andR_ok]
    cases e with
    | nil =>
      rw [show elT [] ++ r = r from rfl, isW_hk (by show Tree.hk r ≠ 8; exact hr), if_neg Bool.false_ne_true, andR_ok, pair_Z2 ca]
      simp [setS, smZ, exsZ, smsZ, nowT, tk, R_cons]
    | cons s1 m1 =>
      have hE : elT (s1 :: m1) ++ r = [101, 108, 115, 101] :: [123] :: ((smsT (s1 :: m1)).flatten ++ [125] :: r) := by unfold elT; rw [if_pos (by simp)]; simp
      have hEl := congrArg List.length hE
      simp only [List.length_append, List.length_cons] at hEl
      rw [hE, isW_one1, if_pos rfl, R_cons, List.tail_cons, bodyq he (sub (by omega) he hle) (by omega) (by omega), andR_ok, andR_ok, pair_Z2 ca]
      simp [setS, smZ, exsZ, smsZ, nowT, tk, R_cons]
  · have hs2 := shgt_sub (op := 6) (a := a) (nm := []) (ks := []) (b := b) (e := [])
    simp only [List.length_nil] at hn
    rw [smX_6] at hL
    simp only [List.length_append, List.length_cons] at hL
    rw [smX_6, pStmt_4 isW_one1, bodyq hb (sub (by omega) hb hlb) (by omega) (by omega), andR_ok, andR_ok]
    simp [setS, smZ, exsZ, smsZ, nowT, tk, R_cons]
theorem smq_all : ∀ (n : Nat) (s : Sm), smW s ≤ n → smOk s = true → smLong s = false → SmQ z s := by
  intro n
  induction n with
  | zero => intro s h; obtain ⟨op, a, nm, ks, b, e⟩ := s; rw [smW] at h; omega
  | succ n ih => exact fun s h h1 h2 => smq_step n ih s h h1 h2
theorem smq {s : Sm} (h : smOk s = true) (hl : smLong s = false) : SmQ z s := smq_all (smW s) s (Nat.le_refl _) h hl
end
end Go.Prs
end

section
namespace Go.Prs
open Go.Tok Go.Tree
def ExF (x : Ex) : Prop := exOk x = true ∧ exLong x = false ∧ 2 + hgt x ≤ 20
def DcF (d : Dc) : Prop := (∀ x ∈ d.size, ExF x) ∧ (∀ x ∈ d.lower, ExF x) ∧ (∀ x ∈ d.upper, ExF x) ∧ (∀ x ∈ d.init, ExF x)
def BkF (b : Bk) : Prop := (∀ d ∈ b.decls, DcF d) ∧ (∀ s ∈ b.stmts, smLong s = false) ∧ shgts b.stmts ≤ 20
section
variable {z : Nat}
theorem sumd {e : Ex} (h : ExF e) {f o : Nat} {r : List Str} (hf : Lx e ≤ f) (hr : nm6 r) (ho : o ≤ 2) : pSum z f (R (Tree.exT e ++ r)) o = .ok (exZ e, R r) := exq_done h.1 h.2.1 hf hr (by have := h.2.2; omega)
theorem sizeq {x : Ex} (h : ExF x) {f o : Nat} {r : List Str} (hf : Lx x ≤ f) (ho : o ≤ 1) : pSize z f (R ([91] :: (Tree.exT x ++ [93] :: r))) o = .ok ([exZ x], R r) := by
  rw [pSize, opn_yes isW_one1 (by omega), R_cons, List.tail_cons, sumd h hf (nm6_of _ (by decide)) (by omega), andR_ok, want_yes isW_one1, R_cons, List.tail_cons]
theorem boundsq {lo up : List Ex} (h1 : partOk lo = true) (h2 : partOk up = true) {f o : Nat} {r : List Str} (hlo : ∀ x ∈ lo, ExF x ∧ Lx x ≤ f) (hup : ∀ x ∈ up, ExF x ∧ Lx x ≤ f) (ho : o ≤ 1) (hr : Tree.hk r ≠ 13) :
    pBounds z f (R (bT lo up ++ r)) o = .ok ((exsZ lo, exsZ up), R r) := by
  have e62 : ∀ r : List Str, nm6 ([62] :: r) := fun r => nm6_of r (by decide)
  have e44 : ∀ r : List Str, nm6 ([44] :: r) := fun r => nm6_of r (by decide)
  rcases part_cases h1 with rfl | ⟨x, rfl, _⟩ <;> rcases part_cases h2 with rfl | ⟨y, rfl, _⟩
  · rw [bT_00, pBounds, isW_hk (by exact hr), if_neg Bool.false_ne_true]; simp [exsZ]
  · have hy := hup y (by simp)
    rw [bT_01, pBounds, isW_one1, if_pos rfl, R_cons, List.tail_cons, isW_hd (c := [108, 111, 119, 101, 114]) (by simp), if_neg Bool.false_ne_true]
    rw [pUpper, want_yes isW_one1, R_cons, List.tail_cons, want_yes isW_one1, R_cons, List.tail_cons, sumd hy.1 hy.2 (e62 _) (by omega), andR_ok, want_yes isW_one1, R_cons, List.tail_cons]
    simp [exsZ]
  · have hx := hlo x (by simp)
    rw [bT_10, pBounds, isW_one1, if_pos rfl, R_cons, List.tail_cons, isW_one1, if_pos rfl, R_cons, List.tail_cons, want_yes isW_one1, R_cons, List.tail_cons, sumd hx.1 hx.2 (e62 _) (by omega), andR_ok]
    rw [pBoundsB, isW_hd (c := [44]) (by simp), if_neg Bool.false_ne_true, want_yes isW_one1, R_cons, List.tail_cons]
    simp [exsZ]
  · have hx := hlo x (by simp)
    have hy := hup y (by simp)
    rw [bT_11, pBounds, isW_one1, if_pos rfl, R_cons, List.tail_cons, isW_one1, if_pos rfl, R_cons, List.tail_cons, want_yes isW_one1, R_cons, List.tail_cons, sumd hx.1 hx.2 (e44 _) (by omega), andR_ok]
    rw [pBoundsB, isW_one1, if_pos rfl, R_cons, List.tail_cons, pUpper, want_yes isW_one1, R_cons, List.tail_cons, want_yes isW_one1, R_cons, List.tail_cons, sumd hy.1 hy.2 (e62 _) (by omega), andR_ok, want_yes isW_one1, R_cons, List.tail_cons]
    simp [exsZ]
theorem declV_q {nm : Str} (hn : nameOk nm = true) {i : List Ex} (hi : partOk i = true) {first : Bool} {ty a o f : Nat} {size lo up : List Ex} (h1 : i ≠ [] → first = true ∧ ty ≤ 3) (hF : ∀ x ∈ i, ExF x ∧ Lx x ≤ f) (ho : o ≤ 2) {r : List Str} :
    pDeclV z f first ty a o size lo up (R (nm :: iT i r)) = .ok ((true, ⟨ty, a, nm, size, lo, up, exsZ i⟩), R r) := by
  rw [pDeclV, nameX, if_pos (named_R hn), andR_ok, R_cons, List.tail_cons, pDeclN]
  rcases part_cases hi with rfl | ⟨x, rfl, hx⟩
  · rw [iT_0, isW_hd (c := [61]) (by simp), Bool.and_false, if_neg Bool.false_ne_true, pDeclE, want_yes isW_one1, R_cons, List.tail_cons]; simp [exsZ, txt, tk]
  · obtain ⟨h2, h3⟩ := h1 (by simp)
    have hx := hF x (by simp)
    rw [iT_1, isW_one1, h2, decide_eq_true h3, if_pos (by rfl), R_cons, List.tail_cons, sumd hx.1 hx.2 (e59 _) ho, andR_ok, pDeclE, want_yes isW_one1, R_cons, List.tail_cons]; simp [exsZ, txt, tk]
theorem bT_mem {lo up : List Ex} (h1 : partOk lo = true) (h2 : partOk up = true) {x : Ex} (h : x ∈ lo ∨ x ∈ up) : (Tree.exT x).length ≤ (bT lo up).length := by
  rcases part_cases h1 with rfl | ⟨u, rfl, _⟩ <;> rcases part_cases h2 with rfl | ⟨v, rfl, _⟩
  · simp at h
  · obtain rfl : x = v := by simpa using h
    have h3 := congrArg List.length (bT_01 x [])
    simp only [List.length_append, List.length_cons] at h3; omega
  · obtain rfl : x = u := by simpa using h
    have h3 := congrArg List.length (bT_10 x [])
    simp only [List.length_append, List.length_cons] at h3; omega
  · have h3 := congrArg List.length (bT_11 u v [])
    simp only [List.length_append, List.length_cons] at h3
    have h : x = u ∨ x = v := by simpa using h
    rcases h with rfl | rfl <;> omega
theorem iT_mem {i : List Ex} (h1 : partOk i = true) {x : Ex} (h : x ∈ i) (r : List Str) : (Tree.exT x).length + r.length ≤ (iT i r).length := by
  rcases part_cases h1 with rfl | ⟨u, rfl, _⟩
  · cases h
  · obtain rfl : x = u := by simpa using h
    rw [iT_1]; simp only [List.length_append, List.length_cons]; omega
theorem declq {d : Dc} (h : dcOk d = true) (hF : DcF d) {first : Bool} (hi : d.init ≠ [] → first = true) {f o : Nat} {r : List Str} (hf : 8 * (dcT d).length ≤ f) (ho : o ≤ 1) :
    pDecl z f first (R (dcT d ++ r)) o = .ok ((true, dcZ d), R r) := by
  have h0 := h
  simp only [dcOk, Bool.and_eq_true, decide_eq_true_eq, beq_iff_eq, Bool.not_eq_true', Bool.and_eq_false_iff, decide_eq_false_iff_not] at h0
  have hty : d.init ≠ [] → d.ty ≤ 3 := fun h1 => by
    rcases h0.1.2 with h2 | h2
    · omega
    · exact absurd (List.length_pos_iff.2 h1) h2
  obtain ⟨c1, c2, c3, c4, hc⟩ := dc_cases h
  have hL : (dcT d ++ r).length = (dcT d).length + r.length := List.length_append
  have hr : r.length ≤ (iT d.init r).length := by unfold iT; simp only [List.length_append, List.length_cons]; omega
  have hz0 : ∀ (x : Str) (r : List Str), (nowT z (R (x :: r))).2.2 = 0 := fun _ _ => rfl
  have hB : ∀ X, (bT d.lower d.upper).length + (iT d.init r).length + 1 + X ≤ (dcT d).length + r.length → (∀ x ∈ d.lower, ExF x ∧ Lx x ≤ f) ∧ (∀ x ∈ d.upper, ExF x ∧ Lx x ≤ f) ∧ (∀ x ∈ d.init, ExF x ∧ Lx x ≤ f) := fun X hX =>
    ⟨fun x hx => ⟨hF.2.1 x hx, by have := bT_mem c2 c3 (.inl hx); unfold Lx; omega⟩, fun x hx => ⟨hF.2.2.1 x hx, by have := bT_mem c2 c3 (.inr hx); unfold Lx; omega⟩,
     fun x hx => ⟨hF.2.2.2 x hx, by have := iT_mem c4 hx r; unfold Lx; omega⟩⟩
  have scL : (scT d r).length = (bT d.lower d.upper).length + (iT d.init r).length + 1 := by unfold scT; simp only [List.length_append, List.length_cons]; omega
  have sc : ∀ {ty a : Nat} {size : List Ex}, ty ≠ 3 → d.ty = ty → (bT d.lower d.upper).length + (iT d.init r).length + 1 ≤ (dcT d).length + r.length → pDeclT z f first ty a o size (R (scT d r)) = .ok ((true, ⟨ty, a, d.nm, size, exsZ d.lower, exsZ d.upper, exsZ d.init⟩), R r) := fun {ty a size} h3 ht hX => by
    obtain ⟨b1, b2, b3⟩ := hB 0 (by omega)
    rw [pDeclT, scT, boundsq c2 c3 b1 b2 ho (by rw [hk_name c1]; decide), andR_ok, pDeclU, if_neg h3, declV_q c1 c4 (fun h1 => ⟨hi h1, by have := hty h1; omega⟩) b3 (by omega)]
  rcases hc with ⟨cs, ⟨ct, cT⟩ | ⟨ct, cT⟩⟩ | ⟨x, cs, hx, ⟨ct, cT⟩ | ⟨ct, cT⟩ | ⟨ct, cT⟩⟩ <;> rw [cT] at hL ⊢ <;> simp only [List.length_append, List.length_cons] at hL
  · rw [pDecl, hz0, isW_one1, if_pos rfl, R_cons, List.tail_cons, sc (by decide) ct (by omega)]
    simp [dcZ, ct, cs, exsZ]
  · rw [pDecl, hz0, isW_hd (c := [105, 110, 116]) (by simp), if_neg Bool.false_ne_true, isW_one1, if_pos rfl, R_cons, List.tail_cons, sc (by decide) ct (by omega)]
    simp [dcZ, ct, cs, exsZ]
  · obtain ⟨b1, b2, b3⟩ := hB 0 (by omega)
    have hxF := hF.1 x (by rw [cs]; simp)
    rw [pDecl, hz0, isW_hd (c := [105, 110, 116]) (by simp), if_neg Bool.false_ne_true, isW_hd (c := [114, 101, 97, 108]) (by simp), if_neg Bool.false_ne_true, isW_one1, if_pos rfl, R_cons, List.tail_cons]
    rw [pDeclT, boundsq c2 c3 b1 b2 ho (by show (14 : Nat) ≠ 13; decide), andR_ok, pDeclU, if_pos rfl, sizeq hxF (by unfold Lx; omega) ho, andR_ok, declV_q c1 c4 (fun h1 => ⟨hi h1, by omega⟩) b3 (by omega)]
    simp [dcZ, ct, cs, exsZ]
  · have hxF := hF.1 x (by rw [cs]; simp)
    rw [pDecl, hz0, isW_hd (c := [105, 110, 116]) (by simp), if_neg Bool.false_ne_true, isW_hd (c := [114, 101, 97, 108]) (by simp), if_neg Bool.false_ne_true, isW_hd (c := [118, 101, 99, 116, 111, 114]) (by simp), if_neg Bool.false_ne_true, isW_one1, if_pos rfl, R_cons, List.tail_cons]
    rw [sizeq hxF (by unfold Lx; omega) ho, andR_ok, isW_one1, if_pos rfl, R_cons, List.tail_cons, sc (by decide) ct (by omega)]
    simp [dcZ, ct, cs, exsZ]
  · have hxF := hF.1 x (by rw [cs]; simp)
    rw [pDecl, hz0, isW_hd (c := [105, 110, 116]) (by simp), if_neg Bool.false_ne_true, isW_hd (c := [114, 101, 97, 108]) (by simp), if_neg Bool.false_ne_true, isW_hd (c := [118, 101, 99, 116, 111, 114]) (by simp), if_neg Bool.false_ne_true, isW_one1, if_pos rfl, R_cons, List.tail_cons]
    rw [sizeq hxF (by unfold Lx; omega) ho, andR_ok, isW_hd (c := [105, 110, 116]) (by simp), if_neg Bool.false_ne_true, want_yes isW_one1, R_cons, List.tail_cons, sc (by decide) ct (by omega)]
    simp [dcZ, ct, cs, exsZ]
theorem declsq {first : Bool} : ∀ (l : List Dc), (∀ d ∈ l, dcOk d = true ∧ DcF d ∧ (d.init ≠ [] → first = true)) → ∀ (acc : List Dc) (f o : Nat) (r : List Str), 8 * (dcsT l).length + 1 ≤ f → o ≤ 1 → Tree.hk r < 9 →
    pDecls z f first acc (R (dcsT l ++ r)) o = .ok (acc ++ l.map dcZ, R r)
  | [], _, acc, f, o, r, hf, _, hr => by
    obtain ⟨f, rfl⟩ : ∃ n, f = n + 1 := ⟨f - 1, by omega⟩
    have h1 : ∀ c : Str, 9 ≤ hdK c → isW c (R (dcsT [] ++ r)) = false := fun c hc => isW_hk (by show Tree.hk r ≠ _; omega)
    rw [pDecls_eq, pDecl, h1 [105, 110, 116] (by decide), h1 [114, 101, 97, 108] (by decide), h1 [118, 101, 99, 116, 111, 114] (by decide), h1 [97, 114, 114, 97, 121] (by decide), if_neg Bool.false_ne_true, if_neg Bool.false_ne_true, if_neg Bool.false_ne_true, if_neg Bool.false_ne_true, andR_ok]
    simp [dcsT]
  | d :: l, hl, acc, f, o, r, hf, ho, hr => by
    have h1 : dcsT (d :: l) ++ r = dcT d ++ (dcsT l ++ r) := by simp [dcsT]
    have h2 := hl d (.head _)
    have h3 : (dcsT (d :: l)).length = (dcT d).length + (dcsT l).length := by simp [dcsT]
    have h4 : 0 < (dcT d).length := by
      cases hq : dcT d with
      | nil => have := hk_dc h2.1 []; rw [hq] at this; have h5 : Tree.hk ([] ++ []) = 99 := rfl; omega
      | cons a b => simp
    obtain ⟨f, rfl⟩ : ∃ n, f = n + 1 := ⟨f - 1, by omega⟩
    rw [h1, pDecls_eq, declq h2.1 h2.2.1 h2.2.2 (by omega) ho, andR_ok]
    show (if true = true then _ else _) = _
    rw [if_pos rfl, declsq l (fun d hd => hl d (.tail _ hd)) (acc ++ [dcZ d]) f o r (by omega) ho hr]
    simp
theorem fillq {i : Nat} {b : Bk} (hb : bkOk i b = true) (hF : BkF b) (hi : b.is = true) {f : Nat} {r : List Str} (hf : 8 * (bkT i b).length ≤ f) :
    pFill z f i (R ([123] :: (dcsT b.decls ++ ((smsT b.stmts).flatten ++ [125] :: r)))) 0 = .ok (bkZ b, R r) := by
  have fb := bk_facts hb
  have hL := congrArg List.length (bkT_is (i := i) hi [])
  simp only [List.length_append, List.length_cons, List.length_nil] at hL
  have h0 := hb
  simp only [bkOk, headB, Bool.and_eq_true, List.all_eq_true, Bool.not_eq_true', Bool.and_eq_false_iff, decide_eq_false_iff_not, dgood] at h0
  obtain ⟨⟨⟨⟨_, hg⟩, h4⟩, _⟩, hd⟩ := h0
  have hD : (if i = 4 then .ok (([] : List Dc), R (dcsT b.decls ++ ((smsT b.stmts).flatten ++ [125] :: r))) else pDecls z f (!gv i) [] (R (dcsT b.decls ++ ((smsT b.stmts).flatten ++ [125] :: r))) (0 + 1)) = .ok (b.decls.map dcZ, R ((smsT b.stmts).flatten ++ [125] :: r)) := by
    by_cases h : i = 4
    · have : b.decls = [] := by
        rcases h4 with h4 | h4
        · exact absurd h h4
        · exact List.length_eq_zero_iff.1 (by omega)
      rw [if_pos h, this]; simp [dcsT]
    · rw [if_neg h, declsq b.decls (fun d hd2 => ⟨fb.1 d hd2, hF.1 d hd2, fun h1 => by
        rcases (hd d hd2).2 with h2 | h2
        · rw [h2]; rfl
        · exact absurd (List.length_pos_iff.2 h1) h2⟩) [] f (0 + 1) _ (by omega) (by omega) (hk_sms fb.2.1 _)]
      simp
  rw [pFill, opn_yes isW_one1 (by decide), R_cons, List.tail_cons, pFillD, hD, andR_ok, pFillS]
  cases hgv : gv i with
  | true =>
    have : b.stmts = [] := by
      rcases hg with h2 | h2
      · rw [hgv] at h2; cases h2
      · exact List.length_eq_zero_iff.1 (by omega)
    rw [if_pos rfl, this, show (smsT []).flatten ++ [125] :: r = [125] :: r by simp [smsT], pFillE, want_yes isW_one1, R_cons, List.tail_cons]
    simp [bkZ, this, hi, smsZ]
  | false =>
    have hs := fb.2.1
    rw [smsOk_all, List.all_eq_true] at hs
    rw [if_neg Bool.false_ne_true, smsq b.stmts fb.2.1 (fun s h => smq (hs s h) (hF.2.1 s h)) [] f (0 + 1) r (by omega) (by have := hF.2.2; omega), andR_ok, pFillE, want_yes isW_one1, R_cons, List.tail_cons]
    simp [bkZ, hi]
theorem headq {i last : Nat} (hi : i < 6) (hl : last ≤ i) (r : List Str) : pHead z last (R (headW i ++ [123] :: r)) = .ok ((i, true), R ([123] :: r)) := by
  have : i = 0 ∨ i = 1 ∨ i = 2 ∨ i = 3 ∨ i = 4 ∨ i = 5 := by omega
  rcases this with rfl | rfl | rfl | rfl | rfl | rfl
  · rw [show headW 0 ++ [123] :: r = [100, 97, 116, 97] :: [123] :: r from rfl, pHead, isW_one1, decide_eq_true (by omega), if_pos (show (true && true) = true from rfl), R_cons, List.tail_cons]
  · rw [show headW 1 ++ [123] :: r = [116, 114, 97, 110, 115, 102, 111, 114, 109, 101, 100] :: [100, 97, 116, 97] :: [123] :: r from rfl, pHead, isW_hd (c := [100, 97, 116, 97]) (by simp), Bool.and_false, if_neg Bool.false_ne_true, isW_one1, decide_eq_true (show last < 4 by omega), if_pos (show (true && true) = true from rfl), R_cons, List.tail_cons, isW_one1, decide_eq_true (show last < 2 by omega), if_pos (show (true && true) = true from rfl), R_cons, List.tail_cons]
  · rw [show headW 2 ++ [123] :: r = [112, 97, 114, 97, 109, 101, 116, 101, 114, 115] :: [123] :: r from rfl, pHead, isW_hd (c := [100, 97, 116, 97]) (by simp), Bool.and_false, if_neg Bool.false_ne_true, isW_hd (c := [116, 114, 97, 110, 115, 102, 111, 114, 109, 101, 100]) (by simp), Bool.and_false, if_neg Bool.false_ne_true, isW_one1, decide_eq_true (show last < 3 by omega), if_pos (show (true && true) = true from rfl), R_cons, List.tail_cons]
  · rw [show headW 3 ++ [123] :: r = [116, 114, 97, 110, 115, 102, 111, 114, 109, 101, 100] :: [112, 97, 114, 97, 109, 101, 116, 101, 114, 115] :: [123] :: r from rfl, pHead, isW_hd (c := [100, 97, 116, 97]) (by simp), Bool.and_false, if_neg Bool.false_ne_true, isW_one1, decide_eq_true (show last < 4 by omega), if_pos (show (true && true) = true from rfl), R_cons, List.tail_cons, isW_hd (c := [100, 97, 116, 97]) (by simp), Bool.and_false, if_neg Bool.false_ne_true, want_yes isW_one1, R_cons, List.tail_cons]
  · rw [show headW 4 ++ [123] :: r = [109, 111, 100, 101, 108] :: [123] :: r from rfl, pHead, isW_hd (c := [100, 97, 116, 97]) (by simp), Bool.and_false, if_neg Bool.false_ne_true, isW_hd (c := [116, 114, 97, 110, 115, 102, 111, 114, 109, 101, 100]) (by simp), Bool.and_false, if_neg Bool.false_ne_true, isW_hd (c := [112, 97, 114, 97, 109, 101, 116, 101, 114, 115]) (by simp), Bool.and_false, if_neg Bool.false_ne_true, isW_one1, decide_eq_true (show last < 5 by omega), if_pos (show (true && true) = true from rfl), R_cons, List.tail_cons]
  · rw [show headW 5 ++ [123] :: r = [103, 101, 110, 101, 114, 97, 116, 101, 100] :: [113, 117, 97, 110, 116, 105, 116, 105, 101, 115] :: [123] :: r from rfl, pHead, isW_hd (c := [100, 97, 116, 97]) (by simp), Bool.and_false, if_neg Bool.false_ne_true, isW_hd (c := [116, 114, 97, 110, 115, 102, 111, 114, 109, 101, 100]) (by simp), Bool.and_false, if_neg Bool.false_ne_true, isW_hd (c := [112, 97, 114, 97, 109, 101, 116, 101, 114, 115]) (by simp), Bool.and_false, if_neg Bool.false_ne_true, isW_hd (c := [109, 111, 100, 101, 108]) (by simp), Bool.and_false, if_neg Bool.false_ne_true, isW_one1, decide_eq_true (show last < 6 by omega), if_pos (show (true && true) = true from rfl), R_cons, List.tail_cons, want_yes isW_one1, R_cons, List.tail_cons]
theorem blkq {i : Nat} (hi : i < 6) {b : Bk} (hb : bkOk i b = true) (hF : BkF b) {out : List Bk} (ho : out[i]? = some noBk) {last f : Nat} {r : List Str} {X : Rs (List Bk)} (hl : last ≤ i) (hf : 8 * (bkT i b).length + 1 ≤ f)
    (k : ∀ last' f', last' ≤ i + 1 → f ≤ f' + 8 * (bkT i b).length → pProg z f' last' (out.set i (bkZ b)) (R r) = X) : pProg z f last out (R (bkT i b ++ r)) = X := by
  cases hq : b.is with
  | true =>
    obtain ⟨f, rfl⟩ : ∃ n, f = n + 1 := ⟨f - 1, by omega⟩
    have hL := congrArg List.length (bkT_is (i := i) hq [])
    simp only [List.length_append, List.length_cons, List.length_nil] at hL
    rw [bkT_is hq, pProg_eq, headq hi hl, andR_ok]
    show (if true = true then _ else _) = _
    rw [if_pos rfl, fillq hb hF hq (by omega), andR_ok]
    exact k (i + 1) f (by omega) (by omega)
  | false =>
    have fb := (bk_facts hb).2.2 hq
    have e : out.set i (bkZ b) = out := by
      have h1 : bkZ b = noBk := by unfold bkZ noBk; rw [hq, fb.1, fb.2]; simp [smsZ]
      rw [h1]
      obtain ⟨h2, h3⟩ := List.getElem?_eq_some_iff.1 ho
      rw [← h3]; exact List.set_getElem_self h2
    have := k last f (by omega) (by omega)
    rw [e] at this
    rw [bkT_no hq]; exact this
theorem prog_end {f last : Nat} {out : List Bk} : pProg z (f + 1) last out (R []) = .ok (out, []) := by
  rw [pProg_eq]
  have : pHead z last (R []) = .ok ((0, false), []) := by simp [pHead, R, isW]
  rw [this, andR_ok]; rfl
theorem progq {p : List Bk} (lp : p.length = 6) (hp : pgOk p = true) (hF : ∀ b ∈ p, BkF b) {f : Nat} (hf : 8 * (pgT p).length + 1 ≤ f) : pProg z f 0 (List.replicate 6 noBk) (R (pgT p)) = .ok (p.map bkZ, []) := by
  obtain ⟨a, b, c, d, e, g, rfl⟩ := six lp
  obtain ⟨ha, hb, hc, hd, he, hg⟩ := pgOk_six hp
  have hL := congrArg List.length (pgT_six a b c d e g)
  simp only [List.length_append, List.length_nil] at hL
  rw [pgT_six]
  refine blkq (by decide) ha (hF a (by simp)) rfl (Nat.le_refl _) (by omega) fun l1 f1 i1 j1 => blkq (by decide) hb (hF b (by simp)) rfl i1 (by omega) fun l2 f2 i2 j2 => blkq (by decide) hc (hF c (by simp)) rfl i2 (by omega) fun l3 f3 i3 j3 => blkq (by decide) hd (hF d (by simp)) rfl i3 (by omega) fun l4 f4 i4 j4 => blkq (by decide) he (hF e (by simp)) rfl i4 (by omega) fun l5 f5 i5 j5 => blkq (by decide) hg (hF g (by simp)) rfl i5 (by omega) fun l6 f6 i6 j6 => ?_
  obtain ⟨f6, rfl⟩ : ∃ n, f6 = n + 1 := ⟨f6 - 1, by omega⟩
  rw [prog_end]; rfl
end
end Go.Prs
end

section
namespace Go.Tok.W
open Go.Tok
theorem lex_Sp2 : ∀ (xs : List (Tk × UInt8)), (∀ t ∈ xs, Good t.1 ∧ isSp t.2) → ∀ (u : List UInt8) (x : Rd), x.2 = (0, 0) → x.1.length ≤ 6000 →
    (lexS readN (u ++ Sp xs) (skipTo (u ++ Sp xs) u.length) x).2.1 = 0 → (lexS readN (u ++ Sp xs) (skipTo (u ++ Sp xs) u.length) x).1.map kt = x.1.map kt ++ xs.map (fun t => kt t.1)
  | [], _, u, x, h0, _ => by
    have hJ : Sp [] = [] := rfl
    have hs : skipTo u u.length = u.length := skip_stop (Nat.le_refl _) (atP_out (Nat.le_refl _)) (by rw [cmt, atP_out (Nat.le_refl _)]; rfl)
    rw [hJ, List.append_nil, hs, lexS_stop readN (by omega)]
    intro _; simp
  | (t, c) :: xs, hg, u, x, h0, hn => by
    obtain ⟨⟨s, k, e, hk, htk, htx⟩, hcs⟩ := hg (t, c) (.head _)
    simp only at htk htx hcs
    have h1 := tok_le hk
    rw [htk] at h1
    simp only at h1
    have hke : k < e := h1.2.2 trivial
    have he := h1.2.1
    have hc := tok_cut (bl_Sp hcs (Sp xs)) hk htk
    rw [← htx] at hc
    have hlen : t.2.1.length = e - k := by rw [htx]; exact cut_len he (by omega)
    have hS : Sp ((t, c) :: xs) = t.2.1 ++ c :: Sp xs := by simp [Sp]
    have hw2 : u ++ Sp ((t, c) :: xs) = ((u ++ t.2.1) ++ [c]) ++ Sp xs := by simp [Sp]
    have hs0 : skipTo (t.2.1 ++ c :: Sp xs) 0 = 0 := skip_stop (Nat.zero_le _) hc.2.1 hc.2.2
    have hsk : skipTo (u ++ Sp ((t, c) :: xs)) u.length = u.length := by
      have h2 := skip_sh (u := u) (v := t.2.1 ++ c :: Sp xs) 0
      rw [hs0, Nat.add_zero] at h2
      rw [hS]; exact h2
    have htok := tok_sh (u := u) (v := t.2.1 ++ c :: Sp xs) 0
    have htx2 := tx_sh (u := u) (v := t.2.1 ++ c :: Sp xs) 0
    rw [← hS, Nat.add_zero] at htok htx2
    rw [hS, hc.1] at htok
    have htx3 : tokTx (t.2.1 ++ c :: Sp xs) 0 = t.2.1 := by
      unfold tokTx
      rw [hc.1]
      simp only [List.drop_zero, Nat.sub_zero]
      rw [← hlen, List.take_left']
      rfl
    rw [hS, htx3] at htx2
    rw [← hS] at htok htx2
    have hl2 : u.length < (u ++ Sp ((t, c) :: xs)).length := by rw [hS]; simp; omega
    rw [hsk]
    by_cases hfull : x.1.length < 6000
    · have hN : readN x (tokAt (u ++ Sp ((t, c) :: xs)) u.length).1 (tokTx (u ++ Sp ((t, c) :: xs)) u.length) u.length (tokAt (u ++ Sp ((t, c) :: xs)) u.length).2.2 = ((x.1 ++ [(t.1, t.2.1, u.length)], x.2), true) := by
        rw [htok, htx2]
        simp only
        rw [readN, if_neg (by simp), if_neg (by omega)]
      rw [lexS_go readN readN_no hl2 (by rw [hN]), hN, htok]
      simp only
      have ih := lex_Sp2 xs (fun t ht => hg t (.tail _ ht)) ((u ++ t.2.1) ++ [c]) (x.1 ++ [(t.1, t.2.1, u.length)], x.2) h0 (by simp; omega)
      have hu1 : (u ++ t.2.1).length = u.length + (e - k) := by rw [List.length_append, hlen]
      have hb : atP blankB (u ++ Sp ((t, c) :: xs)) (u.length + (e - k)) = true := by
        unfold atP
        rw [hw2, List.append_assoc, List.getElem?_append_right (by omega), hu1, Nat.sub_self]
        rcases hcs with rfl | rfl <;> rfl
      have hl3 : u.length + (e - k) < (u ++ Sp ((t, c) :: xs)).length := by rw [hS]; simp; omega
      rw [skip_blank hl3 hb, hw2]
      have hu2 : ((u ++ t.2.1) ++ [c]).length = u.length + (e - k) + 1 := by rw [List.length_append, hu1]; rfl
      rw [hu2] at ih
      intro h
      rw [ih h]; simp [kt]
    · have hN : readN x (tokAt (u ++ Sp ((t, c) :: xs)) u.length).1 (tokTx (u ++ Sp ((t, c) :: xs)) u.length) u.length (tokAt (u ++ Sp ((t, c) :: xs)) u.length).2.2 = ((x.1, 6, u.length), false) := by
        rw [htok, htx2]
        simp only
        rw [readN, if_neg (by simp), if_pos (by omega)]
      rw [lexS_end readN hl2 (by rw [hN]), hN]
      intro h; simp at h
end Go.Tok.W
namespace Go.Prs
open Go.Tok Go.Tree Go.Tok.W
theorem sp_toks {xs : List Str} (hx : Tks xs) (h0 : (readP (xs.flatMap sp)).2.1 = 0) : tsZ (readP (xs.flatMap sp)).1 = R xs := by
  have hq : ∃ ts : List (Tk × UInt8), (∀ t ∈ ts, Go.Tok.Good t.1 ∧ isSp t.2) ∧ Sp ts = xs.flatMap sp ∧ ts.map (fun t => kt t.1) = xs.map (fun x => (kd x, x)) := by
    clear h0
    induction xs with
    | nil => exact ⟨[], by simp, rfl, rfl⟩
    | cons x xs ih =>
      obtain ⟨ts, h1, h2, h3⟩ := ih (fun s hs => hx s (.tail _ hs))
      obtain ⟨c, hc1, hc⟩ := sp_is x
      obtain ⟨k, hg⟩ := hx x (.head _)
      refine ⟨((k, x, 0), c) :: ts, fun t ht => ?_, ?_, ?_⟩
      · rcases List.mem_cons.1 ht with rfl | ht
        · exact ⟨hg, hc1⟩
        · exact h1 t ht
      · rw [List.flatMap_cons, hc, ← h2]; simp [Sp]
      · rw [List.map_cons, List.map_cons, h3, ← kd_good hg]; rfl
  obtain ⟨ts, h1, h2, h3⟩ := hq
  have h := lex_Sp2 ts h1 [] ([], 0, 0) rfl (Nat.zero_le _)
  rw [List.nil_append, List.length_nil, h2] at h
  have hS : readS (xs.flatMap sp) = lexS readN (xs.flatMap sp) (skipTo (xs.flatMap sp) 0) ([], 0, 0) := rfl
  rw [← hS] at h
  have hl : ¬ 20000 < (xs.flatMap sp).length := by
    intro hl
    rw [readP_long hl] at h0; cases h0
  have hz : (readS (xs.flatMap sp)).2.1 = 0 := by
    false_or_by_contra
    rename_i hz
    rw [readP_bad hl hz] at h0
    exact hz h0
  have h4 := h hz
  rw [readP_fine hl hz]
  rw [h3, List.map_nil, List.nil_append] at h4
  have h5 : (R xs).map kt = xs.map (fun x => (kd x, x)) := by unfold R; rw [List.map_map]; rfl
  rw [(tsZ_kt (h4.trans h5.symm)).1]
  unfold tsZ R; rw [List.map_map]; rfl
theorem exsZ_len (l : List Ex) : (exsZ l).length = l.length := by rw [exsZ_map, List.length_map]
theorem smsZ_len (l : List Sm) : (smsZ l).length = l.length := by rw [smsZ_map, List.length_map]
mutual
theorem exOk_Z : ∀ e : Ex, exOk (exZ e) = exOk e
  | .mk o a n ks => by rw [exZ, exOk, exOk, exsOk_Z ks, exsZ_len]
theorem exsOk_Z : ∀ l : List Ex, exsOk (exsZ l) = exsOk l
  | [] => by simp [exsZ]
  | e :: l => by rw [exsZ, exsOk, exsOk, exOk_Z e, exsOk_Z l]
end
theorem cmpOk_Z (e : Ex) : cmpOk (exZ e) = cmpOk e := by
  unfold cmpOk; rw [exZ_op, exZ_nm, exZ_kids, exsZ_len, exsOk_Z]
theorem srule_Z (op : Nat) (nm : Str) (ks : List Ex) : sruleOk op nm (exsZ ks) = sruleOk op nm ks := by
  have h : headOk (exsZ ks) = headOk ks := by cases ks with
    | nil => simp [exsZ]
    | cons x l => rw [exsZ]; exact cmpOk_Z x
  unfold sruleOk; rw [exsZ_len, h]
mutual
theorem smOk_Z : ∀ s : Sm, smOk (smZ s) = smOk s
  | .mk o a n ks b e => by rw [smZ, smOk, smOk, srule_Z, exsOk_Z, smsZ_len, smsZ_len, smsOk_Z b, smsOk_Z e]
theorem smsOk_Z : ∀ l : List Sm, smsOk (smsZ l) = smsOk l
  | [] => by simp [smsZ]
  | s :: l => by rw [smsZ, smsOk, smsOk, smOk_Z s, smsOk_Z l]
end
theorem partOk_Z (l : List Ex) : partOk (exsZ l) = partOk l := by unfold partOk; rw [exsZ_len, exsOk_Z]
theorem dcOk_Z (d : Dc) : dcOk (dcZ d) = dcOk d := by unfold dcOk dcZ; simp only [exsZ_len, partOk_Z]
theorem bkOk_Z (i : Nat) (b : Bk) : bkOk i (bkZ b) = bkOk i b := by
  unfold bkOk headB bkZ
  have h : ∀ d, dgood i (dcZ d) = dgood i d := fun d => by
    have : (dcZ d).init.length = d.init.length := exsZ_len _
    unfold dgood; rw [dcOk_Z, this]
  simp only [List.length_map, smsZ_len, smsOk_Z, List.all_map]
  congr 2
  funext d
  exact h d
theorem pgOk_Z (p : List Bk) : pgOk (p.map bkZ) = pgOk p := by
  unfold pgOk
  congr 1
  funext i
  rw [List.getElem?_map]
  cases p[i]? with
  | none => rfl
  | some b => exact bkOk_Z i b
mutual
theorem exZ_Z : ∀ e : Ex, exZ (exZ e) = exZ e
  | .mk o a n ks => by rw [exZ, exZ, exsZ_Z ks]
theorem exsZ_Z : ∀ l : List Ex, exsZ (exsZ l) = exsZ l
  | [] => by simp [exsZ]
  | e :: l => by rw [exsZ, exsZ, exZ_Z e, exsZ_Z l]
end
mutual
theorem smZ_Z : ∀ s : Sm, smZ (smZ s) = smZ s
  | .mk o a n ks b e => by rw [smZ, smZ, exsZ_Z, smsZ_Z b, smsZ_Z e]
theorem smsZ_Z : ∀ l : List Sm, smsZ (smsZ l) = smsZ l
  | [] => by simp [smsZ]
  | e :: l => by rw [smsZ, smsZ, smZ_Z e, smsZ_Z l]
end
theorem bkZ_Z (b : Bk) : bkZ (bkZ b) = bkZ b := by
  unfold bkZ
  simp only [smsZ_Z, List.map_map]
  congr 2
  funext d
  simp [dcZ, exsZ_Z]
theorem writes_law {p : List Bk} (lp : p.length = 6) (hp : pgOk p = true) (hF : ∀ b ∈ p, BkF b) (h0 : (readP (textT (pgT p))).2.1 = 0) :
    ∃ q, parseP (textT (pgT p)) = .ok q ∧ pgSame p q = true ∧ q.length = 6 ∧ pgOk q = true ∧ textT (pgT q) = textT (pgT p) := by
  have hT : tsZ (readP (textT (pgT p))).1 = R (pgT p) := by
    rw [textT_pg] at h0 ⊢
    exact sp_toks (pgT_tks lp hp) h0
  have hRZ : tsZ (R (pgT p)) = R (pgT p) := by unfold tsZ R; rw [List.map_map]; rfl
  have hl : (readP (textT (pgT p))).1.length = (pgT p).length := by
    have := congrArg List.length hT
    unfold tsZ R at this; rwa [List.length_map, List.length_map] at this
  have key := prog_same (z := (textT (pgT p)).length) (z2 := 0) (n := fuel (readP (textT (pgT p))).1) (hT.trans hRZ.symm)
  have e1 : parseP (textT (pgT p)) = andR (pProg (textT (pgT p)).length (fuel (readP (textT (pgT p))).1) 0 (List.replicate 6 noBk) (readP (textT (pgT p))).1) endR := face_go h0
  rw [← e1, progq lp hp hF (by unfold fuel; omega), andR_ok] at key
  have e2 : endR (p.map bkZ) [] = .ok (p.map bkZ) := rfl
  rw [e2] at key
  cases hq : parseP (textT (pgT p)) with
  | error e => rw [hq] at key; simp [mapZ] at key
  | ok q =>
    rw [hq] at key
    simp only [mapZ, Except.ok.injEq, List.map_map] at key
    have hz : (bkZ ∘ bkZ) = bkZ := funext bkZ_Z
    rw [hz] at key
    have hlq : q.length = 6 := by
      have := congrArg List.length key
      rw [List.length_map, List.length_map] at this; omega
    have hsame := pgSame_Z p q key.symm
    exact ⟨q, rfl, hsame, hlq, by rw [← pgOk_Z q, key, pgOk_Z]; exact hp, by rw [pgT_same lp hlq hsame]⟩
end Go.Prs
end

section
namespace Go.Proofs.YtaniogadknakoaaGreatDoor
open Go.RowKit Go.Sx
open Go.Tok Go.Tree Go.Prs


theorem R_max3 {P : Program} {ρ : Operand → Value} {w : World} {D : Option Tmp} {ty : TypeId} {pos : String} {aft : Array Edge} {g : Option (Nat × Bool)} {x y z : Operand} {k : IntKind} {i j l : Int} {tys : Array TypeId} (hx : ρ x = .int k i) (hy : ρ y = .int k j) (hz : ρ z = .int k l) :
    Run P ⟨D, .call ⟨.builtin .max, #[x, y, z], tys⟩, ty, pos, aft, g⟩ ρ w (.int k (max (max i j) l)) w := by
  have h1 : (if (if i < j then j else i) < l then l else (if i < j then j else i)) = max (max i j) l := by repeat' split <;> omega
  rw [← h1]
  simp [Run, execOp, hx, hy, hz, go_sem, resolve, invoke, builtin, Builtin.max_, Builtin.max2]
mutual
theorem hgt_le : ∀ e : Ex, hgt e ≤ exW e
  | .mk _ _ _ ks => by have := hgts_le ks; rw [hgt, exW]; omega
theorem hgts_le : ∀ l : List Ex, hgts l ≤ exsW l + l.length
  | [] => by simp [hgts]
  | e :: l => by have := hgt_le e; have := hgts_le l; rw [hgts, exsW, List.length_cons]; omega
end
theorem hgts_app (l m : List Ex) : hgts (l ++ m) = max (hgts l) (hgts m) := by
  induction l with
  | nil => simp [hgts]
  | cons x l ih => rw [List.cons_append, hgts, hgts, ih]; omega
theorem hgts_next {l : List Ex} {k : Nat} {x : Ex} (h : l[k]? = some x) : hgts (l.take (k + 1)) = max (hgts (l.take k)) (1 + hgt x) := by
  obtain ⟨hk, hg⟩ := List.getElem?_eq_some_iff.1 h
  rw [List.take_succ_eq_append_getElem hk, hgts_app, hg, hgts_one]
theorem hgt2_next {l : List Ex} {k : Nat} {x : Ex} (h : l[k]? = some x) : hgt2 (l.take (k + 1)) = max (hgt2 (l.take k)) (2 + hgt x) := by
  obtain ⟨hk, hg⟩ := List.getElem?_eq_some_iff.1 h
  have h1 : l.take (k + 1) ≠ [] := fun h1 => by
    have h2 := congrArg List.length h1
    rw [List.length_take, List.length_nil] at h2; omega
  unfold hgt2
  rw [if_neg h1, hgts_next h]
  split
  · rename_i h2; rw [h2, hgts]; omega
  · omega
theorem hgt2_le (l : List Ex) : hgt2 l ≤ exsW l + l.length + 1 := by
  have := hgts_le l
  unfold hgt2; split <;> omega
mutual
theorem shgt_le : ∀ s : Sm, shgt s ≤ smW s
  | .mk _ _ _ ks b e => by have := hgt2_le ks; have := shgts_le b; have := shgts_le e; rw [shgt, smW]; omega
theorem shgts_le : ∀ l : List Sm, shgts l ≤ smsW l + l.length
  | [] => by simp [shgts]
  | s :: l => by have := shgt_le s; have := shgts_le l; rw [shgts, smsW, List.length_cons]; omega
end
theorem shgts_app (l m : List Sm) : shgts (l ++ m) = max (shgts l) (shgts m) := by
  induction l with
  | nil => simp [shgts]
  | cons x l ih => rw [List.cons_append, shgts, shgts, ih]; omega
theorem shgts_next {l : List Sm} {k : Nat} {x : Sm} (h : l[k]? = some x) : shgts (l.take (k + 1)) = max (shgts (l.take k)) (shgt x) := by
  obtain ⟨hk, hg⟩ := List.getElem?_eq_some_iff.1 h
  rw [List.take_succ_eq_append_getElem hk, shgts_app, hg, shgts, shgts]; omega
def DeepP (n : Nat) : Prop := ∀ (x : Ex) (cs : List Value) (N : Nat → Prop) (w : World), exW x < n → exM w N x cs →
    Ret Tryz.prog 18 #[.agg cs.toArray] w fun v w' => v = .int .i64 (hgt x : Nat) ∧ Ext w w'
def DeepOfP (n : Nat) : Prop := ∀ (l : List Sm) (a : Option Addr) (c : Nat) (N : Nat → Prop) (w : World), smsW l < n → l.length ≤ 10000000 → smsM w N l a 0 →
    Ret Tryz.prog 17 #[.slice a l.length c] w fun v w' => v = .int .i64 (shgts l : Nat) ∧ Ext w w'

theorem deep_step (n : Nat) (ih : DeepP n) (hN : n ≤ 10000000) (x : Ex) (cs : List Value) (N : Nat → Prop) (w : World) (hx : exW x < n + 1) (hm : exM w N x cs) :
    Ret Tryz.prog 18 #[.agg cs.toArray] w (fun v w' => v = .int .i64 (hgt x : Nat) ∧ Ext w w') := by
  obtain ⟨op, at_, nm, ks⟩ := x
  have hm2 := hm
  unfold exM at hm2
  obtain ⟨ka, kc, rfl, hkc, hks⟩ := hm2
  have hx2 := hx
  unfold exW at hx2
  refine enter (S := No) (l := [_]) (L := []) 22 Tryz.func18 rfl rfl rfl (St.start w No) (yA (w_boxA rfl (fun t1b gt1b ut1b => aI rfl (yC (aI rfl (yB (zq (yA (aI rfl (yB (zB (c_loop (fun m e B L => ∃ (k q : Nat), e 1 = .pointer (some ⟨t1b, 0, none⟩) ∧ e 3 = .int .i64 (q : Nat) ∧ e 4 = .int .i64 (k : Nat) ∧ B = [(w, No)] ∧ L = [(t1b, cel [.int .u8 (op : Nat), .int .i64 at_, str nm, .slice ka ks.length kc] 39)] ∧ k ≤ ks.length ∧ q = hgts (ks.take k) ∧ m = ks.length - k) _ ⟨0, 0, rfl, rfl, rfl, rfl, rfl, Nat.zero_le _, rfl, rfl⟩ ?_))))))))))))
  rintro m e B L ⟨k, q, e1_1, e3_1, e4_1, rfl, rfl, hk, hmm, rfl⟩
  refine zq (yA (mI e4_1 (zf fa39_3 e1_1 (zL 0 z37 rfl rfl rfl (zg (fun _ => R_len sl37 rfl) (zg (fun _ => R_lt rfl rfl) (yB ?_))))))); refine zD rfl (fun h2 => ?_) (fun h2 => ?_)
  · have hlt : k < ks.length := (by omega); obtain ⟨y, hyk⟩ : ∃ y, ks[k]? = some y := ⟨_, List.getElem?_eq_getElem hlt⟩; obtain ⟨cy, hB, hY⟩ := hks.get0 hyk; have hyn := exsW_mem (List.mem_of_getElem? hyk); have hyh := hgt_le y; obtain ⟨b2, o2, rfl⟩ := hB.ptr; obtain ⟨op2, at2, nm2, ks2⟩ := y; have hY2 := hY; unfold exM at hY2; obtain ⟨ka2, kc2, rfl, hkc2, hks2⟩ := hY2
    refine zi (zk (zq (zB (zr (mI e3_1 (zf fa39_3 e1_1 (zL 0 z37 rfl rfl rfl (mI e4_1 (zg (fun _ => R_iaN (i := k) sl37 rfl rfl (by omega)) (w_loadC (l := [.int .u8 (op2 : Nat), .int .i64 at2, str nm2, .slice ka2 ks2.length kc2]) z39 rfl rfl (fun w h j v hj => hB.cell (fun _ _ hh => hh) zm0 h j v hj) (zC (fun w => zR Tryz.func18 rfl rfl rfl) rfl rfl (fun w h => ih _ _ N w (by omega) (hY.now (fun _ _ hh => hh) zm0 h)) (zg (fun _ => R_addi rfl rfl (by omega)) (zg (fun _ => R_max rfl rfl) (aI rfl (zn (zO (zk (zr (mI e4_1 (zg (fun _ => R_addi rfl rfl (by omega)) (aI rfl (zn ?_))))))))))))))))))))))
    have hfin : (if ((q : Nat) : Int) < 1 + ((hgt (.mk op2 at2 nm2 ks2) : Nat) : Int) then 1 + ((hgt (.mk op2 at2 nm2 ks2) : Nat) : Int) else ((q : Nat) : Int)) = ((hgts (ks.take (k + 1)) : Nat) : Int) := by rw [hgts_next hyk, ← hmm]; split <;> omega
    exact k_again _ (by omega) ⟨k + 1, hgts (ks.take (k + 1)), e1_1, (congrArg (Value.int .i64) hfin), rfl, rfl, rfl, by omega, rfl, rfl⟩
  · refine zX (zx (zx (b_here rfl (zk (yA (mI e3_1 (aI rfl (yB (ze (zo (v := .int _ _) rfl rfl rfl ?_)))))))))); exact fun w' hw => ⟨by rw [hmm, List.take_of_length_le (by omega), hgt], hw.fr _ zm0⟩


theorem deep_all : ∀ n : Nat, n ≤ 10000000 → DeepP n
  | 0, _ => fun _ _ _ _ h => absurd h (Nat.not_lt_zero _)
  | n + 1, h => fun x cs N w hx hm => by obtain ⟨op, at_, nm, ks⟩ := x; exact deep_step n (deep_all n (by omega)) (by omega) _ cs N w hx hm
theorem deep_ok : DeepP 10000000 := deep_all _ (Nat.le_refl _)

theorem deepOf_step (n : Nat) (ih : DeepOfP n) (hN : n ≤ 10000000) (l : List Sm) (a : Option Addr) (c : Nat) (N : Nat → Prop) (w : World) (hl : smsW l < n + 1) (hll : l.length ≤ 10000000) (hm : smsM w N l a 0) :
    Ret Tryz.prog 17 #[.slice a l.length c] w (fun v w' => v = .int .i64 (shgts l : Nat) ∧ Ext w w') := by
  refine enter (S := No) (l := [_]) (L := []) 51 Tryz.func17 rfl rfl rfl (St.start w No) (yA (aI rfl (yC (aI rfl (yB (zq (yA (aI rfl (yB (zB (c_loop (fun m e B L => ∃ (k q : Nat), e 0 = .slice a l.length c ∧ e 3 = .int .i64 (q : Nat) ∧ e 4 = .int .i64 (k : Nat) ∧ B = [(w, No)] ∧ L = [] ∧ k ≤ l.length ∧ q = shgts (l.take k) ∧ m = l.length - k) _ ⟨0, 0, rfl, rfl, rfl, rfl, rfl, Nat.zero_le _, rfl, rfl⟩ ?_)))))))))))
  rintro m e B L ⟨k, q, e0_1, e3_1, e4_1, rfl, rfl, hk, hmm, rfl⟩
  refine zq (yA (mI e4_1 (mS e0_1 (zg (fun _ => R_len sl24 rfl) (zg (fun _ => R_lt rfl rfl) (yB ?_)))))); refine zD rfl (fun h1 => ?_) (fun h1 => ?_)
  · have hlt : k < l.length := (by omega); obtain ⟨x, hxk⟩ : ∃ x, l[k]? = some x := ⟨_, List.getElem?_eq_getElem hlt⟩; obtain ⟨cs, hA, hE⟩ := hm.get0 hxk; have hxn := smsW_mem (List.mem_of_getElem? hxk); have hle := smsN_take l (k + 1); have hnx := smsN_next hxk; have hlN := smsN_le l; obtain ⟨b1, o1, rfl⟩ := hA.ptr; obtain ⟨op, at_, nm, ks, bo, el⟩ := x; have hE2 := hE; unfold smM at hE2; obtain ⟨ka, kc, ba, bc, ea, ec, rfl, hkc, hks, hbo, hel⟩ := hE2; have hxw := hxn; unfold smW at hxw; have hxN := hnx; unfold smN at hxN; have hkN := exsN_le ks; have hB1 := shgts_le bo; have hE1 := shgts_le el
    refine zi (zk (zq (zB (zq (yA (aI rfl (yB (zB ?_)))))))); refine c_loop (fun m e B L => ∃ (j q2 : Nat), e 0 = .slice (some ⟨b1, o1, none⟩) l.length c ∧ e 3 = .int .i64 (q2 : Nat) ∧ e 4 = .int .i64 (k : Nat) ∧ e 5 = .int .i64 (j : Nat) ∧ B = [(w, No)] ∧ L = [] ∧ j ≤ ks.length ∧ q2 = max q (hgt2 (ks.take j)) ∧ m = ks.length - j) _ ⟨0, q, e0_1, e3_1, e4_1, rfl, rfl, rfl, Nat.zero_le _, by simp [hgt2], rfl⟩ ?_
    rintro m e B L ⟨j, q2, e0_2, e3_2, e4_2, e5_2, rfl, rfl, hj, hm2, rfl⟩
    refine zq (yA (mI e5_2 (mS e0_2 (mI e4_2 (zg (fun _ => R_iaN (i := k) sl24 rfl rfl (by omega)) (zf fa76_3 rfl (zl z37 rfl (fun _ h => hA.cell (fun _ _ hh => hh) zm0 h 3 _ rfl) (zg (fun _ => R_len sl37 rfl) (zg (fun _ => R_lt rfl rfl) (yB ?_)))))))))); refine zD rfl (fun h2 => ?_) (fun h2 => ?_)
    · have hlt2 : j < ks.length := (by omega); obtain ⟨y, hyk⟩ : ∃ y, ks[j]? = some y := ⟨_, List.getElem?_eq_getElem hlt2⟩; obtain ⟨cy, hB, hY⟩ := hks.get0 hyk; have hyn := exsW_mem (List.mem_of_getElem? hyk); have hyh := hgt_le y; obtain ⟨b2, o2, rfl⟩ := hB.ptr; obtain ⟨op2, at2, nm2, ks2⟩ := y; have hY2 := hY; unfold exM at hY2; obtain ⟨ka2, kc2, rfl, hkc2, hks2⟩ := hY2
      refine zi (zk (zq (zB (zr (mI e3_2 (mS e0_2 (mI e4_2 (zg (fun _ => R_iaN (i := k) sl24 rfl rfl (by omega)) (zf fa76_3 rfl (zl z37 rfl (fun _ h => hA.cell (fun _ _ hh => hh) zm0 h 3 _ rfl) (mI e5_2 (zg (fun _ => R_iaN (i := j) sl37 rfl rfl (by omega)) (w_loadC (l := [.int .u8 (op2 : Nat), .int .i64 at2, str nm2, .slice ka2 ks2.length kc2]) z39 rfl rfl (fun w h j v hj => hB.cell (fun _ _ hh => hh) zm0 h j v hj) (zC (fun w => zR Tryz.func18 rfl rfl rfl) rfl rfl (fun w h => deep_ok _ _ N w (by omega) (hY.now (fun _ _ hh => hh) zm0 h)) (zg (fun _ => R_addi rfl rfl (by omega)) (zg (fun _ => R_max rfl rfl) (aI rfl (zn (zO (zk (zr (mI e5_2 (zg (fun _ => R_addi rfl rfl (by omega)) (aI rfl (zn ?_)))))))))))))))))))))))))
      have hfin : (if ((q2 : Nat) : Int) < 2 + ((hgt (.mk op2 at2 nm2 ks2) : Nat) : Int) then 2 + ((hgt (.mk op2 at2 nm2 ks2) : Nat) : Int) else ((q2 : Nat) : Int)) = ((max q (hgt2 (ks.take (j + 1))) : Nat) : Int) := by rw [hgt2_next hyk]; split <;> omega
      exact k_again _ (by omega) ⟨j + 1, max q (hgt2 (ks.take (j + 1))), e0_2, (congrArg (Value.int .i64) hfin), e4_2, rfl, rfl, rfl, by omega, rfl, rfl⟩
    · refine zX (zx (zx (b_here rfl (zk (c_held (St [(w, No)] []) mixed (zh2 0 rfl rfl (fun w h => h) (fun w h => R_move e3_2) (zh2 1 rfl rfl (fun w h => h) (fun w h => R_move e0_2) (zh2 2 rfl rfl (fun w h => h) (fun w h => R_move e4_2) (zh2 3 rfl rfl (fun w h => h) (fun w h => R_iaN (i := k) sl24 rfl rfl (by omega)) (zh2 4 rfl rfl (fun w h => h) (fun w h => R_fa fa76_4 rfl) ?_)))))))))); refine zh2 5 rfl rfl (fun w h => h) (fun w h => R_ld1 z24 rfl (by exact hA.cell (fun _ _ hh => hh) zm0 h 4 _ rfl)) ?_; refine zh2 8 rfl rfl (fun w h => h) (fun w h => R_move e0_2) (zh2 9 rfl rfl (fun w h => h) (fun w h => R_move e4_2) ?_)
      refine zh2 10 rfl rfl (fun w h => h) (fun w h => R_iaN (i := k) sl24 rfl rfl (by omega)) (zh2 11 rfl rfl (fun w h => h) (fun w h => R_fa fa76_5 rfl) ?_); refine zh2 12 rfl rfl (fun w h => h) (fun w h => R_ld1 z24 rfl (by exact hA.cell (fun _ _ hh => hh) zm0 h 5 _ rfl)) ?_; refine h_pure 6 rfl (by kernel_rfl) rfl rfl (fun w h => h) (fun w => zR Tryz.func17 rfl rfl rfl) (fun w h => ih bo ba bc N w (by omega) (by omega) (hbo.now (fun _ _ hh => hh) zm0 h)) (zh2 7 rfl rfl (fun w h => h) (fun w h => R_addi rfl rfl (by omega)) (h_pure 13 rfl (by kernel_rfl) rfl rfl (fun w h => h) (fun w => zR Tryz.func17 rfl rfl rfl) (fun w h => ih el ea ec N w (by omega) (by omega) (hel.now (fun _ _ hh => hh) zm0 h)) ?_))
      refine zh2 14 rfl rfl (fun w h => h) (fun w h => R_addi rfl rfl (by omega)) (zh2 15 rfl rfl (fun w h => h) (fun w h => R_max3 rfl rfl rfl) (zh2 16 rfl rfl (fun w h => h) (fun w h => R_assign rfl) (zN2 (fun w h => h) (zO (zk (zr (mI e4_2 (zg (fun _ => R_addi rfl rfl (by omega)) (aI rfl (zn ?_))))))))))
      have hfin : max (max ((q2 : Nat) : Int) (1 + ((shgts bo : Nat) : Int))) (1 + ((shgts el : Nat) : Int)) = ((shgts (l.take (k + 1)) : Nat) : Int) := by rw [shgts_next hxk, ← hmm, shgt]; rw [List.take_of_length_le (by omega)] at hm2; omega
      exact k_again _ (by omega) ⟨k + 1, shgts (l.take (k + 1)), e0_2, (congrArg (Value.int .i64) hfin), rfl, rfl, rfl, by omega, rfl, rfl⟩
  · refine zX (zx (zx (b_here rfl (zk (yA (mI e3_1 (aI rfl (yB (ze (zo (v := .int _ _) rfl rfl rfl ?_)))))))))); exact fun w' hw => ⟨by rw [hmm, List.take_of_length_le (by omega)], hw.fr _ zm0⟩


theorem deepOf_all : ∀ n : Nat, n ≤ 10000000 → DeepOfP n
  | 0, _ => fun _ _ _ _ _ h => absurd h (Nat.not_lt_zero _)
  | n + 1, h => deepOf_step n (deepOf_all n (by omega)) (by omega)
theorem deepOf_ok : DeepOfP 10000000 := deepOf_all _ (Nat.le_refl _)
end Go.Proofs.YtaniogadknakoaaGreatDoor
end

section
namespace Go.Sx
open Go.RowKit Go.Tree
theorem own_lit0 {T : TypeId} {k : Nat} {q : Nat} : Own T k (.slice (some ⟨q, 0, none⟩) 0 0) [] 0 [(q, cel [] T)] := ⟨by simp, .inr ⟨q, 0, [], rfl, Nat.le_refl _, by simp, by simp⟩⟩
theorem Mc.app {α : Type} {k : Nat} {M : World → (Nat → Prop) → α → List Value → Prop} {W : World} {N : Nat → Prop} {l l2 : List α} {xs ys : List Value} (h : Mc k M W N l xs) (hx : xs.length = l.length * k) (h2 : Mc k M W N l2 ys) : Mc k M W N (l ++ l2) (xs ++ ys) := by
  intro j u hu
  rcases Nat.lt_or_ge j l.length with h3 | h3
  · rw [List.getElem?_append_left h3] at hu
    have h4 := h j u hu
    have h5 : (j + 1) * k ≤ l.length * k := Nat.mul_le_mul_right _ h3
    rw [Nat.add_mul, Nat.one_mul] at h5
    rw [List.drop_append_of_le_length (by omega), List.take_append_of_le_length (by rw [List.length_drop]; omega)]
    exact h4
  · rw [List.getElem?_append_right h3] at hu
    have h4 := h2 _ u hu
    have h5 : j * k = xs.length + (j - l.length) * k := by rw [hx, ← Nat.add_mul]; congr 1; omega
    rw [h5, ← List.drop_drop, List.drop_left]
    exact h4
section
variable {P : Program} {ops : Array Oper} {Q : Exit → Act → World → Prop} {c : Cf} {e : Env} {B : Base} {L : Heap} {d : Nat} {x y : Operand} {T : TypeId} {p : String} {ed : Array Edge} {t te bytes : Nat} {z v : Value} {xs : List Value} {W : Heap} {q fuel : Nat} {S : World → Prop} {listed : Array Bool}
theorem o_bslice0 {T : TypeId} {pp : String} {ed : Array Edge} {t el k bytes i : Nat} {z : Value} (hi : ops[i]? = some ⟨some d, .buildSlice t 0 #[], T, pp, ed, none⟩) (hT : slT P t el k bytes z)
    (h : ∀ b, (∀ x ∈ L, x.1 < b) → (∀ x ∈ B, x.1.heap.size ≤ b) → WH P ops c Q S fuel (listed.setIfInBounds i true) (upd e d (.slice (some ⟨b, 0, none⟩) 0 0)) B ((b, cel [] el) :: L)) : WO P ops c Q S fuel listed i e B L := by
  obtain ⟨ti, ht, hti, hsize, hby, hz, hzs⟩ := slT_spec hT
  refine o_val hi rfl rfl (fun w hw => ⟨_, _, B, _, ?_, hw.new, h w.heap.size (fun p hp => lt_of_blk (hw.own p hp)) (fun x hx => (hw.fr x hx).size)⟩)
  unfold Run
  simp only [execOp, Instr.buildSlice, Sem.run_bind, run_underlying ht, Result.andThen_ok, sizeOf, typeInfo, run_program, hti, Sem.run_pure, Nat.zero_mul]
  have h0 : Array.range 0 = (#[] : Array Nat) := Array.eq_empty_of_size_eq_zero (by simp)
  simp [newRow, run_newObj, Result.andThen, Instr.fill, cel]
  rw [h0]; simp
theorem o_exsM {X : Bw} {s0 : Nat} {ys : List Ex} {a : Option Addr} {cp n : Nat} (hq : ops[q]? = some ⟨some d, .call ⟨.builtin .append, #[x, y], #[t, t]⟩, T, p, ed, none⟩) (hT : slT P t te 4 bytes z) (hx : ev c.n e x = v) (hv : Own te 4 v xs n W) (hy : ev c.n e y = .slice a ys.length cp) (hK : exsM X.1 (Nb s0 X) ys a 0) (hX : X ∈ B) (hn : n + ys.length ≤ 8000000) (hby : bytes ≤ 1000)
    (h : ∀ news v' W', Kt X s0 (Mc 4 exM) ys news → news.length = ys.length * 4 → Own te 4 v' (xs ++ news) (n + ys.length) W' → WH P ops c Q S fuel (listed.setIfInBounds q true) (upd e d v') B (L ++ W')) : WO P ops c Q S fuel listed q e B (W ++ L) := by
  by_cases h0 : ys = []
  · subst h0
    obtain ⟨i, ht, hi, hsz, _, _, _⟩ := slT_spec hT
    obtain ⟨a1, c1, rfl⟩ := hv.slice
    refine o_val hq rfl rfl fun w hw => ?_
    have hs : Src P i.size t (.slice a 0 cp) 0 [] w := ⟨.inl ⟨te, ht⟩, fun _ => rfl, by cases a <;> simp [Builtin.firstCells, go_sem], by cases a <;> simp [Builtin.firstCells, go_sem], by simp, by simp⟩
    have hr := _root_.Go.run_append_nothing (P := P) w t t T te i ht hi a1 n c1 (Own.le hv) _ hs
    exact ⟨_, _, B, _, R_append hx hy hr, hw.perm List.perm_append_comm, h [] _ W Mc.nil rfl (by simpa using hv)⟩
  · have hl : 0 < ys.length := List.length_pos_iff.2 h0
    obtain ⟨y0, l, rfl⟩ := List.exists_cons_of_ne_nil h0
    have h3 := hK
    unfold exsM at h3
    obtain ⟨⟨_, ⟨q2, o, ha, _, _⟩, _⟩, _⟩ := h3
    subst ha
    obtain ⟨news, g1, g2, g3, g4, g5⟩ := exs_row _ _ hK
    have hq2 := g5 h0
    refine o_val hq rfl rfl fun w hw => ?_
    obtain ⟨v', w', L2, k1, k2, k3⟩ := app_run (ρ := ev c.n e) (D := some d) (g := none) (x := x) (y := y) (T := T) (p := p) (ed := ed) (A := []) (L := L) (news := news) hT (by decide) hx (hv.toR [] L) hy g1 (fun w hw j u hj => cel_old hX (g3 j u hj) hq2.2.2 hw) g2 hl (by omega)
      (Nat.le_trans (Nat.mul_le_mul hn hby) (by decide)) hw
    obtain ⟨W', k4, rfl⟩ := k2.own
    exact ⟨v', w', B, _, k1, St.perm k3 (by rw [List.nil_append]; exact List.perm_append_comm), h news v' W' g4 g1 k4⟩
end
theorem cell_lt {w : World} {b o : Nat} {v : Value} (h : w.cell? ⟨b, o, none⟩ = some v) : b < w.heap.size := by
  cases hq : w.heap[b]? with
  | none => simp [World.cell?, hq] at h
  | some o => exact lt_of_blk hq
mutual
theorem exM.nb {w : World} {N : Nat → Prop} : ∀ (e : Ex) (cs : List Value), exM w N e cs → exM w (Nb 0 (w, No)) e cs
  | .mk op at_ nm ks, cs, h => by
    unfold exM at h ⊢
    obtain ⟨a, c, h1, h2, h3⟩ := h
    exact ⟨a, c, h1, h2, exsM.nb ks a 0 h3⟩
theorem exsM.nb {w : World} {N : Nat → Prop} : ∀ (l : List Ex) (a : Option Addr) (i : Nat), exsM w N l a i → exsM w (Nb 0 (w, No)) l a i
  | [], _, _, _ => by unfold exsM; trivial
  | e :: l, a, i, h => by
    unfold exsM at h ⊢
    obtain ⟨⟨cs, ⟨b, o, ha, hb, hc⟩, h2⟩, h3⟩ := h
    have hlt : b < w.heap.size := by
      obtain ⟨op, at_, nm, ks⟩ := e
      have h4 := h2
      unfold exM at h4
      obtain ⟨a1, c1, rfl, _⟩ := h4
      exact cell_lt (hc 0 _ rfl)
    exact ⟨⟨cs, ⟨b, o, ha, ⟨Nat.zero_le _, hlt, fun h => h⟩, hc⟩, exM.nb e cs h2⟩, exsM.nb l a (i + 4) h3⟩
end
end Go.Sx
end

section
namespace Go.Proofs.YtaniogadknakoaaGreatDoor
open Go.RowKit Go.Sx
open Go.Tok Go.Tree Go.Prs


def DcD (q : Nat) (d : Dc) : Prop := ∀ x ∈ ((d.size ++ d.lower) ++ d.upper) ++ d.init, 2 + hgt x ≤ q
def BkD (b : Bk) : Prop := shgts b.stmts ≤ 20 ∧ ∀ d ∈ b.decls, DcD 20 d
theorem DcD.mono {q q2 : Nat} {d : Dc} (h : DcD q d) (hq : q ≤ q2) : DcD q2 d := fun x hx => Nat.le_trans (h x hx) hq
theorem ex_le {l : List Ex} {j q : Nat} {y : Ex} (h : ∀ x ∈ l.take j, 2 + hgt x ≤ q) (hy : l[j]? = some y) : ∀ x ∈ l.take (j + 1), 2 + hgt x ≤ max q (2 + hgt y) := by
 obtain ⟨hk, hg⟩ := List.getElem?_eq_some_iff.1 hy
 intro x hx
 rw [List.take_succ_eq_append_getElem hk, hg] at hx
 rcases List.mem_append.1 hx with h1 | h1
 ·have := h x h1; omega
 ·obtain rfl : x = y := by simpa using h1
  omega
theorem next_all {α : Type} {p : α → Prop} {l : List α} {k : Nat} {y : α} (h : ∀ x ∈ l.take k, p x) (hy : l[k]? = some y) (hp : p y) : ∀ x ∈ l.take (k + 1), p x := by
 obtain ⟨hk, hg⟩ := List.getElem?_eq_some_iff.1 hy
 intro x hx
 rw [List.take_succ_eq_append_getElem hk, hg] at hx
 rcases List.mem_append.1 hx with h1 | h1
 ·exact h x h1
 ·obtain rfl : x = y := by simpa using h1
  exact hp
theorem bkF_of {i : Nat} {b : Bk} (hok : bkOk i b = true) (hl : bkLong b = false) (h : BkD b) : BkF b := by
 have f := bk_facts hok
 unfold bkLong at hl
 simp only [Bool.or_eq_false_iff, smsLong_any, List.any_eq_false, Bool.not_eq_true] at hl
 refine ⟨fun d hd => ?_, hl.1, h.1⟩
 have h1 := f.1 d hd
 simp only [dcOk, partOk, Bool.and_eq_true, exsOk_all, List.all_eq_true] at h1
 obtain ⟨_, h3, h4, h5, h6⟩ := h1
 have h2 := hl.2 d hd
 unfold dcLong at h2
 simp only [Bool.or_eq_false_iff, exsLong_any, List.any_eq_false, Bool.not_eq_true] at h2
 obtain ⟨⟨⟨⟨_, g3⟩, g4⟩, g5⟩, g6⟩ := h2
 have h7 := h.2 d hd
 refine ⟨fun x hx => ⟨h3.2 x hx, g3 x hx, h7 x (by simp [hx])⟩, fun x hx => ⟨h4.2 x hx, g4 x hx, h7 x (by simp [hx])⟩, fun x hx => ⟨h5.2 x hx, g5 x hx, h7 x (by simp [hx])⟩, fun x hx => ⟨h6.2 x hx, g6 x hx, h7 x (by simp [hx])⟩⟩
theorem pgF_of {p : List Bk} (lp : p.length = 6) (hok : pgOk p = true) (hs : pgSmall p = true) (h : ∀ b ∈ p, BkD b) : ∀ b ∈ p, BkF b := by
 intro b hb
 obtain ⟨i, hi⟩ := List.getElem?_of_mem hb
 have h1 := hok
 unfold pgOk at h1
 rw [List.all_eq_true] at h1
 have hi6 : i < 6 := by have := (List.getElem?_eq_some_iff.1 hi).1; omega
 have h2 := h1 i (List.mem_range.2 hi6)
 rw [hi] at h2
 unfold pgSmall pgLong at hs
 simp only [Bool.and_eq_true, Bool.not_eq_true', List.any_eq_false, Bool.not_eq_true] at hs
 exact bkF_of h2 (hs.2 b hb) (h b hb)
theorem writeq {q : List Bk} {cs : List Value} {N : Nat → Prop} {w : World} {st : Str} (hp : ∀ b ∈ q, bkW b ≤ 1048576) (hm : pgM w N q cs) (hW : Wd w) (hok : pgOk q = true) (ht : textT (pgT q) = st) : Ret Tryz.prog 19 #[.agg cs.toArray] w fun v w' => v = .tuple #[str st, .int .i64 0] ∧ Ext w w' := by
 have hl := pgT_len hp
 have h := Write_spec q cs N w (fun b hb => Nat.lt_of_le_of_lt (hp b hb) (by decide)) hm hW hl.1 hl.2
 rw [hok, ht] at h
 exact h
theorem cell_run {xs : List Value} {j : Nat} {l : List Value} (h : (xs.drop (j * 4)).take 4 = l) (q : Nat) (u : Value) (hq : l[q]? = some u) : xs[j * 4 + q]? = some u := by
 rw [← h, List.getElem?_take] at hq
 split at hq
 ·rwa [List.getElem?_drop] at hq
 ·cases hq


theorem writes13_walk (pg : List Bk) (cs : List Value) (N : Nat → Prop) (w : World) (hW : Wd w) (hng : 4 ≤ w.heap.size) (hp : ∀ b ∈ pg, bkW b ≤ 1048576) (hm : pgM w N pg cs) :
  Ret Tryz.prog 5 #[.agg cs.toArray] w (fun v w' => v = .bool true ∧ Ext w w') := by
 have hl := pgT_len hp
 refine enter (S := No) (l := [_]) (L := []) 132 Tryz.func5 rfl rfl rfl (St.start w No) (yA (w_boxA rfl (fun t1b gt1b ut1b => aB rfl (yB (zq (yA (w_loadW z29 rfl (fun w h => h.at_ 0 rfl) hm.len (zC (fun w => zR Tryz.func16 rfl rfl rfl) rfl rfl (fun w h => Small_spec pg cs N w (fun b hb => Nat.lt_of_le_of_lt (hp b hb) (by decide)) (hm.now (fun _ _ hh => hh) zm0 h)) (zg (fun _ => R_not rfl) (yB ?_)))))))))); refine c_condN rfl (fun h2 => ?_) (fun h2 => ?_)
 ·refine yA (zC (fun w => zR Tryz.func9 rfl rfl rfl) rfl rfl (fun w h => head13_ok w (hW.now zm0 h) (Nat.le_trans hng (h.fr _ zm0).size)) (aB rfl (yB (ze (zt ((zo (v := .bool _) rfl rfl rfl ?_))))))); exact fun w' hw => ⟨rfl, hw.fr _ zm0⟩
 ·refine zi (zk (zq (yA (aI rfl (yB (zB (c_loop (fun m e B L => ∃ (i : Nat), e 1 = .pointer (some ⟨t1b, 0, none⟩) ∧ e 3 = .int .i64 (i : Nat) ∧ B = [(w, No)] ∧ L = [(t1b, cel cs 29)] ∧ i ≤ 6 ∧ (∀ b ∈ pg.take i, BkD b) ∧ m = 6 - i) _ ⟨0, rfl, rfl, rfl, rfl, Nat.zero_le _, (by simp), rfl⟩ ?_)))))))
  rintro m e B L ⟨i, e1_1, e3_1, rfl, rfl, hi, hBk, rfl⟩
  refine zq (yA (mI e3_1 (zg (fun _ => R_lt rfl rfl) (yB ?_)))); refine zD rfl (fun h3 => ?_) (fun h3 => ?_)
  ·have hi6 : i < 6 := (by omega); obtain ⟨b, hb⟩ : ∃ b, pg[i]? = some b := ⟨_, List.getElem?_eq_getElem (by rw [hm.six]; exact hi6)⟩; have hbw := hp b (List.mem_of_getElem? hb); unfold bkW at hbw; obtain ⟨da, dc, sa, sc, hcb, hds, hss⟩ := hm.one i b hb
   refine zi (zk (zq (zB (yA (mI e3_1 (zf fa29_0 e1_1 (zg (fun _ => R_iaA (i := i) ara27 (by decide) rfl rfl (by omega)) (w_loadC (l := [.bool b.is, .slice da b.decls.length dc, .slice sa b.stmts.length sc]) z26 rfl rfl (fun w h j v hj => zc 0 rfl (sub_get hcb hj) h) (zA zr26 (fun t4b gt4b ut4b => zV 0 rfl z26 rfl rfl rfl rfl rfl rfl rfl (yC (zf fa26_2 rfl (zL 0 z24 rfl rfl rfl (zC (fun w => zR Tryz.func17 rfl rfl rfl) rfl rfl (fun w h => deepOf_ok b.stmts sa sc N w (by omega) (by omega) (hss.now (fun _ _ hh => hh) zm0 h)) (aI rfl (yB (zq (yA (aI rfl (yB (zB (c_loop (fun m e B L => ∃ (k q : Nat), e 1 = .pointer (some ⟨t1b, 0, none⟩) ∧ e 3 = .int .i64 (i : Nat) ∧ e 4 = .pointer (some ⟨t4b, 0, none⟩) ∧ e 5 = .int .i64 (q : Nat) ∧ e 6 = .int .i64 (k : Nat) ∧ B = [(w, No)] ∧ L = [(t4b, cel [.bool b.is, .slice da b.decls.length dc, .slice sa b.stmts.length sc] 26), (t1b, cel cs 29)] ∧ k ≤ b.decls.length ∧ shgts b.stmts ≤ q ∧ (∀ d ∈ b.decls.take k, DcD q d) ∧ q ≤ 20000000 ∧ m = b.decls.length - k) _ ⟨0, shgts b.stmts, e1_1, e3_1, rfl, rfl, rfl, rfl, rfl, Nat.zero_le _, Nat.le_refl _, (by simp), (by have := shgts_le b.stmts; omega), rfl⟩ ?_))))))))))))))))))))))
   rintro m e B L ⟨k, q, e1_2, e3_2, e4_2, e5_2, e6_2, rfl, rfl, hk, hsq, hDc, hq2, rfl⟩
   refine zq (yA (mI e6_2 (zf fa26_1 e4_2 (zL 0 z23 rfl rfl rfl (zg (fun _ => R_len sl23 rfl) (zg (fun _ => R_lt rfl rfl) (yB ?_))))))); refine zD rfl (fun h5 => ?_) (fun h5 => ?_)
   ·have hlt : k < b.decls.length := (by omega); obtain ⟨x, hxk⟩ : ∃ x, b.decls[k]? = some x := ⟨_, List.getElem?_eq_getElem hlt⟩; obtain ⟨cs2, hA, hE⟩ := hds k x hxk; have hxn := dcsW_mem (List.mem_of_getElem? hxk); obtain ⟨b1, o1, rfl⟩ := hA.ptr; have hE2 := hE; obtain ⟨ty, at_, nm, sz, lo, up, ini⟩ := x; unfold dcM at hE2; obtain ⟨xa, xc, la, lc, ua, uc, ia, ic, hcs, hsz, hlo, hup, hini⟩ := hE2; simp only [] at hcs; subst hcs; have hdw := hxn; unfold dcW at hdw; simp only [] at hdw
    refine zi (zk (zq (zB (yA (zf fa26_1 e4_2 (zL 0 z23 rfl rfl rfl (mI e6_2 (zg (fun _ => R_iaN (i := k) sl23 rfl rfl (by omega)) (w_loadC (l := [.int .u8 (ty : Nat), .int .i64 at_, str nm, .slice xa sz.length xc, .slice la lo.length lc, .slice ua up.length uc, .slice ia ini.length ic]) z46 rfl rfl (fun w h j v hj => hA.cell (fun _ _ hh => hh) zm0 h j v hj) (zA zr46 (fun t7b gt7b ut7b => zV 0 rfl z46 rfl rfl rfl rfl rfl rfl rfl (yB (zq (c_held (fun w => w.heap[t7b]? = some (cel [.int .u8 (ty : Nat), .int .i64 at_, str nm, .slice xa sz.length xc, .slice la lo.length lc, .slice ua up.length uc, .slice ia ini.length ic] 46)) mixed (zh2 1 rfl rfl (fun w h => h.at_ 0 rfl) (fun w h => R_fa fa46_3 rfl) (zh2 2 rfl rfl (fun w h => h.at_ 0 rfl) (fun w h => R_ld1 z37 rfl (cell_of h rfl)) (zh2 4 rfl rfl (fun w h => h.at_ 0 rfl) (fun w h => R_fa fa46_4 rfl) (zh2 5 rfl rfl (fun w h => h.at_ 0 rfl) (fun w h => R_ld1 z37 rfl (cell_of h rfl)) (zh2 7 rfl rfl (fun w h => h.at_ 0 rfl) (fun w h => R_fa fa46_5 rfl) (zh2 8 rfl rfl (fun w h => h.at_ 0 rfl) (fun w h => R_ld1 z37 rfl (cell_of h rfl)) (zh2 10 rfl rfl (fun w h => h.at_ 0 rfl) (fun w h => R_fa fa46_6 rfl) (zh2 11 rfl rfl (fun w h => h.at_ 0 rfl) (fun w h => R_ld1 z37 rfl (cell_of h rfl)) (zH2 0 (fun w h => h.at_ 0 rfl) (o_bslice0 rfl slt37 (fun lb glb ulb => zH2 3 (fun w h => h.at_ 1 rfl) (o_st (B' := _) (L' := [(lb, cel [] 39)] ++ [_, _, _]) (fun w h => h) (o_exsM (X := (w, No)) (s0 := 0) rfl slt37 rfl own_lit0 rfl (exsM.nb _ _ _ hsz) zm0 (by omega) (by decide) (fun n1 v1 W1 hK1 hn1 hO1 => ?_))))))))))))))))))))))))))))
    obtain ⟨aa1, cc1, rfl⟩ := hO1.slice
    refine zH2 6 (fun w h => h.at_ 0 rfl) (o_st (fun w h => h.perm List.perm_append_comm) (o_exsM (X := (w, No)) (s0 := 0) rfl slt37 rfl hO1 rfl (exsM.nb _ _ _ hlo) zm0 (by omega) (by decide) (fun n2 v2 W2 hK2 hn2 hO2 => ?_)))
    obtain ⟨aa2, cc2, rfl⟩ := hO2.slice
    refine zH2 9 (fun w h => h.at_ 0 rfl) (o_st (fun w h => h.perm List.perm_append_comm) (o_exsM (X := (w, No)) (s0 := 0) rfl slt37 rfl hO2 rfl (exsM.nb _ _ _ hup) zm0 (by omega) (by decide) (fun n3 v3 W3 hK3 hn3 hO3 => ?_)))
    obtain ⟨aa3, cc3, rfl⟩ := hO3.slice
    refine zH2 12 (fun w h => h.at_ 0 rfl) (o_st (fun w h => h.perm List.perm_append_comm) (o_exsM (X := (w, No)) (s0 := 0) rfl slt37 rfl hO3 rfl (exsM.nb _ _ _ hini) zm0 (by omega) (by decide) (fun n4 v4 W4 hK4 hn4 hO4 => ?_)))
    obtain ⟨aa4, cc4, rfl⟩ := hO4.slice
    have hKa : Mc 4 exM w (Nb 0 (w, No)) (((sz ++ lo) ++ up) ++ ini) (((([] ++ n1) ++ n2) ++ n3) ++ n4) := Mc.app (Mc.app (Mc.app hK1 hn1 hK2) (by simp only [List.length_append, List.length_nil]; omega) hK3) (by simp only [List.length_append, List.length_nil]; omega) hK4
    refine zh2 13 rfl rfl (fun w h => h.at_ 0 rfl) (fun w h => R_assign rfl) (zN2 (fun w h => h.at_ 0 rfl) (zk (yA (aI rfl (yB (zB (c_loop (fun m e B L => ∃ (j q2 : Nat), e 1 = .pointer (some ⟨t1b, 0, none⟩) ∧ e 3 = .int .i64 (i : Nat) ∧ e 4 = .pointer (some ⟨t4b, 0, none⟩) ∧ e 5 = .int .i64 (q2 : Nat) ∧ e 6 = .int .i64 (k : Nat) ∧ e 7 = .pointer (some ⟨t7b, 0, none⟩) ∧ e 8 = .slice aa4 (0 + sz.length + lo.length + up.length + ini.length) cc4 ∧ e 9 = .int .i64 (j : Nat) ∧ B = [(w, No)] ∧ L = [(t7b, cel [.int .u8 (ty : Nat), .int .i64 at_, str nm, .slice xa sz.length xc, .slice la lo.length lc, .slice ua up.length uc, .slice ia ini.length ic] 46), (t4b, cel [.bool b.is, .slice (some ⟨b1, o1, none⟩) b.decls.length dc, .slice sa b.stmts.length sc] 26), (t1b, cel cs 29)] ++ W4 ∧ j ≤ 0 + sz.length + lo.length + up.length + ini.length ∧ q ≤ q2 ∧ (∀ x ∈ (((sz ++ lo) ++ up) ++ ini).take j, 2 + hgt x ≤ q2) ∧ q2 ≤ 20000000 ∧ m = 0 + sz.length + lo.length + up.length + ini.length - j) _ ⟨0, q, e1_2, e3_2, e4_2, e5_2, e6_2, rfl, rfl, rfl, rfl, rfl, Nat.zero_le _, Nat.le_refl _, (by simp), hq2, rfl⟩ ?_)))))))
    rintro m e B L ⟨j, q2, e1_3, e3_3, e4_3, e5_3, e6_3, e7_3, e8_3, e9_3, rfl, rfl, hj, hqq, hEx, hq3, rfl⟩
    refine zq (yA (mI e9_3 (mS e8_3 (zg (fun _ => R_len sl37 rfl) (zg (fun _ => R_lt rfl rfl) (yB ?_)))))); refine zD rfl (fun h7 => ?_) (fun h7 => ?_)
    ·have hjl : j < (((sz ++ lo) ++ up) ++ ini).length := (by simp only [List.length_append]; omega); obtain ⟨y, hyj⟩ : ∃ y, (((sz ++ lo) ++ up) ++ ini)[j]? = some y := ⟨_, List.getElem?_eq_getElem hjl⟩; have hY := hKa j y hyj; obtain ⟨b5, rfl, hc5⟩ := hO4.cell (i := j) (by omega); have hyW : exW y ≤ 1048576 := (by have hmy := List.mem_of_getElem? hyj; simp only [List.mem_append] at hmy; rcases hmy with ((h | h) | h) | h <;> have := exsW_mem h <;> omega); have hyh := hgt_le y; obtain ⟨op2, at2, nm2, ks2⟩ := y; have hY2 := hY; unfold exM at hY2; obtain ⟨ka2, kc2, heq, hkc2, hks2⟩ := hY2; rw [heq] at hY; have hcl := cell_run heq
     refine zi (zk (zq (zB (zr (mI e5_3 (mS e8_3 (mI e9_3 (zg (fun _ => R_iaN (i := j) sl37 rfl rfl (by omega)) ?_)))))))); refine w_loadC (l := [.int .u8 (op2 : Nat), .int .i64 at2, str nm2, .slice ka2 ks2.length kc2]) z39 rfl rfl (fun w h q u hq => by have h5 := hc5 _ _ w (fun p hp => List.mem_append_right _ hp) h _ u (hcl q u hq); rw [show 0 + j * 4 + q = j * 4 + q by omega]; exact h5) ?_; refine zC (fun w => zR Tryz.func18 rfl rfl rfl) rfl rfl (fun w h => deep_ok _ _ _ w (by omega) (hY.now (fun _ _ hh => hh) zm0 h)) (zg (fun _ => R_addi rfl rfl (by omega)) ?_)
     refine zg (fun _ => R_max rfl rfl) (aI rfl (zn (zO (zk (zr (mI e9_3 (zg (fun _ => R_addi rfl rfl (by omega)) (aI rfl (zn ?_)))))))))
     have hfin : (if ((q2 : Nat) : Int) < 2 + ((hgt (Ex.mk op2 at2 nm2 ks2) : Nat) : Int) then 2 + ((hgt (Ex.mk op2 at2 nm2 ks2) : Nat) : Int) else ((q2 : Nat) : Int)) = ((max q2 (2 + hgt (Ex.mk op2 at2 nm2 ks2)) : Nat) : Int) := by split <;> omega
     exact k_again _ (by omega) ⟨j + 1, max q2 (2 + hgt (Ex.mk op2 at2 nm2 ks2)), e1_3, e3_3, e4_3, (congrArg (Value.int .i64) hfin), e6_3, e7_3, e8_3, rfl, rfl, rfl, by omega, by omega, ex_le hEx hyj, by omega, rfl⟩
    ·refine zX (zx (zx (b_here rfl (zO (zk (zr (mI e6_3 (zg (fun _ => R_addi rfl rfl (by omega)) (aI rfl (zn (zK (B' := [(w, No)]) (L' := [(t4b, cel [.bool b.is, .slice (some ⟨b1, o1, none⟩) b.decls.length dc, .slice sa b.stmts.length sc] 26), (t1b, cel cs 29)]) (fun w h => h.drop (.cons _ (.cons_cons _ (.cons_cons _ (List.nil_sublist _))))) ?_))))))))))); exact k_again _ (by omega) ⟨k + 1, q2, e1_3, e3_3, e4_3, e5_3, rfl, rfl, rfl, by omega, by omega, next_all (fun d hd => DcD.mono (hDc d hd) hqq) hxk (fun x hx => hEx x (by rw [List.take_of_length_le (by simp only [List.length_append]; omega)]; exact hx)), by omega, rfl⟩
   ·refine zX (zx (zx (b_here rfl (zk (yA (mI e5_2 (zg (fun _ => R_gt rfl rfl) (yB ?_)))))))); refine zD rfl (fun h8 => ?_) (fun h8 => ?_)
    ·refine yA (zC (fun w => zR Tryz.func9 rfl rfl rfl) rfl rfl (fun w h => head13_ok w (hW.now zm0 h) (Nat.le_trans hng (h.fr _ zm0).size)) (aB rfl (yB (ze (zb (zt (zt (zb (zt ((zo (v := .bool _) rfl rfl rfl ?_))))))))))); exact fun w' hw => ⟨rfl, hw.fr _ zm0⟩
    ·refine zi (zO (zk (zr (mI e3_2 (zg (fun _ => R_addi rfl rfl (by omega)) (aI rfl (zn (zK (B' := [(w, No)]) (L' := [(t1b, cel cs 29)]) (fun w h => h.drop (List.sublist_cons_self _ _)) ?_)))))))); exact k_again _ (by omega) ⟨i + 1, e1_2, rfl, rfl, rfl, by omega, next_all hBk hb ⟨by omega, fun d hd => DcD.mono (hDc d (by rw [List.take_of_length_le (by omega)]; exact hd)) (by omega)⟩, rfl⟩
  ·refine zX (zx (zx (b_here rfl (zk (yA (w_loadW z29 e1_1 (fun w h => h.at_ 0 rfl) hm.len ?_))))))
   obtain ⟨st, hst⟩ : ∃ st : Str, st = (if pgOk pg then textT (pgT pg) else []) := ⟨_, rfl⟩; obtain ⟨ec, hec⟩ : ∃ ec : Int, ec = (if pgOk pg then 0 else 120) := ⟨_, rfl⟩; have hstl : st.length ≤ 1000000000 := (by rw [hst]; split <;> first | exact hl.2 | simp)
   refine zC (v := .tuple #[str st, .int .i64 ec]) (fun w => zR Tryz.func19 rfl rfl rfl) rfl rfl (fun w h => by rw [hst, hec]; exact Write_spec pg _ N w (fun b hb => Nat.lt_of_le_of_lt (hp b hb) (by decide)) (hm.now (fun _ _ hh => hh) zm0 h) (hW.now zm0 h) hl.1 hl.2) ?_; refine zm rfl (zg (fun _ => R_extract rfl rfl) (zg (fun _ => R_extract rfl rfl) (za (v := str _) rfl (aI rfl (yB (zq (yA (mI rfl (zg (fun _ => R_ne rfl rfl) (mB rfl ?_)))))))))); refine zd (t := 82) rfl (fun h9 => ?_) (fun h9 => ?_)
   ·refine zs rfl rfl (bT h9) (zs rfl rfl (bT h9) (zs rfl rfl (bT h9) (zg (v := .bool _) (fun _ => zT (bT h9) rfl) (yB (zE rfl (yA (zC (fun w => zR Tryz.func9 rfl rfl rfl) rfl rfl (fun w h => head13_ok w (hW.now zm0 h) (Nat.le_trans hng (h.fr _ zm0).size)) (aB rfl (yB (ze (zt ((zo (v := .bool _) rfl rfl rfl ?_))))))))))))); exact fun w' hw => ⟨rfl, hw.fr _ zm0⟩
   ·refine zw rfl rfl (bF h9) (zm (v := str _) rfl (zw rfl rfl (bF h9) (zg (fun _ => R_slen st9 rfl (by omega)) (zw rfl rfl (bF h9) (zg (fun _ => R_gt rfl rfl) (zg (v := .bool _) (fun _ => zF (bF h9) rfl) (yB ?_))))))); refine zD rfl (fun h10 => ?_) (fun h10 => ?_)
    ·refine yA (zC (fun w => zR Tryz.func9 rfl rfl rfl) rfl rfl (fun w h => head13_ok w (hW.now zm0 h) (Nat.le_trans hng (h.fr _ zm0).size)) (aB rfl (yB (ze (zt ((zo (v := .bool _) rfl rfl rfl ?_))))))); exact fun w' hw => ⟨rfl, hw.fr _ zm0⟩
    ·refine zi (zk (zq (yA (zm (v := str _) rfl ?_))))
     obtain ⟨T, hTe⟩ : ∃ T, (readP st).1 = T := ⟨_, rfl⟩
     refine w_callW (R := fun v W => ∃ a c, v = .tuple #[.slice a T.length c, .agg #[.int .i64 ((readP st).2.1 : Nat), .int .i64 ((readP st).2.2 : Nat)]] ∧ Toks (.slice a T.length c) T W) (fun w => zR Tryz.func20 rfl rfl rfl) rfl rfl (fun w h => by subst hTe; exact rReadA_spec st (by omega) w) ?_
     rintro v W0 ⟨ta, tc, rfl, hO⟩
     refine w_st (fun w h => h.perm List.perm_append_comm) (zm rfl (zg (fun _ => R_extract rfl rfl) (zg (fun _ => R_extract rfl rfl) (zA zr32 (fun b11 gb11 ub11 => za (v := .slice _ _ _) rfl (zV 0 rfl z32 rfl rfl rfl rfl rfl rfl rfl (yC (zf fa32_0 rfl (zL 0 z30 rfl rfl rfl (zg (fun _ => R_ne rfl rfl) (mB rfl ?_))))))))))); refine zd (t := 96) rfl (fun h12 => ?_) (fun h12 => ?_)
     ·refine zs rfl rfl (bT h12) (zs rfl rfl (bT h12) (zs rfl rfl (bT h12) (zg (v := .bool _) (fun _ => zT (bT h12) rfl) (yB (zE rfl (yA (zC (fun w => zR Tryz.func9 rfl rfl rfl) rfl rfl (fun w h => head13_ok w (hW.now zm0 h) (Nat.le_trans hng (h.fr _ zm0).size)) (aB rfl (yB (ze (zt ((zo (v := .bool _) rfl rfl rfl ?_))))))))))))); exact fun w' hw => ⟨rfl, hw.fr _ zm0⟩
     ·refine zw rfl rfl (bF h12) (mS rfl (zw rfl rfl (bF h12) (zg (fun _ => R_len sl50 rfl) (zw rfl rfl (bF h12) (zg (fun _ => R_gt rfl rfl) (zg (v := .bool _) (fun _ => zF (bF h12) rfl) (yB ?_))))))); refine zD rfl (fun h13 => ?_) (fun h13 => ?_)
      ·refine yA (zC (fun w => zR Tryz.func9 rfl rfl rfl) rfl rfl (fun w h => head13_ok w (hW.now zm0 h) (Nat.le_trans hng (h.fr _ zm0).size)) (aB rfl (yB (ze (zt ((zo (v := .bool _) rfl rfl rfl ?_))))))); exact fun w' hw => ⟨rfl, hw.fr _ zm0⟩
      ·have hok : pgOk pg = true := (by cases hk : pgOk pg with | true => rfl | false => rw [hk] at hec; simp at hec; omega); have hst2 : st = textT (pgT pg) := (by rw [hst, hok]; rfl); have hz0 : (readP st).2.1 = 0 := (by omega); have hall : ∀ b ∈ pg, BkD b := (by have hte : pg.take i = pg := List.take_of_length_le (by have := hm.six; omega); rw [hte] at hBk; exact hBk); obtain ⟨qg, hq, hsame, hq6, hqok, hqt⟩ := writes_law hm.six hok (pgF_of hm.six hok h2 hall) (by rw [← hst2]; exact hz0); rw [← hst2] at hq hqt; have hqW : ∀ b ∈ qg, bkW b ≤ 1048576 := fun b hb => Nat.le_trans (res_W (s := st) (M := 36001) (by omega) (by have := readP_tw st; omega) b (by rw [hq]; exact hb)) (by decide)
       refine zi (zk (yA (zm (v := str _) rfl (zP (fun w => zR Tryz.func10 rfl rfl rfl) rfl rfl (fun w h => Parse_at st (by omega) (p := qg) (fl := (0, 0)) (by rw [hq]; rfl) w (hW.now zm0 h) (Nat.le_trans hng (h.fr _ zm0).size)) ?_))))
       rintro wa hwa v x1 ⟨cs1, rfl, hM, hx⟩
       refine ⟨_, _, (hwa.ext hx).base1, ?_⟩
       have hK1 : Kt (x1, inL _) w.heap.size pgM _ cs1 := Kt.new hM TL.pg hwa (hwa.fr _ zm0).size; clear hM hx hwa
       have hcl1 : cs1.length = 18 := hK1.len
       refine zm rfl (zg (fun _ => R_extract rfl rfl) (zg (fun _ => R_extract rfl rfl) (zA zr29 (fun p1b gp1b up1b => zA zr32 (fun f1b gf1b uf1b => w_storeW cs1 1 rfl z29 rfl rfl rfl hcl1 (pg_one hK1) rfl (zV 0 rfl z32 rfl rfl rfl rfl rfl rfl rfl (yC (w_loadW z29 rfl (fun w h => h.at_ 1 rfl) hcl1 (zC (fun w => zR Tryz.func19 rfl rfl rfl) rfl rfl (fun w h => writeq hqW (hK1.now TL.pg zm0 h) (hW.now zm1 h) hqok hqt) (zm rfl (zg (fun _ => R_extract rfl rfl) (zg (fun _ => R_extract rfl rfl) (za (v := str _) rfl (aI rfl (yC (zY z32 rfl (fun _ h => h.at_ 0 rfl) rfl (zg (fun _ => R_build bt32 rfl) (zg (fun _ => R_eqS fl32 rfl rfl (eq2_run (n := 9998) fl32 z30 z3 un30 un3)) (mB rfl ?_))))))))))))))))))); refine zp (t := 115) rfl (fun h16 => ?_) (fun h16 => ?_)
       ·refine zw rfl rfl (bV h16) (w_loadW z29 e1_1 (fun w h => h.at_ 3 rfl) hm.len (zw rfl rfl (bV h16) (w_loadW z29 rfl (fun w h => h.at_ 1 rfl) hcl1 (zw rfl rfl (bV h16) (zC (fun w => zR Tryz.func21 rfl rfl rfl) rfl rfl (fun w h => same2 (fun b hb => Nat.lt_of_le_of_lt (hp b hb) (by decide)) (hm.now (fun _ _ hh => hh) zm1 h) (hK1.now TL.pg zm0 h) hsame) (zg (v := .bool _) (fun _ => zT (bV h16) rfl) (mB rfl (zw rfl rfl rfl (mI rfl (zw rfl rfl rfl (zg (fun _ => R_eq rfl rfl) (zg (v := .bool _) (fun _ => zT rfl rfl) (mB rfl ?_))))))))))))); refine zd (t := 124) rfl (fun h17 => ?_) (fun h17 => ?_)
        ·refine zw rfl rfl (bT h17) (zm (v := str _) rfl (zw rfl rfl (bT h17) (zm (v := str _) rfl (zw rfl rfl (bT h17) (zg (fun _ => R_seq rfl rfl) (zg (v := .bool _) (fun _ => zT (bT h17) rfl) (mB rfl ?_))))))); refine zd (t := 129) rfl (fun h18 => ?_) (fun h18 => ?_)
         ·refine zw rfl rfl (bT h18) (zC (fun w => zR Tryz.func9 rfl rfl rfl) rfl rfl (fun w h => head13_ok w (hW.now zm1 h) (Nat.le_trans hng (h.fr _ zm1).size)) (zg (v := .bool _) (fun _ => zT (bT h18) rfl) (aB rfl (yB (ze (zo (v := .bool _) rfl rfl rfl ?_)))))); exact fun w' hw => ⟨rfl, hw.fr _ zm1⟩
         ·exact absurd (by rfl) h18
        ·exact absurd (by rfl) h17
       ·(simp at h16)
end Go.Proofs.YtaniogadknakoaaGreatDoor
end

section
namespace Go.Sx
open Go.RowKit Go.Tree
theorem at_of {w : World} {base b o n k : Nat} {cs : List Value} (h : w.cells? base ((⟨b, o, none⟩ : Addr).add n) k = some cs) : At w (fun _ => True) (some ⟨b, o, none⟩) n cs := by
  obtain ⟨_, hl, hc⟩ := World.cells?_some h
  refine ⟨b, o, rfl, trivial, fun j v hj => ?_⟩
  have hj2 := (List.getElem?_eq_some_iff.1 hj).1
  have := hc j (by omega)
  rw [hj] at this
  rw [← this]
  congr 1
  unfold Addr.add
  by_cases h1 : n = 0 <;> by_cases h2 : j = 0 <;> simp [h1, h2, Nat.add_assoc]
theorem spot_of {w : World} {base k : Nat} {a : Addr} {cs : List Value} (hk : 0 < k) (h : w.cells? base (a.add 0) k = some cs) : a.spot = none := by
  obtain ⟨_, hl, hc⟩ := World.cells?_some h
  have h0 := hc 0 hk
  rw [List.getElem?_eq_getElem (by omega)] at h0
  simpa [Addr.add] using World.cell?_spot h0
theorem list_of {α : Type} {Q : Nat → α → Prop} : ∀ {n : Nat}, (∀ i, i < n → ∃ z, Q i z) → ∃ l : List α, l.length = n ∧ ∀ i z, l[i]? = some z → Q i z
  | 0, _ => ⟨[], rfl, fun i z h => by simp at h⟩
  | n + 1, h => by
    obtain ⟨l, hl, hq⟩ := list_of (n := n) (fun i hi => h i (by omega))
    obtain ⟨z, hz⟩ := h n (by omega)
    refine ⟨l ++ [z], by simp [hl], fun i y hy => ?_⟩
    by_cases hi : i < l.length
    · rw [List.getElem?_append_left hi] at hy
      exact hq i y hy
    · rw [List.getElem?_append_right (by omega)] at hy
      have h1 := (List.getElem?_eq_some_iff.1 hy).1
      have h2 : i = n := by simp at h1; omega
      subst h2
      rw [hl, Nat.sub_self] at hy
      obtain rfl : z = y := by simpa using hy
      exact hz
theorem sum_le {α β : Type} {f : α → Nat} {g : β → Nat} : ∀ (l : List α) (m : List β), l.length = m.length → (∀ (i : Nat) (z : α) (y : β), l[i]? = some z → m[i]? = some y → f z + 1 ≤ g y) → l.length + (l.map f).sum ≤ (m.map g).sum
  | [], [], _, _ => Nat.zero_le _
  | [], _ :: _, h, _ => by simp at h
  | _ :: _, [], h, _ => by simp at h
  | x :: l, y :: m, h, hq => by
    have h1 := hq 0 x y rfl rfl
    have h2 := sum_le l m (by simpa using h) (fun i z u hz hu => hq (i + 1) z u (by simpa using hz) (by simpa using hu))
    simp only [List.length_cons, List.map_cons, List.sum_cons]; omega
section
variable {H : Type} {enc : TypeId × Value → H} {P : Program} {w : World} {sp : Nat → Bool} {hd : Bool}
theorem open_list {α : Type} {R : α → List Value → Prop} {wt : α → Nat} {bk : DataW H → Nat} (hbs : ∀ es rs, (es.map bk).sum ≤ bk (.slice es rs)) {t e k fuel : Nat} {cs : List Value} {x : DataW H × List MemPlace}
    (ht : P.underlying t = some (.slice e)) (hk : P.cellsOf e = k) (hk0 : 0 < k) (h : DataW.trod enc P w 0 sp hd fuel t cs = some x)
    (ih : ∀ n cs y, n < fuel → DataW.trod enc P w 0 sp hd n e cs = some y → ∃ z, R z cs ∧ wt z + 1 ≤ bk y.1) :
    ∃ (l : List α) (a : Option Addr) (c : Nat), cs = [.slice a l.length c] ∧ l.length ≤ c ∧ l.length + (l.map wt).sum ≤ bk x.1 ∧ ∀ i z, l[i]? = some z → ∃ cs', At w (fun _ => True) a (i * k) cs' ∧ R z cs' := by
  rcases DataW.trod_slice ht h with ⟨rfl, rfl⟩ | ⟨a, len, cap, elems, rest, n, rfl, rfl, rfl, hb, hl, hm, hlen, hel, _, _⟩
  · exact ⟨[], none, 0, rfl, Nat.zero_le _, by simp, fun i z hz => by simp at hz⟩
  rw [hk] at hel
  obtain ⟨l, hll, hq⟩ := list_of (n := len) (Q := fun i z => ∃ cs' y, w.cells? 0 (a.add (i * k)) k = some cs' ∧ elems[i]? = some y ∧ R z cs' ∧ wt z + 1 ≤ bk y.1) (fun i hi => by
    have h1 := hel i hi
    rw [List.getElem?_eq_getElem (by omega)] at h1
    obtain ⟨cs', h2, h3⟩ := Option.bind_eq_some_iff.1 h1
    obtain ⟨z, h4, h5⟩ := ih n cs' _ (Nat.lt_succ_self n) h3
    exact ⟨z, cs', _, h2, List.getElem?_eq_getElem (by omega), h4, h5⟩)
  refine ⟨l, some a, cap, by rw [hll], by omega, ?_, fun i z hz => ?_⟩
  · refine Nat.le_trans ?_ (hbs _ _)
    rw [List.map_map]
    refine sum_le l elems (by omega) (fun i z y hz hy => ?_)
    obtain ⟨_, y', _, h2, _, h4⟩ := hq i z hz
    rw [hy] at h2
    obtain rfl := Option.some.inj h2
    exact h4
  · have hi := (List.getElem?_eq_some_iff.1 hz).1
    have hs : a.spot = none := by
      obtain ⟨z0, hz0⟩ : ∃ z, l[0]? = some z := ⟨_, List.getElem?_eq_getElem (by omega)⟩
      obtain ⟨cs', _, h1, _⟩ := hq 0 z0 hz0
      rw [Nat.zero_mul] at h1
      exact spot_of hk0 h1
    obtain ⟨b, o, s⟩ := a
    simp only at hs
    subst hs
    obtain ⟨cs', _, h1, _, h3, _⟩ := hq i z hz
    exact ⟨cs', at_of h1, h3⟩
end
theorem len3 {α : Type} {l : List α} (h : l.length = 3) : ∃ a b c, l = [a, b, c] := by
  match l, h with
  | [a, b, c], _ => exact ⟨a, b, c, rfl⟩
theorem len4 {α : Type} {l : List α} (h : l.length = 4) : ∃ a b c d, l = [a, b, c, d] := by
  match l, h with
  | [a, b, c, d], _ => exact ⟨a, b, c, d, rfl⟩
theorem len6 {α : Type} {l : List α} (h : l.length = 6) : ∃ a b c d e f, l = [a, b, c, d, e, f] := by
  match l, h with
  | [a, b, c, d, e, f], _ => exact ⟨a, b, c, d, e, f, rfl⟩
theorem len7 {α : Type} {l : List α} (h : l.length = 7) : ∃ a b c d e f g, l = [a, b, c, d, e, f, g] := by
  match l, h with
  | [a, b, c, d, e, f, g], _ => exact ⟨a, b, c, d, e, f, g, rfl⟩
theorem exsM_of {w : World} {N : Nat → Prop} {a : Option Addr} : ∀ (l : List Ex) (i0 : Nat), (∀ i z, l[i]? = some z → ∃ cs, At w N a (i0 + i * 4) cs ∧ exM w N z cs) → exsM w N l a i0
  | [], _, _ => by unfold exsM; trivial
  | x :: l, i0, h => by
    unfold exsM
    refine ⟨by simpa using h 0 x rfl, exsM_of l (i0 + 4) (fun i z hz => ?_)⟩
    have := h (i + 1) z (by simpa using hz)
    rwa [show i0 + (i + 1) * 4 = i0 + 4 + i * 4 by omega] at this
theorem smsM_of {w : World} {N : Nat → Prop} {a : Option Addr} : ∀ (l : List Sm) (i0 : Nat), (∀ i z, l[i]? = some z → ∃ cs, At w N a (i0 + i * 6) cs ∧ smM w N z cs) → smsM w N l a i0
  | [], _, _ => by unfold smsM; trivial
  | x :: l, i0, h => by
    unfold smsM
    refine ⟨by simpa using h 0 x rfl, smsM_of l (i0 + 6) (fun i z hz => ?_)⟩
    have := h (i + 1) z (by simpa using hz)
    rwa [show i0 + (i + 1) * 6 = i0 + 6 + i * 6 by omega] at this
theorem exsW_sum : ∀ l : List Ex, exsW l = (l.map exW).sum
  | [] => rfl
  | x :: l => by rw [exsW, exsW_sum l]; rfl
theorem smsW_sum : ∀ l : List Sm, smsW l = (l.map smW).sum
  | [] => rfl
  | x :: l => by rw [smsW, smsW_sum l]; rfl
theorem dcsW_sum : ∀ l : List Dc, dcsW l = (l.map dcW).sum
  | [] => rfl
  | x :: l => by rw [dcsW, dcsW_sum l]; rfl
end Go.Sx
end
