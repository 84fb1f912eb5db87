/- TreeApart: what is written of two right programs is the same just when they are. Part 11 of 12. -/
import Derived.Test.YtcmcdgkjipnfnaaDoorA10
import Derived.Test.YtcmcdgkjipnfnaaDoorA03
section
/- Trees: what is written of an expression tells it: a reader of tokens, and its way back. -/
namespace Go.Tree
open Go.Tok
/-! but for places -/
mutual
def exZ : Ex → Ex
  | .mk o _ n k => .mk o 0 n (exsZ k)
def exsZ : List Ex → List Ex
  | [] => []
  | e :: l => exZ e :: exsZ l
end
/-! the reader -/
abbrev PR := Option (Ex × List Str)
mutual
def pSum : Nat → List Str → PR
  | 0, _ => none
  | f + 1, ts => match pProd f ts with | some (e, r) => sumL f e r | none => none
def sumL : Nat → Ex → List Str → PR
  | 0, _, _ => none
  | f + 1, e, ts =>
    if ts.head? = some [43] then (match pProd f ts.tail with | some (k, r) => sumL f (.mk 6 0 [] [e, k]) r | none => none)
    else if ts.head? = some [45] then (match pProd f ts.tail with | some (k, r) => sumL f (.mk 7 0 [] [e, k]) r | none => none)
    else some (e, ts)
def pProd : Nat → List Str → PR
  | 0, _ => none
  | f + 1, ts => match pSign f ts with | some (e, r) => prodL f e r | none => none
def prodL : Nat → Ex → List Str → PR
  | 0, _, _ => none
  | f + 1, e, ts =>
    if ts.head? = some [42] then (match pSign f ts.tail with | some (k, r) => prodL f (.mk 8 0 [] [e, k]) r | none => none)
    else if ts.head? = some [47] then (match pSign f ts.tail with | some (k, r) => prodL f (.mk 9 0 [] [e, k]) r | none => none)
    else some (e, ts)
def pSign : Nat → List Str → PR
  | 0, _ => none
  | f + 1, ts => match ts with
    | [] => none
    | t :: r =>
      if t = [45] then (match pSign f r with | some (k, r) => some (.mk 5 0 [] [k], r) | none => none)
      else if t = [40] then (match pSum f r with | some (e, r) => if r.head? = some [41] then some (e, r.tail) else none | none => none)
      else if oneB 2 t then some (.mk 1 0 t [], r)
      else if r.head? = some [91] then (match pSum f r.tail with | some (e, r) => if r.head? = some [93] then some (.mk 3 0 t [e], r.tail) else none | none => none)
      else if r.head? = some [40] then (if r.tail.head? = some [41] then some (.mk 4 0 t [], r.tail.tail) else match pSum f r.tail with | some (e, r) => argL f t [e] r | none => none)
      else some (.mk 2 0 t [], r)
def argL : Nat → Str → List Ex → List Str → PR
  | 0, _, _, _ => none
  | f + 1, t, l, ts =>
    if ts.head? = some [44] then (match pSum f ts.tail with | some (e, r) => argL f t (l ++ [e]) r | none => none)
    else if ts.head? = some [41] then some (.mk 4 0 t l, ts.tail)
    else none
end
/-- what may stand behind -/
def nb (r : List Str) : Prop := r.head? ≠ some [91] ∧ r.head? ≠ some [40]
def nm8 (r : List Str) : Prop := nb r ∧ r.head? ≠ some [42] ∧ r.head? ≠ some [47]
def nm6 (r : List Str) : Prop := nm8 r ∧ r.head? ≠ some [43] ∧ r.head? ≠ some [45]
theorem prodL_stop {f : Nat} {e : Ex} {r : List Str} (h : nm8 r) : prodL (f + 1) e r = some (e, r) := by rw [prodL, if_neg h.2.1, if_neg h.2.2]
theorem sumL_stop {f : Nat} {e : Ex} {r : List Str} (h : nm6 r) : sumL (f + 1) e r = some (e, r) := by rw [sumL, if_neg h.2.1, if_neg h.2.2]
theorem one_not {t : Str} (h : oneB 2 t = true) : t ≠ [45] ∧ t ≠ [40] := by
  constructor <;> (rintro rfl; revert h; decide +kernel)
theorem name_not {t : Str} (h : nameOk t = true) : t ≠ [45] ∧ t ≠ [40] ∧ oneB 2 t = false := by
  refine ⟨?_, ?_, ?_⟩
  · rintro rfl; revert h; decide +kernel
  · rintro rfl; revert h; decide +kernel
  · unfold nameOk oneB at h
    unfold oneB
    simp only [Bool.and_eq_true, decide_eq_true_eq] at h
    obtain ⟨⟨h0, h1⟩, _⟩ := h
    split at h1
    · rename_i t' e1
      simp only [Bool.and_eq_true, decide_eq_true_eq] at h1
      simp [h1.1]
    · cases h1

/-! the way back: fuel K e is enough, and what is left of it is told -/
def K (e : Ex) : Nat := 8 * exW e
/-- of what holds together closely -/
def SgP (e : Ex) : Prop := ∀ f r, K e ≤ f + 4 → nb r → pSign f (exT e ++ r) = some (exZ e, r)
def PdP (e : Ex) : Prop := ∀ f r, K e ≤ f + 2 → nb r → ∃ g, f + 4 ≤ g + K e ∧ pProd f (exT e ++ r) = prodL g (exZ e) r
def SuP (e : Ex) : Prop := ∀ f r, K e ≤ f → nm8 r → ∃ g, f + 2 ≤ g + K e ∧ pSum f (exT e ++ r) = sumL g (exZ e) r
theorem K_one (e : Ex) : 8 ≤ K e := by obtain ⟨o, a, n, k⟩ := e; unfold K exW; omega
theorem nb_close (r : List Str) (c : Str) (h1 : c ≠ [91]) (h2 : c ≠ [40]) : nb (c :: r) := ⟨by simp [h1], by simp [h2]⟩
theorem nm8_close (r : List Str) (c : Str) (h1 : c ≠ [91]) (h2 : c ≠ [40]) (h3 : c ≠ [42]) (h4 : c ≠ [47]) : nm8 (c :: r) := ⟨nb_close r c h1 h2, by simp [h3], by simp [h4]⟩
theorem nm6_close (r : List Str) (c : Str) (h1 : c ≠ [91]) (h2 : c ≠ [40]) (h3 : c ≠ [42]) (h4 : c ≠ [47]) (h5 : c ≠ [43]) (h6 : c ≠ [45]) : nm6 (c :: r) := ⟨nm8_close r c h1 h2 h3 h4, by simp [h5], by simp [h6]⟩
theorem su_done {e : Ex} (h : SuP e) {f : Nat} {r : List Str} (hf : K e ≤ f) (hr : nm6 r) : pSum f (exT e ++ r) = some (exZ e, r) := by
  obtain ⟨g, hg, h1⟩ := h f r hf hr.1
  obtain ⟨g, rfl⟩ : ∃ n, g = n + 1 := ⟨g - 1, by omega⟩
  rw [h1, sumL_stop hr]
theorem pd_done {e : Ex} (h : PdP e) {f : Nat} {r : List Str} (hf : K e ≤ f + 2) (hr : nm8 r) : pProd f (exT e ++ r) = some (exZ e, r) := by
  obtain ⟨g, hg, h1⟩ := h f r hf hr.1
  obtain ⟨g, rfl⟩ : ∃ n, g = n + 1 := ⟨g - 1, by omega⟩
  rw [h1, prodL_stop hr]
/-- in brackets -/
theorem sg_brackets {e : Ex} (h : SuP e) {f : Nat} {r : List Str} (hf : K e + 2 ≤ f) : pSign f ([[40]] ++ exT e ++ [[41]] ++ r) = some (exZ e, r) := by
  obtain ⟨f, rfl⟩ : ∃ n, f = n + 1 := ⟨f - 1, by omega⟩
  have e1 : [[40]] ++ exT e ++ [[41]] ++ r = [40] :: (exT e ++ [41] :: r) := by simp
  rw [e1, pSign]
  simp only [show ([40] : Str) ≠ [45] by decide, if_false, if_true]
  rw [su_done h (by omega) (nm6_close r _ (by decide) (by decide) (by decide) (by decide) (by decide) (by decide))]
  simp
theorem kid_sg {e : Ex} (hS : SuP e) (hG : 3 ≤ rank e.op → SgP e) {f : Nat} {r : List Str} (hf : K e + 2 ≤ f) (hr : nb r) : pSign f (kidT e.op (exT e) 3 ++ r) = some (exZ e, r) := by
  unfold kidT
  split
  · exact sg_brackets hS hf
  · exact hG (by omega) f r (by omega) hr
theorem kid_pd {e : Ex} (hS : SuP e) (hP : 2 ≤ rank e.op → PdP e) {f : Nat} {r : List Str} (hf : K e + 4 ≤ f) (hr : nb r) : ∃ g, f ≤ g + 1 + K e ∧ K e + 3 ≤ g + K e ∧ pProd f (kidT e.op (exT e) 2 ++ r) = prodL g (exZ e) r := by
  unfold kidT
  split
  · obtain ⟨f, rfl⟩ : ∃ n, f = n + 1 := ⟨f - 1, by omega⟩
    refine ⟨f, by omega, by omega, ?_⟩
    rw [pProd, sg_brackets hS (by omega)]
  · obtain ⟨g, h1, h2⟩ := hP (by omega) f r (by omega) hr
    exact ⟨g, by omega, by omega, h2⟩
theorem pd_of_sg {e : Ex} (h : SgP e) : PdP e := fun f r hf hr => by
  have h8 := K_one e
  obtain ⟨f, rfl⟩ : ∃ n, f = n + 1 := ⟨f - 1, by omega⟩
  exact ⟨f, by omega, by rw [pProd, h f r (by omega) hr]⟩
theorem su_of_pd {e : Ex} (h : PdP e) : SuP e := fun f r hf hr => by
  have h8 := K_one e
  obtain ⟨f, rfl⟩ : ∃ n, f = n + 1 := ⟨f - 1, by omega⟩
  exact ⟨f, by omega, by rw [pSum, pd_done h (by omega) hr]⟩
theorem pd_two {a b : Ex} {op : Nat} (hop : op = 8 ∨ op = 9) (at_ : Int) (ha : SuP a) (ha2 : 2 ≤ rank a.op → PdP a) (hb : SuP b) (hb2 : 3 ≤ rank b.op → SgP b) : PdP (.mk op at_ [] [a, b]) := fun f r hf hr => by
  have hK : K (.mk op at_ [] [a, b]) = 24 + K a + K b := by simp only [K, exW, exsW, List.length_cons, List.length_nil]; omega
  have hT : exT (.mk op at_ [] [a, b]) ++ r = kidT a.op (exT a) 2 ++ (signs op :: (kidT b.op (exT b) 3 ++ r)) := by
    have h6 : 6 ≤ op := by omega
    rw [exT_two h6 at_ [] (x := a) (z := b) rfl rfl]
    rcases hop with rfl | rfl <;> simp [low, cmpOp, rank]
  have hs : nb (signs op :: (kidT b.op (exT b) 3 ++ r)) := by rcases hop with rfl | rfl <;> exact nb_close _ _ (by decide) (by decide)
  obtain ⟨g, h1, h2, h3⟩ := kid_pd ha ha2 (f := f) (by omega) hs
  obtain ⟨g, rfl⟩ : ∃ n, g = n + 1 := ⟨g - 1, by omega⟩
  refine ⟨g, by omega, ?_⟩
  rw [hT, h3, prodL]
  have h4 := kid_sg hb hb2 (f := g) (r := r) (by omega) hr
  rcases hop with rfl | rfl
  · simp only [signs, List.head?_cons, if_true, List.tail_cons]
    rw [h4]; simp [exZ, exsZ]
  · simp only [signs, List.head?_cons, List.tail_cons, show (some ([47] : Str) = some [42]) = False by simp, if_false, if_true]
    rw [h4]; simp [exZ, exsZ]
theorem su_two {a b : Ex} {op : Nat} (hop : op = 6 ∨ op = 7) (at_ : Int) (ha : SuP a) (hb : SuP b) (hb2 : 2 ≤ rank b.op → PdP b) : SuP (.mk op at_ [] [a, b]) := fun f r hf hr => by
  have hK : K (.mk op at_ [] [a, b]) = 24 + K a + K b := by simp only [K, exW, exsW, List.length_cons, List.length_nil]; omega
  have hra : ¬ rank a.op < 1 := by unfold rank; split <;> (try split) <;> (try split) <;> omega
  have hT : exT (.mk op at_ [] [a, b]) ++ r = exT a ++ (signs op :: (kidT b.op (exT b) 2 ++ r)) := by
    have h6 : 6 ≤ op := by omega
    rw [exT_two h6 at_ [] (x := a) (z := b) rfl rfl]
    have hk : kidT a.op (exT a) 1 = exT a := by unfold kidT; rw [if_neg hra]
    have hl : low op = 1 := by rcases hop with rfl | rfl <;> rfl
    rw [hl, hk]; simp
  have hs : nm8 (signs op :: (kidT b.op (exT b) 2 ++ r)) := by rcases hop with rfl | rfl <;> exact nm8_close _ _ (by decide) (by decide) (by decide) (by decide)
  obtain ⟨g, h1, h3⟩ := ha f _ (by omega) hs
  obtain ⟨g, rfl⟩ : ∃ n, g = n + 1 := ⟨g - 1, by omega⟩
  obtain ⟨g2, h5, h6, h7⟩ := kid_pd hb hb2 (f := g) (r := r) (by omega) hr.1
  obtain ⟨g2, rfl⟩ : ∃ n, g2 = n + 1 := ⟨g2 - 1, by omega⟩
  rw [prodL_stop hr] at h7
  refine ⟨g, by omega, ?_⟩
  rw [hT, h3, sumL]
  rcases hop with rfl | rfl
  · simp only [signs, List.head?_cons, if_true, List.tail_cons]
    rw [h7]; simp [exZ, exsZ]
  · simp only [signs, List.head?_cons, List.tail_cons, show (some ([45] : Str) = some [43]) = False by simp, if_false, if_true]
    rw [h7]; simp [exZ, exsZ]
end Go.Tree
namespace Go.Tree
open Go.Tok
theorem sg_num {nm : Str} (h : oneB 2 nm = true) (at_ : Int) : SgP (.mk 1 at_ nm []) := fun f r hf _ => by
  have h8 := K_one (.mk 1 at_ nm [])
  obtain ⟨f, rfl⟩ : ∃ n, f = n + 1 := ⟨f - 1, by omega⟩
  have hn := one_not h
  rw [exT_12 (.inl rfl), List.singleton_append, pSign]
  simp only [if_neg hn.1, if_neg hn.2, h, if_true]
  simp [exZ, exsZ]
theorem sg_name {nm : Str} (h : nameOk nm = true) (at_ : Int) : SgP (.mk 2 at_ nm []) := fun f r hf hr => by
  have h8 := K_one (.mk 2 at_ nm [])
  obtain ⟨f, rfl⟩ : ∃ n, f = n + 1 := ⟨f - 1, by omega⟩
  have hn := name_not h
  rw [exT_12 (.inr rfl), List.singleton_append, pSign]
  simp only [if_neg hn.1, if_neg hn.2.1, hn.2.2, if_neg hr.1, if_neg hr.2]
  simp [exZ, exsZ]
theorem sg_index {nm : Str} {x : Ex} (h : nameOk nm = true) (hx : SuP x) (at_ : Int) : SgP (.mk 3 at_ nm [x]) := fun f r hf _ => by
  have hK : K (.mk 3 at_ nm [x]) = 16 + 8 * nm.length + K x := by simp only [K, exW, exsW, List.length_cons, List.length_nil]; omega
  have h8 := K_one x
  obtain ⟨f, rfl⟩ : ∃ n, f = n + 1 := ⟨f - 1, by omega⟩
  have hn := name_not h
  have hT : exT (.mk 3 at_ nm [x]) ++ r = nm :: [91] :: (exT x ++ [93] :: r) := by rw [exT_3 rfl]; simp [exsT, rowT]
  rw [hT, pSign]
  simp only [if_neg hn.1, if_neg hn.2.1, hn.2.2, List.head?_cons, if_true, List.tail_cons]
  rw [su_done hx (by omega) (nm6_close r _ (by decide) (by decide) (by decide) (by decide) (by decide) (by decide))]
  simp [exZ, exsZ]
theorem sg_neg {x : Ex} (hS : SuP x) (hG : 3 ≤ rank x.op → SgP x) (at_ : Int) : SgP (.mk 5 at_ [] [x]) := fun f r hf hr => by
  have hK : K (.mk 5 at_ [] [x]) = 16 + K x := by simp only [K, exW, exsW, List.length_cons, List.length_nil]; omega
  have h8 := K_one x
  obtain ⟨f, rfl⟩ : ∃ n, f = n + 1 := ⟨f - 1, by omega⟩
  have hT : exT (.mk 5 at_ [] [x]) ++ r = [45] :: (kidT x.op (exT x) 3 ++ r) := by rw [exT_5 rfl (x := x) at_ [] rfl]; simp [rank]
  rw [hT, pSign]
  simp only [if_true]
  rw [kid_sg hS hG (by omega) hr]
  simp [exZ, exsZ]
/-- what comes behind the first argument -/
theorem arg_rest {t : Str} : ∀ (l : List Ex), (∀ x ∈ l, SuP x) → ∀ (acc : List Ex) (f : Nat) (r : List Str), 8 * l.length + 8 * exsW l + 1 ≤ f →
    argL f t acc ((exsT l).flatMap (fun x => [44] :: x) ++ [41] :: r) = some (.mk 4 0 t (acc ++ exsZ l), r)
  | [], _, acc, f, r, hf => by
    obtain ⟨f, rfl⟩ : ∃ n, f = n + 1 := ⟨f - 1, by omega⟩
    rw [argL]; simp [exsT, exsZ]
  | x :: l, hl, acc, f, r, hf => by
    have hW : exsW (x :: l) = exW x + exsW l := by rw [exsW]
    rw [hW, List.length_cons] at hf
    obtain ⟨f, rfl⟩ : ∃ n, f = n + 1 := ⟨f - 1, by omega⟩
    have hx : SuP x := hl x (.head _)
    have hT : (exsT (x :: l)).flatMap (fun x => [44] :: x) ++ [41] :: r = [44] :: (exT x ++ ((exsT l).flatMap (fun x => [44] :: x) ++ [41] :: r)) := by simp [exsT]
    have hr : nm6 ((exsT l).flatMap (fun x => [44] :: x) ++ [41] :: r) := by
      cases l with
      | nil => exact nm6_close r _ (by decide) (by decide) (by decide) (by decide) (by decide) (by decide)
      | cons y l => simp only [exsT, List.flatMap_cons, List.cons_append]; exact nm6_close _ _ (by decide) (by decide) (by decide) (by decide) (by decide) (by decide)
    rw [hT, argL]
    simp only [List.head?_cons, if_true, List.tail_cons]
    rw [su_done hx (by unfold K; omega) hr]
    simp only
    rw [arg_rest l (fun y hy => hl y (.tail _ hy)) (acc ++ [exZ x]) f r (by omega)]
    simp [exsZ]
/-- the shapes of what is right -/
theorem ok_cases {op : Nat} {a : Int} {nm : Str} {ks : List Ex} (h : exOk (.mk op a nm ks) = true) :
    (op = 1 ∧ ks = [] ∧ oneB 2 nm = true) ∨ (op = 2 ∧ ks = [] ∧ nameOk nm = true) ∨ (op = 3 ∧ nameOk nm = true ∧ ∃ x, ks = [x] ∧ exOk x = true) ∨
    (op = 4 ∧ nameOk nm = true ∧ ∀ x ∈ ks, exOk x = true) ∨ (op = 5 ∧ nm = [] ∧ ∃ x, ks = [x] ∧ exOk x = true) ∨
    ((op = 6 ∨ op = 7) ∧ nm = [] ∧ ∃ x y, ks = [x, y] ∧ exOk x = true ∧ exOk y = true) ∨ ((op = 8 ∨ op = 9) ∧ nm = [] ∧ ∃ x y, ks = [x, y] ∧ exOk x = true ∧ exOk y = true) := by
  rw [exOk, Bool.and_eq_true] at h
  obtain ⟨h1, h2⟩ := h
  rw [exsOk_all, List.all_eq_true] at h2
  have one : ∀ {l : List Ex}, (∀ x ∈ l, exOk x = true) → l.length = 1 → ∃ x, l = [x] ∧ exOk x = true := by
    intro l hl h
    obtain ⟨x, rfl⟩ := List.length_eq_one_iff.1 h
    exact ⟨x, rfl, hl x (.head _)⟩
  have two : ∀ {l : List Ex}, (∀ x ∈ l, exOk x = true) → l.length = 2 → ∃ x y, l = [x, y] ∧ exOk x = true ∧ exOk y = true := by
    intro l hl h
    match l, h with
    | [x, y], _ => exact ⟨x, y, rfl, hl x (.head _), hl y (.tail _ (.head _))⟩
  unfold ruleOk at h1
  split at h1
  · simp only [Bool.and_eq_true, decide_eq_true_eq] at h1
    exact .inl ⟨rfl, List.length_eq_zero_iff.1 h1.1, h1.2⟩
  · simp only [Bool.and_eq_true, decide_eq_true_eq] at h1
    exact .inr (.inl ⟨rfl, List.length_eq_zero_iff.1 h1.1, h1.2⟩)
  · simp only [Bool.and_eq_true, decide_eq_true_eq] at h1
    exact .inr (.inr (.inl ⟨rfl, h1.2, one h2 h1.1⟩))
  · exact .inr (.inr (.inr (.inl ⟨rfl, h1, h2⟩)))
  · simp only [Bool.and_eq_true, decide_eq_true_eq] at h1
    exact .inr (.inr (.inr (.inr (.inl ⟨rfl, h1.1, one h2 h1.2⟩))))
  · simp only [Bool.and_eq_true, decide_eq_true_eq] at h1
    exact .inr (.inr (.inr (.inr (.inr (.inl ⟨.inl rfl, h1.1, two h2 h1.2⟩)))))
  · simp only [Bool.and_eq_true, decide_eq_true_eq] at h1
    exact .inr (.inr (.inr (.inr (.inr (.inl ⟨.inr rfl, h1.1, two h2 h1.2⟩)))))
  · simp only [Bool.and_eq_true, decide_eq_true_eq] at h1
    exact .inr (.inr (.inr (.inr (.inr (.inr ⟨.inl rfl, h1.1, two h2 h1.2⟩)))))
  · simp only [Bool.and_eq_true, decide_eq_true_eq] at h1
    exact .inr (.inr (.inr (.inr (.inr (.inr ⟨.inr rfl, h1.1, two h2 h1.2⟩)))))
  · cases h1
theorem one_shut {t : Str} (h : oneB 2 t = true) : t ≠ [41] := by rintro rfl; revert h; decide +kernel
theorem name_shut {t : Str} (h : nameOk t = true) : t ≠ [41] := by rintro rfl; revert h; decide +kernel
theorem exT_hd : ∀ (n : Nat) (e : Ex), exW e ≤ n → exOk e = true → ∃ h t, exT e = h :: t ∧ h ≠ [41]
  | 0, .mk op a nm ks, hn, _ => by rw [exW] at hn; omega
  | n + 1, .mk op a nm ks, hn, hok => by
    rw [exW] at hn
    have two : ∀ (x y : Ex) (o : Nat), 6 ≤ o → ks = [x, y] → exOk x = true → ∃ h t, exT (.mk o a nm ks) = h :: t ∧ h ≠ [41] := by
      rintro x y o ho rfl hx
      rw [exT_two ho a nm (x := x) (z := y) rfl rfl]
      obtain ⟨h, t, h1, h2⟩ := exT_hd n x (by simp only [exsW] at hn; omega) hx
      unfold kidT
      by_cases hq : rank x.op < low o
      · rw [if_pos hq]; exact ⟨[40], _, by simp only [List.cons_append, List.nil_append]; rfl, by decide⟩
      · rw [if_neg hq, h1]; exact ⟨h, _, by simp only [List.cons_append]; rfl, h2⟩
    rcases ok_cases hok with ⟨rfl, _, h⟩ | ⟨rfl, _, h⟩ | ⟨rfl, h, _⟩ | ⟨rfl, h, _⟩ | ⟨rfl, _, x, rfl, _⟩ | ⟨ho, _, x, y, h1, h2, _⟩ | ⟨ho, _, x, y, h1, h2, _⟩
    · exact ⟨nm, [], exT_12 (.inl rfl) a nm ks, one_shut h⟩
    · exact ⟨nm, [], exT_12 (.inr rfl) a nm ks, name_shut h⟩
    · exact ⟨nm, _, by rw [exT_3 rfl]; simp only [List.cons_append]; rfl, name_shut h⟩
    · exact ⟨nm, _, by rw [exT_4 rfl]; simp only [List.cons_append]; rfl, name_shut h⟩
    · exact ⟨[45], _, by rw [exT_5 rfl (x := x) a nm rfl]; simp only [List.cons_append]; rfl, by decide⟩
    · exact two x y op (by omega) h1 h2
    · exact two x y op (by omega) h1 h2
theorem exT_ne {e : Ex} (h : exOk e = true) : (exT e).head? ≠ some [41] ∧ exT e ≠ [] := by
  obtain ⟨a, t, h1, h2⟩ := exT_hd (exW e) e (Nat.le_refl _) h
  rw [h1]; exact ⟨by simp [h2], by simp⟩
theorem sg_call {nm : Str} {ks : List Ex} (h : nameOk nm = true) (hx : ∀ x ∈ ks, SuP x) (hne : ∀ x ∈ ks, (exT x).head? ≠ some [41] ∧ exT x ≠ []) (at_ : Int) : SgP (.mk 4 at_ nm ks) := fun f r hf _ => by
  have h8 := K_one (.mk 4 at_ nm ks)
  have hK : K (.mk 4 at_ nm ks) = 8 + 8 * nm.length + 8 * ks.length + 8 * exsW ks := by simp only [K, exW]; omega
  obtain ⟨f, rfl⟩ : ∃ n, f = n + 1 := ⟨f - 1, by omega⟩
  have hn := name_not h
  have hT : exT (.mk 4 at_ nm ks) ++ r = nm :: [40] :: (rowT (exsT ks) ++ [41] :: r) := by rw [exT_4 rfl]; simp
  rw [hT, pSign]
  simp only [if_neg hn.1, if_neg hn.2.1, hn.2.2, List.head?_cons, List.tail_cons, show (some ([40] : Str) = some [91]) = False by simp, if_false, if_true, Bool.false_eq_true]
  cases ks with
  | nil => simp [exsT, rowT, exZ, exsZ]
  | cons x l =>
    have hW : exsW (x :: l) = exW x + exsW l := by rw [exsW]
    rw [hW, List.length_cons] at hK
    have hx0 := hne x (.head _)
    have hR : rowT (exsT (x :: l)) ++ [41] :: r = exT x ++ ((exsT l).flatMap (fun x => [44] :: x) ++ [41] :: r) := by simp [exsT, rowT]
    have hh : (exT x ++ ((exsT l).flatMap (fun x => [44] :: x) ++ [41] :: r)).head? ≠ some [41] := by
      cases hq : exT x with
      | nil => exact absurd hq hx0.2
      | cons a b => have := hx0.1; rw [hq] at this; simpa using this
    have hr : nm6 ((exsT l).flatMap (fun x => [44] :: x) ++ [41] :: r) := by
      cases l with
      | nil => exact nm6_close r _ (by decide) (by decide) (by decide) (by decide) (by decide) (by decide)
      | cons y l => simp only [exsT, List.flatMap_cons, List.cons_append]; exact nm6_close _ _ (by decide) (by decide) (by decide) (by decide) (by decide) (by decide)
    rw [hR]
    simp only [hh, if_false]
    rw [su_done (hx x (.head _)) (by unfold K at *; omega) hr]
    simp only
    rw [arg_rest l (fun y hy => hx y (.tail _ hy)) [exZ x] f r (by omega)]
    simp [exZ, exsZ]
/-- what is written of a right expression is read back -/
theorem all_read : ∀ (n : Nat) (e : Ex), exW e ≤ n → exOk e = true → (3 ≤ rank e.op → SgP e) ∧ (2 ≤ rank e.op → PdP e) ∧ SuP e
  | 0, .mk op a nm ks, hn, _ => by rw [exW] at hn; omega
  | n + 1, .mk op a nm ks, hn, hok => by
    rw [exW] at hn
    have sg : SgP (.mk op a nm ks) → (3 ≤ rank (Ex.op (.mk op a nm ks)) → SgP (.mk op a nm ks)) ∧ (2 ≤ rank (Ex.op (.mk op a nm ks)) → PdP (.mk op a nm ks)) ∧ SuP (.mk op a nm ks) :=
      fun h => ⟨fun _ => h, fun _ => pd_of_sg h, su_of_pd (pd_of_sg h)⟩
    rcases ok_cases hok with ⟨rfl, rfl, h⟩ | ⟨rfl, rfl, h⟩ | ⟨rfl, h, x, rfl, hx⟩ | ⟨rfl, h, hx⟩ | ⟨rfl, rfl, x, rfl, hx⟩ | ⟨ho, rfl, x, y, rfl, hx, hy⟩ | ⟨ho, rfl, x, y, rfl, hx, hy⟩
    · exact sg (sg_num h a)
    · exact sg (sg_name h a)
    · have h1 := all_read n x (by simp only [exsW] at hn; omega) hx
      exact sg (sg_index h h1.2.2 a)
    · refine sg (sg_call h (fun x hm => ?_) (fun x hm => exT_ne (hx x hm)) a)
      exact (all_read n x (by have := exsW_mem hm; omega) (hx x hm)).2.2
    · have h1 := all_read n x (by simp only [exsW] at hn; omega) hx
      exact sg (sg_neg h1.2.2 h1.1 a)
    · have h1 := all_read n x (by simp only [exsW] at hn; omega) hx
      have h2 := all_read n y (by simp only [exsW] at hn; omega) hy
      have hs := su_two ho a h1.2.2 h2.2.2 h2.2.1
      have hr : rank op = 1 := by rcases ho with rfl | rfl <;> rfl
      exact ⟨fun h => absurd h (by show ¬ 3 ≤ rank op; omega), fun h => absurd h (by show ¬ 2 ≤ rank op; omega), hs⟩
    · have h1 := all_read n x (by simp only [exsW] at hn; omega) hx
      have h2 := all_read n y (by simp only [exsW] at hn; omega) hy
      have hs := pd_two ho a h1.2.2 h1.2.1 h2.2.2 h2.1
      have hr : rank op = 2 := by rcases ho with rfl | rfl <;> rfl
      exact ⟨fun h => absurd h (by show ¬ 3 ≤ rank op; omega), fun _ => hs, su_of_pd hs⟩
theorem ex_read {e : Ex} (h : exOk e = true) : SuP e := (all_read (exW e) e (Nat.le_refl _) h).2.2
end Go.Tree
end

section
/- The plain part of layer token: many signs, many blanks. -/
namespace Go.Tok
end Go.Tok
end

section
/- The plain part of layer token: texts one behind the other. -/
namespace Go.Tok
/-! a text ahead of a new line -/
end Go.Tok
namespace Go.Tok
/-! a text behind another: places move -/
variable {u v : List UInt8}
theorem atP_sh (p : UInt8 → Bool) (i : Nat) : atP p (u ++ v) (u.length + i) = atP p v i := by
  unfold atP
  rw [List.getElem?_append_right (Nat.le_add_right _ _), Nat.add_sub_cancel_left]
theorem drop_sh (i : Nat) : (u ++ v).drop (u.length + i) = v.drop i := by
  rw [List.drop_append]; simp
theorem runTo_sh (p : UInt8 → Bool) (i : Nat) : runTo p (u ++ v) (u.length + i) = u.length + runTo p v i := by
  unfold runTo; rw [drop_sh]; omega
theorem cmt_sh (i : Nat) : cmt (u ++ v) (u.length + i) = cmt v i := by
  unfold cmt; rw [atP_sh, Nat.add_assoc, atP_sh]
theorem skipF_sh : ∀ (f i : Nat), skipF f (u ++ v) (u.length + i) = u.length + skipF f v i
  | 0, _ => rfl
  | f + 1, i => by
    unfold skipF
    rw [runTo_sh, cmt_sh, runTo_sh, skipF_sh f]
    split <;> rfl
theorem skip_sh (i : Nat) : skipTo (u ++ v) (u.length + i) = u.length + skipTo v i := by
  unfold skipTo
  rw [List.length_append, show u.length + v.length + 1 - (u.length + i) = v.length + 1 - i by omega, skipF_sh]
theorem numDot_sh (i : Nat) : numDot (u ++ v) (u.length + i) = u.length + numDot v i := by
  unfold numDot
  rw [Nat.add_assoc, atP_sh, atP_sh, runTo_sh]
  split <;> rfl
theorem numTens_sh (i : Nat) : numTens (u ++ v) (u.length + i) = ((numTens v i).1, u.length + (numTens v i).2) := by
  unfold numTens
  rw [Nat.add_assoc, Nat.add_assoc, atP_sh, atP_sh, atP_sh, atP_sh, runTo_sh, runTo_sh]
  split
  · simp only [Prod.mk.injEq, and_true]; omega
  · split
    · simp only [Prod.mk.injEq, and_true]; omega
    · rfl
theorem num_sh (i : Nat) : numEnd (u ++ v) (u.length + i) = u.length + numEnd v i ∧ numFine (u ++ v) (u.length + i) = numFine v i := by
  have e1 : numEnd (u ++ v) (u.length + i) = u.length + numEnd v i := by
    unfold numEnd; rw [runTo_sh, numDot_sh, numTens_sh]
  refine ⟨e1, ?_⟩
  unfold numFine
  rw [e1, runTo_sh, numDot_sh, numTens_sh, atP_sh]
theorem sign_sh (i : Nat) : signLen (u ++ v) (u.length + i) = signLen v i := by
  unfold signLen signOf; rw [drop_sh]
theorem tok_sh (i : Nat) : tokAt (u ++ v) (u.length + i) = ((tokAt v i).1, u.length + (tokAt v i).2.1, (tokAt v i).2.2) := by
  unfold tokAt nameB
  rw [atP_sh, atP_sh, atP_sh, runTo_sh, (num_sh i).1, (num_sh i).2, sign_sh]
  split
  · rfl
  · split
    · rfl
    · split
      · rfl
      · simp only [Prod.mk.injEq, and_true, true_and]; omega
theorem tx_sh (i : Nat) : tokTx (u ++ v) (u.length + i) = tokTx v i := by
  unfold tokTx
  rw [tok_sh, drop_sh]
  congr 1
  simp only; omega
end Go.Tok
end

section
/- The plain part of layer token: Read of texts one behind the other. -/
namespace Go.Tok
theorem readN_go {x : Rd} {k : Nat} {t : List UInt8} {a : Nat} {b : Bool} (h : (readN x k t a b).2 = true) : b = true ∧ readN x k t a b = ((x.1 ++ [(k, t, a)], x.2), true) := by
  unfold readN at h ⊢
  split at h
  · cases h
  · rename_i hb
    split at h
    · cases h
    · rename_i h6
      rw [if_neg hb, if_neg h6]
      exact ⟨by cases b <;> simp_all, rfl⟩
theorem readN_end {x : Rd} {k : Nat} {t : List UInt8} {a : Nat} {b : Bool} (h : (readN x k t a b).2 = false) : (readN x k t a b).1.2.1 ≠ 0 := by
  unfold readN at h ⊢
  split at h
  · rename_i hb; rw [if_pos hb]; simp
  · rename_i hb
    split at h
    · rename_i h6; rw [if_neg hb, if_pos h6]; simp
    · cases h
def sh (d : Nat) (t : Tk) : Tk := (t.1, t.2.1, d + t.2.2)
def shF (d : Nat) (f : Nat × Nat) : Nat × Nat := if f.1 = 0 then (0, 0) else (f.1, d + f.2)
end Go.Tok
namespace Go.Tok
end Go.Tok
namespace Go.Tok
end Go.Tok
end

section
/- The plain part of layer token: what lies between the tokens; a token alone before a blank. -/
namespace Go.Tok
theorem atP_take {p : UInt8 → Bool} {s : List UInt8} {j k : Nat} (h : k < j) : atP p (s.take j) k = atP p s k := by
  unfold atP; rw [List.getElem?_take_of_lt h]
end Go.Tok
end

section
/- The plain part of layer token: the tokens of a text as a chain; tokens alone, blanks between them. -/
namespace Go.Tok
/-- the tokens of s from place i on -/
inductive Chain (s : List UInt8) : Nat → List Tk → Prop
  | nil (i : Nat) : Chain s i []
  | cons {i e kd : Nat} {ts : List Tk} : i ≤ s.length → skipTo s i < s.length → tokAt s (skipTo s i) = (kd, e, true) → Chain s e ts → Chain s i ((kd, tokTx s (skipTo s i), skipTo s i) :: ts)
theorem chain_lex {s : List UInt8} : ∀ (m i : Nat) (x : Rd), m = s.length - i → i ≤ s.length → x.2 = (0, 0) → (lexS readN s (skipTo s i) x).2.1 = 0 → ∃ ts, (lexS readN s (skipTo s i) x).1 = x.1 ++ ts ∧ Chain s i ts := by
  intro m
  induction m using Nat.strongRecOn with
  | _ m ih =>
    intro i x hm hi h0 hz
    have hk := skipTo_le hi
    rcases Nat.lt_or_ge (skipTo s i) s.length with hl | hl
    · cases hgo : (readN x (tokAt s (skipTo s i)).1 (tokTx s (skipTo s i)) (skipTo s i) (tokAt s (skipTo s i)).2.2).2 with
      | true =>
        have hN := readN_go hgo
        have h1 := tok_le hk.1
        have h2 := h1.2.2 hN.1
        rw [lexS_go readN readN_no hl hgo] at hz ⊢
        rw [hN.2] at hz ⊢
        obtain ⟨ts, e1, e2⟩ := ih _ (by omega) (tokAt s (skipTo s i)).2.1 _ rfl h1.2.1 (by exact h0) hz
        exact ⟨_ :: ts, by rw [e1]; simp, Chain.cons hi hl (Prod.ext rfl (Prod.ext rfl hN.1)) e2⟩
      | false => rw [lexS_end readN hl hgo] at hz; exact absurd hz (readN_end hgo)
    · rw [lexS_stop readN (by omega)]
      exact ⟨[], by simp, .nil _⟩
theorem chain_read {s : List UInt8} (h : (readS s).2.1 = 0) : Chain s 0 (readS s).1 := by
  obtain ⟨ts, e1, e2⟩ := chain_lex _ 0 ([], 0, 0) rfl (Nat.zero_le _) rfl h
  have : (readS s).1 = ts := by simpa [readS] using e1
  rw [this]; exact e2
/-! a token alone, before a blank or at the end -/
def Bl (R : List UInt8) : Prop := R = [] ∨ ∃ r, R = 32 :: r
theorem bl_at {p : UInt8 → Bool} {t R : List UInt8} {i : Nat} (hR : Bl R) (hp : p 32 = false) (h : i ≤ t.length) : atP p (t ++ R) i = atP p t i := by
  rcases Nat.lt_or_ge i t.length with hl | hl
  · unfold atP; rw [List.getElem?_append_left hl]
  · have : i = t.length := by omega
    subst this
    rw [atP_out (Nat.le_refl _)]
    rcases hR with rfl | ⟨r, rfl⟩
    · rw [List.append_nil]; exact atP_out (Nat.le_refl _)
    · unfold atP; rw [List.getElem?_append_right (Nat.le_refl _)]; simpa using hp
theorem cut_at {p : UInt8 → Bool} {s : List UInt8} {k e i : Nat} (he : e ≤ s.length) (h : k + i < e) : atP p ((s.drop k).take (e - k)) i = atP p s (k + i) := by
  rw [atP_take (by omega)]
  unfold atP; rw [List.getElem?_drop]
theorem cut_len {s : List UInt8} {k e : Nat} (he : e ≤ s.length) (h : k ≤ e) : ((s.drop k).take (e - k)).length = e - k := by simp; omega
/-- at a place up to the end of the token: as in s, or false at the end itself -/
theorem bl_cut {p : UInt8 → Bool} {s R : List UInt8} {k e i : Nat} (hR : Bl R) (hp : p 32 = false) (he : e ≤ s.length) (h : k + i ≤ e) : atP p ((s.drop k).take (e - k) ++ R) i = if k + i < e then atP p s (k + i) else false := by
  have hl := cut_len he (by omega : k ≤ e)
  rw [bl_at hR hp (by omega)]
  split
  · rename_i h2; exact cut_at he h2
  · exact atP_out (by omega)
theorem run_cut {p : UInt8 → Bool} {s R : List UInt8} {k e : Nat} (hR : Bl R) (hp : p 32 = false) (he : e ≤ s.length) : ∀ (m i : Nat), m = e - (k + i) → k + i ≤ e → runTo p s (k + i) ≤ e → k + runTo p ((s.drop k).take (e - k) ++ R) i = runTo p s (k + i) := by
  intro m
  induction m with
  | zero =>
    intro i hm hi h
    have hg := runTo_ge p s (k + i)
    rw [runTo_stop (by rw [bl_cut hR hp he hi, if_neg (by omega)])]; omega
  | succ m ih =>
    intro i hm hi h
    have hb := bl_cut (i := i) hR hp he hi
    rw [if_pos (by omega)] at hb
    cases ha : atP p s (k + i) with
    | true =>
      rw [runTo_step ha, runTo_step (hb.trans ha)]
      exact ih (i + 1) (by omega) (by omega) (by rw [← Nat.add_assoc, ← runTo_step ha]; exact h)
    | false => rw [runTo_stop ha, runTo_stop (hb.trans ha)]
end Go.Tok
end

section
/- The plain part of layer token: a token alone reads as it did. -/
namespace Go.Tok
theorem and_cut {p q : UInt8 → Bool} {s R : List UInt8} {k e j i : Nat} (hR : Bl R) (hp : p 32 = false) (hq : q 32 = false) (he : e ≤ s.length) (hk : k ≤ j) (h : j ≤ e) (hi : i = j - k) (hend : (atP p s j && atP q s (j + 1)) = true → j + 2 ≤ e) :
    (atP p ((s.drop k).take (e - k) ++ R) i && atP q ((s.drop k).take (e - k) ++ R) (i + 1)) = (atP p s j && atP q s (j + 1)) := by
  subst hi
  have b1 := bl_cut (k := k) (i := j - k) hR hp he (by omega)
  rw [show k + (j - k) = j by omega] at b1
  rw [b1]
  split
  · rename_i h1
    have b2 := bl_cut (k := k) (i := j - k + 1) hR hq he (by omega)
    rw [show k + (j - k + 1) = j + 1 by omega] at b2
    rw [b2]
    split
    · rfl
    · cases hc : (atP p s j && atP q s (j + 1)) with
      | true => have := hend hc; omega
      | false => simp
  · cases hc : (atP p s j && atP q s (j + 1)) with
    | true => have := hend hc; omega
    | false => simp
theorem run_cut' {p : UInt8 → Bool} {s R : List UInt8} {k e j i : Nat} (hR : Bl R) (hp : p 32 = false) (he : e ≤ s.length) (hk : k ≤ j) (h : j ≤ e) (hi : i = j - k) (hr : runTo p s j ≤ e) : runTo p ((s.drop k).take (e - k) ++ R) i = runTo p s j - k := by
  subst hi
  have := run_cut (k := k) (i := j - k) hR hp he _ rfl (by omega) (by rw [show k + (j - k) = j by omega]; exact hr)
  rw [show k + (j - k) = j by omega] at this
  omega
theorem dot_cut {s R : List UInt8} {k e j i : Nat} (hR : Bl R) (he : e ≤ s.length) (hk : k ≤ j) (h : j ≤ e) (hi : i = j - k) (hr : numDot s j ≤ e) : numDot ((s.drop k).take (e - k) ++ R) i = numDot s j - k := by
  have ha := and_cut (p := eqB 46) (q := digitB) hR (by decide) (by decide) he hk h hi (fun hc => by
    unfold numDot at hr
    rw [if_pos hc] at hr
    simp only [Bool.and_eq_true] at hc
    have h1 := runTo_step hc.2
    have h2 := runTo_ge digitB s (j + 1 + 1)
    omega)
  unfold numDot at hr ⊢
  rw [ha]
  split
  · rename_i hc
    rw [if_pos hc] at hr
    exact run_cut' hR (by decide) he (by omega) (by have := runTo_ge digitB s (j + 1); omega) (by omega) hr
  · exact hi
theorem tens_cut {s R : List UInt8} {k e j i : Nat} (hR : Bl R) (he : e ≤ s.length) (hk : k ≤ j) (h : j ≤ e) (hi : i = j - k) (hr : (numTens s j).2 = e) : numTens ((s.drop k).take (e - k) ++ R) i = ((numTens s j).1, e - k) := by
  by_cases c1 : (atP (eqB 101) s j && atP digitB s (j + 1)) = true
  · have hs : numTens s j = (runTo digitB s (j + 1) - (j + 1), runTo digitB s (j + 1)) := by unfold numTens; rw [if_pos c1]
    rw [hs] at hr ⊢
    simp only at hr ⊢
    have c1' := c1
    simp only [Bool.and_eq_true] at c1'
    have h1 := runTo_step c1'.2
    have h2 := runTo_ge digitB s (j + 1 + 1)
    have ha := and_cut (p := eqB 101) (q := digitB) hR (by decide) (by decide) he hk h hi (fun _ => by omega)
    have hrun := run_cut' (p := digitB) (i := i + 1) hR (by decide) he (by omega : k ≤ j + 1) (by omega) (by omega) (by omega)
    unfold numTens
    rw [ha, if_pos c1, hrun, hr]
    simp only [Prod.mk.injEq, and_true]; omega
  · by_cases c2 : (atP (eqB 101) s j && (atP pmB s (j + 1) && atP digitB s (j + 2))) = true
    · have hs : numTens s j = (runTo digitB s (j + 2) - (j + 2), runTo digitB s (j + 2)) := by unfold numTens; rw [if_neg c1, if_pos c2]
      rw [hs] at hr ⊢
      simp only at hr ⊢
      have c2' := c2
      simp only [Bool.and_eq_true] at c2'
      have h1 := runTo_step c2'.2.2
      have h2 := runTo_ge digitB s (j + 2 + 1)
      have ha := and_cut (p := eqB 101) (q := digitB) hR (by decide) (by decide) he hk h hi (fun hc => absurd hc c1)
      have b0 := bl_cut (p := eqB 101) (k := k) (i := i) hR (by decide) he (by omega : k + i ≤ e)
      have b1 := bl_cut (p := pmB) (k := k) (i := i + 1) hR (by decide) he (by omega : k + (i + 1) ≤ e)
      have b2 := bl_cut (p := digitB) (k := k) (i := i + 2) hR (by decide) he (by omega : k + (i + 2) ≤ e)
      rw [if_pos (by omega), show k + i = j by omega] at b0
      rw [if_pos (by omega), show k + (i + 1) = j + 1 by omega] at b1
      rw [if_pos (by omega), show k + (i + 2) = j + 2 by omega] at b2
      have hrun := run_cut' (p := digitB) (i := i + 2) hR (by decide) he (by omega : k ≤ j + 2) (by omega) (by omega) (by omega)
      unfold numTens
      rw [ha, if_neg c1, b0, b1, b2, if_pos c2, hrun, hr]
      simp only [Prod.mk.injEq, and_true]; omega
    · have hs : numTens s j = (0, j) := by unfold numTens; rw [if_neg c1, if_neg c2]
      rw [hs] at hr ⊢
      simp only at hr ⊢
      have b0 := bl_cut (p := eqB 101) (k := k) (i := i) hR (by decide) he (by omega : k + i ≤ e)
      rw [if_neg (by omega)] at b0
      unfold numTens
      rw [b0]
      simp only [Bool.false_and, Bool.false_eq_true, if_false, Prod.mk.injEq, true_and]
      omega
theorem num_cut {s R : List UInt8} {k e : Nat} (hR : Bl R) (he : e ≤ s.length) (hk : k ≤ e) (hn : numEnd s k = e) (hf : numFine s k = true) : numEnd ((s.drop k).take (e - k) ++ R) 0 = e - k ∧ numFine ((s.drop k).take (e - k) ++ R) 0 = true := by
  have h1 := runTo_le (p := digitB) (s := s) (i := k) (by omega)
  have h2 := numDot_le h1
  have h3 := numTens_le h2.1
  have g1 := runTo_ge digitB s k
  unfold numEnd at hn
  have e1 := run_cut' (p := digitB) (i := 0) (j := k) hR (by decide) he (Nat.le_refl _) hk (by omega) (by omega)
  have e2 := dot_cut (i := runTo digitB s k - k) (j := runTo digitB s k) hR he g1 (by omega) rfl (by omega)
  have e3 := tens_cut (i := numDot s (runTo digitB s k) - k) (j := numDot s (runTo digitB s k)) hR he (by omega) (by omega) rfl hn
  have hE : numEnd ((s.drop k).take (e - k) ++ R) 0 = e - k := by unfold numEnd; rw [e1, e2, e3]
  refine ⟨hE, ?_⟩
  unfold numFine at hf ⊢
  rw [hE, e1, e2, e3]
  simp only [Bool.and_eq_true] at hf
  have b := bl_cut (p := tailB) (k := k) (i := e - k) hR (by decide) he (by omega : k + (e - k) ≤ e)
  rw [if_neg (by omega)] at b
  rw [b]
  simp only [Bool.and_eq_true]
  exact ⟨hf.1, rfl⟩
theorem sign_alone {R : List UInt8} (hR : Bl R) : ∀ t ∈ signsL, signsL.find? (fun x => x.isPrefixOf (t ++ R)) = some t ∧ atP blankB (t ++ R) 0 = false ∧ cmt (t ++ R) 0 = false := by
  intro t ht
  rcases hR with rfl | ⟨r, rfl⟩
  · rw [List.append_nil]
    revert t; decide +kernel
  · simp only [signsL, List.mem_cons, List.not_mem_nil, or_false] at ht
    rcases ht with rfl | rfl | rfl | rfl | rfl | rfl | rfl | rfl | rfl | rfl | rfl | rfl | rfl | rfl | rfl | rfl | rfl | rfl | rfl | rfl | rfl | rfl <;>
      exact ⟨by simp [signsL, List.find?, List.isPrefixOf], by simp [atP, blankB], by simp [cmt, atP, eqB]⟩
end Go.Tok
end

section
/- The plain part of layer token: the tokens of a text with blanks between them. -/
namespace Go.Tok
theorem letter_blank (b : UInt8) : letterB b = true → blankB b = false ∧ eqB 47 b = false := byte_all (fun b => letterB b = true → blankB b = false ∧ eqB 47 b = false) (by decide +kernel) b
theorem digit_blank (b : UInt8) : digitB b = true → blankB b = false ∧ eqB 47 b = false := byte_all (fun b => digitB b = true → blankB b = false ∧ eqB 47 b = false) (by decide +kernel) b
theorem at_two {p q : UInt8 → Bool} {s : List UInt8} {i : Nat} (h : ∀ b, p b = true → q b = false) (ha : atP p s i = true) : atP q s i = false := by
  have hl := atP_lt ha
  rw [atP_in hl] at ha ⊢
  exact h _ ha
/-- a token alone before a blank or the end reads as it did -/
theorem tok_cut {s R : List UInt8} {k e kd : Nat} (hR : Bl R) (hk : k ≤ s.length) (h : tokAt s k = (kd, e, true)) :
    tokAt ((s.drop k).take (e - k) ++ R) 0 = (kd, e - k, true) ∧ atP blankB ((s.drop k).take (e - k) ++ R) 0 = false ∧ cmt ((s.drop k).take (e - k) ++ R) 0 = false := by
  have h1 := tok_le hk
  rw [h] at h1
  simp only at h1
  have hke : k < e := h1.2.2 trivial
  have he := h1.2.1
  have z : ∀ p : UInt8 → Bool, p 32 = false → atP p ((s.drop k).take (e - k) ++ R) 0 = atP p s k := fun p hp => by
    have := bl_cut (k := k) (i := 0) (p := p) hR hp he (by omega)
    rw [if_pos (by omega), Nat.add_zero] at this
    exact this
  have zn : nameB ((s.drop k).take (e - k) ++ R) 0 = nameB s k := by unfold nameB; rw [z _ (by decide), z _ (by decide)]
  unfold tokAt at h
  split at h
  · rename_i hn
    simp only [Prod.mk.injEq, and_true] at h
    obtain ⟨rfl, hr⟩ := h
    have e1 := run_cut' (p := wordB) (i := 0) (j := k) hR (by decide) he (Nat.le_refl _) (by omega) (by omega) (by omega)
    have hn2 := hn
    simp only [nameB, Bool.and_eq_true] at hn2
    refine ⟨?_, ?_, ?_⟩
    · rw [tokAt, if_pos (zn.trans hn), e1, hr]
    · have := at_two (fun b hb => (letter_blank b hb).1) ((z letterB (by decide)).trans hn2.1)
      exact this
    · rw [cmt, at_two (fun b hb => (letter_blank b hb).2) ((z letterB (by decide)).trans hn2.1)]; rfl
  · rename_i hn
    split at h
    · rename_i hd
      simp only [Prod.mk.injEq] at h
      obtain ⟨rfl, hr, hf⟩ := h
      have e1 := num_cut (k := k) hR he (by omega) hr hf
      refine ⟨?_, ?_, ?_⟩
      · rw [tokAt, if_neg (by rw [zn]; exact hn), if_pos ((z digitB (by decide)).trans hd), e1.1, e1.2]
      · exact at_two (fun b hb => (digit_blank b hb).1) ((z digitB (by decide)).trans hd)
      · rw [cmt, at_two (fun b hb => (digit_blank b hb).2) ((z digitB (by decide)).trans hd)]; rfl
    · rename_i hd
      split at h
      · simp at h
      · rename_i hs
        simp only [Prod.mk.injEq, and_true] at h
        obtain ⟨rfl, hr⟩ := h
        cases ho : signOf s k with
        | none => exact absurd (by simp [signLen, ho]) hs
        | some t =>
          have hL : signLen s k = t.length := by simp [signLen, ho]
          have hmem : t ∈ signsL := List.mem_of_find?_eq_some ho
          have hpre0 := List.find?_some ho
          have hpre := List.isPrefixOf_iff_prefix.1 hpre0
          have ht : (s.drop k).take (e - k) = t := by
            rw [show e - k = t.length by omega]
            exact (List.prefix_iff_eq_take.1 hpre).symm
          have ha := sign_alone hR t hmem
          rw [ht] at z zn ⊢
          refine ⟨?_, ha.2.1, ha.2.2⟩
          have hs2 : signLen (t ++ R) 0 = t.length := by
            unfold signLen signOf
            rw [List.drop_zero, ha.1]; rfl
          rw [tokAt, if_neg (by rw [zn]; exact hn), if_neg (by rw [z _ (by decide)]; exact hd), if_neg (by rw [hs2]; omega), hs2]
          simp only [Prod.mk.injEq, and_true, true_and]; omega
end Go.Tok
end

section
/- The plain part of layer token: the tokens of a text with blanks between them. -/
namespace Go.Tok
def Jn (ts : List Tk) : List UInt8 := ts.flatMap fun t => 32 :: t.2.1
def kt (t : Tk) : Nat × List UInt8 := (t.1, t.2.1)
def Good (t : Tk) : Prop := ∃ s k e, k ≤ s.length ∧ tokAt s k = (t.1, e, true) ∧ t.2.1 = (s.drop k).take (e - k)
theorem chain_good {s : List UInt8} : ∀ {i : Nat} {ts : List Tk}, Chain s i ts → ∀ t ∈ ts, Good t := by
  intro i ts h
  induction h with
  | nil i => intro t ht; exact (List.not_mem_nil ht).elim
  | @cons i e kd ts hi hl htk _ ih =>
    intro t ht
    rcases List.mem_cons.1 ht with rfl | ht
    · exact ⟨s, skipTo s i, e, (skipTo_le hi).1, htk, by unfold tokTx; rw [htk]⟩
    · exact ih t ht
end Go.Tok
end

section
/- The plain part of layer token: a token alone, before a blank, a line's end, or at the end. -/
namespace Go.Tok.W
open Go.Tok
/-! a token alone, before a blank or at the end -/
def Bl (R : List UInt8) : Prop := R = [] ∨ ∃ c r, (c = 32 ∨ c = 10) ∧ R = c :: r
theorem bl_at {p : UInt8 → Bool} {t R : List UInt8} {i : Nat} (hR : Bl R) (hp : p 32 = false ∧ p 10 = false) (h : i ≤ t.length) : atP p (t ++ R) i = atP p t i := by
  rcases Nat.lt_or_ge i t.length with hl | hl
  · unfold atP; rw [List.getElem?_append_left hl]
  · have : i = t.length := by omega
    subst this
    rw [atP_out (Nat.le_refl _)]
    rcases hR with rfl | ⟨c, r, hc, rfl⟩
    · rw [List.append_nil]; exact atP_out (Nat.le_refl _)
    · unfold atP; rw [List.getElem?_append_right (Nat.le_refl _)]; rcases hc with rfl | rfl <;> simp [hp]
/-- at a place up to the end of the token: as in s, or false at the end itself -/
theorem bl_cut {p : UInt8 → Bool} {s R : List UInt8} {k e i : Nat} (hR : Bl R) (hp : p 32 = false ∧ p 10 = false) (he : e ≤ s.length) (h : k + i ≤ e) : atP p ((s.drop k).take (e - k) ++ R) i = if k + i < e then atP p s (k + i) else false := by
  have hl := cut_len he (by omega : k ≤ e)
  rw [bl_at hR hp (by omega)]
  split
  · rename_i h2; exact cut_at he h2
  · exact atP_out (by omega)
theorem run_cut {p : UInt8 → Bool} {s R : List UInt8} {k e : Nat} (hR : Bl R) (hp : p 32 = false ∧ p 10 = false) (he : e ≤ s.length) : ∀ (m i : Nat), m = e - (k + i) → k + i ≤ e → runTo p s (k + i) ≤ e → k + runTo p ((s.drop k).take (e - k) ++ R) i = runTo p s (k + i) := by
  intro m
  induction m with
  | zero =>
    intro i hm hi h
    have hg := runTo_ge p s (k + i)
    rw [runTo_stop (by rw [bl_cut hR hp he hi, if_neg (by omega)])]; omega
  | succ m ih =>
    intro i hm hi h
    have hb := bl_cut (i := i) hR hp he hi
    rw [if_pos (by omega)] at hb
    cases ha : atP p s (k + i) with
    | true =>
      rw [runTo_step ha, runTo_step (hb.trans ha)]
      exact ih (i + 1) (by omega) (by omega) (by rw [← Nat.add_assoc, ← runTo_step ha]; exact h)
    | false => rw [runTo_stop ha, runTo_stop (hb.trans ha)]

theorem and_cut {p q : UInt8 → Bool} {s R : List UInt8} {k e j i : Nat} (hR : Bl R) (hp : p 32 = false ∧ p 10 = false) (hq : q 32 = false ∧ q 10 = false) (he : e ≤ s.length) (hk : k ≤ j) (h : j ≤ e) (hi : i = j - k) (hend : (atP p s j && atP q s (j + 1)) = true → j + 2 ≤ e) :
    (atP p ((s.drop k).take (e - k) ++ R) i && atP q ((s.drop k).take (e - k) ++ R) (i + 1)) = (atP p s j && atP q s (j + 1)) := by
  subst hi
  have b1 := bl_cut (k := k) (i := j - k) hR hp he (by omega)
  rw [show k + (j - k) = j by omega] at b1
  rw [b1]
  split
  · rename_i h1
    have b2 := bl_cut (k := k) (i := j - k + 1) hR hq he (by omega)
    rw [show k + (j - k + 1) = j + 1 by omega] at b2
    rw [b2]
    split
    · rfl
    · cases hc : (atP p s j && atP q s (j + 1)) with
      | true => have := hend hc; omega
      | false => simp
  · cases hc : (atP p s j && atP q s (j + 1)) with
    | true => have := hend hc; omega
    | false => simp
theorem run_cut' {p : UInt8 → Bool} {s R : List UInt8} {k e j i : Nat} (hR : Bl R) (hp : p 32 = false ∧ p 10 = false) (he : e ≤ s.length) (hk : k ≤ j) (h : j ≤ e) (hi : i = j - k) (hr : runTo p s j ≤ e) : runTo p ((s.drop k).take (e - k) ++ R) i = runTo p s j - k := by
  subst hi
  have := run_cut (k := k) (i := j - k) hR hp he _ rfl (by omega) (by rw [show k + (j - k) = j by omega]; exact hr)
  rw [show k + (j - k) = j by omega] at this
  omega
theorem dot_cut {s R : List UInt8} {k e j i : Nat} (hR : Bl R) (he : e ≤ s.length) (hk : k ≤ j) (h : j ≤ e) (hi : i = j - k) (hr : numDot s j ≤ e) : numDot ((s.drop k).take (e - k) ++ R) i = numDot s j - k := by
  have ha := and_cut (p := eqB 46) (q := digitB) hR (by decide) (by decide) he hk h hi (fun hc => by
    unfold numDot at hr
    rw [if_pos hc] at hr
    simp only [Bool.and_eq_true] at hc
    have h1 := runTo_step hc.2
    have h2 := runTo_ge digitB s (j + 1 + 1)
    omega)
  unfold numDot at hr ⊢
  rw [ha]
  split
  · rename_i hc
    rw [if_pos hc] at hr
    exact run_cut' hR (by decide) he (by omega) (by have := runTo_ge digitB s (j + 1); omega) (by omega) hr
  · exact hi
theorem tens_cut {s R : List UInt8} {k e j i : Nat} (hR : Bl R) (he : e ≤ s.length) (hk : k ≤ j) (h : j ≤ e) (hi : i = j - k) (hr : (numTens s j).2 = e) : numTens ((s.drop k).take (e - k) ++ R) i = ((numTens s j).1, e - k) := by
  by_cases c1 : (atP (eqB 101) s j && atP digitB s (j + 1)) = true
  · have hs : numTens s j = (runTo digitB s (j + 1) - (j + 1), runTo digitB s (j + 1)) := by unfold numTens; rw [if_pos c1]
    rw [hs] at hr ⊢
    simp only at hr ⊢
    have c1' := c1
    simp only [Bool.and_eq_true] at c1'
    have h1 := runTo_step c1'.2
    have h2 := runTo_ge digitB s (j + 1 + 1)
    have ha := and_cut (p := eqB 101) (q := digitB) hR (by decide) (by decide) he hk h hi (fun _ => by omega)
    have hrun := run_cut' (p := digitB) (i := i + 1) hR (by decide) he (by omega : k ≤ j + 1) (by omega) (by omega) (by omega)
    unfold numTens
    rw [ha, if_pos c1, hrun, hr]
    simp only [Prod.mk.injEq, and_true]; omega
  · by_cases c2 : (atP (eqB 101) s j && (atP pmB s (j + 1) && atP digitB s (j + 2))) = true
    · have hs : numTens s j = (runTo digitB s (j + 2) - (j + 2), runTo digitB s (j + 2)) := by unfold numTens; rw [if_neg c1, if_pos c2]
      rw [hs] at hr ⊢
      simp only at hr ⊢
      have c2' := c2
      simp only [Bool.and_eq_true] at c2'
      have h1 := runTo_step c2'.2.2
      have h2 := runTo_ge digitB s (j + 2 + 1)
      have ha := and_cut (p := eqB 101) (q := digitB) hR (by decide) (by decide) he hk h hi (fun hc => absurd hc c1)
      have b0 := bl_cut (p := eqB 101) (k := k) (i := i) hR (by decide) he (by omega : k + i ≤ e)
      have b1 := bl_cut (p := pmB) (k := k) (i := i + 1) hR (by decide) he (by omega : k + (i + 1) ≤ e)
      have b2 := bl_cut (p := digitB) (k := k) (i := i + 2) hR (by decide) he (by omega : k + (i + 2) ≤ e)
      rw [if_pos (by omega), show k + i = j by omega] at b0
      rw [if_pos (by omega), show k + (i + 1) = j + 1 by omega] at b1
      rw [if_pos (by omega), show k + (i + 2) = j + 2 by omega] at b2
      have hrun := run_cut' (p := digitB) (i := i + 2) hR (by decide) he (by omega : k ≤ j + 2) (by omega) (by omega) (by omega)
      unfold numTens
      rw [ha, if_neg c1, b0, b1, b2, if_pos c2, hrun, hr]
      simp only [Prod.mk.injEq, and_true]; omega
    · have hs : numTens s j = (0, j) := by unfold numTens; rw [if_neg c1, if_neg c2]
      rw [hs] at hr ⊢
      simp only at hr ⊢
      have b0 := bl_cut (p := eqB 101) (k := k) (i := i) hR (by decide) he (by omega : k + i ≤ e)
      rw [if_neg (by omega)] at b0
      unfold numTens
      rw [b0]
      simp only [Bool.false_and, Bool.false_eq_true, if_false, Prod.mk.injEq, true_and]
      omega
theorem num_cut {s R : List UInt8} {k e : Nat} (hR : Bl R) (he : e ≤ s.length) (hk : k ≤ e) (hn : numEnd s k = e) (hf : numFine s k = true) : numEnd ((s.drop k).take (e - k) ++ R) 0 = e - k ∧ numFine ((s.drop k).take (e - k) ++ R) 0 = true := by
  have h1 := runTo_le (p := digitB) (s := s) (i := k) (by omega)
  have h2 := numDot_le h1
  have h3 := numTens_le h2.1
  have g1 := runTo_ge digitB s k
  unfold numEnd at hn
  have e1 := run_cut' (p := digitB) (i := 0) (j := k) hR (by decide) he (Nat.le_refl _) hk (by omega) (by omega)
  have e2 := dot_cut (i := runTo digitB s k - k) (j := runTo digitB s k) hR he g1 (by omega) rfl (by omega)
  have e3 := tens_cut (i := numDot s (runTo digitB s k) - k) (j := numDot s (runTo digitB s k)) hR he (by omega) (by omega) rfl hn
  have hE : numEnd ((s.drop k).take (e - k) ++ R) 0 = e - k := by unfold numEnd; rw [e1, e2, e3]
  refine ⟨hE, ?_⟩
  unfold numFine at hf ⊢
  rw [hE, e1, e2, e3]
  simp only [Bool.and_eq_true] at hf
  have b := bl_cut (p := tailB) (k := k) (i := e - k) hR (by decide) he (by omega : k + (e - k) ≤ e)
  rw [if_neg (by omega)] at b
  rw [b]
  simp only [Bool.and_eq_true]
  exact ⟨hf.1, rfl⟩
theorem sign_alone {R : List UInt8} (hR : Bl R) : ∀ t ∈ signsL, signsL.find? (fun x => x.isPrefixOf (t ++ R)) = some t ∧ atP blankB (t ++ R) 0 = false ∧ cmt (t ++ R) 0 = false := by
  intro t ht
  rcases hR with rfl | ⟨c, r, hc, rfl⟩
  · rw [List.append_nil]
    revert t; decide +kernel
  · simp only [signsL, List.mem_cons, List.not_mem_nil, or_false] at ht
    rcases hc with rfl | rfl <;> rcases ht with rfl | rfl | rfl | rfl | rfl | rfl | rfl | rfl | rfl | rfl | rfl | rfl | rfl | rfl | rfl | rfl | rfl | rfl | rfl | rfl | rfl | rfl <;>
      exact ⟨by simp [signsL, List.find?, List.isPrefixOf], by simp [atP, blankB], by simp [cmt, atP, eqB]⟩

theorem tok_cut {s R : List UInt8} {k e kd : Nat} (hR : Bl R) (hk : k ≤ s.length) (h : tokAt s k = (kd, e, true)) :
    tokAt ((s.drop k).take (e - k) ++ R) 0 = (kd, e - k, true) ∧ atP blankB ((s.drop k).take (e - k) ++ R) 0 = false ∧ cmt ((s.drop k).take (e - k) ++ R) 0 = false := by
  have h1 := tok_le hk
  rw [h] at h1
  simp only at h1
  have hke : k < e := h1.2.2 trivial
  have he := h1.2.1
  have z : ∀ p : UInt8 → Bool, p 32 = false ∧ p 10 = false → atP p ((s.drop k).take (e - k) ++ R) 0 = atP p s k := fun p hp => by
    have := bl_cut (k := k) (i := 0) (p := p) hR hp he (by omega)
    rw [if_pos (by omega), Nat.add_zero] at this
    exact this
  have zn : nameB ((s.drop k).take (e - k) ++ R) 0 = nameB s k := by unfold nameB; rw [z _ (by decide), z _ (by decide)]
  unfold tokAt at h
  split at h
  · rename_i hn
    simp only [Prod.mk.injEq, and_true] at h
    obtain ⟨rfl, hr⟩ := h
    have e1 := run_cut' (p := wordB) (i := 0) (j := k) hR (by decide) he (Nat.le_refl _) (by omega) (by omega) (by omega)
    have hn2 := hn
    simp only [nameB, Bool.and_eq_true] at hn2
    refine ⟨?_, ?_, ?_⟩
    · rw [tokAt, if_pos (zn.trans hn), e1, hr]
    · have := at_two (fun b hb => (letter_blank b hb).1) ((z letterB (by decide)).trans hn2.1)
      exact this
    · rw [cmt, at_two (fun b hb => (letter_blank b hb).2) ((z letterB (by decide)).trans hn2.1)]; rfl
  · rename_i hn
    split at h
    · rename_i hd
      simp only [Prod.mk.injEq] at h
      obtain ⟨rfl, hr, hf⟩ := h
      have e1 := num_cut (k := k) hR he (by omega) hr hf
      refine ⟨?_, ?_, ?_⟩
      · rw [tokAt, if_neg (by rw [zn]; exact hn), if_pos ((z digitB (by decide)).trans hd), e1.1, e1.2]
      · exact at_two (fun b hb => (digit_blank b hb).1) ((z digitB (by decide)).trans hd)
      · rw [cmt, at_two (fun b hb => (digit_blank b hb).2) ((z digitB (by decide)).trans hd)]; rfl
    · rename_i hd
      split at h
      · simp at h
      · rename_i hs
        simp only [Prod.mk.injEq, and_true] at h
        obtain ⟨rfl, hr⟩ := h
        cases ho : signOf s k with
        | none => exact absurd (by simp [signLen, ho]) hs
        | some t =>
          have hL : signLen s k = t.length := by simp [signLen, ho]
          have hmem : t ∈ signsL := List.mem_of_find?_eq_some ho
          have hpre0 := List.find?_some ho
          have hpre := List.isPrefixOf_iff_prefix.1 hpre0
          have ht : (s.drop k).take (e - k) = t := by
            rw [show e - k = t.length by omega]
            exact (List.prefix_iff_eq_take.1 hpre).symm
          have ha := sign_alone hR t hmem
          rw [ht] at z zn ⊢
          refine ⟨?_, ha.2.1, ha.2.2⟩
          have hs2 : signLen (t ++ R) 0 = t.length := by
            unfold signLen signOf
            rw [List.drop_zero, ha.1]; rfl
          rw [tokAt, if_neg (by rw [zn]; exact hn), if_neg (by rw [z _ (by decide)]; exact hd), if_neg (by rw [hs2]; omega), hs2]
          simp only [Prod.mk.injEq, and_true, true_and]; omega

/-! texts, each with a blank or a line's end behind it -/
def Sp (xs : List (Tk × UInt8)) : List UInt8 := xs.flatMap fun t => t.1.2.1 ++ [t.2]
def isSp (c : UInt8) : Prop := c = 32 ∨ c = 10
theorem bl_Sp {c : UInt8} (hc : isSp c) (r : List UInt8) : Bl (c :: r) := .inr ⟨c, r, hc, rfl⟩
theorem lex_Sp : ∀ (xs : List (Tk × UInt8)), (∀ t ∈ xs, Good t.1 ∧ isSp t.2) → ∀ (u : List UInt8) (x : Rd), x.2 = (0, 0) → x.1.length ≤ 6000 →
    (lexS readN (u ++ Sp xs) (skipTo (u ++ Sp xs) u.length) x).2.1 = 0 ∨ (lexS readN (u ++ Sp xs) (skipTo (u ++ Sp xs) u.length) x).2.1 = 6
  | [], _, u, x, h0, _ => by
    have hJ : Sp [] = [] := rfl
    have hs : skipTo u u.length = u.length := skip_stop (Nat.le_refl _) (atP_out (Nat.le_refl _)) (by rw [cmt, atP_out (Nat.le_refl _)]; rfl)
    rw [hJ, List.append_nil, hs, lexS_stop readN (by omega), h0]
    exact .inl rfl
  | (t, c) :: xs, hg, u, x, h0, hn => by
    obtain ⟨⟨s, k, e, hk, htk, htx⟩, hcs⟩ := hg (t, c) (.head _)
    simp only at htk htx hcs
    have h1 := tok_le hk
    rw [htk] at h1
    simp only at h1
    have hke : k < e := h1.2.2 trivial
    have he := h1.2.1
    have hc := tok_cut (bl_Sp hcs (Sp xs)) hk htk
    rw [← htx] at hc
    have hlen : t.2.1.length = e - k := by rw [htx]; exact cut_len he (by omega)
    have hS : Sp ((t, c) :: xs) = t.2.1 ++ c :: Sp xs := by simp [Sp]
    have hw2 : u ++ Sp ((t, c) :: xs) = ((u ++ t.2.1) ++ [c]) ++ Sp xs := by simp [Sp]
    have hs0 : skipTo (t.2.1 ++ c :: Sp xs) 0 = 0 := skip_stop (Nat.zero_le _) hc.2.1 hc.2.2
    have hsk : skipTo (u ++ Sp ((t, c) :: xs)) u.length = u.length := by
      have h2 := skip_sh (u := u) (v := t.2.1 ++ c :: Sp xs) 0
      rw [hs0, Nat.add_zero] at h2
      rw [hS]; exact h2
    have htok := tok_sh (u := u) (v := t.2.1 ++ c :: Sp xs) 0
    have htx2 := tx_sh (u := u) (v := t.2.1 ++ c :: Sp xs) 0
    rw [← hS, Nat.add_zero] at htok htx2
    rw [hS, hc.1] at htok
    have htx3 : tokTx (t.2.1 ++ c :: Sp xs) 0 = t.2.1 := by
      unfold tokTx
      rw [hc.1]
      simp only [List.drop_zero, Nat.sub_zero]
      rw [← hlen, List.take_left']
      rfl
    rw [hS, htx3] at htx2
    rw [← hS] at htok htx2
    have hl2 : u.length < (u ++ Sp ((t, c) :: xs)).length := by rw [hS]; simp; omega
    rw [hsk]
    by_cases hfull : x.1.length < 6000
    · have hN : readN x (tokAt (u ++ Sp ((t, c) :: xs)) u.length).1 (tokTx (u ++ Sp ((t, c) :: xs)) u.length) u.length (tokAt (u ++ Sp ((t, c) :: xs)) u.length).2.2 = ((x.1 ++ [(t.1, t.2.1, u.length)], x.2), true) := by
        rw [htok, htx2]
        simp only
        rw [readN, if_neg (by simp), if_neg (by omega)]
      rw [lexS_go readN readN_no hl2 (by rw [hN]), hN, htok]
      simp only
      have ih := lex_Sp xs (fun t ht => hg t (.tail _ ht)) ((u ++ t.2.1) ++ [c]) (x.1 ++ [(t.1, t.2.1, u.length)], x.2) h0 (by simp; omega)
      have hu1 : (u ++ t.2.1).length = u.length + (e - k) := by rw [List.length_append, hlen]
      have hb : atP blankB (u ++ Sp ((t, c) :: xs)) (u.length + (e - k)) = true := by
        unfold atP
        rw [hw2, List.append_assoc, List.getElem?_append_right (by omega), hu1, Nat.sub_self]
        rcases hcs with rfl | rfl <;> rfl
      have hl3 : u.length + (e - k) < (u ++ Sp ((t, c) :: xs)).length := by rw [hS]; simp; omega
      rw [skip_blank hl3 hb, hw2]
      have hu2 : ((u ++ t.2.1) ++ [c]).length = u.length + (e - k) + 1 := by rw [List.length_append, hu1]; rfl
      rw [hu2] at ih
      exact ih
    · have hN : readN x (tokAt (u ++ Sp ((t, c) :: xs)) u.length).1 (tokTx (u ++ Sp ((t, c) :: xs)) u.length) u.length (tokAt (u ++ Sp ((t, c) :: xs)) u.length).2.2 = ((x.1, 6, u.length), false) := by
        rw [htok, htx2]
        simp only
        rw [readN, if_neg (by simp), if_pos (by omega)]
      rw [lexS_end readN hl2 (by rw [hN]), hN]
      exact .inr rfl
end Go.Tok.W
end

section
/- Trees: the tokens of what is written, apart in the text; expressions told apart. -/
namespace Go.Tree
open Go.Tok Go.Tok.W
/-! a token by itself -/
def Tk1 (s : Str) : Prop := ∃ kd, Go.Tok.Good (kd, s, 0)
theorem tk_fix {s : Str} (h : (tokAt s 0).2 = (s.length, true)) : Tk1 s :=
  ⟨(tokAt s 0).1, s, 0, s.length, Nat.zero_le _, Prod.ext rfl h, by simp⟩
theorem tk_one {k : Nat} {s : Str} (h : oneB k s = true) : Tk1 s := by
  unfold oneB at h
  simp only [Bool.and_eq_true, decide_eq_true_eq] at h
  obtain ⟨h0, h1⟩ := h
  split at h1
  · rename_i t e1
    simp only [Bool.and_eq_true, decide_eq_true_eq] at h1
    have hl : s.length ≤ 20000 := by
      rcases Nat.lt_or_ge 20000 s.length with h | h
      · rw [readP_long h] at h0; exact absurd h0 (by decide)
      · exact h
    have hS : (readS s).2.1 = 0 := by
      by_cases h2 : (readS s).2.1 = 0
      · exact h2
      · rw [readP_bad (by omega) h2] at h0; exact absurd h0 h2
    rw [readP_fine (by omega) hS] at e1
    have hc := chain_read hS
    simp only at e1
    have hg := chain_good hc t (by rw [e1]; exact .head _)
    obtain ⟨s', k', e', q1, q2, q3⟩ := hg
    exact ⟨t.1, s', k', e', q1, q2, by rw [← h1.2]; exact q3⟩
  · cases h1
theorem tk_name {s : Str} (h : nameOk s = true) : Tk1 s := by
  unfold nameOk at h
  simp only [Bool.and_eq_true] at h
  exact tk_one h.1
theorem tk_at {s : Str} (h : Tk1 s) {c : UInt8} (hc : isSp c) (A : Str) : (tokAt (s ++ c :: A) 0).2.1 = s.length := by
  obtain ⟨kd, s', k, e, hk, htk, htx⟩ := h
  simp only at htk htx
  have h1 := tok_le hk
  rw [htk] at h1
  simp only at h1
  have hc2 := tok_cut (bl_Sp hc A) hk htk
  rw [← htx] at hc2
  have hlen : s.length = e - k := by rw [htx]; exact cut_len h1.2.1 (by have := h1.2.2 trivial; omega)
  rw [hc2.1, hlen]
theorem tk_cut {s t : Str} (hs : Tk1 s) (ht : Tk1 t) {c d : UInt8} (hc : isSp c) (hd : isSp d) {A B : Str} (h : s ++ c :: A = t ++ d :: B) : s = t ∧ A = B := by
  have h1 := tk_at hs hc A
  have h2 := tk_at ht hd B
  rw [h] at h1
  have hl : s.length = t.length := by rw [← h1, ← h2]
  have h3 := List.append_inj h hl
  exact ⟨h3.1, (List.cons.inj h3.2).2⟩
theorem sp_is (s : Str) : ∃ c, isSp c ∧ sp s = s ++ [c] := by
  unfold sp
  by_cases h : brk s = true
  · exact ⟨10, .inr rfl, by rw [if_pos h]⟩
  · exact ⟨32, .inl rfl, by rw [if_neg h]⟩
theorem sp_inj : ∀ {xs ys : List Str}, (∀ s ∈ xs, Tk1 s) → (∀ s ∈ ys, Tk1 s) → xs.flatMap sp = ys.flatMap sp → xs = ys
  | [], [], _, _, _ => rfl
  | [], y :: ys, _, _, h => by
    obtain ⟨c, _, hc⟩ := sp_is y
    rw [List.flatMap_cons, hc] at h; simp at h
  | x :: xs, [], _, _, h => by
    obtain ⟨c, _, hc⟩ := sp_is x
    rw [List.flatMap_cons, hc] at h; simp at h
  | x :: xs, y :: ys, hx, hy, h => by
    obtain ⟨c, hc1, hc⟩ := sp_is x
    obtain ⟨d, hd1, hd⟩ := sp_is y
    rw [List.flatMap_cons, List.flatMap_cons, hc, hd, List.append_assoc, List.append_assoc] at h
    have h2 := tk_cut (hx x (.head _)) (hy y (.head _)) hc1 hd1 h
    rw [h2.1, sp_inj (fun s hs => hx s (.tail _ hs)) (fun s hs => hy s (.tail _ hs)) h2.2]
/-- what is written can be read, or is too much -/
theorem sp_read {xs : List Str} (hx : ∀ s ∈ xs, Tk1 s) (hl : (xs.flatMap sp).length ≤ 20000) : (readP (xs.flatMap sp)).2.1 = 0 ∨ (readP (xs.flatMap sp)).2.1 = 6 := by
  have hq : ∃ ts : List (Tk × UInt8), (∀ t ∈ ts, Go.Tok.Good t.1 ∧ isSp t.2) ∧ Sp ts = xs.flatMap sp := by
    clear hl
    induction xs with
    | nil => exact ⟨[], by simp, rfl⟩
    | cons x xs ih =>
      obtain ⟨ts, h1, h2⟩ := ih (fun s hs => hx s (.tail _ hs))
      obtain ⟨c, hc1, hc⟩ := sp_is x
      obtain ⟨kd, hg⟩ := hx x (.head _)
      refine ⟨((kd, x, 0), c) :: ts, fun t ht => ?_, ?_⟩
      · rcases List.mem_cons.1 ht with rfl | ht
        · exact ⟨hg, hc1⟩
        · exact h1 t ht
      · rw [List.flatMap_cons, hc, ← h2]; simp [Sp]
  obtain ⟨ts, h1, h2⟩ := hq
  have h := lex_Sp ts h1 [] ([], 0, 0) rfl (Nat.zero_le _)
  rw [List.nil_append, List.length_nil, h2] at h
  have hS : readS (xs.flatMap sp) = lexS readN (xs.flatMap sp) (skipTo (xs.flatMap sp) 0) ([], 0, 0) := rfl
  rw [← hS] at h
  rcases h with h | h
  · rw [readP_fine (by omega) h]; exact .inl rfl
  · rw [readP_bad (by omega) (by rw [h]; decide)]; exact .inr h
/-! expressions told apart -/
mutual
theorem exSame_Z : ∀ x y : Ex, exZ x = exZ y → exSame x y = true
  | .mk o a n k, .mk o2 a2 n2 k2, h => by
    simp only [exZ, Ex.mk.injEq, true_and] at h
    have h2 := exsSame_Z k k2 h.2.2
    simp only [exSame, Ex.op, Ex.nm, Ex.kids, h.1, h.2.1, h2, decide_true, Bool.and_true]
theorem exsSame_Z : ∀ l m : List Ex, exsZ l = exsZ m → exsSame l m = true
  | [], [], _ => by simp [exsSame]
  | [], y :: m, h => by simp [exsZ] at h
  | x :: l, [], h => by simp [exsZ] at h
  | x :: l, y :: m, h => by
    simp only [exsZ, List.cons.injEq] at h
    rw [exsSame]; simp [exSame_Z x y h.1, exsSame_Z l m h.2]
end
mutual
theorem exT_same : ∀ x y : Ex, exSame x y = true → exT x = exT y ∧ x.op = y.op
  | .mk o a n k, .mk o2 a2 n2 k2, h => by
    rw [exSame] at h
    simp only [Ex.op, Ex.nm, Ex.kids, Bool.and_eq_true, decide_eq_true_eq] at h
    obtain ⟨h1, h3, h⟩ := h
    obtain rfl := of_decide_eq_true h1
    obtain rfl := of_decide_eq_true h3
    have h2 := exsT_same k k2 h
    exact ⟨by rw [exT, exT, h2.1, h2.2], rfl⟩
theorem exsT_same : ∀ l m : List Ex, exsSame l m = true → exsT l = exsT m ∧ l.map Ex.op = m.map Ex.op
  | [], [], _ => ⟨rfl, rfl⟩
  | [], y :: m, h => by simp [exsSame] at h
  | x :: l, [], h => by simp [exsSame] at h
  | x :: l, y :: m, h => by
    rw [exsSame] at h
    simp only [Bool.and_eq_true] at h
    have h1 := exT_same x y h.1
    have h2 := exsT_same l m h.2
    exact ⟨by rw [exsT, exsT, h1.1, h2.1], by rw [List.map_cons, List.map_cons, h1.2, h2.2]⟩
end
theorem ex_cut {x y : Ex} (hx : exOk x = true) (hy : exOk y = true) {r r' : List Str} (hr : nm6 r) (hr' : nm6 r') (h : exT x ++ r = exT y ++ r') : exSame x y = true ∧ r = r' := by
  have h1 := su_done (ex_read hx) (f := K x + K y) (by omega) hr
  have h2 := su_done (ex_read hy) (f := K x + K y) (by omega) hr'
  rw [h, h2] at h1
  simp only [Option.some.injEq, Prod.mk.injEq] at h1
  exact ⟨exSame_Z x y h1.1.symm, h1.2.symm⟩
/-! their tokens -/
theorem tk_signs : ∀ o, 6 ≤ o → o ≤ 15 → Tk1 (signs o) := by
  intro o h1 h2
  have : o = 6 ∨ o = 7 ∨ o = 8 ∨ o = 9 ∨ o = 10 ∨ o = 11 ∨ o = 12 ∨ o = 13 ∨ o = 14 ∨ o = 15 := by omega
  rcases this with rfl | rfl | rfl | rfl | rfl | rfl | rfl | rfl | rfl | rfl <;> exact tk_fix (by decide +kernel)
def Tks (l : List Str) : Prop := ∀ s ∈ l, Tk1 s
theorem tks_nil : Tks [] := fun _ h => (List.not_mem_nil h).elim
theorem tks_cons {s : Str} {l : List Str} (h : Tk1 s) (h2 : Tks l) : Tks (s :: l) := fun t ht => by
  rcases List.mem_cons.1 ht with rfl | ht
  · exact h
  · exact h2 t ht
theorem tks_append {l m : List Str} (h : Tks l) (h2 : Tks m) : Tks (l ++ m) := fun t ht => by
  rcases List.mem_append.1 ht with ht | ht
  · exact h t ht
  · exact h2 t ht
theorem tks_row : ∀ {l : List (List Str)}, (∀ x ∈ l, Tks x) → Tks (rowT l)
  | [], _ => tks_nil
  | x :: l, h => by
    rw [rowT]
    refine tks_append (h x (.head _)) fun s hs => ?_
    obtain ⟨y, hy, hs⟩ := List.mem_flatMap.1 hs
    rcases List.mem_cons.1 hs with rfl | hs
    · exact tk_fix (by decide +kernel)
    · exact h y (.tail _ hy) s hs
theorem tks_kid {o : Nat} {t : List Str} {n : Nat} (h : Tks t) : Tks (kidT o t n) := by
  unfold kidT; split
  · exact tks_append (tks_append (tks_cons (tk_fix (by decide +kernel)) tks_nil) h) (tks_cons (tk_fix (by decide +kernel)) tks_nil)
  · exact h
theorem tks_two {o : Nat} (h6 : 6 ≤ o) (h15 : o ≤ 15) (a : Int) (nm : Str) {x y : Ex} (hx : Tks (exT x)) (hy : Tks (exT y)) : Tks (exT (.mk o a nm [x, y])) := by
  rw [exT_two h6 a nm (x := x) (z := y) rfl rfl]
  exact tks_append (tks_append (tks_kid hx) (tks_cons (tk_signs o h6 h15) tks_nil)) (tks_kid hy)
theorem exT_tks : ∀ (n : Nat) (e : Ex), exW e ≤ n → exOk e = true → Tks (exT e)
  | 0, .mk op a nm ks, hn, _ => by rw [exW] at hn; omega
  | n + 1, .mk op a nm ks, hn, hok => by
    rw [exW] at hn
    rcases ok_cases hok with ⟨rfl, rfl, h⟩ | ⟨rfl, rfl, h⟩ | ⟨rfl, h, x, rfl, hx⟩ | ⟨rfl, h, hx⟩ | ⟨rfl, rfl, x, rfl, hx⟩ | ⟨ho, rfl, x, y, rfl, hx, hy⟩ | ⟨ho, rfl, x, y, rfl, hx, hy⟩
    · rw [exT_12 (.inl rfl)]; exact tks_cons (tk_one h) tks_nil
    · rw [exT_12 (.inr rfl)]; exact tks_cons (tk_name h) tks_nil
    · have h1 := exT_tks n x (by simp only [exsW] at hn; omega) hx
      rw [exT_3 rfl]
      exact tks_append (tks_append (tks_cons (tk_name h) (tks_cons (tk_fix (by decide +kernel)) tks_nil)) (tks_row (by simp only [exsT, List.mem_singleton]; rintro _ rfl; exact h1))) (tks_cons (tk_fix (by decide +kernel)) tks_nil)
    · rw [exT_4 rfl]
      refine tks_append (tks_append (tks_cons (tk_name h) (tks_cons (tk_fix (by decide +kernel)) tks_nil)) (tks_row fun t ht => ?_)) (tks_cons (tk_fix (by decide +kernel)) tks_nil)
      rw [exsT_map] at ht
      obtain ⟨x, hm, rfl⟩ := List.mem_map.1 ht
      exact exT_tks n x (by have := exsW_mem hm; omega) (hx x hm)
    · have h1 := exT_tks n x (by simp only [exsW] at hn; omega) hx
      rw [exT_5 rfl (x := x) a [] rfl]
      exact tks_append (tks_cons (tk_fix (by decide +kernel)) tks_nil) (tks_kid h1)
    · exact tks_two (by omega) (by omega) a [] (exT_tks n x (by simp only [exsW] at hn; omega) hx) (exT_tks n y (by simp only [exsW] at hn; omega) hy)
    · exact tks_two (by omega) (by omega) a [] (exT_tks n x (by simp only [exsW] at hn; omega) hx) (exT_tks n y (by simp only [exsW] at hn; omega) hy)
theorem tks_ex {e : Ex} (h : exOk e = true) : Tks (exT e) := exT_tks (exW e) e (Nat.le_refl _) h
end Go.Tree
end

section
/- Trees: statements, declarations and programs told apart by what is written of them. -/
namespace Go.Tree
open Go.Tok Go.Tok.W
/-! how an expression begins -/
def exHd (h : Str) : Bool := decide (h = [45]) || (decide (h = [40]) || (oneB 2 h || nameOk h))
theorem exT_hd2 : ∀ (n : Nat) (e : Ex), exW e ≤ n → exOk e = true → ∃ h t, exT e = h :: t ∧ exHd h = true
  | 0, .mk op a nm ks, hn, _ => by rw [exW] at hn; omega
  | n + 1, .mk op a nm ks, hn, hok => by
    rw [exW] at hn
    have two : ∀ (x y : Ex) (o : Nat), 6 ≤ o → ks = [x, y] → exOk x = true → ∃ h t, exT (.mk o a nm ks) = h :: t ∧ exHd h = true := by
      rintro x y o ho rfl hx
      rw [exT_two ho a nm (x := x) (z := y) rfl rfl]
      obtain ⟨h, t, h1, h2⟩ := exT_hd2 n x (by simp only [exsW] at hn; omega) hx
      unfold kidT
      by_cases hq : rank x.op < low o
      · rw [if_pos hq]; exact ⟨[40], _, by simp only [List.cons_append, List.nil_append]; rfl, by decide +kernel⟩
      · rw [if_neg hq, h1]; exact ⟨h, _, by simp only [List.cons_append]; rfl, h2⟩
    rcases ok_cases hok with ⟨rfl, _, h⟩ | ⟨rfl, _, h⟩ | ⟨rfl, h, _⟩ | ⟨rfl, h, _⟩ | ⟨rfl, _, x, rfl, _⟩ | ⟨ho, _, x, y, h1, h2, _⟩ | ⟨ho, _, x, y, h1, h2, _⟩
    · exact ⟨nm, [], exT_12 (.inl rfl) a nm ks, by unfold exHd; simp [h]⟩
    · exact ⟨nm, [], exT_12 (.inr rfl) a nm ks, by unfold exHd; simp [h]⟩
    · exact ⟨nm, _, by rw [exT_3 rfl]; simp only [List.cons_append]; rfl, by unfold exHd; simp [h]⟩
    · exact ⟨nm, _, by rw [exT_4 rfl]; simp only [List.cons_append]; rfl, by unfold exHd; simp [h]⟩
    · exact ⟨[45], _, by rw [exT_5 rfl (x := x) a nm rfl]; simp only [List.cons_append]; rfl, by decide +kernel⟩
    · exact two x y op (by omega) h1 h2
    · exact two x y op (by omega) h1 h2
/-- what a first token says -/
def hdK (h : Str) : Nat :=
  if h = [116, 97, 114, 103, 101, 116] then 2 else if h = [102, 111, 114] then 4 else if h = [105, 102] then 5 else if h = [123] then 6
  else if h = [125] then 7 else if h = [101, 108, 115, 101] then 8 else if h = [97, 114, 114, 97, 121] then 9 else if h = [105, 110, 116] then 10
  else if h = [114, 101, 97, 108] then 11 else if h = [118, 101, 99, 116, 111, 114] then 12 else if h = [60] then 13 else if h = [91] then 14 else 0
theorem hdK_ex {h : Str} (hh : exHd h = true) : hdK h = 0 := by
  have ne : ∀ w : Str, exHd w = false → h ≠ w := fun w hw e => by rw [e, hw] at hh; cases hh
  unfold hdK
  rw [if_neg (ne _ (by decide +kernel)), if_neg (ne _ (by decide +kernel)), if_neg (ne _ (by decide +kernel)), if_neg (ne _ (by decide +kernel)), if_neg (ne _ (by decide +kernel)), if_neg (ne _ (by decide +kernel)), if_neg (ne _ (by decide +kernel)), if_neg (ne _ (by decide +kernel)), if_neg (ne _ (by decide +kernel)), if_neg (ne _ (by decide +kernel)), if_neg (ne _ (by decide +kernel)), if_neg (ne _ (by decide +kernel))]
def hk : List Str → Nat
  | [] => 99
  | h :: _ => hdK h
theorem hk_cons (h : Str) (t : List Str) : hk (h :: t) = hdK h := rfl
theorem hk_ex {e : Ex} (h : exOk e = true) (r : List Str) : hk (exT e ++ r) = 0 := by
  obtain ⟨a, t, h1, h2⟩ := exT_hd2 (exW e) e (Nat.le_refl _) h
  rw [h1]; exact hdK_ex h2
theorem hk_name {s : Str} (h : nameOk s = true) (r : List Str) : hk (s :: r) = 0 := hdK_ex (by unfold exHd; simp [h])
/-! comparisons -/
theorem cmp_cases {e : Ex} (h : cmpOk e = true) : ∃ op a x y, e = .mk op a [] [x, y] ∧ 10 ≤ op ∧ op ≤ 15 ∧ exOk x = true ∧ exOk y = true ∧ exT e = exT x ++ signs op :: exT y := by
  obtain ⟨op, a, nm, ks⟩ := e
  simp only [cmpOk, Ex.op, Ex.nm, Ex.kids, Bool.and_eq_true, decide_eq_true_eq] at h
  obtain ⟨h1, h2, h3, h4⟩ := h
  obtain rfl := of_decide_eq_true h2
  have h3 := of_decide_eq_true h3
  match ks, h3, h4 with
  | [x, y], _, h4 =>
    rw [exsOk_all] at h4
    simp only [List.all_cons, List.all_nil, Bool.and_true, Bool.and_eq_true] at h4
    have h5 : 10 ≤ op ∧ op ≤ 15 := by simpa [cmpOp] using h1
    refine ⟨op, a, x, y, rfl, h5.1, h5.2, h4.1, h4.2, ?_⟩
    rw [exT_two (by omega) a [] (x := x) (z := y) rfl rfl]
    have hl : low op = 0 := by unfold low; rw [if_pos h1]
    rw [hl]
    unfold kidT
    simp
theorem signs_cmp {o : Nat} (h : 10 ≤ o) (h2 : o ≤ 15) (r : List Str) : nm6 (signs o :: r) := by
  have : o = 10 ∨ o = 11 ∨ o = 12 ∨ o = 13 ∨ o = 14 ∨ o = 15 := by omega
  rcases this with rfl | rfl | rfl | rfl | rfl | rfl <;> exact nm6_close _ _ (by decide) (by decide) (by decide) (by decide) (by decide) (by decide)
theorem signs_inj {o p : Nat} (h : 10 ≤ o) (h2 : o ≤ 15) (h3 : 10 ≤ p) (h4 : p ≤ 15) (h5 : signs o = signs p) : o = p := by
  have a : o = 10 ∨ o = 11 ∨ o = 12 ∨ o = 13 ∨ o = 14 ∨ o = 15 := by omega
  have b : p = 10 ∨ p = 11 ∨ p = 12 ∨ p = 13 ∨ p = 14 ∨ p = 15 := by omega
  rcases a with rfl | rfl | rfl | rfl | rfl | rfl <;> rcases b with rfl | rfl | rfl | rfl | rfl | rfl <;> first | rfl | (revert h5; decide)
theorem cmp_cut {e e' : Ex} (h : cmpOk e = true) (h' : cmpOk e' = true) {r r' : List Str} (hr : nm6 r) (hr' : nm6 r') (hq : exT e ++ r = exT e' ++ r') : exSame e e' = true ∧ r = r' := by
  obtain ⟨o, a, x, y, rfl, o1, o2, hx, hy, ht⟩ := cmp_cases h
  obtain ⟨p, b, x', y', rfl, p1, p2, hx', hy', ht'⟩ := cmp_cases h'
  rw [ht, ht', List.append_assoc, List.append_assoc, List.cons_append, List.cons_append] at hq
  have h1 := ex_cut hx hx' (signs_cmp o1 o2 _) (signs_cmp p1 p2 _) hq
  have h2 := List.cons.inj h1.2
  obtain rfl := signs_inj o1 o2 p1 p2 h2.1
  have h3 := ex_cut hy hy' hr hr' h2.2
  exact ⟨by simp [exSame, exsSame, Ex.op, Ex.nm, Ex.kids, h1.1, h3.1], h3.2⟩
theorem nm6_of {c : Str} (r : List Str) (h : (c != [91] && c != [40] && c != [42] && c != [47] && c != [43] && c != [45]) = true) : nm6 (c :: r) := by
  simp only [Bool.and_eq_true, bne_iff_ne] at h
  exact nm6_close r c h.1.1.1.1.1 h.1.1.1.1.2 h.1.1.1.2 h.1.1.2 h.1.2 h.2
/-! statements -/
theorem sm_cases {op : Nat} {a : Int} {nm : Str} {ks : List Ex} {b e : List Sm} (h : smOk (.mk op a nm ks b e) = true) :
    (op = 1 ∧ nameOk nm = true ∧ b = [] ∧ e = [] ∧ ∃ x, ks = [x] ∧ exOk x = true) ∨ (op = 1 ∧ nameOk nm = true ∧ b = [] ∧ e = [] ∧ ∃ x y, ks = [x, y] ∧ exOk x = true ∧ exOk y = true) ∨
    (op = 3 ∧ nameOk nm = true ∧ b = [] ∧ e = [] ∧ ∃ x l, ks = x :: l ∧ exOk x = true ∧ exsOk l = true) ∨
    (op = 2 ∧ nm = [] ∧ b = [] ∧ e = [] ∧ ∃ x, ks = [x] ∧ exOk x = true) ∨
    (op = 4 ∧ nameOk nm = true ∧ e = [] ∧ smsOk b = true ∧ ∃ x y, ks = [x, y] ∧ exOk x = true ∧ exOk y = true) ∨
    (op = 5 ∧ nm = [] ∧ smsOk b = true ∧ smsOk e = true ∧ ∃ x, ks = [x] ∧ cmpOk x = true) ∨
    (op = 6 ∧ nm = [] ∧ ks = [] ∧ e = [] ∧ smsOk b = true) := by
  simp only [smOk, Bool.and_eq_true, Bool.or_eq_true, decide_eq_true_eq, Bool.not_eq_true', Bool.and_eq_false_iff, decide_eq_false_iff_not] at h
  obtain ⟨⟨⟨⟨h1, h2⟩, h3⟩, h4⟩, h5, h6⟩ := h
  have nil : ∀ {l : List Sm}, ¬ 0 < l.length → l = [] := fun h => List.length_eq_zero_iff.1 (by omega)
  have one : ∀ {l : List Ex}, l.length = 1 → ∃ x, l = [x] := fun h => List.length_eq_one_iff.1 h
  have two : ∀ {l : List Ex}, l.length = 2 → ∃ x y, l = [x, y] := by
    intro l h
    match l, h with
    | [x, y], _ => exact ⟨x, y, rfl⟩
  unfold sruleOk at h1
  split at h1
  · simp only [Bool.and_eq_true, Bool.or_eq_true, decide_eq_true_eq] at h1
    have hb := nil (h3.resolve_left (by decide))
    have he := nil (h4.resolve_left (by decide))
    have h2 := h2.resolve_left (by decide)
    rcases h1.2 with h | h
    · obtain ⟨x, rfl⟩ := one h
      rw [exsOk_all] at h2
      exact .inl ⟨rfl, h1.1, hb, he, x, rfl, by simpa using h2⟩
    · obtain ⟨x, y, rfl⟩ := two h
      rw [exsOk_all] at h2
      simp only [List.all_cons, List.all_nil, Bool.and_true, Bool.and_eq_true] at h2
      exact .inr (.inl ⟨rfl, h1.1, hb, he, x, y, rfl, h2⟩)
  · simp only [Bool.and_eq_true, decide_eq_true_eq] at h1
    have hb := nil (h3.resolve_left (by decide))
    have he := nil (h4.resolve_left (by decide))
    have h2 := h2.resolve_left (by decide)
    obtain ⟨x, rfl⟩ := one h1.2
    rw [exsOk_all] at h2
    exact .inr (.inr (.inr (.inl ⟨rfl, h1.1, hb, he, x, rfl, by simpa using h2⟩)))
  · simp only [Bool.and_eq_true, decide_eq_true_eq] at h1
    have hb := nil (h3.resolve_left (by decide))
    have he := nil (h4.resolve_left (by decide))
    have h2 := h2.resolve_left (by decide)
    match ks, h1, h2 with
    | x :: l, h1, h2 =>
      rw [exsOk, Bool.and_eq_true] at h2
      exact .inr (.inr (.inl ⟨rfl, h1.1, hb, he, x, l, rfl, h2⟩))
  · simp only [Bool.and_eq_true, decide_eq_true_eq] at h1
    have he := nil (h4.resolve_left (by decide))
    have h2 := h2.resolve_left (by decide)
    obtain ⟨x, y, rfl⟩ := two h1.2
    rw [exsOk_all] at h2
    simp only [List.all_cons, List.all_nil, Bool.and_true, Bool.and_eq_true] at h2
    exact .inr (.inr (.inr (.inr (.inl ⟨rfl, h1.1, he, h5, x, y, rfl, h2⟩))))
  · simp only [Bool.and_eq_true, decide_eq_true_eq] at h1
    obtain ⟨x, rfl⟩ := one h1.2.1
    exact .inr (.inr (.inr (.inr (.inr (.inl ⟨rfl, h1.1, h5, h6, x, rfl, h1.2.2⟩)))))
  · simp only [Bool.and_eq_true, decide_eq_true_eq] at h1
    have he := nil (h4.resolve_left (by decide))
    exact .inr (.inr (.inr (.inr (.inr (.inr ⟨rfl, h1.1, List.length_eq_zero_iff.1 h1.2, he, h5⟩)))))
  · cases h1
end Go.Tree
namespace Go.Tree
open Go.Tok Go.Tok.W
/-- the class of a statement -/
def kS (op : Nat) : Nat := if op = 1 ∨ op = 3 then 0 else op
def elT (e : List Sm) : List Str := if 0 < e.length then [101, 108, 115, 101] :: [123] :: ((smsT e).flatten ++ [[125]]) else []
section
variable (a : Int) (nm : Str) (x y : Ex) (l : List Ex) (b e : List Sm) (r : List Str)
theorem smX_1a : smT (.mk 1 a nm [x] [] []) ++ r = exT (.mk 2 0 nm []) ++ [61] :: (exT x ++ [59] :: r) := by rw [smT_1b a nm [x] [] [] rfl rfl, exT_12 (.inr rfl)]; simp
theorem smX_1b : smT (.mk 1 a nm [x, y] [] []) ++ r = exT (.mk 3 0 nm [x]) ++ [61] :: (exT y ++ [59] :: r) := by rw [smT_1 a nm [x, y] [] [] rfl rfl rfl, exT_3 rfl]; simp [exsT, rowT]
theorem smX_3 : smT (.mk 3 a nm (x :: l) [] []) ++ r = exT x ++ [126] :: (exT (.mk 4 0 nm l) ++ [59] :: r) := by rw [smT_3 a nm (x :: l) [] [] rfl, exT_4 rfl]; simp
theorem smX_2 : smT (.mk 2 a nm [x] [] []) ++ r = [116, 97, 114, 103, 101, 116] :: [43, 61] :: (exT x ++ [59] :: r) := by rw [smT_2 a nm [x] [] [] rfl]; simp
theorem smX_4 : smT (.mk 4 a nm [x, y] b []) ++ r = [102, 111, 114] :: [40] :: nm :: [105, 110] :: (exT x ++ [58] :: (exT y ++ [41] :: [123] :: ((smsT b).flatten ++ [125] :: r))) := by rw [smT_4 a nm [x, y] b [] rfl rfl]; simp [bodyT]
theorem smX_5 : smT (.mk 5 a nm [x] b e) ++ r = [105, 102] :: [40] :: (exT x ++ [41] :: [123] :: ((smsT b).flatten ++ [125] :: (elT e ++ r))) := by
  rw [smT_5 a nm [x] b e rfl]; unfold elT; split <;> simp [bodyT]
theorem smX_6 : smT (.mk 6 a nm [] b []) ++ r = [123] :: ((smsT b).flatten ++ [125] :: r) := by rw [smT_6 a nm [] b []]; simp [bodyT]
end
theorem hk_sm {s : Sm} (h : smOk s = true) (r : List Str) : hk (smT s ++ r) = kS s.op := by
  obtain ⟨op, a, nm, ks, b, e⟩ := s
  rcases sm_cases h with ⟨rfl, hn, rfl, rfl, x, rfl, hx⟩ | ⟨rfl, hn, rfl, rfl, x, y, rfl, hx, hy⟩ | ⟨rfl, hn, rfl, rfl, x, l, rfl, hx, hl⟩ | ⟨rfl, rfl, rfl, rfl, x, rfl, hx⟩ | ⟨rfl, hn, rfl, hb, x, y, rfl, hx, hy⟩ | ⟨rfl, rfl, hb, he, x, rfl, hx⟩ | ⟨rfl, rfl, rfl, rfl, hb⟩
  · rw [smX_1a, exT_12 (.inr rfl)]; exact hk_name hn _
  · rw [smX_1b, exT_3 rfl]; simp only [List.cons_append]; exact hk_name hn _
  · rw [smX_3]; exact hk_ex hx _
  · rw [smX_2]; rfl
  · rw [smX_4]; rfl
  · rw [smX_5]; rfl
  · rw [smX_6]; rfl
theorem kS_lt {s : Sm} (h : smOk s = true) : kS s.op < 7 := by
  obtain ⟨op, a, nm, ks, b, e⟩ := s
  have := (sm_facts h).2.2.2.2.2.2.2.2
  unfold kS; show (if op = 1 ∨ op = 3 then 0 else op) < 7; split <;> omega
/-- a list of statements, up to a closing -/
theorem sms_cut : ∀ (l : List Sm), smsOk l = true → (∀ s ∈ l, ∀ s', smOk s' = true → ∀ r r', hk r ≠ 8 → hk r' ≠ 8 → smT s ++ r = smT s' ++ r' → smSame s s' = true ∧ r = r') →
    ∀ (m : List Sm), smsOk m = true → ∀ r r', (smsT l).flatten ++ [125] :: r = (smsT m).flatten ++ [125] :: r' → smsSame l m = true ∧ r = r'
  | [], _, _, [], _, r, r', h => ⟨by simp [smsSame], (List.cons.inj h).2⟩
  | [], _, _, s :: m, hm, r, r', h => by
    rw [smsOk, Bool.and_eq_true] at hm
    have h1 := congrArg hk h
    have h2 := kS_lt hm.1
    have h3 : hk ((smsT ([] : List Sm)).flatten ++ [125] :: r) = 7 := rfl
    have h4 : hk ((smsT (s :: m)).flatten ++ [125] :: r') = kS s.op := by rw [smsT, List.flatten_cons, List.append_assoc, hk_sm hm.1]
    omega
  | s :: l, hl, _, [], _, r, r', h => by
    rw [smsOk, Bool.and_eq_true] at hl
    have h1 := congrArg hk h
    have h2 := kS_lt hl.1
    have h3 : hk ((smsT ([] : List Sm)).flatten ++ [125] :: r') = 7 := rfl
    have h4 : hk ((smsT (s :: l)).flatten ++ [125] :: r) = kS s.op := by rw [smsT, List.flatten_cons, List.append_assoc, hk_sm hl.1]
    omega
  | s :: l, hl, hc, s' :: m, hm, r, r', h => by
    rw [smsOk, Bool.and_eq_true] at hl hm
    rw [smsT, smsT, List.flatten_cons, List.flatten_cons, List.append_assoc, List.append_assoc] at h
    have nel : ∀ (l : List Sm) (r : List Str), smsOk l = true → hk ((smsT l).flatten ++ [125] :: r) ≠ 8 := by
      intro l r hl
      cases l with
      | nil => show (7 : Nat) ≠ 8; decide
      | cons s l =>
        rw [smsOk, Bool.and_eq_true] at hl
        rw [smsT, List.flatten_cons, List.append_assoc, hk_sm hl.1]
        have := kS_lt hl.1
        omega
    have h1 := hc s (.head _) s' hm.1 _ _ (nel l r hl.2) (nel m r' hm.2) h
    have h2 := sms_cut l hl.2 (fun s hs => hc s (.tail _ hs)) m hm.2 r r' h1.2
    exact ⟨by rw [smsSame]; simp [h1.1, h2.1], h2.2⟩
theorem one_sm : ∀ (n : Nat) (s s' : Sm), smW s ≤ n → smOk s = true → smOk s' = true → ∀ r r', hk r ≠ 8 → hk r' ≠ 8 → smT s ++ r = smT s' ++ r' → smSame s s' = true ∧ r = r'
  | 0, .mk op a nm ks b e, s', hn, _, _, _, _, _, _, _ => by rw [smW] at hn; omega
  | n + 1, .mk op a nm ks b e, .mk op2 a2 nm2 ks2 b2 e2, hn, hs, hs', r, r', hr, hr', h => by
    have hK : kS op = kS op2 := by
      have := congrArg hk h
      rwa [hk_sm hs, hk_sm hs'] at this
    have e61 : ∀ r : List Str, nm6 ([61] :: r) := fun r => nm6_of r (by decide)
    have e126 : ∀ r : List Str, nm6 ([126] :: r) := fun r => nm6_of r (by decide)
    have e59 : ∀ r : List Str, nm6 ([59] :: r) := fun r => nm6_of r (by decide)
    have e58 : ∀ r : List Str, nm6 ([58] :: r) := fun r => nm6_of r (by decide)
    have e41 : ∀ r : List Str, nm6 ([41] :: r) := fun r => nm6_of r (by decide)
    have o2 : ∀ {nm : Str}, nameOk nm = true → exOk (.mk 2 0 nm []) = true := fun h => by simp [exOk, ruleOk, exsOk, h]
    have o3 : ∀ {nm : Str} {x : Ex}, nameOk nm = true → exOk x = true → exOk (.mk 3 0 nm [x]) = true := fun h h2 => by simp [exOk, ruleOk, exsOk, h, h2]
    have o4 : ∀ {nm : Str} {l : List Ex}, nameOk nm = true → exsOk l = true → exOk (.mk 4 0 nm l) = true := fun h h2 => by simp [exOk, ruleOk, h, h2]
    have s61 : ([61] : Str) ≠ [126] := by decide
    have body : ∀ {b : List Sm}, smsW b ≤ n → smsOk b = true → ∀ {m : List Sm}, smsOk m = true → ∀ {r r'}, (smsT b).flatten ++ [125] :: r = (smsT m).flatten ++ [125] :: r' → smsSame b m = true ∧ r = r' :=
      fun {b} hb hok {m} hm {r r'} h => sms_cut b hok (fun s hs s' hs' r r' h1 h2 h3 => one_sm n s s' (by have := smsW_mem hs; omega) (by rw [smsOk_all, List.all_eq_true] at hok; exact hok s hs) hs' r r' h1 h2 h3) m hm r r' h
    rw [smW] at hn
    rcases sm_cases hs with ⟨rfl, hn1, rfl, rfl, x, rfl, hx⟩ | ⟨rfl, hn1, rfl, rfl, x, y, rfl, hx, hy⟩ | ⟨rfl, hn1, rfl, rfl, x, l, rfl, hx, hl⟩ | ⟨rfl, rfl, rfl, rfl, x, rfl, hx⟩ | ⟨rfl, hn1, rfl, hb, x, y, rfl, hx, hy⟩ | ⟨rfl, rfl, hb, he, x, rfl, hx⟩ | ⟨rfl, rfl, rfl, rfl, hb⟩ <;>
    rcases sm_cases hs' with ⟨rfl, hn2, rfl, rfl, x2, rfl, hx2⟩ | ⟨rfl, hn2, rfl, rfl, x2, y2, rfl, hx2, hy2⟩ | ⟨rfl, hn2, rfl, rfl, x2, l2, rfl, hx2, hl2⟩ | ⟨rfl, rfl, rfl, rfl, x2, rfl, hx2⟩ | ⟨rfl, hn2, rfl, hb2, x2, y2, rfl, hx2, hy2⟩ | ⟨rfl, rfl, hb2, he2, x2, rfl, hx2⟩ | ⟨rfl, rfl, rfl, rfl, hb2⟩
    all_goals try (exact absurd hK (by decide))
    · rw [smX_1a, smX_1a] at h
      have h1 := ex_cut (o2 hn1) (o2 hn2) (e61 _) (e61 _) h
      have h2 := ex_cut hx hx2 (e59 _) (e59 _) (List.cons.inj h1.2).2
      refine ⟨?_, (List.cons.inj h2.2).2⟩
      have h3 := h1.1
      simp only [exSame, Bool.and_eq_true, Ex.op, Ex.nm, Ex.kids] at h3
      obtain rfl := of_decide_eq_true h3.2.1
      simp [smSame, smsSame, exsSame, Sm.op, Sm.nm, Sm.kids, Sm.body, Sm.els, h2.1]
    · rw [smX_1a, smX_1b] at h
      have h1 := (ex_cut (o2 hn1) (o3 hn2 hx2) (e61 _) (e61 _) h).1
      simp [exSame, Ex.op] at h1
    · rw [smX_1a, smX_3] at h
      exact absurd (List.cons.inj (ex_cut (o2 hn1) hx2 (e61 _) (e126 _) h).2).1 s61
    · rw [smX_1b, smX_1a] at h
      have h1 := (ex_cut (o3 hn1 hx) (o2 hn2) (e61 _) (e61 _) h).1
      simp [exSame, Ex.op] at h1
    · rw [smX_1b, smX_1b] at h
      have h1 := ex_cut (o3 hn1 hx) (o3 hn2 hx2) (e61 _) (e61 _) h
      have h2 := ex_cut hy hy2 (e59 _) (e59 _) (List.cons.inj h1.2).2
      refine ⟨?_, (List.cons.inj h2.2).2⟩
      have h3 := h1.1
      simp only [exSame, exsSame, Bool.and_eq_true, Ex.op, Ex.nm, Ex.kids] at h3
      obtain rfl := of_decide_eq_true h3.2.1
      simp [smSame, smsSame, exsSame, Sm.op, Sm.nm, Sm.kids, Sm.body, Sm.els, h2.1, h3.2.2.1]
    · rw [smX_1b, smX_3] at h
      exact absurd (List.cons.inj (ex_cut (o3 hn1 hx) hx2 (e61 _) (e126 _) h).2).1 s61
    · rw [smX_3, smX_1a] at h
      exact absurd (List.cons.inj (ex_cut hx (o2 hn2) (e126 _) (e61 _) h).2).1.symm s61
    · rw [smX_3, smX_1b] at h
      exact absurd (List.cons.inj (ex_cut hx (o3 hn2 hx2) (e126 _) (e61 _) h).2).1.symm s61
    · rw [smX_3, smX_3] at h
      have h1 := ex_cut hx hx2 (e126 _) (e126 _) h
      have h2 := ex_cut (o4 hn1 hl) (o4 hn2 hl2) (e59 _) (e59 _) (List.cons.inj h1.2).2
      refine ⟨?_, (List.cons.inj h2.2).2⟩
      have h3 := h2.1
      simp only [exSame, Bool.and_eq_true, Ex.op, Ex.nm, Ex.kids] at h3
      obtain rfl := of_decide_eq_true h3.2.1
      simp [smSame, smsSame, exsSame, Sm.op, Sm.nm, Sm.kids, Sm.body, Sm.els, h1.1, h3.2.2]
    · rw [smX_2, smX_2] at h
      have h1 := ex_cut hx hx2 (e59 _) (e59 _) (List.cons.inj (List.cons.inj h).2).2
      refine ⟨?_, (List.cons.inj h1.2).2⟩
      simp [smSame, smsSame, exsSame, Sm.op, Sm.nm, Sm.kids, Sm.body, Sm.els, h1.1]
    · rw [smX_4, smX_4] at h
      have h0 := List.cons.inj (List.cons.inj (List.cons.inj h).2).2
      obtain rfl := h0.1
      have h1 := ex_cut hx hx2 (e58 _) (e58 _) (List.cons.inj h0.2).2
      have h2 := ex_cut hy hy2 (e41 _) (e41 _) (List.cons.inj h1.2).2
      have h3 := body (by omega) hb hb2 (List.cons.inj (List.cons.inj h2.2).2).2
      exact ⟨by simp [smSame, smsSame, exsSame, Sm.op, Sm.nm, Sm.kids, Sm.body, Sm.els, h1.1, h2.1, h3.1], h3.2⟩
    · rw [smX_5, smX_5] at h
      have h1 := cmp_cut hx hx2 (e41 _) (e41 _) (List.cons.inj (List.cons.inj h).2).2
      have h2 := body (by omega) hb hb2 (List.cons.inj (List.cons.inj h1.2).2).2
      have h3 : smsSame e e2 = true ∧ r = r' := by
        have h4 := h2.2
        cases e with
        | nil =>
          cases e2 with
          | nil => exact ⟨by simp [smsSame], h4⟩
          | cons s2 m2 => exact absurd (by rw [show r = elT [] ++ r from rfl, h4]; rfl) hr
        | cons s1 m1 =>
          cases e2 with
          | nil => exact absurd (by rw [show r' = elT [] ++ r' from rfl, ← h4]; rfl) hr'
          | cons s2 m2 =>
            unfold elT at h4
            rw [if_pos (by simp), if_pos (by simp)] at h4
            simp only [List.cons_append, List.append_assoc, List.nil_append] at h4
            exact body (by omega) he he2 (List.cons.inj (List.cons.inj h4).2).2
      exact ⟨by simp [smSame, exsSame, Sm.op, Sm.nm, Sm.kids, Sm.body, Sm.els, h1.1, h2.1, h3.1], h3.2⟩
    · rw [smX_6, smX_6] at h
      have h3 := body (by omega) hb hb2 (List.cons.inj h).2
      exact ⟨by simp [smSame, smsSame, exsSame, Sm.op, Sm.nm, Sm.kids, Sm.body, Sm.els, h3.1], h3.2⟩
theorem stmts_cut {l m : List Sm} (hl : smsOk l = true) (hm : smsOk m = true) {r r' : List Str} (h : (smsT l).flatten ++ [125] :: r = (smsT m).flatten ++ [125] :: r') : smsSame l m = true ∧ r = r' :=
  sms_cut l hl (fun s hs s' hs' r r' h1 h2 h3 => one_sm _ s s' (Nat.le_refl _) (by rw [smsOk_all, List.all_eq_true] at hl; exact hl s hs) hs' r r' h1 h2 h3) m hm r r' h
end Go.Tree
end

section
/- Trees: declarations and programs told apart by what is written of them; the law of what is apart. -/
namespace Go.Tree
open Go.Tok Go.Tok.W
theorem part_cases {l : List Ex} (h : partOk l = true) : l = [] ∨ ∃ x, l = [x] ∧ exOk x = true := by
  simp only [partOk, Bool.and_eq_true, decide_eq_true_eq] at h
  match l, h with
  | [], _ => exact .inl rfl
  | [x], h => exact .inr ⟨x, rfl, by simpa [exsOk] using h.2⟩
  | x :: y :: l, h => simp only [List.length_cons] at h; omega
/-! bounds -/
def bT (lo up : List Ex) : List Str := if lo.length + up.length = 0 then [] else [[60]] ++ ldT lowW lo ++ (if lo.length + up.length = 2 then [[44]] else []) ++ ldT upW up ++ [[62]]
section
variable (x y : Ex) (X : List Str)
theorem bT_00 : bT [] [] ++ X = X := by simp [bT]
theorem bT_10 : bT [x] [] ++ X = [60] :: [108, 111, 119, 101, 114] :: [61] :: (exT x ++ [62] :: X) := by simp [bT, ldT, lowW]
theorem bT_01 : bT [] [y] ++ X = [60] :: [117, 112, 112, 101, 114] :: [61] :: (exT y ++ [62] :: X) := by simp [bT, ldT, upW]
theorem bT_11 : bT [x] [y] ++ X = [60] :: [108, 111, 119, 101, 114] :: [61] :: (exT x ++ [44] :: [117, 112, 112, 101, 114] :: [61] :: (exT y ++ [62] :: X)) := by simp [bT, ldT, lowW, upW]
end
theorem same_nil : exsSame [] [] = true := by simp [exsSame]
theorem same_one {x y : Ex} (h : exSame x y = true) : exsSame [x] [y] = true := by simp [exsSame, h]
theorem bounds_cut {lo up lo2 up2 : List Ex} (h1 : partOk lo = true) (h2 : partOk up = true) (h3 : partOk lo2 = true) (h4 : partOk up2 = true) {X Y : List Str} (hX : hk X ≠ 13) (hY : hk Y ≠ 13)
    (h : bT lo up ++ X = bT lo2 up2 ++ Y) : exsSame lo lo2 = true ∧ exsSame up up2 = true ∧ X = Y := by
  have e62 : ∀ r : List Str, nm6 ([62] :: r) := fun r => nm6_of r (by decide)
  have e44 : ∀ r : List Str, nm6 ([44] :: r) := fun r => nm6_of r (by decide)
  have q1 : ([62] : Str) ≠ [44] := by decide
  have q2 : ([108, 111, 119, 101, 114] : Str) ≠ [117, 112, 112, 101, 114] := by decide
  have k13 : ∀ r : List Str, hk ([60] :: r) = 13 := fun _ => rfl
  rcases part_cases h1 with rfl | ⟨x, rfl, hx⟩ <;> rcases part_cases h2 with rfl | ⟨y, rfl, hy⟩ <;> rcases part_cases h3 with rfl | ⟨x2, rfl, hx2⟩ <;> rcases part_cases h4 with rfl | ⟨y2, rfl, hy2⟩ <;>
    simp only [bT_00, bT_10, bT_01, bT_11] at h
  · exact ⟨same_nil, same_nil, h⟩
  · exact absurd (h ▸ k13 _) hX
  · exact absurd (h ▸ k13 _) hX
  · exact absurd (h ▸ k13 _) hX
  · exact absurd (h ▸ k13 _) hY
  · have h5 := ex_cut hy hy2 (e62 _) (e62 _) (List.cons.inj (List.cons.inj (List.cons.inj h).2).2).2
    exact ⟨same_nil, same_one h5.1, (List.cons.inj h5.2).2⟩
  · exact absurd (List.cons.inj (List.cons.inj h).2).1.symm q2
  · exact absurd (List.cons.inj (List.cons.inj h).2).1.symm q2
  · exact absurd (h ▸ k13 _) hY
  · exact absurd (List.cons.inj (List.cons.inj h).2).1 q2
  · have h5 := ex_cut hx hx2 (e62 _) (e62 _) (List.cons.inj (List.cons.inj (List.cons.inj h).2).2).2
    exact ⟨same_one h5.1, same_nil, (List.cons.inj h5.2).2⟩
  · have h5 := ex_cut hx hx2 (e62 _) (e44 _) (List.cons.inj (List.cons.inj (List.cons.inj h).2).2).2
    exact absurd (List.cons.inj h5.2).1 q1
  · exact absurd (h ▸ k13 _) hY
  · exact absurd (List.cons.inj (List.cons.inj h).2).1 q2
  · have h5 := ex_cut hx hx2 (e44 _) (e62 _) (List.cons.inj (List.cons.inj (List.cons.inj h).2).2).2
    exact absurd (List.cons.inj h5.2).1.symm q1
  · have h5 := ex_cut hx hx2 (e44 _) (e44 _) (List.cons.inj (List.cons.inj (List.cons.inj h).2).2).2
    have h6 := ex_cut hy hy2 (e62 _) (e62 _) (List.cons.inj (List.cons.inj (List.cons.inj h5.2).2).2).2
    exact ⟨same_one h5.1, same_one h6.1, (List.cons.inj h6.2).2⟩
/-! what is behind the name -/
def iT (i : List Ex) (r : List Str) : List Str := ldT [[61]] i ++ [59] :: r
theorem iT_0 (r : List Str) : iT [] r = [59] :: r := by simp [iT, ldT]
theorem iT_1 (x : Ex) (r : List Str) : iT [x] r = [61] :: (exT x ++ [59] :: r) := by simp [iT, ldT]
theorem init_cut {i j : List Ex} (h1 : partOk i = true) (h2 : partOk j = true) {r r' : List Str} (h : iT i r = iT j r') : exsSame i j = true ∧ r = r' := by
  have e59 : ∀ r : List Str, nm6 ([59] :: r) := fun r => nm6_of r (by decide)
  have q : ([59] : Str) ≠ [61] := by decide
  rcases part_cases h1 with rfl | ⟨x, rfl, hx⟩ <;> rcases part_cases h2 with rfl | ⟨y, rfl, hy⟩ <;> simp only [iT_0, iT_1] at h
  · exact ⟨same_nil, (List.cons.inj h).2⟩
  · exact absurd (List.cons.inj h).1 q
  · exact absurd (List.cons.inj h).1.symm q
  · have h5 := ex_cut hx hy (e59 _) (e59 _) (List.cons.inj h).2
    exact ⟨same_one h5.1, (List.cons.inj h5.2).2⟩
/-! declarations -/
def scT (d : Dc) (r : List Str) : List Str := bT d.lower d.upper ++ d.nm :: iT d.init r
theorem dc_cases {d : Dc} (h : dcOk d = true) : nameOk d.nm = true ∧ partOk d.lower = true ∧ partOk d.upper = true ∧ partOk d.init = true ∧
    ((d.size = [] ∧ ((d.ty = 1 ∧ ∀ r, dcT d ++ r = [105, 110, 116] :: scT d r) ∨ (d.ty = 2 ∧ ∀ r, dcT d ++ r = [114, 101, 97, 108] :: scT d r))) ∨
     (∃ x, d.size = [x] ∧ exOk x = true ∧ ((d.ty = 3 ∧ ∀ r, dcT d ++ r = [118, 101, 99, 116, 111, 114] :: (bT d.lower d.upper ++ [91] :: (exT x ++ [93] :: d.nm :: iT d.init r))) ∨
       (d.ty = 4 ∧ ∀ r, dcT d ++ r = [97, 114, 114, 97, 121] :: [91] :: (exT x ++ [93] :: [105, 110, 116] :: scT d r)) ∨
       (d.ty = 5 ∧ ∀ r, dcT d ++ r = [97, 114, 114, 97, 121] :: [91] :: (exT x ++ [93] :: [114, 101, 97, 108] :: scT d r))))) := by
  obtain ⟨ty, at_, nm, size, lower, upper, init⟩ := d
  simp only [dcOk, Bool.and_eq_true, decide_eq_true_eq, beq_iff_eq] at h
  obtain ⟨⟨⟨⟨⟨h1, h2⟩, h3⟩, h4⟩, h5⟩, h6, h7, h8, h9⟩ := h
  have hb : ∀ d : Dc, boundsT d = bT d.lower d.upper := fun _ => rfl
  refine ⟨h3, h7, h8, h9, ?_⟩
  rcases part_cases h6 with rfl | ⟨x, rfl, hx⟩
  · have h10 : ¬ 3 ≤ ty := by
      intro h; rw [decide_eq_true h] at h4; exact absurd h4 (by simp)
    refine .inl ⟨rfl, ?_⟩
    have : ty = 1 ∨ ty = 2 := by omega
    rcases this with rfl | rfl
    · exact .inl ⟨rfl, fun r => by simp [dcT, hb, tyT, scT, iT]⟩
    · exact .inr ⟨rfl, fun r => by simp [dcT, hb, tyT, scT, iT]⟩
  · have h10 : 3 ≤ ty := by
      rw [show decide (([x] : List Ex).length = 1) = true from rfl] at h4
      exact of_decide_eq_true h4.symm
    refine .inr ⟨x, rfl, hx, ?_⟩
    have : ty = 3 ∨ ty = 4 ∨ ty = 5 := by omega
    rcases this with rfl | rfl | rfl
    · exact .inl ⟨rfl, fun r => by simp [dcT, hb, tyT, sizeT, iT, exsT, rowT]⟩
    · exact .inr (.inl ⟨rfl, fun r => by simp [dcT, hb, tyT, scT, iT, sizeT, exsT, rowT]⟩)
    · exact .inr (.inr ⟨rfl, fun r => by simp [dcT, hb, tyT, scT, iT, sizeT, exsT, rowT]⟩)
theorem sc_cut {c d : Dc} (hc : nameOk c.nm = true ∧ partOk c.lower = true ∧ partOk c.upper = true ∧ partOk c.init = true) (hd : nameOk d.nm = true ∧ partOk d.lower = true ∧ partOk d.upper = true ∧ partOk d.init = true) {r r' : List Str}
    (h : scT c r = scT d r') : c.nm = d.nm ∧ exsSame c.lower d.lower = true ∧ exsSame c.upper d.upper = true ∧ exsSame c.init d.init = true ∧ r = r' := by
  have h1 := bounds_cut hc.2.1 hc.2.2.1 hd.2.1 hd.2.2.1 (by rw [hk_name hc.1]; decide) (by rw [hk_name hd.1]; decide) h
  have h2 := List.cons.inj h1.2.2
  have h3 := init_cut hc.2.2.2 hd.2.2.2 h2.2
  exact ⟨h2.1, h1.1, h1.2.1, h3.1, h3.2⟩
theorem dc_cut {c d : Dc} (hc : dcOk c = true) (hd : dcOk d = true) {r r' : List Str} (h : dcT c ++ r = dcT d ++ r') : dcSame c d = true ∧ r = r' := by
  obtain ⟨c1, c2, c3, c4, hc⟩ := dc_cases hc
  obtain ⟨d1, d2, d3, d4, hd⟩ := dc_cases hd
  have e93 : ∀ r : List Str, nm6 ([93] :: r) := fun r => nm6_of r (by decide)
  have fin : ∀ {r r'}, scT c r = scT d r' → c.ty = d.ty → exsSame c.size d.size = true → dcSame c d = true ∧ r = r' := fun h h1 h2 => by
    have h3 := sc_cut ⟨c1, c2, c3, c4⟩ ⟨d1, d2, d3, d4⟩ h
    exact ⟨by simp [dcSame, h1, h2, h3.1, h3.2.1, h3.2.2.1, h3.2.2.2.1], h3.2.2.2.2⟩
  have no : ∀ {a b : Str} {A B : List Str} {P : Prop}, a ≠ b → a :: A = b :: B → P := fun h1 h2 => absurd (List.cons.inj h2).1 h1
  rcases hc with ⟨cs, ⟨ct, cT⟩ | ⟨ct, cT⟩⟩ | ⟨x, cs, hx, ⟨ct, cT⟩ | ⟨ct, cT⟩ | ⟨ct, cT⟩⟩ <;> rcases hd with ⟨ds, ⟨dt, dT⟩ | ⟨dt, dT⟩⟩ | ⟨y, ds, hy, ⟨dt, dT⟩ | ⟨dt, dT⟩ | ⟨dt, dT⟩⟩ <;> rw [cT, dT] at h
  all_goals try (exact no (by decide) h)
  · exact fin (List.cons.inj h).2 (by rw [ct, dt]) (by rw [cs, ds]; exact same_nil)
  · exact fin (List.cons.inj h).2 (by rw [ct, dt]) (by rw [cs, ds]; exact same_nil)
  · have h1 := bounds_cut c2 c3 d2 d3 (by show (14 : Nat) ≠ 13; decide) (by show (14 : Nat) ≠ 13; decide) (List.cons.inj h).2
    have h2 := ex_cut hx hy (e93 _) (e93 _) (List.cons.inj h1.2.2).2
    have h3 := List.cons.inj (List.cons.inj h2.2).2
    have h4 := init_cut c4 d4 h3.2
    exact ⟨by simp [dcSame, ct, dt, cs, ds, h3.1, h1.1, h1.2.1, h4.1, same_one h2.1], h4.2⟩
  · have h2 := ex_cut hx hy (e93 _) (e93 _) (List.cons.inj (List.cons.inj h).2).2
    exact fin (List.cons.inj (List.cons.inj h2.2).2).2 (by rw [ct, dt]) (by rw [cs, ds]; exact same_one h2.1)
  · have h2 := ex_cut hx hy (e93 _) (e93 _) (List.cons.inj (List.cons.inj h).2).2
    exact no (by decide) (List.cons.inj h2.2).2
  · have h2 := ex_cut hx hy (e93 _) (e93 _) (List.cons.inj (List.cons.inj h).2).2
    exact no (by decide) (List.cons.inj h2.2).2
  · have h2 := ex_cut hx hy (e93 _) (e93 _) (List.cons.inj (List.cons.inj h).2).2
    exact fin (List.cons.inj (List.cons.inj h2.2).2).2 (by rw [ct, dt]) (by rw [cs, ds]; exact same_one h2.1)
theorem hk_dc {d : Dc} (h : dcOk d = true) (r : List Str) : 9 ≤ hk (dcT d ++ r) ∧ hk (dcT d ++ r) ≤ 12 := by
  obtain ⟨_, _, _, _, h⟩ := dc_cases h
  rcases h with ⟨_, ⟨_, e⟩ | ⟨_, e⟩⟩ | ⟨x, _, _, ⟨_, e⟩ | ⟨_, e⟩ | ⟨_, e⟩⟩ <;> rw [e] <;> exact ⟨by rw [hk_cons]; decide, by rw [hk_cons]; decide⟩
theorem dcs_cut : ∀ {l m : List Dc}, (∀ d ∈ l, dcOk d = true) → (∀ d ∈ m, dcOk d = true) → ∀ {r r' : List Str}, hk r < 9 → hk r' < 9 → dcsT l ++ r = dcsT m ++ r' → pairOk dcSame l m = true ∧ r = r'
  | [], [], _, _, r, r', _, _, h => ⟨by simp [pairOk], h⟩
  | [], d :: m, _, hm, r, r', hr, _, h => by
    have h1 : dcsT (d :: m) ++ r' = dcT d ++ (dcsT m ++ r') := by simp [dcsT]
    have h2 := hk_dc (hm d (.head _)) (dcsT m ++ r')
    rw [← h1, ← h] at h2
    have h3 : hk (dcsT [] ++ r) = hk r := rfl
    omega
  | d :: l, [], hl, _, r, r', _, hr, h => by
    have h1 : dcsT (d :: l) ++ r = dcT d ++ (dcsT l ++ r) := by simp [dcsT]
    have h2 := hk_dc (hl d (.head _)) (dcsT l ++ r)
    rw [← h1, h] at h2
    have h3 : hk (dcsT [] ++ r') = hk r' := rfl
    omega
  | c :: l, d :: m, hl, hm, r, r', hr, hr', h => by
    have h1 : dcsT (c :: l) ++ r = dcT c ++ (dcsT l ++ r) := by simp [dcsT]
    have h2 : dcsT (d :: m) ++ r' = dcT d ++ (dcsT m ++ r') := by simp [dcsT]
    rw [h1, h2] at h
    have h3 := dc_cut (hl c (.head _)) (hm d (.head _)) h
    have h4 := dcs_cut (fun d hd => hl d (.tail _ hd)) (fun d hd => hm d (.tail _ hd)) hr hr' h3.2
    exact ⟨by rw [pairOk_cons, h3.1, h4.1]; rfl, h4.2⟩
end Go.Tree
end
