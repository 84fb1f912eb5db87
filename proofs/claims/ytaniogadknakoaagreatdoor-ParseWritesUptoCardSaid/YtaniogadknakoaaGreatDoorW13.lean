/- Layer 13, ParseWrites. Part 13 of 15. -/
import Derived.Test.YtaniogadknakoaaGreatDoorW12
set_option maxRecDepth 100000
set_option maxHeartbeats 16000000
section
namespace Go.Tree
open Go.Tok
mutual
def exZ : Ex → Ex
  | .mk o _ n k => .mk o 0 n (exsZ k)
def exsZ : List Ex → List Ex
  | [] => []
  | e :: l => exZ e :: exsZ l
end
theorem exsZ_map : ∀ l : List Ex, exsZ l = l.map exZ
  | [] => by simp [exsZ]
  | e :: l => by rw [exsZ, exsZ_map l, List.map_cons]
abbrev PR := Option (Ex × List Str)
mutual
def pSum : Nat → List Str → PR
  | 0, _ => none
  | f + 1, ts => match pProd f ts with | some (e, r) => sumL f e r | none => none
def sumL : Nat → Ex → List Str → PR
  | 0, _, _ => none
  | f + 1, e, ts =>
    if ts.head? = some [43] then (match pProd f ts.tail with | some (k, r) => sumL f (.mk 6 0 [] [e, k]) r | none => none)
    else if ts.head? = some [45] then (match pProd f ts.tail with | some (k, r) => sumL f (.mk 7 0 [] [e, k]) r | none => none)
    else some (e, ts)
def pProd : Nat → List Str → PR
  | 0, _ => none
  | f + 1, ts => match pSign f ts with | some (e, r) => prodL f e r | none => none
def prodL : Nat → Ex → List Str → PR
  | 0, _, _ => none
  | f + 1, e, ts =>
    if ts.head? = some [42] then (match pSign f ts.tail with | some (k, r) => prodL f (.mk 8 0 [] [e, k]) r | none => none)
    else if ts.head? = some [47] then (match pSign f ts.tail with | some (k, r) => prodL f (.mk 9 0 [] [e, k]) r | none => none)
    else some (e, ts)
def pSign : Nat → List Str → PR
  | 0, _ => none
  | f + 1, ts => match ts with
    | [] => none
    | t :: r =>
      if t = [45] then (match pSign f r with | some (k, r) => some (.mk 5 0 [] [k], r) | none => none)
      else if t = [40] then (match pSum f r with | some (e, r) => if r.head? = some [41] then some (e, r.tail) else none | none => none)
      else if oneB 2 t then some (.mk 1 0 t [], r)
      else if r.head? = some [91] then (match pSum f r.tail with | some (e, r) => if r.head? = some [93] then some (.mk 3 0 t [e], r.tail) else none | none => none)
      else if r.head? = some [40] then (if r.tail.head? = some [41] then some (.mk 4 0 t [], r.tail.tail) else match pSum f r.tail with | some (e, r) => argL f t [e] r | none => none)
      else some (.mk 2 0 t [], r)
def argL : Nat → Str → List Ex → List Str → PR
  | 0, _, _, _ => none
  | f + 1, t, l, ts =>
    if ts.head? = some [44] then (match pSum f ts.tail with | some (e, r) => argL f t (l ++ [e]) r | none => none)
    else if ts.head? = some [41] then some (.mk 4 0 t l, ts.tail)
    else none
end
def nb (r : List Str) : Prop := r.head? ≠ some [91] ∧ r.head? ≠ some [40]
def nm8 (r : List Str) : Prop := nb r ∧ r.head? ≠ some [42] ∧ r.head? ≠ some [47]
def nm6 (r : List Str) : Prop := nm8 r ∧ r.head? ≠ some [43] ∧ r.head? ≠ some [45]
theorem one_not {t : Str} (h : oneB 2 t = true) : t ≠ [45] ∧ t ≠ [40] := by
  constructor <;> (rintro rfl; revert h; decide +kernel)
theorem name_not {t : Str} (h : nameOk t = true) : t ≠ [45] ∧ t ≠ [40] ∧ oneB 2 t = false := by
  refine ⟨?_, ?_, ?_⟩
  · rintro rfl; revert h; decide +kernel
  · rintro rfl; revert h; decide +kernel
  · unfold nameOk oneB at h
    unfold oneB
    simp only [Bool.and_eq_true, decide_eq_true_eq] at h
    obtain ⟨⟨h0, h1⟩, _⟩ := h
    split at h1
    · rename_i t' e1
      simp only [Bool.and_eq_true, decide_eq_true_eq] at h1
      simp [h1.1]
    · cases h1

def K (e : Ex) : Nat := 8 * exW e
def SgP (e : Ex) : Prop := ∀ f r, K e ≤ f + 4 → nb r → pSign f (exT e ++ r) = some (exZ e, r)
def PdP (e : Ex) : Prop := ∀ f r, K e ≤ f + 2 → nb r → ∃ g, f + 4 ≤ g + K e ∧ pProd f (exT e ++ r) = prodL g (exZ e) r
def SuP (e : Ex) : Prop := ∀ f r, K e ≤ f → nm8 r → ∃ g, f + 2 ≤ g + K e ∧ pSum f (exT e ++ r) = sumL g (exZ e) r
theorem nb_close (r : List Str) (c : Str) (h1 : c ≠ [91]) (h2 : c ≠ [40]) : nb (c :: r) := ⟨by simp [h1], by simp [h2]⟩
theorem nm8_close (r : List Str) (c : Str) (h1 : c ≠ [91]) (h2 : c ≠ [40]) (h3 : c ≠ [42]) (h4 : c ≠ [47]) : nm8 (c :: r) := ⟨nb_close r c h1 h2, by simp [h3], by simp [h4]⟩
theorem nm6_close (r : List Str) (c : Str) (h1 : c ≠ [91]) (h2 : c ≠ [40]) (h3 : c ≠ [42]) (h4 : c ≠ [47]) (h5 : c ≠ [43]) (h6 : c ≠ [45]) : nm6 (c :: r) := ⟨nm8_close r c h1 h2 h3 h4, by simp [h5], by simp [h6]⟩
end Go.Tree
namespace Go.Tree
open Go.Tok
theorem ok_cases {op : Nat} {a : Int} {nm : Str} {ks : List Ex} (h : exOk (.mk op a nm ks) = true) :
    (op = 1 ∧ ks = [] ∧ oneB 2 nm = true) ∨ (op = 2 ∧ ks = [] ∧ nameOk nm = true) ∨ (op = 3 ∧ nameOk nm = true ∧ ∃ x, ks = [x] ∧ exOk x = true) ∨
    (op = 4 ∧ nameOk nm = true ∧ ∀ x ∈ ks, exOk x = true) ∨ (op = 5 ∧ nm = [] ∧ ∃ x, ks = [x] ∧ exOk x = true) ∨
    ((op = 6 ∨ op = 7) ∧ nm = [] ∧ ∃ x y, ks = [x, y] ∧ exOk x = true ∧ exOk y = true) ∨ ((op = 8 ∨ op = 9) ∧ nm = [] ∧ ∃ x y, ks = [x, y] ∧ exOk x = true ∧ exOk y = true) := by
  rw [exOk, Bool.and_eq_true] at h
  obtain ⟨h1, h2⟩ := h
  rw [exsOk_all, List.all_eq_true] at h2
  have one : ∀ {l : List Ex}, (∀ x ∈ l, exOk x = true) → l.length = 1 → ∃ x, l = [x] ∧ exOk x = true := by
    intro l hl h
    obtain ⟨x, rfl⟩ := List.length_eq_one_iff.1 h
    exact ⟨x, rfl, hl x (.head _)⟩
  have two : ∀ {l : List Ex}, (∀ x ∈ l, exOk x = true) → l.length = 2 → ∃ x y, l = [x, y] ∧ exOk x = true ∧ exOk y = true := by
    intro l hl h
    match l, h with
    | [x, y], _ => exact ⟨x, y, rfl, hl x (.head _), hl y (.tail _ (.head _))⟩
  unfold ruleOk at h1
  split at h1
  · simp only [Bool.and_eq_true, decide_eq_true_eq] at h1
    exact .inl ⟨rfl, List.length_eq_zero_iff.1 h1.1, h1.2⟩
  · simp only [Bool.and_eq_true, decide_eq_true_eq] at h1
    exact .inr (.inl ⟨rfl, List.length_eq_zero_iff.1 h1.1, h1.2⟩)
  · simp only [Bool.and_eq_true, decide_eq_true_eq] at h1
    exact .inr (.inr (.inl ⟨rfl, h1.2, one h2 h1.1⟩))
  · exact .inr (.inr (.inr (.inl ⟨rfl, h1, h2⟩)))
  · simp only [Bool.and_eq_true, decide_eq_true_eq] at h1
    exact .inr (.inr (.inr (.inr (.inl ⟨rfl, h1.1, one h2 h1.2⟩))))
  · simp only [Bool.and_eq_true, decide_eq_true_eq] at h1
    exact .inr (.inr (.inr (.inr (.inr (.inl ⟨.inl rfl, h1.1, two h2 h1.2⟩)))))
  · simp only [Bool.and_eq_true, decide_eq_true_eq] at h1
    exact .inr (.inr (.inr (.inr (.inr (.inl ⟨.inr rfl, h1.1, two h2 h1.2⟩)))))
  · simp only [Bool.and_eq_true, decide_eq_true_eq] at h1
    exact .inr (.inr (.inr (.inr (.inr (.inr ⟨.inl rfl, h1.1, two h2 h1.2⟩)))))
  · simp only [Bool.and_eq_true, decide_eq_true_eq] at h1
    exact .inr (.inr (.inr (.inr (.inr (.inr ⟨.inr rfl, h1.1, two h2 h1.2⟩)))))
  · cases h1
theorem one_shut {t : Str} (h : oneB 2 t = true) : t ≠ [41] := by rintro rfl; revert h; decide +kernel
theorem name_shut {t : Str} (h : nameOk t = true) : t ≠ [41] := by rintro rfl; revert h; decide +kernel
theorem exT_hd : ∀ (n : Nat) (e : Ex), exW e ≤ n → exOk e = true → ∃ h t, exT e = h :: t ∧ h ≠ [41]
  | 0, .mk op a nm ks, hn, _ => by rw [exW] at hn; omega
  | n + 1, .mk op a nm ks, hn, hok => by
    rw [exW] at hn
    have two : ∀ (x y : Ex) (o : Nat), 6 ≤ o → ks = [x, y] → exOk x = true → ∃ h t, exT (.mk o a nm ks) = h :: t ∧ h ≠ [41] := by
      rintro x y o ho rfl hx
      rw [exT_two ho a nm (x := x) (z := y) rfl rfl]
      obtain ⟨h, t, h1, h2⟩ := exT_hd n x (by simp only [exsW] at hn; omega) hx
      unfold kidT
      by_cases hq : rank x.op < low o
      · rw [if_pos hq]; exact ⟨[40], _, by simp only [List.cons_append, List.nil_append]; rfl, by decide⟩
      · rw [if_neg hq, h1]; exact ⟨h, _, by simp only [List.cons_append]; rfl, h2⟩
    rcases ok_cases hok with ⟨rfl, _, h⟩ | ⟨rfl, _, h⟩ | ⟨rfl, h, _⟩ | ⟨rfl, h, _⟩ | ⟨rfl, _, x, rfl, _⟩ | ⟨ho, _, x, y, h1, h2, _⟩ | ⟨ho, _, x, y, h1, h2, _⟩
    · exact ⟨nm, [], exT_12 (.inl rfl) a nm ks, one_shut h⟩
    · exact ⟨nm, [], exT_12 (.inr rfl) a nm ks, name_shut h⟩
    · exact ⟨nm, _, by rw [exT_3 rfl]; simp only [List.cons_append]; rfl, name_shut h⟩
    · exact ⟨nm, _, by rw [exT_4 rfl]; simp only [List.cons_append]; rfl, name_shut h⟩
    · exact ⟨[45], _, by rw [exT_5 rfl (x := x) a nm rfl]; simp only [List.cons_append]; rfl, by decide⟩
    · exact two x y op (by omega) h1 h2
    · exact two x y op (by omega) h1 h2
theorem exT_ne {e : Ex} (h : exOk e = true) : (exT e).head? ≠ some [41] ∧ exT e ≠ [] := by
  obtain ⟨a, t, h1, h2⟩ := exT_hd (exW e) e (Nat.le_refl _) h
  rw [h1]; exact ⟨by simp [h2], by simp⟩
end Go.Tree
end

section
namespace Go.Prs
open Go.Tok Go.Tree
mutual
def smZ : Sm → Sm
  | .mk o _ n k b e => .mk o 0 n (exsZ k) (smsZ b) (smsZ e)
def smsZ : List Sm → List Sm
  | [] => []
  | s :: l => smZ s :: smsZ l
end
theorem smsZ_map : ∀ l : List Sm, smsZ l = l.map smZ
  | [] => by simp [smsZ]
  | e :: l => by rw [smsZ, smsZ_map l, List.map_cons]
def dcZ (d : Dc) : Dc := ⟨d.ty, 0, d.nm, exsZ d.size, exsZ d.lower, exsZ d.upper, exsZ d.init⟩
def bkZ (b : Bk) : Bk := ⟨b.is, b.decls.map dcZ, smsZ b.stmts⟩
def tsZ (l : List Tk) : List Tk := l.map fun t => (t.1, t.2.1, 0)
def mapZ {β : Type} (h : β → β) : Except Fl β → Except Fl β
  | .ok b => .ok (h b)
  | .error e => .error (e.1, 0)
def rZ {α : Type} (g : α → α) : α × List Tk → α × List Tk := fun x => (g x.1, tsZ x.2)
theorem isW_Z (x : Str) (ts : List Tk) : isW x (tsZ ts) = isW x ts := by cases ts <;> rfl
theorem named_Z (ts : List Tk) : named (tsZ ts) = named ts := by cases ts <;> rfl
theorem txt_Z (ts : List Tk) : txt (tsZ ts) = txt ts := by cases ts <;> rfl
theorem tail_Z (ts : List Tk) : (tsZ ts).tail = tsZ ts.tail := by cases ts <;> rfl
theorem place_Z (ts : List Tk) : place 0 (tsZ ts) = 0 := by cases ts <;> rfl
section
variable {α β : Type} {h : β → β} {z o : Nat} {x : Str} {ts : List Tk}
theorem andR_Z {g : α → α} {X Y : Rs α} {f f' : α → List Tk → Except Fl β} (hx : Y = mapZ (rZ g) X) (hf : ∀ a r, f' (g a) (tsZ r) = mapZ h (f a r)) : andR Y f' = mapZ h (andR X f) := by
  subst hx
  cases X with
  | ok a => obtain ⟨a, r⟩ := a; exact hf a r
  | error e => rfl
theorem want_Z {f f' : List Tk → Except Fl β} (hf : ∀ r, f' (tsZ r) = mapZ h (f r)) : want 0 x (tsZ ts) f' = mapZ h (want z x ts f) := by
  unfold want
  rw [isW_Z, tail_Z, place_Z]
  split
  · exact hf _
  · rfl
theorem opn_Z {f f' : List Tk → Except Fl β} (hf : ∀ r, f' (tsZ r) = mapZ h (f r)) : opn 0 o x (tsZ ts) f' = mapZ h (opn z o x ts f) := by
  unfold opn
  rw [isW_Z, tail_Z, place_Z]
  split
  · split
    · exact hf _
    · rfl
  · rfl
theorem if_Z {p q : Bool} {a a' b b' : Except Fl β} (hp : p = q) (ha : q = true → a' = mapZ h a) (hb : q = false → b' = mapZ h b) : (if p = true then a' else b') = mapZ h (if q = true then a else b) := by
  subst hp
  cases p
  · exact hb rfl
  · exact ha rfl
end
theorem now_Z0 (ts : List Tk) : (nowT 0 (tsZ ts)).2.2 = 0 := by cases ts <;> rfl
theorem now_Z1 (z : Nat) (ts : List Tk) : (nowT 0 (tsZ ts)).1 = (nowT z ts).1 := by cases ts <;> rfl
theorem now_Z2 (z : Nat) (ts : List Tk) : (nowT 0 (tsZ ts)).2.1 = (nowT z ts).2.1 := by cases ts <;> rfl
theorem nameX_Z (z : Nat) (ts : List Tk) : nameX 0 (tsZ ts) = mapZ (rZ id) (nameX z ts) := by
  unfold nameX
  rw [named_Z, txt_Z, tail_Z, place_Z]
  split <;> rfl
theorem exZ_op (e : Ex) : (exZ e).op = e.op := by cases e; rfl
theorem exZ_nm (e : Ex) : (exZ e).nm = e.nm := by cases e; rfl
theorem exZ_kids (e : Ex) : (exZ e).kids = exsZ e.kids := by cases e; rfl
theorem exZ_pair (op : Nat) (a b : Ex) : exZ (pair op a b) = pair op (exZ a) (exZ b) := by cases a; cases b; simp [pair, exZ, exsZ, Ex.at_]
theorem exZ_setAt (e : Ex) (a : Int) : exZ (setAt e a) = setAt (exZ e) 0 := by cases e; simp [setAt, exZ, Ex.op, Ex.nm, Ex.kids]
theorem exsZ_snoc (l : List Ex) (e : Ex) : exsZ (l ++ [e]) = exsZ l ++ [exZ e] := by simp [exsZ_map]
theorem smsZ_snoc (l : List Sm) (e : Sm) : smsZ (l ++ [e]) = smsZ l ++ [smZ e] := by simp [smsZ_map]
theorem ex_Z (z : Nat) : ∀ n : Nat, (∀ ts o, pSum 0 n (tsZ ts) o = mapZ (rZ exZ) (pSum z n ts o)) ∧ (∀ e ts o, pSumL 0 n (exZ e) (tsZ ts) o = mapZ (rZ exZ) (pSumL z n e ts o)) ∧
    (∀ ts o, pProd 0 n (tsZ ts) o = mapZ (rZ exZ) (pProd z n ts o)) ∧ (∀ e ts o, pProdL 0 n (exZ e) (tsZ ts) o = mapZ (rZ exZ) (pProdL z n e ts o)) ∧ (∀ ts o, pSign 0 n (tsZ ts) o = mapZ (rZ exZ) (pSign z n ts o)) ∧
    (∀ ts o, pSums 0 n (tsZ ts) o = mapZ (rZ exsZ) (pSums z n ts o)) ∧ (∀ l ts o, pSumsL 0 n (exsZ l) (tsZ ts) o = mapZ (rZ exsZ) (pSumsL z n l ts o)) := by
  intro n
  induction n with
  | zero => refine ⟨?_, ?_, ?_, ?_, ?_, ?_, ?_⟩ <;> intros <;> (first | rw [pSum, pSum] | rw [pSumL, pSumL] | rw [pProd, pProd] | rw [pProdL, pProdL] | rw [pSign, pSign] | rw [pSums, pSums] | rw [pSumsL, pSumsL]) <;> rfl
  | succ n ih =>
    obtain ⟨h1, h2, h3, h4, h5, h6, h7⟩ := ih
    refine ⟨?_, ?_, ?_, ?_, ?_, ?_, ?_⟩
    · intro ts o
      rw [pSum, pSum]
      exact andR_Z (h3 ts o) fun a r => h2 a r o
    · intro e ts o
      rw [pSumL, pSumL, tail_Z]
      refine if_Z (isW_Z _ _) (fun _ => andR_Z (h3 _ o) fun a r => ?_) fun _ => if_Z (isW_Z _ _) (fun _ => andR_Z (h3 _ o) fun a r => ?_) fun _ => rfl
      · rw [← exZ_pair]; exact h2 _ r o
      · rw [← exZ_pair]; exact h2 _ r o
    · intro ts o
      rw [pProd, pProd]
      exact andR_Z (h5 ts o) fun a r => h4 a r o
    · intro e ts o
      rw [pProdL, pProdL, tail_Z]
      refine if_Z (isW_Z _ _) (fun _ => andR_Z (h5 _ o) fun a r => ?_) fun _ => if_Z (isW_Z _ _) (fun _ => andR_Z (h5 _ o) fun a r => ?_) fun _ => rfl
      · rw [← exZ_pair]; exact h4 _ r o
      · rw [← exZ_pair]; exact h4 _ r o
    · intro ts o
      rw [pSign_eq, pSign_eq, now_Z0]
      refine if_Z (isW_Z _ _) (fun _ => opn_Z fun r => andR_Z (h5 r (o + 1)) fun a r => ?_) fun _ => if_Z (isW_Z _ _) (fun _ => opn_Z fun r => andR_Z (h1 r (o + 1)) fun a r => want_Z fun r => ?_) fun _ => ?_
      · rfl
      · simp only [mapZ, rZ, exZ_setAt]; rfl
      · rw [now_Z1 z, now_Z2 z, place_Z, tail_Z]
        split
        · split
          · rfl
          · rfl
        · rw [nameX_Z z]
          refine andR_Z (g := id) rfl fun nm r => ?_
          unfold pTail
          exact if_Z (isW_Z _ _) (fun _ => opn_Z fun r => andR_Z (h1 r (o + 1)) fun a r => want_Z fun r => rfl) fun _ => if_Z (isW_Z _ _) (fun _ => opn_Z fun r => andR_Z (h6 r (o + 1)) fun a r => want_Z fun r => rfl) fun _ => rfl
    · intro ts o
      rw [pSums, pSums]
      refine if_Z (isW_Z _ _) (fun _ => rfl) fun _ => andR_Z (h1 ts o) fun a r => ?_
      have := h7 [a] r o
      simpa [exsZ] using this
    · intro l ts o
      rw [pSumsL, pSumsL, tail_Z]
      refine if_Z (isW_Z _ _) (fun _ => andR_Z (h1 _ o) fun a r => ?_) fun _ => rfl
      rw [← exsZ_snoc]; exact h7 _ r o
section
variable {z n o : Nat}
theorem sum_Z (ts : List Tk) : pSum 0 n (tsZ ts) o = mapZ (rZ exZ) (pSum z n ts o) := (ex_Z z n).1 ts o
theorem sums_Z (ts : List Tk) : pSums 0 n (tsZ ts) o = mapZ (rZ exsZ) (pSums z n ts o) := (ex_Z z n).2.2.2.2.2.1 ts o
theorem cmpU_Z (ts : List Tk) : ∀ i, cmpU i (tsZ ts) = cmpU i ts
  | 0 => rfl
  | i + 1 => by rw [cmpU, cmpU, cmpU_Z ts i, isW_Z]
theorem add_Z (ts : List Tk) : pAdd 0 n (tsZ ts) o = mapZ (rZ smZ) (pAdd z n ts o) := want_Z fun r => want_Z fun r => andR_Z (sum_Z r) fun a r => want_Z fun r => by simp [mapZ, rZ, smZ, smsZ, exsZ]
variable {body body' : List Tk → Rs (List Sm)}
theorem loop_Z (hb : ∀ r, body' (tsZ r) = mapZ (rZ smsZ) (body r)) (ts : List Tk) : pLoop body' 0 n (tsZ ts) o = mapZ (rZ smZ) (pLoop body z n ts o) :=
  want_Z fun r => opn_Z fun r => andR_Z (nameX_Z z r) fun nm r => want_Z fun r => andR_Z (sum_Z r) fun x r => want_Z fun r => andR_Z (sum_Z r) fun y r => want_Z fun r => andR_Z (hb r) fun b r => by simp [mapZ, rZ, smZ, smsZ, exsZ]
theorem choice_Z (hb : ∀ r, body' (tsZ r) = mapZ (rZ smsZ) (body r)) (ts : List Tk) : pChoice body' 0 n (tsZ ts) o = mapZ (rZ smZ) (pChoice body z n ts o) :=
  want_Z fun r => opn_Z fun r => andR_Z (sum_Z r) fun x r => by
    unfold pChoiceA
    rw [cmpU_Z, place_Z, tail_Z]
    split
    · rfl
    · refine andR_Z (sum_Z _) fun y r2 => ?_
      rw [← exZ_pair]
      refine want_Z fun r => andR_Z (hb r) fun b r => ?_
      rw [tail_Z]
      exact if_Z (isW_Z _ _) (fun _ => andR_Z (hb _) fun e r => by simp [mapZ, rZ, smZ, smsZ, exsZ]) fun _ => by simp [mapZ, rZ, smZ, smsZ, exsZ]
theorem plain_Z (ts : List Tk) : pPlain 0 n (tsZ ts) o = mapZ (rZ smZ) (pPlain z n ts o) := andR_Z (sum_Z ts) fun e r => by
  unfold pPlainB
  rw [named_Z, exZ_op, isW_Z, tail_Z]
  refine if_Z rfl (fun _ => andR_Z (sum_Z _) fun k r => want_Z fun r => ?_) fun _ => want_Z fun r => andR_Z (nameX_Z z r) fun nm r => opn_Z fun r => andR_Z (sums_Z r) fun l r => want_Z fun r => want_Z fun r => ?_
  · rw [exZ_nm, exZ_kids, ← exsZ_snoc]; simp [mapZ, rZ, smZ, smsZ]
  · simp [mapZ, rZ, smZ, smsZ, exsZ]
end
theorem smZ_setS (s : Sm) (a : Int) : smZ (setS s a) = setS (smZ s) 0 := by cases s; simp [setS, smZ]
theorem sm_Z (z : Nat) : ∀ n : Nat, (∀ ts o, pStmt 0 n (tsZ ts) o = mapZ (rZ smZ) (pStmt z n ts o)) ∧ (∀ ts o, pBody 0 n (tsZ ts) o = mapZ (rZ smsZ) (pBody z n ts o)) ∧ (∀ l ts o, pStmts 0 n (smsZ l) (tsZ ts) o = mapZ (rZ smsZ) (pStmts z n l ts o)) := by
  intro n
  induction n with
  | zero => refine ⟨?_, ?_, ?_⟩ <;> intros <;> (first | rw [pStmt, pStmt] | rw [pBody, pBody] | rw [pStmts, pStmts]) <;> rfl
  | succ n ih =>
    obtain ⟨h1, h2, h3⟩ := ih
    refine ⟨?_, ?_, ?_⟩
    · intro ts o
      rw [pStmt_eq, pStmt_eq, now_Z0]
      refine andR_Z (g := smZ) ?_ fun s r => ?_
      · exact if_Z (isW_Z _ _) (fun _ => add_Z ts) fun _ => if_Z (isW_Z _ _) (fun _ => loop_Z (fun r => h2 r o) ts) fun _ => if_Z (isW_Z _ _) (fun _ => choice_Z (fun r => h2 r o) ts) fun _ => if_Z (isW_Z _ _) (fun _ => andR_Z (h2 ts o) fun b r => by simp [mapZ, rZ, smZ, smsZ, exsZ]) fun _ => plain_Z ts
      · simp only [mapZ, rZ, smZ_setS]; rfl
    · intro ts o
      rw [pBody_eq, pBody_eq]
      exact opn_Z fun r => andR_Z (h3 [] r _) fun l r => want_Z fun r => rfl
    · intro l ts o
      rw [pStmts_eq, pStmts_eq]
      refine if_Z (isW_Z _ _) (fun _ => rfl) fun _ => andR_Z (h1 ts o) fun s r => ?_
      rw [← smsZ_snoc]; exact h3 _ r o
section
variable {z n o ty a : Nat} {first : Bool}
theorem size_Z (ts : List Tk) : pSize 0 n (tsZ ts) o = mapZ (rZ exsZ) (pSize z n ts o) := opn_Z fun r => andR_Z (sum_Z r) fun e r => want_Z fun r => by simp [mapZ, rZ, exsZ]
def twZ (p : List Ex × List Ex) : List Ex × List Ex := (exsZ p.1, exsZ p.2)
theorem upper_Z (lo : List Ex) (ts : List Tk) : pUpper 0 n (exsZ lo) (tsZ ts) o = mapZ (rZ twZ) (pUpper z n lo ts o) := want_Z fun r => want_Z fun r => andR_Z (sum_Z r) fun e r => want_Z fun r => by simp [mapZ, rZ, twZ, exsZ]
theorem bounds_Z (ts : List Tk) : pBounds 0 n (tsZ ts) o = mapZ (rZ twZ) (pBounds z n ts o) := by
  unfold pBounds
  rw [tail_Z, tail_Z]
  refine if_Z (isW_Z _ _) (fun _ => if_Z (isW_Z _ _) (fun _ => want_Z fun r => andR_Z (sum_Z r) fun e r => ?_) fun _ => ?_) fun _ => rfl
  · unfold pBoundsB
    rw [tail_Z]
    exact if_Z (isW_Z _ _) (fun _ => by have := upper_Z (z := z) (n := n) (o := o) [e] r.tail; simpa [exsZ] using this) fun _ => want_Z fun r => by simp [mapZ, rZ, twZ, exsZ]
  · have := upper_Z (z := z) (n := n) (o := o) [] ts.tail
    simpa [exsZ] using this
def bdZ (p : Bool × Dc) : Bool × Dc := (p.1, dcZ p.2)
variable {nm : Str} {size lo up init : List Ex}
theorem declE_Z (ts : List Tk) : pDeclE 0 ty 0 nm (exsZ size) (exsZ lo) (exsZ up) (exsZ init) (tsZ ts) = mapZ (rZ bdZ) (pDeclE z ty a nm size lo up init ts) := want_Z fun r => by simp [mapZ, rZ, bdZ, dcZ]
theorem declN_Z (ts : List Tk) : pDeclN 0 n first ty 0 o (exsZ size) (exsZ lo) (exsZ up) nm (tsZ ts) = mapZ (rZ bdZ) (pDeclN z n first ty a o size lo up nm ts) := by
  unfold pDeclN
  rw [isW_Z, tail_Z]
  refine if_Z rfl (fun _ => andR_Z (sum_Z _) fun e r => ?_) fun _ => ?_
  · have := declE_Z (z := z) (ty := ty) (a := a) (nm := nm) (size := size) (lo := lo) (up := up) (init := [e]) r
    simpa [exsZ] using this
  · have := declE_Z (z := z) (ty := ty) (a := a) (nm := nm) (size := size) (lo := lo) (up := up) (init := []) ts
    simpa [exsZ] using this
theorem declV_Z (ts : List Tk) : pDeclV 0 n first ty 0 o (exsZ size) (exsZ lo) (exsZ up) (tsZ ts) = mapZ (rZ bdZ) (pDeclV z n first ty a o size lo up ts) := andR_Z (nameX_Z z ts) fun _ r => declN_Z r
theorem declT_Z (ts : List Tk) : pDeclT 0 n first ty 0 o (exsZ size) (tsZ ts) = mapZ (rZ bdZ) (pDeclT z n first ty a o size ts) := andR_Z (bounds_Z ts) fun b r => by
  unfold pDeclU
  split
  · exact andR_Z (size_Z r) fun s r => declV_Z r
  · exact declV_Z r
theorem decl_Z (ts : List Tk) : pDecl 0 n first (tsZ ts) o = mapZ (rZ bdZ) (pDecl z n first ts o) := by
  unfold pDecl
  rw [now_Z0, tail_Z]
  have e0 : ([] : List Ex) = exsZ [] := by simp [exsZ]
  refine if_Z (isW_Z _ _) (fun _ => by rw [e0]; exact declT_Z _) fun _ => if_Z (isW_Z _ _) (fun _ => by rw [e0]; exact declT_Z _) fun _ => if_Z (isW_Z _ _) (fun _ => by rw [e0]; exact declT_Z _) fun _ => if_Z (isW_Z _ _) (fun _ => andR_Z (size_Z _) fun s r => ?_) fun _ => by simp [mapZ, rZ, bdZ, dcZ, exsZ]
  rw [tail_Z]
  exact if_Z (isW_Z _ _) (fun _ => declT_Z _) fun _ => want_Z fun r => declT_Z r
theorem decls_Z : ∀ (n : Nat) (l : List Dc) (ts : List Tk), pDecls 0 n first (l.map dcZ) (tsZ ts) o = mapZ (rZ (List.map dcZ)) (pDecls z n first l ts o)
  | 0, _, _ => by rw [pDecls, pDecls]; rfl
  | n + 1, l, ts => by
    rw [pDecls_eq, pDecls_eq]
    refine andR_Z (decl_Z ts) fun d r => if_Z rfl (fun _ => ?_) fun _ => rfl
    have := decls_Z n (l ++ [d.2]) r
    rw [← this, List.map_append]; rfl
theorem fillE_Z (ds : List Dc) (ss : List Sm) (ts : List Tk) : pFillE 0 (ds.map dcZ) (smsZ ss) (tsZ ts) = mapZ (rZ bkZ) (pFillE z ds ss ts) := want_Z fun _ => rfl
theorem fill_Z (i : Nat) (ts : List Tk) : pFill 0 n i (tsZ ts) o = mapZ (rZ bkZ) (pFill z n i ts o) := opn_Z fun r => by
  unfold pFillD
  refine andR_Z (g := List.map dcZ) ?_ fun ds r => ?_
  · split
    · rfl
    · exact decls_Z n [] r
  · unfold pFillS
    refine if_Z rfl (fun _ => ?_) fun _ => andR_Z ((sm_Z z n).2.2 [] r _) fun ss r => fillE_Z ds ss r
    have := fillE_Z (z := z) ds [] r
    simpa [smsZ] using this
theorem head_Z (last : Nat) (ts : List Tk) : pHead 0 last (tsZ ts) = mapZ (rZ id) (pHead z last ts) := by
  unfold pHead
  simp only [isW_Z, tail_Z]
  refine if_Z rfl (fun _ => rfl) fun _ => if_Z rfl (fun _ => if_Z rfl (fun _ => rfl) fun _ => want_Z fun r => rfl) fun _ => if_Z rfl (fun _ => rfl) fun _ => if_Z rfl (fun _ => rfl) fun _ => if_Z rfl (fun _ => want_Z fun r => rfl) fun _ => rfl
theorem prog_Z : ∀ (n last : Nat) (out : List Bk) (ts : List Tk), pProg 0 n last (out.map bkZ) (tsZ ts) = mapZ (rZ (List.map bkZ)) (pProg z n last out ts)
  | 0, _, _, _ => by rw [pProg, pProg]; rfl
  | n + 1, last, out, ts => by
    rw [pProg_eq, pProg_eq]
    refine andR_Z (head_Z last ts) fun i r => if_Z rfl (fun _ => andR_Z (fill_Z i.1 r) fun b r => ?_) fun _ => rfl
    rw [← prog_Z n _ _ r, List.map_set]; rfl
end
theorem noBk_Z : (List.replicate 6 noBk).map bkZ = List.replicate 6 noBk := by simp [List.map_replicate, noBk, bkZ, smsZ]
theorem prog_same {z z2 n : Nat} {T T2 : List Tk} (h : tsZ T = tsZ T2) : mapZ (List.map bkZ) (andR (pProg z n 0 (List.replicate 6 noBk) T) endR) = mapZ (List.map bkZ) (andR (pProg z2 n 0 (List.replicate 6 noBk) T2) endR) := by
  have key : ∀ z T, andR (pProg 0 n 0 (List.replicate 6 noBk) (tsZ T)) endR = mapZ (List.map bkZ) (andR (pProg z n 0 (List.replicate 6 noBk) T) endR) := fun z T => by
    have h1 := prog_Z (z := z) n 0 (List.replicate 6 noBk) T
    rw [noBk_Z] at h1
    exact andR_Z h1 fun a r => by cases r <;> rfl
  rw [← key z T, ← key z2 T2, h]
end Go.Prs
end

section
namespace Go.Prs
open Go.Tok Go.Tree
def tw : List Tk → Nat
  | [] => 0
  | t :: r => 2 + t.2.1.length + tw r
theorem tw_snoc (t : Tk) : ∀ l : List Tk, tw (l ++ [t]) = tw l + 2 + t.2.1.length
  | [] => by simp [tw]
  | u :: l => by rw [List.cons_append, tw, tw, tw_snoc t l]; omega
theorem tw_tail (ts : List Tk) : tw ts.tail ≤ tw ts := by cases ts <;> simp [tw]
theorem tw_pos {ts : List Tk} (h : ts ≠ []) : tw ts.tail + 2 + (txt ts).length ≤ tw ts := by
  cases ts with
  | nil => exact absurd rfl h
  | cons t l => simp [tw, txt]; omega
theorem isW_tw {x : Str} {ts : List Tk} (h : isW x ts = true) : tw ts.tail + 2 ≤ tw ts := by
  have := tw_pos (ts := ts) (by rintro rfl; cases h); omega
theorem named_tw {ts : List Tk} (h : named ts = true) : tw ts.tail + 2 + (txt ts).length ≤ tw ts := tw_pos (by rintro rfl; cases h)
theorem cmpU_tw {ts : List Tk} : ∀ {i : Nat}, cmpU i ts ≠ 0 → tw ts.tail + 2 ≤ tw ts
  | 0, h => absurd rfl h
  | i + 1, h => by
    rw [cmpU] at h
    split at h
    · split at h
      · rename_i hw; exact isW_tw hw
      · exact absurd rfl h
    · exact cmpU_tw h
def Al {β : Type} (P : β → Prop) (X : Except Fl β) : Prop := ∀ b, X = .ok b → P b
section
variable {α β : Type} {P Q : β → Prop} {z o : Nat} {x : Str} {ts : List Tk}
theorem Al.ok {b : β} (h : P b) : Al P (.ok b) := fun c hc => by cases hc; exact h
theorem Al.er {e : Fl} : Al P (.error e) := fun c hc => by cases hc
theorem Al.mono {X : Except Fl β} (h : Al P X) (hq : ∀ b, P b → Q b) : Al Q X := fun b hb => hq b (h b hb)
theorem Al.andR {X : Rs α} {F : α → List Tk → Except Fl β} {A : α × List Tk → Prop} (hX : Al A X) (hF : ∀ a r, A (a, r) → Al P (F a r)) : Al P (andR X F) := by
  intro b hb
  cases X with
  | ok p => obtain ⟨a, r⟩ := p; exact hF a r (hX _ rfl) b hb
  | error e => cases hb
theorem Al.want {f : List Tk → Except Fl β} (h : tw ts.tail + 2 ≤ tw ts → Al P (f ts.tail)) : Al P (want z x ts f) := by
  unfold Prs.want
  split
  · rename_i hw; exact h (isW_tw hw)
  · exact .er
theorem Al.opn {f : List Tk → Except Fl β} (h : tw ts.tail + 2 ≤ tw ts → Al P (f ts.tail)) : Al P (opn z o x ts f) := by
  unfold Prs.opn
  split
  · rename_i hw
    split
    · exact h (isW_tw hw)
    · exact .er
  · exact .er
theorem Al.ifW {a b : Except Fl β} (ha : tw ts.tail + 2 ≤ tw ts → Al P a) (hb : Al P b) : Al P (if isW x ts = true then a else b) := by
  split
  · rename_i hw; exact ha (isW_tw hw)
  · exact hb
theorem Al.nameX : Al (fun p : Str × List Tk => tw p.2 + 2 + p.1.length ≤ tw ts) (nameX z ts) := by
  unfold Prs.nameX
  split
  · rename_i h; exact .ok (named_tw h)
  · exact .er
end
theorem exW_pair (op : Nat) (a b : Ex) : exW (pair op a b) = exW a + exW b + 3 := by simp [pair, exW, exsW]; omega
theorem exW_setAt (e : Ex) (a : Int) : exW (setAt e a) = exW e := by cases e; simp [setAt, exW, Ex.op, Ex.nm, Ex.kids]
theorem exW_op (e : Ex) : exW e = 1 + e.nm.length + e.kids.length + exsW e.kids := by cases e; rw [exW]; rfl
theorem exsW_snoc (e : Ex) : ∀ l : List Ex, exsW (l ++ [e]) = exsW l + exW e
  | [] => by simp [exsW]
  | u :: l => by rw [List.cons_append, exsW, exsW, exsW_snoc e l]; omega
theorem smsW_snoc (e : Sm) : ∀ l : List Sm, smsW (l ++ [e]) = smsW l + smW e
  | [] => by simp [smsW]
  | u :: l => by rw [List.cons_append, smsW, smsW, smsW_snoc e l]; omega
theorem smW_setS (s : Sm) (a : Int) : smW (setS s a) = smW s := by cases s; simp [setS, smW]
theorem exW_mk (op : Nat) (a : Int) (nm : Str) (l : List Ex) : exW (.mk op a nm l) = 1 + nm.length + l.length + exsW l := by rw [exW]
theorem smW_mk (op : Nat) (a : Int) (nm : Str) (l : List Ex) (b e : List Sm) : smW (.mk op a nm l b e) = 1 + nm.length + l.length + b.length + e.length + exsW l + smsW b + smsW e := by rw [smW]
theorem exsW_nil : exsW [] = 0 := by rw [exsW]
theorem exsW_one1 (e : Ex) : exsW [e] = exW e := by rw [exsW, exsW]; omega
theorem exsW_cons (e : Ex) (l : List Ex) : exsW (e :: l) = exW e + exsW l := by rw [exsW]
theorem smsW_nil : smsW [] = 0 := by rw [smsW]
abbrev lw (l : List Ex) : Nat := l.length + exsW l
abbrev SW (ts : List Tk) : Sm × List Tk → Prop := fun p => smW p.1 + 1 + tw p.2 ≤ tw ts
theorem wtF : (∀ (ts : List Tk) (p : Sm × List Tk), SW ts p = (smW p.1 + 1 + tw p.2 ≤ tw ts)) ∧ (∀ l : List Ex, lw l = l.length + exsW l) ∧ (∀ (op : Nat) (a b : Ex), exW (pair op a b) = exW a + exW b + 3) ∧ (∀ (e : Ex) (a : Int), exW (setAt e a) = exW e) ∧
    (∀ (op : Nat) (a : Int) (nm : Str) (l : List Ex), exW (.mk op a nm l) = 1 + nm.length + l.length + exsW l) ∧ (∀ e : Ex, exsW [e] = exW e) ∧ exsW [] = 0 ∧ (∀ (e : Ex) (l : List Ex), exsW (e :: l) = exW e + exsW l) ∧ (∀ (e : Ex) (l : List Ex), exsW (l ++ [e]) = exsW l + exW e) ∧
    (∀ (op : Nat) (a : Int) (nm : Str) (l : List Ex) (b e : List Sm), smW (.mk op a nm l b e) = 1 + nm.length + l.length + b.length + e.length + exsW l + smsW b + smsW e) ∧ (∀ (s : Sm) (a : Int), smW (setS s a) = smW s) ∧ smsW [] = 0 ∧ (∀ (e : Sm) (l : List Sm), smsW (l ++ [e]) = smsW l + smW e) ∧
    (∀ (l r : List Ex), (l ++ r).length = l.length + r.length) ∧ (∀ (l r : List Sm), (l ++ r).length = l.length + r.length) ∧ (∀ (e : Ex) (l : List Ex), (e :: l).length = l.length + 1) ∧ (∀ (e : Sm) (l : List Sm), (e :: l).length = l.length + 1) ∧ ([] : List Ex).length = 0 ∧ ([] : List Sm).length = 0 ∧ ([] : Str).length = 0 :=
  ⟨fun _ _ => rfl, fun _ => rfl, exW_pair, exW_setAt, exW_mk, exsW_one1, exsW_nil, exsW_cons, exsW_snoc, smW_mk, smW_setS, smsW_nil, smsW_snoc, fun _ _ => List.length_append, fun _ _ => List.length_append, fun _ _ => rfl, fun _ _ => rfl, rfl, rfl, rfl⟩
theorem ex_W (z : Nat) : ∀ n : Nat, (∀ ts o, Al (fun p : Ex × List Tk => exW p.1 + 1 + tw p.2 ≤ tw ts) (pSum z n ts o)) ∧ (∀ e ts o, Al (fun p : Ex × List Tk => exW p.1 + tw p.2 ≤ exW e + tw ts) (pSumL z n e ts o)) ∧
    (∀ ts o, Al (fun p : Ex × List Tk => exW p.1 + 1 + tw p.2 ≤ tw ts) (pProd z n ts o)) ∧ (∀ e ts o, Al (fun p : Ex × List Tk => exW p.1 + tw p.2 ≤ exW e + tw ts) (pProdL z n e ts o)) ∧ (∀ ts o, Al (fun p : Ex × List Tk => exW p.1 + 1 + tw p.2 ≤ tw ts) (pSign z n ts o)) ∧
    (∀ ts o, Al (fun p : List Ex × List Tk => p.1.length + exsW p.1 + tw p.2 ≤ tw ts) (pSums z n ts o)) ∧ (∀ l ts o, Al (fun p : List Ex × List Tk => p.1.length + exsW p.1 + tw p.2 ≤ l.length + exsW l + tw ts) (pSumsL z n l ts o)) := by
  intro n
  induction n with
  | zero => refine ⟨?_, ?_, ?_, ?_, ?_, ?_, ?_⟩ <;> intros <;> (first | rw [pSum] | rw [pSumL] | rw [pProd] | rw [pProdL] | rw [pSign] | rw [pSums] | rw [pSumsL]) <;> exact .er
  | succ n ih =>
    obtain ⟨h1, h2, h3, h4, h5, h6, h7⟩ := ih
    refine ⟨?_, ?_, ?_, ?_, ?_, ?_, ?_⟩
    · intro ts o
      rw [pSum_eq]
      exact .andR (h3 ts o) fun a r ha => (h2 a r o).mono fun p hp => by ((try simp only [wtF] at *); omega)
    · intro e ts o
      rw [pSumL_eq]
      exact .ifW (fun ht => .andR (h3 _ o) fun k r hk => (h2 _ r o).mono fun p hp => by ((try simp only [wtF] at *); omega)) (.ifW (fun ht => .andR (h3 _ o) fun k r hk => (h2 _ r o).mono fun p hp => by ((try simp only [wtF] at *); omega)) (.ok (Nat.le_refl _)))
    · intro ts o
      rw [pProd_eq]
      exact .andR (h5 ts o) fun a r ha => (h4 a r o).mono fun p hp => by ((try simp only [wtF] at *); omega)
    · intro e ts o
      rw [pProdL_eq]
      exact .ifW (fun ht => .andR (h5 _ o) fun k r hk => (h4 _ r o).mono fun p hp => by ((try simp only [wtF] at *); omega)) (.ifW (fun ht => .andR (h5 _ o) fun k r hk => (h4 _ r o).mono fun p hp => by ((try simp only [wtF] at *); omega)) (.ok (Nat.le_refl _)))
    · intro ts o
      rw [pSign_eq]
      refine .ifW (fun ht => .opn fun _ => .andR (h5 _ _) fun k r hk => .ok (by ((try simp only [wtF] at *); omega))) (.ifW (fun ht => .opn fun _ => .andR (h1 _ _) fun e r he => .want fun hr => .ok (by ((try simp only [wtF] at *); omega))) ?_)
      split
      · rename_i hk
        have hne : ts ≠ [] := by rintro rfl; cases hk
        have := tw_pos hne
        rw [txt_now z hne] at this
        split
        · exact .er
        · exact .ok (by ((try simp only [wtF] at *); omega))
      · refine .andR .nameX fun nm r hr => ?_
        unfold pTail
        exact .ifW (fun ht => .opn fun _ => .andR (h1 _ _) fun k r' hk => .want fun hw => .ok (by ((try simp only [wtF] at *); omega))) (.ifW (fun ht => .opn fun _ => .andR (h6 _ _) fun l r' hl => .want fun hw => .ok (by ((try simp only [wtF] at *); omega))) (.ok (by ((try simp only [wtF] at *); omega))))
    · intro ts o
      rw [pSums_eq]
      exact .ifW (fun ht => .ok (by ((try simp only [wtF] at *); omega))) (.andR (h1 ts o) fun e r he => (h7 [e] r o).mono fun p hp => by ((try simp only [wtF] at *); omega))
    · intro l ts o
      rw [pSumsL_eq]
      exact .ifW (fun ht => .andR (h1 _ o) fun e r he => (h7 _ r o).mono fun p hp => by ((try simp only [wtF] at *); omega)) (.ok (Nat.le_refl _))
section
variable {z n o : Nat}
theorem sum_W (ts : List Tk) (o : Nat) : Al (fun p : Ex × List Tk => exW p.1 + 1 + tw p.2 ≤ tw ts) (pSum z n ts o) := (ex_W z n).1 ts o
theorem sums_W (ts : List Tk) (o : Nat) : Al (fun p : List Ex × List Tk => p.1.length + exsW p.1 + tw p.2 ≤ tw ts) (pSums z n ts o) := (ex_W z n).2.2.2.2.2.1 ts o
variable {body : List Tk → Rs (List Sm)} (hb : ∀ ts, Al (fun p : List Sm × List Tk => p.1.length + smsW p.1 + 2 + tw p.2 ≤ tw ts) (body ts)) (ts : List Tk)
theorem add_W : Al (SW ts) (pAdd z n ts o) := .want fun h1 => .want fun h2 => .andR (sum_W _ _) fun e r he => .want fun h3 => .ok (by ((try simp only [wtF] at *); omega))
include hb in
theorem loop_W : Al (SW ts) (pLoop body z n ts o) := .want fun h1 => .opn fun h2 => .andR .nameX fun nm r hn => .want fun h3 => .andR (sum_W _ _) fun x r1 hx => .want fun h4 => .andR (sum_W _ _) fun y r2 hy => .want fun h5 => .andR (hb _) fun b r3 hb => .ok (by ((try simp only [wtF] at *); omega))
include hb in
theorem choice_W : Al (SW ts) (pChoice body z n ts o) := .want fun h1 => .opn fun h2 => .andR (sum_W _ _) fun x r hx => by
  unfold pChoiceA
  split
  · exact .er
  · rename_i hc
    have := cmpU_tw hc
    exact .andR (sum_W _ _) fun y r2 hy => .want fun h5 => .andR (hb _) fun b r3 hb1 => .ifW (fun h6 => .andR (hb _) fun e r4 he => .ok (by ((try simp only [wtF] at *); omega))) (.ok (by ((try simp only [wtF] at *); omega)))
theorem plain_W : Al (SW ts) (pPlain z n ts o) := .andR (sum_W _ _) fun e r he => by
  unfold pPlainB
  split
  · rename_i hc
    have := isW_tw ((Bool.and_eq_true _ _).mp hc).2
    have h9 := exW_op e
    exact .andR (sum_W _ _) fun k r2 hk => .want fun h3 => .ok (by ((try simp only [wtF] at *); omega))
  · exact .want fun h1 => .andR .nameX fun nm r2 hn => .opn fun h2 => .andR (sums_W _ _) fun l r3 hl => .want fun h3 => .want fun h4 => .ok (by ((try simp only [wtF] at *); omega))
end
theorem sm_W (z : Nat) : ∀ n : Nat, (∀ ts o, Al (SW ts) (pStmt z n ts o)) ∧ (∀ ts o, Al (fun p : List Sm × List Tk => p.1.length + smsW p.1 + 2 + tw p.2 ≤ tw ts) (pBody z n ts o)) ∧ (∀ l ts o, Al (fun p : List Sm × List Tk => p.1.length + smsW p.1 + tw p.2 ≤ l.length + smsW l + tw ts) (pStmts z n l ts o)) := by
  intro n
  induction n with
  | zero => refine ⟨?_, ?_, ?_⟩ <;> intros <;> (first | rw [pStmt] | rw [pBody] | rw [pStmts]) <;> exact .er
  | succ n ih =>
    obtain ⟨h1, h2, h3⟩ := ih
    refine ⟨?_, ?_, ?_⟩
    · intro ts o
      rw [pStmt_eq]
      refine .andR (A := SW ts) ?_ fun s r hs => .ok (by ((try simp only [wtF] at *); omega))
      refine .ifW (fun _ => add_W ts) (.ifW (fun _ => loop_W (fun t => h2 t o) ts) (.ifW (fun _ => choice_W (fun t => h2 t o) ts) (.ifW (fun h => .andR (h2 ts o) fun b r hb => .ok (by ((try simp only [wtF] at *); omega))) (plain_W ts))))
    · intro ts o
      rw [pBody_eq]
      exact .opn fun h => .andR (h3 [] _ _) fun l r hl => .want fun h4 => .ok (by ((try simp only [wtF] at *); omega))
    · intro l ts o
      rw [pStmts_eq]
      exact .ifW (fun _ => .ok (Nat.le_refl _)) (.andR (h1 ts o) fun s r hs => (h3 _ r o).mono fun p hp => by ((try simp only [wtF] at *); omega))
theorem stmts_W {z n : Nat} (l : List Sm) (ts : List Tk) (o : Nat) : Al (fun p : List Sm × List Tk => p.1.length + smsW p.1 + tw p.2 ≤ l.length + smsW l + tw ts) (pStmts z n l ts o) := (sm_W z n).2.2 l ts o
section
variable {z n o ty a : Nat} {first : Bool} {size lo up init : List Ex} {nm : Str}
theorem size_W (ts : List Tk) : Al (fun p : List Ex × List Tk => lw p.1 + tw p.2 ≤ tw ts) (pSize z n ts o) := .opn fun h1 => .andR (sum_W _ _) fun e r he => .want fun h2 => .ok (by ((try simp only [wtF] at *); omega))
theorem upper_W (ts : List Tk) : Al (fun p : (List Ex × List Ex) × List Tk => lw p.1.1 + lw p.1.2 + tw p.2 ≤ lw lo + tw ts) (pUpper z n lo ts o) := .want fun h1 => .want fun h2 => .andR (sum_W _ _) fun e r he => .want fun h3 => .ok (by ((try simp only [wtF] at *); omega))
theorem bounds_W (ts : List Tk) : Al (fun p : (List Ex × List Ex) × List Tk => lw p.1.1 + lw p.1.2 + tw p.2 ≤ tw ts) (pBounds z n ts o) := by
  refine .ifW (fun h1 => .ifW (fun h2 => .want fun h3 => .andR (sum_W _ _) fun e r he => ?_) ?_) (.ok (by simp [lw, exsW_nil]))
  · unfold pBoundsB
    exact .ifW (fun h4 => (upper_W (lo := [e]) _).mono fun p hp => by ((try simp only [wtF] at *); omega)) (.want fun h4 => .ok (by ((try simp only [wtF] at *); omega)))
  · exact (upper_W (lo := []) _).mono fun p hp => by ((try simp only [wtF] at *); omega)
theorem declE_W (ts : List Tk) : Al (fun p : (Bool × Dc) × List Tk => dcW p.1.2 + tw p.2 ≤ 1 + nm.length + lw size + lw lo + lw up + lw init + tw ts) (pDeclE z ty a nm size lo up init ts) := .want fun h => .ok (by simp only [dcW, lw]; omega)
theorem declN_W (ts : List Tk) : Al (fun p : (Bool × Dc) × List Tk => dcW p.1.2 + tw p.2 ≤ 1 + nm.length + lw size + lw lo + lw up + tw ts) (pDeclN z n first ty a o size lo up nm ts) := by
  unfold pDeclN
  split
  · rename_i hc
    have := isW_tw ((Bool.and_eq_true _ _).mp hc).2
    exact .andR (sum_W _ _) fun e r he => (declE_W r).mono fun p hp => by ((try simp only [wtF] at *); omega)
  · exact (declE_W ts).mono fun p hp => by ((try simp only [wtF] at *); omega)
theorem declV_W (ts : List Tk) : Al (fun p : (Bool × Dc) × List Tk => dcW p.1.2 + 1 + tw p.2 ≤ lw size + lw lo + lw up + tw ts) (pDeclV z n first ty a o size lo up ts) := .andR .nameX fun nm r hr => (declN_W r).mono fun p hp => by ((try simp only [wtF] at *); omega)
theorem declT_W (ts : List Tk) : Al (fun p : (Bool × Dc) × List Tk => dcW p.1.2 + 1 + tw p.2 ≤ lw size + tw ts) (pDeclT z n first ty a o size ts) := .andR (bounds_W ts) fun b r hb => by
  unfold pDeclU
  split
  · exact .andR (size_W r) fun s r2 hs => (declV_W r2).mono fun p hp => by ((try simp only [wtF] at *); omega)
  · exact (declV_W r).mono fun p hp => by ((try simp only [wtF] at *); omega)
theorem decl_W (ts : List Tk) : Al (fun p : (Bool × Dc) × List Tk => (p.1.1 = true → dcW p.1.2 + 1 + tw p.2 ≤ tw ts) ∧ tw p.2 ≤ tw ts) (pDecl z n first ts o) := by
  have go : ∀ {X : Rs (Bool × Dc)} {m : Nat}, m ≤ tw ts → Al (fun p : (Bool × Dc) × List Tk => dcW p.1.2 + 1 + tw p.2 ≤ m) X → Al (fun p : (Bool × Dc) × List Tk => (p.1.1 = true → dcW p.1.2 + 1 + tw p.2 ≤ tw ts) ∧ tw p.2 ≤ tw ts) X := fun hm h => h.mono fun p hp => ⟨fun _ => by omega, by omega⟩
  have e0 : lw [] = 0 := by simp [lw, exsW_nil]
  refine .ifW (fun h => go (by rw [e0]; omega) (declT_W _)) (.ifW (fun h => go (by rw [e0]; omega) (declT_W _)) (.ifW (fun h => go (by rw [e0]; omega) (declT_W _)) (.ifW (fun h => .andR (size_W _) fun s r hs => ?_) (.ok ⟨fun h => by (cases h), Nat.le_refl _⟩))))
  dsimp only at hs
  exact .ifW (fun h2 => go (by omega) (declT_W _)) (.want fun h2 => go (by omega) (declT_W _))
end
def dsW : List Dc → Nat
  | [] => 0
  | d :: l => dcW d + dsW l
theorem dsW_snoc (d : Dc) : ∀ l : List Dc, dsW (l ++ [d]) = dsW l + dcW d
  | [] => by simp [dsW]
  | u :: l => by rw [List.cons_append, dsW, dsW, dsW_snoc d l]; omega
theorem decls_W {z o : Nat} {first : Bool} : ∀ (n : Nat) (l : List Dc) (ts : List Tk), Al (fun p : List Dc × List Tk => p.1.length + dsW p.1 + tw p.2 ≤ l.length + dsW l + tw ts) (pDecls z n first l ts o)
  | 0, _, _ => by rw [pDecls]; exact .er
  | n + 1, l, ts => by
    rw [pDecls_eq]
    refine .andR (decl_W ts) fun d r hd => ?_
    dsimp only at hd
    split
    · rename_i h
      have := hd.1 h
      exact (decls_W n _ r).mono fun p hp => by rw [dsW_snoc, List.length_append, List.length_singleton] at hp; omega
    · exact .ok (by have := hd.2; dsimp only; omega)
theorem dsW_eq (l : List Dc) : dcsW l = dsW l := by
  induction l with
  | nil => rfl
  | cons d l ih => rw [dcsW, dsW, ih]
theorem fill_W {z n o i : Nat} (ts : List Tk) : Al (fun p : Bk × List Tk => bkW p.1 + tw p.2 ≤ tw ts) (pFill z n i ts o) := by
  refine .opn fun h => ?_
  unfold pFillD
  refine .andR (A := fun p : List Dc × List Tk => p.1.length + dsW p.1 + tw p.2 ≤ tw ts.tail) ?_ fun ds r hd => ?_
  · split
    · exact .ok (by simp [dsW])
    · exact (decls_W _ _ _).mono fun p hp => by simpa [dsW] using hp
  · dsimp only at hd
    unfold pFillS
    split
    · exact .want fun h2 => .ok (by simp only [bkW, dsW_eq, List.length_nil, smsW_nil]; omega)
    · exact .andR (stmts_W [] r _) fun ss r2 hs => .want fun h2 => .ok (by simp only [bkW, dsW_eq, List.length_nil, smsW_nil] at *; omega)
theorem head_W {z last : Nat} (ts : List Tk) : Al (fun p : (Nat × Bool) × List Tk => tw p.2 ≤ tw ts) (pHead z last ts) := by
  have h1 := tw_tail ts
  have h2 := tw_tail ts.tail
  unfold pHead
  repeat' split
  all_goals first
    | exact .ok (by dsimp only; omega)
    | exact .want fun h => .ok (by dsimp only; omega)
theorem prog_W {z M : Nat} (hM : 1 ≤ M) : ∀ (n last : Nat) (out : List Bk) (ts : List Tk), (∀ b ∈ out, bkW b ≤ M) → tw ts ≤ M → Al (fun p : List Bk × List Tk => ∀ b ∈ p.1, bkW b ≤ M) (pProg z n last out ts)
  | 0, _, _, _, _, _ => by rw [pProg]; exact .er
  | n + 1, last, out, ts, ho, ht => by
    rw [pProg_eq]
    refine .andR (head_W ts) fun i r hi => ?_
    dsimp only at hi
    split
    · refine .andR (fill_W r) fun b r2 hb => ?_
      dsimp only at hb
      refine prog_W hM n _ _ r2 (fun c hc => ?_) (by omega)
      rcases List.mem_or_eq_of_mem_set hc with hc | rfl
      · exact ho c hc
      · omega
    · exact .ok ho
end Go.Prs
end

section
namespace Go.Tok
theorem atP_take {p : UInt8 → Bool} {s : List UInt8} {j k : Nat} (h : k < j) : atP p (s.take j) k = atP p s k := by
  unfold atP; rw [List.getElem?_take_of_lt h]
end Go.Tok
end

section
namespace Go.Tok
inductive Chain (s : List UInt8) : Nat → List Tk → Prop
  | nil (i : Nat) : Chain s i []
  | cons {i e kd : Nat} {ts : List Tk} : i ≤ s.length → skipTo s i < s.length → tokAt s (skipTo s i) = (kd, e, true) → Chain s e ts → Chain s i ((kd, tokTx s (skipTo s i), skipTo s i) :: ts)
theorem chain_lex {s : List UInt8} : ∀ (m i : Nat) (x : Rd), m = s.length - i → i ≤ s.length → x.2 = (0, 0) → (lexS readN s (skipTo s i) x).2.1 = 0 → ∃ ts, (lexS readN s (skipTo s i) x).1 = x.1 ++ ts ∧ Chain s i ts := by
  intro m
  induction m using Nat.strongRecOn with
  | _ m ih =>
    intro i x hm hi h0 hz
    have hk := skipTo_le hi
    rcases Nat.lt_or_ge (skipTo s i) s.length with hl | hl
    · cases hgo : (readN x (tokAt s (skipTo s i)).1 (tokTx s (skipTo s i)) (skipTo s i) (tokAt s (skipTo s i)).2.2).2 with
      | true =>
        have hN := readN_go hgo
        have h1 := tok_le hk.1
        have h2 := h1.2.2 hN.1
        rw [lexS_go readN readN_no hl hgo] at hz ⊢
        rw [hN.2] at hz ⊢
        obtain ⟨ts, e1, e2⟩ := ih _ (by omega) (tokAt s (skipTo s i)).2.1 _ rfl h1.2.1 (by exact h0) hz
        exact ⟨_ :: ts, by rw [e1]; simp, Chain.cons hi hl (Prod.ext rfl (Prod.ext rfl hN.1)) e2⟩
      | false => rw [lexS_end readN hl hgo] at hz; exact absurd hz (readN_end hgo)
    · rw [lexS_stop readN (by omega)]
      exact ⟨[], by simp, .nil _⟩
theorem chain_read {s : List UInt8} (h : (readS s).2.1 = 0) : Chain s 0 (readS s).1 := by
  obtain ⟨ts, e1, e2⟩ := chain_lex _ 0 ([], 0, 0) rfl (Nat.zero_le _) rfl h
  have : (readS s).1 = ts := by simpa [readS] using e1
  rw [this]; exact e2
def Bl (R : List UInt8) : Prop := R = [] ∨ ∃ r, R = 32 :: r
theorem bl_at {p : UInt8 → Bool} {t R : List UInt8} {i : Nat} (hR : Bl R) (hp : p 32 = false) (h : i ≤ t.length) : atP p (t ++ R) i = atP p t i := by
  rcases Nat.lt_or_ge i t.length with hl | hl
  · unfold atP; rw [List.getElem?_append_left hl]
  · have : i = t.length := by omega
    subst this
    rw [atP_out (Nat.le_refl _)]
    rcases hR with rfl | ⟨r, rfl⟩
    · rw [List.append_nil]; exact atP_out (Nat.le_refl _)
    · unfold atP; rw [List.getElem?_append_right (Nat.le_refl _)]; simpa using hp
theorem cut_at {p : UInt8 → Bool} {s : List UInt8} {k e i : Nat} (he : e ≤ s.length) (h : k + i < e) : atP p ((s.drop k).take (e - k)) i = atP p s (k + i) := by
  rw [atP_take (by omega)]
  unfold atP; rw [List.getElem?_drop]
theorem cut_len {s : List UInt8} {k e : Nat} (he : e ≤ s.length) (h : k ≤ e) : ((s.drop k).take (e - k)).length = e - k := by simp; omega
theorem bl_cut {p : UInt8 → Bool} {s R : List UInt8} {k e i : Nat} (hR : Bl R) (hp : p 32 = false) (he : e ≤ s.length) (h : k + i ≤ e) : atP p ((s.drop k).take (e - k) ++ R) i = if k + i < e then atP p s (k + i) else false := by
  have hl := cut_len he (by omega : k ≤ e)
  rw [bl_at hR hp (by omega)]
  split
  · rename_i h2; exact cut_at he h2
  · exact atP_out (by omega)
theorem run_cut {p : UInt8 → Bool} {s R : List UInt8} {k e : Nat} (hR : Bl R) (hp : p 32 = false) (he : e ≤ s.length) : ∀ (m i : Nat), m = e - (k + i) → k + i ≤ e → runTo p s (k + i) ≤ e → k + runTo p ((s.drop k).take (e - k) ++ R) i = runTo p s (k + i) := by
  intro m
  induction m with
  | zero =>
    intro i hm hi h
    have hg := runTo_ge p s (k + i)
    rw [runTo_stop (by rw [bl_cut hR hp he hi, if_neg (by omega)])]; omega
  | succ m ih =>
    intro i hm hi h
    have hb := bl_cut (i := i) hR hp he hi
    rw [if_pos (by omega)] at hb
    cases ha : atP p s (k + i) with
    | true =>
      rw [runTo_step ha, runTo_step (hb.trans ha)]
      exact ih (i + 1) (by omega) (by omega) (by rw [← Nat.add_assoc, ← runTo_step ha]; exact h)
    | false => rw [runTo_stop ha, runTo_stop (hb.trans ha)]
end Go.Tok
end

section
namespace Go.Tok
theorem and_cut {p q : UInt8 → Bool} {s R : List UInt8} {k e j i : Nat} (hR : Bl R) (hp : p 32 = false) (hq : q 32 = false) (he : e ≤ s.length) (hk : k ≤ j) (h : j ≤ e) (hi : i = j - k) (hend : (atP p s j && atP q s (j + 1)) = true → j + 2 ≤ e) :
    (atP p ((s.drop k).take (e - k) ++ R) i && atP q ((s.drop k).take (e - k) ++ R) (i + 1)) = (atP p s j && atP q s (j + 1)) := by
  subst hi
  have b1 := bl_cut (k := k) (i := j - k) hR hp he (by omega)
  rw [show k + (j - k) = j by omega] at b1
  rw [b1]
  split
  · rename_i h1
    have b2 := bl_cut (k := k) (i := j - k + 1) hR hq he (by omega)
    rw [show k + (j - k + 1) = j + 1 by omega] at b2
    rw [b2]
    split
    · rfl
    · cases hc : (atP p s j && atP q s (j + 1)) with
      | true => have := hend hc; omega
      | false => simp
  · cases hc : (atP p s j && atP q s (j + 1)) with
    | true => have := hend hc; omega
    | false => simp
theorem run_cut' {p : UInt8 → Bool} {s R : List UInt8} {k e j i : Nat} (hR : Bl R) (hp : p 32 = false) (he : e ≤ s.length) (hk : k ≤ j) (h : j ≤ e) (hi : i = j - k) (hr : runTo p s j ≤ e) : runTo p ((s.drop k).take (e - k) ++ R) i = runTo p s j - k := by
  subst hi
  have := run_cut (k := k) (i := j - k) hR hp he _ rfl (by omega) (by rw [show k + (j - k) = j by omega]; exact hr)
  rw [show k + (j - k) = j by omega] at this
  omega
theorem dot_cut {s R : List UInt8} {k e j i : Nat} (hR : Bl R) (he : e ≤ s.length) (hk : k ≤ j) (h : j ≤ e) (hi : i = j - k) (hr : numDot s j ≤ e) : numDot ((s.drop k).take (e - k) ++ R) i = numDot s j - k := by
  have ha := and_cut (p := eqB 46) (q := digitB) hR (by decide) (by decide) he hk h hi (fun hc => by
    unfold numDot at hr
    rw [if_pos hc] at hr
    simp only [Bool.and_eq_true] at hc
    have h1 := runTo_step hc.2
    have h2 := runTo_ge digitB s (j + 1 + 1)
    omega)
  unfold numDot at hr ⊢
  rw [ha]
  split
  · rename_i hc
    rw [if_pos hc] at hr
    exact run_cut' hR (by decide) he (by omega) (by have := runTo_ge digitB s (j + 1); omega) (by omega) hr
  · exact hi
theorem tens_cut {s R : List UInt8} {k e j i : Nat} (hR : Bl R) (he : e ≤ s.length) (hk : k ≤ j) (h : j ≤ e) (hi : i = j - k) (hr : (numTens s j).2 = e) : numTens ((s.drop k).take (e - k) ++ R) i = ((numTens s j).1, e - k) := by
  by_cases c1 : (atP (eqB 101) s j && atP digitB s (j + 1)) = true
  · have hs : numTens s j = (runTo digitB s (j + 1) - (j + 1), runTo digitB s (j + 1)) := by unfold numTens; rw [if_pos c1]
    rw [hs] at hr ⊢
    simp only at hr ⊢
    have c1' := c1
    simp only [Bool.and_eq_true] at c1'
    have h1 := runTo_step c1'.2
    have h2 := runTo_ge digitB s (j + 1 + 1)
    have ha := and_cut (p := eqB 101) (q := digitB) hR (by decide) (by decide) he hk h hi (fun _ => by omega)
    have hrun := run_cut' (p := digitB) (i := i + 1) hR (by decide) he (by omega : k ≤ j + 1) (by omega) (by omega) (by omega)
    unfold numTens
    rw [ha, if_pos c1, hrun, hr]
    simp only [Prod.mk.injEq, and_true]; omega
  · by_cases c2 : (atP (eqB 101) s j && (atP pmB s (j + 1) && atP digitB s (j + 2))) = true
    · have hs : numTens s j = (runTo digitB s (j + 2) - (j + 2), runTo digitB s (j + 2)) := by unfold numTens; rw [if_neg c1, if_pos c2]
      rw [hs] at hr ⊢
      simp only at hr ⊢
      have c2' := c2
      simp only [Bool.and_eq_true] at c2'
      have h1 := runTo_step c2'.2.2
      have h2 := runTo_ge digitB s (j + 2 + 1)
      have ha := and_cut (p := eqB 101) (q := digitB) hR (by decide) (by decide) he hk h hi (fun hc => absurd hc c1)
      have b0 := bl_cut (p := eqB 101) (k := k) (i := i) hR (by decide) he (by omega : k + i ≤ e)
      have b1 := bl_cut (p := pmB) (k := k) (i := i + 1) hR (by decide) he (by omega : k + (i + 1) ≤ e)
      have b2 := bl_cut (p := digitB) (k := k) (i := i + 2) hR (by decide) he (by omega : k + (i + 2) ≤ e)
      rw [if_pos (by omega), show k + i = j by omega] at b0
      rw [if_pos (by omega), show k + (i + 1) = j + 1 by omega] at b1
      rw [if_pos (by omega), show k + (i + 2) = j + 2 by omega] at b2
      have hrun := run_cut' (p := digitB) (i := i + 2) hR (by decide) he (by omega : k ≤ j + 2) (by omega) (by omega) (by omega)
      unfold numTens
      rw [ha, if_neg c1, b0, b1, b2, if_pos c2, hrun, hr]
      simp only [Prod.mk.injEq, and_true]; omega
    · have hs : numTens s j = (0, j) := by unfold numTens; rw [if_neg c1, if_neg c2]
      rw [hs] at hr ⊢
      simp only at hr ⊢
      have b0 := bl_cut (p := eqB 101) (k := k) (i := i) hR (by decide) he (by omega : k + i ≤ e)
      rw [if_neg (by omega)] at b0
      unfold numTens
      rw [b0]
      simp only [Bool.false_and, Bool.false_eq_true, if_false, Prod.mk.injEq, true_and]
      omega
theorem num_cut {s R : List UInt8} {k e : Nat} (hR : Bl R) (he : e ≤ s.length) (hk : k ≤ e) (hn : numEnd s k = e) (hf : numFine s k = true) : numEnd ((s.drop k).take (e - k) ++ R) 0 = e - k ∧ numFine ((s.drop k).take (e - k) ++ R) 0 = true := by
  have h1 := runTo_le (p := digitB) (s := s) (i := k) (by omega)
  have h2 := numDot_le h1
  have h3 := numTens_le h2.1
  have g1 := runTo_ge digitB s k
  unfold numEnd at hn
  have e1 := run_cut' (p := digitB) (i := 0) (j := k) hR (by decide) he (Nat.le_refl _) hk (by omega) (by omega)
  have e2 := dot_cut (i := runTo digitB s k - k) (j := runTo digitB s k) hR he g1 (by omega) rfl (by omega)
  have e3 := tens_cut (i := numDot s (runTo digitB s k) - k) (j := numDot s (runTo digitB s k)) hR he (by omega) (by omega) rfl hn
  have hE : numEnd ((s.drop k).take (e - k) ++ R) 0 = e - k := by unfold numEnd; rw [e1, e2, e3]
  refine ⟨hE, ?_⟩
  unfold numFine at hf ⊢
  rw [hE, e1, e2, e3]
  simp only [Bool.and_eq_true] at hf
  have b := bl_cut (p := tailB) (k := k) (i := e - k) hR (by decide) he (by omega : k + (e - k) ≤ e)
  rw [if_neg (by omega)] at b
  rw [b]
  simp only [Bool.and_eq_true]
  exact ⟨hf.1, rfl⟩
theorem sign_alone {R : List UInt8} (hR : Bl R) : ∀ t ∈ signsL, signsL.find? (fun x => x.isPrefixOf (t ++ R)) = some t ∧ atP blankB (t ++ R) 0 = false ∧ cmt (t ++ R) 0 = false := by
  intro t ht
  rcases hR with rfl | ⟨r, rfl⟩
  · rw [List.append_nil]
    revert t; decide +kernel
  · simp only [signsL, List.mem_cons, List.not_mem_nil, or_false] at ht
    rcases ht with rfl | rfl | rfl | rfl | rfl | rfl | rfl | rfl | rfl | rfl | rfl | rfl | rfl | rfl | rfl | rfl | rfl | rfl | rfl | rfl | rfl | rfl <;>
      exact ⟨by simp [signsL, List.find?, List.isPrefixOf], by simp [atP, blankB], by simp [cmt, atP, eqB]⟩
end Go.Tok
end

section
namespace Go.Tok
theorem letter_blank (b : UInt8) : letterB b = true → blankB b = false ∧ eqB 47 b = false := byte_all (fun b => letterB b = true → blankB b = false ∧ eqB 47 b = false) (by decide +kernel) b
theorem digit_blank (b : UInt8) : digitB b = true → blankB b = false ∧ eqB 47 b = false := byte_all (fun b => digitB b = true → blankB b = false ∧ eqB 47 b = false) (by decide +kernel) b
theorem at_two {p q : UInt8 → Bool} {s : List UInt8} {i : Nat} (h : ∀ b, p b = true → q b = false) (ha : atP p s i = true) : atP q s i = false := by
  have hl := atP_lt ha
  rw [atP_in hl] at ha ⊢
  exact h _ ha
theorem tok_cut {s R : List UInt8} {k e kd : Nat} (hR : Bl R) (hk : k ≤ s.length) (h : tokAt s k = (kd, e, true)) :
    tokAt ((s.drop k).take (e - k) ++ R) 0 = (kd, e - k, true) ∧ atP blankB ((s.drop k).take (e - k) ++ R) 0 = false ∧ cmt ((s.drop k).take (e - k) ++ R) 0 = false := by
  have h1 := tok_le hk
  rw [h] at h1
  simp only at h1
  have hke : k < e := h1.2.2 trivial
  have he := h1.2.1
  have z : ∀ p : UInt8 → Bool, p 32 = false → atP p ((s.drop k).take (e - k) ++ R) 0 = atP p s k := fun p hp => by
    have := bl_cut (k := k) (i := 0) (p := p) hR hp he (by omega)
    rw [if_pos (by omega), Nat.add_zero] at this
    exact this
  have zn : nameB ((s.drop k).take (e - k) ++ R) 0 = nameB s k := by unfold nameB; rw [z _ (by decide), z _ (by decide)]
  unfold tokAt at h
  split at h
  · rename_i hn
    simp only [Prod.mk.injEq, and_true] at h
    obtain ⟨rfl, hr⟩ := h
    have e1 := run_cut' (p := wordB) (i := 0) (j := k) hR (by decide) he (Nat.le_refl _) (by omega) (by omega) (by omega)
    have hn2 := hn
    simp only [nameB, Bool.and_eq_true] at hn2
    refine ⟨?_, ?_, ?_⟩
    · rw [tokAt, if_pos (zn.trans hn), e1, hr]
    · have := at_two (fun b hb => (letter_blank b hb).1) ((z letterB (by decide)).trans hn2.1)
      exact this
    · rw [cmt, at_two (fun b hb => (letter_blank b hb).2) ((z letterB (by decide)).trans hn2.1)]; rfl
  · rename_i hn
    split at h
    · rename_i hd
      simp only [Prod.mk.injEq] at h
      obtain ⟨rfl, hr, hf⟩ := h
      have e1 := num_cut (k := k) hR he (by omega) hr hf
      refine ⟨?_, ?_, ?_⟩
      · rw [tokAt, if_neg (by rw [zn]; exact hn), if_pos ((z digitB (by decide)).trans hd), e1.1, e1.2]
      · exact at_two (fun b hb => (digit_blank b hb).1) ((z digitB (by decide)).trans hd)
      · rw [cmt, at_two (fun b hb => (digit_blank b hb).2) ((z digitB (by decide)).trans hd)]; rfl
    · rename_i hd
      split at h
      · simp at h
      · rename_i hs
        simp only [Prod.mk.injEq, and_true] at h
        obtain ⟨rfl, hr⟩ := h
        cases ho : signOf s k with
        | none => exact absurd (by simp [signLen, ho]) hs
        | some t =>
          have hL : signLen s k = t.length := by simp [signLen, ho]
          have hmem : t ∈ signsL := List.mem_of_find?_eq_some ho
          have hpre0 := List.find?_some ho
          have hpre := List.isPrefixOf_iff_prefix.1 hpre0
          have ht : (s.drop k).take (e - k) = t := by
            rw [show e - k = t.length by omega]
            exact (List.prefix_iff_eq_take.1 hpre).symm
          have ha := sign_alone hR t hmem
          rw [ht] at z zn ⊢
          refine ⟨?_, ha.2.1, ha.2.2⟩
          have hs2 : signLen (t ++ R) 0 = t.length := by
            unfold signLen signOf
            rw [List.drop_zero, ha.1]; rfl
          rw [tokAt, if_neg (by rw [zn]; exact hn), if_neg (by rw [z _ (by decide)]; exact hd), if_neg (by rw [hs2]; omega), hs2]
          simp only [Prod.mk.injEq, and_true, true_and]; omega
end Go.Tok
end

section
namespace Go.Tok
def Jn (ts : List Tk) : List UInt8 := ts.flatMap fun t => 32 :: t.2.1
def kt (t : Tk) : Nat × List UInt8 := (t.1, t.2.1)
def Good (t : Tk) : Prop := ∃ s k e, k ≤ s.length ∧ tokAt s k = (t.1, e, true) ∧ t.2.1 = (s.drop k).take (e - k)
theorem chain_good {s : List UInt8} : ∀ {i : Nat} {ts : List Tk}, Chain s i ts → ∀ t ∈ ts, Good t := by
  intro i ts h
  induction h with
  | nil i => intro t ht; exact (List.not_mem_nil ht).elim
  | @cons i e kd ts hi hl htk _ ih =>
    intro t ht
    rcases List.mem_cons.1 ht with rfl | ht
    · exact ⟨s, skipTo s i, e, (skipTo_le hi).1, htk, by unfold tokTx; rw [htk]⟩
    · exact ih t ht
end Go.Tok
end

section
namespace Go.Tok.B
open Go.Tok
def Bl (R : List UInt8) : Prop := R = [] ∨ ∃ c r, (c = 32 ∨ c = 10 ∨ c = 9) ∧ R = c :: r
theorem bl_at {p : UInt8 → Bool} {t R : List UInt8} {i : Nat} (hR : Bl R) (hp : p 32 = false ∧ p 10 = false ∧ p 9 = false) (h : i ≤ t.length) : atP p (t ++ R) i = atP p t i := by
  rcases Nat.lt_or_ge i t.length with hl | hl
  · unfold atP; rw [List.getElem?_append_left hl]
  · have : i = t.length := by omega
    subst this
    rw [atP_out (Nat.le_refl _)]
    rcases hR with rfl | ⟨c, r, hc, rfl⟩
    · rw [List.append_nil]; exact atP_out (Nat.le_refl _)
    · unfold atP; rw [List.getElem?_append_right (Nat.le_refl _)]; rcases hc with rfl | rfl | rfl <;> simp [hp]
theorem bl_cut {p : UInt8 → Bool} {s R : List UInt8} {k e i : Nat} (hR : Bl R) (hp : p 32 = false ∧ p 10 = false ∧ p 9 = false) (he : e ≤ s.length) (h : k + i ≤ e) : atP p ((s.drop k).take (e - k) ++ R) i = if k + i < e then atP p s (k + i) else false := by
  have hl := cut_len he (by omega : k ≤ e)
  rw [bl_at hR hp (by omega)]
  split
  · rename_i h2; exact cut_at he h2
  · exact atP_out (by omega)
theorem run_cut {p : UInt8 → Bool} {s R : List UInt8} {k e : Nat} (hR : Bl R) (hp : p 32 = false ∧ p 10 = false ∧ p 9 = false) (he : e ≤ s.length) : ∀ (m i : Nat), m = e - (k + i) → k + i ≤ e → runTo p s (k + i) ≤ e → k + runTo p ((s.drop k).take (e - k) ++ R) i = runTo p s (k + i) := by
  intro m
  induction m with
  | zero =>
    intro i hm hi h
    have hg := runTo_ge p s (k + i)
    rw [runTo_stop (by rw [bl_cut hR hp he hi, if_neg (by omega)])]; omega
  | succ m ih =>
    intro i hm hi h
    have hb := bl_cut (i := i) hR hp he hi
    rw [if_pos (by omega)] at hb
    cases ha : atP p s (k + i) with
    | true =>
      rw [runTo_step ha, runTo_step (hb.trans ha)]
      exact ih (i + 1) (by omega) (by omega) (by rw [← Nat.add_assoc, ← runTo_step ha]; exact h)
    | false => rw [runTo_stop ha, runTo_stop (hb.trans ha)]

theorem and_cut {p q : UInt8 → Bool} {s R : List UInt8} {k e j i : Nat} (hR : Bl R) (hp : p 32 = false ∧ p 10 = false ∧ p 9 = false) (hq : q 32 = false ∧ q 10 = false ∧ q 9 = false) (he : e ≤ s.length) (hk : k ≤ j) (h : j ≤ e) (hi : i = j - k) (hend : (atP p s j && atP q s (j + 1)) = true → j + 2 ≤ e) :
    (atP p ((s.drop k).take (e - k) ++ R) i && atP q ((s.drop k).take (e - k) ++ R) (i + 1)) = (atP p s j && atP q s (j + 1)) := by
  subst hi
  have b1 := bl_cut (k := k) (i := j - k) hR hp he (by omega)
  rw [show k + (j - k) = j by omega] at b1
  rw [b1]
  split
  · rename_i h1
    have b2 := bl_cut (k := k) (i := j - k + 1) hR hq he (by omega)
    rw [show k + (j - k + 1) = j + 1 by omega] at b2
    rw [b2]
    split
    · rfl
    · cases hc : (atP p s j && atP q s (j + 1)) with
      | true => have := hend hc; omega
      | false => simp
  · cases hc : (atP p s j && atP q s (j + 1)) with
    | true => have := hend hc; omega
    | false => simp
theorem run_cut' {p : UInt8 → Bool} {s R : List UInt8} {k e j i : Nat} (hR : Bl R) (hp : p 32 = false ∧ p 10 = false ∧ p 9 = false) (he : e ≤ s.length) (hk : k ≤ j) (h : j ≤ e) (hi : i = j - k) (hr : runTo p s j ≤ e) : runTo p ((s.drop k).take (e - k) ++ R) i = runTo p s j - k := by
  subst hi
  have := run_cut (k := k) (i := j - k) hR hp he _ rfl (by omega) (by rw [show k + (j - k) = j by omega]; exact hr)
  rw [show k + (j - k) = j by omega] at this
  omega
theorem dot_cut {s R : List UInt8} {k e j i : Nat} (hR : Bl R) (he : e ≤ s.length) (hk : k ≤ j) (h : j ≤ e) (hi : i = j - k) (hr : numDot s j ≤ e) : numDot ((s.drop k).take (e - k) ++ R) i = numDot s j - k := by
  have ha := and_cut (p := eqB 46) (q := digitB) hR (by decide) (by decide) he hk h hi (fun hc => by
    unfold numDot at hr
    rw [if_pos hc] at hr
    simp only [Bool.and_eq_true] at hc
    have h1 := runTo_step hc.2
    have h2 := runTo_ge digitB s (j + 1 + 1)
    omega)
  unfold numDot at hr ⊢
  rw [ha]
  split
  · rename_i hc
    rw [if_pos hc] at hr
    exact run_cut' hR (by decide) he (by omega) (by have := runTo_ge digitB s (j + 1); omega) (by omega) hr
  · exact hi
theorem tens_cut {s R : List UInt8} {k e j i : Nat} (hR : Bl R) (he : e ≤ s.length) (hk : k ≤ j) (h : j ≤ e) (hi : i = j - k) (hr : (numTens s j).2 = e) : numTens ((s.drop k).take (e - k) ++ R) i = ((numTens s j).1, e - k) := by
  by_cases c1 : (atP (eqB 101) s j && atP digitB s (j + 1)) = true
  · have hs : numTens s j = (runTo digitB s (j + 1) - (j + 1), runTo digitB s (j + 1)) := by unfold numTens; rw [if_pos c1]
    rw [hs] at hr ⊢
    simp only at hr ⊢
    have c1' := c1
    simp only [Bool.and_eq_true] at c1'
    have h1 := runTo_step c1'.2
    have h2 := runTo_ge digitB s (j + 1 + 1)
    have ha := and_cut (p := eqB 101) (q := digitB) hR (by decide) (by decide) he hk h hi (fun _ => by omega)
    have hrun := run_cut' (p := digitB) (i := i + 1) hR (by decide) he (by omega : k ≤ j + 1) (by omega) (by omega) (by omega)
    unfold numTens
    rw [ha, if_pos c1, hrun, hr]
    simp only [Prod.mk.injEq, and_true]; omega
  · by_cases c2 : (atP (eqB 101) s j && (atP pmB s (j + 1) && atP digitB s (j + 2))) = true
    · have hs : numTens s j = (runTo digitB s (j + 2) - (j + 2), runTo digitB s (j + 2)) := by unfold numTens; rw [if_neg c1, if_pos c2]
      rw [hs] at hr ⊢
      simp only at hr ⊢
      have c2' := c2
      simp only [Bool.and_eq_true] at c2'
      have h1 := runTo_step c2'.2.2
      have h2 := runTo_ge digitB s (j + 2 + 1)
      have ha := and_cut (p := eqB 101) (q := digitB) hR (by decide) (by decide) he hk h hi (fun hc => absurd hc c1)
      have b0 := bl_cut (p := eqB 101) (k := k) (i := i) hR (by decide) he (by omega : k + i ≤ e)
      have b1 := bl_cut (p := pmB) (k := k) (i := i + 1) hR (by decide) he (by omega : k + (i + 1) ≤ e)
      have b2 := bl_cut (p := digitB) (k := k) (i := i + 2) hR (by decide) he (by omega : k + (i + 2) ≤ e)
      rw [if_pos (by omega), show k + i = j by omega] at b0
      rw [if_pos (by omega), show k + (i + 1) = j + 1 by omega] at b1
      rw [if_pos (by omega), show k + (i + 2) = j + 2 by omega] at b2
      have hrun := run_cut' (p := digitB) (i := i + 2) hR (by decide) he (by omega : k ≤ j + 2) (by omega) (by omega) (by omega)
      unfold numTens
      rw [ha, if_neg c1, b0, b1, b2, if_pos c2, hrun, hr]
      simp only [Prod.mk.injEq, and_true]; omega
    · have hs : numTens s j = (0, j) := by unfold numTens; rw [if_neg c1, if_neg c2]
      rw [hs] at hr ⊢
      simp only at hr ⊢
      have b0 := bl_cut (p := eqB 101) (k := k) (i := i) hR (by decide) he (by omega : k + i ≤ e)
      rw [if_neg (by omega)] at b0
      unfold numTens
      rw [b0]
      simp only [Bool.false_and, Bool.false_eq_true, if_false, Prod.mk.injEq, true_and]
      omega
theorem num_cut {s R : List UInt8} {k e : Nat} (hR : Bl R) (he : e ≤ s.length) (hk : k ≤ e) (hn : numEnd s k = e) (hf : numFine s k = true) : numEnd ((s.drop k).take (e - k) ++ R) 0 = e - k ∧ numFine ((s.drop k).take (e - k) ++ R) 0 = true := by
  have h1 := runTo_le (p := digitB) (s := s) (i := k) (by omega)
  have h2 := numDot_le h1
  have h3 := numTens_le h2.1
  have g1 := runTo_ge digitB s k
  unfold numEnd at hn
  have e1 := run_cut' (p := digitB) (i := 0) (j := k) hR (by decide) he (Nat.le_refl _) hk (by omega) (by omega)
  have e2 := dot_cut (i := runTo digitB s k - k) (j := runTo digitB s k) hR he g1 (by omega) rfl (by omega)
  have e3 := tens_cut (i := numDot s (runTo digitB s k) - k) (j := numDot s (runTo digitB s k)) hR he (by omega) (by omega) rfl hn
  have hE : numEnd ((s.drop k).take (e - k) ++ R) 0 = e - k := by unfold numEnd; rw [e1, e2, e3]
  refine ⟨hE, ?_⟩
  unfold numFine at hf ⊢
  rw [hE, e1, e2, e3]
  simp only [Bool.and_eq_true] at hf
  have b := bl_cut (p := tailB) (k := k) (i := e - k) hR (by decide) he (by omega : k + (e - k) ≤ e)
  rw [if_neg (by omega)] at b
  rw [b]
  simp only [Bool.and_eq_true]
  exact ⟨hf.1, rfl⟩
theorem sign_alone {R : List UInt8} (hR : Bl R) : ∀ t ∈ signsL, signsL.find? (fun x => x.isPrefixOf (t ++ R)) = some t ∧ atP blankB (t ++ R) 0 = false ∧ cmt (t ++ R) 0 = false := by
  intro t ht
  rcases hR with rfl | ⟨c, r, hc, rfl⟩
  · rw [List.append_nil]
    revert t; decide +kernel
  · simp only [signsL, List.mem_cons, List.not_mem_nil, or_false] at ht
    rcases hc with rfl | rfl | rfl <;> rcases ht with rfl | rfl | rfl | rfl | rfl | rfl | rfl | rfl | rfl | rfl | rfl | rfl | rfl | rfl | rfl | rfl | rfl | rfl | rfl | rfl | rfl | rfl <;>
      exact ⟨by simp [signsL, List.find?, List.isPrefixOf], by simp [atP, blankB], by simp [cmt, atP, eqB]⟩

theorem tok_cut {s R : List UInt8} {k e kd : Nat} (hR : Bl R) (hk : k ≤ s.length) (h : tokAt s k = (kd, e, true)) :
    tokAt ((s.drop k).take (e - k) ++ R) 0 = (kd, e - k, true) ∧ atP blankB ((s.drop k).take (e - k) ++ R) 0 = false ∧ cmt ((s.drop k).take (e - k) ++ R) 0 = false := by
  have h1 := tok_le hk
  rw [h] at h1
  simp only at h1
  have hke : k < e := h1.2.2 trivial
  have he := h1.2.1
  have z : ∀ p : UInt8 → Bool, p 32 = false ∧ p 10 = false ∧ p 9 = false → atP p ((s.drop k).take (e - k) ++ R) 0 = atP p s k := fun p hp => by
    have := bl_cut (k := k) (i := 0) (p := p) hR hp he (by omega)
    rw [if_pos (by omega), Nat.add_zero] at this
    exact this
  have zn : nameB ((s.drop k).take (e - k) ++ R) 0 = nameB s k := by unfold nameB; rw [z _ (by decide), z _ (by decide)]
  unfold tokAt at h
  split at h
  · rename_i hn
    simp only [Prod.mk.injEq, and_true] at h
    obtain ⟨rfl, hr⟩ := h
    have e1 := run_cut' (p := wordB) (i := 0) (j := k) hR (by decide) he (Nat.le_refl _) (by omega) (by omega) (by omega)
    have hn2 := hn
    simp only [nameB, Bool.and_eq_true] at hn2
    refine ⟨?_, ?_, ?_⟩
    · rw [tokAt, if_pos (zn.trans hn), e1, hr]
    · have := at_two (fun b hb => (letter_blank b hb).1) ((z letterB (by decide)).trans hn2.1)
      exact this
    · rw [cmt, at_two (fun b hb => (letter_blank b hb).2) ((z letterB (by decide)).trans hn2.1)]; rfl
  · rename_i hn
    split at h
    · rename_i hd
      simp only [Prod.mk.injEq] at h
      obtain ⟨rfl, hr, hf⟩ := h
      have e1 := num_cut (k := k) hR he (by omega) hr hf
      refine ⟨?_, ?_, ?_⟩
      · rw [tokAt, if_neg (by rw [zn]; exact hn), if_pos ((z digitB (by decide)).trans hd), e1.1, e1.2]
      · exact at_two (fun b hb => (digit_blank b hb).1) ((z digitB (by decide)).trans hd)
      · rw [cmt, at_two (fun b hb => (digit_blank b hb).2) ((z digitB (by decide)).trans hd)]; rfl
    · rename_i hd
      split at h
      · simp at h
      · rename_i hs
        simp only [Prod.mk.injEq, and_true] at h
        obtain ⟨rfl, hr⟩ := h
        cases ho : signOf s k with
        | none => exact absurd (by simp [signLen, ho]) hs
        | some t =>
          have hL : signLen s k = t.length := by simp [signLen, ho]
          have hmem : t ∈ signsL := List.mem_of_find?_eq_some ho
          have hpre0 := List.find?_some ho
          have hpre := List.isPrefixOf_iff_prefix.1 hpre0
          have ht : (s.drop k).take (e - k) = t := by
            rw [show e - k = t.length by omega]
            exact (List.prefix_iff_eq_take.1 hpre).symm
          have ha := sign_alone hR t hmem
          rw [ht] at z zn ⊢
          refine ⟨?_, ha.2.1, ha.2.2⟩
          have hs2 : signLen (t ++ R) 0 = t.length := by
            unfold signLen signOf
            rw [List.drop_zero, ha.1]; rfl
          rw [tokAt, if_neg (by rw [zn]; exact hn), if_neg (by rw [z _ (by decide)]; exact hd), if_neg (by rw [hs2]; omega), hs2]
          simp only [Prod.mk.injEq, and_true, true_and]; omega

end Go.Tok.B
end

section
namespace Go.Tok.B
open Go.Tok
def bls : List (List UInt8) := [[32], [10], [9, 47, 47, 32, 120, 10], [32, 32]]
def Jb (xs : List (List UInt8 × Tk)) : List UInt8 := xs.flatMap fun x => x.1 ++ x.2.2.1
end Go.Tok.B
end

section
namespace Go.Tok.W
open Go.Tok
def Bl (R : List UInt8) : Prop := R = [] ∨ ∃ c r, (c = 32 ∨ c = 10) ∧ R = c :: r
theorem bl_at {p : UInt8 → Bool} {t R : List UInt8} {i : Nat} (hR : Bl R) (hp : p 32 = false ∧ p 10 = false) (h : i ≤ t.length) : atP p (t ++ R) i = atP p t i := by
  rcases Nat.lt_or_ge i t.length with hl | hl
  · unfold atP; rw [List.getElem?_append_left hl]
  · have : i = t.length := by omega
    subst this
    rw [atP_out (Nat.le_refl _)]
    rcases hR with rfl | ⟨c, r, hc, rfl⟩
    · rw [List.append_nil]; exact atP_out (Nat.le_refl _)
    · unfold atP; rw [List.getElem?_append_right (Nat.le_refl _)]; rcases hc with rfl | rfl <;> simp [hp]
theorem bl_cut {p : UInt8 → Bool} {s R : List UInt8} {k e i : Nat} (hR : Bl R) (hp : p 32 = false ∧ p 10 = false) (he : e ≤ s.length) (h : k + i ≤ e) : atP p ((s.drop k).take (e - k) ++ R) i = if k + i < e then atP p s (k + i) else false := by
  have hl := cut_len he (by omega : k ≤ e)
  rw [bl_at hR hp (by omega)]
  split
  · rename_i h2; exact cut_at he h2
  · exact atP_out (by omega)
theorem run_cut {p : UInt8 → Bool} {s R : List UInt8} {k e : Nat} (hR : Bl R) (hp : p 32 = false ∧ p 10 = false) (he : e ≤ s.length) : ∀ (m i : Nat), m = e - (k + i) → k + i ≤ e → runTo p s (k + i) ≤ e → k + runTo p ((s.drop k).take (e - k) ++ R) i = runTo p s (k + i) := by
  intro m
  induction m with
  | zero =>
    intro i hm hi h
    have hg := runTo_ge p s (k + i)
    rw [runTo_stop (by rw [bl_cut hR hp he hi, if_neg (by omega)])]; omega
  | succ m ih =>
    intro i hm hi h
    have hb := bl_cut (i := i) hR hp he hi
    rw [if_pos (by omega)] at hb
    cases ha : atP p s (k + i) with
    | true =>
      rw [runTo_step ha, runTo_step (hb.trans ha)]
      exact ih (i + 1) (by omega) (by omega) (by rw [← Nat.add_assoc, ← runTo_step ha]; exact h)
    | false => rw [runTo_stop ha, runTo_stop (hb.trans ha)]

theorem and_cut {p q : UInt8 → Bool} {s R : List UInt8} {k e j i : Nat} (hR : Bl R) (hp : p 32 = false ∧ p 10 = false) (hq : q 32 = false ∧ q 10 = false) (he : e ≤ s.length) (hk : k ≤ j) (h : j ≤ e) (hi : i = j - k) (hend : (atP p s j && atP q s (j + 1)) = true → j + 2 ≤ e) :
    (atP p ((s.drop k).take (e - k) ++ R) i && atP q ((s.drop k).take (e - k) ++ R) (i + 1)) = (atP p s j && atP q s (j + 1)) := by
  subst hi
  have b1 := bl_cut (k := k) (i := j - k) hR hp he (by omega)
  rw [show k + (j - k) = j by omega] at b1
  rw [b1]
  split
  · rename_i h1
    have b2 := bl_cut (k := k) (i := j - k + 1) hR hq he (by omega)
    rw [show k + (j - k + 1) = j + 1 by omega] at b2
    rw [b2]
    split
    · rfl
    · cases hc : (atP p s j && atP q s (j + 1)) with
      | true => have := hend hc; omega
      | false => simp
  · cases hc : (atP p s j && atP q s (j + 1)) with
    | true => have := hend hc; omega
    | false => simp
theorem run_cut' {p : UInt8 → Bool} {s R : List UInt8} {k e j i : Nat} (hR : Bl R) (hp : p 32 = false ∧ p 10 = false) (he : e ≤ s.length) (hk : k ≤ j) (h : j ≤ e) (hi : i = j - k) (hr : runTo p s j ≤ e) : runTo p ((s.drop k).take (e - k) ++ R) i = runTo p s j - k := by
  subst hi
  have := run_cut (k := k) (i := j - k) hR hp he _ rfl (by omega) (by rw [show k + (j - k) = j by omega]; exact hr)
  rw [show k + (j - k) = j by omega] at this
  omega
theorem dot_cut {s R : List UInt8} {k e j i : Nat} (hR : Bl R) (he : e ≤ s.length) (hk : k ≤ j) (h : j ≤ e) (hi : i = j - k) (hr : numDot s j ≤ e) : numDot ((s.drop k).take (e - k) ++ R) i = numDot s j - k := by
  have ha := and_cut (p := eqB 46) (q := digitB) hR (by decide) (by decide) he hk h hi (fun hc => by
    unfold numDot at hr
    rw [if_pos hc] at hr
    simp only [Bool.and_eq_true] at hc
    have h1 := runTo_step hc.2
    have h2 := runTo_ge digitB s (j + 1 + 1)
    omega)
  unfold numDot at hr ⊢
  rw [ha]
  split
  · rename_i hc
    rw [if_pos hc] at hr
    exact run_cut' hR (by decide) he (by omega) (by have := runTo_ge digitB s (j + 1); omega) (by omega) hr
  · exact hi
theorem tens_cut {s R : List UInt8} {k e j i : Nat} (hR : Bl R) (he : e ≤ s.length) (hk : k ≤ j) (h : j ≤ e) (hi : i = j - k) (hr : (numTens s j).2 = e) : numTens ((s.drop k).take (e - k) ++ R) i = ((numTens s j).1, e - k) := by
  by_cases c1 : (atP (eqB 101) s j && atP digitB s (j + 1)) = true
  · have hs : numTens s j = (runTo digitB s (j + 1) - (j + 1), runTo digitB s (j + 1)) := by unfold numTens; rw [if_pos c1]
    rw [hs] at hr ⊢
    simp only at hr ⊢
    have c1' := c1
    simp only [Bool.and_eq_true] at c1'
    have h1 := runTo_step c1'.2
    have h2 := runTo_ge digitB s (j + 1 + 1)
    have ha := and_cut (p := eqB 101) (q := digitB) hR (by decide) (by decide) he hk h hi (fun _ => by omega)
    have hrun := run_cut' (p := digitB) (i := i + 1) hR (by decide) he (by omega : k ≤ j + 1) (by omega) (by omega) (by omega)
    unfold numTens
    rw [ha, if_pos c1, hrun, hr]
    simp only [Prod.mk.injEq, and_true]; omega
  · by_cases c2 : (atP (eqB 101) s j && (atP pmB s (j + 1) && atP digitB s (j + 2))) = true
    · have hs : numTens s j = (runTo digitB s (j + 2) - (j + 2), runTo digitB s (j + 2)) := by unfold numTens; rw [if_neg c1, if_pos c2]
      rw [hs] at hr ⊢
      simp only at hr ⊢
      have c2' := c2
      simp only [Bool.and_eq_true] at c2'
      have h1 := runTo_step c2'.2.2
      have h2 := runTo_ge digitB s (j + 2 + 1)
      have ha := and_cut (p := eqB 101) (q := digitB) hR (by decide) (by decide) he hk h hi (fun hc => absurd hc c1)
      have b0 := bl_cut (p := eqB 101) (k := k) (i := i) hR (by decide) he (by omega : k + i ≤ e)
      have b1 := bl_cut (p := pmB) (k := k) (i := i + 1) hR (by decide) he (by omega : k + (i + 1) ≤ e)
      have b2 := bl_cut (p := digitB) (k := k) (i := i + 2) hR (by decide) he (by omega : k + (i + 2) ≤ e)
      rw [if_pos (by omega), show k + i = j by omega] at b0
      rw [if_pos (by omega), show k + (i + 1) = j + 1 by omega] at b1
      rw [if_pos (by omega), show k + (i + 2) = j + 2 by omega] at b2
      have hrun := run_cut' (p := digitB) (i := i + 2) hR (by decide) he (by omega : k ≤ j + 2) (by omega) (by omega) (by omega)
      unfold numTens
      rw [ha, if_neg c1, b0, b1, b2, if_pos c2, hrun, hr]
      simp only [Prod.mk.injEq, and_true]; omega
    · have hs : numTens s j = (0, j) := by unfold numTens; rw [if_neg c1, if_neg c2]
      rw [hs] at hr ⊢
      simp only at hr ⊢
      have b0 := bl_cut (p := eqB 101) (k := k) (i := i) hR (by decide) he (by omega : k + i ≤ e)
      rw [if_neg (by omega)] at b0
      unfold numTens
      rw [b0]
      simp only [Bool.false_and, Bool.false_eq_true, if_false, Prod.mk.injEq, true_and]
      omega
theorem num_cut {s R : List UInt8} {k e : Nat} (hR : Bl R) (he : e ≤ s.length) (hk : k ≤ e) (hn : numEnd s k = e) (hf : numFine s k = true) : numEnd ((s.drop k).take (e - k) ++ R) 0 = e - k ∧ numFine ((s.drop k).take (e - k) ++ R) 0 = true := by
  have h1 := runTo_le (p := digitB) (s := s) (i := k) (by omega)
  have h2 := numDot_le h1
  have h3 := numTens_le h2.1
  have g1 := runTo_ge digitB s k
  unfold numEnd at hn
  have e1 := run_cut' (p := digitB) (i := 0) (j := k) hR (by decide) he (Nat.le_refl _) hk (by omega) (by omega)
  have e2 := dot_cut (i := runTo digitB s k - k) (j := runTo digitB s k) hR he g1 (by omega) rfl (by omega)
  have e3 := tens_cut (i := numDot s (runTo digitB s k) - k) (j := numDot s (runTo digitB s k)) hR he (by omega) (by omega) rfl hn
  have hE : numEnd ((s.drop k).take (e - k) ++ R) 0 = e - k := by unfold numEnd; rw [e1, e2, e3]
  refine ⟨hE, ?_⟩
  unfold numFine at hf ⊢
  rw [hE, e1, e2, e3]
  simp only [Bool.and_eq_true] at hf
  have b := bl_cut (p := tailB) (k := k) (i := e - k) hR (by decide) he (by omega : k + (e - k) ≤ e)
  rw [if_neg (by omega)] at b
  rw [b]
  simp only [Bool.and_eq_true]
  exact ⟨hf.1, rfl⟩
theorem sign_alone {R : List UInt8} (hR : Bl R) : ∀ t ∈ signsL, signsL.find? (fun x => x.isPrefixOf (t ++ R)) = some t ∧ atP blankB (t ++ R) 0 = false ∧ cmt (t ++ R) 0 = false := by
  intro t ht
  rcases hR with rfl | ⟨c, r, hc, rfl⟩
  · rw [List.append_nil]
    revert t; decide +kernel
  · simp only [signsL, List.mem_cons, List.not_mem_nil, or_false] at ht
    rcases hc with rfl | rfl <;> rcases ht with rfl | rfl | rfl | rfl | rfl | rfl | rfl | rfl | rfl | rfl | rfl | rfl | rfl | rfl | rfl | rfl | rfl | rfl | rfl | rfl | rfl | rfl <;>
      exact ⟨by simp [signsL, List.find?, List.isPrefixOf], by simp [atP, blankB], by simp [cmt, atP, eqB]⟩

theorem tok_cut {s R : List UInt8} {k e kd : Nat} (hR : Bl R) (hk : k ≤ s.length) (h : tokAt s k = (kd, e, true)) :
    tokAt ((s.drop k).take (e - k) ++ R) 0 = (kd, e - k, true) ∧ atP blankB ((s.drop k).take (e - k) ++ R) 0 = false ∧ cmt ((s.drop k).take (e - k) ++ R) 0 = false := by
  have h1 := tok_le hk
  rw [h] at h1
  simp only at h1
  have hke : k < e := h1.2.2 trivial
  have he := h1.2.1
  have z : ∀ p : UInt8 → Bool, p 32 = false ∧ p 10 = false → atP p ((s.drop k).take (e - k) ++ R) 0 = atP p s k := fun p hp => by
    have := bl_cut (k := k) (i := 0) (p := p) hR hp he (by omega)
    rw [if_pos (by omega), Nat.add_zero] at this
    exact this
  have zn : nameB ((s.drop k).take (e - k) ++ R) 0 = nameB s k := by unfold nameB; rw [z _ (by decide), z _ (by decide)]
  unfold tokAt at h
  split at h
  · rename_i hn
    simp only [Prod.mk.injEq, and_true] at h
    obtain ⟨rfl, hr⟩ := h
    have e1 := run_cut' (p := wordB) (i := 0) (j := k) hR (by decide) he (Nat.le_refl _) (by omega) (by omega) (by omega)
    have hn2 := hn
    simp only [nameB, Bool.and_eq_true] at hn2
    refine ⟨?_, ?_, ?_⟩
    · rw [tokAt, if_pos (zn.trans hn), e1, hr]
    · have := at_two (fun b hb => (letter_blank b hb).1) ((z letterB (by decide)).trans hn2.1)
      exact this
    · rw [cmt, at_two (fun b hb => (letter_blank b hb).2) ((z letterB (by decide)).trans hn2.1)]; rfl
  · rename_i hn
    split at h
    · rename_i hd
      simp only [Prod.mk.injEq] at h
      obtain ⟨rfl, hr, hf⟩ := h
      have e1 := num_cut (k := k) hR he (by omega) hr hf
      refine ⟨?_, ?_, ?_⟩
      · rw [tokAt, if_neg (by rw [zn]; exact hn), if_pos ((z digitB (by decide)).trans hd), e1.1, e1.2]
      · exact at_two (fun b hb => (digit_blank b hb).1) ((z digitB (by decide)).trans hd)
      · rw [cmt, at_two (fun b hb => (digit_blank b hb).2) ((z digitB (by decide)).trans hd)]; rfl
    · rename_i hd
      split at h
      · simp at h
      · rename_i hs
        simp only [Prod.mk.injEq, and_true] at h
        obtain ⟨rfl, hr⟩ := h
        cases ho : signOf s k with
        | none => exact absurd (by simp [signLen, ho]) hs
        | some t =>
          have hL : signLen s k = t.length := by simp [signLen, ho]
          have hmem : t ∈ signsL := List.mem_of_find?_eq_some ho
          have hpre0 := List.find?_some ho
          have hpre := List.isPrefixOf_iff_prefix.1 hpre0
          have ht : (s.drop k).take (e - k) = t := by
            rw [show e - k = t.length by omega]
            exact (List.prefix_iff_eq_take.1 hpre).symm
          have ha := sign_alone hR t hmem
          rw [ht] at z zn ⊢
          refine ⟨?_, ha.2.1, ha.2.2⟩
          have hs2 : signLen (t ++ R) 0 = t.length := by
            unfold signLen signOf
            rw [List.drop_zero, ha.1]; rfl
          rw [tokAt, if_neg (by rw [zn]; exact hn), if_neg (by rw [z _ (by decide)]; exact hd), if_neg (by rw [hs2]; omega), hs2]
          simp only [Prod.mk.injEq, and_true, true_and]; omega

def Sp (xs : List (Tk × UInt8)) : List UInt8 := xs.flatMap fun t => t.1.2.1 ++ [t.2]
def isSp (c : UInt8) : Prop := c = 32 ∨ c = 10
theorem bl_Sp {c : UInt8} (hc : isSp c) (r : List UInt8) : Bl (c :: r) := .inr ⟨c, r, hc, rfl⟩
end Go.Tok.W
end

section
namespace Go.Tree
open Go.Tok Go.Tok.W
def Tk1 (s : Str) : Prop := ∃ kd, Go.Tok.Good (kd, s, 0)
theorem tk_fix {s : Str} (h : (tokAt s 0).2 = (s.length, true)) : Tk1 s :=
  ⟨(tokAt s 0).1, s, 0, s.length, Nat.zero_le _, Prod.ext rfl h, by simp⟩
theorem tk_one {k : Nat} {s : Str} (h : oneB k s = true) : Tk1 s := by
  unfold oneB at h
  simp only [Bool.and_eq_true, decide_eq_true_eq] at h
  obtain ⟨h0, h1⟩ := h
  split at h1
  · rename_i t e1
    simp only [Bool.and_eq_true, decide_eq_true_eq] at h1
    have hl : s.length ≤ 20000 := by
      rcases Nat.lt_or_ge 20000 s.length with h | h
      · rw [readP_long h] at h0; exact absurd h0 (by decide)
      · exact h
    have hS : (readS s).2.1 = 0 := by
      by_cases h2 : (readS s).2.1 = 0
      · exact h2
      · rw [readP_bad (by omega) h2] at h0; exact absurd h0 h2
    rw [readP_fine (by omega) hS] at e1
    have hc := chain_read hS
    simp only at e1
    have hg := chain_good hc t (by rw [e1]; exact .head _)
    obtain ⟨s', k', e', q1, q2, q3⟩ := hg
    exact ⟨t.1, s', k', e', q1, q2, by rw [← h1.2]; exact q3⟩
  · cases h1
theorem tk_name {s : Str} (h : nameOk s = true) : Tk1 s := by
  unfold nameOk at h
  simp only [Bool.and_eq_true] at h
  exact tk_one h.1
theorem sp_is (s : Str) : ∃ c, isSp c ∧ sp s = s ++ [c] := by
  unfold sp
  by_cases h : brk s = true
  · exact ⟨10, .inr rfl, by rw [if_pos h]⟩
  · exact ⟨32, .inl rfl, by rw [if_neg h]⟩
mutual
theorem exSame_Z : ∀ x y : Ex, exZ x = exZ y → exSame x y = true
  | .mk o a n k, .mk o2 a2 n2 k2, h => by
    simp only [exZ, Ex.mk.injEq, true_and] at h
    have h2 := exsSame_Z k k2 h.2.2
    simp only [exSame, Ex.op, Ex.nm, Ex.kids, h.1, h.2.1, h2, decide_true, Bool.and_true]
theorem exsSame_Z : ∀ l m : List Ex, exsZ l = exsZ m → exsSame l m = true
  | [], [], _ => by simp [exsSame]
  | [], y :: m, h => by simp [exsZ] at h
  | x :: l, [], h => by simp [exsZ] at h
  | x :: l, y :: m, h => by
    simp only [exsZ, List.cons.injEq] at h
    rw [exsSame]; simp [exSame_Z x y h.1, exsSame_Z l m h.2]
end
mutual
theorem exT_same : ∀ x y : Ex, exSame x y = true → exT x = exT y ∧ x.op = y.op
  | .mk o a n k, .mk o2 a2 n2 k2, h => by
    rw [exSame] at h
    simp only [Ex.op, Ex.nm, Ex.kids, Bool.and_eq_true, decide_eq_true_eq] at h
    obtain ⟨h1, h3, h⟩ := h
    obtain rfl := of_decide_eq_true h1
    obtain rfl := of_decide_eq_true h3
    have h2 := exsT_same k k2 h
    exact ⟨by rw [exT, exT, h2.1, h2.2], rfl⟩
theorem exsT_same : ∀ l m : List Ex, exsSame l m = true → exsT l = exsT m ∧ l.map Ex.op = m.map Ex.op
  | [], [], _ => ⟨rfl, rfl⟩
  | [], y :: m, h => by simp [exsSame] at h
  | x :: l, [], h => by simp [exsSame] at h
  | x :: l, y :: m, h => by
    rw [exsSame] at h
    simp only [Bool.and_eq_true] at h
    have h1 := exT_same x y h.1
    have h2 := exsT_same l m h.2
    exact ⟨by rw [exsT, exsT, h1.1, h2.1], by rw [List.map_cons, List.map_cons, h1.2, h2.2]⟩
end
theorem tk_signs : ∀ o, 6 ≤ o → o ≤ 15 → Tk1 (signs o) := by
  intro o h1 h2
  have : o = 6 ∨ o = 7 ∨ o = 8 ∨ o = 9 ∨ o = 10 ∨ o = 11 ∨ o = 12 ∨ o = 13 ∨ o = 14 ∨ o = 15 := by omega
  rcases this with rfl | rfl | rfl | rfl | rfl | rfl | rfl | rfl | rfl | rfl <;> exact tk_fix (by decide +kernel)
def Tks (l : List Str) : Prop := ∀ s ∈ l, Tk1 s
theorem tks_nil : Tks [] := fun _ h => (List.not_mem_nil h).elim
theorem tks_cons {s : Str} {l : List Str} (h : Tk1 s) (h2 : Tks l) : Tks (s :: l) := fun t ht => by
  rcases List.mem_cons.1 ht with rfl | ht
  · exact h
  · exact h2 t ht
theorem tks_append {l m : List Str} (h : Tks l) (h2 : Tks m) : Tks (l ++ m) := fun t ht => by
  rcases List.mem_append.1 ht with ht | ht
  · exact h t ht
  · exact h2 t ht
theorem tks_row : ∀ {l : List (List Str)}, (∀ x ∈ l, Tks x) → Tks (rowT l)
  | [], _ => tks_nil
  | x :: l, h => by
    rw [rowT]
    refine tks_append (h x (.head _)) fun s hs => ?_
    obtain ⟨y, hy, hs⟩ := List.mem_flatMap.1 hs
    rcases List.mem_cons.1 hs with rfl | hs
    · exact tk_fix (by decide +kernel)
    · exact h y (.tail _ hy) s hs
theorem tks_kid {o : Nat} {t : List Str} {n : Nat} (h : Tks t) : Tks (kidT o t n) := by
  unfold kidT; split
  · exact tks_append (tks_append (tks_cons (tk_fix (by decide +kernel)) tks_nil) h) (tks_cons (tk_fix (by decide +kernel)) tks_nil)
  · exact h
theorem tks_two {o : Nat} (h6 : 6 ≤ o) (h15 : o ≤ 15) (a : Int) (nm : Str) {x y : Ex} (hx : Tks (exT x)) (hy : Tks (exT y)) : Tks (exT (.mk o a nm [x, y])) := by
  rw [exT_two h6 a nm (x := x) (z := y) rfl rfl]
  exact tks_append (tks_append (tks_kid hx) (tks_cons (tk_signs o h6 h15) tks_nil)) (tks_kid hy)
theorem exT_tks : ∀ (n : Nat) (e : Ex), exW e ≤ n → exOk e = true → Tks (exT e)
  | 0, .mk op a nm ks, hn, _ => by rw [exW] at hn; omega
  | n + 1, .mk op a nm ks, hn, hok => by
    rw [exW] at hn
    rcases ok_cases hok with ⟨rfl, rfl, h⟩ | ⟨rfl, rfl, h⟩ | ⟨rfl, h, x, rfl, hx⟩ | ⟨rfl, h, hx⟩ | ⟨rfl, rfl, x, rfl, hx⟩ | ⟨ho, rfl, x, y, rfl, hx, hy⟩ | ⟨ho, rfl, x, y, rfl, hx, hy⟩
    · rw [exT_12 (.inl rfl)]; exact tks_cons (tk_one h) tks_nil
    · rw [exT_12 (.inr rfl)]; exact tks_cons (tk_name h) tks_nil
    · have h1 := exT_tks n x (by simp only [exsW] at hn; omega) hx
      rw [exT_3 rfl]
      exact tks_append (tks_append (tks_cons (tk_name h) (tks_cons (tk_fix (by decide +kernel)) tks_nil)) (tks_row (by simp only [exsT, List.mem_singleton]; rintro _ rfl; exact h1))) (tks_cons (tk_fix (by decide +kernel)) tks_nil)
    · rw [exT_4 rfl]
      refine tks_append (tks_append (tks_cons (tk_name h) (tks_cons (tk_fix (by decide +kernel)) tks_nil)) (tks_row fun t ht => ?_)) (tks_cons (tk_fix (by decide +kernel)) tks_nil)
      rw [exsT_map] at ht
      obtain ⟨x, hm, rfl⟩ := List.mem_map.1 ht
      exact exT_tks n x (by have := exsW_mem hm; omega) (hx x hm)
    · have h1 := exT_tks n x (by simp only [exsW] at hn; omega) hx
      rw [exT_5 rfl (x := x) a [] rfl]
      exact tks_append (tks_cons (tk_fix (by decide +kernel)) tks_nil) (tks_kid h1)
    · exact tks_two (by omega) (by omega) a [] (exT_tks n x (by simp only [exsW] at hn; omega) hx) (exT_tks n y (by simp only [exsW] at hn; omega) hy)
    · exact tks_two (by omega) (by omega) a [] (exT_tks n x (by simp only [exsW] at hn; omega) hx) (exT_tks n y (by simp only [exsW] at hn; omega) hy)
theorem tks_ex {e : Ex} (h : exOk e = true) : Tks (exT e) := exT_tks (exW e) e (Nat.le_refl _) h
end Go.Tree
end

section
namespace Go.Tok
end Go.Tok
namespace Go.Tok
end Go.Tok
end

section
namespace Go.Tree
open Go.Prs
mutual
theorem smSame_Z : ∀ x y : Sm, smZ x = smZ y → smSame x y = true
  | .mk o a n k b e, .mk o2 a2 n2 k2 b2 e2, h => by
    simp only [smZ, Sm.mk.injEq, true_and] at h
    have h2 := exsSame_Z k k2 h.2.2.1
    have h3 := smsSame_Z b b2 h.2.2.2.1
    have h4 := smsSame_Z e e2 h.2.2.2.2
    simp only [smSame, Sm.op, Sm.nm, Sm.kids, Sm.body, Sm.els, h.1, h.2.1, h2, h3, h4, decide_true, Bool.and_true]
theorem smsSame_Z : ∀ l m : List Sm, smsZ l = smsZ m → smsSame l m = true
  | [], [], _ => by simp [smsSame]
  | [], y :: m, h => by simp [smsZ] at h
  | x :: l, [], h => by simp [smsZ] at h
  | x :: l, y :: m, h => by
    simp only [smsZ, List.cons.injEq] at h
    rw [smsSame]; simp [smSame_Z x y h.1, smsSame_Z l m h.2]
end
theorem pair_Z {α β : Type} {q : α → α → Bool} {g : α → β} (h : ∀ x y, g x = g y → q x y = true) : ∀ l m : List α, l.map g = m.map g → pairOk q l m = true
  | [], [], _ => by simp [pairOk]
  | [], y :: m, h => by simp at h
  | x :: l, [], h => by simp at h
  | x :: l, y :: m, e => by
    simp only [List.map_cons, List.cons.injEq] at e
    rw [pairOk_cons, h x y e.1, pair_Z h l m e.2]; rfl
theorem dcSame_Z (c d : Dc) (h : dcZ c = dcZ d) : dcSame c d = true := by
  simp only [dcZ, Dc.mk.injEq, true_and] at h
  obtain ⟨h1, h2, h3, h4, h5, h6⟩ := h
  simp only [dcSame, h1, h2, exsSame_Z _ _ h3, exsSame_Z _ _ h4, exsSame_Z _ _ h5, exsSame_Z _ _ h6, decide_true, Bool.and_true]
theorem bkSame_Z (x y : Bk) (h : bkZ x = bkZ y) : bkSame x y = true := by
  simp only [bkZ, Bk.mk.injEq] at h
  obtain ⟨h1, h2, h3⟩ := h
  simp only [bkSame, h1, pair_Z dcSame_Z _ _ h2, smsSame_Z _ _ h3, decide_true, Bool.and_true]
theorem pgSame_Z (p q : List Bk) (h : p.map bkZ = q.map bkZ) : pgSame p q = true := pair_Z bkSame_Z p q h
end Go.Tree
namespace Go.Tok
open Go.Prs
theorem lex_tw {s : List UInt8} : ∀ (m i : Nat) (x : Rd), m = s.length - i → i ≤ s.length → tw (lexS readN s i x).1 + 3 * i ≤ tw x.1 + 3 * s.length := by
  intro m
  induction m using Nat.strongRecOn with
  | _ m ih =>
    intro i x hm hi
    rcases Nat.lt_or_ge i s.length with hl | hl
    · cases hgo : (readN x (tokAt s i).1 (tokTx s i) i (tokAt s i).2.2).2 with
      | true =>
        have hN := readN_go hgo
        have h1 := tok_le hi
        have h2 := h1.2.2 hN.1
        have h3 := skipTo_le h1.2.1
        rw [lexS_go readN readN_no hl hgo]
        have := ih _ (by omega) _ (readN x (tokAt s i).1 (tokTx s i) i (tokAt s i).2.2).1 rfl h3.1
        rw [hN.2] at this ⊢
        rw [tw_snoc] at this
        have hx : (tokTx s i).length = (tokAt s i).2.1 - i := by unfold tokTx; simp only [List.length_take, List.length_drop]; omega
        dsimp only at this ⊢
        rw [hx] at this
        omega
      | false =>
        rw [lexS_end readN hl hgo]
        unfold readN
        split
        · dsimp only; omega
        · split
          · dsimp only; omega
          · rename_i hb h6; unfold readN at hgo; rw [if_neg hb, if_neg h6] at hgo; cases hgo
    · rw [lexS_stop readN (by omega)]; omega
theorem readP_tw (s : List UInt8) : tw (readP s).1 ≤ 3 * s.length := by
  have h1 := skipTo_le (s := s) (Nat.zero_le _)
  have h2 := lex_tw (s := s) _ _ ([], 0, 0) rfl h1.1
  unfold readP
  split
  · simp [tw]
  · split
    · unfold readS; dsimp only at h2 ⊢; rw [show tw ([] : List Tk) = 0 from rfl] at h2; omega
    · simp [tw]
end Go.Tok
namespace Go.Prs
open Go.Tok Go.Tree
theorem bkW_noBk : ∀ b ∈ List.replicate 6 noBk, bkW b ≤ 1 := fun b hb => by
  rw [(List.mem_replicate.1 hb).2]; simp [noBk, bkW, dcsW, smsW]
theorem res_W {s : Str} {M : Nat} (h1 : 1 ≤ M) (h : tw (readP s).1 ≤ M) : ∀ b ∈ (resOf (List.replicate 6 noBk) (parseP s)).1, bkW b ≤ M := by
  by_cases hz : (readP s).2.1 = 0
  · have e1 : parseP s = andR (pProg s.length (fuel (readP s).1) 0 (List.replicate 6 noBk) (readP s).1) endR := face_go hz
    rw [e1]
    have hp := prog_W (z := s.length) h1 (fuel (readP s).1) 0 (List.replicate 6 noBk) (readP s).1 (fun b hb => Nat.le_trans (bkW_noBk b hb) h1) h
    cases hx : pProg s.length (fuel (readP s).1) 0 (List.replicate 6 noBk) (readP s).1 with
    | error e => exact fun b hb => Nat.le_trans (bkW_noBk b hb) h1
    | ok p =>
      obtain ⟨a, r⟩ := p
      cases r with
      | nil => exact hp _ hx
      | cons t r => exact fun b hb => Nat.le_trans (bkW_noBk b hb) h1
  · rw [show parseP s = .error (readP s).2 from face_bad hz]
    exact fun b hb => Nat.le_trans (bkW_noBk b hb) h1
theorem tsZ_kt : ∀ {l m : List Tk}, l.map kt = m.map kt → tsZ l = tsZ m ∧ tw l = tw m
  | [], [], _ => ⟨rfl, rfl⟩
  | [], y :: m, h => by simp at h
  | x :: l, [], h => by simp at h
  | x :: l, y :: m, h => by
    simp only [List.map_cons, List.cons.injEq, kt, Prod.mk.injEq] at h
    obtain ⟨h1, h2⟩ := tsZ_kt h.2
    refine ⟨?_, by rw [tw, tw, h.1.2, h2]⟩
    show (x.1, x.2.1, 0) :: tsZ l = (y.1, y.2.1, 0) :: tsZ m
    rw [h.1.1, h.1.2, h1]
def sepAt (us : List Nat) (i : Nat) : Str := Go.Tok.B.bls.getD (us.getD i 0 % 4) []
def xsF (us : List Nat) (T : List Tk) (i : Nat) : List (Str × Tk) := (List.range i).filterMap fun j => (T[j]?).map fun t => (sepAt us j, t)
end Go.Prs
end

section
namespace Go.Proofs.YtaniogadknakoaaGreatDoor
open Go.RowKit Go.Sx
open Go.Tok Go.Tree Go.Prs

theorem rReadL_spec (s : List UInt8) (hl : 20000 < s.length) (hs : s.length ≤ 9223372036854775807) (w : World) :
  Ret Tryz.prog 20 #[str s] w (fun v w' => ∃ W, RdV (readP s) v W ∧ New w w' W) := by
 refine enter (S := No) (l := [_]) (L := []) 84 Tryz.func20 rfl rfl rfl (St.start w No) (yA (za (v := .slice _ _ _) rfl (zA zr32 (fun t3b gt3b ut3b => yB (zq (yA (zm (v := str _) rfl (zg (fun _ => R_slen st9 rfl (by omega)) (zg (fun _ => R_gt rfl rfl) (yB ?_)))))))))); refine zD rfl (fun h2 => ?_) (fun h2 => ?_)
 ·refine yA (zg (fun _ => R_build bt32 rfl) (za (v := .slice _ _ _) rfl (zV 0 rfl z32 rfl rfl rfl rfl rfl rfl rfl (yB (ze (zt ((r_fin (.inl rfl) rfl (.tmp rfl rfl (.agg rfl rfl z32 (fun _ h => h.at_ 0 rfl) rfl .nil)) ?_)))))))); exact fun w' hw => ⟨[], by rw [readP_long (by omega)]; exact ⟨none, 0, rfl, Own.nil _ _⟩, .none (hw.fr _ (.head _))⟩
 ·exfalso; omega

theorem rReadA_spec (s : List UInt8) (hs : s.length ≤ 9223372036854775807) (w : World) : Ret Tryz.prog 20 #[str s] w fun v w' => ∃ W, RdV (readP s) v W ∧ New w w' W := by
 by_cases h : s.length ≤ 10000000
 ·exact rRead_spec s h w
 ·exact rReadL_spec s (by omega) hs w

theorem same2 {p q : List Bk} {cs ds : List Value} {N N2 : Nat → Prop} {w : World} (hp : ∀ b ∈ p, bkW b < 10000000) (hm : pgM w N p cs) (hm2 : pgM w N2 q ds) (h : pgSame p q = true) : Ret Tryz.prog 21 #[.agg cs.toArray, .agg ds.toArray] w fun v w' => v = .bool true ∧ Ext w w' := by
 have h1 := Same_spec p q cs ds (fun _ => True) w hp (TL.pg.mono hm (fun _ _ => trivial)) (TL.pg.mono hm2 (fun _ _ => trivial))
 rw [h] at h1
 exact h1

end Go.Proofs.YtaniogadknakoaaGreatDoor
end

section
namespace Go.Tree
open Go.Tok Go.Tok.W
def exHd (h : Str) : Bool := decide (h = [45]) || (decide (h = [40]) || (oneB 2 h || nameOk h))
theorem exT_hd2 : ∀ (n : Nat) (e : Ex), exW e ≤ n → exOk e = true → ∃ h t, exT e = h :: t ∧ exHd h = true
  | 0, .mk op a nm ks, hn, _ => by rw [exW] at hn; omega
  | n + 1, .mk op a nm ks, hn, hok => by
    rw [exW] at hn
    have two : ∀ (x y : Ex) (o : Nat), 6 ≤ o → ks = [x, y] → exOk x = true → ∃ h t, exT (.mk o a nm ks) = h :: t ∧ exHd h = true := by
      rintro x y o ho rfl hx
      rw [exT_two ho a nm (x := x) (z := y) rfl rfl]
      obtain ⟨h, t, h1, h2⟩ := exT_hd2 n x (by simp only [exsW] at hn; omega) hx
      unfold kidT
      by_cases hq : rank x.op < low o
      · rw [if_pos hq]; exact ⟨[40], _, by simp only [List.cons_append, List.nil_append]; rfl, by decide +kernel⟩
      · rw [if_neg hq, h1]; exact ⟨h, _, by simp only [List.cons_append]; rfl, h2⟩
    rcases ok_cases hok with ⟨rfl, _, h⟩ | ⟨rfl, _, h⟩ | ⟨rfl, h, _⟩ | ⟨rfl, h, _⟩ | ⟨rfl, _, x, rfl, _⟩ | ⟨ho, _, x, y, h1, h2, _⟩ | ⟨ho, _, x, y, h1, h2, _⟩
    · exact ⟨nm, [], exT_12 (.inl rfl) a nm ks, by unfold exHd; simp [h]⟩
    · exact ⟨nm, [], exT_12 (.inr rfl) a nm ks, by unfold exHd; simp [h]⟩
    · exact ⟨nm, _, by rw [exT_3 rfl]; simp only [List.cons_append]; rfl, by unfold exHd; simp [h]⟩
    · exact ⟨nm, _, by rw [exT_4 rfl]; simp only [List.cons_append]; rfl, by unfold exHd; simp [h]⟩
    · exact ⟨[45], _, by rw [exT_5 rfl (x := x) a nm rfl]; simp only [List.cons_append]; rfl, by decide +kernel⟩
    · exact two x y op (by omega) h1 h2
    · exact two x y op (by omega) h1 h2
def hdK (h : Str) : Nat :=
  if h = [116, 97, 114, 103, 101, 116] then 2 else if h = [102, 111, 114] then 4 else if h = [105, 102] then 5 else if h = [123] then 6
  else if h = [125] then 7 else if h = [101, 108, 115, 101] then 8 else if h = [97, 114, 114, 97, 121] then 9 else if h = [105, 110, 116] then 10
  else if h = [114, 101, 97, 108] then 11 else if h = [118, 101, 99, 116, 111, 114] then 12 else if h = [60] then 13 else if h = [91] then 14 else 0
theorem hdK_ex {h : Str} (hh : exHd h = true) : hdK h = 0 := by
  have ne : ∀ w : Str, exHd w = false → h ≠ w := fun w hw e => by rw [e, hw] at hh; cases hh
  unfold hdK
  rw [if_neg (ne _ (by decide +kernel)), if_neg (ne _ (by decide +kernel)), if_neg (ne _ (by decide +kernel)), if_neg (ne _ (by decide +kernel)), if_neg (ne _ (by decide +kernel)), if_neg (ne _ (by decide +kernel)), if_neg (ne _ (by decide +kernel)), if_neg (ne _ (by decide +kernel)), if_neg (ne _ (by decide +kernel)), if_neg (ne _ (by decide +kernel)), if_neg (ne _ (by decide +kernel)), if_neg (ne _ (by decide +kernel))]
def hk : List Str → Nat
  | [] => 99
  | h :: _ => hdK h
theorem hk_cons (h : Str) (t : List Str) : hk (h :: t) = hdK h := rfl
theorem hk_ex {e : Ex} (h : exOk e = true) (r : List Str) : hk (exT e ++ r) = 0 := by
  obtain ⟨a, t, h1, h2⟩ := exT_hd2 (exW e) e (Nat.le_refl _) h
  rw [h1]; exact hdK_ex h2
theorem hk_name {s : Str} (h : nameOk s = true) (r : List Str) : hk (s :: r) = 0 := hdK_ex (by unfold exHd; simp [h])
theorem cmp_cases {e : Ex} (h : cmpOk e = true) : ∃ op a x y, e = .mk op a [] [x, y] ∧ 10 ≤ op ∧ op ≤ 15 ∧ exOk x = true ∧ exOk y = true ∧ exT e = exT x ++ signs op :: exT y := by
  obtain ⟨op, a, nm, ks⟩ := e
  simp only [cmpOk, Ex.op, Ex.nm, Ex.kids, Bool.and_eq_true, decide_eq_true_eq] at h
  obtain ⟨h1, h2, h3, h4⟩ := h
  obtain rfl := of_decide_eq_true h2
  have h3 := of_decide_eq_true h3
  match ks, h3, h4 with
  | [x, y], _, h4 =>
    rw [exsOk_all] at h4
    simp only [List.all_cons, List.all_nil, Bool.and_true, Bool.and_eq_true] at h4
    have h5 : 10 ≤ op ∧ op ≤ 15 := by simpa [cmpOp] using h1
    refine ⟨op, a, x, y, rfl, h5.1, h5.2, h4.1, h4.2, ?_⟩
    rw [exT_two (by omega) a [] (x := x) (z := y) rfl rfl]
    have hl : low op = 0 := by unfold low; rw [if_pos h1]
    rw [hl]
    unfold kidT
    simp
theorem signs_cmp {o : Nat} (h : 10 ≤ o) (h2 : o ≤ 15) (r : List Str) : nm6 (signs o :: r) := by
  have : o = 10 ∨ o = 11 ∨ o = 12 ∨ o = 13 ∨ o = 14 ∨ o = 15 := by omega
  rcases this with rfl | rfl | rfl | rfl | rfl | rfl <;> exact nm6_close _ _ (by decide) (by decide) (by decide) (by decide) (by decide) (by decide)
theorem nm6_of {c : Str} (r : List Str) (h : (c != [91] && c != [40] && c != [42] && c != [47] && c != [43] && c != [45]) = true) : nm6 (c :: r) := by
  simp only [Bool.and_eq_true, bne_iff_ne] at h
  exact nm6_close r c h.1.1.1.1.1 h.1.1.1.1.2 h.1.1.1.2 h.1.1.2 h.1.2 h.2
theorem sm_cases {op : Nat} {a : Int} {nm : Str} {ks : List Ex} {b e : List Sm} (h : smOk (.mk op a nm ks b e) = true) :
    (op = 1 ∧ nameOk nm = true ∧ b = [] ∧ e = [] ∧ ∃ x, ks = [x] ∧ exOk x = true) ∨ (op = 1 ∧ nameOk nm = true ∧ b = [] ∧ e = [] ∧ ∃ x y, ks = [x, y] ∧ exOk x = true ∧ exOk y = true) ∨
    (op = 3 ∧ nameOk nm = true ∧ b = [] ∧ e = [] ∧ ∃ x l, ks = x :: l ∧ exOk x = true ∧ exsOk l = true) ∨
    (op = 2 ∧ nm = [] ∧ b = [] ∧ e = [] ∧ ∃ x, ks = [x] ∧ exOk x = true) ∨
    (op = 4 ∧ nameOk nm = true ∧ e = [] ∧ smsOk b = true ∧ ∃ x y, ks = [x, y] ∧ exOk x = true ∧ exOk y = true) ∨
    (op = 5 ∧ nm = [] ∧ smsOk b = true ∧ smsOk e = true ∧ ∃ x, ks = [x] ∧ cmpOk x = true) ∨
    (op = 6 ∧ nm = [] ∧ ks = [] ∧ e = [] ∧ smsOk b = true) := by
  simp only [smOk, Bool.and_eq_true, Bool.or_eq_true, decide_eq_true_eq, Bool.not_eq_true', Bool.and_eq_false_iff, decide_eq_false_iff_not] at h
  obtain ⟨⟨⟨⟨h1, h2⟩, h3⟩, h4⟩, h5, h6⟩ := h
  have nil : ∀ {l : List Sm}, ¬ 0 < l.length → l = [] := fun h => List.length_eq_zero_iff.1 (by omega)
  have one : ∀ {l : List Ex}, l.length = 1 → ∃ x, l = [x] := fun h => List.length_eq_one_iff.1 h
  have two : ∀ {l : List Ex}, l.length = 2 → ∃ x y, l = [x, y] := by
    intro l h
    match l, h with
    | [x, y], _ => exact ⟨x, y, rfl⟩
  unfold sruleOk at h1
  split at h1
  · simp only [Bool.and_eq_true, Bool.or_eq_true, decide_eq_true_eq] at h1
    have hb := nil (h3.resolve_left (by decide))
    have he := nil (h4.resolve_left (by decide))
    have h2 := h2.resolve_left (by decide)
    rcases h1.2 with h | h
    · obtain ⟨x, rfl⟩ := one h
      rw [exsOk_all] at h2
      exact .inl ⟨rfl, h1.1, hb, he, x, rfl, by simpa using h2⟩
    · obtain ⟨x, y, rfl⟩ := two h
      rw [exsOk_all] at h2
      simp only [List.all_cons, List.all_nil, Bool.and_true, Bool.and_eq_true] at h2
      exact .inr (.inl ⟨rfl, h1.1, hb, he, x, y, rfl, h2⟩)
  · simp only [Bool.and_eq_true, decide_eq_true_eq] at h1
    have hb := nil (h3.resolve_left (by decide))
    have he := nil (h4.resolve_left (by decide))
    have h2 := h2.resolve_left (by decide)
    obtain ⟨x, rfl⟩ := one h1.2
    rw [exsOk_all] at h2
    exact .inr (.inr (.inr (.inl ⟨rfl, h1.1, hb, he, x, rfl, by simpa using h2⟩)))
  · simp only [Bool.and_eq_true, decide_eq_true_eq] at h1
    have hb := nil (h3.resolve_left (by decide))
    have he := nil (h4.resolve_left (by decide))
    have h2 := h2.resolve_left (by decide)
    match ks, h1, h2 with
    | x :: l, h1, h2 =>
      rw [exsOk, Bool.and_eq_true] at h2
      exact .inr (.inr (.inl ⟨rfl, h1.1, hb, he, x, l, rfl, h2⟩))
  · simp only [Bool.and_eq_true, decide_eq_true_eq] at h1
    have he := nil (h4.resolve_left (by decide))
    have h2 := h2.resolve_left (by decide)
    obtain ⟨x, y, rfl⟩ := two h1.2
    rw [exsOk_all] at h2
    simp only [List.all_cons, List.all_nil, Bool.and_true, Bool.and_eq_true] at h2
    exact .inr (.inr (.inr (.inr (.inl ⟨rfl, h1.1, he, h5, x, y, rfl, h2⟩))))
  · simp only [Bool.and_eq_true, decide_eq_true_eq] at h1
    obtain ⟨x, rfl⟩ := one h1.2.1
    exact .inr (.inr (.inr (.inr (.inr (.inl ⟨rfl, h1.1, h5, h6, x, rfl, h1.2.2⟩)))))
  · simp only [Bool.and_eq_true, decide_eq_true_eq] at h1
    have he := nil (h4.resolve_left (by decide))
    exact .inr (.inr (.inr (.inr (.inr (.inr ⟨rfl, h1.1, List.length_eq_zero_iff.1 h1.2, he, h5⟩)))))
  · cases h1
end Go.Tree
namespace Go.Tree
open Go.Tok Go.Tok.W
def kS (op : Nat) : Nat := if op = 1 ∨ op = 3 then 0 else op
def elT (e : List Sm) : List Str := if 0 < e.length then [101, 108, 115, 101] :: [123] :: ((smsT e).flatten ++ [[125]]) else []
section
variable (a : Int) (nm : Str) (x y : Ex) (l : List Ex) (b e : List Sm) (r : List Str)
theorem smX_1a : smT (.mk 1 a nm [x] [] []) ++ r = exT (.mk 2 0 nm []) ++ [61] :: (exT x ++ [59] :: r) := by rw [smT_1b a nm [x] [] [] rfl rfl, exT_12 (.inr rfl)]; simp
theorem smX_1b : smT (.mk 1 a nm [x, y] [] []) ++ r = exT (.mk 3 0 nm [x]) ++ [61] :: (exT y ++ [59] :: r) := by rw [smT_1 a nm [x, y] [] [] rfl rfl rfl, exT_3 rfl]; simp [exsT, rowT]
theorem smX_3 : smT (.mk 3 a nm (x :: l) [] []) ++ r = exT x ++ [126] :: (exT (.mk 4 0 nm l) ++ [59] :: r) := by rw [smT_3 a nm (x :: l) [] [] rfl, exT_4 rfl]; simp
theorem smX_2 : smT (.mk 2 a nm [x] [] []) ++ r = [116, 97, 114, 103, 101, 116] :: [43, 61] :: (exT x ++ [59] :: r) := by rw [smT_2 a nm [x] [] [] rfl]; simp
theorem smX_4 : smT (.mk 4 a nm [x, y] b []) ++ r = [102, 111, 114] :: [40] :: nm :: [105, 110] :: (exT x ++ [58] :: (exT y ++ [41] :: [123] :: ((smsT b).flatten ++ [125] :: r))) := by rw [smT_4 a nm [x, y] b [] rfl rfl]; simp [bodyT]
theorem smX_5 : smT (.mk 5 a nm [x] b e) ++ r = [105, 102] :: [40] :: (exT x ++ [41] :: [123] :: ((smsT b).flatten ++ [125] :: (elT e ++ r))) := by
  rw [smT_5 a nm [x] b e rfl]; unfold elT; split <;> simp [bodyT]
theorem smX_6 : smT (.mk 6 a nm [] b []) ++ r = [123] :: ((smsT b).flatten ++ [125] :: r) := by rw [smT_6 a nm [] b []]; simp [bodyT]
end
theorem hk_sm {s : Sm} (h : smOk s = true) (r : List Str) : hk (smT s ++ r) = kS s.op := by
  obtain ⟨op, a, nm, ks, b, e⟩ := s
  rcases sm_cases h with ⟨rfl, hn, rfl, rfl, x, rfl, hx⟩ | ⟨rfl, hn, rfl, rfl, x, y, rfl, hx, hy⟩ | ⟨rfl, hn, rfl, rfl, x, l, rfl, hx, hl⟩ | ⟨rfl, rfl, rfl, rfl, x, rfl, hx⟩ | ⟨rfl, hn, rfl, hb, x, y, rfl, hx, hy⟩ | ⟨rfl, rfl, hb, he, x, rfl, hx⟩ | ⟨rfl, rfl, rfl, rfl, hb⟩
  · rw [smX_1a, exT_12 (.inr rfl)]; exact hk_name hn _
  · rw [smX_1b, exT_3 rfl]; simp only [List.cons_append]; exact hk_name hn _
  · rw [smX_3]; exact hk_ex hx _
  · rw [smX_2]; rfl
  · rw [smX_4]; rfl
  · rw [smX_5]; rfl
  · rw [smX_6]; rfl
theorem kS_lt {s : Sm} (h : smOk s = true) : kS s.op < 7 := by
  obtain ⟨op, a, nm, ks, b, e⟩ := s
  have := (sm_facts h).2.2.2.2.2.2.2.2
  unfold kS; show (if op = 1 ∨ op = 3 then 0 else op) < 7; split <;> omega
end Go.Tree
end

section
namespace Go.Tree
open Go.Tok Go.Tok.W
theorem part_cases {l : List Ex} (h : partOk l = true) : l = [] ∨ ∃ x, l = [x] ∧ exOk x = true := by
  simp only [partOk, Bool.and_eq_true, decide_eq_true_eq] at h
  match l, h with
  | [], _ => exact .inl rfl
  | [x], h => exact .inr ⟨x, rfl, by simpa [exsOk] using h.2⟩
  | x :: y :: l, h => simp only [List.length_cons] at h; omega
def bT (lo up : List Ex) : List Str := if lo.length + up.length = 0 then [] else [[60]] ++ ldT lowW lo ++ (if lo.length + up.length = 2 then [[44]] else []) ++ ldT upW up ++ [[62]]
section
variable (x y : Ex) (X : List Str)
theorem bT_00 : bT [] [] ++ X = X := by simp [bT]
theorem bT_10 : bT [x] [] ++ X = [60] :: [108, 111, 119, 101, 114] :: [61] :: (exT x ++ [62] :: X) := by simp [bT, ldT, lowW]
theorem bT_01 : bT [] [y] ++ X = [60] :: [117, 112, 112, 101, 114] :: [61] :: (exT y ++ [62] :: X) := by simp [bT, ldT, upW]
theorem bT_11 : bT [x] [y] ++ X = [60] :: [108, 111, 119, 101, 114] :: [61] :: (exT x ++ [44] :: [117, 112, 112, 101, 114] :: [61] :: (exT y ++ [62] :: X)) := by simp [bT, ldT, lowW, upW]
end
def iT (i : List Ex) (r : List Str) : List Str := ldT [[61]] i ++ [59] :: r
theorem iT_0 (r : List Str) : iT [] r = [59] :: r := by simp [iT, ldT]
theorem iT_1 (x : Ex) (r : List Str) : iT [x] r = [61] :: (exT x ++ [59] :: r) := by simp [iT, ldT]
def scT (d : Dc) (r : List Str) : List Str := bT d.lower d.upper ++ d.nm :: iT d.init r
theorem dc_cases {d : Dc} (h : dcOk d = true) : nameOk d.nm = true ∧ partOk d.lower = true ∧ partOk d.upper = true ∧ partOk d.init = true ∧
    ((d.size = [] ∧ ((d.ty = 1 ∧ ∀ r, dcT d ++ r = [105, 110, 116] :: scT d r) ∨ (d.ty = 2 ∧ ∀ r, dcT d ++ r = [114, 101, 97, 108] :: scT d r))) ∨
     (∃ x, d.size = [x] ∧ exOk x = true ∧ ((d.ty = 3 ∧ ∀ r, dcT d ++ r = [118, 101, 99, 116, 111, 114] :: (bT d.lower d.upper ++ [91] :: (exT x ++ [93] :: d.nm :: iT d.init r))) ∨
       (d.ty = 4 ∧ ∀ r, dcT d ++ r = [97, 114, 114, 97, 121] :: [91] :: (exT x ++ [93] :: [105, 110, 116] :: scT d r)) ∨
       (d.ty = 5 ∧ ∀ r, dcT d ++ r = [97, 114, 114, 97, 121] :: [91] :: (exT x ++ [93] :: [114, 101, 97, 108] :: scT d r))))) := by
  obtain ⟨ty, at_, nm, size, lower, upper, init⟩ := d
  simp only [dcOk, Bool.and_eq_true, decide_eq_true_eq, beq_iff_eq] at h
  obtain ⟨⟨⟨⟨⟨h1, h2⟩, h3⟩, h4⟩, h5⟩, h6, h7, h8, h9⟩ := h
  have hb : ∀ d : Dc, boundsT d = bT d.lower d.upper := fun _ => rfl
  refine ⟨h3, h7, h8, h9, ?_⟩
  rcases part_cases h6 with rfl | ⟨x, rfl, hx⟩
  · have h10 : ¬ 3 ≤ ty := by
      intro h; rw [decide_eq_true h] at h4; exact absurd h4 (by simp)
    refine .inl ⟨rfl, ?_⟩
    have : ty = 1 ∨ ty = 2 := by omega
    rcases this with rfl | rfl
    · exact .inl ⟨rfl, fun r => by simp [dcT, hb, tyT, scT, iT]⟩
    · exact .inr ⟨rfl, fun r => by simp [dcT, hb, tyT, scT, iT]⟩
  · have h10 : 3 ≤ ty := by
      rw [show decide (([x] : List Ex).length = 1) = true from rfl] at h4
      exact of_decide_eq_true h4.symm
    refine .inr ⟨x, rfl, hx, ?_⟩
    have : ty = 3 ∨ ty = 4 ∨ ty = 5 := by omega
    rcases this with rfl | rfl | rfl
    · exact .inl ⟨rfl, fun r => by simp [dcT, hb, tyT, sizeT, iT, exsT, rowT]⟩
    · exact .inr (.inl ⟨rfl, fun r => by simp [dcT, hb, tyT, scT, iT, sizeT, exsT, rowT]⟩)
    · exact .inr (.inr ⟨rfl, fun r => by simp [dcT, hb, tyT, scT, iT, sizeT, exsT, rowT]⟩)
theorem hk_dc {d : Dc} (h : dcOk d = true) (r : List Str) : 9 ≤ hk (dcT d ++ r) ∧ hk (dcT d ++ r) ≤ 12 := by
  obtain ⟨_, _, _, _, h⟩ := dc_cases h
  rcases h with ⟨_, ⟨_, e⟩ | ⟨_, e⟩⟩ | ⟨x, _, _, ⟨_, e⟩ | ⟨_, e⟩ | ⟨_, e⟩⟩ <;> rw [e] <;> exact ⟨by rw [hk_cons]; decide, by rw [hk_cons]; decide⟩
end Go.Tree
end

section
namespace Go.Tree
open Go.Tok Go.Tok.W
theorem hk_sms {l : List Sm} (h : smsOk l = true) (r : List Str) : hk ((smsT l).flatten ++ [125] :: r) < 9 := by
  cases l with
  | nil => show (7 : Nat) < 9; decide
  | cons s l =>
    rw [smsOk, Bool.and_eq_true] at h
    rw [smsT, List.flatten_cons, List.append_assoc, hk_sm h.1]
    have := kS_lt h.1
    omega
theorem bk_facts {i : Nat} {b : Bk} (h : bkOk i b = true) : (∀ d ∈ b.decls, dcOk d = true) ∧ smsOk b.stmts = true ∧ (b.is = false → b.decls = [] ∧ b.stmts = []) := by
  unfold bkOk headB at h
  simp only [Bool.and_eq_true, List.all_eq_true] at h
  obtain ⟨⟨⟨⟨h1, _⟩, _⟩, h4⟩, h5⟩ := h
  refine ⟨fun d hd => ?_, h4, fun hi => ?_⟩
  · have := h5 d hd
    unfold dgood at this
    rw [Bool.and_eq_true] at this
    exact this.1
  · rw [hi] at h1
    simp only [Bool.not_false, Bool.true_and, Bool.not_eq_true', decide_eq_false_iff_not] at h1
    exact ⟨List.length_eq_zero_iff.1 (by omega), List.length_eq_zero_iff.1 (by omega)⟩
theorem bkT_is {i : Nat} {b : Bk} (h : b.is = true) (r : List Str) : bkT i b ++ r = headW i ++ [123] :: (dcsT b.decls ++ ((smsT b.stmts).flatten ++ [125] :: r)) := by
  unfold bkT; rw [if_pos h]; simp
theorem bkT_no {i : Nat} {b : Bk} (h : b.is = false) (r : List Str) : bkT i b ++ r = r := by unfold bkT; rw [h]; rfl
def nhd (i : Nat) (r : List Str) : Prop := r.take 2 ≠ (headW i ++ [[123]]).take 2
theorem six {p : List Bk} (h : p.length = 6) : ∃ a b c d e f, p = [a, b, c, d, e, f] := by
  match p, h with
  | [a, b, c, d, e, f], _ => exact ⟨a, b, c, d, e, f, rfl⟩
theorem pgT_six (a b c d e f : Bk) : pgT [a, b, c, d, e, f] = bkT 0 a ++ (bkT 1 b ++ (bkT 2 c ++ (bkT 3 d ++ (bkT 4 e ++ (bkT 5 f ++ []))))) := by
  simp [pgT, pgTo, List.range_succ]
theorem pgOk_six {a b c d e f : Bk} (h : pgOk [a, b, c, d, e, f] = true) : bkOk 0 a = true ∧ bkOk 1 b = true ∧ bkOk 2 c = true ∧ bkOk 3 d = true ∧ bkOk 4 e = true ∧ bkOk 5 f = true := by
  simpa [pgOk, List.range_succ, and_assoc] using h
mutual
theorem smT_same : ∀ x y : Sm, smSame x y = true → smT x = smT y
  | .mk o a n k b e, .mk o2 a2 n2 k2 b2 e2, h => by
    rw [smSame] at h
    simp only [Sm.op, Sm.nm, Sm.kids, Sm.body, Sm.els, Bool.and_eq_true] at h
    obtain ⟨h1, h3, h4, h5, h6⟩ := h
    obtain rfl := of_decide_eq_true h1
    obtain rfl := of_decide_eq_true h3
    rw [smT, smT, (exsT_same k k2 h4).1, smsT_same b b2 h5, smsT_same e e2 h6]
theorem smsT_same : ∀ l m : List Sm, smsSame l m = true → smsT l = smsT m
  | [], [], _ => rfl
  | [], y :: m, h => by simp [smsSame] at h
  | x :: l, [], h => by simp [smsSame] at h
  | x :: l, y :: m, h => by
    rw [smsSame] at h
    simp only [Bool.and_eq_true] at h
    rw [smsT, smsT, smT_same x y h.1, smsT_same l m h.2]
end
theorem same_len {l m : List Ex} (h : exsSame l m = true) : l.length = m.length := by
  have h1 := (exsT_same l m h).1
  have h2 := congrArg List.length h1
  rwa [exsT_map, exsT_map, List.length_map, List.length_map] at h2
theorem ldT_same (pre : List Str) {l m : List Ex} (h : exsSame l m = true) : ldT pre l = ldT pre m := by
  have h1 := (exsT_same l m h).1
  rw [exsT_map, exsT_map] at h1
  unfold ldT
  rw [List.flatMap_def, List.flatMap_def]
  have h2 : ∀ l : List Ex, l.map (fun e => pre ++ exT e) = (l.map exT).map (fun t => pre ++ t) := fun l => by rw [List.map_map]; rfl
  rw [h2, h2, h1]
theorem dcT_same {c d : Dc} (h : dcSame c d = true) : dcT c = dcT d := by
  simp only [dcSame, Bool.and_eq_true] at h
  obtain ⟨h1, h2, h3, h4, h5, h6⟩ := h
  have h1 := of_decide_eq_true h1
  have h2 := of_decide_eq_true h2
  have hs : sizeT c = sizeT d := by unfold sizeT; rw [(exsT_same _ _ h3).1]
  have hb : boundsT c = boundsT d := by unfold boundsT; rw [same_len h4, same_len h5, ldT_same _ h4, ldT_same _ h5]
  unfold dcT
  rw [hs, hb, h1, h2, ldT_same _ h6]
theorem dcsT_same : ∀ {l m : List Dc}, pairOk dcSame l m = true → dcsT l = dcsT m
  | [], [], _ => rfl
  | [], y :: m, h => by simp [pairOk] at h
  | x :: l, [], h => by simp [pairOk] at h
  | x :: l, y :: m, h => by
    rw [pairOk_cons, Bool.and_eq_true] at h
    have := dcsT_same h.2
    unfold dcsT at *
    rw [List.flatMap_cons, List.flatMap_cons, dcT_same h.1, this]
theorem bkT_same {i : Nat} {b c : Bk} (h : bkSame b c = true) : bkT i b = bkT i c := by
  simp only [bkSame, Bool.and_eq_true] at h
  obtain ⟨h1, h2, h3⟩ := h
  have h1 := of_decide_eq_true h1
  unfold bkT
  rw [h1, dcsT_same h2, smsT_same _ _ h3]
theorem pgT_same {p q : List Bk} (lp : p.length = 6) (lq : q.length = 6) (h : pgSame p q = true) : pgT p = pgT q := by
  obtain ⟨a, b, c, d, e, f, rfl⟩ := six lp
  obtain ⟨a', b', c', d', e', f', rfl⟩ := six lq
  simp only [pgSame, pairOk_cons, Bool.and_eq_true] at h
  obtain ⟨h0, h1, h2, h3, h4, h5, _⟩ := h
  rw [pgT_six, pgT_six, bkT_same h0, bkT_same h1, bkT_same h2, bkT_same h3, bkT_same h4, bkT_same h5]
theorem tks_flat {l : List (List Str)} (h : ∀ t ∈ l, Tks t) : Tks l.flatten := fun s hs => by
  obtain ⟨t, ht, hs⟩ := List.mem_flatten.1 hs
  exact h t ht s hs
theorem tks_one {s : Str} (h : Tk1 s) : Tks [s] := tks_cons h tks_nil
theorem tk_c {s : Str} (h : (tokAt s 0).2 = (s.length, true)) : Tks [s] := tks_one (tk_fix h)
theorem tks_body {b : List Sm} (h : ∀ s ∈ b, Tks (smT s)) : Tks (bodyT (smsT b)) := by
  unfold bodyT
  refine tks_append (tks_append (tk_c (by decide +kernel)) (tks_flat fun t ht => ?_)) (tk_c (by decide +kernel))
  rw [smsT_map] at ht
  obtain ⟨s, hs, rfl⟩ := List.mem_map.1 ht
  exact h s hs
theorem tks_exs {l : List Ex} (h : exsOk l = true) : ∀ t ∈ exsT l, Tks t := fun t ht => by
  rw [exsT_map] at ht
  obtain ⟨x, hx, rfl⟩ := List.mem_map.1 ht
  rw [exsOk_all, List.all_eq_true] at h
  exact tks_ex (h x hx)
theorem tks_cmp {e : Ex} (h : cmpOk e = true) : Tks (exT e) := by
  obtain ⟨op, a, x, y, rfl, h1, h2, hx, hy, ht⟩ := cmp_cases h
  rw [ht]
  exact tks_append (tks_ex hx) (tks_cons (tk_signs op (by omega) h2) (tks_ex hy))
theorem smT_tks : ∀ (n : Nat) (s : Sm), smW s ≤ n → smOk s = true → Tks (smT s)
  | 0, .mk op a nm ks b e, hn, _ => by rw [smW] at hn; omega
  | n + 1, .mk op a nm ks b e, hn, hok => by
    rw [smW] at hn
    have body : ∀ {b : List Sm}, smsW b ≤ n → smsOk b = true → Tks (bodyT (smsT b)) := fun {b} hb hok => tks_body fun s hs => smT_tks n s (by have := smsW_mem hs; omega) (by rw [smsOk_all, List.all_eq_true] at hok; exact hok s hs)
    rcases sm_cases hok with ⟨rfl, hn1, rfl, rfl, x, rfl, hx⟩ | ⟨rfl, hn1, rfl, rfl, x, y, rfl, hx, hy⟩ | ⟨rfl, hn1, rfl, rfl, x, l, rfl, hx, hl⟩ | ⟨rfl, rfl, rfl, rfl, x, rfl, hx⟩ | ⟨rfl, hn1, rfl, hb, x, y, rfl, hx, hy⟩ | ⟨rfl, rfl, hb, he, x, rfl, hx⟩ | ⟨rfl, rfl, rfl, rfl, hb⟩
    · rw [smT_1b a nm [x] [] [] rfl rfl]
      exact tks_append (tks_append (tks_append (tks_one (tk_name hn1)) (tk_c (by decide +kernel))) (tks_ex hx)) (tk_c (by decide +kernel))
    · rw [smT_1 a nm [x, y] [] [] rfl rfl rfl]
      exact tks_append (tks_append (tks_append (tks_append (tks_one (tk_name hn1)) (tks_append (tks_append (tk_c (by decide +kernel)) (tks_ex hx)) (tk_c (by decide +kernel)))) (tk_c (by decide +kernel))) (tks_ex hy)) (tk_c (by decide +kernel))
    · rw [smT_3 a nm (x :: l) [] [] rfl]
      exact tks_append (tks_append (tks_append (tks_ex hx) (tks_cons (tk_fix (by decide +kernel)) (tks_cons (tk_name hn1) (tk_c (by decide +kernel))))) (tks_row (tks_exs hl))) (tks_cons (tk_fix (by decide +kernel)) (tk_c (by decide +kernel)))
    · rw [smT_2 a [] [x] [] [] rfl]
      exact tks_append (tks_append (tks_cons (tk_fix (by decide +kernel)) (tk_c (by decide +kernel))) (tks_ex hx)) (tk_c (by decide +kernel))
    · rw [smT_4 a nm [x, y] b [] rfl rfl]
      exact tks_append (tks_append (tks_append (tks_append (tks_append (tks_cons (tk_fix (by decide +kernel)) (tks_cons (tk_fix (by decide +kernel)) (tks_cons (tk_name hn1) (tk_c (by decide +kernel))))) (tks_ex hx)) (tk_c (by decide +kernel))) (tks_ex hy)) (tk_c (by decide +kernel))) (body (by omega) hb)
    · rw [smT_5 a [] [x] b e rfl]
      refine tks_append (tks_append (tks_append (tks_append (tks_cons (tk_fix (by decide +kernel)) (tk_c (by decide +kernel))) (tks_cmp hx)) (tk_c (by decide +kernel))) (body (by omega) hb)) ?_
      split
      · exact tks_append (tk_c (by decide +kernel)) (body (by omega) he)
      · exact tks_nil
    · rw [smT_6 a [] [] b []]
      exact body (by omega) hb
theorem ldT_tks {pre : List Str} (hp : Tks pre) {l : List Ex} (h : partOk l = true) : Tks (ldT pre l) := by
  rcases part_cases h with rfl | ⟨x, rfl, hx⟩
  · exact tks_nil
  · have : ldT pre [x] = pre ++ exT x := by simp [ldT]
    rw [this]; exact tks_append hp (tks_ex hx)
theorem dcT_tks {d : Dc} (h : dcOk d = true) : Tks (dcT d) := by
  have h0 := h
  simp only [dcOk, Bool.and_eq_true] at h0
  obtain ⟨⟨⟨⟨⟨h1, h2⟩, h3⟩, _⟩, _⟩, h6, h7, h8, h9⟩ := h0
  have h1 := of_decide_eq_true h1
  have h2 := of_decide_eq_true h2
  have hs : Tks (sizeT d) := tks_append (tks_append (tk_c (by decide +kernel)) (tks_row (tks_exs (by simp only [partOk, Bool.and_eq_true] at h6; exact h6.2)))) (tk_c (by decide +kernel))
  have hb : Tks (boundsT d) := by
    unfold boundsT
    split
    · exact tks_nil
    · refine tks_append (tks_append (tks_append (tks_append (tk_c (by decide +kernel)) (ldT_tks (tks_cons (tk_fix (by decide +kernel)) (tk_c (by decide +kernel))) h7)) ?_) (ldT_tks (tks_cons (tk_fix (by decide +kernel)) (tk_c (by decide +kernel))) h8)) (tk_c (by decide +kernel))
      split
      · exact tk_c (by decide +kernel)
      · exact tks_nil
  have ht : Tks [tyT d.ty] := by
    have : d.ty = 1 ∨ d.ty = 2 ∨ d.ty = 3 ∨ d.ty = 4 ∨ d.ty = 5 := by omega
    rcases this with e | e | e | e | e <;> rw [e] <;> exact tk_c (by decide +kernel)
  unfold dcT
  refine tks_append (tks_append (tks_append (tks_append (tks_append (tks_append ?_ ht) hb) ?_) (tks_one (tk_name h3))) (ldT_tks (tk_c (by decide +kernel)) h9)) (tk_c (by decide +kernel))
  · split
    · exact tks_append (tk_c (by decide +kernel)) hs
    · exact tks_nil
  · split
    · exact hs
    · exact tks_nil
theorem headW_tks {i : Nat} (h : i < 6) : Tks (headW i) := by
  have : i = 0 ∨ i = 1 ∨ i = 2 ∨ i = 3 ∨ i = 4 ∨ i = 5 := by omega
  rcases this with rfl | rfl | rfl | rfl | rfl | rfl <;> first | exact tk_c (by decide +kernel) | exact tks_cons (tk_fix (by decide +kernel)) (tk_c (by decide +kernel))
theorem bkT_tks {i : Nat} {b : Bk} (hi : i < 6) (h : bkOk i b = true) : Tks (bkT i b) := by
  have f := bk_facts h
  unfold bkT
  split
  · refine tks_append (tks_append (tks_append (tks_append (headW_tks hi) (tk_c (by decide +kernel))) ?_) (tks_flat ?_)) (tk_c (by decide +kernel))
    · intro s hs
      obtain ⟨d, hd, hs⟩ := List.mem_flatMap.1 hs
      exact dcT_tks (f.1 d hd) s hs
    · intro t ht
      rw [smsT_map] at ht
      obtain ⟨s, hs, rfl⟩ := List.mem_map.1 ht
      have := f.2.1
      rw [smsOk_all, List.all_eq_true] at this
      exact smT_tks _ s (Nat.le_refl _) (this s hs)
  · exact tks_nil
theorem pgT_tks {p : List Bk} (lp : p.length = 6) (h : pgOk p = true) : Tks (pgT p) := by
  obtain ⟨a, b, c, d, e, f, rfl⟩ := six lp
  obtain ⟨ha, hb, hc, hd, he, hf⟩ := pgOk_six h
  rw [pgT_six]
  exact tks_append (bkT_tks (by decide) ha) (tks_append (bkT_tks (by decide) hb) (tks_append (bkT_tks (by decide) hc) (tks_append (bkT_tks (by decide) hd) (tks_append (bkT_tks (by decide) he) (tks_append (bkT_tks (by decide) hf) tks_nil)))))
def moveS (at_ : Int) : Sm → Sm
  | .mk o _ n k b e => .mk o at_ n k b e
def moveB (at_ : Int) (b : Bk) : Bk := { b with stmts := b.stmts.map (moveS at_) }
end Go.Tree
end
