/- Layer 13, ParseReads. Part 13 of 16. -/
import Derived.Test.YtaniogadknakoaaGreatDoorR12
set_option maxRecDepth 100000
set_option maxHeartbeats 16000000
section
namespace Go.Prs
open Go.Tok Go.Tree
def S0 (k o : Nat) : R3 := ⟨k, o, (0, 0)⟩
section
variable {T : List Tk} {z k o : Nat} {x y : Str} {s : R3}
theorem badR_S0 : badR (S0 k o) = false := rfl
theorem bad_of (h : s.f.1 ≠ 0) : badR s = true := decide_eq_true h
theorem isR_S0 : isR T (S0 k o) x = isW x (T.drop k) := by unfold isR; rw [badR_S0]; rfl
theorem isNameR_S0 : isNameR T (S0 k o) = named (T.drop k) := by unfold isNameR; rw [badR_S0]; rfl
theorem isNumR_S0 : isNumR T z (S0 k o) = decide ((nowT z (T.drop k)).1 = 2) := by unfold isNumR; rw [badR_S0]; rfl
theorem isR_bad (h : badR s = true) : isR T s x = false := by unfold isR; rw [h]; rfl
theorem isNameR_bad (h : badR s = true) : isNameR T s = false := by unfold isNameR; rw [h]; rfl
theorem failR_bad {e : Nat} (h : badR s = true) : failR T z s e = s := if_pos h
theorem wantR_bad (h : badR s = true) : wantR T z s x = s := by unfold wantR; rw [isR_bad h, if_neg Bool.false_ne_true, failR_bad h]
theorem nameR_bad (h : badR s = true) : nameR T z s = ([], s) := by unfold nameR; rw [isNameR_bad h, if_neg Bool.false_ne_true, failR_bad h]
theorem opC_bad {i : Nat} (h : badR s = true) : opC T s i = 0 := if_pos h
theorem cmpR_bad (h : badR s = true) : cmpR T z s = s := by unfold cmpR; rw [opC_bad h, if_pos rfl, failR_bad h]
theorem endS_bad (h : badR s = true) : endS T z s = s := by unfold endS; rw [h]; rfl
theorem wrapN {m : Nat} (h : m ≤ 1000) : IntKind.i64.wrap (m : Int) = m := by rw [IntKind.wrap_i64]; omega
theorem incR_S0 (h : o ≤ 64) : incR (S0 k o) = S0 k (o + 1) := by
  unfold incR S0
  have := wrapN (m := o + 1) (by omega)
  rw [show ((o : Nat) : Int) + 1 = ((o + 1 : Nat) : Int) from rfl, this]
theorem decR_S0 (h : o ≤ 64) : decR (S0 k (o + 1)) = S0 k o := by
  unfold decR S0
  have := wrapN (m := o) (by omega)
  rw [show ((o + 1 : Nat) : Int) - 1 = ((o : Nat) : Int) by omega, this]
theorem moreR_S0 (h : o < 64) : moreR T z (S0 k o) = S0 k (o + 1) := by
  unfold moreR
  rw [if_neg (show ¬ (S0 k o).o = 64 from fun h2 => by have : (o : Int) = 64 := h2; omega), incR_S0 (by omega)]
theorem failR_S0 {e : Nat} : (failR T z (S0 k o) e).f = (e, place z (T.drop k)) := rfl
theorem wantR_no (h : isW x (T.drop k) = false) : (wantR T z (S0 k o) x).f = (130, place z (T.drop k)) := by
  unfold wantR; rw [isR_S0, h, if_neg Bool.false_ne_true]; rfl
theorem wantR_yes (h : isW x (T.drop k) = true) (h1 : openB x = false) (h2 : closeB x = false) : wantR T z (S0 k o) x = S0 (k + 1) o := by
  unfold wantR; rw [isR_S0, h, if_pos rfl, h1, h2]; rfl
theorem wantR_open (h : isW x (T.drop k) = true) (h1 : openB x = true) (h2 : closeB x = false) (ho : o < 64) : wantR T z (S0 k o) x = S0 (k + 1) (o + 1) := by
  unfold wantR; rw [isR_S0, h, if_pos rfl, h1, h2, if_neg Bool.false_ne_true, if_pos rfl, moreR_S0 ho]; rfl
theorem wantR_deep (h : isW x (T.drop k) = true) (h1 : openB x = true) (h2 : closeB x = false) : (wantR T z (S0 k 64) x).f = (131, place z (T.drop k)) := by
  unfold wantR; rw [isR_S0, h, if_pos rfl, h1, h2, if_neg Bool.false_ne_true, if_pos rfl]; rfl
theorem wantR_close (h : isW x (T.drop k) = true) (h1 : openB x = false) (h2 : closeB x = true) (ho : o ≤ 64) : wantR T z (S0 k (o + 1)) x = S0 (k + 1) o := by
  unfold wantR; rw [isR_S0, h, if_pos rfl, h1, h2, if_pos rfl, if_neg Bool.false_ne_true, decR_S0 ho]; rfl
theorem nameR_no (h : named (T.drop k) = false) : (nameR T z (S0 k o)).2.f = (130, place z (T.drop k)) := by
  unfold nameR; rw [isNameR_S0, h, if_neg Bool.false_ne_true]; rfl
theorem nameR_yes (h : named (T.drop k) = true) : nameR T z (S0 k o) = (txt (T.drop k), S0 (k + 1) o) := by
  unfold nameR; rw [isNameR_S0, h, if_pos rfl]; rfl
end
def Sim {α : Type} (T : List Tk) (o : Nat) (X : Rs α) (Y : Option (α × R3)) : Prop :=
  match X with
  | .ok (a, r) => ∃ k, r = T.drop k ∧ Y = some (a, S0 k o)
  | .error fl => fl.1 ≠ 0 → ∃ x s, Y = some (x, s) ∧ s.f = fl
def Bd {α : Type} (f : Fl) (Y : Option (α × R3)) : Prop := ∃ x s, Y = some (x, s) ∧ s.f = f
section
variable {α β : Type} {T : List Tk} {z k o o' : Nat} {x : Str} {s : R3} {f : Fl}
theorem Sim.ret {a : α} : Sim T o (.ok (a, T.drop k)) (some (a, S0 k o)) := ⟨k, rfl, rfl⟩
theorem Sim.bd {Y : Option (α × R3)} (h : Bd f Y) : Sim (α := α) T o (.error f) Y := fun _ => h
theorem Bd.ret {a : α} (h : s.f = f) : Bd f (some (a, s)) := ⟨a, s, rfl, h⟩
theorem Bd.bind {Y : Option (α × R3)} {g : α × R3 → Option (β × R3)} (h : Bd f Y) (hg : ∀ a s, s.f = f → Bd f (g (a, s))) : Bd f (Y.bind g) := by
  obtain ⟨a, s, rfl, h2⟩ := h
  exact hg a s h2
theorem Sim.and {X : Rs α} {Y : Option (α × R3)} {F : α → List Tk → Rs β} {g : α × R3 → Option (β × R3)} (h : Sim T o X Y) (hg : ∀ a k, X = .ok (a, T.drop k) → Sim T o' (F a (T.drop k)) (g (a, S0 k o)))
    (hb : ∀ f, f.1 ≠ 0 → ∀ a s, s.f = f → Bd f (g (a, s))) : Sim T o' (andR X F) (Y.bind g) := by
  cases X with
  | ok p =>
    obtain ⟨a, r⟩ := p
    obtain ⟨k, rfl, rfl⟩ := h
    exact hg a k rfl
  | error e =>
    intro he
    obtain ⟨a, s, rfl, h2⟩ := h he
    exact hb e he a s h2
theorem Sim.want {F : List Tk → Rs β} {g : R3 → Option (β × R3)} (h1 : openB x = false) (h2 : closeB x = false) (hg : isW x (T.drop k) = true → Sim T o' (F (T.drop (k + 1))) (g (S0 (k + 1) o))) (hb : ∀ f, f.1 ≠ 0 → ∀ s, s.f = f → Bd f (g s)) : Sim T o' (want z x (T.drop k) F) (g (wantR T z (S0 k o) x)) := by
  cases hi : isW x (T.drop k) with
  | true => rw [want_yes hi, wantR_yes hi h1 h2, List.tail_drop]; exact hg hi
  | false => rw [want_no hi]; exact Sim.bd (hb _ (show (130 : Nat) ≠ 0 by decide) _ (wantR_no hi))
theorem Sim.close {F : List Tk → Rs β} {g : R3 → Option (β × R3)} (ho : o ≤ 64) (h1 : openB x = false) (h2 : closeB x = true) (hg : Sim T o' (F (T.drop (k + 1))) (g (S0 (k + 1) o))) (hb : ∀ f, f.1 ≠ 0 → ∀ s, s.f = f → Bd f (g s)) : Sim T o' (Go.Prs.want z x (T.drop k) F) (g (wantR T z (S0 k (o + 1)) x)) := by
  cases hi : isW x (T.drop k) with
  | true => rw [want_yes hi, wantR_close hi h1 h2 ho, List.tail_drop]; exact hg
  | false => rw [want_no hi]; exact Sim.bd (hb _ (show (130 : Nat) ≠ 0 by decide) _ (wantR_no hi))
theorem Sim.opn {F : List Tk → Rs β} {g : R3 → Option (β × R3)} (ho : o ≤ 64) (h1 : openB x = true) (h2 : closeB x = false) (hg : o < 64 → Sim T o' (F (T.drop (k + 1))) (g (S0 (k + 1) (o + 1)))) (hb : ∀ f, f.1 ≠ 0 → ∀ s, s.f = f → Bd f (g s)) : Sim T o' (opn z o x (T.drop k) F) (g (wantR T z (S0 k o) x)) := by
  cases hi : isW x (T.drop k) with
  | true =>
    by_cases hl : o < 64
    · rw [opn_yes hi hl, wantR_open hi h1 h2 hl, List.tail_drop]; exact hg hl
    · rw [opn_deep hi hl]
      obtain rfl : o = 64 := by omega
      exact Sim.bd (hb _ (show (131 : Nat) ≠ 0 by decide) _ (wantR_deep hi h1 h2))
  | false => rw [opn_no hi]; exact Sim.bd (hb _ (show (130 : Nat) ≠ 0 by decide) _ (wantR_no hi))
theorem Sim.name {F : Str → List Tk → Rs β} {g : Str × R3 → Option (β × R3)} (hg : named (T.drop k) = true → Sim T o' (F (txt (T.drop k)) (T.drop (k + 1))) (g (txt (T.drop k), S0 (k + 1) o))) (hb : ∀ f, f.1 ≠ 0 → ∀ a s, s.f = f → Bd f (g (a, s))) : Sim T o' (andR (nameX z (T.drop k)) F) (g (nameR T z (S0 k o))) := by
  cases hi : named (T.drop k) with
  | true => rw [nameX, if_pos hi, nameR_yes hi, List.tail_drop]; exact hg hi
  | false => rw [nameX, if_neg (nf hi)]; exact Sim.bd (hb _ (show (130 : Nat) ≠ 0 by decide) _ _ (nameR_no hi))
end
section
variable {T : List Tk} {z : Nat} {s : R3}
theorem bSign {n : Nat} (h : badR s = true) : rSign T z (n + 1) s = some (noEx, s) := by rw [rSign_eq, if_pos h]
theorem bLev3 {n : Nat} (h : badR s = true) : rLev T z (n + 2) 3 s = some (noEx, s) := by rw [rLev_eq, if_pos rfl, bSign h]
theorem bLevL {n lev : Nat} {e : Ex} (h : badR s = true) : rLevL T z (n + 1) lev e s = some (e, s) := by rw [rLevL_eq, if_pos h]
theorem bLev2 {n : Nat} (h : badR s = true) : rLev T z (n + 3) 2 s = some (noEx, s) := by rw [rLev_eq, if_neg (by decide), bLev3 h]; exact bLevL h
theorem bLev1 {n : Nat} (h : badR s = true) : rLev T z (n + 4) 1 s = some (noEx, s) := by rw [rLev_eq, if_neg (by decide), bLev2 h]; exact bLevL h
theorem bSum {n : Nat} (h : badR s = true) (hn : 5 ≤ n) : rSum T z n s = some (noEx, s) := by
  obtain ⟨m, rfl⟩ : ∃ m, n = m + 5 := ⟨n - 5, by omega⟩
  rw [rSum_eq, bLev1 h]
theorem bSumsL {n : Nat} {l : List Ex} (h : badR s = true) (hn : 1 ≤ n) : rSumsL T z n l s = some (l, s) := by
  obtain ⟨m, rfl⟩ : ∃ m, n = m + 1 := ⟨n - 1, by omega⟩
  rw [rSumsL_eq, isR_bad h, if_neg Bool.false_ne_true]
theorem bSums {n : Nat} (h : badR s = true) (hn : 6 ≤ n) : rSums T z n s = some ([noEx], s) := by
  obtain ⟨m, rfl⟩ : ∃ m, n = m + 1 := ⟨n - 1, by omega⟩
  rw [rSums_eq, isR_bad h, if_neg Bool.false_ne_true, bSum h (by omega)]
  exact bSumsL h (by omega)
theorem bad_f {f : Fl} (hf : f.1 ≠ 0) (h : s.f = f) : badR s = true := bad_of (by rw [h]; exact hf)
end
structure SimE (T : List Tk) (z n : Nat) : Prop where
  sum : ∀ k o m, o ≤ 64 → 4 * n + 16 ≤ m → Sim T o (pSum z n (T.drop k) o) (rSum T z m (S0 k o))
  prod : ∀ k o m, o ≤ 64 → 4 * n + 15 ≤ m → Sim T o (pProd z n (T.drop k) o) (rLev T z m 2 (S0 k o))
  sign : ∀ k o m, o ≤ 64 → 4 * n + 14 ≤ m → Sim T o (pSign z n (T.drop k) o) (rSign T z m (S0 k o))
  sumL : ∀ e k o m, o ≤ 64 → 4 * n + 16 ≤ m → Sim T o (pSumL z n e (T.drop k) o) (rLevL T z m 1 e (S0 k o))
  prodL : ∀ e k o m, o ≤ 64 → 4 * n + 16 ≤ m → Sim T o (pProdL z n e (T.drop k) o) (rLevL T z m 2 e (S0 k o))
  sums : ∀ k o m, o ≤ 64 → 4 * n + 16 ≤ m → Sim T o (pSums z n (T.drop k) o) (rSums T z m (S0 k o))
  sumsL : ∀ l k o m, o ≤ 64 → 4 * n + 16 ≤ m → Sim T o (pSumsL z n l (T.drop k) o) (rSumsL T z m l (S0 k o))
theorem Sim.zero {α : Type} {T : List Tk} {o q : Nat} {Y : Option (α × R3)} : Sim T o (.error (0, q)) Y := fun h => absurd rfl h
section
variable {T : List Tk} {z n : Nat}
theorem sumL_sim (ih : SimE T z n) {lev : Nat} {x y : Str} {a b : Nat} (hx : openB x = false ∧ closeB x = false) (hy : openB y = false ∧ closeB y = false) (ha : a ≠ 0) (hb0 : b ≠ 0) (hL : ∀ s, opL T z lev s = opR T z s x y a b)
    (pK : List Tk → Nat → Rs Ex) (_ : Nat → R3 → Option (Ex × R3)) (pL : Nat → Ex → List Tk → Nat → Rs Ex)
    (hK : ∀ k o m, o ≤ 64 → 4 * n + 15 ≤ m → Sim T o (pK (T.drop k) o) (rLev T z m (lev + 1) (S0 k o))) (_ : ∀ s m, badR s = true → 8 ≤ m → rLev T z m (lev + 1) s = some (noEx, s))
    (hLL : ∀ e k o m, o ≤ 64 → 4 * n + 16 ≤ m → Sim T o (pL n e (T.drop k) o) (rLevL T z m lev e (S0 k o)))
    (hp : ∀ e ts o, pL (n + 1) e ts o = if isW x ts = true then andR (pK ts.tail o) fun k r => pL n (pair a e k) r o else if isW y ts = true then andR (pK ts.tail o) fun k r => pL n (pair b e k) r o else .ok (e, ts))
    (e : Ex) (k o m : Nat) (ho : o ≤ 64) (hm : 4 * (n + 1) + 16 ≤ m) : Sim T o (pL (n + 1) e (T.drop k) o) (rLevL T z m lev e (S0 k o)) := by
  obtain ⟨m, rfl⟩ : ∃ q, m = q + 1 := ⟨m - 1, by omega⟩
  rw [rLevL_eq, badR_S0, if_neg Bool.false_ne_true, hp, hL]
  unfold opR
  rw [isR_S0, isR_S0]
  have key : ∀ c : Nat, Sim T o (andR (pK (T.drop (k + 1)) o) fun u r => pL n (pair c e u) r o) ((rLev T z m (lev + 1) (S0 (k + 1) o)).bind fun p => rLevL T z m lev (pair c e p.1) p.2) := fun c =>
    (hK _ _ _ ho (by omega)).and (fun u k2 _ => hLL _ _ _ _ ho (by omega)) fun f hf u s hs => by
      obtain ⟨q, rfl⟩ : ∃ q, m = q + 1 := ⟨m - 1, by omega⟩
      rw [bLevL (bad_f hf hs)]; exact Bd.ret hs
  cases h1 : isW x (T.drop k) with
  | true =>
    rw [if_pos rfl, if_pos rfl, wantR_yes h1 hx.1 hx.2, List.tail_drop]
    dsimp only
    rw [if_neg ha]; exact key a
  | false =>
    rw [if_neg Bool.false_ne_true, if_neg Bool.false_ne_true]
    cases h2 : isW y (T.drop k) with
    | true =>
      rw [if_pos rfl, if_pos rfl, wantR_yes h2 hy.1 hy.2, List.tail_drop]
      dsimp only
      rw [if_neg hb0]; exact key b
    | false => rw [if_neg Bool.false_ne_true, if_neg Bool.false_ne_true]; exact Sim.ret
theorem bLev2' {s : R3} {m : Nat} (h : badR s = true) (hm : 8 ≤ m) : rLev T z m 2 s = some (noEx, s) := by
  obtain ⟨q, rfl⟩ : ∃ q, m = q + 3 := ⟨m - 3, by omega⟩
  exact bLev2 h
theorem bLev3' {s : R3} {m : Nat} (h : badR s = true) (hm : 8 ≤ m) : rLev T z m 3 s = some (noEx, s) := by
  obtain ⟨q, rfl⟩ : ∃ q, m = q + 2 := ⟨m - 2, by omega⟩
  exact bLev3 h
theorem lev3_sim (ih : SimE T z n) (k o m : Nat) (ho : o ≤ 64) (hm : 4 * n + 15 ≤ m) : Sim T o (pSign z n (T.drop k) o) (rLev T z m 3 (S0 k o)) := by
  obtain ⟨m, rfl⟩ : ∃ q, m = q + 1 := ⟨m - 1, by omega⟩
  rw [rLev_eq, if_pos rfl]
  exact ih.sign k o m ho (by omega)
theorem op1 (s : R3) : opL T z 1 s = opR T z s [43] [45] 6 7 := if_neg (by decide)
theorem op2 (s : R3) : opL T z 2 s = opR T z s [42] [47] 8 9 := if_pos rfl
theorem sign_sim (ih : SimE T z n) (k o m : Nat) (ho : o ≤ 64) (hm : 4 * (n + 1) + 14 ≤ m) : Sim T o (pSign z (n + 1) (T.drop k) o) (rSign T z m (S0 k o)) := by
  obtain ⟨m, rfl⟩ : ∃ q, m = q + 1 := ⟨m - 1, by omega⟩
  rw [rSign_eq, badR_S0, if_neg Bool.false_ne_true, pSign_eq, isR_S0, isR_S0, isNumR_S0]
  cases h1 : isW [45] (T.drop k) with
  | true =>
    rw [if_pos rfl, if_pos rfl]
    by_cases hl : o < 64
    · rw [opn_yes h1 hl, moreR_S0 hl, List.tail_drop]
      refine (ih.sign (k + 1) (o + 1) m (by omega) (by omega)).and (fun u k2 _ => ?_) fun f hf u s hs => Bd.ret hs
      dsimp only
      rw [decR_S0 (by omega), ← place_now]
      exact Sim.ret
    · obtain rfl : o = 64 := by omega
      rw [opn_deep h1 hl]
      refine Sim.bd ?_
      have hb : badR (nxtR (moreR T z (S0 k 64))) = true := rfl
      obtain ⟨q, rfl⟩ : ∃ q, m = q + 1 := ⟨m - 1, by omega⟩
      rw [bSign hb]
      exact Bd.ret rfl
  | false =>
    rw [if_neg Bool.false_ne_true, if_neg Bool.false_ne_true]
    cases h2 : isW [40] (T.drop k) with
    | true =>
      rw [if_pos rfl, if_pos rfl]
      refine Sim.opn (g := fun s => (rSum T z m s).bind fun p => some (setAt p.1 (place z (T.drop k)), wantR T z p.2 [41])) ho rfl rfl (fun hl => ?_) fun f hf s hs => ?_
      · refine (ih.sum (k + 1) (o + 1) m (by omega) (by omega)).and (fun e k2 _ => ?_) fun f hf u s hs => by dsimp only; rw [wantR_bad (bad_f hf hs)]; exact Bd.ret hs
        dsimp only
        rw [← place_now]
        exact Sim.close (F := fun r => .ok (setAt e (place z (T.drop k)), r)) (g := fun s => some (setAt e (place z (T.drop k)), s)) (by omega) rfl rfl Sim.ret fun f hf s hs => Bd.ret hs
      · rw [bSum (bad_f hf hs) (by omega)]
        dsimp only [Option.bind_some]
        rw [wantR_bad (bad_f hf hs)]; exact Bd.ret hs
    | false =>
      rw [if_neg Bool.false_ne_true, if_neg Bool.false_ne_true]
      by_cases h3 : (nowT z (T.drop k)).1 = 2
      · rw [if_pos h3, decide_eq_true h3, if_pos rfl]
        have hne : T.drop k ≠ [] := fun h => by rw [h] at h3; cases h3
        have htx : txt (T.drop k) = (nowT z (T.drop k)).2.1 := txt_now z hne
        by_cases h4 : 400 < (nowT z (T.drop k)).2.1.length
        · rw [if_pos h4, if_pos (show 400 < (txt (T.drop (S0 k o).k)).length by rw [show (S0 k o).k = k from rfl, htx]; exact h4)]
          exact Sim.bd (Bd.ret rfl)
        · rw [if_neg h4, if_neg (show ¬ 400 < (txt (T.drop (S0 k o).k)).length by rw [show (S0 k o).k = k from rfl, htx]; exact h4), List.tail_drop]
          rw [show (S0 k o).k = k from rfl, htx, ← place_now]
          exact Sim.ret
      · rw [if_neg h3, decide_eq_false h3, if_neg Bool.false_ne_true]
        refine Sim.name (g := fun p => if isR T p.2 [91] = true then (rSum T z m (wantR T z p.2 [91])).bind fun q => some (Ex.mk 3 (place z (T.drop k)) p.1 [q.1], wantR T z q.2 [93])
          else if isR T p.2 [40] = true then (rSums T z m (wantR T z p.2 [40])).bind fun q => some (Ex.mk 4 (place z (T.drop k)) p.1 q.1, wantR T z q.2 [41])
          else some (Ex.mk 2 (place z (T.drop k)) p.1 [], p.2)) (fun hn => ?_) fun f hf a s hs => ?_
        · unfold pTail
          rw [← place_now]
          dsimp only
          rw [isR_S0, isR_S0]
          cases h5 : isW [91] (T.drop (k + 1)) with
          | true =>
            rw [if_pos rfl, if_pos rfl]
            refine Sim.opn (g := fun s => (rSum T z m s).bind fun q => some (Ex.mk 3 (place z (T.drop k)) (txt (T.drop k)) [q.1], wantR T z q.2 [93])) ho rfl rfl (fun hl => ?_) fun f hf s hs => ?_
            · refine (ih.sum _ (o + 1) m (by omega) (by omega)).and (fun e k2 _ => ?_) fun f hf u s hs => by dsimp only; rw [wantR_bad (bad_f hf hs)]; exact Bd.ret hs
              exact Sim.close (F := fun r => .ok (Ex.mk 3 (place z (T.drop k)) (txt (T.drop k)) [e], r)) (g := fun s => some (Ex.mk 3 (place z (T.drop k)) (txt (T.drop k)) [e], s)) (by omega) rfl rfl Sim.ret fun f hf s hs => Bd.ret hs
            · rw [bSum (bad_f hf hs) (by omega)]
              dsimp only [Option.bind_some]
              rw [wantR_bad (bad_f hf hs)]; exact Bd.ret hs
          | false =>
            rw [if_neg Bool.false_ne_true, if_neg Bool.false_ne_true]
            cases h6 : isW [40] (T.drop (k + 1)) with
            | true =>
              rw [if_pos rfl, if_pos rfl]
              refine Sim.opn (g := fun s => (rSums T z m s).bind fun q => some (Ex.mk 4 (place z (T.drop k)) (txt (T.drop k)) q.1, wantR T z q.2 [41])) ho rfl rfl (fun hl => ?_) fun f hf s hs => ?_
              · refine (ih.sums _ (o + 1) m (by omega) (by omega)).and (fun e k2 _ => ?_) fun f hf u s hs => by dsimp only; rw [wantR_bad (bad_f hf hs)]; exact Bd.ret hs
                exact Sim.close (F := fun r => .ok (Ex.mk 4 (place z (T.drop k)) (txt (T.drop k)) e, r)) (g := fun s => some (Ex.mk 4 (place z (T.drop k)) (txt (T.drop k)) e, s)) (by omega) rfl rfl Sim.ret fun f hf s hs => Bd.ret hs
              · rw [bSums (bad_f hf hs) (by omega)]
                dsimp only [Option.bind_some]
                rw [wantR_bad (bad_f hf hs)]; exact Bd.ret hs
            | false => rw [if_neg Bool.false_ne_true, if_neg Bool.false_ne_true]; exact Sim.ret
        · have hb := bad_f hf hs
          rw [isR_bad hb, isR_bad hb, if_neg Bool.false_ne_true, if_neg Bool.false_ne_true]
          exact Bd.ret hs
theorem simE : ∀ n, SimE T z n := by
  intro n
  induction n with
  | zero => exact ⟨fun _ _ _ _ _ => by rw [pSum]; exact Sim.zero, fun _ _ _ _ _ => by rw [pProd]; exact Sim.zero, fun _ _ _ _ _ => by rw [pSign]; exact Sim.zero, fun _ _ _ _ _ _ => by rw [pSumL]; exact Sim.zero, fun _ _ _ _ _ _ => by rw [pProdL]; exact Sim.zero, fun _ _ _ _ _ => by rw [pSums]; exact Sim.zero, fun _ _ _ _ _ _ => by rw [pSumsL]; exact Sim.zero⟩
  | succ n ih =>
    refine ⟨?_, ?_, sign_sim ih, ?_, ?_, ?_, ?_⟩
    · intro k o m ho hm
      obtain ⟨m, rfl⟩ : ∃ q, m = q + 2 := ⟨m - 2, by omega⟩
      rw [rSum_eq, rLev_eq, if_neg (by decide), pSum_eq]
      exact (ih.prod k o m ho (by omega)).and (fun e k2 _ => ih.sumL e k2 o m ho (by omega)) fun f hf u s hs => by
        obtain ⟨q, rfl⟩ : ∃ q, m = q + 1 := ⟨m - 1, by omega⟩
        rw [bLevL (bad_f hf hs)]; exact Bd.ret hs
    · intro k o m ho hm
      obtain ⟨m, rfl⟩ : ∃ q, m = q + 1 := ⟨m - 1, by omega⟩
      rw [rLev_eq, if_neg (by decide), pProd_eq]
      exact (lev3_sim ih k o m ho (by omega)).and (fun e k2 _ => ih.prodL e k2 o m ho (by omega)) fun f hf u s hs => by
        obtain ⟨q, rfl⟩ : ∃ q, m = q + 1 := ⟨m - 1, by omega⟩
        rw [bLevL (bad_f hf hs)]; exact Bd.ret hs
    · intro e k o m ho hm
      exact sumL_sim ih ⟨rfl, rfl⟩ ⟨rfl, rfl⟩ (by decide) (by decide) op1 (pProd z n) (fun m => rLev T z m 2) (fun n e ts o => pSumL z n e ts o) (fun k o m ho hm => ih.prod k o m ho hm) (fun s m h hm => bLev2' h hm) (fun e k o m ho hm => ih.sumL e k o m ho hm) (fun e ts o => pSumL_eq) e k o m ho hm
    · intro e k o m ho hm
      exact sumL_sim ih ⟨rfl, rfl⟩ ⟨rfl, rfl⟩ (by decide) (by decide) op2 (pSign z n) (fun m => rLev T z m 3) (fun n e ts o => pProdL z n e ts o) (fun k o m ho hm => lev3_sim ih k o m ho hm) (fun s m h hm => bLev3' h hm) (fun e k o m ho hm => ih.prodL e k o m ho hm) (fun e ts o => pProdL_eq) e k o m ho hm
    · intro k o m ho hm
      obtain ⟨m, rfl⟩ : ∃ q, m = q + 1 := ⟨m - 1, by omega⟩
      rw [rSums_eq, pSums_eq, isR_S0]
      cases h1 : isW [41] (T.drop k) with
      | true => rw [if_pos rfl, if_pos rfl]; exact Sim.ret
      | false =>
        rw [if_neg Bool.false_ne_true, if_neg Bool.false_ne_true]
        exact (ih.sum k o m ho (by omega)).and (fun e k2 _ => ih.sumsL _ _ _ _ ho (by omega)) fun f hf u s hs => by
          rw [bSumsL (bad_f hf hs) (by omega)]; exact Bd.ret hs
    · intro l k o m ho hm
      obtain ⟨m, rfl⟩ : ∃ q, m = q + 1 := ⟨m - 1, by omega⟩
      rw [rSumsL_eq, pSumsL_eq, isR_S0]
      cases h1 : isW [44] (T.drop k) with
      | true =>
        rw [if_pos rfl, if_pos rfl, List.tail_drop, wantR_yes h1 rfl rfl]
        exact (ih.sum _ o m ho (by omega)).and (fun e k2 _ => ih.sumsL _ _ _ _ ho (by omega)) fun f hf u s hs => by
          rw [bSumsL (bad_f hf hs) (by omega)]; exact Bd.ret hs
      | false => rw [if_neg Bool.false_ne_true, if_neg Bool.false_ne_true]; exact Sim.ret
end
end Go.Prs
end

section
namespace Go.Prs
open Go.Tok Go.Tree
theorem andR_and {α β γ : Type} (x : Rs α) (f : α → List Tk → Rs β) (g : β → List Tk → Except Fl γ) : andR (andR x f) g = andR x fun a r => andR (f a r) g := by
  unfold andR
  cases x with
  | ok p => rfl
  | error e => rfl
theorem want_and {β γ : Type} (z : Nat) (x : Str) (ts : List Tk) (F : List Tk → Rs β) (g : β → List Tk → Except Fl γ) : andR (want z x ts F) g = want z x ts fun r => andR (F r) g := by
  unfold want; split <;> rfl
theorem opn_and {β γ : Type} (z o : Nat) (x : Str) (ts : List Tk) (F : List Tk → Rs β) (g : β → List Tk → Except Fl γ) : andR (opn z o x ts F) g = opn z o x ts fun r => andR (F r) g := by
  unfold opn
  split
  · split <;> rfl
  · rfl
section
variable {T : List Tk} {z n : Nat}
theorem Sim.pos {α : Type} {o : Nat} {b : Bool} {X1 X2 : Rs α} {Y1 Y2 : Option (α × R3)} (h1 : b = true → Sim T o X1 Y1) (h2 : b = false → Sim T o X2 Y2) : Sim T o (if b = true then X1 else X2) (if b = true then Y1 else Y2) := by
  cases b with
  | true => exact h1 rfl
  | false => exact h2 rfl
theorem Bd.sum {α : Type} {f : Fl} {s : R3} {m : Nat} {g : Ex × R3 → Option (α × R3)} (hf : f.1 ≠ 0) (hs : s.f = f) (hm : 5 ≤ m) (hg : Bd f (g (noEx, s))) : Bd f ((rSum T z m s).bind g) := by rw [bSum (bad_f hf hs) hm]; exact hg
theorem Bd.sums {α : Type} {f : Fl} {s : R3} {m : Nat} {g : List Ex × R3 → Option (α × R3)} (hf : f.1 ≠ 0) (hs : s.f = f) (hm : 6 ≤ m) (hg : Bd f (g ([noEx], s))) : Bd f ((rSums T z m s).bind g) := by rw [bSums (bad_f hf hs) hm]; exact hg
theorem Bd.want {α : Type} {f : Fl} {s : R3} {x : Str} {a : α} (hf : f.1 ≠ 0) (hs : s.f = f) : Bd f (some (a, wantR T z s x)) := by rw [wantR_bad (bad_f hf hs)]; exact Bd.ret hs
theorem bBody {s : R3} {m : Nat} (h : badR s = true) (hm : 2 ≤ m) : rBody T z m s = some ([], s) := by
  obtain ⟨q, rfl⟩ : ∃ q, m = q + 2 := ⟨m - 2, by omega⟩
  rw [rBody_eq, wantR_bad h, rStmts_eq, if_pos h]
  dsimp only [Option.bind_some]
  rw [wantR_bad h]
theorem bStmts {s : R3} {m : Nat} {l : List Sm} (h : badR s = true) (hm : 1 ≤ m) : rStmts T z m l s = some (l, s) := by
  obtain ⟨q, rfl⟩ : ∃ q, m = q + 1 := ⟨m - 1, by omega⟩
  rw [rStmts_eq, if_pos h]
def SimB (T : List Tk) (z o : Nat) (pb : List Tk → Rs (List Sm)) (rb : R3 → Option (List Sm × R3)) : Prop := (∀ k, Sim T o (pb (T.drop k)) (rb (S0 k o))) ∧ ∀ s, badR s = true → rb s = some ([], s)
theorem add_sim {m : Nat} (k o : Nat) (a : Int) (ho : o ≤ 64) (hm : 4 * n + 16 ≤ m) : Sim T o (andR (pAdd z n (T.drop k) o) fun s r => .ok (setS s a, r)) (rAdd T z m (S0 k o) a) := by
  have hE := simE (T := T) (z := z) n
  have h1 : ∀ (f : Sm → List Tk → Rs Sm), andR (pAdd z n (T.drop k) o) f = want z [116, 97, 114, 103, 101, 116] (T.drop k) fun r => want z [43, 61] r fun r => andR (pSum z n r o) fun e r => want z [59] r fun r => f (.mk 2 0 [] [e] [] []) r := by
    intro f; unfold pAdd; simp only [want_and, andR_and]; rfl
  rw [h1]
  refine Sim.want (g := fun s => (rSum T z m (wantR T z s [43, 61])).bind fun p => some (Sm.mk 2 a [] [p.1] [] [], wantR T z p.2 [59])) rfl rfl (fun _ => ?_) fun f hf s hs => ?_
  · refine Sim.want (g := fun s => (rSum T z m s).bind fun p => some (Sm.mk 2 a [] [p.1] [] [], wantR T z p.2 [59])) rfl rfl (fun _ => ?_) fun f hf s hs => Bd.sum hf hs (by omega) (Bd.want hf hs)
    refine (hE.sum _ o m ho hm).and (fun e k2 _ => ?_) fun f hf u s hs => Bd.want hf hs
    exact Sim.want (g := fun s => some (Sm.mk 2 a [] [e] [] [], s)) rfl rfl (fun _ => Sim.ret) fun f hf s hs => Bd.ret hs
  · rw [wantR_bad (bad_f hf hs)]; exact Bd.sum hf hs (by omega) (Bd.want hf hs)
theorem loop_sim {m : Nat} {pb : List Tk → Rs (List Sm)} {rb : R3 → Option (List Sm × R3)} (k o : Nat) (a : Int) (ho : o ≤ 64) (hm : 4 * n + 16 ≤ m) (hb : SimB T z o pb rb) : Sim T o (andR (pLoop pb z n (T.drop k) o) fun s r => .ok (setS s a, r)) (rLoop T z rb m (S0 k o) a) := by
  have hE := simE (T := T) (z := z) n
  have h1 : ∀ (f : Sm → List Tk → Rs Sm), andR (pLoop pb z n (T.drop k) o) f = want z [102, 111, 114] (T.drop k) fun r => opn z o [40] r fun r => andR (nameX z r) fun nm r => want z [105, 110] r fun r => andR (pSum z n r (o + 1)) fun x r => want z [58] r fun r => andR (pSum z n r (o + 1)) fun y r => want z [41] r fun r => andR (pb r) fun b r => f (.mk 4 0 nm [x, y] b []) r := by
    intro f; unfold pLoop pLoopB pLoopC; simp only [want_and, opn_and, andR_and]; rfl
  rw [h1]
  have B4 : ∀ (nm : Str) (x y : Ex) f, f.1 ≠ 0 → ∀ s : R3, s.f = f → Bd f ((rb s).bind fun b => some (Sm.mk 4 a nm [x, y] b.1 [], b.2)) := fun nm x y f hf s hs => by rw [hb.2 s (bad_f hf hs)]; exact Bd.ret hs
  have B3 : ∀ (nm : Str) (x : Ex) f, f.1 ≠ 0 → ∀ s : R3, s.f = f → Bd f ((rSum T z m s).bind fun y => (rb (wantR T z y.2 [41])).bind fun b => some (Sm.mk 4 a nm [x, y.1] b.1 [], b.2)) := fun nm x f hf s hs => Bd.sum hf hs (by omega) (by dsimp only; rw [wantR_bad (bad_f hf hs)]; exact B4 _ _ _ f hf s hs)
  have B2 : ∀ (nm : Str) f, f.1 ≠ 0 → ∀ s : R3, s.f = f → Bd f ((rSum T z m s).bind fun x => (rSum T z m (wantR T z x.2 [58])).bind fun y => (rb (wantR T z y.2 [41])).bind fun b => some (Sm.mk 4 a nm [x.1, y.1] b.1 [], b.2)) := fun nm f hf s hs => Bd.sum hf hs (by omega) (by dsimp only; rw [wantR_bad (bad_f hf hs)]; exact B3 _ _ f hf s hs)
  let G2 : Str × R3 → Option (Sm × R3) := fun q => (rSum T z m (wantR T z q.2 [105, 110])).bind fun x => (rSum T z m (wantR T z x.2 [58])).bind fun y => (rb (wantR T z y.2 [41])).bind fun b => some (Sm.mk 4 a q.1 [x.1, y.1] b.1 [], b.2)
  have B1 : ∀ f, f.1 ≠ 0 → ∀ (q : Str × R3), q.2.f = f → Bd f (G2 q) := fun f hf q hs => by show Bd f (Option.bind _ _); rw [wantR_bad (bad_f hf hs)]; exact B2 _ f hf _ hs
  show Sim T o _ (G2 (nameR T z (wantR T z (wantR T z (S0 k o) [102, 111, 114]) [40])))
  refine Sim.want (g := fun s => G2 (nameR T z (wantR T z s [40]))) rfl rfl (fun _ => ?_) fun f hf s hs => by rw [wantR_bad (bad_f hf hs), nameR_bad (bad_f hf hs)]; exact B1 f hf _ hs
  refine Sim.opn (g := fun s => G2 (nameR T z s)) ho rfl rfl (fun hl => ?_) fun f hf s hs => by rw [nameR_bad (bad_f hf hs)]; exact B1 f hf _ hs
  refine Sim.name (g := G2) (fun _ => ?_) fun f hf u s hs => B1 f hf _ hs
  refine Sim.want (g := fun s => (rSum T z m s).bind fun x => (rSum T z m (wantR T z x.2 [58])).bind fun y => (rb (wantR T z y.2 [41])).bind fun b => some (Sm.mk 4 a (txt (T.drop (k + 1 + 1))) [x.1, y.1] b.1 [], b.2)) rfl rfl (fun _ => ?_) fun f hf s hs => B2 _ f hf s hs
  refine (hE.sum _ (o + 1) m (by omega) hm).and (fun x k2 _ => ?_) fun f hf u s hs => by dsimp only; rw [wantR_bad (bad_f hf hs)]; exact B3 _ _ f hf s hs
  refine Sim.want (g := fun s => (rSum T z m s).bind fun y => (rb (wantR T z y.2 [41])).bind fun b => some (Sm.mk 4 a (txt (T.drop (k + 1 + 1))) [x, y.1] b.1 [], b.2)) rfl rfl (fun _ => ?_) fun f hf s hs => B3 _ _ f hf s hs
  refine (hE.sum _ (o + 1) m (by omega) hm).and (fun y k3 _ => ?_) fun f hf u s hs => by dsimp only; rw [wantR_bad (bad_f hf hs)]; exact B4 _ _ _ f hf s hs
  refine Sim.close (g := fun s => (rb s).bind fun b => some (Sm.mk 4 a (txt (T.drop (k + 1 + 1))) [x, y] b.1 [], b.2)) (by omega) rfl rfl ?_ fun f hf s hs => B4 _ _ _ f hf s hs
  exact (hb.1 _).and (fun b k4 _ => Sim.ret) fun f hf u s hs => Bd.ret hs
theorem cmpU_is {i : Nat} {ts : List Tk} (h : cmpU i ts ≠ 0) : ∃ j, j < i ∧ cmpU i ts = 10 + j ∧ isW (cmpS.getD j []) ts = true := by
  induction i with
  | zero => exact absurd rfl h
  | succ i ih =>
    rw [cmpU] at h ⊢
    split
    · rename_i h0
      rw [if_pos h0] at h
      split
      · rename_i h1; exact ⟨i, by omega, rfl, h1⟩
      · rename_i h1; rw [if_neg h1] at h; exact absurd rfl h
    · rename_i h0
      obtain ⟨j, h1, h2, h3⟩ := ih h0
      exact ⟨j, by omega, h2, h3⟩
theorem choice_sim {m : Nat} {pb : List Tk → Rs (List Sm)} {rb : R3 → Option (List Sm × R3)} (k o : Nat) (a : Int) (ho : o ≤ 64) (hm : 4 * n + 16 ≤ m) (hb : SimB T z o pb rb) : Sim T o (andR (pChoice pb z n (T.drop k) o) fun s r => .ok (setS s a, r)) (rChoice T z rb m (S0 k o) a) := by
  have hE := simE (T := T) (z := z) n
  let pC : Ex → List Tk → Rs Sm := fun x r => want z [41] r fun r => andR (pb r) fun b r => if isW [101, 108, 115, 101] r = true then andR (pb r.tail) fun e r => .ok (Sm.mk 5 a [] [x] b e, r) else .ok (Sm.mk 5 a [] [x] b [], r)
  have h1 : andR (pChoice pb z n (T.drop k) o) (fun s r => .ok (setS s a, r)) = want z [105, 102] (T.drop k) fun r => opn z o [40] r fun r => andR (pSum z n r (o + 1)) fun x r => if cmpU 6 r = 0 then .error (130, place z r) else andR (pSum z n r.tail (o + 1)) fun y r' => pC (pair (cmpU 6 r) x y) r' := by
    unfold pChoice pChoiceA pChoiceB
    simp only [want_and, opn_and, andR_and, pC]
    congr 1; funext r; congr 1; funext r; congr 1; funext x r
    split
    · rfl
    · rw [andR_and]; congr 1; funext y r'; rw [want_and]; congr 1; funext r; rw [andR_and]; congr 1; funext b r
      split
      · rw [andR_and]; rfl
      · rfl
  rw [h1]
  have B5 : ∀ (x : Ex) f, f.1 ≠ 0 → ∀ (b : List Sm × R3), b.2.f = f → Bd f (rChoiceB T z rb a x b) := fun x f hf b hs => by unfold rChoiceB; rw [isR_bad (bad_f hf hs), if_neg Bool.false_ne_true]; exact Bd.ret hs
  have B4 : ∀ (x : Ex) f, f.1 ≠ 0 → ∀ s : R3, s.f = f → Bd f ((rb s).bind fun b => rChoiceB T z rb a x b) := fun x f hf s hs => by rw [hb.2 s (bad_f hf hs)]; exact B5 x f hf _ hs
  have B3 : ∀ (op : Nat) (x : Ex) f, f.1 ≠ 0 → ∀ s : R3, s.f = f → Bd f ((rSum T z m s).bind fun y => (rb (wantR T z y.2 [41])).bind fun b => rChoiceB T z rb a (pair op x y.1) b) := fun op x f hf s hs => Bd.sum hf hs (by omega) (by dsimp only; rw [wantR_bad (bad_f hf hs)]; exact B4 _ f hf s hs)
  have B2 : ∀ f, f.1 ≠ 0 → ∀ s : R3, s.f = f → Bd f ((rSum T z m s).bind fun x => (rSum T z m (cmpR T z x.2)).bind fun y => (rb (wantR T z y.2 [41])).bind fun b => rChoiceB T z rb a (pair (opC T x.2 6) x.1 y.1) b) := fun f hf s hs => Bd.sum hf hs (by omega) (by dsimp only; rw [cmpR_bad (bad_f hf hs)]; exact B3 _ _ f hf s hs)
  unfold rChoice
  refine Sim.want (g := fun s => (rSum T z m (wantR T z s [40])).bind fun x => (rSum T z m (cmpR T z x.2)).bind fun y => (rb (wantR T z y.2 [41])).bind fun b => rChoiceB T z rb a (pair (opC T x.2 6) x.1 y.1) b) rfl rfl (fun _ => ?_) fun f hf s hs => by rw [wantR_bad (bad_f hf hs)]; exact B2 f hf s hs
  refine Sim.opn (g := fun s => (rSum T z m s).bind fun x => (rSum T z m (cmpR T z x.2)).bind fun y => (rb (wantR T z y.2 [41])).bind fun b => rChoiceB T z rb a (pair (opC T x.2 6) x.1 y.1) b) ho rfl rfl (fun hl => ?_) B2
  refine (hE.sum _ (o + 1) m (by omega) hm).and (fun x k2 _ => ?_) fun f hf u s hs => by dsimp only; rw [cmpR_bad (bad_f hf hs)]; exact B3 _ _ f hf s hs
  dsimp only
  have hop : opC T (S0 k2 (o + 1)) 6 = cmpU 6 (T.drop k2) := rfl
  unfold cmpR
  rw [hop]
  by_cases h0 : cmpU 6 (T.drop k2) = 0
  · rw [if_pos h0, if_pos h0]
    exact Sim.bd (B3 _ _ _ (show (130 : Nat) ≠ 0 by decide) _ failR_S0)
  · rw [if_neg h0, if_neg h0]
    obtain ⟨j, hj, hj2, hw⟩ := cmpU_is h0
    have hf := cmp_fine (cmpS.getD j []) (by
      rw [List.getD_eq_getElem?_getD, List.getElem?_eq_getElem (show j < cmpS.length from hj)]; exact List.getElem_mem _)
    unfold stC
    rw [if_neg h0, hj2, Nat.add_sub_cancel_left, wantR_yes hw hf.2.1 hf.2.2, List.tail_drop]
    refine (hE.sum _ (o + 1) m (by omega) hm).and (fun y k3 _ => ?_) fun f hf u s hs => by dsimp only; rw [wantR_bad (bad_f hf hs)]; exact B4 _ f hf s hs
    refine Sim.close (g := fun s => (rb s).bind fun b => rChoiceB T z rb a (pair (10 + j) x y) b) (by omega) rfl rfl ?_ (B4 _)
    refine (hb.1 _).and (fun b k4 _ => ?_) fun f hf u s hs => B5 _ f hf _ hs
    unfold rChoiceB
    dsimp only
    rw [isR_S0]
    refine Sim.pos (fun h => ?_) (fun _ => Sim.ret)
    rw [List.tail_drop, wantR_yes h rfl rfl]
    exact (hb.1 _).and (fun e k5 _ => Sim.ret) fun f hf u s hs => Bd.ret hs
theorem bPlainB {m : Nat} {a : Int} {e : Ex} {f : Fl} (hf : f.1 ≠ 0) {s : R3} (hs : s.f = f) (hm : 6 ≤ m) : Bd f (rPlainB T z m a e s) := by
  have hb := bad_f hf hs
  unfold rPlainB
  rw [wantR_bad hb, nameR_bad hb]
  dsimp only
  rw [wantR_bad hb]
  refine Bd.sums hf hs hm ?_
  dsimp only
  rw [wantR_bad hb]
  exact Bd.want hf hs
theorem plain_sim {m : Nat} (k o : Nat) (a : Int) (ho : o ≤ 64) (hm : 4 * n + 16 ≤ m) : Sim T o (andR (pPlain z n (T.drop k) o) fun s r => .ok (setS s a, r)) (rPlain T z m (S0 k o) a) := by
  have hE := simE (T := T) (z := z) n
  have h1 : andR (pPlain z n (T.drop k) o) (fun s r => .ok (setS s a, r)) = andR (pSum z n (T.drop k) o) fun e r => if ((named (T.drop k) && (decide (e.op = 2) || decide (e.op = 3))) && isW [61] r) = true then andR (pSum z n r.tail o) fun q r => want z [59] r fun r => .ok (Sm.mk 1 a e.nm (e.kids ++ [q]) [] [], r)
      else want z [126] r fun r => andR (nameX z r) fun nm r => opn z o [40] r fun r => andR (pSums z n r (o + 1)) fun l r => want z [41] r fun r => want z [59] r fun r => .ok (Sm.mk 3 a nm (e :: l) [] [], r) := by
    unfold pPlain pPlainB
    rw [andR_and]; congr 1; funext e r
    split
    · simp only [want_and, andR_and]; rfl
    · simp only [want_and, opn_and, andR_and]; rfl
  rw [h1]
  unfold rPlain
  refine (hE.sum _ o m ho hm).and (fun e k2 _ => ?_) fun f hf u s hs => by dsimp only; rw [isR_bad (bad_f hf hs), Bool.and_false, if_neg Bool.false_ne_true]; exact bPlainB hf hs (by omega)
  dsimp only
  rw [isNameR_S0, isR_S0]
  refine Sim.pos (fun h => ?_) (fun _ => ?_)
  · rw [Bool.and_eq_true] at h
    rw [List.tail_drop, wantR_yes h.2 rfl rfl]
    refine (hE.sum _ o m ho hm).and (fun q k3 _ => ?_) fun f hf u s hs => Bd.want hf hs
    exact Sim.want (g := fun s => some (Sm.mk 1 a e.nm (e.kids ++ [q]) [] [], s)) rfl rfl (fun _ => Sim.ret) fun f hf s hs => Bd.ret hs
  · have B3 : ∀ (nm : Str) f, f.1 ≠ 0 → ∀ s : R3, s.f = f → Bd f ((rSums T z m s).bind fun l => some (Sm.mk 3 a nm (e :: l.1) [] [], wantR T z (wantR T z l.2 [41]) [59])) := fun nm f hf s hs => Bd.sums hf hs (by omega) (by dsimp only; rw [wantR_bad (bad_f hf hs)]; exact Bd.want hf hs)
    let G2 : Str × R3 → Option (Sm × R3) := fun q => (rSums T z m (wantR T z q.2 [40])).bind fun l => some (Sm.mk 3 a q.1 (e :: l.1) [] [], wantR T z (wantR T z l.2 [41]) [59])
    have B2 : ∀ f, f.1 ≠ 0 → ∀ (q : Str × R3), q.2.f = f → Bd f (G2 q) := fun f hf q hs => by show Bd f (Option.bind _ _); rw [wantR_bad (bad_f hf hs)]; exact B3 _ f hf _ hs
    show Sim T o _ (G2 (nameR T z (wantR T z (S0 k2 o) [126])))
    refine Sim.want (g := fun s => G2 (nameR T z s)) rfl rfl (fun _ => ?_) fun f hf s hs => by rw [nameR_bad (bad_f hf hs)]; exact B2 f hf _ hs
    refine Sim.name (g := G2) (fun _ => ?_) fun f hf u s hs => B2 f hf _ hs
    refine Sim.opn (g := fun s => (rSums T z m s).bind fun l => some (Sm.mk 3 a (txt (T.drop (k2 + 1))) (e :: l.1) [] [], wantR T z (wantR T z l.2 [41]) [59])) ho rfl rfl (fun hl => ?_) (B3 _)
    refine (hE.sums _ (o + 1) m (by omega) hm).and (fun l k4 _ => ?_) fun f hf u s hs => by dsimp only; rw [wantR_bad (bad_f hf hs)]; exact Bd.want hf hs
    refine Sim.close (g := fun s => some (Sm.mk 3 a (txt (T.drop (k2 + 1))) (e :: l) [] [], wantR T z s [59])) (by omega) rfl rfl ?_ fun f hf s hs => Bd.want hf hs
    exact Sim.want (g := fun s => some (Sm.mk 3 a (txt (T.drop (k2 + 1))) (e :: l) [] [], s)) rfl rfl (fun _ => Sim.ret) fun f hf s hs => Bd.ret hs
structure SimS (T : List Tk) (z n : Nat) : Prop where
  stmt : ∀ k o m, o ≤ 64 → 4 * n + 20 ≤ m → Sim T o (pStmt z n (T.drop k) o) (rStmt T z m (S0 k o))
  body : ∀ k o m, o ≤ 64 → 4 * n + 20 ≤ m → Sim T o (pBody z n (T.drop k) o) (rBody T z m (S0 k o))
  stmts : ∀ l k o m, o ≤ 64 → 4 * n + 20 ≤ m → Sim T o (pStmts z n l (T.drop k) o) (rStmts T z m l (S0 k o))
theorem simS : ∀ n, SimS T z n := by
  intro n
  induction n with
  | zero => exact ⟨fun _ _ _ _ _ => by rw [pStmt]; exact Sim.zero, fun _ _ _ _ _ => by rw [pBody]; exact Sim.zero, fun _ _ _ _ _ _ => by rw [pStmts]; exact Sim.zero⟩
  | succ n ih =>
    refine ⟨?_, ?_, ?_⟩
    · intro k o m ho hm
      obtain ⟨m, rfl⟩ : ∃ q, m = q + 1 := ⟨m - 1, by omega⟩
      have hB : SimB T z o (fun r => pBody z n r o) (fun s => rBody T z m s) := ⟨fun k => ih.body k o m ho (by omega), fun s h => bBody h (by omega)⟩
      rw [rStmt_eq, isR_S0, isR_S0, isR_S0, isR_S0, pStmt_eq, show (S0 k o).k = k from rfl, ← place_now]
      cases h1 : isW [116, 97, 114, 103, 101, 116] (T.drop k) with
      | true => rw [if_pos rfl, if_pos rfl]; exact add_sim k o _ ho (by omega)
      | false =>
        rw [if_neg Bool.false_ne_true, if_neg Bool.false_ne_true]
        cases h2 : isW [102, 111, 114] (T.drop k) with
        | true => rw [if_pos rfl, if_pos rfl]; exact loop_sim k o _ ho (by omega) hB
        | false =>
          rw [if_neg Bool.false_ne_true, if_neg Bool.false_ne_true]
          cases h3 : isW [105, 102] (T.drop k) with
          | true => rw [if_pos rfl, if_pos rfl]; exact choice_sim k o _ ho (by omega) hB
          | false =>
            rw [if_neg Bool.false_ne_true, if_neg Bool.false_ne_true]
            cases h4 : isW [123] (T.drop k) with
            | true =>
              rw [if_pos rfl, if_pos rfl, andR_and]
              exact (ih.body k o m ho (by omega)).and (fun b k2 _ => Sim.ret) fun f hf u s hs => Bd.ret hs
            | false => rw [if_neg Bool.false_ne_true, if_neg Bool.false_ne_true]; exact plain_sim k o _ ho (by omega)
    · intro k o m ho hm
      obtain ⟨m, rfl⟩ : ∃ q, m = q + 1 := ⟨m - 1, by omega⟩
      rw [rBody_eq, pBody_eq]
      refine Sim.opn (g := fun s => (rStmts T z m [] s).bind fun p => some (p.1, wantR T z p.2 [125])) ho rfl rfl (fun hl => ?_) fun f hf s hs => by rw [bStmts (bad_f hf hs) (by omega)]; exact Bd.want hf hs
      refine (ih.stmts [] _ (o + 1) m (by omega) (by omega)).and (fun l k2 _ => ?_) fun f hf u s hs => Bd.want hf hs
      exact Sim.close (F := fun r => .ok (l, r)) (g := fun s => some (l, s)) (by omega) rfl rfl Sim.ret fun f hf s hs => Bd.ret hs
    · intro l k o m ho hm
      obtain ⟨m, rfl⟩ : ∃ q, m = q + 1 := ⟨m - 1, by omega⟩
      rw [rStmts_eq, pStmts_eq, badR_S0, if_neg Bool.false_ne_true, isR_S0]
      refine Sim.pos (fun _ => Sim.ret) (fun _ => ?_)
      exact (ih.stmt k o m ho (by omega)).and (fun u k2 _ => ih.stmts _ k2 o m ho (by omega)) fun f hf u s hs => by rw [bStmts (bad_f hf hs) (by omega)]; exact Bd.ret hs
end
end Go.Prs
end

section
namespace Go.Prs
open Go.Tok Go.Tree
section
variable {T : List Tk} {z n : Nat}
theorem size_sim {m : Nat} (k o : Nat) (ho : o ≤ 64) (hm : 4 * n + 16 ≤ m) : Sim T o (pSize z n (T.drop k) o) (rSizeD T z m (S0 k o)) := by
  unfold pSize rSizeD
  refine Sim.opn (g := fun s => (rSum T z m s).bind fun e => some ([e.1], wantR T z e.2 [93])) ho rfl rfl (fun hl => ?_) fun f hf s hs => Bd.sum hf hs (by omega) (Bd.want hf hs)
  refine ((simE n).sum _ (o + 1) m (by omega) hm).and (fun e k2 _ => ?_) fun f hf u s hs => Bd.want hf hs
  exact Sim.close (F := fun r => .ok ([e], r)) (g := fun s => some ([e], s)) (by omega) rfl rfl Sim.ret fun f hf s hs => Bd.ret hs
theorem bSizeD {m : Nat} {f : Fl} (hf : f.1 ≠ 0) {s : R3} (hs : s.f = f) (hm : 5 ≤ m) : Bd f (rSizeD T z m s) := by
  unfold rSizeD
  rw [wantR_bad (bad_f hf hs)]
  exact Bd.sum hf hs hm (Bd.want hf hs)
theorem upper_sim {m : Nat} {lo : List Ex} (k o : Nat) (ho : o ≤ 64) (hm : 4 * n + 16 ≤ m) : Sim T o (pUpper z n lo (T.drop k) o) (rUpper T z m lo (S0 k o)) := by
  unfold pUpper rUpper
  refine Sim.want (g := fun s => (rSum T z m (wantR T z s [61])).bind fun e => some ((lo, [e.1]), wantR T z e.2 [62])) rfl rfl (fun _ => ?_) fun f hf s hs => by rw [wantR_bad (bad_f hf hs)]; exact Bd.sum hf hs (by omega) (Bd.want hf hs)
  refine Sim.want (g := fun s => (rSum T z m s).bind fun e => some ((lo, [e.1]), wantR T z e.2 [62])) rfl rfl (fun _ => ?_) fun f hf s hs => Bd.sum hf hs (by omega) (Bd.want hf hs)
  refine ((simE n).sum _ o m ho hm).and (fun e k2 _ => ?_) fun f hf u s hs => Bd.want hf hs
  exact Sim.want (F := fun r => .ok ((lo, [e]), r)) (g := fun s => some ((lo, [e]), s)) rfl rfl (fun _ => Sim.ret) fun f hf s hs => Bd.ret hs
theorem bBoundsB {m : Nat} {e : Ex × R3} {f : Fl} (hf : f.1 ≠ 0) (hs : e.2.f = f) : Bd f (rBoundsB T z m e) := by
  unfold rBoundsB
  rw [isR_bad (bad_f hf hs), if_neg Bool.false_ne_true]
  exact Bd.want hf hs
theorem bounds_sim {m : Nat} (k o : Nat) (ho : o ≤ 64) (hm : 4 * n + 16 ≤ m) : Sim T o (pBounds z n (T.drop k) o) (rBounds T z m (S0 k o)) := by
  unfold pBounds rBounds
  rw [isR_S0]
  refine Sim.pos (fun h => ?_) (fun _ => Sim.ret)
  rw [List.tail_drop, wantR_yes h rfl rfl, isR_S0]
  refine Sim.pos (fun h => ?_) (fun _ => upper_sim _ o ho hm)
  rw [List.tail_drop, wantR_yes h rfl rfl]
  refine Sim.want (g := fun s => (rSum T z m s).bind fun e => rBoundsB T z m e) rfl rfl (fun _ => ?_) fun f hf s hs => Bd.sum hf hs (by omega) (bBoundsB hf hs)
  refine ((simE n).sum _ o m ho hm).and (fun e k2 _ => ?_) fun f hf u s hs => bBoundsB hf hs
  unfold pBoundsB rBoundsB
  dsimp only
  rw [isR_S0]
  refine Sim.pos (fun h => ?_) (fun _ => ?_)
  · rw [List.tail_drop, wantR_yes h rfl rfl]; exact upper_sim _ o ho hm
  · exact Sim.want (F := fun r => .ok (([e], []), r)) (g := fun s => some (([e], []), s)) rfl rfl (fun _ => Sim.ret) fun f hf s hs => Bd.ret hs
theorem bDeclN {m : Nat} {first : Bool} {ty a : Nat} {size lo up : List Ex} {f : Fl} (hf : f.1 ≠ 0) {s : R3} (hs : s.f = f) : Bd f (rDeclN T z m first ty a size lo up s) := by
  unfold rDeclN
  rw [nameR_bad (bad_f hf hs)]
  dsimp only
  rw [isR_bad (bad_f hf hs), Bool.and_false, if_neg Bool.false_ne_true]
  exact Bd.want hf hs
theorem bDeclU {m : Nat} {first : Bool} {ty a : Nat} {size lo up : List Ex} {f : Fl} (hf : f.1 ≠ 0) {s : R3} (hs : s.f = f) (hm : 5 ≤ m) : Bd f (rDeclU T z m first ty a size lo up s) := by
  unfold rDeclU
  split
  · exact (bSizeD hf hs hm).bind fun u s hs => bDeclN hf hs
  · exact bDeclN hf hs
theorem bBounds {m : Nat} {f : Fl} (hf : f.1 ≠ 0) {s : R3} (hs : s.f = f) : Bd f (rBounds T z m s) := by
  unfold rBounds
  rw [isR_bad (bad_f hf hs), if_neg Bool.false_ne_true]
  exact Bd.ret hs
theorem bDeclT {m : Nat} {first : Bool} {ty a : Nat} {size : List Ex} {f : Fl} (hf : f.1 ≠ 0) {s : R3} (hs : s.f = f) (hm : 5 ≤ m) : Bd f (rDeclT T z m first ty a size s) :=
  (bBounds hf hs).bind fun _ _ hs => bDeclU hf hs hm
theorem declN_sim {m : Nat} {first : Bool} {ty a : Nat} {size lo up : List Ex} (k o : Nat) (ho : o ≤ 64) (hm : 4 * n + 16 ≤ m) : Sim T o (pDeclV z n first ty a o size lo up (T.drop k)) (rDeclN T z m first ty a size lo up (S0 k o)) := by
  unfold pDeclV rDeclN
  let G : Str × R3 → Option ((Bool × Dc) × R3) := fun q => if ((first && decide (ty ≤ 3)) && isR T q.2 [61]) = true then (rSum T z m (wantR T z q.2 [61])).bind fun e => some ((true, ⟨ty, a, q.1, size, lo, up, [e.1]⟩), wantR T z e.2 [59])
    else some ((true, ⟨ty, a, q.1, size, lo, up, []⟩), wantR T z q.2 [59])
  refine Sim.name (g := G) (fun _ => ?_) fun f hf nm s hs => ?_
  · show Sim T o (pDeclN z n first ty a o size lo up (txt (T.drop k)) (T.drop (k + 1))) (if ((first && decide (ty ≤ 3)) && isR T (S0 (k + 1) o) [61]) = true then _ else _)
    unfold pDeclN pDeclE
    rw [isR_S0]
    refine Sim.pos (fun h => ?_) (fun _ => ?_)
    · rw [Bool.and_eq_true] at h
      rw [List.tail_drop, wantR_yes h.2 rfl rfl]
      refine ((simE n).sum _ o m ho hm).and (fun e k2 _ => ?_) fun f hf u s hs => Bd.want hf hs
      exact Sim.want (F := fun r => .ok ((true, (⟨ty, a, txt (T.drop k), size, lo, up, [e]⟩ : Dc)), r)) (g := fun s => some ((true, (⟨ty, a, txt (T.drop k), size, lo, up, [e]⟩ : Dc)), s)) rfl rfl (fun _ => Sim.ret) fun f hf s hs => Bd.ret hs
    · exact Sim.want (F := fun r => .ok ((true, (⟨ty, a, txt (T.drop k), size, lo, up, []⟩ : Dc)), r)) (g := fun s => some ((true, (⟨ty, a, txt (T.drop k), size, lo, up, []⟩ : Dc)), s)) rfl rfl (fun _ => Sim.ret) fun f hf s hs => Bd.ret hs
  · show Bd f (if ((first && decide (ty ≤ 3)) && isR T s [61]) = true then _ else _)
    rw [isR_bad (bad_f hf hs), Bool.and_false, if_neg Bool.false_ne_true]
    exact Bd.want hf hs
theorem declU_sim {m : Nat} {first : Bool} {ty a : Nat} {size : List Ex} {b : List Ex × List Ex} (k o : Nat) (ho : o ≤ 64) (hm : 4 * n + 16 ≤ m) : Sim T o (pDeclU z n first ty a o size b (T.drop k)) (rDeclU T z m first ty a size b.1 b.2 (S0 k o)) := by
  unfold pDeclU rDeclU
  split
  · exact (size_sim k o ho hm).and (fun u k2 _ => declN_sim k2 o ho hm) fun f hf u s hs => bDeclN hf hs
  · exact declN_sim k o ho hm
theorem declT_sim {m : Nat} {first : Bool} {ty a : Nat} {size : List Ex} (k o : Nat) (ho : o ≤ 64) (hm : 4 * n + 16 ≤ m) : Sim T o (pDeclT z n first ty a o size (T.drop k)) (rDeclT T z m first ty a size (S0 k o)) :=
  (bounds_sim k o ho hm).and (fun b k2 _ => declU_sim k2 o ho hm) fun f hf u s hs => bDeclU hf hs (by omega)
theorem decl_sim {m : Nat} {first : Bool} (k o : Nat) (ho : o ≤ 64) (hm : 4 * n + 16 ≤ m) : Sim T o (pDecl z n first (T.drop k) o) (rDecl T z m first (S0 k o)) := by
  unfold pDecl rDecl
  rw [isR_S0, isR_S0, isR_S0, isR_S0, show (S0 k o).k = k from rfl, ← place_now]
  cases h1 : isW [105, 110, 116] (T.drop k) with
  | true =>
    rw [if_pos rfl, isW_one h1 (by decide), if_neg Bool.false_ne_true, if_pos rfl, List.tail_drop, wantR_yes h1 rfl rfl]
    exact declT_sim _ o ho hm
  | false =>
    rw [if_neg Bool.false_ne_true]
    cases h2 : isW [114, 101, 97, 108] (T.drop k) with
    | true =>
      rw [if_pos rfl, isW_one h2 (by decide), if_neg Bool.false_ne_true, if_neg Bool.false_ne_true, if_pos rfl, List.tail_drop, wantR_yes h2 rfl rfl]
      exact declT_sim _ o ho hm
    | false =>
      rw [if_neg Bool.false_ne_true]
      cases h3 : isW [118, 101, 99, 116, 111, 114] (T.drop k) with
      | true =>
        rw [if_pos rfl, isW_one h3 (by decide), if_neg Bool.false_ne_true, if_neg Bool.false_ne_true, if_neg Bool.false_ne_true, if_pos rfl, List.tail_drop, wantR_yes h3 rfl rfl]
        exact declT_sim _ o ho hm
      | false =>
        rw [if_neg Bool.false_ne_true]
        refine Sim.pos (fun h => ?_) (fun _ => ?_)
        · rw [List.tail_drop, wantR_yes h rfl rfl]
          refine (size_sim _ o ho hm).and (fun u k2 _ => ?_) fun f hf u s hs => ?_
          · unfold rDeclA
            dsimp only
            rw [isR_S0]
            refine Sim.pos (fun h => ?_) (fun _ => ?_)
            · rw [List.tail_drop, wantR_yes h rfl rfl]; exact declT_sim _ o ho hm
            · exact Sim.want (F := fun r => pDeclT z n first 5 (place z (T.drop k)) o u r) (g := fun s => rDeclT T z m first 5 (place z (T.drop k)) u s) rfl rfl (fun _ => declT_sim _ o ho hm) fun f hf s hs => bDeclT hf hs (by omega)
          · unfold rDeclA
            rw [isR_bad (bad_f hf hs), if_neg Bool.false_ne_true, wantR_bad (bad_f hf hs)]
            exact bDeclT hf hs (by omega)
        · exact Sim.ret
theorem bDecls {m : Nat} {first : Bool} {l : List Dc} {s : R3} (h : badR s = true) (hm : 1 ≤ m) : rDecls T z m first l s = some (l, s) := by
  obtain ⟨q, rfl⟩ : ∃ q, m = q + 1 := ⟨m - 1, by omega⟩
  rw [rDecls_eq, if_pos h]
theorem decls_sim {first : Bool} : ∀ (n : Nat) (l : List Dc) (k o m : Nat), o ≤ 64 → 4 * n + 20 ≤ m → Sim T o (pDecls z n first l (T.drop k) o) (rDecls T z m first l (S0 k o)) := by
  intro n
  induction n with
  | zero => intro l k o m _ _; rw [pDecls]; exact Sim.zero
  | succ n ih =>
    intro l k o m ho hm
    obtain ⟨m, rfl⟩ : ∃ q, m = q + 1 := ⟨m - 1, by omega⟩
    rw [rDecls_eq, pDecls_eq, badR_S0, if_neg Bool.false_ne_true]
    refine (decl_sim k o ho (by omega)).and (fun d k2 _ => ?_) fun f hf u s hs => ?_
    · exact Sim.pos (fun _ => ih _ _ _ _ ho (by omega)) (fun _ => Sim.ret)
    · split
      · rw [bDecls (bad_f hf hs) (by omega)]; exact Bd.ret hs
      · exact Bd.ret hs
theorem fillD_sim {m : Nat} (i k o : Nat) (ho : o ≤ 64) (hm : 4 * n + 20 ≤ m) : Sim T o (if i = 4 then .ok ([], T.drop k) else pDecls z n (!gv i) [] (T.drop k) o) (rFillD T z m i (S0 k o)) := by
  unfold rFillD
  split
  · exact Sim.ret
  · exact decls_sim n [] k o m ho hm
theorem bFillD {m i : Nat} {f : Fl} (hf : f.1 ≠ 0) {s : R3} (hs : s.f = f) (hm : 1 ≤ m) : Bd f (rFillD T z m i s) := by
  unfold rFillD
  split
  · exact Bd.ret hs
  · rw [bDecls (bad_f hf hs) hm]; exact Bd.ret hs
theorem bFillS {m i : Nat} {f : Fl} (hf : f.1 ≠ 0) {s : R3} (hs : s.f = f) (hm : 1 ≤ m) : Bd f (rFillS T z m i s) := by
  unfold rFillS
  split
  · exact Bd.ret hs
  · rw [bStmts (bad_f hf hs) hm]; exact Bd.ret hs
theorem fillS_sim {m : Nat} (i k o : Nat) (ho : o ≤ 64) (hm : 4 * n + 20 ≤ m) : Sim T o (if gv i = true then .ok ([], T.drop k) else pStmts z n [] (T.drop k) o) (rFillS T z m i (S0 k o)) := by
  unfold rFillS
  exact Sim.pos (fun _ => Sim.ret) (fun _ => (simS n).stmts [] k o m ho hm)
theorem fill_sim {m : Nat} (i k o : Nat) (ho : o ≤ 64) (hm : 4 * n + 20 ≤ m) : Sim T o (pFill z n i (T.drop k) o) (rFill T z m i (S0 k o)) := by
  have e : pFill z n i (T.drop k) o = opn z o [123] (T.drop k) fun r => andR (if i = 4 then .ok ([], r) else pDecls z n (!gv i) [] r (o + 1)) fun ds r => andR (if gv i = true then .ok ([], r) else pStmts z n [] r (o + 1)) fun ss r => want z [125] r fun r => .ok (⟨true, ds, ss⟩, r) := by
    unfold pFill pFillD pFillS pFillE
    congr 1; funext r; congr 1; funext ds r
    split <;> rfl
  rw [e]
  unfold rFill
  have B3 : ∀ (ds : List Dc) f, f.1 ≠ 0 → ∀ (u : List Sm) (s : R3), s.f = f → Bd f (some ((⟨true, ds, u⟩ : Bk), wantR T z s [125])) := fun ds f hf u s hs => Bd.want hf hs
  have B2 : ∀ f, f.1 ≠ 0 → ∀ (ds : List Dc) (s : R3), s.f = f → Bd f ((rFillS T z m i s).bind fun ss => some ((⟨true, ds, ss.1⟩ : Bk), wantR T z ss.2 [125])) := fun f hf ds s hs => (bFillS hf hs (by omega)).bind fun u s hs => B3 ds f hf u s hs
  refine Sim.opn (g := fun s => (rFillD T z m i s).bind fun ds => (rFillS T z m i ds.2).bind fun ss => some ((⟨true, ds.1, ss.1⟩ : Bk), wantR T z ss.2 [125])) ho rfl rfl (fun hl => ?_) fun f hf s hs => (bFillD hf hs (by omega)).bind fun u s hs => B2 f hf u s hs
  refine (fillD_sim i _ (o + 1) (by omega) hm).and (fun ds k2 _ => ?_) fun f hf u s hs => B2 f hf u s hs
  refine (fillS_sim i _ (o + 1) (by omega) hm).and (fun ss k3 _ => ?_) fun f hf u s hs => B3 ds f hf u s hs
  exact Sim.close (F := fun r => .ok ((⟨true, ds, ss⟩ : Bk), r)) (g := fun s => some ((⟨true, ds, ss⟩ : Bk), s)) (by omega) rfl rfl Sim.ret fun f hf s hs => Bd.ret hs
theorem head_sim (last k o : Nat) : Sim T o (pHead z last (T.drop k)) (some (rHead T z last (S0 k o))) := by
  unfold pHead rHead
  rw [isR_S0, isR_S0, isR_S0, isR_S0, isR_S0]
  have w1 : ∀ {x : Str} {c : Bool} (i : Nat × Bool), openB x = false → closeB x = false → (c && isW x (T.drop k)) = true → Sim T o (.ok (i, (T.drop k).tail)) (some (i, wantR T z (S0 k o) x)) := fun i h1 h2 h => by
    rw [Bool.and_eq_true] at h
    rw [List.tail_drop, wantR_yes h.2 h1 h2]; exact Sim.ret
  have split : ∀ {b : Bool} {X1 X2 : Rs (Nat × Bool)} {y1 y2 : (Nat × Bool) × R3}, (b = true → Sim T o X1 (some y1)) → (b = false → Sim T o X2 (some y2)) → Sim T o (if b = true then X1 else X2) (some (if b = true then y1 else y2)) := by
    intro b X1 X2 y1 y2 h1 h2
    cases b with
    | true => exact h1 rfl
    | false => exact h2 rfl
  refine split (fun h => w1 (0, true) rfl rfl h) (fun _ => ?_)
  refine split (fun h => ?_) (fun _ => ?_)
  · rw [Bool.and_eq_true] at h
    rw [List.tail_drop, wantR_yes h.2 rfl rfl, isR_S0]
    refine split (fun h => ?_) (fun _ => ?_)
    · rw [Bool.and_eq_true] at h
      rw [List.tail_drop, wantR_yes h.2 rfl rfl]; exact Sim.ret
    · exact Sim.want (F := fun r => .ok ((3, true), r)) (g := fun s => some ((3, true), s)) rfl rfl (fun _ => Sim.ret) fun f hf s hs => Bd.ret hs
  refine split (fun h => w1 (2, true) rfl rfl h) (fun _ => split (fun h => w1 (4, true) rfl rfl h) (fun _ => ?_))
  refine split (fun h => ?_) (fun _ => Sim.ret)
  rw [Bool.and_eq_true] at h
  rw [List.tail_drop, wantR_yes h.2 rfl rfl]
  exact Sim.want (F := fun r => .ok ((5, true), r)) (g := fun s => some ((5, true), s)) rfl rfl (fun _ => Sim.ret) fun f hf s hs => Bd.ret hs
theorem bFill {m i : Nat} {f : Fl} (hf : f.1 ≠ 0) {s : R3} (hs : s.f = f) (hm : 1 ≤ m) : Bd f (rFill T z m i s) := by
  unfold rFill
  rw [wantR_bad (bad_f hf hs)]
  exact (bFillD hf hs hm).bind fun ds s hs => (bFillS hf hs hm).bind fun ss s hs => Bd.want hf hs
theorem bProg {m last : Nat} {out : List Bk} {s : R3} (h : badR s = true) (hm : 1 ≤ m) : rProg T z m last out s = some (out, s) := by
  obtain ⟨q, rfl⟩ : ∃ q, m = q + 1 := ⟨m - 1, by omega⟩
  rw [rProg_eq, if_pos h]
theorem prog_sim : ∀ (n last : Nat) (out : List Bk) (k o m : Nat), o = 0 → 4 * n + 24 ≤ m → Sim T 0 (pProg z n last out (T.drop k)) (rProg T z m last out (S0 k o)) := by
  intro n
  induction n with
  | zero => intro last out k o m _ _; rw [pProg]; exact Sim.zero
  | succ n ih =>
    intro last out k o m ho hm
    subst ho
    obtain ⟨m, rfl⟩ : ∃ q, m = q + 1 := ⟨m - 1, by omega⟩
    rw [rProg_eq, pProg_eq, badR_S0, if_neg Bool.false_ne_true]
    let G : (Nat × Bool) × R3 → Option (List Bk × R3) := fun h => if h.1.2 = true then (rFill T z m h.1.1 h.2).bind fun b => rProg T z m (h.1.1 + 1) (out.set h.1.1 b.1) b.2 else some (out, h.2)
    refine (head_sim last k 0).and (o' := 0) (g := G) (fun i k2 _ => ?_) fun f hf i s hs => ?_
    · refine Sim.pos (fun _ => ?_) (fun _ => Sim.ret)
      exact (fill_sim i.1 k2 0 (by omega) (by omega)).and (fun b k3 _ => ih _ _ _ 0 _ rfl (by omega)) fun f hf u s hs => by rw [bProg (bad_f hf hs) (by omega)]; exact Bd.ret hs
    · show Bd f (if i.2 = true then _ else _)
      split
      · exact (bFill hf hs (by omega)).bind fun b s hs => by rw [bProg (bad_f hf hs) (by omega)]; exact Bd.ret hs
      · exact Bd.ret hs
end
def resR {α : Type} (T : List Tk) (z : Nat) (e : α) (p : α × R3) : α × Fl := if badR (endS T z p.2) = true then (e, (endS T z p.2).f) else (p.1, (0, 0))
theorem sim_end {α : Type} {T : List Tk} {z o : Nat} {X : Rs α} {Y : Option (α × R3)} (e : α) (h : Sim T o X Y) (hf : ∀ fl, andR X endR = .error fl → fl.1 ≠ 0) : ∃ p, Y = some p ∧ resR T z e p = resOf e (andR X endR) := by
  cases X with
  | ok q =>
    obtain ⟨a, r⟩ := q
    obtain ⟨k, rfl, rfl⟩ := h
    refine ⟨_, rfl, ?_⟩
    show _ = resOf e (endR a (T.drop k))
    unfold resR endS
    dsimp only
    rw [badR_S0]
    by_cases hk : k < T.length
    · rw [endR_more z hk, if_pos (show (!false && decide ((S0 k o).k < T.length)) = true from by rw [show (S0 k o).k = k from rfl, decide_eq_true hk]; rfl)]
      rfl
    · rw [endR_done hk, if_neg (show ¬ (!false && decide ((S0 k o).k < T.length)) = true from by rw [show (S0 k o).k = k from rfl, decide_eq_false hk]; decide)]
      rfl
  | error fl =>
    have h0 := hf fl rfl
    obtain ⟨x, s, rfl, hs⟩ := h h0
    refine ⟨_, rfl, ?_⟩
    have hb := bad_f h0 hs
    unfold resR
    dsimp only
    rw [endS_bad hb, if_pos hb, hs]
    rfl
theorem parse_sim {s : Str} (hz : (readP s).2.1 = 0) (hf : ∀ fl, parseP s = .error fl → fl.1 ≠ 0) {m : Nat} (hm : 4 * fuel (readP s).1 + 24 ≤ m) :
    ∃ p, rProg (readP s).1 s.length m 0 (List.replicate 6 noBk) (S0 0 0) = some p ∧ resR (readP s).1 s.length (List.replicate 6 noBk) p = resOf (List.replicate 6 noBk) (parseP s) := by
  have e : parseP s = andR (pProg s.length (fuel (readP s).1) 0 (List.replicate 6 noBk) (readP s).1) endR := face_go hz
  rw [e] at hf ⊢
  exact sim_end _ (prog_sim (T := (readP s).1) _ 0 _ 0 0 m rfl hm) hf
end Go.Prs
end

section
namespace Go.Sx
open Go.RowKit Go.Tree Go.Tok Go.Prs
section
variable {α β γ : Type} {ob : R3 → Obj} {rb : Nat} {ok : R3 → Prop} {V : α → β → Value} {M : World → (Nat → Prop) → α → β → Prop} {X : Option (α × R3)}
def QT (ob : R3 → Obj) (ok : R3 → Prop) (rb : Nat) (V : α → β → Value) (M : World → (Nat → Prop) → α → β → Prop) (a : α) (s1 : R3) (w : World) : Value → World → Prop := fun v w' =>
  ∃ b, v = V a b ∧ ok s1 ∧ M w' (Nn w w') a b ∧ Fr (fun j => j = rb) w w' ∧ w'.heap[rb]? = some (ob s1)
section
variable {P : Program} {ops : Array Oper} {Q : Exit → Act → World → Prop} {c : Cf} {e : Env} {rest : List Oper} {o : Oper} {d : Nat} {B : Base} {L : Heap} {f : FuncId} {args : Array Value} {F : α × R3 → Option γ} {g : γ} {w0 : World} {S0 : Nat → Prop} {o1 : Obj}
theorem w_rt (i : Nat) (hi : L[i]? = some (rb, o1)) (hx : (w0, S0) ∈ B) (hM : TL M) (hG : X.bind F = some g) (hr : ∀ w, RunE P o (ev c.n e) w f args) (hg : plainB o = true) (hd : o.dst = some d)
    (hc : ∀ a s1, X = some (a, s1) → ∀ w, St B L w → Ret P f args w (QT ob ok rb V M a s1 w))
    (h : ∀ a s1 b w1, X = some (a, s1) → F (a, s1) = some g → ok s1 → Kt (w1, inL L) w0.heap.size M a b → WX .sq P ops c Q rest (upd e d (V a b)) ((w1, inL L) :: B) (L.set i (rb, ob s1))) : WX .sq P ops c Q (o :: rest) e B L := by
  cases hX : X with
  | none => rw [hX] at hG; cases hG
  | some q =>
    obtain ⟨a, s1⟩ := q
    rw [hX] at hG
    refine zP hr hg hd (hc a s1 hX) ?_
    rintro w hw v w' ⟨b, rfl, h3, h4, h5, h6⟩
    obtain ⟨hs, hk⟩ := pc_new (ob := fun _ => ob s1) (k1 := 0) hi hx hM hw h4 h5 h6
    exact ⟨_, _, hs, h a s1 b w' hX hG h3 hk⟩
theorem o_rt {fuel q : Nat} {S : World → Prop} {listed : Array Bool} (i : Nat) (hq : ops[q]? = some o) (hi : L[i]? = some (rb, o1)) (hx : (w0, S0) ∈ B) (hM : TL M) (hG : X.bind F = some g) (hr : ∀ w, RunE P o (ev c.n e) w f args) (hg : plainB o = true) (hd : o.dst = some d)
    (hc : ∀ a s1, X = some (a, s1) → ∀ w, St B L w → Ret P f args w (QT ob ok rb V M a s1 w))
    (h : ∀ a s1 b w1, X = some (a, s1) → F (a, s1) = some g → ok s1 → Kt (w1, inL L) w0.heap.size M a b → WH P ops c Q S fuel (listed.setIfInBounds q true) (upd e d (V a b)) ((w1, inL L) :: B) (L.set i (rb, ob s1))) : WO P ops c Q S fuel listed q e B L := by
  cases hX : X with
  | none => rw [hX] at hG; cases hG
  | some p =>
    obtain ⟨a, s1⟩ := p
    rw [hX] at hG
    refine o_callP hq hg hd hr (R := fun w v w' => QT ob ok rb V M a s1 w v w') (E := fun _ _ _ => False) (fun w hw => (hc a s1 hX w hw).toP) ?_ (fun _ _ _ _ h => h.elim)
    rintro w hw v w' ⟨b, rfl, h3, h4, h5, h6⟩
    obtain ⟨hs, hk⟩ := pc_new (ob := fun _ => ob s1) (k1 := 0) hi hx hM hw h4 h5 h6
    exact ⟨_, _, hs, h a s1 b w' hX hG h3 hk⟩
theorem zW {v0 : Value} {s1 : R3} (i : Nat) (hi : L[i]? = some (rb, o1)) (hr : ∀ w, RunE P o (ev c.n e) w f args) (hg : plainB o = true) (hd : o.dst = some d)
    (hc : ∀ w, St B L w → Ret P f args w fun v w' => v = v0 ∧ Fr (fun j => j = rb) w w' ∧ w'.heap[rb]? = some (ob s1))
    (h : WX .sq P ops c Q rest (upd e d v0) B (L.set i (rb, ob s1))) : WX .sq P ops c Q (o :: rest) e B L := by
  refine zP hr hg hd hc ?_
  rintro w hw v w' ⟨rfl, h5, h6⟩
  exact ⟨_, _, hw.mod i hi h5 h6, h⟩
theorem zQ {T : List Tk} {s s1 : R3} {x : Str} (i : Nat) (hi : L[i]? = some (rb, ob s)) (hr : ∀ w, RunE P o (ev c.n e) w f args) (hg : plainB o = true) (hd : o.dst = some d)
    (hc : ∀ w, St B L w → Ret P f args w fun v w' => v = .bool (isR T s x) ∧ Fr (fun j => j = rb) w w' ∧ w'.heap[rb]? = some (ob (if isR T s x = true then s1 else s)))
    (ht : isR T s x = true → WX .sq P ops c Q rest (upd e d (.bool true)) B (L.set i (rb, ob s1))) (hf : isR T s x = false → WX .sq P ops c Q rest (upd e d (.bool false)) B L) : WX .sq P ops c Q (o :: rest) e B L := by
  refine zP hr hg hd hc ?_
  rintro w hw v w' ⟨rfl, h5, h6⟩
  cases hb : isR T s x with
  | true =>
    rw [hb, if_pos rfl] at h6
    exact ⟨_, _, hw.mod i hi h5 h6, ht hb⟩
  | false =>
    rw [hb, if_neg Bool.false_ne_true] at h6
    have := hw.mod i hi h5 h6
    rw [set_same hi] at this
    exact ⟨_, _, this, hf hb⟩
end
end
section
variable {P : Program} {ops : Array Oper} {Q : Exit → Act → World → Prop} {c : Cf} {e : Env} {rest : List Oper} {o : Oper} {d : Nat} {B : Base} {L : Heap} {x y : Operand} {T : TypeId} {p : String} {ed : Array Edge} {t te bytes : Nat} {z v : Value} {xs : List Value} {W : Heap}
theorem w_val (hg : plainB o = true) (hd : o.dst = some d) (h : ∀ w, St B L w → ∃ v w' B' L', Run P o (ev c.n e) w v w' ∧ St B' L' w' ∧ WX .sq P ops c Q rest (upd e d v) B' L') : WX .sq P ops c Q (o :: rest) e B L := by
  unfold WX at *
  intro w hw
  obtain ⟨v, w', B', L', h1, h2, h3⟩ := h w hw
  exact s_run h1 hg hd (h3 w' h2)
theorem w_exs {X : Bw} {s0 : Nat} {ys : List Ex} {b : Option Addr × Nat} {n : Nat} (hT : slT P t te 4 bytes z) (hx : ev c.n e x = v) (hv : Own te 4 v xs n W) (hy : ev c.n e y = .slice b.1 ys.length b.2) (hK : Kt X s0 exsV ys b) (hX : X ∈ B) (hn : n + ys.length ≤ 1000001) (hby : bytes ≤ 1000)
    (h : ∀ news v' W', Kt X s0 (Mc 4 exM) ys news → news.length = ys.length * 4 → Own te 4 v' (xs ++ news) (n + ys.length) W' → WX .sq P ops c Q rest (upd e d v') B (L ++ W')) : WX .sq P ops c Q (⟨some d, .call ⟨.builtin .append, #[x, y], #[t, t]⟩, T, p, ed, none⟩ :: rest) e B (W ++ L) := by
  obtain ⟨news, h1, h2, h3⟩ := app_exs (L := L) (ρ := ev c.n e) (D := some d) (g := none) (T := T) (p := p) (ed := ed) hT hx hv hy hK hX hn hby
  refine w_val rfl rfl fun w hw => ?_
  obtain ⟨v', w', W', k1, k2, k3⟩ := h3 [] w hw
  exact ⟨v', w', B, _, k1, St.perm k3 (by rw [List.nil_append]; exact List.perm_append_comm), h news v' W' h1 h2 k2⟩
end
theorem w_let {P : Program} {ops : Array Oper} {Q : Exit → Act → World → Prop} {c : Cf} {e : Env} {rest : List Oper} {B : Base} {L : Heap} {sb : Nat} {o : Obj} (h : ∀ w, St B ((sb, o) :: L) w → (∀ s0, s0 ≤ sb → Nb s0 (w, inL L) sb) → WX .sq P ops c Q rest e ((w, inL L) :: B) L) : WX .sq P ops c Q rest e B ((sb, o) :: L) := by
  unfold WX at *
  intro w hw
  have hn := hw.nd
  rw [List.map_cons, List.nodup_cons] at hn
  exact h w hw (fun s0 hs => ⟨hs, lt_of_blk (hw.at_ 0 rfl), hn.1⟩) w (hw.drop (List.sublist_cons_self _ _)).base1
theorem exsV.two {w : World} {N : Nat → Prop} {e1 e2 : Ex} {b1 b2 : Option Addr × Nat} {sb : Nat} {T : TypeId} (h1 : exT w N e1 b1) (h2 : exT w N e2 b2) (hb : w.heap[sb]? = some (cel (exE e1 b1 ++ exE e2 b2) T)) (hN : N sb) : exsV w N [e1, e2] (some ⟨sb, 0, none⟩, 2) := ⟨Nat.le_refl _, kid2 h1 h2 hb hN⟩
theorem exT.pair {w : World} {N : Nat → Prop} {op : Nat} {e1 e2 : Ex} {b1 b2 : Option Addr × Nat} {kb : Nat} {T : TypeId} (ho : op ≠ 2 ∧ op ≠ 3) (h1 : exT w N e1 b1) (h2 : exT w N e2 b2) (hb : w.heap[kb]? = some (cel (exE e1 b1 ++ exE e2 b2) T)) (hN : N kb) : exT w N (pair op e1 e2) (some ⟨kb, 0, none⟩, 2) :=
  ⟨Nat.le_refl _, kid2 h1 h2 hb hN, fun h => absurd h ho.1, fun h => absurd h ho.2⟩
end Go.Sx
end

section
namespace Go.Proofs.YtaniogadknakoaaGreatDoor
open Go.RowKit Go.Sx
open Go.Tok Go.Tree Go.Prs
abbrev Rr (sv : Value) (z : Nat) (s : R3) : Obj := cel [sv, .int .i64 (s.k : Nat), .int .i64 (z : Nat), .int .i64 s.o, .int .i64 (s.f.1 : Nat), .int .i64 (s.f.2 : Nat)] 69
theorem drop_at {T : List Tk} {k : Nat} (h : k < T.length) : T.drop k = T[k] :: T.drop (k + 1) := List.drop_eq_getElem_cons h
theorem isW_at {T : List Tk} {k : Nat} (h : k < T.length) (x : Str) : isW x (T.drop k) = (!decide (T[k].1 = 2) && decide (T[k].2.1 = x)) := by rw [drop_at h]; rfl
theorem isW_end {T : List Tk} {k : Nat} (h : T.length ≤ k) (x : Str) : isW x (T.drop k) = false := by rw [List.drop_eq_nil_of_le h]; rfl
theorem named_at {T : List Tk} {k : Nat} (h : k < T.length) : named (T.drop k) = (decide (T[k].1 = 1) && nameOk T[k].2.1) := by rw [drop_at h]; rfl
theorem named_end {T : List Tk} {k : Nat} (h : T.length ≤ k) : named (T.drop k) = false := by rw [List.drop_eq_nil_of_le h]; rfl
theorem place_at {T : List Tk} {k z : Nat} (h : k < T.length) : place z (T.drop k) = T[k].2.2 := by rw [drop_at h]; rfl
theorem place_end {T : List Tk} {k z : Nat} (h : T.length ≤ k) : place z (T.drop k) = z := by rw [List.drop_eq_nil_of_le h]; rfl
theorem isR_lt {T : List Tk} {s : R3} {x : Str} (h : isR T s x = true) : s.k < T.length := by
 unfold isR at h
 rw [Bool.and_eq_true] at h
 exact isW_lt h.2

theorem bad_r (T : List Tk) (z : Nat) (sv : Value) (s : R3) (rb : Nat) (w : World) (hP : Pe w rb T z sv) (hb : w.heap[rb]? = some (Rr sv z s)) (hk : s.k ≤ T.length) :
  Ret Tryz.prog 25 #[.pointer (some ⟨rb, 0, none⟩)] w (fun v w' => v = .bool (badR s) ∧ Ext w w') := by
 refine enter (S := No) (l := [_]) (L := []) 9 Tryz.func25 rfl rfl rfl (St.start w No) (yA (aB rfl (yC (mP rfl (zI rfl (zf fa69_4 rfl (zf fa32_0 rfl (zl z30 rfl (fun _ h => cel_oldb hb zm0 (fun h => h) rfl h) (zg (fun _ => R_ne rfl rfl) (aB rfl (yB (ze (zo (v := .bool _) rfl rfl rfl ?_))))))))))))); exact fun w' hw => ⟨congrArg Value.bool (decide_eq_decide.2 (by omega)), hw.fr _ zm0⟩

theorem is_r (T : List Tk) (z : Nat) (sv : Value) (s : R3) (rb : Nat) (w : World) (hP : Pe w rb T z sv) (hb : w.heap[rb]? = some (Rr sv z s)) (hk : s.k ≤ T.length) (x : Str) :
  Ret Tryz.prog 29 #[.pointer (some ⟨rb, 0, none⟩), str x] w (fun v w' => v = .bool (isR T s x) ∧ Ext w w') := by
 obtain ⟨ta, tc, rfl, htk⟩ := hP.tk
 have hlen := hP.len
 have htok : s.k < T.length → ∃ (h : s.k < T.length) (tb t0 : Nat), ta = some ⟨tb, t0, none⟩ ∧ tb ≠ rb ∧ ∀ (j : Nat) v, (tkC T[s.k])[j]? = some v → w.cell? ⟨tb, t0 + s.k * 3 + j, none⟩ = some v := (fun h => by obtain ⟨b, o, h1, h0, h2⟩ := htk s.k T[s.k] (List.getElem?_eq_getElem h); exact ⟨h, b, o, h1, h0, h2⟩)
 refine enter (S := No) (l := [_, _]) (L := []) 49 Tryz.func29 rfl rfl rfl (St.start w No) (yA (aB rfl (yB (zq (c_draw mixed (by kernel_rfl) (mP rfl (zC (fun w => zR Tryz.func25 rfl rfl rfl) rfl rfl (fun w h => bad_r T z _ s rb w (hP.fr (h.fr _ zm0) (fun j hj => hj.elim)) (h.old hb zm0 (fun h => h)) hk) (zg (fun _ => R_not rfl) (mB rfl ?_))))))))); refine zp (t := 8) rfl (fun h1 => ?_) (fun h1 => ?_)
 ·refine zw rfl rfl (bV h1) (mP rfl (zw rfl rfl (bV h1) (zI rfl (zw rfl rfl (bV h1) (zf fa69_1 rfl (zw rfl rfl (bV h1) (zl z3 rfl (fun _ h => cel_oldb hb zm0 (fun h => h) rfl h) (zw rfl rfl (bV h1) (mP rfl (zw rfl rfl (bV h1) (zI rfl (zw rfl rfl (bV h1) (zf fa69_0 rfl (zw rfl rfl (bV h1) (zl z50 rfl (fun _ h => cel_oldb hb zm0 (fun h => h) rfl h) (zw rfl rfl (bV h1) (zg (fun _ => R_len sl50 rfl) (zw rfl rfl (bV h1) (zg (fun _ => R_lt rfl rfl) (zg (v := .bool _) (fun _ => zT (bV h1) rfl) (mB rfl ?_))))))))))))))))))))); refine zd (t := 20) rfl (fun h2 => ?_) (fun h2 => ?_)
  ·obtain ⟨hlt, tb, t0, rfl, hnb, htc⟩ := htok (by omega)
   refine zw rfl rfl (bT h2) (mP rfl (zw rfl rfl (bT h2) (zI rfl (zw rfl rfl (bT h2) (zf fa69_0 rfl (zw rfl rfl (bT h2) (zl z50 rfl (fun _ h => cel_oldb hb zm0 (fun h => h) rfl h) (zw rfl rfl (bT h2) (mP rfl (zw rfl rfl (bT h2) (zI rfl (zw rfl rfl (bT h2) (zf fa69_1 rfl (zw rfl rfl (bT h2) (zl z3 rfl (fun _ h => cel_oldb hb zm0 (fun h => h) rfl h) (zw rfl rfl (bT h2) (zg (fun _ => R_iaN (i := s.k) sl50 rfl rfl (by omega)) (zw rfl rfl (bT h2) (zf fa58_0 rfl (zw rfl rfl (bT h2) ?_)))))))))))))))))))); refine zl z5 rfl (fun _ h => by exact cel_old zm0 (htc 0 _ rfl) (fun h => h) h) ?_
   refine zw rfl rfl (bT h2) (zg (fun _ => R_ne rfl rfl) (zg (v := .bool _) (fun _ => zT (bT h2) rfl) (mB rfl ?_))); refine zd (t := 34) rfl (fun h3 => ?_) (fun h3 => ?_)
   ·refine zw rfl rfl (bT h3) (mP rfl (zw rfl rfl (bT h3) (zI rfl (zw rfl rfl (bT h3) (zf fa69_0 rfl (zw rfl rfl (bT h3) (zl z50 rfl (fun _ h => cel_oldb hb zm0 (fun h => h) rfl h) (zw rfl rfl (bT h3) (mP rfl (zw rfl rfl (bT h3) (zI rfl (zw rfl rfl (bT h3) (zf fa69_1 rfl (zw rfl rfl (bT h3) (zl z3 rfl (fun _ h => cel_oldb hb zm0 (fun h => h) rfl h) (zw rfl rfl (bT h3) (zg (fun _ => R_iaN (i := s.k) sl50 rfl rfl (by omega)) (zw rfl rfl (bT h3) (zf fa58_1 rfl (zw rfl rfl (bT h3) ?_)))))))))))))))))))); refine zl z9 rfl (fun _ h => by exact cel_old zm0 (htc 1 _ rfl) (fun h => h) h) ?_
    refine zw rfl rfl (bT h3) (zm (v := str _) rfl (zw rfl rfl (bT h3) (zg (fun _ => R_seq rfl rfl) (zg (v := .bool _) (fun _ => zT (bT h3) rfl) (aB rfl (yB (ze (zo (v := .bool _) rfl rfl rfl ?_)))))))); exact fun w' hw => ⟨congrArg Value.bool (by (have e := isW_at hlt x; simp_all [isR]; omega)), hw.fr _ zm0⟩
   ·refine zs rfl rfl (bF h3) (zs rfl rfl (bF h3) (zs rfl rfl (bF h3) (zs rfl rfl (bF h3) (zs rfl rfl (bF h3) (zs rfl rfl (bF h3) (zs rfl rfl (bF h3) (zs rfl rfl (bF h3) (zs rfl rfl (bF h3) (zs rfl rfl (bF h3) (zs rfl rfl (bF h3) (zs rfl rfl (bF h3) (zs rfl rfl (bF h3) (zg (v := .bool _) (fun _ => zF (bF h3) rfl) (aB rfl (yB (ze (zo (v := .bool _) rfl rfl rfl ?_))))))))))))))))); exact fun w' hw => ⟨congrArg Value.bool (by (have e := isW_at hlt x; simp_all [isR]; omega)), hw.fr _ zm0⟩
  ·refine zs rfl rfl (bF h2) (zs rfl rfl (bF h2) (zs rfl rfl (bF h2) (zs rfl rfl (bF h2) (zs rfl rfl (bF h2) (zs rfl rfl (bF h2) (zs rfl rfl (bF h2) (zs rfl rfl (bF h2) (zs rfl rfl (bF h2) (zs rfl rfl (bF h2) (zs rfl rfl (bF h2) (zs rfl rfl (bF h2) (zg (v := .bool _) (fun _ => zF (bF h2) rfl) (mB rfl ?_))))))))))))); (iterate 6 refine zs rfl rfl rfl ?_); refine zs rfl rfl rfl ?_
   (iterate 6 refine zs rfl rfl rfl ?_); refine zg (v := .bool _) (fun _ => zF rfl rfl) (aB rfl (yB (ze (zo (v := .bool _) rfl rfl rfl ?_)))); exact fun w' hw => ⟨congrArg Value.bool (by (have e := isW_end (T := T) (k := s.k) (by omega) x; simp_all [isR]; done)), hw.fr _ zm0⟩
 ·refine zs rfl rfl (bV h1) (zs rfl rfl (bV h1) (zs rfl rfl (bV h1) (zs rfl rfl (bV h1) (zs rfl rfl (bV h1) (zs rfl rfl (bV h1) (zs rfl rfl (bV h1) (zs rfl rfl (bV h1) (zs rfl rfl (bV h1) (zs rfl rfl (bV h1) (zg (v := .bool _) (fun _ => zF (bV h1) rfl) (mB rfl ?_))))))))))); (iterate 10 refine zs rfl rfl rfl ?_); refine zs rfl rfl rfl ?_
  refine zs rfl rfl rfl (zg (v := .bool _) (fun _ => zF rfl rfl) (mB rfl ?_)); (iterate 13 refine zs rfl rfl rfl ?_); refine zg (v := .bool _) (fun _ => zF rfl rfl) (aB rfl (yB (ze (zo (v := .bool _) rfl rfl rfl ?_)))); exact fun w' hw => ⟨congrArg Value.bool (by (simp_all [isR]; done)), hw.fr _ zm0⟩

theorem isName_r (T : List Tk) (z : Nat) (sv : Value) (s : R3) (rb : Nat) (w : World) (hP : Pe w rb T z sv) (hb : w.heap[rb]? = some (Rr sv z s)) (hk : s.k ≤ T.length) :
  Ret Tryz.prog 66 #[.pointer (some ⟨rb, 0, none⟩)] w (fun v w' => v = .bool (isNameR T s) ∧ Ext w w') := by
 obtain ⟨ta, tc, rfl, htk⟩ := hP.tk
 have hlen := hP.len
 have htok : s.k < T.length → ∃ (h : s.k < T.length) (tb t0 : Nat), ta = some ⟨tb, t0, none⟩ ∧ tb ≠ rb ∧ ∀ (j : Nat) v, (tkC T[s.k])[j]? = some v → w.cell? ⟨tb, t0 + s.k * 3 + j, none⟩ = some v := (fun h => by obtain ⟨b, o, h1, h0, h2⟩ := htk s.k T[s.k] (List.getElem?_eq_getElem h); exact ⟨h, b, o, h1, h0, h2⟩)
 refine enter (S := No) (l := [_]) (L := []) 46 Tryz.func66 rfl rfl rfl (St.start w No) (yA (aB rfl (yB (zq (c_draw mixed (by kernel_rfl) (mP rfl (zC (fun w => zR Tryz.func25 rfl rfl rfl) rfl rfl (fun w h => bad_r T z _ s rb w (hP.fr (h.fr _ zm0) (fun j hj => hj.elim)) (h.old hb zm0 (fun h => h)) hk) (zg (fun _ => R_not rfl) (mB rfl ?_))))))))); refine zp (t := 6) rfl (fun h1 => ?_) (fun h1 => ?_)
 ·refine zw rfl rfl (bV h1) (mP rfl (zw rfl rfl (bV h1) (zI rfl (zw rfl rfl (bV h1) (zf fa69_1 rfl (zw rfl rfl (bV h1) (zl z3 rfl (fun _ h => cel_oldb hb zm0 (fun h => h) rfl h) (zw rfl rfl (bV h1) (mP rfl (zw rfl rfl (bV h1) (zI rfl (zw rfl rfl (bV h1) (zf fa69_0 rfl (zw rfl rfl (bV h1) (zl z50 rfl (fun _ h => cel_oldb hb zm0 (fun h => h) rfl h) (zw rfl rfl (bV h1) (zg (fun _ => R_len sl50 rfl) (zw rfl rfl (bV h1) (zg (fun _ => R_lt rfl rfl) (zg (v := .bool _) (fun _ => zT (bV h1) rfl) (mB rfl ?_))))))))))))))))))))); refine zd (t := 18) rfl (fun h2 => ?_) (fun h2 => ?_)
  ·obtain ⟨hlt, tb, t0, rfl, hnb, htc⟩ := htok (by omega)
   refine zw rfl rfl (bT h2) (mP rfl (zw rfl rfl (bT h2) (zI rfl (zw rfl rfl (bT h2) (zf fa69_0 rfl (zw rfl rfl (bT h2) (zl z50 rfl (fun _ h => cel_oldb hb zm0 (fun h => h) rfl h) (zw rfl rfl (bT h2) (mP rfl (zw rfl rfl (bT h2) (zI rfl (zw rfl rfl (bT h2) (zf fa69_1 rfl (zw rfl rfl (bT h2) (zl z3 rfl (fun _ h => cel_oldb hb zm0 (fun h => h) rfl h) (zw rfl rfl (bT h2) (zg (fun _ => R_iaN (i := s.k) sl50 rfl rfl (by omega)) (zw rfl rfl (bT h2) (zf fa58_0 rfl (zw rfl rfl (bT h2) (zl z5 rfl (fun _ h => cel_old zm0 (htc 0 _ rfl) (fun h => h) h) (zw rfl rfl (bT h2) (zg (fun _ => R_eq rfl rfl) (zg (v := .bool _) (fun _ => zT (bT h2) rfl) (mB rfl ?_))))))))))))))))))))))))); refine zd (t := 32) rfl (fun h3 => ?_) (fun h3 => ?_)
   ·refine zw rfl rfl (bT h3) (mP rfl (zw rfl rfl (bT h3) (zI rfl (zw rfl rfl (bT h3) (zf fa69_0 rfl (zw rfl rfl (bT h3) (zl z50 rfl (fun _ h => cel_oldb hb zm0 (fun h => h) rfl h) (zw rfl rfl (bT h3) (mP rfl (zw rfl rfl (bT h3) (zI rfl (zw rfl rfl (bT h3) (zf fa69_1 rfl (zw rfl rfl (bT h3) (zl z3 rfl (fun _ h => cel_oldb hb zm0 (fun h => h) rfl h) (zw rfl rfl (bT h3) (zg (fun _ => R_iaN (i := s.k) sl50 rfl rfl (by omega)) (zw rfl rfl (bT h3) (zf fa58_1 rfl (zw rfl rfl (bT h3) (zl z9 rfl (fun _ h => cel_old zm0 (htc 1 _ rfl) (fun h => h) h) (zw rfl rfl (bT h3) ?_))))))))))))))))))))))
    have htl : T[s.k].2.1.length ≤ 10000000 := (hP.tb T[s.k] (List.getElem_mem hlt)).1
    refine zC (args := #[str T[s.k].2.1]) (fun w => zR Tryz.func111 rfl rfl rfl) rfl rfl (fun w h => rName_spec (T[s.k]).2.1 htl w) (zg (v := .bool _) (fun _ => zT (bT h3) rfl) (aB rfl (yB (ze (zo (v := .bool _) rfl rfl rfl ?_))))); exact fun w' hw => ⟨congrArg Value.bool (by (have e := named_at hlt; simp_all [isNameR]; omega)), hw.fr _ zm0⟩
   ·refine zs rfl rfl (bF h3) (zs rfl rfl (bF h3) (zs rfl rfl (bF h3) (zs rfl rfl (bF h3) (zs rfl rfl (bF h3) (zs rfl rfl (bF h3) (zs rfl rfl (bF h3) (zs rfl rfl (bF h3) (zs rfl rfl (bF h3) (zs rfl rfl (bF h3) (zs rfl rfl (bF h3) (zs rfl rfl (bF h3) (zg (v := .bool _) (fun _ => zF (bF h3) rfl) (aB rfl (yB (ze (zo (v := .bool _) rfl rfl rfl ?_)))))))))))))))); exact fun w' hw => ⟨congrArg Value.bool (by (have e := named_at hlt; simp_all [isNameR]; omega)), hw.fr _ zm0⟩
  ·refine zs rfl rfl (bF h2) (zs rfl rfl (bF h2) (zs rfl rfl (bF h2) (zs rfl rfl (bF h2) (zs rfl rfl (bF h2) (zs rfl rfl (bF h2) (zs rfl rfl (bF h2) (zs rfl rfl (bF h2) (zs rfl rfl (bF h2) (zs rfl rfl (bF h2) (zs rfl rfl (bF h2) (zs rfl rfl (bF h2) (zg (v := .bool _) (fun _ => zF (bF h2) rfl) (mB rfl ?_))))))))))))); (iterate 6 refine zs rfl rfl rfl ?_); refine zs rfl rfl rfl ?_
   (iterate 5 refine zs rfl rfl rfl ?_); refine zg (v := .bool _) (fun _ => zF rfl rfl) (aB rfl (yB (ze (zo (v := .bool _) rfl rfl rfl ?_)))); exact fun w' hw => ⟨congrArg Value.bool (by (have e := named_end (T := T) (k := s.k) (by omega); simp_all [isNameR]; done)), hw.fr _ zm0⟩
 ·refine zs rfl rfl (bV h1) (zs rfl rfl (bV h1) (zs rfl rfl (bV h1) (zs rfl rfl (bV h1) (zs rfl rfl (bV h1) (zs rfl rfl (bV h1) (zs rfl rfl (bV h1) (zs rfl rfl (bV h1) (zs rfl rfl (bV h1) (zs rfl rfl (bV h1) (zg (v := .bool _) (fun _ => zF (bV h1) rfl) (mB rfl ?_))))))))))); (iterate 10 refine zs rfl rfl rfl ?_); refine zs rfl rfl rfl ?_
  refine zs rfl rfl rfl (zg (v := .bool _) (fun _ => zF rfl rfl) (mB rfl ?_)); (iterate 12 refine zs rfl rfl rfl ?_); refine zg (v := .bool _) (fun _ => zF rfl rfl) (aB rfl (yB (ze (zo (v := .bool _) rfl rfl rfl ?_)))); exact fun w' hw => ⟨congrArg Value.bool (by (simp_all [isNameR]; done)), hw.fr _ zm0⟩

theorem place_r (T : List Tk) (z : Nat) (sv : Value) (s : R3) (rb : Nat) (w : World) (hP : Pe w rb T z sv) (hb : w.heap[rb]? = some (Rr sv z s)) (hk : s.k ≤ T.length) :
  Ret Tryz.prog 63 #[.pointer (some ⟨rb, 0, none⟩)] w (fun v w' => v = .int .i64 (place z (T.drop s.k) : Nat) ∧ Ext w w') := by
 obtain ⟨ta, tc, rfl, htk⟩ := hP.tk
 have hlen := hP.len
 have htok : s.k < T.length → ∃ (h : s.k < T.length) (tb t0 : Nat), ta = some ⟨tb, t0, none⟩ ∧ tb ≠ rb ∧ ∀ (j : Nat) v, (tkC T[s.k])[j]? = some v → w.cell? ⟨tb, t0 + s.k * 3 + j, none⟩ = some v := (fun h => by obtain ⟨b, o, h1, h0, h2⟩ := htk s.k T[s.k] (List.getElem?_eq_getElem h); exact ⟨h, b, o, h1, h0, h2⟩)
 refine enter (S := No) (l := [_]) (L := []) 28 Tryz.func63 rfl rfl rfl (St.start w No) (yA (aI rfl (yB (zq (zq (c_draw mixed (by kernel_rfl) (mP rfl (zI rfl (zf fa69_1 rfl (zl z3 rfl (fun _ h => cel_oldb hb zm0 (fun h => h) rfl h) (mP rfl (zI rfl (zf fa69_0 rfl (zl z50 rfl (fun _ h => cel_oldb hb zm0 (fun h => h) rfl h) (zg (fun _ => R_len sl50 rfl) (zg (fun _ => R_lt rfl rfl) (yB ?_))))))))))))))))); refine zD rfl (fun h1 => ?_) (fun h1 => ?_)
 ·obtain ⟨hlt, tb, t0, rfl, hnb, htc⟩ := htok (by omega)
  refine zq (c_draw mixed (by kernel_rfl) (mP rfl (zI rfl (zf fa69_0 rfl (zl z50 rfl (fun _ h => cel_oldb hb zm0 (fun h => h) rfl h) (mP rfl (zI rfl (zf fa69_1 rfl (zl z3 rfl (fun _ h => cel_oldb hb zm0 (fun h => h) rfl h) (zg (fun _ => R_iaN (i := s.k) sl50 rfl rfl (by omega)) (zf fa58_2 rfl ?_))))))))))); refine zl z3 rfl (fun _ h => by exact cel_old zm0 (htc 2 _ rfl) (fun h => h) h) ?_
  refine aI rfl (yB (ze (zt ((zo (v := .int _ _) rfl rfl rfl ?_))))); exact fun w' hw => ⟨by rw [place_at hlt], hw.fr _ zm0⟩
 ·refine zi (zk (yA (mP rfl (zI rfl (zf fa69_2 rfl (zl z3 rfl (fun _ h => cel_oldb hb zm0 (fun h => h) rfl h) (aI rfl (yB (ze (zo (v := .int _ _) rfl rfl rfl ?_)))))))))); exact fun w' hw => ⟨by rw [place_end (by omega)], hw.fr _ zm0⟩

theorem fail_r (T : List Tk) (z : Nat) (sv : Value) (s : R3) (rb : Nat) (w : World) (hP : Pe w rb T z sv) (hb : w.heap[rb]? = some (Rr sv z s)) (hk : s.k ≤ T.length) (e : Nat) :
  Ret Tryz.prog 31 #[.pointer (some ⟨rb, 0, none⟩), .int .i64 (e : Nat)] w (fun v w' => v = .tuple #[] ∧ Fr (fun j => j = rb) w w' ∧ w'.heap[rb]? = some (Rr sv z (failR T z s e))) := by
 obtain ⟨ta, tc, rfl, htk⟩ := hP.tk
 have hlen := hP.len
 have htok : s.k < T.length → ∃ (h : s.k < T.length) (tb t0 : Nat), ta = some ⟨tb, t0, none⟩ ∧ tb ≠ rb ∧ ∀ (j : Nat) v, (tkC T[s.k])[j]? = some v → w.cell? ⟨tb, t0 + s.k * 3 + j, none⟩ = some v := (fun h => by obtain ⟨b, o, h1, h0, h2⟩ := htk s.k T[s.k] (List.getElem?_eq_getElem h); exact ⟨h, b, o, h1, h0, h2⟩)
 refine enter (S := (fun j => j = rb)) (l := [_, _]) (L := [(rb, Rr (.slice ta T.length tc) z s)]) 40 Tryz.func31 rfl rfl rfl (St.start1 w hb rfl) (zq (yA (mP rfl (zC (fun w => zR Tryz.func25 rfl rfl rfl) rfl rfl (fun w h => bad_r T z _ s rb w (hP.now zm0 h) (h.at_ 0 rfl) hk) (yB ?_))))); refine c_cond rfl (fun h1 => ?_) (fun h1 => ?_)
 ·refine ze (zt ((r_none (.inl rfl) rfl ?_))); exact fun w' hw => ⟨rfl, hw.fr _ zm0, by rw [failR, if_pos h1]; exact hw.at_ 0 rfl⟩
 ·refine zi (zk (yA (mP rfl (mI rfl (mP rfl (zI rfl (zf fa69_2 rfl (zL 0 z3 rfl rfl rfl (zg (fun _ => R_build bt32 rfl) (zI rfl (zf fa69_4 rfl (zV 0 rfl z32 rfl rfl rfl rfl rfl rfl rfl (yB (zq (c_draw mixed (by kernel_rfl) (mP rfl (zI rfl (zf fa69_1 rfl (zL 0 z3 rfl rfl rfl (mP rfl (zI rfl (zf fa69_0 rfl (zL 0 z50 rfl rfl rfl (zg (fun _ => R_len sl50 rfl) (zg (fun _ => R_lt rfl rfl) (yB ?_)))))))))))))))))))))))))); refine zD rfl (fun h2 => ?_) (fun h2 => ?_)
  ·obtain ⟨hlt, tb, t0, rfl, hnb, htc⟩ := htok (by omega)
   refine c_tail 15 mixed (by kernel_rfl) (mP rfl (mP rfl (zI rfl (zf fa69_0 rfl (zL 0 z50 rfl rfl rfl (mP rfl (zI rfl (zf fa69_1 rfl (zL 0 z3 rfl rfl rfl (zg (fun _ => R_iaN sl50 rfl rfl (by omega)) (zf fa58_2 rfl ?_))))))))))); refine zl z3 rfl (fun _ h => by exact cel_old zm0 (htc 2 _ rfl) hnb h) ?_; refine zI rfl (zf fa69_4 rfl (zf fa32_1 rfl (w_tailst 0 rfl z3 rfl rfl rfl rfl rfl rfl rfl (r_none (.inr rfl) rfl ?_)))); exact fun w' hw => ⟨rfl, hw.fr _ zm0, by rw [failR, if_neg (by rw [h1]; exact Bool.false_ne_true), place_at hlt]; exact hw.at_ 0 rfl⟩
  ·refine zi (r_none (.inr rfl) rfl ?_); exact fun w' hw => ⟨rfl, hw.fr _ zm0, by rw [failR, if_neg (by rw [h1]; exact Bool.false_ne_true), place_end (by omega)]; exact hw.at_ 0 rfl⟩

theorem more_r (T : List Tk) (z : Nat) (sv : Value) (s : R3) (rb : Nat) (w : World) (hP : Pe w rb T z sv) (hb : w.heap[rb]? = some (Rr sv z s)) (hk : s.k ≤ T.length) :
  Ret Tryz.prog 62 #[.pointer (some ⟨rb, 0, none⟩)] w (fun v w' => v = .tuple #[] ∧ Fr (fun j => j = rb) w w' ∧ w'.heap[rb]? = some (Rr sv z (moreR T z s))) := by
 refine enter (S := (fun j => j = rb)) (l := [_]) (L := [(rb, Rr sv z s)]) 16 Tryz.func62 rfl rfl rfl (St.start1 w hb rfl) (zq (yA (mP rfl (zI rfl (zf fa69_3 rfl (zL 0 z3 rfl rfl rfl (zg (fun _ => R_eq rfl rfl) (yB ?_)))))))); refine zD rfl (fun h1 => ?_) (fun h1 => ?_)
 ·refine zr (mP rfl (w_call1 0 rfl (fun w => zR Tryz.func31 rfl rfl rfl) rfl rfl (fun w h => fail_r T z sv s rb w (hP.now zm0 h) (h.at_ 0 rfl) hk 131) (yB (zr (mP rfl (zI rfl (zf fa69_3 rfl (zL 0 z3 rfl rfl rfl (zg (fun _ => R_add rfl rfl) (zI rfl (zf fa69_3 rfl (zV 0 rfl z3 rfl rfl rfl rfl rfl rfl rfl (zn (r_none (.inr rfl) rfl ?_)))))))))))))); exact fun w' hw => ⟨rfl, hw.fr _ zm0, by rw [moreR, if_pos (by omega)]; exact hw.at_ 0 rfl⟩
 ·refine zi (zk (zr (mP rfl (zI rfl (zf fa69_3 rfl (zL 0 z3 rfl rfl rfl (zg (fun _ => R_add rfl rfl) (zI rfl (zf fa69_3 rfl (zV 0 rfl z3 rfl rfl rfl rfl rfl rfl rfl (zn (r_none (.inr rfl) rfl ?_)))))))))))); exact fun w' hw => ⟨rfl, hw.fr _ zm0, by rw [moreR, if_neg (by omega)]; exact hw.at_ 0 rfl⟩

theorem failR_k {T : List Tk} {z e : Nat} {s : R3} : (failR T z s e).k = s.k := by unfold failR; split <;> rfl
theorem moreR_k {T : List Tk} {z : Nat} {s : R3} : (moreR T z s).k = s.k := by unfold moreR incR; split <;> simp [failR_k]
theorem step1_k {T : List Tk} {z : Nat} {s : R3} {x : Str} : (if openB x = true then moreR T z s else s).k = s.k := by split <;> simp [moreR_k]
theorem step2_k {T : List Tk} {z : Nat} {s : R3} {x : Str} : (if closeB x = true then decR (if openB x = true then moreR T z s else s) else (if openB x = true then moreR T z s else s)).k = s.k := by split <;> simp [decR, step1_k]
theorem wantR_k {T : List Tk} {z : Nat} {s : R3} {x : Str} (hk : s.k ≤ T.length) : (wantR T z s x).k ≤ T.length := by
 unfold wantR
 split
 ·rename_i h; have := isR_lt h; simp only [nxtR, step2_k]; omega
 ·rw [failR_k]; exact hk
theorem nameR_k {T : List Tk} {z : Nat} {s : R3} (hk : s.k ≤ T.length) : (nameR T z s).2.k ≤ T.length := by
 unfold nameR
 split
 ·rename_i h
  unfold isNameR at h
  rw [Bool.and_eq_true] at h
  have : s.k < T.length := by
   false_or_by_contra
   rw [named_end (by omega)] at h; cases h.2
  simp only [nxtR]; omega
 ·simp only [failR_k]; exact hk

theorem want_r (T : List Tk) (z : Nat) (sv : Value) (s : R3) (rb : Nat) (w : World) (hP : Pe w rb T z sv) (hb : w.heap[rb]? = some (Rr sv z s)) (hk : s.k ≤ T.length) (x : Str) :
  Ret Tryz.prog 27 #[.pointer (some ⟨rb, 0, none⟩), str x] w (fun v w' => v = .tuple #[] ∧ Fr (fun j => j = rb) w w' ∧ w'.heap[rb]? = some (Rr sv z (wantR T z s x))) := by
 have hlen := hP.len
 refine enter (S := (fun j => j = rb)) (l := [_, _]) (L := [(rb, Rr sv z s)]) 46 Tryz.func27 rfl rfl rfl (St.start1 w hb rfl) (zq (yA (mP rfl (zm (v := str _) rfl (zC (fun w => zR Tryz.func29 rfl rfl rfl) rfl rfl (fun w h => is_r T z sv s rb w (hP.now zm0 h) (h.at_ 0 rfl) hk x) (zg (fun _ => R_not rfl) (yB ?_))))))); refine c_condN rfl (fun h1 => ?_) (fun h1 => ?_)
 ·refine yA (mP rfl (w_call1 0 rfl (fun w => zR Tryz.func31 rfl rfl rfl) rfl rfl (fun w h => fail_r T z sv s rb w (hP.now zm0 h) (h.at_ 0 rfl) hk 130) (yB (ze (zt ((r_none (.inl rfl) rfl ?_))))))); exact fun w' hw => ⟨rfl, hw.fr _ zm0, by rw [wantR, if_neg (by rw [h1]; exact Bool.false_ne_true)]; exact hw.at_ 0 rfl⟩
 ·have hisR : isR T s x = true := h1
  refine zi (zk ?_); refine c_cut (fun e B L => e 0 = .pointer (some ⟨rb, 0, none⟩) ∧ e 1 = str x ∧ B = [(w, (fun j => j = rb))] ∧ L = [(rb, Rr sv z (if openB x = true then moreR T z s else s))]) ?_ ?_
  ·refine c_cut (fun e B L => e 0 = .pointer (some ⟨rb, 0, none⟩) ∧ e 1 = str x ∧ e 19 = .bool (openB x) ∧ B = [(w, (fun j => j = rb))] ∧ L = [(rb, Rr sv z s)]) ?_ ?_
   ·refine zr (zm (v := str _) rfl (zg (fun _ => R_seq rfl rfl) (mB rfl ?_))); refine zd (t := 12) rfl (fun h2 => ?_) (fun h2 => ?_)
    ·refine zs rfl rfl (bT h2) (zs rfl rfl (bT h2) (zg (v := .bool _) (fun _ => zT (bT h2) rfl) (mB rfl ?_))); (iterate 2 refine zs rfl rfl rfl ?_); refine zg (v := .bool _) (fun _ => zT rfl rfl) (zn ?_); exact k_mid ⟨rfl, rfl, (congrArg Value.bool (by unfold openB; simp_all)), rfl, rfl⟩
    ·refine zw rfl rfl (bF h2) (zm (v := str _) rfl (zw rfl rfl (bF h2) (zg (fun _ => R_seq rfl rfl) (zg (v := .bool _) (fun _ => zF (bF h2) rfl) (mB rfl ?_))))); refine zd (t := 16) rfl (fun h3 => ?_) (fun h3 => ?_)
     ·refine zs rfl rfl (bT h3) (zs rfl rfl (bT h3) (zg (v := .bool _) (fun _ => zT (bT h3) rfl) (zn ?_))); exact k_mid ⟨rfl, rfl, (congrArg Value.bool (by unfold openB; simp_all)), rfl, rfl⟩
     ·refine zw rfl rfl (bF h3) (zm (v := str _) rfl (zw rfl rfl (bF h3) (zg (fun _ => R_seq rfl rfl) (zg (v := .bool _) (fun _ => zF (bF h3) rfl) (zn ?_))))); exact k_mid ⟨rfl, rfl, (congrArg Value.bool (by unfold openB; simp_all)), rfl, rfl⟩
   rintro e B L ⟨e0_2, e1_2, e19_2, rfl, rfl⟩
   refine c_cond e19_2 (fun h4 => ?_) (fun h4 => ?_)
   ·refine zr (mP e0_2 (w_call1 0 rfl (fun w => zR Tryz.func62 rfl rfl rfl) rfl rfl (fun w h => more_r T z sv s rb w (hP.now zm0 h) (h.at_ 0 rfl) hk) (zn ?_))); exact k_mid ⟨e0_2, e1_2, rfl, (by rw [if_pos h4]; rfl)⟩
   ·refine zi ?_; exact k_mid ⟨e0_2, e1_2, rfl, (by rw [if_neg (by rw [h4]; exact Bool.false_ne_true)])⟩
  rintro e B L ⟨e0_1, e1_1, rfl, rfl⟩
  refine c_cut (fun e B L => e 0 = .pointer (some ⟨rb, 0, none⟩) ∧ e 1 = str x ∧ B = [(w, (fun j => j = rb))] ∧ L = [(rb, Rr sv z (if closeB x = true then decR (if openB x = true then moreR T z s else s) else (if openB x = true then moreR T z s else s)))]) ?_ ?_
  ·refine c_cut (fun e B L => e 0 = .pointer (some ⟨rb, 0, none⟩) ∧ e 1 = str x ∧ e 31 = .bool (closeB x) ∧ B = [(w, (fun j => j = rb))] ∧ L = [(rb, Rr sv z (if openB x = true then moreR T z s else s))]) ?_ ?_
   ·refine zr (zm (v := str _) e1_1 (zg (fun _ => R_seq rfl rfl) (mB rfl ?_))); refine zd (t := 24) rfl (fun h5 => ?_) (fun h5 => ?_)
    ·refine zs rfl rfl (bT h5) (zs rfl rfl (bT h5) (zg (v := .bool _) (fun _ => zT (bT h5) rfl) (mB rfl ?_))); (iterate 2 refine zs rfl rfl rfl ?_); refine zg (v := .bool _) (fun _ => zT rfl rfl) (zn ?_); exact k_mid ⟨e0_1, e1_1, (congrArg Value.bool (by unfold closeB; simp_all)), rfl, rfl⟩
    ·refine zw rfl rfl (bF h5) (zm (v := str _) e1_1 (zw rfl rfl (bF h5) (zg (fun _ => R_seq rfl rfl) (zg (v := .bool _) (fun _ => zF (bF h5) rfl) (mB rfl ?_))))); refine zd (t := 28) rfl (fun h6 => ?_) (fun h6 => ?_)
     ·refine zs rfl rfl (bT h6) (zs rfl rfl (bT h6) (zg (v := .bool _) (fun _ => zT (bT h6) rfl) (zn ?_))); exact k_mid ⟨e0_1, e1_1, (congrArg Value.bool (by unfold closeB; simp_all)), rfl, rfl⟩
     ·refine zw rfl rfl (bF h6) (zm (v := str _) e1_1 (zw rfl rfl (bF h6) (zg (fun _ => R_seq rfl rfl) (zg (v := .bool _) (fun _ => zF (bF h6) rfl) (zn ?_))))); exact k_mid ⟨e0_1, e1_1, (congrArg Value.bool (by unfold closeB; simp_all)), rfl, rfl⟩
   rintro e B L ⟨e0_4, e1_4, e31_4, rfl, rfl⟩
   refine c_cond e31_4 (fun h7 => ?_) (fun h7 => ?_)
   ·refine zr (mP e0_4 (zI rfl (zf fa69_3 rfl (zL 0 z3 rfl rfl rfl (zg (fun _ => R_sub rfl rfl) (zI rfl (zf fa69_3 rfl (zV 0 rfl z3 rfl rfl rfl rfl rfl rfl rfl (zn ?_))))))))); exact k_mid ⟨e0_4, e1_4, rfl, (by rw [if_pos (show closeB x = true from h7)]; rfl)⟩
   ·refine zi ?_; exact k_mid ⟨e0_4, e1_4, rfl, (by rw [if_neg (show ¬ closeB x = true by rw [h7]; exact Bool.false_ne_true)])⟩
  rintro e B L ⟨e0_3, e1_3, rfl, rfl⟩
  have hlt := isR_lt hisR; have hk2 := step2_k (T := T) (z := z) (s := s) (x := x)
  refine zr (mP e0_3 (zI rfl (zf fa69_1 rfl (zL 0 z3 rfl rfl rfl (zg (fun _ => R_addi rfl rfl (by omega)) (zI rfl (zf fa69_1 rfl (zV 0 rfl z3 rfl rfl rfl rfl rfl rfl rfl (zn (r_none (.inr rfl) rfl ?_)))))))))); exact fun w' hw => ⟨rfl, hw.fr _ zm0, by rw [wantR, if_pos hisR]; exact hw.at_ 0 rfl⟩

theorem may_r (T : List Tk) (z : Nat) (sv : Value) (s : R3) (rb : Nat) (w : World) (hP : Pe w rb T z sv) (hb : w.heap[rb]? = some (Rr sv z s)) (hk : s.k ≤ T.length) (x : Str) :
  Ret Tryz.prog 61 #[.pointer (some ⟨rb, 0, none⟩), str x] w (fun v w' => v = .bool (isR T s x) ∧ Fr (fun j => j = rb) w w' ∧ w'.heap[rb]? = some (Rr sv z (if isR T s x = true then wantR T z s x else s))) := by
 refine enter (S := (fun j => j = rb)) (l := [_, _]) (L := [(rb, Rr sv z s)]) 12 Tryz.func61 rfl rfl rfl (St.start1 w hb rfl) (yA (aB rfl (yB (zq (yA (mP rfl (zm (v := str _) rfl (zC (fun w => zR Tryz.func29 rfl rfl rfl) rfl rfl (fun w h => is_r T z sv s rb w (hP.now zm0 h) (h.at_ 0 rfl) hk x) (zg (fun _ => R_not rfl) (yB ?_)))))))))); refine c_condN rfl (fun h1 => ?_) (fun h1 => ?_)
 ·refine yA (aB rfl (yB (ze (zt ((zo (v := .bool _) rfl rfl rfl ?_)))))); exact fun w' hw => ⟨congrArg Value.bool h1.symm, hw.fr _ zm0, by rw [if_neg (by rw [h1]; exact Bool.false_ne_true)]; exact hw.at_ 0 rfl⟩
 ·refine zi (zk (yA (mP rfl (zm (v := str _) rfl (w_call1 0 rfl (fun w => zR Tryz.func27 rfl rfl rfl) rfl rfl (fun w h => want_r T z sv s rb w (hP.now zm0 h) (h.at_ 0 rfl) hk x) (yC (aB rfl (yB (ze (zo (v := .bool _) rfl rfl rfl ?_)))))))))); exact fun w' hw => ⟨congrArg Value.bool h1.symm, hw.fr _ zm0, by rw [if_pos h1]; exact hw.at_ 0 rfl⟩

theorem isNameR_lt {T : List Tk} {s : R3} (h : isNameR T s = true) : s.k < T.length := by
 unfold isNameR at h
 rw [Bool.and_eq_true] at h
 false_or_by_contra
 rw [named_end (by omega)] at h; cases h.2
theorem txt_at {T : List Tk} {k : Nat} (h : k < T.length) : txt (T.drop k) = T[k].2.1 := by rw [drop_at h]; rfl

theorem name_r (T : List Tk) (z : Nat) (sv : Value) (s : R3) (rb : Nat) (w : World) (hP : Pe w rb T z sv) (hb : w.heap[rb]? = some (Rr sv z s)) (hk : s.k ≤ T.length) :
  Ret Tryz.prog 64 #[.pointer (some ⟨rb, 0, none⟩)] w (fun v w' => v = str (nameR T z s).1 ∧ Fr (fun j => j = rb) w w' ∧ w'.heap[rb]? = some (Rr sv z (nameR T z s).2)) := by
 obtain ⟨ta, tc, rfl, htk⟩ := hP.tk
 have hlen := hP.len
 have htok : s.k < T.length → ∃ (h : s.k < T.length) (tb t0 : Nat), ta = some ⟨tb, t0, none⟩ ∧ tb ≠ rb ∧ ∀ (j : Nat) v, (tkC T[s.k])[j]? = some v → w.cell? ⟨tb, t0 + s.k * 3 + j, none⟩ = some v := (fun h => by obtain ⟨b, o, h1, h0, h2⟩ := htk s.k T[s.k] (List.getElem?_eq_getElem h); exact ⟨h, b, o, h1, h0, h2⟩)
 refine enter (S := (fun j => j = rb)) (l := [_]) (L := [(rb, Rr (.slice ta T.length tc) z s)]) 27 Tryz.func64 rfl rfl rfl (St.start1 w hb rfl) (yA (za (v := str _) rfl (yB (zq (yA (mP rfl (zC (fun w => zR Tryz.func66 rfl rfl rfl) rfl rfl (fun w h => isName_r T z _ s rb w (hP.now zm0 h) (h.at_ 0 rfl) hk) (zg (fun _ => R_not rfl) (yB ?_))))))))); refine c_condN rfl (fun h1 => ?_) (fun h1 => ?_)
 ·refine yA (mP rfl (w_call1 0 rfl (fun w => zR Tryz.func31 rfl rfl rfl) rfl rfl (fun w h => fail_r T z _ s rb w (hP.now zm0 h) (h.at_ 0 rfl) hk 130) (yC (za (v := str _) rfl (yB (ze (zt ((zo (v := str _) rfl rfl rfl ?_))))))))); exact fun w' hw => ⟨by rw [nameR, if_neg (by rw [h1]; exact Bool.false_ne_true)], hw.fr _ zm0, by rw [nameR, if_neg (by rw [h1]; exact Bool.false_ne_true)]; exact hw.at_ 0 rfl⟩
 ·have hlt0 := isNameR_lt h1; obtain ⟨hlt, tb, t0, rfl, hnb, htc⟩ := htok (by omega)
  refine zi (zk (yA (mP rfl (zI rfl (zf fa69_1 rfl (zL 0 z3 rfl rfl rfl (zg (fun _ => R_addi rfl rfl (by omega)) (zI rfl (zf fa69_1 rfl (zV 0 rfl z3 rfl rfl rfl rfl rfl rfl rfl (yB (zq (c_draw mixed (by kernel_rfl) (mP rfl (zI rfl (zf fa69_0 rfl (zL 0 z50 rfl rfl rfl (mP rfl (zI rfl (zf fa69_1 rfl (zL 0 z3 rfl rfl rfl (zg (fun _ => R_subN1 (n := s.k) rfl rfl (by omega)) (zg (fun _ => R_iaN (i := s.k) sl50 rfl rfl (by omega)) (zf fa58_1 rfl (zl (v := str T[s.k].2.1) z9 rfl (fun _ h => cel_old zm0 (htc 1 _ rfl) hnb h) (za (v := str T[s.k].2.1) rfl (yB (ze (zo (v := str T[s.k].2.1) rfl rfl rfl ?_))))))))))))))))))))))))))))); exact fun w' hw => ⟨by rw [nameR, if_pos h1, txt_at hlt], hw.fr _ zm0, by rw [nameR, if_pos h1]; exact hw.at_ 0 rfl⟩
end Go.Proofs.YtaniogadknakoaaGreatDoor
end
