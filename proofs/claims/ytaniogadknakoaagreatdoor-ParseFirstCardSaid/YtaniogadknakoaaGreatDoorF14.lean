/- Layer 13, ParseFirst: a fault by ErrSyntax at a token is the first one, and blanks or a remark behind a source that is read turn nothing (the card of the statement); without conditions. Part 14 of 14. -/
import Derived.Test.YtaniogadknakoaaGreatDoorF13
import Derived.Test.YtaniogadknakoaaGreatDoorF04
import Derived.Test.YtaniogadknakoaaGreatDoorF03
import Derived.Test.YtaniogadknakoaaGreatDoorF09
import Derived.HandedShaped
import Derived.Handed
import Derived.Test.YtaniogadknakoaaGreatDoorRows
import Derived.Deep.DeepHandedRow
import Derived.ProofKit
import Derived.LaidMore
import Derived.OpenShut
import Derived.Shelf.Vars
import Derived.Stop.Joined
import Derived.Test.YtaniogadknakoaaGreatDoorTie
import Derived.Test.YtaniogadknakoaaGreatDoorCards
import Derived.SevenTiedAt
section
/- The plain part of layer token: tokens with blanks and remarks between them. -/
namespace Go.Tok.B
open Go.Tok
/-- what may stand between tokens -/
def bls : List (List UInt8) := [[32], [10], [9, 47, 47, 32, 120, 10], [32, 32]]
def Jb (xs : List (List UInt8 × Tk)) : List UInt8 := xs.flatMap fun x => x.1 ++ x.2.2.1
end Go.Tok.B
end

section
/- The plain part of layer token: a token alone, before a blank, a line's end, or at the end. -/
namespace Go.Tok.W
open Go.Tok
/-! a token alone, before a blank or at the end -/
def Bl (R : List UInt8) : Prop := R = [] ∨ ∃ c r, (c = 32 ∨ c = 10) ∧ R = c :: r
/-! texts, each with a blank or a line's end behind it -/
def Sp (xs : List (Tk × UInt8)) : List UInt8 := xs.flatMap fun t => t.1.2.1 ++ [t.2]
def isSp (c : UInt8) : Prop := c = 32 ∨ c = 10
end Go.Tok.W
end

section
/- Trees: the tokens of what is written, apart in the text; expressions told apart. -/
namespace Go.Tree
open Go.Tok Go.Tok.W
/-! a token by itself -/
def Tk1 (s : Str) : Prop := ∃ kd, Go.Tok.Good (kd, s, 0)
/-! expressions told apart -/
mutual
theorem exSame_Z : ∀ x y : Ex, exZ x = exZ y → exSame x y = true
  | .mk o a n k, .mk o2 a2 n2 k2, h => by
    simp only [exZ, Ex.mk.injEq, true_and] at h
    have h2 := exsSame_Z k k2 h.2.2
    simp only [exSame, Ex.op, Ex.nm, Ex.kids, h.1, h.2.1, h2, decide_true, Bool.and_true]
theorem exsSame_Z : ∀ l m : List Ex, exsZ l = exsZ m → exsSame l m = true
  | [], [], _ => by simp [exsSame]
  | [], y :: m, h => by simp [exsZ] at h
  | x :: l, [], h => by simp [exsZ] at h
  | x :: l, y :: m, h => by
    simp only [exsZ, List.cons.injEq] at h
    rw [exsSame]; simp [exSame_Z x y h.1, exsSame_Z l m h.2]
end
/-! their tokens -/
def Tks (l : List Str) : Prop := ∀ s ∈ l, Tk1 s
end Go.Tree
end

section
/- The plain part of layer token: what TokenRises asks. -/
namespace Go.Tok
theorem readP_chain {s : List UInt8} (hs : s.length ≤ 20000) (h : (readP s).2.1 = 0) : Chain s 0 (readP s).1 := by
  by_cases h2 : (readS s).2.1 = 0
  · rw [readP_fine (by omega) h2]; exact chain_read h2
  · rw [readP_bad (by omega) h2] at h; exact absurd h h2
end Go.Tok
namespace Go.Tok
end Go.Tok
end

section
/- The plain part of layer parse: what two sources that are the same but for places give; bounds. -/
namespace Go.Tree
open Go.Prs
mutual
theorem smSame_Z : ∀ x y : Sm, smZ x = smZ y → smSame x y = true
  | .mk o a n k b e, .mk o2 a2 n2 k2 b2 e2, h => by
    simp only [smZ, Sm.mk.injEq, true_and] at h
    have h2 := exsSame_Z k k2 h.2.2.1
    have h3 := smsSame_Z b b2 h.2.2.2.1
    have h4 := smsSame_Z e e2 h.2.2.2.2
    simp only [smSame, Sm.op, Sm.nm, Sm.kids, Sm.body, Sm.els, h.1, h.2.1, h2, h3, h4, decide_true, Bool.and_true]
theorem smsSame_Z : ∀ l m : List Sm, smsZ l = smsZ m → smsSame l m = true
  | [], [], _ => by simp [smsSame]
  | [], y :: m, h => by simp [smsZ] at h
  | x :: l, [], h => by simp [smsZ] at h
  | x :: l, y :: m, h => by
    simp only [smsZ, List.cons.injEq] at h
    rw [smsSame]; simp [smSame_Z x y h.1, smsSame_Z l m h.2]
end
theorem pair_Z {α β : Type} {q : α → α → Bool} {g : α → β} (h : ∀ x y, g x = g y → q x y = true) : ∀ l m : List α, l.map g = m.map g → pairOk q l m = true
  | [], [], _ => by simp [pairOk]
  | [], y :: m, h => by simp at h
  | x :: l, [], h => by simp at h
  | x :: l, y :: m, e => by
    simp only [List.map_cons, List.cons.injEq] at e
    rw [pairOk_cons, h x y e.1, pair_Z h l m e.2]; rfl
theorem dcSame_Z (c d : Dc) (h : dcZ c = dcZ d) : dcSame c d = true := by
  simp only [dcZ, Dc.mk.injEq, true_and] at h
  obtain ⟨h1, h2, h3, h4, h5, h6⟩ := h
  simp only [dcSame, h1, h2, exsSame_Z _ _ h3, exsSame_Z _ _ h4, exsSame_Z _ _ h5, exsSame_Z _ _ h6, decide_true, Bool.and_true]
theorem bkSame_Z (x y : Bk) (h : bkZ x = bkZ y) : bkSame x y = true := by
  simp only [bkZ, Bk.mk.injEq] at h
  obtain ⟨h1, h2, h3⟩ := h
  simp only [bkSame, h1, pair_Z dcSame_Z _ _ h2, smsSame_Z _ _ h3, decide_true, Bool.and_true]
theorem pgSame_Z (p q : List Bk) (h : p.map bkZ = q.map bkZ) : pgSame p q = true := pair_Z bkSame_Z p q h
end Go.Tree
namespace Go.Tok
open Go.Prs
theorem lex_tw {s : List UInt8} : ∀ (m i : Nat) (x : Rd), m = s.length - i → i ≤ s.length → tw (lexS readN s i x).1 + 3 * i ≤ tw x.1 + 3 * s.length := by
  intro m
  induction m using Nat.strongRecOn with
  | _ m ih =>
    intro i x hm hi
    rcases Nat.lt_or_ge i s.length with hl | hl
    · cases hgo : (readN x (tokAt s i).1 (tokTx s i) i (tokAt s i).2.2).2 with
      | true =>
        have hN := readN_go hgo
        have h1 := tok_le hi
        have h2 := h1.2.2 hN.1
        have h3 := skipTo_le h1.2.1
        rw [lexS_go readN readN_no hl hgo]
        have := ih _ (by omega) _ (readN x (tokAt s i).1 (tokTx s i) i (tokAt s i).2.2).1 rfl h3.1
        rw [hN.2] at this ⊢
        rw [tw_snoc] at this
        have hx : (tokTx s i).length = (tokAt s i).2.1 - i := by unfold tokTx; simp only [List.length_take, List.length_drop]; omega
        dsimp only at this ⊢
        rw [hx] at this
        omega
      | false =>
        rw [lexS_end readN hl hgo]
        unfold readN
        split
        · dsimp only; omega
        · split
          · dsimp only; omega
          · rename_i hb h6; unfold readN at hgo; rw [if_neg hb, if_neg h6] at hgo; cases hgo
    · rw [lexS_stop readN (by omega)]; omega
theorem readP_tw (s : List UInt8) : tw (readP s).1 ≤ 3 * s.length := by
  have h1 := skipTo_le (s := s) (Nat.zero_le _)
  have h2 := lex_tw (s := s) _ _ ([], 0, 0) rfl h1.1
  unfold readP
  split
  · simp [tw]
  · split
    · unfold readS; dsimp only at h2 ⊢; rw [show tw ([] : List Tk) = 0 from rfl] at h2; omega
    · simp [tw]
end Go.Tok
namespace Go.Prs
open Go.Tok Go.Tree
theorem bkW_noBk : ∀ b ∈ List.replicate 6 noBk, bkW b ≤ 1 := fun b hb => by
  rw [(List.mem_replicate.1 hb).2]; simp [noBk, bkW, dcsW, smsW]
theorem res_W {s : Str} {M : Nat} (h1 : 1 ≤ M) (h : tw (readP s).1 ≤ M) : ∀ b ∈ (resOf (List.replicate 6 noBk) (parseP s)).1, bkW b ≤ M := by
  by_cases hz : (readP s).2.1 = 0
  · have e1 : parseP s = andR (pProg s.length (fuel (readP s).1) 0 (List.replicate 6 noBk) (readP s).1) endR := face_go hz
    rw [e1]
    have hp := prog_W (z := s.length) h1 (fuel (readP s).1) 0 (List.replicate 6 noBk) (readP s).1 (fun b hb => Nat.le_trans (bkW_noBk b hb) h1) h
    cases hx : pProg s.length (fuel (readP s).1) 0 (List.replicate 6 noBk) (readP s).1 with
    | error e => exact fun b hb => Nat.le_trans (bkW_noBk b hb) h1
    | ok p =>
      obtain ⟨a, r⟩ := p
      cases r with
      | nil => exact hp _ hx
      | cons t r => exact fun b hb => Nat.le_trans (bkW_noBk b hb) h1
  · rw [show parseP s = .error (readP s).2 from face_bad hz]
    exact fun b hb => Nat.le_trans (bkW_noBk b hb) h1
theorem tsZ_kt : ∀ {l m : List Tk}, l.map kt = m.map kt → tsZ l = tsZ m ∧ tw l = tw m
  | [], [], _ => ⟨rfl, rfl⟩
  | [], y :: m, h => by simp at h
  | x :: l, [], h => by simp at h
  | x :: l, y :: m, h => by
    simp only [List.map_cons, List.cons.injEq, kt, Prod.mk.injEq] at h
    obtain ⟨h1, h2⟩ := tsZ_kt h.2
    refine ⟨?_, by rw [tw, tw, h.1.2, h2]⟩
    show (x.1, x.2.1, 0) :: tsZ l = (y.1, y.2.1, 0) :: tsZ m
    rw [h.1.1, h.1.2, h1]
/-- two sources whose tokens are the same but for places -/
theorem same_law {s t : Str} (hs : (readP s).2.1 = 0) (ht : (readP t).2.1 = 0) (h : (readP t).1.map kt = (readP s).1.map kt) :
    pgSame (resOf (List.replicate 6 noBk) (parseP s)).1 (resOf (List.replicate 6 noBk) (parseP t)).1 = true ∧ (resOf (List.replicate 6 noBk) (parseP s)).2.1 = (resOf (List.replicate 6 noBk) (parseP t)).2.1 ∧ ((resOf (List.replicate 6 noBk) (parseP s)).2 = (0, 0) → (resOf (List.replicate 6 noBk) (parseP t)).2.1 = 0) := by
  have hl : (readP t).1.length = (readP s).1.length := by simpa using congrArg List.length h
  have key := prog_same (z := s.length) (z2 := t.length) (n := fuel (readP s).1) (tsZ_kt h).1.symm
  have e1 : parseP s = andR (pProg s.length (fuel (readP s).1) 0 (List.replicate 6 noBk) (readP s).1) endR := face_go hs
  have e2 : parseP t = andR (pProg t.length (fuel (readP s).1) 0 (List.replicate 6 noBk) (readP t).1) endR := by
    have : fuel (readP s).1 = fuel (readP t).1 := by unfold fuel; rw [hl]
    rw [this]; exact face_go ht
  rw [← e1, ← e2] at key
  cases h1 : parseP s with
  | ok p =>
    cases h2 : parseP t with
    | ok q =>
      rw [h1, h2] at key
      simp only [mapZ, Except.ok.injEq] at key
      exact ⟨pgSame_Z p q key, rfl, fun _ => rfl⟩
    | error e => rw [h1, h2] at key; simp [mapZ] at key
  | error e =>
    cases h2 : parseP t with
    | ok q => rw [h1, h2] at key; simp [mapZ] at key
    | error e' =>
      rw [h1, h2] at key
      simp only [mapZ, Except.error.injEq, Prod.mk.injEq, and_true] at key
      exact ⟨pgSame_refl _, key, fun h => key.symm.trans (congrArg Prod.fst h)⟩
/-! the source with other blanks -/
def sepAt (us : List Nat) (i : Nat) : Str := Go.Tok.B.bls.getD (us.getD i 0 % 4) []
def xsF (us : List Nat) (T : List Tk) (i : Nat) : List (Str × Tk) := (List.range i).filterMap fun j => (T[j]?).map fun t => (sepAt us j, t)
end Go.Prs
end

section
namespace Go.Proofs.YtaniogadknakoaaGreatDoor
open Go.RowKit Go.Sx
open Go.Tok Go.Tree Go.Prs

theorem same2 {p q : List Bk} {cs ds : List Value} {N N2 : Nat → Prop} {w : World} (hp : ∀ b ∈ p, bkW b < 10000000) (hm : pgM w N p cs) (hm2 : pgM w N2 q ds) (h : pgSame p q = true) : Ret Tryz.prog 21 #[.agg cs.toArray, .agg ds.toArray] w fun v w' => v = .bool true ∧ Ext w w' := by
 have h1 := Same_spec p q cs ds (fun _ => True) w hp (TL.pg.mono hm (fun _ _ => trivial)) (TL.pg.mono hm2 (fun _ _ => trivial))
 rw [h] at h1
 exact h1

end Go.Proofs.YtaniogadknakoaaGreatDoor
end

section
/- The plain part of layer parse: what is read of a source's beginning. -/
namespace Go.Prs
open Go.Tok Go.Tree
/-- at the end of what there is: nothing is left, or that is the fault -/
def Ended {α : Type} (p : Nat) (y : Rs α) : Prop := y = .error (130, p) ∨ (∃ a, y = .ok (a, [])) ∨ ∃ q, y = .error (0, q)
def Ap (p : Nat) (r : List Tk) : Prop := ∀ s ∈ r, s.2.2 ≠ p
/-- what is read of r and t and more (x), and of r alone (y) -/
def Tr {α : Type} (t : Tk) (suf : List Tk) (x y : Rs α) : Prop :=
  (∃ a r, x = .ok (a, r ++ t :: suf) ∧ y = .ok (a, r) ∧ Ap t.2.2 r) ∨ (∃ e, x = .error e ∧ (e.2 ≠ t.2.2 ∨ e.1 = 0) ∧ y = .error e) ∨ Ended t.2.2 y
theorem Ap.tail {p : Nat} {s : Tk} {r : List Tk} (h : Ap p (s :: r)) : Ap p r := fun u hu => h u (List.mem_cons_of_mem _ hu)
section
variable {α β : Type} {p z zf o : Nat} {x : Str} {t : Tk} {suf r : List Tk}
theorem Ended.andR {Y : Rs α} {g : α → List Tk → Rs β} (h : Ended p Y) (hg : ∀ a, Ended p (g a [])) : Ended p (andR Y g) := by
  rcases h with rfl | ⟨a, rfl⟩ | ⟨q, rfl⟩
  · exact .inl rfl
  · exact hg a
  · exact .inr (.inr ⟨q, rfl⟩)
theorem Ended.want {g : List Tk → Rs β} : Ended p (want p x [] g) := .inl rfl
theorem Ended.opn {g : List Tk → Rs β} : Ended p (opn p o x [] g) := .inl rfl
theorem Ended.name {g : Str → List Tk → Rs β} : Ended p (name p [] g) := .inl rfl
theorem Ended.ok {a : α} : Ended p (.ok (a, []) : Rs α) := .inr (.inl ⟨a, rfl⟩)
theorem Ended.none : Ended p (.error (0, 0) : Rs α) := .inr (.inr ⟨0, rfl⟩)
theorem Tr.none : Tr t suf (.error (0, 0) : Rs α) (.error (0, 0)) := .inr (.inl ⟨_, rfl, .inr rfl, rfl⟩)
theorem Tr.ok {a : α} (hr : Ap t.2.2 r) : Tr t suf (.ok (a, r ++ t :: suf)) (.ok (a, r)) := .inl ⟨a, r, rfl, rfl, hr⟩
theorem Tr.andR {X Y : Rs α} {f g : α → List Tk → Rs β} (h : Tr t suf X Y) (hf : ∀ a r, Ap t.2.2 r → Tr t suf (f a (r ++ t :: suf)) (g a r)) (hg : ∀ a, Ended t.2.2 (g a [])) : Tr t suf (andR X f) (andR Y g) := by
  rcases h with ⟨a, r, rfl, rfl, hr⟩ | ⟨e, rfl, he, rfl⟩ | h
  · exact hf a r hr
  · exact .inr (.inl ⟨e, rfl, he, rfl⟩)
  · exact .inr (.inr (h.andR hg))
theorem Tr.want {f g : List Tk → Rs β} (hr : Ap t.2.2 r) (hf : ∀ r, Ap t.2.2 r → Tr t suf (f (r ++ t :: suf)) (g r)) : Tr t suf (want zf x (r ++ t :: suf) f) (want t.2.2 x r g) := by
  cases r with
  | nil => exact .inr (.inr .want)
  | cons s r =>
    unfold Prs.want
    show Tr t suf (if isW x (s :: r) = true then _ else _) _
    split
    · exact hf r hr.tail
    · exact .inr (.inl ⟨_, rfl, .inl (hr s (.head _)), rfl⟩)
theorem Tr.opn {f g : List Tk → Rs β} (hr : Ap t.2.2 r) (hf : ∀ r, Ap t.2.2 r → Tr t suf (f (r ++ t :: suf)) (g r)) : Tr t suf (opn zf o x (r ++ t :: suf) f) (opn t.2.2 o x r g) := by
  cases r with
  | nil => exact .inr (.inr .opn)
  | cons s r =>
    unfold Prs.opn
    show Tr t suf (if isW x (s :: r) = true then _ else _) _
    split
    · split
      · exact hf r hr.tail
      · exact .inr (.inl ⟨_, rfl, .inl (hr s (.head _)), rfl⟩)
    · exact .inr (.inl ⟨_, rfl, .inl (hr s (.head _)), rfl⟩)
theorem Tr.name {f g : Str → List Tk → Rs β} (hr : Ap t.2.2 r) (hf : ∀ s r, Ap t.2.2 r → Tr t suf (f s (r ++ t :: suf)) (g s r)) : Tr t suf (name zf (r ++ t :: suf) f) (name t.2.2 r g) := by
  cases r with
  | nil => exact .inr (.inr .name)
  | cons s r =>
    unfold Prs.name
    show Tr t suf (if named (s :: r) = true then _ else _) _
    split
    · exact hf _ r hr.tail
    · exact .inr (.inl ⟨_, rfl, .inl (hr s (.head _)), rfl⟩)
/-- by what is next -/
theorem Tr.ifW {A A' B B' : Rs β} (hr : Ap t.2.2 r) (hA : ∀ s r', r = s :: r' → Tr t suf A A') (hB : r ≠ [] → Tr t suf B B') (hE : r = [] → Ended t.2.2 B') : Tr t suf (if isW x (r ++ t :: suf) = true then A else B) (if isW x r = true then A' else B') := by
  cases r with
  | nil => exact .inr (.inr (hE rfl))
  | cons s r =>
    show Tr t suf (if isW x (s :: r) = true then _ else _) _
    split
    · exact hA s r rfl
    · exact hB (by simp)
end
end Go.Prs
end

section
/- The plain part of layer parse: what is read of a source's beginning, function by function; where faults lie. -/
namespace Go.Prs
open Go.Tok Go.Tree
/-! nothing is left to read -/
section
variable {p : Nat}
theorem nameX_en : Ended p (nameX p []) := .inl rfl
theorem en_ex (p : Nat) : ∀ m : Nat, (∀ o, Ended p (pSum p m [] o)) ∧ (∀ e o, Ended p (pSumL p m e [] o)) ∧ (∀ o, Ended p (pProd p m [] o)) ∧ (∀ e o, Ended p (pProdL p m e [] o)) ∧ (∀ o, Ended p (pSign p m [] o)) ∧ (∀ o, Ended p (pSums p m [] o)) ∧ (∀ l o, Ended p (pSumsL p m l [] o)) := by
  intro m
  induction m with
  | zero => refine ⟨?_, ?_, ?_, ?_, ?_, ?_, ?_⟩ <;> intros <;> (first | rw [pSum] | rw [pSumL] | rw [pProd] | rw [pProdL] | rw [pSign] | rw [pSums] | rw [pSumsL]) <;> exact .none
  | succ m ih =>
    obtain ⟨h1, h2, h3, h4, h5, h6, h7⟩ := ih
    refine ⟨fun o => ?_, fun e o => ?_, fun o => ?_, fun e o => ?_, fun o => ?_, fun o => ?_, fun l o => ?_⟩
    · rw [pSum_eq]; exact (h3 o).andR fun a => h2 a o
    · rw [pSumL_eq]; exact .ok
    · rw [pProd_eq]; exact (h5 o).andR fun a => h4 a o
    · rw [pProdL_eq]; exact .ok
    · rw [pSign_eq]; exact .inl rfl
    · rw [pSums_eq]; exact (h1 o).andR fun a => h7 [a] o
    · rw [pSumsL_eq]; exact .ok
end
section
variable {α β : Type} {zf o : Nat} {x : Str} {t : Tk} {suf r : List Tk}
theorem Tr.nameX (hr : Ap t.2.2 r) : Tr t suf (nameX zf (r ++ t :: suf)) (nameX t.2.2 r) := by
  cases r with
  | nil => exact .inr (.inr nameX_en)
  | cons s r =>
    unfold Prs.nameX
    show Tr t suf (if named (s :: r) = true then _ else _) _
    split
    · exact .ok hr.tail
    · exact .inr (.inl ⟨_, rfl, .inl (hr s (.head _)), rfl⟩)
/-- a word that may be next: what is read behind it, or else -/
theorem Tr.may {A A' : List Tk → Rs β} {B B' : Rs β} (hr : Ap t.2.2 r) (hA : ∀ r', Ap t.2.2 r' → Tr t suf (A (r' ++ t :: suf)) (A' r')) (hB : r ≠ [] → Tr t suf B B') (hE : r = [] → Ended t.2.2 B') :
    Tr t suf (if isW x (r ++ t :: suf) = true then A (r ++ t :: suf).tail else B) (if isW x r = true then A' r.tail else B') :=
  .ifW hr (fun s r' h => by subst h; exact hA r' hr.tail) hB hE
theorem Tr.none' {X : Rs α} : Tr t suf X (.error (0, 0)) := .inr (.inr .none)
end
set_option maxHeartbeats 2000000 in
theorem tr_ex (zf : Nat) (t : Tk) (suf : List Tk) : ∀ n m : Nat, m ≤ n → (∀ r o, Ap t.2.2 r → Tr t suf (pSum zf n (r ++ t :: suf) o) (pSum t.2.2 m r o)) ∧ (∀ e r o, Ap t.2.2 r → Tr t suf (pSumL zf n e (r ++ t :: suf) o) (pSumL t.2.2 m e r o)) ∧
    (∀ r o, Ap t.2.2 r → Tr t suf (pProd zf n (r ++ t :: suf) o) (pProd t.2.2 m r o)) ∧ (∀ e r o, Ap t.2.2 r → Tr t suf (pProdL zf n e (r ++ t :: suf) o) (pProdL t.2.2 m e r o)) ∧ (∀ r o, Ap t.2.2 r → Tr t suf (pSign zf n (r ++ t :: suf) o) (pSign t.2.2 m r o)) ∧
    (∀ r o, Ap t.2.2 r → Tr t suf (pSums zf n (r ++ t :: suf) o) (pSums t.2.2 m r o)) ∧ (∀ l r o, Ap t.2.2 r → Tr t suf (pSumsL zf n l (r ++ t :: suf) o) (pSumsL t.2.2 m l r o)) := by
  intro n
  induction n with
  | zero => intro m hm; obtain rfl : m = 0 := by omega
            refine ⟨?_, ?_, ?_, ?_, ?_, ?_, ?_⟩ <;> intros <;> (first | rw [pSum, pSum] | rw [pSumL, pSumL] | rw [pProd, pProd] | rw [pProdL, pProdL] | rw [pSign, pSign] | rw [pSums, pSums] | rw [pSumsL, pSumsL]) <;> exact .none
  | succ n ih =>
    intro m hm
    cases m with
    | zero => refine ⟨?_, ?_, ?_, ?_, ?_, ?_, ?_⟩ <;> intros <;> (first | rw [pSum.eq_def t.2.2 0] | rw [pSumL.eq_def t.2.2 0] | rw [pProd.eq_def t.2.2 0] | rw [pProdL.eq_def t.2.2 0] | rw [pSign.eq_def t.2.2 0] | rw [pSums.eq_def t.2.2 0] | rw [pSumsL.eq_def t.2.2 0]) <;> exact .none'
    | succ m =>
      obtain ⟨h1, h2, h3, h4, h5, h6, h7⟩ := ih m (by omega)
      obtain ⟨e1, e2, e3, e4, e5, e6, e7⟩ := en_ex t.2.2 m
      refine ⟨fun r o hr => ?_, fun e r o hr => ?_, fun r o hr => ?_, fun e r o hr => ?_, fun r o hr => ?_, fun r o hr => ?_, fun l r o hr => ?_⟩
      · rw [pSum_eq, pSum_eq]; exact (h3 r o hr).andR (fun a r hr => h2 a r o hr) fun a => e2 a o
      · rw [pSumL_eq, pSumL_eq]
        exact .may hr (A := fun q => andR (pProd zf n q o) fun k r => pSumL zf n (pair 6 e k) r o) (A' := fun q => andR (pProd t.2.2 m q o) fun k r => pSumL t.2.2 m (pair 6 e k) r o) (fun r hr => (h3 r o hr).andR (fun a r hr => h2 _ r o hr) fun a => e2 _ o)
          (fun _ => .may hr (A := fun q => andR (pProd zf n q o) fun k r => pSumL zf n (pair 7 e k) r o) (A' := fun q => andR (pProd t.2.2 m q o) fun k r => pSumL t.2.2 m (pair 7 e k) r o) (fun r hr => (h3 r o hr).andR (fun a r hr => h2 _ r o hr) fun a => e2 _ o) (fun _ => .ok hr) (fun h => by subst h; exact .ok)) (fun h => by subst h; exact .ok)
      · rw [pProd_eq, pProd_eq]; exact (h5 r o hr).andR (fun a r hr => h4 a r o hr) fun a => e4 a o
      · rw [pProdL_eq, pProdL_eq]
        exact .may hr (A := fun q => andR (pSign zf n q o) fun k r => pProdL zf n (pair 8 e k) r o) (A' := fun q => andR (pSign t.2.2 m q o) fun k r => pProdL t.2.2 m (pair 8 e k) r o) (fun r hr => (h5 r o hr).andR (fun a r hr => h4 _ r o hr) fun a => e4 _ o)
          (fun _ => .may hr (A := fun q => andR (pSign zf n q o) fun k r => pProdL zf n (pair 9 e k) r o) (A' := fun q => andR (pSign t.2.2 m q o) fun k r => pProdL t.2.2 m (pair 9 e k) r o) (fun r hr => (h5 r o hr).andR (fun a r hr => h4 _ r o hr) fun a => e4 _ o) (fun _ => .ok hr) (fun h => by subst h; exact .ok)) (fun h => by subst h; exact .ok)
      · rw [pSign_eq, pSign_eq]
        refine .ifW hr (fun s r' h => ?_) (fun h0 => .ifW hr (fun s r' h => ?_) (fun h0 => ?_) (fun h => absurd h h0)) (fun h => by subst h; exact .inl rfl)
        · subst h
          exact .opn hr fun r hr => (h5 r _ hr).andR (fun a r hr => .ok hr) fun a => .ok
        · subst h
          exact .opn hr fun r hr => (h1 r _ hr).andR (fun a r hr => .want hr fun r hr => .ok hr) fun a => .want
        · obtain ⟨s, r', rfl⟩ := List.exists_cons_of_ne_nil h0
          show Tr t suf (if s.1 = 2 then (if 400 < s.2.1.length then _ else _) else _) (if s.1 = 2 then (if 400 < s.2.1.length then _ else _) else _)
          split
          · split
            · exact .inr (.inl ⟨_, rfl, .inl (hr s (.head _)), rfl⟩)
            · exact .ok hr.tail
          · refine (Tr.nameX hr).andR (fun nm r hr => ?_) fun nm => .ok
            unfold pTail
            refine .ifW hr (fun s r' h => ?_) (fun h0 => .ifW hr (fun s r' h => ?_) (fun h0 => .ok hr) (fun h => absurd h h0)) (fun h => by subst h; exact .ok)
            · subst h; exact .opn hr fun r hr => (h1 r _ hr).andR (fun a r hr => .want hr fun r hr => .ok hr) fun a => .want
            · subst h; exact .opn hr fun r hr => (h6 r _ hr).andR (fun a r hr => .want hr fun r hr => .ok hr) fun a => .want
      · rw [pSums_eq, pSums_eq]
        exact .ifW hr (fun s r' h => .ok hr) (fun h0 => (h1 r o hr).andR (fun a r hr => h7 _ r o hr) fun a => e7 _ o) (fun h => by subst h; exact (e1 o).andR fun a => e7 _ o)
      · rw [pSumsL_eq, pSumsL_eq]
        exact .may hr (A := fun q => andR (pSum zf n q o) fun e r => pSumsL zf n (l ++ [e]) r o) (A' := fun q => andR (pSum t.2.2 m q o) fun e r => pSumsL t.2.2 m (l ++ [e]) r o) (fun r hr => (h1 r o hr).andR (fun a r hr => h7 _ r o hr) fun a => e7 _ o) (fun _ => .ok hr) (fun h => by subst h; exact .ok)
/-! statements -/
section
variable {p m o : Nat}
theorem sum_en (o : Nat) : Ended p (pSum p m [] o) := (en_ex p m).1 o
theorem plainB_en (pl : Bool) (e : Ex) : Ended p (pPlainB p m o pl e []) := by
  unfold pPlainB
  rw [show isW [61] [] = false from rfl, Bool.and_false, if_neg Bool.false_ne_true]
  exact .want
theorem plain_en : Ended p (pPlain p m [] o) := (sum_en o).andR fun e => plainB_en _ e
theorem en_sm (p : Nat) : ∀ m : Nat, (∀ o, Ended p (pStmt p m [] o)) ∧ (∀ o, Ended p (pBody p m [] o)) ∧ (∀ l o, Ended p (pStmts p m l [] o)) := by
  intro m
  induction m with
  | zero => refine ⟨?_, ?_, ?_⟩ <;> intros <;> (first | rw [pStmt] | rw [pBody] | rw [pStmts]) <;> exact .none
  | succ m ih =>
    obtain ⟨h1, h2, h3⟩ := ih
    refine ⟨fun o => ?_, fun o => ?_, fun l o => ?_⟩
    · rw [pStmt_eq]; exact (plain_en (m := m) (o := o)).andR fun s => .ok
    · rw [pBody_eq]; exact .inl rfl
    · rw [pStmts_eq]; exact (h1 o).andR fun s => h3 _ o
end
theorem cmpU_head (s : Tk) (a b : List Tk) : ∀ i, cmpU i (s :: a) = cmpU i (s :: b)
  | 0 => rfl
  | i + 1 => by rw [cmpU, cmpU, cmpU_head s a b i]; rfl
section
variable {zf o n m : Nat} {t : Tk} {suf : List Tk} (hm : m ≤ n)
include hm
theorem sum_tr {r : List Tk} (o : Nat) (hr : Ap t.2.2 r) : Tr t suf (pSum zf n (r ++ t :: suf) o) (pSum t.2.2 m r o) := (tr_ex zf t suf n m hm).1 r o hr
theorem sums_tr {r : List Tk} (o : Nat) (hr : Ap t.2.2 r) : Tr t suf (pSums zf n (r ++ t :: suf) o) (pSums t.2.2 m r o) := (tr_ex zf t suf n m hm).2.2.2.2.2.1 r o hr
theorem add_tr {r : List Tk} (hr : Ap t.2.2 r) : Tr t suf (pAdd zf n (r ++ t :: suf) o) (pAdd t.2.2 m r o) := .want hr fun _ hr => .want hr fun _ hr => (sum_tr hm o hr).andR (fun _ _ hr => .want hr fun _ hr => .ok hr) fun _ => .want
variable {body body' : List Tk → Rs (List Sm)} (hb : ∀ r, Ap t.2.2 r → Tr t suf (body (r ++ t :: suf)) (body' r))
include hb
theorem loop_tr {r : List Tk} (hr : Ap t.2.2 r) : Tr t suf (pLoop body zf n (r ++ t :: suf) o) (pLoop body' t.2.2 m r o) :=
  .want hr fun _ hr => .opn hr fun _ hr => (Tr.nameX hr).andR (fun _ _ hr => .want hr fun _ hr => (sum_tr hm _ hr).andR (fun _ _ hr => .want hr fun _ hr => (sum_tr hm _ hr).andR (fun _ _ hr => .want hr fun r hr => (hb r hr).andR (fun _ _ hr => .ok hr) fun _ => .ok) fun _ => .want) fun _ => .want) fun _ => .want
theorem choice_tr {r : List Tk} (hr : Ap t.2.2 r) : Tr t suf (pChoice body zf n (r ++ t :: suf) o) (pChoice body' t.2.2 m r o) :=
  .want hr fun r hr => .opn hr fun r hr => (sum_tr hm _ hr).andR (fun x r hr => by
    unfold pChoiceA
    cases r with
    | nil => exact .inr (.inr (.inl rfl))
    | cons s r =>
      rw [List.cons_append, cmpU_head s (r ++ t :: suf) r]
      split
      · exact .inr (.inl ⟨_, rfl, .inl (hr s (.head _)), rfl⟩)
      · exact (sum_tr hm _ hr.tail).andR (fun y r hr => .want hr fun r hr => (hb r hr).andR (fun b r hr => .ifW hr (fun s r' h => by subst h; exact (hb r' hr.tail).andR (fun e r hr => .ok hr) fun e => .ok) (fun _ => .ok hr) (fun h => by subst h; exact .ok)) fun b => .ok) fun y => .want) fun x => .inl rfl
omit hb
theorem plain_tr {r : List Tk} (h0 : r ≠ []) (hr : Ap t.2.2 r) : Tr t suf (pPlain zf n (r ++ t :: suf) o) (pPlain t.2.2 m r o) := (sum_tr hm o hr).andR (fun e r2 hr2 => by
    obtain ⟨s, r, rfl⟩ := List.exists_cons_of_ne_nil h0
    show Tr t suf (pPlainB zf n o (named (s :: r) && _) e _) (pPlainB t.2.2 m o (named (s :: r) && _) e r2)
    generalize (named (s :: r) && (decide (e.op = 2) || decide (e.op = 3))) = pl
    have elt : ∀ {r2 : List Tk}, Ap t.2.2 r2 → Tr t suf (want zf [126] (r2 ++ t :: suf) fun r => andR (nameX zf r) fun nm r => opn zf o [40] r fun r => andR (pSums zf n r (o + 1)) fun l r => want zf [41] r fun r => want zf [59] r fun r => (.ok (Sm.mk 3 0 nm (e :: l) [] [], r) : Rs Sm))
        (want t.2.2 [126] r2 fun r => andR (nameX t.2.2 r) fun nm r => opn t.2.2 o [40] r fun r => andR (pSums t.2.2 m r (o + 1)) fun l r => want t.2.2 [41] r fun r => want t.2.2 [59] r fun r => (.ok (Sm.mk 3 0 nm (e :: l) [] [], r) : Rs Sm)) := fun hr2 =>
      .want hr2 fun r hr => (Tr.nameX hr).andR (fun nm r hr => .opn hr fun r hr => (sums_tr hm _ hr).andR (fun l r hr => .want hr fun r hr => .want hr fun r hr => .ok hr) fun l => .want) fun nm => .opn
    unfold pPlainB
    cases pl with
    | false => simp only [Bool.false_and, Bool.false_eq_true, if_false]; exact elt hr2
    | true =>
      simp only [Bool.true_and]
      exact .ifW hr2 (fun s r' h => by subst h; exact (sum_tr hm o hr2.tail).andR (fun k r hr => .want hr fun r hr => .ok hr) fun k => .want) (fun _ => elt hr2) (fun h => by subst h; exact .want)) fun e => plainB_en _ e
end
set_option maxHeartbeats 1000000 in
theorem tr_sm (zf : Nat) (t : Tk) (suf : List Tk) : ∀ n m : Nat, m ≤ n → (∀ r o, Ap t.2.2 r → Tr t suf (pStmt zf n (r ++ t :: suf) o) (pStmt t.2.2 m r o)) ∧ (∀ r o, Ap t.2.2 r → Tr t suf (pBody zf n (r ++ t :: suf) o) (pBody t.2.2 m r o)) ∧ (∀ l r o, Ap t.2.2 r → Tr t suf (pStmts zf n l (r ++ t :: suf) o) (pStmts t.2.2 m l r o)) := by
  intro n
  induction n with
  | zero => intro m hm; obtain rfl : m = 0 := by omega
            refine ⟨?_, ?_, ?_⟩ <;> intros <;> (first | rw [pStmt, pStmt] | rw [pBody, pBody] | rw [pStmts, pStmts]) <;> exact .none
  | succ n ih =>
    intro m hm
    cases m with
    | zero => refine ⟨?_, ?_, ?_⟩ <;> intros <;> (first | rw [pStmt.eq_def t.2.2 0] | rw [pBody.eq_def t.2.2 0] | rw [pStmts.eq_def t.2.2 0]) <;> exact .none'
    | succ m =>
      obtain ⟨h1, h2, h3⟩ := ih m (by omega)
      obtain ⟨e1, e2, e3⟩ := en_sm t.2.2 m
      have hmn : m ≤ n := by omega
      refine ⟨fun r o hr => ?_, fun r o hr => ?_, fun l r o hr => ?_⟩
      · by_cases h0 : r = []
        · subst h0; exact .inr (.inr ((en_sm t.2.2 (m + 1)).1 o))
        · obtain ⟨s0, r0, rfl⟩ := List.exists_cons_of_ne_nil h0
          rw [pStmt_eq, pStmt_eq]
          refine Tr.andR ?_ (fun s r hr => ?_) fun s => .ok
          · refine .ifW hr (fun s r' h => ?_) (fun h0 => .ifW hr (fun s r' h => ?_) (fun h0 => .ifW hr (fun s r' h => ?_) (fun h0 => .ifW hr (fun s r' h => ?_) (fun h0 => plain_tr hmn h0 hr) (fun h => absurd h h0)) (fun h => absurd h h0)) (fun h => absurd h h0)) (fun h => absurd h h0)
            · exact add_tr hmn hr
            · exact loop_tr hmn (fun r hr => h2 r o hr) hr
            · exact choice_tr hmn (fun r hr => h2 r o hr) hr
            · exact (h2 _ o hr).andR (fun b r hr => .ok hr) fun b => .ok
          · exact .ok hr
      · rw [pBody_eq, pBody_eq]
        exact .opn hr fun r hr => (h3 [] r _ hr).andR (fun l r hr => .want hr fun r hr => .ok hr) fun l => .want
      · rw [pStmts_eq, pStmts_eq]
        exact .ifW hr (fun s r' h => .ok hr) (fun h0 => (h1 r o hr).andR (fun s r hr => h3 _ r o hr) fun s => e3 _ o) (fun h => by subst h; exact (e1 o).andR fun s => e3 _ o)
/-! declarations, blocks -/
section
variable {p m o ty a : Nat} {first : Bool} {size lo up init : List Ex} {nm : Str}
theorem declN_en : Ended p (pDeclN p m first ty a o size lo up nm []) := by
  unfold pDeclN
  rw [show isW [61] [] = false from rfl, Bool.and_false, if_neg Bool.false_ne_true]
  exact .want
theorem declU_en (b : List Ex × List Ex) : Ended p (pDeclU p m first ty a o size b []) := by
  unfold pDeclU
  split <;> exact .inl rfl
theorem decls_en : ∀ (m : Nat) (l : List Dc), Ended p (pDecls p m first l [] o)
  | 0, l => by rw [pDecls]; exact .none
  | m + 1, l => by rw [pDecls_eq]; exact .ok
theorem fillS_en (i : Nat) (ds : List Dc) : Ended p (pFillS p m i o ds []) := by
  unfold pFillS
  split
  · exact .want
  · exact ((en_sm p m).2.2 [] _).andR fun ss => .want
theorem prog_en : ∀ (m last : Nat) (out : List Bk), Ended p (pProg p m last out [])
  | 0, _, _ => by rw [pProg]; exact .none
  | m + 1, last, out => by
    rw [pProg_eq]
    have : pHead p last [] = .ok ((0, false), []) := by
      unfold pHead
      simp only [show ∀ x, isW x [] = false from fun x => rfl, Bool.and_false, Bool.false_eq_true, if_false]
    rw [this]; exact .ok
end
section
variable {zf o n m ty a : Nat} {first : Bool} {t : Tk} {suf : List Tk} {size lo up init : List Ex} {nm : Str} (hm : m ≤ n)
theorem declE_tr {r : List Tk} (hr : Ap t.2.2 r) : Tr t suf (pDeclE zf ty a nm size lo up init (r ++ t :: suf)) (pDeclE t.2.2 ty a nm size lo up init r) := .want hr fun _ hr => .ok hr
include hm
theorem size_tr {r : List Tk} (hr : Ap t.2.2 r) : Tr t suf (pSize zf n (r ++ t :: suf) o) (pSize t.2.2 m r o) := .opn hr fun _ hr => (sum_tr hm _ hr).andR (fun _ _ hr => .want hr fun _ hr => .ok hr) fun _ => .want
theorem upper_tr {r : List Tk} (hr : Ap t.2.2 r) : Tr t suf (pUpper zf n lo (r ++ t :: suf) o) (pUpper t.2.2 m lo r o) := .want hr fun _ hr => .want hr fun _ hr => (sum_tr hm _ hr).andR (fun _ _ hr => .want hr fun _ hr => .ok hr) fun _ => .want
theorem bounds_tr {r : List Tk} (hr : Ap t.2.2 r) : Tr t suf (pBounds zf n (r ++ t :: suf) o) (pBounds t.2.2 m r o) := by
  unfold pBounds
  refine .may hr (A := fun q => if isW [108, 111, 119, 101, 114] q = true then want zf [61] q.tail fun r => andR (pSum zf n r o) fun e r => pBoundsB zf n o e r else pUpper zf n [] q o)
    (A' := fun q => if isW [108, 111, 119, 101, 114] q = true then want t.2.2 [61] q.tail fun r => andR (pSum t.2.2 m r o) fun e r => pBoundsB t.2.2 m o e r else pUpper t.2.2 m [] q o) (fun r hr => ?_) (fun _ => .ok hr) (fun h => by subst h; exact .ok)
  refine .may hr (A := fun q => want zf [61] q fun r => andR (pSum zf n r o) fun e r => pBoundsB zf n o e r) (A' := fun q => want t.2.2 [61] q fun r => andR (pSum t.2.2 m r o) fun e r => pBoundsB t.2.2 m o e r) (fun r hr => .want hr fun r hr => (sum_tr hm _ hr).andR (fun e r hr => ?_) fun e => .inl rfl) (fun _ => upper_tr hm hr) (fun h => by subst h; exact .inl rfl)
  unfold pBoundsB
  exact .may hr (A := fun q => pUpper zf n [e] q o) (A' := fun q => pUpper t.2.2 m [e] q o) (fun r hr => upper_tr hm hr) (fun _ => .want hr fun r hr => .ok hr) (fun h => by subst h; exact .want)
theorem declN_tr {r : List Tk} (hr : Ap t.2.2 r) : Tr t suf (pDeclN zf n first ty a o size lo up nm (r ++ t :: suf)) (pDeclN t.2.2 m first ty a o size lo up nm r) := by
  unfold pDeclN
  generalize (first && decide (ty ≤ 3)) = f
  cases f with
  | false => simp only [Bool.false_and, Bool.false_eq_true, if_false]; exact declE_tr hr
  | true =>
    simp only [Bool.true_and]
    exact .ifW hr (fun s r' h => by subst h; exact (sum_tr hm _ hr.tail).andR (fun e r hr => declE_tr hr) fun e => .want) (fun _ => declE_tr hr) (fun h => by subst h; exact .want)
theorem declV_tr {r : List Tk} (hr : Ap t.2.2 r) : Tr t suf (pDeclV zf n first ty a o size lo up (r ++ t :: suf)) (pDeclV t.2.2 m first ty a o size lo up r) := (Tr.nameX hr).andR (fun _ _ hr => declN_tr hm hr) fun _ => declN_en
theorem declT_tr {r : List Tk} (hr : Ap t.2.2 r) : Tr t suf (pDeclT zf n first ty a o size (r ++ t :: suf)) (pDeclT t.2.2 m first ty a o size r) := (bounds_tr hm hr).andR (fun b r hr => by
  unfold pDeclU
  split
  · exact (size_tr hm hr).andR (fun s r hr => declV_tr hm hr) fun s => .inl rfl
  · exact declV_tr hm hr) fun b => declU_en b
theorem decl_tr {r : List Tk} (hr : Ap t.2.2 r) : Tr t suf (pDecl zf n first (r ++ t :: suf) o) (pDecl t.2.2 m first r o) := by
  cases r with
  | nil => exact .inr (.inr .ok)
  | cons s r =>
    unfold pDecl
    refine .ifW hr (fun s r' h => by cases h; exact declT_tr hm hr.tail) (fun _ => .ifW hr (fun s r' h => by cases h; exact declT_tr hm hr.tail) (fun _ => .ifW hr (fun s r' h => by cases h; exact declT_tr hm hr.tail) (fun _ => .ifW hr (fun s r' h => ?_) (fun _ => .ok hr) (fun h => by cases h)) (fun h => by cases h)) (fun h => by cases h)) (fun h => by cases h)
    cases h
    exact (size_tr hm hr.tail).andR (fun sz r2 hr2 => .may hr2 (A := fun q => pDeclT zf n first 4 s.2.2 o sz q) (A' := fun q => pDeclT t.2.2 m first 4 s.2.2 o sz q) (fun r hr => declT_tr hm hr) (fun _ => .want hr2 fun r hr => declT_tr hm hr) (fun h => by subst h; exact .want)) fun sz => .want
omit hm
theorem decls_tr (hmn : m ≤ n) : ∀ (n' m' : Nat), m' ≤ n' → ∀ (l : List Dc) (r : List Tk), Ap t.2.2 r → Tr t suf (pDecls zf n' first l (r ++ t :: suf) o) (pDecls t.2.2 m' first l r o)
  | 0, m', hm, l, r, hr => by obtain rfl : m' = 0 := by omega
                              rw [pDecls, pDecls]; exact .none
  | n' + 1, 0, hm, l, r, hr => by rw [pDecls.eq_def t.2.2 0]; exact .none'
  | n' + 1, m' + 1, hm, l, r, hr => by
    rw [pDecls_eq, pDecls_eq]
    refine (decl_tr (by omega) hr).andR (fun d r hr => ?_) fun d => ?_
    · split
      · exact decls_tr hmn n' m' (by omega) _ r hr
      · exact .ok hr
    · split
      · exact decls_en m' _
      · exact .ok
theorem fill_tr (hm : m ≤ n) (i : Nat) {r : List Tk} (hr : Ap t.2.2 r) : Tr t suf (pFill zf n i (r ++ t :: suf) o) (pFill t.2.2 m i r o) := .opn hr fun r hr => by
  unfold pFillD
  refine Tr.andR (X := if i = 4 then .ok ([], r ++ t :: suf) else pDecls zf n (!gv i) [] (r ++ t :: suf) (o + 1)) (Y := if i = 4 then .ok ([], r) else pDecls t.2.2 m (!gv i) [] r (o + 1)) ?_ (fun ds r hr => ?_) fun ds => fillS_en i ds
  · split
    · exact .ok hr
    · exact decls_tr hm n m hm [] r hr
  · unfold pFillS
    split
    · exact .want hr fun r hr => .ok hr
    · exact ((tr_sm zf t suf n m hm).2.2 [] r _ hr).andR (fun ss r hr => .want hr fun r hr => .ok hr) fun ss => .want
theorem head_tr (last : Nat) {r : List Tk} (h0 : r ≠ []) (hr : Ap t.2.2 r) : Tr t suf (pHead zf last (r ++ t :: suf)) (pHead t.2.2 last r) := by
  obtain ⟨s, r, rfl⟩ := List.exists_cons_of_ne_nil h0
  unfold pHead
  simp only [List.cons_append, List.tail_cons, show ∀ x l, isW x (s :: l) = isW x [s] from fun x l => rfl]
  have hq := hr.tail
  split
  · exact .ok hq
  · split
    · cases hd : decide (last < 2) with
      | false => simp only [Bool.false_and, Bool.false_eq_true, if_false]; exact .want hq fun r hr => .ok hr
      | true =>
        simp only [Bool.true_and]
        exact .ifW hq (fun s r' h => by subst h; exact .ok hq.tail) (fun _ => .want hq fun r hr => .ok hr) (fun h => by subst h; exact .want)
    · split
      · exact .ok hq
      · split
        · exact .ok hq
        · split
          · exact .want hq fun r hr => .ok hr
          · exact .ok hr
theorem prog_tr : ∀ (n m : Nat), m ≤ n → ∀ (last : Nat) (out : List Bk) (r : List Tk), Ap t.2.2 r → Tr t suf (pProg zf n last out (r ++ t :: suf)) (pProg t.2.2 m last out r)
  | 0, m, hm, last, out, r, hr => by obtain rfl : m = 0 := by omega
                                     rw [pProg, pProg]; exact .none
  | n + 1, 0, hm, last, out, r, hr => by rw [pProg.eq_def t.2.2 0]; exact .none'
  | n + 1, m + 1, hm, last, out, r, hr => by
    by_cases h0 : r = []
    · subst h0; exact .inr (.inr (prog_en _ _ _))
    · rw [pProg_eq, pProg_eq]
      refine (head_tr last h0 hr).andR (fun i r hr => ?_) fun i => ?_
      · split
        · exact (fill_tr (by omega) i.1 hr).andR (fun b r hr => prog_tr n m (by omega) _ _ r hr) fun b => prog_en _ _ _
        · exact .ok hr
      · split
        · exact .inl rfl
        · exact .ok
end
end Go.Prs
end

section
/- The plain part of layer parse: faults lie within the source. -/
namespace Go.Prs
open Go.Tok Go.Tree
def Wn (M : Nat → Prop) (r : List Tk) : Prop := ∀ t ∈ r, M t.2.2
theorem Wn.tail {M : Nat → Prop} {r : List Tk} (h : Wn M r) : Wn M r.tail := fun t ht => h t (List.mem_of_mem_tail ht)
theorem Wn.place {M : Nat → Prop} {z : Nat} {r : List Tk} (h : Wn M r) (hz : M z) : M (place z r) := by
  cases r with
  | nil => exact hz
  | cons t l => exact h t (.head _)
def Bd (M : Nat → Prop) {α : Type} (X : Rs α) : Prop := (∀ a r, X = .ok (a, r) → Wn M r) ∧ ∀ e, X = .error e → e.1 = 0 ∨ M e.2
section
variable {α β : Type} {M : Nat → Prop} {z o : Nat} {x : Str} {ts : List Tk}
theorem Bd.ok {a : α} (h : Wn M ts) : Bd M (.ok (a, ts)) := ⟨fun b r e => by cases e; exact h, fun e h => by cases h⟩
theorem Bd.er {e : Fl} (h : M e.2) : Bd M (.error e : Rs α) := ⟨fun a r h => by (cases h), fun f hf => by cases hf; exact .inr h⟩
theorem Bd.none : Bd M (.error (0, 0) : Rs α) := ⟨fun a r h => by (cases h), fun f hf => by cases hf; exact .inl rfl⟩
theorem Bd.andR {X : Rs α} {F : α → List Tk → Rs β} (hX : Bd M X) (hF : ∀ a r, Wn M r → Bd M (F a r)) : Bd M (andR X F) := by
  cases X with
  | ok p => obtain ⟨a, r⟩ := p; exact hF a r (hX.1 a r rfl)
  | error e => exact ⟨fun a r h => by (cases h), fun f hf => by cases hf; exact hX.2 e rfl⟩
theorem Bd.want {f : List Tk → Rs β} (hz : M z) (h : Wn M ts) (hf : ∀ r, Wn M r → Bd M (f r)) : Bd M (want z x ts f) := by
  unfold Prs.want
  split
  · exact hf _ h.tail
  · exact .er (h.place hz)
theorem Bd.opn {f : List Tk → Rs β} (hz : M z) (h : Wn M ts) (hf : ∀ r, Wn M r → Bd M (f r)) : Bd M (opn z o x ts f) := by
  unfold Prs.opn
  split
  · split
    · exact hf _ h.tail
    · exact .er (h.place hz)
  · exact .er (h.place hz)
theorem Bd.nameX (hz : M z) (h : Wn M ts) : Bd M (nameX z ts) := by
  unfold Prs.nameX
  split
  · exact .ok h.tail
  · exact .er (h.place hz)
theorem Bd.ite {p : Prop} [Decidable p] {X Y : Rs α} (hx : Bd M X) (hy : Bd M Y) : Bd M (if p then X else Y) := by
  split <;> assumption
end
section
variable {M : Nat → Prop} {z : Nat} (hz : M z)
include hz
theorem bd_ex : ∀ n : Nat, (∀ ts o, Wn M ts → Bd M (pSum z n ts o)) ∧ (∀ e ts o, Wn M ts → Bd M (pSumL z n e ts o)) ∧ (∀ ts o, Wn M ts → Bd M (pProd z n ts o)) ∧ (∀ e ts o, Wn M ts → Bd M (pProdL z n e ts o)) ∧ (∀ ts o, Wn M ts → Bd M (pSign z n ts o)) ∧ (∀ ts o, Wn M ts → Bd M (pSums z n ts o)) ∧ (∀ l ts o, Wn M ts → Bd M (pSumsL z n l ts o)) := by
  intro n
  induction n with
  | zero => refine ⟨?_, ?_, ?_, ?_, ?_, ?_, ?_⟩ <;> intros <;> (first | rw [pSum] | rw [pSumL] | rw [pProd] | rw [pProdL] | rw [pSign] | rw [pSums] | rw [pSumsL]) <;> exact .none
  | succ n ih =>
    obtain ⟨h1, h2, h3, h4, h5, h6, h7⟩ := ih
    refine ⟨fun ts o h => ?_, fun e ts o h => ?_, fun ts o h => ?_, fun e ts o h => ?_, fun ts o h => ?_, fun ts o h => ?_, fun l ts o h => ?_⟩
    · rw [pSum_eq]; exact (h3 ts o h).andR fun a r h => h2 a r o h
    · rw [pSumL_eq]; exact .ite ((h3 _ o h.tail).andR fun a r h => h2 _ r o h) (.ite ((h3 _ o h.tail).andR fun a r h => h2 _ r o h) (.ok h))
    · rw [pProd_eq]; exact (h5 ts o h).andR fun a r h => h4 a r o h
    · rw [pProdL_eq]; exact .ite ((h5 _ o h.tail).andR fun a r h => h4 _ r o h) (.ite ((h5 _ o h.tail).andR fun a r h => h4 _ r o h) (.ok h))
    · rw [pSign_eq]
      refine .ite (.opn hz h fun r h => (h5 r _ h).andR fun a r h => .ok h) (.ite (.opn hz h fun r h => (h1 r _ h).andR fun a r h => .want hz h fun r h => .ok h) (.ite (.ite (.er (h.place hz)) (.ok h.tail)) ((Bd.nameX hz h).andR fun nm r h => ?_)))
      exact .ite (.opn hz h fun r h => (h1 r _ h).andR fun a r h => .want hz h fun r h => .ok h) (.ite (.opn hz h fun r h => (h6 r _ h).andR fun a r h => .want hz h fun r h => .ok h) (.ok h))
    · rw [pSums_eq]; exact .ite (.ok h) ((h1 ts o h).andR fun a r h => h7 _ r o h)
    · rw [pSumsL_eq]; exact .ite ((h1 _ o h.tail).andR fun a r h => h7 _ r o h) (.ok h)
variable {n o : Nat} {ts : List Tk}
theorem sum_bd (o : Nat) (h : Wn M ts) : Bd M (pSum z n ts o) := (bd_ex hz n).1 ts o h
theorem sums_bd (o : Nat) (h : Wn M ts) : Bd M (pSums z n ts o) := (bd_ex hz n).2.2.2.2.2.1 ts o h
theorem add_bd (h : Wn M ts) : Bd M (pAdd z n ts o) := .want hz h fun _ h => .want hz h fun _ h => (sum_bd hz _ h).andR fun _ _ h => .want hz h fun _ h => .ok h
theorem loop_bd {body : List Tk → Rs (List Sm)} (hb : ∀ r, Wn M r → Bd M (body r)) (h : Wn M ts) : Bd M (pLoop body z n ts o) :=
  .want hz h fun _ h => .opn hz h fun _ h => (Bd.nameX hz h).andR fun _ _ h => .want hz h fun _ h => (sum_bd hz _ h).andR fun _ _ h => .want hz h fun _ h => (sum_bd hz _ h).andR fun _ _ h => .want hz h fun r h => (hb r h).andR fun _ _ h => .ok h
theorem choice_bd {body : List Tk → Rs (List Sm)} (hb : ∀ r, Wn M r → Bd M (body r)) (h : Wn M ts) : Bd M (pChoice body z n ts o) :=
  .want hz h fun _ h => .opn hz h fun _ h => (sum_bd hz _ h).andR fun _ _ h => .ite (.er (h.place hz)) ((sum_bd hz _ h.tail).andR fun _ _ h => .want hz h fun r h => (hb r h).andR fun _ _ h => .ite ((hb _ h.tail).andR fun _ _ h => .ok h) (.ok h))
theorem plain_bd (h : Wn M ts) : Bd M (pPlain z n ts o) := (sum_bd hz _ h).andR fun _ _ h =>
  .ite ((sum_bd hz _ h.tail).andR fun _ _ h => .want hz h fun _ h => .ok h) (.want hz h fun _ h => (Bd.nameX hz h).andR fun _ _ h => .opn hz h fun _ h => (sums_bd hz _ h).andR fun _ _ h => .want hz h fun _ h => .want hz h fun _ h => .ok h)
theorem bd_sm : ∀ n : Nat, (∀ ts o, Wn M ts → Bd M (pStmt z n ts o)) ∧ (∀ ts o, Wn M ts → Bd M (pBody z n ts o)) ∧ (∀ l ts o, Wn M ts → Bd M (pStmts z n l ts o)) := by
  intro n
  induction n with
  | zero => refine ⟨?_, ?_, ?_⟩ <;> intros <;> (first | rw [pStmt] | rw [pBody] | rw [pStmts]) <;> exact .none
  | succ n ih =>
    obtain ⟨h1, h2, h3⟩ := ih
    refine ⟨fun ts o h => ?_, fun ts o h => ?_, fun l ts o h => ?_⟩
    · rw [pStmt_eq]
      exact Bd.andR (.ite (add_bd hz h) (.ite (loop_bd hz (fun r h => h2 r o h) h) (.ite (choice_bd hz (fun r h => h2 r o h) h) (.ite ((h2 ts o h).andR fun b r h => .ok h) (plain_bd hz h))))) fun s r h => .ok h
    · rw [pBody_eq]; exact .opn hz h fun r h => (h3 [] r _ h).andR fun l r h => .want hz h fun r h => .ok h
    · rw [pStmts_eq]; exact .ite (.ok h) ((h1 ts o h).andR fun s r h => h3 _ r o h)
variable {ty a : Nat} {first : Bool} {size lo up init : List Ex} {nm : Str}
theorem size_bd (h : Wn M ts) : Bd M (pSize z n ts o) := .opn hz h fun _ h => (sum_bd hz _ h).andR fun _ _ h => .want hz h fun _ h => .ok h
theorem upper_bd (h : Wn M ts) : Bd M (pUpper z n lo ts o) := .want hz h fun _ h => .want hz h fun _ h => (sum_bd hz _ h).andR fun _ _ h => .want hz h fun _ h => .ok h
theorem bounds_bd (h : Wn M ts) : Bd M (pBounds z n ts o) :=
  .ite (.ite (.want hz h.tail.tail fun _ h => (sum_bd hz _ h).andR fun _ _ h => .ite (upper_bd hz h.tail) (.want hz h fun _ h => .ok h)) (upper_bd hz h.tail)) (.ok h)
theorem declE_bd (h : Wn M ts) : Bd M (pDeclE z ty a nm size lo up init ts) := .want hz h fun _ h => .ok h
theorem declV_bd (h : Wn M ts) : Bd M (pDeclV z n first ty a o size lo up ts) := (Bd.nameX hz h).andR fun _ _ h => .ite ((sum_bd hz _ h.tail).andR fun _ _ h => declE_bd hz h) (declE_bd hz h)
theorem declT_bd (h : Wn M ts) : Bd M (pDeclT z n first ty a o size ts) := (bounds_bd hz h).andR fun _ _ h => .ite ((size_bd hz h).andR fun _ _ h => declV_bd hz h) (declV_bd hz h)
theorem decl_bd (h : Wn M ts) : Bd M (pDecl z n first ts o) :=
  .ite (declT_bd hz h.tail) (.ite (declT_bd hz h.tail) (.ite (declT_bd hz h.tail) (.ite ((size_bd hz h.tail).andR fun _ _ h => .ite (declT_bd hz h.tail) (.want hz h fun _ h => declT_bd hz h)) (.ok h))))
theorem decls_bd : ∀ (n : Nat) (l : List Dc) (ts : List Tk), Wn M ts → Bd M (pDecls z n first l ts o)
  | 0, _, _, _ => by rw [pDecls]; exact .none
  | n + 1, l, ts, h => by
    rw [pDecls_eq]
    exact (decl_bd hz h).andR fun d r h => .ite (decls_bd n _ r h) (.ok h)
theorem fill_bd (i : Nat) (h : Wn M ts) : Bd M (pFill z n i ts o) := .opn hz h fun r h => Bd.andR (.ite (.ok h) (decls_bd hz n [] r h)) fun _ r h => .ite (.want hz h fun _ h => .ok h) (((bd_sm hz n).2.2 [] r _ h).andR fun _ _ h => .want hz h fun _ h => .ok h)
theorem head_bd (last : Nat) (h : Wn M ts) : Bd M (pHead z last ts) := .ite (.ok h.tail) (.ite (.ite (.ok h.tail.tail) (.want hz h.tail fun _ h => .ok h)) (.ite (.ok h.tail) (.ite (.ok h.tail) (.ite (.want hz h.tail fun _ h => .ok h) (.ok h)))))
theorem prog_bd : ∀ (n last : Nat) (out : List Bk) (ts : List Tk), Wn M ts → Bd M (pProg z n last out ts)
  | 0, _, _, _, _ => by rw [pProg]; exact .none
  | n + 1, last, out, ts, h => by
    rw [pProg_eq]
    exact (head_bd hz last h).andR fun i r h => .ite ((fill_bd hz i.1 h).andR fun b r h => prog_bd n _ _ r h) (.ok h)
end
theorem parseP_pl {M : Nat → Prop} {s : Str} {fl : Fl} (hz : (readP s).2.1 = 0) (h : parseP s = .error fl) (hM : M s.length) (hT : Wn M (readP s).1) : fl.1 = 0 ∨ M fl.2 := by
  have e1 : parseP s = andR (pProg s.length (fuel (readP s).1) 0 (List.replicate 6 noBk) (readP s).1) endR := face_go hz
  have hb := prog_bd (z := s.length) (M := M) hM (fuel (readP s).1) 0 (List.replicate 6 noBk) (readP s).1 hT
  rw [e1] at h
  cases hx : pProg s.length (fuel (readP s).1) 0 (List.replicate 6 noBk) (readP s).1 with
  | error e => rw [hx] at h; cases h; exact hb.2 _ hx
  | ok p =>
    obtain ⟨a, r⟩ := p
    rw [hx] at h
    cases r with
    | nil => cases h
    | cons t r => cases h; exact .inr (hb.1 _ _ hx t (.head _))
theorem parseP_at {s : Str} {fl : Fl} (h0 : fl.1 ≠ 0) (h : parseP s = .error fl) : fl.2 ≤ s.length := by
  by_cases hz : (readP s).2.1 = 0
  · exact (parseP_pl (M := fun a => a ≤ s.length) hz h (Nat.le_refl _) (readP_at s).1).resolve_left h0
  · rw [show parseP s = .error (readP s).2 from face_bad hz] at h
    cases h; exact (readP_at s).2
end Go.Prs
end

section
/- The plain part of layer token: the tokens of a source's beginning. -/
namespace Go.Tok
theorem at_tk (p : UInt8 → Bool) (s : List UInt8) (j i : Nat) : atP p (s.take j) i = (decide (i < j) && atP p s i) := by
  by_cases h : i < j
  · rw [atP_take h, decide_eq_true h, Bool.true_and]
  · rw [atP_take_out (by omega), decide_eq_false h, Bool.false_and]
theorem at_tk_no {p : UInt8 → Bool} {s : List UInt8} {j i : Nat} (h : atP p s i = false) : atP p (s.take j) i = false := by rw [at_tk, h, Bool.and_false]
theorem run_tk {p : UInt8 → Bool} {s : List UInt8} {j i : Nat} (hi : i ≤ j) (h : runTo p s i ≤ j) : runTo p (s.take j) i = runTo p s i := runTo_take _ i rfl hi h
theorem dot_tk {s : List UInt8} {j i : Nat} (hi : i ≤ j) (h : numDot s i ≤ j) : numDot (s.take j) i = numDot s i := by
  by_cases c : (atP (eqB 46) s i && atP digitB s (i + 1)) = true
  · have hs : numDot s i = runTo digitB s (i + 1) := by unfold numDot; rw [if_pos c]
    rw [hs] at h ⊢
    simp only [Bool.and_eq_true] at c
    have h1 := runTo_step c.2
    have h2 := runTo_ge digitB s (i + 1 + 1)
    unfold numDot
    rw [at_tk, at_tk, c.1, c.2, decide_eq_true (by omega), decide_eq_true (by omega), run_tk (by omega) (by omega)]; rfl
  · have hs : numDot s i = i := by unfold numDot; rw [if_neg c]
    rw [hs]
    unfold numDot
    rw [if_neg]
    rw [at_tk, at_tk]
    intro hc
    simp only [Bool.and_eq_true] at hc c
    exact c ⟨hc.1.2, hc.2.2⟩
theorem tens_tk {s : List UInt8} {j i : Nat} (hi : i ≤ j) (h : (numTens s i).2 ≤ j) : numTens (s.take j) i = numTens s i := by
  by_cases c1 : (atP (eqB 101) s i && atP digitB s (i + 1)) = true
  · have hs : numTens s i = (runTo digitB s (i + 1) - (i + 1), runTo digitB s (i + 1)) := by unfold numTens; rw [if_pos c1]
    rw [hs] at h ⊢
    simp only at h
    simp only [Bool.and_eq_true] at c1
    have h1 := runTo_step c1.2
    have h2 := runTo_ge digitB s (i + 1 + 1)
    unfold numTens
    rw [at_tk (eqB 101), at_tk digitB s j (i + 1), c1.1, c1.2, decide_eq_true (show i < j by omega), decide_eq_true (show i + 1 < j by omega), run_tk (i := i + 1) (by omega) (by omega)]; rfl
  · have c1' : ¬ (atP (eqB 101) (s.take j) i && atP digitB (s.take j) (i + 1)) = true := by
      rw [at_tk, at_tk]
      intro hc
      simp only [Bool.and_eq_true] at hc c1
      exact c1 ⟨hc.1.2, hc.2.2⟩
    by_cases c2 : (atP (eqB 101) s i && (atP pmB s (i + 1) && atP digitB s (i + 2))) = true
    · have hs : numTens s i = (runTo digitB s (i + 2) - (i + 2), runTo digitB s (i + 2)) := by unfold numTens; rw [if_neg c1, if_pos c2]
      rw [hs] at h ⊢
      simp only at h
      simp only [Bool.and_eq_true] at c2
      have h1 := runTo_step c2.2.2
      have h2 := runTo_ge digitB s (i + 2 + 1)
      unfold numTens
      rw [if_neg c1', if_pos (by rw [at_tk, at_tk, at_tk, c2.1, c2.2.1, c2.2.2, decide_eq_true (show i < j by omega), decide_eq_true (show i + 1 < j by omega), decide_eq_true (show i + 2 < j by omega)]; rfl), run_tk (i := i + 2) (by omega) (by omega)]
    · have hs : numTens s i = (0, i) := by unfold numTens; rw [if_neg c1, if_neg c2]
      rw [hs]
      unfold numTens
      rw [if_neg c1', if_neg]
      rw [at_tk, at_tk, at_tk]
      intro hc
      simp only [Bool.and_eq_true] at hc c2
      exact c2 ⟨hc.1.2, hc.2.1.2, hc.2.2.2⟩
theorem num_tk {s : List UInt8} {j k : Nat} (hk : k ≤ j) (hj : j ≤ s.length) (h : numEnd s k ≤ j) (hf : numFine s k = true) : numEnd (s.take j) k = numEnd s k ∧ numFine (s.take j) k = true := by
  have h1 := runTo_le (p := digitB) (s := s) (i := k) (by omega)
  have h2 := numDot_le h1
  have h3 := numTens_le h2.1
  have g1 := runTo_ge digitB s k
  unfold numEnd at h
  have e1 := run_tk (p := digitB) (s := s) hk (by omega)
  have e2 := dot_tk (s := s) (j := j) (i := runTo digitB s k) (by omega) (by omega)
  have e3 := tens_tk (s := s) (j := j) (i := numDot s (runTo digitB s k)) (by omega) h
  have hE : numEnd (s.take j) k = numEnd s k := by unfold numEnd; rw [e1, e2, e3]
  refine ⟨hE, ?_⟩
  unfold numFine at hf ⊢
  rw [hE, e1, e2, e3]
  simp only [Bool.and_eq_true, Bool.not_eq_true'] at hf ⊢
  exact ⟨hf.1, at_tk_no hf.2⟩
theorem sign_tk {s t : List UInt8} {j k : Nat} (h : signOf s k = some t) (hj : k + t.length ≤ j) : signOf (s.take j) k = some t := by
  unfold signOf at h ⊢
  have hd : (s.take j).drop k = (s.drop k).take (j - k) := List.drop_take
  obtain ⟨h1, us1, us2, h2, h3⟩ := List.find?_eq_some_iff_append.1 h
  refine List.find?_eq_some_iff_append.2 ⟨?_, us1, us2, h2, fun a ha => ?_⟩
  · rw [hd, List.isPrefixOf_iff_prefix]
    rw [List.isPrefixOf_iff_prefix] at h1
    exact List.prefix_take_iff.2 ⟨h1, by omega⟩
  · have := h3 a ha
    simp only [Bool.not_eq_true'] at this ⊢
    cases hp : a.isPrefixOf ((s.take j).drop k) with
    | false => rfl
    | true =>
      rw [hd, List.isPrefixOf_iff_prefix] at hp
      have h4 := (List.prefix_take_iff.1 hp).1
      rw [← List.isPrefixOf_iff_prefix] at h4
      rw [h4] at this; cases this
theorem tok_tk {s : List UInt8} {j k e kd : Nat} (hj : j ≤ s.length) (hk : k < e) (he : e ≤ j) (h : tokAt s k = (kd, e, true)) : tokAt (s.take j) k = (kd, e, true) := by
  have zn : nameB (s.take j) k = nameB s k := by unfold nameB; rw [at_tk, at_tk, decide_eq_true (by omega), Bool.true_and, Bool.true_and]
  unfold tokAt at h ⊢
  rw [zn, at_tk, decide_eq_true (by omega), Bool.true_and]
  split at h
  · rename_i hn
    simp only [Prod.mk.injEq, and_true] at h
    rw [if_pos hn, run_tk (by omega) (by omega), h.1, h.2]
  · rename_i hn
    rw [if_neg hn]
    split at h
    · rename_i hd
      simp only [Prod.mk.injEq] at h
      obtain ⟨e1, e2⟩ := num_tk (s := s) (j := j) (k := k) (by omega) hj (by omega) h.2.2
      rw [if_pos hd, e1, e2, h.1, h.2.1]
    · rename_i hd
      rw [if_neg hd]
      split at h
      · simp at h
      · rename_i hs
        simp only [Prod.mk.injEq, and_true] at h
        cases ho : signOf s k with
        | none => exact absurd (by simp [signLen, ho]) hs
        | some t =>
          have hL : signLen s k = t.length := by simp [signLen, ho]
          have hL2 : signLen (s.take j) k = t.length := by simp [signLen, sign_tk ho (j := j) (by omega)]
          rw [hL2, if_neg (by omega), h.1]
          simp only [Prod.mk.injEq, and_true, true_and]; omega
theorem skip_tk {s : List UInt8} {j : Nat} (hj : j ≤ s.length) : ∀ (m i k : Nat), m = s.length - i → i ≤ j → skipTo s i = k → k < j → skipTo (s.take j) i = k := by
  intro m
  induction m using Nat.strongRecOn with
  | _ m ih =>
    intro i k hm hi h hk
    have hlen : (s.take j).length = j := by rw [List.length_take]; omega
    rw [skipTo_eq (by omega)] at h
    rw [skipTo_eq (by omega)]
    have g1 := runTo_ge blankB s i
    by_cases hc : cmt s (runTo blankB s i) = true
    · rw [if_pos hc] at h
      have g2 := cmt_run hc
      have g3 := (skipTo_le (s := s) (i := runTo notNl s (runTo blankB s i)) (runTo_le (runTo_le (by omega)))).2
      have hr : runTo blankB (s.take j) i = runTo blankB s i := run_tk hi (by omega)
      have hc2 : cmt (s.take j) (runTo blankB s i) = true := by
        unfold cmt at hc ⊢
        simp only [Bool.and_eq_true] at hc
        rw [at_tk, at_tk, hc.1, hc.2, decide_eq_true (by omega), decide_eq_true (by omega)]; rfl
      rw [hr, if_pos hc2, run_tk (by omega) (by omega)]
      exact ih _ (by have := runTo_le (p := blankB) (s := s) (i := i) (by omega); have := runTo_le (p := notNl) (s := s) (i := runTo blankB s i) this; omega) _ k rfl (by omega) h hk
    · rw [if_neg hc] at h
      have hr : runTo blankB (s.take j) i = runTo blankB s i := run_tk hi (by omega)
      have hc2 : ¬ cmt (s.take j) (runTo blankB s i) = true := by
        unfold cmt at hc ⊢
        rw [at_tk, at_tk]
        intro hq
        simp only [Bool.and_eq_true] at hq hc
        exact hc ⟨hq.1.2, hq.2.2⟩
      rw [hr, if_neg hc2, h]
theorem chain_ge {s : List UInt8} : ∀ {A : List Tk} {i : Nat} {t : Tk} {B : List Tk}, Chain s i (A ++ t :: B) → i ≤ t.2.2
  | [], i, t, B, h => by
    cases h with
    | cons hi hl htk hr => exact (skipTo_le hi).2
  | a :: A, i, t, B, h => by
    cases h with
    | @cons _ e kd _ hi hl htk hr =>
      have h1 := skipTo_le hi
      have h2 := tok_le h1.1
      rw [htk] at h2
      simp only at h2
      have h3 := h2.2.2 trivial
      have := chain_ge hr
      omega
theorem lex_tk {s : List UInt8} {t : Tk} {B : List Tk} (hj : t.2.2 ≤ s.length) : ∀ (A : List Tk) (i : Nat) (x : Rd), Chain s i (A ++ t :: B) → x.2 = (0, 0) → x.1.length + A.length ≤ 6000 →
    lexS readN (s.take t.2.2) (skipTo (s.take t.2.2) i) x = (x.1 ++ A, 0, 0)
  | [], i, x, h, h0, _ => by
    cases h with
    | @cons _ e kd _ hi hl htk hr =>
      have h1 := skipTo_le hi
      have hs := skip_take (s := s) (j := skipTo s i) h1.1 _ i rfl h1.2 rfl
      show lexS readN (s.take (skipTo s i)) (skipTo (s.take (skipTo s i)) i) x = _
      rw [hs, lexS_stop readN (by rw [List.length_take]; omega), List.append_nil, ← h0]
  | a :: A, i, x, h, h0, hn => by
    have hlen : (s.take t.2.2).length = t.2.2 := by rw [List.length_take]; omega
    cases h with
    | @cons _ e kd _ hi hl htk hr =>
      have h1 := skipTo_le hi
      have h2 := tok_le h1.1
      rw [htk] at h2
      simp only at h2
      have h3 := h2.2.2 trivial
      have h4 := chain_ge hr
      have hsk := skip_tk hj _ i _ rfl (by omega) rfl (by omega : skipTo s i < t.2.2)
      have htok := tok_tk hj h3 h4 htk
      have htx : tokTx (s.take t.2.2) (skipTo s i) = tokTx s (skipTo s i) := by
        unfold tokTx
        rw [htok, htk]
        simp only
        rw [List.drop_take, List.take_take, Nat.min_eq_left (by omega)]
      have hN : readN x (tokAt (s.take t.2.2) (skipTo s i)).1 (tokTx (s.take t.2.2) (skipTo s i)) (skipTo s i) (tokAt (s.take t.2.2) (skipTo s i)).2.2 = ((x.1 ++ [(kd, tokTx s (skipTo s i), skipTo s i)], x.2), true) := by
        rw [htok, htx]
        simp only
        rw [readN, if_neg (by simp), if_neg (by simp at hn; omega)]
      rw [hsk, lexS_go readN readN_no (by omega) (by rw [hN]), hN, htok]
      simp only
      rw [lex_tk hj A e (x.1 ++ [(kd, tokTx s (skipTo s i), skipTo s i)], x.2) hr h0 (by simp at hn ⊢; omega)]
      simp
theorem readP_tk {s : List UInt8} {A B : List Tk} {t : Tk} (hs : s.length ≤ 20000) (h : (readP s).2.1 = 0) (hT : (readP s).1 = A ++ t :: B) : readP (s.take t.2.2) = (A, 0, 0) := by
  have hc := readP_chain hs h
  rw [hT] at hc
  have hj : t.2.2 ≤ s.length := (readP_at s).1 t (by rw [hT]; simp)
  have hl := readP_len s
  rw [hT] at hl
  have e1 : readS (s.take t.2.2) = (A, 0, 0) := by
    have := lex_tk (B := B) hj A 0 ([], 0, 0) hc rfl (by simp at hl ⊢; omega)
    simpa [readS] using this
  rw [readP_fine (by rw [List.length_take]; omega) (by rw [e1]), e1]
end Go.Tok
end

section
/- The plain part of layer parse: what ParseFirst asks. -/
namespace Go.Tok
theorem chain_lt {s : List UInt8} : ∀ {A : List Tk} {i : Nat} {t : Tk} {B : List Tk}, Chain s i (A ++ t :: B) → ∀ a ∈ A, a.2.2 < t.2.2
  | [], _, _, _, _, a, ha => by cases ha
  | b :: A, i, t, B, h, a, ha => by
    cases h with
    | @cons _ e kd _ hi hl htk hr =>
      have h1 := skipTo_le hi
      have h2 := tok_le h1.1
      rw [htk] at h2
      simp only at h2
      have h3 := h2.2.2 trivial
      have h4 := chain_ge hr
      rcases List.mem_cons.1 ha with rfl | ha
      · show skipTo s i < t.2.2; omega
      · exact chain_lt hr a ha
theorem lex_code {s : List UInt8} : ∀ (m i : Nat) (x : Rd), m = s.length - i → i ≤ s.length → (lexS readN s i x).2.1 = x.2.1 ∨ (lexS readN s i x).2.1 = 110 ∨ (lexS readN s i x).2.1 = 6 := by
  intro m
  induction m using Nat.strongRecOn with
  | _ m ih =>
    intro i x hm hi
    rcases Nat.lt_or_ge i s.length with hl | hl
    · cases hgo : (readN x (tokAt s i).1 (tokTx s i) i (tokAt s i).2.2).2 with
      | true =>
        have hN := readN_go hgo
        have h1 := tok_le hi
        have h2 := h1.2.2 hN.1
        have h3 := skipTo_le h1.2.1
        rw [lexS_go readN readN_no hl hgo]
        have := ih _ (by omega) _ (readN x (tokAt s i).1 (tokTx s i) i (tokAt s i).2.2).1 rfl h3.1
        rwa [show (readN x (tokAt s i).1 (tokTx s i) i (tokAt s i).2.2).1.2.1 = x.2.1 by rw [hN.2]] at this
      | false =>
        rw [lexS_end readN hl hgo]
        unfold readN
        split
        · exact .inr (.inl rfl)
        · split
          · exact .inr (.inr rfl)
          · exact .inl rfl
    · rw [lexS_stop readN (by omega)]; exact .inl rfl
theorem readP_code (s : List UInt8) : (readP s).2.1 ≠ 130 := by
  have h1 := skipTo_le (s := s) (Nat.zero_le _)
  have h2 := lex_code (s := s) _ _ ([], 0, 0) rfl h1.1
  unfold readP
  split
  · simp
  · split
    · simp
    · show (readS s).2.1 ≠ 130
      unfold readS
      rcases h2 with h | h | h <;> rw [h] <;> simp
theorem readS_more (b : List UInt8) : readS (b ++ 10 :: [32, 47, 47, 32, 120]) = readS b := by
  rw [readS_two]
  split
  · have e : skipTo (b ++ 10 :: [32, 47, 47, 32, 120]) (b.length + 1) = (b ++ 10 :: [32, 47, 47, 32, 120]).length := by
      have h1 := skip_sh (u := b ++ [10]) (v := [32, 47, 47, 32, 120]) 0
      have h2 : skipTo [32, 47, 47, 32, 120] 0 = 5 := by decide +kernel
      rw [h2] at h1
      simpa using h1
    rw [e, lexS_stop readN (by omega)]
  · rfl
theorem readP_more {b : List UInt8} (h : b.length ≤ 10000) : readP (b ++ [10, 32, 47, 47, 32, 120]) = readP b := by
  have e := readS_more b
  have h1 : ¬ 20000 < (b ++ [10, 32, 47, 47, 32, 120]).length := by simp; omega
  have h2 : ¬ 20000 < b.length := by omega
  have e' : readS (b ++ [10, 32, 47, 47, 32, 120]) = readS b := e
  unfold readP
  rw [if_neg h1, if_neg h2, e']
end Go.Tok
namespace Go.Prs
open Go.Tok Go.Tree
theorem more_law {s : Str} {p : List Bk} (hs : s.length ≤ 4000) (h : parseP s = .ok p) : ∃ q, parseP (s ++ [10, 32, 47, 47, 32, 120]) = .ok q ∧ pgSame p q = true := by
  have hz : (readP s).2.1 = 0 := by
    false_or_by_contra
    rename_i hz
    rw [show parseP s = .error (readP s).2 from face_bad hz] at h
    cases h
  have e := readP_more (b := s) (by omega)
  have hz2 : (readP (s ++ [10, 32, 47, 47, 32, 120])).2.1 = 0 := by rw [e]; exact hz
  have hl := same_law hz hz2 (by rw [e])
  rw [h] at hl
  cases hq : parseP (s ++ [10, 32, 47, 47, 32, 120]) with
  | ok q => rw [hq] at hl; exact ⟨q, rfl, hl.1⟩
  | error e2 =>
    have key := prog_same (z := s.length) (z2 := (s ++ [10, 32, 47, 47, 32, 120]).length) (n := fuel (readP s).1) (T := (readP s).1) (T2 := (readP s).1) rfl
    have e1 : parseP s = andR (pProg s.length (fuel (readP s).1) 0 (List.replicate 6 noBk) (readP s).1) endR := face_go hz
    have e3 : parseP (s ++ [10, 32, 47, 47, 32, 120]) = andR (pProg (s ++ [10, 32, 47, 47, 32, 120]).length (fuel (readP s).1) 0 (List.replicate 6 noBk) (readP s).1) endR := by
      have := face_go (f := fun z n ts => pProg z n 0 (List.replicate 6 noBk) ts) hz2
      rw [e] at this; exact this
    rw [← e1, ← e3, h, hq] at key
    simp [mapZ] at key
theorem first_law {s : Str} {a : Nat} (hs : s.length ≤ 4000) (h : parseP s = .error (130, a)) (ha : a < s.length) :
    (∃ q, parseP (s.take a) = .ok q) ∨ parseP (s.take a) = .error (130, a) ∨ ∃ q, parseP (s.take a) = .error (0, q) := by
  have hz : (readP s).2.1 = 0 := by
    false_or_by_contra
    rename_i hz
    rw [show parseP s = .error (readP s).2 from face_bad hz] at h
    exact readP_code s (by rw [Except.error.inj h])
  have hmem : ∃ t ∈ (readP s).1, t.2.2 = a := by
    have := (parseP_pl (M := fun b => b = s.length ∨ ∃ t ∈ (readP s).1, t.2.2 = b) hz h (.inl rfl) (fun t ht => .inr ⟨t, ht, rfl⟩)).resolve_left (show (130 : Nat) ≠ 0 by decide)
    rcases this with h1 | h1
    · exact absurd h1 (by simp only; omega)
    · exact h1
  obtain ⟨t, ht, hta⟩ := hmem
  obtain ⟨A, B, hT⟩ := List.append_of_mem ht
  have hc := readP_chain (by omega) hz
  rw [hT] at hc
  have hAp : Ap t.2.2 A := fun u hu => Nat.ne_of_lt (chain_lt hc u hu)
  have hr := readP_tk (by omega) hz hT
  have hlen : (s.take a).length = a := by rw [List.length_take]; omega
  rw [hta] at hr
  have e1 : parseP s = andR (pProg s.length (fuel (readP s).1) 0 (List.replicate 6 noBk) (readP s).1) endR := face_go hz
  have e2 : parseP (s.take a) = andR (pProg (s.take a).length (fuel (readP (s.take a)).1) 0 (List.replicate 6 noBk) (readP (s.take a)).1) endR := face_go (by rw [hr])
  rw [hr, hlen] at e2
  dsimp only at e2
  have htr := prog_tr (zf := s.length) (t := t) (suf := B) (fuel (readP s).1) (fuel A) (by rw [hT]; unfold fuel; rw [List.length_append]; omega) 0 (List.replicate 6 noBk) A hAp
  rw [← hT, hta] at htr
  rw [e1] at h
  rw [e2]
  rcases htr with ⟨x, r, hX, hY, hr2⟩ | ⟨e, hX, he, hY⟩ | hY | ⟨x, hY⟩ | ⟨q, hY⟩
  · rw [hX] at h
    rw [hY]
    cases r with
    | nil => exact .inl ⟨x, rfl⟩
    | cons u r =>
      have h2 : u.2.2 = a := congrArg Prod.snd (Except.error.inj h)
      rw [hta] at hr2
      exact absurd h2 (hr2 u (.head _))
  · rw [hX] at h
    have h2 : e = (130, a) := Except.error.inj h
    rw [h2] at he
    rcases he with he | he
    · exact absurd hta.symm he
    · cases he
  · rw [hY, hta]; exact .inr (.inl rfl)
  · rw [hY]; exact .inl ⟨x, rfl⟩
  · rw [hY]; exact .inr (.inr ⟨q, rfl⟩)
end Go.Prs
end

section
namespace Go.Proofs.YtaniogadknakoaaGreatDoor
open Go.RowKit Go.Sx
open Go.Tok Go.Tree Go.Prs

theorem sameE {cs : List Value} {N : Nat → Prop} {w : World} (hm : pgM w N (List.replicate 6 noBk) cs) : Ret Tryz.prog 21 #[.agg cs.toArray, .agg [.bool false, .slice none 0 0, .slice none 0 0, .bool false, .slice none 0 0, .slice none 0 0, .bool false, .slice none 0 0, .slice none 0 0, .bool false, .slice none 0 0, .slice none 0 0, .bool false, .slice none 0 0, .slice none 0 0, .bool false, .slice none 0 0, .slice none 0 0].toArray] w fun v w' => v = .bool true ∧ Ext w w' :=
 same2 (fun b hb => Nat.lt_of_le_of_lt (bkW_noBk b hb) (by decide)) hm (pgM.zero (N := N)) (by decide +kernel)

set_option maxRecDepth 100000 in
set_option maxHeartbeats 16000000 in
theorem first_walk (s : Str) (hs : s.length ≤ 9223372036854775807) (w : World) (hW : Wd w) (hng : 4 ≤ w.heap.size) :
  Ret Tryz.prog 6 #[str s] w (fun v w' => v = .bool true ∧ Ext w w') := by
 refine enter (S := No) (l := [_]) (L := []) 91 Tryz.func6 rfl rfl rfl (St.start w No) ?_; refine yA ?_; refine aB rfl ?_; refine yB ?_; refine zq ?_; refine yA ?_; refine zm (v := str _) rfl ?_; refine w_r (fun _ => R_slen st9 rfl (by omega)) rfl rfl ?_; refine w_r (fun _ => R_gt rfl rfl) rfl rfl ?_; refine yB ?_; refine zD rfl (fun h1 => ?_) (fun h1 => ?_)
 ·refine yA ?_; refine zC (fun w => zR Tryz.func9 rfl rfl rfl) rfl rfl (fun w h => head13_ok w (hW.now (.head _) h) (Nat.le_trans hng (h.fr _ (.head _)).size)) ?_; refine aB rfl ?_; refine yB ?_; refine ze ?_; refine zt (?_)
  refine zo (v := .bool _) rfl rfl rfl ?_; exact fun w' hw => ⟨rfl, hw.fr _ (.head _)⟩
 ·refine zi ?_; refine zk ?_; refine yA ?_; refine zm (v := str _) rfl ?_; refine w_callR (fun w => zR Tryz.func10 rfl rfl rfl) rfl rfl (fun w h => Parse_ok s (by omega) w (hW.now (.head _) h) (Nat.le_trans hng (h.fr _ (.head _)).size)) ?_
  rintro wa hwa v x1 ⟨cs1, rfl, hM, hne1, hx⟩
  refine ⟨_, _, (hwa.ext hx).base1, ?_⟩
  have hK1 : Kt (x1, inL _) w.heap.size pgM _ cs1 := Kt.new hM TL.pg hwa (hwa.fr _ (.head _)).size; clear hM hx hwa
  have hcl1 : cs1.length = 18 := hK1.len
  refine zm rfl ?_; refine w_r (fun _ => R_extract rfl rfl) rfl rfl ?_; refine w_r (fun _ => R_extract rfl rfl) rfl rfl ?_; refine w_alloc zr29 (fun p1b gp1b up1b => ?_)
  refine w_alloc zr32 (fun f1b gf1b uf1b => ?_)
  refine w_storeW cs1 1 rfl z29 rfl rfl rfl hcl1 (pg_one hK1) rfl ?_; refine w_store 0 rfl z32 rfl rfl rfl rfl rfl rfl rfl ?_; refine yB ?_; refine zq ?_; refine yA ?_; refine zf fa32_0 rfl ?_; refine zl z30 rfl (fun _ h => zc 0 rfl rfl h) ?_; refine w_r (fun _ => R_eq rfl rfl) rfl rfl ?_; refine yB ?_; refine zD rfl (fun h4 => ?_) (fun h4 => ?_)
  ·obtain ⟨p, hp⟩ : ∃ p, parseP s = .ok p := (by cases hq : parseP s with | ok p => exact ⟨p, rfl⟩ | error e => rw [hq] at h4; exact absurd (Int.ofNat.inj h4) (hne1 _ hq)); obtain ⟨q, hq, hsm⟩ := more_law (by omega) hp; have hpW : ∀ b ∈ (resOf (List.replicate 6 noBk) (parseP s)).1, bkW b < 10000000 := fun b hb => Nat.lt_of_le_of_lt (res_W (s := s) (M := 12001) (by omega) (by have := readP_tw s; omega) b hb) (by omega)
   refine yA ?_; refine zm (v := str _) rfl ?_; refine w_r (fun _ => R_cat rfl rfl (by simp only [List.length_append, List.length_cons, List.length_nil]; omega)) rfl rfl ?_; refine w_callR (fun w => zR Tryz.func10 rfl rfl rfl) rfl rfl (fun w h => Parse_at (s ++ [10, 32, 47, 47, 32, 120]) (by simp only [List.length_append, List.length_cons, List.length_nil]; omega) (p := q) (fl := (0, 0)) (by rw [hq]; rfl) w (hW.now (.tail _ (.head _)) h) (Nat.le_trans hng (h.fr _ (.tail _ (.head _))).size)) ?_
   rintro wa hwa v x2 ⟨cs2, rfl, hM, hx⟩
   refine ⟨_, _, (hwa.ext hx).base1, ?_⟩
   have hK2 : Kt (x2, inL _) w.heap.size pgM _ cs2 := Kt.new hM TL.pg hwa (hwa.fr _ (.tail _ (.head _))).size; clear hM hx hwa
   have hcl2 : cs2.length = 18 := hK2.len
   refine zm rfl ?_; refine w_r (fun _ => R_extract rfl rfl) rfl rfl ?_; refine w_r (fun _ => R_extract rfl rfl) rfl rfl ?_; refine w_alloc zr29 (fun p2b gp2b up2b => ?_)
   refine w_alloc zr32 (fun f2b gf2b uf2b => ?_)
   refine w_storeW cs2 1 rfl z29 rfl rfl rfl hcl2 (pg_one hK2) rfl ?_; refine w_store 0 rfl z32 rfl rfl rfl rfl rfl rfl rfl ?_; refine yC ?_; refine w_loadA z32 rfl (fun _ h => h.at_ 0 rfl) rfl ?_; refine w_r (fun _ => R_build bt32 rfl) rfl rfl ?_; refine w_r (fun _ => R_eqS fl32 rfl rfl (eq2_run (n := 9998) fl32 z30 z3 un30 un3)) rfl rfl ?_; refine mB rfl ?_; refine zp (t := 30) rfl (fun h7 => ?_) (fun h7 => ?_)
   ·refine zw rfl rfl (bV h7) ?_; refine w_loadW z29 rfl (fun w h => h.at_ 3 rfl) hcl1 ?_; refine zw rfl rfl (bV h7) ?_; refine w_loadW z29 rfl (fun w h => h.at_ 1 rfl) hcl2 ?_; refine zw rfl rfl (bV h7) ?_; refine zC (fun w => zR Tryz.func21 rfl rfl rfl) rfl rfl (fun w h => same2 hpW (hK1.now TL.pg (.tail _ (.head _)) h) (hK2.now TL.pg (.head _) h) (by rw [hp]; exact hsm)) ?_; refine w_r (v := .bool _) (fun _ => zT (bV h7) rfl) rfl rfl ?_; refine mB rfl ?_; refine zw rfl rfl rfl ?_; refine zC (fun w => zR Tryz.func9 rfl rfl rfl) rfl rfl (fun w h => head13_ok w (hW.now (.tail _ (.tail _ (.head _))) h) (Nat.le_trans hng (h.fr _ (.tail _ (.tail _ (.head _)))).size)) ?_
    refine w_r (v := .bool _) (fun _ => zT rfl rfl) rfl rfl ?_; refine aB rfl ?_; refine yB ?_; refine ze ?_; refine zt (?_)
    refine zo (v := .bool _) rfl rfl rfl ?_; exact fun w' hw => ⟨rfl, hw.fr _ (.tail _ (.tail _ (.head _)))⟩
   ·first | exact absurd (by first | rfl | decide) h7 | (simp at h7)
  ·obtain ⟨fl, hfl⟩ : ∃ fl, parseP s = .error fl := (by cases hq : parseP s with | ok p => rw [hq] at h4; exact absurd rfl h4 | error e => exact ⟨e, rfl⟩); have hr : (resOf (List.replicate 6 noBk) (parseP s)) = (List.replicate 6 noBk, fl) := (by rw [hfl]; rfl); have hat := parseP_at (hne1 _ hfl) hfl; have hfn := hne1 _ hfl; rw [hr] at hK1 ⊢
   refine zi ?_; refine zk ?_; refine zq ?_; refine yA ?_; refine w_loadW z29 rfl (fun w h => h.at_ 1 rfl) hcl1 ?_; refine w_r (fun _ => R_build bt29 rfl) rfl rfl ?_; refine zC (fun w => zR Tryz.func21 rfl rfl rfl) rfl rfl (fun w h => sameE (hK1.now TL.pg (.head _) h)) ?_; refine w_r (fun _ => R_not rfl) rfl rfl ?_; refine mB rfl ?_; refine zw rfl rfl rfl ?_; refine zf fa32_1 rfl ?_; refine zw rfl rfl rfl ?_; refine zl z3 rfl (fun _ h => zc 0 rfl rfl h) ?_; refine zw rfl rfl rfl ?_; refine w_r (fun _ => R_lt rfl rfl) rfl rfl ?_; refine w_r (v := .bool _) (fun _ => zF rfl rfl) rfl rfl ?_; refine mB rfl ?_; refine zd (t := 47) rfl (fun h8 => ?_) (fun h8 => ?_)
   ·exfalso; dsimp only at *; omega
   ·refine zw rfl rfl (bF h8) ?_; refine zf fa32_1 rfl ?_; refine zw rfl rfl (bF h8) ?_; refine zl z3 rfl (fun _ h => zc 0 rfl rfl h) ?_; refine zw rfl rfl (bF h8) ?_; refine zm (v := str _) rfl ?_; refine zw rfl rfl (bF h8) ?_; refine w_r (fun _ => R_slen st9 rfl (by omega)) rfl rfl ?_; refine zw rfl rfl (bF h8) ?_; refine w_r (fun _ => R_gt rfl rfl) rfl rfl ?_; refine w_r (v := .bool _) (fun _ => zF (bF h8) rfl) rfl rfl ?_; refine yB ?_; refine zD rfl (fun h9 => ?_) (fun h9 => ?_)
    ·exfalso; dsimp only at *; omega
    ·refine zi ?_; refine zk ?_; refine zq ?_; refine yA ?_; refine zf fa32_0 rfl ?_; refine zl z30 rfl (fun _ h => zc 0 rfl rfl h) ?_; refine w_r (fun _ => R_ne rfl rfl) rfl rfl ?_; refine mB rfl ?_; refine zd (t := 57) rfl (fun h10 => ?_) (fun h10 => ?_)
     ·refine zs rfl rfl (bT h10) ?_; refine zs rfl rfl (bT h10) ?_; refine zs rfl rfl (bT h10) ?_; refine zs rfl rfl (bT h10) ?_; refine zs rfl rfl (bT h10) ?_; refine w_r (v := .bool _) (fun _ => zT (bT h10) rfl) rfl rfl ?_; refine yB ?_; refine zE rfl ?_; refine yA ?_; refine zC (fun w => zR Tryz.func9 rfl rfl rfl) rfl rfl (fun w h => head13_ok w (hW.now (.tail _ (.head _)) h) (Nat.le_trans hng (h.fr _ (.tail _ (.head _))).size)) ?_; refine aB rfl ?_; refine yB ?_; refine ze ?_; refine zt (?_)
      refine zo (v := .bool _) rfl rfl rfl ?_; exact fun w' hw => ⟨rfl, hw.fr _ (.tail _ (.head _))⟩
     ·refine zw rfl rfl (bF h10) ?_; refine zf fa32_1 rfl ?_; refine zw rfl rfl (bF h10) ?_; refine zl z3 rfl (fun _ h => zc 0 rfl rfl h) ?_; refine zw rfl rfl (bF h10) ?_; refine zm (v := str _) rfl ?_; refine zw rfl rfl (bF h10) ?_; refine w_r (fun _ => R_slen st9 rfl (by omega)) rfl rfl ?_; refine zw rfl rfl (bF h10) ?_; refine w_r (fun _ => R_eq rfl rfl) rfl rfl ?_; refine w_r (v := .bool _) (fun _ => zF (bF h10) rfl) rfl rfl ?_; refine yB ?_; refine zD rfl (fun h11 => ?_) (fun h11 => ?_)
      ·refine yA ?_; refine zC (fun w => zR Tryz.func9 rfl rfl rfl) rfl rfl (fun w h => head13_ok w (hW.now (.tail _ (.head _)) h) (Nat.le_trans hng (h.fr _ (.tail _ (.head _))).size)) ?_; refine aB rfl ?_; refine yB ?_; refine ze ?_; refine zt (?_)
       refine zo (v := .bool _) rfl rfl rfl ?_; exact fun w' hw => ⟨rfl, hw.fr _ (.tail _ (.head _))⟩
      ·refine zi ?_; refine zk ?_; refine yA ?_; refine zm (v := str _) rfl ?_; refine zf fa32_1 rfl ?_; refine zl z3 rfl (fun _ h => zc 0 rfl rfl h) ?_; refine w_r (fun _ => R_ssl_hiN st9 rfl rfl (by omega)) rfl rfl ?_; refine w_callR (fun w => zR Tryz.func10 rfl rfl rfl) rfl rfl (fun w h => Parse_ok (s.take fl.2) (by rw [List.length_take]; omega) w (hW.now (.tail _ (.head _)) h) (Nat.le_trans hng (h.fr _ (.tail _ (.head _))).size)) ?_
       rintro wa hwa v x3 ⟨cs3, rfl, hM, hne3, hx⟩
       refine ⟨_, _, (hwa.ext hx).base1, ?_⟩
       have hK3 : Kt (x3, inL _) w.heap.size pgM _ cs3 := Kt.new hM TL.pg hwa (hwa.fr _ (.tail _ (.head _))).size; clear hM hx hwa
       have hcl3 : cs3.length = 18 := hK3.len
       have hfin : (resOf (List.replicate 6 noBk) (parseP (s.take fl.2))).2.1 = 0 ∨ ((resOf (List.replicate 6 noBk) (parseP (s.take fl.2))).2.1 = 130 ∧ (resOf (List.replicate 6 noBk) (parseP (s.take fl.2))).2.2 = fl.2) := (by rcases first_law (s := s) (a := fl.2) (by omega) (by rw [hfl]; exact congrArg Except.error (Prod.ext (by dsimp only at *; omega) rfl)) (by dsimp only at *; omega) with ⟨q, hq⟩ | hq | ⟨q, hq⟩ <;> rw [hq] <;> first | exact .inl rfl | exact .inr ⟨rfl, rfl⟩)
       refine zm rfl ?_; refine w_r (fun _ => R_extract rfl rfl) rfl rfl ?_; refine w_r (fun _ => R_extract rfl rfl) rfl rfl ?_; refine w_alloc zr29 (fun p3b gp3b up3b => ?_)
       refine w_alloc zr32 (fun f3b gf3b uf3b => ?_)
       refine w_storeW cs3 1 rfl z29 rfl rfl rfl hcl3 (pg_one hK3) rfl ?_; refine w_store 0 rfl z32 rfl rfl rfl rfl rfl rfl rfl ?_; refine yC ?_; refine zf fa32_0 rfl ?_; refine zl z30 rfl (fun _ h => zc 0 rfl rfl h) ?_; refine w_r (fun _ => R_eq rfl rfl) rfl rfl ?_; refine mB rfl ?_; refine zd (t := 76) rfl (fun h14 => ?_) (fun h14 => ?_)
       ·refine zs rfl rfl (bT h14) ?_; refine zs rfl rfl (bT h14) ?_; refine zs rfl rfl (bT h14) ?_; refine zs rfl rfl (bT h14) ?_; refine zU rfl rfl rfl ?_; refine zU rfl rfl rfl ?_; refine zU rfl rfl rfl ?_; refine zU rfl rfl rfl ?_; refine zU rfl rfl rfl ?_; refine zs rfl rfl (bT h14) ?_; refine w_r (v := .bool _) (fun _ => zT (bT h14) rfl) rfl rfl ?_; refine mB rfl ?_; refine zw rfl rfl rfl ?_; refine zC (fun w => zR Tryz.func9 rfl rfl rfl) rfl rfl (fun w h => head13_ok w (hW.now (.tail _ (.tail _ (.head _))) h) (Nat.le_trans hng (h.fr _ (.tail _ (.tail _ (.head _)))).size)) ?_; refine w_r (v := .bool _) (fun _ => zT rfl rfl) rfl rfl ?_; refine aB rfl ?_; refine yB ?_; refine ze ?_; refine zo (v := .bool _) rfl rfl rfl ?_
        exact fun w' hw => ⟨rfl, hw.fr _ (.tail _ (.tail _ (.head _)))⟩
       ·refine zw rfl rfl (bF h14) ?_; refine zf fa32_0 rfl ?_; refine zw rfl rfl (bF h14) ?_; refine zl z30 rfl (fun _ h => zc 0 rfl rfl h) ?_; refine zw rfl rfl (bF h14) ?_; refine w_r (fun _ => R_eq rfl rfl) rfl rfl ?_; refine zw rfl rfl (bF h14) ?_; refine mB rfl ?_; refine zd (t := 80) rfl (fun h15 => ?_) (fun h15 => ?_)
        ·refine zw rfl rfl (bT h15) ?_; refine zf fa32_1 rfl ?_; refine zw rfl rfl (bT h15) ?_; refine zl z3 rfl (fun _ h => zc 0 rfl rfl h) ?_; refine zw rfl rfl (bT h15) ?_; refine zf fa32_1 rfl ?_; refine zw rfl rfl (bT h15) ?_; refine zl z3 rfl (fun _ h => zc 2 rfl rfl h) ?_; refine zw rfl rfl (bT h15) ?_; refine w_r (fun _ => R_eq rfl rfl) rfl rfl ?_; refine zw rfl rfl (bF h14) ?_; refine w_r (v := .bool _) (fun _ => zT (bT h15) rfl) rfl rfl ?_; refine w_r (v := .bool _) (fun _ => zF (bF h14) rfl) rfl rfl ?_; refine mB rfl ?_; refine zd (t := 88) rfl (fun h16 => ?_) (fun h16 => ?_)
         ·refine zw rfl rfl (bT h16) ?_; refine zC (fun w => zR Tryz.func9 rfl rfl rfl) rfl rfl (fun w h => head13_ok w (hW.now (.tail _ (.tail _ (.head _))) h) (Nat.le_trans hng (h.fr _ (.tail _ (.tail _ (.head _)))).size)) ?_; refine w_r (v := .bool _) (fun _ => zT (bT h16) rfl) rfl rfl ?_; refine aB rfl ?_; refine yB ?_; refine ze ?_; refine zo (v := .bool _) rfl rfl rfl ?_; exact fun w' hw => ⟨rfl, hw.fr _ (.tail _ (.tail _ (.head _)))⟩
         ·exfalso; dsimp only at *; omega
        ·exfalso; dsimp only at *; omega
end Go.Proofs.YtaniogadknakoaaGreatDoor
end

section
/- A row's lifting with what is laid and the world's shape. -/
namespace Go.Sx
theorem handed_and_shaped {H : Type} {enc : TypeId × Value → H} {a : Assume} {C : Checked} {os : Os} {f : FuncId} {fn : Func} {s : ChangeSpec} {conds : List PathCond} {apart fresh handsOn again : Bool} {X : World → Array Value → Prop}
    (hX : ∀ (w w' : World) (args : Array Value), w.heap = w'.heap → X w args → X w' args)
    (own : ownKnob C.prog.godebug = none) (started : os.Started) (noInit : C.prog.inits.idxOf? f = none) (hfn : C.prog.funcs[f]? = some fn)
    (witness : ∃ (w : World) (tape : Tape) (i : Input), w.os = os ∧ (w.forCall tape i).Shaped C.prog ∧ i.vars = [] ∧ Input.okWide C.prog (w.forCall tape i) .any w.heap.size f i ∧
      ((s.pre enc C.prog fn conds apart (w.forCall tape i).memory i.args ∧ X (w.forCall tape i).memory i.args) ∧ sizedMet enc C.prog fn (OpenSpec.ofChange s) apart (w.forCall tape i).memory i.args) ∧ a.holds C.prog (lone (Frame.enter C.prog f i.args .normal) [] (w.forCall tape i)))
    (contract : ∀ (W : World) (base : Nat) (args : Array Value) (ds gs : List (DataW H)) (before : List MemPlace),
      (∀ (j : Nat) t v, fn.params[j]? = some t → args[j]? = some v → Value.okWide C.prog W .any base t v) →
      DataW.Whole enc C.prog fn.params.toList s.vars apart W args.toList ds gs before →
      X W args → W.ShapedOpen C.prog →
      Calls C.prog f args W fun e W' => ∃ v, e = .returned v ∧ s.post enc C.prog fn apart fresh handsOn again W args v W') :
    ReturnsInHanded a C os f .any (fun w args => (s.pre enc C.prog fn conds apart w args ∧ X w args) ∧ sizedMet enc C.prog fn (OpenSpec.ofChange s) apart w args) (s.post enc C.prog fn apart fresh handsOn again) := by
  refine returnsInHanded_of_calls own started noInit witness ?_
  intro w tape i _ hsh _ hok hpre hholds
  obtain ⟨_, _, _, fn', hfn', _, _, _, _, hval⟩ := hok
  have e : fn' = fn := Option.some.inj (hfn'.symm.trans hfn)
  subst e
  obtain ⟨⟨⟨ds, gs, before, hw, hc⟩, hx⟩, hz⟩ := hpre
  have hw' := DataW.Whole.of_heap (w' := w.forCall tape i) (by rfl) hw
  refine (contract (w.forCall tape i) w.heap.size i.args ds gs before hval hw' (hX _ _ _ (by rfl) hx) hsh).mono fun e W' ⟨v, he, hp⟩ => ?_
  subst he
  exact ChangeSpec.post_blind hp
end Go.Sx
end

section
namespace Go.Proofs.YtaniogadknakoaaGreatDoor
open Go.ChangeShapes Go.WideShapes Go.ChangeAt Go.RowKit Go.Sx
open Go.ChangeMaps (open_string)
theorem own : ownKnob Tryz.prog.godebug = none := by kernel_rfl
theorem below_ext {w w' : World} (h : Ext w w') : Below w.heap.size w w' := ⟨h.os, h.tape, h.output, h.size, fun k hk => h.blk k hk (fun x => x)⟩
section
variable {H : Type} {enc : TypeId × Value → H} {P : Program}
theorem post_ext {f : Func} {s : ChangeSpec} {apart fresh handsOn : Bool} {W W' : World} {args : Array Value} {v : Value} {ds gs : List (DataW H)} {before pa pv : List MemPlace}
    (hW : DataW.Whole enc P f.params.toList s.vars apart W args.toList ds gs before)
    (hres : ∀ (b : Nat) (sp : Nat → Bool) (hd : Bool), DataW.TrodAll enc P W' b sp hd f.resultTypes.toList (v.resultList f.resultTypes.size) (s.fn H (ds ++ gs)).results [])
    (hargs : ∀ sp : Nat → Bool, (∀ p ∈ before, sp p.block = true) → DataW.TrodAll enc P W' 0 sp true f.params.toList args.toList (s.fn H (ds ++ gs)).args pa)
    (hvars : ∀ sp : Nat → Bool, (∀ p ∈ before, sp p.block = true) → DataW.TrodVars enc P W' sp s.vars (s.fn H (ds ++ gs)).vars pv)
    (hps : before = pa ++ pv) (hb : Below W.heap.size W W') : s.post enc P f apart fresh handsOn false W args v W' := by
  have hold : ∀ p ∈ before, (fun b => decide (b < W.heap.size)) p.block = true := fun p hp => by simpa using hW.lt p hp
  exact ⟨ds, gs, before, [], pa, pv, hW, hres _ _ _, hargs _ hold, hvars _ hold, hb.frame _, fun h => by cases h⟩
end
theorem door_met (os : Os) (args : Array Value) : laidMetH Tryz.prog Rows.parseFirstRow.laid ((World.doorLaid Tryz.prog 400 os).forCall (fun _ _ => 0) ⟨#[], args, []⟩).memory :=
  laidMetH_of_parts3 (fuel := 8) (laidMet_of_run' 8 (by kernel_rfl) (by kernel_rfl)) (by kernel_rfl) (by kernel_rfl)
set_option maxRecDepth 100000 in
theorem tb_of_laid {W : World} (h : laidMetH Tryz.prog Rows.parseFirstRow.laid W) : Tb W := by
  rw [MakeChecks.laidMetH_plain _ _ _ (by kernel_rfl)] at h
  obtain ⟨ps, ⟨g0, t0, cs0, f0, p0, q0, hg0, ht0, hv0, hd0, ⟨g1, t1, cs1, f1, p1, q1, hg1, ht1, hv1, hd1, hr1, hq0⟩, hps⟩, hn, hm⟩ := h
  refine Tb.of (Lib.tabIs_of_head (g := 0) (t := 115) (e := 5) (n := 256) (rest := []) (by kernel_rfl) (by kernel_rfl) Tryz.underlying115 Tryz.underlying5 (by kernel_rfl) (by kernel_rfl) (W := W) ⟨q0, ⟨g1, t1, cs1, f1, p1, q1, hg1, ht1, hv1, hd1, hr1, hq0⟩, ?_, ?_⟩)
  · rw [hps] at hn; exact (List.nodup_append.1 hn).2.1
  · exact fun b off hx => hm b off (by rw [hps]; exact List.mem_append.2 (.inr hx))
theorem size_of_shaped {P : Program} {w : World} {g : Nat} (h : w.ShapedOpen P) (hg : g < P.globals.size) (h0 : (((begin P (fun _ _ => 0) default).world.heap[g]?).bind Obj.row?).isSome = true) : g < w.heap.size := by
  obtain ⟨⟨zero, t⟩, h1⟩ := Option.isSome_iff_exists.1 h0
  obtain ⟨cs, hh, _⟩ := h.1 g zero t hg h1
  exact (Array.getElem?_eq_some_iff.1 hh).1

set_option maxRecDepth 100000 in
theorem parseFirst_lifted (os : Os) (started : os.Started) (H : Type) (enc : TypeId × Value → H) :
    ReturnsInHanded {} Tryz.checked os 6 .any (fun w args => (Rows.parseFirstSpec.pre enc Tryz.prog Tryz.f6 [] false w args ∧ laidMetH Tryz.prog Rows.parseFirstRow.laid w) ∧ sizedMet enc Tryz.prog Tryz.f6 (OpenSpec.ofChange Rows.parseFirstSpec) false w args)
      (Rows.parseFirstSpec.post enc Tryz.prog Tryz.f6 false true false false) := by
  refine handed_and_shaped (C := Tryz.checked) (X := fun w _ => laidMetH Tryz.prog Rows.parseFirstRow.laid w) (fun _ _ _ hh h => h.of_heap hh) own started (by kernel_rfl) Tryz.func6
    (ChangeSpec.witness_shaped (enc := enc) (C := Tryz.checked) (os := os) (X := fun w _ => laidMetH Tryz.prog Rows.parseFirstRow.laid w) false (World.doorLaid Tryz.prog 400 os) #[.string ⟨#[]⟩] 8 rfl (World.shaped_of_RefB (by kernel_rfl) (by kernel_rfl)) (by kernel_rfl) (by kernel_rfl) (by kernel_rfl) (door_met os _)) ?_
  intro W base args ds gs before hval0 hW hL hsh
  have hval : ∀ (j : Nat) t v, Tryz.f6.params[j]? = some t → args[j]? = some v → Value.okWide Tryz.prog W .any base t v := hval0
  have hW' := hW
  obtain ⟨p, q, hA0, hV, rfl, _, _⟩ := hW
  have hA : DataW.TrodAll enc Tryz.prog W 0 (fun _ => true) true Tryz.f6.params.toList args.toList ds p := hA0
  rw [Tryz.params6] at hA hval
  obtain ⟨v0, d0, rfl, rfl, h0⟩ := trodAll_one hA
  obtain ⟨rfl, rfl⟩ := trodVars_none hV
  obtain ⟨x0, rfl, rfl, rfl, wx0⟩ := open_string Tryz.underlying9 (hval 0 9 v0 rfl rfl) h0
  have ht := tb_of_laid hL
  clear hA0 hval0
  simp only [List.append_nil] at hW'
  refine Calls.mono (first_walk x0.data.toList (by have := wx0; unfold maxLen at this; simp; omega) W ⟨ht, ht.lt, cell_of_shapedOpen_int hsh (zero := #[.int .i64 0]) (g := 2) (t := 3) (by decide) (by kernel_rfl) rfl (by kernel_rfl) (by kernel_rfl) Tryz.underlying3⟩ (size_of_shaped hsh (g := 3) (by decide) (by kernel_rfl))) fun e W' ⟨v, he, hv, hx⟩ => ?_
  subst he; subst hv
  exact ⟨_, rfl, post_ext (pa := []) (pv := []) hW' (fun _ _ _ => trodAll_mk1 (shut_bool Tryz.underlying4 _)) (fun sp _ => trodAll_mk1 (ChangeMaps.shut_string Tryz.underlying9 wx0)) (fun _ _ => rfl) rfl (below_ext hx)⟩
theorem parseFirst_holds : Rows.ParseFirstSaid :=
  OpenClaim.holds_of_wide 6 Tryz.f6 rfl rfl rfl rfl rfl rfl rfl ⟨rfl, rfl, rfl, rfl, rfl⟩ rfl rfl rfl rfl rfl (by kernel_rfl) Tryz.func6 (by kernel_rfl)
    (of_decide_eq_true (by kernel_rfl)) (by unfold Func.isWrapper; first | (rw [if_pos (by decide +kernel)]; kernel_rfl) | (rw [if_neg (by decide +kernel)]; exact ⟨rfl, rfl⟩))
    (fun os started H enc _ => parseFirst_lifted os started H enc)
end Go.Proofs.YtaniogadknakoaaGreatDoor
end

section
namespace Go.Proofs.YtaniogadknakoaaGreatDoor
open Go
theorem parseFirst_card : Rows.ParseFirstCardSaid :=
  Claim7.holds_tied_plain_at .later [] [.listed, .data] true (true, "a9064e2a442c3b536780d827cf246cb9ffd59ece4e9a70045f3d8d8099ffcaba") true
    parseFirst_holds (fun _ h => by cases h) (by kernel_rfl) (fun _ h => by cases h) parseFirst_row_tie rfl ⟨rfl, rfl⟩ (by kernel_rfl) rfl
    (fun f fn hf hfn => by
      obtain rfl : f = 6 := Option.some.inj ((show Tryz.prog.funcNamed "stepstone/stepstonelaw13.ParseFirst" = some 6 by kernel_rfl).symm.trans hf) |>.symm
      obtain rfl : fn = Tryz.f6 := (Option.some.inj (Tryz.func6.symm.trans hfn)).symm
      exact ⟨by kernel_rfl, fun j t ht => by
        rw [Tryz.params6] at ht
        have ht3 : t = 9 := by
          rcases j with _ | j
          · simpa using ht.symm
          · simp at ht
        subst ht3
        exact (show Tryz.prog.wantsStandIn 9 = false by kernel_rfl)⟩)
    (by kernel_rfl)
end Go.Proofs.YtaniogadknakoaaGreatDoor
end
