/- Layer 15, KindMore: an expression's kind does not hang on a variable whose name does not stand in it, nor on the places, but for that of a fault; in the Upto form. Part 8 of 16. -/
import Derived.Test.YtoehjlmdnajibaaGreatDoorM07
section
namespace Go.Knd
open Go.Tok Go.Tree
abbrev Ft := Nat × Int
structure Vr where
  nm : Str
  ty : Nat
  bk : Int
  par : Bool
deriving DecidableEq
def findV (l : List Vr) (s : Str) : Option Vr := l.reverse.find? fun v => decide (v.nm = s)
def scal (t : Nat) : Bool := decide (t = 1) || decide (t = 2)
def whol (t : Nat) : Bool := decide (t = 1) || decide (t = 4)
def callK (nm : Str) (a b : Nat) : Option Nat :=
  if nm ∈ ([[101, 120, 112], [108, 111, 103], [115, 113, 114, 116], [115, 113, 117, 97, 114, 101], [105, 110, 118, 95, 108, 111, 103, 105, 116]] : List Str) then
    some (if b = 0 then (if a = 1 ∨ a = 2 then 2 else if a = 3 then 3 else 0) else 0)
  else if nm = [115, 117, 109] then some (if b = 0 then (if a = 4 then 1 else if a = 3 ∨ a = 5 then 2 else 0) else 0)
  else if nm = [100, 111, 116] then some (if a = 3 ∧ b = 3 then 2 else 0)
  else if nm = [115, 105, 122, 101] then some (if b = 0 then (if a = 3 ∨ a = 4 ∨ a = 5 then 1 else 0) else 0)
  else none
def twoK (op a b : Nat) : Nat :=
  if (scal a && scal b) = true then (if op ≠ 9 ∧ a = 1 ∧ b = 1 then 1 else 2)
  else if op = 6 ∨ op = 7 then (if a = 3 ∧ b = 3 then 3 else 0)
  else if a = 3 ∧ scal b = true ∨ op = 8 ∧ scal a = true ∧ b = 3 then 3
  else 0
def digitsK (s : Str) : Bool := decide (s.length ≤ 9) && s.all fun b => decide (48 ≤ b.toNat) && decide (b.toNat ≤ 57)
def needT (t : Nat) (at_ : Int) (par : Bool) : Except Ft (Nat × Bool) := if t = 0 then .error (152, at_) else .ok (t, par)
def ruleK (l : List Vr) (op : Nat) (at_ : Int) (nm : Str) (ks : List Ex) (a b : Nat) (par : Bool) : Except Ft (Nat × Bool) :=
  if op = 1 then needT (if digitsK nm = true then 1 else 2) at_ par
  else if op = 2 then (match findV l nm with | none => .error (150, at_) | some v => .ok (v.ty, v.par))
  else if op = 3 then (match findV l nm with
    | none => .error (150, at_)
    | some v =>
      if ¬ (v.ty = 3 ∨ v.ty = 4 ∨ v.ty = 5) then .error (152, at_)
      else match ks with
        | [] => .error (152, at_)
        | k :: _ => if a ≠ 1 then .error (152, k.at_) else if par = true then .error (153, k.at_) else needT (if v.ty = 4 then 1 else 2) at_ v.par)
  else if op = 4 then (match callK nm a b with
    | none => .error (150, at_)
    | some t => if ks.length ≠ (if nm = [100, 111, 116] then 2 else 1) then .error (152, at_) else needT t at_ (par && !decide (nm = [115, 105, 122, 101])))
  else if op = 5 then needT (if a ≤ 3 then a else 0) at_ par
  else needT (twoK op a b) at_ par
mutual
def ofK (l : List Vr) : Ex → Except Ft (Nat × Bool)
  | .mk op at_ nm ks => match kidsK l ks with
    | .error f => .error f
    | .ok (ts, par) => ruleK l op at_ nm ks (ts.getD 0 0) (ts.getD 1 0) par
def kidsK (l : List Vr) : List Ex → Except Ft (List Nat × Bool)
  | [] => .ok ([], false)
  | x :: r => match ofK l x with
    | .error f => .error f
    | .ok (t, p) => match kidsK l r with
      | .error f => .error f
      | .ok (ts, q) => .ok (t :: ts, p || q)
end
def andK {α β : Type} (x : Except Ft α) (f : α → Except Ft β) : Except Ft β :=
  match x with
  | .ok a => f a
  | .error e => .error e
theorem andK_ok {α β : Type} (a : α) (f : α → Except Ft β) : andK (.ok a) f = f a := rfl
def needK (b : Bool) (at_ : Int) : Except Ft Unit := if b = true then .ok () else .error (152, at_)
def countedK (e : Ex) (k : Nat × Bool) : Except Ft Unit := andK (needK (decide (k.1 = 1)) e.at_) fun _ => if k.2 = true then .error (153, e.at_) else .ok ()
def countK (l : List Vr) (e : Ex) : Except Ft Unit := andK (ofK l e) fun k => countedK e k
def fitK (v t : Nat) : Bool := (decide (v = 1) && decide (t = 1)) || (decide (v = 2) && scal t) || (decide (v = 3) && decide (t = 3))
def roughS : List Str := [[101, 120, 112], [108, 111, 103], [115, 113, 114, 116], [105, 110, 118, 95, 108, 111, 103, 105, 116]]
mutual
def smoothK : Ex → Except Ft Unit
  | .mk op at_ nm ks => andK (smoothsK ks) fun _ => needK (!decide (op = 4) || !decide (nm ∈ roughS)) at_
def smoothsK : List Ex → Except Ft Unit
  | [] => .ok ()
  | x :: r => andK (smoothK x) fun _ => smoothsK r
end
def eachK {α : Type} (f : α → Except Ft Unit) : List α → Except Ft Unit
  | [] => .ok ()
  | x :: r => andK (f x) fun _ => eachK f r
def boundK (l : List Vr) (ty : Nat) (block : Nat) (e : Ex) : Except Ft Unit :=
  andK (needK (decide (block = 0) || decide (block = 2)) e.at_) fun _ => andK (ofK l e) fun k => andK (needK (scal k.1 && (!whol ty || decide (k.1 = 1))) e.at_) fun _ =>
    andK (if block = 0 then smoothK e else .ok ()) fun _ => if k.2 = true then .error (153, e.at_) else .ok ()
def declK (l : List Vr) (d : Dc) (block : Nat) : Except Ft (List Vr) :=
  if (findV l d.nm).isSome = true then .error (151, d.at_)
  else andK (needK (decide (block < 2) || !whol d.ty) d.at_) fun _ => andK (eachK (countK l) d.size) fun _ => andK (eachK (boundK l d.ty block) (d.lower ++ d.upper)) fun _ =>
    andK (eachK (fun e => andK (ofK l e) fun k => needK (fitK d.ty k.1) e.at_) d.init) fun _ => .ok (l ++ [⟨d.nm, d.ty, block, decide (2 ≤ block)⟩])
def distK (nm : Str) : Option (Nat × Nat × Bool) :=
  if nm ∈ ([[110, 111, 114, 109, 97, 108], [99, 97, 117, 99, 104, 121], [117, 110, 105, 102, 111, 114, 109], [108, 111, 103, 110, 111, 114, 109, 97, 108]] : List Str) then some (2, 0, false)
  else if nm = [103, 97, 109, 109, 97] then some (2, 1, false)
  else if nm = [98, 101, 116, 97] then some (2, 2, false)
  else if nm = [101, 120, 112, 111, 110, 101, 110, 116, 105, 97, 108] then some (1, 0, false)
  else if nm ∈ ([[98, 101, 114, 110, 111, 117, 108, 108, 105], [98, 101, 114, 110, 111, 117, 108, 108, 105, 95, 108, 111, 103, 105, 116], [112, 111, 105, 115, 115, 111, 110], [112, 111, 105, 115, 115, 111, 110, 95, 108, 111, 103]] : List Str) then some (1, 0, true)
  else none
def setK (l : List Vr) (at_ : Int) (nm : Str) (ks : List Ex) (block : Nat) : Except Ft Unit :=
  match findV l nm with
  | none => .error (150, at_)
  | some v => andK (needK (decide (v.bk = block)) at_) fun _ =>
    match ks with
    | [x] => andK (ofK l x) fun k => needK (fitK v.ty k.1) at_
    | [i, x] => andK (needK (!scal v.ty) at_) fun _ => andK (countK l i) fun _ => andK (ofK l x) fun k => needK (scal k.1 && (!decide (v.ty = 4) || decide (k.1 = 1))) at_
    | _ => .ok ()
def argsK (l : List Vr) (t marked : Nat) : Nat → List Ex → Except Ft Unit
  | _, [] => .ok ()
  | i, e :: r => andK (ofK l e) fun k => andK (needK (scal k.1 || (!scal t && !decide (k.1 = 4) && decide (marked ≤ i))) e.at_) fun _ =>
    andK (if i < marked ∧ k.2 = true then .error (153, e.at_) else .ok ()) fun _ => argsK l t marked (i + 1) r
def distS (l : List Vr) (at_ : Int) (nm : Str) (ks : List Ex) (block : Nat) : Except Ft Unit :=
  andK (needK (decide (block = 4)) at_) fun _ =>
    match distK nm with
    | none => .error (150, at_)
    | some d => andK (needK (decide (ks.length = d.1 + 1)) at_) fun _ =>
      match ks with
      | [] => .ok ()
      | x :: r => andK (ofK l x) fun k => andK (needK ((whol k.1 && d.2.2) || (!decide (k.1 = 4) && !d.2.2)) x.at_) fun _ => argsK l k.1 d.2.1 0 r
def headK (l : List Vr) (op : Nat) (at_ : Int) (nm : Str) (ks : List Ex) (block : Nat) : Except Ft (List Vr) :=
  if op = 1 then andK (setK l at_ nm ks block) fun _ => .ok l
  else if op = 2 then andK (needK (decide (block = 4)) at_) fun _ => (match ks with | [] => .ok l | x :: _ => andK (ofK l x) fun k => andK (needK (scal k.1) x.at_) fun _ => .ok l)
  else if op = 3 then andK (distS l at_ nm ks block) fun _ => .ok l
  else if op = 4 then (if (findV l nm).isSome = true then .error (151, at_) else andK (eachK (countK l) ks) fun _ => .ok (l ++ [⟨nm, 1, -1, false⟩]))
  else if op = 5 then (match ks with | [] => .ok l | x :: _ => andK (eachK (countK l) x.kids) fun _ => .ok l)
  else .ok l
mutual
def stmtK (block : Nat) : List Vr → Sm → Except Ft Unit
  | l, .mk op at_ nm ks b e => andK (headK l op at_ nm ks block) fun l2 => andK (stmtsK block l2 b) fun _ => stmtsK block l2 e
def stmtsK (block : Nat) : List Vr → List Sm → Except Ft Unit
  | _, [] => .ok ()
  | l, s :: r => andK (stmtK block l s) fun _ => stmtsK block l r
end
def declsK (block : Nat) : List Vr → List Dc → Except Ft (List Vr)
  | l, [] => .ok l
  | l, d :: r => andK (declK l d block) fun l2 => declsK block l2 r
def blocksK : Nat → List Vr → List Bk → Except Ft (List Vr)
  | _, l, [] => .ok l
  | i, l, b :: r => andK (declsK i l b.decls) fun l2 => andK (stmtsK i l2 b.stmts) fun _ => blocksK (i + 1) l2 r
def allK (p : List Bk) : Except Ft (List Vr) := if pgOk p = true then blocksK 0 [] p else .error (120, 0)
def kindOf (e : Ex) (l : List Vr) : Except Ft (Nat × Bool) := if exOk e = true then ofK l e else .error (120, 0)
end Go.Knd
end

section
namespace Go.Knd
open Go.Tok Go.Tree
theorem andK_assoc {α β γ : Type} (x : Except Ft α) (f : α → Except Ft β) (g : β → Except Ft γ) : andK (andK x f) g = andK x fun a => andK (f a) g := by cases x <;> rfl
theorem andK_of {α β : Type} {x : Except Ft α} {a : α} {f : α → Except Ft β} (h : x = .ok a) : andK x f = f a := by subst h; rfl
theorem andK_er {α β : Type} {x : Except Ft α} {e : Ft} {f : α → Except Ft β} (h : x = .error e) : andK x f = .error e := by subst h; rfl
theorem andK_unit {α : Type} (x : Except Ft α) : andK x (fun a => .ok a) = x := by cases x <;> rfl
def kidsG (l : List Vr) : List Nat → Bool → List Ex → Except Ft (List Nat × Bool)
  | ts, p, [] => .ok (ts, p)
  | ts, p, x :: r => andK (ofK l x) fun k => kidsG l (ts ++ [k.1]) (p || k.2) r
theorem kidsG_eq (l : List Vr) : ∀ (ks : List Ex) (ts : List Nat) (p : Bool), kidsG l ts p ks = andK (kidsK l ks) fun r => .ok (ts ++ r.1, p || r.2)
  | [], ts, p => by rw [kidsG, kidsK, andK_ok, List.append_nil, Bool.or_false]
  | x :: r, ts, p => by
    rw [kidsG, kidsK]
    cases ofK l x with
    | error f => rfl
    | ok k =>
      obtain ⟨t, q⟩ := k
      rw [andK_ok, kidsG_eq l r]
      dsimp only
      cases kidsK l r with
      | error f => rfl
      | ok m => rw [andK_ok, andK_ok, List.append_assoc, Bool.or_assoc]; rfl
theorem ofK_go (l : List Vr) (op : Nat) (at_ : Int) (nm : Str) (ks : List Ex) : ofK l (.mk op at_ nm ks) = andK (kidsG l [] false ks) fun r => ruleK l op at_ nm ks (r.1.getD 0 0) (r.1.getD 1 0) r.2 := by
  rw [ofK, kidsG_eq]
  cases kidsK l ks with
  | error f => rfl
  | ok r => rfl
theorem kidsG_step {l : List Vr} {ks : List Ex} {i : Nat} {x : Ex} (h : ks[i]? = some x) (ts : List Nat) (p : Bool) {β : Type} (F : List Nat × Bool → Except Ft β) :
    andK (kidsG l ts p (ks.drop i)) F = andK (ofK l x) fun k => andK (kidsG l (ts ++ [k.1]) (p || k.2) (ks.drop (i + 1))) F := by
  obtain ⟨h1, h2⟩ := List.getElem?_eq_some_iff.1 h
  rw [List.drop_eq_getElem_cons h1, h2, kidsG, andK_assoc]
theorem kidsG_end {l : List Vr} {ks : List Ex} {i : Nat} (h : ks.length ≤ i) (ts : List Nat) (p : Bool) {β : Type} (F : List Nat × Bool → Except Ft β) : andK (kidsG l ts p (ks.drop i)) F = F (ts, p) := by
  rw [List.drop_eq_nil_of_le h, kidsG, andK_ok]
theorem eachK_step {α β : Type} {f : α → Except Ft Unit} {ks : List α} {i : Nat} {x : α} (h : ks[i]? = some x) (F : Unit → Except Ft β) : andK (eachK f (ks.drop i)) F = andK (f x) fun _ => andK (eachK f (ks.drop (i + 1))) F := by
  obtain ⟨h1, h2⟩ := List.getElem?_eq_some_iff.1 h
  rw [List.drop_eq_getElem_cons h1, h2, eachK, andK_assoc]
theorem eachK_end {α β : Type} {f : α → Except Ft Unit} {ks : List α} {i : Nat} (h : ks.length ≤ i) (F : Unit → Except Ft β) : andK (eachK f (ks.drop i)) F = F () := by
  rw [List.drop_eq_nil_of_le h, eachK, andK_ok]
theorem stmtsK_step {block : Nat} {l : List Vr} {ss : List Sm} {i : Nat} {x : Sm} (h : ss[i]? = some x) : stmtsK block l (ss.drop i) = andK (stmtK block l x) fun _ => stmtsK block l (ss.drop (i + 1)) := by
  obtain ⟨h1, h2⟩ := List.getElem?_eq_some_iff.1 h
  rw [List.drop_eq_getElem_cons h1, h2, stmtsK]
theorem stmtsK_end {block : Nat} {l : List Vr} {ss : List Sm} {i : Nat} (h : ss.length ≤ i) : stmtsK block l (ss.drop i) = .ok () := by
  rw [List.drop_eq_nil_of_le h, stmtsK]
theorem smoothsK_step {ks : List Ex} {i : Nat} {x : Ex} (h : ks[i]? = some x) {β : Type} (F : Unit → Except Ft β) : andK (smoothsK (ks.drop i)) F = andK (smoothK x) fun _ => andK (smoothsK (ks.drop (i + 1))) F := by
  obtain ⟨h1, h2⟩ := List.getElem?_eq_some_iff.1 h
  rw [List.drop_eq_getElem_cons h1, h2, smoothsK, andK_assoc]
theorem smoothsK_end {ks : List Ex} {i : Nat} (h : ks.length ≤ i) {β : Type} (F : Unit → Except Ft β) : andK (smoothsK (ks.drop i)) F = F () := by
  rw [List.drop_eq_nil_of_le h, smoothsK, andK_ok]
theorem declsK_step' {block : Nat} {l : List Vr} {ds : List Dc} {i : Nat} {x : Dc} (h : ds[i]? = some x) {β : Type} (F : List Vr → Except Ft β) : andK (declsK block l (ds.drop i)) F = andK (declK l x block) fun l2 => andK (declsK block l2 (ds.drop (i + 1))) F := by
  obtain ⟨h1, h2⟩ := List.getElem?_eq_some_iff.1 h
  rw [List.drop_eq_getElem_cons h1, h2, declsK, andK_assoc]
theorem declsK_end' {block : Nat} {l : List Vr} {ds : List Dc} {i : Nat} (h : ds.length ≤ i) {β : Type} (F : List Vr → Except Ft β) : andK (declsK block l (ds.drop i)) F = F l := by
  rw [List.drop_eq_nil_of_le h, declsK, andK_ok]
theorem blocksK_step' {l : List Vr} {bs : List Bk} {i : Nat} {b : Bk} (h : bs[i]? = some b) : blocksK i l (bs.drop i) = andK (declsK i l b.decls) fun l2 => andK (stmtsK i l2 b.stmts) fun _ => blocksK (i + 1) l2 (bs.drop (i + 1)) := by
  obtain ⟨h1, h2⟩ := List.getElem?_eq_some_iff.1 h
  rw [List.drop_eq_getElem_cons h1, h2, blocksK]
theorem blocksK_end {l : List Vr} {bs : List Bk} {i : Nat} (h : bs.length ≤ i) : blocksK i l (bs.drop i) = .ok l := by
  rw [List.drop_eq_nil_of_le h, blocksK]
def findB (s : Str) : List Vr → Option Vr
  | [] => none
  | v :: l => if v.nm = s then some v else findB s l
theorem findV_take {l : List Vr} {s : Str} {k : Nat} {v : Vr} (h : l[k]? = some v) : findV (l.take (k + 1)) s = if v.nm = s then some v else findV (l.take k) s := by
  obtain ⟨h1, h2⟩ := List.getElem?_eq_some_iff.1 h
  have e : l.take (k + 1) = l.take k ++ [v] := by rw [List.take_add_one, h]; rfl
  rw [e]
  unfold findV
  rw [List.reverse_append, List.reverse_singleton, List.singleton_append, List.find?_cons]
  by_cases h3 : v.nm = s
  · rw [if_pos h3, decide_eq_true h3]
  · rw [if_neg h3, decide_eq_false h3]
theorem findV_none (s : Str) : findV [] s = none := rfl
theorem findV_full {l : List Vr} {s : Str} {k : Nat} (h : l.length ≤ k) : findV (l.take k) s = findV l s := by rw [List.take_of_length_le h]
end Go.Knd
end

section
namespace Go.Sx
open Go.RowKit Go.Tree Go.Tok Go.Knd
section
variable {α β : Type}
def RK (V : α → Value) (X : Except Ft α) (w : World) : Value → World → Prop := fun v w' => ∃ a, X = .ok a ∧ v = V a ∧ Ext w w'
def EK (pan : Ft → List PanicEntry) (X : Except Ft α) (w : World) : List PanicEntry → World → Prop := fun ch w' => ∃ fl, X = .error fl ∧ ch = pan fl ∧ Ext w w'
def RN (V : α → β → Value) (M : World → (Nat → Prop) → α → β → Prop) (X : Except Ft α) (w : World) : Value → World → Prop := fun v w' => ∃ a b, X = .ok a ∧ v = V a b ∧ M w' (Nn w w') a b ∧ Ext w w'
end
section
variable {P : Program} {ops : Array Oper} {Q : Exit → Act → World → Prop} {c : Cf} {e : Env} {rest : List Oper} {o : Oper} {d : Nat} {B : Base} {L : Heap} {f : FuncId} {args : Array Value} {α β γ : Type} {V : α → Value} {V2 : α → β → Value} {M : World → (Nat → Prop) → α → β → Prop} {X : Except Ft α} {F : α → Except Ft γ} {G : Except Ft γ} {pan : Ft → List PanicEntry} {w0 : World}
theorem w_kc (hx : (w0, No) ∈ B) (hG : G = andK X F) (hr : ∀ w, RunE P o (ev c.n e) w f args) (hg : plainB o = true) (hd : o.dst = some d)
    (hc : ∀ w, St B L w → RetP P f args w (RK V X w) (EK pan X w))
    (hE : ∀ fl w', G = .error fl → Ext w0 w' → ∀ a : Act, a.defers = c.ds → Q (.panic (pan fl)) a w')
    (h : ∀ a, X = .ok a → G = F a → WX .sq P ops c Q rest (upd e d (V a)) B L) : WX .sq P ops c Q (o :: rest) e B L := by
  refine w_callP hr hg hd hc ?_ ?_
  · rintro w hw v w' ⟨a, h1, rfl, h3⟩
    exact ⟨_, _, hw.ext h3, h a h1 (hG.trans (andK_of h1))⟩
  · rintro w hw ch w' ⟨fl, h1, rfl, h2⟩
    exact hE fl w' (hG.trans (andK_er h1)) ((hw.fr _ hx).ext h2)
theorem w_kn (hx : (w0, No) ∈ B) (hM : TL M) (hG : G = andK X F) (hr : ∀ w, RunE P o (ev c.n e) w f args) (hg : plainB o = true) (hd : o.dst = some d)
    (hc : ∀ w, St B L w → RetP P f args w (RN V2 M X w) (EK pan X w))
    (hE : ∀ fl w', G = .error fl → Ext w0 w' → ∀ a : Act, a.defers = c.ds → Q (.panic (pan fl)) a w')
    (h : ∀ a b w1, X = .ok a → G = F a → Kt (w1, inL L) w0.heap.size M a b → WX .sq P ops c Q rest (upd e d (V2 a b)) ((w1, inL L) :: B) L) : WX .sq P ops c Q (o :: rest) e B L := by
  refine w_callP hr hg hd hc ?_ ?_
  · rintro w hw v w' ⟨a, b, h1, rfl, h3, h4⟩
    exact ⟨_, _, (hw.ext h4).base1, h a b w' h1 (hG.trans (andK_of h1)) (Kt.new h3 hM hw (hw.fr _ hx).size)⟩
  · rintro w hw ch w' ⟨fl, h1, rfl, h2⟩
    exact hE fl w' (hG.trans (andK_er h1)) ((hw.fr _ hx).ext h2)
theorem w_kw (hx : (w0, No) ∈ B) (hM : TL M) {a : α} (hr : ∀ w, RunE P o (ev c.n e) w f args) (hg : plainB o = true) (hd : o.dst = some d)
    (hc : ∀ w, St B L w → Ret P f args w fun v w' => ∃ b, v = V2 a b ∧ M w' (Nn w w') a b ∧ Ext w w')
    (h : ∀ b w1, Kt (w1, inL L) w0.heap.size M a b → WX .sq P ops c Q rest (upd e d (V2 a b)) ((w1, inL L) :: B) L) : WX .sq P ops c Q (o :: rest) e B L := by
  refine zP (R := fun w v w' => ∃ b, v = V2 a b ∧ M w' (Nn w w') a b ∧ Ext w w') hr hg hd hc ?_
  rintro w hw v w' ⟨b, rfl, h3, h4⟩
  exact ⟨_, _, (hw.ext h4).base1, h b w' (Kt.new h3 hM hw (hw.fr _ hx).size)⟩
variable {S : World → Prop} {fuel i : Nat} {listed : Array Bool}
theorem o_kc (hx : (w0, No) ∈ B) (hG : G = andK X F) (hi : ops[i]? = some o) (hw : Region.wanted o (yielded ops (act c e).tmps) = true) (hd : o.dst = some d) (hr : ∀ w, RunE P o (ev c.n e) w f args)
    (hc : ∀ w, St B L w → RetP P f args w (RK V X w) (EK pan X w))
    (hE : ∀ fl w', G = .error fl → Ext w0 w' → ∀ a : Act, a.defers = c.ds → Q (.panic (pan fl)) a w')
    (h : ∀ a, X = .ok a → G = F a → WH P ops c Q S fuel (listed.setIfInBounds i true) (upd e d (V a)) B L) : WO P ops c Q S fuel listed i e B L := by
  refine o_callV hi hw hd hr hc ?_ ?_
  · rintro w hw v w' ⟨a, h1, rfl, h3⟩
    exact ⟨_, _, hw.ext h3, h a h1 (hG.trans (andK_of h1))⟩
  · rintro w hw ch w' ⟨fl, h1, rfl, h2⟩
    exact hE fl w' (hG.trans (andK_er h1)) ((hw.fr _ hx).ext h2)
end
section
variable {P : Program} {ops : Array Oper} {Q : Exit → Act → World → Prop} {c : Cf} {e : Env} {d : Nat} {B : Base} {L : Heap} {S : World → Prop} {fuel i : Nat} {listed : Array Bool} {x y z : Operand} {v : Value} {T : TypeId} {p : String} {a : Array Edge}
theorem o_makeMapP {t : TypeId} (hi : ops[i]? = some ⟨some d, .makeMap t none, T, p, a, none⟩) (h : ∀ b, (∀ x ∈ L, x.1 < b) → (∀ x ∈ B, x.1.heap.size ≤ b) → WH P ops c Q S fuel (listed.setIfInBounds i true) (upd e d (.map (some b))) B ((b, mpP []) :: L)) : WO P ops c Q S fuel listed i e B L :=
  o_val hi rfl rfl fun w hw => ⟨_, _, B, _, R_makeMap, hw.new, h w.heap.size (fun p hp => lt_of_blk (hw.own p hp)) (fun x hx => (hw.fr x hx).size)⟩
theorem o_insP (j : Nat) {b : Nat} {s : Nat × Nat} {l : List ((Nat × Nat) × Value)} {t te tk ke : TypeId} (hq : ops[i]? = some ⟨none, .insert t x y z, T, p, a, none⟩) (hi : L[j]? = some (b, mpP l)) (ht : P.underlying t = some (.map tk te)) (hk : kyP P tk ke) (hx : ev c.n e x = .map (some b)) (hy : ev c.n e y = pr s.1 s.2) (hz : ev c.n e z = v) (hn : (l.lookup s).isNone = true)
    (h : WH P ops c Q S fuel (listed.setIfInBounds i true) e B (L.set j (b, mpP (l ++ [(s, v)])))) : WO P ops c Q S fuel listed i e B L := by
  refine o_unit hq rfl rfl fun w hw => ?_
  have hb := hw.at_ j hi
  unfold mpP at hb
  obtain ⟨r, h1, h2⟩ := findP_run (w := w) hk s l
  have hr : r = none := by
    rw [Option.isNone_iff_eq_none.1 hn] at h2
    cases r with
    | none => rfl
    | some r => simp at h2
  subst hr
  have hck : ∀ (em : Bool) (w : World), (Instr.checkKey em 10000 tk (pr s.1 s.2)).run P w = .ok () w := fun em w => ckP_run hk em 9998 _ _
  have hr : (Instr.mapUpdate t (.map (some b)) (pr s.1 s.2) v).run P w = .ok () (w.putObj b (mpP (l ++ [(s, v)]))) := by
    simp [Instr.mapUpdate, run_underlying ht, MapKept.run_getObj_map hb, hck, h1, MapKept.run_setObj_map _ hb, Result.andThen, World.putObj, mpP, entsF_snoc]
  refine ⟨w.putObj b (mpP (l ++ [(s, v)])), B, _, ?_, hw.putO j hi, h⟩
  simp only [RunU, execOp, hx, hy, hz, Sem.run_bind, hr, Result.andThen]
  rfl
end
abbrev vrC (v : Vr) : List Value := [str v.nm, .int .u8 (v.ty : Nat), .int .i64 v.bk, .bool v.par]
def vrsM (W : World) (N : Nat → Prop) (l : List Vr) (a : Option Addr) : Prop := ∀ k v, l[k]? = some v → At W N a (k * 4) (vrC v)
def vrsV (W : World) (N : Nat → Prop) (l : List Vr) (b : Option Addr × Nat) : Prop := l.length ≤ b.2 ∧ vrsM W N l b.1
theorem vrsM.fr {W W' : World} {S N : Nat → Prop} {l : List Vr} {a : Option Addr} (h : vrsM W N l a) (hf : Fr S W W') (hn : ∀ b, N b → ¬ S b) : vrsM W' N l a := fun k v hk => (h k v hk).fr hf hn
theorem vrsM.mono {W : World} {N N' : Nat → Prop} {l : List Vr} {a : Option Addr} (h : vrsM W N l a) (hn : ∀ j, N j → N' j) : vrsM W N' l a := fun k v hk => (h k v hk).mono hn
theorem TL.vrs : TL vrsV := ⟨fun h hf hn => ⟨h.1, h.2.fr hf hn⟩, fun h hn => ⟨h.1, h.2.mono hn⟩⟩
theorem vrsM.now {x : World × (Nat → Prop)} {N : Nat → Prop} {l : List Vr} {a : Option Addr} {B : Base} {L : Heap} {w : World} (h : vrsM x.1 N l a) (hn : Apart x N) (hx : x ∈ B) (hw : St B L w) : vrsM w N l a := h.fr (hw.fr x hx) hn
theorem vrsV.nil {w : World} {N : Nat → Prop} : vrsV w N [] (none, 0) := ⟨Nat.le_refl _, fun k v h => by simp at h⟩
abbrev vrO : Option Vr → List Value
  | some v => vrC v
  | none => [str [], .int .u8 0, .int .i64 0, .bool false]
def vrsC (l : List Vr) : List Value := l.flatMap vrC
theorem vrsC_len : ∀ l : List Vr, (vrsC l).length = l.length * 4
  | [] => rfl
  | v :: l => by
    have := vrsC_len l
    show (vrC v ++ vrsC l).length = _
    rw [List.length_append, this]
    show 4 + _ = (l.length + 1) * 4
    omega
theorem vrsC_at : ∀ (l : List Vr) (k : Nat) (v : Vr), l[k]? = some v → ∀ (j : Nat) u, (vrC v)[j]? = some u → (vrsC l)[k * 4 + j]? = some u
  | [], _, _, h, _, _, _ => by simp at h
  | x :: l, 0, v, h, j, u, hu => by
    obtain rfl : x = v := by simpa using h
    have hj := (List.getElem?_eq_some_iff.1 hu).1
    show (vrC x ++ vrsC l)[0 * 4 + j]? = some u
    rw [List.getElem?_append_left (by simpa using hj)]
    simpa using hu
  | x :: l, k + 1, v, h, j, u, hu => by
    have ih := vrsC_at l k v (by simpa using h) j u hu
    show (vrC x ++ vrsC l)[(k + 1) * 4 + j]? = some u
    have hl : (vrC x).length = 4 := rfl
    rw [List.getElem?_append_right (by rw [hl]; omega), hl, show (k + 1) * 4 + j - 4 = k * 4 + j by omega]
    exact ih
theorem vrsC_snoc (l : List Vr) (v : Vr) : vrsC (l ++ [v]) = vrsC l ++ vrC v := by unfold vrsC; rw [List.flatMap_append, List.flatMap_cons, List.flatMap_nil, List.append_nil]
theorem vrsC_one (l : List Vr) : (vrsC l).all Value.oneCell' = true := by
  induction l with
  | nil => rfl
  | cons v l ih => show (vrC v ++ vrsC l).all Value.oneCell' = true; rw [List.all_append, ih]; rfl
theorem own_vrs {w : World} {N : Nat → Prop} {T : TypeId} {l : List Vr} {v : Value} {W : Heap} (h : Own T 4 v (vrsC l) l.length W) (hW : ∀ p ∈ W, w.heap[p.1]? = some p.2) (hN : ∀ p ∈ W, N p.1) : ∃ b : Option Addr × Nat, v = .slice b.1 l.length b.2 ∧ vrsV w N l b := by
  obtain ⟨hl, h⟩ := h
  rcases h with ⟨rfl, h0, hn⟩ | ⟨q, c, sp, rfl, hc, hsp, rfl⟩
  · have : l = [] := List.length_eq_zero_iff.1 h0
    subst this
    exact ⟨(none, 0), rfl, vrsV.nil⟩
  · refine ⟨(some ⟨q, 0, none⟩, c), rfl, hc, fun k v hk => at_blk (hW _ (List.mem_singleton.2 rfl)) (hN _ (List.mem_singleton.2 rfl)) (fun j u hj => ?_)⟩
    have h2 := vrsC_at l k v hk j u hj
    rw [List.getElem?_append_left (List.getElem?_eq_some_iff.1 h2).1]; exact h2
theorem vrs_row {w : World} {N : Nat → Prop} {l : List Vr} {a : Option Addr} (h : vrsM w N l a) (hl : l ≠ []) : ∃ b o, a = some ⟨b, o, none⟩ ∧ N b ∧ ∀ (j : Nat) u, (vrsC l)[j]? = some u → w.cell? ⟨b, o + j, none⟩ = some u := by
  obtain ⟨v0, l0, rfl⟩ := List.exists_cons_of_ne_nil hl
  obtain ⟨b, o, ha, hN, _⟩ := h 0 v0 rfl
  subst ha
  refine ⟨b, o, rfl, hN, fun j u hj => ?_⟩
  have hj1 := (List.getElem?_eq_some_iff.1 hj).1
  rw [vrsC_len] at hj1
  have hk : j / 4 < (v0 :: l0).length := by omega
  obtain ⟨b', o', ha', _, hc⟩ := h (j / 4) _ (List.getElem?_eq_getElem hk)
  cases ha'
  have hm : j % 4 < (vrC (v0 :: l0)[j / 4]).length := Nat.mod_lt _ (by decide)
  have h2 := vrsC_at (v0 :: l0) (j / 4) _ (List.getElem?_eq_getElem hk) (j % 4) _ (List.getElem?_eq_getElem hm)
  have h3 : j / 4 * 4 + j % 4 = j := by omega
  rw [h3] at h2
  rw [h2] at hj
  have h4 := hc (j % 4) u (by rw [List.getElem?_eq_getElem hm]; exact hj)
  rwa [Nat.add_assoc, h3] at h4
section
variable {P : Program} {ops : Array Oper} {Q : Exit → Act → World → Prop} {c : Cf} {e : Env} {B : Base} {L : Heap} {d : Nat} {ρ : Operand → Value} {D : Option Tmp} {g : Option (Nat × Bool)} {x y : Operand} {T : TypeId} {p : String} {ed : Array Edge} {t te bytes : Nat} {z : Value} {xs : List Value} {w : World}
theorem R_sl3 {kl kh : IntKind} {a : Option Addr} {q n m : Nat} {hi mx : Operand} (hu : slB P t q = true) (hx : ρ x = .slice a n m) (hh : ρ hi = .int kl (n : Nat)) (hm : ρ mx = .int kh (n : Nat)) (h2 : n ≤ m) :
    Run P ⟨D, .slice t x none (some hi) (some mx), T, p, ed, g⟩ ρ w (.slice a n n) w := by
  obtain ⟨e, ti, h3, h4, h5⟩ := slB_spec hu
  have h6 : (n : Int) ≤ (m : Int) := by omega
  cases a <;> simp [Run, execOp, hx, hh, hm, go_sem, Instr.sliceAt, Instr.slice, run_underlying h3, Instr.sliceBounds, Instr.sliceBound, asIntOf, h2, h6, sizeOf, typeInfo, h4, h5, Addr.add]
theorem app_full {b o n m b2 o2 c2 : Nat} {k : Nat} {news : List Value} (hT : slT P t te k bytes z) (hx : ρ x = .slice (some ⟨b, o, none⟩) n n) (hxl : xs.length = n * k) (hxs : ∀ (j : Nat) u, xs[j]? = some u → w.cell? ⟨b, o + j, none⟩ = some u)
    (hy : ρ y = .slice (some ⟨b2, o2, none⟩) m c2) (hl : news.length = m * k) (hnews : ∀ (j : Nat) u, news[j]? = some u → w.cell? ⟨b2, o2 + j, none⟩ = some u) (hm : 0 < m) (hn : n + m ≤ 100000000) (hby : bytes ≤ 1000) (hw : St B L w) :
    ∃ v' w' W', Run P ⟨D, .call ⟨.builtin .append, #[x, y], #[t, t]⟩, T, p, ed, g⟩ ρ w v' w' ∧ Own te k v' (xs ++ news) (n + m) W' ∧ St B (W' ++ L) w' := by
  obtain ⟨i, ht, hi, hsz, hb, hz, hzs⟩ := slT_spec hT
  subst hb; subst hsz
  have hge := grownCap_ge w (n + m) n te
  have ad : ∀ (q k j : Nat), (⟨q, k, none⟩ : Addr).add j = ⟨q, k + j, none⟩ := fun q k j => by unfold Addr.add; split <;> simp_all
  have hlen : (xs ++ news).length = (n + m) * i.size := by rw [List.length_append, hxl, hl, Nat.add_mul]
  have hr := run_append_grow (P := P) w t T te i z ht hi hz ⟨b, o, none⟩ n n xs hxl (fun j u hu => by rw [ad]; exact hxs j u hu) ⟨b2, o2, none⟩ m c2 news hl (fun j u hu => by rw [ad]; exact hnews j u hu) (by omega) (by omega) (growslice_fits (by omega) (Nat.le_trans (Nat.mul_le_mul hn hby) (by decide)))
  have hs := (hw.drawn (w.drawn + 1)).new (o := cel (xs ++ news ++ (Builtin.zeroCells z.cells (grownCap w (n + m) n te - (n + m))).toList) te)
  have e1 : (xs.toArray ++ news.toArray ++ Builtin.zeroCells z.cells (grownCap w (n + m) n te - (n + m)) : Array Value) = (xs ++ news ++ (Builtin.zeroCells z.cells (grownCap w (n + m) n te - (n + m))).toList).toArray := by simp
  rw [e1] at hr
  refine ⟨_, _, [(w.heap.size, _)], R_append hx hy hr, ⟨hlen, .inr ⟨w.heap.size, grownCap w (n + m) n te, _, rfl, hge, ?_, rfl⟩⟩, hs⟩
  rw [Array.length_toList, size_zeroCells, hzs]
theorem app_var {l : List Vr} {a : Option Addr} {sb i : Nat} {v : Vr} (hT : slT P t te 4 bytes z) (hx : ρ x = .slice a l.length l.length) (hM : vrsM w (fun _ => True) l a) (hn : l = [] → a = none) (hy : ρ y = .slice (some ⟨sb, 0, none⟩) 1 1) (hi : L[i]? = some (sb, cel (vrC v) te)) (hl : l.length ≤ 90000000) (hby : bytes ≤ 1000) (hw : St B L w) :
    ∃ v' w' W', Run P ⟨D, .call ⟨.builtin .append, #[x, y], #[t, t]⟩, T, p, ed, g⟩ ρ w v' w' ∧ Own te 4 v' (vrsC (l ++ [v])) (l ++ [v]).length W' ∧ St B (W' ++ L) w' := by
  rw [vrsC_snoc, List.length_append, List.length_singleton]
  by_cases h0 : l = []
  · subst h0
    obtain rfl := hn rfl
    obtain ⟨v', w', L2, k1, k2, k3⟩ := app_run (ρ := ρ) (D := D) (g := g) (x := x) (y := y) (T := T) (p := p) (ed := ed) (A := []) (L := L) (L1 := L) (news := vrC v) (n := 0) (xs := []) hT (by decide) hx (OwnR.nil te 4 [] L) hy rfl (fun w hw j u hj => zc i hi (by rw [Nat.zero_add]; exact hj) hw) rfl (by decide) (by decide)
      (Nat.le_trans (Nat.mul_le_mul (show 0 + 1 ≤ 1 by decide) hby) (by decide)) hw
    obtain ⟨W', k4, rfl⟩ := k2.own
    exact ⟨v', w', W', k1, k4, k3⟩
  · obtain ⟨b, o, rfl, _, hc⟩ := vrs_row hM h0
    exact app_full hT hx (vrsC_len l) hc hy rfl (fun j u hj => zc i hi (by rw [Nat.zero_add]; exact hj) hw) (by decide) (by omega) hby hw
end
end Go.Sx
namespace Go.Sx
open Go.RowKit
theorem bytes_at {s : List UInt8} {cap j : Nat} {u : UInt8} (h : s[j]? = some u) : (bytesRow ⟨s.toArray⟩ cap)[j]? = some (.int .u8 (u.toNat : Nat)) := by
  have hj := (List.getElem?_eq_some_iff.1 h).1
  unfold bytesRow
  rw [Array.getElem?_append_left (by simpa using hj)]
  simp [h]
theorem w_convS {P : Program} {ops : Array Oper} {Q : Exit → Act → World → Prop} {c : Cf} {e : Env} {B : Base} {L : Heap} {rest : List Oper} {d : Nat} {x : Operand} {T src dst el : TypeId} {p : String} {a : Array Edge} {s : List UInt8} (hs : P.underlying src = some .string) (hd : P.underlying dst = some (.slice el)) (he : P.underlying el = some (.int .u8)) (hx : ev c.n e x = str s)
    (h : ∀ b cap ob, s.length ≤ cap → (∀ w : World, w.heap[b]? = some ob → ∀ (j : Nat) u, s[j]? = some u → w.cell? ⟨b, j, none⟩ = some (.int .u8 (u.toNat : Nat))) → WX .sq P ops c Q rest (upd e d (.slice (some ⟨b, 0, none⟩) s.length cap)) B ((b, ob) :: L)) :
    WX .sq P ops c Q (⟨some d, .convert src dst x, T, p, a, none⟩ :: rest) e B L := by
  unfold WX at *
  intro w hw
  have hr := run_bytes_of_string (P := P) w src dst el ⟨s.toArray⟩ hs hd he
  have hge := grownCap_ge w s.length 0 el
  refine s_run (by unfold Run; simp only [execOp, hx, Sem.run_bind, hr, Result.andThen_ok]; rfl) rfl rfl (h w.heap.size (grownCap w s.length 0 el) _ hge (fun w' hb j u hj => ?_) _ (hw.drawn (w.drawn + 1)).new)
  have h1 := bytes_at (cap := grownCap w s.length 0 el) hj
  simp only [World.cell?, hb]
  exact h1
end Go.Sx
namespace Go.Sx
open Go.RowKit Go.Tree Go.Tok Go.Knd
section
variable {P : Program} {ops : Array Oper} {Q : Exit → Act → World → Prop} {c : Cf} {e : Env} {rest : List Oper} {o : Oper} {d : Nat} {B : Base} {L : Heap} {f : FuncId} {args : Array Value} {pan : Ft → List PanicEntry} {w0 : World}
def NR (b : Bool) (w : World) : Value → World → Prop := fun v w' => b = true ∧ v = .tuple #[] ∧ Ext w w'
def NE (pan : Ft → List PanicEntry) (b : Bool) (at_ : Int) (w : World) : List PanicEntry → World → Prop := fun ch w' => b = false ∧ ch = pan (152, at_) ∧ Ext w w'
theorem w_need {b : Bool} {at_ : Int} (hx : (w0, No) ∈ B) (hr : ∀ w, RunE P o (ev c.n e) w f args) (hg : plainB o = true) (hd : o.dst = some d) (hc : ∀ w, St B L w → RetP P f args w (NR b w) (NE pan b at_ w))
    (hn : b = false → ∀ w', Ext w0 w' → ∀ a : Act, a.defers = c.ds → Q (.panic (pan (152, at_))) a w') (h : b = true → WX .sq P ops c Q rest (upd e d (.tuple #[])) B L) : WX .sq P ops c Q (o :: rest) e B L := by
  refine w_callP hr hg hd hc ?_ ?_
  · rintro w hw v w' ⟨h1, rfl, h3⟩
    exact ⟨_, _, hw.ext h3, h h1⟩
  · rintro w hw ch w' ⟨h1, rfl, h2⟩
    exact hn h1 w' ((hw.fr _ hx).ext h2)
variable {S : World → Prop} {fuel i : Nat} {listed : Array Bool}
theorem o_need {b : Bool} {at_ : Int} (hx : (w0, No) ∈ B) (hi : ops[i]? = some o) (hw : Region.wanted o (yielded ops (act c e).tmps) = true) (hd : o.dst = some d) (hr : ∀ w, RunE P o (ev c.n e) w f args) (hc : ∀ w, St B L w → RetP P f args w (NR b w) (NE pan b at_ w))
    (hn : b = false → ∀ w', Ext w0 w' → ∀ a : Act, a.defers = c.ds → Q (.panic (pan (152, at_))) a w') (h : b = true → WH P ops c Q S fuel (listed.setIfInBounds i true) (upd e d (.tuple #[])) B L) : WO P ops c Q S fuel listed i e B L := by
  refine o_callV hi hw hd hr hc ?_ ?_
  · rintro w hw v w' ⟨h1, rfl, h3⟩
    exact ⟨_, _, hw.ext h3, h h1⟩
  · rintro w hw ch w' ⟨h1, rfl, h2⟩
    exact hn h1 w' ((hw.fr _ hx).ext h2)
theorem w_fail {fl : Ft} (hx : (w0, No) ∈ B) (hr : ∀ w, RunE P o (ev c.n e) w f args) (hg : plainB o = true) (hd : o.dst = some d) (hc : ∀ w, St B L w → RetP P f args w (fun _ _ => False) (fun ch w' => ch = pan fl ∧ Ext w w'))
    (hn : ∀ w', Ext w0 w' → ∀ a : Act, a.defers = c.ds → Q (.panic (pan fl)) a w') : WX .sq P ops c Q (o :: rest) e B L := by
  refine w_callP hr hg hd hc (fun w hw v w' h => h.elim) ?_
  rintro w hw ch w' ⟨rfl, h2⟩
  exact hn w' ((hw.fr _ hx).ext h2)
end
theorem needK_no {b b' : Bool} {a : Int} (h : b' = b) (hb : b = false) : needK b' a = .error (152, a) := by subst h; unfold needK; rw [hb]; rfl
theorem needK_yes {b b' : Bool} {a : Int} (h : b' = b) (hb : b = true) : needK b' a = .ok () := by subst h; unfold needK; rw [hb]; rfl
theorem vrsV.nowT {w w' : World} {l : List Vr} {b : Option Addr × Nat} {B : Base} {L : Heap} (h : vrsV w (fun _ => True) l b) (hx : (w, No) ∈ B) (hw : St B L w') : vrsV w' (fun _ => True) l b := TL.vrs.fr h (hw.fr _ hx) (fun _ _ h => h)
theorem exM.nowT {w w' : World} {x : Ex} {cs : List Value} {B : Base} {L : Heap} (h : exM w (fun _ => True) x cs) (hx : (w, No) ∈ B) (hw : St B L w') : exM w' (fun _ => True) x cs := h.now (x := (w, No)) (fun _ _ h => h) hx hw
theorem exsM.nowT {w w' : World} {l : List Ex} {a : Option Addr} {i : Nat} {B : Base} {L : Heap} (h : exsM w (fun _ => True) l a i) (hx : (w, No) ∈ B) (hw : St B L w') : exsM w' (fun _ => True) l a i := h.now (x := (w, No)) (fun _ _ h => h) hx hw
theorem smM.nowT {w w' : World} {x : Sm} {cs : List Value} {B : Base} {L : Heap} (h : smM w (fun _ => True) x cs) (hx : (w, No) ∈ B) (hw : St B L w') : smM w' (fun _ => True) x cs := h.now (x := (w, No)) (fun _ _ h => h) hx hw
theorem smsM.nowT {w w' : World} {l : List Sm} {a : Option Addr} {i : Nat} {B : Base} {L : Heap} (h : smsM w (fun _ => True) l a i) (hx : (w, No) ∈ B) (hw : St B L w') : smsM w' (fun _ => True) l a i := h.now (x := (w, No)) (fun _ _ h => h) hx hw
def vrsW (W : World) (N : Nat → Prop) (l : List Vr) (b : Option Addr × Nat) : Prop := vrsV W N l b ∧ (l = [] → b.1 = none)
theorem TL.vrw : TL vrsW := ⟨fun h hf hn => ⟨TL.vrs.fr h.1 hf hn, h.2⟩, fun h hn => ⟨TL.vrs.mono h.1 hn, h.2⟩⟩
theorem vrsW.nowT {w w' : World} {l : List Vr} {b : Option Addr × Nat} {B : Base} {L : Heap} (h : vrsW w (fun _ => True) l b) (hx : (w, No) ∈ B) (hw : St B L w') : vrsW w' (fun _ => True) l b := TL.vrw.fr h (hw.fr _ hx) (fun _ _ h => h)
theorem Kt.T {α β : Type} {M : World → (Nat → Prop) → α → β → Prop} {x : World × (Nat → Prop)} {s0 : Nat} {a : α} {b : β} {B : Base} {L : Heap} {w : World} (h : Kt x s0 M a b) (hM : TL M) (hx : x ∈ B) (hw : St B L w) : M w (fun _ => True) a b := hM.mono (h.at hM hx hw) (fun _ _ => trivial)
theorem with_fin {w w' : World} {T : TypeId} {l : List Vr} {v : Value} {W L : Heap} (h : Own T 4 v (vrsC l) l.length W) (hw : St [(w, No)] (W ++ L) w') (hl : l ≠ []) : ∃ b : Option Addr × Nat, v = .slice b.1 l.length b.2 ∧ vrsW w' (Nn w w') l b := by
  obtain ⟨b, h1, h2⟩ := own_vrs (w := w') (N := Nn w w') h (fun p hp => hw.own p (List.mem_append.2 (.inl hp))) (fun p hp => by
    refine ⟨?_, lt_of_blk (hw.own p (List.mem_append.2 (.inl hp)))⟩
    rcases hw.ok p (List.mem_append.2 (.inl hp)) (w, No) zm0 with h | h
    · exact h.elim
    · exact h)
  exact ⟨b, h1, h2, fun h => absurd h hl⟩
theorem two_of {ts : List Nat} {k : Nat} (h : ts.length = k) (hk : k < 2) : (k = 0 ∧ ts = []) ∨ (k = 1 ∧ ∃ t0, ts = [t0]) := by
  match ts, h with
  | [], h => exact .inl ⟨h.symm, rfl⟩
  | [t], h => exact .inr ⟨h.symm, t, rfl⟩
  | _ :: _ :: _, h => simp at h; omega
theorem snoc0 {ts : List Nat} (h : 2 ≤ ts.length) (t : Nat) : (ts ++ [t]).getD 0 0 = ts.getD 0 0 := by
  simp only [List.getD_eq_getElem?_getD]; rw [List.getElem?_append_left (by omega)]
theorem snoc1 {ts : List Nat} (h : 2 ≤ ts.length) (t : Nat) : (ts ++ [t]).getD 1 0 = ts.getD 1 0 := by
  simp only [List.getD_eq_getElem?_getD]; rw [List.getElem?_append_left (by omega)]
end Go.Sx
end
