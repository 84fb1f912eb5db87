/- Layer 15, KindChecks: Check and Vars of kind tell the fault, and the variables, of the document, for programs of at most 600 nodes and names of at most 200 bytes; in the Upto form. Part 9 of 17. -/
import Derived.Test.YtoehjlmdnajibaaGreatDoorG08
set_option maxRecDepth 100000
set_option maxHeartbeats 16000000
section
namespace Go.Knd
open Go.Tok Go.Tree
abbrev Ft := Nat × Int
structure Vr where
  nm : Str
  ty : Nat
  bk : Int
  par : Bool
deriving DecidableEq
def findV (l : List Vr) (s : Str) : Option Vr := l.reverse.find? fun v => decide (v.nm = s)
def scal (t : Nat) : Bool := decide (t = 1) || decide (t = 2)
def whol (t : Nat) : Bool := decide (t = 1) || decide (t = 4)
def callK (nm : Str) (a b : Nat) : Option Nat :=
  if nm ∈ ([[101, 120, 112], [108, 111, 103], [115, 113, 114, 116], [115, 113, 117, 97, 114, 101], [105, 110, 118, 95, 108, 111, 103, 105, 116]] : List Str) then
    some (if b = 0 then (if a = 1 ∨ a = 2 then 2 else if a = 3 then 3 else 0) else 0)
  else if nm = [115, 117, 109] then some (if b = 0 then (if a = 4 then 1 else if a = 3 ∨ a = 5 then 2 else 0) else 0)
  else if nm = [100, 111, 116] then some (if a = 3 ∧ b = 3 then 2 else 0)
  else if nm = [115, 105, 122, 101] then some (if b = 0 then (if a = 3 ∨ a = 4 ∨ a = 5 then 1 else 0) else 0)
  else none
def twoK (op a b : Nat) : Nat :=
  if (scal a && scal b) = true then (if op ≠ 9 ∧ a = 1 ∧ b = 1 then 1 else 2)
  else if op = 6 ∨ op = 7 then (if a = 3 ∧ b = 3 then 3 else 0)
  else if a = 3 ∧ scal b = true ∨ op = 8 ∧ scal a = true ∧ b = 3 then 3
  else 0
def digitsK (s : Str) : Bool := decide (s.length ≤ 9) && s.all fun b => decide (48 ≤ b.toNat) && decide (b.toNat ≤ 57)
def needT (t : Nat) (at_ : Int) (par : Bool) : Except Ft (Nat × Bool) := if t = 0 then .error (152, at_) else .ok (t, par)
def ruleK (l : List Vr) (op : Nat) (at_ : Int) (nm : Str) (ks : List Ex) (a b : Nat) (par : Bool) : Except Ft (Nat × Bool) :=
  if op = 1 then needT (if digitsK nm = true then 1 else 2) at_ par
  else if op = 2 then (match findV l nm with | none => .error (150, at_) | some v => .ok (v.ty, v.par))
  else if op = 3 then (match findV l nm with
    | none => .error (150, at_)
    | some v =>
      if ¬ (v.ty = 3 ∨ v.ty = 4 ∨ v.ty = 5) then .error (152, at_)
      else match ks with
        | [] => .error (152, at_)
        | k :: _ => if a ≠ 1 then .error (152, k.at_) else if par = true then .error (153, k.at_) else needT (if v.ty = 4 then 1 else 2) at_ v.par)
  else if op = 4 then (match callK nm a b with
    | none => .error (150, at_)
    | some t => if ks.length ≠ (if nm = [100, 111, 116] then 2 else 1) then .error (152, at_) else needT t at_ (par && !decide (nm = [115, 105, 122, 101])))
  else if op = 5 then needT (if a ≤ 3 then a else 0) at_ par
  else needT (twoK op a b) at_ par
mutual
def ofK (l : List Vr) : Ex → Except Ft (Nat × Bool)
  | .mk op at_ nm ks => match kidsK l ks with
    | .error f => .error f
    | .ok (ts, par) => ruleK l op at_ nm ks (ts.getD 0 0) (ts.getD 1 0) par
def kidsK (l : List Vr) : List Ex → Except Ft (List Nat × Bool)
  | [] => .ok ([], false)
  | x :: r => match ofK l x with
    | .error f => .error f
    | .ok (t, p) => match kidsK l r with
      | .error f => .error f
      | .ok (ts, q) => .ok (t :: ts, p || q)
end
def andK {α β : Type} (x : Except Ft α) (f : α → Except Ft β) : Except Ft β :=
  match x with
  | .ok a => f a
  | .error e => .error e
theorem andK_ok {α β : Type} (a : α) (f : α → Except Ft β) : andK (.ok a) f = f a := rfl
theorem andK_no {α β : Type} (e : Ft) (f : α → Except Ft β) : andK (.error e) f = .error e := rfl
def needK (b : Bool) (at_ : Int) : Except Ft Unit := if b = true then .ok () else .error (152, at_)
def countedK (e : Ex) (k : Nat × Bool) : Except Ft Unit := andK (needK (decide (k.1 = 1)) e.at_) fun _ => if k.2 = true then .error (153, e.at_) else .ok ()
def countK (l : List Vr) (e : Ex) : Except Ft Unit := andK (ofK l e) fun k => countedK e k
def fitK (v t : Nat) : Bool := (decide (v = 1) && decide (t = 1)) || (decide (v = 2) && scal t) || (decide (v = 3) && decide (t = 3))
def roughS : List Str := [[101, 120, 112], [108, 111, 103], [115, 113, 114, 116], [105, 110, 118, 95, 108, 111, 103, 105, 116]]
mutual
def smoothK : Ex → Except Ft Unit
  | .mk op at_ nm ks => andK (smoothsK ks) fun _ => needK (!decide (op = 4) || !decide (nm ∈ roughS)) at_
def smoothsK : List Ex → Except Ft Unit
  | [] => .ok ()
  | x :: r => andK (smoothK x) fun _ => smoothsK r
end
def eachK {α : Type} (f : α → Except Ft Unit) : List α → Except Ft Unit
  | [] => .ok ()
  | x :: r => andK (f x) fun _ => eachK f r
def boundK (l : List Vr) (ty : Nat) (block : Nat) (e : Ex) : Except Ft Unit :=
  andK (needK (decide (block = 0) || decide (block = 2)) e.at_) fun _ => andK (ofK l e) fun k => andK (needK (scal k.1 && (!whol ty || decide (k.1 = 1))) e.at_) fun _ =>
    andK (if block = 0 then smoothK e else .ok ()) fun _ => if k.2 = true then .error (153, e.at_) else .ok ()
def declK (l : List Vr) (d : Dc) (block : Nat) : Except Ft (List Vr) :=
  if (findV l d.nm).isSome = true then .error (151, d.at_)
  else andK (needK (decide (block < 2) || !whol d.ty) d.at_) fun _ => andK (eachK (countK l) d.size) fun _ => andK (eachK (boundK l d.ty block) (d.lower ++ d.upper)) fun _ =>
    andK (eachK (fun e => andK (ofK l e) fun k => needK (fitK d.ty k.1) e.at_) d.init) fun _ => .ok (l ++ [⟨d.nm, d.ty, block, decide (2 ≤ block)⟩])
def distK (nm : Str) : Option (Nat × Nat × Bool) :=
  if nm ∈ ([[110, 111, 114, 109, 97, 108], [99, 97, 117, 99, 104, 121], [117, 110, 105, 102, 111, 114, 109], [108, 111, 103, 110, 111, 114, 109, 97, 108]] : List Str) then some (2, 0, false)
  else if nm = [103, 97, 109, 109, 97] then some (2, 1, false)
  else if nm = [98, 101, 116, 97] then some (2, 2, false)
  else if nm = [101, 120, 112, 111, 110, 101, 110, 116, 105, 97, 108] then some (1, 0, false)
  else if nm ∈ ([[98, 101, 114, 110, 111, 117, 108, 108, 105], [98, 101, 114, 110, 111, 117, 108, 108, 105, 95, 108, 111, 103, 105, 116], [112, 111, 105, 115, 115, 111, 110], [112, 111, 105, 115, 115, 111, 110, 95, 108, 111, 103]] : List Str) then some (1, 0, true)
  else none
def setK (l : List Vr) (at_ : Int) (nm : Str) (ks : List Ex) (block : Nat) : Except Ft Unit :=
  match findV l nm with
  | none => .error (150, at_)
  | some v => andK (needK (decide (v.bk = block)) at_) fun _ =>
    match ks with
    | [x] => andK (ofK l x) fun k => needK (fitK v.ty k.1) at_
    | [i, x] => andK (needK (!scal v.ty) at_) fun _ => andK (countK l i) fun _ => andK (ofK l x) fun k => needK (scal k.1 && (!decide (v.ty = 4) || decide (k.1 = 1))) at_
    | _ => .ok ()
def argsK (l : List Vr) (t marked : Nat) : Nat → List Ex → Except Ft Unit
  | _, [] => .ok ()
  | i, e :: r => andK (ofK l e) fun k => andK (needK (scal k.1 || (!scal t && !decide (k.1 = 4) && decide (marked ≤ i))) e.at_) fun _ =>
    andK (if i < marked ∧ k.2 = true then .error (153, e.at_) else .ok ()) fun _ => argsK l t marked (i + 1) r
def distS (l : List Vr) (at_ : Int) (nm : Str) (ks : List Ex) (block : Nat) : Except Ft Unit :=
  andK (needK (decide (block = 4)) at_) fun _ =>
    match distK nm with
    | none => .error (150, at_)
    | some d => andK (needK (decide (ks.length = d.1 + 1)) at_) fun _ =>
      match ks with
      | [] => .ok ()
      | x :: r => andK (ofK l x) fun k => andK (needK ((whol k.1 && d.2.2) || (!decide (k.1 = 4) && !d.2.2)) x.at_) fun _ => argsK l k.1 d.2.1 0 r
def headK (l : List Vr) (op : Nat) (at_ : Int) (nm : Str) (ks : List Ex) (block : Nat) : Except Ft (List Vr) :=
  if op = 1 then andK (setK l at_ nm ks block) fun _ => .ok l
  else if op = 2 then andK (needK (decide (block = 4)) at_) fun _ => (match ks with | [] => .ok l | x :: _ => andK (ofK l x) fun k => andK (needK (scal k.1) x.at_) fun _ => .ok l)
  else if op = 3 then andK (distS l at_ nm ks block) fun _ => .ok l
  else if op = 4 then (if (findV l nm).isSome = true then .error (151, at_) else andK (eachK (countK l) ks) fun _ => .ok (l ++ [⟨nm, 1, -1, false⟩]))
  else if op = 5 then (match ks with | [] => .ok l | x :: _ => andK (eachK (countK l) x.kids) fun _ => .ok l)
  else .ok l
mutual
def stmtK (block : Nat) : List Vr → Sm → Except Ft Unit
  | l, .mk op at_ nm ks b e => andK (headK l op at_ nm ks block) fun l2 => andK (stmtsK block l2 b) fun _ => stmtsK block l2 e
def stmtsK (block : Nat) : List Vr → List Sm → Except Ft Unit
  | _, [] => .ok ()
  | l, s :: r => andK (stmtK block l s) fun _ => stmtsK block l r
end
def declsK (block : Nat) : List Vr → List Dc → Except Ft (List Vr)
  | l, [] => .ok l
  | l, d :: r => andK (declK l d block) fun l2 => declsK block l2 r
def blocksK : Nat → List Vr → List Bk → Except Ft (List Vr)
  | _, l, [] => .ok l
  | i, l, b :: r => andK (declsK i l b.decls) fun l2 => andK (stmtsK i l2 b.stmts) fun _ => blocksK (i + 1) l2 r
def allK (p : List Bk) : Except Ft (List Vr) := if pgOk p = true then blocksK 0 [] p else .error (120, 0)
def kindOf (e : Ex) (l : List Vr) : Except Ft (Nat × Bool) := if exOk e = true then ofK l e else .error (120, 0)
end Go.Knd
end
section
namespace Go.Knd
open Go.Tok Go.Tree
theorem andK_assoc {α β γ : Type} (x : Except Ft α) (f : α → Except Ft β) (g : β → Except Ft γ) : andK (andK x f) g = andK x fun a => andK (f a) g := by cases x <;> rfl
theorem andK_of {α β : Type} {x : Except Ft α} {a : α} {f : α → Except Ft β} (h : x = .ok a) : andK x f = f a := by subst h; rfl
theorem andK_er {α β : Type} {x : Except Ft α} {e : Ft} {f : α → Except Ft β} (h : x = .error e) : andK x f = .error e := by subst h; rfl
theorem andK_unit {α : Type} (x : Except Ft α) : andK x (fun a => .ok a) = x := by cases x <;> rfl
def kidsG (l : List Vr) : List Nat → Bool → List Ex → Except Ft (List Nat × Bool)
  | ts, p, [] => .ok (ts, p)
  | ts, p, x :: r => andK (ofK l x) fun k => kidsG l (ts ++ [k.1]) (p || k.2) r
theorem kidsG_eq (l : List Vr) : ∀ (ks : List Ex) (ts : List Nat) (p : Bool), kidsG l ts p ks = andK (kidsK l ks) fun r => .ok (ts ++ r.1, p || r.2)
  | [], ts, p => by rw [kidsG, kidsK, andK_ok, List.append_nil, Bool.or_false]
  | x :: r, ts, p => by
    rw [kidsG, kidsK]
    cases ofK l x with
    | error f => rfl
    | ok k =>
      obtain ⟨t, q⟩ := k
      rw [andK_ok, kidsG_eq l r]
      dsimp only
      cases kidsK l r with
      | error f => rfl
      | ok m => rw [andK_ok, andK_ok, List.append_assoc, Bool.or_assoc]; rfl
theorem ofK_go (l : List Vr) (op : Nat) (at_ : Int) (nm : Str) (ks : List Ex) : ofK l (.mk op at_ nm ks) = andK (kidsG l [] false ks) fun r => ruleK l op at_ nm ks (r.1.getD 0 0) (r.1.getD 1 0) r.2 := by
  rw [ofK, kidsG_eq]
  cases kidsK l ks with
  | error f => rfl
  | ok r => rfl
theorem kidsG_step {l : List Vr} {ks : List Ex} {i : Nat} {x : Ex} (h : ks[i]? = some x) (ts : List Nat) (p : Bool) {β : Type} (F : List Nat × Bool → Except Ft β) :
    andK (kidsG l ts p (ks.drop i)) F = andK (ofK l x) fun k => andK (kidsG l (ts ++ [k.1]) (p || k.2) (ks.drop (i + 1))) F := by
  obtain ⟨h1, h2⟩ := List.getElem?_eq_some_iff.1 h
  rw [List.drop_eq_getElem_cons h1, h2, kidsG, andK_assoc]
theorem kidsG_end {l : List Vr} {ks : List Ex} {i : Nat} (h : ks.length ≤ i) (ts : List Nat) (p : Bool) {β : Type} (F : List Nat × Bool → Except Ft β) : andK (kidsG l ts p (ks.drop i)) F = F (ts, p) := by
  rw [List.drop_eq_nil_of_le h, kidsG, andK_ok]
theorem eachK_step {α β : Type} {f : α → Except Ft Unit} {ks : List α} {i : Nat} {x : α} (h : ks[i]? = some x) (F : Unit → Except Ft β) : andK (eachK f (ks.drop i)) F = andK (f x) fun _ => andK (eachK f (ks.drop (i + 1))) F := by
  obtain ⟨h1, h2⟩ := List.getElem?_eq_some_iff.1 h
  rw [List.drop_eq_getElem_cons h1, h2, eachK, andK_assoc]
theorem eachK_end {α β : Type} {f : α → Except Ft Unit} {ks : List α} {i : Nat} (h : ks.length ≤ i) (F : Unit → Except Ft β) : andK (eachK f (ks.drop i)) F = F () := by
  rw [List.drop_eq_nil_of_le h, eachK, andK_ok]
theorem stmtsK_step {block : Nat} {l : List Vr} {ss : List Sm} {i : Nat} {x : Sm} (h : ss[i]? = some x) : stmtsK block l (ss.drop i) = andK (stmtK block l x) fun _ => stmtsK block l (ss.drop (i + 1)) := by
  obtain ⟨h1, h2⟩ := List.getElem?_eq_some_iff.1 h
  rw [List.drop_eq_getElem_cons h1, h2, stmtsK]
theorem stmtsK_end {block : Nat} {l : List Vr} {ss : List Sm} {i : Nat} (h : ss.length ≤ i) : stmtsK block l (ss.drop i) = .ok () := by
  rw [List.drop_eq_nil_of_le h, stmtsK]
theorem smoothsK_step {ks : List Ex} {i : Nat} {x : Ex} (h : ks[i]? = some x) {β : Type} (F : Unit → Except Ft β) : andK (smoothsK (ks.drop i)) F = andK (smoothK x) fun _ => andK (smoothsK (ks.drop (i + 1))) F := by
  obtain ⟨h1, h2⟩ := List.getElem?_eq_some_iff.1 h
  rw [List.drop_eq_getElem_cons h1, h2, smoothsK, andK_assoc]
theorem smoothsK_end {ks : List Ex} {i : Nat} (h : ks.length ≤ i) {β : Type} (F : Unit → Except Ft β) : andK (smoothsK (ks.drop i)) F = F () := by
  rw [List.drop_eq_nil_of_le h, smoothsK, andK_ok]
theorem declsK_step' {block : Nat} {l : List Vr} {ds : List Dc} {i : Nat} {x : Dc} (h : ds[i]? = some x) {β : Type} (F : List Vr → Except Ft β) : andK (declsK block l (ds.drop i)) F = andK (declK l x block) fun l2 => andK (declsK block l2 (ds.drop (i + 1))) F := by
  obtain ⟨h1, h2⟩ := List.getElem?_eq_some_iff.1 h
  rw [List.drop_eq_getElem_cons h1, h2, declsK, andK_assoc]
theorem declsK_end' {block : Nat} {l : List Vr} {ds : List Dc} {i : Nat} (h : ds.length ≤ i) {β : Type} (F : List Vr → Except Ft β) : andK (declsK block l (ds.drop i)) F = F l := by
  rw [List.drop_eq_nil_of_le h, declsK, andK_ok]
theorem blocksK_step' {l : List Vr} {bs : List Bk} {i : Nat} {b : Bk} (h : bs[i]? = some b) : blocksK i l (bs.drop i) = andK (declsK i l b.decls) fun l2 => andK (stmtsK i l2 b.stmts) fun _ => blocksK (i + 1) l2 (bs.drop (i + 1)) := by
  obtain ⟨h1, h2⟩ := List.getElem?_eq_some_iff.1 h
  rw [List.drop_eq_getElem_cons h1, h2, blocksK]
theorem blocksK_end {l : List Vr} {bs : List Bk} {i : Nat} (h : bs.length ≤ i) : blocksK i l (bs.drop i) = .ok l := by
  rw [List.drop_eq_nil_of_le h, blocksK]
def findB (s : Str) : List Vr → Option Vr
  | [] => none
  | v :: l => if v.nm = s then some v else findB s l
theorem findV_take {l : List Vr} {s : Str} {k : Nat} {v : Vr} (h : l[k]? = some v) : findV (l.take (k + 1)) s = if v.nm = s then some v else findV (l.take k) s := by
  obtain ⟨h1, h2⟩ := List.getElem?_eq_some_iff.1 h
  have e : l.take (k + 1) = l.take k ++ [v] := by rw [List.take_add_one, h]; rfl
  rw [e]
  unfold findV
  rw [List.reverse_append, List.reverse_singleton, List.singleton_append, List.find?_cons]
  by_cases h3 : v.nm = s
  · rw [if_pos h3, decide_eq_true h3]
  rw [if_neg h3, decide_eq_false h3]
theorem findV_none (s : Str) : findV [] s = none := rfl
theorem findV_full {l : List Vr} {s : Str} {k : Nat} (h : l.length ≤ k) : findV (l.take k) s = findV l s := by rw [List.take_of_length_le h]
end Go.Knd
end
section
namespace Go.Sx
open Go.RowKit Go.Tree Go.Tok Go.Knd
section
variable {α β : Type}
def RK (V : α → Value) (X : Except Ft α) (w : World) : Value → World → Prop := fun v w' => ∃ a, X = .ok a ∧ v = V a ∧ Ext w w'
def EK (pan : Ft → List PanicEntry) (X : Except Ft α) (w : World) : List PanicEntry → World → Prop := fun ch w' => ∃ fl, X = .error fl ∧ ch = pan fl ∧ Ext w w'
def RN (V : α → β → Value) (M : World → (Nat → Prop) → α → β → Prop) (X : Except Ft α) (w : World) : Value → World → Prop := fun v w' => ∃ a b, X = .ok a ∧ v = V a b ∧ M w' (Nn w w') a b ∧ Ext w w'
end
section
variable {P : Program} {ops : Array Oper} {Q : Exit → Act → World → Prop} {c : Cf} {e : Env} {rest : List Oper} {o : Oper} {d : Nat} {B : Base} {L : Heap} {f : FuncId} {args : Array Value} {α β γ : Type} {V : α → Value} {V2 : α → β → Value} {M : World → (Nat → Prop) → α → β → Prop} {X : Except Ft α} {F : α → Except Ft γ} {G : Except Ft γ} {pan : Ft → List PanicEntry} {w0 : World}
theorem w_kc (hx : (w0, No) ∈ B) (hG : G = andK X F) (hr : ∀ w, RunE P o (ev c.n e) w f args) (hg : plainB o = true) (hd : o.dst = some d)
    (hc : ∀ w, St B L w → RetP P f args w (RK V X w) (EK pan X w))
    (hE : ∀ fl w', G = .error fl → Ext w0 w' → ∀ a : Act, a.defers = c.ds → Q (.panic (pan fl)) a w')
    (h : ∀ a, X = .ok a → G = F a → WX .sq P ops c Q rest (upd e d (V a)) B L) : WX .sq P ops c Q (o :: rest) e B L := by
  refine w_callP hr hg hd hc ?_ ?_
  · rintro w hw v w' ⟨a, h1, rfl, h3⟩
    exact ⟨_, _, hw.ext h3, h a h1 (hG.trans (andK_of h1))⟩
  rintro w hw ch w' ⟨fl, h1, rfl, h2⟩
  exact hE fl w' (hG.trans (andK_er h1)) ((hw.fr _ hx).ext h2)
theorem w_kn (hx : (w0, No) ∈ B) (hM : TL M) (hG : G = andK X F) (hr : ∀ w, RunE P o (ev c.n e) w f args) (hg : plainB o = true) (hd : o.dst = some d)
    (hc : ∀ w, St B L w → RetP P f args w (RN V2 M X w) (EK pan X w))
    (hE : ∀ fl w', G = .error fl → Ext w0 w' → ∀ a : Act, a.defers = c.ds → Q (.panic (pan fl)) a w')
    (h : ∀ a b w1, X = .ok a → G = F a → Kt (w1, inL L) w0.heap.size M a b → WX .sq P ops c Q rest (upd e d (V2 a b)) ((w1, inL L) :: B) L) : WX .sq P ops c Q (o :: rest) e B L := by
  refine w_callP hr hg hd hc ?_ ?_
  · rintro w hw v w' ⟨a, b, h1, rfl, h3, h4⟩
    exact ⟨_, _, (hw.ext h4).base1, h a b w' h1 (hG.trans (andK_of h1)) (Kt.new h3 hM hw (hw.fr _ hx).size)⟩
  rintro w hw ch w' ⟨fl, h1, rfl, h2⟩
  exact hE fl w' (hG.trans (andK_er h1)) ((hw.fr _ hx).ext h2)
theorem w_kw (hx : (w0, No) ∈ B) (hM : TL M) {a : α} (hr : ∀ w, RunE P o (ev c.n e) w f args) (hg : plainB o = true) (hd : o.dst = some d)
    (hc : ∀ w, St B L w → Ret P f args w fun v w' => ∃ b, v = V2 a b ∧ M w' (Nn w w') a b ∧ Ext w w')
    (h : ∀ b w1, Kt (w1, inL L) w0.heap.size M a b → WX .sq P ops c Q rest (upd e d (V2 a b)) ((w1, inL L) :: B) L) : WX .sq P ops c Q (o :: rest) e B L := by
  refine zP (R := fun w v w' => ∃ b, v = V2 a b ∧ M w' (Nn w w') a b ∧ Ext w w') hr hg hd hc ?_
  rintro w hw v w' ⟨b, rfl, h3, h4⟩
  exact ⟨_, _, (hw.ext h4).base1, h b w' (Kt.new h3 hM hw (hw.fr _ hx).size)⟩
variable {S : World → Prop} {fuel i : Nat} {listed : Array Bool}
theorem o_kc (hx : (w0, No) ∈ B) (hG : G = andK X F) (hi : ops[i]? = some o) (hw : Region.wanted o (yielded ops (act c e).tmps) = true) (hd : o.dst = some d) (hr : ∀ w, RunE P o (ev c.n e) w f args)
    (hc : ∀ w, St B L w → RetP P f args w (RK V X w) (EK pan X w))
    (hE : ∀ fl w', G = .error fl → Ext w0 w' → ∀ a : Act, a.defers = c.ds → Q (.panic (pan fl)) a w')
    (h : ∀ a, X = .ok a → G = F a → WH P ops c Q S fuel (listed.setIfInBounds i true) (upd e d (V a)) B L) : WO P ops c Q S fuel listed i e B L := by
  refine o_callV hi hw hd hr hc ?_ ?_
  · rintro w hw v w' ⟨a, h1, rfl, h3⟩
    exact ⟨_, _, hw.ext h3, h a h1 (hG.trans (andK_of h1))⟩
  rintro w hw ch w' ⟨fl, h1, rfl, h2⟩
  exact hE fl w' (hG.trans (andK_er h1)) ((hw.fr _ hx).ext h2)
end
section
variable {P : Program} {ops : Array Oper} {Q : Exit → Act → World → Prop} {c : Cf} {e : Env} {d : Nat} {B : Base} {L : Heap} {S : World → Prop} {fuel i : Nat} {listed : Array Bool} {x y z : Operand} {v : Value} {T : TypeId} {p : String} {a : Array Edge}
theorem o_makeMapP {t : TypeId} (hi : ops[i]? = some ⟨some d, .makeMap t none, T, p, a, none⟩) (h : ∀ b, (∀ x ∈ L, x.1 < b) → (∀ x ∈ B, x.1.heap.size ≤ b) → WH P ops c Q S fuel (listed.setIfInBounds i true) (upd e d (.map (some b))) B ((b, mpP []) :: L)) : WO P ops c Q S fuel listed i e B L :=
  o_val hi rfl rfl fun w hw => ⟨_, _, B, _, R_makeMap, hw.new, h w.heap.size (fun p hp => lt_of_blk (hw.own p hp)) (fun x hx => (hw.fr x hx).size)⟩
theorem o_insP (j : Nat) {b : Nat} {s : Nat × Nat} {l : List ((Nat × Nat) × Value)} {t te tk ke : TypeId} (hq : ops[i]? = some ⟨none, .insert t x y z, T, p, a, none⟩) (hi : L[j]? = some (b, mpP l)) (ht : P.underlying t = some (.map tk te)) (hk : kyP P tk ke) (hx : ev c.n e x = .map (some b)) (hy : ev c.n e y = pr s.1 s.2) (hz : ev c.n e z = v) (hn : (l.lookup s).isNone = true)
    (h : WH P ops c Q S fuel (listed.setIfInBounds i true) e B (L.set j (b, mpP (l ++ [(s, v)])))) : WO P ops c Q S fuel listed i e B L := by
  refine o_unit hq rfl rfl fun w hw => ?_
  have hb := hw.at_ j hi
  unfold mpP at hb
  obtain ⟨r, h1, h2⟩ := findP_run (w := w) hk s l
  have hr : r = none := by
    rw [Option.isNone_iff_eq_none.1 hn] at h2
    cases r with
    | none => rfl
    | some r => simp at h2
  subst hr
  have hck : ∀ (em : Bool) (w : World), (Instr.checkKey em 10000 tk (pr s.1 s.2)).run P w = .ok () w := fun em w => ckP_run hk em 9998 _ _
  have hr : (Instr.mapUpdate t (.map (some b)) (pr s.1 s.2) v).run P w = .ok () (w.putObj b (mpP (l ++ [(s, v)]))) := by
    simp [Instr.mapUpdate, run_underlying ht, MapKept.run_getObj_map hb, hck, h1, MapKept.run_setObj_map _ hb, Result.andThen, World.putObj, mpP, entsF_snoc]
  refine ⟨w.putObj b (mpP (l ++ [(s, v)])), B, _, ?_, hw.putO j hi, h⟩
  simp only [RunU, execOp, hx, hy, hz, Sem.run_bind, hr, Result.andThen]
  rfl
end
abbrev vrC (v : Vr) : List Value := [str v.nm, .int .u8 (v.ty : Nat), .int .i64 v.bk, .bool v.par]
def vrsM (W : World) (N : Nat → Prop) (l : List Vr) (a : Option Addr) : Prop := ∀ k v, l[k]? = some v → At W N a (k * 4) (vrC v)
def vrsV (W : World) (N : Nat → Prop) (l : List Vr) (b : Option Addr × Nat) : Prop := l.length ≤ b.2 ∧ vrsM W N l b.1
theorem vrsM.fr {W W' : World} {S N : Nat → Prop} {l : List Vr} {a : Option Addr} (h : vrsM W N l a) (hf : Fr S W W') (hn : ∀ b, N b → ¬ S b) : vrsM W' N l a := fun k v hk => (h k v hk).fr hf hn
theorem vrsM.mono {W : World} {N N' : Nat → Prop} {l : List Vr} {a : Option Addr} (h : vrsM W N l a) (hn : ∀ j, N j → N' j) : vrsM W N' l a := fun k v hk => (h k v hk).mono hn
theorem TL.vrs : TL vrsV := ⟨fun h hf hn => ⟨h.1, h.2.fr hf hn⟩, fun h hn => ⟨h.1, h.2.mono hn⟩⟩
theorem vrsM.now {x : World × (Nat → Prop)} {N : Nat → Prop} {l : List Vr} {a : Option Addr} {B : Base} {L : Heap} {w : World} (h : vrsM x.1 N l a) (hn : Apart x N) (hx : x ∈ B) (hw : St B L w) : vrsM w N l a := h.fr (hw.fr x hx) hn
theorem vrsV.nil {w : World} {N : Nat → Prop} : vrsV w N [] (none, 0) := ⟨Nat.le_refl _, fun k v h => by simp at h⟩
abbrev vrO : Option Vr → List Value
  | some v => vrC v
  | none => [str [], .int .u8 0, .int .i64 0, .bool false]
def vrsC (l : List Vr) : List Value := l.flatMap vrC
theorem vrsC_len : ∀ l : List Vr, (vrsC l).length = l.length * 4
  | [] => rfl
  | v :: l => by
    have := vrsC_len l
    show (vrC v ++ vrsC l).length = _
    rw [List.length_append, this]
    show 4 + _ = (l.length + 1) * 4
    omega
theorem vrsC_at : ∀ (l : List Vr) (k : Nat) (v : Vr), l[k]? = some v → ∀ (j : Nat) u, (vrC v)[j]? = some u → (vrsC l)[k * 4 + j]? = some u
  | [], _, _, h, _, _, _ => by simp at h
  | x :: l, 0, v, h, j, u, hu => by
    obtain rfl : x = v := by simpa using h
    have hj := (List.getElem?_eq_some_iff.1 hu).1
    show (vrC x ++ vrsC l)[0 * 4 + j]? = some u
    rw [List.getElem?_append_left (by simpa using hj)]
    simpa using hu
  | x :: l, k + 1, v, h, j, u, hu => by
    have ih := vrsC_at l k v (by simpa using h) j u hu
    show (vrC x ++ vrsC l)[(k + 1) * 4 + j]? = some u
    have hl : (vrC x).length = 4 := rfl
    rw [List.getElem?_append_right (by rw [hl]; omega), hl, show (k + 1) * 4 + j - 4 = k * 4 + j by omega]
    exact ih
theorem vrsC_snoc (l : List Vr) (v : Vr) : vrsC (l ++ [v]) = vrsC l ++ vrC v := by unfold vrsC; rw [List.flatMap_append, List.flatMap_cons, List.flatMap_nil, List.append_nil]
theorem vrsC_one (l : List Vr) : (vrsC l).all Value.oneCell' = true := by
  induction l with
  | nil => rfl
  | cons v l ih => show (vrC v ++ vrsC l).all Value.oneCell' = true; rw [List.all_append, ih]; rfl
theorem own_vrs {w : World} {N : Nat → Prop} {T : TypeId} {l : List Vr} {v : Value} {W : Heap} (h : Own T 4 v (vrsC l) l.length W) (hW : ∀ p ∈ W, w.heap[p.1]? = some p.2) (hN : ∀ p ∈ W, N p.1) : ∃ b : Option Addr × Nat, v = .slice b.1 l.length b.2 ∧ vrsV w N l b := by
  obtain ⟨hl, h⟩ := h
  rcases h with ⟨rfl, h0, hn⟩ | ⟨q, c, sp, rfl, hc, hsp, rfl⟩
  · have : l = [] := List.length_eq_zero_iff.1 h0
    subst this
    exact ⟨(none, 0), rfl, vrsV.nil⟩
  refine ⟨(some ⟨q, 0, none⟩, c), rfl, hc, fun k v hk => at_blk (hW _ (List.mem_singleton.2 rfl)) (hN _ (List.mem_singleton.2 rfl)) (fun j u hj => ?_)⟩
  have h2 := vrsC_at l k v hk j u hj
  rw [List.getElem?_append_left (List.getElem?_eq_some_iff.1 h2).1]; exact h2
theorem vrs_row {w : World} {N : Nat → Prop} {l : List Vr} {a : Option Addr} (h : vrsM w N l a) (hl : l ≠ []) : ∃ b o, a = some ⟨b, o, none⟩ ∧ N b ∧ ∀ (j : Nat) u, (vrsC l)[j]? = some u → w.cell? ⟨b, o + j, none⟩ = some u := by
  obtain ⟨v0, l0, rfl⟩ := List.exists_cons_of_ne_nil hl
  obtain ⟨b, o, ha, hN, _⟩ := h 0 v0 rfl
  subst ha
  refine ⟨b, o, rfl, hN, fun j u hj => ?_⟩
  have hj1 := (List.getElem?_eq_some_iff.1 hj).1
  rw [vrsC_len] at hj1
  have hk : j / 4 < (v0 :: l0).length := by omega
  obtain ⟨b', o', ha', _, hc⟩ := h (j / 4) _ (List.getElem?_eq_getElem hk)
  cases ha'
  have hm : j % 4 < (vrC (v0 :: l0)[j / 4]).length := Nat.mod_lt _ (by decide)
  have h2 := vrsC_at (v0 :: l0) (j / 4) _ (List.getElem?_eq_getElem hk) (j % 4) _ (List.getElem?_eq_getElem hm)
  have h3 : j / 4 * 4 + j % 4 = j := by omega
  rw [h3] at h2
  rw [h2] at hj
  have h4 := hc (j % 4) u (by rw [List.getElem?_eq_getElem hm]; exact hj)
  rwa [Nat.add_assoc, h3] at h4
section
variable {P : Program} {ops : Array Oper} {Q : Exit → Act → World → Prop} {c : Cf} {e : Env} {B : Base} {L : Heap} {d : Nat} {ρ : Operand → Value} {D : Option Tmp} {g : Option (Nat × Bool)} {x y : Operand} {T : TypeId} {p : String} {ed : Array Edge} {t te bytes : Nat} {z : Value} {xs : List Value} {w : World}
theorem R_sl3 {kl kh : IntKind} {a : Option Addr} {q n m : Nat} {hi mx : Operand} (hu : slB P t q = true) (hx : ρ x = .slice a n m) (hh : ρ hi = .int kl (n : Nat)) (hm : ρ mx = .int kh (n : Nat)) (h2 : n ≤ m) :
    Run P ⟨D, .slice t x none (some hi) (some mx), T, p, ed, g⟩ ρ w (.slice a n n) w := by
  obtain ⟨e, ti, h3, h4, h5⟩ := slB_spec hu
  have h6 : (n : Int) ≤ (m : Int) := by omega
  cases a <;> simp [Run, execOp, hx, hh, hm, go_sem, Instr.sliceAt, Instr.slice, run_underlying h3, Instr.sliceBounds, Instr.sliceBound, asIntOf, h2, h6, sizeOf, typeInfo, h4, h5, Addr.add]
theorem app_full {b o n m b2 o2 c2 : Nat} {k : Nat} {news : List Value} (hT : slT P t te k bytes z) (hx : ρ x = .slice (some ⟨b, o, none⟩) n n) (hxl : xs.length = n * k) (hxs : ∀ (j : Nat) u, xs[j]? = some u → w.cell? ⟨b, o + j, none⟩ = some u)
    (hy : ρ y = .slice (some ⟨b2, o2, none⟩) m c2) (hl : news.length = m * k) (hnews : ∀ (j : Nat) u, news[j]? = some u → w.cell? ⟨b2, o2 + j, none⟩ = some u) (hm : 0 < m) (hn : n + m ≤ 100000000) (hby : bytes ≤ 1000) (hw : St B L w) :
    ∃ v' w' W', Run P ⟨D, .call ⟨.builtin .append, #[x, y], #[t, t]⟩, T, p, ed, g⟩ ρ w v' w' ∧ Own te k v' (xs ++ news) (n + m) W' ∧ St B (W' ++ L) w' := by
  obtain ⟨i, ht, hi, hsz, hb, hz, hzs⟩ := slT_spec hT
  subst hb; subst hsz
  have hge := grownCap_ge w (n + m) n te
  have ad : ∀ (q k j : Nat), (⟨q, k, none⟩ : Addr).add j = ⟨q, k + j, none⟩ := fun q k j => by unfold Addr.add; split <;> simp_all
  have hlen : (xs ++ news).length = (n + m) * i.size := by rw [List.length_append, hxl, hl, Nat.add_mul]
  have hr := run_append_grow (P := P) w t T te i z ht hi hz ⟨b, o, none⟩ n n xs hxl (fun j u hu => by rw [ad]; exact hxs j u hu) ⟨b2, o2, none⟩ m c2 news hl (fun j u hu => by rw [ad]; exact hnews j u hu) (by omega) (by omega) (growslice_fits (by omega) (Nat.le_trans (Nat.mul_le_mul hn hby) (by decide)))
  have hs := (hw.drawn (w.drawn + 1)).new (o := cel (xs ++ news ++ (Builtin.zeroCells z.cells (grownCap w (n + m) n te - (n + m))).toList) te)
  have e1 : (xs.toArray ++ news.toArray ++ Builtin.zeroCells z.cells (grownCap w (n + m) n te - (n + m)) : Array Value) = (xs ++ news ++ (Builtin.zeroCells z.cells (grownCap w (n + m) n te - (n + m))).toList).toArray := by simp
  rw [e1] at hr
  refine ⟨_, _, [(w.heap.size, _)], R_append hx hy hr, ⟨hlen, .inr ⟨w.heap.size, grownCap w (n + m) n te, _, rfl, hge, ?_, rfl⟩⟩, hs⟩
  rw [Array.length_toList, size_zeroCells, hzs]
theorem app_var {l : List Vr} {a : Option Addr} {sb i : Nat} {v : Vr} (hT : slT P t te 4 bytes z) (hx : ρ x = .slice a l.length l.length) (hM : vrsM w (fun _ => True) l a) (hn : l = [] → a = none) (hy : ρ y = .slice (some ⟨sb, 0, none⟩) 1 1) (hi : L[i]? = some (sb, cel (vrC v) te)) (hl : l.length ≤ 90000000) (hby : bytes ≤ 1000) (hw : St B L w) :
    ∃ v' w' W', Run P ⟨D, .call ⟨.builtin .append, #[x, y], #[t, t]⟩, T, p, ed, g⟩ ρ w v' w' ∧ Own te 4 v' (vrsC (l ++ [v])) (l ++ [v]).length W' ∧ St B (W' ++ L) w' := by
  rw [vrsC_snoc, List.length_append, List.length_singleton]
  by_cases h0 : l = []
  · subst h0
    obtain rfl := hn rfl
    obtain ⟨v', w', L2, k1, k2, k3⟩ := app_run (ρ := ρ) (D := D) (g := g) (x := x) (y := y) (T := T) (p := p) (ed := ed) (A := []) (L := L) (L1 := L) (news := vrC v) (n := 0) (xs := []) hT (by decide) hx (OwnR.nil te 4 [] L) hy rfl (fun w hw j u hj => zc i hi (by rw [Nat.zero_add]; exact hj) hw) rfl (by decide) (by decide)
      (Nat.le_trans (Nat.mul_le_mul (show 0 + 1 ≤ 1 by decide) hby) (by decide)) hw
    obtain ⟨W', k4, rfl⟩ := k2.own
    exact ⟨v', w', W', k1, k4, k3⟩
  obtain ⟨b, o, rfl, _, hc⟩ := vrs_row hM h0
  exact app_full hT hx (vrsC_len l) hc hy rfl (fun j u hj => zc i hi (by rw [Nat.zero_add]; exact hj) hw) (by decide) (by omega) hby hw
end
end Go.Sx
namespace Go.Sx
open Go.RowKit
theorem bytes_at {s : List UInt8} {cap j : Nat} {u : UInt8} (h : s[j]? = some u) : (bytesRow ⟨s.toArray⟩ cap)[j]? = some (.int .u8 (u.toNat : Nat)) := by
  have hj := (List.getElem?_eq_some_iff.1 h).1
  unfold bytesRow
  rw [Array.getElem?_append_left (by simpa using hj)]
  simp [h]
theorem w_convS {P : Program} {ops : Array Oper} {Q : Exit → Act → World → Prop} {c : Cf} {e : Env} {B : Base} {L : Heap} {rest : List Oper} {d : Nat} {x : Operand} {T src dst el : TypeId} {p : String} {a : Array Edge} {s : List UInt8} (hs : P.underlying src = some .string) (hd : P.underlying dst = some (.slice el)) (he : P.underlying el = some (.int .u8)) (hx : ev c.n e x = str s)
    (h : ∀ b cap ob, s.length ≤ cap → (∀ w : World, w.heap[b]? = some ob → ∀ (j : Nat) u, s[j]? = some u → w.cell? ⟨b, j, none⟩ = some (.int .u8 (u.toNat : Nat))) → WX .sq P ops c Q rest (upd e d (.slice (some ⟨b, 0, none⟩) s.length cap)) B ((b, ob) :: L)) :
    WX .sq P ops c Q (⟨some d, .convert src dst x, T, p, a, none⟩ :: rest) e B L := by
  unfold WX at *
  intro w hw
  have hr := run_bytes_of_string (P := P) w src dst el ⟨s.toArray⟩ hs hd he
  have hge := grownCap_ge w s.length 0 el
  refine s_run (by unfold Run; simp only [execOp, hx, Sem.run_bind, hr, Result.andThen_ok]; rfl) rfl rfl (h w.heap.size (grownCap w s.length 0 el) _ hge (fun w' hb j u hj => ?_) _ (hw.drawn (w.drawn + 1)).new)
  have h1 := bytes_at (cap := grownCap w s.length 0 el) hj
  simp only [World.cell?, hb]
  exact h1
open Go.Knd Go.Tok Go.Tree
section
variable {P : Program} {ops : Array Oper} {Q : Exit → Act → World → Prop} {c : Cf} {e : Env} {rest : List Oper} {o : Oper} {d : Nat} {B : Base} {L : Heap} {f : FuncId} {args : Array Value} {pan : Ft → List PanicEntry} {w0 : World}
def NR (b : Bool) (w : World) : Value → World → Prop := fun v w' => b = true ∧ v = .tuple #[] ∧ Ext w w'
def NE (pan : Ft → List PanicEntry) (b : Bool) (at_ : Int) (w : World) : List PanicEntry → World → Prop := fun ch w' => b = false ∧ ch = pan (152, at_) ∧ Ext w w'
theorem w_need {b : Bool} {at_ : Int} (hx : (w0, No) ∈ B) (hr : ∀ w, RunE P o (ev c.n e) w f args) (hg : plainB o = true) (hd : o.dst = some d) (hc : ∀ w, St B L w → RetP P f args w (NR b w) (NE pan b at_ w))
    (hn : b = false → ∀ w', Ext w0 w' → ∀ a : Act, a.defers = c.ds → Q (.panic (pan (152, at_))) a w') (h : b = true → WX .sq P ops c Q rest (upd e d (.tuple #[])) B L) : WX .sq P ops c Q (o :: rest) e B L := by
  refine w_callP hr hg hd hc ?_ ?_
  · rintro w hw v w' ⟨h1, rfl, h3⟩
    exact ⟨_, _, hw.ext h3, h h1⟩
  rintro w hw ch w' ⟨h1, rfl, h2⟩
  exact hn h1 w' ((hw.fr _ hx).ext h2)
variable {S : World → Prop} {fuel i : Nat} {listed : Array Bool}
theorem o_need {b : Bool} {at_ : Int} (hx : (w0, No) ∈ B) (hi : ops[i]? = some o) (hw : Region.wanted o (yielded ops (act c e).tmps) = true) (hd : o.dst = some d) (hr : ∀ w, RunE P o (ev c.n e) w f args) (hc : ∀ w, St B L w → RetP P f args w (NR b w) (NE pan b at_ w))
    (hn : b = false → ∀ w', Ext w0 w' → ∀ a : Act, a.defers = c.ds → Q (.panic (pan (152, at_))) a w') (h : b = true → WH P ops c Q S fuel (listed.setIfInBounds i true) (upd e d (.tuple #[])) B L) : WO P ops c Q S fuel listed i e B L := by
  refine o_callV hi hw hd hr hc ?_ ?_
  · rintro w hw v w' ⟨h1, rfl, h3⟩
    exact ⟨_, _, hw.ext h3, h h1⟩
  rintro w hw ch w' ⟨h1, rfl, h2⟩
  exact hn h1 w' ((hw.fr _ hx).ext h2)
theorem w_fail {fl : Ft} (hx : (w0, No) ∈ B) (hr : ∀ w, RunE P o (ev c.n e) w f args) (hg : plainB o = true) (hd : o.dst = some d) (hc : ∀ w, St B L w → RetP P f args w (fun _ _ => False) (fun ch w' => ch = pan fl ∧ Ext w w'))
    (hn : ∀ w', Ext w0 w' → ∀ a : Act, a.defers = c.ds → Q (.panic (pan fl)) a w') : WX .sq P ops c Q (o :: rest) e B L := by
  refine w_callP hr hg hd hc (fun w hw v w' h => h.elim) ?_
  rintro w hw ch w' ⟨rfl, h2⟩
  exact hn w' ((hw.fr _ hx).ext h2)
end
theorem needK_no {b b' : Bool} {a : Int} (h : b' = b) (hb : b = false) : needK b' a = .error (152, a) := by subst h; unfold needK; rw [hb]; rfl
theorem needK_yes {b b' : Bool} {a : Int} (h : b' = b) (hb : b = true) : needK b' a = .ok () := by subst h; unfold needK; rw [hb]; rfl
theorem vrsV.nowT {w w' : World} {l : List Vr} {b : Option Addr × Nat} {B : Base} {L : Heap} (h : vrsV w (fun _ => True) l b) (hx : (w, No) ∈ B) (hw : St B L w') : vrsV w' (fun _ => True) l b := TL.vrs.fr h (hw.fr _ hx) (fun _ _ h => h)
theorem exM.nowT {w w' : World} {x : Ex} {cs : List Value} {B : Base} {L : Heap} (h : exM w (fun _ => True) x cs) (hx : (w, No) ∈ B) (hw : St B L w') : exM w' (fun _ => True) x cs := h.now (x := (w, No)) (fun _ _ h => h) hx hw
theorem exsM.nowT {w w' : World} {l : List Ex} {a : Option Addr} {i : Nat} {B : Base} {L : Heap} (h : exsM w (fun _ => True) l a i) (hx : (w, No) ∈ B) (hw : St B L w') : exsM w' (fun _ => True) l a i := h.now (x := (w, No)) (fun _ _ h => h) hx hw
theorem smM.nowT {w w' : World} {x : Sm} {cs : List Value} {B : Base} {L : Heap} (h : smM w (fun _ => True) x cs) (hx : (w, No) ∈ B) (hw : St B L w') : smM w' (fun _ => True) x cs := h.now (x := (w, No)) (fun _ _ h => h) hx hw
theorem smsM.nowT {w w' : World} {l : List Sm} {a : Option Addr} {i : Nat} {B : Base} {L : Heap} (h : smsM w (fun _ => True) l a i) (hx : (w, No) ∈ B) (hw : St B L w') : smsM w' (fun _ => True) l a i := h.now (x := (w, No)) (fun _ _ h => h) hx hw
def vrsW (W : World) (N : Nat → Prop) (l : List Vr) (b : Option Addr × Nat) : Prop := vrsV W N l b ∧ (l = [] → b.1 = none)
theorem TL.vrw : TL vrsW := ⟨fun h hf hn => ⟨TL.vrs.fr h.1 hf hn, h.2⟩, fun h hn => ⟨TL.vrs.mono h.1 hn, h.2⟩⟩
theorem vrsW.nowT {w w' : World} {l : List Vr} {b : Option Addr × Nat} {B : Base} {L : Heap} (h : vrsW w (fun _ => True) l b) (hx : (w, No) ∈ B) (hw : St B L w') : vrsW w' (fun _ => True) l b := TL.vrw.fr h (hw.fr _ hx) (fun _ _ h => h)
theorem Kt.T {α β : Type} {M : World → (Nat → Prop) → α → β → Prop} {x : World × (Nat → Prop)} {s0 : Nat} {a : α} {b : β} {B : Base} {L : Heap} {w : World} (h : Kt x s0 M a b) (hM : TL M) (hx : x ∈ B) (hw : St B L w) : M w (fun _ => True) a b := hM.mono (h.at hM hx hw) (fun _ _ => trivial)
theorem with_fin {w w' : World} {T : TypeId} {l : List Vr} {v : Value} {W L : Heap} (h : Own T 4 v (vrsC l) l.length W) (hw : St [(w, No)] (W ++ L) w') (hl : l ≠ []) : ∃ b : Option Addr × Nat, v = .slice b.1 l.length b.2 ∧ vrsW w' (Nn w w') l b := by
  obtain ⟨b, h1, h2⟩ := own_vrs (w := w') (N := Nn w w') h (fun p hp => hw.own p (List.mem_append.2 (.inl hp))) (fun p hp => by
    refine ⟨?_, lt_of_blk (hw.own p (List.mem_append.2 (.inl hp)))⟩
    rcases hw.ok p (List.mem_append.2 (.inl hp)) (w, No) zm0 with h | h
    · exact h.elim
    exact h)
  exact ⟨b, h1, h2, fun h => absurd h hl⟩
theorem two_of {ts : List Nat} {k : Nat} (h : ts.length = k) (hk : k < 2) : (k = 0 ∧ ts = []) ∨ (k = 1 ∧ ∃ t0, ts = [t0]) := by
  match ts, h with
  | [], h => exact .inl ⟨h.symm, rfl⟩
  | [t], h => exact .inr ⟨h.symm, t, rfl⟩
  | _ :: _ :: _, h => simp at h; omega
theorem snoc0 {ts : List Nat} (h : 2 ≤ ts.length) (t : Nat) : (ts ++ [t]).getD 0 0 = ts.getD 0 0 := by
  simp only [List.getD_eq_getElem?_getD]; rw [List.getElem?_append_left (by omega)]
theorem snoc1 {ts : List Nat} (h : 2 ≤ ts.length) (t : Nat) : (ts ++ [t]).getD 1 0 = ts.getD 1 0 := by
  simp only [List.getD_eq_getElem?_getD]; rw [List.getElem?_append_left (by omega)]
end Go.Sx
end
section
namespace Go.Sx
open Go.RowKit
section
variable {P : Program} {ops : Array Oper} {Q : Exit → Act → World → Prop} {c : Cf} {e : Env} {B : Base} {L : Heap} {o : Oper} {v : Value} {d fuel : Nat} {S : World → Prop} {listed : Array Bool} {f : FuncId} {args : Array Value} {j t : Nat} {x c0 : Bool}
theorem h_gT (i : Nat) (hi : ops[i]? = some o) (hk : (Region.noSelect ops && Region.free .any ops listed i && (Region.ready .any ops listed).contains i) = true) (hg : o.guard = some (j, true)) (hj : (ops[j]?).bind (·.dst) = some t) (ht : Nat.blt t c.n = true) (he : e t = .bool x) (hd : o.dst = some d) (hs : ∀ w, St B L w → S w)
    (hr : x = true → ∀ w, S w → Run P o (ev c.n e) w v w) (h : WH P ops c Q S fuel (listed.setIfInBounds i true) (upd e d (gvl x v)) B L) : WH P ops c Q S (fuel + 1) listed e B L := by
  cases x with
  | true => rw [gvl_true] at h; exact h_takeG i hi hk hg hj ht he hd hs (hr rfl) h
  | false => rw [gvl_false] at h; exact h_skip i hi hk hg hj ht he hd hs h
theorem h_gF (i : Nat) (hi : ops[i]? = some o) (hk : (Region.noSelect ops && Region.free .any ops listed i && (Region.ready .any ops listed).contains i) = true) (hg : o.guard = some (j, false)) (hj : (ops[j]?).bind (·.dst) = some t) (ht : Nat.blt t c.n = true) (he : e t = .bool x) (hd : o.dst = some d) (hs : ∀ w, St B L w → S w)
    (hr : (!x) = true → ∀ w, S w → Run P o (ev c.n e) w v w) (h : WH P ops c Q S fuel (listed.setIfInBounds i true) (upd e d (gvl (!x) v)) B L) : WH P ops c Q S (fuel + 1) listed e B L := by
  cases x with
  | false => rw [Bool.not_false, gvl_true] at h; exact h_takeG i hi hk hg hj ht he hd hs (hr rfl) h
  | true => rw [Bool.not_true, gvl_false] at h; exact h_skip i hi hk hg hj ht he hd hs h
theorem h_hT (i : Nat) (hi : ops[i]? = some o) (hk : (Region.noSelect ops && Region.free .any ops listed i && (Region.ready .any ops listed).contains i) = true) (hg : o.guard = some (j, true)) (hj : (ops[j]?).bind (·.dst) = some t) (ht : Nat.blt t c.n = true) (he : e t = gvl c0 (.bool x)) (hd : o.dst = some d) (hs : ∀ w, St B L w → S w)
    (hr : (c0 && x) = true → ∀ w, S w → Run P o (ev c.n e) w v w) (h : WH P ops c Q S fuel (listed.setIfInBounds i true) (upd e d (gvl (c0 && x) v)) B L) : WH P ops c Q S (fuel + 1) listed e B L := by
  cases c0 with
  | true => rw [gvl_true] at he; exact h_gT i hi hk hg hj ht he hd hs hr h
  | false => rw [gvl_false] at he; rw [Bool.false_and, gvl_false] at h; exact h_skipU i hi hk hg hj ht he hd hs h
theorem h_hF (i : Nat) (hi : ops[i]? = some o) (hk : (Region.noSelect ops && Region.free .any ops listed i && (Region.ready .any ops listed).contains i) = true) (hg : o.guard = some (j, false)) (hj : (ops[j]?).bind (·.dst) = some t) (ht : Nat.blt t c.n = true) (he : e t = gvl c0 (.bool x)) (hd : o.dst = some d) (hs : ∀ w, St B L w → S w)
    (hr : (c0 && !x) = true → ∀ w, S w → Run P o (ev c.n e) w v w) (h : WH P ops c Q S fuel (listed.setIfInBounds i true) (upd e d (gvl (c0 && !x) v)) B L) : WH P ops c Q S (fuel + 1) listed e B L := by
  cases c0 with
  | true => rw [gvl_true] at he; exact h_gF i hi hk hg hj ht he hd hs hr h
  | false => rw [gvl_false] at he; rw [Bool.false_and, gvl_false] at h; exact h_skipU i hi hk hg hj ht he hd hs h
theorem h_cT (i : Nat) (h1 : Region.ready .any ops listed = [i]) (hi : ops[i]? = some o) (hk : (Region.noSelect ops && Region.free .any ops listed i && (Region.ready .any ops listed).contains i) = true) (hg : o.guard = some (j, true)) (hj : (ops[j]?).bind (·.dst) = some t) (ht : Nat.blt t c.n = true) (he : e t = .bool x) (hd : o.dst = some d) (hs : ∀ w, St B L w → S w)
    (hr : x = true → ∀ w, RunE P o (ev c.n e) w f args) (hc : x = true → ∀ w, St B L w → Ret P f args w fun v' w' => v' = v ∧ Ext w w') (h : WH P ops c Q S fuel (listed.setIfInBounds i true) (upd e d (gvl x v)) B L) : WH P ops c Q S (fuel + 1) listed e B L := by
  cases x with
  | true => rw [gvl_true] at h; exact zH i h1 hs (o_pureW hi (wn_yes hg hj ht he) hd (hr rfl) (hc rfl) h)
  | false => rw [gvl_false] at h; exact h_skip i hi hk hg hj ht he hd hs h
theorem h_cF (i : Nat) (h1 : Region.ready .any ops listed = [i]) (hi : ops[i]? = some o) (hk : (Region.noSelect ops && Region.free .any ops listed i && (Region.ready .any ops listed).contains i) = true) (hg : o.guard = some (j, false)) (hj : (ops[j]?).bind (·.dst) = some t) (ht : Nat.blt t c.n = true) (he : e t = .bool x) (hd : o.dst = some d) (hs : ∀ w, St B L w → S w)
    (hr : (!x) = true → ∀ w, RunE P o (ev c.n e) w f args) (hc : (!x) = true → ∀ w, St B L w → Ret P f args w fun v' w' => v' = v ∧ Ext w w') (h : WH P ops c Q S fuel (listed.setIfInBounds i true) (upd e d (gvl (!x) v)) B L) : WH P ops c Q S (fuel + 1) listed e B L := by
  cases x with
  | false => rw [Bool.not_false, gvl_true] at h; exact zH i h1 hs (o_pureW hi (wn_yes hg hj ht he) hd (hr rfl) (hc rfl) h)
  | true => rw [Bool.not_true, gvl_false] at h; exact h_skip i hi hk hg hj ht he hd hs h
end
end Go.Sx
end
section
namespace Go.Proofs.YtoehjlmdnajibaaGreatDoor
open Go.RowKit Go.Sx
open Go.Tok Go.Tree Go.Knd
def panK (fl : Ft) : List PanicEntry := [{ v := .iface 37 (.agg #[.int .i64 (fl.1 : Nat), .int .i64 fl.2]), recovered := false }]
def realK (a b : Nat) : Nat := if b = 0 then (if a = 1 ∨ a = 2 then 2 else if a = 3 then 3 else 0) else 0
def sumK (a b : Nat) : Nat := if b = 0 then (if a = 4 then 1 else if a = 3 ∨ a = 5 then 2 else 0) else 0
def dotK (a b : Nat) : Nat := if a = 3 ∧ b = 3 then 2 else 0
def vecK (a b : Nat) : Nat := if a = 3 ∧ b = 3 then 3 else 0
def sizeK (a b : Nat) : Nat := if b = 0 then (if a = 3 ∨ a = 4 ∨ a = 5 then 1 else 0) else 0
theorem scalar_ok (t : Nat) (w : World) :
    Ret Tryz.prog 84 #[.int .u8 (t : Nat)] w (fun v w' => v = .bool (scal t) ∧ Ext w w') := by
  refine enter (S := No) (l := [_]) (L := []) 9 Tryz.func84 rfl rfl rfl (St.start w No) (yA (aB rfl (yC (mI rfl (je rfl rfl (mB rfl ?_)))))); refine zd (t := 5) rfl (fun h1 => ?_) (fun h1 => ?_)
  · refine zs rfl rfl (bT h1) (zs rfl rfl (bT h1) (jT (bT h1) rfl (aB rfl (yB (ze (zo (v := .bool _) rfl rfl rfl ?_)))))); exact fun w' hw => ⟨congrArg Value.bool (by clear hw; simp only [scal]; grind), hw.f0⟩
  refine zw rfl rfl (bF h1) (mI rfl (zw rfl rfl (bF h1) (je rfl rfl (jF (bF h1) rfl (aB rfl (yB (ze (zo (v := .bool _) rfl rfl rfl ?_)))))))); exact fun w' hw => ⟨congrArg Value.bool (by clear hw; simp only [scal]; grind), hw.f0⟩
theorem whole_ok (t : Nat) (w : World) :
    Ret Tryz.prog 81 #[.int .u8 (t : Nat)] w (fun v w' => v = .bool (whol t) ∧ Ext w w') := by
  refine enter (S := No) (l := [_]) (L := []) 9 Tryz.func81 rfl rfl rfl (St.start w No) (yA (aB rfl (yC (mI rfl (je rfl rfl (mB rfl ?_)))))); refine zd (t := 5) rfl (fun h1 => ?_) (fun h1 => ?_)
  · refine zs rfl rfl (bT h1) (zs rfl rfl (bT h1) (jT (bT h1) rfl (aB rfl (yB (ze (zo (v := .bool _) rfl rfl rfl ?_)))))); exact fun w' hw => ⟨congrArg Value.bool (by clear hw; simp only [whol]; grind), hw.f0⟩
  refine zw rfl rfl (bF h1) (mI rfl (zw rfl rfl (bF h1) (je rfl rfl (jF (bF h1) rfl (aB rfl (yB (ze (zo (v := .bool _) rfl rfl rfl ?_)))))))); exact fun w' hw => ⟨congrArg Value.bool (by clear hw; simp only [whol]; grind), hw.f0⟩
theorem fit_ok (v t : Nat) (w : World) :
    Ret Tryz.prog 86 #[.int .u8 (v : Nat), .int .u8 (t : Nat)] w (fun r w' => r = .bool (fitK v t) ∧ Ext w w') := by
  refine enter (S := No) (l := [_, _]) (L := []) 27 Tryz.func86 rfl rfl rfl (St.start w No) (yA (aB rfl (yC (mI rfl (je rfl rfl (mB rfl (w_gT (v := .int _ _) rfl rfl rfl (fun hc w h => R_move rfl) rfl (gTx rfl (fun hc w h => R_eq (gvl_t hc) rfl) rfl (zg (v := .bool _) (fun _ => R_pickA rfl rfl rfl) (mB rfl (w_gF (v := .int _ _) rfl rfl rfl (fun hc w h => R_move rfl) rfl (gFx rfl (fun hc w h => R_eq (gvl_t hc) rfl) rfl (gFx (v := .bool _) rfl (fun hc w h => R_move (gvl_t hc)) rfl (w_hT (v := .int _ _) rfl rfl rfl (fun hc w h => R_move rfl) rfl (w_dT rfl rfl rfl (fun hc w => runE_as (zR Tryz.func84 rfl rfl rfl) (arr1 (gvl_t hc))) rfl (fun hc w h => scalar_ok _ w) (gFx (v := .bool _) rfl (fun hc w h => R_pickA (gvl_t hc) (gvl_and hc) rfl) rfl (zg (v := .bool _) (fun _ => R_pickO rfl rfl rfl) (mB rfl (w_gF (v := .int _ _) rfl rfl rfl (fun hc w h => R_move rfl) rfl (gFx rfl (fun hc w h => R_eq (gvl_t hc) rfl) rfl (gFx (v := .bool _) rfl (fun hc w h => R_move (gvl_t hc)) rfl (w_hT (v := .int _ _) rfl rfl rfl (fun hc w h => R_move rfl) rfl (hTx rfl (fun hc w h => R_eq (gvl_t hc) rfl) rfl (gFx (v := .bool _) rfl (fun hc w h => R_pickA (gvl_t hc) (gvl_and hc) rfl) rfl (zg (v := .bool _) (fun _ => R_pickO rfl rfl rfl) (aB rfl (yB (ze (zo (v := .bool _) rfl rfl rfl ?_))))))))))))))))))))))))))))); exact fun w' hw => ⟨congrArg Value.bool (by clear hw; simp only [fitK]; grind), hw.f0⟩
theorem digitC_ok (b : UInt8) (w : World) :
    Ret Tryz.prog 100 #[.int .u8 (b.toNat : Nat)] w (fun v w' => v = .bool (!(decide (48 ≤ b.toNat) && decide (b.toNat ≤ 57))) ∧ Ext w w') := by
  refine enter (S := No) (l := [_]) (L := []) 9 Tryz.func100 rfl rfl rfl (St.start w No) (yA (aB rfl (yC (mI rfl (jl rfl rfl (mB rfl ?_)))))); refine zd (t := 5) rfl (fun h1 => ?_) (fun h1 => ?_)
  · refine zs rfl rfl (bT h1) (zs rfl rfl (bT h1) (jT (bT h1) rfl (aB rfl (yB (ze (zo (v := .bool _) rfl rfl rfl ?_)))))); exact fun w' hw => ⟨congrArg Value.bool (by clear hw; grind), hw.f0⟩
  refine zw rfl rfl (bF h1) (mI rfl (zw rfl rfl (bF h1) (jg rfl rfl (jF (bF h1) rfl (aB rfl (yB (ze (zo (v := .bool _) rfl rfl rfl ?_)))))))); exact fun w' hw => ⟨congrArg Value.bool (by clear hw; grind), hw.f0⟩
theorem idxB_ok (s : Str) (hs : s.length ≤ 10000000) (sb cap : Nat) (w : World) (hc : ∀ (j : Nat) u, s[j]? = some u → w.cell? ⟨sb, j, none⟩ = some (.int .u8 (u.toNat : Nat))) :
    Ret Tryz.prog 120 #[.slice (some ⟨sb, 0, none⟩) s.length cap, .func (.func 100) #[] #[]] w (fun v w' => v = .int .i64 (firstI (fun b : UInt8 => !(decide (48 ≤ b.toNat) && decide (b.toNat ≤ 57))) s) ∧ Ext w w') := by
  refine enter (S := No) (l := [_, _]) (L := []) 19 Tryz.func120 rfl rfl rfl (St.start w No) (yA (aI rfl (yB (zq (yA (mS rfl (jj sl115 rfl (mI rfl (yB (zB (c_loop (fun m e B L => ∃ (k : Nat), e 0 = .slice (some ⟨sb, 0, none⟩) s.length cap ∧ e 1 = .func (.func 100) #[] #[] ∧ e 7 = .int .i64 (s.length : Nat) ∧ e 8 = .int .i64 (k : Nat) ∧ B = [(w, No)] ∧ L = [] ∧ k ≤ s.length ∧ (∀ b ∈ s.take k, (!(decide (48 ≤ b.toNat) && decide (b.toNat ≤ 57))) = false) ∧ m = s.length - k) _ ⟨0, rfl, rfl, rfl, rfl, rfl, rfl, Nat.zero_le _, (by simp), rfl⟩ ?_)))))))))))
  rintro m e B L ⟨k, e0_1, e1_1, e7_1, e8_1, rfl, rfl, hk, hy, rfl⟩
  refine yA (jl e8_1 e7_1 (yB (zq ?_))); refine zD rfl (fun h1 => ?_) (fun h1 => ?_)
  · have hlt : k < s.length := (by omega); obtain ⟨x, hxk⟩ : ∃ x, s[k]? = some x := ⟨_, List.getElem?_eq_getElem hlt⟩
    refine zi (zk (zq (zB (yA (mI e8_1 (aI rfl (yC (zm e1_1 (mS e0_1 (mI rfl (zg (fun _ => R_iaN (i := k) sl115 rfl rfl (by omega)) (zl (v := .int .u8 (x.toNat : Nat)) z5 rfl (fun w h => cel_old zm0 (by rw [Nat.zero_add, Nat.mul_one]; exact hc k x hxk) (fun x => x) h) (zC (fun w => R_callv rfl Tryz.func100 rfl rfl) rfl rfl (fun w h => digitC_ok x w) (yB ?_)))))))))))))); refine c_cond rfl (fun h2 => ?_) (fun h2 => ?_)
    · refine yA (mI rfl (aI rfl (yB (ze (zb (zt (zt (zb (zt ((zo (v := .int _ _) rfl rfl rfl ?_))))))))))); exact fun w' hw => ⟨by rw [firstI_at hy hxk h2], hw.f0⟩
    refine zi (zO (zk (zr (ji e8_1 rfl (by omega) (mI rfl (zn ?_)))))); exact k_again _ (by omega) ⟨k + 1, e0_1, e1_1, e7_1, rfl, rfl, rfl, by omega, take_all hy hxk h2, rfl⟩
  refine zX (zx (zx (b_here rfl (zk (yA (aI rfl (yB (ze ?_))))))))
  obtain rfl : k = s.length := by omega
  rw [List.take_length] at hy
  refine zo (v := .int _ _) rfl rfl rfl ?_; exact fun w' hw => ⟨by rw [firstI_no hy], hw.f0⟩
theorem hasB_ok (s : Str) (hs : s.length ≤ 10000000) (sb cap : Nat) (w : World) (hc : ∀ (j : Nat) u, s[j]? = some u → w.cell? ⟨sb, j, none⟩ = some (.int .u8 (u.toNat : Nat))) :
    Ret Tryz.prog 99 #[.slice (some ⟨sb, 0, none⟩) s.length cap, .func (.func 100) #[] #[]] w (fun v w' => v = .bool (s.any fun b : UInt8 => !(decide (48 ≤ b.toNat) && decide (b.toNat ≤ 57))) ∧ Ext w w') := by
  refine enter (S := No) (l := [_, _]) (L := []) 9 Tryz.func99 rfl rfl rfl (St.start w No) (yA (aB rfl (yC (mS rfl (zm rfl (jD Tryz.func120 (fun w h => idxB_ok s hs sb cap w (fun j u hj => cel_old zm0 (hc j u hj) (fun x => x) h)) (jh rfl rfl (aB rfl (yB (ze (zo (v := .bool _) rfl rfl rfl ?_))))))))))); exact fun w' hw => ⟨by rw [← firstI_ge], hw.f0⟩
theorem dig_all (s : Str) : (s.all fun b : UInt8 => decide (48 ≤ b.toNat) && decide (b.toNat ≤ 57)) = !(s.any fun b : UInt8 => !(decide (48 ≤ b.toNat) && decide (b.toNat ≤ 57))) := by
  induction s with
  | nil => rfl
  | cons b s ih => rw [List.all_cons, List.any_cons, ih, Bool.not_or, Bool.not_not]
theorem digits_ok (s : Str) (hs : s.length ≤ 10000000) (w : World) :
    Ret Tryz.prog 61 #[str s] w (fun v w' => v = .bool (digitsK s) ∧ Ext w w') := by
  refine enter (S := No) (l := [_]) (L := []) 12 Tryz.func61 rfl rfl rfl (St.start w No) (yA (aB rfl (yC (zm (v := str _) rfl (zg (fun _ => R_slen st9 rfl (by omega)) (jm rfl rfl (mB rfl ?_))))))); refine zd (t := 6) rfl (fun h1 => ?_) (fun h1 => ?_)
  · refine zw rfl rfl (bT h1) (zm (v := str _) rfl (zw rfl rfl (bT h1) (w_convS un9 un115 un5 rfl (fun sb cap ob hcap hob => zw rfl rfl (bT h1) (jD Tryz.func99 (fun w h => hasB_ok s hs sb cap w (fun j u hj => hob w (h.at_ 0 rfl) j u hj)) (zw rfl rfl (bT h1) (jk rfl (jT (bT h1) rfl (aB rfl (yB (ze (zo (v := .bool _) rfl rfl rfl ?_)))))))))))); exact fun w' hw => ⟨by unfold digitsK; rw [dig_all, decide_eq_true (by omega), Bool.true_and], hw.f0⟩
  refine zs rfl rfl (bF h1) (zs rfl rfl (bF h1) (zs rfl rfl (bF h1) (zs rfl rfl (bF h1) (jF (bF h1) rfl (aB rfl (yB (ze (zo (v := .bool _) rfl rfl rfl ?_)))))))); exact fun w' hw => ⟨by unfold digitsK; rw [decide_eq_false (by omega)]; rfl, hw.f0⟩
theorem lookB_ok (k b : Nat) (l : List (Int × Value)) (v : Value) (w : World) (hb : w.heap[b]? = some (mpI .u8 l)) (hv : (l.lookup (k : Int)).getD (.int .u8 0) = v) :
    Ret Tryz.prog 64 #[.map (some b), .int .u8 (k : Nat)] w (fun r w' => r = v ∧ Ext w w') := by
  refine enter (S := No) (l := [_, _]) (L := []) 8 Tryz.func64 rfl rfl rfl (St.start w No) (yA (aI rfl (yC (zm rfl (mI rfl (w_lookI' (fun w h => h.old hb zm0 (fun x => x)) unm108 unk5 zr5 rfl rfl hv (za (v := v) rfl (yB (ze (zo (v := v) rfl rfl rfl ?_)))))))))); exact fun w' hw => ⟨rfl, hw.f0⟩
theorem lookT_ok (x y b : Nat) (l : List ((Nat × Nat) × Value)) (v : Value) (w : World) (hb : w.heap[b]? = some (mpP l)) (hv : (l.lookup (x, y)).getD (.int .u8 0) = v) :
    Ret Tryz.prog 103 #[.map (some b), pr x y] w (fun r w' => r = v ∧ Ext w w') := by
  refine enter (S := No) (l := [_, _]) (L := []) 8 Tryz.func103 rfl rfl rfl (St.start w No) (yA (w_boxA rfl (fun tb gtb utb => aI rfl (yC (zm rfl (jy 0 z104 rfl rfl (w_lookP (s := (x, y)) (fun w h => h.old hb zm0 (fun x => x)) unm136 ky104 zr5 rfl rfl hv (za (v := v) rfl (yB (ze (zo (v := v) rfl rfl rfl ?_))))))))))); exact fun w' hw => ⟨rfl, hw.f0⟩
theorem realK_l102030 (a b : Nat) : (([((1, 0), .int .u8 2), ((2, 0), .int .u8 2), ((3, 0), .int .u8 3)] : List ((Nat × Nat) × Value)).lookup (a, b)).getD (.int .u8 0) = .int .u8 (realK a b : Nat) := by
  by_cases h0 : (a, b) = (1, 0)
  · cases h0; rfl
  by_cases h1 : (a, b) = (2, 0)
  · cases h1; rfl
  by_cases h2 : (a, b) = (3, 0)
  · cases h2; rfl
  have q : ∀ k : Nat × Nat, ¬ (a, b) = k → ((a, b) == k) = false := fun k h => by simpa using h
  have e : realK a b = 0 := by clear q; simp only [Prod.mk.injEq] at *; unfold realK; grind
  rw [e]; simp only [List.lookup, q _ h0, q _ h1, q _ h2]; rfl
theorem realK_l103020 (a b : Nat) : (([((1, 0), .int .u8 2), ((3, 0), .int .u8 3), ((2, 0), .int .u8 2)] : List ((Nat × Nat) × Value)).lookup (a, b)).getD (.int .u8 0) = .int .u8 (realK a b : Nat) := by
  by_cases h0 : (a, b) = (1, 0)
  · cases h0; rfl
  by_cases h1 : (a, b) = (3, 0)
  · cases h1; rfl
  by_cases h2 : (a, b) = (2, 0)
  · cases h2; rfl
  have q : ∀ k : Nat × Nat, ¬ (a, b) = k → ((a, b) == k) = false := fun k h => by simpa using h
  have e : realK a b = 0 := by clear q; simp only [Prod.mk.injEq] at *; unfold realK; grind
  rw [e]; simp only [List.lookup, q _ h0, q _ h1, q _ h2]; rfl
theorem realK_l201030 (a b : Nat) : (([((2, 0), .int .u8 2), ((1, 0), .int .u8 2), ((3, 0), .int .u8 3)] : List ((Nat × Nat) × Value)).lookup (a, b)).getD (.int .u8 0) = .int .u8 (realK a b : Nat) := by
  by_cases h0 : (a, b) = (2, 0)
  · cases h0; rfl
  by_cases h1 : (a, b) = (1, 0)
  · cases h1; rfl
  by_cases h2 : (a, b) = (3, 0)
  · cases h2; rfl
  have q : ∀ k : Nat × Nat, ¬ (a, b) = k → ((a, b) == k) = false := fun k h => by simpa using h
  have e : realK a b = 0 := by clear q; simp only [Prod.mk.injEq] at *; unfold realK; grind
  rw [e]; simp only [List.lookup, q _ h0, q _ h1, q _ h2]; rfl
theorem realK_l203010 (a b : Nat) : (([((2, 0), .int .u8 2), ((3, 0), .int .u8 3), ((1, 0), .int .u8 2)] : List ((Nat × Nat) × Value)).lookup (a, b)).getD (.int .u8 0) = .int .u8 (realK a b : Nat) := by
  by_cases h0 : (a, b) = (2, 0)
  · cases h0; rfl
  by_cases h1 : (a, b) = (3, 0)
  · cases h1; rfl
  by_cases h2 : (a, b) = (1, 0)
  · cases h2; rfl
  have q : ∀ k : Nat × Nat, ¬ (a, b) = k → ((a, b) == k) = false := fun k h => by simpa using h
  have e : realK a b = 0 := by clear q; simp only [Prod.mk.injEq] at *; unfold realK; grind
  rw [e]; simp only [List.lookup, q _ h0, q _ h1, q _ h2]; rfl
theorem realK_l301020 (a b : Nat) : (([((3, 0), .int .u8 3), ((1, 0), .int .u8 2), ((2, 0), .int .u8 2)] : List ((Nat × Nat) × Value)).lookup (a, b)).getD (.int .u8 0) = .int .u8 (realK a b : Nat) := by
  by_cases h0 : (a, b) = (3, 0)
  · cases h0; rfl
  by_cases h1 : (a, b) = (1, 0)
  · cases h1; rfl
  by_cases h2 : (a, b) = (2, 0)
  · cases h2; rfl
  have q : ∀ k : Nat × Nat, ¬ (a, b) = k → ((a, b) == k) = false := fun k h => by simpa using h
  have e : realK a b = 0 := by clear q; simp only [Prod.mk.injEq] at *; unfold realK; grind
  rw [e]; simp only [List.lookup, q _ h0, q _ h1, q _ h2]; rfl
theorem realK_l302010 (a b : Nat) : (([((3, 0), .int .u8 3), ((2, 0), .int .u8 2), ((1, 0), .int .u8 2)] : List ((Nat × Nat) × Value)).lookup (a, b)).getD (.int .u8 0) = .int .u8 (realK a b : Nat) := by
  by_cases h0 : (a, b) = (3, 0)
  · cases h0; rfl
  by_cases h1 : (a, b) = (2, 0)
  · cases h1; rfl
  by_cases h2 : (a, b) = (1, 0)
  · cases h2; rfl
  have q : ∀ k : Nat × Nat, ¬ (a, b) = k → ((a, b) == k) = false := fun k h => by simpa using h
  have e : realK a b = 0 := by clear q; simp only [Prod.mk.injEq] at *; unfold realK; grind
  rw [e]; simp only [List.lookup, q _ h0, q _ h1, q _ h2]; rfl
theorem sumK_l403050 (a b : Nat) : (([((4, 0), .int .u8 1), ((3, 0), .int .u8 2), ((5, 0), .int .u8 2)] : List ((Nat × Nat) × Value)).lookup (a, b)).getD (.int .u8 0) = .int .u8 (sumK a b : Nat) := by
  by_cases h0 : (a, b) = (4, 0)
  · cases h0; rfl
  by_cases h1 : (a, b) = (3, 0)
  · cases h1; rfl
  by_cases h2 : (a, b) = (5, 0)
  · cases h2; rfl
  have q : ∀ k : Nat × Nat, ¬ (a, b) = k → ((a, b) == k) = false := fun k h => by simpa using h
  have e : sumK a b = 0 := by clear q; simp only [Prod.mk.injEq] at *; unfold sumK; grind
  rw [e]; simp only [List.lookup, q _ h0, q _ h1, q _ h2]; rfl
theorem sumK_l405030 (a b : Nat) : (([((4, 0), .int .u8 1), ((5, 0), .int .u8 2), ((3, 0), .int .u8 2)] : List ((Nat × Nat) × Value)).lookup (a, b)).getD (.int .u8 0) = .int .u8 (sumK a b : Nat) := by
  by_cases h0 : (a, b) = (4, 0)
  · cases h0; rfl
  by_cases h1 : (a, b) = (5, 0)
  · cases h1; rfl
  by_cases h2 : (a, b) = (3, 0)
  · cases h2; rfl
  have q : ∀ k : Nat × Nat, ¬ (a, b) = k → ((a, b) == k) = false := fun k h => by simpa using h
  have e : sumK a b = 0 := by clear q; simp only [Prod.mk.injEq] at *; unfold sumK; grind
  rw [e]; simp only [List.lookup, q _ h0, q _ h1, q _ h2]; rfl
theorem sumK_l304050 (a b : Nat) : (([((3, 0), .int .u8 2), ((4, 0), .int .u8 1), ((5, 0), .int .u8 2)] : List ((Nat × Nat) × Value)).lookup (a, b)).getD (.int .u8 0) = .int .u8 (sumK a b : Nat) := by
  by_cases h0 : (a, b) = (3, 0)
  · cases h0; rfl
  by_cases h1 : (a, b) = (4, 0)
  · cases h1; rfl
  by_cases h2 : (a, b) = (5, 0)
  · cases h2; rfl
  have q : ∀ k : Nat × Nat, ¬ (a, b) = k → ((a, b) == k) = false := fun k h => by simpa using h
  have e : sumK a b = 0 := by clear q; simp only [Prod.mk.injEq] at *; unfold sumK; grind
  rw [e]; simp only [List.lookup, q _ h0, q _ h1, q _ h2]; rfl
theorem sumK_l305040 (a b : Nat) : (([((3, 0), .int .u8 2), ((5, 0), .int .u8 2), ((4, 0), .int .u8 1)] : List ((Nat × Nat) × Value)).lookup (a, b)).getD (.int .u8 0) = .int .u8 (sumK a b : Nat) := by
  by_cases h0 : (a, b) = (3, 0)
  · cases h0; rfl
  by_cases h1 : (a, b) = (5, 0)
  · cases h1; rfl
  by_cases h2 : (a, b) = (4, 0)
  · cases h2; rfl
  have q : ∀ k : Nat × Nat, ¬ (a, b) = k → ((a, b) == k) = false := fun k h => by simpa using h
  have e : sumK a b = 0 := by clear q; simp only [Prod.mk.injEq] at *; unfold sumK; grind
  rw [e]; simp only [List.lookup, q _ h0, q _ h1, q _ h2]; rfl
theorem sumK_l504030 (a b : Nat) : (([((5, 0), .int .u8 2), ((4, 0), .int .u8 1), ((3, 0), .int .u8 2)] : List ((Nat × Nat) × Value)).lookup (a, b)).getD (.int .u8 0) = .int .u8 (sumK a b : Nat) := by
  by_cases h0 : (a, b) = (5, 0)
  · cases h0; rfl
  by_cases h1 : (a, b) = (4, 0)
  · cases h1; rfl
  by_cases h2 : (a, b) = (3, 0)
  · cases h2; rfl
  have q : ∀ k : Nat × Nat, ¬ (a, b) = k → ((a, b) == k) = false := fun k h => by simpa using h
  have e : sumK a b = 0 := by clear q; simp only [Prod.mk.injEq] at *; unfold sumK; grind
  rw [e]; simp only [List.lookup, q _ h0, q _ h1, q _ h2]; rfl
theorem sumK_l503040 (a b : Nat) : (([((5, 0), .int .u8 2), ((3, 0), .int .u8 2), ((4, 0), .int .u8 1)] : List ((Nat × Nat) × Value)).lookup (a, b)).getD (.int .u8 0) = .int .u8 (sumK a b : Nat) := by
  by_cases h0 : (a, b) = (5, 0)
  · cases h0; rfl
  by_cases h1 : (a, b) = (3, 0)
  · cases h1; rfl
  by_cases h2 : (a, b) = (4, 0)
  · cases h2; rfl
  have q : ∀ k : Nat × Nat, ¬ (a, b) = k → ((a, b) == k) = false := fun k h => by simpa using h
  have e : sumK a b = 0 := by clear q; simp only [Prod.mk.injEq] at *; unfold sumK; grind
  rw [e]; simp only [List.lookup, q _ h0, q _ h1, q _ h2]; rfl
theorem dotK_l33 (a b : Nat) : (([((3, 3), .int .u8 2)] : List ((Nat × Nat) × Value)).lookup (a, b)).getD (.int .u8 0) = .int .u8 (dotK a b : Nat) := by
  by_cases h0 : (a, b) = (3, 3)
  · cases h0; rfl
  have q : ∀ k : Nat × Nat, ¬ (a, b) = k → ((a, b) == k) = false := fun k h => by simpa using h
  have e : dotK a b = 0 := by clear q; simp only [Prod.mk.injEq] at *; unfold dotK; grind
  rw [e]; simp only [List.lookup, q _ h0]; rfl
theorem sizeK_l403050 (a b : Nat) : (([((4, 0), .int .u8 1), ((3, 0), .int .u8 1), ((5, 0), .int .u8 1)] : List ((Nat × Nat) × Value)).lookup (a, b)).getD (.int .u8 0) = .int .u8 (sizeK a b : Nat) := by
  by_cases h0 : (a, b) = (4, 0)
  · cases h0; rfl
  by_cases h1 : (a, b) = (3, 0)
  · cases h1; rfl
  by_cases h2 : (a, b) = (5, 0)
  · cases h2; rfl
  have q : ∀ k : Nat × Nat, ¬ (a, b) = k → ((a, b) == k) = false := fun k h => by simpa using h
  have e : sizeK a b = 0 := by clear q; simp only [Prod.mk.injEq] at *; unfold sizeK; grind
  rw [e]; simp only [List.lookup, q _ h0, q _ h1, q _ h2]; rfl
theorem sizeK_l405030 (a b : Nat) : (([((4, 0), .int .u8 1), ((5, 0), .int .u8 1), ((3, 0), .int .u8 1)] : List ((Nat × Nat) × Value)).lookup (a, b)).getD (.int .u8 0) = .int .u8 (sizeK a b : Nat) := by
  by_cases h0 : (a, b) = (4, 0)
  · cases h0; rfl
  by_cases h1 : (a, b) = (5, 0)
  · cases h1; rfl
  by_cases h2 : (a, b) = (3, 0)
  · cases h2; rfl
  have q : ∀ k : Nat × Nat, ¬ (a, b) = k → ((a, b) == k) = false := fun k h => by simpa using h
  have e : sizeK a b = 0 := by clear q; simp only [Prod.mk.injEq] at *; unfold sizeK; grind
  rw [e]; simp only [List.lookup, q _ h0, q _ h1, q _ h2]; rfl
theorem sizeK_l304050 (a b : Nat) : (([((3, 0), .int .u8 1), ((4, 0), .int .u8 1), ((5, 0), .int .u8 1)] : List ((Nat × Nat) × Value)).lookup (a, b)).getD (.int .u8 0) = .int .u8 (sizeK a b : Nat) := by
  by_cases h0 : (a, b) = (3, 0)
  · cases h0; rfl
  by_cases h1 : (a, b) = (4, 0)
  · cases h1; rfl
  by_cases h2 : (a, b) = (5, 0)
  · cases h2; rfl
  have q : ∀ k : Nat × Nat, ¬ (a, b) = k → ((a, b) == k) = false := fun k h => by simpa using h
  have e : sizeK a b = 0 := by clear q; simp only [Prod.mk.injEq] at *; unfold sizeK; grind
  rw [e]; simp only [List.lookup, q _ h0, q _ h1, q _ h2]; rfl
theorem sizeK_l305040 (a b : Nat) : (([((3, 0), .int .u8 1), ((5, 0), .int .u8 1), ((4, 0), .int .u8 1)] : List ((Nat × Nat) × Value)).lookup (a, b)).getD (.int .u8 0) = .int .u8 (sizeK a b : Nat) := by
  by_cases h0 : (a, b) = (3, 0)
  · cases h0; rfl
  by_cases h1 : (a, b) = (5, 0)
  · cases h1; rfl
  by_cases h2 : (a, b) = (4, 0)
  · cases h2; rfl
  have q : ∀ k : Nat × Nat, ¬ (a, b) = k → ((a, b) == k) = false := fun k h => by simpa using h
  have e : sizeK a b = 0 := by clear q; simp only [Prod.mk.injEq] at *; unfold sizeK; grind
  rw [e]; simp only [List.lookup, q _ h0, q _ h1, q _ h2]; rfl
theorem sizeK_l504030 (a b : Nat) : (([((5, 0), .int .u8 1), ((4, 0), .int .u8 1), ((3, 0), .int .u8 1)] : List ((Nat × Nat) × Value)).lookup (a, b)).getD (.int .u8 0) = .int .u8 (sizeK a b : Nat) := by
  by_cases h0 : (a, b) = (5, 0)
  · cases h0; rfl
  by_cases h1 : (a, b) = (4, 0)
  · cases h1; rfl
  by_cases h2 : (a, b) = (3, 0)
  · cases h2; rfl
  have q : ∀ k : Nat × Nat, ¬ (a, b) = k → ((a, b) == k) = false := fun k h => by simpa using h
  have e : sizeK a b = 0 := by clear q; simp only [Prod.mk.injEq] at *; unfold sizeK; grind
  rw [e]; simp only [List.lookup, q _ h0, q _ h1, q _ h2]; rfl
theorem sizeK_l503040 (a b : Nat) : (([((5, 0), .int .u8 1), ((3, 0), .int .u8 1), ((4, 0), .int .u8 1)] : List ((Nat × Nat) × Value)).lookup (a, b)).getD (.int .u8 0) = .int .u8 (sizeK a b : Nat) := by
  by_cases h0 : (a, b) = (5, 0)
  · cases h0; rfl
  by_cases h1 : (a, b) = (3, 0)
  · cases h1; rfl
  by_cases h2 : (a, b) = (4, 0)
  · cases h2; rfl
  have q : ∀ k : Nat × Nat, ¬ (a, b) = k → ((a, b) == k) = false := fun k h => by simpa using h
  have e : sizeK a b = 0 := by clear q; simp only [Prod.mk.injEq] at *; unfold sizeK; grind
  rw [e]; simp only [List.lookup, q _ h0, q _ h1, q _ h2]; rfl
theorem vecK_l33 (a b : Nat) : (([((3, 3), .int .u8 3)] : List ((Nat × Nat) × Value)).lookup (a, b)).getD (.int .u8 0) = .int .u8 (vecK a b : Nat) := by
  by_cases h0 : (a, b) = (3, 3)
  · cases h0; rfl
  have q : ∀ k : Nat × Nat, ¬ (a, b) = k → ((a, b) == k) = false := fun k h => by simpa using h
  have e : vecK a b = 0 := by clear q; simp only [Prod.mk.injEq] at *; unfold vecK; grind
  rw [e]; simp only [List.lookup, q _ h0]; rfl
theorem real_ok (a b : Nat) (w : World) :
    Ret Tryz.prog 102 #[pr a b] w (fun v w' => v = .int .u8 (realK a b : Nat) ∧ Ext w w') := by
  refine enter (S := No) (l := [_]) (L := []) 10 Tryz.func102 rfl rfl rfl (St.start w No) (yA (w_boxA rfl (fun tb gtb utb => aI rfl (yB (zq (c_heldS mixed (zh2 1 rfl rfl (fun w h => h) (fun w h => R_buildA ar104 zr104 rfl) (zh2 3 rfl rfl (fun w h => h) (fun w h => R_buildA ar104 zr104 rfl) (zh2 5 rfl rfl (fun w h => h) (fun w h => R_buildA ar104 zr104 rfl) (h_loadA 8 rfl (by kernel_rfl) (fun w h => h) z104 rfl (fun _ h => h.at_ 0 rfl) rfl (zH2 0 (fun w h => h) (o_makeMapP rfl (fun mb gmb umb => ?_)))))))))))))
  refine h_three 2 4 6 (by kernel_rfl) (fun w h => h.d1) ?_ ?_ ?_
  · refine o_insP 0 (s := (1, 0)) (v := .int .u8 2) rfl rfl unm136 ky104 rfl rfl rfl rfl ?_; refine h_two 4 6 (by kernel_rfl) (fun w h => h.d1) ?_ ?_
    · refine o_insP 0 (s := (2, 0)) (v := .int .u8 2) rfl rfl unm136 ky104 rfl rfl rfl rfl (zH2 6 (fun w h => h.d1) (o_insP 0 (s := (3, 0)) (v := .int .u8 3) rfl rfl unm136 ky104 rfl rfl rfl rfl (zh2 7 rfl rfl (fun w h => h.d1) (fun w h => R_move rfl) (zH2 9 (fun w h => h.d1) (o_pureW rfl (wn_none rfl) rfl (fun w => zR Tryz.func103 rfl rfl rfl) (fun w h => lookT_ok a b mb [((1, 0), .int .u8 2), ((2, 0), .int .u8 2), ((3, 0), .int .u8 3)] (.int .u8 (realK a b : Nat)) w (h.at_ 0 rfl) (realK_l102030 a b)) (zh (v := .int _ _) 10 rfl (by kernel_rfl) rfl rfl (fun w h => h.d1) (fun w h => R_assign rfl) (zN2 (fun w h => h.d1) (zk (ze (zo (v := .int _ _) rfl rfl rfl ?_)))))))))); exact fun w' hw => ⟨rfl, hw.f0⟩
    refine o_insP 0 (s := (3, 0)) (v := .int .u8 3) rfl rfl unm136 ky104 rfl rfl rfl rfl (zH2 4 (fun w h => h.d1) (o_insP 0 (s := (2, 0)) (v := .int .u8 2) rfl rfl unm136 ky104 rfl rfl rfl rfl (zh2 7 rfl rfl (fun w h => h.d1) (fun w h => R_move rfl) (zH2 9 (fun w h => h.d1) (o_pureW rfl (wn_none rfl) rfl (fun w => zR Tryz.func103 rfl rfl rfl) (fun w h => lookT_ok a b mb [((1, 0), .int .u8 2), ((3, 0), .int .u8 3), ((2, 0), .int .u8 2)] (.int .u8 (realK a b : Nat)) w (h.at_ 0 rfl) (realK_l103020 a b)) (zh (v := .int _ _) 10 rfl (by kernel_rfl) rfl rfl (fun w h => h.d1) (fun w h => R_assign rfl) (zN2 (fun w h => h.d1) (zk (ze (zo (v := .int _ _) rfl rfl rfl ?_)))))))))); exact fun w' hw => ⟨rfl, hw.f0⟩
  · refine o_insP 0 (s := (2, 0)) (v := .int .u8 2) rfl rfl unm136 ky104 rfl rfl rfl rfl ?_; refine h_two 2 6 (by kernel_rfl) (fun w h => h.d1) ?_ ?_
    · refine o_insP 0 (s := (1, 0)) (v := .int .u8 2) rfl rfl unm136 ky104 rfl rfl rfl rfl (zH2 6 (fun w h => h.d1) (o_insP 0 (s := (3, 0)) (v := .int .u8 3) rfl rfl unm136 ky104 rfl rfl rfl rfl (zh2 7 rfl rfl (fun w h => h.d1) (fun w h => R_move rfl) (zH2 9 (fun w h => h.d1) (o_pureW rfl (wn_none rfl) rfl (fun w => zR Tryz.func103 rfl rfl rfl) (fun w h => lookT_ok a b mb [((2, 0), .int .u8 2), ((1, 0), .int .u8 2), ((3, 0), .int .u8 3)] (.int .u8 (realK a b : Nat)) w (h.at_ 0 rfl) (realK_l201030 a b)) (zh (v := .int _ _) 10 rfl (by kernel_rfl) rfl rfl (fun w h => h.d1) (fun w h => R_assign rfl) (zN2 (fun w h => h.d1) (zk (ze (zo (v := .int _ _) rfl rfl rfl ?_)))))))))); exact fun w' hw => ⟨rfl, hw.f0⟩
    refine o_insP 0 (s := (3, 0)) (v := .int .u8 3) rfl rfl unm136 ky104 rfl rfl rfl rfl (zH2 2 (fun w h => h.d1) (o_insP 0 (s := (1, 0)) (v := .int .u8 2) rfl rfl unm136 ky104 rfl rfl rfl rfl (zh2 7 rfl rfl (fun w h => h.d1) (fun w h => R_move rfl) (zH2 9 (fun w h => h.d1) (o_pureW rfl (wn_none rfl) rfl (fun w => zR Tryz.func103 rfl rfl rfl) (fun w h => lookT_ok a b mb [((2, 0), .int .u8 2), ((3, 0), .int .u8 3), ((1, 0), .int .u8 2)] (.int .u8 (realK a b : Nat)) w (h.at_ 0 rfl) (realK_l203010 a b)) (zh (v := .int _ _) 10 rfl (by kernel_rfl) rfl rfl (fun w h => h.d1) (fun w h => R_assign rfl) (zN2 (fun w h => h.d1) (zk (ze (zo (v := .int _ _) rfl rfl rfl ?_)))))))))); exact fun w' hw => ⟨rfl, hw.f0⟩
  refine o_insP 0 (s := (3, 0)) (v := .int .u8 3) rfl rfl unm136 ky104 rfl rfl rfl rfl ?_; refine h_two 2 4 (by kernel_rfl) (fun w h => h.d1) ?_ ?_
  · refine o_insP 0 (s := (1, 0)) (v := .int .u8 2) rfl rfl unm136 ky104 rfl rfl rfl rfl (zH2 4 (fun w h => h.d1) (o_insP 0 (s := (2, 0)) (v := .int .u8 2) rfl rfl unm136 ky104 rfl rfl rfl rfl (zh2 7 rfl rfl (fun w h => h.d1) (fun w h => R_move rfl) (zH2 9 (fun w h => h.d1) (o_pureW rfl (wn_none rfl) rfl (fun w => zR Tryz.func103 rfl rfl rfl) (fun w h => lookT_ok a b mb [((3, 0), .int .u8 3), ((1, 0), .int .u8 2), ((2, 0), .int .u8 2)] (.int .u8 (realK a b : Nat)) w (h.at_ 0 rfl) (realK_l301020 a b)) (zh (v := .int _ _) 10 rfl (by kernel_rfl) rfl rfl (fun w h => h.d1) (fun w h => R_assign rfl) (zN2 (fun w h => h.d1) (zk (ze (zo (v := .int _ _) rfl rfl rfl ?_)))))))))); exact fun w' hw => ⟨rfl, hw.f0⟩
  refine o_insP 0 (s := (2, 0)) (v := .int .u8 2) rfl rfl unm136 ky104 rfl rfl rfl rfl (zH2 2 (fun w h => h.d1) (o_insP 0 (s := (1, 0)) (v := .int .u8 2) rfl rfl unm136 ky104 rfl rfl rfl rfl (zh2 7 rfl rfl (fun w h => h.d1) (fun w h => R_move rfl) (zH2 9 (fun w h => h.d1) (o_pureW rfl (wn_none rfl) rfl (fun w => zR Tryz.func103 rfl rfl rfl) (fun w h => lookT_ok a b mb [((3, 0), .int .u8 3), ((2, 0), .int .u8 2), ((1, 0), .int .u8 2)] (.int .u8 (realK a b : Nat)) w (h.at_ 0 rfl) (realK_l302010 a b)) (zh (v := .int _ _) 10 rfl (by kernel_rfl) rfl rfl (fun w h => h.d1) (fun w h => R_assign rfl) (zN2 (fun w h => h.d1) (zk (ze (zo (v := .int _ _) rfl rfl rfl ?_)))))))))); exact fun w' hw => ⟨rfl, hw.f0⟩
def callV (o : Option Nat) : Value := .tuple #[.int .u8 (o.getD 0 : Nat), .bool o.isSome]
theorem call_real {nm : Str} {a b : Nat} (h : nm ∈ ([[101, 120, 112], [108, 111, 103], [115, 113, 114, 116], [115, 113, 117, 97, 114, 101], [105, 110, 118, 95, 108, 111, 103, 105, 116]] : List Str)) : callK nm a b = some (realK a b) := by unfold callK; rw [if_pos h]; rfl
theorem call_sum (a b : Nat) : callK [115, 117, 109] a b = some (sumK a b) := by unfold callK; rw [if_neg (by decide), if_pos rfl]; rfl
theorem call_dot (a b : Nat) : callK [100, 111, 116] a b = some (dotK a b) := by unfold callK; rw [if_neg (by decide), if_neg (by decide), if_pos rfl]; rfl
theorem call_size (a b : Nat) : callK [115, 105, 122, 101] a b = some (sizeK a b) := by unfold callK; rw [if_neg (by decide), if_neg (by decide), if_neg (by decide), if_pos rfl]; rfl
theorem call_none {nm : Str} {a b : Nat} (h1 : ¬ nm ∈ ([[101, 120, 112], [108, 111, 103], [115, 113, 114, 116], [115, 113, 117, 97, 114, 101], [105, 110, 118, 95, 108, 111, 103, 105, 116]] : List Str)) (h2 : ¬ nm = [115, 117, 109]) (h3 : ¬ nm = [100, 111, 116]) (h4 : ¬ nm = [115, 105, 122, 101]) : callK nm a b = none := by unfold callK; rw [if_neg h1, if_neg h2, if_neg h3, if_neg h4]
theorem calls_ok (nm : Str) (a b : Nat) (w : World) :
    Ret Tryz.prog 67 #[str nm, pr a b] w (fun v w' => v = callV (callK nm a b) ∧ Ext w w') := by
  refine enter (S := No) (l := [_, _]) (L := []) 40 Tryz.func67 rfl rfl rfl (St.start w No) (yA (w_boxA rfl (fun tb gtb utb => aI rfl (aB rfl (yB (zq (yA (zm (v := str _) rfl (yB (zB (zq (yA (js rfl rfl (aB rfl (yB ?_))))))))))))))); refine zD rfl (fun h2 => ?_) (fun h2 => ?_)
  · refine zi (zk (zE (bT h2) (yA (jy 0 z104 rfl rfl (jD Tryz.func102 (fun w h => real_ok a b w) (aI rfl (aB rfl (yB (ze (zb (zt ((r_two (v := .int _ _) (v2 := .bool _) rfl rfl rfl rfl rfl ?_))))))))))))); exact fun w' hw => ⟨by (rw [call_real (by clear hw; simp only [List.mem_cons, List.not_mem_nil, or_false]; grind)]; rfl), hw.f0⟩
  refine yA (js rfl rfl (aB rfl (yB ?_))); refine zD rfl (fun h3 => ?_) (fun h3 => ?_)
  · refine zi (zk (zE (bT h3) (yA (jy 0 z104 rfl rfl (jD Tryz.func102 (fun w h => real_ok a b w) (aI rfl (aB rfl (yB (ze (zb (zt ((r_two (v := .int _ _) (v2 := .bool _) rfl rfl rfl rfl rfl ?_))))))))))))); exact fun w' hw => ⟨by (rw [call_real (by clear hw; simp only [List.mem_cons, List.not_mem_nil, or_false]; grind)]; rfl), hw.f0⟩
  refine yA (js rfl rfl (aB rfl (yB ?_))); refine zD rfl (fun h4 => ?_) (fun h4 => ?_)
  · refine zi (zk (zE (bT h4) (yA (jy 0 z104 rfl rfl (jD Tryz.func102 (fun w h => real_ok a b w) (aI rfl (aB rfl (yB (ze (zb (zt ((r_two (v := .int _ _) (v2 := .bool _) rfl rfl rfl rfl rfl ?_))))))))))))); exact fun w' hw => ⟨by (rw [call_real (by clear hw; simp only [List.mem_cons, List.not_mem_nil, or_false]; grind)]; rfl), hw.f0⟩
  refine yA (js rfl rfl (aB rfl (yB ?_))); refine zD rfl (fun h5 => ?_) (fun h5 => ?_)
  · refine zi (zk (zE (bT h5) (yA (jy 0 z104 rfl rfl (jD Tryz.func102 (fun w h => real_ok a b w) (aI rfl (aB rfl (yB (ze (zb (zt ((r_two (v := .int _ _) (v2 := .bool _) rfl rfl rfl rfl rfl ?_))))))))))))); exact fun w' hw => ⟨by (rw [call_real (by clear hw; simp only [List.mem_cons, List.not_mem_nil, or_false]; grind)]; rfl), hw.f0⟩
  refine zr (js rfl rfl (aB rfl (yB ?_))); refine zD rfl (fun h6 => ?_) (fun h6 => ?_)
  · refine yA (jy 0 z104 rfl rfl (jD Tryz.func102 (fun w h => real_ok a b w) (aI rfl (aB rfl (yB (ze (zb (zt ((r_two (v := .int _ _) (v2 := .bool _) rfl rfl rfl rfl rfl ?_)))))))))); exact fun w' hw => ⟨by (rw [call_real (by clear hw; simp only [List.mem_cons, List.not_mem_nil, or_false]; grind)]; rfl), hw.f0⟩
  refine yA (js rfl rfl (aB rfl (yB ?_))); refine zD rfl (fun h7 => ?_) (fun h7 => ?_)
  · refine zq (c_heldS mixed (zh2 1 rfl rfl (fun w h => h) (fun w h => R_buildA ar104 zr104 rfl) (zh2 3 rfl rfl (fun w h => h) (fun w h => R_buildA ar104 zr104 rfl) (zh2 5 rfl rfl (fun w h => h) (fun w h => R_buildA ar104 zr104 rfl) (h_loadA 8 rfl (by kernel_rfl) (fun w h => h) z104 rfl (fun _ h => h.at_ 0 rfl) rfl (zH2 0 (fun w h => h) (o_makeMapP rfl (fun mb gmb umb => ?_))))))))
    refine h_three 2 4 6 (by kernel_rfl) (fun w h => h.d1) ?_ ?_ ?_
    · refine o_insP 0 (s := (4, 0)) (v := .int .u8 1) rfl rfl unm136 ky104 rfl rfl rfl rfl ?_; refine h_two 4 6 (by kernel_rfl) (fun w h => h.d1) ?_ ?_
      · refine o_insP 0 (s := (3, 0)) (v := .int .u8 2) rfl rfl unm136 ky104 rfl rfl rfl rfl (zH2 6 (fun w h => h.d1) (o_insP 0 (s := (5, 0)) (v := .int .u8 2) rfl rfl unm136 ky104 rfl rfl rfl rfl (zh2 7 rfl rfl (fun w h => h.d1) (fun w h => R_move rfl) (zH2 9 (fun w h => h.d1) (o_pureW rfl (wn_none rfl) rfl (fun w => zR Tryz.func103 rfl rfl rfl) (fun w h => lookT_ok a b mb [((4, 0), .int .u8 1), ((3, 0), .int .u8 2), ((5, 0), .int .u8 2)] (.int .u8 (sumK a b : Nat)) w (h.at_ 0 rfl) (sumK_l403050 a b)) (zh (v := .int _ _) 10 rfl (by kernel_rfl) rfl rfl (fun w h => h.d1) (fun w h => R_assign rfl) (zh (v := .bool _) 11 rfl (by kernel_rfl) rfl rfl (fun w h => h.d1) (fun w h => R_assign rfl) (zN2 (fun w h => h.d1) (zk (ze (zb (zt ((r_two (v := .int _ _) (v2 := .bool _) rfl rfl rfl rfl rfl ?_)))))))))))))); exact fun w' hw => ⟨by (subst_vars; (rw [call_sum]; rfl)), hw.f0⟩
      refine o_insP 0 (s := (5, 0)) (v := .int .u8 2) rfl rfl unm136 ky104 rfl rfl rfl rfl (zH2 4 (fun w h => h.d1) (o_insP 0 (s := (3, 0)) (v := .int .u8 2) rfl rfl unm136 ky104 rfl rfl rfl rfl (zh2 7 rfl rfl (fun w h => h.d1) (fun w h => R_move rfl) (zH2 9 (fun w h => h.d1) (o_pureW rfl (wn_none rfl) rfl (fun w => zR Tryz.func103 rfl rfl rfl) (fun w h => lookT_ok a b mb [((4, 0), .int .u8 1), ((5, 0), .int .u8 2), ((3, 0), .int .u8 2)] (.int .u8 (sumK a b : Nat)) w (h.at_ 0 rfl) (sumK_l405030 a b)) (zh (v := .int _ _) 10 rfl (by kernel_rfl) rfl rfl (fun w h => h.d1) (fun w h => R_assign rfl) (zh (v := .bool _) 11 rfl (by kernel_rfl) rfl rfl (fun w h => h.d1) (fun w h => R_assign rfl) (zN2 (fun w h => h.d1) (zk (ze (zb (zt ((r_two (v := .int _ _) (v2 := .bool _) rfl rfl rfl rfl rfl ?_)))))))))))))); exact fun w' hw => ⟨by (subst_vars; (rw [call_sum]; rfl)), hw.f0⟩
    · refine o_insP 0 (s := (3, 0)) (v := .int .u8 2) rfl rfl unm136 ky104 rfl rfl rfl rfl ?_; refine h_two 2 6 (by kernel_rfl) (fun w h => h.d1) ?_ ?_
      · refine o_insP 0 (s := (4, 0)) (v := .int .u8 1) rfl rfl unm136 ky104 rfl rfl rfl rfl (zH2 6 (fun w h => h.d1) (o_insP 0 (s := (5, 0)) (v := .int .u8 2) rfl rfl unm136 ky104 rfl rfl rfl rfl (zh2 7 rfl rfl (fun w h => h.d1) (fun w h => R_move rfl) (zH2 9 (fun w h => h.d1) (o_pureW rfl (wn_none rfl) rfl (fun w => zR Tryz.func103 rfl rfl rfl) (fun w h => lookT_ok a b mb [((3, 0), .int .u8 2), ((4, 0), .int .u8 1), ((5, 0), .int .u8 2)] (.int .u8 (sumK a b : Nat)) w (h.at_ 0 rfl) (sumK_l304050 a b)) (zh (v := .int _ _) 10 rfl (by kernel_rfl) rfl rfl (fun w h => h.d1) (fun w h => R_assign rfl) (zh (v := .bool _) 11 rfl (by kernel_rfl) rfl rfl (fun w h => h.d1) (fun w h => R_assign rfl) (zN2 (fun w h => h.d1) (zk (ze (zb (zt ((r_two (v := .int _ _) (v2 := .bool _) rfl rfl rfl rfl rfl ?_)))))))))))))); exact fun w' hw => ⟨by (subst_vars; (rw [call_sum]; rfl)), hw.f0⟩
      refine o_insP 0 (s := (5, 0)) (v := .int .u8 2) rfl rfl unm136 ky104 rfl rfl rfl rfl (zH2 2 (fun w h => h.d1) (o_insP 0 (s := (4, 0)) (v := .int .u8 1) rfl rfl unm136 ky104 rfl rfl rfl rfl (zh2 7 rfl rfl (fun w h => h.d1) (fun w h => R_move rfl) (zH2 9 (fun w h => h.d1) (o_pureW rfl (wn_none rfl) rfl (fun w => zR Tryz.func103 rfl rfl rfl) (fun w h => lookT_ok a b mb [((3, 0), .int .u8 2), ((5, 0), .int .u8 2), ((4, 0), .int .u8 1)] (.int .u8 (sumK a b : Nat)) w (h.at_ 0 rfl) (sumK_l305040 a b)) (zh (v := .int _ _) 10 rfl (by kernel_rfl) rfl rfl (fun w h => h.d1) (fun w h => R_assign rfl) (zh (v := .bool _) 11 rfl (by kernel_rfl) rfl rfl (fun w h => h.d1) (fun w h => R_assign rfl) (zN2 (fun w h => h.d1) (zk (ze (zb (zt ((r_two (v := .int _ _) (v2 := .bool _) rfl rfl rfl rfl rfl ?_)))))))))))))); exact fun w' hw => ⟨by (subst_vars; (rw [call_sum]; rfl)), hw.f0⟩
    refine o_insP 0 (s := (5, 0)) (v := .int .u8 2) rfl rfl unm136 ky104 rfl rfl rfl rfl ?_; refine h_two 2 4 (by kernel_rfl) (fun w h => h.d1) ?_ ?_
    · refine o_insP 0 (s := (4, 0)) (v := .int .u8 1) rfl rfl unm136 ky104 rfl rfl rfl rfl (zH2 4 (fun w h => h.d1) (o_insP 0 (s := (3, 0)) (v := .int .u8 2) rfl rfl unm136 ky104 rfl rfl rfl rfl (zh2 7 rfl rfl (fun w h => h.d1) (fun w h => R_move rfl) (zH2 9 (fun w h => h.d1) (o_pureW rfl (wn_none rfl) rfl (fun w => zR Tryz.func103 rfl rfl rfl) (fun w h => lookT_ok a b mb [((5, 0), .int .u8 2), ((4, 0), .int .u8 1), ((3, 0), .int .u8 2)] (.int .u8 (sumK a b : Nat)) w (h.at_ 0 rfl) (sumK_l504030 a b)) (zh (v := .int _ _) 10 rfl (by kernel_rfl) rfl rfl (fun w h => h.d1) (fun w h => R_assign rfl) (zh (v := .bool _) 11 rfl (by kernel_rfl) rfl rfl (fun w h => h.d1) (fun w h => R_assign rfl) (zN2 (fun w h => h.d1) (zk (ze (zb (zt ((r_two (v := .int _ _) (v2 := .bool _) rfl rfl rfl rfl rfl ?_)))))))))))))); exact fun w' hw => ⟨by (subst_vars; (rw [call_sum]; rfl)), hw.f0⟩
    refine o_insP 0 (s := (3, 0)) (v := .int .u8 2) rfl rfl unm136 ky104 rfl rfl rfl rfl (zH2 2 (fun w h => h.d1) (o_insP 0 (s := (4, 0)) (v := .int .u8 1) rfl rfl unm136 ky104 rfl rfl rfl rfl (zh2 7 rfl rfl (fun w h => h.d1) (fun w h => R_move rfl) (zH2 9 (fun w h => h.d1) (o_pureW rfl (wn_none rfl) rfl (fun w => zR Tryz.func103 rfl rfl rfl) (fun w h => lookT_ok a b mb [((5, 0), .int .u8 2), ((3, 0), .int .u8 2), ((4, 0), .int .u8 1)] (.int .u8 (sumK a b : Nat)) w (h.at_ 0 rfl) (sumK_l503040 a b)) (zh (v := .int _ _) 10 rfl (by kernel_rfl) rfl rfl (fun w h => h.d1) (fun w h => R_assign rfl) (zh (v := .bool _) 11 rfl (by kernel_rfl) rfl rfl (fun w h => h.d1) (fun w h => R_assign rfl) (zN2 (fun w h => h.d1) (zk (ze (zb (zt ((r_two (v := .int _ _) (v2 := .bool _) rfl rfl rfl rfl rfl ?_)))))))))))))); exact fun w' hw => ⟨by (subst_vars; (rw [call_sum]; rfl)), hw.f0⟩
  refine yA (js rfl rfl (aB rfl (yB ?_))); refine zD rfl (fun h8 => ?_) (fun h8 => ?_)
  · refine zq (c_heldS mixed (zh2 1 rfl rfl (fun w h => h) (fun w h => R_buildA ar104 zr104 rfl) (h_loadA 4 rfl (by kernel_rfl) (fun w h => h) z104 rfl (fun _ h => h.at_ 0 rfl) rfl (zH2 0 (fun w h => h) (o_makeMapP rfl (fun mb gmb umb => zH2 2 (fun w h => h.d1) (o_insP 0 (s := (3, 3)) (v := .int .u8 2) rfl rfl unm136 ky104 rfl rfl rfl rfl (zh2 3 rfl rfl (fun w h => h.d1) (fun w h => R_move rfl) (zH2 5 (fun w h => h.d1) (o_pureW rfl (wn_none rfl) rfl (fun w => zR Tryz.func103 rfl rfl rfl) (fun w h => lookT_ok a b mb [((3, 3), .int .u8 2)] (.int .u8 (dotK a b : Nat)) w (h.at_ 0 rfl) (dotK_l33 a b)) (zh (v := .int _ _) 6 rfl (by kernel_rfl) rfl rfl (fun w h => h.d1) (fun w h => R_assign rfl) (zh (v := .bool _) 7 rfl (by kernel_rfl) rfl rfl (fun w h => h.d1) (fun w h => R_assign rfl) (zN2 (fun w h => h.d1) (zk (ze (zb (zt ((r_two (v := .int _ _) (v2 := .bool _) rfl rfl rfl rfl rfl ?_))))))))))))))))))); exact fun w' hw => ⟨by (subst_vars; (rw [call_dot]; rfl)), hw.f0⟩
  refine yA (js rfl rfl (aB rfl (yB ?_))); refine zD rfl (fun h9 => ?_) (fun h9 => ?_)
  · refine zq (c_heldS mixed (zh2 1 rfl rfl (fun w h => h) (fun w h => R_buildA ar104 zr104 rfl) (zh2 3 rfl rfl (fun w h => h) (fun w h => R_buildA ar104 zr104 rfl) (zh2 5 rfl rfl (fun w h => h) (fun w h => R_buildA ar104 zr104 rfl) (h_loadA 8 rfl (by kernel_rfl) (fun w h => h) z104 rfl (fun _ h => h.at_ 0 rfl) rfl (zH2 0 (fun w h => h) (o_makeMapP rfl (fun mb gmb umb => ?_))))))))
    refine h_three 2 4 6 (by kernel_rfl) (fun w h => h.d1) ?_ ?_ ?_
    · refine o_insP 0 (s := (4, 0)) (v := .int .u8 1) rfl rfl unm136 ky104 rfl rfl rfl rfl ?_; refine h_two 4 6 (by kernel_rfl) (fun w h => h.d1) ?_ ?_
      · refine o_insP 0 (s := (3, 0)) (v := .int .u8 1) rfl rfl unm136 ky104 rfl rfl rfl rfl (zH2 6 (fun w h => h.d1) (o_insP 0 (s := (5, 0)) (v := .int .u8 1) rfl rfl unm136 ky104 rfl rfl rfl rfl (zh2 7 rfl rfl (fun w h => h.d1) (fun w h => R_move rfl) (zH2 9 (fun w h => h.d1) (o_pureW rfl (wn_none rfl) rfl (fun w => zR Tryz.func103 rfl rfl rfl) (fun w h => lookT_ok a b mb [((4, 0), .int .u8 1), ((3, 0), .int .u8 1), ((5, 0), .int .u8 1)] (.int .u8 (sizeK a b : Nat)) w (h.at_ 0 rfl) (sizeK_l403050 a b)) (zh (v := .int _ _) 10 rfl (by kernel_rfl) rfl rfl (fun w h => h.d1) (fun w h => R_assign rfl) (zh (v := .bool _) 11 rfl (by kernel_rfl) rfl rfl (fun w h => h.d1) (fun w h => R_assign rfl) (zN2 (fun w h => h.d1) (zk (ze (zb (zt ((r_two (v := .int _ _) (v2 := .bool _) rfl rfl rfl rfl rfl ?_)))))))))))))); exact fun w' hw => ⟨by (subst_vars; (rw [call_size]; rfl)), hw.f0⟩
      refine o_insP 0 (s := (5, 0)) (v := .int .u8 1) rfl rfl unm136 ky104 rfl rfl rfl rfl (zH2 4 (fun w h => h.d1) (o_insP 0 (s := (3, 0)) (v := .int .u8 1) rfl rfl unm136 ky104 rfl rfl rfl rfl (zh2 7 rfl rfl (fun w h => h.d1) (fun w h => R_move rfl) (zH2 9 (fun w h => h.d1) (o_pureW rfl (wn_none rfl) rfl (fun w => zR Tryz.func103 rfl rfl rfl) (fun w h => lookT_ok a b mb [((4, 0), .int .u8 1), ((5, 0), .int .u8 1), ((3, 0), .int .u8 1)] (.int .u8 (sizeK a b : Nat)) w (h.at_ 0 rfl) (sizeK_l405030 a b)) (zh (v := .int _ _) 10 rfl (by kernel_rfl) rfl rfl (fun w h => h.d1) (fun w h => R_assign rfl) (zh (v := .bool _) 11 rfl (by kernel_rfl) rfl rfl (fun w h => h.d1) (fun w h => R_assign rfl) (zN2 (fun w h => h.d1) (zk (ze (zb (zt ((r_two (v := .int _ _) (v2 := .bool _) rfl rfl rfl rfl rfl ?_)))))))))))))); exact fun w' hw => ⟨by (subst_vars; (rw [call_size]; rfl)), hw.f0⟩
    · refine o_insP 0 (s := (3, 0)) (v := .int .u8 1) rfl rfl unm136 ky104 rfl rfl rfl rfl ?_; refine h_two 2 6 (by kernel_rfl) (fun w h => h.d1) ?_ ?_
      · refine o_insP 0 (s := (4, 0)) (v := .int .u8 1) rfl rfl unm136 ky104 rfl rfl rfl rfl (zH2 6 (fun w h => h.d1) (o_insP 0 (s := (5, 0)) (v := .int .u8 1) rfl rfl unm136 ky104 rfl rfl rfl rfl (zh2 7 rfl rfl (fun w h => h.d1) (fun w h => R_move rfl) (zH2 9 (fun w h => h.d1) (o_pureW rfl (wn_none rfl) rfl (fun w => zR Tryz.func103 rfl rfl rfl) (fun w h => lookT_ok a b mb [((3, 0), .int .u8 1), ((4, 0), .int .u8 1), ((5, 0), .int .u8 1)] (.int .u8 (sizeK a b : Nat)) w (h.at_ 0 rfl) (sizeK_l304050 a b)) (zh (v := .int _ _) 10 rfl (by kernel_rfl) rfl rfl (fun w h => h.d1) (fun w h => R_assign rfl) (zh (v := .bool _) 11 rfl (by kernel_rfl) rfl rfl (fun w h => h.d1) (fun w h => R_assign rfl) (zN2 (fun w h => h.d1) (zk (ze (zb (zt ((r_two (v := .int _ _) (v2 := .bool _) rfl rfl rfl rfl rfl ?_)))))))))))))); exact fun w' hw => ⟨by (subst_vars; (rw [call_size]; rfl)), hw.f0⟩
      refine o_insP 0 (s := (5, 0)) (v := .int .u8 1) rfl rfl unm136 ky104 rfl rfl rfl rfl (zH2 2 (fun w h => h.d1) (o_insP 0 (s := (4, 0)) (v := .int .u8 1) rfl rfl unm136 ky104 rfl rfl rfl rfl (zh2 7 rfl rfl (fun w h => h.d1) (fun w h => R_move rfl) (zH2 9 (fun w h => h.d1) (o_pureW rfl (wn_none rfl) rfl (fun w => zR Tryz.func103 rfl rfl rfl) (fun w h => lookT_ok a b mb [((3, 0), .int .u8 1), ((5, 0), .int .u8 1), ((4, 0), .int .u8 1)] (.int .u8 (sizeK a b : Nat)) w (h.at_ 0 rfl) (sizeK_l305040 a b)) (zh (v := .int _ _) 10 rfl (by kernel_rfl) rfl rfl (fun w h => h.d1) (fun w h => R_assign rfl) (zh (v := .bool _) 11 rfl (by kernel_rfl) rfl rfl (fun w h => h.d1) (fun w h => R_assign rfl) (zN2 (fun w h => h.d1) (zk (ze (zb (zt ((r_two (v := .int _ _) (v2 := .bool _) rfl rfl rfl rfl rfl ?_)))))))))))))); exact fun w' hw => ⟨by (subst_vars; (rw [call_size]; rfl)), hw.f0⟩
    refine o_insP 0 (s := (5, 0)) (v := .int .u8 1) rfl rfl unm136 ky104 rfl rfl rfl rfl ?_; refine h_two 2 4 (by kernel_rfl) (fun w h => h.d1) ?_ ?_
    · refine o_insP 0 (s := (4, 0)) (v := .int .u8 1) rfl rfl unm136 ky104 rfl rfl rfl rfl (zH2 4 (fun w h => h.d1) (o_insP 0 (s := (3, 0)) (v := .int .u8 1) rfl rfl unm136 ky104 rfl rfl rfl rfl (zh2 7 rfl rfl (fun w h => h.d1) (fun w h => R_move rfl) (zH2 9 (fun w h => h.d1) (o_pureW rfl (wn_none rfl) rfl (fun w => zR Tryz.func103 rfl rfl rfl) (fun w h => lookT_ok a b mb [((5, 0), .int .u8 1), ((4, 0), .int .u8 1), ((3, 0), .int .u8 1)] (.int .u8 (sizeK a b : Nat)) w (h.at_ 0 rfl) (sizeK_l504030 a b)) (zh (v := .int _ _) 10 rfl (by kernel_rfl) rfl rfl (fun w h => h.d1) (fun w h => R_assign rfl) (zh (v := .bool _) 11 rfl (by kernel_rfl) rfl rfl (fun w h => h.d1) (fun w h => R_assign rfl) (zN2 (fun w h => h.d1) (zk (ze (zb (zt ((r_two (v := .int _ _) (v2 := .bool _) rfl rfl rfl rfl rfl ?_)))))))))))))); exact fun w' hw => ⟨by (subst_vars; (rw [call_size]; rfl)), hw.f0⟩
    refine o_insP 0 (s := (3, 0)) (v := .int .u8 1) rfl rfl unm136 ky104 rfl rfl rfl rfl (zH2 2 (fun w h => h.d1) (o_insP 0 (s := (4, 0)) (v := .int .u8 1) rfl rfl unm136 ky104 rfl rfl rfl rfl (zh2 7 rfl rfl (fun w h => h.d1) (fun w h => R_move rfl) (zH2 9 (fun w h => h.d1) (o_pureW rfl (wn_none rfl) rfl (fun w => zR Tryz.func103 rfl rfl rfl) (fun w h => lookT_ok a b mb [((5, 0), .int .u8 1), ((3, 0), .int .u8 1), ((4, 0), .int .u8 1)] (.int .u8 (sizeK a b : Nat)) w (h.at_ 0 rfl) (sizeK_l503040 a b)) (zh (v := .int _ _) 10 rfl (by kernel_rfl) rfl rfl (fun w h => h.d1) (fun w h => R_assign rfl) (zh (v := .bool _) 11 rfl (by kernel_rfl) rfl rfl (fun w h => h.d1) (fun w h => R_assign rfl) (zN2 (fun w h => h.d1) (zk (ze (zb (zt ((r_two (v := .int _ _) (v2 := .bool _) rfl rfl rfl rfl rfl ?_)))))))))))))); exact fun w' hw => ⟨by (subst_vars; (rw [call_size]; rfl)), hw.f0⟩
  refine zi (zO (zk (yA (aI rfl (aB rfl (yB (ze (r_two (v := .int _ _) (v2 := .bool _) rfl rfl rfl rfl rfl ?_)))))))); exact fun w' hw => ⟨by (rw [call_none (by clear hw; simp only [List.mem_cons, List.not_mem_nil, or_false]; grind) (by assumption) (by assumption) (by assumption)]; rfl), hw.f0⟩
theorem joined_ok (op a b : Nat) (w : World) :
    Ret Tryz.prog 68 #[.int .u8 (op : Nat), pr a b] w (fun v w' => v = .int .u8 (twoK op a b : Nat) ∧ Ext w w') := by
  refine enter (S := No) (l := [_, _]) (L := []) 59 Tryz.func68 rfl rfl rfl (St.start w No) (yA (w_boxA rfl (fun tb gtb utb => aI rfl (yB (zq (c_heldS mixed (zh2 0 rfl rfl (fun w h => h) (fun w h => R_iaA ar104 (by decide) rfl rfl (by decide)) (zh (v := .int _ _) 1 rfl (by kernel_rfl) rfl rfl (fun w h => h) (fun w h => R_ld1 z5 rfl (zc 0 rfl rfl h)) (zh2 2 rfl rfl (fun w h => h) (fun w h => R_iaA (i := 1) ar104 (by decide) rfl rfl (by omega)) (zh (v := .int _ _) 3 rfl (by kernel_rfl) rfl rfl (fun w h => h) (fun w h => R_ld1 z5 rfl (zc 0 rfl rfl h)) (zh (v := .int _ _) 4 rfl (by kernel_rfl) rfl rfl (fun w h => h) (fun w h => R_assign rfl) (zh (v := .int _ _) 5 rfl (by kernel_rfl) rfl rfl (fun w h => h) (fun w h => R_assign rfl) (zN2 (fun w h => h) (zk (zq (zB (yA (mI rfl (jD Tryz.func84 (fun w h => scalar_ok _ w) (mB rfl (w_gT (v := .int _ _) rfl rfl rfl (fun hc w h => R_move rfl) rfl (w_cT rfl rfl rfl (fun hc w => runE_as (zR Tryz.func84 rfl rfl rfl) (arr1 (gvl_t hc))) rfl (fun hc w h => scalar_ok _ w) (zg (v := .bool _) (fun _ => R_pickA rfl rfl rfl) (aB rfl (yB ?_))))))))))))))))))))))))); refine c_cond rfl (fun h2 => ?_) (fun h2 => ?_)
  · refine zq (yA (mI rfl (jn rfl rfl (mB rfl (w_gT (v := .int _ _) rfl rfl rfl (fun hc w h => R_move rfl) rfl (gTx rfl (fun hc w h => R_eq (gvl_t hc) rfl) rfl (zg (v := .bool _) (fun _ => R_pickA rfl rfl rfl) (mB rfl (w_gT (v := .int _ _) rfl rfl rfl (fun hc w h => R_move rfl) rfl (gTx rfl (fun hc w h => R_eq (gvl_t hc) rfl) rfl (zg (v := .bool _) (fun _ => R_pickA rfl rfl rfl) (yB ?_)))))))))))); refine c_cond rfl (fun h3 => ?_) (fun h3 => ?_)
    · refine yA (aI rfl (yB (ze (zt (zb (zt ((zo (v := .int _ _) rfl rfl rfl ?_)))))))); exact fun w' hw => ⟨congrArg (fun n : Nat => Value.int .u8 (n : Int)) (show _ = twoK op a b by clear hw; (try simp only [Bool.and_eq_true, Bool.or_eq_true, Bool.and_eq_false_iff, Bool.or_eq_false_iff, decide_eq_true_eq, decide_eq_false_iff_not] at *); (unfold twoK; grind)), hw.f0⟩
    refine zi (zk (yA (aI rfl (yB (ze (zb (zt ((zo (v := .int _ _) rfl rfl rfl ?_))))))))); exact fun w' hw => ⟨congrArg (fun n : Nat => Value.int .u8 (n : Int)) (show _ = twoK op a b by clear hw; (try simp only [Bool.and_eq_true, Bool.or_eq_true, Bool.and_eq_false_iff, Bool.or_eq_false_iff, decide_eq_true_eq, decide_eq_false_iff_not] at *); (unfold twoK; grind)), hw.f0⟩
  refine yA (mI rfl (je rfl rfl (mB rfl (w_gF (v := .int _ _) rfl rfl rfl (fun hc w h => R_move rfl) rfl (gFx rfl (fun hc w h => R_eq (gvl_t hc) rfl) rfl (zg (v := .bool _) (fun _ => R_pickO rfl rfl rfl) (aB rfl (yB ?_)))))))); refine c_cond rfl (fun h4 => ?_) (fun h4 => ?_)
  · refine zq (c_heldS mixed (zh2 1 rfl rfl (fun w h => h) (fun w h => R_buildA ar104 zr104 rfl) (h_loadA 4 rfl (by kernel_rfl) (fun w h => h) z104 rfl (fun _ h => h.at_ 0 rfl) rfl (zH2 0 (fun w h => h) (o_makeMapP rfl (fun mb gmb umb => zH2 2 (fun w h => h.d1) (o_insP 0 (s := (3, 3)) (v := .int .u8 3) rfl rfl unm136 ky104 rfl rfl rfl rfl (zh2 3 rfl rfl (fun w h => h.d1) (fun w h => R_move rfl) (zH2 5 (fun w h => h.d1) (o_pureW rfl (wn_none rfl) rfl (fun w => zR Tryz.func103 rfl rfl rfl) (fun w h => lookT_ok a b mb [((3, 3), .int .u8 3)] (.int .u8 (twoK op a b : Nat)) w (h.at_ 0 rfl) ((vecK_l33 a b).trans (congrArg (fun n : Nat => Value.int .u8 (n : Int)) (by clear h; unfold twoK vecK; grind)))) (zh (v := .int _ _) 6 rfl (by kernel_rfl) rfl rfl (fun w h => h.d1) (fun w h => R_assign rfl) (zN2 (fun w h => h.d1) (zk (ze (zb (zt ((zo (v := .int _ _) rfl rfl rfl ?_)))))))))))))))))); exact fun w' hw => ⟨congrArg (fun n : Nat => Value.int .u8 (n : Int)) (show _ = twoK op a b by clear hw; (try simp only [Bool.and_eq_true, Bool.or_eq_true, Bool.and_eq_false_iff, Bool.or_eq_false_iff, decide_eq_true_eq, decide_eq_false_iff_not] at *); done), hw.f0⟩
  refine yA (mI rfl (je rfl rfl (mB rfl (w_gT (v := .int _ _) rfl rfl rfl (fun hc w h => R_move rfl) rfl (w_cT rfl rfl rfl (fun hc w => runE_as (zR Tryz.func84 rfl rfl rfl) (arr1 (gvl_t hc))) rfl (fun hc w h => scalar_ok _ w) (zg (v := .bool _) (fun _ => R_pickA rfl rfl rfl) (mB rfl (w_gF (v := .int _ _) rfl rfl rfl (fun hc w h => R_move rfl) rfl (gFx rfl (fun hc w h => R_eq (gvl_t hc) rfl) rfl (gFx (v := .bool _) rfl (fun hc w h => R_move (gvl_t hc)) rfl (w_hT (v := .int _ _) rfl rfl rfl (fun hc w h => R_move rfl) rfl (w_dT rfl rfl rfl (fun hc w => runE_as (zR Tryz.func84 rfl rfl rfl) (arr1 (gvl_t hc))) rfl (fun hc w h => scalar_ok _ w) (gFx (v := .bool _) rfl (fun hc w h => R_pickA (gvl_t hc) (gvl_and hc) rfl) rfl (gFx (v := .bool _) rfl (fun hc w h => R_move (gvl_t hc)) rfl (w_hT (v := .int _ _) rfl rfl rfl (fun hc w h => R_move rfl) rfl (hTx rfl (fun hc w h => R_eq (gvl_t hc) rfl) rfl (gFx (v := .bool _) rfl (fun hc w h => R_pickA (gvl_t hc) (gvl_and hc) rfl) rfl (zg (v := .bool _) (fun _ => R_pickO rfl rfl rfl) (aB rfl (yB ?_)))))))))))))))))))); refine c_cond rfl (fun h5 => ?_) (fun h5 => ?_)
  · refine yA (aI rfl (yB (ze (zb (zt ((zo (v := .int _ _) rfl rfl rfl ?_))))))); exact fun w' hw => ⟨congrArg (fun n : Nat => Value.int .u8 (n : Int)) (show _ = twoK op a b by clear hw; (try simp only [Bool.and_eq_true, Bool.or_eq_true, Bool.and_eq_false_iff, Bool.or_eq_false_iff, decide_eq_true_eq, decide_eq_false_iff_not] at *); (unfold twoK; grind)), hw.f0⟩
  refine zi (zO (zk (yA (aI rfl (yB (ze (zo (v := .int _ _) rfl rfl rfl ?_))))))); exact fun w' hw => ⟨congrArg (fun n : Nat => Value.int .u8 (n : Int)) (show _ = twoK op a b by clear hw; (try simp only [Bool.and_eq_true, Bool.or_eq_true, Bool.and_eq_false_iff, Bool.or_eq_false_iff, decide_eq_true_eq, decide_eq_false_iff_not] at *); (unfold twoK; grind)), hw.f0⟩
abbrev distC (d : Option (Nat × Nat × Bool)) : List Value := [.int .i64 ((d.map (·.1)).getD 0 : Nat), .int .i64 ((d.map (·.2.1)).getD 0 : Nat), .bool ((d.map (·.2.2)).getD false)]
def distL : List (Str × Value) := [([110, 111, 114, 109, 97, 108], .agg #[.int .i64 2, .int .i64 0, .bool false]), ([99, 97, 117, 99, 104, 121], .agg #[.int .i64 2, .int .i64 0, .bool false]), ([117, 110, 105, 102, 111, 114, 109], .agg #[.int .i64 2, .int .i64 0, .bool false]), ([108, 111, 103, 110, 111, 114, 109, 97, 108], .agg #[.int .i64 2, .int .i64 0, .bool false]), ([103, 97, 109, 109, 97], .agg #[.int .i64 2, .int .i64 1, .bool false]), ([98, 101, 116, 97], .agg #[.int .i64 2, .int .i64 2, .bool false]), ([101, 120, 112, 111, 110, 101, 110, 116, 105, 97, 108], .agg #[.int .i64 1, .int .i64 0, .bool false]), ([98, 101, 114, 110, 111, 117, 108, 108, 105], .agg #[.int .i64 1, .int .i64 0, .bool true]), ([98, 101, 114, 110, 111, 117, 108, 108, 105, 95, 108, 111, 103, 105, 116], .agg #[.int .i64 1, .int .i64 0, .bool true]), ([112, 111, 105, 115, 115, 111, 110], .agg #[.int .i64 1, .int .i64 0, .bool true]), ([112, 111, 105, 115, 115, 111, 110, 95, 108, 111, 103], .agg #[.int .i64 1, .int .i64 0, .bool true])]
theorem dist_look (s : Str) : (Value.tuple #[(distL.lookup s).getD (.agg #[.int .i64 0, .int .i64 0, .bool false]), .bool (distL.lookup s).isSome]) = .tuple #[.agg (distC (distK s)).toArray, .bool (distK s).isSome] := by
  unfold distL
  by_cases h0 : s = [110, 111, 114, 109, 97, 108]
  · subst h0; rfl
  by_cases h1 : s = [99, 97, 117, 99, 104, 121]
  · subst h1; rfl
  by_cases h2 : s = [117, 110, 105, 102, 111, 114, 109]
  · subst h2; rfl
  by_cases h3 : s = [108, 111, 103, 110, 111, 114, 109, 97, 108]
  · subst h3; rfl
  by_cases h4 : s = [103, 97, 109, 109, 97]
  · subst h4; rfl
  by_cases h5 : s = [98, 101, 116, 97]
  · subst h5; rfl
  by_cases h6 : s = [101, 120, 112, 111, 110, 101, 110, 116, 105, 97, 108]
  · subst h6; rfl
  by_cases h7 : s = [98, 101, 114, 110, 111, 117, 108, 108, 105]
  · subst h7; rfl
  by_cases h8 : s = [98, 101, 114, 110, 111, 117, 108, 108, 105, 95, 108, 111, 103, 105, 116]
  · subst h8; rfl
  by_cases h9 : s = [112, 111, 105, 115, 115, 111, 110]
  · subst h9; rfl
  by_cases h10 : s = [112, 111, 105, 115, 115, 111, 110, 95, 108, 111, 103]
  · subst h10; rfl
  all_goals
    have q : ∀ k : Str, ¬ s = k → (s == k) = false := fun k h => by simpa using h
    have e : distK s = none := by unfold distK; simp only [List.mem_cons, List.not_mem_nil, or_false]; rw [if_neg (by grind), if_neg (by assumption), if_neg (by assumption), if_neg (by assumption), if_neg (by grind)]
    rw [e]
    simp only [List.lookup]
    rw [q _ h0, q _ h1, q _ h2, q _ h3, q _ h4, q _ h5, q _ h6, q _ h7, q _ h8, q _ h9, q _ h10]
    rfl
theorem dists_ok (s : Str) (w : World) :
    Ret Tryz.prog 25 #[str s] w (fun v w' => v = .tuple #[.agg (distC (distK s)).toArray, .bool (distK s).isSome] ∧ Ext w w') := by
  refine enter (S := No) (l := [_]) (L := []) 26 Tryz.func25 rfl rfl rfl (St.start w No) (yA (zA zr66 (fun t2b gt2b ut2b => aB rfl (yC (w_makeMapS (fun mb gmb umb => jb bt66 rfl (w_insS 0 rfl unm88 unk9 rfl rfl rfl rfl (jb bt66 rfl (w_insS 0 rfl unm88 unk9 rfl rfl rfl rfl (jb bt66 rfl (w_insS 0 rfl unm88 unk9 rfl rfl rfl rfl (jb bt66 rfl (w_insS 0 rfl unm88 unk9 rfl rfl rfl rfl (jb bt66 rfl (w_insS 0 rfl unm88 unk9 rfl rfl rfl rfl (jb bt66 rfl (w_insS 0 rfl unm88 unk9 rfl rfl rfl rfl (jb bt66 rfl (w_insS 0 rfl unm88 unk9 rfl rfl rfl rfl (jb bt66 rfl (w_insS 0 rfl unm88 unk9 rfl rfl rfl rfl (jb bt66 rfl (w_insS 0 rfl unm88 unk9 rfl rfl rfl rfl (jb bt66 rfl (w_insS 0 rfl unm88 unk9 rfl rfl rfl rfl (jb bt66 rfl (w_insS 0 rfl unm88 unk9 rfl rfl rfl rfl (zm rfl (zm (v := str _) rfl (w_lookS2 (l := distL) 0 rfl unm88 unk9 zr66 rfl rfl (dist_look s) (zm rfl (jx rfl rfl (jx rfl rfl (zA zr66 (fun b2 gb2 ub2 => jv 0 z66 rfl (aB rfl (yC (jy 0 z66 rfl rfl (mB rfl (jv 2 z66 rfl (aB rfl (yB (ze (r_fin (.inl rfl) rfl (.agg rfl rfl z66 (fun _ h => h.at_ 2 rfl) rfl (.tmp rfl rfl .nil)) ?_)))))))))))))))))))))))))))))))))))))))))))); exact fun w' hw => ⟨rfl, hw.f0⟩
theorem Discrete_ok (s : Str) (w : World) :
    Ret Tryz.prog 10 #[str s] w (fun v w' => v = .tuple #[.int .i64 (((distK s).map (·.1)).getD 0 : Nat), .bool (((distK s).map (·.2.2)).getD false), .bool (distK s).isSome] ∧ Ext w w') := by
  refine enter (S := No) (l := [_]) (L := []) 16 Tryz.func10 rfl rfl rfl (St.start w No) (yA (aI rfl (aB rfl (aB rfl (yC (zm (v := str _) rfl (jD Tryz.func25 (fun w h => dists_ok _ w) (zm rfl (jx rfl rfl (jx rfl rfl (zA zr66 (fun t5b gt5b ut5b => jv 0 z66 rfl (aB rfl (yB (zq (c_heldS mixed (zh2 0 rfl rfl (fun w h => h) (fun w h => R_fa fa66_0 rfl) (zh (v := .int _ _) 1 rfl (by kernel_rfl) rfl rfl (fun w h => h) (fun w h => R_ld1 z3 rfl (zc 0 rfl rfl h)) (zh2 2 rfl rfl (fun w h => h) (fun w h => R_fa fa66_2 rfl) (zh (v := .bool _) 3 rfl (by kernel_rfl) rfl rfl (fun w h => h) (fun w h => R_ld1 z4 rfl (zc 0 rfl rfl h)) (zh (v := .bool _) 4 rfl (by kernel_rfl) rfl rfl (fun w h => h) (fun w h => R_move rfl) (zh (v := .int _ _) 5 rfl (by kernel_rfl) rfl rfl (fun w h => h) (fun w h => R_assign rfl) (zh (v := .bool _) 6 rfl (by kernel_rfl) rfl rfl (fun w h => h) (fun w h => R_assign rfl) (zh (v := .bool _) 7 rfl (by kernel_rfl) rfl rfl (fun w h => h) (fun w h => R_assign rfl) (zN2 (fun w h => h) (zk (ze (r_fin (.inl rfl) rfl (.tmp rfl rfl (.tmp rfl rfl (.tmp rfl rfl .nil))) ?_)))))))))))))))))))))))))))); exact fun w' hw => ⟨rfl, hw.f0⟩
theorem idxW_ok (xs : List Str) (nm : Str) (sb : Nat) (w : World) (hx : xs.length ≤ 1000) (hb : w.heap[sb]? = some (cel (xs.map str) 9)) :
    Ret Tryz.prog 142 #[.slice (some ⟨sb, 0, none⟩) xs.length xs.length, str nm] w (fun v w' => v = .int .i64 (firstI (fun x : Str => decide (nm = x)) xs) ∧ Ext w w') := by
  refine enter (S := No) (l := [_, _]) (L := []) 19 Tryz.func142 rfl rfl rfl (St.start w No) (yA (aI rfl (yB (zq (yA (mS rfl (jj sl153 rfl (mI rfl (yB (zB (c_loop (fun m e B L => ∃ (k : Nat), e 0 = .slice (some ⟨sb, 0, none⟩) xs.length xs.length ∧ e 1 = str nm ∧ e 7 = .int .i64 (xs.length : Nat) ∧ e 8 = .int .i64 (k : Nat) ∧ B = [(w, No)] ∧ L = [] ∧ k ≤ xs.length ∧ (∀ x ∈ xs.take k, decide (nm = x) = false) ∧ m = xs.length - k) _ ⟨0, rfl, rfl, rfl, rfl, rfl, rfl, Nat.zero_le _, (by simp), rfl⟩ ?_)))))))))))
  rintro m e B L ⟨k, e0_1, e1_1, e7_1, e8_1, rfl, rfl, hk, hy, rfl⟩
  refine yA (jl e8_1 e7_1 (yB (zq ?_))); refine zD rfl (fun h1 => ?_) (fun h1 => ?_)
  · have hlt : k < xs.length := (by omega); obtain ⟨x, hxk⟩ : ∃ x, xs[k]? = some x := ⟨_, List.getElem?_eq_getElem hlt⟩; have hxm : (xs.map str)[0 + k * 1]? = some (str x) := (by rw [Nat.zero_add, Nat.mul_one, List.getElem?_map, hxk]; rfl)
    refine zi (zk (zq (zB (yA (mI e8_1 (aI rfl (yC (zm (v := str _) e1_1 (mS e0_1 (mI rfl (zg (fun _ => R_iaN (i := k) sl153 rfl rfl (by omega)) (zl (v := str x) z9 rfl (fun w h => cel_oldb hb zm0 id hxm h) (js rfl rfl (yB ?_)))))))))))))); refine zD rfl (fun h2 => ?_) (fun h2 => ?_)
    · refine yA (mI rfl (aI rfl (yB (ze (zb (zt (zt (zb (zt ((zo (v := .int _ _) rfl rfl rfl ?_))))))))))); exact fun w' hw => ⟨by rw [firstI_at hy hxk (decide_eq_true h2)], hw.f0⟩
    refine zi (zO (zk (zr (ji e8_1 rfl (by omega) (mI rfl (zn ?_)))))); exact k_again _ (by omega) ⟨k + 1, e0_1, e1_1, e7_1, rfl, rfl, rfl, by omega, take_all hy hxk (decide_eq_false h2), rfl⟩
  refine zX (zx (zx (b_here rfl (zk (yA (aI rfl (yB (ze ?_))))))))
  obtain rfl : k = xs.length := by omega
  rw [List.take_length] at hy
  refine zo (v := .int _ _) rfl rfl rfl ?_; exact fun w' hw => ⟨by rw [firstI_no hy], hw.f0⟩
theorem any_mem (xs : List Str) (nm : Str) : (xs.any fun x : Str => decide (nm = x)) = decide (nm ∈ xs) := by
  rw [Bool.eq_iff_iff, List.any_eq_true, decide_eq_true_eq]
  exact ⟨fun ⟨x, h1, h2⟩ => by rw [of_decide_eq_true h2]; exact h1, fun h => ⟨nm, h, decide_eq_true rfl⟩⟩
theorem hasW_ok (xs : List Str) (nm : Str) (sb : Nat) (w : World) (hx : xs.length ≤ 1000) (hb : w.heap[sb]? = some (cel (xs.map str) 9)) :
    Ret Tryz.prog 116 #[.slice (some ⟨sb, 0, none⟩) xs.length xs.length, str nm] w (fun v w' => v = .bool (decide (nm ∈ xs)) ∧ Ext w w') := by
  refine enter (S := No) (l := [_, _]) (L := []) 9 Tryz.func116 rfl rfl rfl (St.start w No) (yA (aB rfl (yC (mS rfl (zm (v := str _) rfl (jD Tryz.func142 (fun w h => idxW_ok xs nm sb w hx (h.old hb zm0 (fun x => x))) (jh rfl rfl (aB rfl (yB (ze (zo (v := .bool _) rfl rfl rfl ?_))))))))))); exact fun w' hw => ⟨by rw [← any_mem, ← firstI_ge], hw.f0⟩
theorem failK_ok (e : Nat) (at_ : Int) (w : World) :
    RetP Tryz.prog 63 #[.int .i64 (e : Nat), .int .i64 at_] w (fun _ _ => False) (fun ch w' => ch = panK (e, at_) ∧ Ext w w') := by
  refine enterP (S := No) (l := [_, _]) (L := []) 8 Tryz.func63 rfl rfl rfl (St.start w No) (zr (mI rfl (mI rfl (jb bt37 rfl (zg (fun _ => R_mkI cn37 rfl) (w_halt (fun w => R_panic rfl) rfl ?_)))))); exact fun w' hw => p_out rfl ⟨rfl, hw.f0⟩
theorem need_ok (b : Bool) (at_ : Int) (w : World) :
    RetP Tryz.prog 65 #[.bool b, .int .i64 at_] w (NR b w) (NE panK b at_ w) := by
  refine enterP (S := No) (l := [_, _]) (L := []) 8 Tryz.func65 rfl rfl rfl (St.start w No) (yA (mB rfl (jk rfl (yB ?_)))); refine c_condN rfl (fun h1 => ?_) (fun h1 => ?_)
  · refine zr (mI rfl ?_); refine w_callP (R := fun _ _ _ => False) (E := fun w ch w' => ch = panK (152, at_) ∧ Ext w w') (fun w => zR Tryz.func63 rfl rfl rfl) rfl rfl (fun w h => failK_ok 152 at_ w) (fun w hw v w' h => h.elim) (fun w hw ch w' hh a ha => p_out ha ⟨h1, hh.1, (hw.f0).ext hh.2⟩)
  refine zi (k_p (.inr rfl) (r_none (.inr rfl) rfl ?_)); exact fun w' hw => ⟨h1, rfl, hw.f0⟩
end Go.Proofs.YtoehjlmdnajibaaGreatDoor
end
