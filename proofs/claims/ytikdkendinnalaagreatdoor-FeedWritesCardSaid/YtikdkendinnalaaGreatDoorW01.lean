/- Layer 14, FeedWrites: that Write and Find tell what the document says, and that what is written is read as the same data again. Part 1 of 14. -/
import Derived.WalkKit
import Derived.WalkSpells
import Derived.WalkLawsBesides
import Derived.Deep.Quiet
import Derived.StillTail
import Derived.TacticsIn
import Derived.RangeFuncLeaves
import Derived.RangeFuncSeq
import Derived.Deep.LoopGhost
import Derived.Laws.Tables
import Derived.Laws.Rows
import Derived.Laws.CopyRow
import Derived.Laws.MakeOwn
import Derived.Laws.Concat
import Derived.Laws.Strings2
import Derived.Laws.StructEq
import Derived.RangeFuncRecord
import Derived.RangeFuncIn
import Derived.LoopNIn
import Derived.Laws.AppendOwn
import Derived.Laws.IdiomStrings
import Derived.MapKept
import Derived.OrdersHeld
section
namespace Go.Sx
open Go.RowKit
abbrev Env := Nat → Value
def upd (e : Env) (d : Nat) (v : Value) : Env := fun t => bif Nat.beq t d then v else e t
def ofL (l : List Value) : Env := fun t => l.getD t undef
structure Cf where
  n : Nat
  ds : List Deferred
  ro : Option Nat
abbrev cf (n : Nat) : Cf := ⟨n, [], none⟩
def act (c : Cf) (e : Env) : Act := ⟨Array.ofFn (fun i : Fin c.n => e i.val), c.ds⟩
def ev (n : Nat) (e : Env) : Operand → Value
  | .tmp t => bif Nat.blt t n then e t else undef
  | .const v => v
  | .global g => .pointer (some ⟨g, 0, none⟩)
  | .func f => .func (.func f) #[] #[]
def fw (ro : Option Nat) : Fence := { Fence.wide with round := ro }
theorem blt_false {t n : Nat} (h : ¬ t < n) : Nat.blt t n = false := by
  cases hb : Nat.blt t n
  · rfl
  rw [Nat.blt_eq] at hb; exact absurd hb h
theorem act_eval (c : Cf) (e : Env) : (act c e).eval = ev c.n e := by
  funext x
  cases x with
  | tmp t =>
    simp only [Act.eval, ev, act]
    by_cases h : t < c.n
    · have h' : Nat.blt t c.n = true := by simpa [Nat.blt_eq] using h
      simp [h, h']
    · have h' : Nat.blt t c.n = false := blt_false h
      simp [h, h']
  | _ => rfl
theorem set_ofFn (n : Nat) (e : Env) (d : Nat) (v : Value) : (Array.ofFn (fun i : Fin n => e i.val)).setIfInBounds d v = Array.ofFn (fun i : Fin n => upd e d v i.val) := by
  apply Array.ext
  · simp
  intro i h1 h2
  simp only [Array.getElem_ofFn, upd]
  rw [Array.getElem_setIfInBounds (by simpa using h1)]
  by_cases h : d = i
  · subst h; simp
  have : Nat.beq i d = false := by
    cases hb : Nat.beq i d
    · rfl
    exact absurd (Nat.eq_of_beq_eq_true hb).symm h
  simp [this, h]
theorem act_put (c : Cf) (e : Env) (d : Nat) (v : Value) : (act c e).put (some d) v = act c (upd e d v) := by
  simp only [Act.put, act, set_ofFn]
theorem act_put_none (c : Cf) (e : Env) (v : Value) : (act c e).put none v = act c e := rfl
theorem enter_act (l : List Value) (n : Nat) (h : l.length ≤ n) : ({ tmps := l.toArray ++ Array.replicate (n - l.length) undef, defers := [] } : Act) = act (cf n) (ofL l) := by
  simp only [act, ofL]
  congr 1
  apply Array.ext
  · simp; omega
  intro i h1 h2
  simp only [Array.getElem_ofFn, Array.getElem_append]
  by_cases hi : i < l.length
  · simp [hi, List.getD_eq_getElem?_getD]
  simp [hi, List.getD_eq_getElem?_getD]
theorem calls {P : Program} {f : FuncId} {fn : Func} {c : Code} {l : List Value} {w : World} {R : Ending → World → Prop} (n : Nat)
    (hf : P.funcs[f]? = some fn) (hb : fn.body = some c) (hn : fn.ntmps = n) (hl : Nat.ble l.length n = true)
    (h : c.wpIn (fw none) 0 P (bodyPost P fn R) (act (cf n) (ofL l)) w) : Calls P f l.toArray w R := by
  refine calls_of_wp hf hb ?_
  rw [hn]
  have := enter_act l n (Nat.le_of_ble_eq_true hl)
  simp only [List.size_toArray] at *
  rw [this]; exact wpIn_wide.1 h
theorem calls_m {P : Program} {f : FuncId} {fn : Func} {c : Code} {l : List Value} {w : World} {R : Ending → World → Prop} (n : Nat)
    (hf : P.funcs[f]? = some fn) (hb : fn.body = some c) (hn : fn.ntmps = n) (hl : Nat.ble l.length n = true)
    (h : c.wpIn (fw none) 0 P (bodyPostM (fw none) 0 P fn R) (act (cf n) (ofL l)) w) : Calls P f l.toArray w R := by
  refine (callsIn_wide (n := 0)).1 (callsIn_of_wp_marks (F := fw none) hf hb trivial ?_)
  rw [hn]
  have := enter_act l n (Nat.le_of_ble_eq_true hl)
  simp only [List.size_toArray] at *
  rw [this]; exact h
def Run (P : Program) (o : Oper) (ρ : Operand → Value) (w : World) (v : Value) (w' : World) : Prop := (execOp ρ o).run P w = .ok (.value v) w'
def RunU (P : Program) (o : Oper) (ρ : Operand → Value) (w : World) (w' : World) : Prop := (execOp ρ o).run P w = .ok .skip w'
def RunE (P : Program) (o : Oper) (ρ : Operand → Value) (w : World) (f : FuncId) (args : Array Value) : Prop := (execOp ρ o).run P w = .ok (.enter f args) w
def plainB (o : Oper) : Bool := o.guard.isNone && (match o.op with | .defer _ => false | _ => true)
theorem plainB_spec {o : Oper} (h : plainB o = true) : o.guard = none ∧ ∀ c, o.op ≠ .defer c := by
  simp only [plainB, Bool.and_eq_true, Option.isNone_iff_eq_none] at h
  exact ⟨h.1, fun c hc => by rw [hc] at h; cases h.2⟩
def Ret (P : Program) (f : FuncId) (args : Array Value) (w : World) (R : Value → World → Prop) : Prop := Calls P f args w fun e w' => ∃ v, e = .returned v ∧ R v w'
theorem Ret.mono {P : Program} {f : FuncId} {args : Array Value} {w : World} {R R' : Value → World → Prop} (h : Ret P f args w R) (hr : ∀ v w', R v w' → R' v w') : Ret P f args w R' :=
  Calls.mono h fun _ _ ⟨v, h1, h2⟩ => ⟨v, h1, hr _ _ h2⟩
section
variable {P : Program} {ops : Array Oper} {Q : Exit → Act → World → Prop} {c : Cf} {e : Env} {w w' : World} {rest : List Oper} {o : Oper} {v : Value} {C : World → Prop} {QQ : Act → Prop} {d : Nat}
abbrev WL (c : Cf) (P : Program) (ops : Array Oper) (Q : Exit → Act → World → Prop) (l : List Oper) (e : Env) (w : World) : Prop := wpListIn (fw c.ro) 0 P ops Q l (act c e) w
theorem s_op {r : Result Next} (hr : (execOp (ev c.n e) o).run P w = r) (hg : plainB o = true)
    (h : ∀ K : Act → World → Prop, (∀ a w, wpListIn (fw c.ro) 0 P ops Q rest a w → K a w) → o.uponIn (fw c.ro) 0 P (act c e) K Q r) : WL c P ops Q (o :: rest) e w := by
  obtain ⟨h1, h2⟩ := plainB_spec hg
  refine wpListIn_plain h1 fun K hK => ⟨fun _ _ => trivial, ?_⟩
  rw [act_eval, Oper.semAt_eq _ _ _ h2, hr]
  exact h K hK
theorem s_run (hr : Run P o (ev c.n e) w v w') (hg : plainB o = true) (hd : o.dst = some d) (h : WL c P ops Q rest (upd e d v) w') : WL c P ops Q (o :: rest) e w :=
  s_op hr hg fun K hK => by rw [Oper.uponIn_value, hd, act_put]; exact hK _ _ h
theorem s_unit (hr : RunU P o (ev c.n e) w w') (hg : plainB o = true) (hd : o.dst = none) (h : WL c P ops Q rest e w') : WL c P ops Q (o :: rest) e w :=
  s_op hr hg fun K hK => by rw [Oper.uponIn_skip, hd, act_put_none]; exact hK _ _ h
theorem s_drop (hr : Run P o (ev c.n e) w v w') (hg : plainB o = true) (hd : o.dst = none) (h : WL c P ops Q rest e w') : WL c P ops Q (o :: rest) e w :=
  s_op hr hg fun K hK => by rw [Oper.uponIn_value, hd, act_put_none]; exact hK _ _ h
theorem s_call {f : FuncId} {args : Array Value} {R : Value → World → Prop} (hr : RunE P o (ev c.n e) w f args) (hg : plainB o = true) (hd : o.dst = some d) (hc : Ret P f args w R)
    (h : ∀ v w', R v w' → WL c P ops Q rest (upd e d v) w') : WL c P ops Q (o :: rest) e w :=
  s_op hr hg fun K hK => by
    rw [Oper.uponIn_enter]
    refine ⟨fun hh => absurd hh (by simp [fw, Fence.wide]), ?_⟩
    have hc' : CallsIn (fw c.ro) (0 - 1) P f args w _ := callsIn_wide.2 hc
    refine hc'.mono ?_
    rintro x w' ⟨v, rfl, hv⟩
    rw [hd]
    simp only [act_put]
    exact hK _ _ (h v w' hv)
theorem s_nil (h : Q .normal (act c e) w) : WL c P ops Q [] e w := h
theorem act_get (c : Cf) (e : Env) (t : Nat) : (act c e).tmps[t]? = bif Nat.blt t c.n then some (e t) else none := by
  simp only [act]
  by_cases h : t < c.n
  · have h' : Nat.blt t c.n = true := by simpa [Nat.blt_eq] using h
    simp [h, h']
  have h' : Nat.blt t c.n = false := blt_false h
  simp [h, h']
theorem wanted_of {j : Nat} {b : Bool} {t : Nat} {x : Bool} (hg : o.guard = some (j, b)) (hj : (ops[j]?).bind (·.dst) = some t) (ht : Nat.blt t c.n = true) (he : e t = .bool x) :
    Region.wanted o (yielded ops (act c e).tmps) = (x == b) := by
  simp [Region.wanted, hg, yielded, hj, act_get, ht, he]
theorem s_want (hw : Region.wanted o (yielded ops (act c e).tmps) = true) (h : WL c P ops Q ({ o with guard := none } :: rest) e w) : WL c P ops Q (o :: rest) e w := by
  unfold WL wpListIn at h ⊢
  rw [if_pos hw]
  rw [if_pos (by simp [Region.wanted])] at h
  exact h
theorem s_skip (hw : Region.wanted o (yielded ops (act c e).tmps) = false) (hd : o.dst = some d) (h : WL c P ops Q rest (upd e d undef) w) : WL c P ops Q (o :: rest) e w := by
  unfold WL wpListIn
  rw [if_neg (by rw [hw]; exact Bool.false_ne_true), hd, act_put]
  exact ⟨fun _ _ => trivial, h⟩
theorem q_run (hr : ∀ w, C w → Run P o (ev c.n e) w v w) (hg : plainB o = true) (hd : o.dst = some d) (h : wpQuiet P ops C QQ rest (act c (upd e d v))) : wpQuiet P ops C QQ (o :: rest) (act c e) := by
  refine wpQuiet_step fun K hK => ?_
  rw [if_pos (by simp [Region.wanted, (plainB_spec hg).1])]
  refine ⟨v, fun w hw => ?_, ?_⟩
  · unfold Oper.quietAt; rw [act_eval, hr w hw]; exact ⟨rfl, rfl⟩
  rw [hd, act_put]; exact hK _ h
theorem q_call {f : FuncId} {args : Array Value} (hr : ∀ w, C w → RunE P o (ev c.n e) w f args) (hg : plainB o = true) (hd : o.dst = some d) (hc : ∀ w, C w → Ret P f args w fun u w' => u = v ∧ C w')
    (h : wpQuiet P ops C QQ rest (act c (upd e d v))) : wpQuiet P ops C QQ (o :: rest) (act c e) := by
  refine wpQuiet_step fun K hK => ?_
  rw [if_pos (by simp [Region.wanted, (plainB_spec hg).1])]
  refine ⟨v, fun w hw => ?_, ?_⟩
  · unfold Oper.quietAt; rw [act_eval, hr w hw]
    refine ⟨rfl, Calls.mono (hc w hw) ?_⟩
    rintro x w' ⟨u, rfl, rfl, h'⟩
    exact ⟨rfl, h'⟩
  rw [hd, act_put]; exact hK _ h
theorem t_run (hr : Run P o (ev c.n e) w v w) (hg : plainB o = true) (hd : o.dst = some d) (h : wpStill P ops w QQ rest (act c (upd e d v))) : wpStill P ops w QQ (o :: rest) (act c e) := by
  refine wpStill_step fun K hK => ?_
  rw [if_pos (by simp [Region.wanted, (plainB_spec hg).1])]
  unfold Oper.still
  rw [act_eval, hr, Oper.stillUpon_value, hd, act_put]
  exact hK _ h
theorem t_want (hw : Region.wanted o (yielded ops (act c e).tmps) = true) (h : wpStill P ops w QQ ({ o with guard := none } :: rest) (act c e)) : wpStill P ops w QQ (o :: rest) (act c e) := by
  refine wpStill_step fun K hK => ?_
  rw [if_pos hw]
  unfold wpStill at h
  rw [if_pos (by simp [Region.wanted])] at h
  unfold Oper.still at h ⊢
  have e1 : execOp (act c e).eval { o with guard := none } = execOp (act c e).eval o := rfl
  rw [e1] at h
  generalize (execOp (act c e).eval o).run P w = r at *
  cases r with
  | ok nx w' =>
    cases nx <;> simp only [Oper.stillUpon] at h ⊢
    · exact ⟨h.1, hK _ h.2⟩
    · exact ⟨h.1, hK _ h.2⟩
    · obtain ⟨h1, v, h2, h3⟩ := h; exact ⟨h1, v, h2, hK _ h3⟩
  | halt x w' => exact h
theorem t_skip (hw : Region.wanted o (yielded ops (act c e).tmps) = false) (hd : o.dst = some d) (h : wpStill P ops w QQ rest (act c (upd e d undef))) : wpStill P ops w QQ (o :: rest) (act c e) := by
  refine wpStill_step fun K hK => ?_
  rw [if_neg (by rw [hw]; exact Bool.false_ne_true), hd, act_put]
  exact hK _ h
theorem q_nil (h : QQ (act c e)) : wpQuiet P ops C QQ [] (act c e) := h
theorem q_want (hw : Region.wanted o (yielded ops (act c e).tmps) = true) (h : wpQuiet P ops C QQ ({ o with guard := none } :: rest) (act c e)) : wpQuiet P ops C QQ (o :: rest) (act c e) := by
  refine wpQuiet_step fun K hK => ?_
  rw [if_pos hw]
  unfold wpQuiet at h
  rw [if_pos (by simp [Region.wanted])] at h
  obtain ⟨v, h1, h2⟩ := h
  exact ⟨v, h1, hK _ h2⟩
theorem q_skip (hw : Region.wanted o (yielded ops (act c e).tmps) = false) (hd : o.dst = some d) (h : wpQuiet P ops C QQ rest (act c (upd e d undef))) : wpQuiet P ops C QQ (o :: rest) (act c e) := by
  refine wpQuiet_step fun K hK => ?_
  rw [if_neg (by rw [hw]; exact Bool.false_ne_true), hd, act_put]
  exact hK _ h
end
theorem zm0 {α : Type} {a : α} {l : List α} : a ∈ a :: l := .head _
theorem zm1 {α : Type} {a b : α} {l : List α} : b ∈ a :: b :: l := .tail _ (.head _)
theorem zm2 {α : Type} {a b c : α} {l : List α} : c ∈ a :: b :: c :: l := .tail _ (.tail _ (.head _))
theorem zm3 {α : Type} {a b c d : α} {l : List α} : d ∈ a :: b :: c :: d :: l := .tail _ (.tail _ (.tail _ (.head _)))
theorem zm4 {α : Type} {a b c d e : α} {l : List α} : e ∈ a :: b :: c :: d :: e :: l := .tail _ (.tail _ (.tail _ (.tail _ (.head _))))
theorem injP {α β : Type} {a c : α} {b d : β} (h : some (a, b) = some (c, d)) : c = a ∧ d = b := by cases h; exact ⟨rfl, rfl⟩
theorem bT {p : Prop} [Decidable p] (h : p) : Value.bool (decide p) = Value.bool true := congrArg Value.bool (decide_eq_true h)
theorem bF {p : Prop} [Decidable p] (h : ¬ p) : Value.bool (decide p) = Value.bool false := congrArg Value.bool (decide_eq_false h)
theorem bV {a b : Bool} (h : a = b) : Value.bool a = Value.bool b := congrArg Value.bool h
end Go.Sx
end
section
namespace Go.Sx
open Go.RowKit
structure Fr (S : Nat → Prop) (w w' : World) : Prop where
  os : w'.os = w.os
  tape : w'.tape = w.tape
  output : w'.output = w.output
  size : w.heap.size ≤ w'.heap.size
  blk : ∀ k, k < w.heap.size → ¬ S k → w'.heap[k]? = w.heap[k]?
abbrev No : Nat → Prop := fun _ => False
abbrev Ext := Fr No
theorem Fr.refl (S : Nat → Prop) (w : World) : Fr S w w := ⟨rfl, rfl, rfl, Nat.le_refl _, fun _ _ _ => rfl⟩
theorem Fr.trans' {S T U : Nat → Prop} {a b c : World} (h : Fr S a b) (k : Fr T b c) (hs : ∀ i, i < a.heap.size → S i → U i) (ht : ∀ i, i < a.heap.size → T i → U i) : Fr U a c :=
  ⟨k.os.trans h.os, k.tape.trans h.tape, k.output.trans h.output, Nat.le_trans h.size k.size,
   fun i hi hn => (k.blk i (Nat.lt_of_lt_of_le hi h.size) (fun x => hn (ht i hi x))).trans (h.blk i hi (fun x => hn (hs i hi x)))⟩
theorem Fr.trans {S : Nat → Prop} {a b c : World} (h : Fr S a b) (k : Fr S b c) : Fr S a c := h.trans' k (fun _ _ x => x) (fun _ _ x => x)
theorem Fr.mono {S T : Nat → Prop} {a b : World} (h : Fr S a b) (hs : ∀ i, i < a.heap.size → S i → T i) : Fr T a b := h.trans' (Fr.refl T b) hs (fun _ _ x => x)
theorem Fr.ext {S : Nat → Prop} {a b c : World} (h : Fr S a b) (k : Ext b c) : Fr S a c := h.trans' k (fun _ _ x => x) (fun _ _ x => x.elim)
theorem lt_of_blk {w : World} {b : Nat} {o : Obj} (h : w.heap[b]? = some o) : b < w.heap.size := by
  rcases Nat.lt_or_ge b w.heap.size with h' | h'
  · exact h'
  rw [Array.getElem?_eq_none h'] at h; cases h
theorem Fr.get {S : Nat → Prop} {w w' : World} {b : Nat} {o : Obj} (h : Fr S w w') (hb : w.heap[b]? = some o) (hs : ¬ S b) : w'.heap[b]? = some o := (h.blk b (lt_of_blk hb) hs).trans hb
theorem lt_of_cell {w : World} {a : Addr} {v : Value} (h : w.cell? a = some v) : a.block < w.heap.size := by
  unfold World.cell? at h
  split at h
  · rename_i h'; exact lt_of_blk h'
  cases h
theorem Fr.cell {S : Nat → Prop} {w w' : World} {a : Addr} {v : Value} (h : Fr S w w') (hb : w.cell? a = some v) (hs : ¬ S a.block) : w'.cell? a = some v := by
  rw [← hb]; unfold World.cell?; rw [h.blk _ (lt_of_cell hb) hs]
theorem Fr.alloc (S : Nat → Prop) (w : World) (o : Obj) : Fr S w (w.alloc o) :=
  ⟨rfl, rfl, rfl, by simp, fun k hk _ => by simp only [World.alloc]; rw [Array.getElem?_push_lt hk, Array.getElem?_eq_getElem hk]⟩
theorem alloc_at (w : World) (o : Obj) : (w.alloc o).heap[w.heap.size]? = some o := heap_alloc_new w o
theorem Fr.drewN (S : Nat → Prop) (w : World) (m : Nat) : Fr S w { w with drawn := m } := ⟨rfl, rfl, rfl, Nat.le_refl _, fun _ _ _ => rfl⟩
theorem setRow_at {w : World} {b : Nat} {cs cs' : Array Value} {T : TypeId} {fr : Nat × Nat} (h : w.heap[b]? = some (.cells cs T fr)) : (w.setRow b cs').heap[b]? = some (.cells cs' T fr) := setRow_heap w b cs cs' T fr h
theorem setRow_other {w : World} {b k : Nat} {cs' : Array Value} (hk : k ≠ b) : (w.setRow b cs').heap[k]? = w.heap[k]? := by
  simp only [World.setRow]; rw [Array.getElem?_modify]; rw [if_neg (Ne.symm hk)]
theorem Fr.setRow {S : Nat → Prop} {w : World} {b : Nat} {cs' : Array Value} (hb : S b) : Fr S w (w.setRow b cs') :=
  ⟨rfl, rfl, rfl, by simp [World.setRow], fun k _ hs => setRow_other (fun e => hs (e ▸ hb))⟩
theorem nodup_idx {l : List Nat} (h : l.Nodup) {i j b : Nat} (hi : l[i]? = some b) (hj : l[j]? = some b) : i = j := by
  obtain ⟨h1, h2⟩ := List.getElem?_eq_some_iff.1 hi
  obtain ⟨h3, h4⟩ := List.getElem?_eq_some_iff.1 hj
  have hp := List.pairwise_iff_getElem.1 h
  rcases Nat.lt_trichotomy i j with hlt | heq | hgt
  · exact absurd (h2.trans h4.symm) (hp i j h1 h3 hlt)
  · exact heq
  exact absurd (h4.trans h2.symm) (hp j i h3 h1 hgt)
abbrev Base := List (World × (Nat → Prop))
abbrev Heap := List (Nat × Obj)
abbrev cel (l : List Value) (T : TypeId) : Obj := .cells l.toArray T (0, 0)
structure St (B : Base) (L : Heap) (w : World) : Prop where
  fr : ∀ x ∈ B, Fr x.2 x.1 w
  own : ∀ p ∈ L, w.heap[p.1]? = some p.2
  nd : (L.map (·.1)).Nodup
  ok : ∀ p ∈ L, ∀ x ∈ B, x.2 p.1 ∨ x.1.heap.size ≤ p.1
theorem St.ext {B : Base} {L : Heap} {w w' : World} (h : St B L w) (k : Ext w w') : St B L w' :=
  ⟨fun x hx => (h.fr x hx).ext k, fun p hp => k.get (h.own p hp) (fun x => x), h.nd, h.ok⟩
theorem St.drawn {B : Base} {L : Heap} {w : World} (h : St B L w) (m : Nat) : St B L { w with drawn := m } := h.ext (Fr.drewN No w m)
theorem St.at_ {B : Base} {L : Heap} {w : World} (h : St B L w) (i : Nat) {b : Nat} {o : Obj} (hi : L[i]? = some (b, o)) : w.heap[b]? = some o := h.own (b, o) (List.mem_of_getElem? hi)
theorem St.call {B : Base} {L : Heap} {w w' : World} {T : Nat → Prop} (h : St B L w) (k : Fr T w w') (ht : ∀ p ∈ L, ¬ T p.1) (hB : ∀ x ∈ B, ∀ i, i < x.1.heap.size → T i → x.2 i) : St B L w' :=
  ⟨fun x hx => (h.fr x hx).trans' k (fun _ _ s => s) (hB x hx), fun p hp => k.get (h.own p hp) (ht p hp), h.nd, h.ok⟩
theorem St.new {B : Base} {L : Heap} {w : World} {o : Obj} (h : St B L w) : St B ((w.heap.size, o) :: L) (w.alloc o) := by
  refine ⟨fun x hx => (h.fr x hx).ext (Fr.alloc No w o), ?_, ?_, ?_⟩
  · intro p hp
    rcases List.mem_cons.1 hp with rfl | hp
    · exact alloc_at w o
    exact (Fr.alloc No w o).get (h.own p hp) (fun x => x)
  · simp only [List.map_cons, List.nodup_cons]
    refine ⟨fun hm => ?_, h.nd⟩
    obtain ⟨p, hp, he⟩ := List.mem_map.1 hm
    have := lt_of_blk (h.own p hp)
    omega
  intro p hp x hx
  rcases List.mem_cons.1 hp with rfl | hp
  · exact .inr (h.fr x hx).size
  exact h.ok p hp x hx
theorem St.newN {B : Base} {L : Heap} {w : World} (h : St B L w) : ∀ p ∈ L, p.1 < w.heap.size := fun p hp => lt_of_blk (h.own p hp)
theorem St.put {B : Base} {L : Heap} {w : World} (h : St B L w) (i : Nat) {b : Nat} {l l' : List Value} {T : TypeId} (hi : L[i]? = some (b, cel l T)) : St B (L.set i (b, cel l' T)) (w.setRow b l'.toArray) := by
  have hb := h.at_ i hi
  have hmem : (b, cel l T) ∈ L := List.mem_of_getElem? hi
  have hmap : (L.set i (b, cel l' T)).map (·.1) = L.map (·.1) := by
    rw [List.map_set]
    apply List.ext_getElem?
    intro j
    rw [List.getElem?_set]
    split
    · rename_i hj; subst hj
      obtain ⟨h1, h2⟩ := List.getElem?_eq_some_iff.1 hi
      simp [h1, h2]
    rfl
  refine ⟨fun x hx => ?_, ?_, by rw [hmap]; exact h.nd, ?_⟩
  · refine ⟨(h.fr x hx).os, (h.fr x hx).tape, (h.fr x hx).output, by simpa [World.setRow] using (h.fr x hx).size, fun k hk hs => ?_⟩
    have hne : k ≠ b := by
      rintro rfl
      rcases h.ok _ hmem x hx with hh | hh
      · exact hs hh
      dsimp only at hh; omega
    rw [setRow_other hne]
    exact (h.fr x hx).blk k hk hs
  · intro p hp
    obtain ⟨j, hj⟩ := List.getElem?_of_mem hp
    rw [List.getElem?_set] at hj
    split at hj
    · split at hj
      · cases hj; exact setRow_at hb
      cases hj
    rename_i hij
    have hp' := h.own p (List.mem_of_getElem? hj)
    have hne : p.1 ≠ b := by
      intro he
      have h1 : (L.map (·.1))[j]? = some b := by rw [List.getElem?_map, hj]; simp [he]
      have h2 : (L.map (·.1))[i]? = some b := by rw [List.getElem?_map, hi]; rfl
      exact hij (nodup_idx h.nd h2 h1)
    rw [setRow_other hne]; exact hp'
  intro p hp x hx
  have : p.1 ∈ L.map (·.1) := by rw [← hmap]; exact List.mem_map_of_mem hp
  obtain ⟨p', hp', he⟩ := List.mem_map.1 this
  rw [← he]; exact h.ok p' hp' x hx
theorem map_set_fst {L : Heap} {i b : Nat} {o o' : Obj} (hi : L[i]? = some (b, o)) : (L.set i (b, o')).map (·.1) = L.map (·.1) := by
  rw [List.map_set]
  apply List.ext_getElem?
  intro j
  rw [List.getElem?_set]
  split
  · rename_i hj; subst hj
    obtain ⟨h1, h2⟩ := List.getElem?_eq_some_iff.1 hi
    simp [h1, h2]
  rfl
theorem St.mod {B : Base} {L : Heap} {w w' : World} (h : St B L w) (i : Nat) {b : Nat} {o o' : Obj} (hi : L[i]? = some (b, o)) (k : Fr (fun j => j = b) w w') (hb : w'.heap[b]? = some o') : St B (L.set i (b, o')) w' := by
  have hmem : (b, o) ∈ L := List.mem_of_getElem? hi
  have hmap := map_set_fst (o' := o') hi
  refine ⟨fun x hx => (h.fr x hx).trans' k (fun _ _ s => s) ?_, ?_, by rw [hmap]; exact h.nd, ?_⟩
  · rintro j hj rfl
    rcases h.ok _ hmem x hx with hh | hh
    · exact hh
    dsimp only at hh; omega
  · intro p hp
    obtain ⟨j, hj⟩ := List.getElem?_of_mem hp
    rw [List.getElem?_set] at hj
    split at hj
    · split at hj
      · cases hj; exact hb
      cases hj
    rename_i hij
    refine k.get (h.own p (List.mem_of_getElem? hj)) ?_
    intro he
    have h1 : (L.map (·.1))[j]? = some b := by rw [List.getElem?_map, hj]; simp [he]
    have h2 : (L.map (·.1))[i]? = some b := by rw [List.getElem?_map, hi]; rfl
    exact hij (nodup_idx h.nd h2 h1)
  intro p hp x hx
  have : p.1 ∈ L.map (·.1) := by rw [← hmap]; exact List.mem_map_of_mem hp
  obtain ⟨p', hp', he⟩ := List.mem_map.1 this
  rw [← he]; exact h.ok p' hp' x hx
theorem St.base {B : Base} {L : Heap} {w : World} (h : St B L w) (S : Nat → Prop) : St ((w, fun k => S k ∨ k ∈ L.map (·.1)) :: B) L w := by
  refine ⟨?_, h.own, h.nd, ?_⟩
  · intro x hx
    rcases List.mem_cons.1 hx with rfl | hx
    · exact Fr.refl _ _
    exact h.fr x hx
  intro p hp x hx
  rcases List.mem_cons.1 hx with rfl | hx
  · exact .inl (.inr (List.mem_map_of_mem hp))
  exact h.ok p hp x hx
theorem St.drop {B : Base} {L : Heap} {w : World} (h : St B L w) {L' : Heap} (hs : L'.Sublist L) : St B L' w :=
  ⟨h.fr, fun p hp => h.own p (hs.subset hp), (hs.map _).nodup h.nd, fun p hp => h.ok p (hs.subset hp)⟩
end Go.Sx
end
section
namespace Go.Sx
open Go.RowKit
section
variable {P : Program} {ρ : Operand → Value} {w : World} {D : Option Tmp} {ty : TypeId} {pos : String} {aft : Array Edge} {g : Option (Nat × Bool)} {x y z c : Operand} {v u : Value} {t s : TypeId} {k : IntKind} {i j : Int} {yt : TypeId}
def szB (P : Program) (t : TypeId) (k : Nat) (agg : Bool) : Bool :=
  match P.info? t, P.underlying t with
  | some i, some d => Nat.beq i.size k && (agg == match d with | .struct _ | .array _ _ => true | _ => false)
  | _, _ => false
def faB (P : Program) (s : TypeId) (f off : Nat) : Bool :=
  match P.underlying s with
  | some (.struct fs) => match fs[f]? with
    | some fl => Nat.beq fl.offset off && match P.info? fl.type with | some i => !(Nat.beq i.size 0) | none => false
    | none => false
  | _ => false
def slB (P : Program) (t : TypeId) (k : Nat) : Bool :=
  match P.underlying t with
  | some (.slice e) => match P.info? e with | some i => Nat.beq i.size k | none => false
  | _ => false
def strB (P : Program) (t : TypeId) : Bool := match P.underlying t with | some .string => true | _ => false
theorem szB_spec {n : Nat} {b : Bool} (h : szB P t n b = true) : ∃ i d, P.info? t = some i ∧ P.underlying t = some d ∧ i.size = n ∧ (b = match d with | .struct _ | .array _ _ => true | _ => false) := by
  unfold szB at h
  split at h
  · rename_i i d h1 h2
    simp only [Bool.and_eq_true, beq_iff_eq] at h
    exact ⟨i, d, h1, h2, Nat.eq_of_beq_eq_true h.1, h.2⟩
  cases h
theorem run_isAgg {n : Nat} {b : Bool} (h : szB P t n b = true) : (isAgg t).run P w = .ok b w := by
  obtain ⟨i, d, h1, h2, h3, h4⟩ := szB_spec h
  subst h4
  unfold isAgg
  simp only [Sem.run_bind, run_underlying h2, Result.andThen_ok]
  cases d <;> rfl
theorem run_sizeOf {n : Nat} {b : Bool} (h : szB P t n b = true) : (sizeOf t).run P w = .ok n w := by
  obtain ⟨i, d, h1, h2, h3, h4⟩ := szB_spec h
  subst h3
  simp [sizeOf, typeInfo, h1, go_sem]
theorem pure_run {α : Type} (a : α) (w : World) : (pure a : Sem α).run P w = .ok a w := rfl
theorem R_move (hx : ρ x = v) : Run P ⟨D, .move x, ty, pos, aft, g⟩ ρ w v w := by simp [Run, execOp, hx, pure]
theorem R_assign (hx : ρ x = v) : Run P ⟨D, .assign x, ty, pos, aft, g⟩ ρ w v w := by simp [Run, execOp, hx, pure]
theorem R_nil {a : Addr} (hx : ρ x = .pointer (some a)) : Run P ⟨D, .nilCheck x, ty, pos, aft, g⟩ ρ w (.pointer (some a)) w := by simp [Run, execOp, hx, pure]
theorem zT (hc : ρ c = .bool true) (hx : ρ x = v) : Run P ⟨D, .pick c x y, ty, pos, aft, g⟩ ρ w v w := by simp [Run, execOp, hc, hx, go_sem]
theorem zF (hc : ρ c = .bool false) (hy : ρ y = v) : Run P ⟨D, .pick c x y, ty, pos, aft, g⟩ ρ w v w := by simp [Run, execOp, hc, hy, go_sem]
theorem R_extract {vs : Array Value} {ix : Nat} (hx : ρ x = .tuple vs) (hi : vs[ix]? = some v) : Run P ⟨D, .extract x ix, ty, pos, aft, g⟩ ρ w v w := by simp [Run, execOp, hx, hi, go_sem, Instr.extract]
theorem R_fa {f off o b : Nat} (hf : faB P s f off = true) (hx : ρ x = .pointer (some ⟨b, o, none⟩)) : Run P ⟨D, .fieldAddr s x f, ty, pos, aft, g⟩ ρ w (.pointer (some ⟨b, o + off, none⟩)) w := by
  unfold faB at hf
  split at hf <;> try cases hf
  rename_i fs hs
  split at hf <;> try cases hf
  rename_i fl hfl
  simp only [Bool.and_eq_true] at hf
  obtain ⟨h1, h2⟩ := hf
  replace h1 := Nat.eq_of_beq_eq_true h1
  split at h2 <;> try cases h2
  rename_i i hi
  have h3 : i.size ≠ 0 := by intro h; rw [h] at h2; cases h2
  simp [Run, execOp, hx, go_sem, run_underlying hs, hfl, Instr.fieldAt, fieldPlace, hi, h3, sizeOf, typeInfo, h1]
theorem R_ld1 {a : Addr} (hz : szB P t 1 false = true) (hx : ρ x = .pointer (some a)) (hc : w.cell? a = some v) : Run P ⟨D, .load t x, ty, pos, aft, g⟩ ρ w v w := by
  simp [Run, execOp, hx, Instr.loadAt, Instr.sureAddr, loadVar, run_isAgg hz, hc, go_sem]
theorem R_ldA {b o n : Nat} {l : List Value} (hz : szB P t n true = true) (hx : ρ x = .pointer (some ⟨b, o, none⟩)) (hl : l.length = n) (hc : ∀ j v, l[j]? = some v → w.cell? ⟨b, o + j, none⟩ = some v) :
    Run P ⟨D, .load t x, ty, pos, aft, g⟩ ρ w (.agg l.toArray) w := by
  have h := run_loadCells_list (P := P) (w := w) ⟨b, o, none⟩ l (by intro j v hj; have := hc j v hj; simp only [Addr.add]; split <;> simp_all)
  subst hl
  have e : (loadVar t ⟨b, o, none⟩).run P w = .ok (.agg l.toArray) w := by
    unfold loadVar
    rw [Sem.run_bind, run_isAgg hz, Result.andThen_ok]
    simp only [if_true]
    rw [Sem.run_bind, run_sizeOf hz, Result.andThen_ok, Sem.run_bind, h, Result.andThen_ok]
    rfl
  unfold Run
  simp only [execOp, hx, Instr.loadAt, Instr.sureAddr, Sem.run_bind, pure_run, Result.andThen_ok, e]
theorem R_ldb {b o n : Nat} {cs : List Value} {T : TypeId} (hz : szB P t n true = true) (hx : ρ x = .pointer (some ⟨b, o, none⟩)) (hb : w.heap[b]? = some (.cells cs.toArray T (0, 0))) (hn : Nat.ble (o + n) cs.length = true) :
    Run P ⟨D, .load t x, ty, pos, aft, g⟩ ρ w (.agg ((cs.drop o).take n).toArray) w := by
  have hn' := Nat.le_of_ble_eq_true hn
  refine R_ldA hz hx (by simp; omega) ?_
  intro j v hj
  rw [List.getElem?_take] at hj
  split at hj
  · rw [List.getElem?_drop] at hj
    simp [World.cell?, hb, hj]
  cases hj
theorem run_storeVar_row {b o n : Nat} {T : TypeId} {cs vs : List Value} {ag : Bool} (hz : szB P t n ag = true) (hv : v.cells = vs.toArray) (hl : vs.length = n) (h1 : vs.all Value.oneCell' = true)
    (hb : w.heap[b]? = some (.cells cs.toArray T (0, 0))) (ho : o + n ≤ cs.length) :
    (storeVar t ⟨b, o, none⟩ v).run P w = .ok () (w.setRow b (cs.take o ++ vs ++ cs.drop (o + n)).toArray) := by
  have h := run_storeCells_at (P := P) b o T vs 0 cs.toArray w hb (by simp; omega) (fun v hv => List.all_eq_true.1 h1 v hv)
  simp only [Nat.add_zero] at h
  subst hl
  unfold storeVar
  rw [Sem.run_bind, run_sizeOf hz, Result.andThen_ok, if_neg (by simp [hv])]
  rw [hv]
  exact h
theorem R_st {b o n : Nat} {T : TypeId} {cs vs : List Value} {ag : Bool} (hz : szB P t n ag = true) (ha : ρ x = .pointer (some ⟨b, o, none⟩)) (hy : ρ y = v) (hv : v.cells = vs.toArray) (hl : vs.length = n)
    (h1 : vs.all Value.oneCell' = true) (hb : w.heap[b]? = some (.cells cs.toArray T (0, 0))) (ho : o + n ≤ cs.length) :
    RunU P ⟨D, .store t x y, ty, pos, aft, g⟩ ρ w (w.setRow b (cs.take o ++ vs ++ cs.drop (o + n)).toArray) := by
  unfold RunU
  simp only [execOp, ha, hy, Instr.storeAt, Instr.sureAddr, Sem.run_bind, pure_run, Result.andThen_ok, run_storeVar_row hz hv hl h1 hb ho]
def zeroB (P : Program) (t : TypeId) (z : Value) : Prop := (P.info? t).map (·.zero) = some (some z)
theorem R_alloc {zv : Value} (hz : zeroB P t zv) : Run P ⟨D, .alloc t, ty, pos, aft, g⟩ ρ w (.pointer (some ⟨w.heap.size, 0, none⟩)) (w.alloc (.cells zv.cells t (0, 0))) := by
  obtain ⟨i, h1, h2⟩ : ∃ i, P.info? t = some i ∧ i.zero = some zv := by
    unfold zeroB at hz
    cases hi : P.info? t with
    | none => rw [hi] at hz; cases hz
    | some i => rw [hi] at hz; exact ⟨i, rfl, by simpa using hz⟩
  simp [Run, execOp, Instr.alloc, zeroValue, typeInfo, h1, h2, newVar, newRow, go_sem]
theorem R_box (hx : ρ x = v) : Run P ⟨D, .box t x, ty, pos, aft, g⟩ ρ w (.pointer (some ⟨w.heap.size, 0, none⟩)) (w.alloc (.cells v.cells t (0, 0))) := by
  subst hx
  rfl
theorem wrap_i64 {n : Int} (h1 : -9223372036854775808 ≤ n) (h2 : n ≤ 9223372036854775807) : IntKind.i64.wrap n = n := by rw [IntKind.wrap_i64]; omega
theorem R_add (hx : ρ x = .int k i) (hy : ρ y = .int k j) : Run P ⟨D, .binOp .add t x y yt, ty, pos, aft, g⟩ ρ w (.int k (k.wrap (i + j))) w := by simp [Run, execOp, hx, hy, go_sem]
theorem R_sub (hx : ρ x = .int k i) (hy : ρ y = .int k j) : Run P ⟨D, .binOp .sub t x y yt, ty, pos, aft, g⟩ ρ w (.int k (k.wrap (i - j))) w := by simp [Run, execOp, hx, hy, go_sem]
theorem R_mul (hx : ρ x = .int k i) (hy : ρ y = .int k j) : Run P ⟨D, .binOp .mul t x y yt, ty, pos, aft, g⟩ ρ w (.int k (k.wrap (i * j))) w := by simp [Run, execOp, hx, hy, go_sem]
theorem R_addi (hx : ρ x = .int .i64 i) (hy : ρ y = .int .i64 j) (h : -9223372036854775808 ≤ i + j ∧ i + j ≤ 9223372036854775807) : Run P ⟨D, .binOp .add t x y yt, ty, pos, aft, g⟩ ρ w (.int .i64 (i + j)) w := by
  have := R_add (P := P) (w := w) (D := D) (t := t) (yt := yt) (ty := ty) (pos := pos) (aft := aft) (g := g) hx hy; rwa [wrap_i64 h.1 h.2] at this
theorem R_subi (hx : ρ x = .int .i64 i) (hy : ρ y = .int .i64 j) (h : -9223372036854775808 ≤ i - j ∧ i - j ≤ 9223372036854775807) : Run P ⟨D, .binOp .sub t x y yt, ty, pos, aft, g⟩ ρ w (.int .i64 (i - j)) w := by
  have := R_sub (P := P) (w := w) (D := D) (t := t) (yt := yt) (ty := ty) (pos := pos) (aft := aft) (g := g) hx hy; rwa [wrap_i64 h.1 h.2] at this
theorem R_muli (hx : ρ x = .int .i64 i) (hy : ρ y = .int .i64 j) (h : -9223372036854775808 ≤ i * j ∧ i * j ≤ 9223372036854775807) : Run P ⟨D, .binOp .mul t x y yt, ty, pos, aft, g⟩ ρ w (.int .i64 (i * j)) w := by
  have := R_mul (P := P) (w := w) (D := D) (t := t) (yt := yt) (ty := ty) (pos := pos) (aft := aft) (g := g) hx hy; rwa [wrap_i64 h.1 h.2] at this
theorem R_lt (hx : ρ x = .int k i) (hy : ρ y = .int k j) : Run P ⟨D, .binOp .lss t x y yt, ty, pos, aft, g⟩ ρ w (.bool (decide (i < j))) w := by simp [Run, execOp, hx, hy, go_sem]
theorem R_le (hx : ρ x = .int k i) (hy : ρ y = .int k j) : Run P ⟨D, .binOp .leq t x y yt, ty, pos, aft, g⟩ ρ w (.bool (decide (i ≤ j))) w := by simp [Run, execOp, hx, hy, go_sem]
theorem R_gt (hx : ρ x = .int k i) (hy : ρ y = .int k j) : Run P ⟨D, .binOp .gtr t x y yt, ty, pos, aft, g⟩ ρ w (.bool (decide (j < i))) w := by simp [Run, execOp, hx, hy, go_sem]
theorem R_ge (hx : ρ x = .int k i) (hy : ρ y = .int k j) : Run P ⟨D, .binOp .geq t x y yt, ty, pos, aft, g⟩ ρ w (.bool (decide (j ≤ i))) w := by simp [Run, execOp, hx, hy, go_sem]
theorem R_eq (hx : ρ x = .int k i) (hy : ρ y = .int k j) : Run P ⟨D, .binOp .eql t x y yt, ty, pos, aft, g⟩ ρ w (.bool (decide (i = j))) w := by
  have : decide (i = j) = (i == j) := by by_cases h : i = j <;> simp [h]
  rw [this]; simp [Run, execOp, hx, hy, go_sem]
theorem R_ne (hx : ρ x = .int k i) (hy : ρ y = .int k j) : Run P ⟨D, .binOp .neq t x y yt, ty, pos, aft, g⟩ ρ w (.bool (decide (¬ i = j))) w := by
  have : decide (¬ i = j) = (i != j) := by by_cases h : i = j <;> simp [h]
  rw [this]; simp [Run, execOp, hx, hy, go_sem]
theorem R_not {b : Bool} (hx : ρ x = .bool b) : Run P ⟨D, .unOp .not t x, ty, pos, aft, g⟩ ρ w (.bool (!b)) w := by simp [Run, execOp, hx, go_sem]
theorem R_neg (hx : ρ x = .int k i) : Run P ⟨D, .unOp .neg t x, ty, pos, aft, g⟩ ρ w (.int k (k.wrap (-i))) w := by simp [Run, execOp, hx, go_sem]
abbrev str (l : List UInt8) : Value := .string ⟨l.toArray⟩
variable {a b : List UInt8} {tys : Array TypeId}
theorem size_mk : (⟨a.toArray⟩ : ByteArray).size = a.length := rfl
theorem R_seq (hx : ρ x = str a) (hy : ρ y = str b) : Run P ⟨D, .binOp .eql t x y yt, ty, pos, aft, g⟩ ρ w (.bool (decide (a = b))) w := by
  have e : (a == b) = decide (a = b) := by by_cases h : a = b <;> simp [h]
  simp [Run, execOp, hx, hy, go_sem, e]
theorem R_sne (hx : ρ x = str a) (hy : ρ y = str b) : Run P ⟨D, .binOp .neq t x y yt, ty, pos, aft, g⟩ ρ w (.bool (decide (¬ a = b))) w := by
  have e : (a == b) = decide (a = b) := by by_cases h : a = b <;> simp [h]
  simp [Run, execOp, hx, hy, go_sem, e]
theorem R_cat (hx : ρ x = str a) (hy : ρ y = str b) (h : a.length + b.length ≤ 9223372036854775807) : Run P ⟨D, .binOp .add t x y yt, ty, pos, aft, g⟩ ρ w (str (a ++ b)) w := by
  have := run_string_add_sum (P := P) w ⟨a.toArray⟩ ⟨b.toArray⟩ h
  rw [ByteArray.mk_append_mk] at this
  simp [Run, execOp, hx, hy, this, go_sem]
theorem strB_spec (h : strB P t = true) : P.underlying t = some .string := by
  unfold strB at h
  split at h
  · assumption
  cases h
theorem R_slen (hu : strB P t = true) (hx : ρ x = str a) (h : a.length ≤ 9223372036854775807) : Run P ⟨D, .call ⟨.builtin .len, #[x], #[t]⟩, ty, pos, aft, g⟩ ρ w (.int .i64 a.length) w := by
  simp [Run, execOp, hx, go_sem, Builtin.len_, run_underlying (strB_spec hu), goInt, size_mk]
theorem R_sidx (hu : strB P t = true) (hx : ρ x = str a) (hy : ρ y = .int k i) (h0 : 0 ≤ i) (h1 : i.toNat < a.length) : Run P ⟨D, .index t x y, ty, pos, aft, g⟩ ρ w (.int .u8 (a[i.toNat].toNat : Int)) w := by
  have h2 : i < (a.length : Int) := by omega
  simp [Run, execOp, hx, hy, go_sem, run_index_string, strB_spec hu, h0, h1, h2, size_mk]
  rfl
theorem R_ssl {lo hi : Operand} {kl kh : IntKind} {l h : Int} (hu : strB P t = true) (hx : ρ x = str a) (hlo : ρ lo = .int kl l) (hhi : ρ hi = .int kh h) (h0 : 0 ≤ l) (h1 : l ≤ h) (h2 : h ≤ a.length) :
    Run P ⟨D, .slice t x (some lo) (some hi) none, ty, pos, aft, g⟩ ρ w (str ((a.drop l.toNat).take (h.toNat - l.toNat))) w := by
  have := ByteArray.extract_mk a l.toNat h.toNat
  simp [Run, execOp, hx, hlo, hhi, go_sem, Instr.sliceAt, Instr.slice, run_underlying (strB_spec hu), Instr.sliceBounds, Instr.sliceBound, h0, h1, h2, this, size_mk, Int.le_trans h0 h1]
  intro hm; exfalso; omega
theorem R_ssl_lo {lo : Operand} {kl : IntKind} {l : Int} (hu : strB P t = true) (hx : ρ x = str a) (hlo : ρ lo = .int kl l) (h0 : 0 ≤ l) (h1 : l ≤ a.length) :
    Run P ⟨D, .slice t x (some lo) none none, ty, pos, aft, g⟩ ρ w (str (a.drop l.toNat)) w := by
  have := ByteArray.extract_mk a l.toNat a.length
  simp [Run, execOp, hx, hlo, go_sem, Instr.sliceAt, Instr.slice, run_underlying (strB_spec hu), Instr.sliceBounds, Instr.sliceBound, h0, h1, this, size_mk, List.take_of_length_le]
theorem R_sslN {lo hi : Operand} {kl kh : IntKind} {l h : Nat} (hu : strB P t = true) (hx : ρ x = str a) (hlo : ρ lo = .int kl (l : Nat)) (hhi : ρ hi = .int kh (h : Nat)) (h1 : l ≤ h) (h2 : h ≤ a.length) :
    Run P ⟨D, .slice t x (some lo) (some hi) none, ty, pos, aft, g⟩ ρ w (str ((a.drop l).take (h - l))) w := R_ssl hu hx hlo hhi (Int.natCast_nonneg _) (by omega) (by omega)
theorem R_ssl_loN {lo : Operand} {kl : IntKind} {l : Nat} (hu : strB P t = true) (hx : ρ x = str a) (hlo : ρ lo = .int kl (l : Nat)) (h1 : l ≤ a.length) :
    Run P ⟨D, .slice t x (some lo) none none, ty, pos, aft, g⟩ ρ w (str (a.drop l)) w := R_ssl_lo hu hx hlo (Int.natCast_nonneg _) (by omega)
variable {ad : Option Addr} {n m : Nat}
theorem slB_spec {q : Nat} (h : slB P t q = true) : ∃ e i, P.underlying t = some (.slice e) ∧ P.info? e = some i ∧ i.size = q := by
  unfold slB at h
  split at h
  · rename_i e h1
    split at h
    · rename_i i h2; exact ⟨e, i, h1, h2, Nat.eq_of_beq_eq_true h⟩
    cases h
  cases h
theorem R_len {q : Nat} (hu : slB P t q = true) (hx : ρ x = .slice ad n m) : Run P ⟨D, .call ⟨.builtin .len, #[x], #[t]⟩, ty, pos, aft, g⟩ ρ w (.int .i64 n) w := by
  obtain ⟨e, i, h1, _, _⟩ := slB_spec hu
  simp [Run, execOp, hx, go_sem, Builtin.len_, run_underlying h1, goInt]
theorem R_ia {q b o : Nat} (hu : slB P t q = true) (hx : ρ x = .slice (some ⟨b, o, none⟩) n m) (hy : ρ y = .int k i) (h0 : 0 ≤ i) (h1 : i < n) : Run P ⟨D, .indexAddr t x y, ty, pos, aft, g⟩ ρ w (.pointer (some ⟨b, o + i.toNat * q, none⟩)) w := by
  obtain ⟨e, ti, h2, h3, h4⟩ := slB_spec hu
  simp [Run, execOp, hx, hy, go_sem, Instr.indexAt, run_underlying h2, sizeOf, typeInfo, h3, h4, asIntOf, h0, h1]
theorem R_iaN {q b o i : Nat} (hu : slB P t q = true) (hx : ρ x = .slice (some ⟨b, o, none⟩) n m) (hy : ρ y = .int k (i : Nat)) (h1 : i < n) : Run P ⟨D, .indexAddr t x y, ty, pos, aft, g⟩ ρ w (.pointer (some ⟨b, o + i * q, none⟩)) w := R_ia hu hx hy (Int.natCast_nonneg _) (by omega)
def arB (P : Program) (t : TypeId) (n k : Nat) (ag : Bool) : Bool :=
  match P.underlying t with
  | some (.array m e) => Nat.beq m n && szB P e k ag
  | _ => false
theorem R_aidx {m i : Nat} {kk : IntKind} {l : List Value} (hu : arB P t m 1 false = true) (hx : ρ x = .agg l.toArray) (hy : ρ y = .int kk (i : Nat)) (h1 : Nat.blt i m = true) (hv : l[i]? = some v) : Run P ⟨D, .index t x y, ty, pos, aft, g⟩ ρ w v w := by
  unfold arB at hu
  split at hu
  · rename_i m' e he
    simp only [Bool.and_eq_true] at hu
    obtain ⟨hm, hz⟩ := hu
    have hm := Nat.eq_of_beq_eq_true hm
    subst hm
    have hi : i < m' := by simpa [Nat.blt_eq] using h1
    have hp : (part e l.toArray (i * 1)).run P w = .ok v w := by
      unfold part
      rw [Sem.run_bind, run_isAgg hz, Result.andThen_ok]
      simp [hv]
    unfold Run
    simp only [execOp, hx, hy, Instr.index, asIntOf, Sem.run_bind, pure_run, Result.andThen_ok, run_underlying he]
    rw [if_pos (by omega)]
    simp only [Sem.run_bind, run_sizeOf hz, Result.andThen_ok, Int.toNat_natCast, hp]
  cases hu
def fillL (pl : List (Nat × Nat)) : List (Nat × Value) → List Value → List Value
  | [], z => z
  | (i, v) :: rest, z =>
    match pl[i]? with
    | none => z
    | some (off, _) => fillL pl rest (z.take off ++ v.cells.toList ++ z.drop (off + v.cells.toList.length))
def fillB (pl : List (Nat × Nat)) : List (Nat × Value) → Nat → Bool
  | [], _ => true
  | (i, v) :: rest, m =>
    match pl[i]? with
    | none => false
    | some (off, size) => Nat.beq v.cells.toList.length size && Nat.ble (off + v.cells.toList.length) m && fillB pl rest m
theorem foldl_put (l : List Value) : ∀ (off j : Nat) (z : List Value), off + j + l.length ≤ z.length →
    (l.zipIdx j).foldl (fun (cs : Array Value) (x : Value × Nat) => cs.setIfInBounds (off + x.2) x.1) z.toArray = (z.take (off + j) ++ l ++ z.drop (off + j + l.length)).toArray := by
  induction l with
  | nil => intro off j z h; simp
  | cons v l ih =>
    intro off j z h
    simp only [List.length_cons] at h
    rw [List.zipIdx_cons, List.foldl_cons]
    rw [List.setIfInBounds_toArray]
    rw [show off + j = off + j from rfl]
    have hih := ih off (j + 1) (z.set (off + j) v) (by simp; omega)
    rw [hih]
    congr 1
    rw [List.take_set, List.drop_set]
    simp only [List.length_cons]
    rw [if_pos (by omega)]
    have e1 : (List.take (off + (j + 1)) z).set (off + j) v = List.take (off + j) z ++ [v] := by
      rw [show off + (j + 1) = off + j + 1 from by omega, List.take_succ_eq_append_getElem (by omega), List.set_append_right _ _ (by simp; omega)]
      simp; rw [show off + j - min (off + j) z.length = 0 from by omega]; rfl
    rw [e1, show off + (j + 1) + l.length = off + j + (l.length + 1) from by omega]
    simp
theorem fill_eq (pl : List (Nat × Nat)) : ∀ (parts : List (Nat × Value)) (z : List Value), fillB pl parts z.length = true → Instr.fill (pl[·]?) z.toArray parts = some (fillL pl parts z).toArray
  | [], z, _ => rfl
  | (i, v) :: rest, z, h => by
    unfold fillB at h
    unfold Instr.fill fillL
    split at h
    · cases h
    · rename_i off size he
      simp only [Bool.and_eq_true] at h
      obtain ⟨⟨h1, h2⟩, h3⟩ := h
      replace h1 := Nat.eq_of_beq_eq_true h1
      replace h2 := Nat.le_of_ble_eq_true h2
      simp only [Array.length_toList] at h1 h2
      simp only [he]
      rw [if_neg (by simp only [ne_eq, h1, not_true, decide_false, Bool.false_or, List.size_toArray, gt_iff_lt, decide_eq_true_eq]; omega)]
      have hf := foldl_put v.cells.toList off 0 z (by simp; omega)
      have e2 : Array.foldl (fun cs x => match x with | (c, j) => cs.setIfInBounds (off + j) c) z.toArray v.cells.zipIdx = (z.take off ++ v.cells.toList ++ z.drop (off + v.cells.toList.length)).toArray := by
        rw [← Array.foldl_toList, Array.toList_zipIdx]
        simpa using hf
      rw [e2]
      exact fill_eq pl rest _ (by
        have : (z.take off ++ v.cells.toList ++ z.drop (off + v.cells.toList.length)).length = z.length := by simp; omega
        rw [this]; exact h3)
def buildTab (P : Program) (t : TypeId) : Option (List (Nat × Nat) × List Value) :=
  match P.underlying t, P.info? t with
  | some (.struct fs), some i =>
    match i.zero, fs.toList.mapM (fun f => (P.info? f.type).map fun j => (f.offset, j.size)) with
    | some z, some pl => some (pl, z.cells.toList)
    | _, _ => none
  | _, _ => none
theorem mapM_places {w : World} : ∀ (l : List Field) (pl : List (Nat × Nat)), l.mapM (fun f => (P.info? f.type).map fun j => (f.offset, j.size)) = some pl →
    (l.mapM (fun f => do pure (f.offset, ← sizeOf f.type) : Field → Sem (Nat × Nat))).run P w = .ok pl w
  | [], pl, h => by simp at h; subst h; rfl
  | f :: l, pl, h => by
    rw [List.mapM_cons] at h
    cases hj : P.info? f.type with
    | none => simp [hj] at h
    | some j =>
      cases hr : l.mapM (fun f => (P.info? f.type).map fun j => (f.offset, j.size)) with
      | none => simp [hj, hr] at h
      | some r =>
        simp [hj, hr] at h
        subst h
        have ih := mapM_places (w := w) l r hr
        rw [List.mapM_cons]
        simp only [Sem.run_bind, sizeOf, typeInfo, run_program, Result.andThen_ok, hj, Sem.run_pure]
        simp only [sizeOf, typeInfo] at ih
        rw [ih]
        rfl
theorem R_build {pl : List (Nat × Nat)} {zl : List Value} {parts : List (Nat × Operand)} (ht : buildTab P t = some (pl, zl)) (hf : fillB pl (parts.map fun p => (p.1, ρ p.2)) zl.length = true) :
    Run P ⟨D, .build t parts.toArray, ty, pos, aft, g⟩ ρ w (.agg (fillL pl (parts.map fun p => (p.1, ρ p.2)) zl).toArray) w := by
  unfold buildTab at ht
  split at ht <;> try cases ht
  rename_i fs i h1 h2
  split at ht <;> try cases ht
  rename_i z h3 h4
  have hm := mapM_places (w := w) fs.toList pl h4
  have hm' : (fs.mapM (fun f => do pure (f.offset, ← sizeOf f.type) : Field → Sem (Nat × Nat))).run P w = .ok pl.toArray w := by
    rw [← Array.toArray_toList (xs := fs), List.mapM_toArray]
    simp only [Sem.run_map, hm, Result.andThen_ok]
  have hfe := fill_eq pl (parts.map fun p => (p.1, ρ p.2)) z.cells.toList hf
  unfold Run
  simp only [execOp, Instr.build, Sem.run_bind, zeroValue, typeInfo, run_program, Result.andThen_ok, h2, h3, Sem.run_pure, run_underlying h1, hm']
  simp only [Array.toArray_toList] at hfe
  simp only [List.map_toArray, List.getElem?_toArray]
  rw [hfe]
  rfl
def plA (m k : Nat) : List (Nat × Nat) := (List.range m).map fun i => (i * k, k)
theorem fill_arr (m k : Nat) : ∀ (parts : List (Nat × Value)) (z : List Value), fillB (plA m k) parts z.length = true → Instr.fill (fun i => some (i * k, k)) z.toArray parts = Instr.fill ((plA m k)[·]?) z.toArray parts
  | [], z, _ => rfl
  | (i, v) :: rest, z, h => by
    have h' := fill_eq (plA m k) ((i, v) :: rest) z h
    unfold fillB at h
    unfold Instr.fill
    split at h
    · cases h
    · rename_i off size he
      have e2 : off = i * k ∧ k = size := by
        simp only [plA, List.getElem?_map, Option.map_eq_some_iff] at he
        obtain ⟨j, hj, he⟩ := he
        have := (List.getElem?_eq_some_iff.1 hj).2
        simp at this
        subst this
        simp at he
        exact ⟨he.1.symm, he.2⟩
      obtain ⟨rfl, rfl⟩ := e2
      simp only [he]
      simp only [Bool.and_eq_true] at h
      obtain ⟨⟨h1, h2⟩, h3⟩ := h
      replace h1 := Nat.eq_of_beq_eq_true h1
      replace h2 := Nat.le_of_ble_eq_true h2
      simp only [Array.length_toList] at h1 h2
      rw [if_neg (by simp only [ne_eq, h1, not_true, decide_false, Bool.false_or, List.size_toArray, gt_iff_lt, decide_eq_true_eq]; omega)]
      rw [if_neg (by simp only [ne_eq, h1, not_true, decide_false, Bool.false_or, List.size_toArray, gt_iff_lt, decide_eq_true_eq]; omega)]
      have hf := foldl_put v.cells.toList (i * k) 0 z (by simp; omega)
      have e2 : Array.foldl (fun cs x => match x with | (c, j) => cs.setIfInBounds (i * k + j) c) z.toArray v.cells.zipIdx = (z.take (i * k) ++ v.cells.toList ++ z.drop (i * k + v.cells.toList.length)).toArray := by
        rw [← Array.foldl_toList, Array.toList_zipIdx]
        simpa using hf
      rw [e2]
      refine fill_arr m k rest _ ?_
      have : (z.take (i * k) ++ v.cells.toList ++ z.drop (i * k + v.cells.toList.length)).length = z.length := by simp; omega
      rw [this]; exact h3
theorem R_buildA {m q : Nat} {ag : Bool} {zl : List Value} {parts : List (Nat × Operand)} (hu : arB P t m q ag = true) (hz : zeroB P t (.agg zl.toArray)) (hf : fillB (plA m q) (parts.map fun p => (p.1, ρ p.2)) zl.length = true) :
    Run P ⟨D, .build t parts.toArray, ty, pos, aft, g⟩ ρ w (.agg (fillL (plA m q) (parts.map fun p => (p.1, ρ p.2)) zl).toArray) w := by
  unfold arB at hu
  split at hu
  · rename_i m' e he
    simp only [Bool.and_eq_true] at hu
    obtain ⟨hm, hs⟩ := hu
    have hm := Nat.eq_of_beq_eq_true hm
    subst hm
    obtain ⟨i, h1, h2⟩ : ∃ i, P.info? t = some i ∧ i.zero = some (.agg zl.toArray) := by
      unfold zeroB at hz
      cases hi : P.info? t with
      | none => rw [hi] at hz; cases hz
      | some i => rw [hi] at hz; exact ⟨i, rfl, by simpa using hz⟩
    have hfe := fill_eq (plA m' q) (parts.map fun p => (p.1, ρ p.2)) zl hf
    rw [← fill_arr m' q _ _ hf] at hfe
    unfold Run
    simp only [execOp, Instr.build, Sem.run_bind, zeroValue, typeInfo, run_program, Result.andThen_ok, h1, h2, Sem.run_pure, run_underlying he, run_sizeOf hs, Value.cells, List.map_toArray]
    rw [hfe]
    rfl
  · cases hu
theorem zR {f : FuncId} {fn : Func} {al : List Operand} {c : Code} (hf : P.funcs[f]? = some fn) (hb : fn.body = some c) (hn : (fn.name == "runtime.NumGoroutine") = false) (hx : ρ x = .func (.func f) #[] #[]) :
    RunE P ⟨D, .call ⟨.value x, al.toArray, tys⟩, ty, pos, aft, g⟩ ρ w f (al.map ρ).toArray := by
  have hn' : ¬ fn.name = "runtime.NumGoroutine" := by intro h; rw [h] at hn; exact absurd hn (by decide)
  simp [RunE, execOp, hx, go_sem, resolve, invoke, callFunc, hf, hb, hn']
theorem R_callv {f : FuncId} {fn : Func} {al : List Operand} {c : Code} {fi ca : List Value} (hx : ρ x = .func (.func f) fi.toArray ca.toArray) (hf : P.funcs[f]? = some fn) (hb : fn.body = some c) (hn : (fn.name == "runtime.NumGoroutine") = false) :
    RunE P ⟨D, .call ⟨.value x, al.toArray, tys⟩, ty, pos, aft, g⟩ ρ w f (fi ++ al.map ρ ++ ca).toArray := by
  have hn' : ¬ fn.name = "runtime.NumGoroutine" := by intro h; rw [h] at hn; exact absurd hn (by decide)
  simp [RunE, execOp, hx, go_sem, resolve, invoke, callFunc, hf, hb, hn']
theorem R_makeFunc {fn : Fn} {fi ca : List Operand} : Run P ⟨D, .makeFunc fn fi.toArray ca.toArray, ty, pos, aft, g⟩ ρ w (.func fn (fi.map ρ).toArray (ca.map ρ).toArray) w := by
  simp [Run, execOp, Instr.makeFunc, go_sem]
theorem R_min (hx : ρ x = .int k i) (hy : ρ y = .int k j) : Run P ⟨D, .call ⟨.builtin .min, #[x, y], tys⟩, ty, pos, aft, g⟩ ρ w (.int k (if j < i then j else i)) w := by
  simp [Run, execOp, hx, hy, go_sem, resolve, invoke, builtin, Builtin.min_, Builtin.min2]
theorem R_max (hx : ρ x = .int k i) (hy : ρ y = .int k j) : Run P ⟨D, .call ⟨.builtin .max, #[x, y], tys⟩, ty, pos, aft, g⟩ ρ w (.int k (if i < j then j else i)) w := by
  simp [Run, execOp, hx, hy, go_sem, resolve, invoke, builtin, Builtin.max_, Builtin.max2]
end
end Go.Sx
end
section
namespace Go.Sx
open Go.RowKit
inductive Md where
  | sq
  | qt
  | st (tl : List Oper)
def Md.callsB : Md → Bool
  | .st _ => false
  | _ => true
def WX (q : Md) (P : Program) (ops : Array Oper) (c : Cf) (Q : Exit → Act → World → Prop) (l : List Oper) (e : Env) (B : Base) (L : Heap) : Prop :=
  match q with
  | .sq => ∀ w, St B L w → WL c P ops Q l e w
  | .st tl => ∀ w, St B L w → wpStill P ops w (fun a' => wpList P ops Q tl a' w) l (act c e)
  | .qt => wpQuiet P ops (St B L) (fun a' => ∀ w', St B L w' → Q .normal a' w') l (act c e)
def WC (P : Program) (c : Cf) (x : Code) (Q : Exit → Act → World → Prop) (e : Env) (B : Base) (L : Heap) : Prop := ∀ w, St B L w → x.wpIn (fw c.ro) 0 P Q (act c e) w
def WK (c : Cf) (Q : Exit → Act → World → Prop) (x : Exit) (e : Env) (B : Base) (L : Heap) : Prop := ∀ w, St B L w → Q x (act c e) w
section
variable {P : Program} {ops : Array Oper} {Q : Exit → Act → World → Prop} {c : Cf} {e : Env} {B : Base} {L : Heap} {rest : List Oper} {o : Oper} {v : Value} {d : Nat} {q : Md} {l : List Oper} {id : Nat} {x y : Code}
theorem zr (h : WX .sq P l.toArray c Q l e B L) : WC P c (.region id l.toArray false) Q e B L := fun w hw => wpIn_region_lit (h w hw)
theorem c_draw {n : Nat} {ds : List Deferred} (hm : P.follows .mixedOrders = true) (hB : Region.lexB .any l.toArray = true) (h : WX .qt P l.toArray ⟨n, ds, none⟩ Q l e B L) : WC P ⟨n, ds, none⟩ (.region id l.toArray true) Q e B L := fun w hw => by
  refine wpIn_wide.2 (wp_region_quiet (C := St B L) hm hB (hw.drawn _) ?_)
  simpa [WX] using h
theorem c_tail {n : Nat} {ds : List Deferred} (k : Nat) (hm : P.follows .mixedOrders = true) (hB : Region.lexTailB .any l.toArray k = true) (h : WX (.st (l.drop k)) P l.toArray ⟨n, ds, none⟩ Q (l.take k) e B L) : WC P ⟨n, ds, none⟩ (.region id l.toArray true) Q e B L := fun w hw =>
  wpIn_wide.2 (wp_region_still_tail k hm hB (h _ (hw.drawn _)))
theorem zq (h : WC P c x (Exit.then (fun a w => y.wpIn (fw c.ro) 0 P Q a w) Q) e B L) : WC P c (.seq x y) Q e B L := fun w hw => wpIn_seq (h w hw)
theorem zB (h : WC P c x (Exit.inBlock id Q) e B L) : WC P c (.block id x) Q e B L := fun w hw => wpIn_block (h w hw)
theorem ze (h : WK c Q .ret e B L) : WC P c .ret Q e B L := fun w hw => wpIn_ret (h w hw)
theorem zi (h : WK c Q .normal e B L) : WC P c .skip Q e B L := fun w hw => wpIn_skip (h w hw)
theorem zX (h : WK c Q (.exit id) e B L) : WC P c (.exit id) Q e B L := fun w hw => wpIn_exit (h w hw)
theorem c_label (h : WK c Q .normal e B L) : WC P c (.label id) Q e B L := fun w hw => wpIn_label (h w hw)
theorem c_scope {n : Nat} {ds : List Deferred} (h : WC P ⟨n, ds, none⟩ x (Exit.noGoto Q) e B L) : WC P ⟨n, ds, none⟩ (.scope x) Q e B L := fun w hw => wpIn_wide.2 (wp_scope_straight (wpIn_wide.1 (h w hw)))
theorem c_cond {t : Operand} {b : Bool} (hx : ev c.n e t = .bool b) (ht : b = true → WC P c x Q e B L) (hf : b = false → WC P c y Q e B L) : WC P c (.cond t x y) Q e B L := fun w hw =>
  wpIn_cond_split (by rw [act_eval]; exact hx) (fun h => ht h w hw) (fun h => hf h w hw)
theorem c_condN {t : Operand} {b : Bool} (hx : ev c.n e t = .bool (!b)) (ht : b = false → WC P c x Q e B L) (hf : b = true → WC P c y Q e B L) : WC P c (.cond t x y) Q e B L :=
  c_cond hx (fun h => ht (by simpa using h)) (fun h => hf (by simpa using h))
theorem c_condND {t : Operand} {p : Prop} [Decidable p] (hx : ev c.n e t = .bool (!decide p)) (ht : ¬ p → WC P c x Q e B L) (hf : p → WC P c y Q e B L) : WC P c (.cond t x y) Q e B L :=
  c_cond hx (fun h => ht (by simpa using h)) (fun h => hf (by simpa using h))
theorem zE {t : Operand} (hx : ev c.n e t = .bool true) (ht : WC P c x Q e B L) : WC P c (.cond t x y) Q e B L := fun w hw => wpIn_cond_true (by rw [act_eval]; exact hx) (ht w hw)
theorem zG {t : Operand} (hx : ev c.n e t = .bool false) (hf : WC P c y Q e B L) : WC P c (.cond t x y) Q e B L := fun w hw => wpIn_cond_false (by rw [act_eval]; exact hx) (hf w hw)
theorem zD {t : Operand} {p : Prop} [Decidable p] (hx : ev c.n e t = .bool (decide p)) (ht : p → WC P c x Q e B L) (hf : ¬ p → WC P c y Q e B L) : WC P c (.cond t x y) Q e B L :=
  c_cond hx (fun h => ht (of_decide_eq_true h)) (fun h => hf (of_decide_eq_false h))
theorem zk {Q' : Exit → Act → World → Prop} (h : WC P c x Q e B L) : WK c (Exit.then (fun a w => x.wpIn (fw c.ro) 0 P Q a w) Q') .normal e B L := h
theorem zt {K : Act → World → Prop} (h : WK c Q .ret e B L) : WK c (Exit.then K Q) .ret e B L := h
theorem zx {K : Act → World → Prop} {i : Nat} (h : WK c Q (.exit i) e B L) : WK c (Exit.then K Q) (.exit i) e B L := h
theorem zO (h : WK c Q .normal e B L) : WK c (Exit.inBlock id Q) .normal e B L := h
theorem zb (h : WK c Q .ret e B L) : WK c (Exit.inBlock id Q) .ret e B L := h
theorem b_here {i : Nat} (hi : Nat.beq i id = true) (h : WK c Q .normal e B L) : WK c (Exit.inBlock id Q) (.exit i) e B L := fun w hw => by
  simp only [Exit.inBlock]; rw [if_pos (Nat.eq_of_beq_eq_true hi)]; exact h w hw
theorem b_past {i : Nat} (hi : Nat.beq i id = false) (h : WK c Q (.exit i) e B L) : WK c (Exit.inBlock id Q) (.exit i) e B L := fun w hw => by
  simp only [Exit.inBlock]; rw [if_neg (by intro he; rw [he] at hi; simp at hi)]; exact h w hw
theorem g_ret (h : WK c Q .ret e B L) : WK c (Exit.noGoto Q) .ret e B L := h
def Again (c : Cf) (I : Nat → Env → Base → Heap → Prop) (m : Nat) : Act → World → Prop := fun a w => ∃ m', m' < m ∧ ∃ e B L, a = act c e ∧ St B L w ∧ I m' e B L
theorem loop_ghost {F : Fence} {a : Act} {w : World} {x : Code} (I : Nat → Act → World → Prop) (n₀ : Nat) (h₀ : I n₀ a w)
    (round : ∀ n a w, I n a w → x.wpIn F 0 P (Exit.then (fun a' w' => ∃ n', n' < n ∧ I n' a' w') Q) a w) : (Code.loop x).wpIn F 0 P Q a w := by
  refine wpIn_loop (fun a w => ∃ n, I n a w) (fun a w => leastOf (fun n => I n a w)) ⟨n₀, h₀⟩ ?_
  intro a w hI
  refine wpIn_mono (round _ a w (leastOf_spec hI).1) ?_
  intro e a' w' hq
  cases e with
  | normal =>
    obtain ⟨n', hlt, hI'⟩ := hq
    exact show (∃ n, I n a' w') ∧ leastOf (fun n => I n a' w') < leastOf (fun n => I n a w) from ⟨⟨n', hI'⟩, Nat.lt_of_le_of_lt ((leastOf_spec ⟨n', hI'⟩).2 n' hI') hlt⟩
  | exit id => exact hq
  | goto l => exact hq
  | ret => exact hq
  | panic ch => exact hq
  | outgrown => exact hq
theorem c_loop (I : Nat → Env → Base → Heap → Prop) (m : Nat) (h0 : I m e B L) (h : ∀ m e B L, I m e B L → WC P c x (Exit.then (Again c I m) Q) e B L) : WC P c (.loop x) Q e B L := fun w hw => by
  refine loop_ghost (fun m a w => ∃ e B L, a = act c e ∧ St B L w ∧ I m e B L) m ⟨e, B, L, rfl, hw, h0⟩ ?_
  rintro m a w ⟨e, B, L, rfl, hw, hI⟩
  exact h m e B L hI w hw
theorem k_again {I : Nat → Env → Base → Heap → Prop} {m : Nat} {Q' : Exit → Act → World → Prop} (m' : Nat) (hm : m' < m) (h : I m' e B L) : WK c (Exit.then (Again c I m) Q') .normal e B L :=
  fun _ hw => ⟨m', hm, e, B, L, rfl, hw, h⟩
def Mid (c : Cf) (J : Env → Base → Heap → Prop) : Act → World → Prop := fun a w => ∃ e B L, a = act c e ∧ St B L w ∧ J e B L
theorem c_cut (J : Env → Base → Heap → Prop) (h1 : WC P c x (Exit.then (Mid c J) Q) e B L) (h2 : ∀ e B L, J e B L → WC P c y Q e B L) : WC P c (.seq x y) Q e B L := fun w hw => by
  refine wpIn_seq (wpIn_mono (h1 w hw) ?_)
  intro x a w hq
  cases x with
  | normal =>
    obtain ⟨e, B, L, rfl, hs, hJ⟩ := hq
    exact h2 e B L hJ w hs
  | exit id => exact hq
  | goto l => exact hq
  | ret => exact hq
  | panic ch => exact hq
  | outgrown => exact hq
theorem k_mid {J : Env → Base → Heap → Prop} {Q' : Exit → Act → World → Prop} (h : J e B L) : WK c (Exit.then (Mid c J) Q') .normal e B L := fun _ hw => ⟨e, B, L, rfl, hw, h⟩
theorem zp {b : Bool} {t : Nat} (_ : e t = .bool b) (ht : b = true → WX q P ops c Q l e B L) (hf : b = false → WX q P ops c Q l e B L) : WX q P ops c Q l e B L := by
  cases b
  · exact hf rfl
  exact ht rfl
theorem zd {p : Prop} [Decidable p] {t : Nat} (_ : e t = .bool (decide p)) (ht : p → WX q P ops c Q l e B L) (hf : ¬ p → WX q P ops c Q l e B L) : WX q P ops c Q l e B L := by
  by_cases h : p
  · exact ht h
  exact hf h
theorem w_run (hr : ∀ w, St B L w → Run P o (ev c.n e) w v w) (hg : plainB o = true) (hd : o.dst = some d) (h : WX q P ops c Q rest (upd e d v) B L) : WX q P ops c Q (o :: rest) e B L := by
  rcases q with _ | _ | tl
  · exact fun w hw => s_run (hr w hw) hg hd (h w hw)
  · exact q_run (fun w hw => hr w hw) hg hd h
  exact fun w hw => t_run (hr w hw) hg hd (h w hw)
theorem w_r (hr : ∀ w, Run P o (ev c.n e) w v w) (hg : plainB o = true) (hd : o.dst = some d) (h : WX q P ops c Q rest (upd e d v) B L) : WX q P ops c Q (o :: rest) e B L := w_run (fun w _ => hr w) hg hd h
theorem zC {f : FuncId} {args : Array Value} (hr : ∀ w, RunE P o (ev c.n e) w f args) (hg : plainB o = true) (hd : o.dst = some d) (hc : ∀ w, St B L w → Ret P f args w fun u w' => u = v ∧ Ext w w')
    (h : WX q P ops c Q rest (upd e d v) B L) (hq : q.callsB = true := by rfl) : WX q P ops c Q (o :: rest) e B L := by
  rcases q with _ | _ | tl
  · exact fun w hw => s_call (hr w) hg hd (hc w hw) fun u w' ⟨hu, hx⟩ => by subst hu; exact h w' (hw.ext hx)
  · exact q_call (fun w _ => hr w) hg hd (fun w hw => (hc w hw).mono fun u w' ⟨h2, h3⟩ => ⟨h2, hw.ext h3⟩) h
  cases hq
theorem zP {f : FuncId} {args : Array Value} {R : World → Value → World → Prop} (hr : ∀ w, RunE P o (ev c.n e) w f args) (hg : plainB o = true) (hd : o.dst = some d) (hc : ∀ w, St B L w → Ret P f args w (R w))
    (h : ∀ w, St B L w → ∀ v w', R w v w' → ∃ B' L', St B' L' w' ∧ WX .sq P ops c Q rest (upd e d v) B' L') : WX .sq P ops c Q (o :: rest) e B L :=
  fun w hw => s_call (hr w) hg hd (hc w hw) fun v w' hv => by
    obtain ⟨B', L', h1, h2⟩ := h w hw v w' hv
    exact h2 w' h1
theorem w_call1 {f : FuncId} {args : Array Value} (i : Nat) {b : Nat} {o1 o' : Obj} (hi : L[i]? = some (b, o1)) (hr : ∀ w, RunE P o (ev c.n e) w f args) (hg : plainB o = true) (hd : o.dst = some d)
    (hc : ∀ w, St B L w → Ret P f args w fun u w' => u = v ∧ Fr (fun j => j = b) w w' ∧ w'.heap[b]? = some o')
    (h : WX .sq P ops c Q rest (upd e d v) B (L.set i (b, o'))) : WX .sq P ops c Q (o :: rest) e B L :=
  fun w hw => s_call (hr w) hg hd (hc w hw) fun u w' ⟨hu, hF, hb⟩ => by subst hu; exact h w' (hw.mod i hi hF hb)
theorem w_callN {f : FuncId} {args : Array Value} {g : Nat → Value} {ob : Obj} (hr : ∀ w, RunE P o (ev c.n e) w f args) (hg : plainB o = true) (hd : o.dst = some d)
    (hc : ∀ w, St B L w → Ret P f args w fun u w' => u = g w.heap.size ∧ w' = w.alloc ob)
    (h : ∀ b, (∀ x ∈ L, x.1 < b) → (∀ x ∈ B, x.1.heap.size ≤ b) → WX .sq P ops c Q rest (upd e d (g b)) B ((b, ob) :: L)) : WX .sq P ops c Q (o :: rest) e B L :=
  fun w hw => s_call (hr w) hg hd (hc w hw) fun u w' ⟨hu, hF⟩ => by
    subst hu; subst hF; exact h w.heap.size (fun p hp => lt_of_blk (hw.own p hp)) (fun x hx => (hw.fr x hx).size) _ hw.new
theorem zn (h : WK c Q .normal e B L) (hq : q.callsB = true := by rfl) : WX q P ops c Q [] e B L := by
  rcases q with _ | _ | tl
  · exact fun w hw => s_nil (h w hw)
  · exact q_nil (P := P) (ops := ops) (C := St B L) (QQ := fun a' => ∀ w', St B L w' → Q .normal a' w') h
  cases hq
theorem zw {D : Option Tmp} {op : Op} {T : TypeId} {p : String} {a : Array Edge} {j t : Nat} {b : Bool} (hj : (ops[j]?).bind (·.dst) = some t) (ht : Nat.blt t c.n = true) (he : e t = .bool b) (h : WX q P ops c Q (⟨D, op, T, p, a, none⟩ :: rest) e B L) : WX q P ops c Q (⟨D, op, T, p, a, some (j, b)⟩ :: rest) e B L := by
  have hw := wanted_of (o := ⟨D, op, T, p, a, some (j, b)⟩) rfl hj ht he
  simp only [beq_self_eq_true] at hw
  rcases q with _ | _ | tl
  · exact fun w hs => s_want hw (h w hs)
  · exact q_want hw h
  exact fun w hs => t_want hw (h w hs)
theorem zs {op : Op} {T : TypeId} {p : String} {a : Array Edge} {j t : Nat} {b : Bool} (hj : (ops[j]?).bind (·.dst) = some t) (ht : Nat.blt t c.n = true) (he : e t = .bool (!b)) (h : WX q P ops c Q rest (upd e d undef) B L) : WX q P ops c Q (⟨some d, op, T, p, a, some (j, b)⟩ :: rest) e B L := by
  have hw := wanted_of (o := ⟨some d, op, T, p, a, some (j, b)⟩) rfl hj ht he
  have hw : Region.wanted ⟨some d, op, T, p, a, some (j, b)⟩ (yielded ops (act c e).tmps) = false := by rw [hw]; cases b <;> rfl
  rcases q with _ | _ | tl
  · exact fun w hs => s_skip hw rfl (h w hs)
  · exact q_skip hw rfl h
  exact fun w hs => t_skip hw rfl (h w hs)
theorem zA {t : TypeId} {zv : Value} {T : TypeId} {p : String} {a : Array Edge} (hz : zeroB P t zv)
    (h : ∀ b, (∀ x ∈ L, x.1 < b) → (∀ x ∈ B, x.1.heap.size ≤ b) → WX .sq P ops c Q rest (upd e d (.pointer (some ⟨b, 0, none⟩))) B ((b, .cells zv.cells t (0, 0)) :: L)) : WX .sq P ops c Q (⟨some d, .alloc t, T, p, a, none⟩ :: rest) e B L :=
  fun w hw => s_run (R_alloc hz) rfl rfl (h w.heap.size (fun p hp => lt_of_blk (hw.own p hp)) (fun x hx => (hw.fr x hx).size) _ hw.new)
theorem w_box {t : TypeId} {x : Operand} {T : TypeId} {p : String} {a : Array Edge} (hx : ev c.n e x = v)
    (h : ∀ b, (∀ x ∈ L, x.1 < b) → (∀ x ∈ B, x.1.heap.size ≤ b) → WX .sq P ops c Q rest (upd e d (.pointer (some ⟨b, 0, none⟩))) B ((b, .cells v.cells t (0, 0)) :: L)) : WX .sq P ops c Q (⟨some d, .box t x, T, p, a, none⟩ :: rest) e B L :=
  fun w hw => s_run (R_box hx) rfl rfl (h w.heap.size (fun p hp => lt_of_blk (hw.own p hp)) (fun x hx => (hw.fr x hx).size) _ hw.new)
theorem zl {t : TypeId} {x : Operand} {ty : TypeId} {p : String} {a : Array Edge} {ad : Addr} (hz : szB P t 1 false = true) (hx : ev c.n e x = .pointer (some ad)) (hc : ∀ w, St B L w → w.cell? ad = some v) (h : WX q P ops c Q rest (upd e d v) B L) : WX q P ops c Q (⟨some d, .load t x, ty, p, a, none⟩ :: rest) e B L :=
  w_run (fun w hw => R_ld1 hz hx (hc w hw)) rfl rfl h
theorem zY {t : TypeId} {x : Operand} {ty : TypeId} {p : String} {a : Array Edge} {b off k : Nat} {cs : List Value} {T : TypeId} (hz : szB P t k true = true) (hx : ev c.n e x = .pointer (some ⟨b, off, none⟩)) (hc : ∀ w, St B L w → w.heap[b]? = some (cel cs T)) (hn : Nat.ble (off + k) cs.length = true) (h : WX q P ops c Q rest (upd e d (.agg ((cs.drop off).take k).toArray)) B L) : WX q P ops c Q (⟨some d, .load t x, ty, p, a, none⟩ :: rest) e B L :=
  w_run (fun w hw => R_ldb hz hx (hc w hw) hn) rfl rfl h
theorem zV {t T ty : TypeId} {x y : Operand} {p : String} {a : Array Edge} {b off k : Nat} {cs vs cs' : List Value} {ag : Bool} (i : Nat) (hi : L[i]? = some (b, cel cs T)) (hz : szB P t k ag = true) (hx : ev c.n e x = .pointer (some ⟨b, off, none⟩)) (hy : ev c.n e y = v)
    (hv : v.cells = vs.toArray) (hl : vs.length = k) (h1 : vs.all Value.oneCell' = true) (ho : Nat.ble (off + k) cs.length = true) (hc : cs.take off ++ vs ++ cs.drop (off + k) = cs')
    (h : WX .sq P ops c Q rest e B (L.set i (b, cel cs' T))) : WX .sq P ops c Q (⟨none, .store t x y, ty, p, a, none⟩ :: rest) e B L :=
  fun w hw => by
    subst hc
    exact s_unit (R_st hz hx hy hv hl h1 (hw.at_ i hi) (Nat.le_of_ble_eq_true ho)) rfl rfl (h _ (hw.put i hi))
theorem w_sidx {t : TypeId} {x y : Operand} {T : TypeId} {p : String} {ed : Array Edge} {a : List UInt8} {k : IntKind} {i : Nat} (hu : strB P t = true) (hx : ev c.n e x = str a) (hy : ev c.n e y = .int k (i : Nat)) (h1 : i < a.length) (h : WX q P ops c Q rest (upd e d (.int .u8 (a[i].toNat : Nat))) B L) : WX q P ops c Q (⟨some d, .index t x y, T, p, ed, none⟩ :: rest) e B L := w_r (fun _ => R_sidx hu hx hy (Int.natCast_nonneg _) h1) rfl rfl h
theorem zm {x : Operand} {T : TypeId} {p : String} {a : Array Edge} (hx : ev c.n e x = v) (h : WX q P ops c Q rest (upd e d v) B L) : WX q P ops c Q (⟨some d, .move x, T, p, a, none⟩ :: rest) e B L := w_r (fun _ => R_move hx) rfl rfl h
theorem za {x : Operand} {T : TypeId} {p : String} {a : Array Edge} (hx : ev c.n e x = v) (h : WX q P ops c Q rest (upd e d v) B L) : WX q P ops c Q (⟨some d, .assign x, T, p, a, none⟩ :: rest) e B L := w_r (fun _ => R_assign hx) rfl rfl h
theorem zI {x : Operand} {T : TypeId} {p : String} {a : Array Edge} {ad : Addr} (hx : ev c.n e x = .pointer (some ad)) (h : WX q P ops c Q rest (upd e d (.pointer (some ad))) B L) : WX q P ops c Q (⟨some d, .nilCheck x, T, p, a, none⟩ :: rest) e B L := w_r (fun _ => R_nil hx) rfl rfl h
theorem zf {s f off b k : Nat} {x : Operand} {T : TypeId} {p : String} {a : Array Edge} (hf : faB P s f off = true) (hx : ev c.n e x = .pointer (some ⟨b, k, none⟩)) (h : WX q P ops c Q rest (upd e d (.pointer (some ⟨b, k + off, none⟩))) B L) : WX q P ops c Q (⟨some d, .fieldAddr s x f, T, p, a, none⟩ :: rest) e B L := w_r (fun _ => R_fa hf hx) rfl rfl h
theorem w_tailst {t T ty : TypeId} {x y : Operand} {p : String} {a : Array Edge} {b off k : Nat} {cs vs cs' : List Value} {ag : Bool} (i : Nat) (hi : L[i]? = some (b, cel cs T)) (hz : szB P t k ag = true) (hx : ev c.n e x = .pointer (some ⟨b, off, none⟩)) (hy : ev c.n e y = v)
    (hv : v.cells = vs.toArray) (hl : vs.length = k) (h1 : vs.all Value.oneCell' = true) (ho : Nat.ble (off + k) cs.length = true) (hc : cs.take off ++ vs ++ cs.drop (off + k) = cs')
    (h : WK c Q .normal e B (L.set i (b, cel cs' T))) : WX (.st [⟨none, .store t x y, ty, p, a, none⟩]) P ops c Q [] e B L :=
  fun w hw => by
    subst hc
    have hr := R_st (P := P) (ρ := ev c.n e) (D := none) (ty := ty) (pos := p) (aft := a) (g := none) hz hx hy hv hl h1 (hw.at_ i hi) (Nat.le_of_ble_eq_true ho)
    refine wpList_plain rfl fun K hK => ?_
    unfold Oper.wp
    rw [act_eval]
    unfold RunU at hr
    rw [hr, Oper.upon_skip, act_put_none]
    exact hK _ _ (h _ (hw.put i hi))
theorem w_yield {lo : Nat} {al : List Operand} {x : Operand} {tys : Array TypeId} {T : TypeId} {p : String} {a : Array Edge} {R : World → Value → World → Prop} (hx : ev c.n e x = .func (.yield lo) #[] #[])
    (hy : ∀ w, St B L w → YieldAt (fw none) 0 P lo (al.map (ev c.n e)).toArray w fun en w' => ∃ v, en = .returned v ∧ R w v w')
    (h : ∀ w, St B L w → ∀ v w', R w v w' → ∃ B' L', St B' L' w' ∧ WX .sq P ops c Q rest (upd e d v) B' L') :
    WX .sq P ops c Q (⟨some d, .call ⟨.value x, al.toArray, tys⟩, T, p, a, none⟩ :: rest) e B L := fun w hw => by
  obtain ⟨fn, tmps, as, bo, h1, h2⟩ := hy w hw
  have hr : (execOp (ev c.n e) ⟨some d, .call ⟨.value x, al.toArray, tys⟩, T, p, a, none⟩).run P w = .ok (.round lo fn tmps as bo) w := by
    simp only [execOp, resolve, hx, Deferred.ofValue, Sem.run_bind, Sem.run_pure, Result.andThen_ok, invoke, List.map_toArray]
    simpa using h1
  refine s_op hr rfl fun K hK => ?_
  rw [Oper.uponIn_round]
  refine ⟨fun hh => absurd hh (by simp [fw, Fence.wide]), ?_⟩
  have h2' : RoundIn (fw c.ro) (0 - 1) P lo fn tmps as bo w fun en w' => ∃ v, en = .returned v ∧ R w v w' := h2
  refine h2'.mono ?_
  rintro en w' ⟨v, rfl, hv⟩
  obtain ⟨B', L', h3, h4⟩ := h w hw v w' hv
  simp only [act_put]
  exact hK _ _ (h4 w' h3)
end
attribute [irreducible] WX
theorem zc {B : Base} {L : Heap} (i : Nat) {b off : Nat} {cs : List Value} {T : TypeId} {v : Value} (hi : L[i]? = some (b, cel cs T)) (hv : cs[off]? = some v) {w : World} (hw : St B L w) : w.cell? ⟨b, off, none⟩ = some v := by
  have := hw.at_ i hi
  simp [World.cell?, this, hv]
theorem cel_oldb {B : Base} {L : Heap} {x : World × (Nat → Prop)} {b off : Nat} {cs : List Value} {T : TypeId} {v : Value} (hb : x.1.heap[b]? = some (cel cs T)) (hx : x ∈ B) (hs : ¬ x.2 b) (hv : cs[off]? = some v) {w : World} (hw : St B L w) : w.cell? ⟨b, off, none⟩ = some v := by
  have := (hw.fr x hx).get hb hs
  simp [World.cell?, this, hv]
theorem St.old {B : Base} {L : Heap} {x : World × (Nat → Prop)} {b : Nat} {o : Obj} {w : World} (hw : St B L w) (hb : x.1.heap[b]? = some o) (hx : x ∈ B) (hs : ¬ x.2 b) : w.heap[b]? = some o := (hw.fr x hx).get hb hs
theorem cel_old {B : Base} {L : Heap} {x : World × (Nat → Prop)} (hx : x ∈ B) {a : Addr} {v : Value} (ha : x.1.cell? a = some v) (hs : ¬ x.2 a.block) {w : World} (hw : St B L w) : w.cell? a = some v := (hw.fr x hx).cell ha hs
def Post (P : Program) (fn : Func) (R : Value → World → Prop) : Exit → Act → World → Prop := bodyPost P fn fun e w' => ∃ v, e = .returned v ∧ R v w'
def PostM (P : Program) (fn : Func) (R : Value → World → Prop) : Exit → Act → World → Prop := bodyPostM (fw none) 0 P fn fun e w' => ∃ v, e = .returned v ∧ R v w'
theorem enter {P : Program} {f : FuncId} {fn : Func} {x : Code} {l : List Value} {w : World} {R : Value → World → Prop} {S : Nat → Prop} {L : Heap} (n : Nat)
    (hf : P.funcs[f]? = some fn) (hb : fn.body = some x) (hn : fn.ntmps = n) (hl : Nat.ble l.length n = true) (hL : St [(w, S)] L w)
    (h : WC P (cf n) x (Post P fn R) (ofL l) [(w, S)] L) : Ret P f l.toArray w R :=
  calls n hf hb hn hl (h w hL)
theorem enterB {P : Program} {f : FuncId} {fn : Func} {x : Code} {l : List Value} {w : World} {R : Value → World → Prop} {B : Base} {L : Heap} (n : Nat)
    (hf : P.funcs[f]? = some fn) (hb : fn.body = some x) (hn : fn.ntmps = n) (hl : Nat.ble l.length n = true) (hL : St B L w)
    (h : WC P (cf n) x (Post P fn R) (ofL l) B L) : Ret P f l.toArray w R :=
  calls n hf hb hn hl (h w hL)
theorem enterM {P : Program} {f : FuncId} {fn : Func} {x : Code} {l : List Value} {w : World} {R : Value → World → Prop} {S : Nat → Prop} {L : Heap} (n : Nat)
    (hf : P.funcs[f]? = some fn) (hb : fn.body = some x) (hn : fn.ntmps = n) (hl : Nat.ble l.length n = true) (hL : St [(w, S)] L w)
    (h : WC P (cf n) x (PostM P fn R) (ofL l) [(w, S)] L) : Ret P f l.toArray w R :=
  calls_m n hf hb hn hl (h w hL)
theorem St.start1 (w : World) {S : Nat → Prop} {b : Nat} {o : Obj} (hb : w.heap[b]? = some o) (hs : S b) : St [(w, S)] [(b, o)] w :=
  ⟨by simp; exact Fr.refl _ _, by simpa using hb, by simp, by simp [hs]⟩
theorem St.start (w : World) (S : Nat → Prop) : St [(w, S)] [] w := ⟨by simp; exact Fr.refl _ _, by simp, by simp, by simp⟩
theorem tmp_get {n t : Nat} {ds : List Deferred} {ro : Option Nat} {e : Env} {v : Value} (ht : Nat.blt t n = true) (he : e t = v) : (act ⟨n, ds, ro⟩ e).tmps.getD t undef = v := by
  have := congrFun (act_eval ⟨n, ds, ro⟩ e) (.tmp t)
  simp only [Act.eval, ev, ht, cond_true] at this
  rw [this, he]
theorem zo {P : Program} {fn : Func} {R : Value → World → Prop} {n t : Nat} {e : Env} {B : Base} {L : Heap} {v : Value} (hr : fn.results = #[.tmp t]) (ht : Nat.blt t n = true) (he : e t = v)
    (h : ∀ w, St B L w → R v w) : WK (cf n) (Post P fn R) .ret e B L := fun w hw => by
  refine ⟨rfl, v, ?_, v, rfl, h w hw⟩
  rw [results_tmp hr, tmp_get ht he]
theorem r_two {P : Program} {fn : Func} {R : Value → World → Prop} {n t u : Nat} {e : Env} {B : Base} {L : Heap} {v v2 : Value} (hr : fn.results = #[.tmp t, .tmp u]) (ht : Nat.blt t n = true) (hu : Nat.blt u n = true) (he : e t = v) (he2 : e u = v2)
    (h : ∀ w, St B L w → R (.tuple #[v, v2]) w) : WK (cf n) (Post P fn R) .ret e B L := fun w hw => by
  refine ⟨rfl, _, results_tmp2 hr _ _ _, _, rfl, ?_⟩
  rw [tmp_get ht he, tmp_get hu he2]; exact h w hw
theorem r_none {P : Program} {fn : Func} {R : Value → World → Prop} {n : Nat} {e : Env} {B : Base} {L : Heap} {x : Exit} (hx : x = .ret ∨ x = .normal) (hr : fn.results = #[])
    (h : ∀ w, St B L w → R (.tuple #[]) w) : WK (cf n) (Post P fn R) x e B L := fun w hw => by
  rcases hx with rfl | rfl <;> exact ⟨rfl, _, results_none hr _ _ _, _, rfl, h w hw⟩
attribute [irreducible] WK WC Post PostM
section
variable {P : Program} {ops : Array Oper} {Q Q' : Exit → Act → World → Prop} {c : Cf} {e : Env} {B : Base} {L : Heap} {rest : List Oper} {d : Nat} {q : Md} {l : List Oper} {id : Nat} {x y : Code} {X : Operand} {T : TypeId} {p : String} {a : Array Edge}
theorem yA (h : WX .sq P l.toArray c (Exit.then (fun a w => y.wpIn (fw c.ro) 0 P Q a w) Q) l e B L) : WC P c (.seq (.region id l.toArray false) y) Q e B L := zq (zr h)
theorem yB (h : WC P c x Q e B L) (hq : q.callsB = true := by rfl) : WX q P ops c (Exit.then (fun a w => x.wpIn (fw c.ro) 0 P Q a w) Q') [] e B L := zn (zk h) hq
theorem yC (h : WX .sq P l.toArray c (Exit.then (fun a w => y.wpIn (fw c.ro) 0 P Q a w) Q) l e B L) (hq : q.callsB = true := by rfl) : WX q P ops c (Exit.then (fun a w => (Code.seq (.region id l.toArray false) y).wpIn (fw c.ro) 0 P Q a w) Q') [] e B L := zn (zk (zq (zr h))) hq
theorem mB {b : Bool} (hx : ev c.n e X = .bool b) (h : WX q P ops c Q rest (upd e d (.bool b)) B L) : WX q P ops c Q (⟨some d, .move X, T, p, a, none⟩ :: rest) e B L := zm hx h
theorem mI {k : IntKind} {i : Int} (hx : ev c.n e X = .int k i) (h : WX q P ops c Q rest (upd e d (.int k i)) B L) : WX q P ops c Q (⟨some d, .move X, T, p, a, none⟩ :: rest) e B L := zm hx h
theorem mP {i : Option Addr} (hx : ev c.n e X = .pointer i) (h : WX q P ops c Q rest (upd e d (.pointer i)) B L) : WX q P ops c Q (⟨some d, .move X, T, p, a, none⟩ :: rest) e B L := zm hx h
theorem mS {i : Option Addr} {n m : Nat} (hx : ev c.n e X = .slice i n m) (h : WX q P ops c Q rest (upd e d (.slice i n m)) B L) : WX q P ops c Q (⟨some d, .move X, T, p, a, none⟩ :: rest) e B L := zm hx h
theorem aB {b : Bool} (hx : ev c.n e X = .bool b) (h : WX q P ops c Q rest (upd e d (.bool b)) B L) : WX q P ops c Q (⟨some d, .assign X, T, p, a, none⟩ :: rest) e B L := za hx h
theorem aI {k : IntKind} {i : Int} (hx : ev c.n e X = .int k i) (h : WX q P ops c Q rest (upd e d (.int k i)) B L) : WX q P ops c Q (⟨some d, .assign X, T, p, a, none⟩ :: rest) e B L := za hx h
theorem zL {t : TypeId} {x : Operand} {ty : TypeId} {p : String} {a : Array Edge} {b off : Nat} {cs : List Value} {T : TypeId} {v : Value} {q : Md} (i : Nat) (hz : szB P t 1 false = true) (hx : ev c.n e x = .pointer (some ⟨b, off, none⟩)) (hi : L[i]? = some (b, cel cs T)) (hv : cs[off]? = some v) (h : WX q P ops c Q rest (upd e d v) B L) : WX q P ops c Q (⟨some d, .load t x, ty, p, a, none⟩ :: rest) e B L := zl hz hx (fun _ hw => zc i hi hv hw) h
theorem zg {v : Value} {op : Op} {T : TypeId} {p : String} {a : Array Edge} {q : Md} (hr : ∀ w, Run P ⟨some d, op, T, p, a, none⟩ (ev c.n e) w v w) (h : WX q P ops c Q rest (upd e d v) B L) (hg : plainB ⟨some d, op, T, p, a, none⟩ = true := by rfl) : WX q P ops c Q (⟨some d, op, T, p, a, none⟩ :: rest) e B L := w_r hr hg rfl h
theorem je {t yt : TypeId} {x y : Operand} {T : TypeId} {p : String} {a : Array Edge} {q : Md} {k : IntKind} {i j : Int} (hx : ev c.n e x = .int k i) (hy : ev c.n e y = .int k j) (h : WX q P ops c Q rest (upd e d (.bool (decide (i = j)))) B L) : WX q P ops c Q (⟨some d, .binOp .eql t x y yt, T, p, a, none⟩ :: rest) e B L := zg (fun _ => R_eq hx hy) h
theorem jn {t yt : TypeId} {x y : Operand} {T : TypeId} {p : String} {a : Array Edge} {q : Md} {k : IntKind} {i j : Int} (hx : ev c.n e x = .int k i) (hy : ev c.n e y = .int k j) (h : WX q P ops c Q rest (upd e d (.bool (decide (¬ i = j)))) B L) : WX q P ops c Q (⟨some d, .binOp .neq t x y yt, T, p, a, none⟩ :: rest) e B L := zg (fun _ => R_ne hx hy) h
theorem jl {t yt : TypeId} {x y : Operand} {T : TypeId} {p : String} {a : Array Edge} {q : Md} {k : IntKind} {i j : Int} (hx : ev c.n e x = .int k i) (hy : ev c.n e y = .int k j) (h : WX q P ops c Q rest (upd e d (.bool (decide (i < j)))) B L) : WX q P ops c Q (⟨some d, .binOp .lss t x y yt, T, p, a, none⟩ :: rest) e B L := zg (fun _ => R_lt hx hy) h
theorem jm {t yt : TypeId} {x y : Operand} {T : TypeId} {p : String} {a : Array Edge} {q : Md} {k : IntKind} {i j : Int} (hx : ev c.n e x = .int k i) (hy : ev c.n e y = .int k j) (h : WX q P ops c Q rest (upd e d (.bool (decide (i ≤ j)))) B L) : WX q P ops c Q (⟨some d, .binOp .leq t x y yt, T, p, a, none⟩ :: rest) e B L := zg (fun _ => R_le hx hy) h
theorem jg {t yt : TypeId} {x y : Operand} {T : TypeId} {p : String} {a : Array Edge} {q : Md} {k : IntKind} {i j : Int} (hx : ev c.n e x = .int k i) (hy : ev c.n e y = .int k j) (h : WX q P ops c Q rest (upd e d (.bool (decide (j < i)))) B L) : WX q P ops c Q (⟨some d, .binOp .gtr t x y yt, T, p, a, none⟩ :: rest) e B L := zg (fun _ => R_gt hx hy) h
theorem jh {t yt : TypeId} {x y : Operand} {T : TypeId} {p : String} {a : Array Edge} {q : Md} {k : IntKind} {i j : Int} (hx : ev c.n e x = .int k i) (hy : ev c.n e y = .int k j) (h : WX q P ops c Q rest (upd e d (.bool (decide (j ≤ i)))) B L) : WX q P ops c Q (⟨some d, .binOp .geq t x y yt, T, p, a, none⟩ :: rest) e B L := zg (fun _ => R_ge hx hy) h
theorem js {t yt : TypeId} {x y : Operand} {T : TypeId} {p : String} {a : Array Edge} {q : Md} {r s : List UInt8} (hx : ev c.n e x = str r) (hy : ev c.n e y = str s) (h : WX q P ops c Q rest (upd e d (.bool (decide (r = s)))) B L) : WX q P ops c Q (⟨some d, .binOp .eql t x y yt, T, p, a, none⟩ :: rest) e B L := zg (fun _ => R_seq hx hy) h
theorem ji {t yt : TypeId} {x y : Operand} {T : TypeId} {p : String} {a : Array Edge} {q : Md} {i j : Int} (hx : ev c.n e x = .int .i64 i) (hy : ev c.n e y = .int .i64 j) (h1 : -9223372036854775808 ≤ i + j ∧ i + j ≤ 9223372036854775807) (h : WX q P ops c Q rest (upd e d (.int .i64 (i + j))) B L) : WX q P ops c Q (⟨some d, .binOp .add t x y yt, T, p, a, none⟩ :: rest) e B L := zg (fun _ => R_addi hx hy h1) h
theorem jk {t : TypeId} {x : Operand} {T : TypeId} {p : String} {a : Array Edge} {q : Md} {b : Bool} (hx : ev c.n e x = .bool b) (h : WX q P ops c Q rest (upd e d (.bool (!b))) B L) : WX q P ops c Q (⟨some d, .unOp .not t x, T, p, a, none⟩ :: rest) e B L := zg (fun _ => R_not hx) h
theorem jx {x : Operand} {v : Value} {T : TypeId} {p : String} {a : Array Edge} {q : Md} {vs : Array Value} {ix : Nat} (hx : ev c.n e x = .tuple vs) (hi : vs[ix]? = some v) (h : WX q P ops c Q rest (upd e d v) B L) : WX q P ops c Q (⟨some d, .extract x ix, T, p, a, none⟩ :: rest) e B L := zg (fun _ => R_extract hx hi) h
theorem jb {t : TypeId} {T : TypeId} {p : String} {a : Array Edge} {q : Md} {pl : List (Nat × Nat)} {zl : List Value} {ps : List (Nat × Operand)} (ht : buildTab P t = some (pl, zl)) (hf : fillB pl (ps.map fun p => (p.1, ev c.n e p.2)) zl.length = true) (h : WX q P ops c Q rest (upd e d (.agg (fillL pl (ps.map fun p => (p.1, ev c.n e p.2)) zl).toArray)) B L) : WX q P ops c Q (⟨some d, .build t ps.toArray, T, p, a, none⟩ :: rest) e B L := zg (fun _ => R_build ht hf) h
theorem jj {t : TypeId} {x : Operand} {T : TypeId} {p : String} {a : Array Edge} {q : Md} {n m r : Nat} {ad : Option Addr} (hu : slB P t r = true) (hx : ev c.n e x = .slice ad n m) (h : WX q P ops c Q rest (upd e d (.int .i64 n)) B L) : WX q P ops c Q (⟨some d, .call ⟨.builtin .len, #[x], #[t]⟩, T, p, a, none⟩ :: rest) e B L := zg (fun _ => R_len hu hx) h
theorem jF {x y z : Operand} {T : TypeId} {p : String} {a : Array Edge} {q : Md} {b : Bool} (hc : ev c.n e x = .bool false) (hy : ev c.n e z = .bool b) (h : WX q P ops c Q rest (upd e d (.bool b)) B L) : WX q P ops c Q (⟨some d, .pick x y z, T, p, a, none⟩ :: rest) e B L := zg (fun _ => zF hc hy) h
theorem jT {x y z : Operand} {T : TypeId} {p : String} {a : Array Edge} {q : Md} {b : Bool} (hc : ev c.n e x = .bool true) (hy : ev c.n e y = .bool b) (h : WX q P ops c Q rest (upd e d (.bool b)) B L) : WX q P ops c Q (⟨some d, .pick x y z, T, p, a, none⟩ :: rest) e B L := zg (fun _ => zT hc hy) h
theorem jv {t T ty : TypeId} {x y : Operand} {p : String} {a : Array Edge} {b off k : Nat} {cs vs cs' : List Value} {ag : Bool} {v : Value} (i : Nat) (hz : szB P t k ag = true) (hb : (L[i]?, ev c.n e x, ev c.n e y, v.cells, vs.length, cs.take off ++ vs ++ cs.drop (off + k)) = (some (b, cel cs T), Value.pointer (some ⟨b, off, none⟩), v, vs.toArray, k, cs')) (h : WX .sq P ops c Q rest e B (L.set i (b, cel cs' T))) (h1 : vs.all Value.oneCell' = true := by rfl) (ho : Nat.ble (off + k) cs.length = true := by rfl) : WX .sq P ops c Q (⟨none, .store t x y, ty, p, a, none⟩ :: rest) e B L := by
  simp only [Prod.mk.injEq] at hb
  obtain ⟨h2, h3, h4, h5, h6, h7⟩ := hb
  exact zV i h2 hz h3 h4 h5 h6 h1 ho h7 h
theorem ju {t T ty : TypeId} {x y : Operand} {p : String} {a : Array Edge} {b off k : Nat} {cs vs cs' : List Value} {ag : Bool} {v : Value} (i : Nat) (hz : szB P t k ag = true) (h3 : ev c.n e x = .pointer (some ⟨b, off, none⟩)) (h4 : ev c.n e y = v) (hb : (L[i]?, v.cells, vs.length, cs.take off ++ vs ++ cs.drop (off + k)) = (some (b, cel cs T), vs.toArray, k, cs')) (h : WX .sq P ops c Q rest e B (L.set i (b, cel cs' T))) (h1 : vs.all Value.oneCell' = true := by rfl) (ho : Nat.ble (off + k) cs.length = true := by rfl) : WX .sq P ops c Q (⟨none, .store t x y, ty, p, a, none⟩ :: rest) e B L := by
  simp only [Prod.mk.injEq] at hb
  obtain ⟨h2, h5, h6, h7⟩ := hb
  exact zV i h2 hz h3 h4 h5 h6 h1 ho h7 h
theorem jy {t ty T : TypeId} {x : Operand} {p : String} {a : Array Edge} {b off k : Nat} {cs : List Value} {q : Md} (i : Nat) (hz : szB P t k true = true) (hx : ev c.n e x = .pointer (some ⟨b, off, none⟩)) (hi : L[i]? = some (b, cel cs T)) (h : WX q P ops c Q rest (upd e d (.agg ((cs.drop off).take k).toArray)) B L) (hn : Nat.ble (off + k) cs.length = true := by rfl) : WX q P ops c Q (⟨some d, .load t x, ty, p, a, none⟩ :: rest) e B L := zY hz hx (fun _ hw => hw.at_ i hi) hn h
theorem jM {t ty T : TypeId} {x : Operand} {p : String} {a : Array Edge} {b off : Nat} {cs : List Value} {v : Value} {q : Md} (i : Nat) (hz : szB P t 1 false = true) (hb : (ev c.n e x, L[i]?, cs[off]?) = (Value.pointer (some ⟨b, off, none⟩), some (b, cel cs T), some v)) (h : WX q P ops c Q rest (upd e d v) B L) : WX q P ops c Q (⟨some d, .load t x, ty, p, a, none⟩ :: rest) e B L := by
  simp only [Prod.mk.injEq] at hb
  obtain ⟨h2, h3, h4⟩ := hb
  exact zL i hz h2 h3 h4 h
theorem jD {f : FuncId} {fn : Func} {al : List Operand} {x : Operand} {tys : Array TypeId} {v : Value} {T : TypeId} {p : String} {a : Array Edge} {q : Md} (hf : P.funcs[f]? = some fn) (hc : ∀ w, St B L w → Ret P f (al.map (ev c.n e)).toArray w fun u w' => u = v ∧ Ext w w') (h : WX q P ops c Q rest (upd e d v) B L) (hb : fn.body.isSome = true := by rfl) (hn : (fn.name == "runtime.NumGoroutine") = false := by rfl) (hx : ev c.n e x = .func (.func f) #[] #[] := by rfl) (hg : plainB ⟨some d, .call ⟨.value x, al.toArray, tys⟩, T, p, a, none⟩ = true := by rfl) (hq : q.callsB = true := by rfl) : WX q P ops c Q (⟨some d, .call ⟨.value x, al.toArray, tys⟩, T, p, a, none⟩ :: rest) e B L := by
  obtain ⟨C, hC⟩ := Option.isSome_iff_exists.1 hb
  exact zC (fun w => zR hf hC hn hx) hg rfl hc h hq
abbrev pX (b : Nat) : Value := .pointer (some ⟨b, 0, none⟩)
theorem St.d1 {B : Base} {o : Nat × Obj} {L : Heap} {w : World} (h : St B (o :: L) w) : St B L w := h.drop (List.sublist_cons_self _ _)
theorem St.f0 {x : World × (Nat → Prop)} {B : Base} {L : Heap} {w : World} (h : St (x :: B) L w) : Fr x.2 x.1 w := h.fr _ (.head _)
theorem bD {r : Prop} [Decidable r] (h : r := by decide) : Value.bool (decide r) = Value.bool true := congrArg Value.bool (decide_eq_true h)
theorem bE {r : Prop} [Decidable r] (h : ¬ r := by decide) : Value.bool (decide r) = Value.bool false := congrArg Value.bool (decide_eq_false h)
end
end Go.Sx
end
section
namespace Go.Sx
open Go.RowKit
theorem St.perm {B : Base} {L L' : Heap} {w : World} (h : St B L w) (hp : L.Perm L') : St B L' w :=
  ⟨h.fr, fun p m => h.own p (hp.mem_iff.2 m), (hp.map _).nodup h.nd, fun p m => h.ok p (hp.mem_iff.2 m)⟩
theorem St.putO {B : Base} {L : Heap} {w : World} (h : St B L w) (i : Nat) {l : Nat} {o o' : Obj} (hi : L[i]? = some (l, o)) : St B (L.set i (l, o')) (w.putObj l o') := by
  have hb := h.at_ i hi
  refine h.mod i hi ⟨rfl, rfl, rfl, by simp, fun k _ hk => World.putObj_heap_other hk⟩ (World.putObj_heap_same (lt_of_blk hb))
theorem zK {c : Cf} {Q : Exit → Act → World → Prop} {x : Exit} {e : Env} {B B' : Base} {L L' : Heap} (hs : ∀ w, St B L w → St B' L' w) (h : WK c Q x e B' L') : WK c Q x e B L := by
  unfold WK at *; exact fun w hw => h w (hs w hw)
theorem c_st {P : Program} {c : Cf} {Q : Exit → Act → World → Prop} {x : Code} {e : Env} {B B' : Base} {L L' : Heap} (hs : ∀ w, St B L w → St B' L' w) (h : WC P c x Q e B' L') : WC P c x Q e B L := by
  unfold WC at *; exact fun w hw => h w (hs w hw)
theorem w_st {P : Program} {ops : Array Oper} {c : Cf} {Q : Exit → Act → World → Prop} {l : List Oper} {e : Env} {B B' : Base} {L L' : Heap} (hs : ∀ w, St B L w → St B' L' w) (h : WX .sq P ops c Q l e B' L') : WX .sq P ops c Q l e B L := by
  unfold WX at *; exact fun w hw => h w (hs w hw)
theorem perm_mid (O A C : Heap) : (O ++ (A ++ C)).Perm (A ++ (O ++ C)) := List.perm_append_comm_assoc O A C
theorem c_rounds {P : Program} {c : Cf} {Q : Exit → Act → World → Prop} {x : Code} {e : Env} {B : Base} {L : Heap} (m : Nat) (h : WC P c x (Exit.then (fun a w => x.roundsIn (fw c.ro) 0 P Q m a w) Q) e B L) : WC P c (.loop x) Q e B L := by
  unfold WC at *
  exact fun w hw => wpIn_loop_rounds (m + 1) (by rw [roundsIn_succ]; exact h w hw)
theorem k_rounds {P : Program} {c : Cf} {Q Q' : Exit → Act → World → Prop} {x : Code} {e : Env} {B : Base} {L : Heap} {m : Nat} (h : WC P c x (Exit.then (fun a w => x.roundsIn (fw c.ro) 0 P Q m a w) Q) e B L) : WK c (Exit.then (fun a w => x.roundsIn (fw c.ro) 0 P Q (m + 1) a w) Q') .normal e B L := by
  unfold WC at h; unfold WK
  exact fun w hw => (roundsIn_succ ▸ h w hw : x.roundsIn (fw c.ro) 0 P Q (m + 1) (act c e) w)
def updL (e : Env) (l : List (Nat × Value)) : Env := l.foldl (fun e p => upd e p.1 p.2) e
theorem fold_act (n : Nat) (l : List (Nat × Value)) : ∀ e : Env, l.foldl (fun (tmps : Array Value) (x : Nat × Value) => tmps.setIfInBounds x.1 x.2) (Array.ofFn (fun i : Fin n => e i.val)) = Array.ofFn (fun i : Fin n => updL e l i.val) := by
  induction l with
  | nil => intro e; rfl
  | cons p l ih => intro e; simp only [List.foldl_cons, set_ofFn, ih]; rfl
def lpO (st : LoopState) (pe : Option Code) (fn : FuncId) (c : Cf) (e : Env) (ps : Array Tmp) (as bo : Code) (r : Nat) : Obj := .loop ⟨st, pe, fn, (act c e).tmps, ps, as, bo, r⟩
section
variable {P : Program} {Q : Exit → Act → World → Prop} {c : Cf} {e : Env} {B : Base} {L : Heap} {ps : Array Tmp} {as bo : Code} {fn : FuncId} {l r : Nat}
def RoundK (P : Program) (l : Nat) (bo : Code) (R : Ending → World → Prop) : Act → World → Prop :=
  fun a₁ w₁ => ∃ w₂, (Instr.beginRound l).run P w₁ = .ok () w₂ ∧ bo.wpIn (fw (some l)) 0 P (roundPost P l R) a₁ w₂
theorem yield_round {w : World} {args : List Value} {R : Ending → World → Prop} (i : Nat) (hw : St B L w) (hi : L[i]? = some (l, lpO .ready none fn c e ps as bo r)) (hs : Nat.beq args.length ps.size = true)
    (h : WC P ⟨c.n, [], some l⟩ as (Exit.then (RoundK P l bo R) (fun _ _ _ => False)) (updL e (ps.toList.zip args)) B L) : YieldAt (fw none) 0 P l args.toArray w R := by
  have hl := hw.at_ i hi
  refine ⟨_, _, _, _, run_yield hl (by simpa using Nat.eq_of_beq_eq_true hs), roundIn_of_wpIn trivial ?_⟩
  have e1 : (Array.foldl (fun (tmps : Array Value) (x : Nat × Value) => match x with | (t, a) => tmps.setIfInBounds t a) (act c e).tmps (ps.zip args.toArray)) = (act ⟨c.n, [], some l⟩ (updL e (ps.toList.zip args))).tmps := by
    rw [← Array.foldl_toList]
    have := fold_act c.n (ps.toList.zip args) e
    simpa [act, Array.toList_zip] using this
  have h' := h
  unfold WC at h'
  have := h' w hw
  simp only [e1]
  exact this
theorem k_begin {R : Ending → World → Prop} {l' : Nat} {ds : List Deferred} {n : Nat} {c' : Cf} {e' : Env} (i : Nat) (hi : L[i]? = some (l, lpO .ready none fn c' e' ps as bo r))
    (h : WC P ⟨n, ds, some l⟩ bo (roundPost P l R) e B (L.set i (l, lpO .busy none fn c' e' ps as bo r))) : WK ⟨n, ds, some l⟩ (Exit.then (RoundK P l bo R) (fun _ _ _ => False)) .normal e B L := by
  unfold WK; unfold WC at h
  exact fun w hw => ⟨_, run_beginRound (hw.at_ i hi) rfl, h _ (hw.putO i hi)⟩
theorem k_round {R : Ending → World → Prop} {c' : Cf} {e' : Env} {st : LoopState} (i : Nat) (hi : L[i]? = some (l, lpO st none fn c' e' ps as bo r))
    (h : ∀ w, St B (L.set i (l, lpO .ready none fn c' e' ps as bo r)) w → R (.returned (.bool true)) w) : WK c (roundPost P l R) .normal e B L := by
  unfold WK
  exact fun w hw => ⟨_, _, run_endRound none (hw.at_ i hi), h _ (hw.putO i hi)⟩
theorem k_roundX {R : Ending → World → Prop} {c' : Cf} {e' : Env} {st : LoopState} {id : Nat} (i : Nat) (hi : L[i]? = some (l, lpO st none fn c' e' ps as bo r))
    (h : ∀ w, St B (L.set i (l, lpO .done (some (.exit id)) fn c' e' ps as bo r)) w → R (.returned (.bool false)) w) : WK c (roundPost P l R) (.exit id) e B L := by
  unfold WK
  exact fun w hw => ⟨_, _, run_endRound (some (.exit id)) (hw.at_ i hi), h _ (hw.putO i hi)⟩
abbrev mark (r : Nat) : Deferred := { target := .collected r, args := #[] }
theorem c_range {n : Nat} {ds : List Deferred} {g : Operand} {f : FuncId} {F : Func} {fi ca : List Value} {x : Code} (hg : ev n e g = .func (.func f) fi.toArray ca.toArray) (hf : P.funcs[f]? = some F) (hb : F.body = some x) (hn : (F.name == "runtime.NumGoroutine") = false)
    (R : Nat → Nat → FuncId → World → Prop)
    (hc : ∀ fn r l, (∀ x ∈ L, x.1 < r) → (∀ x ∈ B, x.1.heap.size ≤ r) → l = r + 1 → ∀ w, St B ((l, lpO .ready none fn ⟨n, ds, none⟩ e ps as bo r) :: (r, .deferred (some [])) :: L) w → Ret P f (fi ++ .func (.yield l) #[] #[] :: ca).toArray w fun _ w' => R r l fn w')
    (hk : ∀ fn r l, (∀ x ∈ L, x.1 < r) → (∀ x ∈ B, x.1.heap.size ≤ r) → l = r + 1 → ∀ w, R r l fn w → ∃ B' L' st pe, st ≠ LoopState.busy ∧ St B' ((l, lpO st pe fn ⟨n, ds, none⟩ e ps as bo r) :: L') w ∧
      match pe with
      | none => WK ⟨n, mark r :: ds, none⟩ Q .normal e B' ((l, lpO .exhausted none fn ⟨n, ds, none⟩ e ps as bo r) :: L')
      | some j => WC P ⟨n, mark r :: ds, none⟩ j Q e B' ((l, lpO .exhausted pe fn ⟨n, ds, none⟩ e ps as bo r) :: L')) :
    WC P ⟨n, ds, none⟩ (.rangeFunc g ps as bo) Q e B L := by
  unfold WC
  intro w hw
  refine wpIn_rangeFunc fun fn _ => ?_
  have h1 : (∀ x ∈ L, x.1 < w.heap.size) := fun p hp => lt_of_blk (hw.own p hp)
  have h2 : (∀ x ∈ B, x.1.heap.size ≤ w.heap.size) := fun x hx => (hw.fr x hx).size
  have hs1 := hw.new (o := .deferred (some []))
  have hs2 := hs1.new (o := lpO .ready none fn ⟨n, ds, none⟩ e ps as bo w.heap.size)
  rw [World.size_alloc] at hs2
  have hn' : ¬ F.name = "runtime.NumGoroutine" := by intro h; rw [h] at hn; exact absurd hn (by decide)
  have hev : (act ⟨n, ds, none⟩ e).eval g = .func (.func f) fi.toArray ca.toArray := by rw [act_eval]; exact hg
  refine ⟨_, _, _, ⟨.fn (.func f) ca.toArray, fi.toArray ++ #[.func (.yield (w.heap.size + 1)) #[] #[]]⟩, (w.alloc (.deferred (some []))).alloc (lpO .ready none fn ⟨n, ds, none⟩ e ps as bo w.heap.size), f, (fi ++ .func (.yield (w.heap.size + 1)) #[] #[] :: ca).toArray, (w.alloc (.deferred (some []))).alloc (lpO .ready none fn ⟨n, ds, none⟩ e ps as bo w.heap.size), run_enterLoop_outer (P := P) (w := w) fn _ ps as bo, ?_, fun _ _ => trivial, ?_, fun hh => absurd hh (by simp [fw, Fence.wide]), ?_⟩
  · have h0 : #[Operand.const (.func (.yield (w.heap.size + 1)) #[] #[])].map (act ⟨n, ds, none⟩ e).eval = #[.func (.yield (w.heap.size + 1)) #[] #[]] := by simp [Act.eval]
    simp only [resolve, rangeCall, hev, Deferred.ofValue, h0]
    rfl
  · simp [invoke, callFunc, hf, hb, hn', go_sem]
  · have hcall : Calls P f _ _ _ := hc fn _ _ h1 h2 rfl _ hs2
    have hcall' : CallsIn (fw none) (0 - 1) P f _ _ _ := callsIn_wide.2 hcall
    refine hcall'.mono ?_
    rintro en w' ⟨v, rfl, hR⟩
    obtain ⟨B', L', st, pe, hst, hs, hm⟩ := hk fn _ _ h1 h2 rfl w' hR
    refine ⟨pe, _, run_endLoop (hs.at_ 0 rfl) hst, ?_⟩
    have hs' := hs.putO 0 (o' := lpO .exhausted pe fn ⟨n, ds, none⟩ e ps as bo w.heap.size) rfl
    cases pe with
    | none => unfold WK at hm; exact hm _ hs'
    | some j => unfold WC at hm; exact hm _ hs'
end
inductive Res (P : Program) (c : Cf) (e : Env) (B : Base) (L : Heap) : List ResultVar → List Value → Prop
  | nil : Res P c e B L [] []
  | tmp {t : Nat} {v : Value} {l : List ResultVar} {vs : List Value} : Nat.blt t c.n = true → e t = v → Res P c e B L l vs → Res P c e B L (.tmp t :: l) (v :: vs)
  | cell {a b off : Nat} {t : TypeId} {v : Value} {l : List ResultVar} {vs : List Value} : Nat.blt a c.n = true → e a = .pointer (some ⟨b, off, none⟩) → szB P t 1 false = true → (∀ w, St B L w → w.cell? ⟨b, off, none⟩ = some v) → Res P c e B L l vs → Res P c e B L (.cell a t :: l) (v :: vs)
  | agg {a b off k : Nat} {t T : TypeId} {cs : List Value} {l : List ResultVar} {vs : List Value} : Nat.blt a c.n = true → e a = .pointer (some ⟨b, off, none⟩) → szB P t k true = true → (∀ w, St B L w → w.heap[b]? = some (cel cs T)) → Nat.ble (off + k) cs.length = true → Res P c e B L l vs →
      Res P c e B L (.cell a t :: l) (.agg ((cs.drop off).take k).toArray :: vs)
def pack : List Value → Value
  | [v] => v
  | vs => .tuple vs.toArray
theorem load_run {P : Program} {ρ : Operand → Value} {w : World} {t : TypeId} {x : Operand} {v : Value} {a : Addr} (hx : ρ x = .pointer (some a)) (h : Run P ⟨none, .load t x, 0, default, #[], none⟩ ρ w v w) : (loadVar t a).run P w = .ok v w := by
  unfold Run at h
  simp only [execOp, hx, Instr.loadAt, Instr.sureAddr, Sem.run_bind, pure_run, Result.andThen_ok] at h
  cases hr : (loadVar t a).run P w with
  | ok u w' => rw [hr] at h; simp at h; rw [h.1, h.2]
  | halt u w' => rw [hr] at h; simp at h
def resS (tmps : Array Value) : ResultVar → Sem Value
  | .tmp t => pure (tmps.getD t undef)
  | .cell a t => do loadVar t (← asAddr (tmps.getD a undef))
theorem results_eq (fn : Func) (tmps : Array Value) : results fn tmps = (do let vs ← fn.results.mapM (resS tmps); pure (if h : vs.size = 1 then vs[0] else .tuple vs)) := by
  unfold results
  rfl
theorem cellS_run {P : Program} {c : Cf} {e : Env} {w : World} {a : Nat} {t : TypeId} {ad : Addr} {v : Value} (ht : Nat.blt a c.n = true) (he : e a = .pointer (some ad)) (h : (loadVar t ad).run P w = .ok v w) : (resS (act c e).tmps (.cell a t)).run P w = .ok v w := by
  simp only [resS, Sem.run_bind, tmp_get ht he]
  exact h
theorem Res.run {P : Program} {c : Cf} {e : Env} {B : Base} {L : Heap} {w : World} (hw : St B L w) : ∀ {l : List ResultVar} {vs : List Value}, Res P c e B L l vs → (l.mapM (resS (act c e).tmps)).run P w = .ok vs w
  | [], _, .nil => rfl
  | _ :: l, _, .tmp ht he h => by
    have ih := h.run hw
    rw [List.mapM_cons]
    simp only [resS, Sem.run_bind, Sem.run_pure, Result.andThen_ok, ih]
    rw [tmp_get ht he]
  | _ :: l, _, .cell ht he hz hc h => by
    have ih := h.run hw
    rw [List.mapM_cons]
    have hl := load_run (P := P) (ρ := ev c.n e) (w := w) (x := .const (.pointer (some _))) rfl (R_ld1 hz rfl (hc w hw))
    simp only [Sem.run_bind, Sem.run_pure]
    rw [cellS_run ht he hl]
    simp only [Result.andThen_ok, ih]
  | _ :: l, _, .agg ht he hz hc hn h => by
    have ih := h.run hw
    rw [List.mapM_cons]
    have hl := load_run (P := P) (ρ := ev c.n e) (w := w) (x := .const (.pointer (some _))) rfl (R_ldb hz rfl (hc w hw) hn)
    simp only [Sem.run_bind, Sem.run_pure]
    rw [cellS_run ht he hl]
    simp only [Result.andThen_ok, ih]
theorem Res.results {P : Program} {c : Cf} {e : Env} {B : Base} {L : Heap} {w : World} {fn : Func} {l : List ResultVar} {vs : List Value} (hr : fn.results = l.toArray) (h : Res P c e B L l vs) (hw : St B L w) : (results fn (act c e).tmps).run P w = .ok (pack vs) w := by
  rw [results_eq, hr, List.mapM_toArray]
  have := h.run hw
  simp only [Sem.run_bind, Sem.run_map, this, Result.andThen_ok, Sem.run_pure]
  cases vs with
  | nil => rfl
  | cons v vs =>
    cases vs with
    | nil => rfl
    | cons v2 vs => simp [pack]
section
variable {P : Program} {F : Func} {R : Value → World → Prop} {n : Nat} {e : Env} {B : Base} {L : Heap} {l : List ResultVar} {vs : List Value} {x : Exit} {r : Nat}
theorem r_fin (hx : x = .ret ∨ x = .normal) (hr : F.results = l.toArray) (hv : Res P (cf n) e B L l vs) (h : ∀ w, St B L w → R (pack vs) w) : WK (cf n) (Post P F R) x e B L := by
  unfold WK Post
  intro w hw
  rcases hx with rfl | rfl <;> exact ⟨rfl, _, hv.results hr hw, _, rfl, h w hw⟩
theorem r_finM (hx : x = .ret ∨ x = .normal) (hr : F.results = l.toArray) (hv : Res P (cf n) e B L l vs) (h : ∀ w, St B L w → R (pack vs) w) : WK (cf n) (PostM P F R) x e B L := by
  unfold WK PostM
  intro w hw
  have h1 : LeavesInM (fw none) 0 P F (act (cf n) e).tmps (fun e w' => ∃ v, e = .returned v ∧ R v w') [] .returning w := ⟨_, hv.results hr hw, _, rfl, h w hw⟩
  rcases hx with rfl | rfl <;> exact h1
theorem r_finM1 (i : Nat) (hi : L[i]? = some (r, .deferred (some []))) (hx : x = .ret ∨ x = .normal) (hr : F.results = l.toArray) (hv : Res P ⟨n, [mark r], none⟩ e B (L.set i (r, .deferred none)) l vs) (h : ∀ w, St B (L.set i (r, .deferred none)) w → R (pack vs) w) :
    WK ⟨n, [mark r], none⟩ (PostM P F R) x e B L := by
  unfold WK PostM
  intro w hw
  have h1 : LeavesInM (fw none) 0 P F (act ⟨n, [mark r], none⟩ e).tmps (fun e w' => ∃ v, e = .returned v ∧ R v w') [mark r] .returning w := by
    refine ⟨by simp, .inl ⟨r, _, rfl, run_takeDeferred (hw.at_ i hi), ?_⟩⟩
    have hs := hw.putO i (o' := .deferred none) hi
    exact ⟨_, hv.results hr hs, _, rfl, h _ hs⟩
  rcases hx with rfl | rfl <;> exact h1
end
end Go.Sx
end
section
namespace Go.Sx
open Go.RowKit
def slT (P : Program) (t e k bytes : Nat) (z : Value) : Prop := P.underlying t = some (.slice e) ∧ (P.info? e).map (fun i => (i.size, i.bytes, i.zero)) = some (k, bytes, some z) ∧ z.cells.size = k
theorem slT_spec {P : Program} {t e k bytes : Nat} {z : Value} (h : slT P t e k bytes z) : ∃ i, P.underlying t = some (.slice e) ∧ P.info? e = some i ∧ i.size = k ∧ i.bytes = bytes ∧ i.zero = some z ∧ z.cells.size = k := by
  obtain ⟨h1, h2, h3⟩ := h
  cases hi : P.info? e with
  | none => rw [hi] at h2; cases h2
  | some i =>
    rw [hi] at h2
    simp only [Option.map_some, Option.some.injEq, Prod.mk.injEq] at h2
    exact ⟨i, h1, rfl, h2.1, h2.2.1, h2.2.2, h3⟩
def OwnR (T : TypeId) (k : Nat) (v : Value) (xs : List Value) (n : Nat) (A L L' : Heap) : Prop :=
  xs.length = n * k ∧ ((v = .slice none 0 0 ∧ n = 0 ∧ L' = A ++ L) ∨ ∃ b c sp, v = .slice (some ⟨b, 0, none⟩) n c ∧ n ≤ c ∧ sp.length = (c - n) * k ∧ L' = A ++ (b, cel (xs ++ sp) T) :: L)
theorem OwnR.nil (T : TypeId) (k : Nat) (A L : Heap) : OwnR T k (.slice none 0 0) [] 0 A L (A ++ L) := ⟨by simp, .inl ⟨rfl, rfl, rfl⟩⟩
theorem all_mem {l : List Value} (h : l.all Value.oneCell' = true) : ∀ u ∈ l, u.oneCell' = true := fun u hu => List.all_eq_true.1 h u hu
section
variable {P : Program} {ops : Array Oper} {Q : Exit → Act → World → Prop} {c : Cf} {e : Env} {B : Base} {L L1 A : Heap} {rest : List Oper} {d : Nat}
theorem R_append {ρ : Operand → Value} {w : World} {D : Option Tmp} {ty t : TypeId} {pos : String} {aft : Array Edge} {g : Option (Nat × Bool)} {x y : Operand} {v u r : Value} {w' : World} (hx : ρ x = v) (hy : ρ y = u) (h : (Builtin.append_ #[t, t] ty #[v, u]).run P w = .ok r w') :
    Run P ⟨D, .call ⟨.builtin .append, #[x, y], #[t, t]⟩, ty, pos, aft, g⟩ ρ w r w' := by
  unfold Run
  simp only [execOp, resolve, Sem.run_bind, pure_run, Result.andThen_ok, invoke, builtin, List.map_toArray, List.map_cons, List.map_nil, hx, hy, h]
theorem set_mid {A L : Heap} {p q : Nat × Obj} : (A ++ p :: L).set A.length q = A ++ q :: L := by simp
theorem w_append {x y : Operand} {T : TypeId} {p : String} {ed : Array Edge} {t el k bytes : Nat} {z v : Value} {xs news : List Value} {n m b2 o2 c2 : Nat} (hT : slT P t el k bytes z) (hk : 0 < k) (hx : ev c.n e x = v) (hown : OwnR el k v xs n A L L1) (hy : ev c.n e y = .slice (some ⟨b2, o2, none⟩) m c2)
    (hl : news.length = m * k) (hnews : ∀ w, St B L1 w → ∀ j u, news[j]? = some u → w.cell? ⟨b2, o2 + j, none⟩ = some u) (h1 : news.all Value.oneCell' = true) (hm : 0 < m) (h63 : n + m ≤ 9223372036854775807) (hbytes : (n + m) * bytes ≤ 140737488355328)
    (h : ∀ v' L2, OwnR el k v' (xs ++ news) (n + m) A L L2 → WX .sq P ops c Q rest (upd e d v') B L2) : WX .sq P ops c Q (⟨some d, .call ⟨.builtin .append, #[x, y], #[t, t]⟩, T, p, ed, none⟩ :: rest) e B L1 := by
  obtain ⟨i, ht, hi, hsz, hby, hz, hzs⟩ := slT_spec hT
  subst hsz; subst hby
  obtain ⟨hxl, hown⟩ := hown
  have hn2 : ∀ w, St B L1 w → ∀ j u, news[j]? = some u → w.cell? ((⟨b2, o2, none⟩ : Addr).add j) = some u := fun w hw j u hu => by
    have := hnews w hw j u hu
    simp only [Addr.add]; split <;> simp_all
  have hlen : (xs ++ news).length = (n + m) * i.size := by rw [List.length_append, hxl, hl, Nat.add_mul]
  unfold WX at *
  intro w hw
  rcases hown with ⟨rfl, rfl, rfl⟩ | ⟨b, cp, sp, rfl, hc, hs', rfl⟩
  · rw [Nat.zero_add] at *
    have hr := run_append_nil (P := P) w t T el i z ht hi hz ⟨b2, o2, none⟩ m c2 news hl (hn2 w hw) hm (by omega) (by omega)
    have hx0 : xs = [] := by simpa using hxl
    subst hx0
    have hge := grownCap_ge w m 0 el
    have hs := (hw.drawn (w.drawn + 1)).new (o := cel ([] ++ news ++ (Builtin.zeroCells z.cells (grownCap w m 0 el - m)).toList) el)
    refine s_run (R_append hx hy hr) rfl rfl (h _ (A ++ (w.heap.size, cel ([] ++ news ++ (Builtin.zeroCells z.cells (grownCap w m 0 el - m)).toList) el) :: L) ⟨hlen, .inr ⟨w.heap.size, grownCap w m 0 el, _, rfl, hge, ?_, rfl⟩⟩ _ ?_)
    · rw [Array.length_toList, size_zeroCells, hzs]
    have := hs.perm (List.perm_middle.symm)
    have e1 : (news.toArray ++ Builtin.zeroCells z.cells (grownCap w m 0 el - m) : Array Value) = ([] ++ news ++ (Builtin.zeroCells z.cells (grownCap w m 0 el - m)).toList).toArray := by simp
    rw [e1]
    exact this
  have hb := hw.own (b, cel (xs ++ sp) el) (by simp)
  by_cases hroom : n + m ≤ cp
  · have hmk : (cp - n) * i.size = m * i.size + (cp - (n + m)) * i.size := by rw [← Nat.add_mul]; congr 1; omega
    have hr := run_append_room (P := P) w t T el i ht hi b n cp (xs ++ sp).toArray hb ⟨b2, o2, none⟩ m c2 news hl (hn2 w hw) (all_mem h1) hroom (by simp; omega)
    have hs := hw.put A.length (l' := xs ++ news ++ sp.drop news.length) (b := b) (l := xs ++ sp) (T := el) (by simp)
    rw [set_mid] at hs
    have e1 : ((xs ++ sp).toArray.toList.take (n * i.size) ++ news ++ (xs ++ sp).toArray.toList.drop (n * i.size + news.length)) = xs ++ news ++ sp.drop news.length := by
      simp only []
      rw [← hxl, List.take_left', List.drop_append]
      · simp [List.drop_eq_nil_of_le]
      rfl
    rw [e1] at hr
    refine s_run (R_append hx hy hr) rfl rfl (h _ _ ⟨hlen, .inr ⟨b, cp, sp.drop news.length, rfl, hroom, ?_, rfl⟩⟩ _ hs)
    rw [List.length_drop, hs', hl] <;> omega
  have hge := grownCap_ge w (n + m) cp el
  have hr := run_append_grow (P := P) w t T el i z ht hi hz ⟨b, 0, none⟩ n cp xs hxl (fun j u hu => by
      have hj := (List.getElem?_eq_some_iff.1 hu).1
      have : w.cell? ⟨b, 0 + j, none⟩ = some u := by
        simp only [World.cell?, hb]
        simp [List.getElem?_append_left hj, hu]
      simp only [Addr.add]; split <;> simp_all) ⟨b2, o2, none⟩ m c2 news hl (hn2 w hw) (by omega) (by omega) (growslice_fits (by omega) hbytes)
  have hs := (hw.drawn (w.drawn + 1)).new (o := cel (xs ++ news ++ (Builtin.zeroCells z.cells (grownCap w (n + m) cp el - (n + m))).toList) el)
  refine s_run (R_append hx hy hr) rfl rfl (h _ (A ++ (w.heap.size, cel (xs ++ news ++ (Builtin.zeroCells z.cells (grownCap w (n + m) cp el - (n + m))).toList) el) :: L) ⟨hlen, .inr ⟨w.heap.size, grownCap w (n + m) cp el, _, rfl, hge, ?_, rfl⟩⟩ _ ?_)
  · rw [Array.length_toList, size_zeroCells, hzs]
  have h2 := hs.drop (L' := (w.heap.size, cel (xs ++ news ++ (Builtin.zeroCells z.cells (grownCap w (n + m) cp el - (n + m))).toList) el) :: (A ++ L)) (by
    refine List.Sublist.cons_cons _ ?_
    exact List.Sublist.append (List.Sublist.refl _) (List.sublist_cons_self _ _))
  have := h2.perm (List.perm_middle.symm)
  have e1 : (xs.toArray ++ news.toArray ++ Builtin.zeroCells z.cells (grownCap w (n + m) cp el - (n + m)) : Array Value) = (xs ++ news ++ (Builtin.zeroCells z.cells (grownCap w (n + m) cp el - (n + m))).toList).toArray := by simp
  rw [e1]
  exact this
def Own (T : TypeId) (k : Nat) (v : Value) (xs : List Value) (n : Nat) (W : Heap) : Prop :=
  xs.length = n * k ∧ ((v = .slice none 0 0 ∧ n = 0 ∧ W = []) ∨ ∃ b c sp, v = .slice (some ⟨b, 0, none⟩) n c ∧ n ≤ c ∧ sp.length = (c - n) * k ∧ W = [(b, cel (xs ++ sp) T)])
theorem Own.nil (T : TypeId) (k : Nat) : Own T k (.slice none 0 0) [] 0 [] := ⟨by simp, .inl ⟨rfl, rfl, rfl⟩⟩
theorem Own.slice {T : TypeId} {k : Nat} {v : Value} {xs : List Value} {n : Nat} {W : Heap} (h : Own T k v xs n W) : ∃ a c, v = .slice a n c := by
  rcases h.2 with ⟨rfl, rfl, _⟩ | ⟨b, c, sp, rfl, _⟩
  · exact ⟨_, _, rfl⟩
  exact ⟨_, _, rfl⟩
theorem Own.toR {T : TypeId} {k : Nat} {v : Value} {xs : List Value} {n : Nat} {W : Heap} (h : Own T k v xs n W) (A L : Heap) : OwnR T k v xs n A L (A ++ (W ++ L)) := by
  refine ⟨h.1, ?_⟩
  rcases h.2 with ⟨h1, h2, rfl⟩ | ⟨b, c, sp, h1, h2, h3, rfl⟩
  · exact .inl ⟨h1, h2, rfl⟩
  exact .inr ⟨b, c, sp, h1, h2, h3, rfl⟩
theorem OwnR.own {T : TypeId} {k : Nat} {v : Value} {xs : List Value} {n : Nat} {A L L1 : Heap} (h : OwnR T k v xs n A L L1) : ∃ W, Own T k v xs n W ∧ L1 = A ++ (W ++ L) := by
  rcases h.2 with ⟨h1, h2, rfl⟩ | ⟨b, c, sp, h1, h2, h3, rfl⟩
  · exact ⟨[], ⟨h.1, .inl ⟨h1, h2, rfl⟩⟩, rfl⟩
  exact ⟨[(b, cel (xs ++ sp) T)], ⟨h.1, .inr ⟨b, c, sp, h1, h2, h3, rfl⟩⟩, rfl⟩
theorem w_app {W : Heap} {x y : Operand} {T : TypeId} {p : String} {ed : Array Edge} {t el k bytes : Nat} {z v : Value} {xs news : List Value} {n m b2 o2 c2 : Nat} (A : Heap) (hT : slT P t el k bytes z) (hk : 0 < k) (hx : ev c.n e x = v) (hown : Own el k v xs n W) (hy : ev c.n e y = .slice (some ⟨b2, o2, none⟩) m c2)
    (hl : news.length = m * k) (hnews : ∀ w, St B (A ++ (W ++ L)) w → ∀ j u, news[j]? = some u → w.cell? ⟨b2, o2 + j, none⟩ = some u) (h1 : news.all Value.oneCell' = true) (hm : 0 < m) (h63 : n + m ≤ 9223372036854775807) (hbytes : (n + m) * bytes ≤ 140737488355328)
    (h : ∀ v' W', Own el k v' (xs ++ news) (n + m) W' → WX .sq P ops c Q rest (upd e d v') B (A ++ (W' ++ L))) : WX .sq P ops c Q (⟨some d, .call ⟨.builtin .append, #[x, y], #[t, t]⟩, T, p, ed, none⟩ :: rest) e B (A ++ (W ++ L)) :=
  w_append hT hk hx (hown.toR A L) hy hl hnews h1 hm h63 hbytes fun v' L2 h2 => by
    obtain ⟨W', h3, rfl⟩ := h2.own
    exact h v' W' h3
theorem row_own (i : Nat) {b : Nat} {cs news : List Value} {T : TypeId} (hi : L[i]? = some (b, cel cs T)) (hn : ∀ (j : Nat) u, news[j]? = some u → cs[j]? = some u) : ∀ w, St B L w → ∀ (j : Nat) u, news[j]? = some u → w.cell? ⟨b, 0 + j, none⟩ = some u :=
  fun w hw j u hu => zc i hi (by rw [Nat.zero_add]; exact hn j u hu) hw
def zsL (z : Value) (m : Nat) : List Value := (List.range m).map fun j => z.cells[j % z.cells.size]!
theorem zS {T : TypeId} {p : String} {ed : Array Edge} {t el k bytes len : Nat} {z : Value} {parts : List (Nat × Operand)} (hT : slT P t el k bytes z) (hk : 0 < len * k) (hs : Nat.ble (len * k) 16777216 = true) (hf : fillB (plA len k) (parts.map fun p => (p.1, ev c.n e p.2)) (len * k) = true)
    (h : ∀ b, (∀ x ∈ L, x.1 < b) → (∀ x ∈ B, x.1.heap.size ≤ b) → WX .sq P ops c Q rest (upd e d (.slice (some ⟨b, 0, none⟩) len len)) B ((b, cel (fillL (plA len k) (parts.map fun p => (p.1, ev c.n e p.2)) (zsL z (len * k))) el) :: L)) :
    WX .sq P ops c Q (⟨some d, .buildSlice t len parts.toArray, T, p, ed, none⟩ :: rest) e B L := by
  obtain ⟨i, ht, hi, hsz, hby, hz, hzs⟩ := slT_spec hT
  subst hsz
  have hlen : (zsL z (len * i.size)).length = len * i.size := by simp [zsL]
  have hf' := hf
  rw [← hlen] at hf'
  have hfe := fill_eq (plA len i.size) (parts.map fun p => (p.1, ev c.n e p.2)) _ hf'
  rw [← fill_arr len i.size _ _ hf'] at hfe
  unfold WX at *
  intro w hw
  have hr : Run P ⟨some d, .buildSlice t len parts.toArray, T, p, ed, none⟩ (ev c.n e) w (.slice (some ⟨w.heap.size, 0, none⟩) len len) (w.alloc (cel (fillL (plA len i.size) (parts.map fun p => (p.1, ev c.n e p.2)) (zsL z (len * i.size))) el)) := by
    have e1 : ((Array.range (len * i.size)).map (fun j => z.cells[j % z.cells.size]!)) = (zsL z (len * i.size)).toArray := by simp [zsL, Array.toList_range, ← List.toArray_range]
    have h0 : ¬ len * i.size = 0 := by omega
    have h1 : ¬ 16777216 < len * i.size := by have := Nat.le_of_ble_eq_true hs; omega
    unfold Run
    simp only [execOp, Instr.buildSlice, Sem.run_bind, run_underlying ht, Result.andThen_ok, sizeOf, typeInfo, run_program, hi, Sem.run_pure, zeroValue, hz, h0, if_false, List.map_toArray]
    rw [if_neg (by simpa using h1)]
    simp only [Sem.run_bind, run_program, Result.andThen_ok, hi, Sem.run_pure, hz, e1, hfe, newRow, run_newObj]
    rfl
  exact s_run hr rfl rfl (h w.heap.size (fun p hp => lt_of_blk (hw.own p hp)) (fun x hx => (hw.fr x hx).size) _ hw.new)
end
end Go.Sx
end
section
namespace Go.Sx
open Go.RowKit
theorem keys_pick : ∀ (idx : List Nat) (L : Heap), idx.Nodup → (L.map (·.1)).Nodup → ((idx.filterMap fun i => L[i]?).map (·.1)).Nodup
  | [], _, _, _ => by simp
  | i :: idx, L, hn, hL => by
    have hn' := List.nodup_cons.1 hn
    have ih := keys_pick idx L hn'.2 hL
    cases hi : L[i]? with
    | none => simpa [List.filterMap_cons, hi] using ih
    | some p =>
      rw [List.filterMap_cons, hi]
      simp only [List.map_cons]
      refine List.nodup_cons.2 ⟨fun hm => ?_, ih⟩
      obtain ⟨q, hq, he⟩ := List.mem_map.1 hm
      obtain ⟨j, hj, hj2⟩ := List.mem_filterMap.1 hq
      obtain ⟨hil, hie⟩ := List.getElem?_eq_some_iff.1 hi
      obtain ⟨hjl, hje⟩ := List.getElem?_eq_some_iff.1 hj2
      have : i = j := by
        have h1 : (L.map (·.1))[i]'(by simpa using hil) = (L.map (·.1))[j]'(by simpa using hjl) := by simp [hie, hje, he]
        have hp := List.pairwise_iff_getElem.1 hL
        rcases Nat.lt_trichotomy i j with hlt | heq | hlt
        · exact (hp i j _ _ hlt h1).elim
        · exact heq
        · exact (hp j i _ _ hlt h1.symm).elim
      subst this
      exact hn'.1 hj
theorem St.pickT {B : Base} {W : Heap} {w : World} (L : Heap) (h : St B (L ++ W) w) (idx : List Nat) (hn : idx.Nodup) : St B ((idx.filterMap fun i => L[i]?) ++ W) w := by
  have hmem : ∀ p ∈ (idx.filterMap fun i => L[i]?), p ∈ L := fun p hp => by
    obtain ⟨j, _, hj⟩ := List.mem_filterMap.1 hp
    exact List.mem_of_getElem? hj
  have hsub : ∀ p ∈ (idx.filterMap fun i => L[i]?) ++ W, p ∈ L ++ W := fun p hp => by
    rcases List.mem_append.1 hp with hp | hp
    · exact List.mem_append.2 (.inl (hmem p hp))
    exact List.mem_append.2 (.inr hp)
  have hnd := h.nd
  rw [List.map_append, List.nodup_append] at hnd
  refine ⟨h.fr, fun p hp => h.own p (hsub p hp), ?_, fun p hp => h.ok p (hsub p hp)⟩
  rw [List.map_append, List.nodup_append]
  refine ⟨keys_pick idx L hn hnd.1, hnd.2.1, fun a ha b hb => ?_⟩
  obtain ⟨p, hp, rfl⟩ := List.mem_map.1 ha
  exact hnd.2.2 _ (List.mem_map.2 ⟨p, hmem p hp, rfl⟩) b hb
theorem St.pick {B : Base} {L : Heap} {w : World} (h : St B L w) (idx : List Nat) (hn : idx.Nodup) : St B (idx.filterMap fun i => L[i]?) w := by
  have := St.pickT (W := []) L (by simpa using h) idx hn
  simpa using this
theorem pk {B : Base} {L : Heap} (idx : List Nat) (hn : idx.Nodup := by decide) : ∀ w, St B L w → St B (idx.filterMap fun i => L[i]?) w := fun _ h => h.pick idx hn
structure New (w w' : World) (W : Heap) : Prop where
  ext : Ext w w'
  own : ∀ p ∈ W, w.heap.size ≤ p.1 ∧ w'.heap[p.1]? = some p.2
  nd : (W.map (·.1)).Nodup
theorem St.made {w w' : World} {A W : Heap} (h : St [(w, No)] (A ++ W) w') : New w w' W := by
  refine ⟨h.fr (w, No) zm0, fun p hp => ⟨?_, h.own p (List.mem_append.2 (.inr hp))⟩, ?_⟩
  · rcases h.ok p (List.mem_append.2 (.inr hp)) (w, No) zm0 with hh | hh
    · exact hh.elim
    exact hh
  have := h.nd
  rw [List.map_append, List.nodup_append] at this
  exact this.2.1
theorem New.none {w w' : World} (h : Ext w w') : New w w' [] := ⟨h, fun p hp => (List.not_mem_nil hp).elim, .nil⟩
theorem St.newW {B : Base} {L W : Heap} {w w' : World} (h : St B L w) (hn : New w w' W) : St B (W ++ L) w' := by
  have h1 := h.ext hn.ext
  refine ⟨h1.fr, fun p hp => ?_, ?_, fun p hp => ?_⟩
  · rcases List.mem_append.1 hp with hp | hp
    · exact (hn.own p hp).2
    exact h1.own p hp
  · rw [List.map_append, List.nodup_append]
    refine ⟨hn.nd, h.nd, fun a ha b hb => ?_⟩
    obtain ⟨p, hp, rfl⟩ := List.mem_map.1 ha
    obtain ⟨q, hq, rfl⟩ := List.mem_map.1 hb
    have h2 := (hn.own p hp).1
    have h3 := h.newN q hq
    intro he
    omega
  rcases List.mem_append.1 hp with hp | hp
  · intro x hx
    have h2 := (hn.own p hp).1
    have h3 := (h.fr x hx).size
    exact .inr (by omega)
  exact h1.ok p hp
theorem zM {B : Base} {L : Heap} {w : World} {b j : Nat} {cs : List Value} {T : TypeId} {v : Value} (hm : (b, cel cs T) ∈ L) (hj : cs[j]? = some v) (h : St B L w) : w.cell? ⟨b, j, none⟩ = some v := by
  obtain ⟨i, hi⟩ := List.getElem?_of_mem hm
  exact zc i hi hj h
theorem Own.cell {T : TypeId} {k : Nat} {a : Option Addr} {n c i : Nat} {xs : List Value} {W : Heap} (h : Own T k (.slice a n c) xs n W) (hi : i < n) : ∃ b, a = some ⟨b, 0, none⟩ ∧ ∀ (B : Base) (L : Heap) (w : World), (∀ p ∈ W, p ∈ L) → St B L w → ∀ (j : Nat) u, xs[j]? = some u → w.cell? ⟨b, j, none⟩ = some u := by
  rcases h.2 with ⟨_, h2, _⟩ | ⟨b, c', sp, h1, _, _, rfl⟩
  · omega
  simp only [Value.slice.injEq] at h1
  refine ⟨b, h1.1, fun B L w hs hw j u hu => zM (cs := xs ++ sp) (T := T) (hs _ zm0) ?_ hw⟩
  rw [List.getElem?_append_left (List.getElem?_eq_some_iff.1 hu).1]
  exact hu
section
variable {P : Program} {ops : Array Oper} {Q : Exit → Act → World → Prop} {c : Cf} {e : Env} {B : Base} {L : Heap} {o : Oper} {rest : List Oper} {d : Nat}
theorem w_callW {f : FuncId} {args : Array Value} {R : Value → Heap → Prop} (hr : ∀ w, RunE P o (ev c.n e) w f args) (hg : plainB o = true) (hd : o.dst = some d)
    (hc : ∀ w, St B L w → Ret P f args w fun u w' => ∃ W, R u W ∧ New w w' W)
    (h : ∀ u W, R u W → WX .sq P ops c Q rest (upd e d u) B (W ++ L)) : WX .sq P ops c Q (o :: rest) e B L :=
  zP hr hg hd hc fun _ hw _ _ ⟨W, hR, hn⟩ => ⟨B, W ++ L, hw.newW hn, h _ W hR⟩
theorem zU {q : Md} {op : Op} {T : TypeId} {p : String} {a : Array Edge} {j t : Nat} {b : Bool} (hj : (ops[j]?).bind (·.dst) = some t) (ht : Nat.blt t c.n = true) (he : e t = undef) (h : WX q P ops c Q rest (upd e d undef) B L) : WX q P ops c Q (⟨some d, op, T, p, a, some (j, b)⟩ :: rest) e B L := by
  have hw : Region.wanted ⟨some d, op, T, p, a, some (j, b)⟩ (yielded ops (act c e).tmps) = false := by
    simp [Region.wanted, yielded, hj, act_get, ht, he, undef]
  unfold WX at *
  rcases q with _ | _ | tl
  · exact fun w hs => s_skip hw rfl (h w hs)
  · exact q_skip hw rfl h
  exact fun w hs => t_skip hw rfl (h w hs)
theorem c_gen {x : Code} (h : ∀ e', e' = e → WC P c x Q e' B L) : WC P c x Q e B L := h e rfl
end
end Go.Sx
end
section
namespace Go.Sx
open Go.RowKit
structure flatS (P : Program) (t : TypeId) (l : List (TypeId × Nat)) : Prop where
  u : P.underlying t = some (.struct (P.fieldsOf t))
  f : ((P.fieldsOf t).toList.map fun f => (f.type, f.offset, f.name == "_")) = l.map fun x => (x.1, x.2, false)
  s : P.stoodInHeld t = false
  g : P.eqGuardType P.depth t = false
theorem run_part1 {P : Program} {t : TypeId} {xs : List Value} {o : Nat} {v : Value} {w : World} (hz : szB P t 1 false = true) (h : xs[o]? = some v) : (part t xs.toArray o).run P w = .ok v w := by
  simp [part, run_isAgg hz, h, Sem.run_bind]
theorem eqF_nil {P : Program} {d : Nat} {xs ys : Array Value} {w : World} : (Op.eqFields d xs ys []).run P w = .ok true w := by simp [Op.eqFields]
theorem eqF_cons {P : Program} {d : Nat} {xs ys : List Value} {w : World} {f : Field} {fs : List Field} {t : TypeId} {o : Nat} {a b : Value} {r r2 : Bool} (hf : (f.type, f.offset, f.name == "_") = (t, o, false)) (hz : szB P t 1 false = true)
    (ha : xs[o]? = some a) (hb : ys[o]? = some b) (he : (Op.equalIn d t a b).run P w = .ok r w) (h : (Op.eqFields d xs.toArray ys.toArray fs).run P w = .ok r2 w) : (Op.eqFields d xs.toArray ys.toArray (f :: fs)).run P w = .ok (r && r2) w := by
  simp only [Prod.mk.injEq] at hf
  obtain ⟨rfl, rfl, hn⟩ := hf
  have hn : f.name ≠ "_" := by simpa using hn
  simp only [Op.eqFields, hn, ne_eq, not_false_eq_true, if_true, Sem.run_bind, run_part1 hz ha, run_part1 hz hb, Result.andThen_ok, he]
  cases r
  · simp
  simp only [Bool.not_true, Bool.false_eq_true, if_false, h, Bool.true_and]
theorem eq_int_run {P : Program} {d : Nat} {t : TypeId} {k k' : IntKind} {a b : Int} {w : World} (h : P.underlying t = some (.int k')) : (Op.equalIn (d + 1) t (.int k a) (.int k b)).run P w = .ok (decide (a = b)) w := by
  rw [run_equalIn_int w d t k k' a b h]; by_cases hx : a = b <;> simp [hx]
section
variable {P : Program} {ρ : Operand → Value} {w : World} {D : Option Tmp} {ty t yt : TypeId} {pos : String} {aft : Array Edge} {g : Option (Nat × Bool)} {x y : Operand}
theorem eq2_run {t1 t2 : TypeId} {k1 k2 : IntKind} {a b c d : Int} {w : World} {n : Nat} (hS : flatS P t [(t1, 0), (t2, 1)]) (z1 : szB P t1 1 false = true) (z2 : szB P t2 1 false = true) (u1 : P.underlying t1 = some (.int k1)) (u2 : P.underlying t2 = some (.int k2)) :
    (Op.equalIn (n + 2) t (.agg #[.int k1 a, .int k2 b]) (.agg #[.int k1 c, .int k2 d])).run P w = .ok (decide (a = c) && (decide (b = d) && true)) w := by
  rw [run_equalIn_agg w (n + 1) t _ _ hS.u hS.s]
  have hf := hS.f
  generalize (P.fieldsOf t).toList = fs at hf
  obtain ⟨f1, fs1, rfl, h1, hf⟩ := List.map_eq_cons_iff.1 hf
  obtain ⟨f2, fs2, rfl, h2, hf⟩ := List.map_eq_cons_iff.1 hf
  obtain rfl := List.map_eq_nil_iff.1 hf
  exact eqF_cons (xs := [.int k1 a, .int k2 b]) (ys := [.int k1 c, .int k2 d]) h1 z1 rfl rfl (eq_int_run u1) (eqF_cons h2 z2 rfl rfl (eq_int_run u2) eqF_nil)
theorem R_eqS {xs ys : Array Value} {r : Bool} {l : List (TypeId × Nat)} (hS : flatS P t l) (hx : ρ x = .agg xs) (hy : ρ y = .agg ys) (he : (Op.equalIn 10000 t (.agg xs) (.agg ys)).run P w = .ok r w) : Run P ⟨D, .binOp .eql t x y yt, ty, pos, aft, g⟩ ρ w (.bool r) w := by
  simp [Run, execOp, hx, hy, Sem.run_bind, run_eqGuard_agg w .eql t x y xs ys hS.g, run_eql_struct, he]
end
theorem w_loadC {P : Program} {ops : Array Oper} {Q : Exit → Act → World → Prop} {q : Md} {c : Cf} {e : Env} {B : Base} {L : Heap} {rest : List Oper} {d : Nat} {t : TypeId} {x : Operand} {ty : TypeId} {p : String} {a : Array Edge} {b off k : Nat} {l : List Value}
    (hz : szB P t k true = true) (hx : ev c.n e x = .pointer (some ⟨b, off, none⟩)) (hl : l.length = k) (hc : ∀ w, St B L w → ∀ j v, l[j]? = some v → w.cell? ⟨b, off + j, none⟩ = some v) (h : WX q P ops c Q rest (upd e d (.agg l.toArray)) B L) : WX q P ops c Q (⟨some d, .load t x, ty, p, a, none⟩ :: rest) e B L :=
  w_run (fun w hw => R_ldA hz hx hl (hc w hw)) rfl rfl h
theorem Own.cellw {T : TypeId} {k : Nat} {a : Option Addr} {n c i : Nat} {xs : List Value} {W : Heap} (h : Own T k (.slice a n c) xs n W) (hi : i < n) : ∃ b, a = some ⟨b, 0, none⟩ ∧ ∀ (w : World), (∀ p ∈ W, w.heap[p.1]? = some p.2) → ∀ (j : Nat) u, xs[j]? = some u → w.cell? ⟨b, j, none⟩ = some u := by
  rcases h.2 with ⟨_, h2, _⟩ | ⟨b, c', sp, h1, _, _, rfl⟩
  · omega
  simp only [Value.slice.injEq] at h1
  refine ⟨b, h1.1, fun w hw j u hu => ?_⟩
  have hb := hw (b, cel (xs ++ sp) T) zm0
  simp only [World.cell?, hb]
  have hj := (List.getElem?_eq_some_iff.1 hu).1
  simp [List.getElem?_append_left hj, hu]
end Go.Sx
end
section
namespace Go.Sx
open Go.RowKit
theorem made_one (v : Value) (n : Nat) : madeCells #[v] n = (List.replicate n v).toArray := by
  apply Array.ext
  · simp [madeCells]
  intro i h1 h2
  simp [madeCells, Nat.mod_one]
def byF (x : Int) (n i : Nat) : List Value := List.replicate i (.int .u8 x) ++ List.replicate (n - i) (.int .u8 0)
section
variable {P : Program} {ops : Array Oper} {Q : Exit → Act → World → Prop} {q : Md} {c : Cf} {e : Env} {B : Base} {L : Heap} {rest : List Oper} {d : Nat}
theorem R_convI {ρ : Operand → Value} {w : World} {D : Option Tmp} {ty src dst : TypeId} {pos : String} {aft : Array Edge} {g : Option (Nat × Bool)} {x : Operand} {k k2 : IntKind} {m : Int} (hs : P.underlying src = some (.int k)) (hd : P.underlying dst = some (.int k2)) (hx : ρ x = .int k m) :
    Run P ⟨D, .convert src dst x, ty, pos, aft, g⟩ ρ w (.int k2 (k2.wrap m)) w := by
  simp [Run, execOp, hx, convert, run_underlying hs, run_underlying hd, go_sem]
end
section
variable {P : Program} {ops : Array Oper} {Q : Exit → Act → World → Prop} {c : Cf} {e : Env} {B : Base} {L : Heap} {rest : List Oper} {d : Nat} {x : Operand} {T : TypeId} {p : String} {a : Array Edge}
theorem w_boxA {t : TypeId} {cs : List Value} (hx : ev c.n e x = .agg cs.toArray)
    (h : ∀ b, (∀ x ∈ L, x.1 < b) → (∀ x ∈ B, x.1.heap.size ≤ b) → WX .sq P ops c Q rest (upd e d (pX b)) B ((b, cel cs t) :: L)) : WX .sq P ops c Q (⟨some d, .box t x, T, p, a, none⟩ :: rest) e B L := w_box hx h
end
end Go.Sx
end
section
namespace Go.Sx
open Go.RowKit
def entsF {α : Type} (f : α → Value) : List (α × Value) → Nat → List MapEntry
  | [], _ => []
  | p :: l, i => ⟨f p.1, p.2, i⟩ :: entsF f l (i + 1)
theorem entsF_snoc {α : Type} (f : α → Value) (p : α × Value) : ∀ (l : List (α × Value)) (i : Nat), entsF f (l ++ [p]) i = entsF f l i ++ [⟨f p.1, p.2, i + l.length⟩]
  | [], i => by simp [entsF]
  | q :: l, i => by simp only [List.cons_append, entsF, entsF_snoc f p l (i + 1), List.length_cons]; rw [show i + 1 + l.length = i + (l.length + 1) by omega]
def mpI (k : IntKind) (l : List (Int × Value)) : Obj := .map (entsF (Value.int k) l 0).toArray l.length
def mpS (l : List (List UInt8 × Value)) : Obj := .map (entsF str l 0).toArray l.length
theorem beq_bytes (x y : List UInt8) : ((⟨x.toArray⟩ : ByteArray) == ⟨y.toArray⟩) = (x == y) := by
  have h : ((⟨x.toArray⟩ : ByteArray) == ⟨y.toArray⟩) = (x.toArray == y.toArray) := rfl
  rw [h]; simp
theorem find_strs (x : List UInt8) : ∀ (l : List (List UInt8 × Value)) (i j : Nat), ∃ r, Instr.findNow .string (str x) (entsF str l i) j = some r ∧ r.map (·.2) = l.lookup x
  | [], _, _ => ⟨none, rfl, rfl⟩
  | (y, v) :: l, i, j => by
    obtain ⟨r, h1, h2⟩ := find_strs x l (i + 1) (j + 1)
    simp only [entsF, Instr.findNow, Instr.sameNow, str, List.lookup, beq_bytes]
    by_cases hxy : x = y
    · subst hxy; exact ⟨some (j, v), by simp, by simp⟩
    · have h4 : (x == y) = false := by simpa using hxy
      rw [h4]; exact ⟨r, h1, h2⟩
section
variable {P : Program} {ops : Array Oper} {Q : Exit → Act → World → Prop} {c : Cf} {e : Env} {B : Base} {L : Heap} {rest : List Oper} {o : Oper} {v : Value} {d : Nat} {q : Md} {l : List Oper} {w : World} {ρ : Operand → Value} {x y z : Operand} {ty T : TypeId} {pos p : String} {aft a : Array Edge} {D : Option Tmp} {g : Option (Nat × Bool)}
theorem R_makeMap {t : TypeId} : Run P ⟨D, .makeMap t none, ty, pos, aft, g⟩ ρ w (.map (some w.heap.size)) (w.alloc (.map #[] 0)) := by
  rfl
end
theorem St.unbase {B B' : Base} {L : Heap} {w : World} (h : St B L w) (hb : ∀ x ∈ B', x ∈ B) : St B' L w := ⟨fun x hx => h.fr x (hb x hx), h.own, h.nd, fun p hp x hx => h.ok p hp x (hb x hx)⟩
end Go.Sx
end
section
namespace Go.Sx
open Go.RowKit
def Qn (Q : Exit → Act → World → Prop) : Exit → Act → World → Prop
  | .panic ch, a, w => ∀ a', a'.defers = a.defers → Q (.panic ch) a' w
  | x, a, w => Q x a w
structure WH (P : Program) (ops : Array Oper) (c : Cf) (Q : Exit → Act → World → Prop) (S : World → Prop) (fuel : Nat) (listed : Array Bool) (e : Env) (B : Base) (L : Heap) : Prop where
  s : ∀ w, St B L w → S w
  h : ∀ w, St B L w → wpAnyH P .any ops (Qn Q) S fuel listed (act c e) w
section
variable {P : Program} {ops : Array Oper} {Q : Exit → Act → World → Prop} {c : Cf} {e : Env} {B B' : Base} {L L' : Heap} {o : Oper} {v : Value} {d i id fuel : Nat} {S : World → Prop} {listed : Array Bool}
theorem c_held {n : Nat} {ds : List Deferred} (S : World → Prop) (hm : P.follows .mixedOrders = true) (h : WH P ops ⟨n, ds, none⟩ Q S ops.size (Array.replicate ops.size false) e B L) : WC P ⟨n, ds, none⟩ (.region id ops true) Q e B L := by
  unfold WC
  intro w hw
  refine wpIn_wide.2 (wp_mono (wp_region_held (S := S) (Q := Qn Q) hm (h.h _ (hw.drawn _))) ?_)
  intro x a w hq
  cases x <;> first | exact hq | exact hq _ rfl
theorem zN (hr : Region.ready .any ops listed = []) (hs : ∀ w, St B L w → S w) (h : WK c Q .normal e B L) : WH P ops c Q S fuel listed e B L :=
  ⟨hs, fun w hw => wpAnyH_done hr (by unfold WK at h; exact h w hw) fuel⟩
theorem zN2 (hs : ∀ w, St B L w → S w) (h : WK c Q .normal e B L) (hr : Region.ready .any ops listed = [] := by kernel_rfl) : WH P ops c Q S fuel listed e B L := zN hr hs h
theorem zh (i : Nat) (hi : ops[i]? = some o) (hk : (Region.noSelect ops && Region.free .any ops listed i && (Region.ready .any ops listed).contains i) = true) (hg : plainB o = true) (hd : o.dst = some d) (hs : ∀ w, St B L w → S w)
    (hv : ∀ w, S w → Run P o (ev c.n e) w v w) (h : WH P ops c Q S fuel (listed.setIfInBounds i true) (upd e d v) B L) : WH P ops c Q S (fuel + 1) listed e B L := by
  simp only [Bool.and_eq_true] at hk
  refine ⟨hs, fun w hw => wpAnyH_take hi hk.1.1 hk.1.2 hk.2 (fun _ a _ hq a' ha => hq a' (ha.trans (by cases o.dst <;> rfl))) (v := v) (.inl ⟨by simp [Region.wanted, (plainB_spec hg).1], fun w hw => ?_⟩) (hs w hw) ?_⟩
  · rw [act_eval]; exact hv w hw
  rw [hd, act_put]; exact h.h w hw
theorem zh2 (i : Nat) (hi : ops[i]? = some o) (hd : o.dst = some d) (hs : ∀ w, St B L w → S w) (hv : ∀ w, S w → Run P o (ev c.n e) w v w) (h : WH P ops c Q S fuel (listed.setIfInBounds i true) (upd e d v) B L) (hk : (Region.noSelect ops && Region.free .any ops listed i && (Region.ready .any ops listed).contains i) = true := by kernel_rfl) (hg : plainB o = true := by rfl) : WH P ops c Q S (fuel + 1) listed e B L := zh i hi hk hg hd hs hv h
theorem h_val (i : Nat) (hi : ops[i]? = some o) (hr : Region.ready .any ops listed = [i]) (hg : plainB o = true) (hd : o.dst = some d) (hs : ∀ w, St B L w → S w)
    (h : ∀ w, St B L w → ∃ v w' B' L', Run P o (ev c.n e) w v w' ∧ St B' L' w' ∧ WH P ops c Q S fuel (listed.setIfInBounds i true) (upd e d v) B' L') : WH P ops c Q S (fuel + 1) listed e B L := by
  refine ⟨hs, fun w hw => wpAnyH_all hr (by simp) (fun k hk => ?_)⟩
  obtain rfl : k = i := by simpa using hk
  obtain ⟨v, w', B', L', h1, h2, h3⟩ := h w hw
  unfold wpOp
  simp only [hi, Region.wanted, (plainB_spec hg).1, if_true]
  refine .inl ?_
  unfold Oper.wp
  unfold Run at h1
  rw [act_eval, h1, Oper.upon_value, hd, act_put]
  exact ⟨h3.s w' h2, h3.h w' h2⟩
end
end Go.Sx
end
