import Derived.WalkKit
import Derived.WalkSpells
import Derived.WalkLawsBesides
import Derived.Deep.Quiet
import Derived.StillTail
import Derived.TacticsIn
import Derived.RangeFuncLeaves
import Derived.RangeFuncSeq
namespace Go.Sx
open Go.RowKit

/-! ### frames as functions of slots -/
abbrev Env := Nat → Value
def upd (e : Env) (d : Nat) (v : Value) : Env := fun t => bif Nat.beq t d then v else e t
def ofL (l : List Value) : Env := fun t => l.getD t undef
/-- a frame: how many slots; the deferred calls; in which round -/
structure Cf where
  n : Nat
  ds : List Deferred
  ro : Option Nat
abbrev cf (n : Nat) : Cf := ⟨n, [], none⟩
def act (c : Cf) (e : Env) : Act := ⟨Array.ofFn (fun i : Fin c.n => e i.val), c.ds⟩
def ev (n : Nat) (e : Env) : Operand → Value
  | .tmp t => bif Nat.blt t n then e t else undef
  | .const v => v
  | .global g => .pointer (some ⟨g, 0, none⟩)
  | .func f => .func (.func f) #[] #[]
/-- the fence that lets everything in -/
def fw (ro : Option Nat) : Fence := { Fence.wide with round := ro }
theorem fw_none : fw none = Fence.wide := rfl
theorem fw_round (l : Nat) : (fw none).inRound l = fw (some l) := rfl

theorem blt_false {t n : Nat} (h : ¬ t < n) : Nat.blt t n = false := by
  cases hb : Nat.blt t n
  · rfl
  · rw [Nat.blt_eq] at hb; exact absurd hb h

theorem act_eval (c : Cf) (e : Env) : (act c e).eval = ev c.n e := by
  funext x
  cases x with
  | tmp t =>
    simp only [Act.eval, ev, act]
    by_cases h : t < c.n
    · have h' : Nat.blt t c.n = true := by simpa [Nat.blt_eq] using h
      simp [h, h']
    · have h' : Nat.blt t c.n = false := blt_false h
      simp [h, h']
  | _ => rfl

theorem set_ofFn (n : Nat) (e : Env) (d : Nat) (v : Value) : (Array.ofFn (fun i : Fin n => e i.val)).setIfInBounds d v = Array.ofFn (fun i : Fin n => upd e d v i.val) := by
  apply Array.ext
  · simp
  · intro i h1 h2
    simp only [Array.getElem_ofFn, upd]
    rw [Array.getElem_setIfInBounds (by simpa using h1)]
    by_cases h : d = i
    · subst h; simp
    · have : Nat.beq i d = false := by
        cases hb : Nat.beq i d
        · rfl
        · exact absurd (Nat.eq_of_beq_eq_true hb).symm h
      simp [this, h]
theorem act_put (c : Cf) (e : Env) (d : Nat) (v : Value) : (act c e).put (some d) v = act c (upd e d v) := by
  simp only [Act.put, act, set_ofFn]
theorem act_put_none (c : Cf) (e : Env) (v : Value) : (act c e).put none v = act c e := rfl

theorem enter_act (l : List Value) (n : Nat) (h : l.length ≤ n) : ({ tmps := l.toArray ++ Array.replicate (n - l.length) undef, defers := [] } : Act) = act (cf n) (ofL l) := by
  simp only [act, ofL]
  congr 1
  apply Array.ext
  · simp; omega
  · intro i h1 h2
    simp only [Array.getElem_ofFn, Array.getElem_append]
    by_cases hi : i < l.length
    · simp [hi, List.getD_eq_getElem?_getD]
    · simp [hi, List.getD_eq_getElem?_getD]

theorem calls {P : Program} {f : FuncId} {fn : Func} {c : Code} {l : List Value} {w : World} {R : Ending → World → Prop} (n : Nat)
    (hf : P.funcs[f]? = some fn) (hb : fn.body = some c) (hn : fn.ntmps = n) (hl : Nat.ble l.length n = true)
    (h : c.wpIn (fw none) 0 P (bodyPost P fn R) (act (cf n) (ofL l)) w) : Calls P f l.toArray w R := by
  refine calls_of_wp hf hb ?_
  rw [hn]
  have := enter_act l n (Nat.le_of_ble_eq_true hl)
  simp only [List.size_toArray] at *
  rw [this]; exact wpIn_wide.1 h

/-- a body that holds a range over a function -/
theorem calls_m {P : Program} {f : FuncId} {fn : Func} {c : Code} {l : List Value} {w : World} {R : Ending → World → Prop} (n : Nat)
    (hf : P.funcs[f]? = some fn) (hb : fn.body = some c) (hn : fn.ntmps = n) (hl : Nat.ble l.length n = true)
    (h : c.wpIn (fw none) 0 P (bodyPostM (fw none) 0 P fn R) (act (cf n) (ofL l)) w) : Calls P f l.toArray w R := by
  refine (callsIn_wide (n := 0)).1 (callsIn_of_wp_marks (F := fw none) hf hb trivial ?_)
  rw [hn]
  have := enter_act l n (Nat.le_of_ble_eq_true hl)
  simp only [List.size_toArray] at *
  rw [this]; exact h

/-! ### one operation -/
/-- the operation yields v and leaves w' -/
def Run (P : Program) (o : Oper) (ρ : Operand → Value) (w : World) (v : Value) (w' : World) : Prop := (execOp ρ o).run P w = .ok (.value v) w'
def RunU (P : Program) (o : Oper) (ρ : Operand → Value) (w : World) (w' : World) : Prop := (execOp ρ o).run P w = .ok .skip w'
def RunE (P : Program) (o : Oper) (ρ : Operand → Value) (w : World) (f : FuncId) (args : Array Value) : Prop := (execOp ρ o).run P w = .ok (.enter f args) w
/-- no guard, and no defer statement -/
def plainB (o : Oper) : Bool := o.guard.isNone && (match o.op with | .defer _ => false | _ => true)
theorem plainB_spec {o : Oper} (h : plainB o = true) : o.guard = none ∧ ∀ c, o.op ≠ .defer c := by
  simp only [plainB, Bool.and_eq_true, Option.isNone_iff_eq_none] at h
  exact ⟨h.1, fun c hc => by rw [hc] at h; cases h.2⟩

/-- what is asked of a call: it returns, and what it hands back and leaves is so -/
def Ret (P : Program) (f : FuncId) (args : Array Value) (w : World) (R : Value → World → Prop) : Prop := Calls P f args w fun e w' => ∃ v, e = .returned v ∧ R v w'
theorem Ret.mono {P : Program} {f : FuncId} {args : Array Value} {w : World} {R R' : Value → World → Prop} (h : Ret P f args w R) (hr : ∀ v w', R v w' → R' v w') : Ret P f args w R' :=
  Calls.mono h fun _ _ ⟨v, h1, h2⟩ => ⟨v, h1, hr _ _ h2⟩

section
variable {P : Program} {ops : Array Oper} {Q : Exit → Act → World → Prop} {c : Cf} {e : Env} {w w' : World} {rest : List Oper} {o : Oper} {v : Value} {C : World → Prop} {QQ : Act → Prop} {d : Nat}

abbrev WL (c : Cf) (P : Program) (ops : Array Oper) (Q : Exit → Act → World → Prop) (l : List Oper) (e : Env) (w : World) : Prop := wpListIn (fw c.ro) 0 P ops Q l (act c e) w

theorem s_op {r : Result Next} (hr : (execOp (ev c.n e) o).run P w = r) (hg : plainB o = true)
    (h : ∀ K : Act → World → Prop, (∀ a w, wpListIn (fw c.ro) 0 P ops Q rest a w → K a w) → o.uponIn (fw c.ro) 0 P (act c e) K Q r) : WL c P ops Q (o :: rest) e w := by
  obtain ⟨h1, h2⟩ := plainB_spec hg
  refine wpListIn_plain h1 fun K hK => ⟨fun _ _ => trivial, ?_⟩
  rw [act_eval, Oper.semAt_eq _ _ _ h2, hr]
  exact h K hK

theorem s_run (hr : Run P o (ev c.n e) w v w') (hg : plainB o = true) (hd : o.dst = some d) (h : WL c P ops Q rest (upd e d v) w') : WL c P ops Q (o :: rest) e w :=
  s_op hr hg fun K hK => by rw [Oper.uponIn_value, hd, act_put]; exact hK _ _ h
theorem s_unit (hr : RunU P o (ev c.n e) w w') (hg : plainB o = true) (hd : o.dst = none) (h : WL c P ops Q rest e w') : WL c P ops Q (o :: rest) e w :=
  s_op hr hg fun K hK => by rw [Oper.uponIn_skip, hd, act_put_none]; exact hK _ _ h
/-- a result that is dropped -/
theorem s_drop (hr : Run P o (ev c.n e) w v w') (hg : plainB o = true) (hd : o.dst = none) (h : WL c P ops Q rest e w') : WL c P ops Q (o :: rest) e w :=
  s_op hr hg fun K hK => by rw [Oper.uponIn_value, hd, act_put_none]; exact hK _ _ h

theorem s_call {f : FuncId} {args : Array Value} {R : Value → World → Prop} (hr : RunE P o (ev c.n e) w f args) (hg : plainB o = true) (hd : o.dst = some d) (hc : Ret P f args w R)
    (h : ∀ v w', R v w' → WL c P ops Q rest (upd e d v) w') : WL c P ops Q (o :: rest) e w :=
  s_op hr hg fun K hK => by
    rw [Oper.uponIn_enter]
    refine ⟨fun hh => absurd hh (by simp [fw, Fence.wide]), ?_⟩
    have hc' : CallsIn (fw c.ro) (0 - 1) P f args w _ := callsIn_wide.2 hc
    refine hc'.mono ?_
    rintro x w' ⟨v, rfl, hv⟩
    rw [hd]
    simp only [act_put]
    exact hK _ _ (h v w' hv)
theorem s_call_none {f : FuncId} {args : Array Value} {R : Value → World → Prop} (hr : RunE P o (ev c.n e) w f args) (hg : plainB o = true) (hd : o.dst = none) (hc : Ret P f args w R)
    (h : ∀ v w', R v w' → WL c P ops Q rest e w') : WL c P ops Q (o :: rest) e w :=
  s_op hr hg fun K hK => by
    rw [Oper.uponIn_enter]
    refine ⟨fun hh => absurd hh (by simp [fw, Fence.wide]), ?_⟩
    have hc' : CallsIn (fw c.ro) (0 - 1) P f args w _ := callsIn_wide.2 hc
    refine hc'.mono ?_
    rintro x w' ⟨v, rfl, hv⟩
    rw [hd]
    simp only [act_put_none]
    exact hK _ _ (h v w' hv)
theorem s_nil (h : Q .normal (act c e) w) : WL c P ops Q [] e w := h

/-! guarded operations: by the Bool in the slot that the guard names -/
theorem act_get (c : Cf) (e : Env) (t : Nat) : (act c e).tmps[t]? = bif Nat.blt t c.n then some (e t) else none := by
  simp only [act]
  by_cases h : t < c.n
  · have h' : Nat.blt t c.n = true := by simpa [Nat.blt_eq] using h
    simp [h, h']
  · have h' : Nat.blt t c.n = false := blt_false h
    simp [h, h']

theorem wanted_of {j : Nat} {b : Bool} {t : Nat} {x : Bool} (hg : o.guard = some (j, b)) (hj : (ops[j]?).bind (·.dst) = some t) (ht : Nat.blt t c.n = true) (he : e t = .bool x) :
    Region.wanted o (yielded ops (act c e).tmps) = (x == b) := by
  simp [Region.wanted, hg, yielded, hj, act_get, ht, he]

/-- the guard says yes: the operation as one without a guard -/
theorem s_want (hw : Region.wanted o (yielded ops (act c e).tmps) = true) (h : WL c P ops Q ({ o with guard := none } :: rest) e w) : WL c P ops Q (o :: rest) e w := by
  unfold WL wpListIn at h ⊢
  rw [if_pos hw]
  rw [if_pos (by simp [Region.wanted])] at h
  exact h
theorem s_skip (hw : Region.wanted o (yielded ops (act c e).tmps) = false) (hd : o.dst = some d) (h : WL c P ops Q rest (upd e d undef) w) : WL c P ops Q (o :: rest) e w := by
  unfold WL wpListIn
  rw [if_neg (by rw [hw]; exact Bool.false_ne_true), hd, act_put]
  exact ⟨fun _ _ => trivial, h⟩

/-! ### the same in a region that draws its order: each operation in every world of a class -/
theorem q_run (hr : ∀ w, C w → Run P o (ev c.n e) w v w) (hg : plainB o = true) (hd : o.dst = some d) (h : wpQuiet P ops C QQ rest (act c (upd e d v))) : wpQuiet P ops C QQ (o :: rest) (act c e) := by
  refine wpQuiet_step fun K hK => ?_
  rw [if_pos (by simp [Region.wanted, (plainB_spec hg).1])]
  refine ⟨v, fun w hw => ?_, ?_⟩
  · unfold Oper.quietAt; rw [act_eval, hr w hw]; exact ⟨rfl, rfl⟩
  · rw [hd, act_put]; exact hK _ h
theorem q_call {f : FuncId} {args : Array Value} (hr : ∀ w, C w → RunE P o (ev c.n e) w f args) (hg : plainB o = true) (hd : o.dst = some d) (hc : ∀ w, C w → Ret P f args w fun u w' => u = v ∧ C w')
    (h : wpQuiet P ops C QQ rest (act c (upd e d v))) : wpQuiet P ops C QQ (o :: rest) (act c e) := by
  refine wpQuiet_step fun K hK => ?_
  rw [if_pos (by simp [Region.wanted, (plainB_spec hg).1])]
  refine ⟨v, fun w hw => ?_, ?_⟩
  · unfold Oper.quietAt; rw [act_eval, hr w hw]
    refine ⟨rfl, Calls.mono (hc w hw) ?_⟩
    rintro x w' ⟨u, rfl, rfl, h'⟩
    exact ⟨rfl, h'⟩
  · rw [hd, act_put]; exact hK _ h
theorem t_run (hr : Run P o (ev c.n e) w v w) (hg : plainB o = true) (hd : o.dst = some d) (h : wpStill P ops w QQ rest (act c (upd e d v))) : wpStill P ops w QQ (o :: rest) (act c e) := by
  refine wpStill_step fun K hK => ?_
  rw [if_pos (by simp [Region.wanted, (plainB_spec hg).1])]
  unfold Oper.still
  rw [act_eval, hr, Oper.stillUpon_value, hd, act_put]
  exact hK _ h
theorem t_want (hw : Region.wanted o (yielded ops (act c e).tmps) = true) (h : wpStill P ops w QQ ({ o with guard := none } :: rest) (act c e)) : wpStill P ops w QQ (o :: rest) (act c e) := by
  refine wpStill_step fun K hK => ?_
  rw [if_pos hw]
  unfold wpStill at h
  rw [if_pos (by simp [Region.wanted])] at h
  unfold Oper.still at h ⊢
  have e1 : execOp (act c e).eval { o with guard := none } = execOp (act c e).eval o := rfl
  rw [e1] at h
  generalize (execOp (act c e).eval o).run P w = r at *
  cases r with
  | ok nx w' =>
    cases nx <;> simp only [Oper.stillUpon] at h ⊢
    · exact ⟨h.1, hK _ h.2⟩
    · exact ⟨h.1, hK _ h.2⟩
    · obtain ⟨h1, v, h2, h3⟩ := h; exact ⟨h1, v, h2, hK _ h3⟩
  | halt x w' => exact h
theorem t_skip (hw : Region.wanted o (yielded ops (act c e).tmps) = false) (hd : o.dst = some d) (h : wpStill P ops w QQ rest (act c (upd e d undef))) : wpStill P ops w QQ (o :: rest) (act c e) := by
  refine wpStill_step fun K hK => ?_
  rw [if_neg (by rw [hw]; exact Bool.false_ne_true), hd, act_put]
  exact hK _ h
theorem q_nil (h : QQ (act c e)) : wpQuiet P ops C QQ [] (act c e) := h
theorem q_want (hw : Region.wanted o (yielded ops (act c e).tmps) = true) (h : wpQuiet P ops C QQ ({ o with guard := none } :: rest) (act c e)) : wpQuiet P ops C QQ (o :: rest) (act c e) := by
  refine wpQuiet_step fun K hK => ?_
  rw [if_pos hw]
  unfold wpQuiet at h
  rw [if_pos (by simp [Region.wanted])] at h
  obtain ⟨v, h1, h2⟩ := h
  exact ⟨v, h1, hK _ h2⟩
theorem q_skip (hw : Region.wanted o (yielded ops (act c e).tmps) = false) (hd : o.dst = some d) (h : wpQuiet P ops C QQ rest (act c (upd e d undef))) : wpQuiet P ops C QQ (o :: rest) (act c e) := by
  refine wpQuiet_step fun K hK => ?_
  rw [if_neg (by rw [hw]; exact Bool.false_ne_true), hd, act_put]
  exact hK _ h
end
end Go.Sx
