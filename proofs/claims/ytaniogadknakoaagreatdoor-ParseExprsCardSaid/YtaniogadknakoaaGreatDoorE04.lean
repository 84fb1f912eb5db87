/- Layer 13, ParseExprs: Expr tells the tree of the document, with its places, or its fault (the card of the statement); without conditions. Part 4 of 16. -/
import Derived.Test.YtaniogadknakoaaGreatDoorE03
import Derived.Test.YtaniogadknakoaaGreatDoorE02
import Derived.Test.YtaniogadknakoaaGreatDoorProg
import Derived.Shelf.Strings.Builder1
import Derived.Shelf.Small.Strs
import Derived.Shelf.Strings.Search1
import Derived.Shelf.Strings.Search2
import Derived.Shelf.Strings.Search3
import Derived.Shelf.LaysM
import Derived.Shelf.Strings.Shaped
import Derived.Shelf.Strings.Prefix
import Derived.Shelf.Strings.Fields
import Derived.Shelf.Strings.SplitShaped
import Derived.Shelf.Unicode.Latin
import Derived.Shelf.Unicode.Is16White
import Derived.Shelf.Unicode.IsSpaceAny
import Derived.Shelf.Unicode.Is16WhiteD
import Derived.Shelf.Unicode.IsSpaceAnyD
import Derived.Shelf.Strings.FieldsAny
import Derived.Shelf.Strings.FieldsFuncAny
import Derived.Shelf.Unicode.Is16Any
import Derived.Shelf.Unicode.Is32Any
import Derived.Shelf.Unicode.ExclAny
section
namespace Go.Sx
open Go.RowKit Go.Tree Go.Tok Go.Prs
theorem w_env {q : Md} {P : Program} {ops : Array Oper} {c : Cf} {Q : Exit → Act → World → Prop} {rest : List Oper} {e : Env} {B : Base} {L : Heap} {t : Nat} {v : Value} (he : e t = v) (h : WX q P ops c Q rest (upd e t v) B L) : WX q P ops c Q rest e B L := by
  have hu : upd e t v = e := by
    funext i
    unfold upd
    cases hb : Nat.beq i t with
    | false => rfl
    | true => rw [Nat.eq_of_beq_eq_true hb]; exact he.symm
  rwa [hu] at h
def PostD (P : Program) (fn : Func) (R : Value → World → Prop) : Exit → Act → World → Prop := bodyPostD P fn fun e w' => ∃ v, e = .returned v ∧ R v w'
def PostR (P : Program) (fn : Func) (R : World → Prop) : Exit → Act → World → Prop := fun x a w => (x = .ret ∨ x = .normal) ∧ a.defers = [] ∧ ∃ v, (results fn a.tmps).run P w = .ok v w ∧ R w
section
variable {P : Program} {fn : Func} {R : Value → World → Prop} {n : Nat} {e : Env} {B : Base} {L : Heap} {ops : Array Oper} {Q : Exit → Act → World → Prop} {rest : List Oper} {o : Oper} {ds : List Deferred}
theorem enterD {f : FuncId} {x : Code} {l : List Value} {w : World} {S : Nat → Prop} {L : Heap} (n : Nat)
    (hf : P.funcs[f]? = some fn) (hb : fn.body = some x) (hn : fn.ntmps = n) (hl : Nat.ble l.length n = true) (hL : St [(w, S)] L w)
    (h : WC P (cf n) x (PostD P fn R) (ofL l) [(w, S)] L) : Ret P f l.toArray w R := by
  unfold WC at h
  have h1 := h w hL
  refine calls_of_wp_defers hf hb ?_
  rw [hn]
  have := enter_act l n (Nat.le_of_ble_eq_true hl)
  simp only [List.size_toArray] at *
  rw [this]
  exact wpIn_wide.1 h1
theorem w_defer {D : Deferred} (hr : ∀ w, (execOp (ev n e) o).run P w = .ok (.defer D) w) (hg : o.guard = none) (hd : o.dst = none)
    (h : WX .sq P ops ⟨n, D :: ds, none⟩ Q rest e B L) : WX .sq P ops ⟨n, ds, none⟩ Q (o :: rest) e B L := by
  unfold WX at *
  intro w hw
  have h1 := h w hw
  refine wpListIn_plain hg fun K hK => ⟨fun _ _ => trivial, ?_⟩
  rw [act_eval]
  show o.uponIn (fw none) 0 P (act ⟨n, ds, none⟩ e) K Q ((Oper.semAt none (ev n e) o).run P w)
  rw [Oper.semAt_none, hr, Oper.uponIn_defer, hd]
  exact hK _ _ h1
theorem R_defer {ρ : Operand → Value} {w : World} {x : Operand} {ty : TypeId} {pos : String} {aft : Array Edge} {f : FuncId} {ca : List Value} (hx : ρ x = .func (.func f) #[] ca.toArray) :
    (execOp ρ ⟨none, .defer ⟨.value x, #[], #[]⟩, ty, pos, aft, none⟩).run P w = .ok (.defer ⟨.fn (.func f) ca.toArray, #[]⟩) w := by
  simp [execOp, resolve, hx, go_sem]
variable {l : List ResultVar} {vs : List Value} {x : Exit} {f : FuncId} {ca : List Value} {args : Array Value}
theorem r_finD (hx : x = .ret ∨ x = .normal) (hr : fn.results = l.toArray) (hi : ∀ w, (invoke (.fn (.func f) ca.toArray) #[]).run P w = .ok (.enter f args) w)
    (hc : ∀ w, St B L w → CallsD P f args .returning w fun e u w' => (∃ v, e = .returned v) ∧ u = .returning ∧ St B L w')
    (hv : Res P ⟨n, [⟨.fn (.func f) ca.toArray, #[]⟩], none⟩ e B L l vs) (h : ∀ w, St B L w → R (pack vs) w) : WK ⟨n, [⟨.fn (.func f) ca.toArray, #[]⟩], none⟩ (PostD P fn R) x e B L := by
  unfold WK PostD
  intro w hw
  have h1 : Leaves P fn (act ⟨n, [⟨.fn (.func f) ca.toArray, #[]⟩], none⟩ e).tmps (fun e w' => ∃ v, e = .returned v ∧ R v w') [⟨.fn (.func f) ca.toArray, #[]⟩] .returning w := by
    refine leaves_cons (by simp) (hi w) ((hc w hw).mono ?_)
    rintro e u w' ⟨⟨v, rfl⟩, rfl, hw'⟩
    exact ⟨_, hv.results hr hw', _, rfl, h _ hw'⟩
  rcases hx with rfl | rfl <;> exact h1
theorem r_finD0 (hx : x = .ret ∨ x = .normal) (hr : fn.results = l.toArray) (hv : Res P (cf n) e B L l vs) (h : ∀ w, St B L w → R (pack vs) w) : WK (cf n) (PostD P fn R) x e B L := by
  unfold WK PostD
  intro w hw
  have h1 : Leaves P fn (act (cf n) e).tmps (fun e w' => ∃ v, e = .returned v ∧ R v w') [] .returning w := ⟨_, hv.results hr hw, _, rfl, h w hw⟩
  rcases hx with rfl | rfl <;> exact h1
theorem d_out {ch : List PanicEntry} {w : World} (hr : fn.results = l.toArray) (hi : ∀ w, (invoke (.fn (.func f) ca.toArray) #[]).run P w = .ok (.enter f args) w)
    (hc : CallsD P f args (.panicking ch) w fun e u w' => (∃ v, e = .returned v) ∧ settle u = .returning ∧ St B L w')
    (hv : Res P ⟨n, [⟨.fn (.func f) ca.toArray, #[]⟩], none⟩ e B L l vs) (h : ∀ w, St B L w → R (pack vs) w) : PostD P fn R (.panic ch) (act ⟨n, [⟨.fn (.func f) ca.toArray, #[]⟩], none⟩ e) w := by
  unfold PostD
  refine leaves_cons (by simp) (hi w) (hc.mono ?_)
  rintro e' u w' ⟨⟨v, rfl⟩, hu, hw⟩
  show Leaves P fn _ _ [] (settle u) w'
  rw [hu]
  exact ⟨_, hv.results hr hw, _, rfl, h _ hw⟩
theorem w_callD {f : FuncId} {args : Array Value} {d : Nat} {c : Cf} {R : World → Value → World → Prop} {E : World → List PanicEntry → World → Prop} (hr : ∀ w, RunE P o (ev c.n e) w f args) (hg : plainB o = true) (hd : o.dst = some d) (hc : ∀ w, St B L w → RetP P f args w (R w) (E w))
    (h : ∀ w, St B L w → ∀ v w', R w v w' → ∃ B' L', St B' L' w' ∧ WX .sq P ops c Q rest (upd e d v) B' L')
    (hE : ∀ w, St B L w → ∀ ch w', E w ch w' → Q (.panic ch) (act c e) w') : WX .sq P ops c Q (o :: rest) e B L := by
  unfold WX at *
  exact fun w hw => s_callP (hr w) hg (hc w hw) (fun v w' hv => by
    obtain ⟨B', L', h1, h2⟩ := h w hw v w' hv
    rw [hd, act_put]
    exact h2 w' h1) (fun ch w' h => hE w hw ch w' h)
theorem enterR {f : FuncId} {rest : Code} {l : List Value} {w : World} {t : TypeId} {pv : Value} {older : List PanicEntry} {id d1 d2 : Nat} {T1 T2 : TypeId} {p1 p2 : String} {a1 a2 : Array Edge} {R : World → Prop} (n : Nat)
    (hf : P.funcs[f]? = some fn) (hb : fn.body = some (.seq (.region id #[⟨some d1, .call ⟨.builtin .recover, #[], #[]⟩, T1, p1, a1, none⟩, ⟨some d2, .assign (.tmp d1), T2, p2, a2, none⟩] false) rest)) (hn : fn.ntmps = n) (hl : Nat.ble l.length n = true) (h1 : Nat.blt d1 n = true)
    (h : ∃ B L, St B L w ∧ WC P (cf n) rest (PostR P fn R) (upd (upd (ofL l) d1 (.iface t pv)) d2 (.iface t pv)) B L) :
    CallsD P f l.toArray (.panicking ({ v := .iface t pv, recovered := false } :: older)) w fun e u w' => (∃ v, e = .returned v) ∧ u = .panicking ({ v := .iface t pv, recovered := true } :: older) ∧ R w' := by
  refine callsD_of_wpS hf hb fun c₀ cs hu => ?_
  rw [hn]
  have he := enter_act l n (Nat.le_of_ble_eq_true hl)
  simp only [List.size_toArray] at he ⊢
  rw [he]
  have hsz : d1 < (act (cf n) (ofL l)).tmps.size := by simpa [act, Nat.blt_eq] using h1
  apply wpS_seq
  apply wpS_region
  simp [wpOpsS, go_sem, recoverD, hu, Exit.thenS, act_eval, Region.wanted]
  rw [if_pos hsz]
  have e1 : ({ tmps := ((act (cf n) (ofL l)).tmps.setIfInBounds d1 (.iface t pv)).setIfInBounds d2 (.iface t pv), defers := (act (cf n) (ofL l)).defers } : Act) = act (cf n) (upd (upd (ofL l) d1 (.iface t pv)) d2 (.iface t pv)) := by simp only [act, set_ofFn]
  rw [e1]
  obtain ⟨B, L, hw, h⟩ := h
  unfold WC at h
  refine wpS_of_wp (_root_.Go.wp_mono (wpIn_wide.1 (h w hw)) ?_)
  rintro x a w' ⟨hx, hd, v, hr, hR⟩
  rcases hx with rfl | rfl <;> exact ⟨hd, _, rfl, v, hr, ⟨v, rfl⟩, rfl, hR⟩
theorem enterR0 {f : FuncId} {rest : Code} {l : List Value} {w : World} {id d1 d2 : Nat} {T1 T2 : TypeId} {p1 p2 : String} {a1 a2 : Array Edge} {R : World → Prop} (n : Nat)
    (hf : P.funcs[f]? = some fn) (hb : fn.body = some (.seq (.region id #[⟨some d1, .call ⟨.builtin .recover, #[], #[]⟩, T1, p1, a1, none⟩, ⟨some d2, .assign (.tmp d1), T2, p2, a2, none⟩] false) rest)) (hn : fn.ntmps = n) (hl : Nat.ble l.length n = true) (h1 : Nat.blt d1 n = true)
    (h : ∃ B L, St B L w ∧ WC P (cf n) rest (PostR P fn R) (upd (upd (ofL l) d1 .nilIface) d2 .nilIface) B L) :
    CallsD P f l.toArray .returning w fun e u w' => (∃ v, e = .returned v) ∧ u = .returning ∧ R w' := by
  refine callsD_of_wpS hf hb fun c₀ cs hu => ?_
  rw [hn]
  have he := enter_act l n (Nat.le_of_ble_eq_true hl)
  simp only [List.size_toArray] at he ⊢
  rw [he]
  have hsz : d1 < (act (cf n) (ofL l)).tmps.size := by simpa [act, Nat.blt_eq] using h1
  apply wpS_seq
  apply wpS_region
  simp [wpOpsS, go_sem, recoverD, hu, Exit.thenS, act_eval, Region.wanted]
  rw [if_pos hsz]
  have e1 : ({ tmps := ((act (cf n) (ofL l)).tmps.setIfInBounds d1 .nilIface).setIfInBounds d2 .nilIface, defers := (act (cf n) (ofL l)).defers } : Act) = act (cf n) (upd (upd (ofL l) d1 .nilIface) d2 .nilIface) := by simp only [act, set_ofFn]
  rw [e1]
  obtain ⟨B, L, hw, h⟩ := h
  unfold WC at h
  refine wpS_of_wp (_root_.Go.wp_mono (wpIn_wide.1 (h w hw)) ?_)
  rintro x a w' ⟨hx, hd, v, hr, hR⟩
  have hc : c₀ = { c₀ with mode := .returning } := by cases c₀; simp_all
  rcases hx with rfl | rfl <;> exact ⟨hd, .returning, by rw [← hc], v, hr, ⟨v, rfl⟩, rfl, hR⟩
end
section
variable {P : Program} {ops : Array Oper} {Q : Exit → Act → World → Prop} {c : Cf} {e : Env} {B : Base} {L : Heap} {fuel : Nat} {S : World → Prop} {listed : Array Bool} {v : Value} {rest : List Oper}
theorem o_storeW {i : Nat} {t T ty : TypeId} {x y : Operand} {p : String} {a : Array Edge} {b k : Nat} {cs : List Value} (vs : List Value) {ag : Bool} (j : Nat) (hi : ops[i]? = some ⟨none, .store t x y, ty, p, a, none⟩) (hj : L[j]? = some (b, cel cs T)) (hz : szB P t k ag = true) (hx : ev c.n e x = .pointer (some ⟨b, 0, none⟩)) (hy : ev c.n e y = v)
    (hv : v.cells = vs.toArray) (hl : vs.length = k) (h1 : vs.all Value.oneCell' = true) (hcs : cs.length = k)
    (h : WH P ops c Q S fuel (listed.setIfInBounds i true) e B (L.set j (b, cel vs T))) : WO P ops c Q S fuel listed i e B L :=
  o_store j hi hj hz hx hy hv hl h1 (by rw [Nat.ble_eq]; omega) (by rw [List.take_zero, List.nil_append, List.drop_of_length_le (by omega), List.append_nil]) h
theorem w_storeW {t T ty : TypeId} {x y : Operand} {p : String} {a : Array Edge} {b k : Nat} {cs : List Value} (vs : List Value) {ag : Bool} (i : Nat) (hi : L[i]? = some (b, cel cs T)) (hz : szB P t k ag = true) (hx : ev c.n e x = .pointer (some ⟨b, 0, none⟩)) (hy : ev c.n e y = v)
    (hv : v.cells = vs.toArray) (hl : vs.length = k) (h1 : vs.all Value.oneCell' = true) (hcs : cs.length = k)
    (h : WX .sq P ops c Q rest e B (L.set i (b, cel vs T))) : WX .sq P ops c Q (⟨none, .store t x y, ty, p, a, none⟩ :: rest) e B L :=
  w_store i hi hz hx hy hv hl h1 (by rw [Nat.ble_eq]; omega) (by rw [List.take_zero, List.nil_append, List.drop_of_length_le (by omega), List.append_nil]) h
end
def taB (P : Program) (t : TypeId) : Bool := match P.underlying t with
  | some (.interface _) => false
  | some _ => true
  | none => false
section
variable {P : Program} {ρ : Operand → Value} {w : World} {D : Option Tmp} {ty t yt ti tp : TypeId} {pos : String} {aft : Array Edge} {g : Option (Nat × Bool)} {x y : Operand} {v : Value}
theorem R_ta (hu : taB P t = true) (hx : ρ x = .iface t v) : Run P ⟨D, .typeAssert x yt t false, ty, pos, aft, g⟩ ρ w v w := by
  unfold taB at hu
  cases h : P.underlying t with
  | none => rw [h] at hu; cases hu
  | some u => cases u <;> first | (rw [h] at hu; cases hu; done) | simp [Run, execOp, hx, Instr.typeAssert, run_underlying h, go_sem]
theorem eq_in {ms : Array (String × TypeId)} (h : P.underlying t = some (.interface ms)) : (Op.equal t (.iface tp v) .nilIface).run P w = .ok false w := by
  unfold Op.equal Op.maxDepth
  rw [show 10000 = 9999 + 1 from rfl]
  unfold Op.equalIn
  simp only [Sem.run_bind, run_underlying h, Result.andThen]
  rfl
theorem eq_n0 {ms : Array (String × TypeId)} (h : P.underlying t = some (.interface ms)) : (Op.equal t .nilIface .nilIface).run P w = .ok true w := by
  unfold Op.equal Op.maxDepth
  rw [show 10000 = 9999 + 1 from rfl]
  unfold Op.equalIn
  simp only [Sem.run_bind, run_underlying h, Result.andThen]
  rfl
theorem R_ine {ms : Array (String × TypeId)} (h : P.underlying t = some (.interface ms)) (hx : ρ x = .iface tp v) (hy : ρ y = .nilIface) : Run P ⟨D, .binOp .neq t x y yt, ty, pos, aft, g⟩ ρ w (.bool true) w := by
  simp only [Run, execOp, hx, hy, eqGuard, binOp, Sem.run_bind, eq_in h, Result.andThen]
  rfl
theorem R_ine0 {ms : Array (String × TypeId)} (h : P.underlying t = some (.interface ms)) (hx : ρ x = .nilIface) (hk : ρ (.const .nilIface) = .nilIface) : Run P ⟨D, .binOp .neq t x (.const .nilIface) yt, ty, pos, aft, g⟩ ρ w (.bool false) w := by
  simp only [Run, execOp, hx, hk, eqGuard, binOp, Sem.run_bind, eq_n0 h, Result.andThen, Bool.or_true, if_true, Bool.not_true, Bool.false_eq_true, if_false]
  rfl
theorem r_rec {fn : Func} {n : Nat} {e : Env} {B : Base} {L : Heap} {R : World → Prop} {x : Exit} (hx : x = .ret ∨ x = .normal) (hr : fn.results = #[]) (h : ∀ w, St B L w → R w) : WK (cf n) (PostR P fn R) x e B L := by
  unfold WK
  exact fun w hw => ⟨hx, rfl, _, results_none hr _ _ _, h w hw⟩
end
section
variable {P : Program} {w : World}
theorem invoke_cl {f : FuncId} {fn : Func} {c : Code} {ca : List Value} (hf : P.funcs[f]? = some fn) (hb : fn.body = some c) (hn : (fn.name == "runtime.NumGoroutine") = false) : (invoke (.fn (.func f) ca.toArray) #[]).run P w = .ok (.enter f ca.toArray) w := by
  have hn' : ¬ fn.name = "runtime.NumGoroutine" := by intro h; rw [h] at hn; exact absurd hn (by decide)
  simp [invoke, callFunc, hf, hb, hn', go_sem]
theorem Fr.obj {S : Nat → Prop} {w w' : World} {b : Nat} {o : Obj} (h : Fr S w w') (hb : w.heap[b]? = some o) : ∃ o', w'.heap[b]? = some o' :=
  ⟨_, Array.getElem?_eq_getElem (Nat.lt_of_lt_of_le (lt_of_blk hb) h.size)⟩
end
section
variable {α β γ : Type} {P : Program} {ops : Array Oper} {Q : Exit → Act → World → Prop} {c : Cf} {e : Env} {B : Base} {L : Heap} {rest : List Oper} {d : Nat} {o : Oper} {f : FuncId} {args : Array Value} {w0 : World} {S0 : Nat → Prop} {rb lo : Nat} {o1 : Obj} {T : List Tk} {ob : Nat → Obj} {V : α → β → Value} {M : World → (Nat → Prop) → α → β → Prop} {X : Except Fl (α × List Tk)} {F : α → List Tk → Except Fl γ} {G : Except Fl γ} {pan : Fl → List PanicEntry}
theorem w_pcD (i : Nat) (hi : L[i]? = some (rb, o1)) (hx : (w0, S0) ∈ B) (hM : TL M) (hG : G = andR X F) (hr : ∀ w, RunE P o (ev c.n e) w f args) (hg : plainB o = true) (hd : o.dst = some d)
    (hc : ∀ w, St B L w → RetP P f args w (PR T ob rb lo V M X w) (PE pan rb X w))
    (hE : ∀ fl w' o', G = .error fl → fl.1 ≠ 0 → St B (L.set i (rb, o')) w' → Q (.panic (pan fl)) (act c e) w')
    (h : ∀ a b k1 w1, X = .ok (a, T.drop k1) → G = F a (T.drop k1) → lo ≤ k1 → k1 ≤ T.length → Kt (w1, inL L) w0.heap.size M a b → WX .sq P ops c Q rest (upd e d (V a b)) ((w1, inL L) :: B) (L.set i (rb, ob k1))) : WX .sq P ops c Q (o :: rest) e B L := by
  refine w_callD hr hg hd hc ?_ ?_
  · rintro w hw v w' ⟨a, b, k1, h1, h2, h3, rfl, h4, h5, h6⟩
    obtain ⟨hs, hk⟩ := pc_new (ob := ob) hi hx hM hw h4 h5 h6
    exact ⟨_, _, hs, h a b k1 w' h1 (hG.trans (andR_of h1)) h2 h3 hk⟩
  · rintro w hw ch w' ⟨fl, h1, h0, rfl, h2⟩
    obtain ⟨o', ho'⟩ := h2.obj (hw.at_ i hi)
    exact hE fl w' o' (hG.trans (andR_er h1)) h0 (hw.mod i hi h2 ho')
end
end Go.Sx
end

namespace Go.Proofs.YtaniogadknakoaaGreatDoor
open Go.Sx
theorem mixed : Tryz.prog.follows .mixedOrders = true := by kernel_rfl
theorem fl32 : flatS Tryz.prog 32 [(30, 0), (3, 1)] := ⟨by kernel_rfl, by kernel_rfl, by kernel_rfl, by kernel_rfl⟩
theorem slt37 : slT Tryz.prog 37 39 4 56 (.agg #[(.int .u8 0), (.int .i64 0), (str []), (.slice none 0 0)]) := ⟨by kernel_rfl, by kernel_rfl, by kernel_rfl⟩
theorem st9 : strB Tryz.prog 9 = true := by kernel_rfl
theorem un3 : Tryz.prog.underlying 3 = some (.int .i64) := by kernel_rfl
theorem un30 : Tryz.prog.underlying 30 = some (.int .i64) := by kernel_rfl
theorem z3 : szB Tryz.prog 3 1 false = true := by kernel_rfl
theorem z30 : szB Tryz.prog 30 1 false = true := by kernel_rfl
theorem z32 : szB Tryz.prog 32 2 true = true := by kernel_rfl
theorem z39 : szB Tryz.prog 39 4 true = true := by kernel_rfl
theorem zr32 : zeroB Tryz.prog 32 (.agg #[(.int .i64 0), (.int .i64 0)]) := by unfold zeroB; kernel_rfl
theorem zr39 : zeroB Tryz.prog 39 (.agg #[(.int .u8 0), (.int .i64 0), (str []), (.slice none 0 0)]) := by unfold zeroB; kernel_rfl
theorem bt32 : buildTab Tryz.prog 32 = some ([(0, 1), (1, 1)], [(.int .i64 0), (.int .i64 0)]) := by kernel_rfl
theorem fa32_0 : faB Tryz.prog 32 0 0 = true := by kernel_rfl
theorem fa58_1 : faB Tryz.prog 58 1 1 = true := by kernel_rfl
theorem sl50 : slB Tryz.prog 50 3 = true := by kernel_rfl
theorem sl55 : slB Tryz.prog 55 1 = true := by kernel_rfl
theorem sl56 : slB Tryz.prog 56 1 = true := by kernel_rfl
theorem slt56 : slT Tryz.prog 56 9 1 16 (str []) := ⟨by kernel_rfl, by kernel_rfl, by kernel_rfl⟩
theorem z29 : szB Tryz.prog 29 18 true = true := by kernel_rfl
theorem z5 : szB Tryz.prog 5 1 false = true := by kernel_rfl
theorem z9 : szB Tryz.prog 9 1 false = true := by kernel_rfl
theorem zr29 : zeroB Tryz.prog 29 (.agg #[(.bool false), (.slice none 0 0), (.slice none 0 0), (.bool false), (.slice none 0 0), (.slice none 0 0), (.bool false), (.slice none 0 0), (.slice none 0 0), (.bool false), (.slice none 0 0), (.slice none 0 0), (.bool false), (.slice none 0 0), (.slice none 0 0), (.bool false), (.slice none 0 0), (.slice none 0 0)]) := by unfold zeroB; kernel_rfl
theorem bt29 : buildTab Tryz.prog 29 = some ([(0, 18)], [(.bool false), (.slice none 0 0), (.slice none 0 0), (.bool false), (.slice none 0 0), (.slice none 0 0), (.bool false), (.slice none 0 0), (.slice none 0 0), (.bool false), (.slice none 0 0), (.slice none 0 0), (.bool false), (.slice none 0 0), (.slice none 0 0), (.bool false), (.slice none 0 0), (.slice none 0 0)]) := by kernel_rfl
theorem bt106 : buildTab Tryz.prog 106 = some ([(0, 1), (1, 1), (2, 1), (3, 1)], [(.slice none 0 0), (.int .i64 0), (.int .i64 0), (.int .i64 0)]) := by kernel_rfl
theorem bt66 : buildTab Tryz.prog 66 = some ([(0, 1)], [(.pointer none)]) := by kernel_rfl
theorem fa106_1 : faB Tryz.prog 106 1 1 = true := by kernel_rfl
theorem fa66_0 : faB Tryz.prog 66 0 0 = true := by kernel_rfl
theorem tab32 : taB Tryz.prog 32 = true := by kernel_rfl
theorem uni20 : Tryz.prog.underlying 20 = some (.interface #[]) := by kernel_rfl
theorem z64 : szB Tryz.prog 64 1 false = true := by kernel_rfl
theorem z66 : szB Tryz.prog 66 1 true = true := by kernel_rfl
theorem zr66 : zeroB Tryz.prog 66 (.agg #[(.pointer none)]) := by unfold zeroB; kernel_rfl
theorem ara27 : arB Tryz.prog 27 6 3 true = true := by kernel_rfl
theorem bt26 : buildTab Tryz.prog 26 = some ([(0, 1), (1, 1), (2, 1)], [(.bool false), (.slice none 0 0), (.slice none 0 0)]) := by kernel_rfl
theorem fa26_1 : faB Tryz.prog 26 1 1 = true := by kernel_rfl
theorem fa26_2 : faB Tryz.prog 26 2 2 = true := by kernel_rfl
theorem fa29_0 : faB Tryz.prog 29 0 0 = true := by kernel_rfl
theorem slt23 : slT Tryz.prog 23 46 7 128 (.agg #[(.int .u8 0), (.int .i64 0), (str []), (.slice none 0 0), (.slice none 0 0), (.slice none 0 0), (.slice none 0 0)]) := ⟨by kernel_rfl, by kernel_rfl, by kernel_rfl⟩
theorem z23 : szB Tryz.prog 23 1 false = true := by kernel_rfl
theorem z24 : szB Tryz.prog 24 1 false = true := by kernel_rfl
theorem z26 : szB Tryz.prog 26 3 true = true := by kernel_rfl
theorem z46 : szB Tryz.prog 46 7 true = true := by kernel_rfl
theorem zr26 : zeroB Tryz.prog 26 (.agg #[(.bool false), (.slice none 0 0), (.slice none 0 0)]) := by unfold zeroB; kernel_rfl
theorem zr46 : zeroB Tryz.prog 46 (.agg #[(.int .u8 0), (.int .i64 0), (str []), (.slice none 0 0), (.slice none 0 0), (.slice none 0 0), (.slice none 0 0)]) := by unfold zeroB; kernel_rfl
theorem bt46 : buildTab Tryz.prog 46 = some ([(0, 1), (1, 1), (2, 1), (3, 1), (4, 1), (5, 1), (6, 1)], [(.int .u8 0), (.int .i64 0), (str []), (.slice none 0 0), (.slice none 0 0), (.slice none 0 0), (.slice none 0 0)]) := by kernel_rfl
theorem fa46_0 : faB Tryz.prog 46 0 0 = true := by kernel_rfl
theorem fa46_2 : faB Tryz.prog 46 2 2 = true := by kernel_rfl
theorem fa46_3 : faB Tryz.prog 46 3 3 = true := by kernel_rfl
theorem fa46_4 : faB Tryz.prog 46 4 4 = true := by kernel_rfl
theorem fa46_5 : faB Tryz.prog 46 5 5 = true := by kernel_rfl
theorem fa46_6 : faB Tryz.prog 46 6 6 = true := by kernel_rfl
theorem fa58_2 : faB Tryz.prog 58 2 2 = true := by kernel_rfl
theorem fd58_2 : fdB Tryz.prog 58 2 3 2 = true := by kernel_rfl
theorem z37 : szB Tryz.prog 37 1 false = true := by kernel_rfl
theorem ar87 : arB Tryz.prog 87 6 1 false = true := by kernel_rfl
theorem bt76 : buildTab Tryz.prog 76 = some ([(0, 1), (1, 1), (2, 1), (3, 1), (4, 1), (5, 1)], [(.int .u8 0), (.int .i64 0), (str []), (.slice none 0 0), (.slice none 0 0), (.slice none 0 0)]) := by kernel_rfl
theorem fa39_0 : faB Tryz.prog 39 0 0 = true := by kernel_rfl
theorem fa39_2 : faB Tryz.prog 39 2 2 = true := by kernel_rfl
theorem fa39_3 : faB Tryz.prog 39 3 3 = true := by kernel_rfl
theorem fa58_0 : faB Tryz.prog 58 0 0 = true := by kernel_rfl
theorem fa76_1 : faB Tryz.prog 76 1 1 = true := by kernel_rfl
theorem fa76_3 : faB Tryz.prog 76 3 3 = true := by kernel_rfl
theorem fa76_4 : faB Tryz.prog 76 4 4 = true := by kernel_rfl
theorem fa76_5 : faB Tryz.prog 76 5 5 = true := by kernel_rfl
theorem slt24 : slT Tryz.prog 24 76 6 104 (.agg #[(.int .u8 0), (.int .i64 0), (str []), (.slice none 0 0), (.slice none 0 0), (.slice none 0 0)]) := ⟨by kernel_rfl, by kernel_rfl, by kernel_rfl⟩
theorem un5 : Tryz.prog.underlying 5 = some (.int .u8) := by kernel_rfl
theorem un9 : Tryz.prog.underlying 9 = some .string := by kernel_rfl
theorem unf185 : Tryz.prog.underlying 185 = some (.func #[66] #[76] false) := by kernel_rfl
theorem unm186 : Tryz.prog.underlying 186 = some (.map 9 185) := by kernel_rfl
theorem z58 : szB Tryz.prog 58 3 true = true := by kernel_rfl
theorem z76 : szB Tryz.prog 76 6 true = true := by kernel_rfl
theorem zr185 : zeroB Tryz.prog 185 .nilFunc := by unfold zeroB; kernel_rfl
theorem zr58 : zeroB Tryz.prog 58 (.agg #[(.int .u8 0), (str []), (.int .i64 0)]) := by unfold zeroB; kernel_rfl
theorem zr76 : zeroB Tryz.prog 76 (.agg #[(.int .u8 0), (.int .i64 0), (str []), (.slice none 0 0), (.slice none 0 0), (.slice none 0 0)]) := by unfold zeroB; kernel_rfl
theorem zr87 : zeroB Tryz.prog 87 (.agg #[(str []), (str []), (str []), (str []), (str []), (str [])]) := by unfold zeroB; kernel_rfl
theorem bt39 : buildTab Tryz.prog 39 = some ([(0, 1), (1, 1), (2, 1), (3, 1)], [(.int .u8 0), (.int .i64 0), (str []), (.slice none 0 0)]) := by kernel_rfl
theorem fa106_3 : faB Tryz.prog 106 3 3 = true := by kernel_rfl
theorem fa39_1 : faB Tryz.prog 39 1 1 = true := by kernel_rfl
theorem bt58 : buildTab Tryz.prog 58 = some ([(0, 1), (1, 1), (2, 1)], [(.int .u8 0), (str []), (.int .i64 0)]) := by kernel_rfl
theorem cn32 : Tryz.prog.concrete 32 = true := by kernel_rfl
theorem fa106_0 : faB Tryz.prog 106 0 0 = true := by kernel_rfl
theorem fa106_2 : faB Tryz.prog 106 2 2 = true := by kernel_rfl
theorem z50 : szB Tryz.prog 50 1 false = true := by kernel_rfl
theorem sl37 : slB Tryz.prog 37 4 = true := by kernel_rfl
theorem unf22 : Tryz.prog.underlying 22 = some (.func #[] #[4] false) := by kernel_rfl
theorem unk5 : Tryz.prog.underlying 5 = some (.int .u8) := by kernel_rfl
theorem unm132 : Tryz.prog.underlying 132 = some (.map 5 22) := by kernel_rfl
theorem z4 : szB Tryz.prog 4 1 false = true := by kernel_rfl
theorem zr22 : zeroB Tryz.prog 22 .nilFunc := by unfold zeroB; kernel_rfl
theorem zr3 : zeroB Tryz.prog 3 (.int .i64 0) := by unfold zeroB; kernel_rfl
theorem zr4 : zeroB Tryz.prog 4 (.bool false) := by unfold zeroB; kernel_rfl
theorem slt50 : slT Tryz.prog 50 58 3 32 (.agg #[(.int .u8 0), (str []), (.int .i64 0)]) := ⟨by kernel_rfl, by kernel_rfl, by kernel_rfl⟩
theorem bt139 : buildTab Tryz.prog 139 = some ([(0, 1), (1, 1)], [(str []), (.int .i64 0)]) := by kernel_rfl
theorem zr50 : zeroB Tryz.prog 50 (.slice none 0 0) := by unfold zeroB; kernel_rfl
theorem ar162 : arB Tryz.prog 162 3 1 false = true := by kernel_rfl
theorem fa139_0 : faB Tryz.prog 139 0 0 = true := by kernel_rfl
theorem fa139_1 : faB Tryz.prog 139 1 1 = true := by kernel_rfl
theorem z137 : szB Tryz.prog 137 1 false = true := by kernel_rfl
theorem z162 : szB Tryz.prog 162 3 true = true := by kernel_rfl
theorem zr162 : zeroB Tryz.prog 162 (.agg #[.nilFunc, .nilFunc, .nilFunc]) := by unfold zeroB; kernel_rfl
theorem fa26_0 : faB Tryz.prog 26 0 0 = true := by kernel_rfl
theorem fa76_0 : faB Tryz.prog 76 0 0 = true := by kernel_rfl
theorem fa76_2 : faB Tryz.prog 76 2 2 = true := by kernel_rfl
theorem sl23 : slB Tryz.prog 23 7 = true := by kernel_rfl
theorem sl24 : slB Tryz.prog 24 6 = true := by kernel_rfl
theorem unb4 : Tryz.prog.underlying 4 = some .bool := by kernel_rfl
theorem z27 : szB Tryz.prog 27 18 true = true := by kernel_rfl
theorem bt90 : buildTab Tryz.prog 90 = some ([(0, 1)], [(.slice none 0 0)]) := by kernel_rfl
theorem z87 : szB Tryz.prog 87 6 true = true := by kernel_rfl
theorem co5 : Tryz.prog.cellsOf 5 = 1 := by kernel_rfl
theorem fa122_0 : faB Tryz.prog 122 0 0 = true := by kernel_rfl
theorem fa122_1 : faB Tryz.prog 122 1 1 = true := by kernel_rfl
theorem fa90_0 : faB Tryz.prog 90 0 0 = true := by kernel_rfl
theorem ibz122 : (Tryz.prog.info? 122).map (·.size) = some (1 + 1) := by kernel_rfl
theorem isz122 : (Tryz.prog.info? 122).isSome = true := by kernel_rfl
theorem lie122 : liesAt Tryz.prog Tryz.prog.depth 122 (2 / Tryz.prog.cellsOf 122) 0 122 1 = true := by kernel_rfl
theorem slt55 : slT Tryz.prog 55 5 1 1 (.int .u8 0) := ⟨by kernel_rfl, by kernel_rfl, by kernel_rfl⟩
theorem unS9 : Tryz.prog.underlying 9 = some .string := by kernel_rfl
theorem up120 : Tryz.prog.underlying 120 = some (.pointer 122) := by kernel_rfl
theorem up153 : Tryz.prog.underlying 153 = some (.pointer 5) := by kernel_rfl
theorem up179 : Tryz.prog.underlying 179 = some .unsafePointer := by kernel_rfl
theorem z120 : szB Tryz.prog 120 1 false = true := by kernel_rfl
theorem z55 : szB Tryz.prog 55 1 false = true := by kernel_rfl
theorem z56 : szB Tryz.prog 56 1 false = true := by kernel_rfl
theorem zr122 : zeroB Tryz.prog 122 (.agg #[(.pointer none), (.slice none 0 0)]) := by unfold zeroB; kernel_rfl
theorem z88 : szB Tryz.prog 88 1 false = true := by kernel_rfl
theorem bt157 : buildTab Tryz.prog 157 = some ([(0, 1)], [(str [])]) := by kernel_rfl
theorem fd157_0 : fdB Tryz.prog 157 0 9 0 = true := by kernel_rfl
theorem unm158 : Tryz.prog.underlying 158 = some (.map 5 157) := by kernel_rfl
theorem zr157 : zeroB Tryz.prog 157 (.agg #[(str [])]) := by unfold zeroB; kernel_rfl
theorem ar146 : arB Tryz.prog 146 4 1 false = true := by kernel_rfl
theorem zr146 : zeroB Tryz.prog 146 (.agg #[(.slice none 0 0), (.slice none 0 0), (.slice none 0 0), (.slice none 0 0)]) := by unfold zeroB; kernel_rfl
theorem bt69 : buildTab Tryz.prog 69 = some ([(0, 1), (1, 1), (2, 1), (3, 1), (4, 2)], [(.slice none 0 0), (.int .i64 0), (.int .i64 0), (.int .i64 0), (.int .i64 0), (.int .i64 0)]) := by kernel_rfl
theorem fa69_1 : faB Tryz.prog 69 1 1 = true := by kernel_rfl
theorem fa69_4 : faB Tryz.prog 69 4 4 = true := by kernel_rfl
theorem fa69_0 : faB Tryz.prog 69 0 0 = true := by kernel_rfl
theorem fa69_3 : faB Tryz.prog 69 3 3 = true := by kernel_rfl
theorem fa32_1 : faB Tryz.prog 32 1 1 = true := by kernel_rfl
theorem fa69_2 : faB Tryz.prog 69 2 2 = true := by kernel_rfl
end Go.Proofs.YtaniogadknakoaaGreatDoor

section
namespace Go.Proofs
open Go.Shelf
def Tryz.lays137_ren : Go.Shelf.Ren := ⟨fun | 137 => 152 | 217 => 161 | 266 => 166 | n => n, fun | 9 => 9 | 5 => 5 | 3 => 3 | n => n, fun | n => n⟩
theorem Tryz.lays137 : Go.Proofs.Lays.n137 Tryz.prog Tryz.lays137_ren := {
  mixed := by kernel_rfl
  f137 := Tryz.func152.trans (congrArg some (by kernel_rfl))
  f217 := Tryz.func161.trans (congrArg some (by kernel_rfl))
  f266 := Tryz.func166.trans (congrArg some (by kernel_rfl))
  t3 := Tryz.underlying3
  a3 := Tryz.isAgg3
  z3 := Tryz.sizeOf3
  v3 := Tryz.zeroValue3
  t5 := Tryz.underlying5
  a5 := Tryz.isAgg5
  z5 := Tryz.sizeOf5
  v5 := Tryz.zeroValue5
  t9 := Tryz.underlying9
  a9 := Tryz.isAgg9
  z9 := Tryz.sizeOf9
  v9 := Tryz.zeroValue9 }
open Go.RowKit in
theorem Tryz.strings_IndexByte (s : ByteArray) (c : Int) (w : World) :
    Calls Tryz.prog 152 #[.string s, .int .u8 c] w fun e w' => e = .returned (.int .i64 (Lib.indexByte s.data.toList c.toNat.toUInt8)) ∧ w' = w := Any.strings_IndexByte Tryz.lays137 s c w
def Tryz.lays144_ren : Go.Shelf.Ren := ⟨fun | 144 => 121 | 143 => 147 | 219 => 159 | 217 => 161 | 225 => 163 | 224 => 164 | 267 => 165 | 266 => 166 | 314 => 167 | n => n, fun | 9 => 9 | 4 => 4 | 3 => 3 | 5 => 5 | 46 => 188 | 146 => 191 | 51 => 150 | n => n, fun | 1 => 2 | n => n⟩
theorem Tryz.lays144 : Go.Proofs.Lays.n144 Tryz.prog Tryz.lays144_ren := {
  mixed := by kernel_rfl
  f143 := Tryz.func147.trans (congrArg some (by kernel_rfl))
  f144 := Tryz.func121.trans (congrArg some (by kernel_rfl))
  f217 := Tryz.func161.trans (congrArg some (by kernel_rfl))
  f219 := Tryz.func159.trans (congrArg some (by kernel_rfl))
  f224 := Tryz.func164.trans (congrArg some (by kernel_rfl))
  f225 := Tryz.func163.trans (congrArg some (by kernel_rfl))
  f266 := Tryz.func166.trans (congrArg some (by kernel_rfl))
  f267 := Tryz.func165.trans (congrArg some (by kernel_rfl))
  f314 := Tryz.func167.trans (congrArg some (by kernel_rfl))
  t3 := Tryz.underlying3
  a3 := Tryz.isAgg3
  z3 := Tryz.sizeOf3
  v3 := Tryz.zeroValue3
  t4 := Tryz.underlying4
  a4 := Tryz.isAgg4
  z4 := Tryz.sizeOf4
  v4 := Tryz.zeroValue4
  t5 := Tryz.underlying5
  a5 := Tryz.isAgg5
  z5 := Tryz.sizeOf5
  v5 := Tryz.zeroValue5
  t9 := Tryz.underlying9
  a9 := Tryz.isAgg9
  z9 := Tryz.sizeOf9
  v9 := Tryz.zeroValue9
  t46 := Tryz.underlying188
  a46 := Tryz.isAgg188
  z46 := Tryz.sizeOf188
  v46 := Tryz.zeroValue188
  t51 := Tryz.underlying150
  a51 := Tryz.isAgg150
  z51 := Tryz.sizeOf150
  v51 := Tryz.zeroValue150
  t146 := Tryz.underlying191
  a146 := Tryz.isAgg191
  z146 := Tryz.sizeOf191
  v146 := Tryz.zeroValue191
  g1 := by kernel_rfl }
open Go.RowKit Go.Lib in
theorem Tryz.strings_Contains (s sub : ByteArray) (m : Int) (w : World) (hs : s.size < 4294967281) (hm : w.cell? ⟨2, 0, none⟩ = some (.int .i64 m)) :
    Calls Tryz.prog 121 #[.string s, .string sub] w fun e w' => e = .returned (.bool (Lib.contains s.data.toList sub.data.toList)) ∧ w' = w := Any.strings_Contains Tryz.lays144 s sub m w hs hm
def Tryz.lays99_ren : Go.Shelf.Ren := ⟨fun | 99 => 151 | 206 => 160 | n => n, fun | 9 => 9 | 4 => 4 | 3 => 3 | n => n, fun | n => n⟩
theorem Tryz.lays99 : Go.Proofs.Lays.n99 Tryz.prog Tryz.lays99_ren := {
  mixed := by kernel_rfl
  f99 := Tryz.func151.trans (congrArg some (by kernel_rfl))
  f206 := Tryz.func160.trans (congrArg some (by kernel_rfl))
  t3 := Tryz.underlying3
  a3 := Tryz.isAgg3
  z3 := Tryz.sizeOf3
  v3 := Tryz.zeroValue3
  t4 := Tryz.underlying4
  a4 := Tryz.isAgg4
  z4 := Tryz.sizeOf4
  v4 := Tryz.zeroValue4
  t9 := Tryz.underlying9
  a9 := Tryz.isAgg9
  z9 := Tryz.sizeOf9
  v9 := Tryz.zeroValue9 }
open Go.RowKit Go.Lib in
theorem Tryz.strings_HasPrefix (s p : ByteArray) (w : World) :
    Calls Tryz.prog 151 #[.string s, .string p] w fun e w' => e = .returned (.bool (Lib.hasPrefix s.data.toList p.data.toList)) ∧ w' = w := Any.strings_HasPrefix Tryz.lays99 s p w
def Tryz.lays157_ren : Go.Shelf.Ren := ⟨fun | 157 => 41 | 229 => 77 | 199 => 78 | 261 => 119 | 311 => 144 | 312 => 145 | n => n, fun | 9 => 9 | 31 => 56 | 3 => 3 | 5 => 5 | 4 => 4 | 119 => 115 | 0 => 0 | 40 => 117 | 152 => 147 | 21 => 21 | 154 => 149 | 51 => 150 | 141 => 152 | 196 => 171 | 193 => 168 | 198 => 174 | 49 => 172 | 194 => 169 | 201 => 177 | 226 => 187 | 46 => 188 | 227 => 189 | n => n, fun | 0 => 0 | 6 => 1 | n => n⟩
theorem Tryz.lays157 : Go.Proofs.Lays.n157 Tryz.prog Tryz.lays157_ren := {
  mixed := by kernel_rfl
  f157 := Tryz.func41.trans (congrArg some (by kernel_rfl))
  f199 := Tryz.func78.trans (congrArg some (by kernel_rfl))
  f229 := Tryz.func77.trans (congrArg some (by kernel_rfl))
  f261 := Tryz.func119.trans (congrArg some (by kernel_rfl))
  f311 := Tryz.func144.trans (congrArg some (by kernel_rfl))
  f312 := Tryz.func145.trans (congrArg some (by kernel_rfl))
  t0 := Tryz.underlying0
  a0 := Tryz.isAgg0
  z0 := Tryz.sizeOf0
  v0 := Tryz.zeroValue0
  t3 := Tryz.underlying3
  a3 := Tryz.isAgg3
  z3 := Tryz.sizeOf3
  v3 := Tryz.zeroValue3
  t4 := Tryz.underlying4
  a4 := Tryz.isAgg4
  z4 := Tryz.sizeOf4
  v4 := Tryz.zeroValue4
  t5 := Tryz.underlying5
  a5 := Tryz.isAgg5
  z5 := Tryz.sizeOf5
  v5 := Tryz.zeroValue5
  t9 := Tryz.underlying9
  a9 := Tryz.isAgg9
  z9 := Tryz.sizeOf9
  v9 := Tryz.zeroValue9
  t21 := Tryz.underlying21
  a21 := Tryz.isAgg21
  z21 := Tryz.sizeOf21
  v21 := Tryz.zeroValue21
  t31 := Tryz.underlying56
  a31 := Tryz.isAgg56
  z31 := Tryz.sizeOf56
  v31 := Tryz.zeroValue56
  t40 := Tryz.underlying117
  a40 := Tryz.isAgg117
  z40 := Tryz.sizeOf117
  v40 := Tryz.zeroValue117
  t46 := Tryz.underlying188
  a46 := Tryz.isAgg188
  z46 := Tryz.sizeOf188
  v46 := Tryz.zeroValue188
  t49 := Tryz.underlying172
  a49 := Tryz.isAgg172
  z49 := Tryz.sizeOf172
  v49 := Tryz.zeroValue172
  t51 := Tryz.underlying150
  a51 := Tryz.isAgg150
  z51 := Tryz.sizeOf150
  v51 := Tryz.zeroValue150
  t119 := Tryz.underlying115
  a119 := Tryz.isAgg115
  z119 := Tryz.sizeOf115
  t141 := Tryz.underlying152
  a141 := Tryz.isAgg152
  z141 := Tryz.sizeOf152
  v141 := Tryz.zeroValue152
  t152 := Tryz.underlying147
  a152 := Tryz.isAgg147
  z152 := Tryz.sizeOf147
  v152 := Tryz.zeroValue147
  t154 := Tryz.underlying149
  a154 := Tryz.isAgg149
  z154 := Tryz.sizeOf149
  v154 := Tryz.zeroValue149
  t193 := Tryz.underlying168
  a193 := Tryz.isAgg168
  z193 := Tryz.sizeOf168
  v193 := Tryz.zeroValue168
  t194 := Tryz.underlying169
  a194 := Tryz.isAgg169
  z194 := Tryz.sizeOf169
  v194 := Tryz.zeroValue169
  t196 := Tryz.underlying171
  a196 := Tryz.isAgg171
  z196 := Tryz.sizeOf171
  v196 := Tryz.zeroValue171
  t198 := Tryz.underlying174
  a198 := Tryz.isAgg174
  z198 := Tryz.sizeOf174
  v198 := Tryz.zeroValue174
  t201 := Tryz.underlying177
  a201 := Tryz.isAgg177
  z201 := Tryz.sizeOf177
  v201 := Tryz.zeroValue177
  t226 := Tryz.underlying187
  a226 := Tryz.isAgg187
  z226 := Tryz.sizeOf187
  v226 := Tryz.zeroValue187
  t227 := Tryz.underlying189
  a227 := Tryz.isAgg189
  z227 := Tryz.sizeOf189
  v227 := Tryz.zeroValue189
  g0 := by kernel_rfl
  g6 := by kernel_rfl }
open Go.RowKit Go.Lib in
theorem Tryz.strings_Fields (s : ByteArray) (w : World) (hs : s.size < 4294967281) (hascii : ∀ (j : Nat) b, s.data.toList[j]? = some b → b.toNat < 128) (htab : Lib.TabIs Tryz.prog w "strings.asciiSpace" .u8 Lib.asciiSpaceTab) :
    Calls Tryz.prog 41 #[.string s] w fun e w' =>
      e = .returned (.slice (some ⟨w.heap.size, 0, none⟩) (Lib.fields s.data.toList).length (Lib.fields s.data.toList).length) ∧ w' = w.alloc (.cells ((Lib.fields s.data.toList).map fun l => Value.string ⟨l.toArray⟩).toArray 9) := Any.strings_Fields Tryz.lays157 (by kernel_rfl) (by kernel_rfl) s w hs hascii htab
end Go.Proofs
end

section
namespace Go.Proofs.YtaniogadknakoaaGreatDoor
open Go.RowKit Go.Sx


def Tb (w : World) : Prop := ∃ T f, w.heap[0]? = some (.cells (Lib.asciiSpaceTab.map fun z => Value.int .u8 z).toArray T f)
theorem Tb.tab {w : World} (h : Tb w) : Lib.TabIs Tryz.prog w "strings.asciiSpace" .u8 Lib.asciiSpaceTab := by
 obtain ⟨T, f, h⟩ := h
 unfold Lib.TabIs World.var?
 have : Tryz.prog.globalNamed "strings.asciiSpace" = some 0 := by kernel_rfl
 rw [this]
 simp [h]
theorem Tb.of {w : World} (h : Lib.TabIs Tryz.prog w "strings.asciiSpace" .u8 Lib.asciiSpaceTab) : Tb w := by
 unfold Lib.TabIs World.var? at h
 have : Tryz.prog.globalNamed "strings.asciiSpace" = some 0 := by kernel_rfl
 rw [this] at h
 simp only [Option.bind_some] at h
 split at h
 ·rename_i cs T f hh; cases h; exact ⟨T, f, hh⟩
 ·cases h
theorem Tb.fr {S : Nat → Prop} {w w' : World} (h : Tb w) (k : Fr S w w') (hs : ¬ S 0) : Tb w' := by
 obtain ⟨T, f, h⟩ := h
 exact ⟨T, f, k.get h hs⟩
theorem Tb.lt {w : World} (h : Tb w) : 0 < w.heap.size := by
 obtain ⟨T, f, h⟩ := h
 exact lt_of_blk h
theorem IndexByte_spec (s : List UInt8) (c : Int) (w : World) : Ret Tryz.prog 152 #[str s, .int .u8 c] w fun v w' => v = .int .i64 (Lib.indexByte s c.toNat.toUInt8) ∧ Ext w w' :=
 Calls.mono (Tryz.strings_IndexByte ⟨s.toArray⟩ c w) fun e w' ⟨h1, h2⟩ => ⟨_, h1, by simp, by rw [h2]; exact Fr.refl _ _⟩
theorem u8_back (b : UInt8) : ((b.toNat : Nat) : Int).toNat.toUInt8 = b := by simp
theorem IndexByte_at (s : List UInt8) (b : UInt8) (w : World) : Ret Tryz.prog 152 #[str s, .int .u8 (b.toNat : Nat)] w fun v w' => v = .int .i64 (Lib.indexByte s b) ∧ Ext w w' := by
 have := IndexByte_spec s (b.toNat : Nat) w
 rwa [u8_back] at this
theorem HasPrefix_spec (s p : List UInt8) (w : World) : Ret Tryz.prog 151 #[str s, str p] w fun v w' => v = .bool (p.isPrefixOf s) ∧ Ext w w' :=
 Calls.mono (Tryz.strings_HasPrefix ⟨s.toArray⟩ ⟨p.toArray⟩ w) fun e w' ⟨h1, h2⟩ => ⟨_, h1, by simp [Lib.hasPrefix], by rw [h2]; exact Fr.refl _ _⟩
theorem Fields_spec (s : List UInt8) (w : World) (hs : s.length < 4294967281) (ha : ∀ (j : Nat) b, s[j]? = some b → b.toNat < 128) (ht : Tb w) : Ret Tryz.prog 41 #[str s] w fun v w' =>
  v = .slice (some ⟨w.heap.size, 0, none⟩) (Lib.fields s).length (Lib.fields s).length ∧ w' = w.alloc (cel ((Lib.fields s).map str) 9) :=
 Calls.mono (Tryz.strings_Fields ⟨s.toArray⟩ w hs (by simpa using ha) ht.tab) fun e w' ⟨h1, h2⟩ => ⟨_, h1, by simp, by simpa using h2⟩
end Go.Proofs.YtaniogadknakoaaGreatDoor
end

section
namespace Go.Proofs.YtaniogadknakoaaGreatDoor
open Go.RowKit Go.Sx
open Go.Tok
theorem Fields_signs (x : List UInt8) (hx : x = signsT) (w : World) (ht : Tb w) : Ret Tryz.prog 41 #[str x] w fun v w' =>
  v = .slice (some ⟨w.heap.size, 0, none⟩) 22 22 ∧ w' = w.alloc (cel (signsL.map str) 9) := by
 subst hx
 have := Fields_spec signsT w (by decide) signs_ascii ht
 rw [signs_fields] at this
 exact this
theorem sig_at {k : Nat} (h : k < 22) : (signsL.map str)[0 + k * 1]? = some (str (signsL.getD k [])) := by
 have : k < signsL.length := h
 simp [this]

set_option maxRecDepth 100000 in
set_option maxHeartbeats 400000 in
theorem is_spec (p : Nat) (s so : List UInt8) (q : UInt8 → Bool) (hq : so.contains = q) (j on : Nat) (w : World) (hp : w.heap[p]? = some (cel [str s, .int .i64 (j : Nat)] 139)) (hs : s.length ≤ 10000000) (hj : j ≤ 10000000) (h1 : on ≤ 10) :
  Ret Tryz.prog 149 #[.pointer (some ⟨p, 0, none⟩), str so, .int .i64 (on : Nat)] w (fun v w' => v = .bool (atP q s (j + on)) ∧ Ext w w') := by
 refine enter (S := No) (l := [_, _, _]) (L := []) 35 Tryz.func149 rfl rfl rfl (St.start w No) ?_; refine yA ?_; refine aB rfl ?_; refine yB ?_; refine zq ?_; refine c_draw mixed (by kernel_rfl) ?_; refine mP rfl ?_; refine w_nilc rfl ?_; refine zf fa139_1 rfl ?_; refine zl z3 rfl (fun _ h => cel_oldb hp (.head _) id rfl h) ?_; refine mI rfl ?_; refine w_r (fun _ => R_addi rfl rfl (by omega)) rfl rfl ?_; refine mP rfl ?_; refine w_nilc rfl ?_; refine zf fa139_0 rfl ?_; refine zl z9 rfl (fun _ h => cel_oldb hp (.head _) id rfl h) ?_; refine w_r (fun _ => R_slen st9 rfl (by omega)) rfl rfl ?_; refine w_r (fun _ => R_lt rfl rfl) rfl rfl ?_; refine mB rfl ?_; refine zd (t := 19) rfl (fun h1 => ?_) (fun h1 => ?_)
 ·refine zw rfl rfl (bT h1) ?_; refine zm (v := str _) rfl ?_; refine zw rfl rfl (bT h1) ?_; refine mP rfl ?_; refine zw rfl rfl (bT h1) ?_; refine w_nilc rfl ?_; refine zw rfl rfl (bT h1) ?_; refine zf fa139_0 rfl ?_; refine zw rfl rfl (bT h1) ?_; refine zl z9 rfl (fun _ h => cel_oldb hp (.head _) id rfl h) ?_; refine zw rfl rfl (bT h1) ?_; refine mP rfl ?_; refine zw rfl rfl (bT h1) ?_; refine w_nilc rfl ?_; refine zw rfl rfl (bT h1) ?_; refine zf fa139_1 rfl ?_; refine zw rfl rfl (bT h1) ?_; refine zl z3 rfl (fun _ h => cel_oldb hp (.head _) id rfl h) ?_; refine zw rfl rfl (bT h1) ?_; refine mI rfl ?_; refine zw rfl rfl (bT h1) ?_; refine w_r (fun _ => R_addi rfl rfl (by omega)) rfl rfl ?_; refine zw rfl rfl (bT h1) ?_
  refine w_sidx st9 rfl rfl (by omega) ?_; refine zw rfl rfl (bT h1) ?_; refine zC (fun w => zR Tryz.func152 rfl rfl rfl) rfl rfl (fun w h => IndexByte_at _ _ w) ?_; refine zw rfl rfl (bT h1) ?_; refine w_r (fun _ => R_ge rfl rfl) rfl rfl ?_; refine w_r (v := .bool _) (fun _ => zT (bT h1) rfl) rfl rfl ?_; refine aB rfl ?_; refine yB ?_; refine ze ?_; refine zo (v := .bool _) rfl rfl rfl ?_; exact fun w' hw => ⟨by subst hq; rw [atP_in (by omega), ← index_contains], hw.fr _ (.head _)⟩
 ·refine zs rfl rfl (bF h1) ?_; refine zs rfl rfl (bF h1) ?_; refine zs rfl rfl (bF h1) ?_; refine zs rfl rfl (bF h1) ?_; refine zs rfl rfl (bF h1) ?_; refine zs rfl rfl (bF h1) ?_; refine zs rfl rfl (bF h1) ?_; refine zs rfl rfl (bF h1) ?_; refine zs rfl rfl (bF h1) ?_; refine zs rfl rfl (bF h1) ?_; refine zs rfl rfl (bF h1) ?_; refine zs rfl rfl (bF h1) ?_; refine zs rfl rfl (bF h1) ?_; refine zs rfl rfl (bF h1) ?_; refine w_r (v := .bool _) (fun _ => zF (bF h1) rfl) rfl rfl ?_; refine aB rfl ?_; refine yB ?_; refine ze ?_; refine zo (v := .bool _) rfl rfl rfl ?_; exact fun w' hw => ⟨by rw [atP_out (by omega)], hw.fr _ (.head _)⟩

set_option maxRecDepth 100000 in
set_option maxHeartbeats 400000 in
theorem run_spec (p : Nat) (s so : List UInt8) (q : UInt8 → Bool) (hq : so.contains = q) (j : Nat) (w : World) (hp : w.heap[p]? = some (cel [str s, .int .i64 (j : Nat)] 139)) (hs : s.length ≤ 10000000) (hj : j ≤ s.length) :
  Ret Tryz.prog 150 #[.pointer (some ⟨p, 0, none⟩), str so] w (fun v w' => v = .int .i64 (runTo q s j - j : Nat) ∧ Fr (fun i => i = p) w w' ∧ w'.heap[p]? = some (cel [str s, .int .i64 (runTo q s j : Nat)] 139)) := by
 refine enter (S := (fun i => i = p)) (l := [_, _]) (L := [(p, cel [str s, .int .i64 (j : Nat)] 139)]) 26 Tryz.func150 rfl rfl rfl (St.start1 w hp rfl) ?_; refine yA ?_; refine aI rfl ?_; refine yC ?_; refine mP rfl ?_; refine w_nilc rfl ?_; refine zf fa139_1 rfl ?_; refine zl z3 rfl (fun _ h => zc 0 rfl rfl h) ?_; refine aI rfl ?_; refine yB ?_; refine zq ?_; refine zB ?_; refine c_loop (fun m e B L => ∃ (k : Nat), e 0 = .pointer (some ⟨p, 0, none⟩) ∧ e 1 = str so ∧ e 5 = .int .i64 (j : Nat) ∧ B = [(w, (fun i => i = p))] ∧ L = [(p, cel [str s, .int .i64 (k : Nat)] 139)] ∧ j ≤ k ∧ k ≤ s.length ∧ runTo q s k = runTo q s j ∧ m = s.length - k) _ ⟨j, rfl, rfl, rfl, rfl, rfl, by omega, by omega, rfl, rfl⟩ ?_
 rintro m e B L ⟨k, e0_1, e1_1, e5_1, rfl, rfl, p0_1, p1_1, p2_1, rfl⟩
 refine zq ?_; refine yA ?_; refine mP e0_1 ?_; refine zm (v := str _) e1_1 ?_; refine zC (fun w => zR Tryz.func149 rfl rfl rfl) rfl rfl (fun w h => is_spec p s _ _ hq _ 0 w (h.at_ 0 rfl) hs (by omega) (by decide)) ?_; refine yB ?_; refine c_cond rfl (fun h1 => ?_) (fun h1 => ?_)
 ·replace h1 : atP q s k = true := h1; have h2 := atP_lt h1
  refine zi ?_; refine zk ?_; refine zB ?_; refine zr ?_; refine mP e0_1 ?_; refine w_nilc rfl ?_; refine zf fa139_1 rfl ?_; refine zl z3 rfl (fun _ h => zc 0 rfl rfl h) ?_; refine w_r (fun _ => R_addi rfl rfl (by omega)) rfl rfl ?_; refine w_nilc rfl ?_; refine zf fa139_1 rfl ?_; refine w_store 0 rfl z3 rfl rfl rfl rfl rfl rfl rfl ?_; refine zn ?_; refine b_on (?_)
  exact k_again _ (by omega) ⟨k + 1, e0_1, e1_1, e5_1, rfl, rfl, by omega, by omega, by rw [← p2_1, runTo_step h1], rfl⟩
 ·refine c_exit ?_; refine zx (zx (b_here rfl (zk ?_))); refine yA ?_; refine mP e0_1 ?_; refine w_nilc rfl ?_; refine zf fa139_1 rfl ?_; refine zl z3 rfl (fun _ h => zc 0 rfl rfl h) ?_; refine mI e5_1 ?_; refine w_r (fun _ => R_subi rfl rfl (by omega)) rfl rfl ?_; refine aI rfl ?_; refine yB ?_; refine ze ?_
  replace h1 : atP q s k = false := h1
  have h2 : runTo q s j = k := by rw [← p2_1, runTo_stop h1]
  rw [h2]
  refine zo (v := .int _ _) rfl rfl rfl ?_; exact fun w' hw => ⟨by congr 1; omega, hw.fr _ (.head _), hw.at_ 0 rfl⟩

set_option maxRecDepth 100000 in
set_option maxHeartbeats 400000 in
theorem skip_spec (p : Nat) (s : List UInt8) (j : Nat) (w : World) (hp : w.heap[p]? = some (cel [str s, .int .i64 (j : Nat)] 139)) (hs : s.length ≤ 10000000) (hj : j ≤ s.length) :
  Ret Tryz.prog 128 #[.pointer (some ⟨p, 0, none⟩)] w (fun v w' => v = .tuple #[] ∧ Fr (fun i => i = p) w w' ∧ w'.heap[p]? = some (cel [str s, .int .i64 (skipTo s j : Nat)] 139)) := by
 refine enter (S := (fun i => i = p)) (l := [_]) (L := [(p, cel [str s, .int .i64 (j : Nat)] 139)]) 46 Tryz.func128 rfl rfl rfl (St.start1 w hp rfl) ?_; refine zB ?_; refine c_loop (fun m e B L => ∃ (k : Nat), e 0 = .pointer (some ⟨p, 0, none⟩) ∧ B = [(w, (fun i => i = p))] ∧ L = [(p, cel [str s, .int .i64 (k : Nat)] 139)] ∧ k ≤ s.length ∧ skipTo s k = skipTo s j ∧ m = s.length - k) _ ⟨j, rfl, rfl, rfl, by omega, rfl, rfl⟩ ?_
 rintro m e B L ⟨k, e0_1, rfl, rfl, p0_1, p1_1, rfl⟩
 have r0 := Lib.indexByte_ge (s.drop (runTo blankB s k)) 10
 have r6 := runTo_le (p := notNl) (runTo_le (p := blankB) p0_1)
 have r7 := index_run s _ (runTo_le (p := blankB) p0_1)
 have r1 := runTo_ge blankB s k
 have r2 := runTo_le (p := blankB) p0_1
 refine zB ?_; refine yA ?_; refine mP e0_1 ?_; refine w_call1 0 rfl (fun w => zR Tryz.func150 rfl rfl rfl) rfl rfl (fun w h => run_spec p s _ _ con_blanks _ w (h.at_ 0 rfl) hs (by omega)) ?_; refine yB ?_; refine zq ?_; refine zq ?_; refine c_draw mixed (by kernel_rfl) ?_; refine mP e0_1 ?_; refine w_nilc rfl ?_; refine zf fa139_0 rfl ?_; refine zl z9 rfl (fun _ h => zc 0 rfl rfl h) ?_; refine mP e0_1 ?_; refine w_nilc rfl ?_; refine zf fa139_1 rfl ?_; refine zl z3 rfl (fun _ h => zc 0 rfl rfl h) ?_; refine w_r (fun _ => R_ssl_loN st9 rfl rfl (by omega)) rfl rfl ?_; refine zC (fun w => zR Tryz.func151 rfl rfl rfl) rfl rfl (fun w h => HasPrefix_spec _ _ w) ?_; refine w_r (fun _ => R_not rfl) rfl rfl ?_; refine yB ?_
 refine c_condN rfl (fun h1 => ?_) (fun h1 => ?_)
 ·rw [prefix_cmt] at h1
  refine ze ?_; refine zt (zb (zt (zb (?_))))
  refine r_none (.inl rfl) rfl ?_; exact fun w' hw => ⟨rfl, hw.fr _ (.head _), by have := hw.at_ 0 rfl; rw [← p1_1, skipTo_eq p0_1, if_neg (by simp [h1])]; exact this⟩
 ·rw [prefix_cmt] at h1
  refine zi ?_; refine zk ?_; refine zq ?_; refine c_draw mixed (by kernel_rfl) ?_; refine mP e0_1 ?_; refine w_nilc rfl ?_; refine zf fa139_0 rfl ?_; refine zl z9 rfl (fun _ h => zc 0 rfl rfl h) ?_; refine mP e0_1 ?_; refine w_nilc rfl ?_; refine zf fa139_1 rfl ?_; refine zl z3 rfl (fun _ h => zc 0 rfl rfl h) ?_; refine w_r (fun _ => R_ssl_loN st9 rfl rfl (by omega)) rfl rfl ?_; refine zC (fun w => zR Tryz.func152 rfl rfl rfl) rfl rfl (fun w h => IndexByte_at _ 10 w) ?_; refine aI rfl ?_; refine yB ?_; refine zq ?_; refine yA ?_; refine mI rfl ?_; refine w_r (fun _ => R_lt rfl rfl) rfl rfl ?_; refine yB ?_; refine zD rfl (fun h2 => ?_) (fun h2 => ?_)
  ·first | rw [if_pos h2] at r7 | rw [if_neg h2] at r7
   refine c_draw mixed (by kernel_rfl) ?_; refine mP e0_1 ?_; refine w_nilc rfl ?_; refine zf fa139_0 rfl ?_; refine zl z9 rfl (fun _ h => zc 0 rfl rfl h) ?_; refine w_r (fun _ => R_slen st9 rfl (by omega)) rfl rfl ?_; refine mP e0_1 ?_; refine w_nilc rfl ?_; refine zf fa139_1 rfl ?_; refine zl z3 rfl (fun _ h => zc 0 rfl rfl h) ?_; refine w_r (fun _ => R_subi rfl rfl (by omega)) rfl rfl ?_; refine aI rfl ?_; refine yB ?_; refine zr ?_; refine mP e0_1 ?_; refine w_nilc rfl ?_; refine zf fa139_1 rfl ?_; refine zl z3 rfl (fun _ h => zc 0 rfl rfl h) ?_; refine mI rfl ?_; refine w_r (fun _ => R_addi rfl rfl (by omega)) rfl rfl ?_
   refine w_nilc rfl ?_; refine zf fa139_1 rfl ?_; refine w_store 0 rfl z3 rfl rfl rfl rfl rfl rfl rfl ?_; refine zn ?_; refine b_on (?_)
   have r3 := cmt_run h1
   have r4 := r7
   exact k_again _ (by omega) ⟨s.length, (by first | rfl | assumption), (by first | rfl | assumption), congrArg (fun x : Int => [(p, cel [str s, .int .i64 x] 139)]) (by omega), by omega, by rw [← p1_1, skipTo_eq p0_1, if_pos h1, r4], rfl⟩
  ·first | rw [if_pos h2] at r7 | rw [if_neg h2] at r7
   refine zi ?_; refine zk ?_; refine zr ?_; refine mP e0_1 ?_; refine w_nilc rfl ?_; refine zf fa139_1 rfl ?_; refine zl z3 rfl (fun _ h => zc 0 rfl rfl h) ?_; refine mI rfl ?_; refine w_r (fun _ => R_addi rfl rfl (by omega)) rfl rfl ?_; refine w_nilc rfl ?_; refine zf fa139_1 rfl ?_; refine w_store 0 rfl z3 rfl rfl rfl rfl rfl rfl rfl ?_; refine zn ?_; refine b_on (?_)
   have r3 := cmt_run h1
   have r4 := r7
   exact k_again _ (by omega) ⟨runTo notNl s (runTo blankB s k), (by first | rfl | assumption), (by first | rfl | assumption), congrArg (fun x : Int => [(p, cel [str s, .int .i64 x] 139)]) (by omega), by omega, by rw [← p1_1, skipTo_eq p0_1, if_pos h1], rfl⟩

set_option maxRecDepth 100000 in
set_option maxHeartbeats 400000 in
theorem name_spec (p : Nat) (s : List UInt8) (j : Nat) (w : World) (hp : w.heap[p]? = some (cel [str s, .int .i64 (j : Nat)] 139)) (hs : s.length ≤ 10000000) (hj : j ≤ s.length) :
  Ret Tryz.prog 125 #[.pointer (some ⟨p, 0, none⟩)] w (fun v w' => v = .tuple #[.int .u8 (if nameB s j then 1 else 0), .bool (nameB s j)] ∧ Fr (fun i => i = p) w w' ∧ w'.heap[p]? = some (cel [str s, .int .i64 (if nameB s j then runTo wordB s j else j : Nat)] 139)) := by
 refine enter (S := (fun i => i = p)) (l := [_]) (L := [(p, cel [str s, .int .i64 (j : Nat)] 139)]) 13 Tryz.func125 rfl rfl rfl (St.start1 w hp rfl) ?_; refine yA ?_; refine aI rfl ?_; refine aB rfl ?_; refine yB ?_; refine zq ?_; refine yA ?_; refine mP rfl ?_; refine zC (fun w => zR Tryz.func149 rfl rfl rfl) rfl rfl (fun w h => is_spec p s _ _ (con_one 95) _ 0 w (h.at_ 0 rfl) hs (by omega) (by decide)) ?_; refine mB rfl ?_; refine zp (t := 6) rfl (fun h1 => ?_) (fun h1 => ?_)
 ·refine zs rfl rfl (bV h1) ?_; refine zs rfl rfl (bV h1) ?_; refine zs rfl rfl (bV h1) ?_; refine w_r (v := .bool _) (fun _ => zT (bV h1) rfl) rfl rfl ?_; refine yB ?_; refine zE rfl ?_; refine yA ?_; refine aI rfl ?_; refine aB rfl ?_; refine yB ?_; refine ze ?_; refine zt (?_)
  have h0 : nameB s j = false := by simp only [nameB]; rw [show atP (eqB 95) s j = true from h1]; simp
  rw [h0]
  refine r_two (v := .int _ _) (v2 := .bool _) rfl rfl rfl rfl rfl ?_; exact fun w' hw => ⟨rfl, hw.fr _ (.head _), hw.at_ 0 rfl⟩
 ·refine zw rfl rfl (bV h1) ?_; refine mP rfl ?_; refine zw rfl rfl (bV h1) ?_; refine zC (fun w => zR Tryz.func149 rfl rfl rfl) rfl rfl (fun w h => is_spec p s _ _ con_letters _ 0 w (h.at_ 0 rfl) hs (by omega) (by decide)) ?_; refine zw rfl rfl (bV h1) ?_; refine w_r (fun _ => R_not rfl) rfl rfl ?_; refine w_r (v := .bool _) (fun _ => zF (bV h1) rfl) rfl rfl ?_; refine yB ?_; refine c_condN rfl (fun h2 => ?_) (fun h2 => ?_)
  ·refine yA ?_; refine aI rfl ?_; refine aB rfl ?_; refine yB ?_; refine ze ?_; refine zt (?_)
   have h0 : nameB s j = false := by simp only [nameB]; rw [show atP letterB s j = false from h2]; rfl
   rw [h0]
   refine r_two (v := .int _ _) (v2 := .bool _) rfl rfl rfl rfl rfl ?_; exact fun w' hw => ⟨rfl, hw.fr _ (.head _), hw.at_ 0 rfl⟩
  ·refine zi ?_; refine zk ?_; refine yA ?_; refine mP rfl ?_; refine w_call1 0 rfl (fun w => zR Tryz.func150 rfl rfl rfl) rfl rfl (fun w h => run_spec p s _ _ con_words _ w (h.at_ 0 rfl) hs (by omega)) ?_; refine yC ?_; refine aI rfl ?_; refine aB rfl ?_; refine yB ?_; refine ze ?_
   have h0 : nameB s j = true := by simp only [nameB]; rw [show atP (eqB 95) s j = false from h1, show atP letterB s j = true from h2]; rfl
   rw [h0]
   refine r_two (v := .int _ _) (v2 := .bool _) rfl rfl rfl rfl rfl ?_; exact fun w' hw => ⟨rfl, hw.fr _ (.head _), hw.at_ 0 rfl⟩

set_option maxRecDepth 100000 in
set_option maxHeartbeats 400000 in
theorem number_spec (p : Nat) (s : List UInt8) (j : Nat) (w : World) (hp : w.heap[p]? = some (cel [str s, .int .i64 (j : Nat)] 139)) (hs : s.length ≤ 10000000) (hj : j ≤ s.length) :
  Ret Tryz.prog 126 #[.pointer (some ⟨p, 0, none⟩)] w (fun v w' => v = .tuple #[.int .u8 (if atP digitB s j then 2 else 0), .bool (if atP digitB s j then numFine s j else false)] ∧ Fr (fun i => i = p) w w' ∧ w'.heap[p]? = some (cel [str s, .int .i64 (if atP digitB s j then numEnd s j else j : Nat)] 139)) := by
 have g1 := runTo_le (p := digitB) hj
 have g2 := runTo_ge digitB s j
 refine enter (S := (fun i => i = p)) (l := [_]) (L := [(p, cel [str s, .int .i64 (j : Nat)] 139)]) 66 Tryz.func126 rfl rfl rfl (St.start1 w hp rfl) ?_; refine yA ?_; refine aI rfl ?_; refine aB rfl ?_; refine yB ?_; refine zq ?_; refine yA ?_; refine mP rfl ?_; refine w_call1 0 rfl (fun w => zR Tryz.func150 rfl rfl rfl) rfl rfl (fun w h => run_spec p s _ _ con_digits _ w (h.at_ 0 rfl) hs (by omega)) ?_; refine w_r (fun _ => R_eq rfl rfl) rfl rfl ?_; refine yB ?_; refine zD rfl (fun h1 => ?_) (fun h1 => ?_)
 ·(try simp only [Nat.add_zero] at h1); (try have qh1 := atP_lt h1)
  have g0 := run_zero digitB s j
  refine yA ?_; refine aI rfl ?_; refine aB rfl ?_; refine yB ?_; refine ze ?_; refine zt (?_)
  have g5 : atP digitB s j = false := by rw [← g0]; omega
  rw [g5]
  refine r_two (v := .int _ _) (v2 := .bool _) rfl rfl rfl rfl rfl ?_; exact fun w' hw => ⟨rfl, hw.fr _ (.head _), by have := hw.at_ 0 rfl; rw [runTo_stop g5] at this; exact this⟩
 ·(try simp only [Nat.add_zero] at h1)
  have g0 := run_zero digitB s j
  refine zi ?_; refine zk ?_; refine c_cut (fun e B L => e 0 = .pointer (some ⟨p, 0, none⟩) ∧ B = [(w, (fun i => i = p))] ∧ L = [(p, cel [str s, .int .i64 (numDot s (runTo digitB s j) : Nat)] 139)]) ?_ ?_
  ·(try simp only [Nat.add_zero] at mid1); (try have qmid1 := atP_lt mid1)
   refine yA ?_; refine mP rfl ?_; refine zC (fun w => zR Tryz.func149 rfl rfl rfl) rfl rfl (fun w h => is_spec p s _ _ (con_one 46) _ 0 w (h.at_ 0 rfl) hs (by omega) (by decide)) ?_; refine mB rfl ?_; refine zp (t := 10) rfl (fun h2 => ?_) (fun h2 => ?_)
   ·(try simp only [Nat.add_zero] at h2); (try have qh2 := atP_lt h2)
    refine zw rfl rfl (bV h2) ?_; refine mP rfl ?_; refine zw rfl rfl (bV h2) ?_; refine zC (fun w => zR Tryz.func149 rfl rfl rfl) rfl rfl (fun w h => is_spec p s _ _ con_digits _ 1 w (h.at_ 0 rfl) hs (by omega) (by decide)) ?_; refine w_r (v := .bool _) (fun _ => zT (bV h2) rfl) rfl rfl ?_; refine yB ?_; refine c_cond rfl (fun h3 => ?_) (fun h3 => ?_)
    ·(try simp only [Nat.add_zero] at h3); (try have qh3 := atP_lt h3)
     refine yA ?_; refine mP rfl ?_; refine w_nilc rfl ?_; refine zf fa139_1 rfl ?_; refine zl z3 rfl (fun _ h => zc 0 rfl rfl h) ?_; refine w_r (fun _ => R_addi rfl rfl (by omega)) rfl rfl ?_; refine w_nilc rfl ?_; refine zf fa139_1 rfl ?_; refine w_store 0 rfl z3 rfl rfl rfl rfl rfl rfl rfl ?_; refine yB ?_; refine zr ?_; refine mP rfl ?_; refine w_call1 0 rfl (fun w => zR Tryz.func150 rfl rfl rfl) rfl rfl (fun w h => run_spec p s _ _ con_digits ((runTo digitB s j) + 1) w (h.at_ 0 rfl) hs (by omega)) ?_; refine zn ?_; exact k_mid ⟨rfl, rfl, by rw [numDot, if_pos (by rw [h2, h3]; rfl)]; rfl⟩
    ·(try simp only [Nat.add_zero] at h3)
     refine zi ?_; exact k_mid ⟨rfl, rfl, by rw [numDot, if_neg (by rw [h2, h3]; simp)]; rfl⟩
   ·(try simp only [Nat.add_zero] at h2)
    refine zs rfl rfl (bV h2) ?_; refine zs rfl rfl (bV h2) ?_; refine w_r (v := .bool _) (fun _ => zF (bV h2) rfl) rfl rfl ?_; refine yB ?_; refine c_condF rfl ?_; refine zi ?_; exact k_mid ⟨rfl, rfl, by rw [numDot, if_neg (by rw [h2]; simp)]; rfl⟩
  rintro e B L ⟨e0_1, rfl, rfl⟩
  have g3 := numDot_le (runTo_le (p := digitB) hj)
  refine yA ?_; refine aI rfl ?_; refine yB ?_; refine c_cut (fun e B L => e 0 = .pointer (some ⟨p, 0, none⟩) ∧ e 4 = .int .i64 ((numTens s (numDot s (runTo digitB s j))).1 : Nat) ∧ B = [(w, (fun i => i = p))] ∧ L = [(p, cel [str s, .int .i64 ((numTens s (numDot s (runTo digitB s j))).2 : Nat)] 139)]) ?_ ?_
  ·(try simp only [Nat.add_zero] at mid2); (try have qmid2 := atP_lt mid2)
   refine zB ?_; refine yA ?_; refine mP e0_1 ?_; refine zC (fun w => zR Tryz.func149 rfl rfl rfl) rfl rfl (fun w h => is_spec p s _ _ (con_one 101) _ 0 w (h.at_ 0 rfl) hs (by omega) (by decide)) ?_; refine mB rfl ?_; refine zp (t := 26) rfl (fun h4 => ?_) (fun h4 => ?_)
   ·(try simp only [Nat.add_zero] at h4); (try have qh4 := atP_lt h4)
    refine zw rfl rfl (bV h4) ?_; refine mP e0_1 ?_; refine zw rfl rfl (bV h4) ?_; refine zC (fun w => zR Tryz.func149 rfl rfl rfl) rfl rfl (fun w h => is_spec p s _ _ con_digits _ 1 w (h.at_ 0 rfl) hs (by omega) (by decide)) ?_; refine w_r (v := .bool _) (fun _ => zT (bV h4) rfl) rfl rfl ?_; refine aB rfl ?_; refine yB ?_; refine c_cond rfl (fun h5 => ?_) (fun h5 => ?_)
    ·(try simp only [Nat.add_zero] at h5); (try have qh5 := atP_lt h5)
     refine yA ?_; refine mP e0_1 ?_; refine w_nilc rfl ?_; refine zf fa139_1 rfl ?_; refine zl z3 rfl (fun _ h => zc 0 rfl rfl h) ?_; refine w_r (fun _ => R_addi rfl rfl (by omega)) rfl rfl ?_; refine w_nilc rfl ?_; refine zf fa139_1 rfl ?_; refine w_store 0 rfl z3 rfl rfl rfl rfl rfl rfl rfl ?_; refine yB ?_; refine zr ?_; refine mP e0_1 ?_; refine w_call1 0 rfl (fun w => zR Tryz.func150 rfl rfl rfl) rfl rfl (fun w h => run_spec p s _ _ con_digits ((numDot s (runTo digitB s j)) + 1) w (h.at_ 0 rfl) hs (by omega)) ?_; refine aI rfl ?_; refine zn ?_; refine b_on (?_)
     have e4 : numTens s (numDot s (runTo digitB s j)) = (runTo digitB s ((numDot s (runTo digitB s j)) + 1) - ((numDot s (runTo digitB s j)) + 1), runTo digitB s ((numDot s (runTo digitB s j)) + 1)) := by rw [numTens, if_pos (by rw [h4, h5]; rfl)]
     exact k_mid ⟨e0_1, by rw [e4]; first | done | rfl, rfl, by rw [e4]; first | done | rfl⟩
    ·(try simp only [Nat.add_zero] at h5)
     refine yA ?_; refine mP e0_1 ?_; refine zC (fun w => zR Tryz.func149 rfl rfl rfl) rfl rfl (fun w h => is_spec p s _ _ (con_one 101) _ 0 w (h.at_ 0 rfl) hs (by omega) (by decide)) ?_; refine mB rfl ?_; refine zp (t := 42) rfl (fun h6 => ?_) (fun h6 => ?_)
     ·(try simp only [Nat.add_zero] at h6); (try have qh6 := atP_lt h6)
      refine zw rfl rfl (bV h6) ?_; refine mP e0_1 ?_; refine zw rfl rfl (bV h6) ?_; refine zC (fun w => zR Tryz.func149 rfl rfl rfl) rfl rfl (fun w h => is_spec p s _ _ con_pm _ 1 w (h.at_ 0 rfl) hs (by omega) (by decide)) ?_; refine w_r (v := .bool _) (fun _ => zT (bV h6) rfl) rfl rfl ?_; refine mB rfl ?_; refine zp (t := 46) rfl (fun h7 => ?_) (fun h7 => ?_)
      ·(try simp only [Nat.add_zero] at h7); (try have qh7 := atP_lt h7)
       refine zw rfl rfl (bV h7) ?_; refine mP e0_1 ?_; refine zw rfl rfl (bV h7) ?_; refine zC (fun w => zR Tryz.func149 rfl rfl rfl) rfl rfl (fun w h => is_spec p s _ _ con_digits _ 2 w (h.at_ 0 rfl) hs (by omega) (by decide)) ?_; refine w_r (v := .bool _) (fun _ => zT (bV h7) rfl) rfl rfl ?_; refine aB rfl ?_; refine yB ?_; refine c_cond rfl (fun h8 => ?_) (fun h8 => ?_)
       ·(try simp only [Nat.add_zero] at h8); (try have qh8 := atP_lt h8)
        refine yA ?_; refine mP e0_1 ?_; refine w_nilc rfl ?_; refine zf fa139_1 rfl ?_; refine zl z3 rfl (fun _ h => zc 0 rfl rfl h) ?_; refine w_r (fun _ => R_addi rfl rfl (by omega)) rfl rfl ?_; refine w_nilc rfl ?_; refine zf fa139_1 rfl ?_; refine w_store 0 rfl z3 rfl rfl rfl rfl rfl rfl rfl ?_; refine yB ?_; refine zr ?_; refine mP e0_1 ?_; refine w_call1 0 rfl (fun w => zR Tryz.func150 rfl rfl rfl) rfl rfl (fun w h => run_spec p s _ _ con_digits ((numDot s (runTo digitB s j)) + 2) w (h.at_ 0 rfl) hs (by omega)) ?_; refine aI rfl ?_; refine zn ?_; refine b_on (?_)
        have e4 : numTens s (numDot s (runTo digitB s j)) = (runTo digitB s ((numDot s (runTo digitB s j)) + 2) - ((numDot s (runTo digitB s j)) + 2), runTo digitB s ((numDot s (runTo digitB s j)) + 2)) := by rw [numTens, if_neg (by rw [h4, h5]; simp), if_pos (by rw [h6, h7, h8]; rfl)]
        exact k_mid ⟨e0_1, by rw [e4]; first | done | rfl, rfl, by rw [e4]; first | done | rfl⟩
       ·(try simp only [Nat.add_zero] at h8)
        refine zi ?_; refine b_on (?_)
        have e4 : numTens s (numDot s (runTo digitB s j)) = (0, (numDot s (runTo digitB s j))) := by rw [numTens, if_neg (by rw [h4, h5]; simp), if_neg (by rw [h6, h7, h8]; simp)]
        exact k_mid ⟨e0_1, by rw [e4]; first | done | rfl, rfl, by rw [e4]; first | done | rfl⟩
      ·(try simp only [Nat.add_zero] at h7)
       refine zs rfl rfl (bV h7) ?_; refine zs rfl rfl (bV h7) ?_; refine w_r (v := .bool _) (fun _ => zF (bV h7) rfl) rfl rfl ?_; refine aB rfl ?_; refine yB ?_; refine c_condF rfl ?_; refine zi ?_; refine b_on (?_)
       have e4 : numTens s (numDot s (runTo digitB s j)) = (0, (numDot s (runTo digitB s j))) := by rw [numTens, if_neg (by rw [h4, h5]; simp), if_neg (by rw [h6, h7]; simp)]
       exact k_mid ⟨e0_1, by rw [e4]; first | done | rfl, rfl, by rw [e4]; first | done | rfl⟩
     ·(try simp only [Nat.add_zero] at h6)
      refine zs rfl rfl (bV h6) ?_; refine zs rfl rfl (bV h6) ?_; refine w_r (v := .bool _) (fun _ => zF (bV h6) rfl) rfl rfl ?_; refine mB rfl ?_; (iterate 2 refine zs rfl rfl rfl ?_); refine w_r (v := .bool _) (fun _ => zF rfl rfl) rfl rfl ?_; refine aB rfl ?_; refine yB ?_; refine c_condF rfl ?_; refine zi ?_; refine b_on (?_)
      have e4 : numTens s (numDot s (runTo digitB s j)) = (0, (numDot s (runTo digitB s j))) := by rw [numTens, if_neg (by rw [h4, h5]; simp), if_neg (by rw [h6]; simp)]
      exact k_mid ⟨e0_1, by rw [e4]; first | done | rfl, rfl, by rw [e4]; first | done | rfl⟩
   ·(try simp only [Nat.add_zero] at h4)
    refine zs rfl rfl (bV h4) ?_; refine zs rfl rfl (bV h4) ?_; refine w_r (v := .bool _) (fun _ => zF (bV h4) rfl) rfl rfl ?_; refine aB rfl ?_; refine yB ?_; refine c_condF rfl ?_; refine yA ?_; refine mP e0_1 ?_; refine zC (fun w => zR Tryz.func149 rfl rfl rfl) rfl rfl (fun w h => is_spec p s _ _ (con_one 101) _ 0 w (h.at_ 0 rfl) hs (by omega) (by decide)) ?_; refine mB rfl ?_; refine zp (t := 42) rfl (fun h9 => ?_) (fun h9 => ?_)
    ·rw [Nat.add_zero] at h9; rw [h4] at h9; cases h9
    ·(try simp only [Nat.add_zero] at h9)
     refine zs rfl rfl (bV h9) ?_; refine zs rfl rfl (bV h9) ?_; refine w_r (v := .bool _) (fun _ => zF (bV h9) rfl) rfl rfl ?_; refine mB rfl ?_; (iterate 2 refine zs rfl rfl rfl ?_); refine w_r (v := .bool _) (fun _ => zF rfl rfl) rfl rfl ?_; refine aB rfl ?_; refine yB ?_; refine c_condF rfl ?_; refine zi ?_; refine b_on (?_)
     have e4 : numTens s (numDot s (runTo digitB s j)) = (0, (numDot s (runTo digitB s j))) := by rw [numTens, if_neg (by rw [h4]; simp), if_neg (by rw [h4]; simp)]
     exact k_mid ⟨e0_1, by rw [e4]; first | done | rfl, rfl, by rw [e4]; first | done | rfl⟩
  rintro e B L ⟨e0_2, e4_2, rfl, rfl⟩
  have g4 := numTens_le g3.1
  refine yA ?_; refine mI e4_2 ?_; refine w_r (fun _ => R_le rfl rfl) rfl rfl ?_; refine mB rfl ?_; refine zd (t := 61) rfl (fun h10 => ?_) (fun h10 => ?_)
  ·(try simp only [Nat.add_zero] at h10); (try have qh10 := atP_lt h10)
   refine zw rfl rfl (bT h10) ?_; refine mP e0_2 ?_; refine zw rfl rfl (bT h10) ?_; refine zC (fun w => zR Tryz.func149 rfl rfl rfl) rfl rfl (fun w h => is_spec p s _ _ con_tails _ 0 w (h.at_ 0 rfl) hs (by omega) (by decide)) ?_; refine zw rfl rfl (bT h10) ?_; refine w_r (fun _ => R_not rfl) rfl rfl ?_; refine w_r (v := .bool _) (fun _ => zT (bT h10) rfl) rfl rfl ?_; refine aI rfl ?_; refine aB rfl ?_; refine yB ?_; refine ze ?_
   have g5 : atP digitB s j = true := by cases hc : atP digitB s j; exact absurd (g0.mpr hc) (by omega); rfl
   have g6 : numFine s j = !atP tailB s (numEnd s j) := by rw [numFine, decide_eq_true (by omega)]; rfl
   rw [g5, if_pos rfl, if_pos rfl, if_pos rfl, g6]
   refine r_two (v := .int _ _) (v2 := .bool _) rfl rfl rfl rfl rfl ?_; exact fun w' hw => ⟨rfl, hw.fr _ (.head _), hw.at_ 0 rfl⟩
  ·(try simp only [Nat.add_zero] at h10)
   refine zs rfl rfl (bF h10) ?_; refine zs rfl rfl (bF h10) ?_; refine zs rfl rfl (bF h10) ?_; refine w_r (v := .bool _) (fun _ => zF (bF h10) rfl) rfl rfl ?_; refine aI rfl ?_; refine aB rfl ?_; refine yB ?_; refine ze ?_
   have g5 : atP digitB s j = true := by cases hc : atP digitB s j; exact absurd (g0.mpr hc) (by omega); rfl
   have g6 : numFine s j = false := by rw [numFine, decide_eq_false (by omega)]; rfl
   rw [g5, if_pos rfl, if_pos rfl, if_pos rfl, g6]
   refine r_two (v := .int _ _) (v2 := .bool _) rfl rfl rfl rfl rfl ?_; exact fun w' hw => ⟨rfl, hw.fr _ (.head _), hw.at_ 0 rfl⟩

set_option maxRecDepth 100000 in
set_option maxHeartbeats 400000 in
theorem sign_spec (p : Nat) (s : List UInt8) (j : Nat) (w : World) (hp : w.heap[p]? = some (cel [str s, .int .i64 (j : Nat)] 139)) (hs : s.length ≤ 10000000) (hj : j ≤ s.length) (ht : Tb w) (hg : 0 < p) :
  Ret Tryz.prog 127 #[.pointer (some ⟨p, 0, none⟩)] w (fun v w' => v = .tuple #[.int .u8 (if signLen s j = 0 then 0 else 3), .bool (!decide (signLen s j = 0))] ∧ Fr (fun i => i = p) w w' ∧ w'.heap[p]? = some (cel [str s, .int .i64 (j + signLen s j : Nat)] 139)) := by
 refine enter (S := (fun i => i = p)) (l := [_]) (L := [(p, cel [str s, .int .i64 (j : Nat)] 139)]) 33 Tryz.func127 rfl rfl rfl (St.start1 w hp rfl) ?_; refine yA ?_; refine aI rfl ?_; refine aB rfl ?_; refine yB ?_; refine zq ?_; refine yA ?_; refine w_callN (g := fun b => .slice (some ⟨b, 0, none⟩) 22 22) (fun w => zR Tryz.func41 rfl rfl rfl) rfl rfl (fun w h => Fields_signs _ rfl w (ht.fr (h.fr _ (.head _)) (by intro hh; omega))) (fun fb gfb ufb => ?_)
 refine w_r (fun _ => R_len sl56 rfl) rfl rfl ?_; refine mI rfl ?_; refine yB ?_; refine zB ?_; refine c_loop (fun m e B L => ∃ (k : Nat), e 0 = .pointer (some ⟨p, 0, none⟩) ∧ e 6 = .slice (some ⟨fb, 0, none⟩) 22 22 ∧ e 7 = .int .i64 22 ∧ e 8 = .int .i64 (k : Nat) ∧ B = [(w, (fun i => i = p))] ∧ L = [(fb, cel (signsL.map str) 9), (p, cel [str s, .int .i64 (j : Nat)] 139)] ∧ k ≤ 22 ∧ (signsL.take k).find? (fun t => t.isPrefixOf (s.drop j)) = none ∧ m = 22 - k) _ ⟨0, rfl, rfl, rfl, rfl, rfl, rfl, by omega, rfl, rfl⟩ ?_
 rintro m e B L ⟨k, e0_1, e6_1, e7_1, e8_1, rfl, rfl, p0_1, p1_1, rfl⟩
 have r1 := sig_len k
 refine yA ?_; refine w_r (fun _ => R_lt e8_1 e7_1) rfl rfl ?_; refine yB ?_; refine zq ?_; refine zD rfl (fun h1 => ?_) (fun h1 => ?_)
 ·refine zi ?_; refine zk ?_; refine zq ?_; refine zB ?_; refine yA ?_; refine w_r (fun _ => R_iaN (i := k) sl56 e6_1 e8_1 (by first | omega | decide)) rfl rfl ?_; refine zl z9 rfl (fun _ h => by first | exact zc 0 rfl rfl h | exact zc 1 rfl rfl h | exact zc 0 rfl (sig_at (by omega)) h) ?_; refine za (v := str _) rfl ?_; refine yB ?_; refine zq ?_; refine c_draw mixed (by kernel_rfl) ?_; refine mP e0_1 ?_; refine w_nilc rfl ?_; refine zf fa139_0 rfl ?_; refine zl z9 rfl (fun _ h => zc 1 rfl rfl h) ?_; refine mP e0_1 ?_; refine w_nilc rfl ?_; refine zf fa139_1 rfl ?_; refine zl z3 rfl (fun _ h => zc 1 rfl rfl h) ?_
  refine w_r (fun _ => R_ssl_loN st9 rfl rfl (by omega)) rfl rfl ?_; refine zm (v := str _) rfl ?_; refine zC (fun w => zR Tryz.func151 rfl rfl rfl) rfl rfl (fun w h => HasPrefix_spec _ _ w) ?_; refine yB ?_; refine c_cond rfl (fun h2 => ?_) (fun h2 => ?_)
  ·refine yA ?_; refine mP e0_1 ?_; refine w_nilc rfl ?_; refine zf fa139_1 rfl ?_; refine zl z3 rfl (fun _ h => zc 1 rfl rfl h) ?_; refine zm (v := str _) rfl ?_; refine w_r (fun _ => R_slen st9 rfl (by omega)) rfl rfl ?_; refine w_r (fun _ => R_addi rfl rfl (by omega)) rfl rfl ?_; refine w_nilc rfl ?_; refine zf fa139_1 rfl ?_; refine w_store 1 rfl z3 rfl rfl rfl rfl rfl rfl rfl ?_; refine yC ?_; refine aI rfl ?_; refine aB rfl ?_; refine yB ?_; refine ze ?_; refine zb (zt (zt (zb (zt (?_)))))
   have r2 := sig_found (by omega) p1_1 h2
   rw [r2]
   refine r_two (v := .int _ _) (v2 := .bool _) rfl rfl rfl rfl rfl ?_; exact fun w' hw => ⟨by rw [if_neg (by have := sig_pos k (by omega); omega), decide_eq_false (by have := sig_pos k (by omega); omega)]; rfl, hw.fr _ (.head _), hw.at_ 1 rfl⟩
  ·refine zi ?_; refine b_on (zk ?_); refine zr ?_; refine w_r (fun _ => R_addi e8_1 rfl (by omega)) rfl rfl ?_; refine mI rfl ?_; refine zn ?_; exact k_again _ (by omega) ⟨k + 1, e0_1, e6_1, e7_1, rfl, rfl, rfl, by omega, sig_step (by omega) p1_1 h2, rfl⟩
 ·refine c_exit ?_; refine zx (zx (b_here rfl (zk ?_))); refine yA ?_; refine aI rfl ?_; refine aB rfl ?_; refine yB ?_; refine ze ?_
  have r2 := sig_none (by omega) p1_1
  rw [r2]
  refine r_two (v := .int _ _) (v2 := .bool _) rfl rfl rfl rfl rfl ?_; exact fun w' hw => ⟨rfl, hw.fr _ (.head _), hw.at_ 1 rfl⟩
end Go.Proofs.YtaniogadknakoaaGreatDoor
end

section
namespace Go.Proofs.YtaniogadknakoaaGreatDoor
open Go.RowKit Go.Sx
open Go.Tok
variable {σ : Type}
def Rounds (J : Bool → σ → Heap → Prop) (nx : σ → Nat → List UInt8 → Nat → Bool → σ × Bool) (l : Nat) : Prop :=
 ∀ (x : σ) (k : Nat) (t : List UInt8) (a : Nat) (b : Bool) (Lc Lr : Heap) (B : Base) (w : World), t.length ≤ 10000000 → J true x Lc → St B (Lc ++ Lr) w →
  YieldAt (fw none) 0 Tryz.prog l #[.agg #[.int .u8 (k : Nat), str t, .int .i64 (a : Nat)], .bool b] w (fun en w' => ∃ v, en = .returned v ∧ ∃ Lc', v = .bool (nx x k t a b).2 ∧ J (nx x k t a b).2 (nx x k t a b).1 Lc' ∧ St B (Lc' ++ Lr) w')

set_option maxRecDepth 100000 in
set_option maxHeartbeats 400000 in
theorem all1_spec (J : Bool → σ → Heap → Prop) (nx : σ → Nat → List UInt8 → Nat → Bool → σ × Bool) (hn : ∀ x k t a, (nx x k t a false).2 = false) (l p vb : Nat) (s : List UInt8) (hs : s.length ≤ 10000000) (hy : Rounds J nx l) (wb : World) (Sb : Nat → Prop) (ht : Tb wb) (hgl : ¬ Sb 0) (hg : 0 < p) (x0 : σ) (Lc0 Lr : Heap) (Bs : Base) (hB : (wb, Sb) ∈ Bs) (hJ0 : J true x0 Lc0) (w : World) (hw : St Bs ((vb, cel [.pointer (some ⟨p, 0, none⟩)] 137) :: (p, cel [str s, .int .i64 (0 : Nat)] 139) :: (Lc0 ++ Lr)) w) :
  Ret Tryz.prog 124 #[.func (.yield l) #[] #[], .pointer (some ⟨vb, 0, none⟩)] w (fun v w' => v = .tuple #[] ∧ ∃ (j : Nat) (g : Bool) (Lc' : Heap), J g (lexS nx s (skipTo s 0) x0) Lc' ∧ St Bs ((vb, cel [.pointer (some ⟨p, 0, none⟩)] 137) :: (p, cel [str s, .int .i64 (j : Nat)] 139) :: (Lc' ++ Lr)) w') := by
 have g0 := skipTo_le (s := s) (Nat.zero_le _)
 refine enterB (l := [_, _]) 67 Tryz.func124 rfl rfl rfl (hw) ?_; refine yA ?_; refine w_r (fun _ => R_buildA ar162 zr162 rfl) rfl rfl ?_; refine w_alloc zr162 (fun b1 gb1 ub1 => ?_)
 refine w_store 0 rfl z162 rfl rfl rfl rfl rfl rfl rfl ?_; refine yC ?_; refine zl z137 rfl (fun _ h => zc 1 rfl rfl h) ?_; refine w_call1 2 rfl (fun w => zR Tryz.func128 rfl rfl rfl) rfl rfl (fun w h => skip_spec p s _ w (h.at_ 2 rfl) hs (Nat.zero_le _)) ?_; refine yB ?_; refine zB ?_
 refine c_loop (fun m e B L => ∃ (k : Nat) (x : σ) (Lc : Heap), e 0 = .func (.yield l) #[] #[] ∧ e 1 = .pointer (some ⟨vb, 0, none⟩) ∧ e 3 = .pointer (some ⟨b1, 0, none⟩) ∧ Bs = B ∧ L = (b1, cel [.func (.func 125) #[] #[], .func (.func 126) #[] #[], .func (.func 127) #[] #[]] 162) :: (vb, cel [.pointer (some ⟨p, 0, none⟩)] 137) :: (p, cel [str s, .int .i64 (k : Nat)] 139) :: (Lc ++ Lr) ∧ k ≤ s.length ∧ J true x Lc ∧ lexS nx s k x = lexS nx s (skipTo s 0) x0 ∧ m = s.length - k) _ ⟨skipTo s 0, x0, Lc0, rfl, rfl, rfl, rfl, rfl, g0.1, hJ0, rfl, rfl⟩ ?_
 rintro m e B L ⟨k, x, Lc, e0_1, e1_1, e3_1, rfl, rfl, hk, hJ, hl, rfl⟩
 have g2 := tok_le hk
 refine zq ?_; refine zq ?_; refine c_draw mixed (by kernel_rfl) ?_; refine zl z137 e1_1 (fun _ h => zc 1 rfl rfl h) ?_; refine w_nilc rfl ?_; refine zf fa139_1 rfl ?_; refine zl z3 rfl (fun _ h => zc 2 rfl rfl h) ?_; refine zl z137 e1_1 (fun _ h => zc 1 rfl rfl h) ?_; refine w_nilc rfl ?_; refine zf fa139_0 rfl ?_; refine zl z9 rfl (fun _ h => zc 2 rfl rfl h) ?_; refine w_r (fun _ => R_slen st9 rfl (by omega)) rfl rfl ?_; refine w_r (fun _ => R_lt rfl rfl) rfl rfl ?_; refine yB ?_; refine zD rfl (fun h2 => ?_) (fun h2 => ?_)
 ·have hlt : k < s.length := by omega
  refine zi ?_; refine zk ?_; refine zq ?_; refine zB ?_; refine yA ?_; refine zl z137 e1_1 (fun _ h => zc 1 rfl rfl h) ?_; refine w_nilc rfl ?_; refine zf fa139_1 rfl ?_; refine zl z3 rfl (fun _ h => zc 2 rfl rfl h) ?_; refine w_r (fun _ => R_build bt58 rfl) rfl rfl ?_; refine w_alloc zr58 (fun t4b gt4b ut4b => ?_)
  refine w_store 0 rfl z58 rfl rfl rfl rfl rfl rfl rfl ?_; refine yC ?_; refine aB rfl ?_; refine yB ?_; refine c_cut (fun e B L => e 0 = .func (.yield l) #[] #[] ∧ e 1 = .pointer (some ⟨vb, 0, none⟩) ∧ e 3 = .pointer (some ⟨b1, 0, none⟩) ∧ e 4 = .pointer (some ⟨t4b, 0, none⟩) ∧ e 5 = .bool (tokAt s k).2.2 ∧ Bs = B ∧ L = (t4b, cel [.int .u8 ((tokAt s k).1 : Nat), str ([]), .int .i64 (k : Nat)] 58) :: (b1, cel [.func (.func 125) #[] #[], .func (.func 126) #[] #[], .func (.func 127) #[] #[]] 162) :: (vb, cel [.pointer (some ⟨p, 0, none⟩)] 137) :: (p, cel [str s, .int .i64 ((tokAt s k).2.1 : Nat)] 139) :: (Lc ++ Lr)) ?_ ?_
  ·refine yA ?_; refine w_loadA z162 e3_1 (fun _ h => h.at_ 1 rfl) rfl ?_; refine mI rfl ?_; refine yB ?_; refine zB ?_; refine c_rounds 4 ?_; refine yA ?_; refine w_r (fun _ => R_lt rfl rfl) rfl rfl ?_; refine yB ?_; refine zq ?_; refine zE (congrArg Value.bool (decide_eq_true (by decide))) ?_; refine zi ?_; refine zk ?_; refine zq ?_; refine zB ?_; refine yA ?_; refine w_r (fun _ => R_aidx (i := 0) ar162 rfl rfl rfl rfl) rfl rfl ?_; refine za rfl ?_; refine yC ?_; refine zm rfl ?_; refine zl z137 e1_1 (fun _ h => zc 2 rfl rfl h) ?_
   cases hN : nameB s k
   ·refine w_call1 3 rfl (fun w => R_callv rfl Tryz.func125 rfl rfl) rfl rfl (fun w h => by have hh := name_spec p s _ w (h.at_ 3 rfl) hs (by omega); simp only [hN, Bool.false_eq_true, if_false, if_true, ↓reduceIte, decide_true, decide_false, Bool.not_true, Bool.not_false, Nat.add_zero] at hh; exact hh) ?_; refine zm rfl ?_; refine w_r (fun _ => R_extract rfl rfl) rfl rfl ?_; refine w_r (fun _ => R_extract rfl rfl) rfl rfl ?_; refine zf fa58_0 rfl ?_; refine w_store 0 rfl z5 rfl rfl rfl rfl rfl rfl rfl ?_; refine aB rfl ?_; refine yB ?_; refine zq ?_; refine c_draw mixed (by kernel_rfl) ?_; refine mB rfl ?_; refine mB rfl ?_; refine zw rfl rfl rfl ?_; refine zl z137 e1_1 (fun _ h => zc 2 rfl rfl h) ?_; refine zw rfl rfl rfl ?_; refine w_nilc rfl ?_
    refine zw rfl rfl rfl ?_; refine zf fa139_1 rfl ?_; refine zw rfl rfl rfl ?_; refine zl z3 rfl (fun _ h => zc 3 rfl rfl h) ?_; refine zw rfl rfl rfl ?_; refine zf fa58_2 rfl ?_; refine zw rfl rfl rfl ?_; refine zl z3 rfl (fun _ h => zc 0 rfl rfl h) ?_; refine zw rfl rfl rfl ?_; refine w_r (fun _ => R_gt rfl rfl) rfl rfl ?_; refine w_r (v := .bool _) (fun _ => zF rfl rfl) rfl rfl ?_; refine yB ?_; refine zD rfl (fun h4 => ?_) (fun h4 => ?_)
    ·omega
    ·refine zi ?_; refine b_on (zk ?_); refine zr ?_; refine w_r (fun _ => R_addi rfl rfl (by omega)) rfl rfl ?_; refine mI rfl ?_; refine zn ?_; refine k_rounds ?_; refine yA ?_; refine w_r (fun _ => R_lt rfl rfl) rfl rfl ?_; refine yB ?_; refine zq ?_; refine zE (congrArg Value.bool (decide_eq_true (by decide))) ?_; refine zi ?_; refine zk ?_; refine zq ?_; refine zB ?_; refine yA ?_; refine w_r (fun _ => R_aidx (i := 1) ar162 rfl rfl rfl rfl) rfl rfl ?_; refine za rfl ?_; refine yC ?_; refine zm rfl ?_; refine zl z137 e1_1 (fun _ h => zc 2 rfl rfl h) ?_
     cases hD : atP digitB s k
     ·refine w_call1 3 rfl (fun w => R_callv rfl Tryz.func126 rfl rfl) rfl rfl (fun w h => by have hh := number_spec p s _ w (h.at_ 3 rfl) hs (by omega); simp only [hD, Bool.false_eq_true, if_false, if_true, ↓reduceIte, decide_true, decide_false, Bool.not_true, Bool.not_false, Nat.add_zero] at hh; exact hh) ?_; refine zm rfl ?_; refine w_r (fun _ => R_extract rfl rfl) rfl rfl ?_; refine w_r (fun _ => R_extract rfl rfl) rfl rfl ?_; refine zf fa58_0 rfl ?_; refine w_store 0 rfl z5 rfl rfl rfl rfl rfl rfl rfl ?_; refine aB rfl ?_; refine yB ?_; refine zq ?_; refine c_draw mixed (by kernel_rfl) ?_; refine mB rfl ?_; refine mB rfl ?_; refine zw rfl rfl rfl ?_; refine zl z137 e1_1 (fun _ h => zc 2 rfl rfl h) ?_; refine zw rfl rfl rfl ?_; refine w_nilc rfl ?_
      refine zw rfl rfl rfl ?_; refine zf fa139_1 rfl ?_; refine zw rfl rfl rfl ?_; refine zl z3 rfl (fun _ h => zc 3 rfl rfl h) ?_; refine zw rfl rfl rfl ?_; refine zf fa58_2 rfl ?_; refine zw rfl rfl rfl ?_; refine zl z3 rfl (fun _ h => zc 0 rfl rfl h) ?_; refine zw rfl rfl rfl ?_; refine w_r (fun _ => R_gt rfl rfl) rfl rfl ?_; refine w_r (v := .bool _) (fun _ => zF rfl rfl) rfl rfl ?_; refine yB ?_; refine zD rfl (fun h5 => ?_) (fun h5 => ?_)
      ·omega
      ·refine zi ?_; refine b_on (zk ?_); refine zr ?_; refine w_r (fun _ => R_addi rfl rfl (by omega)) rfl rfl ?_; refine mI rfl ?_; refine zn ?_; refine k_rounds ?_; refine yA ?_; refine w_r (fun _ => R_lt rfl rfl) rfl rfl ?_; refine yB ?_; refine zq ?_; refine zE (congrArg Value.bool (decide_eq_true (by decide))) ?_; refine zi ?_; refine zk ?_; refine zq ?_; refine zB ?_; refine yA ?_; refine w_r (fun _ => R_aidx (i := 2) ar162 rfl rfl rfl rfl) rfl rfl ?_; refine za rfl ?_; refine yC ?_; refine zm rfl ?_; refine zl z137 e1_1 (fun _ h => zc 2 rfl rfl h) ?_
       rcases Classical.em (signLen s k = 0) with hS | hS
       ·refine w_call1 3 rfl (fun w => R_callv rfl Tryz.func127 rfl rfl) rfl rfl (fun w h => by have hh := sign_spec p s _ w (h.at_ 3 rfl) hs (by omega) (ht.fr (h.fr _ hB) hgl) hg; simp only [hS, Bool.false_eq_true, if_false, if_true, ↓reduceIte, decide_true, decide_false, Bool.not_true, Bool.not_false, Nat.add_zero] at hh; exact hh) ?_; refine zm rfl ?_; refine w_r (fun _ => R_extract rfl rfl) rfl rfl ?_; refine w_r (fun _ => R_extract rfl rfl) rfl rfl ?_; refine zf fa58_0 rfl ?_; refine w_store 0 rfl z5 rfl rfl rfl rfl rfl rfl rfl ?_; refine aB rfl ?_; refine yB ?_; refine zq ?_; refine c_draw mixed (by kernel_rfl) ?_; refine mB rfl ?_; refine mB rfl ?_; refine zw rfl rfl rfl ?_; refine zl z137 e1_1 (fun _ h => zc 2 rfl rfl h) ?_; refine zw rfl rfl rfl ?_; refine w_nilc rfl ?_
        refine zw rfl rfl rfl ?_; refine zf fa139_1 rfl ?_; refine zw rfl rfl rfl ?_; refine zl z3 rfl (fun _ h => zc 3 rfl rfl h) ?_; refine zw rfl rfl rfl ?_; refine zf fa58_2 rfl ?_; refine zw rfl rfl rfl ?_; refine zl z3 rfl (fun _ h => zc 0 rfl rfl h) ?_; refine zw rfl rfl rfl ?_; refine w_r (fun _ => R_gt rfl rfl) rfl rfl ?_; refine w_r (v := .bool _) (fun _ => zF rfl rfl) rfl rfl ?_; refine yB ?_; refine zD rfl (fun h6 => ?_) (fun h6 => ?_)
        ·omega
        ·refine zi ?_; refine b_on (zk ?_); refine zr ?_; refine w_r (fun _ => R_addi rfl rfl (by omega)) rfl rfl ?_; refine mI rfl ?_; refine zn ?_; refine k_rounds ?_; refine yA ?_; refine w_r (fun _ => R_lt rfl rfl) rfl rfl ?_; refine yB ?_; refine zq ?_; refine c_condF (congrArg Value.bool (decide_eq_false (by decide))) ?_; refine c_exit ?_; refine zx (zx (b_here rfl (?_)))
         have e0 : tokAt s k = (0, k, false) := by rw [tokAt, if_neg (by rw [hN]; simp), if_neg (by rw [hD]; simp), if_pos hS]
         exact k_mid ⟨e0_1, e1_1, e3_1, rfl, by rw [e0]; rfl, rfl, by rw [e0]; rfl⟩
       ·refine w_call1 3 rfl (fun w => R_callv rfl Tryz.func127 rfl rfl) rfl rfl (fun w h => by have hh := sign_spec p s _ w (h.at_ 3 rfl) hs (by omega) (ht.fr (h.fr _ hB) hgl) hg; simp only [hS, Bool.false_eq_true, if_false, if_true, ↓reduceIte, decide_true, decide_false, Bool.not_true, Bool.not_false, Nat.add_zero] at hh; exact hh) ?_; refine zm rfl ?_; refine w_r (fun _ => R_extract rfl rfl) rfl rfl ?_; refine w_r (fun _ => R_extract rfl rfl) rfl rfl ?_; refine zf fa58_0 rfl ?_; refine w_store 0 rfl z5 rfl rfl rfl rfl rfl rfl rfl ?_; refine aB rfl ?_; refine yB ?_; refine zq ?_; refine c_draw mixed (by kernel_rfl) ?_; refine mB rfl ?_
        refine mB rfl ?_; (iterate 7 refine zs rfl rfl rfl ?_); refine w_r (v := .bool _) (fun _ => zT rfl rfl) rfl rfl ?_; refine yB ?_; refine zE rfl ?_; refine c_exit ?_; refine b_past rfl (zx (zx (b_here rfl (?_))))
        have e0 : tokAt s k = (3, k + signLen s k, true) := by rw [tokAt, if_neg (by rw [hN]; simp), if_neg (by rw [hD]; simp), if_neg hS]
        exact k_mid ⟨e0_1, e1_1, e3_1, rfl, by rw [e0]; rfl, rfl, by rw [e0]; rfl⟩
     ·refine w_call1 3 rfl (fun w => R_callv rfl Tryz.func126 rfl rfl) rfl rfl (fun w h => by have hh := number_spec p s _ w (h.at_ 3 rfl) hs (by omega); simp only [hD, Bool.false_eq_true, if_false, if_true, ↓reduceIte, decide_true, decide_false, Bool.not_true, Bool.not_false, Nat.add_zero] at hh; exact hh) ?_; refine zm rfl ?_; refine w_r (fun _ => R_extract rfl rfl) rfl rfl ?_; refine w_r (fun _ => R_extract rfl rfl) rfl rfl ?_; refine zf fa58_0 rfl ?_; refine w_store 0 rfl z5 rfl rfl rfl rfl rfl rfl rfl ?_; refine aB rfl ?_; refine yB ?_; refine zq ?_; refine c_draw mixed (by kernel_rfl) ?_; refine mB rfl ?_; refine mB rfl ?_; refine zp (t := 40) rfl (fun h7 => ?_) (fun h7 => ?_)
      ·refine zs rfl rfl (bV h7) ?_; refine zs rfl rfl (bV h7) ?_; refine zs rfl rfl (bV h7) ?_; refine zs rfl rfl (bV h7) ?_; refine zs rfl rfl (bV h7) ?_; refine zs rfl rfl (bV h7) ?_; refine zs rfl rfl (bV h7) ?_; refine w_r (v := .bool _) (fun _ => zT (bV h7) rfl) rfl rfl ?_; refine yB ?_; refine zE rfl ?_; refine c_exit ?_; refine b_past rfl (zx (zx (b_here rfl (?_))))
       have e0 : tokAt s k = (2, numEnd s k, true) := by rw [tokAt, if_neg (by rw [hN]; simp), if_pos hD, h7]
       exact k_mid ⟨e0_1, e1_1, e3_1, rfl, by rw [e0]; exact congrArg Value.bool h7, rfl, by rw [e0]; rfl⟩
      ·refine zw rfl rfl (bV h7) ?_; refine zl z137 e1_1 (fun _ h => zc 2 rfl rfl h) ?_; refine zw rfl rfl (bV h7) ?_; refine w_nilc rfl ?_; refine zw rfl rfl (bV h7) ?_; refine zf fa139_1 rfl ?_; refine zw rfl rfl (bV h7) ?_; refine zl z3 rfl (fun _ h => zc 3 rfl rfl h) ?_; refine zw rfl rfl (bV h7) ?_; refine zf fa58_2 rfl ?_; refine zw rfl rfl (bV h7) ?_; refine zl z3 rfl (fun _ h => zc 0 rfl rfl h) ?_; refine zw rfl rfl (bV h7) ?_; refine w_r (fun _ => R_gt rfl rfl) rfl rfl ?_; refine w_r (v := .bool _) (fun _ => zF (bV h7) rfl) rfl rfl ?_; refine yB ?_; refine zD rfl (fun h8 => ?_) (fun h8 => ?_)
       ·refine c_exit ?_; refine b_past rfl (zx (zx (b_here rfl (?_))))
        have e0 : tokAt s k = (2, numEnd s k, false) := by rw [tokAt, if_neg (by rw [hN]; simp), if_pos hD, h7]
        exact k_mid ⟨e0_1, e1_1, e3_1, rfl, by rw [e0]; exact congrArg Value.bool h7, rfl, by rw [e0]; rfl⟩
       ·exfalso; have := digit_run hD; have := numEnd_le hk; omega
   ·refine w_call1 3 rfl (fun w => R_callv rfl Tryz.func125 rfl rfl) rfl rfl (fun w h => by have hh := name_spec p s _ w (h.at_ 3 rfl) hs (by omega); simp only [hN, Bool.false_eq_true, if_false, if_true, ↓reduceIte, decide_true, decide_false, Bool.not_true, Bool.not_false, Nat.add_zero] at hh; exact hh) ?_; refine zm rfl ?_; refine w_r (fun _ => R_extract rfl rfl) rfl rfl ?_; refine w_r (fun _ => R_extract rfl rfl) rfl rfl ?_; refine zf fa58_0 rfl ?_; refine w_store 0 rfl z5 rfl rfl rfl rfl rfl rfl rfl ?_; refine aB rfl ?_; refine yB ?_; refine zq ?_; refine c_draw mixed (by kernel_rfl) ?_; refine mB rfl ?_; refine mB rfl ?_; (iterate 4 refine zs rfl rfl rfl ?_); refine zs rfl rfl rfl ?_
    (iterate 2 refine zs rfl rfl rfl ?_); refine w_r (v := .bool _) (fun _ => zT rfl rfl) rfl rfl ?_; refine yB ?_; refine zE rfl ?_; refine c_exit ?_; refine b_past rfl (zx (zx (b_here rfl (?_))))
    have e0 : tokAt s k = (1, runTo wordB s k, true) := by rw [tokAt, if_pos hN]
    exact k_mid ⟨e0_1, e1_1, e3_1, rfl, by rw [e0]; rfl, rfl, by rw [e0]; rfl⟩
  rintro e B L ⟨e0_2, e1_2, e3_2, e4_2, e5_2, rfl, rfl⟩
  refine zq ?_; refine c_tail 12 mixed (by kernel_rfl) ?_; refine zl z137 e1_2 (fun _ h => zc 2 rfl rfl h) ?_; refine w_nilc rfl ?_; refine zf fa139_0 rfl ?_; refine zl z9 rfl (fun _ h => zc 3 rfl rfl h) ?_; refine zf fa58_2 e4_2 ?_; refine zl z3 rfl (fun _ h => zc 0 rfl rfl h) ?_; refine zl z137 e1_2 (fun _ h => zc 2 rfl rfl h) ?_; refine w_nilc rfl ?_; refine zf fa139_1 rfl ?_; refine zl z3 rfl (fun _ h => zc 3 rfl rfl h) ?_; refine w_r (fun _ => R_sslN st9 rfl rfl rfl (by omega) (by omega)) rfl rfl ?_; refine zf fa58_1 e4_2 ?_; refine w_tailst 0 rfl z9 rfl rfl rfl rfl rfl rfl rfl ?_; refine zk ?_; refine yA ?_; refine zm e0_2 ?_; refine w_loadA z58 e4_2 (fun _ h => h.at_ 0 rfl) rfl ?_; refine mB e5_2 ?_
  refine w_yield rfl (fun w h => hy x (tokAt s k).1 (tokTx s k) k (tokAt s k).2.2 Lc ([(t4b, cel [.int .u8 ((tokAt s k).1 : Nat), str (tokTx s k), .int .i64 (k : Nat)] 58), (b1, cel [.func (.func 125) #[] #[], .func (.func 126) #[] #[], .func (.func 127) #[] #[]] 162), (vb, cel [.pointer (some ⟨p, 0, none⟩)] 137), (p, cel [str s, .int .i64 ((tokAt s k).2.1 : Nat)] 139)] ++ Lr) Bs w (tokTx_len s k hs) hJ (h.perm (perm_mid [(t4b, cel [.int .u8 ((tokAt s k).1 : Nat), str (tokTx s k), .int .i64 (k : Nat)] 58), (b1, cel [.func (.func 125) #[] #[], .func (.func 126) #[] #[], .func (.func 127) #[] #[]] 162), (vb, cel [.pointer (some ⟨p, 0, none⟩)] 137), (p, cel [str s, .int .i64 ((tokAt s k).2.1 : Nat)] 139)] Lc Lr))) ?_
  rintro w h v w' ⟨Lc2, rfl, hJ2, hs2⟩
  refine ⟨Bs, [(t4b, cel [.int .u8 ((tokAt s k).1 : Nat), str (tokTx s k), .int .i64 (k : Nat)] 58), (b1, cel [.func (.func 125) #[] #[], .func (.func 126) #[] #[], .func (.func 127) #[] #[]] 162), (vb, cel [.pointer (some ⟨p, 0, none⟩)] 137), (p, cel [str s, .int .i64 ((tokAt s k).2.1 : Nat)] 139)] ++ (Lc2 ++ Lr), hs2.perm (perm_mid [(t4b, cel [.int .u8 ((tokAt s k).1 : Nat), str (tokTx s k), .int .i64 (k : Nat)] 58), (b1, cel [.func (.func 125) #[] #[], .func (.func 126) #[] #[], .func (.func 127) #[] #[]] 162), (vb, cel [.pointer (some ⟨p, 0, none⟩)] 137), (p, cel [str s, .int .i64 ((tokAt s k).2.1 : Nat)] 139)] Lc2 Lr).symm, ?_⟩
  refine w_r (fun _ => R_not rfl) rfl rfl ?_; refine yB ?_; refine c_condN rfl (fun h9 => ?_) (fun h9 => ?_)
  ·refine ze ?_; refine zb (zt (zt (zb (?_))))
   refine r_none (.inl rfl) rfl ?_; exact fun w' hw => ⟨rfl, _, _, Lc2, by rw [← hl, lexS_end nx hlt h9]; exact hJ2, hw.drop (.cons _ (.cons _ (List.Sublist.refl _)))⟩
  ·have hgo := h9; rw [hgo] at hJ2
   refine zi ?_; refine b_on (zk ?_); refine zr ?_; refine zl z137 e1_2 (fun _ h => zc 2 rfl rfl h) ?_; refine w_call1 3 rfl (fun w => zR Tryz.func128 rfl rfl rfl) rfl rfl (fun w h => skip_spec p s _ w (h.at_ 3 rfl) hs g2.2.1) ?_; refine zn ?_; refine k_st (B' := Bs) (L' := (b1, cel [.func (.func 125) #[] #[], .func (.func 126) #[] #[], .func (.func 127) #[] #[]] 162) :: (vb, cel [.pointer (some ⟨p, 0, none⟩)] 137) :: (p, cel [str s, .int .i64 (skipTo s (tokAt s k).2.1 : Nat)] 139) :: (Lc2 ++ Lr)) (fun w h => h.drop (List.sublist_cons_self _ _)) ?_
   have g4 := g2.2.2 (fine_of nx hn hgo)
   have g5 := skipTo_le g2.2.1
   exact k_again _ (by omega) ⟨skipTo s (tokAt s k).2.1, (nx x (tokAt s k).1 (tokTx s k) k (tokAt s k).2.2).1, Lc2, e0_2, e1_2, e3_2, rfl, rfl, g5.1, hJ2, by rw [← hl, lexS_go nx hn hlt hgo], rfl⟩
 ·refine c_exit ?_; refine zx (zx (b_here rfl (?_)))
  refine r_none (.inr rfl) rfl ?_; exact fun w' hw => ⟨rfl, k, true, Lc, by rw [← hl, lexS_stop nx (by omega)]; exact hJ, hw.drop (List.sublist_cons_self _ _)⟩
end Go.Proofs.YtaniogadknakoaaGreatDoor
end

section
namespace Go.Proofs.YtaniogadknakoaaGreatDoor
open Go.RowKit Go.Sx
open Go.Tok
def rdPs : Array Go.Tmp := #[18, 19]
def rdAs : Go.Code := (Go.Code.seq (Go.Code.region 7 #[(Go.Oper.mk (some 7) (Go.Op.alloc 58) 0 "token.go:123" #[] none), (Go.Oper.mk none (Go.Op.store 58 (Go.Operand.tmp 7) (Go.Operand.tmp 18)) 0 "token.go:123" #[(Go.Edge.mk 0 Go.Ground.data), (Go.Edge.mk 0 Go.Ground.phase)] none)] false) (Go.Code.region 8 #[(Go.Oper.mk (some 8) (Go.Op.assign (Go.Operand.tmp 19)) 4 "token.go:123" #[] none)] false))
def rdBo : Go.Code := (Go.Code.block 1 (Go.Code.seq (Go.Code.block 2 (Go.Code.seq (Go.Code.region 9 #[(Go.Oper.mk (some 21) (Go.Op.move (Go.Operand.tmp 8)) 4 "token.go:125" #[] none), (Go.Oper.mk (some 22) (Go.Op.unOp Go.UnOp.not 4 (Go.Operand.tmp 21)) 4 "token.go:125" #[(Go.Edge.mk 0 Go.Ground.data)] none), (Go.Oper.mk (some 20) (Go.Op.assign (Go.Operand.tmp 22)) 4 "token.go:125" #[(Go.Edge.mk 1 Go.Ground.data)] none)] false) (Go.Code.cond (Go.Operand.tmp 20) (Go.Code.seq (Go.Code.region 10 #[(Go.Oper.mk (some 23) (Go.Op.fieldAddr 58 (Go.Operand.tmp 7) 2) 0 "token.go:126" #[] none), (Go.Oper.mk (some 24) (Go.Op.load 3 (Go.Operand.tmp 23)) 3 "token.go:126" #[(Go.Edge.mk 0 Go.Ground.data)] none), (Go.Oper.mk (some 25) (Go.Op.build 32 #[(0, (Go.Operand.const (Go.Value.int Go.IntKind.i64 110))), (1, (Go.Operand.tmp 24))]) 32 "token.go:126" #[(Go.Edge.mk 1 Go.Ground.data)] none), (Go.Oper.mk none (Go.Op.store 32 (Go.Operand.tmp 6) (Go.Operand.tmp 25)) 0 "token.go:126" #[(Go.Edge.mk 2 Go.Ground.data), (Go.Edge.mk 0 Go.Ground.phase), (Go.Edge.mk 1 Go.Ground.phase), (Go.Edge.mk 2 Go.Ground.phase)] none)] false) (Go.Code.exit 0)) (Go.Code.seq (Go.Code.region 11 #[(Go.Oper.mk (some 27) (Go.Op.load 50 (Go.Operand.tmp 5)) 50 "token.go:128" #[] none), (Go.Oper.mk (some 28) (Go.Op.call (Go.Call.mk (Go.Callee.builtin Go.Builtin.len) #[(Go.Operand.tmp 27)] #[50])) 3 "token.go:128" #[(Go.Edge.mk 0 Go.Ground.data)] none), (Go.Oper.mk (some 29) (Go.Op.binOp Go.BinOp.eql 3 (Go.Operand.tmp 28) (Go.Operand.const (Go.Value.int Go.IntKind.i64 6000)) 3) 4 "token.go:128" #[(Go.Edge.mk 1 Go.Ground.data)] none), (Go.Oper.mk (some 26) (Go.Op.assign (Go.Operand.tmp 29)) 4 "token.go:128" #[(Go.Edge.mk 2 Go.Ground.data)] none)] false) (Go.Code.cond (Go.Operand.tmp 26) (Go.Code.seq (Go.Code.region 12 #[(Go.Oper.mk (some 30) (Go.Op.fieldAddr 58 (Go.Operand.tmp 7) 2) 0 "token.go:129" #[] none), (Go.Oper.mk (some 31) (Go.Op.load 3 (Go.Operand.tmp 30)) 3 "token.go:129" #[(Go.Edge.mk 0 Go.Ground.data)] none), (Go.Oper.mk (some 32) (Go.Op.build 32 #[(0, (Go.Operand.const (Go.Value.int Go.IntKind.i64 6))), (1, (Go.Operand.tmp 31))]) 32 "token.go:129" #[(Go.Edge.mk 1 Go.Ground.data)] none), (Go.Oper.mk none (Go.Op.store 32 (Go.Operand.tmp 6) (Go.Operand.tmp 32)) 0 "token.go:129" #[(Go.Edge.mk 2 Go.Ground.data), (Go.Edge.mk 0 Go.Ground.phase), (Go.Edge.mk 1 Go.Ground.phase), (Go.Edge.mk 2 Go.Ground.phase)] none)] false) (Go.Code.exit 0)) Go.Code.skip))))) (Go.Code.region 13 #[(Go.Oper.mk (some 33) (Go.Op.load 50 (Go.Operand.tmp 5)) 50 "token.go:132" #[] none), (Go.Oper.mk (some 34) (Go.Op.load 58 (Go.Operand.tmp 7)) 58 "token.go:132" #[] none), (Go.Oper.mk (some 35) (Go.Op.buildSlice 50 1 #[(0, (Go.Operand.tmp 34))]) 50 "token.go:132" #[(Go.Edge.mk 1 Go.Ground.data)] none), (Go.Oper.mk (some 36) (Go.Op.call (Go.Call.mk (Go.Callee.builtin Go.Builtin.append) #[(Go.Operand.tmp 33), (Go.Operand.tmp 35)] #[50, 50])) 50 "token.go:132" #[(Go.Edge.mk 0 Go.Ground.data), (Go.Edge.mk 2 Go.Ground.data)] none), (Go.Oper.mk none (Go.Op.store 50 (Go.Operand.tmp 5) (Go.Operand.tmp 36)) 0 "token.go:132" #[(Go.Edge.mk 3 Go.Ground.data), (Go.Edge.mk 3 Go.Ground.chain), (Go.Edge.mk 0 Go.Ground.phase), (Go.Edge.mk 1 Go.Ground.phase), (Go.Edge.mk 2 Go.Ground.phase), (Go.Edge.mk 3 Go.Ground.phase)] none)] false)))

def tkC (t : Tk) : List Value := [.int .u8 (t.1 : Nat), str t.2.1, .int .i64 (t.2.2 : Nat)]
def tksC (l : List Tk) : List Value := l.flatMap tkC
abbrev Toks (v : Value) (l : List Tk) (W : Heap) : Prop := Own 58 3 v (tksC l) l.length W
theorem Toks.more {v : Value} {l : List Tk} {t : Tk} {W : Heap} (h : Own 58 3 v (tksC l ++ tkC t) (l.length + 1) W) : Toks v (l ++ [t]) W := by
  have e1 : tksC (l ++ [t]) = tksC l ++ tkC t := by simp [tksC]
  have e2 : (l ++ [t]).length = l.length + 1 := by simp
  unfold Toks; rw [e1, e2]; exact h
def rdL (t5b t6b l : Nat) (v : Value) (fc fa : Nat) (ob : Obj) (W : Heap) : Heap := (t5b, cel [v] 50) :: (t6b, cel [.int .i64 (fc : Nat), .int .i64 (fa : Nat)] 32) :: (l, ob) :: W
def rdO (e : Env) (fn : FuncId) (r : Nat) : Bool → Obj
  | true => lpO .ready none fn ⟨43, [], none⟩ e rdPs rdAs rdBo r
  | false => lpO .done (some (.exit 0)) fn ⟨43, [], none⟩ e rdPs rdAs rdBo r
def RdJ (e : Env) (fn : FuncId) (r l t5b t6b : Nat) (g : Bool) (x : Rd) (Lc : Heap) : Prop :=
  ∃ a c W, Toks (.slice a x.1.length c) x.1 W ∧ x.1.length ≤ 6000 ∧ (g = true → x.2 = (0, 0)) ∧ (g = false → x.2.1 ≠ 0) ∧ Lc = rdL t5b t6b l (.slice a x.1.length c) x.2.1 x.2.2 (rdO e fn r g) W
def RdV (r : Rd) (v : Value) (W : Heap) : Prop := ∃ a c, v = .tuple #[.slice a r.1.length c, .agg #[.int .i64 (r.2.1 : Nat), .int .i64 (r.2.2 : Nat)]] ∧ Toks (.slice a r.1.length c) r.1 W

set_option maxRecDepth 100000 in
set_option maxHeartbeats 400000 in
theorem all_spec (p : Nat) (w : World) :
    Ret Tryz.prog 105 #[.pointer (some ⟨p, 0, none⟩)] w (fun v w' => ∃ W, (∃ vb, v = .func (.func 124) #[] #[.pointer (some ⟨vb, 0, none⟩)] ∧ W = [(vb, cel [.pointer (some ⟨p, 0, none⟩)] 137)]) ∧ New w w' W) := by
  refine enter (S := No) (l := [_]) (L := []) 4 Tryz.func105 rfl rfl rfl (St.start w No) ?_; refine yA ?_; refine w_box rfl (fun vb gvb uvb => ?_)
  refine za rfl ?_; refine yC ?_; refine w_r (fun _ => R_makeFunc) rfl rfl ?_; refine za rfl ?_; refine yB ?_; refine ze ?_; refine zo rfl rfl rfl ?_; exact fun w' hw => ⟨_, ⟨vb, rfl, rfl⟩, St.made (A := []) hw⟩

set_option maxRecDepth 100000 in
set_option maxHeartbeats 400000 in
theorem Read_round (e : Env) (fn r l t5b t6b : Nat) (he5 : e 5 = .pointer (some ⟨t5b, 0, none⟩)) (he6 : e 6 = .pointer (some ⟨t6b, 0, none⟩)) : Rounds (RdJ e fn r l t5b t6b) readN l := by
  intro x k t a b Lc Lr B w htx hJ hw
  obtain ⟨a0, c0, W, hO, hx6, hxt, -, rfl⟩ := hJ
  have hx0 := hxt rfl
  refine yield_round 2 (L := rdL t5b t6b l _ _ _ _ _ ++ Lr) hw rfl rfl ?_; refine yA ?_; refine w_alloc zr58 (fun t7b gt7b ut7b => ?_)
  refine w_store 0 rfl z58 rfl rfl rfl rfl rfl rfl rfl ?_; refine yB ?_; refine zr ?_; refine aB rfl ?_; refine zn ?_; refine k_begin (l' := 0) 3 rfl ?_; refine zB ?_; refine zq ?_; refine zB ?_; refine yA ?_; refine mB rfl ?_; refine w_r (fun _ => R_not rfl) rfl rfl ?_; refine aB rfl ?_; refine yB ?_; refine c_condN rfl (fun h2 => ?_) (fun h2 => ?_)
  · refine yA ?_; refine zf fa58_2 rfl ?_; refine zl z3 rfl (fun _ h => zc 0 rfl rfl h) ?_; refine w_r (fun _ => R_build bt32 rfl) rfl rfl ?_; refine w_store 2 rfl z32 he6 rfl rfl rfl rfl rfl rfl ?_; refine yB ?_; refine c_exit ?_; refine b_past rfl (zx (b_past rfl (?_)))
    refine k_roundX 3 rfl ?_
    subst h2
    exact fun w h => ⟨_, rfl, rdL t5b t6b l (.slice a0 x.1.length c0) 110 a (rdO e fn r false) W, rfl, ⟨a0, c0, W, hO, hx6, (fun h => by cases h), fun _ => by simp [readN], rfl⟩, h.drop (List.sublist_cons_self _ _)⟩
  · refine yA ?_; refine zl z50 he5 (fun _ h => zc 1 rfl rfl h) ?_; refine w_r (fun _ => R_len sl50 rfl) rfl rfl ?_; refine w_r (fun _ => R_eq rfl rfl) rfl rfl ?_; refine aB rfl ?_; refine yB ?_; refine zD rfl (fun h3 => ?_) (fun h3 => ?_)
    · refine yA ?_; refine zf fa58_2 rfl ?_; refine zl z3 rfl (fun _ h => zc 0 rfl rfl h) ?_; refine w_r (fun _ => R_build bt32 rfl) rfl rfl ?_; refine w_store 2 rfl z32 he6 rfl rfl rfl rfl rfl rfl ?_; refine yB ?_; refine c_exit ?_; refine b_past rfl (zx (b_past rfl (?_)))
      refine k_roundX 3 rfl ?_
      subst h2
      have hN : readN x k t a true = ((x.1, 6, a), false) := by rw [readN, if_neg (by decide), if_pos (by omega)]
      exact fun w h => ⟨_, rfl, rdL t5b t6b l (.slice a0 x.1.length c0) 6 a (rdO e fn r false) W, by rw [hN], by rw [hN]; exact ⟨a0, c0, W, hO, hx6, (fun h => by cases h), fun _ => by simp [readN], rfl⟩, h.drop (List.sublist_cons_self _ _)⟩
    · refine zi ?_; refine b_on (zk ?_); refine zr ?_; refine zl z50 he5 (fun _ h => zc 1 rfl rfl h) ?_; refine w_loadA z58 rfl (fun _ h => h.at_ 0 rfl) rfl ?_; refine zS slt50 (by decide) rfl rfl (fun bs gbs ubs => ?_)
      refine w_app [(bs, _), (t7b, _), (t5b, _), (t6b, _), (l, _)] (news := tkC (k, t, a)) slt50 (by decide) rfl hO rfl rfl (row_own 0 rfl (fun _ _ h => h)) rfl (by decide) (by omega) (by omega) (fun v2 W2 hO2 => ?_)
      obtain ⟨a2, c2, rfl⟩ := hO2.slice
      refine w_store 2 rfl z50 he5 rfl rfl rfl rfl rfl rfl ?_; refine zn ?_; refine b_on (?_)
      refine k_round 4 rfl ?_
      subst h2
      have hN : readN x k t a true = ((x.1 ++ [(k, t, a)], x.2), true) := by rw [readN, if_neg (by decide), if_neg (by omega)]
      exact fun w h => ⟨_, rfl, rdL t5b t6b l (.slice a2 (x.1.length + 1) c2) x.2.1 x.2.2 (rdO e fn r true) W2, by rw [hN], by rw [hN]; exact ⟨a2, c2, W2, by simpa using Toks.more hO2, by simp; omega, fun _ => hx0, (fun h => by cases h), by simp⟩, h.drop (.cons _ (.cons _ (List.Sublist.refl _)))⟩

set_option maxRecDepth 100000 in
set_option maxHeartbeats 400000 in
theorem Read_spec (s : List UInt8) (hs : s.length ≤ 10000000) (w : World) (ht : Tb w) (hgs : 0 < w.heap.size) :
    Ret Tryz.prog 56 #[str s] w (fun v w' => ∃ W, RdV (readP s) v W ∧ New w w' W) := by
  refine enterM (S := No) (l := [_]) (L := []) 43 Tryz.func56 rfl rfl rfl (St.start w No) ?_; refine yA ?_; refine za (v := .slice _ _ _) rfl ?_; refine w_alloc zr32 (fun t3b gt3b ut3b => ?_)
  refine yB ?_; refine c_scope ?_; refine zq ?_; refine yA ?_; refine zm (v := str _) rfl ?_; refine w_r (fun _ => R_slen st9 rfl (by omega)) rfl rfl ?_; refine w_r (fun _ => R_gt rfl rfl) rfl rfl ?_; refine yB ?_; refine zD rfl (fun h2 => ?_) (fun h2 => ?_)
  · refine yA ?_; refine w_r (fun _ => R_build bt32 rfl) rfl rfl ?_; refine za (v := .slice _ _ _) rfl ?_; refine w_store 0 rfl z32 rfl rfl rfl rfl rfl rfl rfl ?_; refine yB ?_; refine ze ?_; refine zt (g_ret (?_))
    refine r_finM (.inl rfl) rfl (.tmp rfl rfl (.agg rfl rfl z32 (fun _ h => h.at_ 0 rfl) rfl .nil)) ?_; exact fun w' hw => ⟨[], by rw [readP_long (by omega)]; exact ⟨none, 0, rfl, Own.nil _ _⟩, .none (hw.fr _ (.head _))⟩
  · refine zi ?_; refine zk ?_; refine yA ?_; refine zm (v := str _) rfl ?_; refine w_r (fun _ => R_build bt139 rfl) rfl rfl ?_; refine w_boxA rfl (fun p gp up => ?_)
    refine za (v := .pointer _) rfl ?_; refine yC ?_; refine w_alloc zr50 (fun t5b gt5b ut5b => ?_)
    refine yC ?_; refine w_alloc zr32 (fun t6b gt6b ut6b => ?_)
    refine yB ?_; refine zq ?_; refine c_label ?_; refine zk ?_; refine zq ?_; refine yA ?_; refine mP rfl ?_; refine w_callW (fun w => zR Tryz.func105 rfl rfl rfl) rfl rfl (fun w _ => all_spec p w) ?_
    rintro u W0 ⟨vb, rfl, rfl⟩
    refine yB ?_; refine zB ?_; refine c_gen fun e he => ?_
    have he3 : e 3 = .pointer (some ⟨t3b, 0, none⟩) := congrFun he 3
    have he5 : e 5 = .pointer (some ⟨t5b, 0, none⟩) := congrFun he 5
    have he6 : e 6 = .pointer (some ⟨t6b, 0, none⟩) := congrFun he 6
    have he17 : e 17 = .func (.func 124) #[] #[.pointer (some ⟨vb, 0, none⟩)] := congrFun he 17
    refine c_range (f := 124) (fi := []) (ca := [.pointer (some ⟨vb, 0, none⟩)]) he17 rfl rfl rfl (fun r l fn w' => ∃ (g : Bool) (j : Nat) (Lc' : Heap), RdJ e fn r l t5b t6b g (readS s) Lc' ∧ St [(w, No)] ((vb, cel [.pointer (some ⟨p, 0, none⟩)] 137) :: (p, cel [str s, .int .i64 (j : Nat)] 139) :: (Lc' ++ [(r, .deferred (some [])), (t3b, cel [.int .i64 0, .int .i64 0] 32)])) w') ?_ ?_
    · intro fn r l hr1 hr2 hl w1 hw1
      refine (all1_spec (RdJ e fn r l t5b t6b) readN readN_no l p vb s (by omega) (Read_round e fn r l t5b t6b he5 he6) w No ht (fun h => h) (Nat.le_trans hgs (up (w, No) (.head _))) ([], 0, 0) (rdL t5b t6b l (.slice none 0 0) 0 0 (rdO e fn r true) []) [(r, .deferred (some [])), (t3b, cel [.int .i64 0, .int .i64 0] 32)] [(w, No)] (.head _) ⟨none, 0, [], Own.nil _ _, Nat.zero_le _, fun _ => rfl, (fun h => by cases h), rfl⟩ w1 (hw1.pick [2, 5, 4, 3, 0, 1, 6] (by decide))).mono ?_
      rintro v w2 ⟨rfl, j, g, Lc', hJ, hs⟩
      exact ⟨g, j, Lc', hJ, hs⟩
    · rintro fn r l hr1 hr2 hl w1 ⟨g, j, Lc', ⟨a0, c0, W, hO, h6, hg1, hg0, rfl⟩, hs⟩
      have hs2 := St.pickT [(vb, cel [.pointer (some ⟨p, 0, none⟩)] 137), (p, cel [str s, .int .i64 (j : Nat)] 139), (t5b, cel [.slice a0 (readS s).1.length c0] 50), (t6b, cel [.int .i64 ((readS s).2.1 : Nat), .int .i64 ((readS s).2.2 : Nat)] 32), (l, rdO e fn r g), (r, .deferred (some [])), (t3b, cel [.int .i64 0, .int .i64 0] 32)] (hs.perm (.cons _ (.cons _ (.cons _ (.cons _ (.cons _ List.perm_append_comm)))))) [4, 2, 3, 5, 6] (by decide)
      cases g
      · have hz : (readS s).2.1 ≠ 0 := hg0 rfl
        refine ⟨_, _, .done, some (.exit 0), (fun h => by cases h), hs2, ?_⟩
        refine c_exit ?_; refine b_here rfl (zk ?_); refine zq ?_; refine yA ?_; refine zf fa32_0 he6 ?_; refine zl z30 rfl (fun _ h => zc 2 rfl rfl h) ?_; refine w_r (fun _ => R_ne rfl rfl) rfl rfl ?_; refine yB ?_; refine zD rfl (fun h6 => ?_) (fun h6 => ?_)
        · refine zq ?_; refine c_tail 2 mixed (by kernel_rfl) ?_; refine w_loadA z32 he6 (fun _ h => h.at_ 2 rfl) rfl ?_; refine za (v := .slice _ _ _) rfl ?_; refine w_tailst 4 rfl z32 he3 rfl rfl rfl rfl rfl rfl ?_; refine zk ?_; refine ze ?_; refine zt (g_ret (?_))
          refine r_finM1 3 rfl (.inl rfl) rfl (.tmp rfl rfl (.agg rfl he3 z32 (fun _ h => h.at_ 4 rfl) rfl .nil)) ?_; exact fun w' hw => ⟨[], by rw [readP_bad (by omega) hz]; exact ⟨none, 0, rfl, Own.nil _ _⟩, .none (hw.fr _ (.head _))⟩
        · exfalso; omega
      · have hz : (readS s).2.1 = 0 := by rw [hg1 rfl]
        refine ⟨_, _, .ready, none, (fun h => by cases h), hs2, ?_⟩
        refine b_on (zk ?_); refine zq ?_; refine yA ?_; refine zf fa32_0 he6 ?_; refine zl z30 rfl (fun _ h => zc 2 rfl rfl h) ?_; refine w_r (fun _ => R_ne rfl rfl) rfl rfl ?_; refine yB ?_; refine zD rfl (fun h7 => ?_) (fun h7 => ?_)
        · exfalso; omega
        · refine zi ?_; refine zk ?_; refine yA ?_; refine zl z50 he5 (fun _ h => zc 1 rfl rfl h) ?_; refine w_r (fun _ => R_build bt32 rfl) rfl rfl ?_; refine za (v := .slice _ _ _) rfl ?_; refine w_store 4 rfl z32 he3 rfl rfl rfl rfl rfl rfl ?_; refine yB ?_; refine ze ?_; refine g_ret (?_)
          refine r_finM1 3 rfl (.inl rfl) rfl (.tmp rfl rfl (.agg rfl he3 z32 (fun _ h => h.at_ 4 rfl) rfl .nil)) ?_; exact fun w' hw => ⟨W, by rw [readP_fine (by omega) hz]; exact ⟨a0, c0, rfl, hO⟩, St.made (A := []) (hw.drop (.cons _ (.cons _ (.cons _ (.cons _ (.cons _ (List.Sublist.refl _)))))))⟩
end Go.Proofs.YtaniogadknakoaaGreatDoor
end
