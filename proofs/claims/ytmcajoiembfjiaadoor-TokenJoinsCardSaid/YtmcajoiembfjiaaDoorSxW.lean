import Derived.Test.YtmcajoiembfjiaaDoorSxS
import Derived.Test.YtmcajoiembfjiaaDoorSxR
namespace Go.Sx
open Go.RowKit

/-- how a region is gone through: in the text's order; drawing its order, each operation quiet; drawing its order, these quiet and leaving the world alone, the rest (tl) behind them in order -/
inductive Md where
  | sq
  | qt
  | st (tl : List Oper)
def Md.callsB : Md → Bool
  | .st _ => false
  | _ => true
/-- the operations of a region -/
def WX (q : Md) (P : Program) (ops : Array Oper) (c : Cf) (Q : Exit → Act → World → Prop) (l : List Oper) (e : Env) (B : Base) (L : Heap) : Prop :=
  match q with
  | .sq => ∀ w, St B L w → WL c P ops Q l e w
  | .st tl => ∀ w, St B L w → wpStill P ops w (fun a' => wpList P ops Q tl a' w) l (act c e)
  | .qt => wpQuiet P ops (St B L) (fun a' => ∀ w', St B L w' → Q .normal a' w') l (act c e)

def WC (P : Program) (c : Cf) (x : Code) (Q : Exit → Act → World → Prop) (e : Env) (B : Base) (L : Heap) : Prop := ∀ w, St B L w → x.wpIn (fw c.ro) 0 P Q (act c e) w
def WK (c : Cf) (Q : Exit → Act → World → Prop) (x : Exit) (e : Env) (B : Base) (L : Heap) : Prop := ∀ w, St B L w → Q x (act c e) w

section
variable {P : Program} {ops : Array Oper} {Q : Exit → Act → World → Prop} {c : Cf} {e : Env} {B : Base} {L : Heap} {rest : List Oper} {o : Oper} {v : Value} {d : Nat} {q : Md} {l : List Oper} {id : Nat} {x y : Code}

theorem c_region (h : WX .sq P l.toArray c Q l e B L) : WC P c (.region id l.toArray false) Q e B L := fun w hw => wpIn_region_lit (h w hw)
theorem c_draw {n : Nat} {ds : List Deferred} (hm : P.follows .mixedOrders = true) (hB : Region.lexB .any l.toArray = true) (h : WX .qt P l.toArray ⟨n, ds, none⟩ Q l e B L) : WC P ⟨n, ds, none⟩ (.region id l.toArray true) Q e B L := fun w hw => by
  refine wpIn_wide.2 (wp_region_quiet (C := St B L) hm hB (hw.drawn _) ?_)
  simpa [WX] using h
theorem c_tail {n : Nat} {ds : List Deferred} (k : Nat) (hm : P.follows .mixedOrders = true) (hB : Region.lexTailB .any l.toArray k = true) (h : WX (.st (l.drop k)) P l.toArray ⟨n, ds, none⟩ Q (l.take k) e B L) : WC P ⟨n, ds, none⟩ (.region id l.toArray true) Q e B L := fun w hw =>
  wpIn_wide.2 (wp_region_still_tail k hm hB (h _ (hw.drawn _)))
theorem c_seq (h : WC P c x (Exit.then (fun a w => y.wpIn (fw c.ro) 0 P Q a w) Q) e B L) : WC P c (.seq x y) Q e B L := fun w hw => wpIn_seq (h w hw)
theorem c_block (h : WC P c x (Exit.inBlock id Q) e B L) : WC P c (.block id x) Q e B L := fun w hw => wpIn_block (h w hw)
theorem c_ret (h : WK c Q .ret e B L) : WC P c .ret Q e B L := fun w hw => wpIn_ret (h w hw)
theorem c_skip (h : WK c Q .normal e B L) : WC P c .skip Q e B L := fun w hw => wpIn_skip (h w hw)
theorem c_exit (h : WK c Q (.exit id) e B L) : WC P c (.exit id) Q e B L := fun w hw => wpIn_exit (h w hw)
theorem c_label (h : WK c Q .normal e B L) : WC P c (.label id) Q e B L := fun w hw => wpIn_label (h w hw)
theorem c_scope {n : Nat} {ds : List Deferred} (h : WC P ⟨n, ds, none⟩ x (Exit.noGoto Q) e B L) : WC P ⟨n, ds, none⟩ (.scope x) Q e B L := fun w hw => wpIn_wide.2 (wp_scope_straight (wpIn_wide.1 (h w hw)))
theorem c_cond {t : Operand} {b : Bool} (hx : ev c.n e t = .bool b) (ht : b = true → WC P c x Q e B L) (hf : b = false → WC P c y Q e B L) : WC P c (.cond t x y) Q e B L := fun w hw =>
  wpIn_cond_split (by rw [act_eval]; exact hx) (fun h => ht h w hw) (fun h => hf h w hw)
theorem c_condN {t : Operand} {b : Bool} (hx : ev c.n e t = .bool (!b)) (ht : b = false → WC P c x Q e B L) (hf : b = true → WC P c y Q e B L) : WC P c (.cond t x y) Q e B L :=
  c_cond hx (fun h => ht (by simpa using h)) (fun h => hf (by simpa using h))
theorem c_condND {t : Operand} {p : Prop} [Decidable p] (hx : ev c.n e t = .bool (!decide p)) (ht : ¬ p → WC P c x Q e B L) (hf : p → WC P c y Q e B L) : WC P c (.cond t x y) Q e B L :=
  c_cond hx (fun h => ht (by simpa using h)) (fun h => hf (by simpa using h))
theorem c_condT {t : Operand} (hx : ev c.n e t = .bool true) (ht : WC P c x Q e B L) : WC P c (.cond t x y) Q e B L := fun w hw => wpIn_cond_true (by rw [act_eval]; exact hx) (ht w hw)
theorem c_condF {t : Operand} (hx : ev c.n e t = .bool false) (hf : WC P c y Q e B L) : WC P c (.cond t x y) Q e B L := fun w hw => wpIn_cond_false (by rw [act_eval]; exact hx) (hf w hw)
theorem c_condD {t : Operand} {p : Prop} [Decidable p] (hx : ev c.n e t = .bool (decide p)) (ht : p → WC P c x Q e B L) (hf : ¬ p → WC P c y Q e B L) : WC P c (.cond t x y) Q e B L :=
  c_cond hx (fun h => ht (of_decide_eq_true h)) (fun h => hf (of_decide_eq_false h))
/-- on: what follows in a sequence -/
theorem k_on {Q' : Exit → Act → World → Prop} (h : WC P c x Q e B L) : WK c (Exit.then (fun a w => x.wpIn (fw c.ro) 0 P Q a w) Q') .normal e B L := h
theorem k_ret {K : Act → World → Prop} (h : WK c Q .ret e B L) : WK c (Exit.then K Q) .ret e B L := h
theorem k_exit {K : Act → World → Prop} {i : Nat} (h : WK c Q (.exit i) e B L) : WK c (Exit.then K Q) (.exit i) e B L := h
theorem b_on (h : WK c Q .normal e B L) : WK c (Exit.inBlock id Q) .normal e B L := h
theorem b_ret (h : WK c Q .ret e B L) : WK c (Exit.inBlock id Q) .ret e B L := h
theorem b_here {i : Nat} (hi : Nat.beq i id = true) (h : WK c Q .normal e B L) : WK c (Exit.inBlock id Q) (.exit i) e B L := fun w hw => by
  simp only [Exit.inBlock]; rw [if_pos (Nat.eq_of_beq_eq_true hi)]; exact h w hw
theorem b_past {i : Nat} (hi : Nat.beq i id = false) (h : WK c Q (.exit i) e B L) : WK c (Exit.inBlock id Q) (.exit i) e B L := fun w hw => by
  simp only [Exit.inBlock]; rw [if_neg (by intro he; rw [he] at hi; simp at hi)]; exact h w hw
theorem g_on (h : WK c Q .normal e B L) : WK c (Exit.noGoto Q) .normal e B L := h
theorem g_ret (h : WK c Q .ret e B L) : WK c (Exit.noGoto Q) .ret e B L := h
theorem g_exit {i : Nat} (h : WK c Q (.exit i) e B L) : WK c (Exit.noGoto Q) (.exit i) e B L := h

/-- a loop: I m: the relation, m rounds at most to come -/
def Again (c : Cf) (I : Nat → Env → Base → Heap → Prop) (m : Nat) : Act → World → Prop := fun a w => ∃ m', m' < m ∧ ∃ e B L, a = act c e ∧ St B L w ∧ I m' e B L
theorem loop_ghost {F : Fence} {a : Act} {w : World} {x : Code} (I : Nat → Act → World → Prop) (n₀ : Nat) (h₀ : I n₀ a w)
    (round : ∀ n a w, I n a w → x.wpIn F 0 P (Exit.then (fun a' w' => ∃ n', n' < n ∧ I n' a' w') Q) a w) : (Code.loop x).wpIn F 0 P Q a w := by
  refine wpIn_loop (fun a w => ∃ n, I n a w) (fun a w => leastOf (fun n => I n a w)) ⟨n₀, h₀⟩ ?_
  intro a w hI
  refine wpIn_mono (round _ a w (leastOf_spec hI).1) ?_
  intro e a' w' hq
  cases e with
  | normal =>
    obtain ⟨n', hlt, hI'⟩ := hq
    exact show (∃ n, I n a' w') ∧ leastOf (fun n => I n a' w') < leastOf (fun n => I n a w) from ⟨⟨n', hI'⟩, Nat.lt_of_le_of_lt ((leastOf_spec ⟨n', hI'⟩).2 n' hI') hlt⟩
  | exit id => exact hq
  | goto l => exact hq
  | ret => exact hq
  | panic ch => exact hq
  | outgrown => exact hq
theorem c_loop (I : Nat → Env → Base → Heap → Prop) (m : Nat) (h0 : I m e B L) (h : ∀ m e B L, I m e B L → WC P c x (Exit.then (Again c I m) Q) e B L) : WC P c (.loop x) Q e B L := fun w hw => by
  refine loop_ghost (fun m a w => ∃ e B L, a = act c e ∧ St B L w ∧ I m e B L) m ⟨e, B, L, rfl, hw, h0⟩ ?_
  rintro m a w ⟨e, B, L, rfl, hw, hI⟩
  exact h m e B L hI w hw
theorem k_again {I : Nat → Env → Base → Heap → Prop} {m : Nat} {Q' : Exit → Act → World → Prop} (m' : Nat) (hm : m' < m) (h : I m' e B L) : WK c (Exit.then (Again c I m) Q') .normal e B L :=
  fun _ hw => ⟨m', hm, e, B, L, rfl, hw, h⟩

def Mid (c : Cf) (J : Env → Base → Heap → Prop) : Act → World → Prop := fun a w => ∃ e B L, a = act c e ∧ St B L w ∧ J e B L
theorem c_cut (J : Env → Base → Heap → Prop) (h1 : WC P c x (Exit.then (Mid c J) Q) e B L) (h2 : ∀ e B L, J e B L → WC P c y Q e B L) : WC P c (.seq x y) Q e B L := fun w hw => by
  refine wpIn_seq (wpIn_mono (h1 w hw) ?_)
  intro x a w hq
  cases x with
  | normal =>
    obtain ⟨e, B, L, rfl, hs, hJ⟩ := hq
    exact h2 e B L hJ w hs
  | exit id => exact hq
  | goto l => exact hq
  | ret => exact hq
  | panic ch => exact hq
  | outgrown => exact hq
theorem k_mid {J : Env → Base → Heap → Prop} {Q' : Exit → Act → World → Prop} (h : J e B L) : WK c (Exit.then (Mid c J) Q') .normal e B L := fun _ hw => ⟨e, B, L, rfl, hw, h⟩

/-! operations -/
/-- a Bool in a slot is parted on -/
theorem w_split {b : Bool} {t : Nat} (_ : e t = .bool b) (ht : b = true → WX q P ops c Q l e B L) (hf : b = false → WX q P ops c Q l e B L) : WX q P ops c Q l e B L := by
  cases b
  · exact hf rfl
  · exact ht rfl
theorem w_splitD {p : Prop} [Decidable p] {t : Nat} (_ : e t = .bool (decide p)) (ht : p → WX q P ops c Q l e B L) (hf : ¬ p → WX q P ops c Q l e B L) : WX q P ops c Q l e B L := by
  by_cases h : p
  · exact ht h
  · exact hf h
theorem w_run (hr : ∀ w, St B L w → Run P o (ev c.n e) w v w) (hg : plainB o = true) (hd : o.dst = some d) (h : WX q P ops c Q rest (upd e d v) B L) : WX q P ops c Q (o :: rest) e B L := by
  rcases q with _ | _ | tl
  · exact fun w hw => s_run (hr w hw) hg hd (h w hw)
  · exact q_run (fun w hw => hr w hw) hg hd h
  · exact fun w hw => t_run (hr w hw) hg hd (h w hw)
/-- an operation that looks at no world -/
theorem w_r (hr : ∀ w, Run P o (ev c.n e) w v w) (hg : plainB o = true) (hd : o.dst = some d) (h : WX q P ops c Q rest (upd e d v) B L) : WX q P ops c Q (o :: rest) e B L := w_run (fun w _ => hr w) hg hd h
theorem w_dropr (hr : ∀ w, Run P o (ev c.n e) w v w) (hg : plainB o = true) (hd : o.dst = none) (h : WX .sq P ops c Q rest e B L) : WX .sq P ops c Q (o :: rest) e B L := fun w hw => s_drop (hr w) hg hd (h w hw)
theorem w_call {f : FuncId} {args : Array Value} (hr : ∀ w, RunE P o (ev c.n e) w f args) (hg : plainB o = true) (hd : o.dst = some d) (hc : ∀ w, St B L w → Ret P f args w fun u w' => u = v ∧ Ext w w')
    (h : WX q P ops c Q rest (upd e d v) B L) (hq : q.callsB = true := by rfl) : WX q P ops c Q (o :: rest) e B L := by
  rcases q with _ | _ | tl
  · exact fun w hw => s_call (hr w) hg hd (hc w hw) fun u w' ⟨hu, hx⟩ => by subst hu; exact h w' (hw.ext hx)
  · exact q_call (fun w _ => hr w) hg hd (fun w hw => (hc w hw).mono fun u w' ⟨h2, h3⟩ => ⟨h2, hw.ext h3⟩) h
  · cases hq
/-- any call, in a region that does not draw -/
theorem w_callR {f : FuncId} {args : Array Value} {R : World → Value → World → Prop} (hr : ∀ w, RunE P o (ev c.n e) w f args) (hg : plainB o = true) (hd : o.dst = some d) (hc : ∀ w, St B L w → Ret P f args w (R w))
    (h : ∀ w, St B L w → ∀ v w', R w v w' → ∃ B' L', St B' L' w' ∧ WX .sq P ops c Q rest (upd e d v) B' L') : WX .sq P ops c Q (o :: rest) e B L :=
  fun w hw => s_call (hr w) hg hd (hc w hw) fun v w' hv => by
    obtain ⟨B', L', h1, h2⟩ := h w hw v w' hv
    exact h2 w' h1
theorem w_callR0 {f : FuncId} {args : Array Value} {R : World → Value → World → Prop} (hr : ∀ w, RunE P o (ev c.n e) w f args) (hg : plainB o = true) (hd : o.dst = none) (hc : ∀ w, St B L w → Ret P f args w (R w))
    (h : ∀ w, St B L w → ∀ v w', R w v w' → ∃ B' L', St B' L' w' ∧ WX .sq P ops c Q rest e B' L') : WX .sq P ops c Q (o :: rest) e B L :=
  fun w hw => s_call_none (hr w) hg hd (hc w hw) fun v w' hv => by
    obtain ⟨B', L', h1, h2⟩ := h w hw v w' hv
    exact h2 w' h1
/-- a call that writes one block in hand -/
theorem w_callM {f : FuncId} {args : Array Value} {R : Value → Obj → Prop} (i : Nat) {b : Nat} {o1 : Obj} (hi : L[i]? = some (b, o1)) (hr : ∀ w, RunE P o (ev c.n e) w f args) (hg : plainB o = true) (hd : o.dst = some d)
    (hc : ∀ w, St B L w → Ret P f args w fun u w' => ∃ o', R u o' ∧ Fr (fun j => j = b) w w' ∧ w'.heap[b]? = some o')
    (h : ∀ u o', R u o' → WX .sq P ops c Q rest (upd e d u) B (L.set i (b, o'))) : WX .sq P ops c Q (o :: rest) e B L :=
  fun w hw => s_call (hr w) hg hd (hc w hw) fun v w' ⟨o', hR, hF, hb⟩ => h v o' hR w' (hw.mod i hi hF hb)
theorem w_call1 {f : FuncId} {args : Array Value} (i : Nat) {b : Nat} {o1 o' : Obj} (hi : L[i]? = some (b, o1)) (hr : ∀ w, RunE P o (ev c.n e) w f args) (hg : plainB o = true) (hd : o.dst = some d)
    (hc : ∀ w, St B L w → Ret P f args w fun u w' => u = v ∧ Fr (fun j => j = b) w w' ∧ w'.heap[b]? = some o')
    (h : WX .sq P ops c Q rest (upd e d v) B (L.set i (b, o'))) : WX .sq P ops c Q (o :: rest) e B L :=
  fun w hw => s_call (hr w) hg hd (hc w hw) fun u w' ⟨hu, hF, hb⟩ => by subst hu; exact h w' (hw.mod i hi hF hb)
/-- a call that hands back a new block, or something that hangs on its number -/
theorem w_callN {f : FuncId} {args : Array Value} {g : Nat → Value} {ob : Obj} (hr : ∀ w, RunE P o (ev c.n e) w f args) (hg : plainB o = true) (hd : o.dst = some d)
    (hc : ∀ w, St B L w → Ret P f args w fun u w' => u = g w.heap.size ∧ w' = w.alloc ob)
    (h : ∀ b, (∀ x ∈ L, x.1 < b) → (∀ x ∈ B, x.1.heap.size ≤ b) → WX .sq P ops c Q rest (upd e d (g b)) B ((b, ob) :: L)) : WX .sq P ops c Q (o :: rest) e B L :=
  fun w hw => s_call (hr w) hg hd (hc w hw) fun u w' ⟨hu, hF⟩ => by
    subst hu; subst hF; exact h w.heap.size (fun p hp => lt_of_blk (hw.own p hp)) (fun x hx => (hw.fr x hx).size) _ hw.new
theorem w_nil (h : WK c Q .normal e B L) (hq : q.callsB = true := by rfl) : WX q P ops c Q [] e B L := by
  rcases q with _ | _ | tl
  · exact fun w hw => s_nil (h w hw)
  · exact q_nil (P := P) (ops := ops) (C := St B L) (QQ := fun a' => ∀ w', St B L w' → Q .normal a' w') h
  · cases hq
theorem w_want {D : Option Tmp} {op : Op} {T : TypeId} {p : String} {a : Array Edge} {j t : Nat} {b : Bool} (hj : (ops[j]?).bind (·.dst) = some t) (ht : Nat.blt t c.n = true) (he : e t = .bool b) (h : WX q P ops c Q (⟨D, op, T, p, a, none⟩ :: rest) e B L) : WX q P ops c Q (⟨D, op, T, p, a, some (j, b)⟩ :: rest) e B L := by
  have hw := wanted_of (o := ⟨D, op, T, p, a, some (j, b)⟩) rfl hj ht he
  simp only [beq_self_eq_true] at hw
  rcases q with _ | _ | tl
  · exact fun w hs => s_want hw (h w hs)
  · exact q_want hw h
  · exact fun w hs => t_want hw (h w hs)
theorem w_skip {op : Op} {T : TypeId} {p : String} {a : Array Edge} {j t : Nat} {b : Bool} (hj : (ops[j]?).bind (·.dst) = some t) (ht : Nat.blt t c.n = true) (he : e t = .bool (!b)) (h : WX q P ops c Q rest (upd e d undef) B L) : WX q P ops c Q (⟨some d, op, T, p, a, some (j, b)⟩ :: rest) e B L := by
  have hw := wanted_of (o := ⟨some d, op, T, p, a, some (j, b)⟩) rfl hj ht he
  have hw : Region.wanted ⟨some d, op, T, p, a, some (j, b)⟩ (yielded ops (act c e).tmps) = false := by rw [hw]; cases b <;> rfl
  rcases q with _ | _ | tl
  · exact fun w hs => s_skip hw rfl (h w hs)
  · exact q_skip hw rfl h
  · exact fun w hs => t_skip hw rfl (h w hs)

theorem w_alloc {t : TypeId} {zv : Value} {T : TypeId} {p : String} {a : Array Edge} (hz : zeroB P t zv)
    (h : ∀ b, (∀ x ∈ L, x.1 < b) → (∀ x ∈ B, x.1.heap.size ≤ b) → WX .sq P ops c Q rest (upd e d (.pointer (some ⟨b, 0, none⟩))) B ((b, .cells zv.cells t (0, 0)) :: L)) : WX .sq P ops c Q (⟨some d, .alloc t, T, p, a, none⟩ :: rest) e B L :=
  fun w hw => s_run (R_alloc hz) rfl rfl (h w.heap.size (fun p hp => lt_of_blk (hw.own p hp)) (fun x hx => (hw.fr x hx).size) _ hw.new)
theorem w_box {t : TypeId} {x : Operand} {T : TypeId} {p : String} {a : Array Edge} (hx : ev c.n e x = v)
    (h : ∀ b, (∀ x ∈ L, x.1 < b) → (∀ x ∈ B, x.1.heap.size ≤ b) → WX .sq P ops c Q rest (upd e d (.pointer (some ⟨b, 0, none⟩))) B ((b, .cells v.cells t (0, 0)) :: L)) : WX .sq P ops c Q (⟨some d, .box t x, T, p, a, none⟩ :: rest) e B L :=
  fun w hw => s_run (R_box hx) rfl rfl (h w.heap.size (fun p hp => lt_of_blk (hw.own p hp)) (fun x hx => (hw.fr x hx).size) _ hw.new)
theorem w_load {t : TypeId} {x : Operand} {ty : TypeId} {p : String} {a : Array Edge} {ad : Addr} (hz : szB P t 1 false = true) (hx : ev c.n e x = .pointer (some ad)) (hc : ∀ w, St B L w → w.cell? ad = some v) (h : WX q P ops c Q rest (upd e d v) B L) : WX q P ops c Q (⟨some d, .load t x, ty, p, a, none⟩ :: rest) e B L :=
  w_run (fun w hw => R_ld1 hz hx (hc w hw)) rfl rfl h
theorem w_loadA {t : TypeId} {x : Operand} {ty : TypeId} {p : String} {a : Array Edge} {b off k : Nat} {cs : List Value} {T : TypeId} (hz : szB P t k true = true) (hx : ev c.n e x = .pointer (some ⟨b, off, none⟩)) (hc : ∀ w, St B L w → w.heap[b]? = some (cel cs T)) (hn : Nat.ble (off + k) cs.length = true) (h : WX q P ops c Q rest (upd e d (.agg ((cs.drop off).take k).toArray)) B L) : WX q P ops c Q (⟨some d, .load t x, ty, p, a, none⟩ :: rest) e B L :=
  w_run (fun w hw => R_ldb hz hx (hc w hw) hn) rfl rfl h
theorem w_store {t T ty : TypeId} {x y : Operand} {p : String} {a : Array Edge} {b off k : Nat} {cs vs cs' : List Value} {ag : Bool} (i : Nat) (hi : L[i]? = some (b, cel cs T)) (hz : szB P t k ag = true) (hx : ev c.n e x = .pointer (some ⟨b, off, none⟩)) (hy : ev c.n e y = v)
    (hv : v.cells = vs.toArray) (hl : vs.length = k) (h1 : vs.all Value.oneCell' = true) (ho : Nat.ble (off + k) cs.length = true) (hc : cs.take off ++ vs ++ cs.drop (off + k) = cs')
    (h : WX .sq P ops c Q rest e B (L.set i (b, cel cs' T))) : WX .sq P ops c Q (⟨none, .store t x y, ty, p, a, none⟩ :: rest) e B L :=
  fun w hw => by
    subst hc
    exact s_unit (R_st hz hx hy hv hl h1 (hw.at_ i hi) (Nat.le_of_ble_eq_true ho)) rfl rfl (h _ (hw.put i hi))
theorem w_sidx {t : TypeId} {x y : Operand} {T : TypeId} {p : String} {ed : Array Edge} {a : List UInt8} {k : IntKind} {i : Nat} (hu : strB P t = true) (hx : ev c.n e x = str a) (hy : ev c.n e y = .int k (i : Nat)) (h1 : i < a.length) (h : WX q P ops c Q rest (upd e d (.int .u8 (a[i].toNat : Nat))) B L) : WX q P ops c Q (⟨some d, .index t x y, T, p, ed, none⟩ :: rest) e B L := w_r (fun _ => R_sidx hu hx hy (Int.natCast_nonneg _) h1) rfl rfl h
theorem w_move {x : Operand} {T : TypeId} {p : String} {a : Array Edge} (hx : ev c.n e x = v) (h : WX q P ops c Q rest (upd e d v) B L) : WX q P ops c Q (⟨some d, .move x, T, p, a, none⟩ :: rest) e B L := w_r (fun _ => R_move hx) rfl rfl h
theorem w_asg {x : Operand} {T : TypeId} {p : String} {a : Array Edge} (hx : ev c.n e x = v) (h : WX q P ops c Q rest (upd e d v) B L) : WX q P ops c Q (⟨some d, .assign x, T, p, a, none⟩ :: rest) e B L := w_r (fun _ => R_assign hx) rfl rfl h
theorem w_nilc {x : Operand} {T : TypeId} {p : String} {a : Array Edge} {ad : Addr} (hx : ev c.n e x = .pointer (some ad)) (h : WX q P ops c Q rest (upd e d (.pointer (some ad))) B L) : WX q P ops c Q (⟨some d, .nilCheck x, T, p, a, none⟩ :: rest) e B L := w_r (fun _ => R_nil hx) rfl rfl h
theorem w_fa {s f off b k : Nat} {x : Operand} {T : TypeId} {p : String} {a : Array Edge} (hf : faB P s f off = true) (hx : ev c.n e x = .pointer (some ⟨b, k, none⟩)) (h : WX q P ops c Q rest (upd e d (.pointer (some ⟨b, k + off, none⟩))) B L) : WX q P ops c Q (⟨some d, .fieldAddr s x f, T, p, a, none⟩ :: rest) e B L := w_r (fun _ => R_fa hf hx) rfl rfl h
/-- the quiet ones are done: one store is left -/
theorem w_tailst {t T ty : TypeId} {x y : Operand} {p : String} {a : Array Edge} {b off k : Nat} {cs vs cs' : List Value} {ag : Bool} (i : Nat) (hi : L[i]? = some (b, cel cs T)) (hz : szB P t k ag = true) (hx : ev c.n e x = .pointer (some ⟨b, off, none⟩)) (hy : ev c.n e y = v)
    (hv : v.cells = vs.toArray) (hl : vs.length = k) (h1 : vs.all Value.oneCell' = true) (ho : Nat.ble (off + k) cs.length = true) (hc : cs.take off ++ vs ++ cs.drop (off + k) = cs')
    (h : WK c Q .normal e B (L.set i (b, cel cs' T))) : WX (.st [⟨none, .store t x y, ty, p, a, none⟩]) P ops c Q [] e B L :=
  fun w hw => by
    subst hc
    have hr := R_st (P := P) (ρ := ev c.n e) (D := none) (ty := ty) (pos := p) (aft := a) (g := none) hz hx hy hv hl h1 (hw.at_ i hi) (Nat.le_of_ble_eq_true ho)
    refine wpList_plain rfl fun K hK => ?_
    unfold Oper.wp
    rw [act_eval]
    unfold RunU at hr
    rw [hr, Oper.upon_skip, act_put_none]
    exact hK _ _ (h _ (hw.put i hi))
/-- yield is called -/
theorem w_yield {lo : Nat} {al : List Operand} {x : Operand} {tys : Array TypeId} {T : TypeId} {p : String} {a : Array Edge} {R : World → Value → World → Prop} (hx : ev c.n e x = .func (.yield lo) #[] #[])
    (hy : ∀ w, St B L w → YieldAt (fw none) 0 P lo (al.map (ev c.n e)).toArray w fun en w' => ∃ v, en = .returned v ∧ R w v w')
    (h : ∀ w, St B L w → ∀ v w', R w v w' → ∃ B' L', St B' L' w' ∧ WX .sq P ops c Q rest (upd e d v) B' L') :
    WX .sq P ops c Q (⟨some d, .call ⟨.value x, al.toArray, tys⟩, T, p, a, none⟩ :: rest) e B L := fun w hw => by
  obtain ⟨fn, tmps, as, bo, h1, h2⟩ := hy w hw
  have hr : (execOp (ev c.n e) ⟨some d, .call ⟨.value x, al.toArray, tys⟩, T, p, a, none⟩).run P w = .ok (.round lo fn tmps as bo) w := by
    simp only [execOp, resolve, hx, Deferred.ofValue, Sem.run_bind, Sem.run_pure, Result.andThen_ok, invoke, List.map_toArray]
    simpa using h1
  refine s_op hr rfl fun K hK => ?_
  rw [Oper.uponIn_round]
  refine ⟨fun hh => absurd hh (by simp [fw, Fence.wide]), ?_⟩
  have h2' : RoundIn (fw c.ro) (0 - 1) P lo fn tmps as bo w fun en w' => ∃ v, en = .returned v ∧ R w v w' := h2
  refine h2'.mono ?_
  rintro en w' ⟨v, rfl, hv⟩
  obtain ⟨B', L', h3, h4⟩ := h w hw v w' hv
  simp only [act_put]
  exact hK _ _ (h4 w' h3)
end
attribute [irreducible] WX
/-! what is known of a cell -/
theorem cel_own {B : Base} {L : Heap} (i : Nat) {b off : Nat} {cs : List Value} {T : TypeId} {v : Value} (hi : L[i]? = some (b, cel cs T)) (hv : cs[off]? = some v) {w : World} (hw : St B L w) : w.cell? ⟨b, off, none⟩ = some v := by
  have := hw.at_ i hi
  simp [World.cell?, this, hv]
theorem cel_oldb {B : Base} {L : Heap} {x : World × (Nat → Prop)} {b off : Nat} {cs : List Value} {T : TypeId} {v : Value} (hb : x.1.heap[b]? = some (cel cs T)) (hx : x ∈ B) (hs : ¬ x.2 b) (hv : cs[off]? = some v) {w : World} (hw : St B L w) : w.cell? ⟨b, off, none⟩ = some v := by
  have := (hw.fr x hx).get hb hs
  simp [World.cell?, this, hv]
theorem St.old {B : Base} {L : Heap} {x : World × (Nat → Prop)} {b : Nat} {o : Obj} {w : World} (hw : St B L w) (hb : x.1.heap[b]? = some o) (hx : x ∈ B) (hs : ¬ x.2 b) : w.heap[b]? = some o := (hw.fr x hx).get hb hs
theorem cel_old {B : Base} {L : Heap} {x : World × (Nat → Prop)} (hx : x ∈ B) {a : Addr} {v : Value} (ha : x.1.cell? a = some v) (hs : ¬ x.2 a.block) {w : World} (hw : St B L w) : w.cell? a = some v := (hw.fr x hx).cell ha hs

/-- what is asked at the end of a body -/
def Post (P : Program) (fn : Func) (R : Value → World → Prop) : Exit → Act → World → Prop := bodyPost P fn fun e w' => ∃ v, e = .returned v ∧ R v w'
def PostM (P : Program) (fn : Func) (R : Value → World → Prop) : Exit → Act → World → Prop := bodyPostM (fw none) 0 P fn fun e w' => ∃ v, e = .returned v ∧ R v w'
/-- the function's entry -/
theorem enter {P : Program} {f : FuncId} {fn : Func} {x : Code} {l : List Value} {w : World} {R : Value → World → Prop} {S : Nat → Prop} {L : Heap} (n : Nat)
    (hf : P.funcs[f]? = some fn) (hb : fn.body = some x) (hn : fn.ntmps = n) (hl : Nat.ble l.length n = true) (hL : St [(w, S)] L w)
    (h : WC P (cf n) x (Post P fn R) (ofL l) [(w, S)] L) : Ret P f l.toArray w R :=
  calls n hf hb hn hl (h w hL)
theorem enterB {P : Program} {f : FuncId} {fn : Func} {x : Code} {l : List Value} {w : World} {R : Value → World → Prop} {B : Base} {L : Heap} (n : Nat)
    (hf : P.funcs[f]? = some fn) (hb : fn.body = some x) (hn : fn.ntmps = n) (hl : Nat.ble l.length n = true) (hL : St B L w)
    (h : WC P (cf n) x (Post P fn R) (ofL l) B L) : Ret P f l.toArray w R :=
  calls n hf hb hn hl (h w hL)
theorem enterM {P : Program} {f : FuncId} {fn : Func} {x : Code} {l : List Value} {w : World} {R : Value → World → Prop} {S : Nat → Prop} {L : Heap} (n : Nat)
    (hf : P.funcs[f]? = some fn) (hb : fn.body = some x) (hn : fn.ntmps = n) (hl : Nat.ble l.length n = true) (hL : St [(w, S)] L w)
    (h : WC P (cf n) x (PostM P fn R) (ofL l) [(w, S)] L) : Ret P f l.toArray w R :=
  calls_m n hf hb hn hl (h w hL)
theorem St.start1 (w : World) {S : Nat → Prop} {b : Nat} {o : Obj} (hb : w.heap[b]? = some o) (hs : S b) : St [(w, S)] [(b, o)] w :=
  ⟨by simp; exact Fr.refl _ _, by simpa using hb, by simp, by simp [hs]⟩
theorem St.start (w : World) (S : Nat → Prop) : St [(w, S)] [] w := ⟨by simp; exact Fr.refl _ _, by simp, by simp, by simp⟩

theorem tmp_get {n t : Nat} {ds : List Deferred} {ro : Option Nat} {e : Env} {v : Value} (ht : Nat.blt t n = true) (he : e t = v) : (act ⟨n, ds, ro⟩ e).tmps.getD t undef = v := by
  have := congrFun (act_eval ⟨n, ds, ro⟩ e) (.tmp t)
  simp only [Act.eval, ev, ht, cond_true] at this
  rw [this, he]
theorem r_one {P : Program} {fn : Func} {R : Value → World → Prop} {n t : Nat} {e : Env} {B : Base} {L : Heap} {v : Value} (hr : fn.results = #[.tmp t]) (ht : Nat.blt t n = true) (he : e t = v)
    (h : ∀ w, St B L w → R v w) : WK (cf n) (Post P fn R) .ret e B L := fun w hw => by
  refine ⟨rfl, v, ?_, v, rfl, h w hw⟩
  rw [results_tmp hr, tmp_get ht he]
theorem r_two {P : Program} {fn : Func} {R : Value → World → Prop} {n t u : Nat} {e : Env} {B : Base} {L : Heap} {v v2 : Value} (hr : fn.results = #[.tmp t, .tmp u]) (ht : Nat.blt t n = true) (hu : Nat.blt u n = true) (he : e t = v) (he2 : e u = v2)
    (h : ∀ w, St B L w → R (.tuple #[v, v2]) w) : WK (cf n) (Post P fn R) .ret e B L := fun w hw => by
  refine ⟨rfl, _, results_tmp2 hr _ _ _, _, rfl, ?_⟩
  rw [tmp_get ht he, tmp_get hu he2]; exact h w hw
theorem r_none {P : Program} {fn : Func} {R : Value → World → Prop} {n : Nat} {e : Env} {B : Base} {L : Heap} {x : Exit} (hx : x = .ret ∨ x = .normal) (hr : fn.results = #[])
    (h : ∀ w, St B L w → R (.tuple #[]) w) : WK (cf n) (Post P fn R) x e B L := fun w hw => by
  rcases hx with rfl | rfl <;> exact ⟨rfl, _, results_none hr _ _ _, _, rfl, h w hw⟩
attribute [irreducible] WK WC Post PostM
end Go.Sx
