import Derived.Test.YtmcajoiembfjiaaDoorSxW
import Derived.RangeFuncRecord
import Derived.RangeFuncIn
import Derived.LoopNIn
namespace Go.Sx
open Go.RowKit

theorem St.perm {B : Base} {L L' : Heap} {w : World} (h : St B L w) (hp : L.Perm L') : St B L' w :=
  ⟨h.fr, fun p m => h.own p (hp.mem_iff.2 m), (hp.map _).nodup h.nd, fun p m => h.ok p (hp.mem_iff.2 m)⟩
theorem St.putO {B : Base} {L : Heap} {w : World} (h : St B L w) (i : Nat) {l : Nat} {o o' : Obj} (hi : L[i]? = some (l, o)) : St B (L.set i (l, o')) (w.putObj l o') := by
  have hb := h.at_ i hi
  refine h.mod i hi ⟨rfl, rfl, rfl, by simp, fun k _ hk => World.putObj_heap_other hk⟩ (World.putObj_heap_same (lt_of_blk hb))

/-- the same, seen otherwise: blocks let go, or in another order -/
theorem k_st {c : Cf} {Q : Exit → Act → World → Prop} {x : Exit} {e : Env} {B B' : Base} {L L' : Heap} (hs : ∀ w, St B L w → St B' L' w) (h : WK c Q x e B' L') : WK c Q x e B L := by
  unfold WK at *; exact fun w hw => h w (hs w hw)
theorem c_st {P : Program} {c : Cf} {Q : Exit → Act → World → Prop} {x : Code} {e : Env} {B B' : Base} {L L' : Heap} (hs : ∀ w, St B L w → St B' L' w) (h : WC P c x Q e B' L') : WC P c x Q e B L := by
  unfold WC at *; exact fun w hw => h w (hs w hw)
theorem w_st {P : Program} {ops : Array Oper} {c : Cf} {Q : Exit → Act → World → Prop} {l : List Oper} {e : Env} {B B' : Base} {L L' : Heap} (hs : ∀ w, St B L w → St B' L' w) (h : WX .sq P ops c Q l e B' L') : WX .sq P ops c Q l e B L := by
  unfold WX at *; exact fun w hw => h w (hs w hw)
theorem perm_mid (O A C : Heap) : (O ++ (A ++ C)).Perm (A ++ (O ++ C)) := List.perm_append_comm_assoc O A C

/-- a loop of at most m + 1 rounds, each walked -/
theorem c_rounds {P : Program} {c : Cf} {Q : Exit → Act → World → Prop} {x : Code} {e : Env} {B : Base} {L : Heap} (m : Nat) (h : WC P c x (Exit.then (fun a w => x.roundsIn (fw c.ro) 0 P Q m a w) Q) e B L) : WC P c (.loop x) Q e B L := by
  unfold WC at *
  exact fun w hw => wpIn_loop_rounds (m + 1) (by rw [roundsIn_succ]; exact h w hw)
theorem k_rounds {P : Program} {c : Cf} {Q Q' : Exit → Act → World → Prop} {x : Code} {e : Env} {B : Base} {L : Heap} {m : Nat} (h : WC P c x (Exit.then (fun a w => x.roundsIn (fw c.ro) 0 P Q m a w) Q) e B L) : WK c (Exit.then (fun a w => x.roundsIn (fw c.ro) 0 P Q (m + 1) a w) Q') .normal e B L := by
  unfold WC at h; unfold WK
  exact fun w hw => (roundsIn_succ ▸ h w hw : x.roundsIn (fw c.ro) 0 P Q (m + 1) (act c e) w)

def updL (e : Env) (l : List (Nat × Value)) : Env := l.foldl (fun e p => upd e p.1 p.2) e
theorem fold_act (n : Nat) (l : List (Nat × Value)) : ∀ e : Env, l.foldl (fun (tmps : Array Value) (x : Nat × Value) => tmps.setIfInBounds x.1 x.2) (Array.ofFn (fun i : Fin n => e i.val)) = Array.ofFn (fun i : Fin n => updL e l i.val) := by
  induction l with
  | nil => intro e; rfl
  | cons p l ih => intro e; simp only [List.foldl_cons, set_ofFn, ih]; rfl

/-- the record of a range over a function -/
def lpO (st : LoopState) (pe : Option Code) (fn : FuncId) (c : Cf) (e : Env) (ps : Array Tmp) (as bo : Code) (r : Nat) : Obj := .loop ⟨st, pe, fn, (act c e).tmps, ps, as, bo, r⟩

section
variable {P : Program} {Q : Exit → Act → World → Prop} {c : Cf} {e : Env} {B : Base} {L : Heap} {ps : Array Tmp} {as bo : Code} {fn : FuncId} {l r : Nat}

/-- what a round must come to: behind the assignments the record is busy, then the body -/
def RoundK (P : Program) (l : Nat) (bo : Code) (R : Ending → World → Prop) : Act → World → Prop :=
  fun a₁ w₁ => ∃ w₂, (Instr.beginRound l).run P w₁ = .ok () w₂ ∧ bo.wpIn (fw (some l)) 0 P (roundPost P l R) a₁ w₂
/-- what yield does, out of a walk of the round -/
theorem yield_round {w : World} {args : List Value} {R : Ending → World → Prop} (i : Nat) (hw : St B L w) (hi : L[i]? = some (l, lpO .ready none fn c e ps as bo r)) (hs : Nat.beq args.length ps.size = true)
    (h : WC P ⟨c.n, [], some l⟩ as (Exit.then (RoundK P l bo R) (fun _ _ _ => False)) (updL e (ps.toList.zip args)) B L) : YieldAt (fw none) 0 P l args.toArray w R := by
  have hl := hw.at_ i hi
  refine ⟨_, _, _, _, run_yield hl (by simpa using Nat.eq_of_beq_eq_true hs), roundIn_of_wpIn trivial ?_⟩
  have e1 : (Array.foldl (fun (tmps : Array Value) (x : Nat × Value) => match x with | (t, a) => tmps.setIfInBounds t a) (act c e).tmps (ps.zip args.toArray)) = (act ⟨c.n, [], some l⟩ (updL e (ps.toList.zip args))).tmps := by
    rw [← Array.foldl_toList]
    have := fold_act c.n (ps.toList.zip args) e
    simpa [act, Array.toList_zip] using this
  have h' := h
  unfold WC at h'
  have := h' w hw
  simp only [e1]
  exact this
theorem k_begin {R : Ending → World → Prop} {l' : Nat} {ds : List Deferred} {n : Nat} {c' : Cf} {e' : Env} (i : Nat) (hi : L[i]? = some (l, lpO .ready none fn c' e' ps as bo r))
    (h : WC P ⟨n, ds, some l⟩ bo (roundPost P l R) e B (L.set i (l, lpO .busy none fn c' e' ps as bo r))) : WK ⟨n, ds, some l⟩ (Exit.then (RoundK P l bo R) (fun _ _ _ => False)) .normal e B L := by
  unfold WK; unfold WC at h
  exact fun w hw => ⟨_, run_beginRound (hw.at_ i hi) rfl, h _ (hw.putO i hi)⟩
theorem k_round {R : Ending → World → Prop} {c' : Cf} {e' : Env} {st : LoopState} (i : Nat) (hi : L[i]? = some (l, lpO st none fn c' e' ps as bo r))
    (h : ∀ w, St B (L.set i (l, lpO .ready none fn c' e' ps as bo r)) w → R (.returned (.bool true)) w) : WK c (roundPost P l R) .normal e B L := by
  unfold WK
  exact fun w hw => ⟨_, _, run_endRound none (hw.at_ i hi), h _ (hw.putO i hi)⟩
theorem k_roundX {R : Ending → World → Prop} {c' : Cf} {e' : Env} {st : LoopState} {id : Nat} (i : Nat) (hi : L[i]? = some (l, lpO st none fn c' e' ps as bo r))
    (h : ∀ w, St B (L.set i (l, lpO .done (some (.exit id)) fn c' e' ps as bo r)) w → R (.returned (.bool false)) w) : WK c (roundPost P l R) (.exit id) e B L := by
  unfold WK
  exact fun w hw => ⟨_, _, run_endRound (some (.exit id)) (hw.at_ i hi), h _ (hw.putO i hi)⟩
theorem k_roundR {R : Ending → World → Prop} {c' : Cf} {e' : Env} {st : LoopState} (i : Nat) (hi : L[i]? = some (l, lpO st none fn c' e' ps as bo r))
    (h : ∀ w, St B (L.set i (l, lpO .done (some .ret) fn c' e' ps as bo r)) w → R (.returned (.bool false)) w) : WK c (roundPost P l R) .ret e B L := by
  unfold WK
  exact fun w hw => ⟨_, _, run_endRound (some .ret) (hw.at_ i hi), h _ (hw.putO i hi)⟩

abbrev mark (r : Nat) : Deferred := { target := .collected r, args := #[] }
/-- 'for .. := range g { .. }', not within a round -/
theorem c_range {n : Nat} {ds : List Deferred} {g : Operand} {f : FuncId} {F : Func} {fi ca : List Value} {x : Code} (hg : ev n e g = .func (.func f) fi.toArray ca.toArray) (hf : P.funcs[f]? = some F) (hb : F.body = some x) (hn : (F.name == "runtime.NumGoroutine") = false)
    (R : Nat → Nat → FuncId → World → Prop)
    (hc : ∀ fn r l, (∀ x ∈ L, x.1 < r) → (∀ x ∈ B, x.1.heap.size ≤ r) → l = r + 1 → ∀ w, St B ((l, lpO .ready none fn ⟨n, ds, none⟩ e ps as bo r) :: (r, .deferred (some [])) :: L) w → Ret P f (fi ++ .func (.yield l) #[] #[] :: ca).toArray w fun _ w' => R r l fn w')
    (hk : ∀ fn r l, (∀ x ∈ L, x.1 < r) → (∀ x ∈ B, x.1.heap.size ≤ r) → l = r + 1 → ∀ w, R r l fn w → ∃ B' L' st pe, st ≠ LoopState.busy ∧ St B' ((l, lpO st pe fn ⟨n, ds, none⟩ e ps as bo r) :: L') w ∧
      match pe with
      | none => WK ⟨n, mark r :: ds, none⟩ Q .normal e B' ((l, lpO .exhausted none fn ⟨n, ds, none⟩ e ps as bo r) :: L')
      | some j => WC P ⟨n, mark r :: ds, none⟩ j Q e B' ((l, lpO .exhausted pe fn ⟨n, ds, none⟩ e ps as bo r) :: L')) :
    WC P ⟨n, ds, none⟩ (.rangeFunc g ps as bo) Q e B L := by
  unfold WC
  intro w hw
  refine wpIn_rangeFunc fun fn _ => ?_
  have h1 : (∀ x ∈ L, x.1 < w.heap.size) := fun p hp => lt_of_blk (hw.own p hp)
  have h2 : (∀ x ∈ B, x.1.heap.size ≤ w.heap.size) := fun x hx => (hw.fr x hx).size
  have hs1 := hw.new (o := .deferred (some []))
  have hs2 := hs1.new (o := lpO .ready none fn ⟨n, ds, none⟩ e ps as bo w.heap.size)
  rw [World.size_alloc] at hs2
  have hn' : ¬ F.name = "runtime.NumGoroutine" := by intro h; rw [h] at hn; exact absurd hn (by decide)
  have hev : (act ⟨n, ds, none⟩ e).eval g = .func (.func f) fi.toArray ca.toArray := by rw [act_eval]; exact hg
  refine ⟨_, _, _, ⟨.fn (.func f) ca.toArray, fi.toArray ++ #[.func (.yield (w.heap.size + 1)) #[] #[]]⟩, (w.alloc (.deferred (some []))).alloc (lpO .ready none fn ⟨n, ds, none⟩ e ps as bo w.heap.size), f, (fi ++ .func (.yield (w.heap.size + 1)) #[] #[] :: ca).toArray, (w.alloc (.deferred (some []))).alloc (lpO .ready none fn ⟨n, ds, none⟩ e ps as bo w.heap.size), run_enterLoop_outer (P := P) (w := w) fn _ ps as bo, ?_, fun _ _ => trivial, ?_, fun hh => absurd hh (by simp [fw, Fence.wide]), ?_⟩
  · have h0 : #[Operand.const (.func (.yield (w.heap.size + 1)) #[] #[])].map (act ⟨n, ds, none⟩ e).eval = #[.func (.yield (w.heap.size + 1)) #[] #[]] := by simp [Act.eval]
    simp only [resolve, rangeCall, hev, Deferred.ofValue, h0]
    rfl
  · simp [invoke, callFunc, hf, hb, hn', go_sem]
  · have hcall : Calls P f _ _ _ := hc fn _ _ h1 h2 rfl _ hs2
    have hcall' : CallsIn (fw none) (0 - 1) P f _ _ _ := callsIn_wide.2 hcall
    refine hcall'.mono ?_
    rintro en w' ⟨v, rfl, hR⟩
    obtain ⟨B', L', st, pe, hst, hs, hm⟩ := hk fn _ _ h1 h2 rfl w' hR
    refine ⟨pe, _, run_endLoop (hs.at_ 0 rfl) hst, ?_⟩
    have hs' := hs.putO 0 (o' := lpO .exhausted pe fn ⟨n, ds, none⟩ e ps as bo w.heap.size) rfl
    cases pe with
    | none => unfold WK at hm; exact hm _ hs'
    | some j => unfold WC at hm; exact hm _ hs'

end
/-- what is handed back: slots, and variables that lie in memory -/
inductive Res (P : Program) (c : Cf) (e : Env) (B : Base) (L : Heap) : List ResultVar → List Value → Prop
  | nil : Res P c e B L [] []
  | tmp {t : Nat} {v : Value} {l : List ResultVar} {vs : List Value} : Nat.blt t c.n = true → e t = v → Res P c e B L l vs → Res P c e B L (.tmp t :: l) (v :: vs)
  | cell {a b off : Nat} {t : TypeId} {v : Value} {l : List ResultVar} {vs : List Value} : Nat.blt a c.n = true → e a = .pointer (some ⟨b, off, none⟩) → szB P t 1 false = true → (∀ w, St B L w → w.cell? ⟨b, off, none⟩ = some v) → Res P c e B L l vs → Res P c e B L (.cell a t :: l) (v :: vs)
  | agg {a b off k : Nat} {t T : TypeId} {cs : List Value} {l : List ResultVar} {vs : List Value} : Nat.blt a c.n = true → e a = .pointer (some ⟨b, off, none⟩) → szB P t k true = true → (∀ w, St B L w → w.heap[b]? = some (cel cs T)) → Nat.ble (off + k) cs.length = true → Res P c e B L l vs →
      Res P c e B L (.cell a t :: l) (.agg ((cs.drop off).take k).toArray :: vs)
def pack : List Value → Value
  | [v] => v
  | vs => .tuple vs.toArray
theorem load_run {P : Program} {ρ : Operand → Value} {w : World} {t : TypeId} {x : Operand} {v : Value} {a : Addr} (hx : ρ x = .pointer (some a)) (h : Run P ⟨none, .load t x, 0, default, #[], none⟩ ρ w v w) : (loadVar t a).run P w = .ok v w := by
  unfold Run at h
  simp only [execOp, hx, Instr.loadAt, Instr.sureAddr, Sem.run_bind, pure_run, Result.andThen_ok] at h
  cases hr : (loadVar t a).run P w with
  | ok u w' => rw [hr] at h; simp at h; rw [h.1, h.2]
  | halt u w' => rw [hr] at h; simp at h
def resS (tmps : Array Value) : ResultVar → Sem Value
  | .tmp t => pure (tmps.getD t undef)
  | .cell a t => do loadVar t (← asAddr (tmps.getD a undef))
theorem results_eq (fn : Func) (tmps : Array Value) : results fn tmps = (do let vs ← fn.results.mapM (resS tmps); pure (if h : vs.size = 1 then vs[0] else .tuple vs)) := by
  unfold results
  rfl
theorem cellS_run {P : Program} {c : Cf} {e : Env} {w : World} {a : Nat} {t : TypeId} {ad : Addr} {v : Value} (ht : Nat.blt a c.n = true) (he : e a = .pointer (some ad)) (h : (loadVar t ad).run P w = .ok v w) : (resS (act c e).tmps (.cell a t)).run P w = .ok v w := by
  simp only [resS, Sem.run_bind, tmp_get ht he]
  exact h
theorem Res.run {P : Program} {c : Cf} {e : Env} {B : Base} {L : Heap} {w : World} (hw : St B L w) : ∀ {l : List ResultVar} {vs : List Value}, Res P c e B L l vs → (l.mapM (resS (act c e).tmps)).run P w = .ok vs w
  | [], _, .nil => rfl
  | _ :: l, _, .tmp ht he h => by
    have ih := h.run hw
    rw [List.mapM_cons]
    simp only [resS, Sem.run_bind, Sem.run_pure, Result.andThen_ok, ih]
    rw [tmp_get ht he]
  | _ :: l, _, .cell ht he hz hc h => by
    have ih := h.run hw
    rw [List.mapM_cons]
    have hl := load_run (P := P) (ρ := ev c.n e) (w := w) (x := .const (.pointer (some _))) rfl (R_ld1 hz rfl (hc w hw))
    simp only [Sem.run_bind, Sem.run_pure]
    rw [cellS_run ht he hl]
    simp only [Result.andThen_ok, ih]
  | _ :: l, _, .agg ht he hz hc hn h => by
    have ih := h.run hw
    rw [List.mapM_cons]
    have hl := load_run (P := P) (ρ := ev c.n e) (w := w) (x := .const (.pointer (some _))) rfl (R_ldb hz rfl (hc w hw) hn)
    simp only [Sem.run_bind, Sem.run_pure]
    rw [cellS_run ht he hl]
    simp only [Result.andThen_ok, ih]
theorem Res.results {P : Program} {c : Cf} {e : Env} {B : Base} {L : Heap} {w : World} {fn : Func} {l : List ResultVar} {vs : List Value} (hr : fn.results = l.toArray) (h : Res P c e B L l vs) (hw : St B L w) : (results fn (act c e).tmps).run P w = .ok (pack vs) w := by
  rw [results_eq, hr, List.mapM_toArray]
  have := h.run hw
  simp only [Sem.run_bind, Sem.run_map, this, Result.andThen_ok, Sem.run_pure]
  cases vs with
  | nil => rfl
  | cons v vs =>
    cases vs with
    | nil => rfl
    | cons v2 vs => simp [pack]

section
variable {P : Program} {F : Func} {R : Value → World → Prop} {n : Nat} {e : Env} {B : Base} {L : Heap} {l : List ResultVar} {vs : List Value} {x : Exit} {r : Nat}
theorem r_fin (hx : x = .ret ∨ x = .normal) (hr : F.results = l.toArray) (hv : Res P (cf n) e B L l vs) (h : ∀ w, St B L w → R (pack vs) w) : WK (cf n) (Post P F R) x e B L := by
  unfold WK Post
  intro w hw
  rcases hx with rfl | rfl <;> exact ⟨rfl, _, hv.results hr hw, _, rfl, h w hw⟩
theorem r_finM (hx : x = .ret ∨ x = .normal) (hr : F.results = l.toArray) (hv : Res P (cf n) e B L l vs) (h : ∀ w, St B L w → R (pack vs) w) : WK (cf n) (PostM P F R) x e B L := by
  unfold WK PostM
  intro w hw
  have h1 : LeavesInM (fw none) 0 P F (act (cf n) e).tmps (fun e w' => ∃ v, e = .returned v ∧ R v w') [] .returning w := ⟨_, hv.results hr hw, _, rfl, h w hw⟩
  rcases hx with rfl | rfl <;> exact h1
theorem r_finM1 (i : Nat) (hi : L[i]? = some (r, .deferred (some []))) (hx : x = .ret ∨ x = .normal) (hr : F.results = l.toArray) (hv : Res P ⟨n, [mark r], none⟩ e B (L.set i (r, .deferred none)) l vs) (h : ∀ w, St B (L.set i (r, .deferred none)) w → R (pack vs) w) :
    WK ⟨n, [mark r], none⟩ (PostM P F R) x e B L := by
  unfold WK PostM
  intro w hw
  have h1 : LeavesInM (fw none) 0 P F (act ⟨n, [mark r], none⟩ e).tmps (fun e w' => ∃ v, e = .returned v ∧ R v w') [mark r] .returning w := by
    refine ⟨by simp, .inl ⟨r, _, rfl, run_takeDeferred (hw.at_ i hi), ?_⟩⟩
    have hs := hw.putO i (o' := .deferred none) hi
    exact ⟨_, hv.results hr hs, _, rfl, h _ hs⟩
  rcases hx with rfl | rfl <;> exact h1
end
end Go.Sx
