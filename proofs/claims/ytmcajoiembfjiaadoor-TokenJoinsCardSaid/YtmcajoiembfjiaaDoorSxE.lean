import Derived.Test.YtmcajoiembfjiaaDoorSxG
namespace Go.Sx
open Go.RowKit
/-- what '==' at a struct of one-cell fields reads of the table -/
structure flatS (P : Program) (t : TypeId) (l : List (TypeId × Nat)) : Prop where
  u : P.underlying t = some (.struct (P.fieldsOf t))
  f : ((P.fieldsOf t).toList.map fun f => (f.type, f.offset, f.name == "_")) = l.map fun x => (x.1, x.2, false)
  s : P.stoodInHeld t = false
  g : P.eqGuardType P.depth t = false
theorem run_part1 {P : Program} {t : TypeId} {xs : List Value} {o : Nat} {v : Value} {w : World} (hz : szB P t 1 false = true) (h : xs[o]? = some v) : (part t xs.toArray o).run P w = .ok v w := by
  simp [part, run_isAgg hz, h, Sem.run_bind]
theorem eqF_nil {P : Program} {d : Nat} {xs ys : Array Value} {w : World} : (Op.eqFields d xs ys []).run P w = .ok true w := by simp [Op.eqFields]
theorem eqF_cons {P : Program} {d : Nat} {xs ys : List Value} {w : World} {f : Field} {fs : List Field} {t : TypeId} {o : Nat} {a b : Value} {r r2 : Bool} (hf : (f.type, f.offset, f.name == "_") = (t, o, false)) (hz : szB P t 1 false = true)
    (ha : xs[o]? = some a) (hb : ys[o]? = some b) (he : (Op.equalIn d t a b).run P w = .ok r w) (h : (Op.eqFields d xs.toArray ys.toArray fs).run P w = .ok r2 w) : (Op.eqFields d xs.toArray ys.toArray (f :: fs)).run P w = .ok (r && r2) w := by
  simp only [Prod.mk.injEq] at hf
  obtain ⟨rfl, rfl, hn⟩ := hf
  have hn : f.name ≠ "_" := by simpa using hn
  simp only [Op.eqFields, hn, ne_eq, not_false_eq_true, if_true, Sem.run_bind, run_part1 hz ha, run_part1 hz hb, Result.andThen_ok, he]
  cases r
  · simp
  · simp only [Bool.not_true, Bool.false_eq_true, if_false, h, Bool.true_and]
theorem eq_int_run {P : Program} {d : Nat} {t : TypeId} {k k' : IntKind} {a b : Int} {w : World} (h : P.underlying t = some (.int k')) : (Op.equalIn (d + 1) t (.int k a) (.int k b)).run P w = .ok (decide (a = b)) w := by
  rw [run_equalIn_int w d t k k' a b h]; by_cases hx : a = b <;> simp [hx]
theorem eq_str_run {P : Program} {d : Nat} {t : TypeId} {a b : List UInt8} {w : World} (h : P.underlying t = some .string) : (Op.equalIn (d + 1) t (str a) (str b)).run P w = .ok (decide (a = b)) w := by
  rw [str, str, run_equalIn_string w d t _ _ h]; by_cases hx : a = b <;> simp [hx]
section
variable {P : Program} {ρ : Operand → Value} {w : World} {D : Option Tmp} {ty t yt : TypeId} {pos : String} {aft : Array Edge} {g : Option (Nat × Bool)} {x y : Operand}
theorem eq2_run {t1 t2 : TypeId} {k1 k2 : IntKind} {a b c d : Int} {w : World} {n : Nat} (hS : flatS P t [(t1, 0), (t2, 1)]) (z1 : szB P t1 1 false = true) (z2 : szB P t2 1 false = true) (u1 : P.underlying t1 = some (.int k1)) (u2 : P.underlying t2 = some (.int k2)) :
    (Op.equalIn (n + 2) t (.agg #[.int k1 a, .int k2 b]) (.agg #[.int k1 c, .int k2 d])).run P w = .ok (decide (a = c) && (decide (b = d) && true)) w := by
  rw [run_equalIn_agg w (n + 1) t _ _ hS.u hS.s]
  have hf := hS.f
  generalize (P.fieldsOf t).toList = fs at hf
  obtain ⟨f1, fs1, rfl, h1, hf⟩ := List.map_eq_cons_iff.1 hf
  obtain ⟨f2, fs2, rfl, h2, hf⟩ := List.map_eq_cons_iff.1 hf
  obtain rfl := List.map_eq_nil_iff.1 hf
  exact eqF_cons (xs := [.int k1 a, .int k2 b]) (ys := [.int k1 c, .int k2 d]) h1 z1 rfl rfl (eq_int_run u1) (eqF_cons h2 z2 rfl rfl (eq_int_run u2) eqF_nil)
theorem eq3_run {t1 t2 t3 : TypeId} {k1 k3 : IntKind} {a c p q : Int} {b d : List UInt8} {w : World} {n : Nat} (hS : flatS P t [(t1, 0), (t2, 1), (t3, 2)]) (z1 : szB P t1 1 false = true) (z2 : szB P t2 1 false = true) (z3 : szB P t3 1 false = true)
    (u1 : P.underlying t1 = some (.int k1)) (u2 : P.underlying t2 = some .string) (u3 : P.underlying t3 = some (.int k3)) :
    (Op.equalIn (n + 2) t (.agg #[.int k1 a, str b, .int k3 p]) (.agg #[.int k1 c, str d, .int k3 q])).run P w = .ok (decide (a = c) && (decide (b = d) && (decide (p = q) && true))) w := by
  rw [run_equalIn_agg w (n + 1) t _ _ hS.u hS.s]
  have hf := hS.f
  generalize (P.fieldsOf t).toList = fs at hf
  obtain ⟨f1, fs1, rfl, h1, hf⟩ := List.map_eq_cons_iff.1 hf
  obtain ⟨f2, fs2, rfl, h2, hf⟩ := List.map_eq_cons_iff.1 hf
  obtain ⟨f3, fs3, rfl, h3, hf⟩ := List.map_eq_cons_iff.1 hf
  obtain rfl := List.map_eq_nil_iff.1 hf
  exact eqF_cons (xs := [.int k1 a, str b, .int k3 p]) (ys := [.int k1 c, str d, .int k3 q]) h1 z1 rfl rfl (eq_int_run u1) (eqF_cons h2 z2 rfl rfl (eq_str_run u2) (eqF_cons h3 z3 rfl rfl (eq_int_run u3) eqF_nil))
theorem R_eqS {xs ys : Array Value} {r : Bool} {l : List (TypeId × Nat)} (hS : flatS P t l) (hx : ρ x = .agg xs) (hy : ρ y = .agg ys) (he : (Op.equalIn 10000 t (.agg xs) (.agg ys)).run P w = .ok r w) : Run P ⟨D, .binOp .eql t x y yt, ty, pos, aft, g⟩ ρ w (.bool r) w := by
  simp [Run, execOp, hx, hy, Sem.run_bind, run_eqGuard_agg w .eql t x y xs ys hS.g, run_eql_struct, he]
theorem R_neS {xs ys : Array Value} {r : Bool} {l : List (TypeId × Nat)} (hS : flatS P t l) (hx : ρ x = .agg xs) (hy : ρ y = .agg ys) (he : (Op.equalIn 10000 t (.agg xs) (.agg ys)).run P w = .ok r w) : Run P ⟨D, .binOp .neq t x y yt, ty, pos, aft, g⟩ ρ w (.bool (!r)) w := by
  simp [Run, execOp, hx, hy, Sem.run_bind, run_eqGuard_agg w .neq t x y xs ys hS.g, run_neq_struct, he]
end
end Go.Sx
namespace Go.Sx
open Go.RowKit
theorem w_loadC {P : Program} {ops : Array Oper} {Q : Exit → Act → World → Prop} {q : Md} {c : Cf} {e : Env} {B : Base} {L : Heap} {rest : List Oper} {d : Nat} {t : TypeId} {x : Operand} {ty : TypeId} {p : String} {a : Array Edge} {b off k : Nat} {l : List Value}
    (hz : szB P t k true = true) (hx : ev c.n e x = .pointer (some ⟨b, off, none⟩)) (hl : l.length = k) (hc : ∀ w, St B L w → ∀ j v, l[j]? = some v → w.cell? ⟨b, off + j, none⟩ = some v) (h : WX q P ops c Q rest (upd e d (.agg l.toArray)) B L) : WX q P ops c Q (⟨some d, .load t x, ty, p, a, none⟩ :: rest) e B L :=
  w_run (fun w hw => R_ldA hz hx hl (hc w hw)) rfl rfl h
theorem Own.cellw {T : TypeId} {k : Nat} {a : Option Addr} {n c i : Nat} {xs : List Value} {W : Heap} (h : Own T k (.slice a n c) xs n W) (hi : i < n) : ∃ b, a = some ⟨b, 0, none⟩ ∧ ∀ (w : World), (∀ p ∈ W, w.heap[p.1]? = some p.2) → ∀ (j : Nat) u, xs[j]? = some u → w.cell? ⟨b, j, none⟩ = some u := by
  rcases h.2 with ⟨_, h2, _⟩ | ⟨b, c', sp, h1, _, _, rfl⟩
  · omega
  · simp only [Value.slice.injEq] at h1
    refine ⟨b, h1.1, fun w hw j u hu => ?_⟩
    have hb := hw (b, cel (xs ++ sp) T) (.head _)
    simp only [World.cell?, hb]
    have hj := (List.getElem?_eq_some_iff.1 hu).1
    simp [List.getElem?_append_left hj, hu]
end Go.Sx
