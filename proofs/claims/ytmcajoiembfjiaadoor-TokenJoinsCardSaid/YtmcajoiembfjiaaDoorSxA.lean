import Derived.Test.YtmcajoiembfjiaaDoorSxF
import Derived.Laws.AppendOwn
namespace Go.Sx
open Go.RowKit

/-- what append and make read of the table of types: t a slice of e's, each k cells and by bytes, zero value z -/
def slT (P : Program) (t e k bytes : Nat) (z : Value) : Prop := P.underlying t = some (.slice e) ∧ (P.info? e).map (fun i => (i.size, i.bytes, i.zero)) = some (k, bytes, some z) ∧ z.cells.size = k
theorem slT_spec {P : Program} {t e k bytes : Nat} {z : Value} (h : slT P t e k bytes z) : ∃ i, P.underlying t = some (.slice e) ∧ P.info? e = some i ∧ i.size = k ∧ i.bytes = bytes ∧ i.zero = some z ∧ z.cells.size = k := by
  obtain ⟨h1, h2, h3⟩ := h
  cases hi : P.info? e with
  | none => rw [hi] at h2; cases h2
  | some i =>
    rw [hi] at h2
    simp only [Option.map_some, Option.some.injEq, Prod.mk.injEq] at h2
    exact ⟨i, h1, rfl, h2.1, h2.2.1, h2.2.2, h3⟩

/-- v is nil, or a slice of n elements of k cells each, xs, at the head of a row that lies behind A in the blocks in hand -/
def OwnR (T : TypeId) (k : Nat) (v : Value) (xs : List Value) (n : Nat) (A L L' : Heap) : Prop :=
  xs.length = n * k ∧ ((v = .slice none 0 0 ∧ n = 0 ∧ L' = A ++ L) ∨ ∃ b c sp, v = .slice (some ⟨b, 0, none⟩) n c ∧ n ≤ c ∧ sp.length = (c - n) * k ∧ L' = A ++ (b, cel (xs ++ sp) T) :: L)
theorem OwnR.nil (T : TypeId) (k : Nat) (A L : Heap) : OwnR T k (.slice none 0 0) [] 0 A L (A ++ L) := ⟨by simp, .inl ⟨rfl, rfl, rfl⟩⟩

theorem all_mem {l : List Value} (h : l.all Value.oneCell' = true) : ∀ u ∈ l, u.oneCell' = true := fun u hu => List.all_eq_true.1 h u hu

section
variable {P : Program} {ops : Array Oper} {Q : Exit → Act → World → Prop} {c : Cf} {e : Env} {B : Base} {L L1 A : Heap} {rest : List Oper} {d : Nat}
theorem R_append {ρ : Operand → Value} {w : World} {D : Option Tmp} {ty t : TypeId} {pos : String} {aft : Array Edge} {g : Option (Nat × Bool)} {x y : Operand} {v u r : Value} {w' : World} (hx : ρ x = v) (hy : ρ y = u) (h : (Builtin.append_ #[t, t] ty #[v, u]).run P w = .ok r w') :
    Run P ⟨D, .call ⟨.builtin .append, #[x, y], #[t, t]⟩, ty, pos, aft, g⟩ ρ w r w' := by
  unfold Run
  simp only [execOp, resolve, Sem.run_bind, pure_run, Result.andThen_ok, invoke, builtin, List.map_toArray, List.map_cons, List.map_nil, hx, hy, h]
theorem set_mid {A L : Heap} {p q : Nat × Obj} : (A ++ p :: L).set A.length q = A ++ q :: L := by simp
theorem w_append {x y : Operand} {T : TypeId} {p : String} {ed : Array Edge} {t el k bytes : Nat} {z v : Value} {xs news : List Value} {n m b2 o2 c2 : Nat} (hT : slT P t el k bytes z) (hk : 0 < k) (hx : ev c.n e x = v) (hown : OwnR el k v xs n A L L1) (hy : ev c.n e y = .slice (some ⟨b2, o2, none⟩) m c2)
    (hl : news.length = m * k) (hnews : ∀ w, St B L1 w → ∀ j u, news[j]? = some u → w.cell? ⟨b2, o2 + j, none⟩ = some u) (h1 : news.all Value.oneCell' = true) (hm : 0 < m) (h63 : n + m ≤ 9223372036854775807) (hbytes : (n + m) * bytes ≤ 140737488355328)
    (h : ∀ v' L2, OwnR el k v' (xs ++ news) (n + m) A L L2 → WX .sq P ops c Q rest (upd e d v') B L2) : WX .sq P ops c Q (⟨some d, .call ⟨.builtin .append, #[x, y], #[t, t]⟩, T, p, ed, none⟩ :: rest) e B L1 := by
  obtain ⟨i, ht, hi, hsz, hby, hz, hzs⟩ := slT_spec hT
  subst hsz; subst hby
  obtain ⟨hxl, hown⟩ := hown
  have hn2 : ∀ w, St B L1 w → ∀ j u, news[j]? = some u → w.cell? ((⟨b2, o2, none⟩ : Addr).add j) = some u := fun w hw j u hu => by
    have := hnews w hw j u hu
    simp only [Addr.add]; split <;> simp_all
  have hlen : (xs ++ news).length = (n + m) * i.size := by rw [List.length_append, hxl, hl, Nat.add_mul]
  unfold WX at *
  intro w hw
  rcases hown with ⟨rfl, rfl, rfl⟩ | ⟨b, cp, sp, rfl, hc, hs', rfl⟩
  · rw [Nat.zero_add] at *
    have hr := run_append_nil (P := P) w t T el i z ht hi hz ⟨b2, o2, none⟩ m c2 news hl (hn2 w hw) hm (by omega) (by omega)
    have hx0 : xs = [] := by simpa using hxl
    subst hx0
    have hge := grownCap_ge w m 0 el
    have hs := (hw.drawn (w.drawn + 1)).new (o := cel ([] ++ news ++ (Builtin.zeroCells z.cells (grownCap w m 0 el - m)).toList) el)
    refine s_run (R_append hx hy hr) rfl rfl (h _ (A ++ (w.heap.size, cel ([] ++ news ++ (Builtin.zeroCells z.cells (grownCap w m 0 el - m)).toList) el) :: L) ⟨hlen, .inr ⟨w.heap.size, grownCap w m 0 el, _, rfl, hge, ?_, rfl⟩⟩ _ ?_)
    · rw [Array.length_toList, size_zeroCells, hzs]
    · have := hs.perm (List.perm_middle.symm)
      have e1 : (news.toArray ++ Builtin.zeroCells z.cells (grownCap w m 0 el - m) : Array Value) = ([] ++ news ++ (Builtin.zeroCells z.cells (grownCap w m 0 el - m)).toList).toArray := by simp
      rw [e1]
      exact this
  · have hb := hw.own (b, cel (xs ++ sp) el) (by simp)
    by_cases hroom : n + m ≤ cp
    · have hmk : (cp - n) * i.size = m * i.size + (cp - (n + m)) * i.size := by rw [← Nat.add_mul]; congr 1; omega
      have hr := run_append_room (P := P) w t T el i ht hi b n cp (xs ++ sp).toArray hb ⟨b2, o2, none⟩ m c2 news hl (hn2 w hw) (all_mem h1) hroom (by simp; omega)
      have hs := hw.put A.length (l' := xs ++ news ++ sp.drop news.length) (b := b) (l := xs ++ sp) (T := el) (by simp)
      rw [set_mid] at hs
      have e1 : ((xs ++ sp).toArray.toList.take (n * i.size) ++ news ++ (xs ++ sp).toArray.toList.drop (n * i.size + news.length)) = xs ++ news ++ sp.drop news.length := by
        simp only []
        rw [← hxl, List.take_left', List.drop_append]
        · simp [List.drop_eq_nil_of_le]
        · rfl
      rw [e1] at hr
      refine s_run (R_append hx hy hr) rfl rfl (h _ _ ⟨hlen, .inr ⟨b, cp, sp.drop news.length, rfl, hroom, ?_, rfl⟩⟩ _ hs)
      rw [List.length_drop, hs', hl] <;> omega
    · have hge := grownCap_ge w (n + m) cp el
      have hr := run_append_grow (P := P) w t T el i z ht hi hz ⟨b, 0, none⟩ n cp xs hxl (fun j u hu => by
          have hj := (List.getElem?_eq_some_iff.1 hu).1
          have : w.cell? ⟨b, 0 + j, none⟩ = some u := by
            simp only [World.cell?, hb]
            simp [List.getElem?_append_left hj, hu]
          simp only [Addr.add]; split <;> simp_all) ⟨b2, o2, none⟩ m c2 news hl (hn2 w hw) (by omega) (by omega) (growslice_fits (by omega) hbytes)
      have hs := (hw.drawn (w.drawn + 1)).new (o := cel (xs ++ news ++ (Builtin.zeroCells z.cells (grownCap w (n + m) cp el - (n + m))).toList) el)
      refine s_run (R_append hx hy hr) rfl rfl (h _ (A ++ (w.heap.size, cel (xs ++ news ++ (Builtin.zeroCells z.cells (grownCap w (n + m) cp el - (n + m))).toList) el) :: L) ⟨hlen, .inr ⟨w.heap.size, grownCap w (n + m) cp el, _, rfl, hge, ?_, rfl⟩⟩ _ ?_)
      · rw [Array.length_toList, size_zeroCells, hzs]
      · have h2 := hs.drop (L' := (w.heap.size, cel (xs ++ news ++ (Builtin.zeroCells z.cells (grownCap w (n + m) cp el - (n + m))).toList) el) :: (A ++ L)) (by
          refine List.Sublist.cons_cons _ ?_
          exact List.Sublist.append (List.Sublist.refl _) (List.sublist_cons_self _ _))
        have := h2.perm (List.perm_middle.symm)
        have e1 : (xs.toArray ++ news.toArray ++ Builtin.zeroCells z.cells (grownCap w (n + m) cp el - (n + m)) : Array Value) = (xs ++ news ++ (Builtin.zeroCells z.cells (grownCap w (n + m) cp el - (n + m))).toList).toArray := by simp
        rw [e1]
        exact this
/-- v is nil, or a slice of n elements of k cells each, xs, at the head of a row of its own: the blocks that it takes -/
def Own (T : TypeId) (k : Nat) (v : Value) (xs : List Value) (n : Nat) (W : Heap) : Prop :=
  xs.length = n * k ∧ ((v = .slice none 0 0 ∧ n = 0 ∧ W = []) ∨ ∃ b c sp, v = .slice (some ⟨b, 0, none⟩) n c ∧ n ≤ c ∧ sp.length = (c - n) * k ∧ W = [(b, cel (xs ++ sp) T)])
theorem Own.nil (T : TypeId) (k : Nat) : Own T k (.slice none 0 0) [] 0 [] := ⟨by simp, .inl ⟨rfl, rfl, rfl⟩⟩
theorem Own.slice {T : TypeId} {k : Nat} {v : Value} {xs : List Value} {n : Nat} {W : Heap} (h : Own T k v xs n W) : ∃ a c, v = .slice a n c := by
  rcases h.2 with ⟨rfl, rfl, _⟩ | ⟨b, c, sp, rfl, _⟩
  · exact ⟨_, _, rfl⟩
  · exact ⟨_, _, rfl⟩
theorem Own.toR {T : TypeId} {k : Nat} {v : Value} {xs : List Value} {n : Nat} {W : Heap} (h : Own T k v xs n W) (A L : Heap) : OwnR T k v xs n A L (A ++ (W ++ L)) := by
  refine ⟨h.1, ?_⟩
  rcases h.2 with ⟨h1, h2, rfl⟩ | ⟨b, c, sp, h1, h2, h3, rfl⟩
  · exact .inl ⟨h1, h2, rfl⟩
  · exact .inr ⟨b, c, sp, h1, h2, h3, rfl⟩
theorem OwnR.own {T : TypeId} {k : Nat} {v : Value} {xs : List Value} {n : Nat} {A L L1 : Heap} (h : OwnR T k v xs n A L L1) : ∃ W, Own T k v xs n W ∧ L1 = A ++ (W ++ L) := by
  rcases h.2 with ⟨h1, h2, rfl⟩ | ⟨b, c, sp, h1, h2, h3, rfl⟩
  · exact ⟨[], ⟨h.1, .inl ⟨h1, h2, rfl⟩⟩, rfl⟩
  · exact ⟨[(b, cel (xs ++ sp) T)], ⟨h.1, .inr ⟨b, c, sp, h1, h2, h3, rfl⟩⟩, rfl⟩
/-- append onto a slice of the call's own -/
theorem w_app {W : Heap} {x y : Operand} {T : TypeId} {p : String} {ed : Array Edge} {t el k bytes : Nat} {z v : Value} {xs news : List Value} {n m b2 o2 c2 : Nat} (A : Heap) (hT : slT P t el k bytes z) (hk : 0 < k) (hx : ev c.n e x = v) (hown : Own el k v xs n W) (hy : ev c.n e y = .slice (some ⟨b2, o2, none⟩) m c2)
    (hl : news.length = m * k) (hnews : ∀ w, St B (A ++ (W ++ L)) w → ∀ j u, news[j]? = some u → w.cell? ⟨b2, o2 + j, none⟩ = some u) (h1 : news.all Value.oneCell' = true) (hm : 0 < m) (h63 : n + m ≤ 9223372036854775807) (hbytes : (n + m) * bytes ≤ 140737488355328)
    (h : ∀ v' W', Own el k v' (xs ++ news) (n + m) W' → WX .sq P ops c Q rest (upd e d v') B (A ++ (W' ++ L))) : WX .sq P ops c Q (⟨some d, .call ⟨.builtin .append, #[x, y], #[t, t]⟩, T, p, ed, none⟩ :: rest) e B (A ++ (W ++ L)) :=
  w_append hT hk hx (hown.toR A L) hy hl hnews h1 hm h63 hbytes fun v' L2 h2 => by
    obtain ⟨W', h3, rfl⟩ := h2.own
    exact h v' W' h3
/-- cells that stand at the head of a block in hand -/
theorem row_own (i : Nat) {b : Nat} {cs news : List Value} {T : TypeId} (hi : L[i]? = some (b, cel cs T)) (hn : ∀ (j : Nat) u, news[j]? = some u → cs[j]? = some u) : ∀ w, St B L w → ∀ (j : Nat) u, news[j]? = some u → w.cell? ⟨b, 0 + j, none⟩ = some u :=
  fun w hw j u hu => cel_own i hi (by rw [Nat.zero_add]; exact hn j u hu) hw

def zsL (z : Value) (m : Nat) : List Value := (List.range m).map fun j => z.cells[j % z.cells.size]!
theorem w_bslice {T : TypeId} {p : String} {ed : Array Edge} {t el k bytes len : Nat} {z : Value} {parts : List (Nat × Operand)} (hT : slT P t el k bytes z) (hk : 0 < len * k) (hs : Nat.ble (len * k) 16777216 = true) (hf : fillB (plA len k) (parts.map fun p => (p.1, ev c.n e p.2)) (len * k) = true)
    (h : ∀ b, (∀ x ∈ L, x.1 < b) → (∀ x ∈ B, x.1.heap.size ≤ b) → WX .sq P ops c Q rest (upd e d (.slice (some ⟨b, 0, none⟩) len len)) B ((b, cel (fillL (plA len k) (parts.map fun p => (p.1, ev c.n e p.2)) (zsL z (len * k))) el) :: L)) :
    WX .sq P ops c Q (⟨some d, .buildSlice t len parts.toArray, T, p, ed, none⟩ :: rest) e B L := by
  obtain ⟨i, ht, hi, hsz, hby, hz, hzs⟩ := slT_spec hT
  subst hsz
  have hlen : (zsL z (len * i.size)).length = len * i.size := by simp [zsL]
  have hf' := hf
  rw [← hlen] at hf'
  have hfe := fill_eq (plA len i.size) (parts.map fun p => (p.1, ev c.n e p.2)) _ hf'
  rw [← fill_arr len i.size _ _ hf'] at hfe
  unfold WX at *
  intro w hw
  have hr : Run P ⟨some d, .buildSlice t len parts.toArray, T, p, ed, none⟩ (ev c.n e) w (.slice (some ⟨w.heap.size, 0, none⟩) len len) (w.alloc (cel (fillL (plA len i.size) (parts.map fun p => (p.1, ev c.n e p.2)) (zsL z (len * i.size))) el)) := by
    have e1 : ((Array.range (len * i.size)).map (fun j => z.cells[j % z.cells.size]!)) = (zsL z (len * i.size)).toArray := by simp [zsL, Array.toList_range, ← List.toArray_range]
    have h0 : ¬ len * i.size = 0 := by omega
    have h1 : ¬ 16777216 < len * i.size := by have := Nat.le_of_ble_eq_true hs; omega
    unfold Run
    simp only [execOp, Instr.buildSlice, Sem.run_bind, run_underlying ht, Result.andThen_ok, sizeOf, typeInfo, run_program, hi, Sem.run_pure, zeroValue, hz, h0, if_false, List.map_toArray]
    rw [if_neg (by simpa using h1)]
    simp only [Sem.run_bind, run_program, Result.andThen_ok, hi, Sem.run_pure, hz, e1, hfe, newRow, run_newObj]
    rfl
  exact s_run hr rfl rfl (h w.heap.size (fun p hp => lt_of_blk (hw.own p hp)) (fun x hx => (hw.fr x hx).size) _ hw.new)
end
end Go.Sx
