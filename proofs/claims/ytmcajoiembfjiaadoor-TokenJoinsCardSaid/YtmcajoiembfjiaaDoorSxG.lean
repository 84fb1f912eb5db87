import Derived.Test.YtmcajoiembfjiaaDoorSxA
namespace Go.Sx
open Go.RowKit

theorem keys_pick : ∀ (idx : List Nat) (L : Heap), idx.Nodup → (L.map (·.1)).Nodup → ((idx.filterMap fun i => L[i]?).map (·.1)).Nodup
  | [], _, _, _ => by simp
  | i :: idx, L, hn, hL => by
    have hn' := List.nodup_cons.1 hn
    have ih := keys_pick idx L hn'.2 hL
    cases hi : L[i]? with
    | none => simpa [List.filterMap_cons, hi] using ih
    | some p =>
      rw [List.filterMap_cons, hi]
      simp only [List.map_cons]
      refine List.nodup_cons.2 ⟨fun hm => ?_, ih⟩
      obtain ⟨q, hq, he⟩ := List.mem_map.1 hm
      obtain ⟨j, hj, hj2⟩ := List.mem_filterMap.1 hq
      obtain ⟨hil, hie⟩ := List.getElem?_eq_some_iff.1 hi
      obtain ⟨hjl, hje⟩ := List.getElem?_eq_some_iff.1 hj2
      have : i = j := by
        have h1 : (L.map (·.1))[i]'(by simpa using hil) = (L.map (·.1))[j]'(by simpa using hjl) := by simp [hie, hje, he]
        have hp := List.pairwise_iff_getElem.1 hL
        rcases Nat.lt_trichotomy i j with hlt | heq | hlt
        · exact (hp i j _ _ hlt h1).elim
        · exact heq
        · exact (hp j i _ _ hlt h1.symm).elim
      subst this
      exact hn'.1 hj
/-- blocks of the front put in another order, or let go -/
theorem St.pickT {B : Base} {W : Heap} {w : World} (L : Heap) (h : St B (L ++ W) w) (idx : List Nat) (hn : idx.Nodup) : St B ((idx.filterMap fun i => L[i]?) ++ W) w := by
  have hmem : ∀ p ∈ (idx.filterMap fun i => L[i]?), p ∈ L := fun p hp => by
    obtain ⟨j, _, hj⟩ := List.mem_filterMap.1 hp
    exact List.mem_of_getElem? hj
  have hsub : ∀ p ∈ (idx.filterMap fun i => L[i]?) ++ W, p ∈ L ++ W := fun p hp => by
    rcases List.mem_append.1 hp with hp | hp
    · exact List.mem_append.2 (.inl (hmem p hp))
    · exact List.mem_append.2 (.inr hp)
  have hnd := h.nd
  rw [List.map_append, List.nodup_append] at hnd
  refine ⟨h.fr, fun p hp => h.own p (hsub p hp), ?_, fun p hp => h.ok p (hsub p hp)⟩
  rw [List.map_append, List.nodup_append]
  refine ⟨keys_pick idx L hn hnd.1, hnd.2.1, fun a ha b hb => ?_⟩
  obtain ⟨p, hp, rfl⟩ := List.mem_map.1 ha
  exact hnd.2.2 _ (List.mem_map.2 ⟨p, hmem p hp, rfl⟩) b hb
theorem St.pick {B : Base} {L : Heap} {w : World} (h : St B L w) (idx : List Nat) (hn : idx.Nodup) : St B (idx.filterMap fun i => L[i]?) w := by
  have := St.pickT (W := []) L (by simpa using h) idx hn
  simpa using this

/-- a call has laid the blocks W, and changed nothing that was there -/
structure New (w w' : World) (W : Heap) : Prop where
  ext : Ext w w'
  own : ∀ p ∈ W, w.heap.size ≤ p.1 ∧ w'.heap[p.1]? = some p.2
  nd : (W.map (·.1)).Nodup
theorem St.made {w w' : World} {A W : Heap} (h : St [(w, No)] (A ++ W) w') : New w w' W := by
  refine ⟨h.fr (w, No) (.head _), fun p hp => ⟨?_, h.own p (List.mem_append.2 (.inr hp))⟩, ?_⟩
  · rcases h.ok p (List.mem_append.2 (.inr hp)) (w, No) (.head _) with hh | hh
    · exact hh.elim
    · exact hh
  · have := h.nd
    rw [List.map_append, List.nodup_append] at this
    exact this.2.1
theorem New.none {w w' : World} (h : Ext w w') : New w w' [] := ⟨h, fun p hp => (List.not_mem_nil hp).elim, .nil⟩
theorem St.newW {B : Base} {L W : Heap} {w w' : World} (h : St B L w) (hn : New w w' W) : St B (W ++ L) w' := by
  have h1 := h.ext hn.ext
  refine ⟨h1.fr, fun p hp => ?_, ?_, fun p hp => ?_⟩
  · rcases List.mem_append.1 hp with hp | hp
    · exact (hn.own p hp).2
    · exact h1.own p hp
  · rw [List.map_append, List.nodup_append]
    refine ⟨hn.nd, h.nd, fun a ha b hb => ?_⟩
    obtain ⟨p, hp, rfl⟩ := List.mem_map.1 ha
    obtain ⟨q, hq, rfl⟩ := List.mem_map.1 hb
    have h2 := (hn.own p hp).1
    have h3 := h.newN q hq
    intro he
    omega
  · rcases List.mem_append.1 hp with hp | hp
    · intro x hx
      have h2 := (hn.own p hp).1
      have h3 := (h.fr x hx).size
      exact .inr (by omega)
    · exact h1.ok p hp

theorem cel_mem {B : Base} {L : Heap} {w : World} {b j : Nat} {cs : List Value} {T : TypeId} {v : Value} (hm : (b, cel cs T) ∈ L) (hj : cs[j]? = some v) (h : St B L w) : w.cell? ⟨b, j, none⟩ = some v := by
  obtain ⟨i, hi⟩ := List.getElem?_of_mem hm
  exact cel_own i hi hj h
/-- an element of a slice of one's own, in place -/
theorem Own.cell {T : TypeId} {k : Nat} {a : Option Addr} {n c i : Nat} {xs : List Value} {W : Heap} (h : Own T k (.slice a n c) xs n W) (hi : i < n) : ∃ b, a = some ⟨b, 0, none⟩ ∧ ∀ (B : Base) (L : Heap) (w : World), (∀ p ∈ W, p ∈ L) → St B L w → ∀ (j : Nat) u, xs[j]? = some u → w.cell? ⟨b, j, none⟩ = some u := by
  rcases h.2 with ⟨_, h2, _⟩ | ⟨b, c', sp, h1, _, _, rfl⟩
  · omega
  · simp only [Value.slice.injEq] at h1
    refine ⟨b, h1.1, fun B L w hs hw j u hu => cel_mem (cs := xs ++ sp) (T := T) (hs _ (.head _)) ?_ hw⟩
    rw [List.getElem?_append_left (List.getElem?_eq_some_iff.1 hu).1]
    exact hu
end Go.Sx
namespace Go.Sx
open Go.RowKit
section
variable {P : Program} {ops : Array Oper} {Q : Exit → Act → World → Prop} {c : Cf} {e : Env} {B : Base} {L : Heap} {o : Oper} {rest : List Oper} {d : Nat}
/-- a call that lays blocks of its own -/
theorem w_callW {f : FuncId} {args : Array Value} {R : Value → Heap → Prop} (hr : ∀ w, RunE P o (ev c.n e) w f args) (hg : plainB o = true) (hd : o.dst = some d)
    (hc : ∀ w, St B L w → Ret P f args w fun u w' => ∃ W, R u W ∧ New w w' W)
    (h : ∀ u W, R u W → WX .sq P ops c Q rest (upd e d u) B (W ++ L)) : WX .sq P ops c Q (o :: rest) e B L :=
  w_callR hr hg hd hc fun _ hw _ _ ⟨W, hR, hn⟩ => ⟨B, W ++ L, hw.newW hn, h _ W hR⟩
/-- the guard's own operation was not taken: nor is this one -/
theorem w_skipU {q : Md} {op : Op} {T : TypeId} {p : String} {a : Array Edge} {j t : Nat} {b : Bool} (hj : (ops[j]?).bind (·.dst) = some t) (ht : Nat.blt t c.n = true) (he : e t = undef) (h : WX q P ops c Q rest (upd e d undef) B L) : WX q P ops c Q (⟨some d, op, T, p, a, some (j, b)⟩ :: rest) e B L := by
  have hw : Region.wanted ⟨some d, op, T, p, a, some (j, b)⟩ (yielded ops (act c e).tmps) = false := by
    simp [Region.wanted, yielded, hj, act_get, ht, he, undef]
  unfold WX at *
  rcases q with _ | _ | tl
  · exact fun w hs => s_skip hw rfl (h w hs)
  · exact q_skip hw rfl h
  · exact fun w hs => t_skip hw rfl (h w hs)
theorem c_gen {x : Code} (h : ∀ e', e' = e → WC P c x Q e' B L) : WC P c x Q e B L := h e rfl
end
end Go.Sx
