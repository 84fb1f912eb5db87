import Derived.Test.YtmcajoiembfjiaaDoorSx
import Derived.Deep.LoopGhost
import Derived.Laws.Tables
import Derived.Laws.Rows
namespace Go.Sx
open Go.RowKit

/-- behind the call everything that existed is as it was, but for the blocks of S -/
structure Fr (S : Nat → Prop) (w w' : World) : Prop where
  os : w'.os = w.os
  tape : w'.tape = w.tape
  output : w'.output = w.output
  size : w.heap.size ≤ w'.heap.size
  blk : ∀ k, k < w.heap.size → ¬ S k → w'.heap[k]? = w.heap[k]?
abbrev No : Nat → Prop := fun _ => False
abbrev Ext := Fr No
theorem Fr.refl (S : Nat → Prop) (w : World) : Fr S w w := ⟨rfl, rfl, rfl, Nat.le_refl _, fun _ _ _ => rfl⟩
theorem Fr.trans' {S T U : Nat → Prop} {a b c : World} (h : Fr S a b) (k : Fr T b c) (hs : ∀ i, i < a.heap.size → S i → U i) (ht : ∀ i, i < a.heap.size → T i → U i) : Fr U a c :=
  ⟨k.os.trans h.os, k.tape.trans h.tape, k.output.trans h.output, Nat.le_trans h.size k.size,
   fun i hi hn => (k.blk i (Nat.lt_of_lt_of_le hi h.size) (fun x => hn (ht i hi x))).trans (h.blk i hi (fun x => hn (hs i hi x)))⟩
theorem Fr.trans {S : Nat → Prop} {a b c : World} (h : Fr S a b) (k : Fr S b c) : Fr S a c := h.trans' k (fun _ _ x => x) (fun _ _ x => x)
theorem Fr.mono {S T : Nat → Prop} {a b : World} (h : Fr S a b) (hs : ∀ i, i < a.heap.size → S i → T i) : Fr T a b := h.trans' (Fr.refl T b) hs (fun _ _ x => x)
theorem Fr.ext {S : Nat → Prop} {a b c : World} (h : Fr S a b) (k : Ext b c) : Fr S a c := h.trans' k (fun _ _ x => x) (fun _ _ x => x.elim)
theorem lt_of_blk {w : World} {b : Nat} {o : Obj} (h : w.heap[b]? = some o) : b < w.heap.size := by
  rcases Nat.lt_or_ge b w.heap.size with h' | h'
  · exact h'
  · rw [Array.getElem?_eq_none h'] at h; cases h
theorem Fr.get {S : Nat → Prop} {w w' : World} {b : Nat} {o : Obj} (h : Fr S w w') (hb : w.heap[b]? = some o) (hs : ¬ S b) : w'.heap[b]? = some o := (h.blk b (lt_of_blk hb) hs).trans hb
theorem lt_of_cell {w : World} {a : Addr} {v : Value} (h : w.cell? a = some v) : a.block < w.heap.size := by
  unfold World.cell? at h
  split at h
  · rename_i h'; exact lt_of_blk h'
  · cases h
theorem Fr.cell {S : Nat → Prop} {w w' : World} {a : Addr} {v : Value} (h : Fr S w w') (hb : w.cell? a = some v) (hs : ¬ S a.block) : w'.cell? a = some v := by
  rw [← hb]; unfold World.cell?; rw [h.blk _ (lt_of_cell hb) hs]
theorem Fr.alloc (S : Nat → Prop) (w : World) (o : Obj) : Fr S w (w.alloc o) :=
  ⟨rfl, rfl, rfl, by simp, fun k hk _ => by simp only [World.alloc]; rw [Array.getElem?_push_lt hk, Array.getElem?_eq_getElem hk]⟩
theorem alloc_at (w : World) (o : Obj) : (w.alloc o).heap[w.heap.size]? = some o := heap_alloc_new w o
theorem Fr.drewN (S : Nat → Prop) (w : World) (m : Nat) : Fr S w { w with drawn := m } := ⟨rfl, rfl, rfl, Nat.le_refl _, fun _ _ _ => rfl⟩
theorem setRow_at {w : World} {b : Nat} {cs cs' : Array Value} {T : TypeId} {fr : Nat × Nat} (h : w.heap[b]? = some (.cells cs T fr)) : (w.setRow b cs').heap[b]? = some (.cells cs' T fr) := setRow_heap w b cs cs' T fr h
theorem setRow_other {w : World} {b k : Nat} {cs' : Array Value} (hk : k ≠ b) : (w.setRow b cs').heap[k]? = w.heap[k]? := by
  simp only [World.setRow]; rw [Array.getElem?_modify]; rw [if_neg (Ne.symm hk)]
theorem Fr.setRow {S : Nat → Prop} {w : World} {b : Nat} {cs' : Array Value} (hb : S b) : Fr S w (w.setRow b cs') :=
  ⟨rfl, rfl, rfl, by simp [World.setRow], fun k _ hs => setRow_other (fun e => hs (e ▸ hb))⟩

theorem nodup_idx {l : List Nat} (h : l.Nodup) {i j b : Nat} (hi : l[i]? = some b) (hj : l[j]? = some b) : i = j := by
  obtain ⟨h1, h2⟩ := List.getElem?_eq_some_iff.1 hi
  obtain ⟨h3, h4⟩ := List.getElem?_eq_some_iff.1 hj
  have hp := List.pairwise_iff_getElem.1 h
  rcases Nat.lt_trichotomy i j with hlt | heq | hgt
  · exact absurd (h2.trans h4.symm) (hp i j h1 h3 hlt)
  · exact heq
  · exact absurd (h4.trans h2.symm) (hp j i h3 h1 hgt)

/-- worlds that are looked back at, each with the blocks that may have been written since -/
abbrev Base := List (World × (Nat → Prop))
/-- the blocks that the call has in hand, each with what it holds -/
abbrev Heap := List (Nat × Obj)
abbrev cel (l : List Value) (T : TypeId) : Obj := .cells l.toArray T (0, 0)

structure St (B : Base) (L : Heap) (w : World) : Prop where
  fr : ∀ x ∈ B, Fr x.2 x.1 w
  own : ∀ p ∈ L, w.heap[p.1]? = some p.2
  nd : (L.map (·.1)).Nodup
  ok : ∀ p ∈ L, ∀ x ∈ B, x.2 p.1 ∨ x.1.heap.size ≤ p.1

theorem St.ext {B : Base} {L : Heap} {w w' : World} (h : St B L w) (k : Ext w w') : St B L w' :=
  ⟨fun x hx => (h.fr x hx).ext k, fun p hp => k.get (h.own p hp) (fun x => x), h.nd, h.ok⟩
theorem St.drawn {B : Base} {L : Heap} {w : World} (h : St B L w) (m : Nat) : St B L { w with drawn := m } := h.ext (Fr.drewN No w m)
theorem St.at_ {B : Base} {L : Heap} {w : World} (h : St B L w) (i : Nat) {b : Nat} {o : Obj} (hi : L[i]? = some (b, o)) : w.heap[b]? = some o := h.own (b, o) (List.mem_of_getElem? hi)
/-- a call that may have written the blocks of T, none of those in hand -/
theorem St.call {B : Base} {L : Heap} {w w' : World} {T : Nat → Prop} (h : St B L w) (k : Fr T w w') (ht : ∀ p ∈ L, ¬ T p.1) (hB : ∀ x ∈ B, ∀ i, i < x.1.heap.size → T i → x.2 i) : St B L w' :=
  ⟨fun x hx => (h.fr x hx).trans' k (fun _ _ s => s) (hB x hx), fun p hp => k.get (h.own p hp) (ht p hp), h.nd, h.ok⟩
/-- a new block -/
theorem St.new {B : Base} {L : Heap} {w : World} {o : Obj} (h : St B L w) : St B ((w.heap.size, o) :: L) (w.alloc o) := by
  refine ⟨fun x hx => (h.fr x hx).ext (Fr.alloc No w o), ?_, ?_, ?_⟩
  · intro p hp
    rcases List.mem_cons.1 hp with rfl | hp
    · exact alloc_at w o
    · exact (Fr.alloc No w o).get (h.own p hp) (fun x => x)
  · simp only [List.map_cons, List.nodup_cons]
    refine ⟨fun hm => ?_, h.nd⟩
    obtain ⟨p, hp, he⟩ := List.mem_map.1 hm
    have := lt_of_blk (h.own p hp)
    omega
  · intro p hp x hx
    rcases List.mem_cons.1 hp with rfl | hp
    · exact .inr (h.fr x hx).size
    · exact h.ok p hp x hx
theorem St.newN {B : Base} {L : Heap} {w : World} (h : St B L w) : ∀ p ∈ L, p.1 < w.heap.size := fun p hp => lt_of_blk (h.own p hp)
/-- a store into a block in hand -/
theorem St.put {B : Base} {L : Heap} {w : World} (h : St B L w) (i : Nat) {b : Nat} {l l' : List Value} {T : TypeId} (hi : L[i]? = some (b, cel l T)) : St B (L.set i (b, cel l' T)) (w.setRow b l'.toArray) := by
  have hb := h.at_ i hi
  have hmem : (b, cel l T) ∈ L := List.mem_of_getElem? hi
  have hmap : (L.set i (b, cel l' T)).map (·.1) = L.map (·.1) := by
    rw [List.map_set]
    apply List.ext_getElem?
    intro j
    rw [List.getElem?_set]
    split
    · rename_i hj; subst hj
      obtain ⟨h1, h2⟩ := List.getElem?_eq_some_iff.1 hi
      simp [h1, h2]
    · rfl
  refine ⟨fun x hx => ?_, ?_, by rw [hmap]; exact h.nd, ?_⟩
  · refine ⟨(h.fr x hx).os, (h.fr x hx).tape, (h.fr x hx).output, by simpa [World.setRow] using (h.fr x hx).size, fun k hk hs => ?_⟩
    have hne : k ≠ b := by
      rintro rfl
      rcases h.ok _ hmem x hx with hh | hh
      · exact hs hh
      · dsimp only at hh; omega
    rw [setRow_other hne]
    exact (h.fr x hx).blk k hk hs
  · intro p hp
    obtain ⟨j, hj⟩ := List.getElem?_of_mem hp
    rw [List.getElem?_set] at hj
    split at hj
    · split at hj
      · cases hj; exact setRow_at hb
      · cases hj
    · rename_i hij
      have hp' := h.own p (List.mem_of_getElem? hj)
      have hne : p.1 ≠ b := by
        intro he
        have h1 : (L.map (·.1))[j]? = some b := by rw [List.getElem?_map, hj]; simp [he]
        have h2 : (L.map (·.1))[i]? = some b := by rw [List.getElem?_map, hi]; rfl
        exact hij (nodup_idx h.nd h2 h1)
      rw [setRow_other hne]; exact hp'
  · intro p hp x hx
    have : p.1 ∈ L.map (·.1) := by rw [← hmap]; exact List.mem_map_of_mem hp
    obtain ⟨p', hp', he⟩ := List.mem_map.1 this
    rw [← he]; exact h.ok p' hp' x hx
theorem map_set_fst {L : Heap} {i b : Nat} {o o' : Obj} (hi : L[i]? = some (b, o)) : (L.set i (b, o')).map (·.1) = L.map (·.1) := by
  rw [List.map_set]
  apply List.ext_getElem?
  intro j
  rw [List.getElem?_set]
  split
  · rename_i hj; subst hj
    obtain ⟨h1, h2⟩ := List.getElem?_eq_some_iff.1 hi
    simp [h1, h2]
  · rfl
/-- a call that may have written one block in hand -/
theorem St.mod {B : Base} {L : Heap} {w w' : World} (h : St B L w) (i : Nat) {b : Nat} {o o' : Obj} (hi : L[i]? = some (b, o)) (k : Fr (fun j => j = b) w w') (hb : w'.heap[b]? = some o') : St B (L.set i (b, o')) w' := by
  have hmem : (b, o) ∈ L := List.mem_of_getElem? hi
  have hmap := map_set_fst (o' := o') hi
  refine ⟨fun x hx => (h.fr x hx).trans' k (fun _ _ s => s) ?_, ?_, by rw [hmap]; exact h.nd, ?_⟩
  · rintro j hj rfl
    rcases h.ok _ hmem x hx with hh | hh
    · exact hh
    · dsimp only at hh; omega
  · intro p hp
    obtain ⟨j, hj⟩ := List.getElem?_of_mem hp
    rw [List.getElem?_set] at hj
    split at hj
    · split at hj
      · cases hj; exact hb
      · cases hj
    · rename_i hij
      refine k.get (h.own p (List.mem_of_getElem? hj)) ?_
      intro he
      have h1 : (L.map (·.1))[j]? = some b := by rw [List.getElem?_map, hj]; simp [he]
      have h2 : (L.map (·.1))[i]? = some b := by rw [List.getElem?_map, hi]; rfl
      exact hij (nodup_idx h.nd h2 h1)
  · intro p hp x hx
    have : p.1 ∈ L.map (·.1) := by rw [← hmap]; exact List.mem_map_of_mem hp
    obtain ⟨p', hp', he⟩ := List.mem_map.1 this
    rw [← he]; exact h.ok p' hp' x hx
/-- a new world to look back at: from now on the blocks in hand may be written, besides those of S -/
theorem St.base {B : Base} {L : Heap} {w : World} (h : St B L w) (S : Nat → Prop) : St ((w, fun k => S k ∨ k ∈ L.map (·.1)) :: B) L w := by
  refine ⟨?_, h.own, h.nd, ?_⟩
  · intro x hx
    rcases List.mem_cons.1 hx with rfl | hx
    · exact Fr.refl _ _
    · exact h.fr x hx
  · intro p hp x hx
    rcases List.mem_cons.1 hx with rfl | hx
    · exact .inl (.inr (List.mem_map_of_mem hp))
    · exact h.ok p hp x hx
/-- blocks in hand are let go -/
theorem St.drop {B : Base} {L : Heap} {w : World} (h : St B L w) {L' : Heap} (hs : L'.Sublist L) : St B L' w :=
  ⟨h.fr, fun p hp => h.own p (hs.subset hp), (hs.map _).nodup h.nd, fun p hp => h.ok p (hs.subset hp)⟩
end Go.Sx
