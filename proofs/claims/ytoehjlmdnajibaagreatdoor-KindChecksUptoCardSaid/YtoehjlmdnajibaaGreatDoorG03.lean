/- Layer 15, KindChecks: Check and Vars of kind tell the fault, and the variables, of the document, for programs of at most 600 nodes and names of at most 200 bytes; in the Upto form. Part 3 of 17. -/
import Derived.Test.YtoehjlmdnajibaaGreatDoorG02
import Derived.Deep.Upon
import Derived.Test.YtoehjlmdnajibaaGreatDoorProg
import Derived.Shelf.Small.Strs
import Derived.Shelf.Strings.Search1
import Derived.Shelf.Strings.Search2
import Derived.Shelf.Strings.Search3
import Derived.Shelf.LaysM
import Derived.Shelf.Strings.Shaped
import Derived.Shelf.Strings.Prefix
import Derived.Shelf.Strings.Fields
import Derived.Shelf.Strings.SplitShaped
import Derived.Shelf.Unicode.Latin
import Derived.Shelf.Unicode.Is16White
import Derived.Shelf.Unicode.IsSpaceAny
import Derived.Shelf.Unicode.Is16WhiteD
import Derived.Shelf.Unicode.IsSpaceAnyD
import Derived.Shelf.Strings.FieldsAny
import Derived.Shelf.Strings.FieldsFuncAny
import Derived.Shelf.Unicode.Is16Any
import Derived.Shelf.Unicode.Is32Any
import Derived.Shelf.Unicode.ExclAny
section
namespace Go.Sx
open Go.RowKit Go.Tree Go.Tok Go.Prs
theorem At.mono {W : World} {N N' : Nat → Prop} (hn : ∀ j, N j → N' j) {a : Option Addr} {i : Nat} {cs : List Value} (h : At W N a i cs) : At W N' a i cs := by
  obtain ⟨b, o, h1, h2, h3⟩ := h; exact ⟨b, o, h1, hn _ h2, h3⟩
mutual
theorem exM.mono {W : World} {N N' : Nat → Prop} (hn : ∀ j, N j → N' j) : ∀ (e : Ex) (cs : List Value), exM W N e cs → exM W N' e cs
  | .mk op at_ nm ks, cs, h => by
    unfold exM at h ⊢
    obtain ⟨a, c, h1, h2, h3⟩ := h
    exact ⟨a, c, h1, h2, exsM.mono hn ks a 0 h3⟩
theorem exsM.mono {W : World} {N N' : Nat → Prop} (hn : ∀ j, N j → N' j) : ∀ (l : List Ex) (a : Option Addr) (i : Nat), exsM W N l a i → exsM W N' l a i
  | [], _, _, _ => by unfold exsM; trivial
  | e :: l, a, i, h => by
    unfold exsM at h ⊢
    obtain ⟨⟨cs, h1, h2⟩, h3⟩ := h
    exact ⟨⟨cs, h1.mono hn, exM.mono hn e cs h2⟩, exsM.mono hn l a (i + 4) h3⟩
end
mutual
theorem smM.mono {W : World} {N N' : Nat → Prop} (hn : ∀ j, N j → N' j) : ∀ (e : Sm) (cs : List Value), smM W N e cs → smM W N' e cs
  | .mk op at_ nm ks b e, cs, h => by
    unfold smM at h ⊢
    obtain ⟨a, c, ab, cb, ae, ce, h1, h2, h3, h4, h5⟩ := h
    exact ⟨a, c, ab, cb, ae, ce, h1, h2, exsM.mono hn ks a 0 h3, smsM.mono hn b ab 0 h4, smsM.mono hn e ae 0 h5⟩
theorem smsM.mono {W : World} {N N' : Nat → Prop} (hn : ∀ j, N j → N' j) : ∀ (l : List Sm) (a : Option Addr) (i : Nat), smsM W N l a i → smsM W N' l a i
  | [], _, _, _ => by unfold smsM; trivial
  | e :: l, a, i, h => by
    unfold smsM at h ⊢
    obtain ⟨⟨cs, h1, h2⟩, h3⟩ := h
    exact ⟨⟨cs, h1.mono hn, smM.mono hn e cs h2⟩, smsM.mono hn l a (i + 6) h3⟩
end
theorem dcM.mono {W : World} {N N' : Nat → Prop} (hn : ∀ j, N j → N' j) {d : Dc} {cs : List Value} (h : dcM W N d cs) : dcM W N' d cs := by
  obtain ⟨sa, sc, la, lc, ua, uc, ia, ic, h1, h2, h3, h4, h5⟩ := h
  exact ⟨sa, sc, la, lc, ua, uc, ia, ic, h1, exsM.mono hn _ _ _ h2, exsM.mono hn _ _ _ h3, exsM.mono hn _ _ _ h4, exsM.mono hn _ _ _ h5⟩
theorem dcsM.mono {W : World} {N N' : Nat → Prop} (hn : ∀ j, N j → N' j) {l : List Dc} {a : Option Addr} (h : dcsM W N l a) : dcsM W N' l a := fun k d hk => by
  obtain ⟨cs, h1, h2⟩ := h k d hk; exact ⟨cs, h1.mono hn, h2.mono hn⟩
theorem bkM.mono {W : World} {N N' : Nat → Prop} (hn : ∀ j, N j → N' j) {b : Bk} {cs : List Value} (h : bkM W N b cs) : bkM W N' b cs := by
  obtain ⟨da, dc, sa, sc, h1, h2, h3⟩ := h; exact ⟨da, dc, sa, sc, h1, h2.mono hn, smsM.mono hn _ _ _ h3⟩
theorem pgM.mono {W : World} {N N' : Nat → Prop} (hn : ∀ j, N j → N' j) {p : List Bk} {cs : List Value} (h : pgM W N p cs) : pgM W N' p cs := ⟨h.six, h.len, fun i b hb => (h.one i b hb).mono hn⟩
structure TL {α β : Type} (M : World → (Nat → Prop) → α → β → Prop) : Prop where
  fr : ∀ {w w' : World} {S N : Nat → Prop} {a : α} {b : β}, M w N a b → Fr S w w' → (∀ j, N j → ¬ S j) → M w' N a b
  mono : ∀ {w : World} {N N' : Nat → Prop} {a : α} {b : β}, M w N a b → (∀ j, N j → N' j) → M w N' a b
theorem TL.ex : TL exM := ⟨fun h hf hn => exM.fr hf hn _ _ h, fun h hn => exM.mono hn _ _ h⟩
theorem TL.dc : TL dcM := ⟨fun h hf hn => h.fr hf hn, fun h hn => h.mono hn⟩
theorem TL.bk : TL bkM := ⟨fun h hf hn => h.fr hf hn, fun h hn => h.mono hn⟩
theorem TL.pg : TL pgM := ⟨fun h hf hn => h.fr hf hn, fun h hn => h.mono hn⟩
def exsV (W : World) (N : Nat → Prop) (l : List Ex) (b : Option Addr × Nat) : Prop := l.length ≤ b.2 ∧ exsM W N l b.1 0
def smsV (W : World) (N : Nat → Prop) (l : List Sm) (b : Option Addr × Nat) : Prop := l.length ≤ b.2 ∧ smsM W N l b.1 0
theorem TL.exs : TL exsV := ⟨fun h hf hn => ⟨h.1, exsM.fr hf hn _ _ _ h.2⟩, fun h hn => ⟨h.1, exsM.mono hn _ _ _ h.2⟩⟩
theorem TL.sms : TL smsV := ⟨fun h hf hn => ⟨h.1, smsM.fr hf hn _ _ _ h.2⟩, fun h hn => ⟨h.1, smsM.mono hn _ _ _ h.2⟩⟩
def exsV6 (W : World) (N : Nat → Prop) (l : List Ex) (b : Option Addr × Nat) : Prop := l.length ≤ 6000 ∧ exsV W N l b
theorem TL.exs6 : TL exsV6 := ⟨fun h hf hn => ⟨h.1, TL.exs.fr h.2 hf hn⟩, fun h hn => ⟨h.1, TL.exs.mono h.2 hn⟩⟩
abbrev exE (e : Ex) (b : Option Addr × Nat) : List Value := [.int .u8 (e.op : Nat), .int .i64 e.at_, str e.nm, .slice b.1 e.kids.length b.2]
structure exT (W : World) (N : Nat → Prop) (e : Ex) (b : Option Addr × Nat) : Prop where
  le : e.kids.length ≤ b.2
  ks : exsM W N e.kids b.1 0
  nm : e.op = 2 → e.kids = [] ∧ b = (none, 0)
  ix : e.op = 3 → e.kids.length = 1 ∧ ∃ q, b = (some ⟨q, 0, none⟩, 1)
theorem TL.ext : TL exT := ⟨fun h hf hn => ⟨h.le, exsM.fr hf hn _ _ _ h.ks, h.nm, h.ix⟩, fun h hn => ⟨h.le, exsM.mono hn _ _ _ h.ks, h.nm, h.ix⟩⟩
theorem exT.M {W : World} {N : Nat → Prop} {e : Ex} {b : Option Addr × Nat} (h : exT W N e b) : exM W N e (exE e b) := by
  obtain ⟨op, at_, nm, ks⟩ := e
  unfold exM
  exact ⟨b.1, b.2, rfl, h.le, h.ks⟩
def exC (W : World) (N : Nat → Prop) (e : Ex) (cs : List Value) : Prop := ∃ b, cs = exE e b ∧ exT W N e b
theorem TL.exc : TL exC := ⟨fun ⟨b, h, k⟩ hf hn => ⟨b, h, TL.ext.fr k hf hn⟩, fun ⟨b, h, k⟩ hn => ⟨b, h, TL.ext.mono k hn⟩⟩
theorem exC.M {W : World} {N : Nat → Prop} {e : Ex} {cs : List Value} (h : exC W N e cs) : exM W N e cs := by
  obtain ⟨b, rfl, h⟩ := h; exact h.M
theorem at_blk {w : World} {N : Nat → Prop} {sb i : Nat} {cs xs : List Value} {T : TypeId} (h : w.heap[sb]? = some (cel xs T)) (hN : N sb) (hc : ∀ (j : Nat) v, cs[j]? = some v → xs[i + j]? = some v) : At w N (some ⟨sb, 0, none⟩) i cs := by
  refine ⟨sb, 0, rfl, hN, fun j v hj => ?_⟩
  have := hc j v hj
  simp [World.cell?, h, this]
theorem kid1 {w : World} {N : Nat → Prop} {e : Ex} {b : Option Addr × Nat} {sb : Nat} {T : TypeId} (h : exT w N e b) (hb : w.heap[sb]? = some (cel (exE e b) T)) (hN : N sb) : exsM w N [e] (some ⟨sb, 0, none⟩) 0 := by
  unfold exsM
  refine ⟨⟨exE e b, at_blk hb hN (fun j v hj => by rw [Nat.zero_add]; exact hj), h.M⟩, ?_⟩
  unfold exsM; trivial
theorem kid2 {w : World} {N : Nat → Prop} {e1 e2 : Ex} {b1 b2 : Option Addr × Nat} {sb : Nat} {T : TypeId} (h1 : exT w N e1 b1) (h2 : exT w N e2 b2) (hb : w.heap[sb]? = some (cel (exE e1 b1 ++ exE e2 b2) T)) (hN : N sb) : exsM w N [e1, e2] (some ⟨sb, 0, none⟩) 0 := by
  unfold exsM exsM
  refine ⟨⟨exE e1 b1, at_blk hb hN (fun j v hj => ?_), h1.M⟩, ⟨exE e2 b2, at_blk hb hN (fun j v hj => ?_), h2.M⟩, ?_⟩
  · rw [Nat.zero_add, List.getElem?_append_left (List.getElem?_eq_some_iff.1 hj).1]; exact hj
  · rw [List.getElem?_append_right (by simp)]
    simpa using hj
  unfold exsM; trivial
theorem exT.setAt {w : World} {N : Nat → Prop} {e : Ex} {b : Option Addr × Nat} (h : exT w N e b) (a : Int) : exT w N (Go.Prs.setAt e a) b := by
  cases e; exact ⟨h.le, h.ks, h.nm, h.ix⟩
theorem own_exs {w : World} {N : Nat → Prop} {T : TypeId} {l : List Ex} {v : Value} {xs : List Value} {W : Heap} (h : Own T 4 v xs l.length W) (hW : ∀ p ∈ W, w.heap[p.1]? = some p.2) (hN : ∀ p ∈ W, N p.1) (hm : ∀ (j : Nat) e, l[j]? = some e → exM w N e ((xs.drop (j * 4)).take 4)) : ∃ b : Option Addr × Nat, v = .slice b.1 l.length b.2 ∧ exsV w N l b := by
  obtain ⟨hl, h⟩ := h
  rcases h with ⟨rfl, h0, rfl⟩ | ⟨q, c, sp, rfl, hc, hsp, rfl⟩
  · have : l = [] := List.length_eq_zero_iff.1 h0
    subst this
    exact ⟨(none, 0), rfl, Nat.le_refl _, by unfold exsM; trivial⟩
  · refine ⟨(some ⟨q, 0, none⟩, c), rfl, hc, ?_⟩
    have hb := hW _ (List.mem_singleton.2 rfl)
    have hq := hN _ (List.mem_singleton.2 rfl)
    refine (show ∀ (m : List Ex) (i : Nat), (∀ (j : Nat) e, m[j]? = some e → l[i + j]? = some e) → exsM w N m (some ⟨q, 0, none⟩) (i * 4) from ?_) l 0 (fun j e he => by rw [Nat.zero_add]; exact he)
    intro m
    induction m with
    | nil => intro i _; unfold exsM; trivial
    | cons e m ih =>
      intro i hi
      unfold exsM
      refine ⟨⟨_, at_blk hb hq (fun j v hj => ?_), hm i e (by simpa using hi 0 e rfl)⟩, ?_⟩
      · have hj4 : j < 4 := by have := (List.getElem?_eq_some_iff.1 hj).1; rw [List.length_take] at this; omega
        rw [List.getElem?_take, if_pos hj4, List.getElem?_drop] at hj
        rw [List.getElem?_append_left (List.getElem?_eq_some_iff.1 hj).1]; exact hj
      · have := ih (i + 1) (fun j u hu => by rw [show i + 1 + j = i + (j + 1) by omega]; exact hi (j + 1) u (by simpa using hu))
        rwa [show (i + 1) * 4 = i * 4 + 4 by omega] at this
def Mc {α : Type} (k : Nat) (M : World → (Nat → Prop) → α → List Value → Prop) (W : World) (N : Nat → Prop) (l : List α) (xs : List Value) : Prop := ∀ (j : Nat) e, l[j]? = some e → M W N e ((xs.drop (j * k)).take k)
theorem TL.cells {α : Type} {k : Nat} {M : World → (Nat → Prop) → α → List Value → Prop} (hM : TL M) : TL (Mc k M) := ⟨fun h hf hn j e he => hM.fr (h j e he) hf hn, fun h hn j e he => hM.mono (h j e he) hn⟩
theorem Mc.nil {α : Type} {k : Nat} {M : World → (Nat → Prop) → α → List Value → Prop} {W : World} {N : Nat → Prop} {xs : List Value} : Mc k M W N [] xs := fun j e h => by simp at h
theorem Mc.snoc {α : Type} {k : Nat} {M : World → (Nat → Prop) → α → List Value → Prop} {W : World} {N : Nat → Prop} {l : List α} {xs news : List Value} {e : α} (h : Mc k M W N l xs) (hx : xs.length = l.length * k) (hn : news.length = k) (he : M W N e news) : Mc k M W N (l ++ [e]) (xs ++ news) := by
  intro j u hu
  rcases Nat.lt_or_ge j l.length with h3 | h3
  · rw [List.getElem?_append_left h3] at hu
    have := h j u hu
    have h4 : j * k + k ≤ xs.length := by
      have : (j + 1) * k ≤ l.length * k := Nat.mul_le_mul_right k h3
      rw [Nat.add_mul, Nat.one_mul] at this; omega
    rwa [List.drop_append_of_le_length (by omega), List.take_append_of_le_length (by rw [List.length_drop]; omega)]
  have hj : j = l.length := by
    have := (List.getElem?_eq_some_iff.1 hu).1
    simp at this; omega
  subst hj
  rw [List.getElem?_append_right (Nat.le_refl _), Nat.sub_self] at hu
  obtain rfl : e = u := by simpa using hu
  rw [List.drop_append, List.drop_eq_nil_of_le (by omega), List.nil_append, hx, Nat.sub_self, List.drop_zero, List.take_of_length_le (by omega)]
  exact he
abbrev Bw := World × (Nat → Prop)
def Nn (w w' : World) : Nat → Prop := fun j => w.heap.size ≤ j ∧ j < w'.heap.size
def Nb (s0 : Nat) (x : World × (Nat → Prop)) : Nat → Prop := fun j => s0 ≤ j ∧ j < x.1.heap.size ∧ ¬ x.2 j
def Kt {α β : Type} (x : World × (Nat → Prop)) (s0 : Nat) (M : World → (Nat → Prop) → α → β → Prop) (a : α) (b : β) : Prop := M x.1 (Nb s0 x) a b
abbrev inL (L : Heap) : Nat → Prop := fun j => j ∈ L.map (·.1)
theorem St.base1 {B : Base} {L : Heap} {w : World} (h : St B L w) : St ((w, inL L) :: B) L w := by
  refine ⟨?_, h.own, h.nd, ?_⟩
  · intro x hx
    rcases List.mem_cons.1 hx with rfl | hx
    · exact Fr.refl _ _
    exact h.fr x hx
  intro p hp x hx
  rcases List.mem_cons.1 hx with rfl | hx
  · exact .inl (List.mem_map_of_mem hp)
  exact h.ok p hp x hx
section
variable {α β : Type} {M : World → (Nat → Prop) → α → β → Prop} {x : World × (Nat → Prop)} {s0 : Nat} {a : α} {b : β} {B : Base} {L : Heap} {w w' : World}
theorem Kt.at (h : Kt x s0 M a b) (hM : TL M) (hx : x ∈ B) (hw : St B L w) : M w (Nb s0 x) a b := hM.fr h (hw.fr x hx) (fun _ hj => hj.2.2)
theorem Kt.now (h : Kt x s0 M a b) (hM : TL M) (hx : x ∈ B) (hw : St B L w) : Kt (w, inL L) s0 M a b := hM.mono (h.at hM hx hw) fun j hj => ⟨hj.1, Nat.lt_of_lt_of_le hj.2.1 (hw.fr x hx).size, fun hL => by
  obtain ⟨p, hp, rfl⟩ := List.mem_map.1 hL
  rcases hw.ok p hp x hx with h | h
  · exact hj.2.2 h
  have := hj.2.1; omega⟩
theorem Kt.new (h : M w' (Nn w w') a b) (hM : TL M) (hw : St B L w) (hs : s0 ≤ w.heap.size) : Kt (w', inL L) s0 M a b := hM.mono h fun j hj => ⟨Nat.le_trans hs hj.1, hj.2, fun hL => by
  obtain ⟨p, hp, rfl⟩ := List.mem_map.1 hL
  have := lt_of_blk (hw.own p hp)
  exact absurd hj.1 (by omega)⟩
theorem Kt.fin {w0 : World} (h : Kt x w0.heap.size M a b) (hM : TL M) (hx : x ∈ B) (hw : St B L w) : M w (Nn w0 w) a b := hM.mono (h.at hM hx hw) fun j hj => ⟨hj.1, Nat.lt_of_lt_of_le hj.2.1 (hw.fr x hx).size⟩
end
section
variable {P : Program} {ops : Array Oper} {Q : Exit → Act → World → Prop} {c : Cf} {e : Env} {rest : List Oper} {o : Oper} {d : Nat} {B B' : Base} {L L' : Heap} {x : Exit} {y : Code}
theorem k_base (h : ∀ w, St B L w → WK c Q x e ((w, inL L) :: B) L) : WK c Q x e B L := by
  unfold WK at *
  exact fun w hw => h w hw w hw.base1
theorem c_base (h : ∀ w, St B L w → WC P c y Q e ((w, inL L) :: B) L) : WC P c y Q e B L := by
  unfold WC at *
  exact fun w hw => h w hw w hw.base1
end
theorem cell_of {w : World} {b off : Nat} {cs : List Value} {T : TypeId} {v : Value} (h : w.heap[b]? = some (cel cs T)) (hv : cs[off]? = some v) : w.cell? ⟨b, off, none⟩ = some v := by simp [World.cell?, h, hv]
theorem Kt.one {x : Bw} {s0 : Nat} {e : Ex} {b : Option Addr × Nat} (h : Kt x s0 exT e b) : Kt x s0 (Mc 4 exC) [e] (exE e b) := Mc.snoc (l := []) (xs := []) Mc.nil rfl rfl ⟨b, rfl, h⟩
theorem Kt.snoc {x : Bw} {s0 : Nat} {e : Ex} {b : Option Addr × Nat} {l : List Ex} {xs : List Value} (hl : Kt x s0 (Mc 4 exC) l xs) (h : Kt x s0 exT e b) (hx : xs.length = l.length * 4) : Kt x s0 (Mc 4 exC) (l ++ [e]) (xs ++ exE e b) := Mc.snoc hl hx rfl ⟨b, rfl, h⟩
theorem own_lit {T : TypeId} {k : Nat} {xs : List Value} {q : Nat} (h : xs.length = 1 * k) : Own T k (.slice (some ⟨q, 0, none⟩) 1 1) xs 1 [(q, cel xs T)] := ⟨h, .inr ⟨q, 1, [], rfl, Nat.le_refl _, by simp, by simp⟩⟩
theorem k_let {Q : Exit → Act → World → Prop} {c : Cf} {e : Env} {x : Exit} {B : Base} {L : Heap} {sb : Nat} {o : Obj} (h : ∀ w, St B ((sb, o) :: L) w → (∀ s0, s0 ≤ sb → Nb s0 (w, inL L) sb) → WK c Q x e ((w, inL L) :: B) L) : WK c Q x e B ((sb, o) :: L) := by
  unfold WK at *
  intro w hw
  have hn := hw.nd
  rw [List.map_cons, List.nodup_cons] at hn
  exact h w hw (fun s0 hs => ⟨hs, lt_of_blk (hw.at_ 0 rfl), hn.1⟩) w (hw.drop (List.sublist_cons_self _ _)).base1
theorem St.keep2 {B : Base} {L : Heap} {w : World} {a b : World × (Nat → Prop)} (h : St (a :: B) L w) (hb : b ∈ B) : St [a, b] L w := h.unbase fun x hx => by
  rcases List.mem_cons.1 hx with rfl | hx
  · exact .head _
  obtain rfl := List.mem_singleton.1 hx; exact .tail _ hb
theorem St.ne {B : Base} {L : Heap} {w : World} (h : St B L w) (i j : Nat) {b b' : Nat} {o o' : Obj} (hi : L[i]? = some (b, o)) (hj : L[j]? = some (b', o')) (hij : i ≠ j) : b ≠ b' := by
  rintro rfl
  have h1 : (L.map (·.1))[i]? = some b := by rw [List.getElem?_map, hi]; rfl
  have h2 : (L.map (·.1))[j]? = some b := by rw [List.getElem?_map, hj]; rfl
  exact hij (nodup_idx h.nd h1 h2)
theorem St.fresh {B : Base} {A W : Heap} {w w0 : World} {rb : Nat} {o : Obj} (h : St B (A ++ W) w) (hx : (w0, fun j => j = rb) ∈ B) (hr : (rb, o) ∈ A) : ∀ p ∈ W, w0.heap.size ≤ p.1 := fun p hp => by
  rcases h.ok p (List.mem_append_right _ hp) _ hx with h1 | h1
  · exfalso
    have hn := h.nd
    rw [List.map_append] at hn
    exact (List.nodup_append.1 hn).2.2 rb (List.mem_map.2 ⟨_, hr, rfl⟩) p.1 (List.mem_map_of_mem hp) h1.symm
  exact h1
section
variable {α β : Type} {M : World → (Nat → Prop) → α → β → Prop} {V : α → β → Value} {a : α} {s0 : Nat} {P : Program} {ops : Array Oper} {Q : Exit → Act → World → Prop} {c : Cf} {e : Env} {rest : List Oper} {o : Oper} {d : Nat} {B : Base} {L : Heap} {f : FuncId} {args : Array Value}
theorem mk_new {w w' : World} {b : β} (hM : TL M) (hw : St B L w) (hs : s0 ≤ w.heap.size) (h1 : M w' (fun j => Nb s0 (w, inL L) j ∨ Nn w w' j) a b) (h2 : Ext w w') : St ((w', inL L) :: B) L w' ∧ Kt (w', inL L) s0 M a b := by
  refine ⟨(hw.ext h2).base1, hM.mono h1 fun j hj => ?_⟩
  rcases hj with ⟨h3, h4, h5⟩ | ⟨h3, h4⟩
  · exact ⟨h3, Nat.lt_of_lt_of_le h4 h2.size, h5⟩
  refine ⟨Nat.le_trans hs h3, h4, fun hL => ?_⟩
  obtain ⟨p, hp, rfl⟩ := List.mem_map.1 hL
  have := lt_of_blk (hw.own p hp)
  omega
theorem o_mk {fuel q : Nat} {S : World → Prop} {listed : Array Bool} (hq : ops[q]? = some o) (hM : TL M) (hr : ∀ w, RunE P o (ev c.n e) w f args) (hg : plainB o = true) (hd : o.dst = some d) (hs : ∀ w, St B L w → s0 ≤ w.heap.size)
    (hc : ∀ w, St B L w → Ret P f args w fun v w' => ∃ b, v = V a b ∧ M w' (fun j => Nb s0 (w, inL L) j ∨ Nn w w' j) a b ∧ Ext w w')
    (h : ∀ b w1, Kt (w1, inL L) s0 M a b → WH P ops c Q S fuel (listed.setIfInBounds q true) (upd e d (V a b)) ((w1, inL L) :: B) L) : WO P ops c Q S fuel listed q e B L :=
  o_callP hq hg hd hr (R := fun w v w' => ∃ b, v = V a b ∧ M w' (fun j => Nb s0 (w, inL L) j ∨ Nn w w' j) a b ∧ Ext w w') (E := fun _ _ _ => False) (fun w hw => (hc w hw).toP) (fun w hw v w' ⟨b, h1, h2, h3⟩ => by
    subst h1
    obtain ⟨h4, h5⟩ := mk_new hM hw (hs w hw) h2 h3
    exact ⟨_, _, h4, h b w' h5⟩) (fun _ _ _ _ h => h.elim)
end
section
variable {α β γ δ : Type} {T : List Tk} {ob : Nat → Obj} {rb lo : Nat} {V : α → β → Value} {Vs : α → Value} {M : World → (Nat → Prop) → α → β → Prop} {X : Except Fl (α × List Tk)} {pan : Fl → List PanicEntry}
def PR (T : List Tk) (ob : Nat → Obj) (rb lo : Nat) (V : α → β → Value) (M : World → (Nat → Prop) → α → β → Prop) (X : Except Fl (α × List Tk)) (w : World) : Value → World → Prop := fun v w' =>
  ∃ a b k1, X = .ok (a, T.drop k1) ∧ lo ≤ k1 ∧ k1 ≤ T.length ∧ v = V a b ∧ M w' (Nn w w') a b ∧ Fr (fun j => j = rb) w w' ∧ w'.heap[rb]? = some (ob k1)
def PRs (T : List Tk) (ob : Nat → Obj) (rb lo : Nat) (V : α → Value) (X : Except Fl (α × List Tk)) (w : World) : Value → World → Prop := fun v w' =>
  ∃ a k1, X = .ok (a, T.drop k1) ∧ lo ≤ k1 ∧ k1 ≤ T.length ∧ v = V a ∧ Fr (fun j => j = rb) w w' ∧ w'.heap[rb]? = some (ob k1)
def PE (pan : Fl → List PanicEntry) (rb : Nat) (X : Except Fl δ) (w : World) : List PanicEntry → World → Prop := fun ch w' =>
  ∃ fl, X = .error fl ∧ fl.1 ≠ 0 ∧ ch = pan fl ∧ Fr (fun j => j = rb) w w'
theorem inL_set {L : Heap} {i b : Nat} {o o' : Obj} (hi : L[i]? = some (b, o)) : inL (L.set i (b, o')) = inL L := by
  funext j; unfold inL; rw [map_set_fst hi]
theorem set_same {L : Heap} {i b : Nat} {o : Obj} (hi : L[i]? = some (b, o)) : L.set i (b, o) = L := by
  obtain ⟨h1, h2⟩ := List.getElem?_eq_some_iff.1 hi
  rw [← h2, List.set_getElem_self]
theorem Fr.row1 {w0 w w' : World} {S0 : Nat → Prop} (h : Fr S0 w0 w) (k : Fr (fun j => j = rb) w w') (hS : S0 rb) : Fr S0 w0 w' := h.trans' k (fun _ _ s => s) (by rintro j _ rfl; exact hS)
section
variable {P : Program} {ops : Array Oper} {Q : Exit → Act → World → Prop} {c : Cf} {e : Env} {rest : List Oper} {o : Oper} {d : Nat} {B : Base} {L : Heap} {f : FuncId} {args : Array Value} {G : Except Fl γ} {F : α → List Tk → Except Fl γ} {w0 : World} {S0 : Nat → Prop} {o1 : Obj}
theorem pc_new {i : Nat} (hi : L[i]? = some (rb, o1)) (hx : (w0, S0) ∈ B) (hM : TL M) {w w' : World} {a : α} {b : β} {k1 : Nat} (hw : St B L w) (h4 : M w' (Nn w w') a b) (h5 : Fr (fun j => j = rb) w w') (h6 : w'.heap[rb]? = some (ob k1)) :
    St ((w', inL L) :: B) (L.set i (rb, ob k1)) w' ∧ Kt (w', inL L) w0.heap.size M a b := by
  have hs := (hw.mod i hi h5 h6).base1
  rw [inL_set hi] at hs
  exact ⟨hs, Kt.new h4 hM hw (hw.fr _ hx).size⟩
theorem w_pc (i : Nat) (hi : L[i]? = some (rb, o1)) (hx : (w0, S0) ∈ B) (hS : S0 rb) (hM : TL M) (hG : G = andR X F) (hr : ∀ w, RunE P o (ev c.n e) w f args) (hg : plainB o = true) (hd : o.dst = some d)
    (hc : ∀ w, St B L w → RetP P f args w (PR T ob rb lo V M X w) (PE pan rb X w))
    (hE : ∀ fl w', G = .error fl → fl.1 ≠ 0 → Fr S0 w0 w' → ∀ a : Act, a.defers = c.ds → Q (.panic (pan fl)) a w')
    (h : ∀ a b k1 w1, X = .ok (a, T.drop k1) → G = F a (T.drop k1) → lo ≤ k1 → k1 ≤ T.length → Kt (w1, inL L) w0.heap.size M a b → WX .sq P ops c Q rest (upd e d (V a b)) ((w1, inL L) :: B) (L.set i (rb, ob k1))) : WX .sq P ops c Q (o :: rest) e B L := by
  refine w_callP hr hg hd hc ?_ ?_
  · rintro w hw v w' ⟨a, b, k1, h1, h2, h3, rfl, h4, h5, h6⟩
    obtain ⟨hs, hk⟩ := pc_new (ob := ob) hi hx hM hw h4 h5 h6
    exact ⟨_, _, hs, h a b k1 w' h1 (hG.trans (andR_of h1)) h2 h3 hk⟩
  rintro w hw ch w' ⟨fl, h1, h0, rfl, h2⟩
  exact hE fl w' (hG.trans (andR_er h1)) h0 ((hw.fr _ hx).row1 h2 hS)
theorem w_ps (i : Nat) (hi : L[i]? = some (rb, o1)) (hx : (w0, S0) ∈ B) (hS : S0 rb) (hG : G = andR X F) (hr : ∀ w, RunE P o (ev c.n e) w f args) (hg : plainB o = true) (hd : o.dst = some d)
    (hc : ∀ w, St B L w → RetP P f args w (PRs T ob rb lo Vs X w) (PE pan rb X w))
    (hE : ∀ fl w', G = .error fl → fl.1 ≠ 0 → Fr S0 w0 w' → ∀ a : Act, a.defers = c.ds → Q (.panic (pan fl)) a w')
    (h : ∀ a k1, X = .ok (a, T.drop k1) → G = F a (T.drop k1) → lo ≤ k1 → k1 ≤ T.length → WX .sq P ops c Q rest (upd e d (Vs a)) B (L.set i (rb, ob k1))) : WX .sq P ops c Q (o :: rest) e B L := by
  refine w_callP hr hg hd hc ?_ ?_
  · rintro w hw v w' ⟨a, k1, h1, h2, h3, rfl, h5, h6⟩
    exact ⟨_, _, hw.mod i hi h5 h6, h a k1 h1 (hG.trans (andR_of h1)) h2 h3⟩
  rintro w hw ch w' ⟨fl, h1, h0, rfl, h2⟩
  exact hE fl w' (hG.trans (andR_er h1)) h0 ((hw.fr _ hx).row1 h2 hS)
theorem o_pc {fuel q : Nat} {S : World → Prop} {listed : Array Bool} (i : Nat) (hq : ops[q]? = some o) (hi : L[i]? = some (rb, o1)) (hx : (w0, S0) ∈ B) (hS : S0 rb) (hM : TL M) (hG : G = andR X F) (hr : ∀ w, RunE P o (ev c.n e) w f args) (hg : plainB o = true) (hd : o.dst = some d)
    (hc : ∀ w, St B L w → RetP P f args w (PR T ob rb lo V M X w) (PE pan rb X w))
    (hE : ∀ fl w', G = .error fl → fl.1 ≠ 0 → Fr S0 w0 w' → ∀ a : Act, a.defers = c.ds → Q (.panic (pan fl)) a w')
    (h : ∀ a b k1 w1, X = .ok (a, T.drop k1) → G = F a (T.drop k1) → lo ≤ k1 → k1 ≤ T.length → Kt (w1, inL L) w0.heap.size M a b → WH P ops c Q S fuel (listed.setIfInBounds q true) (upd e d (V a b)) ((w1, inL L) :: B) (L.set i (rb, ob k1))) : WO P ops c Q S fuel listed q e B L := by
  refine o_callP hq hg hd hr hc ?_ ?_
  · rintro w hw v w' ⟨a, b, k1, h1, h2, h3, rfl, h4, h5, h6⟩
    obtain ⟨hs, hk⟩ := pc_new (ob := ob) hi hx hM hw h4 h5 h6
    exact ⟨_, _, hs, h a b k1 w' h1 (hG.trans (andR_of h1)) h2 h3 hk⟩
  rintro w hw ch w' ⟨fl, h1, h0, rfl, h2⟩
  exact hE fl w' (hG.trans (andR_er h1)) h0 ((hw.fr _ hx).row1 h2 hS)
theorem o_ps {fuel q : Nat} {S : World → Prop} {listed : Array Bool} (i : Nat) (hq : ops[q]? = some o) (hi : L[i]? = some (rb, o1)) (hx : (w0, S0) ∈ B) (hS : S0 rb) (hG : G = andR X F) (hr : ∀ w, RunE P o (ev c.n e) w f args) (hg : plainB o = true) (hd : o.dst = some d)
    (hc : ∀ w, St B L w → RetP P f args w (PRs T ob rb lo Vs X w) (PE pan rb X w))
    (hE : ∀ fl w', G = .error fl → fl.1 ≠ 0 → Fr S0 w0 w' → ∀ a : Act, a.defers = c.ds → Q (.panic (pan fl)) a w')
    (h : ∀ a k1, X = .ok (a, T.drop k1) → G = F a (T.drop k1) → lo ≤ k1 → k1 ≤ T.length → WH P ops c Q S fuel (listed.setIfInBounds q true) (upd e d (Vs a)) B (L.set i (rb, ob k1))) : WO P ops c Q S fuel listed q e B L := by
  refine o_callP hq hg hd hr hc ?_ ?_
  · rintro w hw v w' ⟨a, k1, h1, h2, h3, rfl, h5, h6⟩
    exact ⟨_, _, hw.mod i hi h5 h6, h a k1 h1 (hG.trans (andR_of h1)) h2 h3⟩
  rintro w hw ch w' ⟨fl, h1, h0, rfl, h2⟩
  exact hE fl w' (hG.trans (andR_er h1)) h0 ((hw.fr _ hx).row1 h2 hS)
def PRg (T : List Tk) (ob : Nat → Obj) (rb : Nat) (lg : α → Nat) (V : α → β → Value) (M : World → (Nat → Prop) → α → β → Prop) (X : Except Fl (α × List Tk)) (w : World) : Value → World → Prop := fun v w' =>
  ∃ a b k1, X = .ok (a, T.drop k1) ∧ lg a ≤ k1 ∧ k1 ≤ T.length ∧ v = V a b ∧ M w' (Nn w w') a b ∧ Fr (fun j => j = rb) w w' ∧ w'.heap[rb]? = some (ob k1)
theorem w_pcg {lg : α → Nat} (i : Nat) (hi : L[i]? = some (rb, o1)) (hx : (w0, S0) ∈ B) (hS : S0 rb) (hM : TL M) (hG : G = andR X F) (hr : ∀ w, RunE P o (ev c.n e) w f args) (hg : plainB o = true) (hd : o.dst = some d)
    (hc : ∀ w, St B L w → RetP P f args w (PRg T ob rb lg V M X w) (PE pan rb X w))
    (hE : ∀ fl w', G = .error fl → fl.1 ≠ 0 → Fr S0 w0 w' → ∀ a : Act, a.defers = c.ds → Q (.panic (pan fl)) a w')
    (h : ∀ a b k1 w1, X = .ok (a, T.drop k1) → G = F a (T.drop k1) → lg a ≤ k1 → k1 ≤ T.length → Kt (w1, inL L) w0.heap.size M a b → WX .sq P ops c Q rest (upd e d (V a b)) ((w1, inL L) :: B) (L.set i (rb, ob k1))) : WX .sq P ops c Q (o :: rest) e B L := by
  refine w_callP hr hg hd hc ?_ ?_
  · rintro w hw v w' ⟨a, b, k1, h1, h2, h3, rfl, h4, h5, h6⟩
    obtain ⟨hs, hk⟩ := pc_new (ob := ob) hi hx hM hw h4 h5 h6
    exact ⟨_, _, hs, h a b k1 w' h1 (hG.trans (andR_of h1)) h2 h3 hk⟩
  rintro w hw ch w' ⟨fl, h1, h0, rfl, h2⟩
  exact hE fl w' (hG.trans (andR_er h1)) h0 ((hw.fr _ hx).row1 h2 hS)
def TR (rb : Nat) (b : Bool) (lim : Prop) (o1 o2 : Obj) (w : World) : Value → World → Prop := fun v w' => Fr (fun j => j = rb) w w' ∧ ((b = false ∧ v = .bool false ∧ w'.heap[rb]? = some o1) ∨ (b = true ∧ lim ∧ v = .bool true ∧ w'.heap[rb]? = some o2))
def TE (rb : Nat) (b : Bool) (lim : Prop) (ch0 : List PanicEntry) (w : World) : List PanicEntry → World → Prop := fun ch w' => b = true ∧ ¬ lim ∧ ch = ch0 ∧ Fr (fun j => j = rb) w w'
theorem w_take {b : Bool} {lim : Prop} {o2 : Obj} {ch0 : List PanicEntry} (i : Nat) (hi : L[i]? = some (rb, o1)) (hx : (w0, S0) ∈ B) (hS : S0 rb) (hr : ∀ w, RunE P o (ev c.n e) w f args) (hg : plainB o = true) (hd : o.dst = some d)
    (hc : ∀ w, St B L w → RetP P f args w (TR rb b lim o1 o2 w) (TE rb b lim ch0 w))
    (hE : ∀ w', b = true → ¬ lim → Fr S0 w0 w' → ∀ a : Act, a.defers = c.ds → Q (.panic ch0) a w')
    (ht : b = true → lim → WX .sq P ops c Q rest (upd e d (.bool true)) B (L.set i (rb, o2))) (hf : b = false → WX .sq P ops c Q rest (upd e d (.bool false)) B L) : WX .sq P ops c Q (o :: rest) e B L := by
  refine w_callP hr hg hd hc ?_ ?_
  · rintro w hw v w' ⟨h5, ⟨h1, rfl, h6⟩ | ⟨h1, h2, rfl, h6⟩⟩
    · have := hw.mod i hi h5 h6
      rw [set_same hi] at this
      exact ⟨_, _, this, hf h1⟩
    exact ⟨_, _, hw.mod i hi h5 h6, ht h1 h2⟩
  rintro w hw ch w' ⟨h1, h0, rfl, h2⟩
  exact hE w' h1 h0 ((hw.fr _ hx).row1 h2 hS)
end
end
end Go.Sx
end
section
namespace Go.Sx
open Go.RowKit Go.Tree
section
variable {P : Program} {ops : Array Oper} {Q : Exit → Act → World → Prop} {c : Cf} {e : Env} {B : Base} {L L1 A : Heap} {rest : List Oper} {d : Nat}
theorem app_run {ρ : Operand → Value} {D : Option Tmp} {g : Option (Nat × Bool)} {x y : Operand} {T : TypeId} {p : String} {ed : Array Edge} {t el k bytes : Nat} {z v : Value} {xs news : List Value} {n m b2 o2 c2 : Nat} (hT : slT P t el k bytes z) (hk : 0 < k) (hx : ρ x = v) (hown : OwnR el k v xs n A L L1) (hy : ρ y = .slice (some ⟨b2, o2, none⟩) m c2)
    (hl : news.length = m * k) (hnews : ∀ w, St B L1 w → ∀ j u, news[j]? = some u → w.cell? ⟨b2, o2 + j, none⟩ = some u) (h1 : news.all Value.oneCell' = true) (hm : 0 < m) (h63 : n + m ≤ 9223372036854775807) (hbytes : (n + m) * bytes ≤ 140737488355328) {w : World} (hw : St B L1 w) :
    ∃ v' w' L2, Run P ⟨D, .call ⟨.builtin .append, #[x, y], #[t, t]⟩, T, p, ed, g⟩ ρ w v' w' ∧ OwnR el k v' (xs ++ news) (n + m) A L L2 ∧ St B L2 w' := by
  obtain ⟨i, ht, hi, hsz, hby, hz, hzs⟩ := slT_spec hT
  subst hsz; subst hby
  obtain ⟨hxl, hown⟩ := hown
  have hn2 : ∀ w, St B L1 w → ∀ j u, news[j]? = some u → w.cell? ((⟨b2, o2, none⟩ : Addr).add j) = some u := fun w hw j u hu => by
    have := hnews w hw j u hu
    simp only [Addr.add]; split <;> simp_all
  have hlen : (xs ++ news).length = (n + m) * i.size := by rw [List.length_append, hxl, hl, Nat.add_mul]
  rcases hown with ⟨rfl, rfl, rfl⟩ | ⟨b, cp, sp, rfl, hc, hs', rfl⟩
  · rw [Nat.zero_add] at *
    have hr := run_append_nil (P := P) w t T el i z ht hi hz ⟨b2, o2, none⟩ m c2 news hl (hn2 w hw) hm (by omega) (by omega)
    have hx0 : xs = [] := by simpa using hxl
    subst hx0
    have hge := grownCap_ge w m 0 el
    have hs := (hw.drawn (w.drawn + 1)).new (o := cel ([] ++ news ++ (Builtin.zeroCells z.cells (grownCap w m 0 el - m)).toList) el)
    refine ⟨_, _, (A ++ (w.heap.size, cel ([] ++ news ++ (Builtin.zeroCells z.cells (grownCap w m 0 el - m)).toList) el) :: L), R_append hx hy hr, ⟨hlen, .inr ⟨w.heap.size, grownCap w m 0 el, _, rfl, hge, ?_, rfl⟩⟩, ?_⟩
    · rw [Array.length_toList, size_zeroCells, hzs]
    have := hs.perm (List.perm_middle.symm)
    have e1 : (news.toArray ++ Builtin.zeroCells z.cells (grownCap w m 0 el - m) : Array Value) = ([] ++ news ++ (Builtin.zeroCells z.cells (grownCap w m 0 el - m)).toList).toArray := by simp
    rw [e1]
    exact this
  have hb := hw.own (b, cel (xs ++ sp) el) (by simp)
  by_cases hroom : n + m ≤ cp
  · have hmk : (cp - n) * i.size = m * i.size + (cp - (n + m)) * i.size := by rw [← Nat.add_mul]; congr 1; omega
    have hr := run_append_room (P := P) w t T el i ht hi b n cp (xs ++ sp).toArray hb ⟨b2, o2, none⟩ m c2 news hl (hn2 w hw) (all_mem h1) hroom (by simp; omega)
    have hs := hw.put A.length (l' := xs ++ news ++ sp.drop news.length) (b := b) (l := xs ++ sp) (T := el) (by simp)
    rw [set_mid] at hs
    have e1 : ((xs ++ sp).toArray.toList.take (n * i.size) ++ news ++ (xs ++ sp).toArray.toList.drop (n * i.size + news.length)) = xs ++ news ++ sp.drop news.length := by
      simp only []
      rw [← hxl, List.take_left', List.drop_append]
      · simp [List.drop_eq_nil_of_le]
      rfl
    rw [e1] at hr
    refine ⟨_, _, _, R_append hx hy hr, ⟨hlen, .inr ⟨b, cp, sp.drop news.length, rfl, hroom, ?_, rfl⟩⟩, hs⟩
    rw [List.length_drop, hs', hl] <;> omega
  have hge := grownCap_ge w (n + m) cp el
  have hr := run_append_grow (P := P) w t T el i z ht hi hz ⟨b, 0, none⟩ n cp xs hxl (fun j u hu => by
      have hj := (List.getElem?_eq_some_iff.1 hu).1
      have : w.cell? ⟨b, 0 + j, none⟩ = some u := by
        simp only [World.cell?, hb]
        simp [List.getElem?_append_left hj, hu]
      simp only [Addr.add]; split <;> simp_all) ⟨b2, o2, none⟩ m c2 news hl (hn2 w hw) (by omega) (by omega) (growslice_fits (by omega) hbytes)
  have hs := (hw.drawn (w.drawn + 1)).new (o := cel (xs ++ news ++ (Builtin.zeroCells z.cells (grownCap w (n + m) cp el - (n + m))).toList) el)
  refine ⟨_, _, (A ++ (w.heap.size, cel (xs ++ news ++ (Builtin.zeroCells z.cells (grownCap w (n + m) cp el - (n + m))).toList) el) :: L), R_append hx hy hr, ⟨hlen, .inr ⟨w.heap.size, grownCap w (n + m) cp el, _, rfl, hge, ?_, rfl⟩⟩, ?_⟩
  · rw [Array.length_toList, size_zeroCells, hzs]
  have h2 := hs.drop (L' := (w.heap.size, cel (xs ++ news ++ (Builtin.zeroCells z.cells (grownCap w (n + m) cp el - (n + m))).toList) el) :: (A ++ L)) (by
    refine List.Sublist.cons_cons _ ?_
    exact List.Sublist.append (List.Sublist.refl _) (List.sublist_cons_self _ _))
  have := h2.perm (List.perm_middle.symm)
  have e1 : (xs.toArray ++ news.toArray ++ Builtin.zeroCells z.cells (grownCap w (n + m) cp el - (n + m)) : Array Value) = (xs ++ news ++ (Builtin.zeroCells z.cells (grownCap w (n + m) cp el - (n + m))).toList).toArray := by simp
  rw [e1]
  exact this
theorem Own.le {T : TypeId} {k : Nat} {a : Option Addr} {n c : Nat} {xs : List Value} {W : Heap} (h : Own T k (.slice a n c) xs n W) : n ≤ c := by
  rcases h.2 with ⟨h1, h2, _⟩ | ⟨b, c', sp, h1, h2, _⟩
  · omega
  simp only [Value.slice.injEq] at h1; omega
theorem o_bslice {T : TypeId} {pp : String} {ed : Array Edge} {t el k bytes len i fuel : Nat} {z : Value} {parts : List (Nat × Operand)} {S : World → Prop} {listed : Array Bool} (hi : ops[i]? = some ⟨some d, .buildSlice t len parts.toArray, T, pp, ed, none⟩) (hT : slT P t el k bytes z) (hk : 0 < len * k) (hs : Nat.ble (len * k) 16777216 = true) (hf : fillB (plA len k) (parts.map fun p => (p.1, ev c.n e p.2)) (len * k) = true)
    (h : ∀ b, (∀ x ∈ L, x.1 < b) → (∀ x ∈ B, x.1.heap.size ≤ b) → WH P ops c Q S fuel (listed.setIfInBounds i true) (upd e d (.slice (some ⟨b, 0, none⟩) len len)) B ((b, cel (fillL (plA len k) (parts.map fun p => (p.1, ev c.n e p.2)) (zsL z (len * k))) el) :: L)) :
    WO P ops c Q S fuel listed i e B L := by
  obtain ⟨ti, ht, hti, hsize, hby, hz, hzs⟩ := slT_spec hT
  subst hsize
  have hlen : (zsL z (len * ti.size)).length = len * ti.size := by simp [zsL]
  have hf' := hf
  rw [← hlen] at hf'
  have hfe := fill_eq (plA len ti.size) (parts.map fun p => (p.1, ev c.n e p.2)) _ hf'
  rw [← fill_arr len ti.size _ _ hf'] at hfe
  refine o_val hi rfl rfl (fun w hw => ⟨_, _, B, _, ?_, hw.new, h w.heap.size (fun p hp => lt_of_blk (hw.own p hp)) (fun x hx => (hw.fr x hx).size)⟩)
  have e1 : ((Array.range (len * ti.size)).map (fun j => z.cells[j % z.cells.size]!)) = (zsL z (len * ti.size)).toArray := by simp [zsL, Array.toList_range, ← List.toArray_range]
  have h0 : ¬ len * ti.size = 0 := by omega
  have h1 : ¬ 16777216 < len * ti.size := by have := Nat.le_of_ble_eq_true hs; omega
  unfold Run
  simp only [execOp, Instr.buildSlice, Sem.run_bind, run_underlying ht, Result.andThen_ok, sizeOf, typeInfo, run_program, hti, Sem.run_pure, zeroValue, hz, h0, if_false, List.map_toArray]
  rw [if_neg (by simpa using h1)]
  simp only [Sem.run_bind, run_program, Result.andThen_ok, hti, Sem.run_pure, hz, e1, hfe, newRow, run_newObj]
  rfl
end
end Go.Sx
end
section
namespace Go.Sx
open Go.RowKit Go.Tree Go.Tok Go.Prs
def smAt : Sm → Int | .mk _ a _ _ _ _ => a
abbrev Ad3 := (Option Addr × Nat) × (Option Addr × Nat) × (Option Addr × Nat)
abbrev smE (s : Sm) (b : Ad3) : List Value := [.int .u8 (s.op : Nat), .int .i64 (smAt s), str s.nm, .slice b.1.1 s.kids.length b.1.2, .slice b.2.1.1 s.body.length b.2.1.2, .slice b.2.2.1 s.els.length b.2.2.2]
structure smT (W : World) (N : Nat → Prop) (s : Sm) (b : Ad3) : Prop where
  ks : exsV W N s.kids b.1
  bs : smsV W N s.body b.2.1
  es : smsV W N s.els b.2.2
theorem TL.smt : TL smT := ⟨fun h hf hn => ⟨TL.exs.fr h.ks hf hn, TL.sms.fr h.bs hf hn, TL.sms.fr h.es hf hn⟩, fun h hn => ⟨TL.exs.mono h.ks hn, TL.sms.mono h.bs hn, TL.sms.mono h.es hn⟩⟩
theorem smT.M {W : World} {N : Nat → Prop} {s : Sm} {b : Ad3} (h : smT W N s b) : smM W N s (smE s b) := by
  obtain ⟨op, at_, nm, ks, bo, el⟩ := s
  unfold smM
  exact ⟨b.1.1, b.1.2, b.2.1.1, b.2.1.2, b.2.2.1, b.2.2.2, rfl, h.ks.1, h.ks.2, h.bs.2, h.es.2⟩
theorem smT.setS {W : World} {N : Nat → Prop} {s : Sm} {b : Ad3} (h : smT W N s b) (a : Int) : smT W N (Go.Prs.setS s a) b := by
  cases s; exact ⟨h.ks, h.bs, h.es⟩
def smC (W : World) (N : Nat → Prop) (s : Sm) (cs : List Value) : Prop := ∃ b, cs = smE s b ∧ smT W N s b
theorem TL.smc : TL smC := ⟨fun ⟨b, h, k⟩ hf hn => ⟨b, h, TL.smt.fr k hf hn⟩, fun ⟨b, h, k⟩ hn => ⟨b, h, TL.smt.mono k hn⟩⟩
theorem smC.M {W : World} {N : Nat → Prop} {s : Sm} {cs : List Value} (h : smC W N s cs) : smM W N s cs := by
  obtain ⟨b, rfl, h⟩ := h; exact h.M
theorem Kt.snocS {x : Bw} {s0 : Nat} {e : Sm} {b : Ad3} {l : List Sm} {xs : List Value} (hl : Kt x s0 (Mc 6 smC) l xs) (h : Kt x s0 smT e b) (hx : xs.length = l.length * 6) : Kt x s0 (Mc 6 smC) (l ++ [e]) (xs ++ smE e b) := Mc.snoc hl hx rfl ⟨b, rfl, h⟩
theorem exsV.nil {w : World} {N : Nat → Prop} : exsV w N [] (none, 0) := ⟨Nat.le_refl _, by unfold exsM; trivial⟩
theorem smsV.nil {w : World} {N : Nat → Prop} : smsV w N [] (none, 0) := ⟨Nat.le_refl _, by unfold smsM; trivial⟩
theorem exsV.one {w : World} {N : Nat → Prop} {e : Ex} {b : Option Addr × Nat} {sb : Nat} {T : TypeId} (h : exT w N e b) (hb : w.heap[sb]? = some (cel (exE e b) T)) (hN : N sb) : exsV w N [e] (some ⟨sb, 0, none⟩, 1) := ⟨Nat.le_refl _, kid1 h hb hN⟩
theorem own_sms {w : World} {N : Nat → Prop} {T : TypeId} {l : List Sm} {v : Value} {xs : List Value} {W : Heap} (h : Own T 6 v xs l.length W) (hW : ∀ p ∈ W, w.heap[p.1]? = some p.2) (hN : ∀ p ∈ W, N p.1) (hm : ∀ (j : Nat) e, l[j]? = some e → smM w N e ((xs.drop (j * 6)).take 6)) : ∃ b : Option Addr × Nat, v = .slice b.1 l.length b.2 ∧ smsV w N l b := by
  obtain ⟨hl, h⟩ := h
  rcases h with ⟨rfl, h0, rfl⟩ | ⟨q, c, sp, rfl, hc, hsp, rfl⟩
  · have : l = [] := List.length_eq_zero_iff.1 h0
    subst this
    exact ⟨(none, 0), rfl, smsV.nil⟩
  · refine ⟨(some ⟨q, 0, none⟩, c), rfl, hc, ?_⟩
    have hb := hW _ (List.mem_singleton.2 rfl)
    have hq := hN _ (List.mem_singleton.2 rfl)
    refine (show ∀ (m : List Sm) (i : Nat), (∀ (j : Nat) e, m[j]? = some e → l[i + j]? = some e) → smsM w N m (some ⟨q, 0, none⟩) (i * 6) from ?_) l 0 (fun j e he => by rw [Nat.zero_add]; exact he)
    intro m
    induction m with
    | nil => intro i _; unfold smsM; trivial
    | cons e m ih =>
      intro i hi
      unfold smsM
      refine ⟨⟨_, at_blk hb hq (fun j v hj => ?_), hm i e (by simpa using hi 0 e rfl)⟩, ?_⟩
      · have hj4 : j < 6 := by have := (List.getElem?_eq_some_iff.1 hj).1; rw [List.length_take] at this; omega
        rw [List.getElem?_take, if_pos hj4, List.getElem?_drop] at hj
        rw [List.getElem?_append_left (List.getElem?_eq_some_iff.1 hj).1]; exact hj
      · have := ih (i + 1) (fun j u hu => by rw [show i + 1 + j = i + (j + 1) by omega]; exact hi (j + 1) u (by simpa using hu))
        rwa [show (i + 1) * 6 = i * 6 + 6 by omega] at this
abbrev Ad4 := (Option Addr × Nat) × (Option Addr × Nat) × (Option Addr × Nat) × (Option Addr × Nat)
abbrev dcE (d : Dc) (b : Ad4) : List Value := [.int .u8 (d.ty : Nat), .int .i64 d.at_, str d.nm, .slice b.1.1 d.size.length b.1.2, .slice b.2.1.1 d.lower.length b.2.1.2, .slice b.2.2.1.1 d.upper.length b.2.2.1.2, .slice b.2.2.2.1 d.init.length b.2.2.2.2]
structure dcT (W : World) (N : Nat → Prop) (d : Dc) (b : Ad4) : Prop where
  sz : exsV W N d.size b.1
  lo : exsV W N d.lower b.2.1
  up : exsV W N d.upper b.2.2.1
  ini : exsV W N d.init b.2.2.2
theorem TL.dct : TL dcT := ⟨fun h hf hn => ⟨TL.exs.fr h.sz hf hn, TL.exs.fr h.lo hf hn, TL.exs.fr h.up hf hn, TL.exs.fr h.ini hf hn⟩, fun h hn => ⟨TL.exs.mono h.sz hn, TL.exs.mono h.lo hn, TL.exs.mono h.up hn, TL.exs.mono h.ini hn⟩⟩
theorem dcT.M {W : World} {N : Nat → Prop} {d : Dc} {b : Ad4} (h : dcT W N d b) : dcM W N d (dcE d b) := ⟨b.1.1, b.1.2, b.2.1.1, b.2.1.2, b.2.2.1.1, b.2.2.1.2, b.2.2.2.1, b.2.2.2.2, rfl, h.sz.2, h.lo.2, h.up.2, h.ini.2⟩
def dcT1 (W : World) (N : Nat → Prop) (d : Bool × Dc) (b : Ad4) : Prop := dcT W N d.2 b
theorem TL.dct1 : TL dcT1 := ⟨fun h hf hn => TL.dct.fr h hf hn, fun h hn => TL.dct.mono h hn⟩
theorem Kt.snocD {x : Bw} {s0 : Nat} {d : Dc} {b : Ad4} {l : List Dc} {xs : List Value} (hl : Kt x s0 (Mc 7 dcM) l xs) (h : Kt x s0 dcT d b) (hx : xs.length = l.length * 7) : Kt x s0 (Mc 7 dcM) (l ++ [d]) (xs ++ dcE d b) := Mc.snoc hl hx rfl (dcT.M h)
def dcsV (W : World) (N : Nat → Prop) (l : List Dc) (b : Option Addr × Nat) : Prop := dcsM W N l b.1
theorem TL.dcs : TL dcsV := ⟨fun h hf hn => dcsM.fr h hf hn, fun h hn => dcsM.mono hn h⟩
theorem dcsV.nil {w : World} {N : Nat → Prop} : dcsV w N [] (none, 0) := fun k d h => by simp at h
theorem own_dcs {w : World} {N : Nat → Prop} {T : TypeId} {l : List Dc} {v : Value} {xs : List Value} {W : Heap} (h : Own T 7 v xs l.length W) (hW : ∀ p ∈ W, w.heap[p.1]? = some p.2) (hN : ∀ p ∈ W, N p.1) (hm : ∀ (j : Nat) e, l[j]? = some e → dcM w N e ((xs.drop (j * 7)).take 7)) : ∃ b : Option Addr × Nat, v = .slice b.1 l.length b.2 ∧ dcsV w N l b := by
  obtain ⟨hl, h⟩ := h
  rcases h with ⟨rfl, h0, rfl⟩ | ⟨q, c, sp, rfl, hc, hsp, rfl⟩
  · have : l = [] := List.length_eq_zero_iff.1 h0
    subst this
    exact ⟨(none, 0), rfl, dcsV.nil⟩
  refine ⟨(some ⟨q, 0, none⟩, c), rfl, fun k d hk => ⟨_, at_blk (hW _ (List.mem_singleton.2 rfl)) (hN _ (List.mem_singleton.2 rfl)) (fun j v hj => ?_), hm k d hk⟩⟩
  have hj7 : j < 7 := by have := (List.getElem?_eq_some_iff.1 hj).1; rw [List.length_take] at this; omega
  rw [List.getElem?_take, if_pos hj7, List.getElem?_drop] at hj
  rw [List.getElem?_append_left (List.getElem?_eq_some_iff.1 hj).1]; exact hj
abbrev bkE (b : Bk) (a : (Option Addr × Nat) × (Option Addr × Nat)) : List Value := [.bool b.is, .slice a.1.1 b.decls.length a.1.2, .slice a.2.1 b.stmts.length a.2.2]
structure bkU (W : World) (N : Nat → Prop) (b : Bk) (a : (Option Addr × Nat) × (Option Addr × Nat)) : Prop where
  ds : dcsV W N b.decls a.1
  ss : smsV W N b.stmts a.2
theorem TL.bkt : TL bkU := ⟨fun h hf hn => ⟨TL.dcs.fr h.ds hf hn, TL.sms.fr h.ss hf hn⟩, fun h hn => ⟨TL.dcs.mono h.ds hn, TL.sms.mono h.ss hn⟩⟩
theorem bkU.M {W : World} {N : Nat → Prop} {b : Bk} {a : (Option Addr × Nat) × (Option Addr × Nat)} (h : bkU W N b a) : bkM W N b (bkE b a) := ⟨a.1.1, a.1.2, a.2.1, a.2.2, rfl, h.ds, h.ss.2⟩
theorem St.mod2 {B : Base} {L : Heap} {w w' : World} (h : St B L w) (i j : Nat) {b b2 : Nat} {o o' o2 o2' : Obj} (hi : L[i]? = some (b, o)) (hj : L[j]? = some (b2, o2)) (hij : i ≠ j) (k : Fr (fun q => q = b ∨ q = b2) w w') (hb : w'.heap[b]? = some o') (hb2 : w'.heap[b2]? = some o2') : St B ((L.set i (b, o')).set j (b2, o2')) w' := by
  have hj' : (L.set i (b, o'))[j]? = some (b2, o2) := by rw [List.getElem?_set_ne hij]; exact hj
  have hm : ((L.set i (b, o')).set j (b2, o2')).map (·.1) = L.map (·.1) := by rw [map_set_fst hj', map_set_fst hi]
  have hmem : (b, o) ∈ L := List.mem_of_getElem? hi
  have hmem2 : (b2, o2) ∈ L := List.mem_of_getElem? hj
  have hne := h.ne i j hi hj hij
  refine ⟨fun x hx => (h.fr x hx).trans' k (fun _ _ s => s) ?_, ?_, by rw [hm]; exact h.nd, ?_⟩
  · rintro q hq (rfl | rfl)
    · rcases h.ok _ hmem x hx with hh | hh
      · exact hh
      dsimp only at hh; omega
    rcases h.ok _ hmem2 x hx with hh | hh
    · exact hh
    dsimp only at hh; omega
  · intro p hp
    obtain ⟨q, hq⟩ := List.getElem?_of_mem hp
    by_cases h1 : j = q
    · subst h1
      rw [List.getElem?_set_self (by rw [List.length_set]; exact (List.getElem?_eq_some_iff.1 hj).1)] at hq
      cases hq; exact hb2
    rw [List.getElem?_set_ne h1] at hq
    by_cases h2 : i = q
    · subst h2
      rw [List.getElem?_set_self (List.getElem?_eq_some_iff.1 hi).1] at hq
      cases hq; exact hb
    rw [List.getElem?_set_ne h2] at hq
    refine k.get (h.own p (List.mem_of_getElem? hq)) ?_
    rintro (he | he)
    · exact (h.ne q i hq hi (Ne.symm h2)) he
    exact (h.ne q j hq hj (Ne.symm h1)) he
  intro p hp x hx
  have : p.1 ∈ L.map (·.1) := by rw [← hm]; exact List.mem_map_of_mem hp
  obtain ⟨p', hp', he⟩ := List.mem_map.1 this
  rw [← he]; exact h.ok p' hp' x hx
theorem St.start2 (w : World) {S : Nat → Prop} {b b2 : Nat} {o o2 : Obj} (hb : w.heap[b]? = some o) (hb2 : w.heap[b2]? = some o2) (hne : b ≠ b2) (hs : S b) (hs2 : S b2) : St [(w, S)] [(b, o), (b2, o2)] w :=
  ⟨by simp; exact Fr.refl _ _, by simpa using ⟨hb, hb2⟩, by simpa using hne, by simp [hs, hs2]⟩
theorem Fr.row2 {w0 w w' : World} {rb db : Nat} (h : Fr (fun j => j = rb) w0 w) (k : Fr (fun j => j = rb ∨ j = db) w w') (hd : w0.heap.size ≤ db) : Fr (fun j => j = rb) w0 w' := h.trans' k (fun _ _ s => s) (by
  rintro j hj (rfl | rfl)
  · rfl
  omega)
theorem bnd_new {B : Base} {L : Heap} {w0 w w' : World} {S0 : Nat → Prop} (i j : Nat) {b b2 : Nat} {o o' o2 o2' : Obj} (h : St B L w) (hx : (w0, S0) ∈ B) (hi : L[i]? = some (b, o)) (hj : L[j]? = some (b2, o2)) (hij : i ≠ j) (k : Fr (fun q => q = b ∨ q = b2) w w') (hb : w'.heap[b]? = some o') (hb2 : w'.heap[b2]? = some o2') :
    St ((w', inL L) :: B) ((L.set i (b, o')).set j (b2, o2')) w' ∧ ∀ (l : List Ex) (a : Option Addr × Nat), exsV w' (Nn w w') l a → Kt (w', inL L) w0.heap.size exsV l a := by
  refine ⟨?_, fun l a hm => Kt.new hm TL.exs h (h.fr _ hx).size⟩
  have hj' : (L.set i (b, o'))[j]? = some (b2, o2) := by rw [List.getElem?_set_ne hij]; exact hj
  have hs := (h.mod2 i j hi hj hij k hb hb2).base1
  rwa [inL_set hj', inL_set hi] at hs
theorem ex_one {W : World} {N : Nat → Prop} {e : Ex} {cs : List Value} (h : exM W N e cs) : cs.length = 4 ∧ cs.all Value.oneCell' = true := by
  cases e
  unfold exM at h
  obtain ⟨a, c, rfl, _⟩ := h
  exact ⟨rfl, rfl⟩
theorem exs_row {W : World} {N : Nat → Prop} {b o : Nat} : ∀ (l : List Ex) (i : Nat), exsM W N l (some ⟨b, o, none⟩) i → ∃ news : List Value, news.length = l.length * 4 ∧ news.all Value.oneCell' = true ∧ (∀ (j : Nat) v, news[j]? = some v → W.cell? ⟨b, o + i + j, none⟩ = some v) ∧ Mc 4 exM W N l news ∧ (l ≠ [] → N b)
  | [], _, _ => ⟨[], rfl, rfl, fun j v h => by simp at h, Mc.nil, fun h => absurd rfl h⟩
  | e :: l, i, h => by
    unfold exsM at h
    obtain ⟨⟨cs, ⟨b', o', ha, hb, hc⟩, hm⟩, h2⟩ := h
    cases ha
    obtain ⟨news, g1, g2, g3, g4, _⟩ := exs_row l (i + 4) h2
    have h4 := ex_one hm
    refine ⟨cs ++ news, by rw [List.length_append, List.length_cons, h4.1, g1]; omega, by rw [List.all_append, h4.2, g2]; rfl, fun j v hj => ?_, ?_, fun _ => hb⟩
    · rcases Nat.lt_or_ge j 4 with h5 | h5
      · rw [List.getElem?_append_left (by omega)] at hj; exact hc j v hj
      · rw [List.getElem?_append_right (by omega), h4.1] at hj
        have := g3 _ _ hj
        rwa [show o + (i + 4) + (j - 4) = o + i + j by omega] at this
    · intro j u hu
      cases j with
      | zero =>
        obtain rfl : e = u := by simpa using hu
        rw [Nat.zero_mul, List.drop_zero, List.take_append_of_le_length (by omega), List.take_of_length_le (by omega)]
        exact hm
      | succ j =>
        have := g4 j u (by simpa using hu)
        rw [show (j + 1) * 4 = cs.length + j * 4 by rw [h4.1]; omega, ← List.drop_drop, List.drop_left]
        exact this
theorem TL.exc4 : TL (Mc 4 exM) := TL.cells TL.ex
section
variable {P : Program} {ops : Array Oper} {Q : Exit → Act → World → Prop} {c : Cf} {e : Env} {B : Base} {L : Heap} {rest : List Oper} {d : Nat} {ρ : Operand → Value} {D : Option Tmp} {g : Option (Nat × Bool)} {x y : Operand} {T : TypeId} {p : String} {ed : Array Edge} {t te bytes : Nat} {z v : Value} {xs : List Value} {W : Heap} {w : World}
theorem app_exs {X : Bw} {s0 : Nat} {ys : List Ex} {b : Option Addr × Nat} {n : Nat} (hT : slT P t te 4 bytes z) (hx : ρ x = v) (hv : Own te 4 v xs n W) (hy : ρ y = .slice b.1 ys.length b.2) (hK : Kt X s0 exsV ys b) (hX : X ∈ B) (hn : n + ys.length ≤ 1000001) (hby : bytes ≤ 1000) :
    ∃ news, Kt X s0 (Mc 4 exM) ys news ∧ news.length = ys.length * 4 ∧ ∀ (A : Heap) w, St B (A ++ (W ++ L)) w → ∃ v' w' W', Run P ⟨D, .call ⟨.builtin .append, #[x, y], #[t, t]⟩, T, p, ed, g⟩ ρ w v' w' ∧ Own te 4 v' (xs ++ news) (n + ys.length) W' ∧ St B (A ++ (W' ++ L)) w' := by
  obtain ⟨a, cp⟩ := b
  by_cases h0 : ys = []
  · subst h0
    refine ⟨[], Mc.nil, rfl, fun A w hw => ?_⟩
    obtain ⟨i, ht, hi, hsz, _, _, _⟩ := slT_spec hT
    obtain ⟨a1, c1, rfl⟩ := hv.slice
    have hs : Src P i.size t (.slice a 0 cp) 0 [] w := ⟨.inl ⟨te, ht⟩, fun _ => rfl, by cases a <;> simp [Builtin.firstCells, go_sem], by cases a <;> simp [Builtin.firstCells, go_sem], by simp, by simp⟩
    have hr := _root_.Go.run_append_nothing (P := P) w t t T te i ht hi a1 n c1 (Own.le hv) _ hs
    exact ⟨_, _, W, R_append hx hy hr, by simpa using hv, hw⟩
  have hl : 0 < ys.length := List.length_pos_iff.2 h0
  obtain ⟨h1, h2⟩ := hK
  obtain ⟨y0, l, rfl⟩ := List.exists_cons_of_ne_nil h0
  have h3 := h2
  unfold exsM at h3
  obtain ⟨⟨_, ⟨q, o, ha, _, _⟩, _⟩, _⟩ := h3
  dsimp only at ha
  subst ha
  obtain ⟨news, g1, g2, g3, g4, g5⟩ := exs_row _ _ h2
  have hq := g5 h0
  refine ⟨news, g4, g1, fun A w hw => ?_⟩
  obtain ⟨v', w', L2, k1, k2, k3⟩ := app_run (ρ := ρ) (D := D) (g := g) (x := x) (y := y) (T := T) (p := p) (ed := ed) (A := A) (L := L) (news := news) hT (by decide) hx (hv.toR A L) hy g1 (fun w hw j u hj => cel_old hX (g3 j u hj) hq.2.2 hw) g2 hl (by omega)
    (Nat.le_trans (Nat.mul_le_mul hn hby) (by decide)) hw
  obtain ⟨W', k4, rfl⟩ := k2.own
  exact ⟨v', w', W', k1, k4, k3⟩
theorem o_app {q fuel k n m b2 o2 c2 : Nat} {S : World → Prop} {listed : Array Bool} {news : List Value} (A : Heap) (hq : ops[q]? = some ⟨some d, .call ⟨.builtin .append, #[x, y], #[t, t]⟩, T, p, ed, none⟩) (hT : slT P t te k bytes z) (hk : 0 < k) (hx : ev c.n e x = v) (hown : Own te k v xs n W) (hy : ev c.n e y = .slice (some ⟨b2, o2, none⟩) m c2)
    (hl : news.length = m * k) (hnews : ∀ w, St B (A ++ (W ++ L)) w → ∀ (j : Nat) u, news[j]? = some u → w.cell? ⟨b2, o2 + j, none⟩ = some u) (h1 : news.all Value.oneCell' = true) (hm : 0 < m) (h63 : n + m ≤ 9223372036854775807) (hbytes : (n + m) * bytes ≤ 140737488355328)
    (h : ∀ v' W', Own te k v' (xs ++ news) (n + m) W' → WH P ops c Q S fuel (listed.setIfInBounds q true) (upd e d v') B (A ++ (W' ++ L))) : WO P ops c Q S fuel listed q e B (A ++ (W ++ L)) :=
  o_val hq rfl rfl fun w hw => by
    obtain ⟨v', w', L2, k1, k2, k3⟩ := app_run (ρ := ev c.n e) (D := some d) (g := none) (x := x) (y := y) (T := T) (p := p) (ed := ed) (A := A) (L := L) (news := news) hT hk hx (hown.toR A L) hy hl hnews h1 hm h63 hbytes hw
    obtain ⟨W', k4, rfl⟩ := k2.own
    exact ⟨v', w', B, _, k1, k3, h v' W' k4⟩
theorem o_st {q fuel : Nat} {S : World → Prop} {listed : Array Bool} {B' : Base} {L' : Heap} (hc : ∀ w, St B L w → St B' L' w) (h : WO P ops c Q S fuel listed q e B' L') : WO P ops c Q S fuel listed q e B L := by
  unfold WO at *
  exact fun w hw => h w (hc w hw)
theorem o_any {q fuel : Nat} {S : World → Prop} {listed : Array Bool} {o : Oper} {R : Value → Heap → Prop} (hq : ops[q]? = some o) (hg : plainB o = true) (hd : o.dst = some d) {F : Heap → Heap} (hr : ∀ w, St B L w → ∃ v' w' W', Run P o (ev c.n e) w v' w' ∧ R v' W' ∧ St B (F W') w')
    (h : ∀ v' W', R v' W' → WH P ops c Q S fuel (listed.setIfInBounds q true) (upd e d v') B (F W')) : WO P ops c Q S fuel listed q e B L :=
  o_val hq hg hd fun w hw => by
    obtain ⟨v', w', W', h1, h2, h3⟩ := hr w hw
    exact ⟨v', w', B, _, h1, h3, h v' W' h2⟩
theorem app_grow {b n m b2 o2 c2 : Nat} {news : List Value} (hT : slT P t te 4 bytes z) (hx : ρ x = .slice (some ⟨b, 0, none⟩) n n) (hxl : xs.length = n * 4) (hxs : ∀ (j : Nat) u, xs[j]? = some u → w.cell? ⟨b, 0 + j, none⟩ = some u)
    (hy : ρ y = .slice (some ⟨b2, o2, none⟩) m c2) (hl : news.length = m * 4) (hnews : ∀ (j : Nat) u, news[j]? = some u → w.cell? ⟨b2, o2 + j, none⟩ = some u) (hm : 0 < m) (hn : n + m ≤ 100000) (hby : bytes ≤ 1000) (hw : St B L w) :
    ∃ v' w' W', Run P ⟨D, .call ⟨.builtin .append, #[x, y], #[t, t]⟩, T, p, ed, g⟩ ρ w v' w' ∧ Own te 4 v' (xs ++ news) (n + m) W' ∧ St B (W' ++ L) w' := by
  obtain ⟨i, ht, hi, hsz, hb, hz, hzs⟩ := slT_spec hT
  subst hb
  have hge := grownCap_ge w (n + m) n te
  have ad : ∀ (q k j : Nat), (⟨q, k, none⟩ : Addr).add j = ⟨q, k + j, none⟩ := fun q k j => by unfold Addr.add; split <;> simp_all
  have hlen : (xs ++ news).length = (n + m) * 4 := by rw [List.length_append, hxl, hl]; omega
  have hr := run_append_grow (P := P) w t T te i z ht hi hz ⟨b, 0, none⟩ n n xs (by rw [hsz]; exact hxl) (fun j u hu => by rw [ad]; exact hxs j u hu) ⟨b2, o2, none⟩ m c2 news (by rw [hsz]; exact hl) (fun j u hu => by rw [ad]; exact hnews j u hu) (by omega) (by omega) (growslice_fits (by omega) (Nat.le_trans (Nat.mul_le_mul hn hby) (by decide)))
  have hs := (hw.drawn (w.drawn + 1)).new (o := cel (xs ++ news ++ (Builtin.zeroCells z.cells (grownCap w (n + m) n te - (n + m))).toList) te)
  have e1 : (xs.toArray ++ news.toArray ++ Builtin.zeroCells z.cells (grownCap w (n + m) n te - (n + m)) : Array Value) = (xs ++ news ++ (Builtin.zeroCells z.cells (grownCap w (n + m) n te - (n + m))).toList).toArray := by simp
  rw [e1] at hr
  refine ⟨_, _, [(w.heap.size, _)], R_append hx hy hr, ⟨hlen, .inr ⟨w.heap.size, grownCap w (n + m) n te, _, rfl, hge, ?_, rfl⟩⟩, hs⟩
  rw [Array.length_toList, size_zeroCells, hzs]
theorem app_place {X : Bw} {s0 : Nat} {e1 e2 : Ex} {b1 b2 : Option Addr × Nat} {sb i : Nat} (hT : slT P t te 4 bytes z) (hx : ρ x = .slice b1.1 e1.kids.length b1.2) (hK : Kt X s0 exT e1 b1) (hop : e1.op = 2 ∨ e1.op = 3) (hX : X ∈ B)
    (hy : ρ y = .slice (some ⟨sb, 0, none⟩) 1 1) (hi : L[i]? = some (sb, cel (exE e2 b2) te)) (hby : bytes ≤ 1000) :
    ∃ ks, Kt X s0 (Mc 4 exM) e1.kids ks ∧ ks.length = e1.kids.length * 4 ∧ ∀ w, St B L w → ∃ v' w' W', Run P ⟨D, .call ⟨.builtin .append, #[x, y], #[t, t]⟩, T, p, ed, g⟩ ρ w v' w' ∧ Own te 4 v' (ks ++ exE e2 b2) (e1.kids.length + 1) W' ∧ St B (W' ++ L) w' := by
  rcases hop with hop | hop
  · obtain ⟨h1, h2⟩ := hK.nm hop
    rw [h1, h2] at hx
    rw [h1]
    refine ⟨[], Mc.nil, rfl, fun w hw => ?_⟩
    obtain ⟨v', w', L2, k1, k2, k3⟩ := app_run (ρ := ρ) (D := D) (g := g) (x := x) (y := y) (T := T) (p := p) (ed := ed) (A := []) (L := L) (L1 := L) (news := exE e2 b2) (n := 0) (xs := []) hT (by decide) hx (OwnR.nil te 4 [] L) hy rfl (fun w hw j u hj => zc i hi (by rw [Nat.zero_add]; exact hj) hw) rfl (by decide) (by decide)
      (Nat.le_trans (Nat.mul_le_mul (show 0 + 1 ≤ 1 by decide) hby) (by decide)) hw
    obtain ⟨W', k4, rfl⟩ := k2.own
    exact ⟨v', w', W', k1, k4, k3⟩
  obtain ⟨h1, q, h2⟩ := hK.ix hop
  have hks := hK.ks
  rw [h2] at hx hks
  rw [h1] at hx
  obtain ⟨ks, g1, g2, g3, g4, g5⟩ := exs_row _ _ hks
  have hq := g5 (fun h => by rw [h] at h1; cases h1)
  refine ⟨ks, g4, g1, fun w hw => ?_⟩
  rw [h1] at g1 ⊢
  exact app_grow (n := 1) (m := 1) hT hx g1 (fun j u hj => cel_old hX (g3 j u hj) hq.2.2 hw) hy rfl (fun j u hj => zc i hi (by rw [Nat.zero_add]; exact hj) hw) (by decide) (by decide) hby hw
end
theorem Kt.snocM {x : Bw} {s0 : Nat} {e : Ex} {b : Option Addr × Nat} {l : List Ex} {xs : List Value} (hl : Kt x s0 (Mc 4 exM) l xs) (h : Kt x s0 exT e b) (hx : xs.length = l.length * 4) : Kt x s0 (Mc 4 exM) (l ++ [e]) (xs ++ exE e b) := Mc.snoc hl hx rfl (exT.M h)
theorem Kt.consM {x : Bw} {s0 : Nat} {e : Ex} {b : Option Addr × Nat} {l : List Ex} {news : List Value} (h : Kt x s0 exT e b) (hl : Kt x s0 (Mc 4 exM) l news) : Kt x s0 (Mc 4 exM) (e :: l) (exE e b ++ news) := fun j u hu => by
  cases j with
  | zero =>
    obtain rfl : e = u := by simpa using hu
    exact exT.M h
  | succ j =>
    have := hl j u (by simpa using hu)
    rw [show (j + 1) * 4 = (exE e b).length + j * 4 by show (j + 1) * 4 = 4 + j * 4; omega, ← List.drop_drop, List.drop_left]
    exact this
section
variable {P : Program} {ops : Array Oper} {Q : Exit → Act → World → Prop} {c : Cf} {e : Env} {B : Base} {L : Heap} {d : Nat} {x y : Operand} {T : TypeId} {p : String} {ed : Array Edge} {t te bytes : Nat} {z v : Value} {xs : List Value} {W : Heap} {q fuel : Nat} {S : World → Prop} {listed : Array Bool}
theorem o_place {X : Bw} {s0 : Nat} {e1 e2 : Ex} {b1 b2 : Option Addr × Nat} {sb : Nat} (i : Nat) (hq : ops[q]? = some ⟨some d, .call ⟨.builtin .append, #[x, y], #[t, t]⟩, T, p, ed, none⟩) (hT : slT P t te 4 bytes z) (hx : ev c.n e x = .slice b1.1 e1.kids.length b1.2) (hK : Kt X s0 exT e1 b1) (hop : e1.op = 2 ∨ e1.op = 3) (hX : X ∈ B)
    (hy : ev c.n e y = .slice (some ⟨sb, 0, none⟩) 1 1) (hi : L[i]? = some (sb, cel (exE e2 b2) te)) (hby : bytes ≤ 1000)
    (h : ∀ ks v' W', Kt X s0 (Mc 4 exM) e1.kids ks → ks.length = e1.kids.length * 4 → Own te 4 v' (ks ++ exE e2 b2) (e1.kids.length + 1) W' → WH P ops c Q S fuel (listed.setIfInBounds q true) (upd e d v') B (L ++ W')) : WO P ops c Q S fuel listed q e B L := by
  obtain ⟨ks, h1, h2, h3⟩ := app_place (ρ := ev c.n e) (D := some d) (g := none) (T := T) (p := p) (ed := ed) hT hx hK hop hX hy hi hby
  refine o_val hq rfl rfl fun w hw => ?_
  obtain ⟨v', w', W', k1, k2, k3⟩ := h3 w hw
  exact ⟨v', w', B, _, k1, k3.perm List.perm_append_comm, h ks v' W' h1 h2 k2⟩
theorem o_exs {X : Bw} {s0 : Nat} {ys : List Ex} {b : Option Addr × Nat} {n : Nat} (hq : ops[q]? = some ⟨some d, .call ⟨.builtin .append, #[x, y], #[t, t]⟩, T, p, ed, none⟩) (hT : slT P t te 4 bytes z) (hx : ev c.n e x = v) (hv : Own te 4 v xs n W) (hy : ev c.n e y = .slice b.1 ys.length b.2) (hK : Kt X s0 exsV ys b) (hX : X ∈ B) (hn : n + ys.length ≤ 1000001) (hby : bytes ≤ 1000)
    (h : ∀ news v' W', Kt X s0 (Mc 4 exM) ys news → news.length = ys.length * 4 → Own te 4 v' (xs ++ news) (n + ys.length) W' → WH P ops c Q S fuel (listed.setIfInBounds q true) (upd e d v') B (L ++ W')) : WO P ops c Q S fuel listed q e B (W ++ L) := by
  obtain ⟨news, h1, h2, h3⟩ := app_exs (L := L) (ρ := ev c.n e) (D := some d) (g := none) (T := T) (p := p) (ed := ed) hT hx hv hy hK hX hn hby
  refine o_val hq rfl rfl fun w hw => ?_
  obtain ⟨v', w', W', k1, k2, k3⟩ := h3 [] w hw
  exact ⟨v', w', B, _, k1, St.perm k3 (by rw [List.nil_append]; exact List.perm_append_comm), h news v' W' h1 h2 k2⟩
end
theorem smE_setS (s : Sm) (a : Int) (b : Ad3) : smE (Go.Prs.setS s a) b = [.int .u8 (s.op : Nat), .int .i64 a, str s.nm, .slice b.1.1 s.kids.length b.1.2, .slice b.2.1.1 s.body.length b.2.1.2, .slice b.2.2.1 s.els.length b.2.2.2] := by cases s; rfl
section
variable {P : Program} {ops : Array Oper} {Q : Exit → Act → World → Prop} {c : Cf} {e : Env} {B : Base} {L : Heap} {rest : List Oper} {v : Value} {d : Nat} {q : Md} {x y z : Operand} {T : TypeId} {p : String} {a : Array Edge}
theorem w_insS (i : Nat) {b : Nat} {s : List UInt8} {l : List (List UInt8 × Value)} {t te : TypeId} {tk : TypeId} (hi : L[i]? = some (b, mpS l)) (ht : P.underlying t = some (.map tk te)) (hk : P.underlying tk = some .string) (hx : ev c.n e x = .map (some b)) (hy : ev c.n e y = str s) (hz : ev c.n e z = v) (hn : (l.lookup s).isNone = true)
    (h : WX .sq P ops c Q rest e B (L.set i (b, mpS (l ++ [(s, v)])))) : WX .sq P ops c Q (⟨none, .insert t x y z, T, p, a, none⟩ :: rest) e B L := by
  unfold WX at *
  intro w hw
  have hb := hw.at_ i hi
  unfold mpS at hb
  obtain ⟨r, h1, h2⟩ := find_strs s l 0 0
  have hr : r = none := by
    rw [Option.isNone_iff_eq_none.1 hn] at h2
    cases r with
    | none => rfl
    | some r => simp at h2
  subst hr
  have hck : ∀ (em : Bool) (w : World), (Instr.checkKey em 10000 tk (str s)).run P w = .ok () w := fun em w => MapKept.run_checkKey (d := .string) hk (show MapKept.IsKey .string (str s) from True.intro) em 9999
  have hr : (Instr.mapUpdate t (.map (some b)) (str s) v).run P w = .ok () (w.putObj b (mpS (l ++ [(s, v)]))) := by
    simp [Instr.mapUpdate, run_underlying ht, MapKept.run_getObj_map hb, hck, MapKept.run_findKey hk h1, MapKept.run_setObj_map _ hb, Result.andThen, World.putObj, mpS, entsF_snoc]
  refine s_unit (w' := w.putObj b (mpS (l ++ [(s, v)]))) ?_ rfl rfl (h _ (hw.putO i hi))
  simp only [RunU, execOp, hx, hy, hz, Sem.run_bind, hr, Result.andThen]
  rfl
theorem w_lookS (i : Nat) {b : Nat} {s : List UInt8} {l : List (List UInt8 × Value)} {t te : TypeId} {tk : TypeId} {zv : Value} (hi : L[i]? = some (b, mpS l)) (ht : P.underlying t = some (.map tk te)) (hk : P.underlying tk = some .string) (hz : zeroB P te zv) (hx : ev c.n e x = .map (some b)) (hy : ev c.n e y = str s) (hv : (l.lookup s).getD zv = v)
    (h : WX q P ops c Q rest (upd e d v) B L) : WX q P ops c Q (⟨some d, .lookup t x y false, T, p, a, none⟩ :: rest) e B L := by
  refine w_run (fun w hw => ?_) rfl rfl h
  have hb := hw.at_ i hi
  unfold mpS at hb
  obtain ⟨r, h1, h2⟩ := find_strs s l 0 0
  have hzr : (zeroValue te).run P w = .ok zv w := by
    unfold zeroB at hz
    cases hti : P.info? te with
    | none => rw [hti] at hz; cases hz
    | some j => rw [hti] at hz; simp [zeroValue, typeInfo, hti, show j.zero = some zv by simpa using hz, go_sem]
  have hck : ∀ (em : Bool) (w : World), (Instr.checkKey em 10000 tk (str s)).run P w = .ok () w := fun em w => MapKept.run_checkKey (d := .string) hk (show MapKept.IsKey .string (str s) from True.intro) em 9999
  simp only [Run, execOp, hx, hy]
  subst hv
  rw [← h2]
  cases r with
  | none => simp [Instr.lookup, run_underlying ht, MapKept.run_getObj_map hb, hck, MapKept.run_findKey hk h1, hzr, Result.andThen, go_sem]
  | some r => simp [Instr.lookup, run_underlying ht, MapKept.run_getObj_map hb, hck, MapKept.run_findKey hk h1, Result.andThen, go_sem]
end
theorem look_none {s k1 k2 k3 k4 : List UInt8} {v1 v2 v3 v4 z : Value} (h : s ≠ k1 ∧ s ≠ k2 ∧ s ≠ k3 ∧ s ≠ k4) : (([(k1, v1), (k2, v2), (k3, v3), (k4, v4)] : List (List UInt8 × Value)).lookup s).getD z = z := by
  have q : ∀ k : List UInt8, s ≠ k → (s == k) = false := fun k h => by simpa using h
  simp only [List.lookup, q _ h.1, q _ h.2.1, q _ h.2.2.1, q _ h.2.2.2]
  rfl
theorem wrap8 {i : Nat} (h : i < 6) : IntKind.u8.wrap (10 + IntKind.u8.wrap (i : Int)) = ((10 + i : Nat) : Int) := by
  have : i = 0 ∨ i = 1 ∨ i = 2 ∨ i = 3 ∨ i = 4 ∨ i = 5 := by omega
  rcases this with rfl | rfl | rfl | rfl | rfl | rfl <;> rfl
end Go.Sx
end
section
namespace Go.Sx
open Go.RowKit Go.Tree Go.Tok Go.Prs
theorem w_env {q : Md} {P : Program} {ops : Array Oper} {c : Cf} {Q : Exit → Act → World → Prop} {rest : List Oper} {e : Env} {B : Base} {L : Heap} {t : Nat} {v : Value} (he : e t = v) (h : WX q P ops c Q rest (upd e t v) B L) : WX q P ops c Q rest e B L := by
  have hu : upd e t v = e := by
    funext i
    unfold upd
    cases hb : Nat.beq i t with
    | false => rfl
    | true => rw [Nat.eq_of_beq_eq_true hb]; exact he.symm
  rwa [hu] at h
def PostD (P : Program) (fn : Func) (R : Value → World → Prop) : Exit → Act → World → Prop := bodyPostD P fn fun e w' => ∃ v, e = .returned v ∧ R v w'
def PostR (P : Program) (fn : Func) (R : World → Prop) : Exit → Act → World → Prop := fun x a w => (x = .ret ∨ x = .normal) ∧ a.defers = [] ∧ ∃ v, (results fn a.tmps).run P w = .ok v w ∧ R w
section
variable {P : Program} {fn : Func} {R : Value → World → Prop} {n : Nat} {e : Env} {B : Base} {L : Heap} {ops : Array Oper} {Q : Exit → Act → World → Prop} {rest : List Oper} {o : Oper} {ds : List Deferred}
theorem enterD {f : FuncId} {x : Code} {l : List Value} {w : World} {S : Nat → Prop} {L : Heap} (n : Nat)
    (hf : P.funcs[f]? = some fn) (hb : fn.body = some x) (hn : fn.ntmps = n) (hl : Nat.ble l.length n = true) (hL : St [(w, S)] L w)
    (h : WC P (cf n) x (PostD P fn R) (ofL l) [(w, S)] L) : Ret P f l.toArray w R := by
  unfold WC at h
  have h1 := h w hL
  refine calls_of_wp_defers hf hb ?_
  rw [hn]
  have := enter_act l n (Nat.le_of_ble_eq_true hl)
  simp only [List.size_toArray] at *
  rw [this]
  exact wpIn_wide.1 h1
theorem w_defer {D : Deferred} (hr : ∀ w, (execOp (ev n e) o).run P w = .ok (.defer D) w) (hg : o.guard = none) (hd : o.dst = none)
    (h : WX .sq P ops ⟨n, D :: ds, none⟩ Q rest e B L) : WX .sq P ops ⟨n, ds, none⟩ Q (o :: rest) e B L := by
  unfold WX at *
  intro w hw
  have h1 := h w hw
  refine wpListIn_plain hg fun K hK => ⟨fun _ _ => trivial, ?_⟩
  rw [act_eval]
  show o.uponIn (fw none) 0 P (act ⟨n, ds, none⟩ e) K Q ((Oper.semAt none (ev n e) o).run P w)
  rw [Oper.semAt_none, hr, Oper.uponIn_defer, hd]
  exact hK _ _ h1
theorem R_defer {ρ : Operand → Value} {w : World} {x : Operand} {ty : TypeId} {pos : String} {aft : Array Edge} {f : FuncId} {ca : List Value} (hx : ρ x = .func (.func f) #[] ca.toArray) :
    (execOp ρ ⟨none, .defer ⟨.value x, #[], #[]⟩, ty, pos, aft, none⟩).run P w = .ok (.defer ⟨.fn (.func f) ca.toArray, #[]⟩) w := by
  simp [execOp, resolve, hx, go_sem]
variable {l : List ResultVar} {vs : List Value} {x : Exit} {f : FuncId} {ca : List Value} {args : Array Value}
theorem r_finD (hx : x = .ret ∨ x = .normal) (hr : fn.results = l.toArray) (hi : ∀ w, (invoke (.fn (.func f) ca.toArray) #[]).run P w = .ok (.enter f args) w)
    (hc : ∀ w, St B L w → CallsD P f args .returning w fun e u w' => (∃ v, e = .returned v) ∧ u = .returning ∧ St B L w')
    (hv : Res P ⟨n, [⟨.fn (.func f) ca.toArray, #[]⟩], none⟩ e B L l vs) (h : ∀ w, St B L w → R (pack vs) w) : WK ⟨n, [⟨.fn (.func f) ca.toArray, #[]⟩], none⟩ (PostD P fn R) x e B L := by
  unfold WK PostD
  intro w hw
  have h1 : Leaves P fn (act ⟨n, [⟨.fn (.func f) ca.toArray, #[]⟩], none⟩ e).tmps (fun e w' => ∃ v, e = .returned v ∧ R v w') [⟨.fn (.func f) ca.toArray, #[]⟩] .returning w := by
    refine leaves_cons (by simp) (hi w) ((hc w hw).mono ?_)
    rintro e u w' ⟨⟨v, rfl⟩, rfl, hw'⟩
    exact ⟨_, hv.results hr hw', _, rfl, h _ hw'⟩
  rcases hx with rfl | rfl <;> exact h1
theorem r_finD0 (hx : x = .ret ∨ x = .normal) (hr : fn.results = l.toArray) (hv : Res P (cf n) e B L l vs) (h : ∀ w, St B L w → R (pack vs) w) : WK (cf n) (PostD P fn R) x e B L := by
  unfold WK PostD
  intro w hw
  have h1 : Leaves P fn (act (cf n) e).tmps (fun e w' => ∃ v, e = .returned v ∧ R v w') [] .returning w := ⟨_, hv.results hr hw, _, rfl, h w hw⟩
  rcases hx with rfl | rfl <;> exact h1
theorem d_out {ch : List PanicEntry} {w : World} (hr : fn.results = l.toArray) (hi : ∀ w, (invoke (.fn (.func f) ca.toArray) #[]).run P w = .ok (.enter f args) w)
    (hc : CallsD P f args (.panicking ch) w fun e u w' => (∃ v, e = .returned v) ∧ settle u = .returning ∧ St B L w')
    (hv : Res P ⟨n, [⟨.fn (.func f) ca.toArray, #[]⟩], none⟩ e B L l vs) (h : ∀ w, St B L w → R (pack vs) w) : PostD P fn R (.panic ch) (act ⟨n, [⟨.fn (.func f) ca.toArray, #[]⟩], none⟩ e) w := by
  unfold PostD
  refine leaves_cons (by simp) (hi w) (hc.mono ?_)
  rintro e' u w' ⟨⟨v, rfl⟩, hu, hw⟩
  show Leaves P fn _ _ [] (settle u) w'
  rw [hu]
  exact ⟨_, hv.results hr hw, _, rfl, h _ hw⟩
theorem w_callD {f : FuncId} {args : Array Value} {d : Nat} {c : Cf} {R : World → Value → World → Prop} {E : World → List PanicEntry → World → Prop} (hr : ∀ w, RunE P o (ev c.n e) w f args) (hg : plainB o = true) (hd : o.dst = some d) (hc : ∀ w, St B L w → RetP P f args w (R w) (E w))
    (h : ∀ w, St B L w → ∀ v w', R w v w' → ∃ B' L', St B' L' w' ∧ WX .sq P ops c Q rest (upd e d v) B' L')
    (hE : ∀ w, St B L w → ∀ ch w', E w ch w' → Q (.panic ch) (act c e) w') : WX .sq P ops c Q (o :: rest) e B L := by
  unfold WX at *
  exact fun w hw => s_callP (hr w) hg (hc w hw) (fun v w' hv => by
    obtain ⟨B', L', h1, h2⟩ := h w hw v w' hv
    rw [hd, act_put]
    exact h2 w' h1) (fun ch w' h => hE w hw ch w' h)
theorem enterR {f : FuncId} {rest : Code} {l : List Value} {w : World} {t : TypeId} {pv : Value} {older : List PanicEntry} {id d1 d2 : Nat} {T1 T2 : TypeId} {p1 p2 : String} {a1 a2 : Array Edge} {R : World → Prop} (n : Nat)
    (hf : P.funcs[f]? = some fn) (hb : fn.body = some (.seq (.region id #[⟨some d1, .call ⟨.builtin .recover, #[], #[]⟩, T1, p1, a1, none⟩, ⟨some d2, .assign (.tmp d1), T2, p2, a2, none⟩] false) rest)) (hn : fn.ntmps = n) (hl : Nat.ble l.length n = true) (h1 : Nat.blt d1 n = true)
    (h : ∃ B L, St B L w ∧ WC P (cf n) rest (PostR P fn R) (upd (upd (ofL l) d1 (.iface t pv)) d2 (.iface t pv)) B L) :
    CallsD P f l.toArray (.panicking ({ v := .iface t pv, recovered := false } :: older)) w fun e u w' => (∃ v, e = .returned v) ∧ u = .panicking ({ v := .iface t pv, recovered := true } :: older) ∧ R w' := by
  refine callsD_of_wpS hf hb fun c₀ cs hu => ?_
  rw [hn]
  have he := enter_act l n (Nat.le_of_ble_eq_true hl)
  simp only [List.size_toArray] at he ⊢
  rw [he]
  have hsz : d1 < (act (cf n) (ofL l)).tmps.size := by simpa [act, Nat.blt_eq] using h1
  apply wpS_seq
  apply wpS_region
  simp [wpOpsS, go_sem, recoverD, hu, Exit.thenS, act_eval, Region.wanted]
  rw [if_pos hsz]
  have e1 : ({ tmps := ((act (cf n) (ofL l)).tmps.setIfInBounds d1 (.iface t pv)).setIfInBounds d2 (.iface t pv), defers := (act (cf n) (ofL l)).defers } : Act) = act (cf n) (upd (upd (ofL l) d1 (.iface t pv)) d2 (.iface t pv)) := by simp only [act, set_ofFn]
  rw [e1]
  obtain ⟨B, L, hw, h⟩ := h
  unfold WC at h
  refine wpS_of_wp (_root_.Go.wp_mono (wpIn_wide.1 (h w hw)) ?_)
  rintro x a w' ⟨hx, hd, v, hr, hR⟩
  rcases hx with rfl | rfl <;> exact ⟨hd, _, rfl, v, hr, ⟨v, rfl⟩, rfl, hR⟩
theorem enterR0 {f : FuncId} {rest : Code} {l : List Value} {w : World} {id d1 d2 : Nat} {T1 T2 : TypeId} {p1 p2 : String} {a1 a2 : Array Edge} {R : World → Prop} (n : Nat)
    (hf : P.funcs[f]? = some fn) (hb : fn.body = some (.seq (.region id #[⟨some d1, .call ⟨.builtin .recover, #[], #[]⟩, T1, p1, a1, none⟩, ⟨some d2, .assign (.tmp d1), T2, p2, a2, none⟩] false) rest)) (hn : fn.ntmps = n) (hl : Nat.ble l.length n = true) (h1 : Nat.blt d1 n = true)
    (h : ∃ B L, St B L w ∧ WC P (cf n) rest (PostR P fn R) (upd (upd (ofL l) d1 .nilIface) d2 .nilIface) B L) :
    CallsD P f l.toArray .returning w fun e u w' => (∃ v, e = .returned v) ∧ u = .returning ∧ R w' := by
  refine callsD_of_wpS hf hb fun c₀ cs hu => ?_
  rw [hn]
  have he := enter_act l n (Nat.le_of_ble_eq_true hl)
  simp only [List.size_toArray] at he ⊢
  rw [he]
  have hsz : d1 < (act (cf n) (ofL l)).tmps.size := by simpa [act, Nat.blt_eq] using h1
  apply wpS_seq
  apply wpS_region
  simp [wpOpsS, go_sem, recoverD, hu, Exit.thenS, act_eval, Region.wanted]
  rw [if_pos hsz]
  have e1 : ({ tmps := ((act (cf n) (ofL l)).tmps.setIfInBounds d1 .nilIface).setIfInBounds d2 .nilIface, defers := (act (cf n) (ofL l)).defers } : Act) = act (cf n) (upd (upd (ofL l) d1 .nilIface) d2 .nilIface) := by simp only [act, set_ofFn]
  rw [e1]
  obtain ⟨B, L, hw, h⟩ := h
  unfold WC at h
  refine wpS_of_wp (_root_.Go.wp_mono (wpIn_wide.1 (h w hw)) ?_)
  rintro x a w' ⟨hx, hd, v, hr, hR⟩
  have hc : c₀ = { c₀ with mode := .returning } := by cases c₀; simp_all
  rcases hx with rfl | rfl <;> exact ⟨hd, .returning, by rw [← hc], v, hr, ⟨v, rfl⟩, rfl, hR⟩
end
section
variable {P : Program} {ops : Array Oper} {Q : Exit → Act → World → Prop} {c : Cf} {e : Env} {B : Base} {L : Heap} {fuel : Nat} {S : World → Prop} {listed : Array Bool} {v : Value} {rest : List Oper}
theorem o_storeW {i : Nat} {t T ty : TypeId} {x y : Operand} {p : String} {a : Array Edge} {b k : Nat} {cs : List Value} (vs : List Value) {ag : Bool} (j : Nat) (hi : ops[i]? = some ⟨none, .store t x y, ty, p, a, none⟩) (hj : L[j]? = some (b, cel cs T)) (hz : szB P t k ag = true) (hx : ev c.n e x = pX b) (hy : ev c.n e y = v)
    (hv : v.cells = vs.toArray) (hl : vs.length = k) (h1 : vs.all Value.oneCell' = true) (hcs : cs.length = k)
    (h : WH P ops c Q S fuel (listed.setIfInBounds i true) e B (L.set j (b, cel vs T))) : WO P ops c Q S fuel listed i e B L :=
  zJ j hi hj hz hx hy hv hl h1 (by rw [Nat.ble_eq]; omega) (by rw [List.take_zero, List.nil_append, List.drop_of_length_le (by omega), List.append_nil]) h
theorem w_storeW {t T ty : TypeId} {x y : Operand} {p : String} {a : Array Edge} {b k : Nat} {cs : List Value} (vs : List Value) {ag : Bool} (i : Nat) (hi : L[i]? = some (b, cel cs T)) (hz : szB P t k ag = true) (hx : ev c.n e x = pX b) (hy : ev c.n e y = v)
    (hv : v.cells = vs.toArray) (hl : vs.length = k) (h1 : vs.all Value.oneCell' = true) (hcs : cs.length = k)
    (h : WX .sq P ops c Q rest e B (L.set i (b, cel vs T))) : WX .sq P ops c Q (⟨none, .store t x y, ty, p, a, none⟩ :: rest) e B L :=
  zV i hi hz hx hy hv hl h1 (by rw [Nat.ble_eq]; omega) (by rw [List.take_zero, List.nil_append, List.drop_of_length_le (by omega), List.append_nil]) h
end
def taB (P : Program) (t : TypeId) : Bool := match P.underlying t with
  | some (.interface _) => false
  | some _ => true
  | none => false
section
variable {P : Program} {ρ : Operand → Value} {w : World} {D : Option Tmp} {ty t yt ti tp : TypeId} {pos : String} {aft : Array Edge} {g : Option (Nat × Bool)} {x y : Operand} {v : Value}
theorem R_ta (hu : taB P t = true) (hx : ρ x = .iface t v) : Run P ⟨D, .typeAssert x yt t false, ty, pos, aft, g⟩ ρ w v w := by
  unfold taB at hu
  cases h : P.underlying t with
  | none => rw [h] at hu; cases hu
  | some u => cases u <;> first | (rw [h] at hu; cases hu; done) | simp [Run, execOp, hx, Instr.typeAssert, run_underlying h, go_sem]
theorem eq_in {ms : Array (String × TypeId)} (h : P.underlying t = some (.interface ms)) : (Op.equal t (.iface tp v) .nilIface).run P w = .ok false w := by
  unfold Op.equal Op.maxDepth
  rw [show 10000 = 9999 + 1 from rfl]
  unfold Op.equalIn
  simp only [Sem.run_bind, run_underlying h, Result.andThen]
  rfl
theorem eq_n0 {ms : Array (String × TypeId)} (h : P.underlying t = some (.interface ms)) : (Op.equal t .nilIface .nilIface).run P w = .ok true w := by
  unfold Op.equal Op.maxDepth
  rw [show 10000 = 9999 + 1 from rfl]
  unfold Op.equalIn
  simp only [Sem.run_bind, run_underlying h, Result.andThen]
  rfl
theorem R_ine {ms : Array (String × TypeId)} (h : P.underlying t = some (.interface ms)) (hx : ρ x = .iface tp v) (hy : ρ y = .nilIface) : Run P ⟨D, .binOp .neq t x y yt, ty, pos, aft, g⟩ ρ w (.bool true) w := by
  simp only [Run, execOp, hx, hy, eqGuard, binOp, Sem.run_bind, eq_in h, Result.andThen]
  rfl
theorem R_ine0 {ms : Array (String × TypeId)} (h : P.underlying t = some (.interface ms)) (hx : ρ x = .nilIface) (hk : ρ (.const .nilIface) = .nilIface) : Run P ⟨D, .binOp .neq t x (.const .nilIface) yt, ty, pos, aft, g⟩ ρ w (.bool false) w := by
  simp only [Run, execOp, hx, hk, eqGuard, binOp, Sem.run_bind, eq_n0 h, Result.andThen, Bool.or_true, if_true, Bool.not_true, Bool.false_eq_true, if_false]
  rfl
theorem r_rec {fn : Func} {n : Nat} {e : Env} {B : Base} {L : Heap} {R : World → Prop} {x : Exit} (hx : x = .ret ∨ x = .normal) (hr : fn.results = #[]) (h : ∀ w, St B L w → R w) : WK (cf n) (PostR P fn R) x e B L := by
  unfold WK
  exact fun w hw => ⟨hx, rfl, _, results_none hr _ _ _, h w hw⟩
end
section
variable {P : Program} {w : World}
theorem invoke_cl {f : FuncId} {fn : Func} {c : Code} {ca : List Value} (hf : P.funcs[f]? = some fn) (hb : fn.body = some c) (hn : (fn.name == "runtime.NumGoroutine") = false) : (invoke (.fn (.func f) ca.toArray) #[]).run P w = .ok (.enter f ca.toArray) w := by
  have hn' : ¬ fn.name = "runtime.NumGoroutine" := by intro h; rw [h] at hn; exact absurd hn (by decide)
  simp [invoke, callFunc, hf, hb, hn', go_sem]
theorem Fr.obj {S : Nat → Prop} {w w' : World} {b : Nat} {o : Obj} (h : Fr S w w') (hb : w.heap[b]? = some o) : ∃ o', w'.heap[b]? = some o' :=
  ⟨_, Array.getElem?_eq_getElem (Nat.lt_of_lt_of_le (lt_of_blk hb) h.size)⟩
end
section
variable {α β γ : Type} {P : Program} {ops : Array Oper} {Q : Exit → Act → World → Prop} {c : Cf} {e : Env} {B : Base} {L : Heap} {rest : List Oper} {d : Nat} {o : Oper} {f : FuncId} {args : Array Value} {w0 : World} {S0 : Nat → Prop} {rb lo : Nat} {o1 : Obj} {T : List Tk} {ob : Nat → Obj} {V : α → β → Value} {M : World → (Nat → Prop) → α → β → Prop} {X : Except Fl (α × List Tk)} {F : α → List Tk → Except Fl γ} {G : Except Fl γ} {pan : Fl → List PanicEntry}
theorem w_pcD (i : Nat) (hi : L[i]? = some (rb, o1)) (hx : (w0, S0) ∈ B) (hM : TL M) (hG : G = andR X F) (hr : ∀ w, RunE P o (ev c.n e) w f args) (hg : plainB o = true) (hd : o.dst = some d)
    (hc : ∀ w, St B L w → RetP P f args w (PR T ob rb lo V M X w) (PE pan rb X w))
    (hE : ∀ fl w' o', G = .error fl → fl.1 ≠ 0 → St B (L.set i (rb, o')) w' → Q (.panic (pan fl)) (act c e) w')
    (h : ∀ a b k1 w1, X = .ok (a, T.drop k1) → G = F a (T.drop k1) → lo ≤ k1 → k1 ≤ T.length → Kt (w1, inL L) w0.heap.size M a b → WX .sq P ops c Q rest (upd e d (V a b)) ((w1, inL L) :: B) (L.set i (rb, ob k1))) : WX .sq P ops c Q (o :: rest) e B L := by
  refine w_callD hr hg hd hc ?_ ?_
  · rintro w hw v w' ⟨a, b, k1, h1, h2, h3, rfl, h4, h5, h6⟩
    obtain ⟨hs, hk⟩ := pc_new (ob := ob) hi hx hM hw h4 h5 h6
    exact ⟨_, _, hs, h a b k1 w' h1 (hG.trans (andR_of h1)) h2 h3 hk⟩
  rintro w hw ch w' ⟨fl, h1, h0, rfl, h2⟩
  obtain ⟨o', ho'⟩ := h2.obj (hw.at_ i hi)
  exact hE fl w' o' (hG.trans (andR_er h1)) h0 (hw.mod i hi h2 ho')
end
end Go.Sx
end
section
namespace Go.Sx
open Go.RowKit
abbrev pr (a b : Nat) : Value := .agg #[.int .u8 (a : Nat), .int .u8 (b : Nat)]
def mpP (l : List ((Nat × Nat) × Value)) : Obj := .map (entsF (fun p => pr p.1 p.2) l 0).toArray l.length
structure kyP (P : Program) (t e : TypeId) : Prop where
  u : P.underlying t = some (.array 2 e)
  b : P.underlying e = some (.int .u8)
  z : szB P e 1 false = true
section
variable {P : Program} {w : World} {t e : TypeId}
theorem part2a (h : kyP P t e) (a b : Value) (w : World) : (part e #[a, b] 0).run P w = .ok a w := by simp [part, run_isAgg h.z, Sem.run_bind]
theorem part2b (h : kyP P t e) (a b : Value) (w : World) : (part e #[a, b] 1).run P w = .ok b w := by simp [part, run_isAgg h.z, Sem.run_bind]
theorem eqP_run (h : kyP P t e) (n a b c d : Nat) : (Op.equalIn (n + 2) t (pr a b) (pr c d)).run P w = .ok (decide ((a, b) = (c, d))) w := by
  rw [Op.equalIn]
  have e1 : ∀ x y : Nat, (Op.equalIn (n + 1) e (.int .u8 (x : Nat)) (.int .u8 (y : Nat))).run P w = .ok (decide (x = y)) w := fun x y => by
    rw [run_equalIn_int w n e .u8 .u8 _ _ h.b]
    by_cases hx : x = y
    · subst hx; simp
    have : ((x : Int) == (y : Int)) = false := by simpa using (fun h => hx (by omega))
    rw [this, decide_eq_false hx]
  simp only [Sem.run_bind, run_underlying h.u, Result.andThen_ok, run_sizeOf h.z, Std.Legacy.Range.forIn_eq_forIn_range', Std.Legacy.Range.size, Nat.sub_zero, Nat.add_sub_cancel, Nat.div_one]
  rw [show List.range' 0 2 1 = [0, 1] from rfl]
  simp only [List.forIn_cons, List.forIn_nil, Sem.run_bind, Nat.zero_mul, Nat.one_mul, part2a h, part2b h, Result.andThen_ok, e1]
  by_cases h1 : a = c
  · by_cases h2 : b = d
    · subst h1; subst h2; simp [part2a h, part2b h, e1]
    simp [h1, h2, part2a h, part2b h, e1]
  simp [h1, part2a h, part2b h, e1]
theorem ckP_run (h : kyP P t e) (em : Bool) (n a b : Nat) : (Instr.checkKey em (n + 2) t (pr a b)).run P w = .ok () w := by
  have e1 : ∀ x : Nat, (Instr.checkKey em (n + 1) e (.int .u8 (x : Nat))).run P w = .ok () w := fun x => by
    unfold Instr.checkKey
    simp only [Sem.run_bind, run_underlying h.b, Result.andThen_ok]
    rfl
  unfold Instr.checkKey
  simp only [Sem.run_bind, run_underlying h.u, Result.andThen_ok, Std.Legacy.Range.forIn_eq_forIn_range', Std.Legacy.Range.size, Nat.sub_zero, Nat.add_sub_cancel, Nat.div_one]
  rw [show List.range' 0 2 1 = [0, 1] from rfl]
  simp only [List.forIn_cons, List.forIn_nil, Sem.run_bind, run_sizeOf h.z, Result.andThen_ok, Nat.zero_mul, Nat.one_mul, part2a h, part2b h, e1, Sem.run_pure]
theorem ask_prs (h : kyP P t e) (x : Nat × Nat) : ∀ (l : List ((Nat × Nat) × Value)) (i j : Nat), ∃ r, (Instr.findAsking t (pr x.1 x.2) (entsF (fun p => pr p.1 p.2) l i) j).run P w = .ok r w ∧ r.map (·.2) = l.lookup x
  | [], _, _ => ⟨none, rfl, rfl⟩
  | (y, v) :: l, i, j => by
    obtain ⟨r, h1, h2⟩ := ask_prs h x l (i + 1) (j + 1)
    have he : (Op.equal t (pr x.1 x.2) (pr y.1 y.2)).run P w = .ok (decide (x = y)) w := eqP_run h 9998 x.1 x.2 y.1 y.2
    simp only [entsF, Instr.findAsking, Sem.run_bind, he, Result.andThen_ok, List.lookup]
    by_cases hxy : x = y
    · subst hxy; exact ⟨some (j, v), by simp, by simp⟩
    · have h3 : (x == y) = false := by simpa using hxy
      rw [h3, decide_eq_false hxy]; exact ⟨r, by simpa using h1, h2⟩
theorem findP_run (h : kyP P t e) (x : Nat × Nat) (l : List ((Nat × Nat) × Value)) : ∃ r, (Instr.findKey t (pr x.1 x.2) (entsF (fun p => pr p.1 p.2) l 0)).run P w = .ok r w ∧ r.map (·.2) = l.lookup x := by
  obtain ⟨r, h1, h2⟩ := ask_prs (w := w) h x l 0 0
  cases l with
  | nil =>
    refine ⟨none, ?_, rfl⟩
    simp [Instr.findKey, entsF, Instr.findNow, run_underlying h.u, go_sem]
  | cons p l =>
    refine ⟨r, ?_, h2⟩
    have hn : Instr.findNow (.array 2 e) (pr x.1 x.2) (entsF (fun p => pr p.1 p.2) (p :: l) 0) 0 = none := rfl
    simp only [Instr.findKey, Sem.run_bind, run_underlying h.u, Result.andThen_ok, hn]
    exact h1
end
section
variable {P : Program} {ops : Array Oper} {Q : Exit → Act → World → Prop} {c : Cf} {e : Env} {B : Base} {L : Heap} {rest : List Oper} {v : Value} {d : Nat} {q : Md} {x y z : Operand} {T : TypeId} {p : String} {a : Array Edge}
theorem w_makeMapS (h : ∀ b, (∀ x ∈ L, x.1 < b) → (∀ x ∈ B, x.1.heap.size ≤ b) → WX .sq P ops c Q rest (upd e d (.map (some b))) B ((b, mpS []) :: L)) {t : TypeId} : WX .sq P ops c Q (⟨some d, .makeMap t none, T, p, a, none⟩ :: rest) e B L := by
  unfold WX at *
  exact fun w hw => s_run R_makeMap rfl rfl (by
    have := h w.heap.size (fun p hp => lt_of_blk (hw.own p hp)) (fun x hx => (hw.fr x hx).size)
    exact this _ hw.new)
theorem w_lookP {b : Nat} {s : Nat × Nat} {l : List ((Nat × Nat) × Value)} {t te tk ke : TypeId} {zv : Value} (hb : ∀ w, St B L w → w.heap[b]? = some (mpP l)) (ht : P.underlying t = some (.map tk te)) (hk : kyP P tk ke) (hz : zeroB P te zv) (hx : ev c.n e x = .map (some b)) (hy : ev c.n e y = pr s.1 s.2) (hv : (l.lookup s).getD zv = v)
    (h : WX q P ops c Q rest (upd e d v) B L) : WX q P ops c Q (⟨some d, .lookup t x y false, T, p, a, none⟩ :: rest) e B L := by
  refine w_run (fun w hw => ?_) rfl rfl h
  have hb := hb w hw
  unfold mpP at hb
  obtain ⟨r, h1, h2⟩ := findP_run (w := w) hk s l
  have hzr : (zeroValue te).run P w = .ok zv w := by
    unfold zeroB at hz
    cases hti : P.info? te with
    | none => rw [hti] at hz; cases hz
    | some j => rw [hti] at hz; simp [zeroValue, typeInfo, hti, show j.zero = some zv by simpa using hz, go_sem]
  have hck : ∀ (em : Bool) (w : World), (Instr.checkKey em 10000 tk (pr s.1 s.2)).run P w = .ok () w := fun em w => ckP_run hk em 9998 _ _
  simp only [Run, execOp, hx, hy]
  subst hv
  rw [← h2]
  cases r with
  | none => simp [Instr.lookup, run_underlying ht, MapKept.run_getObj_map hb, hck, h1, hzr, Result.andThen, go_sem]
  | some r => simp [Instr.lookup, run_underlying ht, MapKept.run_getObj_map hb, hck, h1, Result.andThen, go_sem]
theorem w_lookI' {b : Nat} {k : IntKind} {n : Int} {l : List (Int × Value)} {t te : TypeId} {tk : TypeId} {zv : Value} (hb : ∀ w, St B L w → w.heap[b]? = some (mpI k l)) (ht : P.underlying t = some (.map tk te)) (hk : P.underlying tk = some (.int k)) (hz : zeroB P te zv) (hx : ev c.n e x = .map (some b)) (hy : ev c.n e y = .int k n) (hv : (l.lookup n).getD zv = v)
    (h : WX q P ops c Q rest (upd e d v) B L) : WX q P ops c Q (⟨some d, .lookup t x y false, T, p, a, none⟩ :: rest) e B L := by
  refine w_run (fun w hw => ?_) rfl rfl h
  have hb := hb w hw
  unfold mpI at hb
  obtain ⟨r, h1, h2⟩ := find_ints k k n l 0 0
  have hzr : (zeroValue te).run P w = .ok zv w := by
    unfold zeroB at hz
    cases hti : P.info? te with
    | none => rw [hti] at hz; cases hz
    | some j => rw [hti] at hz; simp [zeroValue, typeInfo, hti, show j.zero = some zv by simpa using hz, go_sem]
  have hck : ∀ (em : Bool) (w : World), (Instr.checkKey em 10000 tk (.int k n)).run P w = .ok () w := fun em w => MapKept.run_checkKey (d := .int k) hk (show MapKept.IsKey (.int k) (.int k n) from rfl) em 9999
  simp only [Run, execOp, hx, hy]
  subst hv
  rw [← h2]
  cases r with
  | none => simp [Instr.lookup, run_underlying ht, MapKept.run_getObj_map hb, hck, MapKept.run_findKey hk h1, hzr, Result.andThen, go_sem]
  | some r => simp [Instr.lookup, run_underlying ht, MapKept.run_getObj_map hb, hck, MapKept.run_findKey hk h1, Result.andThen, go_sem]
theorem w_lookS2 (i : Nat) {b : Nat} {s : List UInt8} {l : List (List UInt8 × Value)} {t te : TypeId} {tk : TypeId} {zv : Value} (hi : L[i]? = some (b, mpS l)) (ht : P.underlying t = some (.map tk te)) (hk : P.underlying tk = some .string) (hz : zeroB P te zv) (hx : ev c.n e x = .map (some b)) (hy : ev c.n e y = str s) (hv : .tuple #[(l.lookup s).getD zv, .bool (l.lookup s).isSome] = v)
    (h : WX q P ops c Q rest (upd e d v) B L) : WX q P ops c Q (⟨some d, .lookup t x y true, T, p, a, none⟩ :: rest) e B L := by
  refine w_run (fun w hw => ?_) rfl rfl h
  have hb := hw.at_ i hi
  unfold mpS at hb
  obtain ⟨r, h1, h2⟩ := find_strs s l 0 0
  have hzr : (zeroValue te).run P w = .ok zv w := by
    unfold zeroB at hz
    cases hti : P.info? te with
    | none => rw [hti] at hz; cases hz
    | some j => rw [hti] at hz; simp [zeroValue, typeInfo, hti, show j.zero = some zv by simpa using hz, go_sem]
  have hck : ∀ (em : Bool) (w : World), (Instr.checkKey em 10000 tk (str s)).run P w = .ok () w := fun em w => MapKept.run_checkKey (d := .string) hk (show MapKept.IsKey .string (str s) from True.intro) em 9999
  simp only [Run, execOp, hx, hy]
  subst hv
  rw [← h2]
  cases r with
  | none => simp [Instr.lookup, run_underlying ht, MapKept.run_getObj_map hb, hck, MapKept.run_findKey hk h1, hzr, Result.andThen, go_sem]
  | some r => simp [Instr.lookup, run_underlying ht, MapKept.run_getObj_map hb, hck, MapKept.run_findKey hk h1, Result.andThen, go_sem]
end
end Go.Sx
end
namespace Go.Proofs.YtoehjlmdnajibaaGreatDoor
open Go.Sx
theorem mixed : Tryz.prog.follows .mixedOrders = true := by kernel_rfl
theorem fl37 : flatS Tryz.prog 37 [(35, 0), (3, 1)] := ⟨by kernel_rfl, by kernel_rfl, by kernel_rfl, by kernel_rfl⟩
theorem un3 : Tryz.prog.underlying 3 = some (.int .i64) := by kernel_rfl
theorem un35 : Tryz.prog.underlying 35 = some (.int .i64) := by kernel_rfl
theorem z3 : szB Tryz.prog 3 1 false = true := by kernel_rfl
theorem z32 : szB Tryz.prog 32 18 true = true := by kernel_rfl
theorem z35 : szB Tryz.prog 35 1 false = true := by kernel_rfl
theorem z37 : szB Tryz.prog 37 2 true = true := by kernel_rfl
theorem zr37 : zeroB Tryz.prog 37 (.agg #[(.int .i64 0), (.int .i64 0)]) := by unfold zeroB; kernel_rfl
theorem ara30 : arB Tryz.prog 30 6 3 true = true := by kernel_rfl
theorem bt37 : buildTab Tryz.prog 37 = some ([(0, 1), (1, 1)], [(.int .i64 0), (.int .i64 0)]) := by kernel_rfl
theorem bt54 : buildTab Tryz.prog 54 = some ([(0, 1), (1, 1), (2, 1), (3, 1)], [(str []), (.int .u8 0), (.int .i64 0), (.bool false)]) := by kernel_rfl
theorem bt58 : buildTab Tryz.prog 58 = some ([(0, 1), (1, 1)], [(.int .u8 0), (.bool false)]) := by kernel_rfl
theorem fa29_1 : faB Tryz.prog 29 1 1 = true := by kernel_rfl
theorem fa29_2 : faB Tryz.prog 29 2 2 = true := by kernel_rfl
theorem fa32_0 : faB Tryz.prog 32 0 0 = true := by kernel_rfl
theorem fa49_0 : faB Tryz.prog 49 0 0 = true := by kernel_rfl
theorem fa49_2 : faB Tryz.prog 49 2 2 = true := by kernel_rfl
theorem fa54_0 : faB Tryz.prog 54 0 0 = true := by kernel_rfl
theorem fa54_1 : faB Tryz.prog 54 1 1 = true := by kernel_rfl
theorem sl26 : slB Tryz.prog 26 7 = true := by kernel_rfl
theorem sl34 : slB Tryz.prog 34 4 = true := by kernel_rfl
theorem slt34 : slT Tryz.prog 34 54 4 40 (.agg #[(str []), (.int .u8 0), (.int .i64 0), (.bool false)]) := ⟨by kernel_rfl, by kernel_rfl, by kernel_rfl⟩
theorem st9 : strB Tryz.prog 9 = true := by kernel_rfl
theorem un5 : Tryz.prog.underlying 5 = some (.int .u8) := by kernel_rfl
theorem unb4 : Tryz.prog.underlying 4 = some .bool := by kernel_rfl
theorem z26 : szB Tryz.prog 26 1 false = true := by kernel_rfl
theorem z27 : szB Tryz.prog 27 1 false = true := by kernel_rfl
theorem z29 : szB Tryz.prog 29 3 true = true := by kernel_rfl
theorem z4 : szB Tryz.prog 4 1 false = true := by kernel_rfl
theorem z49 : szB Tryz.prog 49 7 true = true := by kernel_rfl
theorem z5 : szB Tryz.prog 5 1 false = true := by kernel_rfl
theorem z52 : szB Tryz.prog 52 4 true = true := by kernel_rfl
theorem z58 : szB Tryz.prog 58 2 true = true := by kernel_rfl
theorem z9 : szB Tryz.prog 9 1 false = true := by kernel_rfl
theorem zr29 : zeroB Tryz.prog 29 (.agg #[(.bool false), (.slice none 0 0), (.slice none 0 0)]) := by unfold zeroB; kernel_rfl
theorem zr58 : zeroB Tryz.prog 58 (.agg #[(.int .u8 0), (.bool false)]) := by unfold zeroB; kernel_rfl
theorem fa52_1 : faB Tryz.prog 52 1 1 = true := by kernel_rfl
theorem fa52_3 : faB Tryz.prog 52 3 3 = true := by kernel_rfl
theorem fa54_2 : faB Tryz.prog 54 2 2 = true := by kernel_rfl
theorem fa58_0 : faB Tryz.prog 58 0 0 = true := by kernel_rfl
theorem fa58_1 : faB Tryz.prog 58 1 1 = true := by kernel_rfl
theorem fa79_0 : faB Tryz.prog 79 0 0 = true := by kernel_rfl
theorem fa79_1 : faB Tryz.prog 79 1 1 = true := by kernel_rfl
theorem fa79_2 : faB Tryz.prog 79 2 2 = true := by kernel_rfl
theorem fa79_3 : faB Tryz.prog 79 3 3 = true := by kernel_rfl
theorem fa79_4 : faB Tryz.prog 79 4 4 = true := by kernel_rfl
theorem fa79_5 : faB Tryz.prog 79 5 5 = true := by kernel_rfl
theorem sl27 : slB Tryz.prog 27 6 = true := by kernel_rfl
theorem sl47 : slB Tryz.prog 47 4 = true := by kernel_rfl
theorem z47 : szB Tryz.prog 47 1 false = true := by kernel_rfl
theorem z54 : szB Tryz.prog 54 4 true = true := by kernel_rfl
theorem z79 : szB Tryz.prog 79 6 true = true := by kernel_rfl
theorem zr54 : zeroB Tryz.prog 54 (.agg #[(str []), (.int .u8 0), (.int .i64 0), (.bool false)]) := by unfold zeroB; kernel_rfl
theorem fa49_1 : faB Tryz.prog 49 1 1 = true := by kernel_rfl
theorem fa49_3 : faB Tryz.prog 49 3 3 = true := by kernel_rfl
theorem fa49_4 : faB Tryz.prog 49 4 4 = true := by kernel_rfl
theorem fa49_5 : faB Tryz.prog 49 5 5 = true := by kernel_rfl
theorem fa49_6 : faB Tryz.prog 49 6 6 = true := by kernel_rfl
theorem slt47 : slT Tryz.prog 47 52 4 56 (.agg #[(.int .u8 0), (.int .i64 0), (str []), (.slice none 0 0)]) := ⟨by kernel_rfl, by kernel_rfl, by kernel_rfl⟩
theorem zr52 : zeroB Tryz.prog 52 (.agg #[(.int .u8 0), (.int .i64 0), (str []), (.slice none 0 0)]) := by unfold zeroB; kernel_rfl
theorem fa52_0 : faB Tryz.prog 52 0 0 = true := by kernel_rfl
theorem fa52_2 : faB Tryz.prog 52 2 2 = true := by kernel_rfl
theorem fa54_3 : faB Tryz.prog 54 3 3 = true := by kernel_rfl
theorem sl115 : slB Tryz.prog 115 1 = true := by kernel_rfl
theorem slt115 : slT Tryz.prog 115 5 1 1 (.int .u8 0) := ⟨by kernel_rfl, by kernel_rfl, by kernel_rfl⟩
theorem fa37_0 : faB Tryz.prog 37 0 0 = true := by kernel_rfl
theorem zr32 : zeroB Tryz.prog 32 (.agg #[(.bool false), (.slice none 0 0), (.slice none 0 0), (.bool false), (.slice none 0 0), (.slice none 0 0), (.bool false), (.slice none 0 0), (.slice none 0 0), (.bool false), (.slice none 0 0), (.slice none 0 0), (.bool false), (.slice none 0 0), (.slice none 0 0), (.bool false), (.slice none 0 0), (.slice none 0 0)]) := by unfold zeroB; kernel_rfl
theorem tab37 : taB Tryz.prog 37 = true := by kernel_rfl
theorem uni20 : Tryz.prog.underlying 20 = some (.interface #[]) := by kernel_rfl
theorem z30 : szB Tryz.prog 30 18 true = true := by kernel_rfl
theorem z34 : szB Tryz.prog 34 1 false = true := by kernel_rfl
theorem zr34 : zeroB Tryz.prog 34 (.slice none 0 0) := by unfold zeroB; kernel_rfl
theorem zr49 : zeroB Tryz.prog 49 (.agg #[(.int .u8 0), (.int .i64 0), (str []), (.slice none 0 0), (.slice none 0 0), (.slice none 0 0), (.slice none 0 0)]) := by unfold zeroB; kernel_rfl
theorem fd58_0 : fdB Tryz.prog 58 0 5 0 = true := by kernel_rfl
theorem zr79 : zeroB Tryz.prog 79 (.agg #[(.int .u8 0), (.int .i64 0), (str []), (.slice none 0 0), (.slice none 0 0), (.slice none 0 0)]) := by unfold zeroB; kernel_rfl
theorem fa66_0 : faB Tryz.prog 66 0 0 = true := by kernel_rfl
theorem fa66_1 : faB Tryz.prog 66 1 1 = true := by kernel_rfl
theorem fa66_2 : faB Tryz.prog 66 2 2 = true := by kernel_rfl
theorem z66 : szB Tryz.prog 66 3 true = true := by kernel_rfl
theorem zr66 : zeroB Tryz.prog 66 (.agg #[(.int .i64 0), (.int .i64 0), (.bool false)]) := by unfold zeroB; kernel_rfl
theorem sl150 : slB Tryz.prog 150 1 = true := by kernel_rfl
theorem slt150 : slT Tryz.prog 150 47 1 24 (.slice none 0 0) := ⟨by kernel_rfl, by kernel_rfl, by kernel_rfl⟩
theorem ar104 : arB Tryz.prog 104 2 1 false = true := by kernel_rfl
theorem slt153 : slT Tryz.prog 153 9 1 16 (str []) := ⟨by kernel_rfl, by kernel_rfl, by kernel_rfl⟩
theorem unk5 : Tryz.prog.underlying 5 = some (.int .u8) := by kernel_rfl
theorem unm108 : Tryz.prog.underlying 108 = some (.map 5 5) := by kernel_rfl
theorem z104 : szB Tryz.prog 104 2 true = true := by kernel_rfl
theorem zr104 : zeroB Tryz.prog 104 (.agg #[(.int .u8 0), (.int .u8 0)]) := by unfold zeroB; kernel_rfl
theorem sl83 : slB Tryz.prog 83 4 = true := by kernel_rfl
theorem slt83 : slT Tryz.prog 83 54 4 40 (.agg #[(str []), (.int .u8 0), (.int .i64 0), (.bool false)]) := ⟨by kernel_rfl, by kernel_rfl, by kernel_rfl⟩
theorem z83 : szB Tryz.prog 83 1 false = true := by kernel_rfl
theorem zr4 : zeroB Tryz.prog 4 (.bool false) := by unfold zeroB; kernel_rfl
theorem bt66 : buildTab Tryz.prog 66 = some ([(0, 1), (1, 1), (2, 1)], [(.int .i64 0), (.int .i64 0), (.bool false)]) := by kernel_rfl
theorem cn37 : Tryz.prog.concrete 37 = true := by kernel_rfl
theorem ky104 : kyP Tryz.prog 104 5 := ⟨by kernel_rfl, by kernel_rfl, by kernel_rfl⟩
theorem sl153 : slB Tryz.prog 153 1 = true := by kernel_rfl
theorem un115 : Tryz.prog.underlying 115 = some (.slice 5) := by kernel_rfl
theorem un9 : Tryz.prog.underlying 9 = some .string := by kernel_rfl
theorem unk9 : Tryz.prog.underlying 9 = some .string := by kernel_rfl
theorem unm136 : Tryz.prog.underlying 136 = some (.map 104 5) := by kernel_rfl
theorem unm88 : Tryz.prog.underlying 88 = some (.map 9 66) := by kernel_rfl
theorem zr5 : zeroB Tryz.prog 5 (.int .u8 0) := by unfold zeroB; kernel_rfl
theorem bt123 : buildTab Tryz.prog 123 = some ([(0, 1)], [(.pointer none)]) := by kernel_rfl
theorem bt143 : buildTab Tryz.prog 143 = some ([(0, 1), (1, 1), (2, 1), (3, 1)], [(.slice none 0 0), (.int .i64 0), (.int .i64 0), (.int .i64 0)]) := by kernel_rfl
theorem fa123_0 : faB Tryz.prog 123 0 0 = true := by kernel_rfl
theorem fa143_1 : faB Tryz.prog 143 1 1 = true := by kernel_rfl
theorem sl137 : slB Tryz.prog 137 3 = true := by kernel_rfl
theorem z121 : szB Tryz.prog 121 1 false = true := by kernel_rfl
theorem z123 : szB Tryz.prog 123 1 true = true := by kernel_rfl
theorem zr123 : zeroB Tryz.prog 123 (.agg #[(.pointer none)]) := by unfold zeroB; kernel_rfl
theorem bt29 : buildTab Tryz.prog 29 = some ([(0, 1), (1, 1), (2, 1)], [(.bool false), (.slice none 0 0), (.slice none 0 0)]) := by kernel_rfl
theorem slt26 : slT Tryz.prog 26 49 7 128 (.agg #[(.int .u8 0), (.int .i64 0), (str []), (.slice none 0 0), (.slice none 0 0), (.slice none 0 0), (.slice none 0 0)]) := ⟨by kernel_rfl, by kernel_rfl, by kernel_rfl⟩
theorem bt49 : buildTab Tryz.prog 49 = some ([(0, 1), (1, 1), (2, 1), (3, 1), (4, 1), (5, 1), (6, 1)], [(.int .u8 0), (.int .i64 0), (str []), (.slice none 0 0), (.slice none 0 0), (.slice none 0 0), (.slice none 0 0)]) := by kernel_rfl
theorem fa141_2 : faB Tryz.prog 141 2 2 = true := by kernel_rfl
theorem fd141_2 : fdB Tryz.prog 141 2 3 2 = true := by kernel_rfl
theorem ar198 : arB Tryz.prog 198 6 1 false = true := by kernel_rfl
theorem bt79 : buildTab Tryz.prog 79 = some ([(0, 1), (1, 1), (2, 1), (3, 1), (4, 1), (5, 1)], [(.int .u8 0), (.int .i64 0), (str []), (.slice none 0 0), (.slice none 0 0), (.slice none 0 0)]) := by kernel_rfl
theorem fa141_0 : faB Tryz.prog 141 0 0 = true := by kernel_rfl
theorem fa141_1 : faB Tryz.prog 141 1 1 = true := by kernel_rfl
theorem slt27 : slT Tryz.prog 27 79 6 104 (.agg #[(.int .u8 0), (.int .i64 0), (str []), (.slice none 0 0), (.slice none 0 0), (.slice none 0 0)]) := ⟨by kernel_rfl, by kernel_rfl, by kernel_rfl⟩
theorem unf191 : Tryz.prog.underlying 191 = some (.func #[123] #[79] false) := by kernel_rfl
theorem unm192 : Tryz.prog.underlying 192 = some (.map 9 191) := by kernel_rfl
theorem z141 : szB Tryz.prog 141 3 true = true := by kernel_rfl
theorem zr141 : zeroB Tryz.prog 141 (.agg #[(.int .u8 0), (str []), (.int .i64 0)]) := by unfold zeroB; kernel_rfl
theorem zr191 : zeroB Tryz.prog 191 .nilFunc := by unfold zeroB; kernel_rfl
theorem zr198 : zeroB Tryz.prog 198 (.agg #[(str []), (str []), (str []), (str []), (str []), (str [])]) := by unfold zeroB; kernel_rfl
theorem bt52 : buildTab Tryz.prog 52 = some ([(0, 1), (1, 1), (2, 1), (3, 1)], [(.int .u8 0), (.int .i64 0), (str []), (.slice none 0 0)]) := by kernel_rfl
theorem fa143_3 : faB Tryz.prog 143 3 3 = true := by kernel_rfl
theorem bt141 : buildTab Tryz.prog 141 = some ([(0, 1), (1, 1), (2, 1)], [(.int .u8 0), (str []), (.int .i64 0)]) := by kernel_rfl
theorem fa143_0 : faB Tryz.prog 143 0 0 = true := by kernel_rfl
theorem fa143_2 : faB Tryz.prog 143 2 2 = true := by kernel_rfl
theorem z137 : szB Tryz.prog 137 1 false = true := by kernel_rfl
theorem unf22 : Tryz.prog.underlying 22 = some (.func #[] #[4] false) := by kernel_rfl
theorem unm129 : Tryz.prog.underlying 129 = some (.map 5 22) := by kernel_rfl
theorem zr22 : zeroB Tryz.prog 22 .nilFunc := by unfold zeroB; kernel_rfl
theorem zr3 : zeroB Tryz.prog 3 (.int .i64 0) := by unfold zeroB; kernel_rfl
theorem slt137 : slT Tryz.prog 137 141 3 32 (.agg #[(.int .u8 0), (str []), (.int .i64 0)]) := ⟨by kernel_rfl, by kernel_rfl, by kernel_rfl⟩
theorem bt163 : buildTab Tryz.prog 163 = some ([(0, 1), (1, 1)], [(str []), (.int .i64 0)]) := by kernel_rfl
theorem zr137 : zeroB Tryz.prog 137 (.slice none 0 0) := by unfold zeroB; kernel_rfl
theorem ar180 : arB Tryz.prog 180 3 1 false = true := by kernel_rfl
theorem fa163_0 : faB Tryz.prog 163 0 0 = true := by kernel_rfl
theorem fa163_1 : faB Tryz.prog 163 1 1 = true := by kernel_rfl
theorem z161 : szB Tryz.prog 161 1 false = true := by kernel_rfl
theorem z180 : szB Tryz.prog 180 3 true = true := by kernel_rfl
theorem zr180 : zeroB Tryz.prog 180 (.agg #[.nilFunc, .nilFunc, .nilFunc]) := by unfold zeroB; kernel_rfl
theorem ar149 : arB Tryz.prog 149 4 1 false = true := by kernel_rfl
theorem fa29_0 : faB Tryz.prog 29 0 0 = true := by kernel_rfl
theorem zr149 : zeroB Tryz.prog 149 (.agg #[(.slice none 0 0), (.slice none 0 0), (.slice none 0 0), (.slice none 0 0)]) := by unfold zeroB; kernel_rfl
theorem fl54 : flatS Tryz.prog 54 [(9, 0), (5, 1), (3, 2), (4, 3)] := ⟨by kernel_rfl, by kernel_rfl, by kernel_rfl, by kernel_rfl⟩
end Go.Proofs.YtoehjlmdnajibaaGreatDoor
section
namespace Go.Proofs
open Go.Shelf
def Tryz.lays137_ren : Go.Shelf.Ren := ⟨fun | 137 => 166 | 217 => 175 | 266 => 185 | n => n, fun | 9 => 9 | 5 => 5 | 3 => 3 | n => n, fun | n => n⟩
theorem Tryz.lays137 : Go.Proofs.Lays.n137 Tryz.prog Tryz.lays137_ren := {
  mixed := by kernel_rfl
  f137 := Tryz.func166.trans (congrArg some (by kernel_rfl))
  f217 := Tryz.func175.trans (congrArg some (by kernel_rfl))
  f266 := Tryz.func185.trans (congrArg some (by kernel_rfl))
  t3 := Tryz.underlying3
  a3 := Tryz.isAgg3
  z3 := Tryz.sizeOf3
  v3 := Tryz.zeroValue3
  t5 := Tryz.underlying5
  a5 := Tryz.isAgg5
  z5 := Tryz.sizeOf5
  v5 := Tryz.zeroValue5
  t9 := Tryz.underlying9
  a9 := Tryz.isAgg9
  z9 := Tryz.sizeOf9
  v9 := Tryz.zeroValue9 }
open Go.RowKit in
theorem Tryz.strings_IndexByte (s : ByteArray) (c : Int) (w : World) :
    Calls Tryz.prog 166 #[.string s, .int .u8 c] w fun e w' => e = .returned (.int .i64 (Lib.indexByte s.data.toList c.toNat.toUInt8)) ∧ w' = w := Any.strings_IndexByte Tryz.lays137 s c w
def Tryz.lays144_ren : Go.Shelf.Ren := ⟨fun | 144 => 117 | 143 => 143 | 219 => 161 | 217 => 175 | 225 => 176 | 224 => 177 | 267 => 178 | 266 => 185 | 314 => 186 | n => n, fun | 9 => 9 | 4 => 4 | 3 => 3 | 5 => 5 | 46 => 194 | 146 => 201 | 51 => 200 | n => n, fun | 1 => 0 | n => n⟩
theorem Tryz.lays144 : Go.Proofs.Lays.n144 Tryz.prog Tryz.lays144_ren := {
  mixed := by kernel_rfl
  f143 := Tryz.func143.trans (congrArg some (by kernel_rfl))
  f144 := Tryz.func117.trans (congrArg some (by kernel_rfl))
  f217 := Tryz.func175.trans (congrArg some (by kernel_rfl))
  f219 := Tryz.func161.trans (congrArg some (by kernel_rfl))
  f224 := Tryz.func177.trans (congrArg some (by kernel_rfl))
  f225 := Tryz.func176.trans (congrArg some (by kernel_rfl))
  f266 := Tryz.func185.trans (congrArg some (by kernel_rfl))
  f267 := Tryz.func178.trans (congrArg some (by kernel_rfl))
  f314 := Tryz.func186.trans (congrArg some (by kernel_rfl))
  t3 := Tryz.underlying3
  a3 := Tryz.isAgg3
  z3 := Tryz.sizeOf3
  v3 := Tryz.zeroValue3
  t4 := Tryz.underlying4
  a4 := Tryz.isAgg4
  z4 := Tryz.sizeOf4
  v4 := Tryz.zeroValue4
  t5 := Tryz.underlying5
  a5 := Tryz.isAgg5
  z5 := Tryz.sizeOf5
  v5 := Tryz.zeroValue5
  t9 := Tryz.underlying9
  a9 := Tryz.isAgg9
  z9 := Tryz.sizeOf9
  v9 := Tryz.zeroValue9
  t46 := Tryz.underlying194
  a46 := Tryz.isAgg194
  z46 := Tryz.sizeOf194
  v46 := Tryz.zeroValue194
  t51 := Tryz.underlying200
  a51 := Tryz.isAgg200
  z51 := Tryz.sizeOf200
  v51 := Tryz.zeroValue200
  t146 := Tryz.underlying201
  a146 := Tryz.isAgg201
  z146 := Tryz.sizeOf201
  v146 := Tryz.zeroValue201
  g1 := by kernel_rfl }
open Go.RowKit Go.Lib in
theorem Tryz.strings_Contains (s sub : ByteArray) (m : Int) (w : World) (hs : s.size < 4294967281) (hm : w.cell? ⟨0, 0, none⟩ = some (.int .i64 m)) :
    Calls Tryz.prog 117 #[.string s, .string sub] w fun e w' => e = .returned (.bool (Lib.contains s.data.toList sub.data.toList)) ∧ w' = w := Any.strings_Contains Tryz.lays144 s sub m w hs hm
def Tryz.lays99_ren : Go.Shelf.Ren := ⟨fun | 99 => 165 | 206 => 181 | n => n, fun | 9 => 9 | 4 => 4 | 3 => 3 | n => n, fun | n => n⟩
theorem Tryz.lays99 : Go.Proofs.Lays.n99 Tryz.prog Tryz.lays99_ren := {
  mixed := by kernel_rfl
  f99 := Tryz.func165.trans (congrArg some (by kernel_rfl))
  f206 := Tryz.func181.trans (congrArg some (by kernel_rfl))
  t3 := Tryz.underlying3
  a3 := Tryz.isAgg3
  z3 := Tryz.sizeOf3
  v3 := Tryz.zeroValue3
  t4 := Tryz.underlying4
  a4 := Tryz.isAgg4
  z4 := Tryz.sizeOf4
  v4 := Tryz.zeroValue4
  t9 := Tryz.underlying9
  a9 := Tryz.isAgg9
  z9 := Tryz.sizeOf9
  v9 := Tryz.zeroValue9 }
open Go.RowKit Go.Lib in
theorem Tryz.strings_HasPrefix (s p : ByteArray) (w : World) :
    Calls Tryz.prog 165 #[.string s, .string p] w fun e w' => e = .returned (.bool (Lib.hasPrefix s.data.toList p.data.toList)) ∧ w' = w := Any.strings_HasPrefix Tryz.lays99 s p w
def Tryz.lays157_ren : Go.Shelf.Ren := ⟨fun | 157 => 164 | 229 => 179 | 199 => 180 | 261 => 187 | 311 => 188 | 312 => 189 | n => n, fun | 9 => 9 | 31 => 153 | 3 => 3 | 5 => 5 | 4 => 4 | 119 => 195 | 0 => 0 | 40 => 197 | 152 => 203 | 21 => 21 | 154 => 205 | 51 => 200 | 141 => 207 | 196 => 211 | 193 => 208 | 198 => 214 | 49 => 212 | 194 => 209 | 201 => 217 | 226 => 219 | 46 => 194 | 227 => 220 | n => n, fun | 0 => 1 | 6 => 2 | n => n⟩
theorem Tryz.lays157 : Go.Proofs.Lays.n157 Tryz.prog Tryz.lays157_ren := {
  mixed := by kernel_rfl
  f157 := Tryz.func164.trans (congrArg some (by kernel_rfl))
  f199 := Tryz.func180.trans (congrArg some (by kernel_rfl))
  f229 := Tryz.func179.trans (congrArg some (by kernel_rfl))
  f261 := Tryz.func187.trans (congrArg some (by kernel_rfl))
  f311 := Tryz.func188.trans (congrArg some (by kernel_rfl))
  f312 := Tryz.func189.trans (congrArg some (by kernel_rfl))
  t0 := Tryz.underlying0
  a0 := Tryz.isAgg0
  z0 := Tryz.sizeOf0
  v0 := Tryz.zeroValue0
  t3 := Tryz.underlying3
  a3 := Tryz.isAgg3
  z3 := Tryz.sizeOf3
  v3 := Tryz.zeroValue3
  t4 := Tryz.underlying4
  a4 := Tryz.isAgg4
  z4 := Tryz.sizeOf4
  v4 := Tryz.zeroValue4
  t5 := Tryz.underlying5
  a5 := Tryz.isAgg5
  z5 := Tryz.sizeOf5
  v5 := Tryz.zeroValue5
  t9 := Tryz.underlying9
  a9 := Tryz.isAgg9
  z9 := Tryz.sizeOf9
  v9 := Tryz.zeroValue9
  t21 := Tryz.underlying21
  a21 := Tryz.isAgg21
  z21 := Tryz.sizeOf21
  v21 := Tryz.zeroValue21
  t31 := Tryz.underlying153
  a31 := Tryz.isAgg153
  z31 := Tryz.sizeOf153
  v31 := Tryz.zeroValue153
  t40 := Tryz.underlying197
  a40 := Tryz.isAgg197
  z40 := Tryz.sizeOf197
  v40 := Tryz.zeroValue197
  t46 := Tryz.underlying194
  a46 := Tryz.isAgg194
  z46 := Tryz.sizeOf194
  v46 := Tryz.zeroValue194
  t49 := Tryz.underlying212
  a49 := Tryz.isAgg212
  z49 := Tryz.sizeOf212
  v49 := Tryz.zeroValue212
  t51 := Tryz.underlying200
  a51 := Tryz.isAgg200
  z51 := Tryz.sizeOf200
  v51 := Tryz.zeroValue200
  t119 := Tryz.underlying195
  a119 := Tryz.isAgg195
  z119 := Tryz.sizeOf195
  t141 := Tryz.underlying207
  a141 := Tryz.isAgg207
  z141 := Tryz.sizeOf207
  v141 := Tryz.zeroValue207
  t152 := Tryz.underlying203
  a152 := Tryz.isAgg203
  z152 := Tryz.sizeOf203
  v152 := Tryz.zeroValue203
  t154 := Tryz.underlying205
  a154 := Tryz.isAgg205
  z154 := Tryz.sizeOf205
  v154 := Tryz.zeroValue205
  t193 := Tryz.underlying208
  a193 := Tryz.isAgg208
  z193 := Tryz.sizeOf208
  v193 := Tryz.zeroValue208
  t194 := Tryz.underlying209
  a194 := Tryz.isAgg209
  z194 := Tryz.sizeOf209
  v194 := Tryz.zeroValue209
  t196 := Tryz.underlying211
  a196 := Tryz.isAgg211
  z196 := Tryz.sizeOf211
  v196 := Tryz.zeroValue211
  t198 := Tryz.underlying214
  a198 := Tryz.isAgg214
  z198 := Tryz.sizeOf214
  v198 := Tryz.zeroValue214
  t201 := Tryz.underlying217
  a201 := Tryz.isAgg217
  z201 := Tryz.sizeOf217
  v201 := Tryz.zeroValue217
  t226 := Tryz.underlying219
  a226 := Tryz.isAgg219
  z226 := Tryz.sizeOf219
  v226 := Tryz.zeroValue219
  t227 := Tryz.underlying220
  a227 := Tryz.isAgg220
  z227 := Tryz.sizeOf220
  v227 := Tryz.zeroValue220
  g0 := by kernel_rfl
  g6 := by kernel_rfl }
open Go.RowKit Go.Lib in
theorem Tryz.strings_Fields (s : ByteArray) (w : World) (hs : s.size < 4294967281) (hascii : ∀ (j : Nat) b, s.data.toList[j]? = some b → b.toNat < 128) (htab : Lib.TabIs Tryz.prog w "strings.asciiSpace" .u8 Lib.asciiSpaceTab) :
    Calls Tryz.prog 164 #[.string s] w fun e w' =>
      e = .returned (.slice (some ⟨w.heap.size, 0, none⟩) (Lib.fields s.data.toList).length (Lib.fields s.data.toList).length) ∧ w' = w.alloc (.cells ((Lib.fields s.data.toList).map fun l => Value.string ⟨l.toArray⟩).toArray 9) := Any.strings_Fields Tryz.lays157 (by kernel_rfl) (by kernel_rfl) s w hs hascii htab
end Go.Proofs
end
section
namespace Go.Proofs.YtoehjlmdnajibaaGreatDoor
open Go.RowKit Go.Sx
def Tb (w : World) : Prop := ∃ T f, w.heap[1]? = some (.cells (Lib.asciiSpaceTab.map fun z => Value.int .u8 z).toArray T f)
theorem Tb.tab {w : World} (h : Tb w) : Lib.TabIs Tryz.prog w "strings.asciiSpace" .u8 Lib.asciiSpaceTab := by
 obtain ⟨T, f, h⟩ := h
 unfold Lib.TabIs World.var?
 have : Tryz.prog.globalNamed "strings.asciiSpace" = some 1 := by kernel_rfl
 rw [this]
 simp [h]
theorem Tb.of {w : World} (h : Lib.TabIs Tryz.prog w "strings.asciiSpace" .u8 Lib.asciiSpaceTab) : Tb w := by
 unfold Lib.TabIs World.var? at h
 have : Tryz.prog.globalNamed "strings.asciiSpace" = some 1 := by kernel_rfl
 rw [this] at h
 simp only [Option.bind_some] at h
 split at h
 ·rename_i cs T f hh; cases h; exact ⟨T, f, hh⟩
 ·cases h
theorem Tb.fr {S : Nat → Prop} {w w' : World} (h : Tb w) (k : Fr S w w') (hs : ¬ S 1) : Tb w' := by
 obtain ⟨T, f, h⟩ := h
 exact ⟨T, f, k.get h hs⟩
theorem Tb.lt {w : World} (h : Tb w) : 1 < w.heap.size := by
 obtain ⟨T, f, h⟩ := h
 exact lt_of_blk h
theorem IndexByte_spec (s : List UInt8) (c : Int) (w : World) : Ret Tryz.prog 166 #[str s, .int .u8 c] w fun v w' => v = .int .i64 (Lib.indexByte s c.toNat.toUInt8) ∧ Ext w w' :=
 Calls.mono (Tryz.strings_IndexByte ⟨s.toArray⟩ c w) fun e w' ⟨h1, h2⟩ => ⟨_, h1, by simp, by rw [h2]; exact Fr.refl _ _⟩
theorem u8_back (b : UInt8) : ((b.toNat : Nat) : Int).toNat.toUInt8 = b := by simp
theorem IndexByte_at (s : List UInt8) (b : UInt8) (w : World) : Ret Tryz.prog 166 #[str s, .int .u8 (b.toNat : Nat)] w fun v w' => v = .int .i64 (Lib.indexByte s b) ∧ Ext w w' := by
 have := IndexByte_spec s (b.toNat : Nat) w
 rwa [u8_back] at this
theorem HasPrefix_spec (s p : List UInt8) (w : World) : Ret Tryz.prog 165 #[str s, str p] w fun v w' => v = .bool (p.isPrefixOf s) ∧ Ext w w' :=
 Calls.mono (Tryz.strings_HasPrefix ⟨s.toArray⟩ ⟨p.toArray⟩ w) fun e w' ⟨h1, h2⟩ => ⟨_, h1, by simp [Lib.hasPrefix], by rw [h2]; exact Fr.refl _ _⟩
theorem Fields_spec (s : List UInt8) (w : World) (hs : s.length < 4294967281) (ha : ∀ (j : Nat) b, s[j]? = some b → b.toNat < 128) (ht : Tb w) : Ret Tryz.prog 164 #[str s] w fun v w' =>
  v = .slice (some ⟨w.heap.size, 0, none⟩) (Lib.fields s).length (Lib.fields s).length ∧ w' = w.alloc (cel ((Lib.fields s).map str) 9) :=
 Calls.mono (Tryz.strings_Fields ⟨s.toArray⟩ w hs (by simpa using ha) ht.tab) fun e w' ⟨h1, h2⟩ => ⟨_, h1, by simp, by simpa using h2⟩
end Go.Proofs.YtoehjlmdnajibaaGreatDoor
end
