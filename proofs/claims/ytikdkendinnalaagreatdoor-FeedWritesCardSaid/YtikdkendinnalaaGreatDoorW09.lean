/- Layer 14, FeedWrites: that Write and Find tell what the document says, and that what is written is read as the same data again. Part 9 of 14. -/
import Derived.Test.YtikdkendinnalaaGreatDoorW08
set_option maxRecDepth 100000
set_option maxHeartbeats 16000000
section
namespace Go.Sx
open Go.RowKit Go.Num Go.Feed
def aK (a : Option Addr) (c k : Nat) : Option Addr := a.map fun z => z.add (3 * min k (c - 1))
theorem add_zero_ (z : Addr) : z.add 0 = z := by obtain ⟨b, o, s⟩ := z; unfold Addr.add; cases s <;> simp
theorem add_add_ (z : Addr) (i j : Nat) : (z.add i).add j = z.add (i + j) := by
  obtain ⟨b, o, s⟩ := z
  unfold Addr.add
  split <;> simp_all <;> first | omega | (split <;> simp_all <;> omega)
theorem aK_zero (a : Option Addr) (c : Nat) : aK a c 0 = a := by
  unfold aK
  cases a with
  | none => rfl
  | some z => simp [add_zero_]
section
variable {P : Program} {ρ : Operand → Value} {w : World} {D : Option Tmp} {t ty yt : TypeId} {pos : String} {aft : Array Edge} {g : Option (Nat × Bool)} {x y : Operand} {a : Option Addr} {k c n i : Nat} {kk kl kh : IntKind}
theorem R_low3 (hu : slB P t 3 = true) (hx : ρ x = .slice (aK a c k) (n - k) (c - k)) {lo : Operand} (hlo : ρ lo = .int kl 1) (h1 : k < n) (h2 : n ≤ c) :
    Run P ⟨D, .slice t x (some lo) none none, ty, pos, aft, g⟩ ρ w (.slice (aK a c (k + 1)) (n - (k + 1)) (c - (k + 1))) w := by
  obtain ⟨e, ti, h3, h4, h5⟩ := slB_spec hu
  have h6 : (1 : Int) ≤ ((n - k : Nat) : Int) := by omega
  have e1 : (if c - k = 1 then aK a c k else (aK a c k).map fun z => z.add 3) = aK a c (k + 1) := by
    unfold aK
    cases a with
    | none => split <;> rfl
    | some z =>
      split
      · rename_i h
        simp only [Option.map_some]
        rw [show min k (c - 1) = min (k + 1) (c - 1) by omega]
      · rename_i h
        simp only [Option.map_some]
        rw [add_add_, show 3 * min k (c - 1) + 3 = 3 * min (k + 1) (c - 1) by omega]
  have e2 : n - k - 1 = n - (k + 1) := by omega
  have e3 : c - k - 1 = c - (k + 1) := by omega
  simp [Run, execOp, hx, hlo, go_sem, Instr.sliceAt, Instr.slice, run_underlying h3, Instr.sliceBounds, Instr.sliceBound, asIntOf, h6, sizeOf, typeInfo, h4, h5, e2, e3]
  exact e1
theorem aK_some {b o c k n : Nat} (h : k < n) (hc : n ≤ c) : aK (some ⟨b, o, none⟩) c k = some ⟨b, o + 3 * k, none⟩ := by
  unfold aK Addr.add
  simp [show min k (c - 1) = k by omega]
end
theorem St.modX {B : Base} {A X X' : Heap} {w w' : World} (h : St B (A ++ X) w) (k : Fr (inL X) w w') (hX : ∀ p ∈ X', w'.heap[p.1]? = some p.2 ∧ (inL X p.1 ∨ w.heap.size ≤ p.1)) (hn : (X'.map (·.1)).Nodup) : St B (A ++ X') w' := by
  have hA : ∀ p ∈ A, p.1 < w.heap.size ∧ ¬ inL X p.1 := fun p hp => by
    refine ⟨lt_of_blk (h.own p (List.mem_append_left _ hp)), fun hx => ?_⟩
    have hnd := h.nd
    rw [List.map_append, List.nodup_append] at hnd
    exact hnd.2.2 _ (List.mem_map_of_mem (f := fun q : Nat × Obj => q.1) hp) _ hx rfl
  refine ⟨fun x hx => (h.fr x hx).trans' k (fun _ _ s => s) ?_, ?_, ?_, ?_⟩
  · intro j hj hjX
    obtain ⟨p, hp, rfl⟩ := List.mem_map.1 hjX
    rcases h.ok p (List.mem_append_right _ hp) x hx with hh | hh
    · exact hh
    omega
  · intro p hp
    rcases List.mem_append.1 hp with hp | hp
    · exact k.get (h.own p (List.mem_append_left _ hp)) (hA p hp).2
    exact (hX p hp).1
  · have hnd := h.nd
    rw [List.map_append, List.nodup_append] at hnd
    rw [List.map_append, List.nodup_append]
    refine ⟨hnd.1, hn, ?_⟩
    intro i hi j hj hij
    obtain ⟨p, hp, rfl⟩ := List.mem_map.1 hi
    obtain ⟨q, hq, rfl⟩ := List.mem_map.1 hj
    have h1 := hA p hp
    rcases (hX q hq).2 with hh | hh
    · exact h1.2 (by rw [hij]; exact hh)
    omega
  intro p hp x hx
  rcases List.mem_append.1 hp with hp | hp
  · exact h.ok p (List.mem_append_left _ hp) x hx
  rcases (hX p hp).2 with hh | hh
  · obtain ⟨q, hq, he⟩ := List.mem_map.1 hh
    rw [← he]
    exact h.ok q (List.mem_append_right _ hq) x hx
  exact .inr (Nat.le_trans (h.fr x hx).size hh)
def Nx (N : Nat → Prop) (w w' : World) (X' : Heap) : Nat → Prop := fun j => N j ∨ (Nn w w' j ∧ ¬ inL X' j)
theorem Nx.nb {B : Base} {A X X' : Heap} {w w' : World} {s0 : Nat} (h : St B (A ++ X) w) (k : Fr (inL X) w w') (hX : ∀ p ∈ X', w'.heap[p.1]? = some p.2 ∧ (inL X p.1 ∨ w.heap.size ≤ p.1)) (hs : s0 ≤ w.heap.size) :
    ∀ j, Nx (Nb s0 (w, inL (A ++ X))) w w' X' j → Nb s0 (w', inL (A ++ X')) j := by
  intro j hj
  have hA : ∀ p ∈ A, p.1 < w.heap.size := fun p hp => lt_of_blk (h.own p (List.mem_append_left _ hp))
  rcases hj with ⟨h1, h2, h3⟩ | ⟨⟨h1, h2⟩, h3⟩
  · refine ⟨h1, Nat.lt_of_lt_of_le h2 k.size, fun hm => ?_⟩
    obtain ⟨p, hp, rfl⟩ := List.mem_map.1 hm
    rcases List.mem_append.1 hp with hp | hp
    · exact h3 (List.mem_map_of_mem (f := fun q : Nat × Obj => q.1) (List.mem_append_left _ hp))
    rcases (hX p hp).2 with hh | hh
    · obtain ⟨q, hq, he⟩ := List.mem_map.1 hh
      exact h3 (by rw [← he]; exact List.mem_map_of_mem (f := fun q : Nat × Obj => q.1) (List.mem_append_right _ hq))
    have h2' : p.1 < w.heap.size := h2
    omega
  refine ⟨Nat.le_trans hs h1, h2, fun hm => ?_⟩
  obtain ⟨p, hp, rfl⟩ := List.mem_map.1 hm
  rcases List.mem_append.1 hp with hp | hp
  · have := hA p hp; omega
  exact h3 (List.mem_map_of_mem hp)
section
variable {P : Program} {ops : Array Oper} {Q : Exit → Act → World → Prop} {c : Cf} {e : Env} {rest : List Oper} {o : Oper} {d : Nat} {B : Base} {A X : Heap} {f : FuncId} {args : Array Value}
def TelX (X : Heap) (R : Value → Heap → (Nat → Prop) → World → Prop) (N : Nat → Prop) (w : World) : Value → World → Prop := fun v w' =>
  ∃ X', R v X' (Nx N w w' X') w' ∧ Fr (inL X) w w' ∧ (∀ p ∈ X', w'.heap[p.1]? = some p.2 ∧ (inL X p.1 ∨ w.heap.size ≤ p.1)) ∧ (X'.map (·.1)).Nodup
theorem w_callX {R : Value → Heap → (Nat → Prop) → World → Prop} {s0 : Nat} (hm : ∀ v X' N N' w, R v X' N w → (∀ j, N j → N' j) → R v X' N' w) (hr : ∀ w, RunE P o (ev c.n e) w f args) (hg : plainB o = true) (hd : o.dst = some d) (hs : ∀ w, St B (A ++ X) w → s0 ≤ w.heap.size)
    (hc : ∀ w, St B (A ++ X) w → Ret P f args w (TelX X R (Nb s0 (w, inL (A ++ X))) w))
    (h : ∀ v X' w1, R v X' (Nb s0 (w1, inL (A ++ X'))) w1 → WX .sq P ops c Q rest (upd e d v) ((w1, inL (A ++ X')) :: B) (A ++ X')) : WX .sq P ops c Q (o :: rest) e B (A ++ X) :=
  zP hr hg hd hc fun w hw v w' ⟨X', h1, h2, h3, h4⟩ =>
    ⟨_, _, (hw.modX h2 h3 h4).base1, h v X' w' (hm _ _ _ _ _ h1 (Nx.nb hw h2 h3 (hs w hw)))⟩
end
theorem St.telX {B : Base} {A X X' : Heap} {w w' : World} {R : Value → Heap → (Nat → Prop) → World → Prop} {N : Nat → Prop} {v : Value} (hw : St B (A ++ X') w') (hx : (w, inL X) ∈ B) (hR : R v X' (Nx N w w' X') w') : TelX X R N w v w' :=
  ⟨X', hR, hw.fr _ hx, fun p hp => ⟨hw.own p (List.mem_append_right _ hp), hw.ok p (List.mem_append_right _ hp) _ hx⟩, by
    have := hw.nd
    rw [List.map_append, List.nodup_append] at this
    exact this.2.1⟩
theorem Kn.nx {B : Base} {A X' : Heap} {w w' : World} {x : Bw} {N : Nat → Prop} {a : Option Addr} {k c n : Nat} (h : Kn x a k c n) (hx : x ∈ B) (hw : St B (A ++ X') w') (hf : Fsh w.heap.size a k) : NmN w' (Nx N w w' X') a k c n := by
  obtain ⟨i, hi⟩ := List.getElem?_of_mem hx
  have hn := h.at_ i hi hw
  refine ⟨hn, fun b o q ha hk => .inr ⟨⟨hf b o q ha hk, hn.lt_ hk b o q ha⟩, fun hm => ?_⟩⟩
  obtain ⟨p, hp, he⟩ := List.mem_map.1 hm
  rcases hw.ok p (List.mem_append_right _ hp) x hx with h1 | h1
  · exact h.2 b o q ha hk (by rw [← he]; exact h1)
  have := h.1.lt_ hk b o q ha
  omega
theorem Mc.nx {α : Type} {k : Nat} {M : World → (Nat → Prop) → α → List Value → Prop} (hM : TL M) {B : Base} {L X X' : Heap} {w w' : World} {N : Nat → Prop} {l : List α} {xs : List Value} (h : Mc k M w N l xs) (hN : ∀ j, N j → ¬ inL X j) (hx : (w, inL X) ∈ B) (hw : St B L w') : Mc k M w' (Nx N w w' X') l xs :=
  (TL.cells hM).mono ((TL.cells hM).fr h (hw.fr _ hx) hN) fun _ hj => .inl hj
theorem St.part {B : Base} {A X : Heap} {w : World} (h : St B (A ++ X) w) : St [(w, inL X)] X w :=
  ⟨fun x hx => by rw [List.mem_singleton.1 hx]; exact Fr.refl _ _, fun p hp => h.own p (List.mem_append_right _ hp), by
    have := h.nd
    rw [List.map_append, List.nodup_append] at this
    exact this.2.1, fun p hp x hx => by rw [List.mem_singleton.1 hx]; exact .inl (List.mem_map_of_mem hp)⟩
end Go.Sx
end
section
namespace Go.Proofs.YtikdkendinnalaaGreatDoor
open Go.RowKit Go.Sx
open Go.Tok Go.Tree Go.Prs Go.Feed
abbrev Rr (ta : Option Addr) (tc n z k e a : Nat) : Obj := cel [.slice (aK ta tc k) (n - k) (tc - k), .int .i64 (z : Nat), .int .i64 (e : Nat), .int .i64 (a : Nat)] 61
structure Pf (w : World) (M : Nat → Prop) (T : List Tk) (ta : Option Addr) (tc z : Nat) : Prop where
  wd : Wd w
  gl : ∀ j, M j → 11 ≤ j
  tk : ∀ k t, T[k]? = some t → At w (fun j => ¬ M j) ta (k * 3) (tkC t)
  le : T.length ≤ tc
  len : T.length ≤ 6000
  zz : z ≤ 10000000
  tb : ∀ t ∈ T, t.2.1.length ≤ 20000 ∧ t.2.2 ≤ 10000000
  nt : ∀ t ∈ T, t.1 = 2 → NumT t.2.1
theorem Wd.frS {w w' : World} {S : Nat → Prop} (h : Wd w) (k : Fr S w w') (hs : ∀ j, S j → 11 ≤ j) : Wd w' := ⟨h.tb.fr k (fun x => absurd (hs _ x) (by decide)), Nat.le_trans h.gs k.size, by obtain ⟨m, hm⟩ := h.ml; exact ⟨m, k.cell hm (fun x => absurd (hs _ x) (by decide))⟩⟩
theorem Pf.fr {w w' : World} {M : Nat → Prop} {tc z : Nat} {ta : Option Addr} {T : List Tk} {S : Nat → Prop} (h : Pf w M T ta tc z) (k : Fr S w w') (hs : ∀ j, S j → M j) : Pf w' M T ta tc z :=
  ⟨h.wd.frS k (fun j hj => h.gl j (hs j hj)), h.gl, fun i t hi => (h.tk i t hi).fr k (fun j hj hS => hj (hs j hS)), h.le, h.len, h.zz, h.tb, h.nt⟩
theorem Pf.now {w w' : World} {M : Nat → Prop} {tc z : Nat} {ta : Option Addr} {T : List Tk} {S : Nat → Prop} {B : Base} {L : Heap} (h : Pf w M T ta tc z) (hx : (w, S) ∈ B) (hs : ∀ j, S j → M j) (hw : St B L w') : Pf w' M T ta tc z := h.fr (hw.fr _ hx) hs
theorem Pf.no {w w' : World} {M : Nat → Prop} {tc z : Nat} {ta : Option Addr} {T : List Tk} {B : Base} {L : Heap} (h : Pf w M T ta tc z) (hx : (w, No) ∈ B) (hw : St B L w') : Pf w' M T ta tc z := h.fr (hw.fr _ hx) (fun _ h => h.elim)
theorem nowT_b {w : World} {M : Nat → Prop} {tc z k : Nat} {ta : Option Addr} {T : List Tk} (h : Pf w M T ta tc z) : (nowT z (T.drop k)).2.1.length ≤ 20000 ∧ (nowT z (T.drop k)).2.2 ≤ 10000000 := by
  cases hd : T.drop k with
  | nil => exact ⟨by simp [nowT], h.zz⟩
  | cons t l => exact h.tb t (List.mem_of_mem_drop (hd ▸ List.mem_cons_self))
theorem place_now (z : Nat) (ts : List Tk) : place z ts = (nowT z ts).2.2 := by cases ts <;> rfl
theorem now_lt {T : List Tk} {k z : Nat} (h : (nowT z (T.drop k)).1 ≠ 0) : k < T.length := by
  rcases Nat.lt_or_ge k T.length with h' | h'
  · exact h'
  rw [show T.drop k = [] from List.drop_eq_nil_of_le h'] at h; exact absurd rfl h
theorem drop_tl {T : List Tk} {k : Nat} : (T.drop k).tail = T.drop (k + 1) := by rw [List.tail_drop]
theorem isG_now (x : Str) (z : Nat) (ts : List Tk) : isG x ts = (decide ((nowT z ts).1 = 3) && decide ((nowT z ts).2.1 = x)) := by
  cases ts with
  | nil => rfl
  | cons t r => rfl
theorem isG_lt {x : Str} {T : List Tk} {k : Nat} (h : isG x (T.drop k) = true) : k < T.length := by
  rw [isG_now x 0, Bool.and_eq_true, decide_eq_true_eq] at h
  exact now_lt (z := 0) (by rw [h.1]; decide)
theorem fnow_ok (rb z k e9 a9 : Nat) (M : Nat → Prop) (tc : Nat) (ta : Option Addr) (T : List Tk) (w : World) (hP : Pf w M T ta tc z) (hb : w.heap[rb]? = some (Rr ta tc T.length z k e9 a9)) (hk : k ≤ T.length) :
    Ret Tryz.prog 22 #[pX rb] w (fun v w' => v = .agg (tkC (nowT z (T.drop k))).toArray ∧ Ext w w') := by
  have hlen := hP.len
  refine enter (S := No) (l := [_]) (L := []) 20 Tryz.func22 rfl rfl rfl (St.start w No) ?_; refine yA ?_; refine zA zr64 (fun t2b gt2b ut2b => ?_)
  refine yB ?_; refine zq ?_; refine yA ?_; refine mP rfl ?_; refine zI rfl ?_; refine zf fa61_0 rfl ?_; refine zl z59 rfl (fun _ h => cel_oldb hb zm0 (fun x => x) rfl h) ?_; refine jj sl59 rfl ?_; refine jg rfl rfl ?_; refine yB ?_; refine zD rfl (fun h2 => ?_) (fun h2 => ?_)
  · have hlt : k < T.length := (by omega); obtain ⟨b1, o1, hta, hne, hc1⟩ := hP.tk k _ (List.getElem?_eq_getElem hlt); subst hta; have hak : aK (some ⟨b1, o1, none⟩) tc k = some ⟨b1, o1 + 3 * k, none⟩ := aK_some hlt hP.le
    refine yA ?_; refine mP rfl ?_; refine zI rfl ?_; refine zf fa61_0 rfl ?_; refine zl (v := .slice (some ⟨b1, o1 + 3 * k, none⟩) (T.length - k) (tc - k)) z59 rfl (fun w h => by rw [← hak]; exact cel_oldb hb zm0 (fun x => x) rfl h) ?_; refine zg (fun _ => R_iaN (i := 0) sl59 rfl rfl (by first | omega | decide | exact Nat.succ_pos _ | exact Nat.succ_lt_succ (Nat.succ_pos _))) ?_; refine w_loadC (l := tkC T[k]) z64 rfl rfl (fun w h j v hj => by have h9 := cel_old zm0 (hc1 j v hj) (fun x => x) h; rwa [show o1 + k * 3 + j = o1 + 3 * k + 0 * 3 + j by omega] at h9) ?_; refine jv 0 z64 rfl ?_; refine yB ?_; refine ze ?_; refine zt (?_)
    refine r_fin (.inl rfl) rfl (.agg rfl rfl z64 (fun _ h => h.at_ 0 rfl) rfl .nil) ?_; exact fun w' hw => ⟨by rw [List.drop_eq_getElem_cons hlt]; rfl, hw.f0⟩
  refine zi ?_; refine zk ?_; refine yA ?_; refine mP rfl ?_; refine zI rfl ?_; refine zf fa61_1 rfl ?_; refine zl z3 rfl (fun _ h => cel_oldb hb zm0 (fun x => x) rfl h) ?_; refine jb bt64 rfl ?_; refine jv 0 z64 rfl ?_; refine yB ?_; refine ze ?_; refine r_fin (.inl rfl) rfl (.agg rfl rfl z64 (fun _ h => h.at_ 0 rfl) rfl .nil) ?_; exact fun w' hw => ⟨by rw [show T.drop k = [] from List.drop_eq_nil_of_le (by omega)]; rfl, hw.f0⟩
theorem ffail_ok (e : Nat) (rb z k e9 a9 : Nat) (M : Nat → Prop) (tc : Nat) (ta : Option Addr) (T : List Tk) (w : World) (hP : Pf w M T ta tc z) (hb : w.heap[rb]? = some (Rr ta tc T.length z k e9 a9)) (hk : k ≤ T.length) (hM : M rb) :
    Ret Tryz.prog 24 #[pX rb, .int .i64 (e : Nat)] w (fun v w' => v = .bool false ∧ Fr (fun j => j = rb) w w' ∧ w'.heap[rb]? = some (Rr ta tc T.length z (k) (e) (place z (T.drop k)))) := by
  refine enter (S := (fun j => j = rb)) (l := [_, _]) (L := [(rb, Rr ta tc T.length z (k) (e9) (a9))]) 13 Tryz.func24 rfl rfl rfl (St.start1 w hb rfl) ?_; refine yA ?_; refine aB rfl ?_; refine yC ?_; refine mP rfl ?_; refine mI rfl ?_; refine mP rfl ?_; refine jD Tryz.func22 (fun w h => fnow_ok rb z k e9 a9 M tc ta T w (hP.now zm0 (fun j hj => by rw [hj]; exact hM) h) (h.at_ 0 rfl) (by omega)) ?_; refine zg (fun _ => R_fieldA fd64_2 z3 rfl rfl) ?_; refine jb bt27 rfl ?_; refine zI rfl ?_; refine zf fa61_2 rfl ?_
  refine jv 0 z27 rfl ?_; refine yC ?_; refine aB rfl ?_; refine yB ?_; refine ze ?_; refine zo (v := .bool _) rfl rfl rfl ?_; exact fun w' hw => ⟨rfl, hw.f0, by rw [place_now]; exact hw.at_ 0 rfl⟩
theorem ftake_ok (x : Str) (rb z k e9 a9 : Nat) (M : Nat → Prop) (tc : Nat) (ta : Option Addr) (T : List Tk) (w : World) (hP : Pf w M T ta tc z) (hb : w.heap[rb]? = some (Rr ta tc T.length z k e9 a9)) (hk : k ≤ T.length) (hM : M rb) :
    Ret Tryz.prog 61 #[pX rb, str x] w (fun v w' => v = .bool (isG x (T.drop k)) ∧ Fr (fun j => j = rb) w w' ∧ w'.heap[rb]? = some (Rr ta tc T.length z ((if isG x (T.drop k) = true then k + 1 else k)) (e9) (a9))) := by
  have hlen := hP.len
  refine enter (S := (fun j => j = rb)) (l := [_, _]) (L := [(rb, Rr ta tc T.length z (k) (e9) (a9))]) 25 Tryz.func61 rfl rfl rfl (St.start1 w hb rfl) ?_; refine yA ?_; refine aB rfl ?_; refine yB ?_; refine zq ?_; refine yA ?_; refine mP rfl ?_; refine jD Tryz.func22 (fun w h => fnow_ok rb z k e9 a9 M tc ta T w (hP.now zm0 (fun j hj => by rw [hj]; exact hM) h) (h.at_ 0 rfl) (by omega)) ?_; refine zA zr64 (fun t5b gt5b ut5b => ?_)
  refine jv 0 z64 rfl ?_; refine yC ?_; refine zf fa64_0 rfl ?_; refine jM 0 z5 rfl ?_; refine jn rfl rfl ?_; refine mB rfl ?_; refine zd (t := 11) rfl (fun h2 => ?_) (fun h2 => ?_)
  · refine zs rfl rfl (bT h2) ?_; refine zs rfl rfl (bT h2) ?_; refine zs rfl rfl (bT h2) ?_; refine zs rfl rfl (bT h2) ?_; refine jT (bT h2) rfl ?_; refine yB ?_; refine zE rfl ?_; refine yA ?_; refine aB rfl ?_; refine yB ?_; refine ze ?_; refine zt (?_)
    have ha : isG x (T.drop k) = false := by rw [isG_now x z, decide_eq_false (show ¬ (nowT z (T.drop k)).1 = 3 by omega), Bool.false_and]
    rw [ha, if_neg (by decide)]
    refine zo (v := .bool _) rfl rfl rfl ?_; exact fun w' hw => ⟨rfl, hw.f0, hw.at_ 1 rfl⟩
  refine zw rfl rfl (bF h2) ?_; refine zf fa64_1 rfl ?_; refine zw rfl rfl (bF h2) ?_; refine jM 0 z9 rfl ?_; refine zw rfl rfl (bF h2) ?_; refine zm (v := str _) rfl ?_; refine zw rfl rfl (bF h2) ?_; refine zg (fun _ => R_sne rfl rfl) ?_; refine jF (bF h2) rfl ?_; refine yB ?_; refine zD rfl (fun h3 => ?_) (fun h3 => ?_)
  · refine yA ?_; refine aB rfl ?_; refine yB ?_; refine ze ?_; refine zt (?_)
    have ha : isG x (T.drop k) = false := by rw [isG_now x z, decide_eq_false h3, Bool.and_false]
    rw [ha, if_neg (by decide)]
    refine zo (v := .bool _) rfl rfl rfl ?_; exact fun w' hw => ⟨rfl, hw.f0, hw.at_ 1 rfl⟩
  have ha : isG x (T.drop k) = true := (by rw [isG_now x z, decide_eq_true (by omega), decide_eq_true (Decidable.not_not.1 h3)]; rfl); have hlt := isG_lt ha
  refine zi ?_; refine zk ?_; refine yA ?_; refine mP rfl ?_; refine mP rfl ?_; refine zI rfl ?_; refine zf fa61_0 rfl ?_; refine jM 1 z59 rfl ?_; refine zg (fun _ => R_low3 sl59 rfl rfl hlt hP.le) ?_; refine zI rfl ?_; refine zf fa61_0 rfl ?_; refine jv 1 z59 rfl ?_; refine yC ?_; refine aB rfl ?_; refine yB ?_; refine ze ?_
  rw [ha, if_pos rfl]
  refine zo (v := .bool _) rfl rfl rfl ?_; exact fun w' hw => ⟨rfl, hw.f0, hw.at_ 1 rfl⟩
theorem fwant_ok (x : Str) (rb z k e9 a9 : Nat) (M : Nat → Prop) (tc : Nat) (ta : Option Addr) (T : List Tk) (w : World) (hP : Pf w M T ta tc z) (hb : w.heap[rb]? = some (Rr ta tc T.length z k e9 a9)) (hk : k ≤ T.length) (hM : M rb) :
    Ret Tryz.prog 25 #[pX rb, str x] w (fun v w' => v = .bool (isG x (T.drop k)) ∧ Fr (fun j => j = rb) w w' ∧ w'.heap[rb]? = some (if isG x (T.drop k) = true then Rr ta tc T.length z (k + 1) (e9) (a9) else Rr ta tc T.length z (k) (130) (place z (T.drop k)))) := by
  refine enter (S := (fun j => j = rb)) (l := [_, _]) (L := [(rb, Rr ta tc T.length z (k) (e9) (a9))]) 12 Tryz.func25 rfl rfl rfl (St.start1 w hb rfl) ?_; refine yA ?_; refine aB rfl ?_; refine yC ?_; refine mP rfl ?_; refine zm (v := str _) rfl ?_
  cases hg1 : isG x (T.drop (k))
  · refine w_call1 0 rfl (fun w => zR Tryz.func61 rfl rfl rfl) rfl rfl (fun w h => by have h9 := ftake_ok x rb z (k) (e9) (a9) M tc ta T w (hP.now zm0 (fun j hj => by rw [hj]; exact hM) h) (h.at_ 0 rfl) (by omega) hM; rw [hg1, if_neg (by decide)] at h9; exact h9) ?_; refine mB rfl ?_; refine zw rfl rfl rfl ?_; refine mP rfl ?_; refine zw rfl rfl rfl ?_; refine w_call1 0 rfl (fun w => zR Tryz.func24 rfl rfl rfl) rfl rfl (fun w h => ffail_ok 130 rb z (k) (e9) (a9) M tc ta T w (hP.now zm0 (fun j hj => by rw [hj]; exact hM) h) (h.at_ 0 rfl) (by omega) hM) ?_; refine jF rfl rfl ?_; refine aB rfl ?_; refine yB ?_; refine ze ?_
    rw [if_neg (by decide)]
    refine zo (v := .bool _) rfl rfl rfl ?_; exact fun w' hw => ⟨rfl, hw.f0, hw.at_ 0 rfl⟩
  refine w_call1 0 rfl (fun w => zR Tryz.func61 rfl rfl rfl) rfl rfl (fun w h => by have h9 := ftake_ok x rb z (k) (e9) (a9) M tc ta T w (hP.now zm0 (fun j hj => by rw [hj]; exact hM) h) (h.at_ 0 rfl) (by omega) hM; rw [hg1, if_pos rfl] at h9; exact h9) ?_
  have hlt1 := isG_lt hg1
  refine mB rfl ?_; (iterate 2 refine zs rfl rfl rfl ?_); refine jT rfl rfl ?_; refine aB rfl ?_; refine yB ?_; refine ze ?_
  rw [if_pos rfl]
  refine zo (v := .bool _) rfl rfl rfl ?_; exact fun w' hw => ⟨rfl, hw.f0, hw.at_ 0 rfl⟩
end Go.Proofs.YtikdkendinnalaaGreatDoor
end
section
namespace Go.Feed
open Go.Tok Go.Tree Go.Prs Go.Num
theorem NumT.ascii {s : Str} (h : NumT s) : ∀ (j : Nat) b, s[j]? = some b → b.toNat < 128 := by
  intro j b hb
  have hj : j < s.length := (List.getElem?_eq_some_iff.1 hb).1
  have key : ∀ p : UInt8 → Bool, (∀ b, p b = true → b.toNat < 128) → atP p s j = true → b.toNat < 128 := fun p hp ha => by
    unfold atP at ha
    rw [hb] at ha
    exact hp b ha
  have hd : ∀ b, digitB b = true → b.toNat < 128 := byte_all (fun b => digitB b = true → b.toNat < 128) (by decide +kernel)
  have hdot : ∀ b, eqB 46 b = true → b.toNat < 128 := byte_all (fun b => eqB 46 b = true → b.toNat < 128) (by decide +kernel)
  have he : ∀ b, eqB 101 b = true → b.toNat < 128 := byte_all (fun b => eqB 101 b = true → b.toNat < 128) (by decide +kernel)
  have hpm : ∀ b, pmB b = true → b.toNat < 128 := byte_all (fun b => pmB b = true → b.toNat < 128) (by decide +kernel)
  rcases Nat.lt_or_ge j (i1 s) with h1 | h1
  · exact key _ hd (run_all _ 0 rfl (Nat.zero_le _) h1)
  · rcases Nat.lt_or_ge j (i2 s) with h2 | h2
    · cases hq : dotB s with
      | false => rw [i2_no hq] at h2; omega
      | true =>
        by_cases hji : j = i1 s
        · subst hji; exact key _ hdot hq
        · exact key _ hd (run_all _ (i1 s + 1) rfl (by omega) (by rw [i2_yes hq]; exact h2))
    · cases hx : exB s with
      | false => have := h.d hx; omega
      | true =>
        have hc := h.c hx
        by_cases hji : j = i2 s
        · subst hji; exact key _ he hx
        · by_cases hk : k0 s ≤ j
          · exact key _ hd (run_all _ (k0 s) rfl hk (by have := hc.2.2; unfold k1 at this; omega))
          · have hk2 : k0 s = i2 s + 2 := by
              unfold k0 at hk ⊢
              split
              · rfl
              · rename_i hh; rw [if_neg hh] at hk; omega
            have hji2 : j = i2 s + 1 := by omega
            refine key _ hpm ?_
            rw [hji2, pm_eq]
            cases hp : (plB s || mnB s) with
            | true => exact hp
            | false =>
              unfold k0 at hk2
              rw [hp, if_neg (by decide)] at hk2
              omega
theorem mkR_pos {s : Bool} {n d : Nat} (h : d ≠ 0) : (mkR s n d).2 ≠ 0 := by
  have h1 : 0 < Nat.gcd n d := Nat.gcd_pos_of_pos_right _ (Nat.pos_of_ne_zero h)
  have h2 := Nat.div_pos (Nat.le_of_dvd (Nat.pos_of_ne_zero h) (Nat.gcd_dvd_right n d)) h1
  unfold mkR
  exact Nat.pos_iff_ne_zero.1 h2
theorem mkR_le (s : Bool) (n d : Nat) : (mkR s n d).1.natAbs ≤ n ∧ (mkR s n d).2 ≤ d := by
  unfold mkR
  rw [iv_abs]
  exact ⟨Nat.div_le_self _ _, Nat.div_le_self _ _⟩
theorem numV_pos (s : Str) : (numV s).2 ≠ 0 := by
  unfold numV
  split
  · exact mkR_pos (Nat.pos_iff_ne_zero.1 (Nat.pow_pos (by decide)))
  exact mkR_pos (by decide)
theorem ten_mono {x k : Nat} (h : x < 10 ^ k) : sz x ≤ k / 16 + 1 := Nat.le_trans (sz_iff.2 (Nat.lt_of_lt_of_le h (Nat.le_of_lt (sz_iff.1 (sz_ten16 k))))) (Nat.le_refl _)
theorem ten_le {x l k : Nat} (h : x < 10 ^ l) (hl : l ≤ k) : x < 10 ^ k := Nat.lt_of_lt_of_le h (Nat.pow_le_pow_right (by decide) hl)
theorem numV_sz {s : Str} (h : NumT s) (hs : s.length ≤ 400) : sz (numV s).1.natAbs ≤ 1000 ∧ sz (numV s).2 ≤ 1000 := by
  have hp := h.pow_le hs
  have hd := h.dig
  have h1 := pv_bound (digs s) hd.1
  have hdl : (digs s).length ≤ 400 := Nat.le_trans hd.2.2 hs
  obtain ⟨J, hJ⟩ : ∃ J, J = 400 := ⟨_, rfl⟩
  obtain ⟨K, hK⟩ : ∃ K, K = 10399 := ⟨_, rfl⟩
  have h2 := ten_le (k := J) h1 (by omega)
  have mono : ∀ {x y : Nat}, x ≤ y → sz x ≤ sz y := fun hxy => sz_iff.2 (Nat.lt_of_le_of_lt hxy (lt_sz _))
  have hpa : (powr s).natAbs ≤ K := by omega
  have h3 : (10 : Nat) ^ (powr s).natAbs ≤ 10 ^ K := Nat.pow_le_pow_right (by decide) hpa
  unfold numV
  split
  · have hm := mkR_le false (pv 0 (digs s)) (10 ^ (powr s).natAbs)
    refine ⟨Nat.le_trans (mono hm.1) (Nat.le_trans (ten_mono h2) (by omega)), Nat.le_trans (mono hm.2) (Nat.le_trans (sz_ten16 _) (by omega))⟩
  have hm := mkR_le false (pv 0 (digs s) * 10 ^ (powr s).natAbs) 1
  refine ⟨Nat.le_trans (mono hm.1) ?_, Nat.le_trans (mono hm.2) (by decide)⟩
  have h4 : pv 0 (digs s) * 10 ^ (powr s).natAbs < 10 ^ (J + K) := by
    rw [Nat.pow_add]
    exact Nat.lt_of_le_of_lt (Nat.mul_le_mul_left _ h3) (Nat.mul_lt_mul_of_pos_right h2 (Nat.pow_pos (by decide)))
  exact Nat.le_trans (ten_mono h4) (by omega)
theorem ngR_sz {x : Rt} : sz (ngR x).1.natAbs ≤ sz x.1.natAbs ∧ sz (ngR x).2 ≤ sz x.2 := by
  have hm := mkR_le (!ng x.1) x.1.natAbs x.2
  have mono : ∀ {x y : Nat}, x ≤ y → sz x ≤ sz y := fun hxy => sz_iff.2 (Nat.lt_of_le_of_lt hxy (lt_sz _))
  exact ⟨mono hm.1, mono hm.2⟩
end Go.Feed
end
section
namespace Go.Sx
open Go.RowKit
section
variable {P : Program} {ops : Array Oper} {Q : Exit → Act → World → Prop} {c : Cf} {e : Env} {B : Base} {L : Heap} {rest : List Oper} {d : Nat} {x y : Operand} {T : TypeId} {p : String} {ed : Array Edge} {t te bytes : Nat} {z v : Value} {xs : List Value} {W : Heap}
theorem o_app {q fuel k n m b2 o2 c2 : Nat} {S : World → Prop} {listed : Array Bool} {news : List Value} (A : Heap) (hq : ops[q]? = some ⟨some d, .call ⟨.builtin .append, #[x, y], #[t, t]⟩, T, p, ed, none⟩) (hT : slT P t te k bytes z) (hk : 0 < k) (hx : ev c.n e x = v) (hown : Own te k v xs n W) (hy : ev c.n e y = .slice (some ⟨b2, o2, none⟩) m c2)
    (hl : news.length = m * k) (hnews : ∀ w, St B (A ++ (W ++ L)) w → ∀ (j : Nat) u, news[j]? = some u → w.cell? ⟨b2, o2 + j, none⟩ = some u) (h1 : news.all Value.oneCell' = true) (hm : 0 < m) (h63 : n + m ≤ 9223372036854775807) (hbytes : (n + m) * bytes ≤ 140737488355328)
    (h : ∀ v' W', Own te k v' (xs ++ news) (n + m) W' → WH P ops c Q S fuel (listed.setIfInBounds q true) (upd e d v') B (A ++ (W' ++ L))) : WO P ops c Q S fuel listed q e B (A ++ (W ++ L)) :=
  o_val hq rfl rfl fun w hw => by
    obtain ⟨v', w', L2, k1, k2, k3⟩ := app_run (ρ := ev c.n e) (D := some d) (g := none) (x := x) (y := y) (T := T) (p := p) (ed := ed) (A := A) (L := L) (news := news) hT hk hx (hown.toR A L) hy hl hnews h1 hm h63 hbytes hw
    obtain ⟨W', k4, rfl⟩ := k2.own
    exact ⟨v', w', B, _, k1, k3, h v' W' k4⟩
theorem o_st {q fuel : Nat} {S : World → Prop} {listed : Array Bool} {B' : Base} {L' : Heap} (hc : ∀ w, St B L w → St B' L' w) (h : WO P ops c Q S fuel listed q e B' L') : WO P ops c Q S fuel listed q e B L := by
  unfold WO at *
  exact fun w hw => h w (hc w hw)
end
section
variable {P : Program} {ops : Array Oper} {Q : Exit → Act → World → Prop} {c : Cf} {e : Env} {B : Base} {L : Heap} {rest : List Oper} {v : Value} {d : Nat} {q : Md} {x y z : Operand} {T : TypeId} {p : String} {a : Array Edge}
theorem w_lookS (i : Nat) {b : Nat} {s : List UInt8} {l : List (List UInt8 × Value)} {t te : TypeId} {tk : TypeId} {zv : Value} (hi : L[i]? = some (b, mpS l)) (ht : P.underlying t = some (.map tk te)) (hk : P.underlying tk = some .string) (hz : zeroB P te zv) (hx : ev c.n e x = .map (some b)) (hy : ev c.n e y = str s) (hv : (l.lookup s).getD zv = v)
    (h : WX q P ops c Q rest (upd e d v) B L) : WX q P ops c Q (⟨some d, .lookup t x y false, T, p, a, none⟩ :: rest) e B L := by
  refine w_run (fun w hw => ?_) rfl rfl h
  have hb := hw.at_ i hi
  unfold mpS at hb
  obtain ⟨r, h1, h2⟩ := find_strs s l 0 0
  have hzr : (zeroValue te).run P w = .ok zv w := by
    unfold zeroB at hz
    cases hti : P.info? te with
    | none => rw [hti] at hz; cases hz
    | some j => rw [hti] at hz; simp [zeroValue, typeInfo, hti, show j.zero = some zv by simpa using hz, go_sem]
  have hck : ∀ (em : Bool) (w : World), (Instr.checkKey em 10000 tk (str s)).run P w = .ok () w := fun em w => MapKept.run_checkKey (d := .string) hk (show MapKept.IsKey .string (str s) from True.intro) em 9999
  simp only [Run, execOp, hx, hy]
  subst hv
  rw [← h2]
  cases r with
  | none => simp [Instr.lookup, run_underlying ht, MapKept.run_getObj_map hb, hck, MapKept.run_findKey hk h1, hzr, Result.andThen, go_sem]
  | some r => simp [Instr.lookup, run_underlying ht, MapKept.run_getObj_map hb, hck, MapKept.run_findKey hk h1, Result.andThen, go_sem]
end
end Go.Sx
end
section
namespace Go.Proofs.YtikdkendinnalaaGreatDoor
open Go.RowKit Go.Sx
open Go.Tok Go.Tree Go.Prs Go.Feed Go.Num
abbrev Dd (nm : Str) (p : Nat) (li wh : Bool) (v : Value) : Obj := cel [str nm, .int .i64 (p : Nat), .bool li, .bool wh, v] 33
theorem containsAny_ok (s : List UInt8) (w : World) (hs : s.length ≤ 1000) (ha : ∀ (j : Nat) b, s[j]? = some b → b.toNat < 128) : Ret Tryz.prog 103 #[str s, str [46, 101]] w fun v w' => v = .bool (!wholeT s) ∧ Ext w w' :=
  Calls.mono (Tryz.strings_ContainsAny_laid ⟨s.toArray⟩ ⟨#[46, 101]⟩ w (by show s.length < _; omega) (by decide) ha (by
    intro j b hb
    have hm := List.mem_of_getElem? hb
    have : ∀ b ∈ ([46, 101] : List UInt8), b.toNat < 128 := by decide
    exact this b hm)) fun e w' ⟨h1, h2⟩ => ⟨_, h1, by
    have key : ∀ l : List UInt8, Lib.containsAny l [46, 101] = l.any (fun b => b == 46 || b == 101) := by
      intro l
      unfold Lib.containsAny
      induction l with
      | nil => rfl
      | cons b l ih =>
        have hg := Lib.indexAny_ge [46, 101] l
        rw [Lib.indexAny, List.any_cons, ← ih]
        have hb : List.contains ([46, 101] : List UInt8) b = (b == 46 || b == 101) := by rw [List.contains_cons, List.contains_cons, List.contains_nil, Bool.or_false]
        rw [hb]
        by_cases hc : (b == 46 || b == 101) = true
        · rw [hc]; rfl
        · rw [if_neg hc, Bool.not_eq_true _ |>.mp hc, Bool.false_or]
          by_cases h3 : Lib.indexAny l [46, 101] = -1
          · rw [h3]; rfl
          · rw [if_neg (by simpa using h3)]
            exact decide_eq_decide.2 ⟨fun h => by omega, fun h => by omega⟩
    show Value.bool (Lib.containsAny s [46, 101]) = _
    rw [key]
    unfold wholeT
    rw [Bool.not_not], ext_below h2⟩
def NumQ (rb db tc z e9 a9 k : Nat) (ta : Option Addr) (T : List Tk) (nm : Str) (p : Nat) (li wh : Bool) (l : List Rt) (X : Except Fl ((Rt × Bool) × List Tk)) : Value → Heap → (Nat → Prop) → World → Prop := fun v X' N w =>
  match X with
  | .ok (a, r) => v = .bool true ∧ ∃ k' v' xs' W', r = T.drop k' ∧ k < k' ∧ k' ≤ T.length ∧ X' = (rb, Rr ta tc T.length z k' e9 a9) :: (db, Dd nm p li (wh && a.2) v') :: W' ∧ Own 46 3 v' xs' (l.length + 1) W' ∧ Mc 3 rwC w N ((l ++ [a.1]).map rwR) xs'
  | .error fl => v = .bool false ∧ ∃ k' Y, k' ≤ T.length ∧ X' = (rb, Rr ta tc T.length z k' fl.1 fl.2) :: Y
theorem dd_eq {rb db p : Nat} {o : Obj} {nm : Str} {li b b' : Bool} {v : Value} {W : Heap} (h : b = b') : ((rb, o) :: (db, Dd nm p li b v) :: W : Heap) = (rb, o) :: (db, Dd nm p li b' v) :: W := by rw [h]
theorem fTok_kind {z : Nat} {neg : Bool} {ts : List Tk} (h : ¬ (nowT z ts).1 = 2) : fTok z neg ts = .error (130, place z ts) := if_neg h
theorem fTok_long {z : Nat} {neg : Bool} {ts : List Tk} (h : (nowT z ts).1 = 2) (h2 : 400 < (nowT z ts).2.1.length) : fTok z neg ts = .error (3, place z ts) := (if_pos h).trans (if_pos h2)
theorem fTok_ok {z : Nat} {neg : Bool} {ts : List Tk} (h : (nowT z ts).1 = 2) (h2 : ¬ 400 < (nowT z ts).2.1.length) : fTok z neg ts = .ok ((if neg = true then ngR (numV (nowT z ts).2.1) else numV (nowT z ts).2.1, wholeT (nowT z ts).2.1), ts.tail) := (if_pos h).trans (if_neg h2)
theorem fNum_y {z : Nat} {ts : List Tk} (h : isG [45] ts = true) : fNum z ts = fTok z true ts.tail := if_pos h
theorem fNum_n {z : Nat} {ts : List Tk} (h : isG [45] ts = false) : fNum z ts = fTok z false ts := if_neg (by rw [h]; decide)
theorem now_nt {w : World} {M : Nat → Prop} {tc z k : Nat} {ta : Option Addr} {T : List Tk} (h : Pf w M T ta tc z) (h2 : (nowT z (T.drop k)).1 = 2) : NumT (nowT z (T.drop k)).2.1 := by
  have hl := now_lt (T := T) (k := k) (z := z) (by rw [h2]; decide)
  rw [List.drop_eq_getElem_cons hl] at h2 ⊢
  exact h.nt _ (List.getElem_mem hl) h2
theorem number_ok (rb db z k e9 a9 : Nat) (M : Nat → Prop) (tc : Nat) (ta : Option Addr) (T : List Tk) (w : World) (hP : Pf w M T ta tc z) (hk : k ≤ T.length) (hM : M rb) (hMd : M db) (nm : Str) (p : Nat) (li wh : Bool) (va : Option Addr) (vc : Nat) (xs : List Value) (l : List Rt) (W : Heap) (hO : Own 46 3 (.slice va l.length vc) xs l.length W) (hMW : ∀ p ∈ W, M p.1) (hl : l.length ≤ 10000) (N : Nat → Prop) (hN : ∀ j, N j → ¬ inL ((rb, Rr ta tc T.length z (k) (e9) (a9)) :: (db, Dd nm p li wh (.slice va l.length vc)) :: W) j) (hK : Mc 3 rwC w N (l.map rwR) xs) (hX : St [(w, inL ((rb, Rr ta tc T.length z (k) (e9) (a9)) :: (db, Dd nm p li wh (.slice va l.length vc)) :: W))] ((rb, Rr ta tc T.length z (k) (e9) (a9)) :: (db, Dd nm p li wh (.slice va l.length vc)) :: W) w) :
    Ret Tryz.prog 62 #[pX rb, pX db] w (TelX ((rb, Rr ta tc T.length z (k) (e9) (a9)) :: (db, Dd nm p li wh (.slice va l.length vc)) :: W) (NumQ rb db tc z e9 a9 k ta T nm p li wh l (fNum z (T.drop k))) N w) := by
  have hlen := hP.len
  refine enter (S := (inL ((rb, Rr ta tc T.length z (k) (e9) (a9)) :: (db, Dd nm p li wh (.slice va l.length vc)) :: W))) (l := [_, _]) (L := [(rb, Rr ta tc T.length z (k) (e9) (a9)), (db, Dd nm p li wh (.slice va l.length vc))] ++ W) 71 Tryz.func62 rfl rfl rfl (hX) ?_; refine yA ?_; refine aB rfl ?_; refine yC ?_; refine mP rfl ?_
  cases hg1 : isG [45] (T.drop (k))
  · refine w_call1 0 rfl (fun w => zR Tryz.func61 rfl rfl rfl) rfl rfl (fun w h => by have h9 := ftake_ok [45] rb z (k) (e9) (a9) M tc ta T w (hP.now zm0 (fun j hj => by rcases List.mem_cons.1 hj with rfl | hj; (exact hM); (rcases List.mem_cons.1 hj with rfl | hj; (exact hMd); (obtain ⟨q, hq, rfl⟩ := List.mem_map.1 hj; exact hMW q hq))) h) (h.at_ 0 rfl) (by omega) hM; rw [hg1, if_neg (by decide)] at h9; exact h9) ?_
    refine aB rfl ?_; refine yC ?_; refine mP rfl ?_; refine jD Tryz.func22 (fun w h => fnow_ok rb z (k) (e9) (a9) M tc ta T w (hP.now zm0 (fun j hj => by rcases List.mem_cons.1 hj with rfl | hj; (exact hM); (rcases List.mem_cons.1 hj with rfl | hj; (exact hMd); (obtain ⟨q, hq, rfl⟩ := List.mem_map.1 hj; exact hMW q hq))) h) (h.at_ 0 rfl) (by omega)) ?_; refine zA zr64 (fun t6b gt6b ut6b => ?_)
    refine jv 0 z64 rfl ?_; refine yB ?_; refine zq ?_; refine yA ?_; refine zf fa64_0 rfl ?_; refine jM 0 z5 rfl ?_; refine jn rfl rfl ?_; refine yB ?_; refine zD rfl (fun h3 => ?_) (fun h3 => ?_)
    · have hkd : ¬ (nowT z (T.drop (k))).1 = 2 := (by omega)
      refine yA ?_; refine mP rfl ?_; refine w_call1 1 rfl (fun w => zR Tryz.func24 rfl rfl rfl) rfl rfl (fun w h => ffail_ok 130 rb z (k) (e9) (a9) M tc ta T w (hP.now zm0 (fun j hj => by rcases List.mem_cons.1 hj with rfl | hj; (exact hM); (rcases List.mem_cons.1 hj with rfl | hj; (exact hMd); (obtain ⟨q, hq, rfl⟩ := List.mem_map.1 hj; exact hMW q hq))) h) (h.at_ 1 rfl) (by omega) hM) ?_; refine aB rfl ?_; refine yB ?_; refine ze ?_; refine zt (?_)
      have hG : fNum z (T.drop k) = .error (130, place z (T.drop (k))) := (fNum_n hg1).trans (fTok_kind hkd)
      rw [hG]
      refine zo (v := .bool _) rfl rfl rfl ?_; exact fun w' hw => St.telX (A := [_]) hw zm0 ⟨rfl, k, _, by omega, rfl⟩
    have hkd : (nowT z (T.drop (k))).1 = 2 := (by omega); have hT := now_nt hP hkd; have hnb := nowT_b (k := k) hP
    refine zi ?_; refine zk ?_; refine yA ?_; refine zf fa64_1 rfl ?_; refine jM 0 z9 rfl ?_
    rcases Nat.lt_or_ge 400 (nowT z (T.drop (k))).2.1.length with hlong | hlong
    · refine jD Tryz.func101 (fun w h => numeralF_no _ w ⟨hlong, by omega⟩) ?_; refine zm rfl ?_; refine jx rfl rfl ?_; refine jx rfl rfl ?_; refine zA zr46 (fun t7b gt7b ut7b => ?_)
      refine jv 0 z46 rfl ?_; refine aI rfl ?_; refine yB ?_; refine zq ?_; refine yA ?_; refine zf fa64_1 rfl ?_; refine jM 1 z9 rfl ?_; refine zg (fun _ => R_slen st9 rfl (by omega)) ?_; refine zg (fun _ => R_gtT rfl rfl (by omega)) ?_; refine mB rfl ?_; (iterate 2 refine zs rfl rfl rfl ?_); refine jT rfl rfl ?_; refine yB ?_; refine zE rfl ?_; refine yA ?_; refine mP rfl ?_
      refine w_call1 2 rfl (fun w => zR Tryz.func24 rfl rfl rfl) rfl rfl (fun w h => ffail_ok 3 rb z (k) (e9) (a9) M tc ta T w (hP.now zm0 (fun j hj => by rcases List.mem_cons.1 hj with rfl | hj; (exact hM); (rcases List.mem_cons.1 hj with rfl | hj; (exact hMd); (obtain ⟨q, hq, rfl⟩ := List.mem_map.1 hj; exact hMW q hq))) h) (h.at_ 2 rfl) (by omega) hM) ?_; refine aB rfl ?_; refine yB ?_; refine ze ?_; refine zt (?_)
      have hG : fNum z (T.drop k) = .error (3, place z (T.drop (k))) := (fNum_n hg1).trans (fTok_long hkd hlong)
      rw [hG]
      refine zo (v := .bool _) rfl rfl rfl ?_; exact fun w' hw => St.telX (A := [_, _]) hw zm0 ⟨rfl, k, _, by omega, rfl⟩
    refine w_tel2 (fun w => zR Tryz.func101 rfl rfl rfl) rfl rfl (fun w h => numeralF_ok _ w hlong hT) (fun x5 a5 c5 a5' c5' hK5 hN5 hK5' hN5' => ?_)
    have hvp := numV_pos (nowT z (T.drop (k))).2.1; have hvs := numV_sz hT hlong
    refine zm rfl ?_; refine jx rfl rfl ?_; refine jx rfl rfl ?_; refine zA zr46 (fun t7b gt7b ut7b => ?_)
    refine jv 0 z46 rfl ?_; refine aI rfl ?_; refine yB ?_; refine zq ?_; refine yA ?_; refine zf fa64_1 rfl ?_; refine jM 1 z9 rfl ?_; refine zg (fun _ => R_slen st9 rfl (by omega)) ?_; refine zg (fun _ => R_gtF rfl rfl (by omega)) ?_; refine mB rfl ?_; refine zw rfl rfl rfl ?_; refine mI rfl ?_; refine zw rfl rfl rfl ?_; refine jn rfl rfl ?_; refine jF rfl rfl ?_; refine yB ?_; refine zG bE ?_
    refine zi ?_; refine zk ?_; refine zq ?_; refine yA ?_; refine mB rfl ?_; refine yB ?_; refine zG rfl ?_; refine zi ?_; refine zk ?_; refine yA ?_; refine mP rfl ?_; refine mP rfl ?_; refine zI rfl ?_; refine zf fa61_0 rfl ?_; refine jM 2 z59 rfl ?_
    have hlt : k < T.length := now_lt (z := z) (by rw [hkd]; decide)
    refine zg (fun _ => R_low3 sl59 rfl rfl hlt hP.le) ?_; refine zI rfl ?_; refine zf fa61_0 rfl ?_; refine jv 2 z59 rfl ?_; refine yB ?_; refine zq ?_; refine c_heldI [0, 1, 2] mixed ?_; refine zh (v := .pointer _) 0 rfl (by kernel_rfl) rfl rfl (pk [0, 1, 2]) (fun w h => R_move rfl) ?_; refine zh (v := .pointer _) 1 rfl (by kernel_rfl) rfl rfl (pk [0, 1, 2]) (fun w h => R_move rfl) ?_; refine zh2 2 rfl rfl (pk [0, 1, 2]) (fun w h => R_nil rfl) ?_; refine zh2 3 rfl rfl (pk [0, 1, 2]) (fun w h => R_fa fa33_4 rfl) ?_; refine h_loadA 5 rfl (by kernel_rfl) (pk [0, 1, 2]) z46 rfl (fun _ h => h.at_ 0 rfl) rfl ?_
    refine h_two 4 6 (by kernel_rfl) (pk [0, 1, 2]) ?_ ?_
    · refine o_run (v := .slice _ _ _) rfl rfl rfl (fun w h => R_ld1 z31 rfl (zc 3 rfl rfl h)) ?_; refine zH2 6 (pk [0, 1, 2]) ?_; refine o_bsliceV rfl (wn_none rfl) slt31 (by decide) rfl rfl (fun sb gsb usb => ?_)
      refine zH2 7 (pk [1, 2, 3]) ?_; refine o_st (B' := _) (L' := [_, _, _, _, _] ++ (W ++ [])) (fun w h => by rw [List.append_nil]; exact h) ?_; refine o_app (L := []) (W := W) (news := [.bool (ng (numV (nowT z (T.drop (k))).2.1).1), .slice a5 (sz (numV (nowT z (T.drop (k))).2.1).1.natAbs) c5, .slice a5' (sz (numV (nowT z (T.drop (k))).2.1).2) c5']) [_, _, _, _, _] rfl slt31 (by decide) rfl hO rfl rfl (row_own 0 rfl (fun j u h => h)) rfl (by decide) (by omega) (by omega) (fun v2 W2 hO2 => ?_)
      obtain ⟨a2, c2, rfl⟩ := hO2.slice
      refine zh2 8 rfl rfl (pk [1, 2, 3]) (fun w h => R_nil rfl) ?_; refine zh2 9 rfl rfl (pk [1, 2, 3]) (fun w h => R_fa fa33_4 rfl) ?_; refine zH2 10 (pk [1, 2, 3]) ?_; refine zJ 4 rfl rfl z31 rfl rfl rfl rfl rfl rfl rfl ?_; refine zN2 (pk [1, 2, 3]) ?_; refine zk ?_; refine yA ?_; refine mP rfl ?_; refine mP rfl ?_; refine zI rfl ?_; refine zf fa33_3 rfl ?_; refine jM 4 z4 rfl ?_; refine mB rfl ?_; refine zp (t := 63) rfl (fun h7 => ?_) (fun h7 => ?_)
      · refine zw rfl rfl (bV h7) ?_; refine zf fa64_1 rfl ?_; refine zw rfl rfl (bV h7) ?_; refine jM 2 z9 rfl ?_; refine zw rfl rfl (bV h7) ?_; refine jD Tryz.func103 (fun w h => containsAny_ok _ w (by omega) hT.ascii) ?_; refine zw rfl rfl (bV h7) ?_; refine jk rfl ?_; refine jT (bV h7) rfl ?_; refine zI rfl ?_; refine zf fa33_3 rfl ?_; refine jv 4 z4 rfl ?_; refine yC ?_; refine aB rfl ?_; refine yB ?_; refine ze ?_
        have hG : fNum z (T.drop k) = .ok (((numV (nowT z (T.drop (k))).2.1), wholeT (nowT z (T.drop (k))).2.1), (T.drop (k)).tail) := by rw [fNum_n hg1]; exact fTok_ok hkd (by omega)
        rw [hG]
        refine zK (B' := _) (L' := [_, _, _] ++ (_ :: _ :: W2)) (fun w h => by rw [List.append_nil] at h; exact h) ?_; refine zo (v := .bool _) rfl rfl rfl ?_; exact fun w' hw => St.telX (A := [_, _, _]) hw zm1 ⟨rfl, k + 1, _, _, W2, drop_tl, by omega, by omega, dd_eq (by rw [h7]; simp), hO2, by rw [List.map_append]; exact Mc.snoc (hK.nx TL.rwc hN zm1 hw) (by rw [List.length_map]; exact hO.1) rfl ⟨((a5, c5), (a5', c5')), rfl, ⟨(hK5.nx zm0 hw (hN5 _ zm0)), (hK5'.nx zm0 hw (hN5' _ zm0))⟩⟩⟩
      refine zs rfl rfl (bV h7) ?_; refine zs rfl rfl (bV h7) ?_; refine zs rfl rfl (bV h7) ?_; refine zs rfl rfl (bV h7) ?_; refine jF (bV h7) rfl ?_; refine zI rfl ?_; refine zf fa33_3 rfl ?_; refine jv 4 z4 rfl ?_; refine yC ?_; refine aB rfl ?_; refine yB ?_; refine ze ?_
      have hG : fNum z (T.drop k) = .ok (((numV (nowT z (T.drop (k))).2.1), wholeT (nowT z (T.drop (k))).2.1), (T.drop (k)).tail) := by rw [fNum_n hg1]; exact fTok_ok hkd (by omega)
      rw [hG]
      refine zK (B' := _) (L' := [_, _, _] ++ (_ :: _ :: W2)) (fun w h => by rw [List.append_nil] at h; exact h) ?_; refine zo (v := .bool _) rfl rfl rfl ?_; exact fun w' hw => St.telX (A := [_, _, _]) hw zm1 ⟨rfl, k + 1, _, _, W2, drop_tl, by omega, by omega, dd_eq (by rw [h7]; simp), hO2, by rw [List.map_append]; exact Mc.snoc (hK.nx TL.rwc hN zm1 hw) (by rw [List.length_map]; exact hO.1) rfl ⟨((a5, c5), (a5', c5')), rfl, ⟨(hK5.nx zm0 hw (hN5 _ zm0)), (hK5'.nx zm0 hw (hN5' _ zm0))⟩⟩⟩
    refine o_bsliceV rfl (wn_none rfl) slt31 (by decide) rfl rfl (fun sb gsb usb => ?_)
    refine zH2 4 (pk [1, 2, 3]) ?_; refine o_run (v := .slice _ _ _) rfl rfl rfl (fun w h => R_ld1 z31 rfl (zc 4 rfl rfl h)) ?_; refine zH2 7 (pk [1, 2, 3]) ?_; refine o_st (B' := _) (L' := [_, _, _, _, _] ++ (W ++ [])) (fun w h => by rw [List.append_nil]; exact h) ?_; refine o_app (L := []) (W := W) (news := [.bool (ng (numV (nowT z (T.drop (k))).2.1).1), .slice a5 (sz (numV (nowT z (T.drop (k))).2.1).1.natAbs) c5, .slice a5' (sz (numV (nowT z (T.drop (k))).2.1).2) c5']) [_, _, _, _, _] rfl slt31 (by decide) rfl hO rfl rfl (row_own 0 rfl (fun j u h => h)) rfl (by decide) (by omega) (by omega) (fun v2 W2 hO2 => ?_)
    obtain ⟨a2, c2, rfl⟩ := hO2.slice
    refine zh2 8 rfl rfl (pk [1, 2, 3]) (fun w h => R_nil rfl) ?_; refine zh2 9 rfl rfl (pk [1, 2, 3]) (fun w h => R_fa fa33_4 rfl) ?_; refine zH2 10 (pk [1, 2, 3]) ?_; refine zJ 4 rfl rfl z31 rfl rfl rfl rfl rfl rfl rfl ?_; refine zN2 (pk [1, 2, 3]) ?_; refine zk ?_; refine yA ?_; refine mP rfl ?_; refine mP rfl ?_; refine zI rfl ?_; refine zf fa33_3 rfl ?_; refine jM 4 z4 rfl ?_; refine mB rfl ?_; refine zp (t := 63) rfl (fun h8 => ?_) (fun h8 => ?_)
    · refine zw rfl rfl (bV h8) ?_; refine zf fa64_1 rfl ?_; refine zw rfl rfl (bV h8) ?_; refine jM 2 z9 rfl ?_; refine zw rfl rfl (bV h8) ?_; refine jD Tryz.func103 (fun w h => containsAny_ok _ w (by omega) hT.ascii) ?_; refine zw rfl rfl (bV h8) ?_; refine jk rfl ?_; refine jT (bV h8) rfl ?_; refine zI rfl ?_; refine zf fa33_3 rfl ?_; refine jv 4 z4 rfl ?_; refine yC ?_; refine aB rfl ?_; refine yB ?_; refine ze ?_
      have hG : fNum z (T.drop k) = .ok (((numV (nowT z (T.drop (k))).2.1), wholeT (nowT z (T.drop (k))).2.1), (T.drop (k)).tail) := by rw [fNum_n hg1]; exact fTok_ok hkd (by omega)
      rw [hG]
      refine zK (B' := _) (L' := [_, _, _] ++ (_ :: _ :: W2)) (fun w h => by rw [List.append_nil] at h; exact h) ?_; refine zo (v := .bool _) rfl rfl rfl ?_; exact fun w' hw => St.telX (A := [_, _, _]) hw zm1 ⟨rfl, k + 1, _, _, W2, drop_tl, by omega, by omega, dd_eq (by rw [h8]; simp), hO2, by rw [List.map_append]; exact Mc.snoc (hK.nx TL.rwc hN zm1 hw) (by rw [List.length_map]; exact hO.1) rfl ⟨((a5, c5), (a5', c5')), rfl, ⟨(hK5.nx zm0 hw (hN5 _ zm0)), (hK5'.nx zm0 hw (hN5' _ zm0))⟩⟩⟩
    refine zs rfl rfl (bV h8) ?_; refine zs rfl rfl (bV h8) ?_; refine zs rfl rfl (bV h8) ?_; refine zs rfl rfl (bV h8) ?_; refine jF (bV h8) rfl ?_; refine zI rfl ?_; refine zf fa33_3 rfl ?_; refine jv 4 z4 rfl ?_; refine yC ?_; refine aB rfl ?_; refine yB ?_; refine ze ?_
    have hG : fNum z (T.drop k) = .ok (((numV (nowT z (T.drop (k))).2.1), wholeT (nowT z (T.drop (k))).2.1), (T.drop (k)).tail) := by rw [fNum_n hg1]; exact fTok_ok hkd (by omega)
    rw [hG]
    refine zK (B' := _) (L' := [_, _, _] ++ (_ :: _ :: W2)) (fun w h => by rw [List.append_nil] at h; exact h) ?_; refine zo (v := .bool _) rfl rfl rfl ?_; exact fun w' hw => St.telX (A := [_, _, _]) hw zm1 ⟨rfl, k + 1, _, _, W2, drop_tl, by omega, by omega, dd_eq (by rw [h8]; simp), hO2, by rw [List.map_append]; exact Mc.snoc (hK.nx TL.rwc hN zm1 hw) (by rw [List.length_map]; exact hO.1) rfl ⟨((a5, c5), (a5', c5')), rfl, ⟨(hK5.nx zm0 hw (hN5 _ zm0)), (hK5'.nx zm0 hw (hN5' _ zm0))⟩⟩⟩
  refine w_call1 0 rfl (fun w => zR Tryz.func61 rfl rfl rfl) rfl rfl (fun w h => by have h9 := ftake_ok [45] rb z (k) (e9) (a9) M tc ta T w (hP.now zm0 (fun j hj => by rcases List.mem_cons.1 hj with rfl | hj; (exact hM); (rcases List.mem_cons.1 hj with rfl | hj; (exact hMd); (obtain ⟨q, hq, rfl⟩ := List.mem_map.1 hj; exact hMW q hq))) h) (h.at_ 0 rfl) (by omega) hM; rw [hg1, if_pos rfl] at h9; exact h9) ?_
  have hlt1 := isG_lt hg1
  refine aB rfl ?_; refine yC ?_; refine mP rfl ?_; refine jD Tryz.func22 (fun w h => fnow_ok rb z (k + 1) (e9) (a9) M tc ta T w (hP.now zm0 (fun j hj => by rcases List.mem_cons.1 hj with rfl | hj; (exact hM); (rcases List.mem_cons.1 hj with rfl | hj; (exact hMd); (obtain ⟨q, hq, rfl⟩ := List.mem_map.1 hj; exact hMW q hq))) h) (h.at_ 0 rfl) (by omega)) ?_; refine zA zr64 (fun t6b gt6b ut6b => ?_)
  refine jv 0 z64 rfl ?_; refine yB ?_; refine zq ?_; refine yA ?_; refine zf fa64_0 rfl ?_; refine jM 0 z5 rfl ?_; refine jn rfl rfl ?_; refine yB ?_; refine zD rfl (fun h10 => ?_) (fun h10 => ?_)
  · have hkd : ¬ (nowT z (T.drop (k + 1))).1 = 2 := (by omega)
    refine yA ?_; refine mP rfl ?_; refine w_call1 1 rfl (fun w => zR Tryz.func24 rfl rfl rfl) rfl rfl (fun w h => ffail_ok 130 rb z (k + 1) (e9) (a9) M tc ta T w (hP.now zm0 (fun j hj => by rcases List.mem_cons.1 hj with rfl | hj; (exact hM); (rcases List.mem_cons.1 hj with rfl | hj; (exact hMd); (obtain ⟨q, hq, rfl⟩ := List.mem_map.1 hj; exact hMW q hq))) h) (h.at_ 1 rfl) (by omega) hM) ?_; refine aB rfl ?_; refine yB ?_; refine ze ?_; refine zt (?_)
    have hG : fNum z (T.drop k) = .error (130, place z (T.drop (k + 1))) := by rw [fNum_y hg1, drop_tl]; exact fTok_kind hkd
    rw [hG]
    refine zo (v := .bool _) rfl rfl rfl ?_; exact fun w' hw => St.telX (A := [_]) hw zm0 ⟨rfl, k + 1, _, by omega, rfl⟩
  have hkd : (nowT z (T.drop (k + 1))).1 = 2 := (by omega); have hT := now_nt hP hkd; have hnb := nowT_b (k := k + 1) hP
  refine zi ?_; refine zk ?_; refine yA ?_; refine zf fa64_1 rfl ?_; refine jM 0 z9 rfl ?_
  rcases Nat.lt_or_ge 400 (nowT z (T.drop (k + 1))).2.1.length with hlong | hlong
  · refine jD Tryz.func101 (fun w h => numeralF_no _ w ⟨hlong, by omega⟩) ?_; refine zm rfl ?_; refine jx rfl rfl ?_; refine jx rfl rfl ?_; refine zA zr46 (fun t7b gt7b ut7b => ?_)
    refine jv 0 z46 rfl ?_; refine aI rfl ?_; refine yB ?_; refine zq ?_; refine yA ?_; refine zf fa64_1 rfl ?_; refine jM 1 z9 rfl ?_; refine zg (fun _ => R_slen st9 rfl (by omega)) ?_; refine zg (fun _ => R_gtT rfl rfl (by omega)) ?_; refine mB rfl ?_; (iterate 2 refine zs rfl rfl rfl ?_); refine jT rfl rfl ?_; refine yB ?_; refine zE rfl ?_; refine yA ?_; refine mP rfl ?_
    refine w_call1 2 rfl (fun w => zR Tryz.func24 rfl rfl rfl) rfl rfl (fun w h => ffail_ok 3 rb z (k + 1) (e9) (a9) M tc ta T w (hP.now zm0 (fun j hj => by rcases List.mem_cons.1 hj with rfl | hj; (exact hM); (rcases List.mem_cons.1 hj with rfl | hj; (exact hMd); (obtain ⟨q, hq, rfl⟩ := List.mem_map.1 hj; exact hMW q hq))) h) (h.at_ 2 rfl) (by omega) hM) ?_; refine aB rfl ?_; refine yB ?_; refine ze ?_; refine zt (?_)
    have hG : fNum z (T.drop k) = .error (3, place z (T.drop (k + 1))) := by rw [fNum_y hg1, drop_tl]; exact fTok_long hkd hlong
    rw [hG]
    refine zo (v := .bool _) rfl rfl rfl ?_; exact fun w' hw => St.telX (A := [_, _]) hw zm0 ⟨rfl, k + 1, _, by omega, rfl⟩
  refine w_tel2 (fun w => zR Tryz.func101 rfl rfl rfl) rfl rfl (fun w h => numeralF_ok _ w hlong hT) (fun x12 a12 c12 a12' c12' hK12 hN12 hK12' hN12' => ?_)
  have hvp := numV_pos (nowT z (T.drop (k + 1))).2.1; have hvs := numV_sz hT hlong
  refine zm rfl ?_; refine jx rfl rfl ?_; refine jx rfl rfl ?_; refine zA zr46 (fun t7b gt7b ut7b => ?_)
  refine jv 0 z46 rfl ?_; refine aI rfl ?_; refine yB ?_; refine zq ?_; refine yA ?_; refine zf fa64_1 rfl ?_; refine jM 1 z9 rfl ?_; refine zg (fun _ => R_slen st9 rfl (by omega)) ?_; refine zg (fun _ => R_gtF rfl rfl (by omega)) ?_; refine mB rfl ?_; refine zw rfl rfl rfl ?_; refine mI rfl ?_; refine zw rfl rfl rfl ?_; refine jn rfl rfl ?_; refine jF rfl rfl ?_; refine yB ?_; refine zG bE ?_
  refine zi ?_; refine zk ?_; refine zq ?_; refine yA ?_; refine mB rfl ?_; refine yB ?_; refine zE rfl ?_; refine zr ?_; refine jy 0 z46 rfl rfl ?_; refine w_tel2 (fun w => zR Tryz.func102 rfl rfl rfl) rfl rfl (fun w h => fNeg_ok (ng (numV (nowT z (T.drop (k + 1))).2.1).1) w (hK12.at_ 0 rfl h) (hK12'.at_ 0 rfl h) ⟨by omega, by omega, by omega, by omega, hvp⟩) (fun x14 a14 c14 a14' c14' hK14 hN14 hK14' hN14' => ?_)
  have hvz := ngR_sz (x := (numV (nowT z (T.drop (k + 1))).2.1))
  refine zm rfl ?_; refine jx rfl rfl ?_; refine jx rfl rfl ?_; refine jv 0 z46 rfl ?_; refine yC ?_; refine mP rfl ?_; refine mP rfl ?_; refine zI rfl ?_; refine zf fa61_0 rfl ?_; refine jM 2 z59 rfl ?_
  have hlt : k + 1 < T.length := now_lt (z := z) (by rw [hkd]; decide)
  refine zg (fun _ => R_low3 sl59 rfl rfl hlt hP.le) ?_; refine zI rfl ?_; refine zf fa61_0 rfl ?_; refine jv 2 z59 rfl ?_; refine yB ?_; refine zq ?_; refine c_heldI [0, 1, 2] mixed ?_; refine zh (v := .pointer _) 0 rfl (by kernel_rfl) rfl rfl (pk [0, 1, 2]) (fun w h => R_move rfl) ?_; refine zh (v := .pointer _) 1 rfl (by kernel_rfl) rfl rfl (pk [0, 1, 2]) (fun w h => R_move rfl) ?_; refine zh2 2 rfl rfl (pk [0, 1, 2]) (fun w h => R_nil rfl) ?_; refine zh2 3 rfl rfl (pk [0, 1, 2]) (fun w h => R_fa fa33_4 rfl) ?_; refine h_loadA 5 rfl (by kernel_rfl) (pk [0, 1, 2]) z46 rfl (fun _ h => h.at_ 0 rfl) rfl ?_
  refine h_two 4 6 (by kernel_rfl) (pk [0, 1, 2]) ?_ ?_
  · refine o_run (v := .slice _ _ _) rfl rfl rfl (fun w h => R_ld1 z31 rfl (zc 3 rfl rfl h)) ?_; refine zH2 6 (pk [0, 1, 2]) ?_; refine o_bsliceV rfl (wn_none rfl) slt31 (by decide) rfl rfl (fun sb gsb usb => ?_)
    refine zH2 7 (pk [1, 2, 3]) ?_; refine o_st (B' := _) (L' := [_, _, _, _, _] ++ (W ++ [])) (fun w h => by rw [List.append_nil]; exact h) ?_; refine o_app (L := []) (W := W) (news := [.bool (ng (ngR (numV (nowT z (T.drop (k + 1))).2.1)).1), .slice a14 (sz (ngR (numV (nowT z (T.drop (k + 1))).2.1)).1.natAbs) c14, .slice a14' (sz (ngR (numV (nowT z (T.drop (k + 1))).2.1)).2) c14']) [_, _, _, _, _] rfl slt31 (by decide) rfl hO rfl rfl (row_own 0 rfl (fun j u h => h)) rfl (by decide) (by omega) (by omega) (fun v2 W2 hO2 => ?_)
    obtain ⟨a2, c2, rfl⟩ := hO2.slice
    refine zh2 8 rfl rfl (pk [1, 2, 3]) (fun w h => R_nil rfl) ?_; refine zh2 9 rfl rfl (pk [1, 2, 3]) (fun w h => R_fa fa33_4 rfl) ?_; refine zH2 10 (pk [1, 2, 3]) ?_; refine zJ 4 rfl rfl z31 rfl rfl rfl rfl rfl rfl rfl ?_; refine zN2 (pk [1, 2, 3]) ?_; refine zk ?_; refine yA ?_; refine mP rfl ?_; refine mP rfl ?_; refine zI rfl ?_; refine zf fa33_3 rfl ?_; refine jM 4 z4 rfl ?_; refine mB rfl ?_; refine zp (t := 63) rfl (fun h15 => ?_) (fun h15 => ?_)
    · refine zw rfl rfl (bV h15) ?_; refine zf fa64_1 rfl ?_; refine zw rfl rfl (bV h15) ?_; refine jM 2 z9 rfl ?_; refine zw rfl rfl (bV h15) ?_; refine jD Tryz.func103 (fun w h => containsAny_ok _ w (by omega) hT.ascii) ?_; refine zw rfl rfl (bV h15) ?_; refine jk rfl ?_; refine jT (bV h15) rfl ?_; refine zI rfl ?_; refine zf fa33_3 rfl ?_; refine jv 4 z4 rfl ?_; refine yC ?_; refine aB rfl ?_; refine yB ?_; refine ze ?_
      have hG : fNum z (T.drop k) = .ok (((ngR (numV (nowT z (T.drop (k + 1))).2.1)), wholeT (nowT z (T.drop (k + 1))).2.1), (T.drop (k + 1)).tail) := by rw [fNum_y hg1, drop_tl]; exact fTok_ok hkd (by omega)
      rw [hG]
      refine zK (B' := _) (L' := [_, _, _] ++ (_ :: _ :: W2)) (fun w h => by rw [List.append_nil] at h; exact h) ?_; refine zo (v := .bool _) rfl rfl rfl ?_; exact fun w' hw => St.telX (A := [_, _, _]) hw zm2 ⟨rfl, k + 1 + 1, _, _, W2, drop_tl, by omega, by omega, dd_eq (by rw [h15]; simp), hO2, by rw [List.map_append]; exact Mc.snoc (hK.nx TL.rwc hN zm2 hw) (by rw [List.length_map]; exact hO.1) rfl ⟨((a14, c14), (a14', c14')), rfl, ⟨(hK14.nx zm0 hw (hN14 _ zm1)), (hK14'.nx zm0 hw (hN14' _ zm1))⟩⟩⟩
    refine zs rfl rfl (bV h15) ?_; refine zs rfl rfl (bV h15) ?_; refine zs rfl rfl (bV h15) ?_; refine zs rfl rfl (bV h15) ?_; refine jF (bV h15) rfl ?_; refine zI rfl ?_; refine zf fa33_3 rfl ?_; refine jv 4 z4 rfl ?_; refine yC ?_; refine aB rfl ?_; refine yB ?_; refine ze ?_
    have hG : fNum z (T.drop k) = .ok (((ngR (numV (nowT z (T.drop (k + 1))).2.1)), wholeT (nowT z (T.drop (k + 1))).2.1), (T.drop (k + 1)).tail) := by rw [fNum_y hg1, drop_tl]; exact fTok_ok hkd (by omega)
    rw [hG]
    refine zK (B' := _) (L' := [_, _, _] ++ (_ :: _ :: W2)) (fun w h => by rw [List.append_nil] at h; exact h) ?_; refine zo (v := .bool _) rfl rfl rfl ?_; exact fun w' hw => St.telX (A := [_, _, _]) hw zm2 ⟨rfl, k + 1 + 1, _, _, W2, drop_tl, by omega, by omega, dd_eq (by rw [h15]; simp), hO2, by rw [List.map_append]; exact Mc.snoc (hK.nx TL.rwc hN zm2 hw) (by rw [List.length_map]; exact hO.1) rfl ⟨((a14, c14), (a14', c14')), rfl, ⟨(hK14.nx zm0 hw (hN14 _ zm1)), (hK14'.nx zm0 hw (hN14' _ zm1))⟩⟩⟩
  refine o_bsliceV rfl (wn_none rfl) slt31 (by decide) rfl rfl (fun sb gsb usb => ?_)
  refine zH2 4 (pk [1, 2, 3]) ?_; refine o_run (v := .slice _ _ _) rfl rfl rfl (fun w h => R_ld1 z31 rfl (zc 4 rfl rfl h)) ?_; refine zH2 7 (pk [1, 2, 3]) ?_; refine o_st (B' := _) (L' := [_, _, _, _, _] ++ (W ++ [])) (fun w h => by rw [List.append_nil]; exact h) ?_; refine o_app (L := []) (W := W) (news := [.bool (ng (ngR (numV (nowT z (T.drop (k + 1))).2.1)).1), .slice a14 (sz (ngR (numV (nowT z (T.drop (k + 1))).2.1)).1.natAbs) c14, .slice a14' (sz (ngR (numV (nowT z (T.drop (k + 1))).2.1)).2) c14']) [_, _, _, _, _] rfl slt31 (by decide) rfl hO rfl rfl (row_own 0 rfl (fun j u h => h)) rfl (by decide) (by omega) (by omega) (fun v2 W2 hO2 => ?_)
  obtain ⟨a2, c2, rfl⟩ := hO2.slice
  refine zh2 8 rfl rfl (pk [1, 2, 3]) (fun w h => R_nil rfl) ?_; refine zh2 9 rfl rfl (pk [1, 2, 3]) (fun w h => R_fa fa33_4 rfl) ?_; refine zH2 10 (pk [1, 2, 3]) ?_; refine zJ 4 rfl rfl z31 rfl rfl rfl rfl rfl rfl rfl ?_; refine zN2 (pk [1, 2, 3]) ?_; refine zk ?_; refine yA ?_; refine mP rfl ?_; refine mP rfl ?_; refine zI rfl ?_; refine zf fa33_3 rfl ?_; refine jM 4 z4 rfl ?_; refine mB rfl ?_; refine zp (t := 63) rfl (fun h16 => ?_) (fun h16 => ?_)
  · refine zw rfl rfl (bV h16) ?_; refine zf fa64_1 rfl ?_; refine zw rfl rfl (bV h16) ?_; refine jM 2 z9 rfl ?_; refine zw rfl rfl (bV h16) ?_; refine jD Tryz.func103 (fun w h => containsAny_ok _ w (by omega) hT.ascii) ?_; refine zw rfl rfl (bV h16) ?_; refine jk rfl ?_; refine jT (bV h16) rfl ?_; refine zI rfl ?_; refine zf fa33_3 rfl ?_; refine jv 4 z4 rfl ?_; refine yC ?_; refine aB rfl ?_; refine yB ?_; refine ze ?_
    have hG : fNum z (T.drop k) = .ok (((ngR (numV (nowT z (T.drop (k + 1))).2.1)), wholeT (nowT z (T.drop (k + 1))).2.1), (T.drop (k + 1)).tail) := by rw [fNum_y hg1, drop_tl]; exact fTok_ok hkd (by omega)
    rw [hG]
    refine zK (B' := _) (L' := [_, _, _] ++ (_ :: _ :: W2)) (fun w h => by rw [List.append_nil] at h; exact h) ?_; refine zo (v := .bool _) rfl rfl rfl ?_; exact fun w' hw => St.telX (A := [_, _, _]) hw zm2 ⟨rfl, k + 1 + 1, _, _, W2, drop_tl, by omega, by omega, dd_eq (by rw [h16]; simp), hO2, by rw [List.map_append]; exact Mc.snoc (hK.nx TL.rwc hN zm2 hw) (by rw [List.length_map]; exact hO.1) rfl ⟨((a14, c14), (a14', c14')), rfl, ⟨(hK14.nx zm0 hw (hN14 _ zm1)), (hK14'.nx zm0 hw (hN14' _ zm1))⟩⟩⟩
  refine zs rfl rfl (bV h16) ?_; refine zs rfl rfl (bV h16) ?_; refine zs rfl rfl (bV h16) ?_; refine zs rfl rfl (bV h16) ?_; refine jF (bV h16) rfl ?_; refine zI rfl ?_; refine zf fa33_3 rfl ?_; refine jv 4 z4 rfl ?_; refine yC ?_; refine aB rfl ?_; refine yB ?_; refine ze ?_
  have hG : fNum z (T.drop k) = .ok (((ngR (numV (nowT z (T.drop (k + 1))).2.1)), wholeT (nowT z (T.drop (k + 1))).2.1), (T.drop (k + 1)).tail) := by rw [fNum_y hg1, drop_tl]; exact fTok_ok hkd (by omega)
  rw [hG]
  refine zK (B' := _) (L' := [_, _, _] ++ (_ :: _ :: W2)) (fun w h => by rw [List.append_nil] at h; exact h) ?_; refine zo (v := .bool _) rfl rfl rfl ?_; exact fun w' hw => St.telX (A := [_, _, _]) hw zm2 ⟨rfl, k + 1 + 1, _, _, W2, drop_tl, by omega, by omega, dd_eq (by rw [h16]; simp), hO2, by rw [List.map_append]; exact Mc.snoc (hK.nx TL.rwc hN zm2 hw) (by rw [List.length_map]; exact hO.1) rfl ⟨((a14, c14), (a14', c14')), rfl, ⟨(hK14.nx zm0 hw (hN14 _ zm1)), (hK14'.nx zm0 hw (hN14' _ zm1))⟩⟩⟩
end Go.Proofs.YtikdkendinnalaaGreatDoor
end
section
namespace Go.Sx
open Go.RowKit Go.Num Go.Feed
theorem Kt.nx {α β : Type} {M : World → (Nat → Prop) → α → β → Prop} {x : Bw} {a : α} {b : β} {B : Base} {A X' : Heap} {w w' : World} {N : Nat → Prop} (h : Kt x w.heap.size M a b) (hM : TL M) (hx : x ∈ B) (hw : St B (A ++ X') w') : M w' (Nx N w w' X') a b :=
  hM.mono (h.at hM hx hw) fun j hj => .inr ⟨⟨hj.1, Nat.lt_of_lt_of_le hj.2.1 (hw.fr x hx).size⟩, fun hm => by
    obtain ⟨p, hp, rfl⟩ := List.mem_map.1 hm
    rcases hw.ok p (List.mem_append_right _ hp) x hx with h1 | h1
    · exact hj.2.2 h1
    have := hj.2.1; omega⟩
theorem St.keep2 {B : Base} {L : Heap} {w : World} {a b : World × (Nat → Prop)} (h : St (a :: B) L w) (hb : b ∈ B) : St [a, b] L w := h.unbase fun x hx => by
  rcases List.mem_cons.1 hx with rfl | hx
  · exact .head _
  obtain rfl := List.mem_singleton.1 hx; exact .tail _ hb
theorem Kt.sub {α β : Type} {M : World → (Nat → Prop) → α → β → Prop} {a : α} {b : β} {w : World} {s0 : Nat} {L L' : Heap} (h : Kt (w, inL L) s0 M a b) (hM : TL M) (hs : L'.Sublist L) : Kt (w, inL L') s0 M a b :=
  hM.mono h fun _ hj => ⟨hj.1, hj.2.1, fun hm => hj.2.2 ((hs.map (·.1)).subset hm)⟩
theorem row_kt {α : Type} {k : Nat} {M : World → (Nat → Prop) → α → List Value → Prop} {B : Base} {A1 A2 W L' : Heap} {w w2 : World} {T : TypeId} {l : List α} {va : Option Addr} {vc : Nat} {xs : List Value} (hw : St B (A1 ++ (W ++ A2)) w2) (hs : L'.Sublist (A1 ++ A2)) (hx : (w, No) ∈ B) (hO : Own T k (.slice va l.length vc) xs l.length W) (hm : Mc k M w2 (Nb w.heap.size (w2, inL L')) l xs) :
    Kt (w2, inL L') w.heap.size (rowM k M) l (va, vc) := by
  have hnd := hw.nd
  rw [List.map_append, List.map_append, List.nodup_append, List.nodup_append] at hnd
  obtain ⟨b, hb, hr⟩ := own_row hO (fun p hp => hw.own p (List.mem_append_right _ (List.mem_append_left _ hp))) (N := Nb w.heap.size (w2, inL L')) (fun p hp => by
    refine ⟨(hw.ok p (List.mem_append_right _ (List.mem_append_left _ hp)) _ hx).elim (fun h => h.elim) (fun h => h), lt_of_blk (hw.own p (List.mem_append_right _ (List.mem_append_left _ hp))), fun hm => ?_⟩
    have h1 := (hs.map (·.1)).subset hm
    rw [List.map_append, List.mem_append] at h1
    have hpw : p.1 ∈ W.map (·.1) := List.mem_map_of_mem hp
    rcases h1 with h1 | h1
    · exact hnd.2.2 _ h1 _ (List.mem_append_left _ hpw) rfl
    exact hnd.2.1.2.2 _ hpw _ h1 rfl) hm
  simp only [Value.slice.injEq] at hb
  obtain ⟨h1, _, h2⟩ := hb
  have : b = (va, vc) := by rw [h1, h2]
  rw [this] at hr
  exact hr
end Go.Sx
end
section
namespace Go.Proofs.YtikdkendinnalaaGreatDoor
open Go.RowKit Go.Sx
open Go.Tok Go.Tree Go.Prs Go.Feed Go.Num
theorem hMW_ {B : Base} {W : Heap} {w w1 : World} {rb db : Nat} {M : Nat → Prop} {o1 o2 o3 o4 : Obj} (hx : (w, inL ((rb, o1) :: (db, o2) :: [])) ∈ B) (hM : M rb) (hMd : M db) (hMs : ∀ j, w.heap.size ≤ j → M j) (h : St B ((rb, o3) :: (db, o4) :: W) w1) : ∀ p ∈ W, M p.1 := fun p hp => by
  rcases h.ok p (.tail _ (.tail _ hp)) _ hx with h1 | h1
  · rcases List.mem_cons.1 h1 with h2 | h2
    · rw [h2]; exact hM
    rcases List.mem_cons.1 h2 with h3 | h3
    · rw [h3]; exact hMd
    exact absurd h3 (by simp)
  exact hMs _ h1
theorem NumQ.mono {rb db tc z e9 a9 k : Nat} {ta : Option Addr} {T : List Tk} {nm : Str} {p : Nat} {li wh : Bool} {l : List Rt} {X : Except Fl ((Rt × Bool) × List Tk)} : ∀ v X' N N' w, NumQ rb db tc z e9 a9 k ta T nm p li wh l X v X' N w → (∀ j, N j → N' j) → NumQ rb db tc z e9 a9 k ta T nm p li wh l X v X' N' w := by
  intro v X' N N' w h hn
  unfold NumQ at h ⊢
  split
  · obtain ⟨h1, k', v', xs', W', h2, h3, h4, h5, h6, h7⟩ := h
    exact ⟨h1, k', v', xs', W', h2, h3, h4, h5, h6, (TL.cells TL.rwc).mono h7 hn⟩
  exact h
def ValQ (rb db tc z e9 a9 k : Nat) (ta : Option Addr) (T : List Tk) (nm : Str) (p : Nat) (X : Except Fl ((Bool × List Rt × Bool) × List Tk)) : Value → Heap → (Nat → Prop) → World → Prop := fun v X' N w =>
  match X with
  | .ok (a, r) => v = .bool true ∧ ∃ k' v' xs' W', r = T.drop k' ∧ k < k' ∧ k' ≤ T.length ∧ X' = (rb, Rr ta tc T.length z k' e9 a9) :: (db, Dd nm p a.1 a.2.2 v') :: W' ∧ Own 46 3 v' xs' a.2.1.length W' ∧ Mc 3 rwC w N (a.2.1.map rwR) xs' ∧ a.2.1.length ≤ T.length
  | .error fl => v = .bool false ∧ ∃ k' Y, k' ≤ T.length ∧ X' = (rb, Rr ta tc T.length z k' fl.1 fl.2) :: Y
theorem ValQ.mono {rb db tc z e9 a9 k : Nat} {ta : Option Addr} {T : List Tk} {nm : Str} {p : Nat} {X : Except Fl ((Bool × List Rt × Bool) × List Tk)} : ∀ v X' N N' w, ValQ rb db tc z e9 a9 k ta T nm p X v X' N w → (∀ j, N j → N' j) → ValQ rb db tc z e9 a9 k ta T nm p X v X' N' w := by
  intro v X' N N' w h hn
  unfold ValQ at h ⊢
  split
  · obtain ⟨h1, k', v', xs', W', h2, h3, h4, h5, h6, h7, h8⟩ := h
    exact ⟨h1, k', v', xs', W', h2, h3, h4, h5, h6, (TL.cells TL.rwc).mono h7 hn, h8⟩
  exact h
theorem fVal_no {z n : Nat} {ts : List Tk} (h : isG [91] ts = false) : fVal z n ts = andR (fNum z ts) fun a r => .ok ((false, [a.1], a.2), r) := if_neg (by rw [h]; decide)
theorem fVal_nil {z n : Nat} {ts : List Tk} (h : isG [91] ts = true) (h2 : isG [93] ts.tail = true) : fVal z n ts = .ok ((true, [], true), ts.tail.tail) := (if_pos h).trans (if_pos h2)
theorem fVal_row {z n : Nat} {ts : List Tk} (h : isG [91] ts = true) (h2 : isG [93] ts.tail = false) : fVal z n ts = andR (fRow z n [] true ts.tail) fun v r => .ok ((true, v.1, v.2), r) := (if_pos h).trans (if_neg (by rw [h2]; decide))
theorem fRow_e {z n : Nat} {l : List Rt} {b : Bool} {ts : List Tk} {fl : Fl} (h : fNum z ts = .error fl) : fRow z (n + 1) l b ts = .error fl := by rw [fRow, h]; rfl
theorem fRow_c {z n : Nat} {l : List Rt} {b : Bool} {ts r : List Tk} {a : Rt × Bool} (h : fNum z ts = .ok (a, r)) (h2 : isG [44] r = true) : fRow z (n + 1) l b ts = fRow z n (l ++ [a.1]) (b && a.2) r.tail := by rw [fRow, h, andR_ok, if_pos h2]
theorem fRow_d {z n : Nat} {l : List Rt} {b : Bool} {ts r : List Tk} {a : Rt × Bool} (h : fNum z ts = .ok (a, r)) (h2 : isG [44] r = false) (h3 : isG [93] r = true) : fRow z (n + 1) l b ts = .ok ((l ++ [a.1], b && a.2), r.tail) := by
  rw [fRow, h, andR_ok, if_neg (by rw [h2]; decide)]; unfold wantG; rw [if_pos h3]
theorem fRow_f {z n : Nat} {l : List Rt} {b : Bool} {ts r : List Tk} {a : Rt × Bool} (h : fNum z ts = .ok (a, r)) (h2 : isG [44] r = false) (h3 : isG [93] r = false) : fRow z (n + 1) l b ts = .error (130, place z r) := by
  rw [fRow, h, andR_ok, if_neg (by rw [h2]; decide)]; unfold wantG; rw [if_neg (by rw [h3]; decide)]
theorem value_ok (rb db z k e9 a9 : Nat) (M : Nat → Prop) (tc n : Nat) (ta : Option Addr) (T : List Tk) (w : World) (hP : Pf w M T ta tc z) (hk : k ≤ T.length) (hn : T.length - k < n) (hM : M rb) (hMd : M db) (hMs : ∀ j, w.heap.size ≤ j → M j) (nm : Str) (p : Nat) (N : Nat → Prop) (hX : St [(w, inL ((rb, Rr ta tc T.length z (k) (e9) (a9)) :: (db, Dd nm p false true (.slice none 0 0)) :: []))] ((rb, Rr ta tc T.length z (k) (e9) (a9)) :: (db, Dd nm p false true (.slice none 0 0)) :: []) w) :
    Ret Tryz.prog 26 #[pX rb, pX db] w (TelX ((rb, Rr ta tc T.length z (k) (e9) (a9)) :: (db, Dd nm p false true (.slice none 0 0)) :: []) (ValQ rb db tc z e9 a9 k ta T nm p (fVal z n (T.drop k))) N w) := by
  have hlen := hP.len
  refine enter (S := (inL ((rb, Rr ta tc T.length z (k) (e9) (a9)) :: (db, Dd nm p false true (.slice none 0 0)) :: []))) (l := [_, _]) (L := [(rb, Rr ta tc T.length z (k) (e9) (a9)), (db, Dd nm p false true (.slice none 0 0))]) 29 Tryz.func26 rfl rfl rfl (hX) ?_; refine yA ?_; refine aB rfl ?_; refine yB ?_; refine zq ?_; refine yA ?_; refine mP rfl ?_; refine mP rfl ?_
  cases hg1 : isG [91] (T.drop (k))
  · refine w_call1 0 rfl (fun w => zR Tryz.func61 rfl rfl rfl) rfl rfl (fun w h => by have h9 := ftake_ok [91] rb z (k) (e9) (a9) M tc ta T w (hP.now zm0 (fun j hj => by rcases List.mem_cons.1 hj with rfl | hj; (exact hM); (rcases List.mem_cons.1 hj with rfl | hj; (exact hMd); (exact absurd hj (by simp)))) h) (h.at_ 0 rfl) (by omega) hM; rw [hg1, if_neg (by decide)] at h9; exact h9) ?_; refine zI rfl ?_; refine zf fa33_2 rfl ?_; refine jv 1 z4 rfl ?_; refine yC ?_; refine mP rfl ?_; refine zI rfl ?_; refine zf fa33_2 rfl ?_; refine jM 1 z4 rfl ?_; refine jk rfl ?_
    refine yB ?_; refine zE rfl ?_; refine yA ?_; refine mP rfl ?_; refine mP rfl ?_; refine w_st (B' := _) (L' := [] ++ ((rb, Rr ta tc T.length z (k) (e9) (a9)) :: (db, Dd nm p false true (.slice none ([] : List Rt).length 0)) :: [])) (fun w h => h) ?_
    refine w_callX (A := []) (X := ((rb, Rr ta tc T.length z (k) (e9) (a9)) :: (db, Dd nm p false true (.slice none ([] : List Rt).length 0)) :: [])) (R := NumQ rb db tc z e9 a9 (k) ta T nm p false true ([] : List Rt) (fNum z (T.drop (k)))) (s0 := w.heap.size) NumQ.mono (fun w => zR Tryz.func62 rfl rfl rfl) rfl rfl (fun w1 h => (h.fr _ zm0).size) (fun w1 h => number_ok rb db z (k) e9 a9 M tc ta T w1 (hP.now zm0 (fun j hj => by rcases List.mem_cons.1 hj with rfl | hj; (exact hM); (rcases List.mem_cons.1 hj with rfl | hj; (exact hMd); (exact absurd hj (by simp)))) h) (by omega) hM hMd nm p false true none 0 [] ([] : List Rt) [] (Own.nil _ _) (fun p hp => absurd hp (by simp)) (by first | omega | decide) (Nb w.heap.size (w1, inL _)) (fun j hj => hj.2.2) Mc.nil (St.part (A := []) h)) (fun u2 X2 x2 hR2 => ?_)
    rcases hq2 : fNum z (T.drop (k)) with fl2 | ⟨ar2, r2⟩
    · rw [hq2] at hR2; obtain ⟨rfl, k2, Y2, hk2, rfl⟩ := hR2
      refine aB rfl ?_; refine yB ?_; refine ze ?_; refine zt (?_)
      have hV : fVal z n (T.drop k) = .error fl2 := by rw [fVal_no hg1, hq2]; rfl
      rw [hV]
      refine zo (v := .bool _) rfl rfl rfl ?_; exact fun w' hw => St.telX (A := []) hw zm1 ⟨rfl, k2, Y2, hk2, rfl⟩
    rw [hq2] at hR2; obtain ⟨rfl, k2, v2, xs2, W2, rfl, hk2, hkl2, rfl, hO2, hK2⟩ := hR2; obtain ⟨va2, vc2, rfl⟩ := hO2.slice
    refine aB rfl ?_; refine yB ?_; refine ze ?_; refine zt (?_)
    have hV : fVal z n (T.drop k) = .ok ((false, [ar2.1], ar2.2), T.drop k2) := by rw [fVal_no hg1, hq2]; rfl
    rw [hV]
    refine zo (v := .bool _) rfl rfl rfl ?_; exact fun w' hw => St.telX (A := []) hw zm1 ⟨rfl, k2, _, xs2, W2, rfl, by omega, hkl2, rfl, hO2, Kt.nx (A := []) (x := (x2, _)) hK2 (TL.cells TL.rwc) zm0 hw, by simp only [List.length_singleton]; omega⟩
  refine w_call1 0 rfl (fun w => zR Tryz.func61 rfl rfl rfl) rfl rfl (fun w h => by have h9 := ftake_ok [91] rb z (k) (e9) (a9) M tc ta T w (hP.now zm0 (fun j hj => by rcases List.mem_cons.1 hj with rfl | hj; (exact hM); (rcases List.mem_cons.1 hj with rfl | hj; (exact hMd); (exact absurd hj (by simp)))) h) (h.at_ 0 rfl) (by omega) hM; rw [hg1, if_pos rfl] at h9; exact h9) ?_
  have hlt1 := isG_lt hg1
  refine zI rfl ?_; refine zf fa33_2 rfl ?_; refine jv 1 z4 rfl ?_; refine yC ?_; refine mP rfl ?_; refine zI rfl ?_; refine zf fa33_2 rfl ?_; refine jM 1 z4 rfl ?_; refine jk rfl ?_; refine yB ?_; refine zG rfl ?_; refine zi ?_; refine zk ?_; refine zq ?_; refine yA ?_; refine mP rfl ?_
  cases hg3 : isG [93] (T.drop (k + 1))
  · refine w_call1 0 rfl (fun w => zR Tryz.func61 rfl rfl rfl) rfl rfl (fun w h => by have h9 := ftake_ok [93] rb z (k + 1) (e9) (a9) M tc ta T w (hP.now zm0 (fun j hj => by rcases List.mem_cons.1 hj with rfl | hj; (exact hM); (rcases List.mem_cons.1 hj with rfl | hj; (exact hMd); (exact absurd hj (by simp)))) h) (h.at_ 0 rfl) (by omega) hM; rw [hg3, if_neg (by decide)] at h9; exact h9) ?_; refine yB ?_; refine zG rfl ?_; refine zi ?_; refine zk ?_; refine zB ?_; refine c_base (fun w1 hw1 => ?_)
    refine c_st (B' := _) (L' := [(rb, Rr ta tc T.length z (k + 1) e9 a9), (db, Dd nm p true true (.slice none ([] : List Rt).length 0))] ++ []) (fun w' h => h) ?_
    refine c_loop (fun m e B L => ∃ (q k' : Nat) (l : List Rt) (wh : Bool) (va : Option Addr) (vc : Nat) (xs : List Value) (W : Heap) (x : Bw), e 0 = pX rb ∧ e 1 = pX db ∧ B = [x, (w, inL ((rb, Rr ta tc T.length z (k) (e9) (a9)) :: (db, Dd nm p false true (.slice none 0 0)) :: []))] ∧ L = [(rb, Rr ta tc T.length z k' e9 a9), (db, Dd nm p true wh (.slice va l.length vc))] ++ W ∧ k < k' ∧ k' ≤ T.length ∧ fVal z n (T.drop k) = andR (fRow z q l wh (T.drop k')) (fun v r => .ok ((true, v.1, v.2), r)) ∧ Own 46 3 (.slice va l.length vc) xs l.length W ∧ Kt x w.heap.size (Mc 3 rwC) (l.map rwR) xs ∧ l.length ≤ k' ∧ T.length - k' < q ∧ m = T.length - k' + 1) _ ⟨n, k + 1, [], true, none, 0, [], [], _, rfl, rfl, rfl, rfl, by omega, by omega, by rw [fVal_row hg1 (by rw [drop_tl]; exact hg3), drop_tl], Own.nil _ _, Mc.nil, Nat.zero_le _, by omega, rfl⟩ ?_
    rintro m e B L ⟨q, k', l, wh, va, vc, xs, W, x, e0_1, e1_1, rfl, rfl, hkk, hk', hG, hO, hKl, hll, hq, rfl⟩
    obtain ⟨q', rfl⟩ : ∃ q', q = q' + 1 := ⟨q - 1, by omega⟩
    refine zB ?_; refine zq ?_; refine yA ?_; refine mP e0_1 ?_; refine mP e1_1 ?_; refine w_st (B' := _) (L' := [] ++ ((rb, Rr ta tc T.length z (k') (e9) (a9)) :: (db, Dd nm p true wh (.slice va l.length vc)) :: W)) (fun w h => h) ?_
    refine w_callX (A := []) (X := ((rb, Rr ta tc T.length z (k') (e9) (a9)) :: (db, Dd nm p true wh (.slice va l.length vc)) :: W)) (R := NumQ rb db tc z e9 a9 (k') ta T nm p true wh l (fNum z (T.drop (k')))) (s0 := w.heap.size) NumQ.mono (fun w => zR Tryz.func62 rfl rfl rfl) rfl rfl (fun w1 h => (h.fr _ zm1).size) (fun w1 h => number_ok rb db z (k') e9 a9 M tc ta T w1 (hP.now zm1 (fun j hj => by rcases List.mem_cons.1 hj with rfl | hj; (exact hM); (rcases List.mem_cons.1 hj with rfl | hj; (exact hMd); (exact absurd hj (by simp)))) h) (by omega) hM hMd nm p true wh va vc xs l W hO (hMW_ zm1 hM hMd hMs h) (by first | omega | decide) (Nb w.heap.size (w1, inL _)) (fun j hj => hj.2.2) (hKl.now (TL.cells TL.rwc) zm0 h) (St.part (A := []) h)) (fun u4 X4 x4 hR4 => ?_)
    rcases hq4 : fNum z (T.drop (k')) with fl4 | ⟨ar4, r4⟩
    · rw [hq4] at hR4; obtain ⟨rfl, k4, Y4, hk4, rfl⟩ := hR4
      refine jk rfl ?_; refine yB ?_; refine zE rfl ?_; refine yA ?_; refine aB rfl ?_; refine yB ?_; refine ze ?_; refine zt (zb (zt (zb (?_))))
      have hV : fVal z n (T.drop k) = .error fl4 := by rw [hG, fRow_e hq4]; rfl
      rw [hV]
      refine zo (v := .bool _) rfl rfl rfl ?_; exact fun w' hw => St.telX (A := []) hw zm2 ⟨rfl, k4, Y4, hk4, rfl⟩
    rw [hq4] at hR4; obtain ⟨rfl, k4, v4, xs4, W4, rfl, hk4, hkl4, rfl, hO4, hK4⟩ := hR4; obtain ⟨va4, vc4, rfl⟩ := hO4.slice
    refine jk rfl ?_; refine yB ?_; refine zG rfl ?_; refine zi ?_; refine zk ?_; refine yA ?_; refine mP e0_1 ?_
    cases hg5 : isG [44] (T.drop (k4))
    · refine w_call1 0 rfl (fun w => zR Tryz.func61 rfl rfl rfl) rfl rfl (fun w h => by have h9 := ftake_ok [44] rb z (k4) (e9) (a9) M tc ta T w (hP.now zm2 (fun j hj => by rcases List.mem_cons.1 hj with rfl | hj; (exact hM); (rcases List.mem_cons.1 hj with rfl | hj; (exact hMd); (exact absurd hj (by simp)))) h) (h.at_ 0 rfl) (by omega) hM; rw [hg5, if_neg (by decide)] at h9; exact h9) ?_; refine jk rfl ?_; refine yB ?_; refine zE rfl ?_; refine yA ?_; refine mP e0_1 ?_
      cases hg6 : isG [93] (T.drop (k4))
      · refine w_call1 0 rfl (fun w => zR Tryz.func25 rfl rfl rfl) rfl rfl (fun w h => by have h9 := fwant_ok [93] rb z (k4) (e9) (a9) M tc ta T w (hP.now zm2 (fun j hj => by rcases List.mem_cons.1 hj with rfl | hj; (exact hM); (rcases List.mem_cons.1 hj with rfl | hj; (exact hMd); (exact absurd hj (by simp)))) h) (h.at_ 0 rfl) (by omega) hM; rw [hg6, if_neg (by decide)] at h9; exact h9) ?_; refine aB rfl ?_; refine yB ?_; refine ze ?_; refine zb (zt (zb (?_)))
        have hV : fVal z n (T.drop k) = .error (130, place z (T.drop k4)) := by rw [hG, fRow_f hq4 hg5 hg6]; rfl
        rw [hV]
        refine zo (v := .bool _) rfl rfl rfl ?_; exact fun w' hw => St.telX (A := []) hw zm2 ⟨rfl, k4, _, by omega, rfl⟩
      refine w_call1 0 rfl (fun w => zR Tryz.func25 rfl rfl rfl) rfl rfl (fun w h => by have h9 := fwant_ok [93] rb z (k4) (e9) (a9) M tc ta T w (hP.now zm2 (fun j hj => by rcases List.mem_cons.1 hj with rfl | hj; (exact hM); (rcases List.mem_cons.1 hj with rfl | hj; (exact hMd); (exact absurd hj (by simp)))) h) (h.at_ 0 rfl) (by omega) hM; rw [hg6, if_pos rfl] at h9; exact h9) ?_
      have hlt6 := isG_lt hg6
      refine aB rfl ?_; refine yB ?_; refine ze ?_; refine zb (zt (zb (?_)))
      have hV : fVal z n (T.drop k) = .ok ((true, l ++ [ar4.1], wh && ar4.2), (T.drop k4).tail) := by rw [hG, fRow_d hq4 hg5 hg6]; rfl
      rw [hV]
      refine zo (v := .bool _) rfl rfl rfl ?_; exact fun w' hw => St.telX (A := []) hw zm2 ⟨rfl, k4 + 1, _, xs4, W4, drop_tl, by omega, by omega, rfl, by rw [List.length_append]; exact hO4, Kt.nx (A := []) (x := (x4, _)) hK4 (TL.cells TL.rwc) zm0 hw, by rw [List.length_append, List.length_singleton]; omega⟩
    refine w_call1 0 rfl (fun w => zR Tryz.func61 rfl rfl rfl) rfl rfl (fun w h => by have h9 := ftake_ok [44] rb z (k4) (e9) (a9) M tc ta T w (hP.now zm2 (fun j hj => by rcases List.mem_cons.1 hj with rfl | hj; (exact hM); (rcases List.mem_cons.1 hj with rfl | hj; (exact hMd); (exact absurd hj (by simp)))) h) (h.at_ 0 rfl) (by omega) hM; rw [hg5, if_pos rfl] at h9; exact h9) ?_
    have hlt5 := isG_lt hg5
    refine jk rfl ?_; refine yB ?_; refine zG rfl ?_; refine zi ?_; refine zO (?_)
    refine zK (B' := _) (L' := [(rb, Rr ta tc T.length z (k4 + 1) e9 a9), (db, Dd nm p true (wh && ar4.2) (.slice va4 (l ++ [ar4.1]).length vc4))] ++ W4) (fun w' h => by rw [List.length_append, List.length_singleton]; exact h.keep2 zm1) ?_; exact k_again _ (by omega) ⟨q', k4 + 1, l ++ [ar4.1], (wh && ar4.2), va4, vc4, xs4, W4, (x4, _), e0_1, e1_1, rfl, rfl, by omega, by omega, by rw [hG, fRow_c hq4 hg5, drop_tl], by rw [List.length_append, List.length_singleton]; exact hO4, hK4, by rw [List.length_append, List.length_singleton]; omega, by omega, rfl⟩
  refine w_call1 0 rfl (fun w => zR Tryz.func61 rfl rfl rfl) rfl rfl (fun w h => by have h9 := ftake_ok [93] rb z (k + 1) (e9) (a9) M tc ta T w (hP.now zm0 (fun j hj => by rcases List.mem_cons.1 hj with rfl | hj; (exact hM); (rcases List.mem_cons.1 hj with rfl | hj; (exact hMd); (exact absurd hj (by simp)))) h) (h.at_ 0 rfl) (by omega) hM; rw [hg3, if_pos rfl] at h9; exact h9) ?_
  have hlt3 := isG_lt hg3
  refine yB ?_; refine zE rfl ?_; refine yA ?_; refine aB rfl ?_; refine yB ?_; refine ze ?_; refine zt (?_)
  have hV : fVal z n (T.drop k) = .ok ((true, [], true), (T.drop (k + 1)).tail) := by rw [fVal_nil hg1 (by rw [drop_tl]; exact hg3), drop_tl]
  rw [hV]
  refine zo (v := .bool _) rfl rfl rfl ?_; exact fun w' hw => St.telX (A := []) hw zm0 ⟨rfl, k + 1 + 1, _, [], [], drop_tl, by omega, by omega, rfl, Own.nil _ _, Mc.nil, Nat.zero_le _⟩
end Go.Proofs.YtikdkendinnalaaGreatDoor
end
section
namespace Go.Sx
open Go.RowKit
section
variable {P : Program} {ops : Array Oper} {Q : Exit → Act → World → Prop} {c : Cf} {e : Env} {B : Base} {L : Heap} {rest : List Oper} {v : Value} {d : Nat} {q : Md} {x y z : Operand} {T : TypeId} {p : String} {a : Array Edge}
theorem w_updS (i : Nat) {b : Nat} {s : List UInt8} {l : List (List UInt8 × Value)} {t te : TypeId} {tk : TypeId} (hi : L[i]? = some (b, mpS l)) (ht : P.underlying t = some (.map tk te)) (hk : P.underlying tk = some .string) (hx : ev c.n e x = .map (some b)) (hy : ev c.n e y = str s) (hz : ev c.n e z = v) (hn : (l.lookup s).isNone = true)
    (h : WX .sq P ops c Q rest e B (L.set i (b, mpS (l ++ [(s, v)])))) : WX .sq P ops c Q (⟨none, .mapUpdate t x y z, T, p, a, none⟩ :: rest) e B L := by
  unfold WX at *
  intro w hw
  have hb := hw.at_ i hi
  unfold mpS at hb
  obtain ⟨r, h1, h2⟩ := find_strs s l 0 0
  have hr : r = none := by
    rw [Option.isNone_iff_eq_none.1 hn] at h2
    cases r with
    | none => rfl
    | some r => simp at h2
  subst hr
  have hck : ∀ (em : Bool) (w : World), (Instr.checkKey em 10000 tk (str s)).run P w = .ok () w := fun em w => MapKept.run_checkKey (d := .string) hk (show MapKept.IsKey .string (str s) from True.intro) em 9999
  have hr : (Instr.mapUpdate t (.map (some b)) (str s) v).run P w = .ok () (w.putObj b (mpS (l ++ [(s, v)]))) := by
    simp [Instr.mapUpdate, run_underlying ht, MapKept.run_getObj_map hb, hck, MapKept.run_findKey hk h1, MapKept.run_setObj_map _ hb, Result.andThen, World.putObj, mpS, entsF_snoc]
  refine s_unit (w' := w.putObj b (mpS (l ++ [(s, v)]))) ?_ rfl rfl (h _ (hw.putO i hi))
  simp only [RunU, execOp, hx, hy, hz, Sem.run_bind, hr, Result.andThen]
  rfl
theorem w_makeMapS (h : ∀ b, (∀ x ∈ L, x.1 < b) → (∀ x ∈ B, x.1.heap.size ≤ b) → WX .sq P ops c Q rest (upd e d (.map (some b))) B ((b, mpS []) :: L)) {t : TypeId} : WX .sq P ops c Q (⟨some d, .makeMap t none, T, p, a, none⟩ :: rest) e B L := by
  unfold WX at *
  exact fun w hw => s_run R_makeMap rfl rfl (by
    have := h w.heap.size (fun p hp => lt_of_blk (hw.own p hp)) (fun x hx => (hw.fr x hx).size)
    exact this _ hw.new)
end
theorem k_join {Q : Exit → Act → World → Prop} {c : Cf} {e : Env} {x : Exit} {B B0 : Base} {L L' : Heap} (hL : L'.Sublist L) (hB : ∀ x ∈ B0, x ∈ B) (h : ∀ w, St B L w → WK c Q x e ((w, inL L') :: B0) L') : WK c Q x e B L := by
  unfold WK at *
  exact fun w hw => h w hw w ((hw.drop hL).unbase hB).base1
theorem c_join {P : Program} {Q : Exit → Act → World → Prop} {c : Cf} {e : Env} {x : Code} {B B0 : Base} {L L' : Heap} (hL : L'.Sublist L) (hB : ∀ x ∈ B0, x ∈ B) (h : ∀ w, St B L w → WC P c x Q e ((w, inL L') :: B0) L') : WC P c x Q e B L := by
  unfold WC at *
  exact fun w hw => h w hw w ((hw.drop hL).unbase hB).base1
section
variable {P : Program} {ops : Array Oper} {Q : Exit → Act → World → Prop} {c : Cf} {e : Env} {rest : List Oper} {o : Oper} {d : Nat} {B : Base} {A X : Heap} {f : FuncId} {args : Array Value}
theorem inL_comm {A X : Heap} (j : Nat) : inL (A ++ X) j ↔ inL (X ++ A) j := by
  unfold inL
  rw [List.map_append, List.map_append, List.mem_append, List.mem_append]
  exact or_comm
theorem w_callXh {R : Value → Heap → (Nat → Prop) → World → Prop} {s0 : Nat} (hm : ∀ v X' N N' w, R v X' N w → (∀ j, N j → N' j) → R v X' N' w) (hr : ∀ w, RunE P o (ev c.n e) w f args) (hg : plainB o = true) (hd : o.dst = some d) (hs : ∀ w, St B (X ++ A) w → s0 ≤ w.heap.size)
    (hc : ∀ w, St B (X ++ A) w → ∀ N, Ret P f args w (TelX X R N w))
    (h : ∀ v X' (x1 : Bw), R v X' (Nb s0 x1) x1.1 → WX .sq P ops c Q rest (upd e d v) (x1 :: B) (X' ++ A)) : WX .sq P ops c Q (o :: rest) e B (X ++ A) :=
  zP hr hg hd (fun w hw => hc w hw (Nb s0 (w, inL (A ++ X)))) fun w hw v w' ⟨X', h1, h2, h3, h4⟩ =>
    ⟨_, _, (((hw.perm List.perm_append_comm).modX h2 h3 h4).perm List.perm_append_comm).base1, h v X' (w', inL (X' ++ A)) (hm _ _ _ _ _ h1 fun j hj => by
      obtain ⟨q1, q2, q3⟩ := Nx.nb (s0 := s0) (hw.perm List.perm_append_comm) h2 h3 (hs w hw) j hj
      exact ⟨q1, q2, fun hh => q3 ((inL_comm j).2 hh)⟩)⟩
end
end Go.Sx
end
section
namespace Go.Feed
open Go.Tok Go.Tree Go.Prs Go.Num Go.Lib
inductive ChE (s : Str) : Nat → List Tk → Prop
  | nil {i : Nat} : i ≤ s.length → skipTo s i = s.length → ChE s i []
  | cons {i e kd : Nat} {ts : List Tk} : i ≤ s.length → skipTo s i < s.length → tokAt s (skipTo s i) = (kd, e, true) → ChE s e ts → ChE s i ((kd, tokTx s (skipTo s i), skipTo s i) :: ts)
theorem che_lex {s : Str} {i : Nat} {ts : List Tk} (h : ChE s i ts) : ∀ x : Rd, x.1.length + ts.length ≤ 6000 → lexS readN s (skipTo s i) x = (x.1 ++ ts, x.2) := by
  induction h with
  | nil hi hk =>
    intro x _
    rw [lexS_stop readN (by omega), List.append_nil]
  | @cons i e kd ts hi hl ht _ ih =>
    intro x hx
    rw [List.length_cons] at hx
    have hgo : readN x (tokAt s (skipTo s i)).1 (tokTx s (skipTo s i)) (skipTo s i) (tokAt s (skipTo s i)).2.2 = ((x.1 ++ [(kd, tokTx s (skipTo s i), skipTo s i)], x.2), true) := by
      rw [ht]
      unfold readN
      rw [if_neg (by simp), if_neg (by omega)]
    rw [lexS_go readN readN_no hl (by rw [hgo]), hgo, ht]
    simp only
    rw [ih _ (by rw [List.length_append, List.length_singleton]; omega)]
    simp
theorem che_read {s : Str} {ts : List Tk} (h : ChE s 0 ts) (hn : ts.length ≤ 6000) (hs : s.length ≤ 20000) : readP s = (ts, 0, 0) := by
  have h1 : readS s = (ts, 0, 0) := by
    unfold readS
    rw [che_lex h ([], 0, 0) (by simpa using hn)]; rfl
  rw [readP_fine (by omega) (by rw [h1]), h1]
theorem che_skip {s : Str} {i j : Nat} {ts : List Tk} (h : ChE s j ts) (hi : i ≤ s.length) (hk : skipTo s i = skipTo s j) : ChE s i ts := by
  cases h with
  | nil h1 h2 => exact .nil hi (hk.trans h2)
  | cons h1 h2 h3 h4 => rw [← hk] at h2 h3 ⊢; exact .cons hi h2 h3 h4
def CT (v : Str) (ks : List (Nat × Str)) : Prop := ∀ u : Str, ∃ ts, ChE (u ++ v) u.length ts ∧ ts.map (fun t => (t.1, t.2.1)) = ks
theorem CT.nil : CT [] [] := fun u => ⟨[], .nil (by simp) (by
  have := skip_sh (u := u) (v := []) 0
  rw [Nat.add_zero] at this
  rw [this, List.append_nil]
  have : skipTo ([] : Str) 0 = 0 := by decide
  omega), rfl⟩
theorem CT.cons {t R : Str} {kd : Nat} {ks : List (Nat × Str)} (h1 : tokAt (t ++ R) 0 = (kd, t.length, true)) (h2 : t ≠ []) (h3 : skipTo (t ++ R) 0 = 0) (h : CT R ks) : CT (t ++ R) ((kd, t) :: ks) := fun u => by
  obtain ⟨ts, e1, e2⟩ := h (u ++ t)
  have k1 := skip_sh (u := u) (v := t ++ R) 0
  have k2 := tok_sh (u := u) (v := t ++ R) 0
  have k3 := tx_sh (u := u) (v := t ++ R) 0
  rw [Nat.add_zero, h3, Nat.add_zero] at k1
  rw [Nat.add_zero, h1] at k2
  have k4 : tokTx (t ++ R) 0 = t := by unfold tokTx; rw [h1]; simp
  rw [Nat.add_zero, k4] at k3
  have hl : 0 < t.length := by cases t with | nil => exact absurd rfl h2 | cons => simp
  rw [List.append_assoc, List.length_append] at e1
  refine ⟨(kd, tokTx (u ++ (t ++ R)) (skipTo (u ++ (t ++ R)) u.length), skipTo (u ++ (t ++ R)) u.length) :: ts, .cons (by simp) (by rw [k1]; simp; omega) (by rw [k1]; exact k2) e1, ?_⟩
  rw [List.map_cons, k1, k3, e2]
theorem CT.nl {R : Str} {ks : List (Nat × Str)} (h : CT R ks) : CT (10 :: R) ks := fun u => by
  obtain ⟨ts, e1, e2⟩ := h (u ++ [10])
  rw [List.append_assoc, List.singleton_append] at e1
  refine ⟨ts, che_skip e1 (by simp) ?_, e2⟩
  have hb : atP blankB (u ++ 10 :: R) u.length = true := by
    rw [atP_in (by simp)]; simp; decide
  rw [List.length_append, List.length_singleton]
  rw [skipTo_eq (by simp), skipTo_eq (i := u.length + 1) (by simp), runTo_step hb]
theorem tok_name {nm : Str} (h : nameOk nm = true) : nm ≠ [] ∧ atP letterB nm 0 = true ∧ atP (eqB 95) nm 0 = false ∧ (∀ b ∈ nm, wordB b = true) := by
  unfold nameOk oneB at h
  simp only [Bool.and_eq_true, decide_eq_true_eq] at h
  obtain ⟨⟨h0, h1⟩, _⟩ := h
  have hs : nm.length ≤ 20000 := by
    rcases Nat.lt_or_ge 20000 nm.length with hh | hh
    · rw [readP_long hh] at h0; cases h0
    · exact hh
  have hz : (readS nm).2.1 = 0 := by
    by_cases hz : (readS nm).2.1 = 0
    · exact hz
    · rw [readP_bad (by omega) hz] at h0; exact absurd h0 hz
  have hc := chain_read hz
  rw [readP_fine (by omega) hz] at h1
  simp only at h1
  cases hts : (readS nm).1 with
  | nil => rw [hts] at h1; cases h1
  | cons t l =>
    rw [hts] at h1 hc
    cases hc with
    | @cons i e kd ts hi hl ht hc =>
      cases l with
      | cons _ _ => cases h1
      | nil =>
        simp only [Bool.and_eq_true, decide_eq_true_eq] at h1
        obtain ⟨rfl, htx⟩ := h1
        have hle := tok_le (s := nm) (i := skipTo nm 0) (Nat.le_of_lt hl)
        have hlen : (tokTx nm (skipTo nm 0)).length = e - skipTo nm 0 := by unfold tokTx; rw [ht]; exact cut_len (by rw [ht] at hle; exact hle.2.1) (by rw [ht] at hle; exact hle.1)
        rw [htx] at hlen
        rw [ht] at hle
        simp only at hle
        have h00 : skipTo nm 0 = 0 := by omega
        have he : e = nm.length := by omega
        rw [h00] at ht
        unfold tokAt at ht
        split at ht
        · rename_i hn
          unfold nameB at hn
          simp only [Bool.and_eq_true, Bool.not_eq_true'] at hn
          simp only [Prod.mk.injEq, true_and, and_true] at ht
          refine ⟨fun h => by rw [h] at hn; exact absurd hn.1 (by decide), hn.1, hn.2, fun b hb => ?_⟩
          obtain ⟨j, hj⟩ := List.getElem?_of_mem hb
          have hjl := (List.getElem?_eq_some_iff.1 hj).1
          have := run_all (p := wordB) (s := nm) (j := j) _ 0 rfl (Nat.zero_le _) (by omega)
          unfold atP at this
          rw [hj] at this
          exact this
        · split at ht
          · cases ht
          · split at ht <;> cases ht
theorem run_pre {p : UInt8 → Bool} {t R : Str} (h : ∀ b ∈ t, p b = true) (hR : atP p R 0 = false) : runTo p (t ++ R) 0 = t.length := by
  have : ∀ t : Str, (∀ b ∈ t, p b = true) → ((t ++ R).takeWhile p).length = t.length := by
    intro t
    induction t with
    | nil =>
      intro _
      rw [List.nil_append]
      cases R with
      | nil => rfl
      | cons c R =>
        rw [atP_in (by simp)] at hR
        rw [List.takeWhile_cons, if_neg (by simpa using hR)]
    | cons c t ih =>
      intro h
      rw [List.cons_append, List.takeWhile_cons, if_pos (h c (.head _)), List.length_cons, ih (fun b hb => h b (.tail _ hb)), List.length_cons]
  unfold runTo
  rw [Nat.zero_add, List.drop_zero]
  exact this t h
theorem at_zero {p : UInt8 → Bool} {t R : Str} (h : t ≠ []) : atP p (t ++ R) 0 = atP p t 0 := by
  cases t with
  | nil => exact absurd rfl h
  | cons c t => rfl
theorem skip_zero {t : Str} (h : atP blankB t 0 = false) (h2 : atP (eqB 47) t 0 = false) : skipTo t 0 = 0 := by
  rw [skipTo_eq (Nat.zero_le _), runTo_stop h]
  unfold cmt
  rw [h2, Bool.false_and]; rfl
theorem letter_both {s : Str} (h : atP letterB s 0 = true) : atP blankB s 0 = false ∧ atP (eqB 47) s 0 = false := by
  have hl := atP_lt h
  rw [atP_in hl] at h
  rw [atP_in hl, atP_in hl]
  revert h
  exact byte_all (fun b => letterB b = true → blankB b = false ∧ eqB 47 b = false) (by decide +kernel) _
theorem ct_name {nm R : Str} {ks : List (Nat × Str)} (h : nameOk nm = true) (hR : CT (61 :: R) ks) : CT (nm ++ 61 :: R) ((1, nm) :: ks) := by
  obtain ⟨h0, h1, h2, h3⟩ := tok_name h
  refine CT.cons ?_ h0 ?_ hR
  · unfold tokAt nameB
    rw [at_zero h0, at_zero h0, h1, h2, run_pre h3 (by rw [atP_in (by simp)]; exact (by decide : wordB 61 = false))]; rfl
  have := letter_both h1
  exact skip_zero (by rw [at_zero h0]; exact this.1) (by rw [at_zero h0]; exact this.2)
theorem isD_digit {b : UInt8} (h : isD b = true) : digitB b = true ∧ letterB b = false ∧ blankB b = false ∧ eqB 47 b = false := by
  revert h; exact byte_all (fun b => isD b = true → digitB b = true ∧ letterB b = false ∧ blankB b = false ∧ eqB 47 b = false) (by decide +kernel) b
theorem tail_no {c : UInt8} (h : tailB c = false) : digitB c = false ∧ eqB 46 c = false ∧ eqB 101 c = false := by
  revert h; exact byte_all (fun c => tailB c = false → digitB c = false ∧ eqB 46 c = false ∧ eqB 101 c = false) (by decide +kernel) c
theorem ct_num {n : Nat} {c : UInt8} {R : Str} {ks : List (Nat × Str)} (hc : tailB c = false) (hR : CT (c :: R) ks) : CT (decDigits n ++ c :: R) ((2, decDigits n) :: ks) := by
  have h0 := dec_ne n
  have ha : ∀ b ∈ decDigits n, isD b = true := List.all_eq_true.1 (dec_all n)
  have hz : ∃ b l, decDigits n = b :: l ∧ isD b = true := by
    cases hd : decDigits n with
    | nil => exact absurd hd h0
    | cons b l => exact ⟨b, l, rfl, ha b (by rw [hd]; exact .head _)⟩
  obtain ⟨b, l, hb, hbd⟩ := hz
  have hq := isD_digit hbd
  have e0 : ∀ p : UInt8 → Bool, atP p (decDigits n ++ c :: R) 0 = p b := fun p => by rw [hb]; rfl
  have er : runTo digitB (decDigits n ++ c :: R) 0 = (decDigits n).length := run_pre (fun b hb => (isD_digit (ha b hb)).1) (by rw [atP_in (by simp)]; exact (tail_no hc).1)
  have ec : ∀ p : UInt8 → Bool, atP p (decDigits n ++ c :: R) (decDigits n).length = p c := fun p => by
    have := atP_sh (u := decDigits n) (v := c :: R) p 0
    rw [Nat.add_zero] at this
    rw [this]; rfl
  have ed : numDot (decDigits n ++ c :: R) (decDigits n).length = (decDigits n).length := by
    unfold numDot; rw [ec, (tail_no hc).2.1, Bool.false_and]; rfl
  have et : numTens (decDigits n ++ c :: R) (decDigits n).length = (0, (decDigits n).length) := by
    unfold numTens; rw [ec, (tail_no hc).2.2, Bool.false_and, Bool.false_and]; rfl
  have ee : numEnd (decDigits n ++ c :: R) 0 = (decDigits n).length := by unfold numEnd; rw [er, ed, et]
  have ef : numFine (decDigits n ++ c :: R) 0 = true := by unfold numFine; rw [ee, er, ed, et, ec, hc]; rfl
  refine CT.cons ?_ h0 (skip_zero (by rw [e0]; exact hq.2.2.1) (by rw [e0]; exact hq.2.2.2)) hR
  unfold tokAt nameB
  rw [e0, e0, e0, hq.2.1, hq.1, ee, ef]; rfl
theorem ct_sign {c : UInt8} {R : Str} {ks : List (Nat × Str)} (h1 : tokAt (c :: R) 0 = (3, 1, true)) (h2 : blankB c = false) (h3 : eqB 47 c = false) (hR : CT R ks) : CT (c :: R) ((3, [c]) :: ks) :=
  CT.cons (t := [c]) h1 (by simp) (skip_zero h2 h3) hR
theorem sg_of {c : UInt8} {R : Str} (h1 : letterB c = false) (h2 : digitB c = false) (h : signOf (c :: R) 0 = some [c]) : tokAt (c :: R) 0 = (3, 1, true) := by
  unfold tokAt nameB signLen
  rw [show atP letterB (c :: R) 0 = letterB c from rfl, show atP digitB (c :: R) 0 = digitB c from rfl, h1, h2, h]; rfl
theorem sg_one {c : UInt8} {R : Str} (hc : c = 91 ∨ c = 93 ∨ c = 44 ∨ c = 59 ∨ c = 45) : tokAt (c :: R) 0 = (3, 1, true) ∧ blankB c = false ∧ eqB 47 c = false := by
  rcases hc with rfl | rfl | rfl | rfl | rfl <;> exact ⟨sg_of (by decide) (by decide) (by simp [signOf, signsL, List.find?, List.isPrefixOf]), by decide, by decide⟩
theorem sg_eq {c : UInt8} {R : Str} (hc : c ≠ 61) : tokAt (61 :: c :: R) 0 = (3, 1, true) ∧ blankB 61 = false ∧ eqB 47 61 = false := by
  have : (61 == c) = false := by simpa using Ne.symm hc
  exact ⟨sg_of (by decide) (by decide) (by simp [signOf, signsL, List.find?, List.isPrefixOf, this]), by decide, by decide⟩
def numK (x : Int) : List (Nat × Str) := if x < 0 then [(3, [45]), (2, decDigits x.natAbs)] else [(2, decDigits x.natAbs)]
theorem itoa_abs (x : Int) : itoa x = if x < 0 then 45 :: decDigits x.natAbs else decDigits x.natAbs := by
  unfold itoa
  split
  · rfl
  rw [show x.toNat = x.natAbs by omega]
theorem ct_int {x : Int} {c : UInt8} {R : Str} {ks : List (Nat × Str)} (hc : tailB c = false) (hR : CT (c :: R) ks) : CT (itoa x ++ c :: R) (numK x ++ ks) := by
  rw [itoa_abs]
  unfold numK
  split
  · obtain ⟨h1, h2, h3⟩ := sg_one (R := decDigits x.natAbs ++ c :: R) (c := 45) (by simp)
    exact ct_sign h1 h2 h3 (ct_num hc hR)
  exact ct_num hc hR
def rowK : List Int → List (Nat × Str)
  | [] => []
  | [x] => numK x
  | x :: y :: l => numK x ++ (3, [44]) :: rowK (y :: l)
theorem ct_row {c : UInt8} {R : Str} {ks : List (Nat × Str)} (hc : tailB c = false) (hR : CT (c :: R) ks) : ∀ l : List Int, CT (joinC (l.map itoa) ++ c :: R) (rowK l ++ ks)
  | [] => hR
  | [x] => ct_int hc hR
  | x :: y :: l => by
    have ih := ct_row hc hR (y :: l)
    obtain ⟨h1, h2, h3⟩ := sg_one (R := joinC ((y :: l).map itoa) ++ c :: R) (c := 44) (by simp)
    have := ct_int (x := x) (c := 44) (by decide) (ct_sign h1 h2 h3 ih)
    simp only [List.map_cons, joinC, rowK, List.append_assoc, List.cons_append] at this ⊢
    exact this
def datK (d : Di) : List (Nat × Str) := (1, d.nm) :: (3, [61]) :: ((if d.list = true then (3, [91]) :: (rowK (d.nums.map fun x => x.r.1) ++ [(3, [93])]) else rowK (d.nums.map fun x => x.r.1)) ++ [(3, [59])])
theorem itoa_ne61 (x : Int) : ∃ c r, itoa x = c :: r ∧ c ≠ 61 := by
  rcases Int.lt_or_le x 0 with h | h
  · obtain ⟨r, hr⟩ := itoa_head.1 h
    exact ⟨_, _, hr, by decide⟩
  obtain ⟨c, r, hr, hd⟩ := itoa_head.2 h
  exact ⟨_, _, hr, fun h => by subst h; exact absurd hd (by decide)⟩
theorem ct_dat {d : Di} {R : Str} {ks : List (Nat × Str)} (hd : okD d = true) (hR : CT R ks) : CT (datT d ++ R) (datK d ++ ks) := by
  unfold okD at hd
  rw [Bool.and_eq_true] at hd
  have hq : (d.nums.map fun x => itoa x.r.1) = (d.nums.map fun x => x.r.1).map itoa := by rw [List.map_map]; rfl
  obtain ⟨s1, s2, s3⟩ := sg_one (R := 10 :: R) (c := 59) (by simp)
  have h59 := ct_sign s1 s2 s3 hR.nl
  unfold datT valT datK
  cases hl : d.list with
  | true =>
    obtain ⟨t1, t2, t3⟩ := sg_one (R := 59 :: 10 :: R) (c := 93) (by simp)
    have h93 := ct_row (by decide) (ct_sign t1 t2 t3 h59) (d.nums.map fun x => x.r.1)
    obtain ⟨p1, p2, p3⟩ := sg_one (R := joinC ((d.nums.map fun x => x.r.1).map itoa) ++ 93 :: 59 :: 10 :: R) (c := 91) (by simp)
    obtain ⟨q1, q2, q3⟩ := sg_eq (R := joinC ((d.nums.map fun x => x.r.1).map itoa) ++ 93 :: 59 :: 10 :: R) (c := 91) (by decide)
    have := ct_name hd.1 (ct_sign q1 q2 q3 (ct_sign p1 p2 p3 h93))
    simp only [if_true, hq, List.append_assoc, List.cons_append, List.nil_append] at this ⊢
    exact this
  | false =>
    rw [hl, Bool.false_or, decide_eq_true_eq] at hd
    obtain ⟨x, hx⟩ := List.length_eq_one_iff.1 hd.2
    have h93 := ct_row (by decide) h59 (d.nums.map fun x => x.r.1)
    obtain ⟨c, r, hr, hc⟩ := itoa_ne61 x.r.1
    have hj : ∃ r', joinC ((d.nums.map fun x => x.r.1).map itoa) ++ 59 :: 10 :: R = c :: r' := by rw [hx]; exact ⟨_, by simp only [List.map_cons, List.map_nil, joinC, hr, List.cons_append]; rfl⟩
    obtain ⟨r', hr'⟩ := hj
    obtain ⟨q1, q2, q3⟩ := sg_eq (R := r') hc
    rw [← hr'] at q1
    have := ct_name hd.1 (ct_sign q1 q2 q3 h93)
    simp only [Bool.false_eq_true, if_false, hq, List.append_assoc, List.cons_append, List.nil_append] at this ⊢
    exact this
theorem ct_data : ∀ l : List Di, (∀ d ∈ l, okD d = true) → CT (dataT l) (l.flatMap datK)
  | [], _ => CT.nil
  | d :: l, h => by
    unfold dataT
    rw [List.flatMap_cons, List.flatMap_cons]
    exact ct_dat (h d (.head _)) (ct_data l (fun x hx => h x (.tail _ hx)))
end Go.Feed
end
section
namespace Go.Feed
open Go.Tok Go.Tree Go.Prs Go.Num Go.Lib
def shp (ts : List Tk) : List (Nat × Str) := ts.map (fun t => (t.1, t.2.1))
theorem shp_cons {ts : List Tk} {k : Nat} {t : Str} {ks : List (Nat × Str)} (h : shp ts = (k, t) :: ks) : ∃ a ts', ts = (k, t, a) :: ts' ∧ shp ts' = ks := by
  cases ts with
  | nil => cases h
  | cons y l =>
    unfold shp at h
    rw [List.map_cons] at h
    injection h with h1 h2
    obtain ⟨y1, y2, y3⟩ := y
    simp only [Prod.mk.injEq] at h1
    obtain ⟨rfl, rfl⟩ := h1
    exact ⟨y3, l, rfl, h2⟩
theorem dec_num (n : Nat) : numV (decDigits n) = ((n : Int), 1) ∧ wholeT (decDigits n) = true := by
  have ha : ∀ b ∈ decDigits n, isD b = true := List.all_eq_true.1 (dec_all n)
  have h1 : i1 (decDigits n) = (decDigits n).length := by
    have := run_pre (p := digitB) (t := decDigits n) (R := []) (fun b hb => (isD_digit (ha b hb)).1) rfl
    rw [List.append_nil] at this
    exact this
  have h2 : dotB (decDigits n) = false := by unfold dotB; rw [h1]; exact atP_out (Nat.le_refl _)
  have h3 : i2 (decDigits n) = (decDigits n).length := by unfold i2; rw [h2, if_neg (by decide), h1]
  have h4 : exB (decDigits n) = false := by unfold exB; rw [h3]; exact atP_out (Nat.le_refl _)
  have h5 : powr (decDigits n) = 0 := by unfold powr; rw [h2, h4]; rfl
  have h6 : digs (decDigits n) = decDigits n := by unfold digs; rw [h2, h1, List.take_length]; simp
  refine ⟨?_, ?_⟩
  · unfold numV
    rw [h5, if_neg (by decide), h6, pv_dec, show (0 : Int).natAbs = 0 from rfl, Nat.pow_zero, Nat.mul_one, mkR_one]; rfl
  unfold wholeT
  have : (decDigits n).any (fun b => b == 46 || b == 101) = false := by
    rw [List.any_eq_false]
    intro b hb
    have := ha b hb
    revert this
    exact byte_all (fun b => isD b = true → ¬ (b == 46 || b == 101) = true) (by decide +kernel) b
  rw [this]; rfl
theorem fnum_back {z : Nat} {x : Int} {ts : List Tk} {ks : List (Nat × Str)} (h : shp ts = numK x ++ ks) (hl : (decDigits x.natAbs).length ≤ 400) : ∃ ts', fNum z ts = .ok (((x, 1), true), ts') ∧ shp ts' = ks := by
  have hd := dec_num x.natAbs
  unfold numK at h
  split at h
  · rename_i hx
    obtain ⟨a, t1, rfl, h1⟩ := shp_cons h
    obtain ⟨a2, t2, rfl, h2⟩ := shp_cons h1
    refine ⟨t2, ?_, h2⟩
    unfold fNum isG
    simp only [decide_true, Bool.and_self, if_true, List.tail_cons]
    unfold fTok nowT
    simp only [if_true]
    rw [if_neg (by omega), hd.1, hd.2]
    unfold ngR
    simp only
    rw [show ng (x.natAbs : Int) = false from ng_false.2 (by omega), Int.natAbs_natCast, mkR_one]
    have hi : iv (!false) x.natAbs = x := by
      unfold iv
      rw [if_pos (by decide)]; omega
    rw [hi]; rfl
  rename_i hx
  obtain ⟨a, t1, rfl, h1⟩ := shp_cons h
  refine ⟨t1, ?_, h1⟩
  unfold fNum isG
  simp only
  rw [if_neg (by simp)]
  unfold fTok nowT
  simp only [if_true]
  rw [if_neg (by omega), hd.1, hd.2, if_neg (by decide), show (x.natAbs : Int) = x by omega]; rfl
theorem isG_head {t : Str} {a : Nat} {ts : List Tk} (c : Str) : isG c ((3, t, a) :: ts) = decide (t = c) := by unfold isG; simp
theorem frow_back {z : Nat} : ∀ (xs : List Int) (x : Int) (n : Nat) (l : List Rt) (b : Bool) (ts : List Tk) (ks : List (Nat × Str)), shp ts = rowK (x :: xs) ++ (3, [93]) :: ks → (∀ y ∈ x :: xs, (decDigits y.natAbs).length ≤ 400) → xs.length < n →
    ∃ ts', fRow z n l b ts = .ok ((l ++ (x :: xs).map (fun y => (y, 1)), b), ts') ∧ shp ts' = ks := by
  intro xs
  induction xs with
  | nil =>
    intro x n l b ts ks h hl hn
    obtain ⟨n, rfl⟩ : ∃ m, n = m + 1 := ⟨n - 1, by simp at hn; omega⟩
    obtain ⟨t1, e1, e2⟩ := fnum_back (z := z) h (hl x (.head _))
    obtain ⟨a, t2, rfl, e3⟩ := shp_cons e2
    refine ⟨t2, ?_, e3⟩
    rw [fRow, e1, andR_ok, isG_head, if_neg (by decide)]
    unfold wantG
    rw [isG_head, if_pos (by decide), Bool.and_true]; rfl
  | cons y xs ih =>
    intro x n l b ts ks h hl hn
    obtain ⟨n, rfl⟩ : ∃ m, n = m + 1 := ⟨n - 1, by simp at hn; omega⟩
    rw [rowK, List.append_assoc, List.cons_append] at h
    obtain ⟨t1, e1, e2⟩ := fnum_back (z := z) h (hl x (.head _))
    obtain ⟨a, t2, rfl, e3⟩ := shp_cons e2
    obtain ⟨t3, e4, e5⟩ := ih y n (l ++ [(x, 1)]) b t2 ks e3 (fun q hq => hl q (.tail _ hq)) (by simp at hn; omega)
    refine ⟨t3, ?_, e5⟩
    rw [fRow, e1, andR_ok, isG_head, if_pos (by decide), Bool.and_true, List.tail_cons, e4]
    simp
theorem fval_back {z n : Nat} {d : Di} {ts : List Tk} {ks : List (Nat × Str)} (hd : okD d = true) (hl : ∀ x ∈ d.nums, (decDigits x.r.1.natAbs).length ≤ 400) (hn : d.nums.length < n)
    (h : shp ts = (if d.list = true then (3, [91]) :: (rowK (d.nums.map fun x => x.r.1) ++ [(3, [93])]) else rowK (d.nums.map fun x => x.r.1)) ++ ks) :
    ∃ ts', fVal z n ts = .ok ((d.list, d.nums.map (fun x => (x.r.1, 1)), true), ts') ∧ shp ts' = ks := by
  unfold okD at hd
  rw [Bool.and_eq_true] at hd
  cases hL : d.list with
  | true =>
    rw [hL, if_pos rfl, List.cons_append, List.append_assoc, List.singleton_append] at h
    obtain ⟨a, t1, rfl, h1⟩ := shp_cons h
    unfold fVal
    rw [isG_head, if_pos (by decide), List.tail_cons]
    cases hq : d.nums with
    | nil =>
      rw [hq] at h1
      obtain ⟨a2, t2, rfl, h2⟩ := shp_cons h1
      rw [isG_head, if_pos (by decide)]
      exact ⟨t2, rfl, h2⟩
    | cons x xs =>
      rw [hq] at h1
      rw [hq] at hl hn
      obtain ⟨t2, e1, e2⟩ := frow_back (z := z) (xs.map fun x => x.r.1) x.r.1 n [] true t1 ks (by simpa using h1) (by
        intro y hy
        rw [show x.r.1 :: List.map (fun x => x.r.1) xs = (x :: xs).map (fun x => x.r.1) from rfl] at hy
        obtain ⟨q, hq, rfl⟩ := List.mem_map.1 hy
        exact hl q hq) (by simp at hn ⊢; omega)
      have hno : isG [93] t1 = false := by
        have hh : shp t1 = numK x.r.1 ++ ((match xs with | [] => [] | y :: l => (3, [44]) :: rowK ((y :: l).map fun x => x.r.1)) ++ (3, [93]) :: ks) := by
          rw [h1]
          cases xs with
          | nil => simp [rowK]
          | cons y l => simp [rowK]
        unfold numK at hh
        split at hh
        · obtain ⟨a9, t9, rfl, _⟩ := shp_cons hh
          rw [isG_head]; decide
        · obtain ⟨a9, t9, rfl, _⟩ := shp_cons hh
          unfold isG; simp
      refine ⟨t2, ?_, e2⟩
      rw [if_neg (by rw [hno]; decide), e1, andR_ok]
      simp
  | false =>
    rw [hL, Bool.false_or, decide_eq_true_eq] at hd
    rw [hL, if_neg (by decide)] at h
    obtain ⟨x, hx⟩ := List.length_eq_one_iff.1 hd.2
    rw [hx] at h hl
    have hno : isG [91] ts = false := by
      have hh : shp ts = numK x.r.1 ++ ks := h
      unfold numK at hh
      split at hh
      · obtain ⟨a9, t9, rfl, _⟩ := shp_cons hh
        rw [isG_head]; decide
      · obtain ⟨a9, t9, rfl, _⟩ := shp_cons hh
        unfold isG; simp
    obtain ⟨t2, e1, e2⟩ := fnum_back (z := z) (x := x.r.1) (ts := ts) (ks := ks) h (hl x (.head _))
    refine ⟨t2, ?_, e2⟩
    unfold fVal
    rw [if_neg (by rw [hno]; decide), e1, andR_ok, hx]
    rfl
def Back (e : Dt) (d : Di) : Prop := e.nm = d.nm ∧ e.list = d.list ∧ e.whole = true ∧ e.nums = d.nums.map (fun x => (x.r.1, 1))
inductive Backs : List Dt → List Di → Prop
  | nil : Backs [] []
  | cons {e : Dt} {d : Di} {es : List Dt} {l : List Di} : Back e d → Backs es l → Backs (e :: es) (d :: l)
theorem wantG_yes {β : Type} {z a : Nat} {c : Str} {ts : List Tk} {f : List Tk → Except Fl β} : wantG z c ((3, c, a) :: ts) f = f ts := by
  unfold wantG; rw [isG_head, if_pos (by simp)]; rfl
theorem datK_eq (d : Di) : datK d = (1, d.nm) :: (3, [61]) :: ((if d.list = true then (3, [91]) :: (rowK (d.nums.map fun x => x.r.1) ++ [(3, [93])]) else rowK (d.nums.map fun x => x.r.1)) ++ [(3, [59])]) := rfl
theorem any_names (out : List Dt) (nm : Str) : out.any (fun e => decide (e.nm = nm)) = (out.map Dt.nm).contains nm := by
  rw [Bool.eq_iff_iff, List.any_eq_true, List.contains_iff_mem, List.mem_map]
  constructor
  · rintro ⟨e, he, h⟩; exact ⟨e, he, of_decide_eq_true h⟩
  rintro ⟨e, he, h⟩; exact ⟨e, he, decide_eq_true h⟩
theorem fall_back {z : Nat} : ∀ (l : List Di) (n : Nat) (out : List Dt) (ts : List Tk), shp ts = l.flatMap datK → okW (out.map Dt.nm) l = true → (∀ d ∈ l, ∀ x ∈ d.nums, (decDigits x.r.1.natAbs).length ≤ 400) → (∀ d ∈ l, d.nums.length + l.length < n) → l.length < n →
    ∃ es, fAll z n out ts = .ok (out ++ es) ∧ Backs es l := by
  intro l
  induction l with
  | nil =>
    intro n out ts h _ _ _ hn
    obtain ⟨n, rfl⟩ : ∃ m, n = m + 1 := ⟨n - 1, by simp at hn; omega⟩
    have : ts = [] := by simpa [shp] using h
    subst this
    exact ⟨[], by rw [fAll, if_pos rfl, List.append_nil], .nil⟩
  | cons d l ih =>
    intro n out ts h hok hl hn hn2
    obtain ⟨n, rfl⟩ : ∃ m, n = m + 1 := ⟨n - 1, by simp at hn2; omega⟩
    rw [okW] at hok
    simp only [Bool.and_eq_true, Bool.not_eq_true'] at hok
    obtain ⟨⟨⟨h1, h2⟩, h3⟩, h4⟩ := hok
    have h1' := h1
    unfold okD at h1'
    rw [Bool.and_eq_true] at h1'
    rw [List.flatMap_cons, datK_eq] at h
    simp only [List.cons_append, List.append_assoc] at h
    obtain ⟨a1, t1, rfl, e1⟩ := shp_cons h
    obtain ⟨a2, t2, rfl, e2⟩ := shp_cons e1
    have hnn := hn d (.head _)
    obtain ⟨t3, e3, e4⟩ := fval_back (z := z) (n := n) h1 (hl d (.head _)) (by rw [List.length_cons] at hnn; omega) e2
    obtain ⟨a5, t5, rfl, e5⟩ := shp_cons e4
    obtain ⟨es, e6, e7⟩ := ih n (out ++ [⟨d.nm, a1, d.list, true, d.nums.map (fun x => (x.r.1, 1))⟩]) t5 e5 (by rw [List.map_append]; exact h4) (fun q hq => hl q (.tail _ hq)) (fun q hq => by have := hn q (.tail _ hq); rw [List.length_cons] at this; omega) (by simp at hn2; omega)
    refine ⟨⟨d.nm, a1, d.list, true, d.nums.map (fun x => (x.r.1, 1))⟩ :: es, ?_, .cons ⟨rfl, rfl, rfl, rfl⟩ e7⟩
    rw [fAll, if_neg (by simp)]
    unfold fOne nowT
    simp only
    rw [if_pos ⟨trivial, h1'.1⟩, if_neg ?_]
    · rw [List.tail_cons, wantG_yes, e3, andR_ok, wantG_yes, andR_ok]
      simp only [place]
      rw [e6]
      simp
    · rw [any_names, h2]; decide
theorem rdec_length : ∀ (k n : Nat), n < 10 ^ k → (rdec n).length ≤ k
  | 0, n, h => by
    obtain rfl : n = 0 := by simpa using h
    rw [rdec_zero]; simp
  | k + 1, n, h => by
    by_cases h0 : n = 0
    · subst h0; rw [rdec_zero]; simp
    · rw [rdec_pos h0, List.length_cons]
      have := rdec_length k (n / 10) (by rw [Nat.pow_succ] at h; omega)
      omega
theorem dec_length {k n : Nat} (h : n < 10 ^ k) (hk : 0 < k) : (decDigits n).length ≤ k := by
  by_cases h0 : n = 0
  · subst h0; rw [decDigits_zero]; exact hk
  rw [dec_rev h0, List.length_reverse]; exact rdec_length k n h
theorem joinC_len {K : Nat} : ∀ l : List Str, (∀ t ∈ l, t.length ≤ K) → (joinC l).length ≤ l.length * (K + 1)
  | [], _ => by simp [joinC]
  | [x], h => by have := h x (.head _); simp only [joinC, List.length_cons, List.length_nil]; omega
  | x :: y :: l, h => by
    have h1 := h x (.head _)
    have h2 := joinC_len (y :: l) (fun t ht => h t (.tail _ ht))
    have e : (l.length + 1 + 1) * (K + 1) = (l.length + 1) * (K + 1) + (K + 1) := Nat.succ_mul _ _
    simp only [joinC, List.length_append, List.length_cons] at h2 ⊢
    rw [e]
    omega
def smallD (l : List Di) : Prop := l.length ≤ 12 ∧ ∀ d ∈ l, d.nm.length ≤ 200 ∧ d.nums.length ≤ 20 ∧ ∀ x ∈ d.nums, x.n < B ^ 3
theorem num_small {x : Rw} (h : x.n < B ^ 3) : (decDigits x.r.1.natAbs).length ≤ 58 ∧ (itoa x.r.1).length ≤ 59 := by
  have h1 : x.r.1.natAbs < 10 ^ 58 := by
    unfold Rw.r mkR
    simp only
    rw [iv_abs]
    have h2 := Nat.div_le_self x.n (Nat.gcd x.n x.d)
    have h3 : B ^ 3 < 10 ^ 58 := by decide
    omega
  have h2 := dec_length h1 (by decide)
  refine ⟨h2, ?_⟩
  rw [itoa_abs]
  split
  · rw [List.length_cons]; omega
  omega
theorem dat_small {d : Di} (h : d.nm.length ≤ 200 ∧ d.nums.length ≤ 20 ∧ ∀ x ∈ d.nums, x.n < B ^ 3) : (datT d).length ≤ 1405 ∧ (datK d).length ≤ 66 := by
  have h1 := joinC_len (K := 59) (d.nums.map fun x => itoa x.r.1) (fun t ht => by
    obtain ⟨x, hx, rfl⟩ := List.mem_map.1 ht
    exact (num_small (h.2.2 x hx)).2)
  rw [List.length_map] at h1
  have h2 : ∀ l : List Int, (rowK l).length ≤ 3 * l.length := by
    have hk : ∀ x, (numK x).length ≤ 2 := fun x => by unfold numK; split <;> simp
    intro l
    induction l with
    | nil => simp [rowK]
    | cons x l ih =>
      have := hk x
      cases l with
      | nil => simp only [rowK, List.length_cons, List.length_nil]; omega
      | cons y l => simp only [rowK, List.length_append, List.length_cons] at ih ⊢; omega
  have h3 := h2 (d.nums.map fun x => x.r.1)
  rw [List.length_map] at h3
  have h4 : d.nums.length * 60 ≤ 1200 := by omega
  refine ⟨?_, ?_⟩
  · unfold datT valT
    split <;> simp only [List.length_append, List.length_cons, List.length_nil] <;> omega
  · unfold datK
    split <;> simp only [List.length_append, List.length_cons, List.length_nil] <;> omega
theorem flat_len {α β : Type} (f : α → List β) (K : Nat) : ∀ l : List α, (∀ x ∈ l, (f x).length ≤ K) → (l.flatMap f).length ≤ l.length * K
  | [], _ => by simp
  | x :: l, h => by
    have h1 := h x (.head _)
    have h2 := flat_len f K l (fun y hy => h y (.tail _ hy))
    rw [List.flatMap_cons, List.length_append, List.length_cons, Nat.add_mul]
    omega
theorem back_law {l : List Di} (hs : smallD l) (hw : okW [] l = true) : ∃ es, fRead (dataT l) = .ok es ∧ Backs es l := by
  have h1 := flat_len datT 1405 l (fun d hd => (dat_small (hs.2 d hd)).1)
  have h2 := flat_len datK 66 l (fun d hd => (dat_small (hs.2 d hd)).2)
  have hl := hs.1
  have h3 : l.length * 1405 ≤ 16860 := by omega
  have h4 : l.length * 66 ≤ 792 := by omega
  obtain ⟨ts, e1, e2⟩ := ct_data l (fun d hd => ((okW_mem l [] hw).1 d hd).1) []
  rw [List.nil_append] at e1
  have hlen : ts.length = (l.flatMap datK).length := by rw [← e2, List.length_map]
  have hr := che_read e1 (by omega) (by unfold dataT; omega)
  obtain ⟨es, e3, e4⟩ := fall_back (z := (dataT l).length) l 20001 [] ts e2 hw (fun d hd x hx => by have := num_small ((hs.2 d hd).2.2 x hx); omega) (fun d hd => by have := (hs.2 d hd).2.1; omega) (by omega)
  refine ⟨es, ?_, e4⟩
  unfold fRead
  rw [hr, if_pos rfl, e3, List.nil_append]
end Go.Feed
end
section
namespace Go.Tok
def Jn (ts : List Tk) : List UInt8 := ts.flatMap fun t => 32 :: t.2.1
def kt (t : Tk) : Nat × List UInt8 := (t.1, t.2.1)
def Good (t : Tk) : Prop := ∃ s k e, k ≤ s.length ∧ tokAt s k = (t.1, e, true) ∧ t.2.1 = (s.drop k).take (e - k)
end Go.Tok
end
