/- Layer 14, FeedReads: that Read tells the data, or the fault, that the document tells. Part 9 of 14. -/
import Derived.Test.YtikdkendinnalaaGreatDoorR08
set_option maxRecDepth 100000
set_option maxHeartbeats 16000000
section
namespace Go.Sx
open Go.RowKit Go.Num Go.Feed
def aK (a : Option Addr) (c k : Nat) : Option Addr := a.map fun z => z.add (3 * min k (c - 1))
theorem add_zero_ (z : Addr) : z.add 0 = z := by obtain ⟨b, o, s⟩ := z; unfold Addr.add; cases s <;> simp
theorem add_add_ (z : Addr) (i j : Nat) : (z.add i).add j = z.add (i + j) := by
  obtain ⟨b, o, s⟩ := z
  unfold Addr.add
  split <;> simp_all <;> first | omega | (split <;> simp_all <;> omega)
theorem aK_zero (a : Option Addr) (c : Nat) : aK a c 0 = a := by
  unfold aK
  cases a with
  | none => rfl
  | some z => simp [add_zero_]
section
variable {P : Program} {ρ : Operand → Value} {w : World} {D : Option Tmp} {t ty yt : TypeId} {pos : String} {aft : Array Edge} {g : Option (Nat × Bool)} {x y : Operand} {a : Option Addr} {k c n i : Nat} {kk kl kh : IntKind}
theorem R_low3 (hu : slB P t 3 = true) (hx : ρ x = .slice (aK a c k) (n - k) (c - k)) {lo : Operand} (hlo : ρ lo = .int kl 1) (h1 : k < n) (h2 : n ≤ c) :
    Run P ⟨D, .slice t x (some lo) none none, ty, pos, aft, g⟩ ρ w (.slice (aK a c (k + 1)) (n - (k + 1)) (c - (k + 1))) w := by
  obtain ⟨e, ti, h3, h4, h5⟩ := slB_spec hu
  have h6 : (1 : Int) ≤ ((n - k : Nat) : Int) := by omega
  have e1 : (if c - k = 1 then aK a c k else (aK a c k).map fun z => z.add 3) = aK a c (k + 1) := by
    unfold aK
    cases a with
    | none => split <;> rfl
    | some z =>
      split
      · rename_i h
        simp only [Option.map_some]
        rw [show min k (c - 1) = min (k + 1) (c - 1) by omega]
      · rename_i h
        simp only [Option.map_some]
        rw [add_add_, show 3 * min k (c - 1) + 3 = 3 * min (k + 1) (c - 1) by omega]
  have e2 : n - k - 1 = n - (k + 1) := by omega
  have e3 : c - k - 1 = c - (k + 1) := by omega
  simp [Run, execOp, hx, hlo, go_sem, Instr.sliceAt, Instr.slice, run_underlying h3, Instr.sliceBounds, Instr.sliceBound, asIntOf, h6, sizeOf, typeInfo, h4, h5, e2, e3]
  exact e1
theorem aK_some {b o c k n : Nat} (h : k < n) (hc : n ≤ c) : aK (some ⟨b, o, none⟩) c k = some ⟨b, o + 3 * k, none⟩ := by
  unfold aK Addr.add
  simp [show min k (c - 1) = k by omega]
end
theorem St.modX {B : Base} {A X X' : Heap} {w w' : World} (h : St B (A ++ X) w) (k : Fr (inL X) w w') (hX : ∀ p ∈ X', w'.heap[p.1]? = some p.2 ∧ (inL X p.1 ∨ w.heap.size ≤ p.1)) (hn : (X'.map (·.1)).Nodup) : St B (A ++ X') w' := by
  have hA : ∀ p ∈ A, p.1 < w.heap.size ∧ ¬ inL X p.1 := fun p hp => by
    refine ⟨lt_of_blk (h.own p (List.mem_append_left _ hp)), fun hx => ?_⟩
    have hnd := h.nd
    rw [List.map_append, List.nodup_append] at hnd
    exact hnd.2.2 _ (List.mem_map_of_mem (f := fun q : Nat × Obj => q.1) hp) _ hx rfl
  refine ⟨fun x hx => (h.fr x hx).trans' k (fun _ _ s => s) ?_, ?_, ?_, ?_⟩
  · intro j hj hjX
    obtain ⟨p, hp, rfl⟩ := List.mem_map.1 hjX
    rcases h.ok p (List.mem_append_right _ hp) x hx with hh | hh
    · exact hh
    omega
  · intro p hp
    rcases List.mem_append.1 hp with hp | hp
    · exact k.get (h.own p (List.mem_append_left _ hp)) (hA p hp).2
    exact (hX p hp).1
  · have hnd := h.nd
    rw [List.map_append, List.nodup_append] at hnd
    rw [List.map_append, List.nodup_append]
    refine ⟨hnd.1, hn, ?_⟩
    intro i hi j hj hij
    obtain ⟨p, hp, rfl⟩ := List.mem_map.1 hi
    obtain ⟨q, hq, rfl⟩ := List.mem_map.1 hj
    have h1 := hA p hp
    rcases (hX q hq).2 with hh | hh
    · exact h1.2 (by rw [hij]; exact hh)
    omega
  intro p hp x hx
  rcases List.mem_append.1 hp with hp | hp
  · exact h.ok p (List.mem_append_left _ hp) x hx
  rcases (hX p hp).2 with hh | hh
  · obtain ⟨q, hq, he⟩ := List.mem_map.1 hh
    rw [← he]
    exact h.ok q (List.mem_append_right _ hq) x hx
  exact .inr (Nat.le_trans (h.fr x hx).size hh)
def Nx (N : Nat → Prop) (w w' : World) (X' : Heap) : Nat → Prop := fun j => N j ∨ (Nn w w' j ∧ ¬ inL X' j)
theorem Nx.nb {B : Base} {A X X' : Heap} {w w' : World} {s0 : Nat} (h : St B (A ++ X) w) (k : Fr (inL X) w w') (hX : ∀ p ∈ X', w'.heap[p.1]? = some p.2 ∧ (inL X p.1 ∨ w.heap.size ≤ p.1)) (hs : s0 ≤ w.heap.size) :
    ∀ j, Nx (Nb s0 (w, inL (A ++ X))) w w' X' j → Nb s0 (w', inL (A ++ X')) j := by
  intro j hj
  have hA : ∀ p ∈ A, p.1 < w.heap.size := fun p hp => lt_of_blk (h.own p (List.mem_append_left _ hp))
  rcases hj with ⟨h1, h2, h3⟩ | ⟨⟨h1, h2⟩, h3⟩
  · refine ⟨h1, Nat.lt_of_lt_of_le h2 k.size, fun hm => ?_⟩
    obtain ⟨p, hp, rfl⟩ := List.mem_map.1 hm
    rcases List.mem_append.1 hp with hp | hp
    · exact h3 (List.mem_map_of_mem (f := fun q : Nat × Obj => q.1) (List.mem_append_left _ hp))
    rcases (hX p hp).2 with hh | hh
    · obtain ⟨q, hq, he⟩ := List.mem_map.1 hh
      exact h3 (by rw [← he]; exact List.mem_map_of_mem (f := fun q : Nat × Obj => q.1) (List.mem_append_right _ hq))
    have h2' : p.1 < w.heap.size := h2
    omega
  refine ⟨Nat.le_trans hs h1, h2, fun hm => ?_⟩
  obtain ⟨p, hp, rfl⟩ := List.mem_map.1 hm
  rcases List.mem_append.1 hp with hp | hp
  · have := hA p hp; omega
  exact h3 (List.mem_map_of_mem hp)
section
variable {P : Program} {ops : Array Oper} {Q : Exit → Act → World → Prop} {c : Cf} {e : Env} {rest : List Oper} {o : Oper} {d : Nat} {B : Base} {A X : Heap} {f : FuncId} {args : Array Value}
def TelX (X : Heap) (R : Value → Heap → (Nat → Prop) → World → Prop) (N : Nat → Prop) (w : World) : Value → World → Prop := fun v w' =>
  ∃ X', R v X' (Nx N w w' X') w' ∧ Fr (inL X) w w' ∧ (∀ p ∈ X', w'.heap[p.1]? = some p.2 ∧ (inL X p.1 ∨ w.heap.size ≤ p.1)) ∧ (X'.map (·.1)).Nodup
theorem w_callX {R : Value → Heap → (Nat → Prop) → World → Prop} {s0 : Nat} (hm : ∀ v X' N N' w, R v X' N w → (∀ j, N j → N' j) → R v X' N' w) (hr : ∀ w, RunE P o (ev c.n e) w f args) (hg : plainB o = true) (hd : o.dst = some d) (hs : ∀ w, St B (A ++ X) w → s0 ≤ w.heap.size)
    (hc : ∀ w, St B (A ++ X) w → Ret P f args w (TelX X R (Nb s0 (w, inL (A ++ X))) w))
    (h : ∀ v X' w1, R v X' (Nb s0 (w1, inL (A ++ X'))) w1 → WX .sq P ops c Q rest (upd e d v) ((w1, inL (A ++ X')) :: B) (A ++ X')) : WX .sq P ops c Q (o :: rest) e B (A ++ X) :=
  zP hr hg hd hc fun w hw v w' ⟨X', h1, h2, h3, h4⟩ =>
    ⟨_, _, (hw.modX h2 h3 h4).base1, h v X' w' (hm _ _ _ _ _ h1 (Nx.nb hw h2 h3 (hs w hw)))⟩
end
theorem St.telX {B : Base} {A X X' : Heap} {w w' : World} {R : Value → Heap → (Nat → Prop) → World → Prop} {N : Nat → Prop} {v : Value} (hw : St B (A ++ X') w') (hx : (w, inL X) ∈ B) (hR : R v X' (Nx N w w' X') w') : TelX X R N w v w' :=
  ⟨X', hR, hw.fr _ hx, fun p hp => ⟨hw.own p (List.mem_append_right _ hp), hw.ok p (List.mem_append_right _ hp) _ hx⟩, by
    have := hw.nd
    rw [List.map_append, List.nodup_append] at this
    exact this.2.1⟩
theorem Kn.nx {B : Base} {A X' : Heap} {w w' : World} {x : Bw} {N : Nat → Prop} {a : Option Addr} {k c n : Nat} (h : Kn x a k c n) (hx : x ∈ B) (hw : St B (A ++ X') w') (hf : Fsh w.heap.size a k) : NmN w' (Nx N w w' X') a k c n := by
  obtain ⟨i, hi⟩ := List.getElem?_of_mem hx
  have hn := h.at_ i hi hw
  refine ⟨hn, fun b o q ha hk => .inr ⟨⟨hf b o q ha hk, hn.lt_ hk b o q ha⟩, fun hm => ?_⟩⟩
  obtain ⟨p, hp, he⟩ := List.mem_map.1 hm
  rcases hw.ok p (List.mem_append_right _ hp) x hx with h1 | h1
  · exact h.2 b o q ha hk (by rw [← he]; exact h1)
  have := h.1.lt_ hk b o q ha
  omega
theorem Mc.nx {α : Type} {k : Nat} {M : World → (Nat → Prop) → α → List Value → Prop} (hM : TL M) {B : Base} {L X X' : Heap} {w w' : World} {N : Nat → Prop} {l : List α} {xs : List Value} (h : Mc k M w N l xs) (hN : ∀ j, N j → ¬ inL X j) (hx : (w, inL X) ∈ B) (hw : St B L w') : Mc k M w' (Nx N w w' X') l xs :=
  (TL.cells hM).mono ((TL.cells hM).fr h (hw.fr _ hx) hN) fun _ hj => .inl hj
theorem St.part {B : Base} {A X : Heap} {w : World} (h : St B (A ++ X) w) : St [(w, inL X)] X w :=
  ⟨fun x hx => by rw [List.mem_singleton.1 hx]; exact Fr.refl _ _, fun p hp => h.own p (List.mem_append_right _ hp), by
    have := h.nd
    rw [List.map_append, List.nodup_append] at this
    exact this.2.1, fun p hp x hx => by rw [List.mem_singleton.1 hx]; exact .inl (List.mem_map_of_mem hp)⟩
end Go.Sx
end
section
namespace Go.Proofs.YtikdkendinnalaaGreatDoor
open Go.RowKit Go.Sx
open Go.Tok Go.Tree Go.Prs Go.Feed
abbrev Rr (ta : Option Addr) (tc n z k e a : Nat) : Obj := cel [.slice (aK ta tc k) (n - k) (tc - k), .int .i64 (z : Nat), .int .i64 (e : Nat), .int .i64 (a : Nat)] 61
structure Pf (w : World) (M : Nat → Prop) (T : List Tk) (ta : Option Addr) (tc z : Nat) : Prop where
  wd : Wd w
  gl : ∀ j, M j → 11 ≤ j
  tk : ∀ k t, T[k]? = some t → At w (fun j => ¬ M j) ta (k * 3) (tkC t)
  le : T.length ≤ tc
  len : T.length ≤ 6000
  zz : z ≤ 10000000
  tb : ∀ t ∈ T, t.2.1.length ≤ 20000 ∧ t.2.2 ≤ 10000000
  nt : ∀ t ∈ T, t.1 = 2 → NumT t.2.1
theorem Wd.frS {w w' : World} {S : Nat → Prop} (h : Wd w) (k : Fr S w w') (hs : ∀ j, S j → 11 ≤ j) : Wd w' := ⟨h.tb.fr k (fun x => absurd (hs _ x) (by decide)), Nat.le_trans h.gs k.size, by obtain ⟨m, hm⟩ := h.ml; exact ⟨m, k.cell hm (fun x => absurd (hs _ x) (by decide))⟩⟩
theorem Pf.fr {w w' : World} {M : Nat → Prop} {tc z : Nat} {ta : Option Addr} {T : List Tk} {S : Nat → Prop} (h : Pf w M T ta tc z) (k : Fr S w w') (hs : ∀ j, S j → M j) : Pf w' M T ta tc z :=
  ⟨h.wd.frS k (fun j hj => h.gl j (hs j hj)), h.gl, fun i t hi => (h.tk i t hi).fr k (fun j hj hS => hj (hs j hS)), h.le, h.len, h.zz, h.tb, h.nt⟩
theorem Pf.now {w w' : World} {M : Nat → Prop} {tc z : Nat} {ta : Option Addr} {T : List Tk} {S : Nat → Prop} {B : Base} {L : Heap} (h : Pf w M T ta tc z) (hx : (w, S) ∈ B) (hs : ∀ j, S j → M j) (hw : St B L w') : Pf w' M T ta tc z := h.fr (hw.fr _ hx) hs
theorem Pf.no {w w' : World} {M : Nat → Prop} {tc z : Nat} {ta : Option Addr} {T : List Tk} {B : Base} {L : Heap} (h : Pf w M T ta tc z) (hx : (w, No) ∈ B) (hw : St B L w') : Pf w' M T ta tc z := h.fr (hw.fr _ hx) (fun _ h => h.elim)
theorem nowT_b {w : World} {M : Nat → Prop} {tc z k : Nat} {ta : Option Addr} {T : List Tk} (h : Pf w M T ta tc z) : (nowT z (T.drop k)).2.1.length ≤ 20000 ∧ (nowT z (T.drop k)).2.2 ≤ 10000000 := by
  cases hd : T.drop k with
  | nil => exact ⟨by simp [nowT], h.zz⟩
  | cons t l => exact h.tb t (List.mem_of_mem_drop (hd ▸ List.mem_cons_self))
theorem place_now (z : Nat) (ts : List Tk) : place z ts = (nowT z ts).2.2 := by cases ts <;> rfl
theorem now_lt {T : List Tk} {k z : Nat} (h : (nowT z (T.drop k)).1 ≠ 0) : k < T.length := by
  rcases Nat.lt_or_ge k T.length with h' | h'
  · exact h'
  rw [show T.drop k = [] from List.drop_eq_nil_of_le h'] at h; exact absurd rfl h
theorem drop_tl {T : List Tk} {k : Nat} : (T.drop k).tail = T.drop (k + 1) := by rw [List.tail_drop]
theorem isG_now (x : Str) (z : Nat) (ts : List Tk) : isG x ts = (decide ((nowT z ts).1 = 3) && decide ((nowT z ts).2.1 = x)) := by
  cases ts with
  | nil => rfl
  | cons t r => rfl
theorem isG_lt {x : Str} {T : List Tk} {k : Nat} (h : isG x (T.drop k) = true) : k < T.length := by
  rw [isG_now x 0, Bool.and_eq_true, decide_eq_true_eq] at h
  exact now_lt (z := 0) (by rw [h.1]; decide)
theorem fnow_ok (rb z k e9 a9 : Nat) (M : Nat → Prop) (tc : Nat) (ta : Option Addr) (T : List Tk) (w : World) (hP : Pf w M T ta tc z) (hb : w.heap[rb]? = some (Rr ta tc T.length z k e9 a9)) (hk : k ≤ T.length) :
    Ret Tryz.prog 22 #[pX rb] w (fun v w' => v = .agg (tkC (nowT z (T.drop k))).toArray ∧ Ext w w') := by
  have hlen := hP.len
  refine enter (S := No) (l := [_]) (L := []) 20 Tryz.func22 rfl rfl rfl (St.start w No) ?_; refine yA ?_; refine zA zr64 (fun t2b gt2b ut2b => ?_)
  refine yB ?_; refine zq ?_; refine yA ?_; refine mP rfl ?_; refine zI rfl ?_; refine zf fa61_0 rfl ?_; refine zl z59 rfl (fun _ h => cel_oldb hb zm0 (fun x => x) rfl h) ?_; refine jj sl59 rfl ?_; refine jg rfl rfl ?_; refine yB ?_; refine zD rfl (fun h2 => ?_) (fun h2 => ?_)
  · have hlt : k < T.length := (by omega); obtain ⟨b1, o1, hta, hne, hc1⟩ := hP.tk k _ (List.getElem?_eq_getElem hlt); subst hta; have hak : aK (some ⟨b1, o1, none⟩) tc k = some ⟨b1, o1 + 3 * k, none⟩ := aK_some hlt hP.le
    refine yA ?_; refine mP rfl ?_; refine zI rfl ?_; refine zf fa61_0 rfl ?_; refine zl (v := .slice (some ⟨b1, o1 + 3 * k, none⟩) (T.length - k) (tc - k)) z59 rfl (fun w h => by rw [← hak]; exact cel_oldb hb zm0 (fun x => x) rfl h) ?_; refine zg (fun _ => R_iaN (i := 0) sl59 rfl rfl (by first | omega | decide | exact Nat.succ_pos _ | exact Nat.succ_lt_succ (Nat.succ_pos _))) ?_; refine w_loadC (l := tkC T[k]) z64 rfl rfl (fun w h j v hj => by have h9 := cel_old zm0 (hc1 j v hj) (fun x => x) h; rwa [show o1 + k * 3 + j = o1 + 3 * k + 0 * 3 + j by omega] at h9) ?_; refine jv 0 z64 rfl ?_; refine yB ?_; refine ze ?_; refine zt (?_)
    refine r_fin (.inl rfl) rfl (.agg rfl rfl z64 (fun _ h => h.at_ 0 rfl) rfl .nil) ?_; exact fun w' hw => ⟨by rw [List.drop_eq_getElem_cons hlt]; rfl, hw.f0⟩
  refine zi ?_; refine zk ?_; refine yA ?_; refine mP rfl ?_; refine zI rfl ?_; refine zf fa61_1 rfl ?_; refine zl z3 rfl (fun _ h => cel_oldb hb zm0 (fun x => x) rfl h) ?_; refine jb bt64 rfl ?_; refine jv 0 z64 rfl ?_; refine yB ?_; refine ze ?_; refine r_fin (.inl rfl) rfl (.agg rfl rfl z64 (fun _ h => h.at_ 0 rfl) rfl .nil) ?_; exact fun w' hw => ⟨by rw [show T.drop k = [] from List.drop_eq_nil_of_le (by omega)]; rfl, hw.f0⟩
theorem ffail_ok (e : Nat) (rb z k e9 a9 : Nat) (M : Nat → Prop) (tc : Nat) (ta : Option Addr) (T : List Tk) (w : World) (hP : Pf w M T ta tc z) (hb : w.heap[rb]? = some (Rr ta tc T.length z k e9 a9)) (hk : k ≤ T.length) (hM : M rb) :
    Ret Tryz.prog 24 #[pX rb, .int .i64 (e : Nat)] w (fun v w' => v = .bool false ∧ Fr (fun j => j = rb) w w' ∧ w'.heap[rb]? = some (Rr ta tc T.length z (k) (e) (place z (T.drop k)))) := by
  refine enter (S := (fun j => j = rb)) (l := [_, _]) (L := [(rb, Rr ta tc T.length z (k) (e9) (a9))]) 13 Tryz.func24 rfl rfl rfl (St.start1 w hb rfl) ?_; refine yA ?_; refine aB rfl ?_; refine yC ?_; refine mP rfl ?_; refine mI rfl ?_; refine mP rfl ?_; refine jD Tryz.func22 (fun w h => fnow_ok rb z k e9 a9 M tc ta T w (hP.now zm0 (fun j hj => by rw [hj]; exact hM) h) (h.at_ 0 rfl) (by omega)) ?_; refine zg (fun _ => R_fieldA fd64_2 z3 rfl rfl) ?_; refine jb bt27 rfl ?_; refine zI rfl ?_; refine zf fa61_2 rfl ?_
  refine jv 0 z27 rfl ?_; refine yC ?_; refine aB rfl ?_; refine yB ?_; refine ze ?_; refine zo (v := .bool _) rfl rfl rfl ?_; exact fun w' hw => ⟨rfl, hw.f0, by rw [place_now]; exact hw.at_ 0 rfl⟩
theorem ftake_ok (x : Str) (rb z k e9 a9 : Nat) (M : Nat → Prop) (tc : Nat) (ta : Option Addr) (T : List Tk) (w : World) (hP : Pf w M T ta tc z) (hb : w.heap[rb]? = some (Rr ta tc T.length z k e9 a9)) (hk : k ≤ T.length) (hM : M rb) :
    Ret Tryz.prog 61 #[pX rb, str x] w (fun v w' => v = .bool (isG x (T.drop k)) ∧ Fr (fun j => j = rb) w w' ∧ w'.heap[rb]? = some (Rr ta tc T.length z ((if isG x (T.drop k) = true then k + 1 else k)) (e9) (a9))) := by
  have hlen := hP.len
  refine enter (S := (fun j => j = rb)) (l := [_, _]) (L := [(rb, Rr ta tc T.length z (k) (e9) (a9))]) 25 Tryz.func61 rfl rfl rfl (St.start1 w hb rfl) ?_; refine yA ?_; refine aB rfl ?_; refine yB ?_; refine zq ?_; refine yA ?_; refine mP rfl ?_; refine jD Tryz.func22 (fun w h => fnow_ok rb z k e9 a9 M tc ta T w (hP.now zm0 (fun j hj => by rw [hj]; exact hM) h) (h.at_ 0 rfl) (by omega)) ?_; refine zA zr64 (fun t5b gt5b ut5b => ?_)
  refine jv 0 z64 rfl ?_; refine yC ?_; refine zf fa64_0 rfl ?_; refine jM 0 z5 rfl ?_; refine jn rfl rfl ?_; refine mB rfl ?_; refine zd (t := 11) rfl (fun h2 => ?_) (fun h2 => ?_)
  · refine zs rfl rfl (bT h2) ?_; refine zs rfl rfl (bT h2) ?_; refine zs rfl rfl (bT h2) ?_; refine zs rfl rfl (bT h2) ?_; refine jT (bT h2) rfl ?_; refine yB ?_; refine zE rfl ?_; refine yA ?_; refine aB rfl ?_; refine yB ?_; refine ze ?_; refine zt (?_)
    have ha : isG x (T.drop k) = false := by rw [isG_now x z, decide_eq_false (show ¬ (nowT z (T.drop k)).1 = 3 by omega), Bool.false_and]
    rw [ha, if_neg (by decide)]
    refine zo (v := .bool _) rfl rfl rfl ?_; exact fun w' hw => ⟨rfl, hw.f0, hw.at_ 1 rfl⟩
  refine zw rfl rfl (bF h2) ?_; refine zf fa64_1 rfl ?_; refine zw rfl rfl (bF h2) ?_; refine jM 0 z9 rfl ?_; refine zw rfl rfl (bF h2) ?_; refine zm (v := str _) rfl ?_; refine zw rfl rfl (bF h2) ?_; refine zg (fun _ => R_sne rfl rfl) ?_; refine jF (bF h2) rfl ?_; refine yB ?_; refine zD rfl (fun h3 => ?_) (fun h3 => ?_)
  · refine yA ?_; refine aB rfl ?_; refine yB ?_; refine ze ?_; refine zt (?_)
    have ha : isG x (T.drop k) = false := by rw [isG_now x z, decide_eq_false h3, Bool.and_false]
    rw [ha, if_neg (by decide)]
    refine zo (v := .bool _) rfl rfl rfl ?_; exact fun w' hw => ⟨rfl, hw.f0, hw.at_ 1 rfl⟩
  have ha : isG x (T.drop k) = true := (by rw [isG_now x z, decide_eq_true (by omega), decide_eq_true (Decidable.not_not.1 h3)]; rfl); have hlt := isG_lt ha
  refine zi ?_; refine zk ?_; refine yA ?_; refine mP rfl ?_; refine mP rfl ?_; refine zI rfl ?_; refine zf fa61_0 rfl ?_; refine jM 1 z59 rfl ?_; refine zg (fun _ => R_low3 sl59 rfl rfl hlt hP.le) ?_; refine zI rfl ?_; refine zf fa61_0 rfl ?_; refine jv 1 z59 rfl ?_; refine yC ?_; refine aB rfl ?_; refine yB ?_; refine ze ?_
  rw [ha, if_pos rfl]
  refine zo (v := .bool _) rfl rfl rfl ?_; exact fun w' hw => ⟨rfl, hw.f0, hw.at_ 1 rfl⟩
theorem fwant_ok (x : Str) (rb z k e9 a9 : Nat) (M : Nat → Prop) (tc : Nat) (ta : Option Addr) (T : List Tk) (w : World) (hP : Pf w M T ta tc z) (hb : w.heap[rb]? = some (Rr ta tc T.length z k e9 a9)) (hk : k ≤ T.length) (hM : M rb) :
    Ret Tryz.prog 25 #[pX rb, str x] w (fun v w' => v = .bool (isG x (T.drop k)) ∧ Fr (fun j => j = rb) w w' ∧ w'.heap[rb]? = some (if isG x (T.drop k) = true then Rr ta tc T.length z (k + 1) (e9) (a9) else Rr ta tc T.length z (k) (130) (place z (T.drop k)))) := by
  refine enter (S := (fun j => j = rb)) (l := [_, _]) (L := [(rb, Rr ta tc T.length z (k) (e9) (a9))]) 12 Tryz.func25 rfl rfl rfl (St.start1 w hb rfl) ?_; refine yA ?_; refine aB rfl ?_; refine yC ?_; refine mP rfl ?_; refine zm (v := str _) rfl ?_
  cases hg1 : isG x (T.drop (k))
  · refine w_call1 0 rfl (fun w => zR Tryz.func61 rfl rfl rfl) rfl rfl (fun w h => by have h9 := ftake_ok x rb z (k) (e9) (a9) M tc ta T w (hP.now zm0 (fun j hj => by rw [hj]; exact hM) h) (h.at_ 0 rfl) (by omega) hM; rw [hg1, if_neg (by decide)] at h9; exact h9) ?_; refine mB rfl ?_; refine zw rfl rfl rfl ?_; refine mP rfl ?_; refine zw rfl rfl rfl ?_; refine w_call1 0 rfl (fun w => zR Tryz.func24 rfl rfl rfl) rfl rfl (fun w h => ffail_ok 130 rb z (k) (e9) (a9) M tc ta T w (hP.now zm0 (fun j hj => by rw [hj]; exact hM) h) (h.at_ 0 rfl) (by omega) hM) ?_; refine jF rfl rfl ?_; refine aB rfl ?_; refine yB ?_; refine ze ?_
    rw [if_neg (by decide)]
    refine zo (v := .bool _) rfl rfl rfl ?_; exact fun w' hw => ⟨rfl, hw.f0, hw.at_ 0 rfl⟩
  refine w_call1 0 rfl (fun w => zR Tryz.func61 rfl rfl rfl) rfl rfl (fun w h => by have h9 := ftake_ok x rb z (k) (e9) (a9) M tc ta T w (hP.now zm0 (fun j hj => by rw [hj]; exact hM) h) (h.at_ 0 rfl) (by omega) hM; rw [hg1, if_pos rfl] at h9; exact h9) ?_
  have hlt1 := isG_lt hg1
  refine mB rfl ?_; (iterate 2 refine zs rfl rfl rfl ?_); refine jT rfl rfl ?_; refine aB rfl ?_; refine yB ?_; refine ze ?_
  rw [if_pos rfl]
  refine zo (v := .bool _) rfl rfl rfl ?_; exact fun w' hw => ⟨rfl, hw.f0, hw.at_ 0 rfl⟩
end Go.Proofs.YtikdkendinnalaaGreatDoor
end
section
namespace Go.Feed
open Go.Tok Go.Tree Go.Prs Go.Num
theorem NumT.ascii {s : Str} (h : NumT s) : ∀ (j : Nat) b, s[j]? = some b → b.toNat < 128 := by
  intro j b hb
  have hj : j < s.length := (List.getElem?_eq_some_iff.1 hb).1
  have key : ∀ p : UInt8 → Bool, (∀ b, p b = true → b.toNat < 128) → atP p s j = true → b.toNat < 128 := fun p hp ha => by
    unfold atP at ha
    rw [hb] at ha
    exact hp b ha
  have hd : ∀ b, digitB b = true → b.toNat < 128 := byte_all (fun b => digitB b = true → b.toNat < 128) (by decide +kernel)
  have hdot : ∀ b, eqB 46 b = true → b.toNat < 128 := byte_all (fun b => eqB 46 b = true → b.toNat < 128) (by decide +kernel)
  have he : ∀ b, eqB 101 b = true → b.toNat < 128 := byte_all (fun b => eqB 101 b = true → b.toNat < 128) (by decide +kernel)
  have hpm : ∀ b, pmB b = true → b.toNat < 128 := byte_all (fun b => pmB b = true → b.toNat < 128) (by decide +kernel)
  rcases Nat.lt_or_ge j (i1 s) with h1 | h1
  · exact key _ hd (run_all _ 0 rfl (Nat.zero_le _) h1)
  · rcases Nat.lt_or_ge j (i2 s) with h2 | h2
    · cases hq : dotB s with
      | false => rw [i2_no hq] at h2; omega
      | true =>
        by_cases hji : j = i1 s
        · subst hji; exact key _ hdot hq
        · exact key _ hd (run_all _ (i1 s + 1) rfl (by omega) (by rw [i2_yes hq]; exact h2))
    · cases hx : exB s with
      | false => have := h.d hx; omega
      | true =>
        have hc := h.c hx
        by_cases hji : j = i2 s
        · subst hji; exact key _ he hx
        · by_cases hk : k0 s ≤ j
          · exact key _ hd (run_all _ (k0 s) rfl hk (by have := hc.2.2; unfold k1 at this; omega))
          · have hk2 : k0 s = i2 s + 2 := by
              unfold k0 at hk ⊢
              split
              · rfl
              · rename_i hh; rw [if_neg hh] at hk; omega
            have hji2 : j = i2 s + 1 := by omega
            refine key _ hpm ?_
            rw [hji2, pm_eq]
            cases hp : (plB s || mnB s) with
            | true => exact hp
            | false =>
              unfold k0 at hk2
              rw [hp, if_neg (by decide)] at hk2
              omega
theorem mkR_pos {s : Bool} {n d : Nat} (h : d ≠ 0) : (mkR s n d).2 ≠ 0 := by
  have h1 : 0 < Nat.gcd n d := Nat.gcd_pos_of_pos_right _ (Nat.pos_of_ne_zero h)
  have h2 := Nat.div_pos (Nat.le_of_dvd (Nat.pos_of_ne_zero h) (Nat.gcd_dvd_right n d)) h1
  unfold mkR
  exact Nat.pos_iff_ne_zero.1 h2
theorem mkR_le (s : Bool) (n d : Nat) : (mkR s n d).1.natAbs ≤ n ∧ (mkR s n d).2 ≤ d := by
  unfold mkR
  rw [iv_abs]
  exact ⟨Nat.div_le_self _ _, Nat.div_le_self _ _⟩
theorem numV_pos (s : Str) : (numV s).2 ≠ 0 := by
  unfold numV
  split
  · exact mkR_pos (Nat.pos_iff_ne_zero.1 (Nat.pow_pos (by decide)))
  exact mkR_pos (by decide)
theorem ten_mono {x k : Nat} (h : x < 10 ^ k) : sz x ≤ k / 16 + 1 := Nat.le_trans (sz_iff.2 (Nat.lt_of_lt_of_le h (Nat.le_of_lt (sz_iff.1 (sz_ten16 k))))) (Nat.le_refl _)
theorem ten_le {x l k : Nat} (h : x < 10 ^ l) (hl : l ≤ k) : x < 10 ^ k := Nat.lt_of_lt_of_le h (Nat.pow_le_pow_right (by decide) hl)
theorem numV_sz {s : Str} (h : NumT s) (hs : s.length ≤ 400) : sz (numV s).1.natAbs ≤ 1000 ∧ sz (numV s).2 ≤ 1000 := by
  have hp := h.pow_le hs
  have hd := h.dig
  have h1 := pv_bound (digs s) hd.1
  have hdl : (digs s).length ≤ 400 := Nat.le_trans hd.2.2 hs
  obtain ⟨J, hJ⟩ : ∃ J, J = 400 := ⟨_, rfl⟩
  obtain ⟨K, hK⟩ : ∃ K, K = 10399 := ⟨_, rfl⟩
  have h2 := ten_le (k := J) h1 (by omega)
  have mono : ∀ {x y : Nat}, x ≤ y → sz x ≤ sz y := fun hxy => sz_iff.2 (Nat.lt_of_le_of_lt hxy (lt_sz _))
  have hpa : (powr s).natAbs ≤ K := by omega
  have h3 : (10 : Nat) ^ (powr s).natAbs ≤ 10 ^ K := Nat.pow_le_pow_right (by decide) hpa
  unfold numV
  split
  · have hm := mkR_le false (pv 0 (digs s)) (10 ^ (powr s).natAbs)
    refine ⟨Nat.le_trans (mono hm.1) (Nat.le_trans (ten_mono h2) (by omega)), Nat.le_trans (mono hm.2) (Nat.le_trans (sz_ten16 _) (by omega))⟩
  have hm := mkR_le false (pv 0 (digs s) * 10 ^ (powr s).natAbs) 1
  refine ⟨Nat.le_trans (mono hm.1) ?_, Nat.le_trans (mono hm.2) (by decide)⟩
  have h4 : pv 0 (digs s) * 10 ^ (powr s).natAbs < 10 ^ (J + K) := by
    rw [Nat.pow_add]
    exact Nat.lt_of_le_of_lt (Nat.mul_le_mul_left _ h3) (Nat.mul_lt_mul_of_pos_right h2 (Nat.pow_pos (by decide)))
  exact Nat.le_trans (ten_mono h4) (by omega)
theorem ngR_sz {x : Rt} : sz (ngR x).1.natAbs ≤ sz x.1.natAbs ∧ sz (ngR x).2 ≤ sz x.2 := by
  have hm := mkR_le (!ng x.1) x.1.natAbs x.2
  have mono : ∀ {x y : Nat}, x ≤ y → sz x ≤ sz y := fun hxy => sz_iff.2 (Nat.lt_of_le_of_lt hxy (lt_sz _))
  exact ⟨mono hm.1, mono hm.2⟩
end Go.Feed
end
section
namespace Go.Sx
open Go.RowKit
section
variable {P : Program} {ops : Array Oper} {Q : Exit → Act → World → Prop} {c : Cf} {e : Env} {B : Base} {L : Heap} {rest : List Oper} {d : Nat} {x y : Operand} {T : TypeId} {p : String} {ed : Array Edge} {t te bytes : Nat} {z v : Value} {xs : List Value} {W : Heap}
theorem o_app {q fuel k n m b2 o2 c2 : Nat} {S : World → Prop} {listed : Array Bool} {news : List Value} (A : Heap) (hq : ops[q]? = some ⟨some d, .call ⟨.builtin .append, #[x, y], #[t, t]⟩, T, p, ed, none⟩) (hT : slT P t te k bytes z) (hk : 0 < k) (hx : ev c.n e x = v) (hown : Own te k v xs n W) (hy : ev c.n e y = .slice (some ⟨b2, o2, none⟩) m c2)
    (hl : news.length = m * k) (hnews : ∀ w, St B (A ++ (W ++ L)) w → ∀ (j : Nat) u, news[j]? = some u → w.cell? ⟨b2, o2 + j, none⟩ = some u) (h1 : news.all Value.oneCell' = true) (hm : 0 < m) (h63 : n + m ≤ 9223372036854775807) (hbytes : (n + m) * bytes ≤ 140737488355328)
    (h : ∀ v' W', Own te k v' (xs ++ news) (n + m) W' → WH P ops c Q S fuel (listed.setIfInBounds q true) (upd e d v') B (A ++ (W' ++ L))) : WO P ops c Q S fuel listed q e B (A ++ (W ++ L)) :=
  o_val hq rfl rfl fun w hw => by
    obtain ⟨v', w', L2, k1, k2, k3⟩ := app_run (ρ := ev c.n e) (D := some d) (g := none) (x := x) (y := y) (T := T) (p := p) (ed := ed) (A := A) (L := L) (news := news) hT hk hx (hown.toR A L) hy hl hnews h1 hm h63 hbytes hw
    obtain ⟨W', k4, rfl⟩ := k2.own
    exact ⟨v', w', B, _, k1, k3, h v' W' k4⟩
theorem o_st {q fuel : Nat} {S : World → Prop} {listed : Array Bool} {B' : Base} {L' : Heap} (hc : ∀ w, St B L w → St B' L' w) (h : WO P ops c Q S fuel listed q e B' L') : WO P ops c Q S fuel listed q e B L := by
  unfold WO at *
  exact fun w hw => h w (hc w hw)
end
section
variable {P : Program} {ops : Array Oper} {Q : Exit → Act → World → Prop} {c : Cf} {e : Env} {B : Base} {L : Heap} {rest : List Oper} {v : Value} {d : Nat} {q : Md} {x y z : Operand} {T : TypeId} {p : String} {a : Array Edge}
theorem w_lookS (i : Nat) {b : Nat} {s : List UInt8} {l : List (List UInt8 × Value)} {t te : TypeId} {tk : TypeId} {zv : Value} (hi : L[i]? = some (b, mpS l)) (ht : P.underlying t = some (.map tk te)) (hk : P.underlying tk = some .string) (hz : zeroB P te zv) (hx : ev c.n e x = .map (some b)) (hy : ev c.n e y = str s) (hv : (l.lookup s).getD zv = v)
    (h : WX q P ops c Q rest (upd e d v) B L) : WX q P ops c Q (⟨some d, .lookup t x y false, T, p, a, none⟩ :: rest) e B L := by
  refine w_run (fun w hw => ?_) rfl rfl h
  have hb := hw.at_ i hi
  unfold mpS at hb
  obtain ⟨r, h1, h2⟩ := find_strs s l 0 0
  have hzr : (zeroValue te).run P w = .ok zv w := by
    unfold zeroB at hz
    cases hti : P.info? te with
    | none => rw [hti] at hz; cases hz
    | some j => rw [hti] at hz; simp [zeroValue, typeInfo, hti, show j.zero = some zv by simpa using hz, go_sem]
  have hck : ∀ (em : Bool) (w : World), (Instr.checkKey em 10000 tk (str s)).run P w = .ok () w := fun em w => MapKept.run_checkKey (d := .string) hk (show MapKept.IsKey .string (str s) from True.intro) em 9999
  simp only [Run, execOp, hx, hy]
  subst hv
  rw [← h2]
  cases r with
  | none => simp [Instr.lookup, run_underlying ht, MapKept.run_getObj_map hb, hck, MapKept.run_findKey hk h1, hzr, Result.andThen, go_sem]
  | some r => simp [Instr.lookup, run_underlying ht, MapKept.run_getObj_map hb, hck, MapKept.run_findKey hk h1, Result.andThen, go_sem]
end
end Go.Sx
end
section
namespace Go.Proofs.YtikdkendinnalaaGreatDoor
open Go.RowKit Go.Sx
open Go.Tok Go.Tree Go.Prs Go.Feed Go.Num
abbrev Dd (nm : Str) (p : Nat) (li wh : Bool) (v : Value) : Obj := cel [str nm, .int .i64 (p : Nat), .bool li, .bool wh, v] 33
theorem containsAny_ok (s : List UInt8) (w : World) (hs : s.length ≤ 1000) (ha : ∀ (j : Nat) b, s[j]? = some b → b.toNat < 128) : Ret Tryz.prog 103 #[str s, str [46, 101]] w fun v w' => v = .bool (!wholeT s) ∧ Ext w w' :=
  Calls.mono (Tryz.strings_ContainsAny_laid ⟨s.toArray⟩ ⟨#[46, 101]⟩ w (by show s.length < _; omega) (by decide) ha (by
    intro j b hb
    have hm := List.mem_of_getElem? hb
    have : ∀ b ∈ ([46, 101] : List UInt8), b.toNat < 128 := by decide
    exact this b hm)) fun e w' ⟨h1, h2⟩ => ⟨_, h1, by
    have key : ∀ l : List UInt8, Lib.containsAny l [46, 101] = l.any (fun b => b == 46 || b == 101) := by
      intro l
      unfold Lib.containsAny
      induction l with
      | nil => rfl
      | cons b l ih =>
        have hg := Lib.indexAny_ge [46, 101] l
        rw [Lib.indexAny, List.any_cons, ← ih]
        have hb : List.contains ([46, 101] : List UInt8) b = (b == 46 || b == 101) := by rw [List.contains_cons, List.contains_cons, List.contains_nil, Bool.or_false]
        rw [hb]
        by_cases hc : (b == 46 || b == 101) = true
        · rw [hc]; rfl
        · rw [if_neg hc, Bool.not_eq_true _ |>.mp hc, Bool.false_or]
          by_cases h3 : Lib.indexAny l [46, 101] = -1
          · rw [h3]; rfl
          · rw [if_neg (by simpa using h3)]
            exact decide_eq_decide.2 ⟨fun h => by omega, fun h => by omega⟩
    show Value.bool (Lib.containsAny s [46, 101]) = _
    rw [key]
    unfold wholeT
    rw [Bool.not_not], ext_below h2⟩
def NumQ (rb db tc z e9 a9 k : Nat) (ta : Option Addr) (T : List Tk) (nm : Str) (p : Nat) (li wh : Bool) (l : List Rt) (X : Except Fl ((Rt × Bool) × List Tk)) : Value → Heap → (Nat → Prop) → World → Prop := fun v X' N w =>
  match X with
  | .ok (a, r) => v = .bool true ∧ ∃ k' v' xs' W', r = T.drop k' ∧ k < k' ∧ k' ≤ T.length ∧ X' = (rb, Rr ta tc T.length z k' e9 a9) :: (db, Dd nm p li (wh && a.2) v') :: W' ∧ Own 46 3 v' xs' (l.length + 1) W' ∧ Mc 3 rwC w N ((l ++ [a.1]).map rwR) xs'
  | .error fl => v = .bool false ∧ ∃ k' Y, k' ≤ T.length ∧ X' = (rb, Rr ta tc T.length z k' fl.1 fl.2) :: Y
theorem dd_eq {rb db p : Nat} {o : Obj} {nm : Str} {li b b' : Bool} {v : Value} {W : Heap} (h : b = b') : ((rb, o) :: (db, Dd nm p li b v) :: W : Heap) = (rb, o) :: (db, Dd nm p li b' v) :: W := by rw [h]
theorem fTok_kind {z : Nat} {neg : Bool} {ts : List Tk} (h : ¬ (nowT z ts).1 = 2) : fTok z neg ts = .error (130, place z ts) := if_neg h
theorem fTok_long {z : Nat} {neg : Bool} {ts : List Tk} (h : (nowT z ts).1 = 2) (h2 : 400 < (nowT z ts).2.1.length) : fTok z neg ts = .error (3, place z ts) := (if_pos h).trans (if_pos h2)
theorem fTok_ok {z : Nat} {neg : Bool} {ts : List Tk} (h : (nowT z ts).1 = 2) (h2 : ¬ 400 < (nowT z ts).2.1.length) : fTok z neg ts = .ok ((if neg = true then ngR (numV (nowT z ts).2.1) else numV (nowT z ts).2.1, wholeT (nowT z ts).2.1), ts.tail) := (if_pos h).trans (if_neg h2)
theorem fNum_y {z : Nat} {ts : List Tk} (h : isG [45] ts = true) : fNum z ts = fTok z true ts.tail := if_pos h
theorem fNum_n {z : Nat} {ts : List Tk} (h : isG [45] ts = false) : fNum z ts = fTok z false ts := if_neg (by rw [h]; decide)
theorem now_nt {w : World} {M : Nat → Prop} {tc z k : Nat} {ta : Option Addr} {T : List Tk} (h : Pf w M T ta tc z) (h2 : (nowT z (T.drop k)).1 = 2) : NumT (nowT z (T.drop k)).2.1 := by
  have hl := now_lt (T := T) (k := k) (z := z) (by rw [h2]; decide)
  rw [List.drop_eq_getElem_cons hl] at h2 ⊢
  exact h.nt _ (List.getElem_mem hl) h2
theorem number_ok (rb db z k e9 a9 : Nat) (M : Nat → Prop) (tc : Nat) (ta : Option Addr) (T : List Tk) (w : World) (hP : Pf w M T ta tc z) (hk : k ≤ T.length) (hM : M rb) (hMd : M db) (nm : Str) (p : Nat) (li wh : Bool) (va : Option Addr) (vc : Nat) (xs : List Value) (l : List Rt) (W : Heap) (hO : Own 46 3 (.slice va l.length vc) xs l.length W) (hMW : ∀ p ∈ W, M p.1) (hl : l.length ≤ 10000) (N : Nat → Prop) (hN : ∀ j, N j → ¬ inL ((rb, Rr ta tc T.length z (k) (e9) (a9)) :: (db, Dd nm p li wh (.slice va l.length vc)) :: W) j) (hK : Mc 3 rwC w N (l.map rwR) xs) (hX : St [(w, inL ((rb, Rr ta tc T.length z (k) (e9) (a9)) :: (db, Dd nm p li wh (.slice va l.length vc)) :: W))] ((rb, Rr ta tc T.length z (k) (e9) (a9)) :: (db, Dd nm p li wh (.slice va l.length vc)) :: W) w) :
    Ret Tryz.prog 62 #[pX rb, pX db] w (TelX ((rb, Rr ta tc T.length z (k) (e9) (a9)) :: (db, Dd nm p li wh (.slice va l.length vc)) :: W) (NumQ rb db tc z e9 a9 k ta T nm p li wh l (fNum z (T.drop k))) N w) := by
  have hlen := hP.len
  refine enter (S := (inL ((rb, Rr ta tc T.length z (k) (e9) (a9)) :: (db, Dd nm p li wh (.slice va l.length vc)) :: W))) (l := [_, _]) (L := [(rb, Rr ta tc T.length z (k) (e9) (a9)), (db, Dd nm p li wh (.slice va l.length vc))] ++ W) 71 Tryz.func62 rfl rfl rfl (hX) ?_; refine yA ?_; refine aB rfl ?_; refine yC ?_; refine mP rfl ?_
  cases hg1 : isG [45] (T.drop (k))
  · refine w_call1 0 rfl (fun w => zR Tryz.func61 rfl rfl rfl) rfl rfl (fun w h => by have h9 := ftake_ok [45] rb z (k) (e9) (a9) M tc ta T w (hP.now zm0 (fun j hj => by rcases List.mem_cons.1 hj with rfl | hj; (exact hM); (rcases List.mem_cons.1 hj with rfl | hj; (exact hMd); (obtain ⟨q, hq, rfl⟩ := List.mem_map.1 hj; exact hMW q hq))) h) (h.at_ 0 rfl) (by omega) hM; rw [hg1, if_neg (by decide)] at h9; exact h9) ?_
    refine aB rfl ?_; refine yC ?_; refine mP rfl ?_; refine jD Tryz.func22 (fun w h => fnow_ok rb z (k) (e9) (a9) M tc ta T w (hP.now zm0 (fun j hj => by rcases List.mem_cons.1 hj with rfl | hj; (exact hM); (rcases List.mem_cons.1 hj with rfl | hj; (exact hMd); (obtain ⟨q, hq, rfl⟩ := List.mem_map.1 hj; exact hMW q hq))) h) (h.at_ 0 rfl) (by omega)) ?_; refine zA zr64 (fun t6b gt6b ut6b => ?_)
    refine jv 0 z64 rfl ?_; refine yB ?_; refine zq ?_; refine yA ?_; refine zf fa64_0 rfl ?_; refine jM 0 z5 rfl ?_; refine jn rfl rfl ?_; refine yB ?_; refine zD rfl (fun h3 => ?_) (fun h3 => ?_)
    · have hkd : ¬ (nowT z (T.drop (k))).1 = 2 := (by omega)
      refine yA ?_; refine mP rfl ?_; refine w_call1 1 rfl (fun w => zR Tryz.func24 rfl rfl rfl) rfl rfl (fun w h => ffail_ok 130 rb z (k) (e9) (a9) M tc ta T w (hP.now zm0 (fun j hj => by rcases List.mem_cons.1 hj with rfl | hj; (exact hM); (rcases List.mem_cons.1 hj with rfl | hj; (exact hMd); (obtain ⟨q, hq, rfl⟩ := List.mem_map.1 hj; exact hMW q hq))) h) (h.at_ 1 rfl) (by omega) hM) ?_; refine aB rfl ?_; refine yB ?_; refine ze ?_; refine zt (?_)
      have hG : fNum z (T.drop k) = .error (130, place z (T.drop (k))) := (fNum_n hg1).trans (fTok_kind hkd)
      rw [hG]
      refine zo (v := .bool _) rfl rfl rfl ?_; exact fun w' hw => St.telX (A := [_]) hw zm0 ⟨rfl, k, _, by omega, rfl⟩
    have hkd : (nowT z (T.drop (k))).1 = 2 := (by omega); have hT := now_nt hP hkd; have hnb := nowT_b (k := k) hP
    refine zi ?_; refine zk ?_; refine yA ?_; refine zf fa64_1 rfl ?_; refine jM 0 z9 rfl ?_
    rcases Nat.lt_or_ge 400 (nowT z (T.drop (k))).2.1.length with hlong | hlong
    · refine jD Tryz.func101 (fun w h => numeralF_no _ w ⟨hlong, by omega⟩) ?_; refine zm rfl ?_; refine jx rfl rfl ?_; refine jx rfl rfl ?_; refine zA zr46 (fun t7b gt7b ut7b => ?_)
      refine jv 0 z46 rfl ?_; refine aI rfl ?_; refine yB ?_; refine zq ?_; refine yA ?_; refine zf fa64_1 rfl ?_; refine jM 1 z9 rfl ?_; refine zg (fun _ => R_slen st9 rfl (by omega)) ?_; refine zg (fun _ => R_gtT rfl rfl (by omega)) ?_; refine mB rfl ?_; (iterate 2 refine zs rfl rfl rfl ?_); refine jT rfl rfl ?_; refine yB ?_; refine zE rfl ?_; refine yA ?_; refine mP rfl ?_
      refine w_call1 2 rfl (fun w => zR Tryz.func24 rfl rfl rfl) rfl rfl (fun w h => ffail_ok 3 rb z (k) (e9) (a9) M tc ta T w (hP.now zm0 (fun j hj => by rcases List.mem_cons.1 hj with rfl | hj; (exact hM); (rcases List.mem_cons.1 hj with rfl | hj; (exact hMd); (obtain ⟨q, hq, rfl⟩ := List.mem_map.1 hj; exact hMW q hq))) h) (h.at_ 2 rfl) (by omega) hM) ?_; refine aB rfl ?_; refine yB ?_; refine ze ?_; refine zt (?_)
      have hG : fNum z (T.drop k) = .error (3, place z (T.drop (k))) := (fNum_n hg1).trans (fTok_long hkd hlong)
      rw [hG]
      refine zo (v := .bool _) rfl rfl rfl ?_; exact fun w' hw => St.telX (A := [_, _]) hw zm0 ⟨rfl, k, _, by omega, rfl⟩
    refine w_tel2 (fun w => zR Tryz.func101 rfl rfl rfl) rfl rfl (fun w h => numeralF_ok _ w hlong hT) (fun x5 a5 c5 a5' c5' hK5 hN5 hK5' hN5' => ?_)
    have hvp := numV_pos (nowT z (T.drop (k))).2.1; have hvs := numV_sz hT hlong
    refine zm rfl ?_; refine jx rfl rfl ?_; refine jx rfl rfl ?_; refine zA zr46 (fun t7b gt7b ut7b => ?_)
    refine jv 0 z46 rfl ?_; refine aI rfl ?_; refine yB ?_; refine zq ?_; refine yA ?_; refine zf fa64_1 rfl ?_; refine jM 1 z9 rfl ?_; refine zg (fun _ => R_slen st9 rfl (by omega)) ?_; refine zg (fun _ => R_gtF rfl rfl (by omega)) ?_; refine mB rfl ?_; refine zw rfl rfl rfl ?_; refine mI rfl ?_; refine zw rfl rfl rfl ?_; refine jn rfl rfl ?_; refine jF rfl rfl ?_; refine yB ?_; refine zG bE ?_
    refine zi ?_; refine zk ?_; refine zq ?_; refine yA ?_; refine mB rfl ?_; refine yB ?_; refine zG rfl ?_; refine zi ?_; refine zk ?_; refine yA ?_; refine mP rfl ?_; refine mP rfl ?_; refine zI rfl ?_; refine zf fa61_0 rfl ?_; refine jM 2 z59 rfl ?_
    have hlt : k < T.length := now_lt (z := z) (by rw [hkd]; decide)
    refine zg (fun _ => R_low3 sl59 rfl rfl hlt hP.le) ?_; refine zI rfl ?_; refine zf fa61_0 rfl ?_; refine jv 2 z59 rfl ?_; refine yB ?_; refine zq ?_; refine c_heldI [0, 1, 2] mixed ?_; refine zh (v := .pointer _) 0 rfl (by kernel_rfl) rfl rfl (pk [0, 1, 2]) (fun w h => R_move rfl) ?_; refine zh (v := .pointer _) 1 rfl (by kernel_rfl) rfl rfl (pk [0, 1, 2]) (fun w h => R_move rfl) ?_; refine zh2 2 rfl rfl (pk [0, 1, 2]) (fun w h => R_nil rfl) ?_; refine zh2 3 rfl rfl (pk [0, 1, 2]) (fun w h => R_fa fa33_4 rfl) ?_; refine h_loadA 5 rfl (by kernel_rfl) (pk [0, 1, 2]) z46 rfl (fun _ h => h.at_ 0 rfl) rfl ?_
    refine h_two 4 6 (by kernel_rfl) (pk [0, 1, 2]) ?_ ?_
    · refine o_run (v := .slice _ _ _) rfl rfl rfl (fun w h => R_ld1 z31 rfl (zc 3 rfl rfl h)) ?_; refine zH2 6 (pk [0, 1, 2]) ?_; refine o_bsliceV rfl (wn_none rfl) slt31 (by decide) rfl rfl (fun sb gsb usb => ?_)
      refine zH2 7 (pk [1, 2, 3]) ?_; refine o_st (B' := _) (L' := [_, _, _, _, _] ++ (W ++ [])) (fun w h => by rw [List.append_nil]; exact h) ?_; refine o_app (L := []) (W := W) (news := [.bool (ng (numV (nowT z (T.drop (k))).2.1).1), .slice a5 (sz (numV (nowT z (T.drop (k))).2.1).1.natAbs) c5, .slice a5' (sz (numV (nowT z (T.drop (k))).2.1).2) c5']) [_, _, _, _, _] rfl slt31 (by decide) rfl hO rfl rfl (row_own 0 rfl (fun j u h => h)) rfl (by decide) (by omega) (by omega) (fun v2 W2 hO2 => ?_)
      obtain ⟨a2, c2, rfl⟩ := hO2.slice
      refine zh2 8 rfl rfl (pk [1, 2, 3]) (fun w h => R_nil rfl) ?_; refine zh2 9 rfl rfl (pk [1, 2, 3]) (fun w h => R_fa fa33_4 rfl) ?_; refine zH2 10 (pk [1, 2, 3]) ?_; refine zJ 4 rfl rfl z31 rfl rfl rfl rfl rfl rfl rfl ?_; refine zN2 (pk [1, 2, 3]) ?_; refine zk ?_; refine yA ?_; refine mP rfl ?_; refine mP rfl ?_; refine zI rfl ?_; refine zf fa33_3 rfl ?_; refine jM 4 z4 rfl ?_; refine mB rfl ?_; refine zp (t := 63) rfl (fun h7 => ?_) (fun h7 => ?_)
      · refine zw rfl rfl (bV h7) ?_; refine zf fa64_1 rfl ?_; refine zw rfl rfl (bV h7) ?_; refine jM 2 z9 rfl ?_; refine zw rfl rfl (bV h7) ?_; refine jD Tryz.func103 (fun w h => containsAny_ok _ w (by omega) hT.ascii) ?_; refine zw rfl rfl (bV h7) ?_; refine jk rfl ?_; refine jT (bV h7) rfl ?_; refine zI rfl ?_; refine zf fa33_3 rfl ?_; refine jv 4 z4 rfl ?_; refine yC ?_; refine aB rfl ?_; refine yB ?_; refine ze ?_
        have hG : fNum z (T.drop k) = .ok (((numV (nowT z (T.drop (k))).2.1), wholeT (nowT z (T.drop (k))).2.1), (T.drop (k)).tail) := by rw [fNum_n hg1]; exact fTok_ok hkd (by omega)
        rw [hG]
        refine zK (B' := _) (L' := [_, _, _] ++ (_ :: _ :: W2)) (fun w h => by rw [List.append_nil] at h; exact h) ?_; refine zo (v := .bool _) rfl rfl rfl ?_; exact fun w' hw => St.telX (A := [_, _, _]) hw zm1 ⟨rfl, k + 1, _, _, W2, drop_tl, by omega, by omega, dd_eq (by rw [h7]; simp), hO2, by rw [List.map_append]; exact Mc.snoc (hK.nx TL.rwc hN zm1 hw) (by rw [List.length_map]; exact hO.1) rfl ⟨((a5, c5), (a5', c5')), rfl, ⟨(hK5.nx zm0 hw (hN5 _ zm0)), (hK5'.nx zm0 hw (hN5' _ zm0))⟩⟩⟩
      refine zs rfl rfl (bV h7) ?_; refine zs rfl rfl (bV h7) ?_; refine zs rfl rfl (bV h7) ?_; refine zs rfl rfl (bV h7) ?_; refine jF (bV h7) rfl ?_; refine zI rfl ?_; refine zf fa33_3 rfl ?_; refine jv 4 z4 rfl ?_; refine yC ?_; refine aB rfl ?_; refine yB ?_; refine ze ?_
      have hG : fNum z (T.drop k) = .ok (((numV (nowT z (T.drop (k))).2.1), wholeT (nowT z (T.drop (k))).2.1), (T.drop (k)).tail) := by rw [fNum_n hg1]; exact fTok_ok hkd (by omega)
      rw [hG]
      refine zK (B' := _) (L' := [_, _, _] ++ (_ :: _ :: W2)) (fun w h => by rw [List.append_nil] at h; exact h) ?_; refine zo (v := .bool _) rfl rfl rfl ?_; exact fun w' hw => St.telX (A := [_, _, _]) hw zm1 ⟨rfl, k + 1, _, _, W2, drop_tl, by omega, by omega, dd_eq (by rw [h7]; simp), hO2, by rw [List.map_append]; exact Mc.snoc (hK.nx TL.rwc hN zm1 hw) (by rw [List.length_map]; exact hO.1) rfl ⟨((a5, c5), (a5', c5')), rfl, ⟨(hK5.nx zm0 hw (hN5 _ zm0)), (hK5'.nx zm0 hw (hN5' _ zm0))⟩⟩⟩
    refine o_bsliceV rfl (wn_none rfl) slt31 (by decide) rfl rfl (fun sb gsb usb => ?_)
    refine zH2 4 (pk [1, 2, 3]) ?_; refine o_run (v := .slice _ _ _) rfl rfl rfl (fun w h => R_ld1 z31 rfl (zc 4 rfl rfl h)) ?_; refine zH2 7 (pk [1, 2, 3]) ?_; refine o_st (B' := _) (L' := [_, _, _, _, _] ++ (W ++ [])) (fun w h => by rw [List.append_nil]; exact h) ?_; refine o_app (L := []) (W := W) (news := [.bool (ng (numV (nowT z (T.drop (k))).2.1).1), .slice a5 (sz (numV (nowT z (T.drop (k))).2.1).1.natAbs) c5, .slice a5' (sz (numV (nowT z (T.drop (k))).2.1).2) c5']) [_, _, _, _, _] rfl slt31 (by decide) rfl hO rfl rfl (row_own 0 rfl (fun j u h => h)) rfl (by decide) (by omega) (by omega) (fun v2 W2 hO2 => ?_)
    obtain ⟨a2, c2, rfl⟩ := hO2.slice
    refine zh2 8 rfl rfl (pk [1, 2, 3]) (fun w h => R_nil rfl) ?_; refine zh2 9 rfl rfl (pk [1, 2, 3]) (fun w h => R_fa fa33_4 rfl) ?_; refine zH2 10 (pk [1, 2, 3]) ?_; refine zJ 4 rfl rfl z31 rfl rfl rfl rfl rfl rfl rfl ?_; refine zN2 (pk [1, 2, 3]) ?_; refine zk ?_; refine yA ?_; refine mP rfl ?_; refine mP rfl ?_; refine zI rfl ?_; refine zf fa33_3 rfl ?_; refine jM 4 z4 rfl ?_; refine mB rfl ?_; refine zp (t := 63) rfl (fun h8 => ?_) (fun h8 => ?_)
    · refine zw rfl rfl (bV h8) ?_; refine zf fa64_1 rfl ?_; refine zw rfl rfl (bV h8) ?_; refine jM 2 z9 rfl ?_; refine zw rfl rfl (bV h8) ?_; refine jD Tryz.func103 (fun w h => containsAny_ok _ w (by omega) hT.ascii) ?_; refine zw rfl rfl (bV h8) ?_; refine jk rfl ?_; refine jT (bV h8) rfl ?_; refine zI rfl ?_; refine zf fa33_3 rfl ?_; refine jv 4 z4 rfl ?_; refine yC ?_; refine aB rfl ?_; refine yB ?_; refine ze ?_
      have hG : fNum z (T.drop k) = .ok (((numV (nowT z (T.drop (k))).2.1), wholeT (nowT z (T.drop (k))).2.1), (T.drop (k)).tail) := by rw [fNum_n hg1]; exact fTok_ok hkd (by omega)
      rw [hG]
      refine zK (B' := _) (L' := [_, _, _] ++ (_ :: _ :: W2)) (fun w h => by rw [List.append_nil] at h; exact h) ?_; refine zo (v := .bool _) rfl rfl rfl ?_; exact fun w' hw => St.telX (A := [_, _, _]) hw zm1 ⟨rfl, k + 1, _, _, W2, drop_tl, by omega, by omega, dd_eq (by rw [h8]; simp), hO2, by rw [List.map_append]; exact Mc.snoc (hK.nx TL.rwc hN zm1 hw) (by rw [List.length_map]; exact hO.1) rfl ⟨((a5, c5), (a5', c5')), rfl, ⟨(hK5.nx zm0 hw (hN5 _ zm0)), (hK5'.nx zm0 hw (hN5' _ zm0))⟩⟩⟩
    refine zs rfl rfl (bV h8) ?_; refine zs rfl rfl (bV h8) ?_; refine zs rfl rfl (bV h8) ?_; refine zs rfl rfl (bV h8) ?_; refine jF (bV h8) rfl ?_; refine zI rfl ?_; refine zf fa33_3 rfl ?_; refine jv 4 z4 rfl ?_; refine yC ?_; refine aB rfl ?_; refine yB ?_; refine ze ?_
    have hG : fNum z (T.drop k) = .ok (((numV (nowT z (T.drop (k))).2.1), wholeT (nowT z (T.drop (k))).2.1), (T.drop (k)).tail) := by rw [fNum_n hg1]; exact fTok_ok hkd (by omega)
    rw [hG]
    refine zK (B' := _) (L' := [_, _, _] ++ (_ :: _ :: W2)) (fun w h => by rw [List.append_nil] at h; exact h) ?_; refine zo (v := .bool _) rfl rfl rfl ?_; exact fun w' hw => St.telX (A := [_, _, _]) hw zm1 ⟨rfl, k + 1, _, _, W2, drop_tl, by omega, by omega, dd_eq (by rw [h8]; simp), hO2, by rw [List.map_append]; exact Mc.snoc (hK.nx TL.rwc hN zm1 hw) (by rw [List.length_map]; exact hO.1) rfl ⟨((a5, c5), (a5', c5')), rfl, ⟨(hK5.nx zm0 hw (hN5 _ zm0)), (hK5'.nx zm0 hw (hN5' _ zm0))⟩⟩⟩
  refine w_call1 0 rfl (fun w => zR Tryz.func61 rfl rfl rfl) rfl rfl (fun w h => by have h9 := ftake_ok [45] rb z (k) (e9) (a9) M tc ta T w (hP.now zm0 (fun j hj => by rcases List.mem_cons.1 hj with rfl | hj; (exact hM); (rcases List.mem_cons.1 hj with rfl | hj; (exact hMd); (obtain ⟨q, hq, rfl⟩ := List.mem_map.1 hj; exact hMW q hq))) h) (h.at_ 0 rfl) (by omega) hM; rw [hg1, if_pos rfl] at h9; exact h9) ?_
  have hlt1 := isG_lt hg1
  refine aB rfl ?_; refine yC ?_; refine mP rfl ?_; refine jD Tryz.func22 (fun w h => fnow_ok rb z (k + 1) (e9) (a9) M tc ta T w (hP.now zm0 (fun j hj => by rcases List.mem_cons.1 hj with rfl | hj; (exact hM); (rcases List.mem_cons.1 hj with rfl | hj; (exact hMd); (obtain ⟨q, hq, rfl⟩ := List.mem_map.1 hj; exact hMW q hq))) h) (h.at_ 0 rfl) (by omega)) ?_; refine zA zr64 (fun t6b gt6b ut6b => ?_)
  refine jv 0 z64 rfl ?_; refine yB ?_; refine zq ?_; refine yA ?_; refine zf fa64_0 rfl ?_; refine jM 0 z5 rfl ?_; refine jn rfl rfl ?_; refine yB ?_; refine zD rfl (fun h10 => ?_) (fun h10 => ?_)
  · have hkd : ¬ (nowT z (T.drop (k + 1))).1 = 2 := (by omega)
    refine yA ?_; refine mP rfl ?_; refine w_call1 1 rfl (fun w => zR Tryz.func24 rfl rfl rfl) rfl rfl (fun w h => ffail_ok 130 rb z (k + 1) (e9) (a9) M tc ta T w (hP.now zm0 (fun j hj => by rcases List.mem_cons.1 hj with rfl | hj; (exact hM); (rcases List.mem_cons.1 hj with rfl | hj; (exact hMd); (obtain ⟨q, hq, rfl⟩ := List.mem_map.1 hj; exact hMW q hq))) h) (h.at_ 1 rfl) (by omega) hM) ?_; refine aB rfl ?_; refine yB ?_; refine ze ?_; refine zt (?_)
    have hG : fNum z (T.drop k) = .error (130, place z (T.drop (k + 1))) := by rw [fNum_y hg1, drop_tl]; exact fTok_kind hkd
    rw [hG]
    refine zo (v := .bool _) rfl rfl rfl ?_; exact fun w' hw => St.telX (A := [_]) hw zm0 ⟨rfl, k + 1, _, by omega, rfl⟩
  have hkd : (nowT z (T.drop (k + 1))).1 = 2 := (by omega); have hT := now_nt hP hkd; have hnb := nowT_b (k := k + 1) hP
  refine zi ?_; refine zk ?_; refine yA ?_; refine zf fa64_1 rfl ?_; refine jM 0 z9 rfl ?_
  rcases Nat.lt_or_ge 400 (nowT z (T.drop (k + 1))).2.1.length with hlong | hlong
  · refine jD Tryz.func101 (fun w h => numeralF_no _ w ⟨hlong, by omega⟩) ?_; refine zm rfl ?_; refine jx rfl rfl ?_; refine jx rfl rfl ?_; refine zA zr46 (fun t7b gt7b ut7b => ?_)
    refine jv 0 z46 rfl ?_; refine aI rfl ?_; refine yB ?_; refine zq ?_; refine yA ?_; refine zf fa64_1 rfl ?_; refine jM 1 z9 rfl ?_; refine zg (fun _ => R_slen st9 rfl (by omega)) ?_; refine zg (fun _ => R_gtT rfl rfl (by omega)) ?_; refine mB rfl ?_; (iterate 2 refine zs rfl rfl rfl ?_); refine jT rfl rfl ?_; refine yB ?_; refine zE rfl ?_; refine yA ?_; refine mP rfl ?_
    refine w_call1 2 rfl (fun w => zR Tryz.func24 rfl rfl rfl) rfl rfl (fun w h => ffail_ok 3 rb z (k + 1) (e9) (a9) M tc ta T w (hP.now zm0 (fun j hj => by rcases List.mem_cons.1 hj with rfl | hj; (exact hM); (rcases List.mem_cons.1 hj with rfl | hj; (exact hMd); (obtain ⟨q, hq, rfl⟩ := List.mem_map.1 hj; exact hMW q hq))) h) (h.at_ 2 rfl) (by omega) hM) ?_; refine aB rfl ?_; refine yB ?_; refine ze ?_; refine zt (?_)
    have hG : fNum z (T.drop k) = .error (3, place z (T.drop (k + 1))) := by rw [fNum_y hg1, drop_tl]; exact fTok_long hkd hlong
    rw [hG]
    refine zo (v := .bool _) rfl rfl rfl ?_; exact fun w' hw => St.telX (A := [_, _]) hw zm0 ⟨rfl, k + 1, _, by omega, rfl⟩
  refine w_tel2 (fun w => zR Tryz.func101 rfl rfl rfl) rfl rfl (fun w h => numeralF_ok _ w hlong hT) (fun x12 a12 c12 a12' c12' hK12 hN12 hK12' hN12' => ?_)
  have hvp := numV_pos (nowT z (T.drop (k + 1))).2.1; have hvs := numV_sz hT hlong
  refine zm rfl ?_; refine jx rfl rfl ?_; refine jx rfl rfl ?_; refine zA zr46 (fun t7b gt7b ut7b => ?_)
  refine jv 0 z46 rfl ?_; refine aI rfl ?_; refine yB ?_; refine zq ?_; refine yA ?_; refine zf fa64_1 rfl ?_; refine jM 1 z9 rfl ?_; refine zg (fun _ => R_slen st9 rfl (by omega)) ?_; refine zg (fun _ => R_gtF rfl rfl (by omega)) ?_; refine mB rfl ?_; refine zw rfl rfl rfl ?_; refine mI rfl ?_; refine zw rfl rfl rfl ?_; refine jn rfl rfl ?_; refine jF rfl rfl ?_; refine yB ?_; refine zG bE ?_
  refine zi ?_; refine zk ?_; refine zq ?_; refine yA ?_; refine mB rfl ?_; refine yB ?_; refine zE rfl ?_; refine zr ?_; refine jy 0 z46 rfl rfl ?_; refine w_tel2 (fun w => zR Tryz.func102 rfl rfl rfl) rfl rfl (fun w h => fNeg_ok (ng (numV (nowT z (T.drop (k + 1))).2.1).1) w (hK12.at_ 0 rfl h) (hK12'.at_ 0 rfl h) ⟨by omega, by omega, by omega, by omega, hvp⟩) (fun x14 a14 c14 a14' c14' hK14 hN14 hK14' hN14' => ?_)
  have hvz := ngR_sz (x := (numV (nowT z (T.drop (k + 1))).2.1))
  refine zm rfl ?_; refine jx rfl rfl ?_; refine jx rfl rfl ?_; refine jv 0 z46 rfl ?_; refine yC ?_; refine mP rfl ?_; refine mP rfl ?_; refine zI rfl ?_; refine zf fa61_0 rfl ?_; refine jM 2 z59 rfl ?_
  have hlt : k + 1 < T.length := now_lt (z := z) (by rw [hkd]; decide)
  refine zg (fun _ => R_low3 sl59 rfl rfl hlt hP.le) ?_; refine zI rfl ?_; refine zf fa61_0 rfl ?_; refine jv 2 z59 rfl ?_; refine yB ?_; refine zq ?_; refine c_heldI [0, 1, 2] mixed ?_; refine zh (v := .pointer _) 0 rfl (by kernel_rfl) rfl rfl (pk [0, 1, 2]) (fun w h => R_move rfl) ?_; refine zh (v := .pointer _) 1 rfl (by kernel_rfl) rfl rfl (pk [0, 1, 2]) (fun w h => R_move rfl) ?_; refine zh2 2 rfl rfl (pk [0, 1, 2]) (fun w h => R_nil rfl) ?_; refine zh2 3 rfl rfl (pk [0, 1, 2]) (fun w h => R_fa fa33_4 rfl) ?_; refine h_loadA 5 rfl (by kernel_rfl) (pk [0, 1, 2]) z46 rfl (fun _ h => h.at_ 0 rfl) rfl ?_
  refine h_two 4 6 (by kernel_rfl) (pk [0, 1, 2]) ?_ ?_
  · refine o_run (v := .slice _ _ _) rfl rfl rfl (fun w h => R_ld1 z31 rfl (zc 3 rfl rfl h)) ?_; refine zH2 6 (pk [0, 1, 2]) ?_; refine o_bsliceV rfl (wn_none rfl) slt31 (by decide) rfl rfl (fun sb gsb usb => ?_)
    refine zH2 7 (pk [1, 2, 3]) ?_; refine o_st (B' := _) (L' := [_, _, _, _, _] ++ (W ++ [])) (fun w h => by rw [List.append_nil]; exact h) ?_; refine o_app (L := []) (W := W) (news := [.bool (ng (ngR (numV (nowT z (T.drop (k + 1))).2.1)).1), .slice a14 (sz (ngR (numV (nowT z (T.drop (k + 1))).2.1)).1.natAbs) c14, .slice a14' (sz (ngR (numV (nowT z (T.drop (k + 1))).2.1)).2) c14']) [_, _, _, _, _] rfl slt31 (by decide) rfl hO rfl rfl (row_own 0 rfl (fun j u h => h)) rfl (by decide) (by omega) (by omega) (fun v2 W2 hO2 => ?_)
    obtain ⟨a2, c2, rfl⟩ := hO2.slice
    refine zh2 8 rfl rfl (pk [1, 2, 3]) (fun w h => R_nil rfl) ?_; refine zh2 9 rfl rfl (pk [1, 2, 3]) (fun w h => R_fa fa33_4 rfl) ?_; refine zH2 10 (pk [1, 2, 3]) ?_; refine zJ 4 rfl rfl z31 rfl rfl rfl rfl rfl rfl rfl ?_; refine zN2 (pk [1, 2, 3]) ?_; refine zk ?_; refine yA ?_; refine mP rfl ?_; refine mP rfl ?_; refine zI rfl ?_; refine zf fa33_3 rfl ?_; refine jM 4 z4 rfl ?_; refine mB rfl ?_; refine zp (t := 63) rfl (fun h15 => ?_) (fun h15 => ?_)
    · refine zw rfl rfl (bV h15) ?_; refine zf fa64_1 rfl ?_; refine zw rfl rfl (bV h15) ?_; refine jM 2 z9 rfl ?_; refine zw rfl rfl (bV h15) ?_; refine jD Tryz.func103 (fun w h => containsAny_ok _ w (by omega) hT.ascii) ?_; refine zw rfl rfl (bV h15) ?_; refine jk rfl ?_; refine jT (bV h15) rfl ?_; refine zI rfl ?_; refine zf fa33_3 rfl ?_; refine jv 4 z4 rfl ?_; refine yC ?_; refine aB rfl ?_; refine yB ?_; refine ze ?_
      have hG : fNum z (T.drop k) = .ok (((ngR (numV (nowT z (T.drop (k + 1))).2.1)), wholeT (nowT z (T.drop (k + 1))).2.1), (T.drop (k + 1)).tail) := by rw [fNum_y hg1, drop_tl]; exact fTok_ok hkd (by omega)
      rw [hG]
      refine zK (B' := _) (L' := [_, _, _] ++ (_ :: _ :: W2)) (fun w h => by rw [List.append_nil] at h; exact h) ?_; refine zo (v := .bool _) rfl rfl rfl ?_; exact fun w' hw => St.telX (A := [_, _, _]) hw zm2 ⟨rfl, k + 1 + 1, _, _, W2, drop_tl, by omega, by omega, dd_eq (by rw [h15]; simp), hO2, by rw [List.map_append]; exact Mc.snoc (hK.nx TL.rwc hN zm2 hw) (by rw [List.length_map]; exact hO.1) rfl ⟨((a14, c14), (a14', c14')), rfl, ⟨(hK14.nx zm0 hw (hN14 _ zm1)), (hK14'.nx zm0 hw (hN14' _ zm1))⟩⟩⟩
    refine zs rfl rfl (bV h15) ?_; refine zs rfl rfl (bV h15) ?_; refine zs rfl rfl (bV h15) ?_; refine zs rfl rfl (bV h15) ?_; refine jF (bV h15) rfl ?_; refine zI rfl ?_; refine zf fa33_3 rfl ?_; refine jv 4 z4 rfl ?_; refine yC ?_; refine aB rfl ?_; refine yB ?_; refine ze ?_
    have hG : fNum z (T.drop k) = .ok (((ngR (numV (nowT z (T.drop (k + 1))).2.1)), wholeT (nowT z (T.drop (k + 1))).2.1), (T.drop (k + 1)).tail) := by rw [fNum_y hg1, drop_tl]; exact fTok_ok hkd (by omega)
    rw [hG]
    refine zK (B' := _) (L' := [_, _, _] ++ (_ :: _ :: W2)) (fun w h => by rw [List.append_nil] at h; exact h) ?_; refine zo (v := .bool _) rfl rfl rfl ?_; exact fun w' hw => St.telX (A := [_, _, _]) hw zm2 ⟨rfl, k + 1 + 1, _, _, W2, drop_tl, by omega, by omega, dd_eq (by rw [h15]; simp), hO2, by rw [List.map_append]; exact Mc.snoc (hK.nx TL.rwc hN zm2 hw) (by rw [List.length_map]; exact hO.1) rfl ⟨((a14, c14), (a14', c14')), rfl, ⟨(hK14.nx zm0 hw (hN14 _ zm1)), (hK14'.nx zm0 hw (hN14' _ zm1))⟩⟩⟩
  refine o_bsliceV rfl (wn_none rfl) slt31 (by decide) rfl rfl (fun sb gsb usb => ?_)
  refine zH2 4 (pk [1, 2, 3]) ?_; refine o_run (v := .slice _ _ _) rfl rfl rfl (fun w h => R_ld1 z31 rfl (zc 4 rfl rfl h)) ?_; refine zH2 7 (pk [1, 2, 3]) ?_; refine o_st (B' := _) (L' := [_, _, _, _, _] ++ (W ++ [])) (fun w h => by rw [List.append_nil]; exact h) ?_; refine o_app (L := []) (W := W) (news := [.bool (ng (ngR (numV (nowT z (T.drop (k + 1))).2.1)).1), .slice a14 (sz (ngR (numV (nowT z (T.drop (k + 1))).2.1)).1.natAbs) c14, .slice a14' (sz (ngR (numV (nowT z (T.drop (k + 1))).2.1)).2) c14']) [_, _, _, _, _] rfl slt31 (by decide) rfl hO rfl rfl (row_own 0 rfl (fun j u h => h)) rfl (by decide) (by omega) (by omega) (fun v2 W2 hO2 => ?_)
  obtain ⟨a2, c2, rfl⟩ := hO2.slice
  refine zh2 8 rfl rfl (pk [1, 2, 3]) (fun w h => R_nil rfl) ?_; refine zh2 9 rfl rfl (pk [1, 2, 3]) (fun w h => R_fa fa33_4 rfl) ?_; refine zH2 10 (pk [1, 2, 3]) ?_; refine zJ 4 rfl rfl z31 rfl rfl rfl rfl rfl rfl rfl ?_; refine zN2 (pk [1, 2, 3]) ?_; refine zk ?_; refine yA ?_; refine mP rfl ?_; refine mP rfl ?_; refine zI rfl ?_; refine zf fa33_3 rfl ?_; refine jM 4 z4 rfl ?_; refine mB rfl ?_; refine zp (t := 63) rfl (fun h16 => ?_) (fun h16 => ?_)
  · refine zw rfl rfl (bV h16) ?_; refine zf fa64_1 rfl ?_; refine zw rfl rfl (bV h16) ?_; refine jM 2 z9 rfl ?_; refine zw rfl rfl (bV h16) ?_; refine jD Tryz.func103 (fun w h => containsAny_ok _ w (by omega) hT.ascii) ?_; refine zw rfl rfl (bV h16) ?_; refine jk rfl ?_; refine jT (bV h16) rfl ?_; refine zI rfl ?_; refine zf fa33_3 rfl ?_; refine jv 4 z4 rfl ?_; refine yC ?_; refine aB rfl ?_; refine yB ?_; refine ze ?_
    have hG : fNum z (T.drop k) = .ok (((ngR (numV (nowT z (T.drop (k + 1))).2.1)), wholeT (nowT z (T.drop (k + 1))).2.1), (T.drop (k + 1)).tail) := by rw [fNum_y hg1, drop_tl]; exact fTok_ok hkd (by omega)
    rw [hG]
    refine zK (B' := _) (L' := [_, _, _] ++ (_ :: _ :: W2)) (fun w h => by rw [List.append_nil] at h; exact h) ?_; refine zo (v := .bool _) rfl rfl rfl ?_; exact fun w' hw => St.telX (A := [_, _, _]) hw zm2 ⟨rfl, k + 1 + 1, _, _, W2, drop_tl, by omega, by omega, dd_eq (by rw [h16]; simp), hO2, by rw [List.map_append]; exact Mc.snoc (hK.nx TL.rwc hN zm2 hw) (by rw [List.length_map]; exact hO.1) rfl ⟨((a14, c14), (a14', c14')), rfl, ⟨(hK14.nx zm0 hw (hN14 _ zm1)), (hK14'.nx zm0 hw (hN14' _ zm1))⟩⟩⟩
  refine zs rfl rfl (bV h16) ?_; refine zs rfl rfl (bV h16) ?_; refine zs rfl rfl (bV h16) ?_; refine zs rfl rfl (bV h16) ?_; refine jF (bV h16) rfl ?_; refine zI rfl ?_; refine zf fa33_3 rfl ?_; refine jv 4 z4 rfl ?_; refine yC ?_; refine aB rfl ?_; refine yB ?_; refine ze ?_
  have hG : fNum z (T.drop k) = .ok (((ngR (numV (nowT z (T.drop (k + 1))).2.1)), wholeT (nowT z (T.drop (k + 1))).2.1), (T.drop (k + 1)).tail) := by rw [fNum_y hg1, drop_tl]; exact fTok_ok hkd (by omega)
  rw [hG]
  refine zK (B' := _) (L' := [_, _, _] ++ (_ :: _ :: W2)) (fun w h => by rw [List.append_nil] at h; exact h) ?_; refine zo (v := .bool _) rfl rfl rfl ?_; exact fun w' hw => St.telX (A := [_, _, _]) hw zm2 ⟨rfl, k + 1 + 1, _, _, W2, drop_tl, by omega, by omega, dd_eq (by rw [h16]; simp), hO2, by rw [List.map_append]; exact Mc.snoc (hK.nx TL.rwc hN zm2 hw) (by rw [List.length_map]; exact hO.1) rfl ⟨((a14, c14), (a14', c14')), rfl, ⟨(hK14.nx zm0 hw (hN14 _ zm1)), (hK14'.nx zm0 hw (hN14' _ zm1))⟩⟩⟩
end Go.Proofs.YtikdkendinnalaaGreatDoor
end
section
namespace Go.Sx
open Go.RowKit Go.Num Go.Feed
theorem Kt.nx {α β : Type} {M : World → (Nat → Prop) → α → β → Prop} {x : Bw} {a : α} {b : β} {B : Base} {A X' : Heap} {w w' : World} {N : Nat → Prop} (h : Kt x w.heap.size M a b) (hM : TL M) (hx : x ∈ B) (hw : St B (A ++ X') w') : M w' (Nx N w w' X') a b :=
  hM.mono (h.at hM hx hw) fun j hj => .inr ⟨⟨hj.1, Nat.lt_of_lt_of_le hj.2.1 (hw.fr x hx).size⟩, fun hm => by
    obtain ⟨p, hp, rfl⟩ := List.mem_map.1 hm
    rcases hw.ok p (List.mem_append_right _ hp) x hx with h1 | h1
    · exact hj.2.2 h1
    have := hj.2.1; omega⟩
theorem St.keep2 {B : Base} {L : Heap} {w : World} {a b : World × (Nat → Prop)} (h : St (a :: B) L w) (hb : b ∈ B) : St [a, b] L w := h.unbase fun x hx => by
  rcases List.mem_cons.1 hx with rfl | hx
  · exact .head _
  obtain rfl := List.mem_singleton.1 hx; exact .tail _ hb
theorem Kt.sub {α β : Type} {M : World → (Nat → Prop) → α → β → Prop} {a : α} {b : β} {w : World} {s0 : Nat} {L L' : Heap} (h : Kt (w, inL L) s0 M a b) (hM : TL M) (hs : L'.Sublist L) : Kt (w, inL L') s0 M a b :=
  hM.mono h fun _ hj => ⟨hj.1, hj.2.1, fun hm => hj.2.2 ((hs.map (·.1)).subset hm)⟩
theorem row_kt {α : Type} {k : Nat} {M : World → (Nat → Prop) → α → List Value → Prop} {B : Base} {A1 A2 W L' : Heap} {w w2 : World} {T : TypeId} {l : List α} {va : Option Addr} {vc : Nat} {xs : List Value} (hw : St B (A1 ++ (W ++ A2)) w2) (hs : L'.Sublist (A1 ++ A2)) (hx : (w, No) ∈ B) (hO : Own T k (.slice va l.length vc) xs l.length W) (hm : Mc k M w2 (Nb w.heap.size (w2, inL L')) l xs) :
    Kt (w2, inL L') w.heap.size (rowM k M) l (va, vc) := by
  have hnd := hw.nd
  rw [List.map_append, List.map_append, List.nodup_append, List.nodup_append] at hnd
  obtain ⟨b, hb, hr⟩ := own_row hO (fun p hp => hw.own p (List.mem_append_right _ (List.mem_append_left _ hp))) (N := Nb w.heap.size (w2, inL L')) (fun p hp => by
    refine ⟨(hw.ok p (List.mem_append_right _ (List.mem_append_left _ hp)) _ hx).elim (fun h => h.elim) (fun h => h), lt_of_blk (hw.own p (List.mem_append_right _ (List.mem_append_left _ hp))), fun hm => ?_⟩
    have h1 := (hs.map (·.1)).subset hm
    rw [List.map_append, List.mem_append] at h1
    have hpw : p.1 ∈ W.map (·.1) := List.mem_map_of_mem hp
    rcases h1 with h1 | h1
    · exact hnd.2.2 _ h1 _ (List.mem_append_left _ hpw) rfl
    exact hnd.2.1.2.2 _ hpw _ h1 rfl) hm
  simp only [Value.slice.injEq] at hb
  obtain ⟨h1, _, h2⟩ := hb
  have : b = (va, vc) := by rw [h1, h2]
  rw [this] at hr
  exact hr
end Go.Sx
end
section
namespace Go.Proofs.YtikdkendinnalaaGreatDoor
open Go.RowKit Go.Sx
open Go.Tok Go.Tree Go.Prs Go.Feed Go.Num
theorem hMW_ {B : Base} {W : Heap} {w w1 : World} {rb db : Nat} {M : Nat → Prop} {o1 o2 o3 o4 : Obj} (hx : (w, inL ((rb, o1) :: (db, o2) :: [])) ∈ B) (hM : M rb) (hMd : M db) (hMs : ∀ j, w.heap.size ≤ j → M j) (h : St B ((rb, o3) :: (db, o4) :: W) w1) : ∀ p ∈ W, M p.1 := fun p hp => by
  rcases h.ok p (.tail _ (.tail _ hp)) _ hx with h1 | h1
  · rcases List.mem_cons.1 h1 with h2 | h2
    · rw [h2]; exact hM
    rcases List.mem_cons.1 h2 with h3 | h3
    · rw [h3]; exact hMd
    exact absurd h3 (by simp)
  exact hMs _ h1
theorem NumQ.mono {rb db tc z e9 a9 k : Nat} {ta : Option Addr} {T : List Tk} {nm : Str} {p : Nat} {li wh : Bool} {l : List Rt} {X : Except Fl ((Rt × Bool) × List Tk)} : ∀ v X' N N' w, NumQ rb db tc z e9 a9 k ta T nm p li wh l X v X' N w → (∀ j, N j → N' j) → NumQ rb db tc z e9 a9 k ta T nm p li wh l X v X' N' w := by
  intro v X' N N' w h hn
  unfold NumQ at h ⊢
  split
  · obtain ⟨h1, k', v', xs', W', h2, h3, h4, h5, h6, h7⟩ := h
    exact ⟨h1, k', v', xs', W', h2, h3, h4, h5, h6, (TL.cells TL.rwc).mono h7 hn⟩
  exact h
def ValQ (rb db tc z e9 a9 k : Nat) (ta : Option Addr) (T : List Tk) (nm : Str) (p : Nat) (X : Except Fl ((Bool × List Rt × Bool) × List Tk)) : Value → Heap → (Nat → Prop) → World → Prop := fun v X' N w =>
  match X with
  | .ok (a, r) => v = .bool true ∧ ∃ k' v' xs' W', r = T.drop k' ∧ k < k' ∧ k' ≤ T.length ∧ X' = (rb, Rr ta tc T.length z k' e9 a9) :: (db, Dd nm p a.1 a.2.2 v') :: W' ∧ Own 46 3 v' xs' a.2.1.length W' ∧ Mc 3 rwC w N (a.2.1.map rwR) xs' ∧ a.2.1.length ≤ T.length
  | .error fl => v = .bool false ∧ ∃ k' Y, k' ≤ T.length ∧ X' = (rb, Rr ta tc T.length z k' fl.1 fl.2) :: Y
theorem ValQ.mono {rb db tc z e9 a9 k : Nat} {ta : Option Addr} {T : List Tk} {nm : Str} {p : Nat} {X : Except Fl ((Bool × List Rt × Bool) × List Tk)} : ∀ v X' N N' w, ValQ rb db tc z e9 a9 k ta T nm p X v X' N w → (∀ j, N j → N' j) → ValQ rb db tc z e9 a9 k ta T nm p X v X' N' w := by
  intro v X' N N' w h hn
  unfold ValQ at h ⊢
  split
  · obtain ⟨h1, k', v', xs', W', h2, h3, h4, h5, h6, h7, h8⟩ := h
    exact ⟨h1, k', v', xs', W', h2, h3, h4, h5, h6, (TL.cells TL.rwc).mono h7 hn, h8⟩
  exact h
theorem fVal_no {z n : Nat} {ts : List Tk} (h : isG [91] ts = false) : fVal z n ts = andR (fNum z ts) fun a r => .ok ((false, [a.1], a.2), r) := if_neg (by rw [h]; decide)
theorem fVal_nil {z n : Nat} {ts : List Tk} (h : isG [91] ts = true) (h2 : isG [93] ts.tail = true) : fVal z n ts = .ok ((true, [], true), ts.tail.tail) := (if_pos h).trans (if_pos h2)
theorem fVal_row {z n : Nat} {ts : List Tk} (h : isG [91] ts = true) (h2 : isG [93] ts.tail = false) : fVal z n ts = andR (fRow z n [] true ts.tail) fun v r => .ok ((true, v.1, v.2), r) := (if_pos h).trans (if_neg (by rw [h2]; decide))
theorem fRow_e {z n : Nat} {l : List Rt} {b : Bool} {ts : List Tk} {fl : Fl} (h : fNum z ts = .error fl) : fRow z (n + 1) l b ts = .error fl := by rw [fRow, h]; rfl
theorem fRow_c {z n : Nat} {l : List Rt} {b : Bool} {ts r : List Tk} {a : Rt × Bool} (h : fNum z ts = .ok (a, r)) (h2 : isG [44] r = true) : fRow z (n + 1) l b ts = fRow z n (l ++ [a.1]) (b && a.2) r.tail := by rw [fRow, h, andR_ok, if_pos h2]
theorem fRow_d {z n : Nat} {l : List Rt} {b : Bool} {ts r : List Tk} {a : Rt × Bool} (h : fNum z ts = .ok (a, r)) (h2 : isG [44] r = false) (h3 : isG [93] r = true) : fRow z (n + 1) l b ts = .ok ((l ++ [a.1], b && a.2), r.tail) := by
  rw [fRow, h, andR_ok, if_neg (by rw [h2]; decide)]; unfold wantG; rw [if_pos h3]
theorem fRow_f {z n : Nat} {l : List Rt} {b : Bool} {ts r : List Tk} {a : Rt × Bool} (h : fNum z ts = .ok (a, r)) (h2 : isG [44] r = false) (h3 : isG [93] r = false) : fRow z (n + 1) l b ts = .error (130, place z r) := by
  rw [fRow, h, andR_ok, if_neg (by rw [h2]; decide)]; unfold wantG; rw [if_neg (by rw [h3]; decide)]
theorem value_ok (rb db z k e9 a9 : Nat) (M : Nat → Prop) (tc n : Nat) (ta : Option Addr) (T : List Tk) (w : World) (hP : Pf w M T ta tc z) (hk : k ≤ T.length) (hn : T.length - k < n) (hM : M rb) (hMd : M db) (hMs : ∀ j, w.heap.size ≤ j → M j) (nm : Str) (p : Nat) (N : Nat → Prop) (hX : St [(w, inL ((rb, Rr ta tc T.length z (k) (e9) (a9)) :: (db, Dd nm p false true (.slice none 0 0)) :: []))] ((rb, Rr ta tc T.length z (k) (e9) (a9)) :: (db, Dd nm p false true (.slice none 0 0)) :: []) w) :
    Ret Tryz.prog 26 #[pX rb, pX db] w (TelX ((rb, Rr ta tc T.length z (k) (e9) (a9)) :: (db, Dd nm p false true (.slice none 0 0)) :: []) (ValQ rb db tc z e9 a9 k ta T nm p (fVal z n (T.drop k))) N w) := by
  have hlen := hP.len
  refine enter (S := (inL ((rb, Rr ta tc T.length z (k) (e9) (a9)) :: (db, Dd nm p false true (.slice none 0 0)) :: []))) (l := [_, _]) (L := [(rb, Rr ta tc T.length z (k) (e9) (a9)), (db, Dd nm p false true (.slice none 0 0))]) 29 Tryz.func26 rfl rfl rfl (hX) ?_; refine yA ?_; refine aB rfl ?_; refine yB ?_; refine zq ?_; refine yA ?_; refine mP rfl ?_; refine mP rfl ?_
  cases hg1 : isG [91] (T.drop (k))
  · refine w_call1 0 rfl (fun w => zR Tryz.func61 rfl rfl rfl) rfl rfl (fun w h => by have h9 := ftake_ok [91] rb z (k) (e9) (a9) M tc ta T w (hP.now zm0 (fun j hj => by rcases List.mem_cons.1 hj with rfl | hj; (exact hM); (rcases List.mem_cons.1 hj with rfl | hj; (exact hMd); (exact absurd hj (by simp)))) h) (h.at_ 0 rfl) (by omega) hM; rw [hg1, if_neg (by decide)] at h9; exact h9) ?_; refine zI rfl ?_; refine zf fa33_2 rfl ?_; refine jv 1 z4 rfl ?_; refine yC ?_; refine mP rfl ?_; refine zI rfl ?_; refine zf fa33_2 rfl ?_; refine jM 1 z4 rfl ?_; refine jk rfl ?_
    refine yB ?_; refine zE rfl ?_; refine yA ?_; refine mP rfl ?_; refine mP rfl ?_; refine w_st (B' := _) (L' := [] ++ ((rb, Rr ta tc T.length z (k) (e9) (a9)) :: (db, Dd nm p false true (.slice none ([] : List Rt).length 0)) :: [])) (fun w h => h) ?_
    refine w_callX (A := []) (X := ((rb, Rr ta tc T.length z (k) (e9) (a9)) :: (db, Dd nm p false true (.slice none ([] : List Rt).length 0)) :: [])) (R := NumQ rb db tc z e9 a9 (k) ta T nm p false true ([] : List Rt) (fNum z (T.drop (k)))) (s0 := w.heap.size) NumQ.mono (fun w => zR Tryz.func62 rfl rfl rfl) rfl rfl (fun w1 h => (h.fr _ zm0).size) (fun w1 h => number_ok rb db z (k) e9 a9 M tc ta T w1 (hP.now zm0 (fun j hj => by rcases List.mem_cons.1 hj with rfl | hj; (exact hM); (rcases List.mem_cons.1 hj with rfl | hj; (exact hMd); (exact absurd hj (by simp)))) h) (by omega) hM hMd nm p false true none 0 [] ([] : List Rt) [] (Own.nil _ _) (fun p hp => absurd hp (by simp)) (by first | omega | decide) (Nb w.heap.size (w1, inL _)) (fun j hj => hj.2.2) Mc.nil (St.part (A := []) h)) (fun u2 X2 x2 hR2 => ?_)
    rcases hq2 : fNum z (T.drop (k)) with fl2 | ⟨ar2, r2⟩
    · rw [hq2] at hR2; obtain ⟨rfl, k2, Y2, hk2, rfl⟩ := hR2
      refine aB rfl ?_; refine yB ?_; refine ze ?_; refine zt (?_)
      have hV : fVal z n (T.drop k) = .error fl2 := by rw [fVal_no hg1, hq2]; rfl
      rw [hV]
      refine zo (v := .bool _) rfl rfl rfl ?_; exact fun w' hw => St.telX (A := []) hw zm1 ⟨rfl, k2, Y2, hk2, rfl⟩
    rw [hq2] at hR2; obtain ⟨rfl, k2, v2, xs2, W2, rfl, hk2, hkl2, rfl, hO2, hK2⟩ := hR2; obtain ⟨va2, vc2, rfl⟩ := hO2.slice
    refine aB rfl ?_; refine yB ?_; refine ze ?_; refine zt (?_)
    have hV : fVal z n (T.drop k) = .ok ((false, [ar2.1], ar2.2), T.drop k2) := by rw [fVal_no hg1, hq2]; rfl
    rw [hV]
    refine zo (v := .bool _) rfl rfl rfl ?_; exact fun w' hw => St.telX (A := []) hw zm1 ⟨rfl, k2, _, xs2, W2, rfl, by omega, hkl2, rfl, hO2, Kt.nx (A := []) (x := (x2, _)) hK2 (TL.cells TL.rwc) zm0 hw, by simp only [List.length_singleton]; omega⟩
  refine w_call1 0 rfl (fun w => zR Tryz.func61 rfl rfl rfl) rfl rfl (fun w h => by have h9 := ftake_ok [91] rb z (k) (e9) (a9) M tc ta T w (hP.now zm0 (fun j hj => by rcases List.mem_cons.1 hj with rfl | hj; (exact hM); (rcases List.mem_cons.1 hj with rfl | hj; (exact hMd); (exact absurd hj (by simp)))) h) (h.at_ 0 rfl) (by omega) hM; rw [hg1, if_pos rfl] at h9; exact h9) ?_
  have hlt1 := isG_lt hg1
  refine zI rfl ?_; refine zf fa33_2 rfl ?_; refine jv 1 z4 rfl ?_; refine yC ?_; refine mP rfl ?_; refine zI rfl ?_; refine zf fa33_2 rfl ?_; refine jM 1 z4 rfl ?_; refine jk rfl ?_; refine yB ?_; refine zG rfl ?_; refine zi ?_; refine zk ?_; refine zq ?_; refine yA ?_; refine mP rfl ?_
  cases hg3 : isG [93] (T.drop (k + 1))
  · refine w_call1 0 rfl (fun w => zR Tryz.func61 rfl rfl rfl) rfl rfl (fun w h => by have h9 := ftake_ok [93] rb z (k + 1) (e9) (a9) M tc ta T w (hP.now zm0 (fun j hj => by rcases List.mem_cons.1 hj with rfl | hj; (exact hM); (rcases List.mem_cons.1 hj with rfl | hj; (exact hMd); (exact absurd hj (by simp)))) h) (h.at_ 0 rfl) (by omega) hM; rw [hg3, if_neg (by decide)] at h9; exact h9) ?_; refine yB ?_; refine zG rfl ?_; refine zi ?_; refine zk ?_; refine zB ?_; refine c_base (fun w1 hw1 => ?_)
    refine c_st (B' := _) (L' := [(rb, Rr ta tc T.length z (k + 1) e9 a9), (db, Dd nm p true true (.slice none ([] : List Rt).length 0))] ++ []) (fun w' h => h) ?_
    refine c_loop (fun m e B L => ∃ (q k' : Nat) (l : List Rt) (wh : Bool) (va : Option Addr) (vc : Nat) (xs : List Value) (W : Heap) (x : Bw), e 0 = pX rb ∧ e 1 = pX db ∧ B = [x, (w, inL ((rb, Rr ta tc T.length z (k) (e9) (a9)) :: (db, Dd nm p false true (.slice none 0 0)) :: []))] ∧ L = [(rb, Rr ta tc T.length z k' e9 a9), (db, Dd nm p true wh (.slice va l.length vc))] ++ W ∧ k < k' ∧ k' ≤ T.length ∧ fVal z n (T.drop k) = andR (fRow z q l wh (T.drop k')) (fun v r => .ok ((true, v.1, v.2), r)) ∧ Own 46 3 (.slice va l.length vc) xs l.length W ∧ Kt x w.heap.size (Mc 3 rwC) (l.map rwR) xs ∧ l.length ≤ k' ∧ T.length - k' < q ∧ m = T.length - k' + 1) _ ⟨n, k + 1, [], true, none, 0, [], [], _, rfl, rfl, rfl, rfl, by omega, by omega, by rw [fVal_row hg1 (by rw [drop_tl]; exact hg3), drop_tl], Own.nil _ _, Mc.nil, Nat.zero_le _, by omega, rfl⟩ ?_
    rintro m e B L ⟨q, k', l, wh, va, vc, xs, W, x, e0_1, e1_1, rfl, rfl, hkk, hk', hG, hO, hKl, hll, hq, rfl⟩
    obtain ⟨q', rfl⟩ : ∃ q', q = q' + 1 := ⟨q - 1, by omega⟩
    refine zB ?_; refine zq ?_; refine yA ?_; refine mP e0_1 ?_; refine mP e1_1 ?_; refine w_st (B' := _) (L' := [] ++ ((rb, Rr ta tc T.length z (k') (e9) (a9)) :: (db, Dd nm p true wh (.slice va l.length vc)) :: W)) (fun w h => h) ?_
    refine w_callX (A := []) (X := ((rb, Rr ta tc T.length z (k') (e9) (a9)) :: (db, Dd nm p true wh (.slice va l.length vc)) :: W)) (R := NumQ rb db tc z e9 a9 (k') ta T nm p true wh l (fNum z (T.drop (k')))) (s0 := w.heap.size) NumQ.mono (fun w => zR Tryz.func62 rfl rfl rfl) rfl rfl (fun w1 h => (h.fr _ zm1).size) (fun w1 h => number_ok rb db z (k') e9 a9 M tc ta T w1 (hP.now zm1 (fun j hj => by rcases List.mem_cons.1 hj with rfl | hj; (exact hM); (rcases List.mem_cons.1 hj with rfl | hj; (exact hMd); (exact absurd hj (by simp)))) h) (by omega) hM hMd nm p true wh va vc xs l W hO (hMW_ zm1 hM hMd hMs h) (by first | omega | decide) (Nb w.heap.size (w1, inL _)) (fun j hj => hj.2.2) (hKl.now (TL.cells TL.rwc) zm0 h) (St.part (A := []) h)) (fun u4 X4 x4 hR4 => ?_)
    rcases hq4 : fNum z (T.drop (k')) with fl4 | ⟨ar4, r4⟩
    · rw [hq4] at hR4; obtain ⟨rfl, k4, Y4, hk4, rfl⟩ := hR4
      refine jk rfl ?_; refine yB ?_; refine zE rfl ?_; refine yA ?_; refine aB rfl ?_; refine yB ?_; refine ze ?_; refine zt (zb (zt (zb (?_))))
      have hV : fVal z n (T.drop k) = .error fl4 := by rw [hG, fRow_e hq4]; rfl
      rw [hV]
      refine zo (v := .bool _) rfl rfl rfl ?_; exact fun w' hw => St.telX (A := []) hw zm2 ⟨rfl, k4, Y4, hk4, rfl⟩
    rw [hq4] at hR4; obtain ⟨rfl, k4, v4, xs4, W4, rfl, hk4, hkl4, rfl, hO4, hK4⟩ := hR4; obtain ⟨va4, vc4, rfl⟩ := hO4.slice
    refine jk rfl ?_; refine yB ?_; refine zG rfl ?_; refine zi ?_; refine zk ?_; refine yA ?_; refine mP e0_1 ?_
    cases hg5 : isG [44] (T.drop (k4))
    · refine w_call1 0 rfl (fun w => zR Tryz.func61 rfl rfl rfl) rfl rfl (fun w h => by have h9 := ftake_ok [44] rb z (k4) (e9) (a9) M tc ta T w (hP.now zm2 (fun j hj => by rcases List.mem_cons.1 hj with rfl | hj; (exact hM); (rcases List.mem_cons.1 hj with rfl | hj; (exact hMd); (exact absurd hj (by simp)))) h) (h.at_ 0 rfl) (by omega) hM; rw [hg5, if_neg (by decide)] at h9; exact h9) ?_; refine jk rfl ?_; refine yB ?_; refine zE rfl ?_; refine yA ?_; refine mP e0_1 ?_
      cases hg6 : isG [93] (T.drop (k4))
      · refine w_call1 0 rfl (fun w => zR Tryz.func25 rfl rfl rfl) rfl rfl (fun w h => by have h9 := fwant_ok [93] rb z (k4) (e9) (a9) M tc ta T w (hP.now zm2 (fun j hj => by rcases List.mem_cons.1 hj with rfl | hj; (exact hM); (rcases List.mem_cons.1 hj with rfl | hj; (exact hMd); (exact absurd hj (by simp)))) h) (h.at_ 0 rfl) (by omega) hM; rw [hg6, if_neg (by decide)] at h9; exact h9) ?_; refine aB rfl ?_; refine yB ?_; refine ze ?_; refine zb (zt (zb (?_)))
        have hV : fVal z n (T.drop k) = .error (130, place z (T.drop k4)) := by rw [hG, fRow_f hq4 hg5 hg6]; rfl
        rw [hV]
        refine zo (v := .bool _) rfl rfl rfl ?_; exact fun w' hw => St.telX (A := []) hw zm2 ⟨rfl, k4, _, by omega, rfl⟩
      refine w_call1 0 rfl (fun w => zR Tryz.func25 rfl rfl rfl) rfl rfl (fun w h => by have h9 := fwant_ok [93] rb z (k4) (e9) (a9) M tc ta T w (hP.now zm2 (fun j hj => by rcases List.mem_cons.1 hj with rfl | hj; (exact hM); (rcases List.mem_cons.1 hj with rfl | hj; (exact hMd); (exact absurd hj (by simp)))) h) (h.at_ 0 rfl) (by omega) hM; rw [hg6, if_pos rfl] at h9; exact h9) ?_
      have hlt6 := isG_lt hg6
      refine aB rfl ?_; refine yB ?_; refine ze ?_; refine zb (zt (zb (?_)))
      have hV : fVal z n (T.drop k) = .ok ((true, l ++ [ar4.1], wh && ar4.2), (T.drop k4).tail) := by rw [hG, fRow_d hq4 hg5 hg6]; rfl
      rw [hV]
      refine zo (v := .bool _) rfl rfl rfl ?_; exact fun w' hw => St.telX (A := []) hw zm2 ⟨rfl, k4 + 1, _, xs4, W4, drop_tl, by omega, by omega, rfl, by rw [List.length_append]; exact hO4, Kt.nx (A := []) (x := (x4, _)) hK4 (TL.cells TL.rwc) zm0 hw, by rw [List.length_append, List.length_singleton]; omega⟩
    refine w_call1 0 rfl (fun w => zR Tryz.func61 rfl rfl rfl) rfl rfl (fun w h => by have h9 := ftake_ok [44] rb z (k4) (e9) (a9) M tc ta T w (hP.now zm2 (fun j hj => by rcases List.mem_cons.1 hj with rfl | hj; (exact hM); (rcases List.mem_cons.1 hj with rfl | hj; (exact hMd); (exact absurd hj (by simp)))) h) (h.at_ 0 rfl) (by omega) hM; rw [hg5, if_pos rfl] at h9; exact h9) ?_
    have hlt5 := isG_lt hg5
    refine jk rfl ?_; refine yB ?_; refine zG rfl ?_; refine zi ?_; refine zO (?_)
    refine zK (B' := _) (L' := [(rb, Rr ta tc T.length z (k4 + 1) e9 a9), (db, Dd nm p true (wh && ar4.2) (.slice va4 (l ++ [ar4.1]).length vc4))] ++ W4) (fun w' h => by rw [List.length_append, List.length_singleton]; exact h.keep2 zm1) ?_; exact k_again _ (by omega) ⟨q', k4 + 1, l ++ [ar4.1], (wh && ar4.2), va4, vc4, xs4, W4, (x4, _), e0_1, e1_1, rfl, rfl, by omega, by omega, by rw [hG, fRow_c hq4 hg5, drop_tl], by rw [List.length_append, List.length_singleton]; exact hO4, hK4, by rw [List.length_append, List.length_singleton]; omega, by omega, rfl⟩
  refine w_call1 0 rfl (fun w => zR Tryz.func61 rfl rfl rfl) rfl rfl (fun w h => by have h9 := ftake_ok [93] rb z (k + 1) (e9) (a9) M tc ta T w (hP.now zm0 (fun j hj => by rcases List.mem_cons.1 hj with rfl | hj; (exact hM); (rcases List.mem_cons.1 hj with rfl | hj; (exact hMd); (exact absurd hj (by simp)))) h) (h.at_ 0 rfl) (by omega) hM; rw [hg3, if_pos rfl] at h9; exact h9) ?_
  have hlt3 := isG_lt hg3
  refine yB ?_; refine zE rfl ?_; refine yA ?_; refine aB rfl ?_; refine yB ?_; refine ze ?_; refine zt (?_)
  have hV : fVal z n (T.drop k) = .ok ((true, [], true), (T.drop (k + 1)).tail) := by rw [fVal_nil hg1 (by rw [drop_tl]; exact hg3), drop_tl]
  rw [hV]
  refine zo (v := .bool _) rfl rfl rfl ?_; exact fun w' hw => St.telX (A := []) hw zm0 ⟨rfl, k + 1 + 1, _, [], [], drop_tl, by omega, by omega, rfl, Own.nil _ _, Mc.nil, Nat.zero_le _⟩
end Go.Proofs.YtikdkendinnalaaGreatDoor
end
section
namespace Go.Sx
open Go.RowKit
section
variable {P : Program} {ops : Array Oper} {Q : Exit → Act → World → Prop} {c : Cf} {e : Env} {B : Base} {L : Heap} {rest : List Oper} {v : Value} {d : Nat} {q : Md} {x y z : Operand} {T : TypeId} {p : String} {a : Array Edge}
theorem w_updS (i : Nat) {b : Nat} {s : List UInt8} {l : List (List UInt8 × Value)} {t te : TypeId} {tk : TypeId} (hi : L[i]? = some (b, mpS l)) (ht : P.underlying t = some (.map tk te)) (hk : P.underlying tk = some .string) (hx : ev c.n e x = .map (some b)) (hy : ev c.n e y = str s) (hz : ev c.n e z = v) (hn : (l.lookup s).isNone = true)
    (h : WX .sq P ops c Q rest e B (L.set i (b, mpS (l ++ [(s, v)])))) : WX .sq P ops c Q (⟨none, .mapUpdate t x y z, T, p, a, none⟩ :: rest) e B L := by
  unfold WX at *
  intro w hw
  have hb := hw.at_ i hi
  unfold mpS at hb
  obtain ⟨r, h1, h2⟩ := find_strs s l 0 0
  have hr : r = none := by
    rw [Option.isNone_iff_eq_none.1 hn] at h2
    cases r with
    | none => rfl
    | some r => simp at h2
  subst hr
  have hck : ∀ (em : Bool) (w : World), (Instr.checkKey em 10000 tk (str s)).run P w = .ok () w := fun em w => MapKept.run_checkKey (d := .string) hk (show MapKept.IsKey .string (str s) from True.intro) em 9999
  have hr : (Instr.mapUpdate t (.map (some b)) (str s) v).run P w = .ok () (w.putObj b (mpS (l ++ [(s, v)]))) := by
    simp [Instr.mapUpdate, run_underlying ht, MapKept.run_getObj_map hb, hck, MapKept.run_findKey hk h1, MapKept.run_setObj_map _ hb, Result.andThen, World.putObj, mpS, entsF_snoc]
  refine s_unit (w' := w.putObj b (mpS (l ++ [(s, v)]))) ?_ rfl rfl (h _ (hw.putO i hi))
  simp only [RunU, execOp, hx, hy, hz, Sem.run_bind, hr, Result.andThen]
  rfl
theorem w_makeMapS (h : ∀ b, (∀ x ∈ L, x.1 < b) → (∀ x ∈ B, x.1.heap.size ≤ b) → WX .sq P ops c Q rest (upd e d (.map (some b))) B ((b, mpS []) :: L)) {t : TypeId} : WX .sq P ops c Q (⟨some d, .makeMap t none, T, p, a, none⟩ :: rest) e B L := by
  unfold WX at *
  exact fun w hw => s_run R_makeMap rfl rfl (by
    have := h w.heap.size (fun p hp => lt_of_blk (hw.own p hp)) (fun x hx => (hw.fr x hx).size)
    exact this _ hw.new)
end
theorem k_join {Q : Exit → Act → World → Prop} {c : Cf} {e : Env} {x : Exit} {B B0 : Base} {L L' : Heap} (hL : L'.Sublist L) (hB : ∀ x ∈ B0, x ∈ B) (h : ∀ w, St B L w → WK c Q x e ((w, inL L') :: B0) L') : WK c Q x e B L := by
  unfold WK at *
  exact fun w hw => h w hw w ((hw.drop hL).unbase hB).base1
theorem c_join {P : Program} {Q : Exit → Act → World → Prop} {c : Cf} {e : Env} {x : Code} {B B0 : Base} {L L' : Heap} (hL : L'.Sublist L) (hB : ∀ x ∈ B0, x ∈ B) (h : ∀ w, St B L w → WC P c x Q e ((w, inL L') :: B0) L') : WC P c x Q e B L := by
  unfold WC at *
  exact fun w hw => h w hw w ((hw.drop hL).unbase hB).base1
section
variable {P : Program} {ops : Array Oper} {Q : Exit → Act → World → Prop} {c : Cf} {e : Env} {rest : List Oper} {o : Oper} {d : Nat} {B : Base} {A X : Heap} {f : FuncId} {args : Array Value}
theorem inL_comm {A X : Heap} (j : Nat) : inL (A ++ X) j ↔ inL (X ++ A) j := by
  unfold inL
  rw [List.map_append, List.map_append, List.mem_append, List.mem_append]
  exact or_comm
theorem w_callXh {R : Value → Heap → (Nat → Prop) → World → Prop} {s0 : Nat} (hm : ∀ v X' N N' w, R v X' N w → (∀ j, N j → N' j) → R v X' N' w) (hr : ∀ w, RunE P o (ev c.n e) w f args) (hg : plainB o = true) (hd : o.dst = some d) (hs : ∀ w, St B (X ++ A) w → s0 ≤ w.heap.size)
    (hc : ∀ w, St B (X ++ A) w → ∀ N, Ret P f args w (TelX X R N w))
    (h : ∀ v X' (x1 : Bw), R v X' (Nb s0 x1) x1.1 → WX .sq P ops c Q rest (upd e d v) (x1 :: B) (X' ++ A)) : WX .sq P ops c Q (o :: rest) e B (X ++ A) :=
  zP hr hg hd (fun w hw => hc w hw (Nb s0 (w, inL (A ++ X)))) fun w hw v w' ⟨X', h1, h2, h3, h4⟩ =>
    ⟨_, _, (((hw.perm List.perm_append_comm).modX h2 h3 h4).perm List.perm_append_comm).base1, h v X' (w', inL (X' ++ A)) (hm _ _ _ _ _ h1 fun j hj => by
      obtain ⟨q1, q2, q3⟩ := Nx.nb (s0 := s0) (hw.perm List.perm_append_comm) h2 h3 (hs w hw) j hj
      exact ⟨q1, q2, fun hh => q3 ((inL_comm j).2 hh)⟩)⟩
end
end Go.Sx
end
section
namespace Go.Feed
open Go.Tok Go.Tree Go.Prs Go.Num Go.Lib
inductive ChE (s : Str) : Nat → List Tk → Prop
  | nil {i : Nat} : i ≤ s.length → skipTo s i = s.length → ChE s i []
  | cons {i e kd : Nat} {ts : List Tk} : i ≤ s.length → skipTo s i < s.length → tokAt s (skipTo s i) = (kd, e, true) → ChE s e ts → ChE s i ((kd, tokTx s (skipTo s i), skipTo s i) :: ts)
def CT (v : Str) (ks : List (Nat × Str)) : Prop := ∀ u : Str, ∃ ts, ChE (u ++ v) u.length ts ∧ ts.map (fun t => (t.1, t.2.1)) = ks
theorem CT.nil : CT [] [] := fun u => ⟨[], .nil (by simp) (by
  have := skip_sh (u := u) (v := []) 0
  rw [Nat.add_zero] at this
  rw [this, List.append_nil]
  have : skipTo ([] : Str) 0 = 0 := by decide
  omega), rfl⟩
theorem CT.cons {t R : Str} {kd : Nat} {ks : List (Nat × Str)} (h1 : tokAt (t ++ R) 0 = (kd, t.length, true)) (h2 : t ≠ []) (h3 : skipTo (t ++ R) 0 = 0) (h : CT R ks) : CT (t ++ R) ((kd, t) :: ks) := fun u => by
  obtain ⟨ts, e1, e2⟩ := h (u ++ t)
  have k1 := skip_sh (u := u) (v := t ++ R) 0
  have k2 := tok_sh (u := u) (v := t ++ R) 0
  have k3 := tx_sh (u := u) (v := t ++ R) 0
  rw [Nat.add_zero, h3, Nat.add_zero] at k1
  rw [Nat.add_zero, h1] at k2
  have k4 : tokTx (t ++ R) 0 = t := by unfold tokTx; rw [h1]; simp
  rw [Nat.add_zero, k4] at k3
  have hl : 0 < t.length := by cases t with | nil => exact absurd rfl h2 | cons => simp
  rw [List.append_assoc, List.length_append] at e1
  refine ⟨(kd, tokTx (u ++ (t ++ R)) (skipTo (u ++ (t ++ R)) u.length), skipTo (u ++ (t ++ R)) u.length) :: ts, .cons (by simp) (by rw [k1]; simp; omega) (by rw [k1]; exact k2) e1, ?_⟩
  rw [List.map_cons, k1, k3, e2]
def numK (x : Int) : List (Nat × Str) := if x < 0 then [(3, [45]), (2, decDigits x.natAbs)] else [(2, decDigits x.natAbs)]
def rowK : List Int → List (Nat × Str)
  | [] => []
  | [x] => numK x
  | x :: y :: l => numK x ++ (3, [44]) :: rowK (y :: l)
def datK (d : Di) : List (Nat × Str) := (1, d.nm) :: (3, [61]) :: ((if d.list = true then (3, [91]) :: (rowK (d.nums.map fun x => x.r.1) ++ [(3, [93])]) else rowK (d.nums.map fun x => x.r.1)) ++ [(3, [59])])
end Go.Feed
end
section
namespace Go.Feed
open Go.Tok Go.Tree Go.Prs Go.Num Go.Lib
def shp (ts : List Tk) : List (Nat × Str) := ts.map (fun t => (t.1, t.2.1))
theorem shp_cons {ts : List Tk} {k : Nat} {t : Str} {ks : List (Nat × Str)} (h : shp ts = (k, t) :: ks) : ∃ a ts', ts = (k, t, a) :: ts' ∧ shp ts' = ks := by
  cases ts with
  | nil => cases h
  | cons y l =>
    unfold shp at h
    rw [List.map_cons] at h
    injection h with h1 h2
    obtain ⟨y1, y2, y3⟩ := y
    simp only [Prod.mk.injEq] at h1
    obtain ⟨rfl, rfl⟩ := h1
    exact ⟨y3, l, rfl, h2⟩
theorem isG_head {t : Str} {a : Nat} {ts : List Tk} (c : Str) : isG c ((3, t, a) :: ts) = decide (t = c) := by unfold isG; simp
def Back (e : Dt) (d : Di) : Prop := e.nm = d.nm ∧ e.list = d.list ∧ e.whole = true ∧ e.nums = d.nums.map (fun x => (x.r.1, 1))
inductive Backs : List Dt → List Di → Prop
  | nil : Backs [] []
  | cons {e : Dt} {d : Di} {es : List Dt} {l : List Di} : Back e d → Backs es l → Backs (e :: es) (d :: l)
def smallD (l : List Di) : Prop := l.length ≤ 12 ∧ ∀ d ∈ l, d.nm.length ≤ 200 ∧ d.nums.length ≤ 20 ∧ ∀ x ∈ d.nums, x.n < B ^ 3
end Go.Feed
end
section
namespace Go.Tok
def Jn (ts : List Tk) : List UInt8 := ts.flatMap fun t => 32 :: t.2.1
def kt (t : Tk) : Nat × List UInt8 := (t.1, t.2.1)
def Good (t : Tk) : Prop := ∃ s k e, k ≤ s.length ∧ tokAt s k = (t.1, e, true) ∧ t.2.1 = (s.drop k).take (e - k)
end Go.Tok
end
section
namespace Go.Feed
open Go.Tok Go.Tree Go.Prs Go.Num Go.Lib
theorem isG_yes {x : Str} {ts : List Tk} (h : isG x ts = true) : ∃ a r, ts = (3, x, a) :: r := by
  cases ts with
  | nil => cases h
  | cons t r =>
    obtain ⟨t1, t2, t3⟩ := t
    unfold isG at h
    simp only [Bool.and_eq_true, decide_eq_true_eq] at h
    obtain ⟨rfl, rfl⟩ := h
    exact ⟨t3, r, rfl⟩
theorem andR_cut {α β : Type} {x : Rs α} {f : α → List Tk → Except Fl β} {y : β} (h : andR x f = .ok y) : ∃ a r, x = .ok (a, r) ∧ f a r = .ok y := by
  cases x with
  | error e => cases h
  | ok p => exact ⟨p.1, p.2, rfl, h⟩
theorem fTok_cut {z : Nat} {neg : Bool} {ts r : List Tk} {a : Rt × Bool} (h : fTok z neg ts = .ok (a, r)) : ∃ tx p, ts = (2, tx, p) :: r ∧ ∀ z' p' R, fTok z' neg ((2, tx, p') :: R) = .ok (a, R) := by
  unfold fTok at h
  split at h
  · rename_i h2
    split at h
    · cases h
    · rename_i h4
      cases ts with
      | nil => cases h2
      | cons t tl =>
        obtain ⟨t1, t2, t3⟩ := t
        simp only [nowT] at h2 h4 h
        subst h2
        simp only [Except.ok.injEq, Prod.mk.injEq, List.tail_cons] at h
        obtain ⟨h, rfl⟩ := h
        refine ⟨t2, t3, rfl, fun z' p' R => ?_⟩
        unfold fTok nowT
        simp only [if_true]
        rw [if_neg h4, h]; rfl
  · cases h
def Cut {α : Type} (f : Nat → List Tk → Rs α) (a : α) (c : List Tk) : Prop := c ≠ [] ∧ ∀ z' c' R, shp c' = shp c → f z' (c' ++ R) = .ok (a, R)
theorem fNum_cut {z : Nat} {ts r : List Tk} {a : Rt × Bool} (h : fNum z ts = .ok (a, r)) : ∃ c, ts = c ++ r ∧ Cut fNum a c := by
  unfold fNum at h
  split at h
  · rename_i hx
    obtain ⟨p, tl, rfl⟩ := isG_yes hx
    obtain ⟨tx, p2, h1, h2⟩ := fTok_cut h
    rw [List.tail_cons] at h1
    subst h1
    refine ⟨[(3, [45], p), (2, tx, p2)], rfl, by simp, fun z' c' R hc => ?_⟩
    obtain ⟨q, c1, rfl, hc1⟩ := shp_cons (k := 3) (t := [45]) (ks := [(2, tx)]) hc
    obtain ⟨q2, c2, rfl, hc2⟩ := shp_cons (ks := []) hc1
    have : c2 = [] := by simpa [shp] using hc2
    subst this
    unfold fNum
    rw [List.cons_append, isG_head, if_pos (by decide), List.tail_cons]
    exact h2 z' q2 R
  obtain ⟨tx, p2, rfl, h2⟩ := fTok_cut h
  refine ⟨[(2, tx, p2)], rfl, by simp, fun z' c' R hc => ?_⟩
  obtain ⟨q2, c2, rfl, hc2⟩ := shp_cons (k := 2) (t := tx) (ks := []) hc
  have : c2 = [] := by simpa [shp] using hc2
  subst this
  unfold fNum
  rw [if_neg (by unfold isG; simp)]
  exact h2 z' q2 R
def atD (d : Dt) (p : Nat) : Dt := ⟨d.nm, p, d.list, d.whole, d.nums⟩
structure Pc (c : List Tk) (d : Dt) : Prop where
  ne : c ≠ []
  at_ : d.at_ = place 0 c
  go : ∀ z' n' c' R out', shp c' = shp c → c.length ≤ n' → fOne z' n' out' (c' ++ R) = if out'.any (fun e => decide (e.nm = d.nm)) = true then .error (8, place 0 c') else .ok (atD d (place 0 c'), R)
abbrev Ck := List Tk × Dt
def flatC (cs : List Ck) : List Tk := cs.flatMap (·.1)
def Bnd (z : Nat) (ts : List Tk) : Prop := ∀ t ∈ ts, t.2.2 ≤ z
theorem Bnd.place {z : Nat} {ts : List Tk} (h : Bnd z ts) : Prs.place z ts ≤ z := by
  cases ts with
  | nil => exact Nat.le_refl _
  | cons t ts => exact h t (.head _)
theorem Bnd.tail {z : Nat} {ts : List Tk} (h : Bnd z ts) : Bnd z ts.tail := fun t ht => h t (List.mem_of_mem_tail ht)
theorem Bnd.app {z : Nat} {c r : List Tk} (h : Bnd z (c ++ r)) : Bnd z r := fun t ht => h t (List.mem_append_right _ ht)
abbrev Er (z : Nat) (fl : Fl) : Prop := fl.1 ≠ 0 ∧ fl.2 ≤ z
theorem fNum_er {z : Nat} {ts : List Tk} {fl : Fl} (hb : Bnd z ts) (h : fNum z ts = .error fl) : Er z fl := by
  have key : ∀ neg (ts : List Tk), Bnd z ts → fTok z neg ts = .error fl → Er z fl := by
    intro neg ts hb h
    unfold fTok at h
    split at h
    · split at h
      · cases h; exact ⟨by simp, hb.place⟩
      cases h
    cases h; exact ⟨by simp, hb.place⟩
  unfold fNum at h
  split at h
  · exact key _ _ hb.tail h
  exact key _ _ hb h
theorem andR_err {α β : Type} {x : Rs α} {f : α → List Tk → Except Fl β} {fl : Fl} (h : andR x f = .error fl) : x = .error fl ∨ ∃ a r, x = .ok (a, r) ∧ f a r = .error fl := by
  cases x with
  | error e => left; rw [andR_no] at h; cases h; rfl
  | ok p => right; exact ⟨p.1, p.2, rfl, h⟩
theorem wantG_er {β : Type} {z : Nat} {x : Str} {ts : List Tk} {f : List Tk → Except Fl β} {fl : Fl} (hb : Bnd z ts) (h : wantG z x ts f = .error fl) : Er z fl ∨ ∃ a r, ts = (3, x, a) :: r ∧ f r = .error fl := by
  unfold wantG at h
  split at h
  · rename_i hx
    obtain ⟨a, r, rfl⟩ := isG_yes hx
    exact .inr ⟨a, r, rfl, h⟩
  cases h; exact .inl ⟨by simp, hb.place⟩
theorem fRow_er {z : Nat} {fl : Fl} : ∀ (n : Nat) (l : List Rt) (b : Bool) (ts : List Tk), Bnd z ts → ts.length < n → fRow z n l b ts = .error fl → Er z fl
  | 0, _, _, _, _, hn, _ => by omega
  | n + 1, l, b, ts, hb, hn, h => by
    rw [fRow] at h
    rcases andR_err h with g | ⟨a, r, e1, g⟩
    · exact fNum_er hb g
    · clear h
      obtain ⟨c, rfl, k0, _⟩ := fNum_cut e1
      have hl : 0 < c.length := by cases c with | nil => exact absurd rfl k0 | cons => simp
      rw [List.length_append] at hn
      split at g
      · exact fRow_er n _ _ _ hb.app.tail (by rw [List.length_tail]; omega) g
      · rcases wantG_er hb.app g with h | ⟨a, r, _, h⟩
        · exact h
        · cases h
theorem fVal_er {z n : Nat} {fl : Fl} {ts : List Tk} (hb : Bnd z ts) (hn : ts.length < n) (h : fVal z n ts = .error fl) : Er z fl := by
  unfold fVal at h
  split at h
  · split at h
    · cases h
    rcases andR_err h with h | ⟨a, r, _, h⟩
    · exact fRow_er n _ _ _ hb.tail (by rw [List.length_tail]; omega) h
    cases h
  rcases andR_err h with h | ⟨a, r, _, h⟩
  · exact fNum_er hb h
  cases h
theorem read_len {s : Str} (hs : s.length ≤ 20000) : (readP s).1.length ≤ s.length := by
  have := readS_len s
  by_cases h : (readS s).2.1 = 0
  · rw [readP_fine (by omega) h]; exact this
  rw [readP_bad (by omega) h]; simp
theorem Pc.first {c : List Tk} {d : Dt} (h : Pc c d) : ∃ t c2, c = t :: c2 ∧ d.at_ = t.2.2 := by
  cases hc : c with
  | nil => exact absurd hc h.ne
  | cons t c2 => exact ⟨t, c2, rfl, by rw [h.at_, hc]; rfl⟩
def shC (k : Nat) (x : Ck) : Ck := (x.1.map (sh k), atD x.2 (place 0 (x.1.map (sh k))))
end Go.Feed
end
