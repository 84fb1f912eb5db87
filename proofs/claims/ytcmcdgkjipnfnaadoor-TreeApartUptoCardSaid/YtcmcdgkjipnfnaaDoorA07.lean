/- TreeApart: what is written of two right programs is the same just when they are. Part 7 of 12. -/
import Derived.Test.YtcmcdgkjipnfnaaDoorA05
import Derived.Test.YtcmcdgkjipnfnaaDoorA02
import Derived.Test.YtcmcdgkjipnfnaaDoorA06
section
/- A pen: a slice of texts in a block of its own, written on by calls. -/
namespace Go.Sx
open Go.RowKit Go.Tree
abbrev OwnS (te : TypeId) (v : Value) (ts : List (List UInt8)) (W : Heap) : Prop := Own te 1 v (ts.map str) ts.length W
theorem OwnS.more {te : TypeId} {v : Value} {xs ts : List (List UInt8)} {W : Heap} (h : Own te 1 v (xs.map str ++ ts.map str) (xs.length + ts.length) W) : OwnS te v (xs ++ ts) W := by
  unfold OwnS; rw [List.map_append, List.length_append]; exact h
theorem strs_one (ts : List (List UInt8)) : (ts.map str).all Value.oneCell' = true := by
  rw [List.all_eq_true]; intro x hx
  obtain ⟨y, _, rfl⟩ := List.mem_map.1 hx
  rfl
def PenAt (te T : TypeId) (p : Nat) (xs : List (List UInt8)) (B : Base) (Lr : Heap) (w : World) : Prop := ∃ v W, OwnS te v xs W ∧ St B ((p, cel [v] T) :: (W ++ Lr)) w
theorem perm_pen (A W Lr : Heap) (q : Nat × Obj) : (A ++ (q :: (W ++ Lr))).Perm (q :: (W ++ (A ++ Lr))) := List.perm_middle.trans ((perm_mid A W Lr).cons q)
section
variable {P : Program} {ops : Array Oper} {Q : Exit → Act → World → Prop} {c : Cf} {e : Env} {B : Base} {rest : List Oper} {o : Oper} {d i fuel : Nat} {te T : TypeId} {p : Nat} {A Lr W : Heap} {v : Value} {xs : List (List UInt8)} {f : FuncId} {args : Array Value} {S : World → Prop} {listed : Array Bool}
/-- a call that writes on a pen -/
theorem w_pen (ts : List (List UInt8)) (hr : ∀ w, RunE P o (ev c.n e) w f args) (hg : plainB o = true) (hd : o.dst = some d) (hO : OwnS te v xs W)
    (hc : ∀ w, PenAt te T p xs B (A ++ Lr) w → Ret P f args w fun u w' => u = .tuple #[] ∧ PenAt te T p (xs ++ ts) B (A ++ Lr) w')
    (h : ∀ v' W', OwnS te v' (xs ++ ts) W' → WX .sq P ops c Q rest (upd e d (.tuple #[])) B (A ++ ((p, cel [v'] T) :: (W' ++ Lr)))) : WX .sq P ops c Q (o :: rest) e B (A ++ ((p, cel [v] T) :: (W ++ Lr))) :=
  w_callR (R := fun _ u w' => u = .tuple #[] ∧ PenAt te T p (xs ++ ts) B (A ++ Lr) w') hr hg hd (fun w hw => hc w ⟨v, W, hO, hw.perm (perm_pen A W Lr _)⟩)
    (fun w hw u w' ⟨hu, v', W', hO', hs⟩ => ⟨B, A ++ ((p, cel [v'] T) :: (W' ++ Lr)), hs.perm (perm_pen A W' Lr _).symm, by subst hu; exact h v' W' hO'⟩)
theorem h_pen (ts : List (List UInt8)) (i : Nat) (hi : ops[i]? = some o) (hk : Region.ready .any ops listed = [i]) (hg : plainB o = true) (hd : o.dst = some d) (hs : ∀ w, St B (A ++ ((p, cel [v] T) :: (W ++ Lr))) w → S w) (hr : ∀ w, RunE P o (ev c.n e) w f args) (hO : OwnS te v xs W)
    (hc : ∀ w, PenAt te T p xs B (A ++ Lr) w → Ret P f args w fun u w' => u = .tuple #[] ∧ PenAt te T p (xs ++ ts) B (A ++ Lr) w')
    (h : ∀ v' W', OwnS te v' (xs ++ ts) W' → WH P ops c Q S fuel (listed.setIfInBounds i true) (upd e d (.tuple #[])) B (A ++ ((p, cel [v'] T) :: (W' ++ Lr)))) : WH P ops c Q S (fuel + 1) listed e B (A ++ ((p, cel [v] T) :: (W ++ Lr))) :=
  h_call (R := fun _ u w' => u = .tuple #[] ∧ PenAt te T p (xs ++ ts) B (A ++ Lr) w') i hi hk hg hd hs hr (fun w hw => hc w ⟨v, W, hO, hw.perm (perm_pen A W Lr _)⟩)
    (fun w hw u w' ⟨hu, v', W', hO', hs⟩ => ⟨B, A ++ ((p, cel [v'] T) :: (W' ++ Lr)), hs.perm (perm_pen A W' Lr _).symm, by subst hu; exact h v' W' hO'⟩)
/-- a call that only reads, in a region that draws -/
theorem h_pure {L : Heap} {u : Value} (i : Nat) (hi : ops[i]? = some o) (hk : Region.ready .any ops listed = [i]) (hg : plainB o = true) (hd : o.dst = some d) (hs : ∀ w, St B L w → S w) (hr : ∀ w, RunE P o (ev c.n e) w f args)
    (hc : ∀ w, St B L w → Ret P f args w fun v w' => v = u ∧ Ext w w') (h : WH P ops c Q S fuel (listed.setIfInBounds i true) (upd e d u) B L) : WH P ops c Q S (fuel + 1) listed e B L :=
  h_call (R := fun w v w' => v = u ∧ Ext w w') i hi hk hg hd hs hr hc (fun w hw v w' ⟨hv, hx⟩ => ⟨B, L, hw.ext hx, by subst hv; exact h⟩)
end
theorem R_slLo {P : Program} {ρ : Operand → Value} {w : World} {D : Option Tmp} {ty t : TypeId} {pos : String} {aft : Array Edge} {g : Option (Nat × Bool)} {x lo : Operand} {k : IntKind} {a : Option Addr} {q l n m : Nat} (hu : slB P t q = true) (hx : ρ x = .slice a n m) (hlo : ρ lo = .int k (l : Nat)) (h1 : l ≤ n) (h2 : n ≤ m) :
    Run P ⟨D, .slice t x (some lo) none none, ty, pos, aft, g⟩ ρ w (.slice (if m = l then a else a.map (fun z => z.add (l * q))) (n - l) (m - l)) w := by
  obtain ⟨e, ti, h3, h4, h5⟩ := slB_spec hu
  have h6 : (l : Int) ≤ (n : Int) := by omega
  simp [Run, execOp, hx, hlo, go_sem, Instr.sliceAt, Instr.slice, run_underlying h3, Instr.sliceBounds, Instr.sliceBound, asIntOf, h1, sizeOf, typeInfo, h4, h5]
theorem R_slE {P : Program} {ρ : Operand → Value} {w : World} {D : Option Tmp} {ty t : TypeId} {pos : String} {aft : Array Edge} {g : Option (Nat × Bool)} {x lo : Operand} {k : IntKind} {a a' : Option Addr} {q l n n' m : Nat} (hu : slB P t q = true) (hx : ρ x = .slice a n m) (hlo : ρ lo = .int k (l : Nat)) (h1 : l ≤ n) (h2 : n ≤ m) (ha : (if m = l then a else a.map (fun z => z.add (l * q))) = a') (hn : n - l = n') :
    Run P ⟨D, .slice t x (some lo) none none, ty, pos, aft, g⟩ ρ w (.slice a' n' (m - l)) w := by subst ha; subst hn; exact R_slLo hu hx hlo h1 h2
theorem At.shift {W : World} {N : Nat → Prop} {b o i : Nat} {cs : List Value} (h : At W N (some ⟨b, o, none⟩) (i + 4) cs) : At W N (some ⟨b, o + 4, none⟩) i cs := by
  obtain ⟨b', o', ha, hb, hc⟩ := h
  cases ha
  exact ⟨b, o + 4, rfl, hb, fun j v hj => by have := hc j v hj; rwa [show o + (i + 4) + j = o + 4 + i + j by omega] at this⟩
theorem exsM.shift {W : World} {N : Nat → Prop} {b o : Nat} : ∀ {l : List Ex} {i : Nat}, exsM W N l (some ⟨b, o, none⟩) (i + 4) → exsM W N l (some ⟨b, o + 4, none⟩) i
  | [], _, _ => by unfold exsM; trivial
  | x :: l, i, h => by
    unfold exsM at h ⊢
    obtain ⟨⟨cs, h1, h2⟩, h3⟩ := h
    exact ⟨⟨cs, h1.shift, h2⟩, exsM.shift h3⟩
/-- a row but for its first one -/
theorem exsM.rest {W : World} {N : Nat → Prop} {b o c : Nat} {l : List Ex} (h : exsM W N l (some ⟨b, o, none⟩) 0) (hl : 1 ≤ l.length) (hc : l.length ≤ c) : ∃ a, (if c = 1 then (some ⟨b, o, none⟩ : Option Addr) else (some ⟨b, o, none⟩ : Option Addr).map (fun z => z.add (1 * 4))) = a ∧ exsM W N (l.drop 1) a 0 := by
  match l, hl with
  | x :: l, _ =>
    unfold exsM at h
    refine ⟨_, rfl, ?_⟩
    simp only [List.drop_succ_cons, List.drop_zero]
    split
    · have : l = [] := by cases l with | nil => rfl | cons => simp at hc; omega
      subst this; unfold exsM; trivial
    · exact exsM.shift h.2
theorem R_minE {P : Program} {ρ : Operand → Value} {w : World} {D : Option Tmp} {ty : TypeId} {tys : Array TypeId} {pos : String} {aft : Array Edge} {g : Option (Nat × Bool)} {x y : Operand} {k : IntKind} {i j m : Int} (hx : ρ x = .int k i) (hy : ρ y = .int k j) (he : (if j < i then j else i) = m) : Run P ⟨D, .call ⟨.builtin .min, #[x, y], tys⟩, ty, pos, aft, g⟩ ρ w (.int k m) w := he ▸ R_min hx hy
theorem exM_len {W : World} {N : Nat → Prop} {x : Ex} {cs : List Value} (h : exM W N x cs) : cs.length = 4 := by
  obtain ⟨op, at_, nm, ks⟩ := x
  unfold exM at h
  obtain ⟨a, c, rfl, _⟩ := h
  rfl
theorem OwnS.eq {te : TypeId} {v : Value} {xs ys : List (List UInt8)} {W : Heap} (h : OwnS te v xs W) (he : xs = ys) : OwnS te v ys W := he ▸ h
theorem h_bslice {P : Program} {ops : Array Oper} {Q : Exit → Act → World → Prop} {c : Cf} {e : Env} {B : Base} {L : Heap} {d fuel : Nat} {S : World → Prop} {listed : Array Bool} {T : TypeId} {pp : String} {ed : Array Edge} {t el k bytes len : Nat} {z : Value} {parts : List (Nat × Operand)} (i : Nat) (hi : ops[i]? = some ⟨some d, .buildSlice t len parts.toArray, T, pp, ed, none⟩) (hr : Region.ready .any ops listed = [i]) (hs : ∀ w, St B L w → S w)
    (hT : slT P t el k bytes z) (hk : 0 < len * k) (hsz : Nat.ble (len * k) 16777216 = true) (hf : fillB (plA len k) (parts.map fun p => (p.1, ev c.n e p.2)) (len * k) = true)
    (h : ∀ b, WH P ops c Q S fuel (listed.setIfInBounds i true) (upd e d (.slice (some ⟨b, 0, none⟩) len len)) B ((b, cel (fillL (plA len k) (parts.map fun p => (p.1, ev c.n e p.2)) (zsL z (len * k))) el) :: L)) : WH P ops c Q S (fuel + 1) listed e B L := by
  obtain ⟨ti, ht, hti, hsize, hby, hz, hzs⟩ := slT_spec hT
  subst hsize
  have hlen : (zsL z (len * ti.size)).length = len * ti.size := by simp [zsL]
  have hf' := hf
  rw [← hlen] at hf'
  have hfe := fill_eq (plA len ti.size) (parts.map fun p => (p.1, ev c.n e p.2)) _ hf'
  rw [← fill_arr len ti.size _ _ hf'] at hfe
  refine h_val i hi hr rfl rfl hs (fun w hw => ⟨_, _, B, _, ?_, hw.new, h w.heap.size⟩)
  have e1 : ((Array.range (len * ti.size)).map (fun j => z.cells[j % z.cells.size]!)) = (zsL z (len * ti.size)).toArray := by simp [zsL, Array.toList_range, ← List.toArray_range]
  have h0 : ¬ len * ti.size = 0 := by omega
  have h1 : ¬ 16777216 < len * ti.size := by have := Nat.le_of_ble_eq_true hsz; omega
  unfold Run
  simp only [execOp, Instr.buildSlice, Sem.run_bind, run_underlying ht, Result.andThen_ok, sizeOf, typeInfo, run_program, hti, Sem.run_pure, zeroValue, hz, h0, if_false, List.map_toArray]
  rw [if_neg (by simpa using h1)]
  simp only [Sem.run_bind, run_program, Result.andThen_ok, hti, Sem.run_pure, hz, e1, hfe, newRow, run_newObj]
  rfl
theorem PenAt.fin {te T : TypeId} {p : Nat} {xs ys : List (List UInt8)} {B : Base} {A Lr W : Heap} {v : Value} {w : World} (hO : OwnS te v xs W) (h : xs = ys) (hs : St B (A ++ ((p, cel [v] T) :: (W ++ Lr))) w) : PenAt te T p ys B Lr w := by
  subst h
  exact ⟨v, W, hO, hs.drop (List.sublist_append_right _ _)⟩
end Go.Sx
end

section
namespace Go.Proofs.YtcmcdgkjipnfnaaDoor
open Go.RowKit Go.Sx
open Go.Tok Go.Tree
abbrev Pen := PenAt 9 64
abbrev OwnT := OwnS 9

set_option maxRecDepth 100000 in
set_option maxHeartbeats 400000 in
theorem rank_spec (op : Nat) (w : World) :
  Ret Tryd.prog 72 #[.int .u8 (op : Nat)] w (fun v w' => v = .int .i64 (rank op : Nat) ∧ Ext w w') := by
 refine enter (S := No) (l := [_]) (L := []) 12 Tryd.func72 rfl rfl rfl (St.start w No) ?_; refine yA ?_; refine aI rfl ?_; refine yB ?_; refine zq ?_; refine yA ?_; refine mI rfl ?_; refine yB ?_; refine zB ?_; refine zq ?_; refine yA ?_; refine w_r (fun _ => R_eq rfl rfl) rfl rfl ?_; refine aB rfl ?_; refine yB ?_; refine zD rfl (fun h1 => ?_) (fun h1 => ?_)
 ·refine zi ?_; refine zk ?_; refine zE (bT h1) ?_; refine yA ?_; refine aI rfl ?_; refine yB ?_; refine ze ?_; refine zb (zt (?_))
  refine zo (v := .int _ _) rfl rfl rfl ?_; exact fun w' hw => ⟨by unfold rank; first | (rw [if_pos (by omega)]; rfl) | (rw [if_neg (by omega), if_pos (by omega)]; rfl) | (rw [if_neg (by omega), if_neg (by omega), if_pos (by omega)]; rfl) | (rw [if_neg (by omega), if_neg (by omega), if_neg (by omega)]; rfl), hw.fr _ (.head _)⟩
 ·refine zr ?_; refine w_r (fun _ => R_eq rfl rfl) rfl rfl ?_; refine aB rfl ?_; refine yB ?_; refine zD rfl (fun h2 => ?_) (fun h2 => ?_)
  ·refine yA ?_; refine aI rfl ?_; refine yB ?_; refine ze ?_; refine zb (zt (?_))
   refine zo (v := .int _ _) rfl rfl rfl ?_; exact fun w' hw => ⟨by unfold rank; first | (rw [if_pos (by omega)]; rfl) | (rw [if_neg (by omega), if_pos (by omega)]; rfl) | (rw [if_neg (by omega), if_neg (by omega), if_pos (by omega)]; rfl) | (rw [if_neg (by omega), if_neg (by omega), if_neg (by omega)]; rfl), hw.fr _ (.head _)⟩
  ·refine zq ?_; refine yA ?_; refine w_r (fun _ => R_eq rfl rfl) rfl rfl ?_; refine aB rfl ?_; refine yB ?_; refine zD rfl (fun h3 => ?_) (fun h3 => ?_)
   ·refine zi ?_; refine zk ?_; refine zE (bT h3) ?_; refine yA ?_; refine aI rfl ?_; refine yB ?_; refine ze ?_; refine zb (zt (?_))
    refine zo (v := .int _ _) rfl rfl rfl ?_; exact fun w' hw => ⟨by unfold rank; first | (rw [if_pos (by omega)]; rfl) | (rw [if_neg (by omega), if_pos (by omega)]; rfl) | (rw [if_neg (by omega), if_neg (by omega), if_pos (by omega)]; rfl) | (rw [if_neg (by omega), if_neg (by omega), if_neg (by omega)]; rfl), hw.fr _ (.head _)⟩
   ·refine zr ?_; refine w_r (fun _ => R_eq rfl rfl) rfl rfl ?_; refine aB rfl ?_; refine yB ?_; refine zD rfl (fun h4 => ?_) (fun h4 => ?_)
    ·refine yA ?_; refine aI rfl ?_; refine yB ?_; refine ze ?_; refine zb (zt (?_))
     refine zo (v := .int _ _) rfl rfl rfl ?_; exact fun w' hw => ⟨by unfold rank; first | (rw [if_pos (by omega)]; rfl) | (rw [if_neg (by omega), if_pos (by omega)]; rfl) | (rw [if_neg (by omega), if_neg (by omega), if_pos (by omega)]; rfl) | (rw [if_neg (by omega), if_neg (by omega), if_neg (by omega)]; rfl), hw.fr _ (.head _)⟩
    ·refine yA ?_; refine w_r (fun _ => R_eq rfl rfl) rfl rfl ?_; refine aB rfl ?_; refine yB ?_; refine zD rfl (fun h5 => ?_) (fun h5 => ?_)
     ·refine yA ?_; refine aI rfl ?_; refine yB ?_; refine ze ?_; refine zb (zt (?_))
      refine zo (v := .int _ _) rfl rfl rfl ?_; exact fun w' hw => ⟨by unfold rank; first | (rw [if_pos (by omega)]; rfl) | (rw [if_neg (by omega), if_pos (by omega)]; rfl) | (rw [if_neg (by omega), if_neg (by omega), if_pos (by omega)]; rfl) | (rw [if_neg (by omega), if_neg (by omega), if_neg (by omega)]; rfl), hw.fr _ (.head _)⟩
     ·refine zi ?_; refine b_on (zk ?_); refine yA ?_; refine aI rfl ?_; refine yB ?_; refine ze ?_; refine zo (v := .int _ _) rfl rfl rfl ?_; exact fun w' hw => ⟨by unfold rank; first | (rw [if_pos (by omega)]; rfl) | (rw [if_neg (by omega), if_pos (by omega)]; rfl) | (rw [if_neg (by omega), if_neg (by omega), if_pos (by omega)]; rfl) | (rw [if_neg (by omega), if_neg (by omega), if_neg (by omega)]; rfl), hw.fr _ (.head _)⟩

set_option maxRecDepth 100000 in
set_option maxHeartbeats 400000 in
theorem put_spec (p : Nat) (Bs : Base) (Lr : Heap) (w : World) (xs : List Str) (b2 : Nat) (ts : List Str) (h0 : 0 < ts.length) (hb : xs.length + ts.length ≤ 1000000000) (hmem : (b2, cel (ts.map str) 9) ∈ Lr) (hP : Pen p xs Bs Lr w) :
  Ret Tryd.prog 26 #[.pointer (some ⟨p, 0, none⟩), .slice (some ⟨b2, 0, none⟩) ts.length ts.length] w (fun u w' => u = .tuple #[] ∧ Pen p (xs ++ ts) Bs Lr w') := by
 obtain ⟨v, W, hO, hs⟩ := hP
 refine enterB (l := [_, _]) 13 Tryd.func26 rfl rfl rfl (hs) ?_; refine zr ?_; refine mP rfl ?_; refine mP rfl ?_; refine w_nilc rfl ?_; refine zf fa64_0 rfl ?_; refine zl z62 rfl (fun _ h => zc 0 rfl rfl h) ?_; refine mS rfl ?_; refine w_app [(p, _)] (W := W) (L := Lr) (news := ts.map str) slt62 (by decide) rfl hO rfl (by simp) (fun w h j u hu => by rw [Nat.zero_add]; exact zM (List.mem_cons_of_mem _ (List.mem_append_right _ hmem)) hu h) (strs_one ts) h0 (by omega) (by omega) (fun v2 W2 hO2 => ?_)
 obtain ⟨a2, c2, rfl⟩ := hO2.slice
 refine w_nilc rfl ?_; refine zf fa64_0 rfl ?_; refine w_store 0 rfl z62 rfl rfl rfl rfl rfl rfl rfl ?_; refine zn ?_; refine r_none (.inr rfl) rfl ?_; exact fun w' hw => ⟨rfl, _, W2, OwnS.more hO2, hw⟩


/-- which expressions may be written -/
def penOk (x : Ex) : Bool := exOk x || cmpOk x
def ExprP (n : Nat) : Prop := ∀ (x : Ex) (cs : List Value) (N : Nat → Prop) (y : World × (Nat → Prop)) (p : Nat) (Bs : Base) (Lr : Heap) (w : World) (xs : List Str), exW x < n → penOk x = true → exM y.1 N x cs → Apart y N → y ∈ Bs → xs.length + (exT x).length ≤ 1000000000 → Pen p xs Bs Lr w →
  Ret Tryd.prog 39 #[.pointer (some ⟨p, 0, none⟩), .agg cs.toArray] w fun u w' => u = .tuple #[] ∧ Pen p (xs ++ exT x) Bs Lr w'
theorem penOk_of {x : Ex} (h : exOk x = true) : penOk x = true := by unfold penOk; rw [h]; rfl
theorem exsOk_get {l : List Ex} {k : Nat} {x : Ex} (h : exsOk l = true) (hk : l[k]? = some x) : exOk x = true := by
 rw [exsOk_all, List.all_eq_true] at h
 exact h x (List.mem_of_getElem? hk)

set_option maxRecDepth 100000 in
set_option maxHeartbeats 400000 in
theorem kid_spec (n : Nat) (ih : ExprP n) (hN : n ≤ 10000000) (least : Nat) (x : Ex) (cs : List Value) (N : Nat → Prop) (y : World × (Nat → Prop)) (p : Nat) (Bs : Base) (Lr : Heap) (w : World) (xs : List Str) (hx : exW x < n) (hok : penOk x = true) (hm : exM y.1 N x cs) (hn : Apart y N) (hy : y ∈ Bs) (hb : xs.length + (kidT x.op (exT x) least).length ≤ 1000000000) (hP : Pen p xs Bs Lr w) :
  Ret Tryd.prog 71 #[.pointer (some ⟨p, 0, none⟩), .agg cs.toArray, .int .i64 (least : Nat)] w (fun u w' => u = .tuple #[] ∧ Pen p (xs ++ kidT x.op (exT x) least) Bs Lr w') := by
 obtain ⟨op, at_, nm, ks⟩ := x
 have hm2 := hm
 unfold exM at hm2
 obtain ⟨ka, kc, rfl, hkc, hks⟩ := hm2
 have hx2 := hx
 unfold exW at hx2
 obtain ⟨v, W, hO, hs⟩ := hP
 refine enterB (l := [_, _, _]) 23 Tryd.func71 rfl rfl rfl (hs) ?_; refine yA ?_; refine w_boxA rfl (fun t4b gt4b ut4b => ?_)
 refine yB ?_; refine zq ?_; refine yA ?_; refine zf fa49_0 rfl ?_; refine zl z5 rfl (fun _ h => zc 0 rfl rfl h) ?_; refine zC (fun w => zR Tryd.func72 rfl rfl rfl) rfl rfl (fun w h => rank_spec op w) ?_; refine mI rfl ?_; refine w_r (fun _ => R_lt rfl rfl) rfl rfl ?_; refine yB ?_; refine zD rfl (fun h2 => ?_) (fun h2 => ?_)
 ·have hr : rank (Ex.op (Ex.mk op at_ nm ks)) < least := (by simp only [Ex.op]; omega); rw [kidT, if_pos hr] at hb; simp only [List.length_append, List.length_cons, List.length_nil] at hb
  refine yA ?_; refine mP rfl ?_; refine zS slt62 (by decide) rfl rfl (fun b3 gb3 ub3 => ?_)
  refine w_pen (A := [_, _]) (Lr := Lr) ([[40]]) (fun w => zR Tryd.func26 rfl rfl rfl) rfl rfl hO (fun w h => put_spec p _ _ w _ b3 ([[40]]) (Nat.succ_pos _) (by first | omega | (simp only [List.length_append, List.length_cons, List.length_nil] at *; omega)) (.head _) h) (fun v4 W4 hO4 => ?_)
  refine yC ?_; refine mP rfl ?_; refine w_loadA z49 rfl (fun _ h => h.at_ 1 rfl) rfl ?_; refine w_pen (A := [_, _]) (Lr := Lr) (exT (Ex.mk op at_ nm ks)) (fun w => zR Tryd.func39 rfl rfl rfl) rfl rfl hO4 (fun w h => ih _ _ N y p _ _ w _ hx hok hm hn hy (by first | omega | (simp only [List.length_append, List.length_cons, List.length_nil] at *; omega)) h) (fun v5 W5 hO5 => ?_)
  refine yC ?_; refine mP rfl ?_; refine zS slt62 (by decide) rfl rfl (fun b6 gb6 ub6 => ?_)
  refine w_pen (A := [_, _, _]) (Lr := Lr) ([[41]]) (fun w => zR Tryd.func26 rfl rfl rfl) rfl rfl hO5 (fun w h => put_spec p _ _ w _ b6 ([[41]]) (Nat.succ_pos _) (by first | omega | (simp only [List.length_append, List.length_cons, List.length_nil] at *; omega)) (.head _) h) (fun v7 W7 hO7 => ?_)
  refine yB ?_; refine ze ?_; refine zt (?_)
  refine r_none (.inl rfl) rfl ?_; exact fun w' hw => ⟨rfl, PenAt.fin (A := [_, _, _]) hO7 (by rw [kidT, if_pos hr]; simp) hw⟩
 ·have hr : ¬ rank (Ex.op (Ex.mk op at_ nm ks)) < least := (by simp only [Ex.op]; omega); rw [kidT, if_neg hr] at hb
  refine zi ?_; refine zk ?_; refine zr ?_; refine mP rfl ?_; refine w_loadA z49 rfl (fun _ h => h.at_ 0 rfl) rfl ?_; refine w_pen (A := [_]) (Lr := Lr) (exT (Ex.mk op at_ nm ks)) (fun w => zR Tryd.func39 rfl rfl rfl) rfl rfl hO (fun w h => ih _ _ N y p _ _ w _ hx hok hm hn hy (by first | omega | (simp only [List.length_append, List.length_cons, List.length_nil] at *; omega)) h) (fun v8 W8 hO8 => ?_)
  refine zn ?_; refine r_none (.inr rfl) rfl ?_; exact fun w' hw => ⟨rfl, PenAt.fin (A := [_]) hO8 (by rw [kidT, if_neg hr]) hw⟩

set_option maxRecDepth 100000 in
set_option maxHeartbeats 400000 in
theorem row_spec (n : Nat) (ih : ExprP n) (hN : n ≤ 10000000) (l : List Ex) (a : Option Addr) (c : Nat) (N : Nat → Prop) (y : World × (Nat → Prop)) (p : Nat) (Bs : Base) (Lr : Heap) (w : World) (xs : List Str) (hl : ∀ x ∈ l, exW x < n) (hll : l.length ≤ 10000000) (hok : exsOk l = true) (hm : exsM y.1 N l a 0) (hn : Apart y N) (hy : y ∈ Bs) (hb : xs.length + (rowT (exsT l)).length ≤ 1000000000) (hP : Pen p xs Bs Lr w) :
  Ret Tryd.prog 49 #[.pointer (some ⟨p, 0, none⟩), .slice a l.length c] w (fun u w' => u = .tuple #[] ∧ Pen p (xs ++ rowT (exsT l)) Bs Lr w') := by
 obtain ⟨v, W, hO, hs⟩ := hP
 refine enterB (l := [_, _]) 22 Tryd.func49 rfl rfl rfl (hs) ?_; refine yA ?_; refine mS rfl ?_; refine w_r (fun _ => R_len sl36 rfl) rfl rfl ?_; refine mI rfl ?_; refine yB ?_; refine zB ?_; refine c_loop (fun m e B L => ∃ (k : Nat) (v : Value) (W : Heap), e 0 = .pointer (some ⟨p, 0, none⟩) ∧ e 6 = .slice a l.length c ∧ e 7 = .int .i64 (l.length : Nat) ∧ e 8 = .int .i64 (k : Nat) ∧ Bs = B ∧ L = (p, cel [v] 64) :: (W ++ Lr) ∧ k ≤ l.length ∧ OwnT v (xs ++ rowT (exsT (l.take k))) W ∧ m = l.length - k) _ ⟨0, v, W, rfl, rfl, rfl, rfl, rfl, rfl, Nat.zero_le _, (by simpa [exsT, rowT] using hO), rfl⟩ ?_
 rintro m e B L ⟨k, v, W, e0_1, e6_1, e7_1, e8_1, rfl, rfl, hk, hO, rfl⟩
 refine yA ?_; refine w_r (fun _ => R_lt e8_1 e7_1) rfl rfl ?_; refine yB ?_; refine zq ?_; refine zD rfl (fun h1 => ?_) (fun h1 => ?_)
 ·have hlt : k < l.length := (by omega); obtain ⟨x, hxk⟩ : ∃ x, l[k]? = some x := ⟨_, List.getElem?_eq_getElem hlt⟩; obtain ⟨cs, hA, hE⟩ := hm.get0 hxk; have hxn := hl x (List.mem_of_getElem? hxk); have hxo := exsOk_get hok hxk; have hle := rowT_le l (k + 1); have hnx := rowT_next hxk; rw [hnx] at hle; simp only [List.length_append] at hle; obtain ⟨b1, o1, rfl⟩ := hA.ptr; obtain ⟨op, at_, nm, ks⟩ := x; have hE2 := hE; unfold exM at hE2; obtain ⟨ka, kc, rfl, hkc, hks⟩ := hE2
  refine zi ?_; refine zk ?_; refine zq ?_; refine zB ?_; refine yA ?_; refine mI e8_1 ?_; refine w_r (fun _ => R_iaN (i := k) sl36 e6_1 e8_1 (by first | omega | decide)) rfl rfl ?_; refine w_loadC (l := [.int .u8 (op : Nat), .int .i64 at_, str nm, .slice ka ks.length kc]) z49 rfl rfl (fun w h j v hj => hA.cell hn hy h j v hj) ?_; refine w_alloc zr49 (fun t5b gt5b ut5b => ?_)
  refine aI rfl ?_; refine w_store 0 rfl z49 rfl rfl rfl rfl rfl rfl rfl ?_; refine yB ?_; refine zq ?_; refine yA ?_; refine mI rfl ?_; refine w_r (fun _ => R_gt rfl rfl) rfl rfl ?_; refine yB ?_; refine zD rfl (fun h3 => ?_) (fun h3 => ?_)
  ·rw [if_pos (show 0 < k by omega)] at hle; simp only [List.length_cons, List.length_nil] at hle
   refine zr ?_; refine mP e0_1 ?_; refine zS slt62 (by decide) rfl rfl (fun b4 gb4 ub4 => ?_)
   refine w_pen (A := [_, _]) (Lr := Lr) ([[44]]) (fun w => zR Tryd.func26 rfl rfl rfl) rfl rfl hO (fun w h => put_spec p _ _ w _ b4 ([[44]]) (Nat.succ_pos _) (by first | omega | (simp only [List.length_append, List.length_cons, List.length_nil] at *; omega)) (.head _) h) (fun v5 W5 hO5 => ?_)
   refine yB ?_; refine zr ?_; refine mP e0_1 ?_; refine w_loadA z49 rfl (fun _ h => h.at_ 1 rfl) rfl ?_; refine w_pen (A := [_, _]) (Lr := Lr) (exT (Ex.mk op at_ nm ks)) (fun w => zR Tryd.func39 rfl rfl rfl) rfl rfl hO5 (fun w h => ih _ _ N y p _ _ w _ hxn (penOk_of hxo) hE hn hy (by first | omega | (simp only [List.length_append, List.length_cons, List.length_nil] at *; omega)) h) (fun v6 W6 hO6 => ?_)
   refine zn ?_; refine b_on (zk ?_); refine zr ?_; refine w_r (fun _ => R_addi e8_1 rfl (by omega)) rfl rfl ?_; refine mI rfl ?_; refine zn ?_
   rw [if_pos (show 0 < k by omega)] at hnx
   refine k_st (B' := Bs) (L' := _) (fun w h => h.drop (List.sublist_append_right [_, _] _)) ?_; exact k_again _ (by omega) ⟨k + 1, _, _, e0_1, e6_1, e7_1, rfl, rfl, rfl, by omega, OwnS.eq hO6 (by rw [hnx]; simp), rfl⟩
  ·refine zi ?_; refine zk ?_; refine zr ?_; refine mP e0_1 ?_; refine w_loadA z49 rfl (fun _ h => h.at_ 0 rfl) rfl ?_; refine w_pen (A := [_]) (Lr := Lr) (exT (Ex.mk op at_ nm ks)) (fun w => zR Tryd.func39 rfl rfl rfl) rfl rfl hO (fun w h => ih _ _ N y p _ _ w _ hxn (penOk_of hxo) hE hn hy (by first | omega | (simp only [List.length_append, List.length_cons, List.length_nil] at *; omega)) h) (fun v7 W7 hO7 => ?_)
   refine zn ?_; refine b_on (zk ?_); refine zr ?_; refine w_r (fun _ => R_addi e8_1 rfl (by omega)) rfl rfl ?_; refine mI rfl ?_; refine zn ?_
   rw [if_neg (show ¬ 0 < k by omega)] at hnx
   refine k_st (B' := Bs) (L' := _) (fun w h => h.drop (List.sublist_append_right [_] _)) ?_; exact k_again _ (by omega) ⟨k + 1, _, _, e0_1, e6_1, e7_1, rfl, rfl, rfl, by omega, OwnS.eq hO7 (by rw [hnx]; simp), rfl⟩
 ·refine c_exit ?_; refine zx (zx (b_here rfl (?_)))
  refine r_none (.inr rfl) rfl ?_; exact fun w' hw => ⟨rfl, PenAt.fin (A := []) hO (by rw [List.take_of_length_le (by omega)]) hw⟩

set_option maxRecDepth 100000 in
set_option maxHeartbeats 4000000 in
theorem signs_spec (op : Nat) (h6 : 6 ≤ op) (h15 : op ≤ 15) (w : World) :
  Ret Tryd.prog 74 #[.int .u8 (op : Nat)] w (fun v w' => v = str (signs op) ∧ Ext w w') := by
 refine enter (S := No) (l := [_]) (L := []) 18 Tryd.func74 rfl rfl rfl (St.start w No) ?_; refine yA ?_; refine za (v := str _) rfl ?_; refine yC ?_; refine w_makeMap (k := .u8) (fun mb gmb umb => ?_)
 refine w_r (fun _ => R_build bt136 rfl) rfl rfl ?_; refine w_insI 0 rfl unm137 unk5 rfl rfl rfl rfl ?_; refine w_r (fun _ => R_build bt136 rfl) rfl rfl ?_; refine w_insI 0 rfl unm137 unk5 rfl rfl rfl rfl ?_; refine w_r (fun _ => R_build bt136 rfl) rfl rfl ?_; refine w_insI 0 rfl unm137 unk5 rfl rfl rfl rfl ?_; refine w_r (fun _ => R_build bt136 rfl) rfl rfl ?_; refine w_insI 0 rfl unm137 unk5 rfl rfl rfl rfl ?_; refine w_r (fun _ => R_build bt136 rfl) rfl rfl ?_; refine w_insI 0 rfl unm137 unk5 rfl rfl rfl rfl ?_; refine w_r (fun _ => R_build bt136 rfl) rfl rfl ?_; refine w_insI 0 rfl unm137 unk5 rfl rfl rfl rfl ?_; refine w_r (fun _ => R_build bt136 rfl) rfl rfl ?_; refine w_insI 0 rfl unm137 unk5 rfl rfl rfl rfl ?_; refine w_r (fun _ => R_build bt136 rfl) rfl rfl ?_; refine w_insI 0 rfl unm137 unk5 rfl rfl rfl rfl ?_
 refine w_r (fun _ => R_build bt136 rfl) rfl rfl ?_; refine w_insI 0 rfl unm137 unk5 rfl rfl rfl rfl ?_; refine w_r (fun _ => R_build bt136 rfl) rfl rfl ?_; refine w_insI 0 rfl unm137 unk5 rfl rfl rfl rfl ?_; refine zm rfl ?_
 obtain rfl | rfl | rfl | rfl | rfl | rfl | rfl | rfl | rfl | rfl : op = 6 ∨ op = 7 ∨ op = 8 ∨ op = 9 ∨ op = 10 ∨ op = 11 ∨ op = 12 ∨ op = 13 ∨ op = 14 ∨ op = 15 := by omega
 ·refine mI rfl ?_; refine w_lookI 0 (v := .agg (List.toArray [str [43]])) rfl unm137 unk5 zr136 rfl rfl rfl ?_; refine w_r (fun _ => R_fieldA fd136_0 z9 rfl rfl) rfl rfl ?_; refine za (v := str _) rfl ?_; refine yB ?_; refine ze ?_; refine zo (v := str _) rfl rfl rfl ?_; exact fun w' hw => ⟨rfl, hw.fr _ (.head _)⟩
 ·refine mI rfl ?_; refine w_lookI 0 (v := .agg (List.toArray [str [45]])) rfl unm137 unk5 zr136 rfl rfl rfl ?_; refine w_r (fun _ => R_fieldA fd136_0 z9 rfl rfl) rfl rfl ?_; refine za (v := str _) rfl ?_; refine yB ?_; refine ze ?_; refine zo (v := str _) rfl rfl rfl ?_; exact fun w' hw => ⟨rfl, hw.fr _ (.head _)⟩
 ·refine mI rfl ?_; refine w_lookI 0 (v := .agg (List.toArray [str [42]])) rfl unm137 unk5 zr136 rfl rfl rfl ?_; refine w_r (fun _ => R_fieldA fd136_0 z9 rfl rfl) rfl rfl ?_; refine za (v := str _) rfl ?_; refine yB ?_; refine ze ?_; refine zo (v := str _) rfl rfl rfl ?_; exact fun w' hw => ⟨rfl, hw.fr _ (.head _)⟩
 ·refine mI rfl ?_; refine w_lookI 0 (v := .agg (List.toArray [str [47]])) rfl unm137 unk5 zr136 rfl rfl rfl ?_; refine w_r (fun _ => R_fieldA fd136_0 z9 rfl rfl) rfl rfl ?_; refine za (v := str _) rfl ?_; refine yB ?_; refine ze ?_; refine zo (v := str _) rfl rfl rfl ?_; exact fun w' hw => ⟨rfl, hw.fr _ (.head _)⟩
 ·refine mI rfl ?_; refine w_lookI 0 (v := .agg (List.toArray [str [61, 61]])) rfl unm137 unk5 zr136 rfl rfl rfl ?_; refine w_r (fun _ => R_fieldA fd136_0 z9 rfl rfl) rfl rfl ?_; refine za (v := str _) rfl ?_; refine yB ?_; refine ze ?_; refine zo (v := str _) rfl rfl rfl ?_; exact fun w' hw => ⟨rfl, hw.fr _ (.head _)⟩
 ·refine mI rfl ?_; refine w_lookI 0 (v := .agg (List.toArray [str [33, 61]])) rfl unm137 unk5 zr136 rfl rfl rfl ?_; refine w_r (fun _ => R_fieldA fd136_0 z9 rfl rfl) rfl rfl ?_; refine za (v := str _) rfl ?_; refine yB ?_; refine ze ?_; refine zo (v := str _) rfl rfl rfl ?_; exact fun w' hw => ⟨rfl, hw.fr _ (.head _)⟩
 ·refine mI rfl ?_; refine w_lookI 0 (v := .agg (List.toArray [str [60]])) rfl unm137 unk5 zr136 rfl rfl rfl ?_; refine w_r (fun _ => R_fieldA fd136_0 z9 rfl rfl) rfl rfl ?_; refine za (v := str _) rfl ?_; refine yB ?_; refine ze ?_; refine zo (v := str _) rfl rfl rfl ?_; exact fun w' hw => ⟨rfl, hw.fr _ (.head _)⟩
 ·refine mI rfl ?_; refine w_lookI 0 (v := .agg (List.toArray [str [60, 61]])) rfl unm137 unk5 zr136 rfl rfl rfl ?_; refine w_r (fun _ => R_fieldA fd136_0 z9 rfl rfl) rfl rfl ?_; refine za (v := str _) rfl ?_; refine yB ?_; refine ze ?_; refine zo (v := str _) rfl rfl rfl ?_; exact fun w' hw => ⟨rfl, hw.fr _ (.head _)⟩
 ·refine mI rfl ?_; refine w_lookI 0 (v := .agg (List.toArray [str [62]])) rfl unm137 unk5 zr136 rfl rfl rfl ?_; refine w_r (fun _ => R_fieldA fd136_0 z9 rfl rfl) rfl rfl ?_; refine za (v := str _) rfl ?_; refine yB ?_; refine ze ?_; refine zo (v := str _) rfl rfl rfl ?_; exact fun w' hw => ⟨rfl, hw.fr _ (.head _)⟩
 ·refine mI rfl ?_; refine w_lookI 0 (v := .agg (List.toArray [str [62, 61]])) rfl unm137 unk5 zr136 rfl rfl rfl ?_; refine w_r (fun _ => R_fieldA fd136_0 z9 rfl rfl) rfl rfl ?_; refine za (v := str _) rfl ?_; refine yB ?_; refine ze ?_; refine zo (v := str _) rfl rfl rfl ?_; exact fun w' hw => ⟨rfl, hw.fr _ (.head _)⟩

set_option maxRecDepth 100000 in
set_option maxHeartbeats 1000000 in
theorem pexpr_step (n : Nat) (ih : ExprP n) (hN : n ≤ 10000000) (x : Ex) (cs : List Value) (N : Nat → Prop) (y : World × (Nat → Prop)) (p : Nat) (Bs : Base) (Lr : Heap) (w : World) (xs : List Str) (hx : exW x < n + 1) (hok : penOk x = true) (hm : exM y.1 N x cs) (hn : Apart y N) (hy : y ∈ Bs) (hb : xs.length + (exT x).length ≤ 1000000000) (hP : Pen p xs Bs Lr w) :
  Ret Tryd.prog 39 #[.pointer (some ⟨p, 0, none⟩), .agg cs.toArray] w (fun u w' => u = .tuple #[] ∧ Pen p (xs ++ exT x) Bs Lr w') := by
 obtain ⟨op, at_, nm, ks⟩ := x
 have hm2 := hm
 unfold exM at hm2
 obtain ⟨ka, kc, rfl, hkc, hks⟩ := hm2
 have hx2 := hx
 unfold exW at hx2
 obtain ⟨v, W, hO, hs⟩ := hP
 have hf := pen_facts hok
 have hkl : ∀ x ∈ ks, exW x < n := fun x hx => by have := exsW_mem hx; omega
 refine enterB (l := [_, _]) 87 Tryd.func39 rfl rfl rfl (hs) ?_; refine yA ?_; refine w_boxA rfl (fun t3b gt3b ut3b => ?_)
 refine yC ?_; refine zf fa49_0 rfl ?_; refine zl z5 rfl (fun _ h => zc 0 rfl rfl h) ?_; refine yB ?_; refine zB ?_; refine zq ?_; refine yA ?_; refine w_r (fun _ => R_eq rfl rfl) rfl rfl ?_; refine aB rfl ?_; refine yB ?_; refine zD rfl (fun h2 => ?_) (fun h2 => ?_)
 ·have heq := exT_12 (op := op) (.inl (by omega)) at_ nm ks; rw [heq] at hb; simp only [List.length_append, List.length_cons, List.length_nil] at hb
  refine zi ?_; refine zk ?_; refine zE (bT h2) ?_; refine zr ?_; refine mP rfl ?_; refine zf fa49_2 rfl ?_; refine zl z9 rfl (fun _ h => zc 0 rfl rfl h) ?_; refine zS slt62 (by decide) rfl rfl (fun b3 gb3 ub3 => ?_)
  refine w_pen (A := [_, _]) (Lr := Lr) ([nm]) (fun w => zR Tryd.func26 rfl rfl rfl) rfl rfl hO (fun w h => put_spec p _ _ w _ b3 ([nm]) (Nat.succ_pos _) (by first | omega | (simp only [List.length_append, List.length_cons, List.length_nil] at *; omega)) (.head _) h) (fun v4 W4 hO4 => ?_)
  refine zn ?_; refine b_on (?_)
  refine r_none (.inr rfl) rfl ?_; exact fun w' hw => ⟨rfl, PenAt.fin (A := [_, _]) hO4 (by first | (rw [heq]; done) | (rw [heq]; simp)) hw⟩
 ·refine zr ?_; refine w_r (fun _ => R_eq rfl rfl) rfl rfl ?_; refine aB rfl ?_; refine yB ?_; refine zD rfl (fun h5 => ?_) (fun h5 => ?_)
  ·have heq := exT_12 (op := op) (.inr (by omega)) at_ nm ks; rw [heq] at hb; simp only [List.length_append, List.length_cons, List.length_nil] at hb
   refine zr ?_; refine mP rfl ?_; refine zf fa49_2 rfl ?_; refine zl z9 rfl (fun _ h => zc 0 rfl rfl h) ?_; refine zS slt62 (by decide) rfl rfl (fun b6 gb6 ub6 => ?_)
   refine w_pen (A := [_, _]) (Lr := Lr) ([nm]) (fun w => zR Tryd.func26 rfl rfl rfl) rfl rfl hO (fun w h => put_spec p _ _ w _ b6 ([nm]) (Nat.succ_pos _) (by first | omega | (simp only [List.length_append, List.length_cons, List.length_nil] at *; omega)) (.head _) h) (fun v7 W7 hO7 => ?_)
   refine zn ?_; refine b_on (?_)
   refine r_none (.inr rfl) rfl ?_; exact fun w' hw => ⟨rfl, PenAt.fin (A := [_, _]) hO7 (by first | (rw [heq]; done) | (rw [heq]; simp)) hw⟩
  ·refine yA ?_; refine w_r (fun _ => R_eq rfl rfl) rfl rfl ?_; refine aB rfl ?_; refine yB ?_; refine zD rfl (fun h8 => ?_) (fun h8 => ?_)
   ·have heq := exT_3 (op := op) (by omega) at_ nm ks; rw [heq] at hb; simp only [List.length_append, List.length_cons, List.length_nil] at hb
    refine yA ?_; refine mP rfl ?_; refine zf fa49_2 rfl ?_; refine zl z9 rfl (fun _ h => zc 0 rfl rfl h) ?_; refine zS slt62 (by decide) rfl rfl (fun b9 gb9 ub9 => ?_)
    refine w_pen (A := [_, _]) (Lr := Lr) ([nm, [91]]) (fun w => zR Tryd.func26 rfl rfl rfl) rfl rfl hO (fun w h => put_spec p _ _ w _ b9 ([nm, [91]]) (Nat.succ_pos _) (by first | omega | (simp only [List.length_append, List.length_cons, List.length_nil] at *; omega)) (.head _) h) (fun v10 W10 hO10 => ?_)
    refine yC ?_; refine mP rfl ?_; refine zf fa49_3 rfl ?_; refine zl z36 rfl (fun _ h => zc 1 rfl rfl h) ?_; refine w_pen (A := [_, _]) (Lr := Lr) (rowT (exsT ks)) (fun w => zR Tryd.func49 rfl rfl rfl) rfl rfl hO10 (fun w h => row_spec n ih hN ks _ kc N y p _ _ w _ hkl (by omega) hf.1 hks hn hy (by first | omega | (simp only [List.length_append, List.length_cons, List.length_nil] at *; omega)) h) (fun v11 W11 hO11 => ?_)
    refine yB ?_; refine zr ?_; refine mP rfl ?_; refine zS slt62 (by decide) rfl rfl (fun b12 gb12 ub12 => ?_)
    refine w_pen (A := [_, _, _]) (Lr := Lr) ([[93]]) (fun w => zR Tryd.func26 rfl rfl rfl) rfl rfl hO11 (fun w h => put_spec p _ _ w _ b12 ([[93]]) (Nat.succ_pos _) (by first | omega | (simp only [List.length_append, List.length_cons, List.length_nil] at *; omega)) (.head _) h) (fun v13 W13 hO13 => ?_)
    refine zn ?_; refine b_on (?_)
    refine r_none (.inr rfl) rfl ?_; exact fun w' hw => ⟨rfl, PenAt.fin (A := [_, _, _]) hO13 (by first | (rw [heq]; done) | (rw [heq]; simp)) hw⟩
   ·refine yA ?_; refine w_r (fun _ => R_eq rfl rfl) rfl rfl ?_; refine aB rfl ?_; refine yB ?_; refine zD rfl (fun h14 => ?_) (fun h14 => ?_)
    ·have heq := exT_4 (op := op) (by omega) at_ nm ks; rw [heq] at hb; simp only [List.length_append, List.length_cons, List.length_nil] at hb
     refine yA ?_; refine mP rfl ?_; refine zf fa49_2 rfl ?_; refine zl z9 rfl (fun _ h => zc 0 rfl rfl h) ?_; refine zS slt62 (by decide) rfl rfl (fun b15 gb15 ub15 => ?_)
     refine w_pen (A := [_, _]) (Lr := Lr) ([nm, [40]]) (fun w => zR Tryd.func26 rfl rfl rfl) rfl rfl hO (fun w h => put_spec p _ _ w _ b15 ([nm, [40]]) (Nat.succ_pos _) (by first | omega | (simp only [List.length_append, List.length_cons, List.length_nil] at *; omega)) (.head _) h) (fun v16 W16 hO16 => ?_)
     refine yC ?_; refine mP rfl ?_; refine zf fa49_3 rfl ?_; refine zl z36 rfl (fun _ h => zc 1 rfl rfl h) ?_; refine w_pen (A := [_, _]) (Lr := Lr) (rowT (exsT ks)) (fun w => zR Tryd.func49 rfl rfl rfl) rfl rfl hO16 (fun w h => row_spec n ih hN ks _ kc N y p _ _ w _ hkl (by omega) hf.1 hks hn hy (by first | omega | (simp only [List.length_append, List.length_cons, List.length_nil] at *; omega)) h) (fun v17 W17 hO17 => ?_)
     refine yB ?_; refine zr ?_; refine mP rfl ?_; refine zS slt62 (by decide) rfl rfl (fun b18 gb18 ub18 => ?_)
     refine w_pen (A := [_, _, _]) (Lr := Lr) ([[41]]) (fun w => zR Tryd.func26 rfl rfl rfl) rfl rfl hO17 (fun w h => put_spec p _ _ w _ b18 ([[41]]) (Nat.succ_pos _) (by first | omega | (simp only [List.length_append, List.length_cons, List.length_nil] at *; omega)) (.head _) h) (fun v19 W19 hO19 => ?_)
     refine zn ?_; refine b_on (?_)
     refine r_none (.inr rfl) rfl ?_; exact fun w' hw => ⟨rfl, PenAt.fin (A := [_, _, _]) hO19 (by first | (rw [heq]; done) | (rw [heq]; simp)) hw⟩
    ·refine yA ?_; refine w_r (fun _ => R_eq rfl rfl) rfl rfl ?_; refine aB rfl ?_; refine yB ?_; refine zD rfl (fun h20 => ?_) (fun h20 => ?_)
     ·have hk2 := hf.2.1 (by omega); obtain ⟨x0, hx0⟩ : ∃ x, ks[0]? = some x := ⟨_, List.getElem?_eq_getElem (by omega)⟩; have ho0 := exsOk_get hf.1 hx0; have hw0 := exsW_mem (List.mem_of_getElem? hx0); obtain ⟨cs0, hA0, hE0⟩ := hks.get0 hx0; have hcl0 := exM_len hE0; obtain ⟨b0, o0, rfl⟩ := hA0.ptr; have heq := exT_5 (op := op) (by omega) at_ nm hx0; rw [heq] at hb; simp only [List.length_append, List.length_cons, List.length_nil] at hb
      refine yA ?_; refine mP rfl ?_; refine zS slt62 (by decide) rfl rfl (fun b21 gb21 ub21 => ?_)
      refine w_pen (A := [_, _]) (Lr := Lr) ([[45]]) (fun w => zR Tryd.func26 rfl rfl rfl) rfl rfl hO (fun w h => put_spec p _ _ w _ b21 ([[45]]) (Nat.succ_pos _) (by first | omega | (simp only [List.length_append, List.length_cons, List.length_nil] at *; omega)) (.head _) h) (fun v22 W22 hO22 => ?_)
      refine yB ?_; refine c_held (St Bs [(t3b, cel [.int .u8 (op : Nat), .int .i64 at_, str nm, .slice (some ⟨b0, o0, none⟩) ks.length kc] 49)]) mixed ?_; refine zh 0 rfl (by kernel_rfl) rfl rfl (fun w h => h.drop (.cons _ (.cons_cons _ (List.nil_sublist _)))) (fun w h => R_move rfl) ?_; refine zh 1 rfl (by kernel_rfl) rfl rfl (fun w h => h.drop (.cons _ (.cons_cons _ (List.nil_sublist _)))) (fun w h => R_fa fa49_3 rfl) ?_; refine zh 2 rfl (by kernel_rfl) rfl rfl (fun w h => h.drop (.cons _ (.cons_cons _ (List.nil_sublist _)))) (fun w h => R_ld1 z36 rfl (zc 0 rfl rfl h)) ?_; refine zh 3 rfl (by kernel_rfl) rfl rfl (fun w h => h.drop (.cons _ (.cons_cons _ (List.nil_sublist _)))) (fun w h => R_iaN (i := 0) sl36 rfl rfl (by first | omega | decide)) ?_
      refine zh 4 rfl (by kernel_rfl) rfl rfl (fun w h => h.drop (.cons _ (.cons_cons _ (List.nil_sublist _)))) (fun w h => R_ldA z49 rfl hcl0 (fun j v hj => hA0.cell hn hy h j v hj)) ?_; refine zh 5 rfl (by kernel_rfl) rfl rfl (fun w h => h.drop (.cons _ (.cons_cons _ (List.nil_sublist _)))) (fun w h => R_fa fa49_0 rfl) ?_; refine zh 6 rfl (by kernel_rfl) rfl rfl (fun w h => h.drop (.cons _ (.cons_cons _ (List.nil_sublist _)))) (fun w h => R_ld1 z5 rfl (zc 0 rfl rfl h)) ?_; refine h_pure 7 rfl (by kernel_rfl) rfl rfl (fun w h => h.drop (.cons _ (.cons_cons _ (List.nil_sublist _)))) (fun w => zR Tryd.func72 rfl rfl rfl) (fun w h => rank_spec op w) ?_
      refine h_pen (A := [_, _]) (Lr := Lr) (kidT x0.op (exT x0) (rank op)) 8 rfl (by kernel_rfl) rfl rfl (fun w h => h.drop (.cons _ (.cons_cons _ (List.nil_sublist _)))) (fun w => zR Tryd.func71 rfl rfl rfl) hO22 (fun w h => kid_spec n ih hN (rank op) _ _ N y p _ _ w _ (by omega) (penOk_of ho0) hE0 hn hy (by first | omega | (simp only [List.length_append, List.length_cons, List.length_nil] at *; omega)) h) (fun v23 W23 hO23 => ?_)
      refine h_done (by kernel_rfl) (fun w h => h.drop (.cons _ (.cons_cons _ (List.nil_sublist _)))) ?_; refine b_on (?_)
      refine r_none (.inr rfl) rfl ?_; exact fun w' hw => ⟨rfl, PenAt.fin (A := [_, _]) hO23 (by first | (rw [heq]; done) | (rw [heq]; simp)) hw⟩
     ·have h6 : 6 ≤ op := (by omega); have hk2 := hf.2.2.1 (by omega); have h15 := hk2.2; have hk2 := hk2.1; obtain ⟨x0, hx0⟩ : ∃ x, ks[0]? = some x := ⟨_, List.getElem?_eq_getElem (by omega)⟩; have ho0 := exsOk_get hf.1 hx0; have hw0 := exsW_mem (List.mem_of_getElem? hx0); obtain ⟨cs0, hA0, hE0⟩ := hks.get0 hx0; have hcl0 := exM_len hE0; obtain ⟨b0, o0, rfl⟩ := hA0.ptr; obtain ⟨x1, hx1⟩ : ∃ x, ks[1]? = some x := ⟨_, List.getElem?_eq_getElem (by omega)⟩; have ho1 := exsOk_get hf.1 hx1; have hw1 := exsW_mem (List.mem_of_getElem? hx1); obtain ⟨cs1, hA1, hE1⟩ := hks.get0 hx1; have hcl1 := exM_len hE1; have heq := exT_two h6 at_ nm hx0 hx1; rw [heq] at hb; simp only [List.length_append, List.length_cons, List.length_nil] at hb
      refine yA ?_; refine zf fa49_0 rfl ?_; refine zl z5 rfl (fun _ h => zc 0 rfl rfl h) ?_; refine zC (fun w => zR Tryd.func72 rfl rfl rfl) rfl rfl (fun w h => rank_spec op w) ?_; refine aI rfl ?_; refine yB ?_; refine c_cut (fun e B L => e 0 = .pointer (some ⟨p, 0, none⟩) ∧ e 3 = .pointer (some ⟨t3b, 0, none⟩) ∧ e 4 = .int .i64 (low op : Nat) ∧ Bs = B ∧ L = (t3b, cel [.int .u8 (op : Nat), .int .i64 at_, str nm, .slice (some ⟨b0, o0, none⟩) ks.length kc] 49) :: (p, cel [v] 64) :: (W ++ Lr)) ?_ ?_
      ·refine yA ?_; refine zf fa49_0 rfl ?_; refine zl z5 rfl (fun _ h => zc 0 rfl rfl h) ?_; refine zC (fun w => zR Tryd.func73 rfl rfl rfl) rfl rfl (fun w h => compares_spec op w) ?_; refine yB ?_; refine c_cond rfl (fun h24 => ?_) (fun h24 => ?_)
       ·refine zr ?_; refine aI rfl ?_; refine zn ?_; exact k_mid ⟨rfl, rfl, (congrArg (Value.int .i64) (low_yes h24)), rfl, rfl⟩
       ·refine zi ?_; exact k_mid ⟨rfl, rfl, (congrArg (Value.int .i64) (low_no h24)), rfl, rfl⟩
      rintro e B L ⟨e0_1, e3_1, e4_1, rfl, rfl⟩
      have hlw := low_le op
      refine yA ?_; refine mP e0_1 ?_; refine zf fa49_3 e3_1 ?_; refine zl z36 rfl (fun _ h => zc 0 rfl rfl h) ?_; refine w_r (fun _ => R_iaN (i := 0) sl36 rfl rfl (by first | omega | decide)) rfl rfl ?_; refine w_loadC (l := cs0) z49 rfl hcl0 (fun w h j v hj => hA0.cell hn hy h j v hj) ?_; refine mI e4_1 ?_; refine w_pen (A := [_]) (Lr := Lr) (kidT x0.op (exT x0) (low op)) (fun w => zR Tryd.func71 rfl rfl rfl) rfl rfl hO (fun w h => kid_spec n ih hN (low op) _ _ N y p _ _ w _ (by omega) (penOk_of ho0) hE0 hn hy (by first | omega | (simp only [List.length_append, List.length_cons, List.length_nil] at *; omega)) h) (fun v25 W25 hO25 => ?_)
      refine yC ?_; refine mP e0_1 ?_; refine zf fa49_0 e3_1 ?_; refine zl z5 rfl (fun _ h => zc 0 rfl rfl h) ?_; refine zC (fun w => zR Tryd.func74 rfl rfl rfl) rfl rfl (fun w h => signs_spec op (by omega) (by omega) w) ?_; refine zS slt62 (by decide) rfl rfl (fun b26 gb26 ub26 => ?_)
      refine w_pen (A := [_, _]) (Lr := Lr) ([signs op]) (fun w => zR Tryd.func26 rfl rfl rfl) rfl rfl hO25 (fun w h => put_spec p _ _ w _ b26 ([signs op]) (Nat.succ_pos _) (by first | omega | (simp only [List.length_append, List.length_cons, List.length_nil] at *; omega)) (.head _) h) (fun v27 W27 hO27 => ?_)
      refine yB ?_; refine zr ?_; refine mP e0_1 ?_; refine zf fa49_3 e3_1 ?_; refine zl z36 rfl (fun _ h => zc 1 rfl rfl h) ?_; refine w_r (fun _ => R_iaN (i := 1) sl36 rfl rfl (by first | omega | decide)) rfl rfl ?_; refine w_loadC (l := cs1) z49 rfl hcl1 (fun w h j v hj => hA1.cell hn hy h j v hj) ?_; refine mI e4_1 ?_; refine w_r (fun _ => R_addi rfl rfl (by omega)) rfl rfl ?_; refine mI e4_1 ?_; refine w_r (fun _ => R_muli rfl rfl (by omega)) rfl rfl ?_; refine w_r (v := .int .i64 ((min (low op + 1) (low op * 9) : Nat))) (fun _ => R_minE rfl rfl (low_min (low op))) rfl rfl ?_
      refine w_pen (A := [_, _]) (Lr := Lr) (kidT x1.op (exT x1) (min (low op + 1) (low op * 9))) (fun w => zR Tryd.func71 rfl rfl rfl) rfl rfl hO27 (fun w h => kid_spec n ih hN (min (low op + 1) (low op * 9)) _ _ N y p _ _ w _ (by omega) (penOk_of ho1) hE1 hn hy (by first | omega | (simp only [List.length_append, List.length_cons, List.length_nil] at *; omega)) h) (fun v28 W28 hO28 => ?_)
      refine zn ?_; refine b_on (?_)
      refine r_none (.inr rfl) rfl ?_; exact fun w' hw => ⟨rfl, PenAt.fin (A := [_, _]) hO28 (by first | (rw [heq]; done) | (rw [heq]; simp)) hw⟩
end Go.Proofs.YtcmcdgkjipnfnaaDoor
end

section
namespace Go.Proofs.YtcmcdgkjipnfnaaDoor
open Go.RowKit Go.Sx
open Go.Tok Go.Tree


theorem pexpr_all : ∀ n : Nat, n ≤ 10000000 → ExprP n
  | 0, _ => fun _ _ _ _ _ _ _ _ _ h => absurd h (Nat.not_lt_zero _)
  | n + 1, hn => pexpr_step n (pexpr_all n (by omega)) (by omega)
theorem pexpr_ok : ExprP 10000000 := pexpr_all _ (Nat.le_refl _)
def StmtP (n : Nat) : Prop := ∀ (x : Sm) (cs : List Value) (N : Nat → Prop) (y : World × (Nat → Prop)) (p : Nat) (B : Base) (Lr : Heap) (w : World) (xs : List Str), smW x < n → smOk x = true → smM y.1 N x cs → Apart y N → y ∈ B → xs.length + (smT x).length ≤ 1000000000 → Pen p xs B Lr w →
    Ret Tryd.prog 29 #[.pointer (some ⟨p, 0, none⟩), .agg cs.toArray] w fun u w' => u = .tuple #[] ∧ Pen p (xs ++ smT x) B Lr w'

set_option maxRecDepth 100000 in
set_option maxHeartbeats 400000 in
theorem body_spec (n : Nat) (ih : StmtP n) (hN : n ≤ 10000000) (l : List Sm) (a : Option Addr) (c : Nat) (N : Nat → Prop) (y : World × (Nat → Prop)) (p : Nat) (Bs : Base) (Lr : Heap) (w : World) (xs : List Str) (hl : ∀ x ∈ l, smW x < n) (hll : l.length ≤ 10000000) (hok : smsOk l = true) (hm : smsM y.1 N l a 0) (hn : Apart y N) (hy : y ∈ Bs) (hb : xs.length + (bodyT (smsT l)).length ≤ 1000000000) (hP : Pen p xs Bs Lr w) :
    Ret Tryd.prog 51 #[.pointer (some ⟨p, 0, none⟩), .slice a l.length c] w (fun u w' => u = .tuple #[] ∧ Pen p (xs ++ bodyT (smsT l)) Bs Lr w') := by
  obtain ⟨v, W, hO, hs⟩ := hP
  have hb0 := hb
  simp only [bodyT, List.length_append, List.length_cons, List.length_nil] at hb
  refine enterB (l := [_, _]) 22 Tryd.func51 rfl rfl rfl (hs) ?_; refine yA ?_; refine mP rfl ?_; refine zS slt62 (by decide) rfl rfl (fun b1 gb1 ub1 => ?_)
  refine w_pen (A := [_]) (Lr := Lr) ([[123]]) (fun w => zR Tryd.func26 rfl rfl rfl) rfl rfl hO (fun w h => put_spec p _ _ w _ b1 ([[123]]) (Nat.succ_pos _) (by first | omega | (simp only [List.length_append, List.length_cons, List.length_nil] at *; omega)) (.head _) h) (fun v2 W2 hO2 => ?_)
  refine yB ?_; refine zq ?_; refine yA ?_; refine mS rfl ?_; refine w_r (fun _ => R_len sl25 rfl) rfl rfl ?_; refine mI rfl ?_; refine yB ?_; refine zB ?_; refine c_st (B' := Bs) (L' := _) (fun w h => h.drop (List.sublist_append_right [_] _)) ?_; refine c_loop (fun m e B L => ∃ (k : Nat) (v : Value) (W : Heap), e 0 = .pointer (some ⟨p, 0, none⟩) ∧ e 9 = .slice a l.length c ∧ e 10 = .int .i64 (l.length : Nat) ∧ e 11 = .int .i64 (k : Nat) ∧ Bs = B ∧ L = (p, cel [v] 64) :: (W ++ Lr) ∧ k ≤ l.length ∧ OwnT v (xs ++ [[123]] ++ (smsT (l.take k)).flatten) W ∧ m = l.length - k) _ ⟨0, _, _, rfl, rfl, rfl, rfl, rfl, rfl, Nat.zero_le _, OwnS.eq hO2 (by simp [smsT]), rfl⟩ ?_
  rintro m e B L ⟨k, v, W, e0_1, e9_1, e10_1, e11_1, rfl, rfl, hk, hO, rfl⟩
  refine yA ?_; refine w_r (fun _ => R_lt e11_1 e10_1) rfl rfl ?_; refine yB ?_; refine zq ?_; refine zD rfl (fun h3 => ?_) (fun h3 => ?_)
  · have hlt : k < l.length := (by omega); obtain ⟨x, hxk⟩ : ∃ x, l[k]? = some x := ⟨_, List.getElem?_eq_getElem hlt⟩; obtain ⟨cs, hA, hE⟩ := hm.get0 hxk; have hxn := hl x (List.mem_of_getElem? hxk); have hxo := smsOk_get hok hxk; have hle := smsT_le l (k + 1); have hnx := smsT_next hxk; rw [hnx] at hle; simp only [List.length_append] at hle; obtain ⟨b1, o1, rfl⟩ := hA.ptr; obtain ⟨op, at_, nm, ks, bo, el⟩ := x; have hE2 := hE; unfold smM at hE2; obtain ⟨ka, kc, ba, bc, ea, ec, rfl, hkc, hks, hbo, hel⟩ := hE2
    refine zi ?_; refine zk ?_; refine zq ?_; refine zB ?_; refine yA ?_; refine w_r (fun _ => R_iaN (i := k) sl25 e9_1 e11_1 (by first | omega | decide)) rfl rfl ?_; refine w_loadC (l := [.int .u8 (op : Nat), .int .i64 at_, str nm, .slice ka ks.length kc, .slice ba bo.length bc, .slice ea el.length ec]) z38 rfl rfl (fun w h j v hj => hA.cell hn hy h j v hj) ?_; refine w_alloc zr38 (fun t5b gt5b ut5b => ?_)
    refine w_store 0 rfl z38 rfl rfl rfl rfl rfl rfl rfl ?_; refine yB ?_; refine zr ?_; refine mP e0_1 ?_; refine w_loadA z38 rfl (fun _ h => h.at_ 0 rfl) rfl ?_; refine w_pen (A := [_]) (Lr := Lr) (smT (Sm.mk op at_ nm ks bo el)) (fun w => zR Tryd.func29 rfl rfl rfl) rfl rfl hO (fun w h => ih _ _ N y p _ _ w _ hxn hxo hE hn hy (by first | omega | (simp only [List.length_append, List.length_cons, List.length_nil] at *; omega)) h) (fun v5 W5 hO5 => ?_)
    refine zn ?_; refine b_on (zk ?_); refine zr ?_; refine w_r (fun _ => R_addi e11_1 rfl (by omega)) rfl rfl ?_; refine mI rfl ?_; refine zn ?_; refine k_st (B' := Bs) (L' := _) (fun w h => h.drop (List.sublist_append_right [_] _)) ?_; exact k_again _ (by omega) ⟨k + 1, _, _, e0_1, e9_1, e10_1, rfl, rfl, rfl, by omega, OwnS.eq hO5 (by rw [hnx]; simp), rfl⟩
  · have hle := smsT_le l k
    refine c_exit ?_; refine zx (zx (b_here rfl (zk ?_))); refine zr ?_; refine mP e0_1 ?_; refine zS slt62 (by decide) rfl rfl (fun b6 gb6 ub6 => ?_)
    refine w_pen (A := [_]) (Lr := Lr) ([[125]]) (fun w => zR Tryd.func26 rfl rfl rfl) rfl rfl hO (fun w h => put_spec p _ _ w _ b6 ([[125]]) (Nat.succ_pos _) (by first | omega | (simp only [List.length_append, List.length_cons, List.length_nil] at *; omega)) (.head _) h) (fun v7 W7 hO7 => ?_)
    refine zn ?_; refine r_none (.inr rfl) rfl ?_; exact fun w' hw => ⟨rfl, PenAt.fin (A := [_]) hO7 (by rw [List.take_of_length_le (by omega)]; simp [bodyT]) hw⟩

set_option maxRecDepth 100000 in
set_option maxHeartbeats 4000000 in
theorem pstmt_step (n : Nat) (ih : StmtP n) (hN : n ≤ 10000000) (x : Sm) (cs : List Value) (N : Nat → Prop) (y : World × (Nat → Prop)) (p : Nat) (Bs : Base) (Lr : Heap) (w : World) (xs : List Str) (hx : smW x < n + 1) (hok : smOk x = true) (hm : smM y.1 N x cs) (hn : Apart y N) (hy : y ∈ Bs) (hb : xs.length + (smT x).length ≤ 1000000000) (hP : Pen p xs Bs Lr w) :
    Ret Tryd.prog 29 #[.pointer (some ⟨p, 0, none⟩), .agg cs.toArray] w (fun u w' => u = .tuple #[] ∧ Pen p (xs ++ smT x) Bs Lr w') := by
  obtain ⟨op, at_, nm, ks, bo, el⟩ := x
  have hm2 := hm
  unfold smM at hm2
  obtain ⟨ka, kc, ba, bc, ea, ec, rfl, hkc, hks, hbo, hel⟩ := hm2
  have hx2 := hx
  unfold smW at hx2
  obtain ⟨v, W, hO, hs⟩ := hP
  have hf := sm_facts hok
  have hbl : ∀ x ∈ bo, smW x < n := fun x hx => by have := smsW_mem hx; omega
  have hll2 : ∀ x ∈ el, smW x < n := fun x hx => by have := smsW_mem hx; omega
  refine enterB (l := [_, _]) 142 Tryd.func29 rfl rfl rfl (hs) ?_; refine yA ?_; refine w_boxA rfl (fun t3b gt3b ut3b => ?_)
  refine yC ?_; refine zf fa38_0 rfl ?_
  obtain ⟨rfl, hk1⟩ | ⟨rfl, hk1⟩ | rfl | rfl | rfl | rfl | rfl : (op = 1 ∧ ks.length = 1) ∨ (op = 1 ∧ ks.length = 2) ∨ op = 2 ∨ op = 3 ∨ op = 4 ∨ op = 5 ∨ op = 6 := by have := hf.2.1; omega
  · have hek := hf.1 (by decide); have hlast : (ks.length : Int) - 1 = ((ks.length - 1 : Nat) : Int) := (by omega); obtain ⟨x0, hx0⟩ : ∃ x, ks[0]? = some x := ⟨_, List.getElem?_eq_getElem (by omega)⟩; have hw0 := exsW_mem (List.mem_of_getElem? hx0); obtain ⟨cs0, hA0, hE0⟩ := hks.get0 hx0; have hcl0 := exM_len hE0; have ho0 := penOk_of (exsOk_get hek hx0); obtain ⟨x1, hx1⟩ : ∃ x, ks[ks.length - 1]? = some x := ⟨_, List.getElem?_eq_getElem (by omega)⟩; have hw1 := exsW_mem (List.mem_of_getElem? hx1); obtain ⟨cs1, hA1, hE1⟩ := hks.get0 hx1; have hcl1 := exM_len hE1; have ho1 := penOk_of (exsOk_get hek hx1); obtain ⟨b0, o0, rfl⟩ := hA0.ptr; have hx2 := hx1; rw [show ks.length - 1 = 0 by omega, hx0] at hx2; have hxe := Option.some.inj hx2; have heq := smT_1b at_ nm ks bo el hk1 hx0; rw [heq] at hb; simp only [List.length_append, List.length_cons, List.length_nil] at hb; rw [hxe] at heq hb
    refine zl z5 rfl (fun _ h => zc 0 rfl rfl h) ?_; refine yB ?_; refine zB ?_; refine yA ?_; refine w_r (fun _ => R_eq rfl rfl) rfl rfl ?_; refine aB rfl ?_; refine yB ?_; refine zE (congrArg Value.bool (decide_eq_true (by decide))) ?_; refine yA ?_; refine mP rfl ?_; refine zf fa38_2 rfl ?_; refine zl z9 rfl (fun _ h => zc 0 rfl rfl h) ?_; refine zS slt62 (by decide) rfl rfl (fun b2 gb2 ub2 => ?_)
    refine w_pen (A := [_, _]) (Lr := Lr) ([nm]) (fun w => zR Tryd.func26 rfl rfl rfl) rfl rfl hO (fun w h => put_spec p _ _ w _ b2 ([nm]) (Nat.succ_pos _) (by first | omega | (simp only [List.length_append, List.length_cons, List.length_nil] at *; omega)) (.head _) h) (fun v3 W3 hO3 => ?_)
    refine yC ?_; refine zf fa38_3 rfl ?_; refine zl z36 rfl (fun _ h => zc 1 rfl rfl h) ?_; refine w_r (fun _ => R_len sl36 rfl) rfl rfl ?_; refine w_r (fun _ => R_subi rfl rfl (by omega)) rfl rfl ?_; refine aI (congrArg (Value.int .i64) hlast) ?_; refine yB ?_; refine zq ?_; refine yA ?_; refine mI rfl ?_; refine w_r (fun _ => R_gt rfl rfl) rfl rfl ?_; refine yB ?_; refine zD rfl (fun h4 => ?_) (fun h4 => ?_)
    · exfalso; omega
    · refine zi ?_; refine zk ?_; refine yA ?_; refine mP rfl ?_; refine zS slt62 (by decide) rfl rfl (fun b5 gb5 ub5 => ?_)
      refine w_pen (A := [_, _, _]) (Lr := Lr) ([[61]]) (fun w => zR Tryd.func26 rfl rfl rfl) rfl rfl hO3 (fun w h => put_spec p _ _ w _ b5 ([[61]]) (Nat.succ_pos _) (by first | omega | (simp only [List.length_append, List.length_cons, List.length_nil] at *; omega)) (.head _) h) (fun v6 W6 hO6 => ?_)
      refine yC ?_; refine mP rfl ?_; refine zf fa38_3 rfl ?_; refine zl z36 rfl (fun _ h => zc 2 rfl rfl h) ?_; refine mI rfl ?_; refine w_r (fun _ => R_iaN (i := (ks.length - 1)) sl36 rfl rfl (by first | omega | decide)) rfl rfl ?_; refine w_loadC (l := cs1) z49 rfl hcl1 (fun w h j v hj => hA1.cell hn hy h j v hj) ?_; refine w_pen (A := [_, _, _]) (Lr := Lr) (exT x1) (fun w => zR Tryd.func39 rfl rfl rfl) rfl rfl hO6 (fun w h => pexpr_ok _ _ N y p _ _ w _ (by omega) ho1 hE1 hn hy (by first | omega | (simp only [List.length_append, List.length_cons, List.length_nil] at *; omega)) h) (fun v7 W7 hO7 => ?_)
      refine yB ?_; refine zr ?_; refine mP rfl ?_; refine zS slt62 (by decide) rfl rfl (fun b8 gb8 ub8 => ?_)
      refine w_pen (A := [_, _, _, _]) (Lr := Lr) ([[59]]) (fun w => zR Tryd.func26 rfl rfl rfl) rfl rfl hO7 (fun w h => put_spec p _ _ w _ b8 ([[59]]) (Nat.succ_pos _) (by first | omega | (simp only [List.length_append, List.length_cons, List.length_nil] at *; omega)) (.head _) h) (fun v9 W9 hO9 => ?_)
      refine zn ?_; refine b_on (?_)
      refine r_none (.inr rfl) rfl ?_; exact fun w' hw => ⟨rfl, PenAt.fin (A := [_, _, _, _]) hO9 (by first | (rw [heq]; done) | (rw [heq]; simp)) hw⟩
  · have hek := hf.1 (by decide); have hlast : (ks.length : Int) - 1 = ((ks.length - 1 : Nat) : Int) := (by omega); obtain ⟨x0, hx0⟩ : ∃ x, ks[0]? = some x := ⟨_, List.getElem?_eq_getElem (by omega)⟩; have hw0 := exsW_mem (List.mem_of_getElem? hx0); obtain ⟨cs0, hA0, hE0⟩ := hks.get0 hx0; have hcl0 := exM_len hE0; have ho0 := penOk_of (exsOk_get hek hx0); obtain ⟨x1, hx1⟩ : ∃ x, ks[ks.length - 1]? = some x := ⟨_, List.getElem?_eq_getElem (by omega)⟩; have hw1 := exsW_mem (List.mem_of_getElem? hx1); obtain ⟨cs1, hA1, hE1⟩ := hks.get0 hx1; have hcl1 := exM_len hE1; have ho1 := penOk_of (exsOk_get hek hx1); obtain ⟨b0, o0, rfl⟩ := hA0.ptr; have hx2 := hx1; rw [show ks.length - 1 = 1 by omega] at hx2; have heq := smT_1 at_ nm ks bo el hk1 hx0 hx2; rw [heq] at hb; simp only [List.length_append, List.length_cons, List.length_nil] at hb
    refine zl z5 rfl (fun _ h => zc 0 rfl rfl h) ?_; refine yB ?_; refine zB ?_; refine yA ?_; refine w_r (fun _ => R_eq rfl rfl) rfl rfl ?_; refine aB rfl ?_; refine yB ?_; refine zE (congrArg Value.bool (decide_eq_true (by decide))) ?_; refine yA ?_; refine mP rfl ?_; refine zf fa38_2 rfl ?_; refine zl z9 rfl (fun _ h => zc 0 rfl rfl h) ?_; refine zS slt62 (by decide) rfl rfl (fun b10 gb10 ub10 => ?_)
    refine w_pen (A := [_, _]) (Lr := Lr) ([nm]) (fun w => zR Tryd.func26 rfl rfl rfl) rfl rfl hO (fun w h => put_spec p _ _ w _ b10 ([nm]) (Nat.succ_pos _) (by first | omega | (simp only [List.length_append, List.length_cons, List.length_nil] at *; omega)) (.head _) h) (fun v11 W11 hO11 => ?_)
    refine yC ?_; refine zf fa38_3 rfl ?_; refine zl z36 rfl (fun _ h => zc 1 rfl rfl h) ?_; refine w_r (fun _ => R_len sl36 rfl) rfl rfl ?_; refine w_r (fun _ => R_subi rfl rfl (by omega)) rfl rfl ?_; refine aI (congrArg (Value.int .i64) hlast) ?_; refine yB ?_; refine zq ?_; refine yA ?_; refine mI rfl ?_; refine w_r (fun _ => R_gt rfl rfl) rfl rfl ?_; refine yB ?_; refine zD rfl (fun h12 => ?_) (fun h12 => ?_)
    · refine yA ?_; refine mP rfl ?_; refine zS slt62 (by decide) rfl rfl (fun b13 gb13 ub13 => ?_)
      refine w_pen (A := [_, _, _]) (Lr := Lr) ([[91]]) (fun w => zR Tryd.func26 rfl rfl rfl) rfl rfl hO11 (fun w h => put_spec p _ _ w _ b13 ([[91]]) (Nat.succ_pos _) (by first | omega | (simp only [List.length_append, List.length_cons, List.length_nil] at *; omega)) (.head _) h) (fun v14 W14 hO14 => ?_)
      refine yC ?_; refine mP rfl ?_; refine zf fa38_3 rfl ?_; refine zl z36 rfl (fun _ h => zc 2 rfl rfl h) ?_; refine w_r (fun _ => R_iaN (i := 0) sl36 rfl rfl (by first | omega | decide)) rfl rfl ?_; refine w_loadC (l := cs0) z49 rfl hcl0 (fun w h j v hj => hA0.cell hn hy h j v hj) ?_; refine w_pen (A := [_, _, _]) (Lr := Lr) (exT x0) (fun w => zR Tryd.func39 rfl rfl rfl) rfl rfl hO14 (fun w h => pexpr_ok _ _ N y p _ _ w _ (by omega) ho0 hE0 hn hy (by first | omega | (simp only [List.length_append, List.length_cons, List.length_nil] at *; omega)) h) (fun v15 W15 hO15 => ?_)
      refine yB ?_; refine zr ?_; refine mP rfl ?_; refine zS slt62 (by decide) rfl rfl (fun b16 gb16 ub16 => ?_)
      refine w_pen (A := [_, _, _, _]) (Lr := Lr) ([[93]]) (fun w => zR Tryd.func26 rfl rfl rfl) rfl rfl hO15 (fun w h => put_spec p _ _ w _ b16 ([[93]]) (Nat.succ_pos _) (by first | omega | (simp only [List.length_append, List.length_cons, List.length_nil] at *; omega)) (.head _) h) (fun v17 W17 hO17 => ?_)
      refine yC ?_; refine mP rfl ?_; refine zS slt62 (by decide) rfl rfl (fun b18 gb18 ub18 => ?_)
      refine w_pen (A := [_, _, _, _, _]) (Lr := Lr) ([[61]]) (fun w => zR Tryd.func26 rfl rfl rfl) rfl rfl hO17 (fun w h => put_spec p _ _ w _ b18 ([[61]]) (Nat.succ_pos _) (by first | omega | (simp only [List.length_append, List.length_cons, List.length_nil] at *; omega)) (.head _) h) (fun v19 W19 hO19 => ?_)
      refine yC ?_; refine mP rfl ?_; refine zf fa38_3 rfl ?_; refine zl z36 rfl (fun _ h => zc 4 rfl rfl h) ?_; refine mI rfl ?_; refine w_r (fun _ => R_iaN (i := (ks.length - 1)) sl36 rfl rfl (by first | omega | decide)) rfl rfl ?_; refine w_loadC (l := cs1) z49 rfl hcl1 (fun w h j v hj => hA1.cell hn hy h j v hj) ?_; refine w_pen (A := [_, _, _, _, _]) (Lr := Lr) (exT x1) (fun w => zR Tryd.func39 rfl rfl rfl) rfl rfl hO19 (fun w h => pexpr_ok _ _ N y p _ _ w _ (by omega) ho1 hE1 hn hy (by first | omega | (simp only [List.length_append, List.length_cons, List.length_nil] at *; omega)) h) (fun v20 W20 hO20 => ?_)
      refine yB ?_; refine zr ?_; refine mP rfl ?_; refine zS slt62 (by decide) rfl rfl (fun b21 gb21 ub21 => ?_)
      refine w_pen (A := [_, _, _, _, _, _]) (Lr := Lr) ([[59]]) (fun w => zR Tryd.func26 rfl rfl rfl) rfl rfl hO20 (fun w h => put_spec p _ _ w _ b21 ([[59]]) (Nat.succ_pos _) (by first | omega | (simp only [List.length_append, List.length_cons, List.length_nil] at *; omega)) (.head _) h) (fun v22 W22 hO22 => ?_)
      refine zn ?_; refine b_on (?_)
      refine r_none (.inr rfl) rfl ?_; exact fun w' hw => ⟨rfl, PenAt.fin (A := [_, _, _, _, _, _]) hO22 (by first | (rw [heq]; done) | (rw [heq]; simp)) hw⟩
    · exfalso; omega
  · have hk1 := hf.2.2.1 rfl; have hek := hf.1 (by decide); obtain ⟨x0, hx0⟩ : ∃ x, ks[0]? = some x := ⟨_, List.getElem?_eq_getElem (by omega)⟩; have hw0 := exsW_mem (List.mem_of_getElem? hx0); obtain ⟨cs0, hA0, hE0⟩ := hks.get0 hx0; have hcl0 := exM_len hE0; have ho0 := penOk_of (exsOk_get hek hx0); obtain ⟨b0, o0, rfl⟩ := hA0.ptr; have heq := smT_2 at_ nm ks bo el hx0; rw [heq] at hb; simp only [List.length_append, List.length_cons, List.length_nil] at hb
    refine zl z5 rfl (fun _ h => zc 0 rfl rfl h) ?_; refine yB ?_; refine zB ?_; refine yA ?_; refine w_r (fun _ => R_eq rfl rfl) rfl rfl ?_; refine aB rfl ?_; refine yB ?_; refine c_condF (congrArg Value.bool (decide_eq_false (by decide))) ?_; refine yA ?_; refine w_r (fun _ => R_eq rfl rfl) rfl rfl ?_; refine aB rfl ?_; refine yB ?_; refine zE (congrArg Value.bool (decide_eq_true (by decide))) ?_; refine yA ?_; refine mP rfl ?_; refine zS slt62 (by decide) rfl rfl (fun b23 gb23 ub23 => ?_)
    refine w_pen (A := [_, _]) (Lr := Lr) ([[116, 97, 114, 103, 101, 116], [43, 61]]) (fun w => zR Tryd.func26 rfl rfl rfl) rfl rfl hO (fun w h => put_spec p _ _ w _ b23 ([[116, 97, 114, 103, 101, 116], [43, 61]]) (Nat.succ_pos _) (by first | omega | (simp only [List.length_append, List.length_cons, List.length_nil] at *; omega)) (.head _) h) (fun v24 W24 hO24 => ?_)
    refine yC ?_; refine mP rfl ?_; refine zf fa38_3 rfl ?_; refine zl z36 rfl (fun _ h => zc 1 rfl rfl h) ?_; refine w_r (fun _ => R_iaN (i := 0) sl36 rfl rfl (by first | omega | decide)) rfl rfl ?_; refine w_loadC (l := cs0) z49 rfl hcl0 (fun w h j v hj => hA0.cell hn hy h j v hj) ?_; refine w_pen (A := [_, _]) (Lr := Lr) (exT x0) (fun w => zR Tryd.func39 rfl rfl rfl) rfl rfl hO24 (fun w h => pexpr_ok _ _ N y p _ _ w _ (by omega) ho0 hE0 hn hy (by first | omega | (simp only [List.length_append, List.length_cons, List.length_nil] at *; omega)) h) (fun v25 W25 hO25 => ?_)
    refine yB ?_; refine zr ?_; refine mP rfl ?_; refine zS slt62 (by decide) rfl rfl (fun b26 gb26 ub26 => ?_)
    refine w_pen (A := [_, _, _]) (Lr := Lr) ([[59]]) (fun w => zR Tryd.func26 rfl rfl rfl) rfl rfl hO25 (fun w h => put_spec p _ _ w _ b26 ([[59]]) (Nat.succ_pos _) (by first | omega | (simp only [List.length_append, List.length_cons, List.length_nil] at *; omega)) (.head _) h) (fun v27 W27 hO27 => ?_)
    refine zn ?_; refine b_on (?_)
    refine r_none (.inr rfl) rfl ?_; exact fun w' hw => ⟨rfl, PenAt.fin (A := [_, _, _]) hO27 (by first | (rw [heq]; done) | (rw [heq]; simp)) hw⟩
  · have hk1 := hf.2.2.2.1 rfl; have hek := hf.1 (by decide); obtain ⟨x0, hx0⟩ : ∃ x, ks[0]? = some x := ⟨_, List.getElem?_eq_getElem (by omega)⟩; have hw0 := exsW_mem (List.mem_of_getElem? hx0); obtain ⟨cs0, hA0, hE0⟩ := hks.get0 hx0; have hcl0 := exM_len hE0; have ho0 := penOk_of (exsOk_get hek hx0); obtain ⟨b0, o0, rfl⟩ := hA0.ptr; obtain ⟨ka1, hka1, hks1⟩ := hks.rest hk1 hkc; have heq := smT_3 at_ nm ks bo el hx0; rw [heq] at hb; simp only [List.length_append, List.length_cons, List.length_nil] at hb
    refine zl z5 rfl (fun _ h => zc 0 rfl rfl h) ?_; refine yB ?_; refine zB ?_; refine yA ?_; refine w_r (fun _ => R_eq rfl rfl) rfl rfl ?_; refine aB rfl ?_; refine yB ?_; refine c_condF (congrArg Value.bool (decide_eq_false (by decide))) ?_; refine yA ?_; refine w_r (fun _ => R_eq rfl rfl) rfl rfl ?_; refine aB rfl ?_; refine yB ?_; refine c_condF (congrArg Value.bool (decide_eq_false (by decide))) ?_; refine yA ?_; refine w_r (fun _ => R_eq rfl rfl) rfl rfl ?_; refine aB rfl ?_; refine yB ?_; refine zE (congrArg Value.bool (decide_eq_true (by decide))) ?_
    refine yA ?_; refine mP rfl ?_; refine zf fa38_3 rfl ?_; refine zl z36 rfl (fun _ h => zc 0 rfl rfl h) ?_; refine w_r (fun _ => R_iaN (i := 0) sl36 rfl rfl (by first | omega | decide)) rfl rfl ?_; refine w_loadC (l := cs0) z49 rfl hcl0 (fun w h j v hj => hA0.cell hn hy h j v hj) ?_; refine w_pen (A := [_]) (Lr := Lr) (exT x0) (fun w => zR Tryd.func39 rfl rfl rfl) rfl rfl hO (fun w h => pexpr_ok _ _ N y p _ _ w _ (by omega) ho0 hE0 hn hy (by first | omega | (simp only [List.length_append, List.length_cons, List.length_nil] at *; omega)) h) (fun v28 W28 hO28 => ?_)
    refine yC ?_; refine mP rfl ?_; refine zf fa38_2 rfl ?_; refine zl z9 rfl (fun _ h => zc 0 rfl rfl h) ?_; refine zS slt62 (by decide) rfl rfl (fun b29 gb29 ub29 => ?_)
    refine w_pen (A := [_, _]) (Lr := Lr) ([[126], nm, [40]]) (fun w => zR Tryd.func26 rfl rfl rfl) rfl rfl hO28 (fun w h => put_spec p _ _ w _ b29 ([[126], nm, [40]]) (Nat.succ_pos _) (by first | omega | (simp only [List.length_append, List.length_cons, List.length_nil] at *; omega)) (.head _) h) (fun v30 W30 hO30 => ?_)
    refine yC ?_; refine mP rfl ?_; refine zf fa38_3 rfl ?_; refine zl z36 rfl (fun _ h => zc 1 rfl rfl h) ?_; refine w_r (v := .slice ka1 (ks.drop 1).length (kc - 1)) (fun _ => R_slE (l := 1) sl36 rfl rfl (by omega) hkc hka1 (List.length_drop ..).symm) rfl rfl ?_; refine w_pen (A := [_, _]) (Lr := Lr) (rowT (exsT (ks.drop 1))) (fun w => zR Tryd.func49 rfl rfl rfl) rfl rfl hO30 (fun w h => row_spec _ pexpr_ok (Nat.le_refl _) (ks.drop 1) ka1 (kc - 1) N y p _ _ w _ (fun x hx => by have := exsW_mem (List.mem_of_mem_drop hx); omega) (by rw [List.length_drop]; omega) (exsOk_drop hek 1) hks1 hn hy (by first | omega | (simp only [List.length_append, List.length_cons, List.length_nil] at *; omega)) h) (fun v31 W31 hO31 => ?_)
    refine yB ?_; refine zr ?_; refine mP rfl ?_; refine zS slt62 (by decide) rfl rfl (fun b32 gb32 ub32 => ?_)
    refine w_pen (A := [_, _, _]) (Lr := Lr) ([[41], [59]]) (fun w => zR Tryd.func26 rfl rfl rfl) rfl rfl hO31 (fun w h => put_spec p _ _ w _ b32 ([[41], [59]]) (Nat.succ_pos _) (by first | omega | (simp only [List.length_append, List.length_cons, List.length_nil] at *; omega)) (.head _) h) (fun v33 W33 hO33 => ?_)
    refine zn ?_; refine b_on (?_)
    refine r_none (.inr rfl) rfl ?_; exact fun w' hw => ⟨rfl, PenAt.fin (A := [_, _, _]) hO33 (by first | (rw [heq]; done) | (rw [heq]; simp)) hw⟩
  · have hk1 := hf.2.2.2.2.1 rfl; have hek := hf.1 (by decide); obtain ⟨x0, hx0⟩ : ∃ x, ks[0]? = some x := ⟨_, List.getElem?_eq_getElem (by omega)⟩; have hw0 := exsW_mem (List.mem_of_getElem? hx0); obtain ⟨cs0, hA0, hE0⟩ := hks.get0 hx0; have hcl0 := exM_len hE0; have ho0 := penOk_of (exsOk_get hek hx0); obtain ⟨x1, hx1⟩ : ∃ x, ks[1]? = some x := ⟨_, List.getElem?_eq_getElem (by omega)⟩; have hw1 := exsW_mem (List.mem_of_getElem? hx1); obtain ⟨cs1, hA1, hE1⟩ := hks.get0 hx1; have hcl1 := exM_len hE1; have ho1 := penOk_of (exsOk_get hek hx1); obtain ⟨b0, o0, rfl⟩ := hA0.ptr; have heq := smT_4 at_ nm ks bo el hx0 hx1; rw [heq] at hb; simp only [List.length_append, List.length_cons, List.length_nil] at hb
    refine zl z5 rfl (fun _ h => zc 0 rfl rfl h) ?_; refine yB ?_; refine zB ?_; refine yA ?_; refine w_r (fun _ => R_eq rfl rfl) rfl rfl ?_; refine aB rfl ?_; refine yB ?_; refine c_condF (congrArg Value.bool (decide_eq_false (by decide))) ?_; refine yA ?_; refine w_r (fun _ => R_eq rfl rfl) rfl rfl ?_; refine aB rfl ?_; refine yB ?_; refine c_condF (congrArg Value.bool (decide_eq_false (by decide))) ?_; refine yA ?_; refine w_r (fun _ => R_eq rfl rfl) rfl rfl ?_; refine aB rfl ?_; refine yB ?_; refine c_condF (congrArg Value.bool (decide_eq_false (by decide))) ?_
    refine yA ?_; refine w_r (fun _ => R_eq rfl rfl) rfl rfl ?_; refine aB rfl ?_; refine yB ?_; refine zE (congrArg Value.bool (decide_eq_true (by decide))) ?_; refine yA ?_; refine mP rfl ?_; refine zf fa38_2 rfl ?_; refine zl z9 rfl (fun _ h => zc 0 rfl rfl h) ?_; refine zS slt62 (by decide) rfl rfl (fun b34 gb34 ub34 => ?_)
    refine w_pen (A := [_, _]) (Lr := Lr) ([[102, 111, 114], [40], nm, [105, 110]]) (fun w => zR Tryd.func26 rfl rfl rfl) rfl rfl hO (fun w h => put_spec p _ _ w _ b34 ([[102, 111, 114], [40], nm, [105, 110]]) (Nat.succ_pos _) (by first | omega | (simp only [List.length_append, List.length_cons, List.length_nil] at *; omega)) (.head _) h) (fun v35 W35 hO35 => ?_)
    refine yC ?_; refine mP rfl ?_; refine zf fa38_3 rfl ?_; refine zl z36 rfl (fun _ h => zc 1 rfl rfl h) ?_; refine w_r (fun _ => R_iaN (i := 0) sl36 rfl rfl (by first | omega | decide)) rfl rfl ?_; refine w_loadC (l := cs0) z49 rfl hcl0 (fun w h j v hj => hA0.cell hn hy h j v hj) ?_; refine w_pen (A := [_, _]) (Lr := Lr) (exT x0) (fun w => zR Tryd.func39 rfl rfl rfl) rfl rfl hO35 (fun w h => pexpr_ok _ _ N y p _ _ w _ (by omega) ho0 hE0 hn hy (by first | omega | (simp only [List.length_append, List.length_cons, List.length_nil] at *; omega)) h) (fun v36 W36 hO36 => ?_)
    refine yC ?_; refine mP rfl ?_; refine zS slt62 (by decide) rfl rfl (fun b37 gb37 ub37 => ?_)
    refine w_pen (A := [_, _, _]) (Lr := Lr) ([[58]]) (fun w => zR Tryd.func26 rfl rfl rfl) rfl rfl hO36 (fun w h => put_spec p _ _ w _ b37 ([[58]]) (Nat.succ_pos _) (by first | omega | (simp only [List.length_append, List.length_cons, List.length_nil] at *; omega)) (.head _) h) (fun v38 W38 hO38 => ?_)
    refine yC ?_; refine mP rfl ?_; refine zf fa38_3 rfl ?_; refine zl z36 rfl (fun _ h => zc 2 rfl rfl h) ?_; refine w_r (fun _ => R_iaN (i := 1) sl36 rfl rfl (by first | omega | decide)) rfl rfl ?_; refine w_loadC (l := cs1) z49 rfl hcl1 (fun w h j v hj => hA1.cell hn hy h j v hj) ?_; refine w_pen (A := [_, _, _]) (Lr := Lr) (exT x1) (fun w => zR Tryd.func39 rfl rfl rfl) rfl rfl hO38 (fun w h => pexpr_ok _ _ N y p _ _ w _ (by omega) ho1 hE1 hn hy (by first | omega | (simp only [List.length_append, List.length_cons, List.length_nil] at *; omega)) h) (fun v39 W39 hO39 => ?_)
    refine yC ?_; refine mP rfl ?_; refine zS slt62 (by decide) rfl rfl (fun b40 gb40 ub40 => ?_)
    refine w_pen (A := [_, _, _, _]) (Lr := Lr) ([[41]]) (fun w => zR Tryd.func26 rfl rfl rfl) rfl rfl hO39 (fun w h => put_spec p _ _ w _ b40 ([[41]]) (Nat.succ_pos _) (by first | omega | (simp only [List.length_append, List.length_cons, List.length_nil] at *; omega)) (.head _) h) (fun v41 W41 hO41 => ?_)
    refine yB ?_; refine zr ?_; refine mP rfl ?_; refine zf fa38_4 rfl ?_; refine zl z25 rfl (fun _ h => zc 3 rfl rfl h) ?_; refine w_pen (A := [_, _, _, _]) (Lr := Lr) (bodyT (smsT bo)) (fun w => zR Tryd.func51 rfl rfl rfl) rfl rfl hO41 (fun w h => body_spec n ih hN bo ba bc N y p _ _ w _ hbl (by omega) hf.2.2.2.2.2.2.1 hbo hn hy (by first | omega | (simp only [List.length_append, List.length_cons, List.length_nil] at *; omega)) h) (fun v42 W42 hO42 => ?_)
    refine zn ?_; refine b_on (?_)
    refine r_none (.inr rfl) rfl ?_; exact fun w' hw => ⟨rfl, PenAt.fin (A := [_, _, _, _]) hO42 (by first | (rw [heq]; done) | (rw [heq]; simp)) hw⟩
  · have hk1 := (hf.2.2.2.2.2.1 rfl).1; obtain ⟨x0, hx0⟩ : ∃ x, ks[0]? = some x := ⟨_, List.getElem?_eq_getElem (by omega)⟩; have hw0 := exsW_mem (List.mem_of_getElem? hx0); obtain ⟨cs0, hA0, hE0⟩ := hks.get0 hx0; have hcl0 := exM_len hE0; have ho0 : penOk x0 = true := headOk_get (hf.2.2.2.2.2.1 rfl).2 hx0; obtain ⟨b0, o0, rfl⟩ := hA0.ptr; have heq := smT_5 at_ nm ks bo el hx0; rw [heq] at hb; simp only [List.length_append, List.length_cons, List.length_nil] at hb
    refine zl z5 rfl (fun _ h => zc 0 rfl rfl h) ?_; refine yB ?_; refine zB ?_; refine yA ?_; refine w_r (fun _ => R_eq rfl rfl) rfl rfl ?_; refine aB rfl ?_; refine yB ?_; refine c_condF (congrArg Value.bool (decide_eq_false (by decide))) ?_; refine yA ?_; refine w_r (fun _ => R_eq rfl rfl) rfl rfl ?_; refine aB rfl ?_; refine yB ?_; refine c_condF (congrArg Value.bool (decide_eq_false (by decide))) ?_; refine yA ?_; refine w_r (fun _ => R_eq rfl rfl) rfl rfl ?_; refine aB rfl ?_; refine yB ?_; refine c_condF (congrArg Value.bool (decide_eq_false (by decide))) ?_
    refine yA ?_; refine w_r (fun _ => R_eq rfl rfl) rfl rfl ?_; refine aB rfl ?_; refine yB ?_; refine c_condF (congrArg Value.bool (decide_eq_false (by decide))) ?_; refine yA ?_; refine w_r (fun _ => R_eq rfl rfl) rfl rfl ?_; refine aB rfl ?_; refine yB ?_; refine zE (congrArg Value.bool (decide_eq_true (by decide))) ?_; refine yA ?_; refine mP rfl ?_; refine zS slt62 (by decide) rfl rfl (fun b43 gb43 ub43 => ?_)
    refine w_pen (A := [_, _]) (Lr := Lr) ([[105, 102], [40]]) (fun w => zR Tryd.func26 rfl rfl rfl) rfl rfl hO (fun w h => put_spec p _ _ w _ b43 ([[105, 102], [40]]) (Nat.succ_pos _) (by first | omega | (simp only [List.length_append, List.length_cons, List.length_nil] at *; omega)) (.head _) h) (fun v44 W44 hO44 => ?_)
    refine yC ?_; refine mP rfl ?_; refine zf fa38_3 rfl ?_; refine zl z36 rfl (fun _ h => zc 1 rfl rfl h) ?_; refine w_r (fun _ => R_iaN (i := 0) sl36 rfl rfl (by first | omega | decide)) rfl rfl ?_; refine w_loadC (l := cs0) z49 rfl hcl0 (fun w h j v hj => hA0.cell hn hy h j v hj) ?_; refine w_pen (A := [_, _]) (Lr := Lr) (exT x0) (fun w => zR Tryd.func39 rfl rfl rfl) rfl rfl hO44 (fun w h => pexpr_ok _ _ N y p _ _ w _ (by omega) ho0 hE0 hn hy (by first | omega | (simp only [List.length_append, List.length_cons, List.length_nil] at *; omega)) h) (fun v45 W45 hO45 => ?_)
    refine yC ?_; refine mP rfl ?_; refine zS slt62 (by decide) rfl rfl (fun b46 gb46 ub46 => ?_)
    refine w_pen (A := [_, _, _]) (Lr := Lr) ([[41]]) (fun w => zR Tryd.func26 rfl rfl rfl) rfl rfl hO45 (fun w h => put_spec p _ _ w _ b46 ([[41]]) (Nat.succ_pos _) (by first | omega | (simp only [List.length_append, List.length_cons, List.length_nil] at *; omega)) (.head _) h) (fun v47 W47 hO47 => ?_)
    refine yC ?_; refine mP rfl ?_; refine zf fa38_4 rfl ?_; refine zl z25 rfl (fun _ h => zc 2 rfl rfl h) ?_; refine w_pen (A := [_, _, _]) (Lr := Lr) (bodyT (smsT bo)) (fun w => zR Tryd.func51 rfl rfl rfl) rfl rfl hO47 (fun w h => body_spec n ih hN bo ba bc N y p _ _ w _ hbl (by omega) hf.2.2.2.2.2.2.1 hbo hn hy (by first | omega | (simp only [List.length_append, List.length_cons, List.length_nil] at *; omega)) h) (fun v48 W48 hO48 => ?_)
    refine yC ?_; refine zf fa38_5 rfl ?_; refine zl z25 rfl (fun _ h => zc 2 rfl rfl h) ?_; refine w_r (fun _ => R_len sl25 rfl) rfl rfl ?_; refine w_r (fun _ => R_gt rfl rfl) rfl rfl ?_; refine yB ?_; refine zD rfl (fun h49 => ?_) (fun h49 => ?_)
    · rw [if_pos (by omega)] at hb heq; simp only [List.length_append, List.length_cons, List.length_nil] at hb
      refine yA ?_; refine mP rfl ?_; refine zS slt62 (by decide) rfl rfl (fun b50 gb50 ub50 => ?_)
      refine w_pen (A := [_, _, _, _]) (Lr := Lr) ([[101, 108, 115, 101]]) (fun w => zR Tryd.func26 rfl rfl rfl) rfl rfl hO48 (fun w h => put_spec p _ _ w _ b50 ([[101, 108, 115, 101]]) (Nat.succ_pos _) (by first | omega | (simp only [List.length_append, List.length_cons, List.length_nil] at *; omega)) (.head _) h) (fun v51 W51 hO51 => ?_)
      refine yB ?_; refine zr ?_; refine mP rfl ?_; refine zf fa38_5 rfl ?_; refine zl z25 rfl (fun _ h => zc 3 rfl rfl h) ?_; refine w_pen (A := [_, _, _, _]) (Lr := Lr) (bodyT (smsT el)) (fun w => zR Tryd.func51 rfl rfl rfl) rfl rfl hO51 (fun w h => body_spec n ih hN el ea ec N y p _ _ w _ hll2 (by omega) hf.2.2.2.2.2.2.2.1 hel hn hy (by first | omega | (simp only [List.length_append, List.length_cons, List.length_nil] at *; omega)) h) (fun v52 W52 hO52 => ?_)
      refine zn ?_; refine b_on (?_)
      refine r_none (.inr rfl) rfl ?_; exact fun w' hw => ⟨rfl, PenAt.fin (A := [_, _, _, _]) hO52 (by first | (rw [heq]; done) | (rw [heq]; simp)) hw⟩
    · rw [if_neg (by omega)] at hb heq
      refine zi ?_; refine b_on (?_)
      refine r_none (.inr rfl) rfl ?_; exact fun w' hw => ⟨rfl, PenAt.fin (A := [_, _, _]) hO48 (by first | (rw [heq]; done) | (rw [heq]; simp)) hw⟩
  · have heq := smT_6 at_ nm ks bo el; rw [heq] at hb
    refine zl z5 rfl (fun _ h => zc 0 rfl rfl h) ?_; refine yB ?_; refine zB ?_; refine yA ?_; refine w_r (fun _ => R_eq rfl rfl) rfl rfl ?_; refine aB rfl ?_; refine yB ?_; refine c_condF (congrArg Value.bool (decide_eq_false (by decide))) ?_; refine yA ?_; refine w_r (fun _ => R_eq rfl rfl) rfl rfl ?_; refine aB rfl ?_; refine yB ?_; refine c_condF (congrArg Value.bool (decide_eq_false (by decide))) ?_; refine yA ?_; refine w_r (fun _ => R_eq rfl rfl) rfl rfl ?_; refine aB rfl ?_; refine yB ?_; refine c_condF (congrArg Value.bool (decide_eq_false (by decide))) ?_
    refine yA ?_; refine w_r (fun _ => R_eq rfl rfl) rfl rfl ?_; refine aB rfl ?_; refine yB ?_; refine c_condF (congrArg Value.bool (decide_eq_false (by decide))) ?_; refine yA ?_; refine w_r (fun _ => R_eq rfl rfl) rfl rfl ?_; refine aB rfl ?_; refine yB ?_; refine c_condF (congrArg Value.bool (decide_eq_false (by decide))) ?_; refine zr ?_; refine mP rfl ?_; refine zf fa38_4 rfl ?_; refine zl z25 rfl (fun _ h => zc 0 rfl rfl h) ?_
    refine w_pen (A := [_]) (Lr := Lr) (bodyT (smsT bo)) (fun w => zR Tryd.func51 rfl rfl rfl) rfl rfl hO (fun w h => body_spec n ih hN bo ba bc N y p _ _ w _ hbl (by omega) hf.2.2.2.2.2.2.1 hbo hn hy (by first | omega | (simp only [List.length_append, List.length_cons, List.length_nil] at *; omega)) h) (fun v53 W53 hO53 => ?_)
    refine zn ?_; refine b_on (?_)
    refine r_none (.inr rfl) rfl ?_; exact fun w' hw => ⟨rfl, PenAt.fin (A := [_]) hO53 (by first | (rw [heq]; done) | (rw [heq]; simp)) hw⟩
end Go.Proofs.YtcmcdgkjipnfnaaDoor
end
