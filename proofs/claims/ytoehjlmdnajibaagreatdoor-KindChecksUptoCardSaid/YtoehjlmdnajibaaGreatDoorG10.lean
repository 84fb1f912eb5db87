/- Layer 15, KindChecks: Check and Vars of kind tell the fault, and the variables, of the document, for programs of at most 600 nodes and names of at most 200 bytes; in the Upto form. Part 10 of 17. -/
import Derived.Test.YtoehjlmdnajibaaGreatDoorG09
import Derived.Lib.AppendZerosOnto
set_option maxRecDepth 100000
set_option maxHeartbeats 16000000
section
namespace Go.Knd
open Go.Tok Go.Tree
theorem needT_k (t : Nat) (a : Int) (p : Bool) : needT t a p = andK (needK (!decide (t = 0)) a) fun _ => .ok (t, p) := by
  unfold needT needK
  by_cases h : t = 0
  · rw [if_pos h, decide_eq_true h]; rfl
  rw [if_neg h, decide_eq_false h]; rfl
section
variable {l : List Vr} {at_ : Int} {nm : Str} {ks : List Ex} {a b : Nat} {p : Bool}
theorem rule_1 : ruleK l 1 at_ nm ks a b p = andK (needK (!decide ((if digitsK nm = true then 1 else 2) = 0)) at_) fun _ => .ok (if digitsK nm = true then 1 else 2, p) := needT_k _ _ _
theorem rule_2n (h : findV l nm = none) : ruleK l 2 at_ nm ks a b p = .error (150, at_) := by unfold ruleK; rw [if_neg (by decide), if_pos rfl, h]
theorem rule_2s {v : Vr} (h : findV l nm = some v) : ruleK l 2 at_ nm ks a b p = .ok (v.ty, v.par) := by unfold ruleK; rw [if_neg (by decide), if_pos rfl, h]
theorem rule_3n (h : findV l nm = none) : ruleK l 3 at_ nm ks a b p = .error (150, at_) := by unfold ruleK; rw [if_neg (by decide), if_neg (by decide), if_pos rfl, h]
def idxT (t : Nat) : Nat := if t = 4 then 1 else if t = 3 ∨ t = 5 then 2 else 0
theorem rule_3s {v : Vr} {k : Ex} (h : findV l nm = some v) : ruleK l 3 at_ nm [k] a b p = andK (needK (!decide (idxT v.ty = 0)) at_) fun _ => andK (countedK k (a, p)) fun _ => andK (needK (!decide (idxT v.ty = 0)) at_) fun _ => .ok (idxT v.ty, v.par) := by
  unfold ruleK
  rw [if_neg (by decide), if_neg (by decide), if_pos rfl, h]
  dsimp only
  by_cases h1 : v.ty = 3 ∨ v.ty = 4 ∨ v.ty = 5
  · have h2 : ¬ idxT v.ty = 0 := by unfold idxT; split <;> (try split) <;> omega
    have h3 : idxT v.ty = (if v.ty = 4 then 1 else 2) := by unfold idxT; split <;> (try split) <;> omega
    rw [if_neg (not_not_intro h1), decide_eq_false h2]
    show _ = andK (countedK k (a, p)) _
    unfold countedK
    dsimp only
    by_cases h4 : a = 1
    · rw [if_neg (not_not_intro h4), decide_eq_true h4]
      by_cases h5 : p = true
      · rw [if_pos h5]; show _ = andK (andK (needK true k.at_) _) _; rw [h5]; rfl
      rw [if_neg h5, needT_k, ← h3, decide_eq_false h2]
      have h6 : p = false := by simpa using h5
      rw [h6]; rfl
    rw [if_pos h4, decide_eq_false h4]; rfl
  have h2 : idxT v.ty = 0 := by unfold idxT; split <;> (try split) <;> omega
  rw [if_pos h1, decide_eq_true h2]; rfl
theorem rule_4n (h : callK nm a b = none) : ruleK l 4 at_ nm ks a b p = .error (150, at_) := by unfold ruleK; rw [if_neg (by decide), if_neg (by decide), if_neg (by decide), if_pos rfl, h]
theorem rule_4s {t : Nat} (h : callK nm a b = some t) : ruleK l 4 at_ nm ks a b p = andK (needK (decide (ks.length = if nm = [100, 111, 116] then 2 else 1)) at_) fun _ => andK (needK (!decide (t = 0)) at_) fun _ => .ok (t, p && !decide (nm = [115, 105, 122, 101])) := by
  unfold ruleK
  rw [if_neg (by decide), if_neg (by decide), if_neg (by decide), if_pos rfl, h]
  dsimp only
  by_cases h1 : ks.length = (if nm = [100, 111, 116] then 2 else 1)
  · rw [if_neg (not_not_intro h1), decide_eq_true h1, needT_k]; rfl
  rw [if_pos h1, decide_eq_false h1]; rfl
theorem rule_5 : ruleK l 5 at_ nm ks a b p = andK (needK (!decide ((if a ≤ 3 then a else 0) = 0)) at_) fun _ => .ok (if a ≤ 3 then a else 0, p) := needT_k _ _ _
theorem rule_6 {op : Nat} (h : op = 6 ∨ op = 7 ∨ op = 8 ∨ op = 9) : ruleK l op at_ nm ks a b p = andK (needK (!decide (twoK op a b = 0)) at_) fun _ => .ok (twoK op a b, p) := by
  unfold ruleK
  rw [if_neg (by omega), if_neg (by omega), if_neg (by omega), if_neg (by omega), if_neg (by omega), needT_k]
end
theorem op_ok9 {op n : Nat} {nm : Str} (h : ruleOk op nm n = true) : op = 1 ∨ op = 2 ∨ op = 3 ∨ op = 4 ∨ op = 5 ∨ (op = 6 ∨ op = 7 ∨ op = 8 ∨ op = 9) := by
  unfold ruleOk at h
  split at h <;> first | omega | (exact absurd h (by decide))
theorem rule3_len {nm : Str} {n : Nat} (h : ruleOk 3 nm n = true) : n = 1 := by
  simp only [ruleOk, Bool.and_eq_true, decide_eq_true_eq] at h; exact h.1
end Go.Knd
end
section
namespace Go.Proofs.YtoehjlmdnajibaaGreatDoor
open Go.RowKit Go.Sx
open Go.Tok Go.Tree Go.Knd
def fdPs : Array Go.Tmp := #[10, 11]
def fdAs : Go.Code := (Go.Code.region 2 #[(Go.Oper.mk (some 7) (Go.Op.alloc 54) 0 "kind.go:87" #[] none), (Go.Oper.mk none (Go.Op.store 54 (Go.Operand.tmp 7) (Go.Operand.tmp 11)) 0 "kind.go:87" #[(Go.Edge.mk 0 Go.Ground.data), (Go.Edge.mk 0 Go.Ground.phase)] none)] false)
def fdBo : Go.Code := (Go.Code.block 1 (Go.Code.seq (Go.Code.region 3 #[(Go.Oper.mk (some 12) (Go.Op.fieldAddr 54 (Go.Operand.tmp 7) 0) 0 "kind.go:88" #[] none), (Go.Oper.mk (some 13) (Go.Op.load 9 (Go.Operand.tmp 12)) 9 "kind.go:88" #[(Go.Edge.mk 0 Go.Ground.data)] none), (Go.Oper.mk (some 14) (Go.Op.load 9 (Go.Operand.tmp 3)) 9 "kind.go:88" #[] none), (Go.Oper.mk (some 15) (Go.Op.binOp Go.BinOp.eql 9 (Go.Operand.tmp 13) (Go.Operand.tmp 14) 9) 4 "kind.go:88" #[(Go.Edge.mk 1 Go.Ground.data), (Go.Edge.mk 2 Go.Ground.data)] none)] false) (Go.Code.cond (Go.Operand.tmp 15) (Go.Code.seq (Go.Code.region 4 #[(Go.Oper.mk (some 16) (Go.Op.load 54 (Go.Operand.tmp 7)) 54 "kind.go:89" #[] none), (Go.Oper.mk none (Go.Op.store 54 (Go.Operand.tmp 4) (Go.Operand.tmp 16)) 0 "kind.go:89" #[(Go.Edge.mk 0 Go.Ground.data), (Go.Edge.mk 0 Go.Ground.phase)] none), (Go.Oper.mk none (Go.Op.store 4 (Go.Operand.tmp 5) (Go.Operand.const (Go.Value.bool true))) 0 "kind.go:89" #[(Go.Edge.mk 1 Go.Ground.chain), (Go.Edge.mk 0 Go.Ground.phase), (Go.Edge.mk 1 Go.Ground.phase)] none)] false) Go.Code.ret) Go.Code.skip)))
abbrev kdV (k : Nat × Bool) : Value := .agg #[.int .u8 (k.1 : Nat), .bool k.2]
def FindY (nm : Str) (J0 : Heap → Prop) (J1 : Vr → Heap → Prop) (lo : Nat) : Prop :=
  ∀ (k : Nat) (v : Vr) (Lc Lr : Heap) (B : Base) (w : World), J0 Lc → St B (Lc ++ Lr) w →
    YieldAt (fw none) 0 Tryz.prog lo #[.int .i64 (k : Nat), .agg (vrC v).toArray] w (fun en w' => ∃ u, en = .returned u ∧ ∃ Lc', ((¬ v.nm = nm ∧ u = .bool true ∧ J0 Lc') ∨ (v.nm = nm ∧ u = .bool false ∧ J1 v Lc')) ∧ St B (Lc' ++ Lr) w')
def fdO (e : Env) (fn r : Nat) (ds : List Deferred) : Option Vr → Obj
  | none => lpO .ready none fn ⟨18, ds, none⟩ e fdPs fdAs fdBo r
  | some _ => lpO .done (some .ret) fn ⟨18, ds, none⟩ e fdPs fdAs fdBo r
def fdL (e : Env) (fn r l nb rb ob : Nat) (ds : List Deferred) (nm : Str) (q : Option Vr) : Heap := [(l, fdO e fn r ds q), (nb, cel [str nm] 9), (rb, cel (vrO q) 54), (ob, cel [.bool q.isSome] 4)]
def fdJ (e : Env) (fn r l nb rb ob : Nat) (ds : List Deferred) (nm : Str) (J : Option Vr) (Lc : Heap) : Prop := Lc = fdL e fn r l nb rb ob ds nm J
theorem find_round (e : Env) (fn r l nb rb ob : Nat) (ds : List Deferred) (nm : Str) (he3 : e 3 = pX nb) (he4 : e 4 = pX rb) (he5 : e 5 = pX ob) : FindY nm (fdJ e fn r l nb rb ob ds nm none) (fun v => fdJ e fn r l nb rb ob ds nm (some v)) l := by
  intro k v Lc Lr B w hJ0 hw
  obtain rfl := hJ0
  refine yield_round 0 (L := _ :: _ :: _ :: _ :: Lr) hw rfl rfl (zr (zA zr54 (fun t7b gt7b ut7b => jv 0 z54 rfl (zn (k_begin (l' := 0) 1 rfl (zB (yA (zf fa54_0 rfl (jM 0 z9 rfl (zL 2 z9 he3 rfl rfl (js rfl rfl (yB ?_)))))))))))); refine zD rfl (fun h2 => ?_) (fun h2 => ?_)
  · refine yA (jy 0 z54 rfl rfl (ju 3 z54 he4 rfl rfl (ju 4 z4 he5 rfl rfl (yB (ze (zb ((k_roundR 1 rfl ?_)))))))); exact fun w h => ⟨_, rfl, _, .inr ⟨h2, rfl, rfl⟩, h.d1⟩
  refine zi (zO ((k_round 1 rfl ?_))); exact fun w h => ⟨_, rfl, _, .inl ⟨h2, rfl, rfl⟩, h.d1⟩
theorem back_ok (l : List Vr) (a : Option Addr) (c : Nat) (w : World) :
    Ret Tryz.prog 101 #[.slice a l.length c] w (fun v w' => ∃ W, (∃ vb, v = .func (.func 121) #[] #[pX vb] ∧ W = [(vb, cel [.slice a l.length c] 83)]) ∧ New w w' W) := by
  refine enter (S := No) (l := [_]) (L := []) 4 Tryz.func101 rfl rfl rfl (St.start w No) (yA (w_box rfl (fun vb gvb uvb => za rfl (yC (zg (fun _ => R_makeFunc) (za rfl (yB (ze (zo rfl rfl rfl ?_))))))))); exact fun w' hw => ⟨_, ⟨vb, rfl, rfl⟩, St.made (A := []) hw⟩
theorem backC_ok (l : List Vr) (a : Option Addr) (c : Nat) (y : World × (Nat → Prop)) (N : Nat → Prop) (hm : vrsM y.1 N l a) (hn : Apart y N) (hl : l.length ≤ 100000000) (vb lo : Nat) (nm : Str) (J0 : Heap → Prop) (J1 : Vr → Heap → Prop) (hJ : FindY nm J0 J1 lo) (Lc Lr : Heap) (hJ0 : J0 Lc) (Bs : Base) (hy : y ∈ Bs) (w : World) (hs : St Bs ((vb, cel [.slice a l.length c] 83) :: (Lc ++ Lr)) w) :
    Ret Tryz.prog 121 #[.func (.yield lo) #[] #[], pX vb] w (fun v w' => v = .tuple #[] ∧ ∃ Lc', (match findV l nm with | none => J0 Lc' | some v => J1 v Lc') ∧ St Bs ((vb, cel [.slice a l.length c] 83) :: (Lc' ++ Lr)) w') := by
  refine enterB (l := [_, _]) 19 Tryz.func121 rfl rfl rfl (hs) (yA (jM 0 z83 rfl (jj sl83 rfl (zg (fun _ => R_subi rfl rfl (by omega)) (aI rfl (yB (zB (c_loop (fun m e B L => ∃ (k : Nat) (L1 : Heap), e 0 = .func (.yield lo) #[] #[] ∧ e 1 = pX vb ∧ e 3 = .int .i64 ((k : Nat) - 1) ∧ Bs = B ∧ L = (vb, cel [.slice a l.length c] 83) :: (L1 ++ Lr) ∧ k ≤ l.length ∧ J0 L1 ∧ findV l nm = findV (l.take k) nm ∧ m = k + 1) _ ⟨l.length, Lc, rfl, rfl, rfl, rfl, rfl, Nat.le_refl _, hJ0, (findV_full (Nat.le_refl _)).symm, rfl⟩ ?_))))))))
  rintro m e B L ⟨k, L1, e0_1, e1_1, e3_1, rfl, rfl, hk, hJ1, hf, rfl⟩
  refine zq (yA (mI e3_1 (jh rfl rfl (yB ?_)))); refine zD rfl (fun h1 => ?_) (fun h1 => ?_)
  · obtain ⟨q, rfl⟩ : ∃ q, k = q + 1 := ⟨k - 1, by omega⟩; have e3q : e 3 = .int .i64 ((q : Nat) : Int) := e3_1.trans (congrArg (Value.int .i64) (by omega)); have hlt : q < l.length := (by omega); obtain ⟨v, hxk⟩ : ∃ x, l[q]? = some x := ⟨_, List.getElem?_eq_getElem hlt⟩; have hA := hm q v hxk; obtain ⟨b1, o1, rfl⟩ := hA.ptr
    refine zi (zk (zq (zB (yA (zm e0_1 (mI e3q (zL 0 z83 e1_1 rfl rfl (mI e3q (zg (fun _ => R_iaN (i := q) sl83 rfl rfl (by omega)) (w_loadC (l := vrC v) z54 rfl rfl (fun w h j u hj => hA.cell hn hy h j u hj) (w_yield rfl (fun w h => hJ q v L1 ([(vb, _)] ++ Lr) Bs w hJ1 (h.perm (perm_mid [(vb, _)] L1 Lr))) ?_)))))))))))
    rintro w h u w' ⟨L2, ⟨hne, rfl, hJ2⟩ | ⟨heq, rfl, hJ2⟩, h2⟩
    · refine ⟨_, _, h2.perm (perm_mid [(vb, _)] L2 Lr).symm, ?_⟩
      refine jk rfl (yB (zG rfl (zi (zO (zk (zr (mI e3q (zg (fun _ => R_subi rfl rfl (by omega)) (aI rfl (zn ?_)))))))))); exact k_again _ (by omega) ⟨q, L2, e0_1, e1_1, rfl, rfl, rfl, by omega, hJ2, (hf.trans ((findV_take hxk).trans (if_neg hne))), rfl⟩
    refine ⟨_, _, h2.perm (perm_mid [(vb, _)] L2 Lr).symm, ?_⟩
    refine jk rfl (yB (zE rfl (ze (zb (zt (zt (zb ((r_none (.inl rfl) rfl ?_))))))))); exact fun w' hw => ⟨rfl, L2, by rw [hf.trans ((findV_take hxk).trans (if_pos heq))]; exact hJ2, hw⟩
  refine zX (zx (zx (b_here rfl ((r_none (.inr rfl) rfl ?_))))); exact fun w' hw => ⟨rfl, L1, by obtain rfl : k = 0 := (by omega); rw [hf, List.take_zero, findV_none]; exact hJ1, hw⟩
theorem find_ok (vs : List Vr) (va : Option Addr) (vc : Nat) (nm : Str) (w : World) (hv : vrsV w (fun _ => True) vs (va, vc)) (hvl : vs.length ≤ 90000000) :
    Ret Tryz.prog 62 #[.slice va vs.length vc, str nm] w (fun v w' => v = .tuple #[.agg (vrO (findV vs nm)).toArray, .bool (findV vs nm).isSome] ∧ Ext w w') := by
  refine enterM (S := No) (l := [_, _]) (L := []) 18 Tryz.func62 rfl rfl rfl (St.start w No) (yA (w_box rfl (fun nb gnb unb => zA zr54 (fun rb grb urb => zA zr4 (fun ob gob uob => yB (zq (yA (mS rfl (w_callW (fun w => zR Tryz.func101 rfl rfl rfl) rfl rfl (fun w _ => back_ok vs va vc w) ?_)))))))))
  rintro u W0 ⟨vb, rfl, rfl⟩
  refine yB (zB (c_gen fun e he => ?_))
  have he3 : e 3 = pX nb := congrFun he 3
  have he4 : e 4 = pX rb := congrFun he 4
  have he5 : e 5 = pX ob := congrFun he 5
  have he9 : e 9 = .func (.func 121) #[] #[pX vb] := congrFun he 9
  refine c_range (f := 121) (fi := []) (ca := [pX vb]) he9 rfl rfl rfl (fun r l2 fn w' => ∃ Lc', (match findV vs nm with | none => fdJ e fn r l2 nb rb ob [] nm none Lc' | some v => fdJ e fn r l2 nb rb ob [] nm (some v) Lc') ∧ St [(w, No)] ((vb, cel [.slice va vs.length vc] 83) :: (Lc' ++ [(r, .deferred (some []))])) w') ?_ ?_
  · intro fn r l2 hr1 hr2 hl w1 hw1
    refine (backC_ok vs va vc (w, No) _ hv.2 (fun _ _ h => h) (by omega) vb l2 nm _ _ (find_round e fn r l2 nb rb ob [] nm he3 he4 he5) _ [(r, .deferred (some []))] rfl [(w, No)] zm0 w1 (hw1.pick [2, 0, 5, 4, 3, 1] (by decide))).mono ?_
    rintro v w2 ⟨rfl, h3⟩; exact h3
  rintro fn r l2 hr1 hr2 hl w1 ⟨Lc', hm, hs⟩
  rcases hq : findV vs nm with _ | v
  · rw [hq] at hm; obtain rfl := hm
    refine ⟨_, _, .ready, none, (fun h => by cases h), hs.drop (List.sublist_cons_self _ _), ?_⟩
    refine zO (zk (yA (jb bt54 rfl (ju 2 z54 he4 rfl rfl (ju 3 z4 he5 rfl rfl (yB (ze (r_finM1 4 rfl (.inl rfl) rfl (.agg rfl he4 z54 (fun _ h => h.at_ 2 rfl) rfl (.cell rfl he5 z4 (fun _ h => zc 3 rfl rfl h) .nil)) ?_)))))))); exact fun w' hw => ⟨rfl, hw.f0⟩
  rw [hq] at hm; obtain rfl := hm
  refine ⟨_, _, .done, some .ret, (fun h => by cases h), hs.drop (List.sublist_cons_self _ _), ?_⟩
  refine ze (zb (zt ((r_finM1 4 rfl (.inl rfl) rfl (.agg rfl he4 z54 (fun _ h => h.at_ 2 rfl) rfl (.cell rfl he5 z4 (fun _ h => zc 3 rfl rfl h) .nil)) ?_)))); exact fun w' hw => ⟨rfl, hw.f0⟩
theorem with_ok (vs : List Vr) (va : Option Addr) (vc : Nat) (v : Vr) (w : World) (hv : vrsW w (fun _ => True) vs (va, vc)) (hvl : vs.length ≤ 80000000) :
    Ret Tryz.prog 87 #[.slice va vs.length vc, .agg (vrC v).toArray] w (fun r w' => ∃ b, r = .slice b.1 (vs ++ [v]).length b.2 ∧ vrsW w' (Nn w w') (vs ++ [v]) b ∧ Ext w w') := by
  refine enter (S := No) (l := [_, _]) (L := []) 14 Tryz.func87 rfl rfl rfl (St.start w No) (yA (w_boxA rfl (fun t3b gt3b ut3b => za (v := .slice _ _ _) rfl (yB (zq (c_heldS mixed (zh (v := .slice _ _ _) 0 rfl (by kernel_rfl) rfl rfl (fun w h => h) (fun w h => R_move rfl) (zh (v := .slice _ _ _) 1 rfl (by kernel_rfl) rfl rfl (fun w h => h) (fun w h => R_move rfl) (zh2 2 rfl rfl (fun w h => h) (fun w h => R_len sl83 rfl) (zh (v := .slice _ _ _) 3 rfl (by kernel_rfl) rfl rfl (fun w h => h) (fun w h => R_move rfl) (zh2 4 rfl rfl (fun w h => h) (fun w h => R_len sl83 rfl) (zh2 5 rfl rfl (fun w h => h) (fun w h => R_sl3 (n := vs.length) sl83 rfl rfl rfl hv.1.1) (h_loadA 6 rfl (by kernel_rfl) (fun w h => h) z54 rfl (fun _ h => h.at_ 0 rfl) rfl (zH2 7 (fun w h => h) (o_bsliceV rfl (wn_none rfl) slt83 (by decide) rfl rfl (fun sb gsb usb => zH2 8 (fun w h => h.d1) (o_any (R := fun v' W' => Own 54 4 v' (vrsC (vs ++ [v])) (vs ++ [v]).length W') (F := fun W' => W' ++ _) rfl rfl rfl (fun w h => app_var (i := 0) slt83 rfl (hv.nowT zm0 h).1.2 hv.2 rfl rfl (by omega) (by decide) h) (fun v' W' hO => ?_))))))))))))))))))
  obtain ⟨a2, c2, rfl⟩ := hO.slice
  refine zh (v := .slice _ _ _) 9 rfl (by kernel_rfl) rfl rfl (fun w h => (h.drop (List.sublist_append_right _ _)).drop (List.sublist_cons_self _ _)) (fun w h => R_assign rfl) (zN2 (fun w h => (h.drop (List.sublist_append_right _ _)).drop (List.sublist_cons_self _ _)) (zk (ze (zo (v := .slice _ _ _) rfl rfl rfl ?_)))); exact fun w' hw => by obtain ⟨b, h1, h2⟩ := with_fin hO hw (by simp); exact ⟨b, h1, h2, hw.f0⟩
theorem counted_ok (sv : Value) (op : Nat) (at_ : Int) (nm : Str) (v4 : Value) (ty : Nat) (p : Bool) (t : Nat) (w : World) :
    RetP Tryz.prog 66 #[sv, .agg [.int .u8 (op : Nat), .int .i64 at_, str nm, v4].toArray, .agg #[.int .u8 (ty : Nat), .bool p], .int .u8 (t : Nat)] w (RK (fun _ => .tuple #[]) (andK (needK (decide (t = 1)) at_) (fun _ => if p = true then .error (153, at_) else .ok ())) w) (EK panK (andK (needK (decide (t = 1)) at_) (fun _ => if p = true then .error (153, at_) else .ok ())) w) := by
  have hG : (andK (needK (decide (t = 1)) at_) (fun _ => if p = true then .error (153, at_) else .ok ())) = _ := rfl
  refine enterP (S := No) (l := [_, _, _, _]) (L := []) 18 Tryz.func66 rfl rfl rfl (St.start w No) (yA (w_boxA rfl (fun t5b gt5b ut5b => w_boxA rfl (fun t6b gt6b ut6b => yC (mI rfl (je rfl rfl (zf fa52_1 rfl (jM 1 z3 rfl ?_)))))))); refine w_need (pan := panK) (at_ := _) zm0 (fun w => zR Tryz.func65 rfl rfl rfl) rfl rfl (fun w h => need_ok _ _ w) (fun hb w' hx2 a ha => p_out ha ⟨_, hG.trans (andK_er (needK_no (by (rw [Bool.eq_iff_iff]; simp only [decide_eq_true_eq, Bool.or_eq_true, Bool.and_eq_true, Bool.not_eq_true', decide_eq_false_iff_not]; omega)) hb)), rfl, hx2⟩) (fun hb3 => ?_)
  have hG3 := hG.trans (andK_of (needK_yes (by (rw [Bool.eq_iff_iff]; simp only [decide_eq_true_eq, Bool.or_eq_true, Bool.and_eq_true, Bool.not_eq_true', decide_eq_false_iff_not]; omega)) hb3))
  refine yC (zf fa58_1 rfl (jM 0 z4 rfl (yB ?_))); refine c_cond rfl (fun h4 => ?_) (fun h4 => ?_)
  · refine zr (zf fa52_1 rfl (jM 1 z3 rfl ?_)); refine w_fail (pan := panK) (fl := (153, _)) zm0 (fun w => zR Tryz.func63 rfl rfl rfl) rfl rfl (fun w h => failK_ok 153 _ w) (fun w' hx2 a ha => p_out ha ⟨_, hG3.trans (if_pos h4), rfl, hx2⟩)
  refine zi (k_p (.inr rfl) (r_none (.inr rfl) rfl ?_)); exact fun w' hw => ⟨(), hG3.trans (if_neg (by rw [h4]; exact Bool.false_ne_true)), rfl, hw.f0⟩
end Go.Proofs.YtoehjlmdnajibaaGreatDoor
end
section
namespace Go.Proofs.YtoehjlmdnajibaaGreatDoor
open Go.RowKit Go.Sx
open Go.Tok Go.Tree Go.Knd
def OfH (n : Nat) : Prop := ∀ (x : Ex) (cs : List Value) (vs : List Vr) (va : Option Addr) (vc : Nat) (w : World), exW x < n → exOk x = true → exM w (fun _ => True) x cs → vrsV w (fun _ => True) vs (va, vc) → vs.length ≤ 90000000 →
    RetP Tryz.prog 41 #[.slice va vs.length vc, .agg cs.toArray] w (RK kdV (ofK vs x) w) (EK panK (ofK vs x) w)
theorem exsOk_mem {x : Ex} {l : List Ex} (h : exsOk l = true) (hx : x ∈ l) : exOk x = true := by rw [exsOk_all, List.all_eq_true] at h; exact h x hx
theorem idx_look (t : Nat) : ((([(4, .int .u8 1), (3, .int .u8 2), (5, .int .u8 2)] : List (Int × Value)).lookup (t : Int)).getD (.int .u8 0)) = .int .u8 (idxT t : Nat) := by
  by_cases h1 : t = 4
  · subst h1; rfl
  by_cases h2 : t = 3
  · subst h2; rfl
  by_cases h3 : t = 5
  · subst h3; rfl
  have q : ∀ k : Nat, ¬ t = k → (((t : Nat) : Int) == ((k : Nat) : Int)) = false := fun k h => by simp; omega
  have e : idxT t = 0 := by unfold idxT; rw [if_neg h1, if_neg (by omega)]
  have q1 := q 4 h1; have q2 := q 3 h2; have q3 := q 5 h3
  rw [e]
  show (match ((t : Nat) : Int) == ((4 : Nat) : Int) with | true => _ | false => _ : Option Value).getD _ = _
  rw [q1]
  show (match ((t : Nat) : Int) == ((3 : Nat) : Int) with | true => _ | false => _ : Option Value).getD _ = _
  rw [q2]
  show (match ((t : Nat) : Int) == ((5 : Nat) : Int) with | true => _ | false => _ : Option Value).getD _ = _
  rw [q3]
  rfl
theorem of_step (n : Nat) (ih : OfH n) (hn : n ≤ 10000000) (x : Ex) (cs : List Value) (vs : List Vr) (va : Option Addr) (vc : Nat) (w : World) (hx : exW x < n + 1) (hok : exOk x = true) (hm : exM w (fun _ => True) x cs) (hv : vrsV w (fun _ => True) vs (va, vc)) (hvl : vs.length ≤ 90000000) :
    RetP Tryz.prog 41 #[.slice va vs.length vc, .agg cs.toArray] w (RK kdV (ofK vs x) w) (EK panK (ofK vs x) w) := by
  obtain ⟨op, at_, nm, ks⟩ := x
  have hm2 := hm
  unfold exM at hm2
  obtain ⟨ka, kc, rfl, hkc, hks⟩ := hm2
  have hx2 := hx
  unfold exW at hx2
  have ho := hok
  unfold exOk at ho
  rw [Bool.and_eq_true] at ho
  obtain ⟨ho1, ho2⟩ := ho
  have hG : ofK vs (Ex.mk op at_ nm ks) = _ := ofK_go vs op at_ nm ks
  refine enterP (S := No) (l := [_, _]) (L := []) 149 Tryz.func41 rfl rfl rfl (St.start w No) (yA (w_boxA rfl (fun t3b gt3b ut3b => zA zr58 (fun t4b gt4b ut4b => yC (zA zr58 (fun t5b gt5b ut5b => yC (zA zr104 (fun t6b gt6b ut6b => yB (zq (yA (zf fa52_3 rfl (jM 3 z47 rfl (jj sl47 rfl (mI rfl (yB (zB (c_loop (fun m e B L => ∃ (k : Nat) (ts : List Nat) (p : Bool), e 0 = .slice va vs.length vc ∧ e 3 = pX t3b ∧ e 4 = pX t4b ∧ e 5 = pX t5b ∧ e 6 = pX t6b ∧ e 15 = .slice ka ks.length kc ∧ e 16 = .int .i64 (ks.length : Nat) ∧ e 17 = .int .i64 (k : Nat) ∧ B = [(w, No)] ∧ L = [(t6b, cel [.int .u8 (ts.getD 0 0 : Nat), .int .u8 (ts.getD 1 0 : Nat)] 104), (t5b, cel [.int .u8 0, .bool p] 58), (t4b, cel [.int .u8 0, .bool false] 58), (t3b, cel [.int .u8 (op : Nat), .int .i64 at_, str nm, .slice ka ks.length kc] 52)] ∧ k ≤ ks.length ∧ ts.length = k ∧ ofK vs (Ex.mk op at_ nm ks) = andK (kidsG vs ts p (ks.drop k)) (fun r => ruleK vs op at_ nm ks (r.1.getD 0 0) (r.1.getD 1 0) r.2) ∧ m = ks.length - k) _ ⟨0, [], false, rfl, rfl, rfl, rfl, rfl, rfl, rfl, rfl, rfl, rfl, Nat.zero_le _, rfl, hG, rfl⟩ ?_)))))))))))))))))
  rintro m e B L ⟨k, ts, p, e0_1, e3_1, e4_1, e5_1, e6_1, e15_1, e16_1, e17_1, rfl, rfl, hk, htl, hG1, rfl⟩
  refine yA (jl e17_1 e16_1 (yB (zq ?_))); refine zD rfl (fun h5 => ?_) (fun h5 => ?_)
  · have hlt : k < ks.length := (by omega); obtain ⟨x, hxk⟩ : ∃ x, ks[k]? = some x := ⟨_, List.getElem?_eq_getElem hlt⟩; obtain ⟨cs, hA, hE⟩ := hks.get0 hxk; have hxn := exsW_mem (List.mem_of_getElem? hxk); have hxo := exsOk_mem ho2 (List.mem_of_getElem? hxk); obtain ⟨b1, o1, rfl⟩ := hA.ptr; have hG2 := hG1.trans (kidsG_step hxk ts p _); obtain ⟨op2, at2, nm2, ks2⟩ := x; have hE2 := hE; unfold exM at hE2; obtain ⟨ka2, kc2, rfl, hkc2, hks2⟩ := hE2
    refine zi (zk (zq (zB (yA (mI e17_1 (zg (fun _ => R_iaN (i := k) sl47 e15_1 e17_1 (by omega)) (w_loadC (l := [.int .u8 (op2 : Nat), .int .i64 at2, str nm2, .slice ka2 ks2.length kc2]) z52 rfl rfl (fun w h j v hj => hA.cell (fun _ _ hh => hh) zm0 h j v hj) (zA zr52 (fun t8b gt8b ut8b => aI rfl (jv 0 z52 rfl (yC (mS e0_1 (jy 0 z52 rfl rfl (w_kc (V := kdV) (pan := panK) zm0 hG2 (fun w => zR Tryz.func41 rfl rfl rfl) rfl rfl (fun w h => ih _ _ vs va vc w (by omega) hxo (hE.nowT zm0 h) (hv.nowT zm0 h) hvl) (fun fl w' hx1 hx2 a ha => p_out ha ⟨fl, hx1, rfl, hx2⟩) (fun q7 hX7 hG7 => ?_)))))))))))))))
    obtain ⟨q1, q2⟩ := q7
    refine zA zr58 (fun t9b gt9b ut9b => jv 0 z58 rfl (yC (zf fa58_1 e5_1 (jM 3 z4 rfl (mB rfl ?_))))); refine zp (t := 27) rfl (fun h9 => ?_) (fun h9 => ?_)
    · refine zs rfl rfl (bV h9) (zs rfl rfl (bV h9) (jT (bV h9) rfl (zf fa58_1 e5_1 (jv 3 z4 rfl (yC (mI rfl (jl rfl rfl (yB ?_)))))))); refine zD rfl (fun h10 => ?_) (fun h10 => ?_)
      · refine zr ?_
        rcases two_of htl (by omega) with ⟨rfl, rfl⟩ | ⟨rfl, t0, rfl⟩
        · refine mI rfl (zf fa58_0 rfl (jM 0 z5 rfl (zg (fun _ => R_iaA ar104 (by decide) e6_1 rfl (by omega)) (jv 2 z5 rfl (zn (zO (zk (zr (ji e17_1 rfl (by omega) (mI rfl (zn (zK (B' := [(w, No)]) (L' := _) (fun w h => h.drop (.cons _ (.cons _ (List.Sublist.refl _)))) ?_)))))))))))); exact k_again _ (by omega) ⟨0 + 1, [] ++ [q1], p || q2, e0_1, e3_1, e4_1, e5_1, e6_1, e15_1, e16_1, rfl, rfl, (by subst h9; rfl), by omega, (by simp; try omega), hG7, rfl⟩
        refine mI rfl (zf fa58_0 rfl (jM 0 z5 rfl (zg (fun _ => R_iaA (i := 1) ar104 (by decide) e6_1 rfl (by omega)) (jv 2 z5 rfl (zn (zO (zk (zr (ji e17_1 rfl (by omega) (mI rfl (zn (zK (B' := [(w, No)]) (L' := _) (fun w h => h.drop (.cons _ (.cons _ (List.Sublist.refl _)))) ?_)))))))))))); exact k_again _ (by omega) ⟨1 + 1, [t0] ++ [q1], p || q2, e0_1, e3_1, e4_1, e5_1, e6_1, e15_1, e16_1, rfl, rfl, (by subst h9; rfl), by omega, (by simp; try omega), hG7, rfl⟩
      refine zi (zO (zk (zr (ji e17_1 rfl (by omega) (mI rfl (zn (zK (B' := [(w, No)]) (L' := _) (fun w h => h.drop (.cons _ (.cons _ (List.Sublist.refl _)))) ?_))))))); exact k_again _ (by omega) ⟨k + 1, ts ++ [q1], p || q2, e0_1, e3_1, e4_1, e5_1, e6_1, e15_1, e16_1, rfl, rfl, (by subst h9; rw [snoc0 (by omega), snoc1 (by omega)]; rfl), by omega, (by simp; try omega), hG7, rfl⟩
    refine zw rfl rfl (bV h9) (zf fa58_1 rfl (zw rfl rfl (bV h9) (jM 0 z4 rfl (jF (bV h9) rfl (zf fa58_1 e5_1 (jv 3 z4 rfl (yC (mI rfl (jl rfl rfl (yB ?_)))))))))); refine zD rfl (fun h11 => ?_) (fun h11 => ?_)
    · refine zr ?_
      rcases two_of htl (by omega) with ⟨rfl, rfl⟩ | ⟨rfl, t0, rfl⟩
      · refine mI rfl (zf fa58_0 rfl (jM 0 z5 rfl (zg (fun _ => R_iaA ar104 (by decide) e6_1 rfl (by omega)) (jv 2 z5 rfl (zn (zO (zk (zr (ji e17_1 rfl (by omega) (mI rfl (zn (zK (B' := [(w, No)]) (L' := _) (fun w h => h.drop (.cons _ (.cons _ (List.Sublist.refl _)))) ?_)))))))))))); exact k_again _ (by omega) ⟨0 + 1, [] ++ [q1], p || q2, e0_1, e3_1, e4_1, e5_1, e6_1, e15_1, e16_1, rfl, rfl, (by subst h9; rfl), by omega, (by simp; try omega), hG7, rfl⟩
      refine mI rfl (zf fa58_0 rfl (jM 0 z5 rfl (zg (fun _ => R_iaA (i := 1) ar104 (by decide) e6_1 rfl (by omega)) (jv 2 z5 rfl (zn (zO (zk (zr (ji e17_1 rfl (by omega) (mI rfl (zn (zK (B' := [(w, No)]) (L' := _) (fun w h => h.drop (.cons _ (.cons _ (List.Sublist.refl _)))) ?_)))))))))))); exact k_again _ (by omega) ⟨1 + 1, [t0] ++ [q1], p || q2, e0_1, e3_1, e4_1, e5_1, e6_1, e15_1, e16_1, rfl, rfl, (by subst h9; rfl), by omega, (by simp; try omega), hG7, rfl⟩
    refine zi (zO (zk (zr (ji e17_1 rfl (by omega) (mI rfl (zn (zK (B' := [(w, No)]) (L' := _) (fun w h => h.drop (.cons _ (.cons _ (List.Sublist.refl _)))) ?_))))))); exact k_again _ (by omega) ⟨k + 1, ts ++ [q1], p || q2, e0_1, e3_1, e4_1, e5_1, e6_1, e15_1, e16_1, rfl, rfl, (by subst h9; rw [snoc0 (by omega), snoc1 (by omega)]; rfl), by omega, (by simp; try omega), hG7, rfl⟩
  have hG4 : ofK vs (Ex.mk op at_ nm ks) = ruleK vs op at_ nm ks (ts.getD 0 0) (ts.getD 1 0) p := hG1.trans (kidsG_end (by omega) ts p _); clear hG1; generalize ts.getD 0 0 = a, ts.getD 1 0 = b at hG4 ⊢
  refine zX (zx (zx (b_here rfl (zk (zq (yA (zf fa52_0 e3_1 (jM 3 z5 rfl (yB (zB (yA ?_)))))))))))
  rcases op_ok9 ho1 with rfl | rfl | rfl | rfl | rfl | hop
  · have hG5 := hG4.trans rule_1
    refine je rfl rfl (aB rfl (yB (zE bD (yA (zf fa58_0 e5_1 (jv 1 z5 rfl (yC (zf fa52_2 e3_1 (jM 3 z9 rfl (jD Tryz.func61 (fun w h => digits_ok nm (by omega) w) (yB ?_))))))))))); refine c_cond rfl (fun h12 => ?_) (fun h12 => ?_)
    · refine zr (zf fa58_0 e5_1 (jv 1 z5 rfl (zn (zO (zk (yA (zf fa58_0 e5_1 (jM 1 z5 rfl (jn rfl rfl (zf fa52_1 e3_1 (jM 3 z3 rfl ?_))))))))))); refine w_need (pan := panK) (at_ := _) zm0 (fun w => zR Tryz.func65 rfl rfl rfl) rfl rfl (fun w h => need_ok _ _ w) (fun hb w' hx2 a ha => p_out ha ⟨_, hG5.trans (andK_er (needK_no (by (rw [Bool.eq_iff_iff]; simp only [decide_eq_true_eq, Bool.or_eq_true, Bool.and_eq_true, Bool.not_eq_true', decide_eq_false_iff_not]; grind)) hb)), rfl, hx2⟩) (fun hb13 => ?_)
      have hG13 := hG5.trans (andK_of (needK_yes (by (rw [Bool.eq_iff_iff]; simp only [decide_eq_true_eq, Bool.or_eq_true, Bool.and_eq_true, Bool.not_eq_true', decide_eq_false_iff_not]; grind)) hb13))
      refine yC (jy 1 z58 e5_1 rfl (ju 2 z58 e4_1 rfl rfl (yB (ze (k_p (.inl rfl) (r_fin (.inl rfl) rfl (.agg rfl e4_1 z58 (fun _ h => h.at_ 2 rfl) rfl .nil) ?_)))))); exact fun w' hw => ⟨(_, _), hG13, (by (rw [if_pos h12]; rfl)), hw.f0⟩
    refine zi (zO (zk (yA (zf fa58_0 e5_1 (jM 1 z5 rfl (jn rfl rfl (zf fa52_1 e3_1 (jM 3 z3 rfl ?_)))))))); refine w_need (pan := panK) (at_ := _) zm0 (fun w => zR Tryz.func65 rfl rfl rfl) rfl rfl (fun w h => need_ok _ _ w) (fun hb w' hx2 a ha => p_out ha ⟨_, hG5.trans (andK_er (needK_no (by (rw [Bool.eq_iff_iff]; simp only [decide_eq_true_eq, Bool.or_eq_true, Bool.and_eq_true, Bool.not_eq_true', decide_eq_false_iff_not]; grind)) hb)), rfl, hx2⟩) (fun hb14 => ?_)
    have hG14 := hG5.trans (andK_of (needK_yes (by (rw [Bool.eq_iff_iff]; simp only [decide_eq_true_eq, Bool.or_eq_true, Bool.and_eq_true, Bool.not_eq_true', decide_eq_false_iff_not]; grind)) hb14))
    refine yC (jy 1 z58 e5_1 rfl (ju 2 z58 e4_1 rfl rfl (yB (ze (k_p (.inl rfl) (r_fin (.inl rfl) rfl (.agg rfl e4_1 z58 (fun _ h => h.at_ 2 rfl) rfl .nil) ?_)))))); exact fun w' hw => ⟨(_, _), hG14, (by (rw [if_neg (by rw [h12]; exact Bool.false_ne_true)]; rfl)), hw.f0⟩
  · refine je rfl rfl (aB rfl (yB (zG bE (zq (yA (je rfl rfl (aB rfl (yB (zE bD (zi (zk (zE bD (yA (mS e0_1 (zf fa52_2 e3_1 (jM 3 z9 rfl (jD Tryz.func62 (fun w h => find_ok vs va vc nm w (hv.nowT zm0 h) hvl) ?_)))))))))))))))))
    rcases hq15 : findV vs nm with _ | v15
    · have hG5 := hG4.trans (rule_2n hq15)
      refine zm rfl (jx rfl rfl (jx rfl rfl (zA zr54 (fun b16 gb16 ub16 => jv 0 z54 rfl (aB rfl (yB (zq (yA (mB rfl (jk rfl (yB (zE rfl (zr (zf fa52_1 e3_1 (jM 4 z3 rfl ?_))))))))))))))); refine w_fail (pan := panK) (fl := (150, _)) zm0 (fun w => zR Tryz.func63 rfl rfl rfl) rfl rfl (fun w h => failK_ok 150 _ w) (fun w' hx2 a ha => p_out ha ⟨_, hG5, rfl, hx2⟩)
    have hG5 := hG4.trans (rule_2s hq15)
    refine zm rfl (jx rfl rfl (jx rfl rfl (zA zr54 (fun b17 gb17 ub17 => jv 0 z54 rfl (aB rfl (yB (zq (yA (mB rfl (jk rfl (yB (zG rfl (zi (zk (zq (yA (zf fa52_0 e3_1 (jM 4 z5 rfl (je rfl rfl (yB (zE bD (yA (zf fa54_1 rfl (jM 0 z5 rfl (zf fa54_3 rfl (jM 0 z4 rfl (jb bt58 rfl (ju 3 z58 e4_1 rfl rfl (yB (ze (zt (zb (zt ((k_p (.inl rfl) (r_fin (.inl rfl) rfl (.agg rfl e4_1 z58 (fun _ h => h.at_ 3 rfl) rfl .nil) ?_)))))))))))))))))))))))))))))))))))); exact fun w' hw => ⟨(_, _), hG5, (by rfl), hw.f0⟩
  · refine je rfl rfl (aB rfl (yB (zG bE (zq (yA (je rfl rfl (aB rfl (yB (zG bE (zr (je rfl rfl (aB rfl (yB (zE bD (yA (mS e0_1 (zf fa52_2 e3_1 (jM 3 z9 rfl (jD Tryz.func62 (fun w h => find_ok vs va vc nm w (hv.nowT zm0 h) hvl) ?_)))))))))))))))))))
    rcases hq18 : findV vs nm with _ | v18
    · have hG5 := hG4.trans (rule_3n hq18)
      refine zm rfl (jx rfl rfl (jx rfl rfl (zA zr54 (fun b19 gb19 ub19 => jv 0 z54 rfl (aB rfl (yB (zq (yA (mB rfl (jk rfl (yB (zE rfl (zr (zf fa52_1 e3_1 (jM 4 z3 rfl ?_))))))))))))))); refine w_fail (pan := panK) (fl := (150, _)) zm0 (fun w => zR Tryz.func63 rfl rfl rfl) rfl rfl (fun w h => failK_ok 150 _ w) (fun w' hx2 a ha => p_out ha ⟨_, hG5, rfl, hx2⟩)
    obtain ⟨k0, rfl⟩ : ∃ k, ks = [k] := List.length_eq_one_iff.1 (rule3_len ho1)
    have hG5 := hG4.trans (rule_3s hq18)
    obtain ⟨cs, hA, hE⟩ := hks.get0 (k := 0) (e := k0) rfl; obtain ⟨b1, o1, rfl⟩ := hA.ptr; obtain ⟨op2, at2, nm2, ks2⟩ := k0; have hE2 := hE; unfold exM at hE2; obtain ⟨ka2, kc2, rfl, hkc2, hks2⟩ := hE2
    refine zm rfl (jx rfl rfl (jx rfl rfl (zA zr54 (fun b20 gb20 ub20 => jv 0 z54 rfl (aB rfl (yB (zq (yA (mB rfl (jk rfl (yB (zG rfl (zi (zk (zq (yA (zf fa52_0 e3_1 (jM 4 z5 rfl (je rfl rfl (yB (zG bE (zi (zk (yA (w_makeMap (k := .u8) (fun mb gmb umb => w_insI 0 rfl unm108 unk5 rfl rfl rfl rfl (w_insI 0 rfl unm108 unk5 rfl rfl rfl rfl (w_insI 0 rfl unm108 unk5 rfl rfl rfl rfl (zm rfl (zf fa54_1 rfl (jM 1 z5 rfl (jD Tryz.func64 (fun w h => lookB_ok v18.ty mb [(4, .int .u8 1), (3, .int .u8 2), (5, .int .u8 2)] (.int .u8 (idxT v18.ty : Nat)) w (h.at_ 0 rfl) (idx_look _)) (zf fa58_0 e5_1 (jv 3 z5 rfl (yC (zf fa58_0 e5_1 (jM 3 z5 rfl (jn rfl rfl (zf fa52_1 e3_1 (jM 5 z3 rfl ?_))))))))))))))))))))))))))))))))))))))))
    refine w_need (pan := panK) (at_ := _) zm0 (fun w => zR Tryz.func65 rfl rfl rfl) rfl rfl (fun w h => need_ok _ _ w) (fun hb w' hx2 a ha => p_out ha ⟨_, hG5.trans (andK_er (needK_no (by (rw [Bool.eq_iff_iff]; simp only [decide_eq_true_eq, Bool.or_eq_true, Bool.and_eq_true, Bool.not_eq_true', decide_eq_false_iff_not]; omega)) hb)), rfl, hx2⟩) (fun hb21 => ?_)
    have hG21 := hG5.trans (andK_of (needK_yes (by (rw [Bool.eq_iff_iff]; simp only [decide_eq_true_eq, Bool.or_eq_true, Bool.and_eq_true, Bool.not_eq_true', decide_eq_false_iff_not]; omega)) hb21))
    refine yB (zq (c_heldS mixed (zh (v := .slice _ _ _) 0 rfl (by kernel_rfl) rfl rfl (fun w h => h) (fun w h => R_move e0_1) (zh2 1 rfl rfl (fun w h => h) (fun w h => R_fa fa52_3 e3_1) (zh (v := .slice _ _ _) 2 rfl (by kernel_rfl) rfl rfl (fun w h => h) (fun w h => R_ld1 z47 rfl ((fun _ h => zc 5 rfl rfl h) w h)) (zh2 3 rfl rfl (fun w h => h) (fun w h => R_iaN (i := 0) sl47 rfl rfl (by exact Nat.succ_pos _)) (h_loadC 4 (l := [.int .u8 (op2 : Nat), .int .i64 at2, str nm2, .slice ka2 ks2.length kc2]) rfl (by kernel_rfl) (fun w h => h) z52 rfl rfl (fun w h j v hj => hA.cell (fun _ _ hh => hh) zm0 h j v hj) (h_loadA 5 rfl (by kernel_rfl) (fun w h => h) z58 e5_1 (fun _ h => h.at_ 3 rfl) rfl (zh2 6 rfl rfl (fun w h => h) (fun w h => R_iaA ar104 (by decide) e6_1 rfl (by decide)) (zh (v := .int _ _) 7 rfl (by kernel_rfl) rfl rfl (fun w h => h) (fun w h => R_ld1 z5 rfl ((fun _ h => zc 2 rfl rfl h) w h)) (zH2 8 (fun w h => h) (o_kc (V := (fun _ => .tuple #[])) (pan := panK) zm0 hG21 rfl (wn_none rfl) rfl (fun w => zR Tryz.func66 rfl rfl rfl) (fun w h => counted_ok _ _ _ _ _ _ p a w) (fun fl w' hx1 hx2 a ha => p_out ha ⟨fl, hx1, rfl, hx2⟩) (fun q22 hX22 hG22 => zN2 (fun w h => h) (zk (zr (zf fa54_3 rfl (jM 1 z4 rfl (zf fa58_1 e5_1 (jv 3 z4 rfl (zn (zO (zk (yA (zf fa58_0 e5_1 (jM 3 z5 rfl (jn rfl rfl (zf fa52_1 e3_1 (jM 5 z3 rfl ?_))))))))))))))))))))))))))))
    refine w_need (pan := panK) (at_ := _) zm0 (fun w => zR Tryz.func65 rfl rfl rfl) rfl rfl (fun w h => need_ok _ _ w) (fun hb w' hx2 a ha => p_out ha ⟨_, hG22.trans (andK_er (needK_no (by (rw [Bool.eq_iff_iff]; simp only [decide_eq_true_eq, Bool.or_eq_true, Bool.and_eq_true, Bool.not_eq_true', decide_eq_false_iff_not]; omega)) hb)), rfl, hx2⟩) (fun hb23 => ?_)
    have hG23 := hG22.trans (andK_of (needK_yes (by (rw [Bool.eq_iff_iff]; simp only [decide_eq_true_eq, Bool.or_eq_true, Bool.and_eq_true, Bool.not_eq_true', decide_eq_false_iff_not]; omega)) hb23))
    refine yC (jy 3 z58 e5_1 rfl (ju 4 z58 e4_1 rfl rfl (yB (ze (k_p (.inl rfl) (r_fin (.inl rfl) rfl (.agg rfl e4_1 z58 (fun _ h => h.at_ 4 rfl) rfl .nil) ?_)))))); exact fun w' hw => ⟨(_, _), hG23, (by rfl), hw.f0⟩
  · refine je rfl rfl (aB rfl (yB (zG bE (zq (yA (je rfl rfl (aB rfl (yB (zG bE (zr (je rfl rfl (aB rfl (yB (zG bE (yA (je rfl rfl (aB rfl (yB (zE bD (yA (aB rfl (yB (zq (yA (zf fa52_2 e3_1 (jM 3 z9 rfl (jy 0 z104 e6_1 rfl ?_)))))))))))))))))))))))))))
    rcases hc : callK nm a b with _ | ct
    · refine jD (v := .tuple #[.int .u8 0, .bool false]) Tryz.func67 (fun w h => by have := calls_ok nm a b w; rw [hc] at this; exact this) ?_
      have hG5 := hG4.trans (rule_4n hc)
      refine zm rfl (jx rfl rfl (jx rfl rfl (zf fa58_0 e5_1 (jv 1 z5 rfl (aB rfl (yC (mB rfl (jk rfl (yB (zE rfl (zr (zf fa52_1 e3_1 (jM 3 z3 rfl ?_))))))))))))); refine w_fail (pan := panK) (fl := (150, _)) zm0 (fun w => zR Tryz.func63 rfl rfl rfl) rfl rfl (fun w h => failK_ok 150 _ w) (fun w' hx2 a ha => p_out ha ⟨_, hG5, rfl, hx2⟩)
    refine jD (v := .tuple #[.int .u8 (ct : Nat), .bool true]) Tryz.func67 (fun w h => by have := calls_ok nm a b w; rw [hc] at this; exact this) ?_
    have hG5 := hG4.trans (rule_4s hc)
    refine zm rfl (jx rfl rfl (jx rfl rfl (zf fa58_0 e5_1 (jv 1 z5 rfl (aB rfl (yC (mB rfl (jk rfl (yB (zG rfl (zi (zk (yA (aI rfl (yB (zq (yA (zf fa52_2 e3_1 (jM 3 z9 rfl (js rfl rfl (yB ?_))))))))))))))))))))); refine zD rfl (fun h24 => ?_) (fun h24 => ?_)
    · refine zr (aI rfl (yC (zf fa52_3 e3_1 (jM 3 z47 rfl (jj sl47 rfl (mI rfl (je rfl rfl (zf fa52_1 e3_1 (jM 3 z3 rfl ?_))))))))); refine w_need (pan := panK) (at_ := _) zm0 (fun w => zR Tryz.func65 rfl rfl rfl) rfl rfl (fun w h => need_ok _ _ w) (fun hb w' hx2 a ha => p_out ha ⟨_, hG5.trans (andK_er (needK_no (by (rw [Bool.eq_iff_iff]; simp only [decide_eq_true_eq, Bool.or_eq_true, Bool.and_eq_true, Bool.not_eq_true', decide_eq_false_iff_not]; grind)) hb)), rfl, hx2⟩) (fun hb25 => ?_)
      have hG25 := hG5.trans (andK_of (needK_yes (by (rw [Bool.eq_iff_iff]; simp only [decide_eq_true_eq, Bool.or_eq_true, Bool.and_eq_true, Bool.not_eq_true', decide_eq_false_iff_not]; grind)) hb25))
      refine yB (zr (zf fa58_1 e5_1 (jM 1 z4 rfl (mB rfl ?_)))); refine zp (t := 128) rfl (fun h26 => ?_) (fun h26 => ?_)
      · refine zw rfl rfl (bV h26) (zf fa52_2 e3_1 (zw rfl rfl (bV h26) (jM 3 z9 rfl (zw rfl rfl (bV h26) (zg (fun _ => R_sne rfl rfl) (jT (bV h26) rfl (zf fa58_1 e5_1 (jv 1 z4 rfl (zn (zO (zk (yA (zf fa58_0 e5_1 (jM 1 z5 rfl (jn rfl rfl (zf fa52_1 e3_1 (jM 3 z3 rfl ?_)))))))))))))))))
        refine w_need (pan := panK) (at_ := _) zm0 (fun w => zR Tryz.func65 rfl rfl rfl) rfl rfl (fun w h => need_ok _ _ w) (fun hb w' hx2 a ha => p_out ha ⟨_, hG25.trans (andK_er (needK_no (by (rw [Bool.eq_iff_iff]; simp only [decide_eq_true_eq, Bool.or_eq_true, Bool.and_eq_true, Bool.not_eq_true', decide_eq_false_iff_not]; omega)) hb)), rfl, hx2⟩) (fun hb27 => ?_)
        have hG27 := hG25.trans (andK_of (needK_yes (by (rw [Bool.eq_iff_iff]; simp only [decide_eq_true_eq, Bool.or_eq_true, Bool.and_eq_true, Bool.not_eq_true', decide_eq_false_iff_not]; omega)) hb27))
        refine yC (jy 1 z58 e5_1 rfl (ju 2 z58 e4_1 rfl rfl (yB (ze (k_p (.inl rfl) (r_fin (.inl rfl) rfl (.agg rfl e4_1 z58 (fun _ h => h.at_ 2 rfl) rfl .nil) ?_)))))); exact fun w' hw => ⟨(_, _), hG27, (by (rw [h26, Bool.true_and, decide_not]; rfl)), hw.f0⟩
      refine zs rfl rfl (bV h26) (zs rfl rfl (bV h26) (zs rfl rfl (bV h26) (jF (bV h26) rfl (zf fa58_1 e5_1 (jv 1 z4 rfl (zn (zO (zk (yA (zf fa58_0 e5_1 (jM 1 z5 rfl (jn rfl rfl (zf fa52_1 e3_1 (jM 3 z3 rfl ?_))))))))))))))
      refine w_need (pan := panK) (at_ := _) zm0 (fun w => zR Tryz.func65 rfl rfl rfl) rfl rfl (fun w h => need_ok _ _ w) (fun hb w' hx2 a ha => p_out ha ⟨_, hG25.trans (andK_er (needK_no (by (rw [Bool.eq_iff_iff]; simp only [decide_eq_true_eq, Bool.or_eq_true, Bool.and_eq_true, Bool.not_eq_true', decide_eq_false_iff_not]; omega)) hb)), rfl, hx2⟩) (fun hb28 => ?_)
      have hG28 := hG25.trans (andK_of (needK_yes (by (rw [Bool.eq_iff_iff]; simp only [decide_eq_true_eq, Bool.or_eq_true, Bool.and_eq_true, Bool.not_eq_true', decide_eq_false_iff_not]; omega)) hb28))
      refine yC (jy 1 z58 e5_1 rfl (ju 2 z58 e4_1 rfl rfl (yB (ze (k_p (.inl rfl) (r_fin (.inl rfl) rfl (.agg rfl e4_1 z58 (fun _ h => h.at_ 2 rfl) rfl .nil) ?_)))))); exact fun w' hw => ⟨(_, _), hG28, (by (rw [h26]; rfl)), hw.f0⟩
    refine zi (zk (yA (zf fa52_3 e3_1 (jM 3 z47 rfl (jj sl47 rfl (mI rfl (je rfl rfl (zf fa52_1 e3_1 (jM 3 z3 rfl ?_))))))))); refine w_need (pan := panK) (at_ := _) zm0 (fun w => zR Tryz.func65 rfl rfl rfl) rfl rfl (fun w h => need_ok _ _ w) (fun hb w' hx2 a ha => p_out ha ⟨_, hG5.trans (andK_er (needK_no (by (rw [Bool.eq_iff_iff]; simp only [decide_eq_true_eq, Bool.or_eq_true, Bool.and_eq_true, Bool.not_eq_true', decide_eq_false_iff_not]; grind)) hb)), rfl, hx2⟩) (fun hb29 => ?_)
    have hG29 := hG5.trans (andK_of (needK_yes (by (rw [Bool.eq_iff_iff]; simp only [decide_eq_true_eq, Bool.or_eq_true, Bool.and_eq_true, Bool.not_eq_true', decide_eq_false_iff_not]; grind)) hb29))
    refine yB (zr (zf fa58_1 e5_1 (jM 1 z4 rfl (mB rfl ?_)))); refine zp (t := 128) rfl (fun h30 => ?_) (fun h30 => ?_)
    · refine zw rfl rfl (bV h30) (zf fa52_2 e3_1 (zw rfl rfl (bV h30) (jM 3 z9 rfl (zw rfl rfl (bV h30) (zg (fun _ => R_sne rfl rfl) (jT (bV h30) rfl (zf fa58_1 e5_1 (jv 1 z4 rfl (zn (zO (zk (yA (zf fa58_0 e5_1 (jM 1 z5 rfl (jn rfl rfl (zf fa52_1 e3_1 (jM 3 z3 rfl ?_)))))))))))))))))
      refine w_need (pan := panK) (at_ := _) zm0 (fun w => zR Tryz.func65 rfl rfl rfl) rfl rfl (fun w h => need_ok _ _ w) (fun hb w' hx2 a ha => p_out ha ⟨_, hG29.trans (andK_er (needK_no (by (rw [Bool.eq_iff_iff]; simp only [decide_eq_true_eq, Bool.or_eq_true, Bool.and_eq_true, Bool.not_eq_true', decide_eq_false_iff_not]; omega)) hb)), rfl, hx2⟩) (fun hb31 => ?_)
      have hG31 := hG29.trans (andK_of (needK_yes (by (rw [Bool.eq_iff_iff]; simp only [decide_eq_true_eq, Bool.or_eq_true, Bool.and_eq_true, Bool.not_eq_true', decide_eq_false_iff_not]; omega)) hb31))
      refine yC (jy 1 z58 e5_1 rfl (ju 2 z58 e4_1 rfl rfl (yB (ze (k_p (.inl rfl) (r_fin (.inl rfl) rfl (.agg rfl e4_1 z58 (fun _ h => h.at_ 2 rfl) rfl .nil) ?_)))))); exact fun w' hw => ⟨(_, _), hG31, (by (rw [h30, Bool.true_and, decide_not]; rfl)), hw.f0⟩
    refine zs rfl rfl (bV h30) (zs rfl rfl (bV h30) (zs rfl rfl (bV h30) (jF (bV h30) rfl (zf fa58_1 e5_1 (jv 1 z4 rfl (zn (zO (zk (yA (zf fa58_0 e5_1 (jM 1 z5 rfl (jn rfl rfl (zf fa52_1 e3_1 (jM 3 z3 rfl ?_))))))))))))))
    refine w_need (pan := panK) (at_ := _) zm0 (fun w => zR Tryz.func65 rfl rfl rfl) rfl rfl (fun w h => need_ok _ _ w) (fun hb w' hx2 a ha => p_out ha ⟨_, hG29.trans (andK_er (needK_no (by (rw [Bool.eq_iff_iff]; simp only [decide_eq_true_eq, Bool.or_eq_true, Bool.and_eq_true, Bool.not_eq_true', decide_eq_false_iff_not]; omega)) hb)), rfl, hx2⟩) (fun hb32 => ?_)
    have hG32 := hG29.trans (andK_of (needK_yes (by (rw [Bool.eq_iff_iff]; simp only [decide_eq_true_eq, Bool.or_eq_true, Bool.and_eq_true, Bool.not_eq_true', decide_eq_false_iff_not]; omega)) hb32))
    refine yC (jy 1 z58 e5_1 rfl (ju 2 z58 e4_1 rfl rfl (yB (ze (k_p (.inl rfl) (r_fin (.inl rfl) rfl (.agg rfl e4_1 z58 (fun _ h => h.at_ 2 rfl) rfl .nil) ?_)))))); exact fun w' hw => ⟨(_, _), hG32, (by (rw [h30]; rfl)), hw.f0⟩
  · have hG5 := hG4.trans rule_5
    refine je rfl rfl (aB rfl (yB (zG bE (zq (yA (je rfl rfl (aB rfl (yB (zG bE (zr (je rfl rfl (aB rfl (yB (zG bE (yA (je rfl rfl (aB rfl (yB (zG bE (yA (je rfl rfl (aB rfl (yB (zE bD (yA (zg (fun _ => R_iaA ar104 (by decide) e6_1 rfl (by decide)) (jM 0 z5 rfl (jm rfl rfl (yB ?_))))))))))))))))))))))))))))); refine zD rfl (fun h33 => ?_) (fun h33 => ?_)
    · refine zr (zg (fun _ => R_iaA ar104 (by decide) e6_1 rfl (by decide)) (jM 0 z5 rfl (zf fa58_0 e5_1 (jv 1 z5 rfl (zn (zO (zk (yA (zf fa58_0 e5_1 (jM 1 z5 rfl (jn rfl rfl (zf fa52_1 e3_1 (jM 3 z3 rfl ?_)))))))))))))
      refine w_need (pan := panK) (at_ := _) zm0 (fun w => zR Tryz.func65 rfl rfl rfl) rfl rfl (fun w h => need_ok _ _ w) (fun hb w' hx2 a ha => p_out ha ⟨_, hG5.trans (andK_er (needK_no (by (rw [Bool.eq_iff_iff]; simp only [decide_eq_true_eq, Bool.or_eq_true, Bool.and_eq_true, Bool.not_eq_true', decide_eq_false_iff_not]; grind)) hb)), rfl, hx2⟩) (fun hb34 => ?_)
      have hG34 := hG5.trans (andK_of (needK_yes (by (rw [Bool.eq_iff_iff]; simp only [decide_eq_true_eq, Bool.or_eq_true, Bool.and_eq_true, Bool.not_eq_true', decide_eq_false_iff_not]; grind)) hb34))
      refine yC (jy 1 z58 e5_1 rfl (ju 2 z58 e4_1 rfl rfl (yB (ze (k_p (.inl rfl) (r_fin (.inl rfl) rfl (.agg rfl e4_1 z58 (fun _ h => h.at_ 2 rfl) rfl .nil) ?_)))))); exact fun w' hw => ⟨(_, _), hG34, (by (rw [if_pos (by omega)]; rfl)), hw.f0⟩
    refine zi (zO (zk (yA (zf fa58_0 e5_1 (jM 1 z5 rfl (jn rfl rfl (zf fa52_1 e3_1 (jM 3 z3 rfl ?_)))))))); refine w_need (pan := panK) (at_ := _) zm0 (fun w => zR Tryz.func65 rfl rfl rfl) rfl rfl (fun w h => need_ok _ _ w) (fun hb w' hx2 a ha => p_out ha ⟨_, hG5.trans (andK_er (needK_no (by (rw [Bool.eq_iff_iff]; simp only [decide_eq_true_eq, Bool.or_eq_true, Bool.and_eq_true, Bool.not_eq_true', decide_eq_false_iff_not]; grind)) hb)), rfl, hx2⟩) (fun hb35 => ?_)
    have hG35 := hG5.trans (andK_of (needK_yes (by (rw [Bool.eq_iff_iff]; simp only [decide_eq_true_eq, Bool.or_eq_true, Bool.and_eq_true, Bool.not_eq_true', decide_eq_false_iff_not]; grind)) hb35))
    refine yC (jy 1 z58 e5_1 rfl (ju 2 z58 e4_1 rfl rfl (yB (ze (k_p (.inl rfl) (r_fin (.inl rfl) rfl (.agg rfl e4_1 z58 (fun _ h => h.at_ 2 rfl) rfl .nil) ?_)))))); exact fun w' hw => ⟨(_, _), hG35, (by (rw [if_neg (by omega)]; rfl)), hw.f0⟩
  have hG5 := hG4.trans (rule_6 hop)
  refine je rfl rfl (aB rfl (yB ?_)); refine zD rfl (fun h36 => ?_) (fun h36 => ?_)
  · exfalso; omega
  refine zq (yA (je rfl rfl (aB rfl (yB ?_)))); refine zD rfl (fun h37 => ?_) (fun h37 => ?_)
  · exfalso; omega
  refine zr (je rfl rfl (aB rfl (yB ?_))); refine zD rfl (fun h38 => ?_) (fun h38 => ?_)
  · exfalso; omega
  refine yA (je rfl rfl (aB rfl (yB ?_))); refine zD rfl (fun h39 => ?_) (fun h39 => ?_)
  · exfalso; omega
  refine yA (je rfl rfl (aB rfl (yB ?_))); refine zD rfl (fun h40 => ?_) (fun h40 => ?_)
  · exfalso; omega
  refine zr (zf fa52_0 e3_1 (jM 3 z5 rfl (jy 0 z104 e6_1 rfl (jD Tryz.func68 (fun w h => joined_ok op a b w) (zf fa58_0 e5_1 (jv 1 z5 rfl (zn (zO (zk (yA (zf fa58_0 e5_1 (jM 1 z5 rfl (jn rfl rfl (zf fa52_1 e3_1 (jM 3 z3 rfl ?_)))))))))))))))
  refine w_need (pan := panK) (at_ := _) zm0 (fun w => zR Tryz.func65 rfl rfl rfl) rfl rfl (fun w h => need_ok _ _ w) (fun hb w' hx2 a ha => p_out ha ⟨_, hG5.trans (andK_er (needK_no (by (rw [Bool.eq_iff_iff]; simp only [decide_eq_true_eq, Bool.or_eq_true, Bool.and_eq_true, Bool.not_eq_true', decide_eq_false_iff_not]; omega)) hb)), rfl, hx2⟩) (fun hb41 => ?_)
  have hG41 := hG5.trans (andK_of (needK_yes (by (rw [Bool.eq_iff_iff]; simp only [decide_eq_true_eq, Bool.or_eq_true, Bool.and_eq_true, Bool.not_eq_true', decide_eq_false_iff_not]; omega)) hb41))
  refine yC (jy 1 z58 e5_1 rfl (ju 2 z58 e4_1 rfl rfl (yB (ze (k_p (.inl rfl) (r_fin (.inl rfl) rfl (.agg rfl e4_1 z58 (fun _ h => h.at_ 2 rfl) rfl .nil) ?_)))))); exact fun w' hw => ⟨(_, _), hG41, (by rfl), hw.f0⟩
theorem of_all : ∀ n : Nat, n ≤ 10000000 → OfH n
  | 0, _ => fun _ _ _ _ _ _ h => absurd h (Nat.not_lt_zero _)
  | n + 1, h => fun x cs vs va vc w hx hok hm hv hvl => of_step n (of_all n (by omega)) (by omega) x cs vs va vc w hx hok hm hv hvl
theorem of_ok : OfH 10000000 := of_all _ (Nat.le_refl _)
theorem count_ok (x : Ex) (cs : List Value) (vs : List Vr) (va : Option Addr) (vc : Nat) (w : World) (hx : exW x < 10000000) (hok : exOk x = true) (hm : exM w (fun _ => True) x cs) (hv : vrsV w (fun _ => True) vs (va, vc)) (hvl : vs.length ≤ 90000000) :
    RetP Tryz.prog 82 #[.slice va vs.length vc, .agg cs.toArray] w (RK (fun _ => .tuple #[]) (countK vs x) w) (EK panK (countK vs x) w) := by
  obtain ⟨op, at_, nm, ks⟩ := x
  have hm2 := hm
  unfold exM at hm2
  obtain ⟨ka, kc, rfl, hkc, hks⟩ := hm2
  have hx2 := hx
  unfold exW at hx2
  have hG : countK vs (Ex.mk op at_ nm ks) = andK (ofK vs (Ex.mk op at_ nm ks)) (fun k => countedK (Ex.mk op at_ nm ks) k) := rfl
  refine enterP (S := No) (l := [_, _]) (L := []) 14 Tryz.func82 rfl rfl rfl (St.start w No) (yA (w_boxA rfl (fun t3b gt3b ut3b => yC (mS rfl (jy 0 z52 rfl rfl (w_kc (V := kdV) (pan := panK) zm0 hG (fun w => zR Tryz.func41 rfl rfl rfl) rfl rfl (fun w h => of_ok _ _ vs va vc w hx hok (hm.nowT zm0 h) (hv.nowT zm0 h) hvl) (fun fl w' hx1 hx2 a ha => p_out ha ⟨fl, hx1, rfl, hx2⟩) (fun q2 hX2 hG2 => ?_)))))))
  obtain ⟨q1, q2⟩ := q2
  refine zA zr58 (fun t4b gt4b ut4b => jv 0 z58 rfl (yB (zr (mS rfl (jy 1 z52 rfl rfl (jy 0 z58 rfl rfl (zf fa58_0 rfl (jM 0 z5 rfl (w_kc (V := (fun _ => .tuple #[])) (pan := panK) zm0 (hG2.trans (andK_unit _).symm) (fun w => zR Tryz.func66 rfl rfl rfl) rfl rfl (fun w h => counted_ok _ _ _ _ _ _ q2 q1 w) (fun fl w' hx1 hx2 a ha => p_out ha ⟨fl, hx1, rfl, hx2⟩) (fun q4 hX4 hG4 => zn (k_p (.inr rfl) (r_none (.inr rfl) rfl ?_)))))))))))); exact fun w' hw => ⟨_, hG4, rfl, hw.f0⟩
def SmoothH (n : Nat) : Prop := ∀ (x : Ex) (cs : List Value) (w : World), exW x < n → exM w (fun _ => True) x cs → RetP Tryz.prog 85 #[.agg cs.toArray] w (RK (fun _ => .tuple #[]) (smoothK x) w) (EK panK (smoothK x) w)
theorem smooth_step (n : Nat) (ih : SmoothH n) (hn : n ≤ 10000000) (x : Ex) (cs : List Value) (w : World) (hx : exW x < n + 1) (hm : exM w (fun _ => True) x cs) :
    RetP Tryz.prog 85 #[.agg cs.toArray] w (RK (fun _ => .tuple #[]) (smoothK x) w) (EK panK (smoothK x) w) := by
  obtain ⟨op, at_, nm, ks⟩ := x
  have hm2 := hm
  unfold exM at hm2
  obtain ⟨ka, kc, rfl, hkc, hks⟩ := hm2
  have hx2 := hx
  unfold exW at hx2
  have hG : smoothK (Ex.mk op at_ nm ks) = andK (smoothsK ks) (fun _ => needK (!decide (op = 4) || !decide (nm ∈ roughS)) at_) := by rw [smoothK]
  refine enterP (S := No) (l := [_]) (L := []) 27 Tryz.func85 rfl rfl rfl (St.start w No) (yA (w_boxA rfl (fun t1b gt1b ut1b => yB (zq (yA (zf fa52_3 rfl (jM 0 z47 rfl (jj sl47 rfl (mI rfl (yB (zB (c_loop (fun m e B L => ∃ (k : Nat), e 1 = pX t1b ∧ e 5 = .slice ka ks.length kc ∧ e 6 = .int .i64 (ks.length : Nat) ∧ e 7 = .int .i64 (k : Nat) ∧ B = [(w, No)] ∧ L = [(t1b, cel [.int .u8 (op : Nat), .int .i64 at_, str nm, .slice ka ks.length kc] 52)] ∧ k ≤ ks.length ∧ smoothK (Ex.mk op at_ nm ks) = andK (smoothsK (ks.drop k)) (fun _ => needK (!decide (op = 4) || !decide (nm ∈ roughS)) at_) ∧ m = ks.length - k) _ ⟨0, rfl, rfl, rfl, rfl, rfl, rfl, Nat.zero_le _, hG, rfl⟩ ?_))))))))))))
  rintro m e B L ⟨k, e1_1, e5_1, e6_1, e7_1, rfl, rfl, hk, hG1, rfl⟩
  refine yA (jl e7_1 e6_1 (yB (zq ?_))); refine zD rfl (fun h2 => ?_) (fun h2 => ?_)
  · have hlt : k < ks.length := (by omega); obtain ⟨x, hxk⟩ : ∃ x, ks[k]? = some x := ⟨_, List.getElem?_eq_getElem hlt⟩; obtain ⟨cs, hA, hE⟩ := hks.get0 hxk; have hxn := exsW_mem (List.mem_of_getElem? hxk); obtain ⟨b1, o1, rfl⟩ := hA.ptr; have hG2 := hG1.trans (smoothsK_step hxk _); obtain ⟨op2, at2, nm2, ks2⟩ := x; have hE2 := hE; unfold exM at hE2; obtain ⟨ka2, kc2, rfl, hkc2, hks2⟩ := hE2
    refine zi (zk (zq (zB (yA (zg (fun _ => R_iaN (i := k) sl47 e5_1 e7_1 (by omega)) (w_loadC (l := [.int .u8 (op2 : Nat), .int .i64 at2, str nm2, .slice ka2 ks2.length kc2]) z52 rfl rfl (fun w h j v hj => hA.cell (fun _ _ hh => hh) zm0 h j v hj) (zA zr52 (fun t3b gt3b ut3b => jv 0 z52 rfl (yB (zr (jy 0 z52 rfl rfl (w_kc (V := (fun _ => .tuple #[])) (pan := panK) zm0 hG2 (fun w => zR Tryz.func85 rfl rfl rfl) rfl rfl (fun w h => ih _ _ w (by omega) (hE.nowT zm0 h)) (fun fl w' hx1 hx2 a ha => p_out ha ⟨fl, hx1, rfl, hx2⟩) (fun q4 hX4 hG4 => zn (zO (zk (zr (ji e7_1 rfl (by omega) (mI rfl (zn (zK (B' := [(w, No)]) (L' := _) (fun w h => h.d1) ?_)))))))))))))))))))); exact k_again _ (by omega) ⟨k + 1, e1_1, e5_1, e6_1, rfl, rfl, rfl, by omega, hG4, rfl⟩
  have hG4 : smoothK (Ex.mk op at_ nm ks) = needK (!decide (op = 4) || !decide (nm ∈ roughS)) at_ := hG1.trans (smoothsK_end (by omega) _)
  refine zX (zx (zx (b_here rfl (zk (c_heldS mixed (zh2 0 rfl rfl (fun w h => h) (fun w h => R_fa fa52_0 e1_1) (zh (v := .int _ _) 1 rfl (by kernel_rfl) rfl rfl (fun w h => h) (fun w h => R_ld1 z5 rfl ((fun _ h => zc 0 rfl rfl h) w h)) (zh2 2 rfl rfl (fun w h => h) (fun w h => R_ne rfl rfl) (zh (v := .bool _) 3 rfl (by kernel_rfl) rfl rfl (fun w h => h) (fun w h => R_move rfl) ?_))))))))); refine h_splitD (t := 17) rfl (fun h5 => ?_) (fun h5 => ?_)
  · refine h_skip 4 rfl (by kernel_rfl) rfl rfl rfl (bT h5) rfl (fun w h => h) (h_skip 5 rfl (by kernel_rfl) rfl rfl rfl (bT h5) rfl (fun w h => h) (h_skip 6 rfl (by kernel_rfl) rfl rfl rfl (bT h5) rfl (fun w h => h) (h_skip 7 rfl (by kernel_rfl) rfl rfl rfl (bT h5) rfl (fun w h => h) (h_skip 8 rfl (by kernel_rfl) rfl rfl rfl (bT h5) rfl (fun w h => h) (zh (v := .bool _) 9 rfl (by kernel_rfl) rfl rfl (fun w h => h) (fun w h => zT (bT h5) rfl) (zh2 10 rfl rfl (fun w h => h) (fun w h => R_fa fa52_1 e1_1) (zh (v := .int _ _) 11 rfl (by kernel_rfl) rfl rfl (fun w h => h) (fun w h => R_ld1 z3 rfl ((fun _ h => zc 0 rfl rfl h) w h)) (zH2 12 (fun w h => h) ?_))))))))
    refine o_need (pan := panK) (at_ := _) zm0 rfl (wn_none rfl) rfl (fun w => zR Tryz.func65 rfl rfl rfl) (fun w h => need_ok _ _ w) (fun hb w' hx2 a ha => p_out ha ⟨_, (hG4.trans (andK_unit _).symm).trans (andK_er (needK_no (by (rw [Bool.eq_iff_iff]; simp only [decide_eq_true_eq, Bool.or_eq_true, Bool.and_eq_true, Bool.not_eq_true', decide_eq_false_iff_not]; grind)) hb)), rfl, hx2⟩) (fun hb6 => ?_)
    have hG6 := (hG4.trans (andK_unit _).symm).trans (andK_of (needK_yes (by (rw [Bool.eq_iff_iff]; simp only [decide_eq_true_eq, Bool.or_eq_true, Bool.and_eq_true, Bool.not_eq_true', decide_eq_false_iff_not]; grind)) hb6))
    refine zN2 (fun w h => h) (k_p (.inr rfl) (r_none (.inr rfl) rfl ?_)); exact fun w' hw => ⟨_, hG6, rfl, hw.f0⟩
  refine h_takeG 5 rfl (by kernel_rfl) rfl rfl rfl (bF h5) rfl (fun w h => h) (fun w h => R_fa fa52_2 e1_1) (h_takeG (v := str _) 6 rfl (by kernel_rfl) rfl rfl rfl (bF h5) rfl (fun w h => h) (fun w h => R_ld1 z9 rfl ((fun _ h => zc 0 rfl rfl h) w h)) (zh2 10 rfl rfl (fun w h => h) (fun w h => R_fa fa52_1 e1_1) (zh (v := .int _ _) 11 rfl (by kernel_rfl) rfl rfl (fun w h => h) (fun w h => R_ld1 z3 rfl ((fun _ h => zc 0 rfl rfl h) w h)) (zH2 4 (fun w h => h) (o_bsliceV rfl (wn_yes rfl rfl rfl (bF h5)) slt153 (by decide) rfl rfl (fun sb gsb usb => zH2 7 (fun w h => h.d1) (o_pureW rfl (wn_yes rfl rfl rfl (bF h5)) rfl (fun w => zR Tryz.func116 rfl rfl rfl) (fun w h => hasW_ok roughS nm sb w (by decide) (h.at_ 0 rfl)) (h_takeG 8 rfl (by kernel_rfl) rfl rfl rfl (bF h5) rfl (fun w h => h.d1) (fun w h => R_not rfl) (zh (v := .bool _) 9 rfl (by kernel_rfl) rfl rfl (fun w h => h.d1) (fun w h => zF (bF h5) rfl) (zH2 12 (fun w h => h.d1) ?_))))))))))
  refine o_need (pan := panK) (at_ := _) zm0 rfl (wn_none rfl) rfl (fun w => zR Tryz.func65 rfl rfl rfl) (fun w h => need_ok _ _ w) (fun hb w' hx2 a ha => p_out ha ⟨_, (hG4.trans (andK_unit _).symm).trans (andK_er (needK_no (by (rw [Bool.eq_iff_iff]; simp only [decide_eq_true_eq, Bool.or_eq_true, Bool.and_eq_true, Bool.not_eq_true', decide_eq_false_iff_not]; grind)) hb)), rfl, hx2⟩) (fun hb7 => ?_)
  have hG7 := (hG4.trans (andK_unit _).symm).trans (andK_of (needK_yes (by (rw [Bool.eq_iff_iff]; simp only [decide_eq_true_eq, Bool.or_eq_true, Bool.and_eq_true, Bool.not_eq_true', decide_eq_false_iff_not]; grind)) hb7))
  refine zN2 (fun w h => h.d1) (k_p (.inr rfl) (r_none (.inr rfl) rfl ?_)); exact fun w' hw => ⟨_, hG7, rfl, hw.f0⟩
theorem smooth_all : ∀ n : Nat, n ≤ 10000000 → SmoothH n
  | 0, _ => fun _ _ _ h => absurd h (Nat.not_lt_zero _)
  | n + 1, h => smooth_step n (smooth_all n (by omega)) (by omega)
theorem smooth_ok : SmoothH 10000000 := smooth_all _ (Nat.le_refl _)
end Go.Proofs.YtoehjlmdnajibaaGreatDoor
end
section
namespace Go.Sx
open Go.RowKit Go.Tree
theorem Mc.app {α : Type} {k : Nat} {M : World → (Nat → Prop) → α → List Value → Prop} {W : World} {N : Nat → Prop} {l l2 : List α} {xs ys : List Value} (h : Mc k M W N l xs) (hx : xs.length = l.length * k) (h2 : Mc k M W N l2 ys) : Mc k M W N (l ++ l2) (xs ++ ys) := by
  intro j u hu
  rcases Nat.lt_or_ge j l.length with h3 | h3
  · rw [List.getElem?_append_left h3] at hu
    have h4 := h j u hu
    have h5 : (j + 1) * k ≤ l.length * k := Nat.mul_le_mul_right _ h3
    rw [Nat.add_mul, Nat.one_mul] at h5
    rw [List.drop_append_of_le_length (by omega), List.take_append_of_le_length (by rw [List.length_drop]; omega)]
    exact h4
  rw [List.getElem?_append_right h3] at hu
  have h4 := h2 _ u hu
  have h5 : j * k = xs.length + (j - l.length) * k := by rw [hx, ← Nat.add_mul]; congr 1; omega
  rw [h5, ← List.drop_drop, List.drop_left]
  exact h4
theorem cell_lt {w : World} {b o : Nat} {v : Value} (h : w.cell? ⟨b, o, none⟩ = some v) : b < w.heap.size := by
  cases hq : w.heap[b]? with
  | none => simp [World.cell?, hq] at h
  | some o => exact lt_of_blk hq
mutual
theorem exM.nb {w : World} {N : Nat → Prop} : ∀ (e : Ex) (cs : List Value), exM w N e cs → exM w (Nb 0 (w, No)) e cs
  | .mk op at_ nm ks, cs, h => by
    unfold exM at h ⊢
    obtain ⟨a, c, h1, h2, h3⟩ := h
    exact ⟨a, c, h1, h2, exsM.nb ks a 0 h3⟩
theorem exsM.nb {w : World} {N : Nat → Prop} : ∀ (l : List Ex) (a : Option Addr) (i : Nat), exsM w N l a i → exsM w (Nb 0 (w, No)) l a i
  | [], _, _, _ => by unfold exsM; trivial
  | e :: l, a, i, h => by
    unfold exsM at h ⊢
    obtain ⟨⟨cs, ⟨b, o, ha, hb, hc⟩, h2⟩, h3⟩ := h
    have hlt : b < w.heap.size := by
      obtain ⟨op, at_, nm, ks⟩ := e
      have h4 := h2
      unfold exM at h4
      obtain ⟨a1, c1, rfl, _⟩ := h4
      exact cell_lt (hc 0 _ rfl)
    exact ⟨⟨cs, ⟨b, o, ha, ⟨Nat.zero_le _, hlt, fun h => h⟩, hc⟩, exM.nb e cs h2⟩, exsM.nb l a (i + 4) h3⟩
end
end Go.Sx
end
section
namespace Go.Sx
open Go.RowKit Go.Tree Go.Tok Go.Knd
section
variable {P : Program} {ops : Array Oper} {Q : Exit → Act → World → Prop} {c : Cf} {e : Env} {B : Base} {L : Heap} {rest : List Oper} {d : Nat} {ρ : Operand → Value} {D : Option Tmp} {g : Option (Nat × Bool)} {x y : Operand} {T : TypeId} {p : String} {ed : Array Edge} {t te bytes : Nat} {z v : Value} {xs : List Value} {W : Heap} {w : World}
theorem R_cap {k : Nat} {a : Option Addr} {n m : Nat} (hu : slB P t k = true) (hx : ρ x = .slice a n m) : Run P ⟨D, .call ⟨.builtin .cap, #[x], #[t]⟩, T, p, ed, g⟩ ρ w (.int .i64 (m : Nat)) w := by
  obtain ⟨e, ti, h3, h4, h5⟩ := slB_spec hu
  simp [Run, execOp, hx, go_sem, Builtin.cap_, run_underlying h3, goInt]
theorem R_slNil {k : IntKind} {q : Nat} {hi : Operand} (hu : slB P t q = true) (hx : ρ x = .slice none 0 0) (hh : ρ hi = .int k 0) : Run P ⟨D, .slice t x none (some hi) none, T, p, ed, g⟩ ρ w (.slice none 0 0) w := by
  obtain ⟨e, ti, h3, h4, h5⟩ := slB_spec hu
  simp [Run, execOp, hx, hh, go_sem, Instr.sliceAt, Instr.slice, run_underlying h3, Instr.sliceBounds, Instr.sliceBound, asIntOf, sizeOf, typeInfo, h4, h5]
theorem R_slHi {k : IntKind} {q b n m l : Nat} {hi : Operand} (hu : slB P t q = true) (hx : ρ x = .slice (some ⟨b, 0, none⟩) n m) (hh : ρ hi = .int k (l : Nat)) (hl : l ≤ m) : Run P ⟨D, .slice t x none (some hi) none, T, p, ed, g⟩ ρ w (.slice (some ⟨b, 0, none⟩) l m) w := by
  obtain ⟨e, ti, h3, h4, h5⟩ := slB_spec hu
  simp [Run, execOp, hx, hh, go_sem, Instr.sliceAt, Instr.slice, run_underlying h3, Instr.sliceBounds, Instr.sliceBound, asIntOf, hl, sizeOf, typeInfo, h4, h5, Addr.add]
theorem w_room {k n tn : Nat} {kn : IntKind} (hT : slT P t te k bytes z) (hk : 0 < k) (htn : P.underlying tn = some (.int kn)) (hx : ev c.n e x = .slice none 0 0) (hy : ev c.n e y = .int .i64 (n : Nat)) (h0 : 0 < n) (hn : n ≤ 20000000) (hby : bytes ≤ 1000)
    (h : ∀ b cap zs, n ≤ cap → zs.length = cap * k → WX .sq P ops c Q rest (upd e d (.slice (some ⟨b, 0, none⟩) n cap)) B ((b, cel zs te) :: L)) : WX .sq P ops c Q (⟨some d, .call ⟨.builtin .append, #[x, y], #[t, tn]⟩, T, p, ed, none⟩ :: rest) e B L := by
  obtain ⟨i, ht, hi, hsz, hb, hz, hzs⟩ := slT_spec hT
  subst hb; subst hsz
  unfold WX at *
  intro w hw
  have hge := grownCap_ge w (0 + n) 0 te
  have hr := Lib.run_append_grow_zeros (P := P) w t tn T te i z .i64 kn ht htn hi hz none 0 0 [] (run_firstCells_none w.drew i.size 0 0 0) n h0 hk (by omega) (by omega) (Nat.le_trans (Nat.mul_le_mul hn hby) (by decide)) (Nat.le_trans (growslice_fits (by omega) (Nat.le_trans (Nat.mul_le_mul (show 0 + n ≤ 20000000 by omega) hby) (by decide))) (by decide))
  have hs := (hw.drawn (w.drawn + 1)).new (o := cel ((#[] : Array Value) ++ Builtin.zeroCells z.cells n ++ Builtin.zeroCells z.cells (grownCap w (0 + n) 0 te - (0 + n))).toList te)
  rw [Nat.zero_add] at hr hge hs
  refine s_run ?_ rfl rfl (h w.heap.size (grownCap w n 0 te) _ hge ?_ _ hs)
  · unfold Run
    simp only [execOp, resolve, Sem.run_bind, pure_run, Result.andThen_ok, invoke, builtin, List.map_toArray, List.map_cons, List.map_nil, hx, hy, hr]
    rfl
  rw [Array.length_toList, Array.size_append, Array.size_append, size_zeroCells, size_zeroCells, hzs, List.size_toArray, List.length_nil, Nat.zero_add, ← Nat.add_mul, show n + (grownCap w n 0 te - n) = grownCap w n 0 te by omega]
theorem w_exsK {X : Bw} {s0 : Nat} {ys : List Ex} {a : Option Addr} {cp n : Nat} (hT : slT P t te 4 bytes z) (hx : ev c.n e x = v) (hv : Own te 4 v xs n W) (hy : ev c.n e y = .slice a ys.length cp) (hK : exsM X.1 (Nb s0 X) ys a 0) (hX : X ∈ B) (hn : n + ys.length ≤ 20000000) (hby : bytes ≤ 1000)
    (h : ∀ news v' W', Kt X s0 (Mc 4 exM) ys news → news.length = ys.length * 4 → Own te 4 v' (xs ++ news) (n + ys.length) W' → WX .sq P ops c Q rest (upd e d v') B (W' ++ L)) : WX .sq P ops c Q (⟨some d, .call ⟨.builtin .append, #[x, y], #[t, t]⟩, T, p, ed, none⟩ :: rest) e B (W ++ L) := by
  by_cases h0 : ys = []
  · subst h0
    obtain ⟨i, ht, hi, hsz, _, _, _⟩ := slT_spec hT
    obtain ⟨a1, c1, rfl⟩ := hv.slice
    have h4 := h [] _ W Mc.nil rfl (by simpa using hv)
    unfold WX at *
    intro w hw
    have hs : Src P i.size t (.slice a 0 cp) 0 [] w := ⟨.inl ⟨te, ht⟩, fun _ => rfl, by cases a <;> simp [Builtin.firstCells, go_sem], by cases a <;> simp [Builtin.firstCells, go_sem], by simp, by simp⟩
    have hr := _root_.Go.run_append_nothing (P := P) w t t T te i ht hi a1 n c1 (Own.le hv) _ hs
    exact s_run (R_append hx hy hr) rfl rfl (h4 w hw)
  have hl : 0 < ys.length := List.length_pos_iff.2 h0
  obtain ⟨y0, l, rfl⟩ := List.exists_cons_of_ne_nil h0
  have h3 := hK
  unfold exsM at h3
  obtain ⟨⟨_, ⟨q2, o, ha, _, _⟩, _⟩, _⟩ := h3
  subst ha
  obtain ⟨news, g1, g2, g3, g4, g5⟩ := exs_row _ _ hK
  have hq2 := g5 h0
  have h4 := fun v' W' => h news v' W' g4 g1
  unfold WX at *
  intro w hw
  obtain ⟨v', w', L2, k1, k2, k3⟩ := app_run (ρ := ev c.n e) (D := some d) (g := none) (x := x) (y := y) (T := T) (p := p) (ed := ed) (A := []) (L := L) (news := news) hT (by decide) hx (hv.toR [] L) hy g1 (fun w hw j u hj => cel_old hX (g3 j u hj) hq2.2.2 hw) g2 hl (by omega)
    (Nat.le_trans (Nat.mul_le_mul hn hby) (by decide)) hw
  obtain ⟨W', k5, rfl⟩ := k2.own
  exact s_run k1 rfl rfl (h4 v' W' k5 w' k3)
end
theorem Mc.app2 {α : Type} {k : Nat} {M : World → (Nat → Prop) → α → List Value → Prop} {W : World} {N : Nat → Prop} {l l2 : List α} {xs ys : List Value} (h : Mc k M W N l xs) (hx : xs.length = l.length * k) (h2 : Mc k M W N l2 ys) (hy : ys.length = l2.length * k) : Mc k M W N (l ++ l2) (xs ++ ys) := by
  intro j u hu
  rcases Nat.lt_or_ge j l.length with h3 | h3
  · rw [List.getElem?_append_left h3] at hu
    have := h j u hu
    have h4 : j * k + k ≤ xs.length := by
      have : (j + 1) * k ≤ l.length * k := Nat.mul_le_mul_right k h3
      rw [Nat.add_mul, Nat.one_mul] at this; omega
    rwa [List.drop_append_of_le_length (by omega), List.take_append_of_le_length (by rw [List.length_drop]; omega)]
  rw [List.getElem?_append_right h3] at hu
  have := h2 (j - l.length) u hu
  have h4 : l.length * k ≤ j * k := Nat.mul_le_mul_right k h3
  rw [List.drop_append, List.drop_eq_nil_of_le (by omega), List.nil_append, hx]
  rwa [Nat.sub_mul] at this
mutual
theorem exM.lt {w : World} {N : Nat → Prop} : ∀ (e : Ex) (cs : List Value), exM w N e cs → exM w (fun j => N j ∧ j < w.heap.size) e cs
  | .mk op at_ nm ks, cs, h => by
    unfold exM at h ⊢
    obtain ⟨a, c, h1, h2, h3⟩ := h
    exact ⟨a, c, h1, h2, exsM.lt ks a 0 h3⟩
theorem exsM.lt {w : World} {N : Nat → Prop} : ∀ (l : List Ex) (a : Option Addr) (i : Nat), exsM w N l a i → exsM w (fun j => N j ∧ j < w.heap.size) l a i
  | [], _, _, _ => by unfold exsM; trivial
  | e :: l, a, i, h => by
    unfold exsM at h ⊢
    obtain ⟨⟨cs, ⟨b, o, ha, hb, hc⟩, h2⟩, h3⟩ := h
    have hlt : b < w.heap.size := by
      obtain ⟨op, at_, nm, ks⟩ := e
      have h4 := h2
      unfold exM at h4
      obtain ⟨a1, c1, rfl, _⟩ := h4
      exact cell_lt (hc 0 _ rfl)
    exact ⟨⟨cs, ⟨b, o, ha, ⟨hb, hlt⟩, hc⟩, exM.lt e cs h2⟩, exsM.lt l a (i + 4) h3⟩
end
theorem exsM.ktN {w : World} {N : Nat → Prop} {l : List Ex} {a : Option Addr} (h : exsM w N l a 0) : exsM w (Nb 0 (w, fun j => ¬ N j)) l a 0 :=
  exsM.mono (fun j hj => ⟨Nat.zero_le _, hj.2, fun h2 => h2 hj.1⟩) l a 0 (exsM.lt l a 0 h)
theorem exsM.ltT {w w' : World} {l : List Ex} {a : Option Addr} {B : Base} {L : Heap} (h : exsM w (fun _ => True) l a 0) (hx : (w, No) ∈ B) (hw : St B L w') : exsM w' (fun j => j < w.heap.size) l a 0 :=
  exsM.fr (hw.fr _ hx) (fun _ _ h => h) l a 0 (exsM.mono (fun _ hj => hj.2) l a 0 (exsM.lt l a 0 h))
theorem St.also {w w' : World} {B : Base} {L : Heap} (S : Nat → Prop) (h : St ((w, No) :: B) L w') : St ((w, No) :: (w, S) :: B) L w' := by
  refine ⟨?_, h.own, h.nd, ?_⟩
  · intro x hx
    rcases List.mem_cons.1 hx with rfl | hx
    · exact h.fr _ zm0
    rcases List.mem_cons.1 hx with rfl | hx
    · exact (h.fr (w, No) zm0).mono (fun _ _ h => h.elim)
    exact h.fr _ (.tail _ hx)
  intro p hp x hx
  rcases List.mem_cons.1 hx with rfl | hx
  · exact h.ok p hp _ zm0
  rcases List.mem_cons.1 hx with rfl | hx
  · exact .inr ((h.ok p hp (w, No) zm0).resolve_left (fun h => h))
  exact h.ok p hp _ (.tail _ hx)
theorem exs_finN {w w' : World} {N : Nat → Prop} {B : Base} {T : TypeId} {l : List Ex} {v : Value} {xs : List Value} {W L : Heap} (h : Own T 4 v xs l.length W) (hw : St ((w, No) :: B) (W ++ L) w') (hm : Mc 4 exM w' N l xs) : ∃ b : Option Addr × Nat, v = .slice b.1 l.length b.2 ∧ exsV w' (fun j => N j ∨ Nn w w' j) l b :=
  own_exs h (fun p hp => hw.own p (List.mem_append.2 (.inl hp))) (fun p hp => by
    refine .inr ⟨?_, lt_of_blk (hw.own p (List.mem_append.2 (.inl hp)))⟩
    rcases hw.ok p (List.mem_append.2 (.inl hp)) (w, No) zm0 with h | h
    · exact h.elim
    exact h) (fun j x hx => (TL.ex.mono (hm j x hx) (fun _ h => .inl h)))
theorem Mc.ofN {w w' : World} {N : Nat → Prop} {B : Base} {L : Heap} {l : List Ex} {xs : List Value} (h : Kt (w, fun j => ¬ N j) 0 (Mc 4 exM) l xs) (hx : (w, fun j => ¬ N j) ∈ B) (hw : St B L w') : Mc 4 exM w' N l xs :=
  TL.exc4.mono (h.at TL.exc4 hx hw) (fun j hj => Classical.not_not.1 hj.2.2)
section
variable {P : Program} {ops : Array Oper} {Q : Exit → Act → World → Prop} {c : Cf} {e : Env} {rest : List Oper} {o : Oper} {d : Nat} {B : Base} {L : Heap} {f : FuncId} {args : Array Value} {w0 : World}
theorem w_kx {l : List Ex} (hx : (w0, No) ∈ B) (hr : ∀ w, RunE P o (ev c.n e) w f args) (hg : plainB o = true) (hd : o.dst = some d)
    (hc : ∀ w, St B L w → Ret P f args w fun v w' => ∃ b : Option Addr × Nat, v = .slice b.1 l.length b.2 ∧ exsV w' (fun j => j < w0.heap.size ∨ Nn w w' j) l b ∧ Ext w w')
    (h : ∀ (a1 : Option Addr) (c1 : Nat) (x : Bw), Kt x 0 exsV l (a1, c1) → WX .sq P ops c Q rest (upd e d (.slice a1 l.length c1)) (x :: B) L) : WX .sq P ops c Q (o :: rest) e B L := by
  refine zP (R := fun w v w' => ∃ b : Option Addr × Nat, v = .slice b.1 l.length b.2 ∧ exsV w' (fun j => j < w0.heap.size ∨ Nn w w' j) l b ∧ Ext w w') hr hg hd hc ?_
  rintro w hw v w' ⟨⟨a1, c1⟩, rfl, h3, h4⟩
  have hw' := hw.ext h4
  refine ⟨_, _, hw'.base1, h a1 c1 (w', inL L) (TL.exs.mono h3 fun j hj => ?_)⟩
  refine ⟨Nat.zero_le _, ?_, fun hL => ?_⟩
  · rcases hj with hj | hj
    · exact Nat.lt_of_lt_of_le hj (hw'.fr _ hx).size
    exact hj.2
  obtain ⟨p, hp, rfl⟩ := List.mem_map.1 hL
  rcases hj with hj | hj
  · rcases hw.ok p hp _ hx with h5 | h5
    · exact h5
    dsimp only at h5; omega
  have := lt_of_blk (hw.own p hp); exact absurd hj.1 (by omega)
end
theorem St.twice {x : Bw} {B : Base} {L : Heap} {w : World} (h : St (x :: B) L w) : St (x :: x :: B) L w := by
  refine ⟨?_, h.own, h.nd, ?_⟩
  · intro y hy
    rcases List.mem_cons.1 hy with rfl | hy
    · exact h.fr _ zm0
    exact h.fr _ hy
  intro p hp y hy
  rcases List.mem_cons.1 hy with rfl | hy
  · exact h.ok p hp _ zm0
  exact h.ok p hp _ hy
theorem vrsW.kt {w : World} {l : List Vr} {b : Option Addr × Nat} (h : vrsW w (fun _ => True) l b) : Kt (w, No) 0 vrsW l b := by
  refine ⟨⟨h.1.1, fun k v hk => ?_⟩, h.2⟩
  obtain ⟨q, o, ha, _, hc⟩ := h.1.2 k v hk
  exact ⟨q, o, ha, ⟨Nat.zero_le _, cell_lt (hc 0 _ rfl), fun h => h⟩, hc⟩
theorem Kt.weak {α β : Type} {M : World → (Nat → Prop) → α → β → Prop} {x : Bw} {s0 : Nat} {a : α} {b : β} (h : Kt x s0 M a b) (hM : TL M) : Kt x 0 M a b := hM.mono h fun _ hj => ⟨Nat.zero_le _, hj.2⟩
end Go.Sx
end
section
namespace Go.Knd
open Go.Tok Go.Tree
section
variable {l : List Vr} {at_ : Int} {nm : Str} {ks : List Ex} {p : Bool} {block : Nat} {α β : Type}
theorem ifK_pos {q : Prop} [Decidable q] (h : q) (a b : Except Ft α) (F : α → Except Ft β) : andK (if q then a else b) F = andK a F := by rw [if_pos h]
theorem ifK_neg {q : Prop} [Decidable q] (h : ¬ q) (a b : Except Ft α) (F : α → Except Ft β) : andK (if q then a else b) F = andK b F := by rw [if_neg h]
theorem bound_flat {ty : Nat} {e : Ex} (F : Unit → Except Ft β) : andK (boundK l ty block e) F = andK (needK (decide (block = 0) || decide (block = 2)) e.at_) fun _ => andK (ofK l e) fun k => andK (needK (scal k.1 && (!whol ty || decide (k.1 = 1))) e.at_) fun _ =>
    andK (if block = 0 then smoothK e else .ok ()) fun _ => andK (if k.2 = true then .error (153, e.at_) else .ok ()) F := by
  unfold boundK; simp only [andK_assoc]
theorem init_flat {ty : Nat} {e : Ex} (F : Unit → Except Ft β) : andK (andK (ofK l e) fun k => needK (fitK ty k.1) e.at_) F = andK (ofK l e) fun k => andK (needK (fitK ty k.1) e.at_) F := by
  simp only [andK_assoc]
theorem set_n (h : findV l nm = none) : setK l at_ nm ks block = .error (150, at_) := by unfold setK; rw [h]
theorem set_1 {v : Vr} {x : Ex} (h : findV l nm = some v) : setK l at_ nm [x] block = andK (needK (decide (v.bk = block)) at_) fun _ => andK (ofK l x) fun k => needK (fitK v.ty k.1) at_ := by unfold setK; rw [h]
theorem set_2 {v : Vr} {i x : Ex} (h : findV l nm = some v) : setK l at_ nm [i, x] block = andK (needK (decide (v.bk = block)) at_) fun _ => andK (needK (!scal v.ty) at_) fun _ => andK (countK l i) fun _ => andK (ofK l x) fun k => needK (scal k.1 && (!decide (v.ty = 4) || decide (k.1 = 1))) at_ := by unfold setK; rw [h]
def distR (l : List Vr) (at_ : Int) (nm : Str) (ks : List Ex) : Except Ft Unit :=
  match distK nm with
  | none => .error (150, at_)
  | some d => andK (needK (decide (ks.length = d.1 + 1)) at_) fun _ =>
    match ks with
    | [] => .ok ()
    | x :: r => andK (ofK l x) fun k => andK (needK ((whol k.1 && d.2.2) || (!decide (k.1 = 4) && !d.2.2)) x.at_) fun _ => argsK l k.1 d.2.1 0 r
theorem distS_r : distS l at_ nm ks block = andK (needK (decide (block = 4)) at_) fun _ => distR l at_ nm ks := by unfold distS distR; rfl
theorem distR_n (h : distK nm = none) : distR l at_ nm ks = .error (150, at_) := by unfold distR; rw [h]
theorem distR_s {n m : Nat} {d : Bool} {x : Ex} {r : List Ex} (h : distK nm = some (n, m, d)) : distR l at_ nm (x :: r) = andK (needK (decide ((x :: r).length = n + 1)) at_) fun _ => andK (ofK l x) fun k => andK (needK ((whol k.1 && d) || (!decide (k.1 = 4) && !d)) x.at_) fun _ => argsK l k.1 m 0 r := by unfold distR; rw [h]
theorem dist_le {n m : Nat} {d : Bool} (h : distK nm = some (n, m, d)) : n ≤ 2 ∧ m ≤ 2 := by
  unfold distK at h
  repeat' split at h
  all_goals first | (cases h; decide) | (cases h)
theorem args_step {t m i : Nat} {x : Ex} (h : ks[i]? = some x) : argsK l t m i (ks.drop i) = andK (ofK l x) fun k => andK (needK (scal k.1 || (!scal t && !decide (k.1 = 4) && decide (m ≤ i))) x.at_) fun _ =>
    andK (if i < m ∧ k.2 = true then .error (153, x.at_) else .ok ()) fun _ => argsK l t m (i + 1) (ks.drop (i + 1)) := by
  obtain ⟨h1, h2⟩ := List.getElem?_eq_some_iff.1 h
  rw [List.drop_eq_getElem_cons h1, h2, argsK]
theorem args_end {t m i : Nat} (h : ks.length ≤ i) : argsK l t m i (ks.drop i) = .ok () := by rw [List.drop_eq_nil_of_le h, argsK]
end
theorem andK_inv {α β : Type} {x : Except Ft α} {f : α → Except Ft β} {b : β} (h : andK x f = .ok b) : ∃ a, f a = .ok b := by
  cases x with
  | ok a => exact ⟨a, h⟩
  | error e => cases h
theorem declK_len {l l2 : List Vr} {d : Dc} {i : Nat} (h : declK l d i = .ok l2) : l2.length ≤ l.length + 1 := by
  unfold declK at h
  split at h
  · cases h
  obtain ⟨_, h⟩ := andK_inv h
  obtain ⟨_, h⟩ := andK_inv h
  obtain ⟨_, h⟩ := andK_inv h
  obtain ⟨_, h⟩ := andK_inv h
  cases h
  rw [List.length_append]; exact Nat.le_refl _
end Go.Knd
end
section
namespace Go.Proofs.YtoehjlmdnajibaaGreatDoor
open Go.RowKit Go.Sx
open Go.Tok Go.Tree Go.Knd
theorem grow_ok (m : Int) (n : Nat) (hm : m = n) (hn : n ≤ 20000000) (w : World) :
  Ret Tryz.prog 115 #[.slice none 0 0, .int .i64 m] w (fun v w' => ∃ W, Own 52 4 v [] 0 W ∧ New w w' W) := by
 subst hm
 refine enter (S := No) (l := [_, _]) (L := []) 27 Tryz.func115 rfl rfl rfl (St.start w No) (yA (za (v := .slice _ _ _) rfl (yB (zq (yA (mI rfl (jl rfl rfl (yB ?_)))))))); refine zD rfl (fun h1 => ?_) (fun h1 => ?_)
 ·exfalso; omega
 ·refine zi (zk (zq (yA (mI rfl (mS rfl (zg (fun _ => R_cap sl47 rfl) (mS rfl (jj sl47 rfl (zg (fun _ => R_subi rfl rfl (by omega)) (zg (fun _ => R_subi rfl rfl (by omega)) (aI rfl (yC (mI rfl (jg rfl rfl (yB ?_))))))))))))))); refine zD rfl (fun h2 => ?_) (fun h2 => ?_)
  ·refine zr (mS rfl (mS rfl (zg (fun _ => R_cap sl47 rfl) (zg (fun _ => R_slNil sl47 rfl rfl) (mI rfl (w_room (n := n) slt47 (by decide) un3 rfl (congrArg (Value.int .i64) (show ((n : Nat) : Int) - (((0 : Nat) : Int) - ((0 : Nat) : Int)) = (n : Nat) by omega)) (by omega) hn (by decide) (fun gb cap zs hcap hzs => mS rfl (jj sl47 rfl (zg (fun _ => R_slHi (l := 0) sl47 rfl rfl (Nat.zero_le _)) (za (v := .slice _ _ _) rfl (yC (mS rfl (za (v := .slice _ _ _) rfl (yB (ze (zo (v := .slice _ _ _) rfl rfl rfl ?_)))))))))))))))); exact fun w' hw => ⟨_, ⟨rfl, .inr ⟨gb, cap, zs, rfl, Nat.zero_le _, by rw [Nat.sub_zero]; exact hzs, rfl⟩⟩, St.made (A := []) hw⟩
  ·refine zi (zk (yA (mS rfl (za (v := .slice _ _ _) rfl (yB (ze (zo (v := .slice _ _ _) rfl rfl rfl ?_))))))); exact fun w' hw => ⟨[], Own.nil _ _, .none (hw.f0)⟩
theorem concat_ok (lo up : List Ex) (la ua : Option Addr) (lc uc sb : Nat) (N : Nat → Prop) (w : World) (hlo : exsM w N lo la 0) (hup : exsM w N up ua 0) (hsb : w.heap[sb]? = some (cel [.slice la lo.length lc, .slice ua up.length uc] 47)) (hll : lo.length + up.length ≤ 10000000) :
  Ret Tryz.prog 83 #[.slice (some ⟨sb, 0, none⟩) 2 2] w (fun v w' => ∃ b : Option Addr × Nat, v = .slice b.1 (lo ++ up).length b.2 ∧ exsV w' (fun j => N j ∨ Nn w w' j) (lo ++ up) b ∧ Ext w w') := by
 refine enter (S := No) (l := [_]) (L := []) 36 Tryz.func83 rfl rfl rfl (St.start w No) (c_st (fun w' h => h.also (fun j => ¬ N j)) (yA (za (v := .slice _ _ _) rfl (yC (aI rfl (yB (zq (yA (mS rfl (zg (v := .int .i64 2) (fun _ => R_len sl150 rfl) (mI rfl (yB (zB (c_rounds 3 (yA (jl rfl rfl (yB (zq (zE bD (zi (zk (zq (zB (yA (zg (fun _ => R_iaN (i := 0) sl150 rfl rfl (by omega)) (zl (v := .slice la lo.length lc) z47 rfl (fun w h => cel_oldb hsb zm0 id rfl h) (za (v := .slice _ _ _) rfl (yC (mI rfl (mS rfl (jj sl47 rfl (ji rfl rfl (by omega) (aI rfl (yC (mI rfl (jl rfl rfl (yB ?_))))))))))))))))))))))))))))))))))))); refine zD rfl (fun h1 => ?_) (fun h1 => ?_)
 ·exfalso; omega
 ·refine zi (zO (zk (zr (ji rfl rfl (by omega) (mI rfl (zn (k_rounds (yA (jl rfl rfl (yB (zq (zE bD (zi (zk (zq (zB (yA (zg (fun _ => R_iaN (i := 1) sl150 rfl rfl (by omega)) (zl (v := .slice ua up.length uc) z47 rfl (fun w h => cel_oldb hsb zm0 id rfl h) (za (v := .slice _ _ _) rfl (yC (mI rfl (mS rfl (jj sl47 rfl (ji rfl rfl (by omega) (aI rfl (yC (mI rfl (jl rfl rfl (yB ?_)))))))))))))))))))))))))))))); refine zD rfl (fun h2 => ?_) (fun h2 => ?_)
  ·exfalso; omega
  ·refine zi (zO (zk (zr (ji rfl rfl (by omega) (mI rfl (zn (k_rounds (yA (jl rfl rfl (yB (zq (zG bE (zX (zx (zx (b_here rfl (zk (yA (mI rfl (w_callW (R := fun v W => Own 52 4 v [] 0 W) (fun w => zR Tryz.func115 rfl rfl rfl) rfl rfl (fun w h => grow_ok _ (lo.length + up.length) (by omega) (by omega) w) ?_))))))))))))))))))))
   rintro u W0 hO0; obtain ⟨a0, c0, rfl⟩ := hO0.slice
   refine za (v := .slice _ _ _) rfl (yB (zq (yA (mS rfl (zg (v := .int .i64 2) (fun _ => R_len sl150 rfl) (mI rfl (yB (zB (c_rounds 3 (yA (jl rfl rfl (yB (zq (zE bD (zi (zk (zq (zB (yA (zg (fun _ => R_iaN (i := 0) sl150 rfl rfl (by omega)) (zl (v := .slice la lo.length lc) z47 rfl (fun w h => cel_oldb hsb zm0 id rfl h) (za (v := .slice _ _ _) rfl (yB (zr (mS rfl (mS rfl (w_exsK (X := (w, fun j => ¬ N j)) (s0 := 0) (ys := lo) slt47 rfl hO0 rfl hlo.ktN zm1 (by omega) (by decide) (fun news1 v1 W1 hK1 hl1 hO1 => ?_))))))))))))))))))))))))))))
   obtain ⟨a1, c1, rfl⟩ := hO1.slice
   refine za (v := .slice _ _ _) rfl (zn (zO (zk (zr (ji rfl rfl (by omega) (mI rfl (zn (k_rounds (yA (jl rfl rfl (yB (zq (zE bD (zi (zk (zq (zB (yA (zg (fun _ => R_iaN (i := 1) sl150 rfl rfl (by omega)) (zl (v := .slice ua up.length uc) z47 rfl (fun w h => cel_oldb hsb zm0 id rfl h) (za (v := .slice _ _ _) rfl (yB (zr (mS rfl (mS rfl (w_exsK (X := (w, fun j => ¬ N j)) (s0 := 0) (ys := up) slt47 rfl hO1 rfl hup.ktN zm1 (by omega) (by decide) (fun news2 v2 W2 hK2 hl2 hO2 => ?_)))))))))))))))))))))))))))
   obtain ⟨a2, c2, rfl⟩ := hO2.slice
   refine za (v := .slice _ _ _) rfl (zn (zO (zk (zr (ji rfl rfl (by omega) (mI rfl (zn (k_rounds (yA (jl rfl rfl (yB (zq (zG bE (zX (zx (zx (b_here rfl (zk (yA (mS rfl (za (v := .slice _ _ _) rfl (yB (ze ?_)))))))))))))))))))))))
   have hO3 : Own 52 4 (.slice a2 (0 + lo.length + up.length) c2) (news1 ++ news2) (lo ++ up).length W2 := by rw [List.length_append]; simpa using hO2
   refine zo (v := .slice _ _ _) rfl rfl rfl ?_; exact fun w' hw => by obtain ⟨b, h1, h2⟩ := exs_finN hO3 hw (Mc.app2 (Mc.ofN hK1 zm1 hw) hl1 (Mc.ofN hK2 zm1 hw) hl2); exact ⟨b, h1, h2, hw.f0⟩
abbrev vsV (l : List Vr) (b : Option Addr × Nat) : Value := .slice b.1 l.length b.2
theorem kdecl_ok (x : Dc) (cs : List Value) (vs : List Vr) (va : Option Addr) (vc : Nat) (block : Nat) (w : World) (hx : dcW x < 10000000) (hok : dcOk x = true) (hm : dcM w (fun _ => True) x cs) (hv : vrsW w (fun _ => True) vs (va, vc)) (hvl : vs.length ≤ 80000000) :
  RetP Tryz.prog 57 #[.slice va vs.length vc, .agg cs.toArray, .int .i64 (block : Nat)] w (RN vsV vrsW (declK vs x block) w) (EK panK (declK vs x block) w) := by
 obtain ⟨ty, at_, nm, sz, lo, up, ini⟩ := x
 obtain ⟨-, -, hf1, hf2, hf3, hf4⟩ := dc_facts hok
 simp only [] at hf1 hf2 hf3 hf4
 have hm2 := hm
 unfold dcM at hm2
 obtain ⟨sa, sc, la, lc, ua, uc, ia, ic, hcs, hsz, hlo, hup, hini⟩ := hm2
 simp only [] at hcs
 subst hcs
 have hx2 := hx
 simp only [dcW] at hx2
 simp only [] at hsz hlo hup hini
 have hlu : (lo ++ up).length ≤ 10000000 := by rw [List.length_append]; omega
 have hG : declK vs ⟨ty, at_, nm, sz, lo, up, ini⟩ block = (if (findV vs nm).isSome = true then .error (151, at_) else andK (needK (decide (block < 2) || !whol ty) at_) (fun _ => andK (eachK (countK vs) sz) (fun _ => andK (eachK (boundK vs ty block) (lo ++ up)) (fun _ => andK (eachK (fun e => andK (ofK vs e) fun k => needK (fitK ty k.1) e.at_) ini) (fun _ => .ok (vs ++ [Vr.mk nm ty ((block : Nat) : Int) (decide (2 ≤ block))])))))) := rfl
 refine enterP (S := No) (l := [_, _, _]) (L := []) 127 Tryz.func57 rfl rfl rfl (St.start w No) (yA (w_boxA rfl (fun t4b gt4b ut4b => za (v := .slice _ _ _) rfl (yB (zq (yA (mS rfl (zf fa49_2 rfl (jM 0 z9 rfl (jD Tryz.func62 (fun w h => find_ok vs va vc nm w (hv.nowT zm0 h).1 (by omega)) ?_))))))))))
 rcases hq2 : findV vs nm with _ | v2
 ·have hG5 := hG.trans (if_neg (by rw [hq2]; exact Bool.false_ne_true))
  refine zm rfl (jx rfl rfl (jx rfl rfl (zA zr54 (fun t7b gt7b ut7b => jv 0 z54 rfl (aB rfl (yC (mB rfl (yB (zG rfl (zi (zk (zq (c_heldS mixed (zh (v := .int _ _) 0 rfl (by kernel_rfl) rfl rfl (fun w h => h) (fun w h => R_move rfl) (zh2 1 rfl rfl (fun w h => h) (fun w h => R_lt rfl rfl) (zh (v := .bool _) 2 rfl (by kernel_rfl) rfl rfl (fun w h => h) (fun w h => R_move rfl) (h_gF 3 rfl (by kernel_rfl) rfl rfl rfl rfl rfl (fun w h => h) (fun hc w h => R_fa fa49_0 rfl) (h_gF (v := .int _ _) 4 rfl (by kernel_rfl) rfl rfl rfl rfl rfl (fun w h => h) (fun hc w h => R_ld1 z5 (gvl_t hc) (zc 1 rfl rfl h)) (zh2 8 rfl rfl (fun w h => h) (fun w h => R_fa fa49_1 rfl) (zh (v := .int _ _) 9 rfl (by kernel_rfl) rfl rfl (fun w h => h) (fun w h => R_ld1 z3 rfl (zc 1 rfl rfl h)) (h_cF 5 (by kernel_rfl) rfl (by kernel_rfl) rfl rfl rfl rfl rfl (fun w h => h) (fun hc w => runE_as (zR Tryz.func81 rfl rfl rfl) (arr1 (gvl_t hc))) (fun hc w h => whole_ok _ w) (h_gF 6 rfl (by kernel_rfl) rfl rfl rfl rfl rfl (fun w h => h) (fun hc w h => R_not (gvl_t hc)) (zh (v := .bool _) 7 rfl (by kernel_rfl) rfl rfl (fun w h => h) (fun w h => R_pickO rfl rfl rfl) (zH2 10 (fun w h => h) ?_)))))))))))))))))))))))); refine o_need (pan := panK) (at_ := _) zm0 rfl (wn_none rfl) rfl (fun w => zR Tryz.func65 rfl rfl rfl) (fun w h => need_ok _ _ w) (fun hb w' hx2 a ha => p_out ha ⟨_, hG5.trans (andK_er (needK_no (by (rw [Bool.eq_iff_iff]; simp only [decide_eq_true_eq, Bool.or_eq_true, Bool.and_eq_true, Bool.not_eq_true', decide_eq_false_iff_not]; grind)) hb)), rfl, hx2⟩) (fun hb4 => ?_)
  have hG4 := hG5.trans (andK_of (needK_yes (by (rw [Bool.eq_iff_iff]; simp only [decide_eq_true_eq, Bool.or_eq_true, Bool.and_eq_true, Bool.not_eq_true', decide_eq_false_iff_not]; grind)) hb4))
  refine zN2 (fun w h => h) (zk (zq (yA (zf fa49_3 rfl (jM 1 z47 rfl (jj sl47 rfl (mI rfl (yB (zB (c_st (B' := [(w, No)]) (L' := _) (fun w h => h.d1) (c_loop (fun m e B L => ∃ (k : Nat), e 0 = .slice va vs.length vc ∧ e 2 = .int .i64 (block : Nat) ∧ e 4 = pX t4b ∧ e 39 = .slice sa sz.length sc ∧ e 40 = .int .i64 (sz.length : Nat) ∧ e 41 = .int .i64 (k : Nat) ∧ B = [(w, No)] ∧ L = [(t4b, cel [.int .u8 (ty : Nat), .int .i64 at_, str nm, .slice sa sz.length sc, .slice la lo.length lc, .slice ua up.length uc, .slice ia ini.length ic] 49)] ∧ k ≤ sz.length ∧ declK vs ⟨ty, at_, nm, sz, lo, up, ini⟩ block = andK (eachK (countK vs) (sz.drop k)) (fun _ => andK (eachK (boundK vs ty block) (lo ++ up)) (fun _ => andK (eachK (fun e => andK (ofK vs e) fun k => needK (fitK ty k.1) e.at_) ini) (fun _ => .ok (vs ++ [Vr.mk nm ty ((block : Nat) : Int) (decide (2 ≤ block))])))) ∧ m = sz.length - k) _ ⟨0, rfl, rfl, rfl, rfl, rfl, rfl, rfl, rfl, Nat.zero_le _, hG4, rfl⟩ ?_)))))))))))
  rintro m e B L ⟨k, e0_1, e2_1, e4_1, e39_1, e40_1, e41_1, rfl, rfl, hk, hG1, rfl⟩
  refine yA (jl e41_1 e40_1 (yB (zq ?_))); refine zD rfl (fun h5 => ?_) (fun h5 => ?_)
  ·have hlt : k < sz.length := (by omega); obtain ⟨x, hxk⟩ : ∃ x, sz[k]? = some x := ⟨_, List.getElem?_eq_getElem hlt⟩; obtain ⟨cs, hA, hE⟩ := hsz.get0 hxk; have hxn := exsW_mem (List.mem_of_getElem? hxk); have hxo := exsOk_mem hf1 (List.mem_of_getElem? hxk); obtain ⟨b1, o1, rfl⟩ := hA.ptr; have hG2 := (hG1.trans (eachK_step hxk _)); obtain ⟨op2, at2, nm2, ks2⟩ := x; have hE2 := hE; unfold exM at hE2; obtain ⟨ka2, kc2, rfl, hkc2, hks2⟩ := hE2
   refine zi (zk (zq (zB (yA (zg (fun _ => R_iaN (i := k) sl47 e39_1 e41_1 (by omega)) (w_loadC (l := [.int .u8 (op2 : Nat), .int .i64 at2, str nm2, .slice ka2 ks2.length kc2]) z52 rfl rfl (fun w h j v hj => hA.cell (fun _ _ hh => hh) zm0 h j v hj) (zA zr52 (fun t10b gt10b ut10b => jv 0 z52 rfl (yB (zr (mS e0_1 (jy 0 z52 rfl rfl (w_kc (V := (fun _ => .tuple #[])) (pan := panK) zm0 hG2 (fun w => zR Tryz.func82 rfl rfl rfl) rfl rfl (fun w h => count_ok _ _ vs va vc w (by omega) hxo (hE.nowT zm0 h) (hv.nowT zm0 h).1 (by omega)) (fun fl w' hx1 hx2 a ha => p_out ha ⟨fl, hx1, rfl, hx2⟩) (fun q7 hX7 hG7 => zn (zO (zk (zr (ji e41_1 rfl (by omega) (mI rfl (zn (zK (B' := [(w, No)]) (L' := _) (fun w h => h.d1) ?_))))))))))))))))))))); exact k_again _ (by omega) ⟨k + 1, e0_1, e2_1, e4_1, e39_1, e40_1, rfl, rfl, rfl, by omega, hG7, rfl⟩
  ·have hGe := hG1.trans (eachK_end (by omega) _)
   refine zX (zx (zx (b_here rfl (zk (zq (yA (zf fa49_4 e4_1 (jM 0 z47 rfl (zf fa49_5 e4_1 (jM 0 z47 rfl (zS slt150 (by decide) rfl rfl (fun sb gsb usb => w_kx (l := lo ++ up) zm0 (fun w => zR Tryz.func83 rfl rfl rfl) rfl rfl (fun w h => concat_ok lo up la ua lc uc _ _ w (hlo.ltT zm0 h) (hup.ltT zm0 h) (h.at_ 0 rfl) (by omega)) (fun a5 c5 x5 hK5 => jj sl47 rfl (mI rfl (yB (zB (c_st (B' := [x5, (w, No)]) (L' := _) (fun w h => h.d1) (c_loop (fun m e B L => ∃ (k : Nat), e 0 = .slice va vs.length vc ∧ e 2 = .int .i64 (block : Nat) ∧ e 4 = pX t4b ∧ e 54 = .slice a5 (lo ++ up).length c5 ∧ e 55 = .int .i64 ((lo ++ up).length : Nat) ∧ e 56 = .int .i64 (k : Nat) ∧ B = [x5, (w, No)] ∧ L = [(t4b, cel [.int .u8 (ty : Nat), .int .i64 at_, str nm, .slice sa sz.length sc, .slice la lo.length lc, .slice ua up.length uc, .slice ia ini.length ic] 49)] ∧ k ≤ (lo ++ up).length ∧ declK vs ⟨ty, at_, nm, sz, lo, up, ini⟩ block = andK (eachK (boundK vs ty block) ((lo ++ up).drop k)) (fun _ => andK (eachK (fun e => andK (ofK vs e) fun k => needK (fitK ty k.1) e.at_) ini) (fun _ => .ok (vs ++ [Vr.mk nm ty ((block : Nat) : Int) (decide (2 ≤ block))]))) ∧ m = (lo ++ up).length - k) _ ⟨0, e0_1, e2_1, e4_1, rfl, rfl, rfl, rfl, rfl, Nat.zero_le _, hGe, rfl⟩ ?_))))))))))))))))))
   rintro m e B L ⟨k, e0_2, e2_2, e4_2, e54_2, e55_2, e56_2, rfl, rfl, hk, hG1, rfl⟩
   refine yA (jl e56_2 e55_2 (yB (zq ?_))); refine zD rfl (fun h8 => ?_) (fun h8 => ?_)
   ·have hlt : k < (lo ++ up).length := (by omega); obtain ⟨x, hxk⟩ : ∃ x, (lo ++ up)[k]? = some x := ⟨_, List.getElem?_eq_getElem hlt⟩; have hxm := List.mem_of_getElem? hxk; have hxn : exW x < 10000000 := (by rcases List.mem_append.1 hxm with h9 | h9 <;> have := exsW_mem h9 <;> omega); have hxo : exOk x = true := (by rcases List.mem_append.1 hxm with h9 | h9 <;> first | exact exsOk_mem hf2 h9 | exact exsOk_mem hf3 h9); obtain ⟨cs, hA, hE⟩ := hK5.2.get0 hxk; have hA1 : ∃ b1 o1, a5 = some ⟨b1, o1, none⟩ := hA.ptr; obtain ⟨b1, o1, rfl⟩ := hA1; have hG2 := (hG1.trans (eachK_step hxk _)).trans (bound_flat _); obtain ⟨op2, at2, nm2, ks2⟩ := x; have hE2 := hE; unfold exM at hE2; obtain ⟨ka2, kc2, rfl, hkc2, hks2⟩ := hE2
    refine zi (zk (zq (zB (yA (zg (fun _ => R_iaN (i := k) sl47 e54_2 e56_2 (by omega)) (w_loadC (l := [.int .u8 (op2 : Nat), .int .i64 at2, str nm2, .slice ka2 ks2.length kc2]) z52 rfl rfl (fun w h j v hj => hA.cell (fun _ hj => hj.2.2) zm0 h j v hj) (zA zr52 (fun t12b gt12b ut12b => jv 0 z52 rfl (yB ?_)))))))))
    refine c_cut (fun e B L => e 0 = .slice va vs.length vc ∧ e 2 = .int .i64 (block : Nat) ∧ e 4 = pX t4b ∧ e 54 = .slice (some ⟨b1, o1, none⟩) (lo ++ up).length c5 ∧ e 55 = .int .i64 ((lo ++ up).length : Nat) ∧ e 56 = .int .i64 (k : Nat) ∧ e 12 = pX t12b ∧ B = [x5, (w, No)] ∧ L = [(t12b, cel [.int .u8 (op2 : Nat), .int .i64 at2, str nm2, .slice ka2 ks2.length kc2] 52), (t4b, cel [.int .u8 (ty : Nat), .int .i64 at_, str nm, .slice sa sz.length sc, .slice la lo.length lc, .slice ua up.length uc, .slice ia ini.length ic] 49)] ∧ declK vs ⟨ty, at_, nm, sz, lo, up, ini⟩ block = andK (ofK vs (Ex.mk op2 at2 nm2 ks2)) (fun q => andK (needK (scal q.1 && (!whol ty || decide (q.1 = 1))) at2) (fun _ => andK (if block = 0 then smoothK (Ex.mk op2 at2 nm2 ks2) else .ok ()) (fun _ => andK (if q.2 = true then .error (153, at2) else .ok ()) (fun _ => andK (eachK (boundK vs ty block) ((lo ++ up).drop (k + 1))) (fun _ => andK (eachK (fun e => andK (ofK vs e) fun k => needK (fitK ty k.1) e.at_) ini) (fun _ => .ok (vs ++ [Vr.mk nm ty ((block : Nat) : Int) (decide (2 ≤ block))])))))))) ?_ ?_
    ·refine zr (mI e2_2 (je rfl rfl (mB rfl (w_gF (v := .int _ _) rfl rfl rfl (fun hc w h => R_move e2_2) rfl (gFx rfl (fun hc w h => R_eq (gvl_t hc) rfl) rfl (zg (v := .bool _) (fun _ => R_pickO rfl rfl rfl) (zf fa52_1 rfl (jM 0 z3 rfl ?_)))))))); refine w_need (pan := panK) (at_ := _) zm1 (fun w => zR Tryz.func65 rfl rfl rfl) rfl rfl (fun w h => need_ok _ _ w) (fun hb w' hx2 a ha => p_out ha ⟨_, hG2.trans (andK_er (needK_no (by (rw [Bool.eq_iff_iff]; simp only [decide_eq_true_eq, Bool.or_eq_true, Bool.and_eq_true, Bool.not_eq_true', decide_eq_false_iff_not]; omega)) hb)), rfl, hx2⟩) (fun hb10 => ?_)
     have hG10 := hG2.trans (andK_of (needK_yes (by (rw [Bool.eq_iff_iff]; simp only [decide_eq_true_eq, Bool.or_eq_true, Bool.and_eq_true, Bool.not_eq_true', decide_eq_false_iff_not]; omega)) hb10))
     refine zn ?_; exact k_mid ⟨e0_2, e2_2, e4_2, e54_2, e55_2, e56_2, rfl, rfl, rfl, hG10⟩
    rintro e B L ⟨e0_3, e2_3, e4_3, e54_3, e55_3, e56_3, e12_3, rfl, rfl, hGc⟩
    refine yA (mS e0_3 (jy 0 z52 e12_3 rfl (w_kc (V := kdV) (pan := panK) zm1 hGc (fun w => zR Tryz.func41 rfl rfl rfl) rfl rfl (fun w h => of_ok _ _ vs va vc w (by omega) hxo (Kt.T (M := exM) hE TL.ex zm0 h) (hv.nowT zm1 h).1 (by omega)) (fun fl w' hx1 hx2 a ha => p_out ha ⟨fl, hx1, rfl, hx2⟩) (fun q11 hX11 hG11 => ?_))))
    obtain ⟨q1, q2⟩ := q11
    refine zA zr58 (fun t13b gt13b ut13b => jv 0 z58 rfl (yB ?_))
    refine c_cut (fun e B L => e 0 = .slice va vs.length vc ∧ e 2 = .int .i64 (block : Nat) ∧ e 4 = pX t4b ∧ e 54 = .slice (some ⟨b1, o1, none⟩) (lo ++ up).length c5 ∧ e 55 = .int .i64 ((lo ++ up).length : Nat) ∧ e 56 = .int .i64 (k : Nat) ∧ e 12 = pX t12b ∧ e 13 = pX t13b ∧ B = [x5, (w, No)] ∧ L = [(t13b, cel [.int .u8 (q1 : Nat), .bool q2] 58), (t12b, cel [.int .u8 (op2 : Nat), .int .i64 at2, str nm2, .slice ka2 ks2.length kc2] 52), (t4b, cel [.int .u8 (ty : Nat), .int .i64 at_, str nm, .slice sa sz.length sc, .slice la lo.length lc, .slice ua up.length uc, .slice ia ini.length ic] 49)] ∧ declK vs ⟨ty, at_, nm, sz, lo, up, ini⟩ block = andK (if block = 0 then smoothK (Ex.mk op2 at2 nm2 ks2) else .ok ()) (fun _ => andK (if q2 = true then .error (153, at2) else .ok ()) (fun _ => andK (eachK (boundK vs ty block) ((lo ++ up).drop (k + 1))) (fun _ => andK (eachK (fun e => andK (ofK vs e) fun k => needK (fitK ty k.1) e.at_) ini) (fun _ => .ok (vs ++ [Vr.mk nm ty ((block : Nat) : Int) (decide (2 ≤ block))])))))) ?_ ?_
    ·refine c_heldS mixed (zh2 0 rfl rfl (fun w h => h) (fun w h => R_fa fa58_0 rfl) (zh (v := .int _ _) 1 rfl (by kernel_rfl) rfl rfl (fun w h => h) (fun w h => R_ld1 z5 rfl (zc 0 rfl rfl h)) (zh2 14 rfl rfl (fun w h => h) (fun w h => R_fa fa52_1 e12_3) (zh (v := .int _ _) 15 rfl (by kernel_rfl) rfl rfl (fun w h => h) (fun w h => R_ld1 z3 rfl (zc 1 rfl rfl h)) (zH2 2 (fun w h => h) (o_pureW rfl (wn_none rfl) rfl (fun w => zR Tryz.func84 rfl rfl rfl) (fun w h => scalar_ok _ w) (zh (v := .bool _) 3 rfl (by kernel_rfl) rfl rfl (fun w h => h) (fun w h => R_move rfl) (h_gT 4 rfl (by kernel_rfl) rfl rfl rfl rfl rfl (fun w h => h) (fun hc w h => R_fa fa49_0 e4_3) (h_gT (v := .int _ _) 5 rfl (by kernel_rfl) rfl rfl rfl rfl rfl (fun w h => h) (fun hc w h => R_ld1 z5 (gvl_t hc) (zc 2 rfl rfl h)) (h_cT 6 (by kernel_rfl) rfl (by kernel_rfl) rfl rfl rfl rfl rfl (fun w h => h) (fun hc w => runE_as (zR Tryz.func81 rfl rfl rfl) (arr1 (gvl_t hc))) (fun hc w h => whole_ok _ w) (h_gT 7 rfl (by kernel_rfl) rfl rfl rfl rfl rfl (fun w h => h) (fun hc w h => R_not (gvl_t hc)) (h_gT (v := .bool _) 8 rfl (by kernel_rfl) rfl rfl rfl rfl rfl (fun w h => h) (fun hc w h => R_move (gvl_t hc)) (h_hF 9 rfl (by kernel_rfl) rfl rfl rfl rfl rfl (fun w h => h) (fun hc w h => R_fa fa58_0 rfl) (h_hF (v := .int _ _) 10 rfl (by kernel_rfl) rfl rfl rfl rfl rfl (fun w h => h) (fun hc w h => R_ld1 z5 (gvl_t hc) (zc 0 rfl rfl h)) (h_hF 11 rfl (by kernel_rfl) rfl rfl rfl rfl rfl (fun w h => h) (fun hc w h => R_eq (gvl_t hc) rfl) (h_gT (v := .bool _) 12 rfl (by kernel_rfl) rfl rfl rfl rfl rfl (fun w h => h) (fun hc w h => R_pickO (gvl_t hc) (gvl_and hc) rfl) (zh (v := .bool _) 13 rfl (by kernel_rfl) rfl rfl (fun w h => h) (fun w h => R_pickA rfl rfl rfl) (zH2 16 (fun w h => h) ?_)))))))))))))))))); refine o_need (pan := panK) (at_ := _) zm1 rfl (wn_none rfl) rfl (fun w => zR Tryz.func65 rfl rfl rfl) (fun w h => need_ok _ _ w) (fun hb w' hx2 a ha => p_out ha ⟨_, hG11.trans (andK_er (needK_no (by (rw [Bool.eq_iff_iff]; simp only [decide_eq_true_eq, Bool.or_eq_true, Bool.and_eq_true, Bool.not_eq_true', decide_eq_false_iff_not]; grind)) hb)), rfl, hx2⟩) (fun hb13 => ?_)
     have hG13 := hG11.trans (andK_of (needK_yes (by (rw [Bool.eq_iff_iff]; simp only [decide_eq_true_eq, Bool.or_eq_true, Bool.and_eq_true, Bool.not_eq_true', decide_eq_false_iff_not]; grind)) hb13))
     refine zN2 (fun w h => h) ?_; exact k_mid ⟨e0_3, e2_3, e4_3, e54_3, e55_3, e56_3, e12_3, rfl, rfl, rfl, hG13⟩
    rintro e B L ⟨e0_4, e2_4, e4_4, e54_4, e55_4, e56_4, e12_4, e13_4, rfl, rfl, hGd⟩
    refine zq (yA (mI e2_4 (je rfl rfl (yB ?_)))); refine zD rfl (fun h14 => ?_) (fun h14 => ?_)
    ·have hGs := hGd.trans (ifK_pos (show block = 0 by omega) _ _ _)
     refine zr (jy 1 z52 e12_4 rfl (w_kc (V := (fun _ => .tuple #[])) (pan := panK) zm1 hGs (fun w => zR Tryz.func85 rfl rfl rfl) rfl rfl (fun w h => smooth_ok _ _ w (by omega) (Kt.T (M := exM) hE TL.ex zm0 h)) (fun fl w' hx1 hx2 a ha => p_out ha ⟨fl, hx1, rfl, hx2⟩) (fun q15 hX15 hG15 => yC (zf fa58_1 e13_4 (jM 0 z4 rfl (yB ?_)))))); refine c_cond rfl (fun h16 => ?_) (fun h16 => ?_)
     ·refine zr (zf fa52_1 e12_4 (jM 1 z3 rfl ?_)); refine w_fail (pan := panK) (fl := (153, _)) zm1 (fun w => zR Tryz.func63 rfl rfl rfl) rfl rfl (fun w h => failK_ok 153 _ w) (fun w' hx2 a ha => p_out ha ⟨_, hG15.trans (andK_er (if_pos h16)), rfl, hx2⟩)
     ·have hGp := (hG15.trans (ifK_neg (by rw [h16]; exact Bool.false_ne_true) _ _ _)).trans (andK_ok _ _)
      refine zi (zO (zk (zr (ji e56_4 rfl (by omega) (mI rfl (zn (zK (B' := [x5, (w, No)]) (L' := _) (fun w h => h.drop (.cons _ (.cons _ (List.Sublist.refl _)))) ?_))))))); exact k_again _ (by omega) ⟨k + 1, e0_4, e2_4, e4_4, e54_4, e55_4, rfl, rfl, rfl, by omega, hGp, rfl⟩
    ·have hGs := (hGd.trans (ifK_neg (show ¬ block = 0 by omega) _ _ _)).trans (andK_ok _ _)
     refine zi (zk (yA (zf fa58_1 e13_4 (jM 0 z4 rfl (yB ?_))))); refine c_cond rfl (fun h17 => ?_) (fun h17 => ?_)
     ·refine zr (zf fa52_1 e12_4 (jM 1 z3 rfl ?_)); refine w_fail (pan := panK) (fl := (153, _)) zm1 (fun w => zR Tryz.func63 rfl rfl rfl) rfl rfl (fun w h => failK_ok 153 _ w) (fun w' hx2 a ha => p_out ha ⟨_, hGs.trans (andK_er (if_pos h17)), rfl, hx2⟩)
     ·have hGp := (hGs.trans (ifK_neg (by rw [h17]; exact Bool.false_ne_true) _ _ _)).trans (andK_ok _ _)
      refine zi (zO (zk (zr (ji e56_4 rfl (by omega) (mI rfl (zn (zK (B' := [x5, (w, No)]) (L' := _) (fun w h => h.drop (.cons _ (.cons _ (List.Sublist.refl _)))) ?_))))))); exact k_again _ (by omega) ⟨k + 1, e0_4, e2_4, e4_4, e54_4, e55_4, rfl, rfl, rfl, by omega, hGp, rfl⟩
   ·have hGf := hG1.trans (eachK_end (by omega) _)
    refine zX (zx (zx (b_here rfl (zk (zq (yA (zf fa49_6 e4_2 (jM 0 z47 rfl (jj sl47 rfl (mI rfl (yB (zB (c_loop (fun m e B L => ∃ (k : Nat), e 0 = .slice va vs.length vc ∧ e 2 = .int .i64 (block : Nat) ∧ e 4 = pX t4b ∧ e 100 = .slice ia ini.length ic ∧ e 101 = .int .i64 (ini.length : Nat) ∧ e 102 = .int .i64 (k : Nat) ∧ B = [x5, (w, No)] ∧ L = [(t4b, cel [.int .u8 (ty : Nat), .int .i64 at_, str nm, .slice sa sz.length sc, .slice la lo.length lc, .slice ua up.length uc, .slice ia ini.length ic] 49)] ∧ k ≤ ini.length ∧ declK vs ⟨ty, at_, nm, sz, lo, up, ini⟩ block = andK (eachK (fun e => andK (ofK vs e) fun k => needK (fitK ty k.1) e.at_) (ini.drop k)) (fun _ => .ok (vs ++ [Vr.mk nm ty ((block : Nat) : Int) (decide (2 ≤ block))])) ∧ m = ini.length - k) _ ⟨0, e0_2, e2_2, e4_2, rfl, rfl, rfl, rfl, rfl, Nat.zero_le _, hGf, rfl⟩ ?_)))))))))))))
    rintro m e B L ⟨k, e0_5, e2_5, e4_5, e100_5, e101_5, e102_5, rfl, rfl, hk, hG1, rfl⟩
    refine yA (jl e102_5 e101_5 (yB (zq ?_))); refine zD rfl (fun h18 => ?_) (fun h18 => ?_)
    ·have hlt : k < ini.length := (by omega); obtain ⟨x, hxk⟩ : ∃ x, ini[k]? = some x := ⟨_, List.getElem?_eq_getElem hlt⟩; obtain ⟨cs, hA, hE⟩ := hini.get0 hxk; have hxn := exsW_mem (List.mem_of_getElem? hxk); have hxo := exsOk_mem hf4 (List.mem_of_getElem? hxk); obtain ⟨b1, o1, rfl⟩ := hA.ptr; have hG2 := (hG1.trans (eachK_step hxk _)).trans (init_flat _); obtain ⟨op2, at2, nm2, ks2⟩ := x; have hE2 := hE; unfold exM at hE2; obtain ⟨ka2, kc2, rfl, hkc2, hks2⟩ := hE2
     refine zi (zk (zq (zB (yA (zg (fun _ => R_iaN (i := k) sl47 e100_5 e102_5 (by omega)) (w_loadC (l := [.int .u8 (op2 : Nat), .int .i64 at2, str nm2, .slice ka2 ks2.length kc2]) z52 rfl rfl (fun w h j v hj => hA.cell (fun _ _ hh => hh) zm1 h j v hj) (zA zr52 (fun t15b gt15b ut15b => jv 0 z52 rfl (yB (c_heldS mixed (zh2 0 rfl rfl (fun w h => h) (fun w h => R_fa fa49_0 e4_5) (zh (v := .int _ _) 1 rfl (by kernel_rfl) rfl rfl (fun w h => h) (fun w h => R_ld1 z5 rfl (zc 1 rfl rfl h)) (zh (v := .slice _ _ _) 2 rfl (by kernel_rfl) rfl rfl (fun w h => h) (fun w h => R_move e0_5) (h_loadA 3 rfl (by kernel_rfl) (fun w h => h) z52 rfl (fun _ h => h.at_ 0 rfl) rfl (zh2 7 rfl rfl (fun w h => h) (fun w h => R_fa fa52_1 rfl) (zh (v := .int _ _) 8 rfl (by kernel_rfl) rfl rfl (fun w h => h) (fun w h => R_ld1 z3 rfl (zc 0 rfl rfl h)) (zH2 4 (fun w h => h) (o_kc (V := kdV) (pan := panK) zm1 hG2 rfl (wn_none rfl) rfl (fun w => zR Tryz.func41 rfl rfl rfl) (fun w h => of_ok _ _ vs va vc w (by omega) hxo (hE.nowT zm1 h) (hv.nowT zm1 h).1 (by omega)) (fun fl w' hx1 hx2 a ha => p_out ha ⟨fl, hx1, rfl, hx2⟩) (fun q20 hX20 hG20 => ?_)))))))))))))))))))
     obtain ⟨q1, q2⟩ := q20
     refine zh2 5 rfl rfl (fun w h => h) (fun w h => R_fieldA fd58_0 z5 rfl rfl) (zH2 6 (fun w h => h) (o_pureW rfl (wn_none rfl) rfl (fun w => zR Tryz.func86 rfl rfl rfl) (fun w h => fit_ok _ _ w) (zH2 9 (fun w h => h) (o_need (pan := panK) (at_ := _) zm1 rfl (wn_none rfl) rfl (fun w => zR Tryz.func65 rfl rfl rfl) (fun w h => need_ok _ _ w) (fun hb w' hx2 a ha => p_out ha ⟨_, hG20.trans (andK_er (needK_no (by rfl) hb)), rfl, hx2⟩) (fun hb21 => ?_)))))
     have hG21 := hG20.trans (andK_of (needK_yes (by rfl) hb21))
     refine zN2 (fun w h => h) (zO (zk (zr (ji e102_5 rfl (by omega) (mI rfl (zn (zK (B' := [x5, (w, No)]) (L' := _) (fun w h => h.d1) ?_))))))); exact k_again _ (by omega) ⟨k + 1, e0_5, e2_5, e4_5, e100_5, e101_5, rfl, rfl, rfl, by omega, hG21, rfl⟩
    ·have hGi := hG1.trans (eachK_end (by omega) _)
     refine zX (zx (zx (b_here rfl (zk (yA (mS e0_5 (zf fa49_2 e4_5 (jM 0 z9 rfl (zf fa49_0 e4_5 (jM 0 z5 rfl (mI e2_5 (mI e2_5 (jh rfl rfl (jb bt54 rfl ?_))))))))))))))
     have hpar : decide ((2 : Int) ≤ ((block : Nat) : Int)) = decide (2 ≤ block) := by rw [Bool.eq_iff_iff]; simp only [decide_eq_true_eq]; omega
     have hG9 := hGi; rw [← hpar] at hG9
     refine w_kw (V2 := vsV) (M := vrsW) (a := vs ++ [Vr.mk nm ty ((block : Nat) : Int) (decide ((2 : Int) ≤ ((block : Nat) : Int)))]) zm1 TL.vrw (fun w => zR Tryz.func87 rfl rfl rfl) rfl rfl (fun w h => with_ok vs va vc _ w (hv.nowT zm1 h) hvl) (fun b9 w9 hK9 => za (v := .slice _ _ _) rfl (yB (ze (k_p (.inl rfl) (zo (v := .slice _ _ _) rfl rfl rfl ?_))))); exact fun w' hw => ⟨_, b9, hG9, rfl, hK9.fin TL.vrw zm0 hw, hw.fr _ zm2⟩
 ·have hG5 := hG.trans (if_pos (by rw [hq2]; rfl))
  refine zm rfl (jx rfl rfl (jx rfl rfl (zA zr54 (fun t7b gt7b ut7b => jv 0 z54 rfl (aB rfl (yC (mB rfl (yB (zE rfl (zr (zf fa49_1 rfl (jM 1 z3 rfl ?_)))))))))))); refine w_fail (pan := panK) (fl := (151, _)) zm0 (fun w => zR Tryz.func63 rfl rfl rfl) rfl rfl (fun w h => failK_ok 151 _ w) (fun w' hx2 a ha => p_out ha ⟨_, hG5, rfl, hx2⟩)
end Go.Proofs.YtoehjlmdnajibaaGreatDoor
end
