/- Layer 15, KindChecks: Check and Vars of kind tell the fault, and the variables, of the document, for programs of at most 600 nodes and names of at most 200 bytes; in the Upto form. Part 5 of 17. -/
import Derived.Test.YtoehjlmdnajibaaGreatDoorG04
set_option maxRecDepth 100000
set_option maxHeartbeats 16000000
section
namespace Go.Proofs.YtoehjlmdnajibaaGreatDoor
open Go.RowKit Go.Sx
open Go.Tok
theorem tks_at : ∀ (l : List Tk) (k : Nat) (t : Tk), l[k]? = some t → ∀ (j : Nat) u, (tkC t)[j]? = some u → (tksC l)[k * 3 + j]? = some u
  | [], _, _, h, _, _, _ => by simp at h
  | x :: l, 0, t, h, j, u, hu => by
    obtain rfl : x = t := by simpa using h
    have hj := (List.getElem?_eq_some_iff.1 hu).1
    show ((tkC x) ++ tksC l)[0 * 3 + j]? = some u
    rw [List.getElem?_append_left (by simpa using hj)]
    simpa using hu
  | x :: l, k + 1, t, h, j, u, hu => by
    have ih := tks_at l k t (by simpa using h) j u hu
    show ((tkC x) ++ tksC l)[(k + 1) * 3 + j]? = some u
    have hl : (tkC x).length = 3 := rfl
    rw [List.getElem?_append_right (by rw [hl]; omega), hl, show (k + 1) * 3 + j - 3 = k * 3 + j by omega]
    exact ih
theorem Toks.cell {l : List Tk} {a : Option Addr} {c k : Nat} {W : Heap} {w : World} (h : Toks (.slice a l.length c) l W) (hm : ∀ p ∈ W, w.heap[p.1]? = some p.2) (hk : k < l.length) : ∃ b, a = some ⟨b, 0, none⟩ ∧ ∀ (j : Nat) u, (tkC l[k])[j]? = some u → w.cell? ⟨b, 0 + k * 3 + j, none⟩ = some u := by
  obtain ⟨b, rfl, hc⟩ := Own.cellw h hk
  exact ⟨b, rfl, fun j u hu => by rw [Nat.zero_add]; exact hc w hm _ u (tks_at l k _ (by simp) j u hu)⟩
end Go.Proofs.YtoehjlmdnajibaaGreatDoor
end
section
namespace Go.Proofs.YtoehjlmdnajibaaGreatDoor
open Go.RowKit Go.Sx
open Go.Tok Go.Tree
theorem Toks.cellS {l : List Tk} {a : Option Addr} {c k : Nat} {W : Heap} (h : Toks (.slice a l.length c) l W) (hk : k < l.length) : ∃ b, a = some ⟨b, 0, none⟩ ∧ ∀ (B : Base) (L : Heap) (w : World), (∀ p ∈ W, p ∈ L) → St B L w → ∀ (t : Tk), l[k]? = some t → ∀ (j : Nat) u, (tkC t)[j]? = some u → w.cell? ⟨b, 0 + k * 3 + j, none⟩ = some u := by
  obtain ⟨b, rfl, hc⟩ := Own.cell h hk
  exact ⟨b, rfl, fun B L w hW hw t ht j u hu => by rw [Nat.zero_add]; exact hc B L w hW hw _ u (tks_at l k t ht j u hu)⟩
structure Wd (w : World) : Prop where
  tb : Tb w
  gs : 1 < w.heap.size
  ml : ∃ m, w.cell? ⟨0, 0, none⟩ = some (.int .i64 m)
theorem Wd.ext {w w' : World} (h : Wd w) (k : Ext w w') : Wd w' := ⟨h.tb.fr k (fun x => x), Nat.le_trans h.gs k.size, by obtain ⟨m, hm⟩ := h.ml; exact ⟨m, k.cell hm (fun x => x)⟩⟩
theorem Wd.now {w w' : World} {B : Base} {L : Heap} (h : Wd w) (hx : (w, No) ∈ B) (hw : St B L w') : Wd w' := h.ext (hw.fr _ hx)
theorem Contains_spec (s t : List UInt8) (w : World) (hs : s.length < 4294967281) (hw : Wd w) : Ret Tryz.prog 117 #[str s, str t] w fun v w' => v = .bool (Lib.contains s t) ∧ Ext w w' := by
  obtain ⟨m, hm⟩ := hw.ml
  exact Calls.mono (Tryz.strings_Contains ⟨s.toArray⟩ ⟨t.toArray⟩ m w hs hm) fun e w' ⟨h1, h2⟩ => ⟨_, h1, by simp, by rw [h2]; exact Fr.refl _ _⟩
theorem one_spec (s : Str) (k : Nat) (hs : s.length ≤ 10000000) (w : World) (hW : Wd w) :
    Ret Tryz.prog 92 #[str s, .int .u8 (k : Nat)] w (fun v w' => v = .bool (oneB k s) ∧ Ext w w') := by
  have ht := hW.tb
  have hgs := hW.gs
  refine enter (S := No) (l := [_, _]) (L := []) 36 Tryz.func92 rfl rfl rfl (St.start w No) (yA (aB rfl (yC (zm (v := str _) rfl (w_callW (R := RdV (readP s)) (fun w => zR Tryz.func106 rfl rfl rfl) rfl rfl (fun w h => Read_spec s hs w (ht.fr (h.fr _ zm0) (fun x => x)) (Nat.le_trans hgs (h.fr _ zm0).size)) (fun u W1 hR1 => w_st (fun w h => h.perm List.perm_append_comm) ?_))))))
  obtain ⟨a1, c1, rfl, hT1⟩ := hR1
  refine zm rfl (jx rfl rfl (jx rfl rfl (zA zr37 (fun t6b gt6b ut6b => za (v := .slice _ _ _) rfl (jv 0 z37 rfl (yC (zf fa37_0 rfl (jM 0 z35 rfl (je rfl rfl (mB rfl ?_)))))))))); refine zd (t := 15) rfl (fun h2 => ?_) (fun h2 => ?_)
  · refine zw rfl rfl (bT h2) (mS rfl (zw rfl rfl (bT h2) (jj sl137 rfl (zw rfl rfl (bT h2) (je rfl rfl (jT (bT h2) rfl (mB rfl ?_))))))); refine zd (t := 20) rfl (fun h3 => ?_) (fun h3 => ?_)
    · obtain ⟨b1, rfl, hc1⟩ := hT1.cellS (k := 0) (by omega); obtain ⟨t, q1⟩ : ∃ t, (readP s).1[0]? = some t := ⟨_, List.getElem?_eq_getElem (by omega)⟩; have e1 := oneB_at (k := k) (by omega) q1 (by omega)
      refine zw rfl rfl (bT h3) (mS rfl (zw rfl rfl (bT h3) (zg (fun _ => R_iaN (i := 0) sl137 rfl rfl (by omega)) (zw rfl rfl (bT h3) (zf fa141_0 rfl (zw rfl rfl (bT h3) ?_)))))); refine zl z5 rfl (fun _ h => by exact hc1 _ _ _ (fun p hp => by simp [hp]) h _ q1 _ _ rfl) ?_; refine zw rfl rfl (bT h3) (mI rfl (zw rfl rfl (bT h3) (je rfl rfl (jT (bT h3) rfl (mB rfl ?_))))); refine zd (t := 28) rfl (fun h4 => ?_) (fun h4 => ?_)
      · refine zw rfl rfl (bT h4) (mS rfl (zw rfl rfl (bT h4) (zg (fun _ => R_iaN (i := 0) sl137 rfl rfl (by omega)) (zw rfl rfl (bT h4) (zf fa141_1 rfl (zw rfl rfl (bT h4) ?_)))))); refine zl z9 rfl (fun _ h => by exact hc1 _ _ _ (fun p hp => by simp [hp]) h _ q1 _ _ rfl) ?_; refine zw rfl rfl (bT h4) (zm (v := str _) rfl (zw rfl rfl (bT h4) (js rfl rfl (jT (bT h4) rfl (aB rfl (yB (ze (zo (v := .bool _) rfl rfl rfl ?_)))))))); exact fun w' hw => ⟨by rw [e1, decide_eq_true h4]; rfl, hw.f0⟩
      refine zs rfl rfl (bF h4) (zs rfl rfl (bF h4) (zs rfl rfl (bF h4) (zs rfl rfl (bF h4) (zs rfl rfl (bF h4) (zs rfl rfl (bF h4) (jF (bF h4) rfl (aB rfl (yB (ze (zo (v := .bool _) rfl rfl rfl ?_)))))))))); exact fun w' hw => ⟨by rw [e1, decide_eq_false h4]; rfl, hw.f0⟩
    refine zs rfl rfl (bF h3) (zs rfl rfl (bF h3) (zs rfl rfl (bF h3) (zs rfl rfl (bF h3) (zs rfl rfl (bF h3) (zs rfl rfl (bF h3) (jF (bF h3) rfl (mB rfl ?_))))))); (iterate 6 refine zs rfl rfl rfl ?_); refine jF rfl rfl (aB rfl (yB (ze (zo (v := .bool _) rfl rfl rfl ?_)))); exact fun w' hw => ⟨by rw [oneB_len (by omega)], hw.f0⟩
  refine zs rfl rfl (bF h2) (zs rfl rfl (bF h2) (zs rfl rfl (bF h2) (jF (bF h2) rfl (mB rfl ?_)))); (iterate 6 refine zs rfl rfl rfl ?_); refine jF rfl rfl (mB rfl ?_); (iterate 6 refine zs rfl rfl rfl ?_); refine jF rfl rfl (aB rfl (yB (ze (zo (v := .bool _) rfl rfl rfl ?_))))
  exact fun w' hw => ⟨by rw [oneB_E (by omega)], hw.f0⟩
theorem Name_spec (s : Str) (hs : s.length ≤ 10000000) (w : World) (hW : Wd w) :
    Ret Tryz.prog 94 #[str s] w (fun v w' => v = .bool (nameOk s) ∧ Ext w w') := by
  refine enter (S := No) (l := [_]) (L := []) 12 Tryz.func94 rfl rfl rfl (St.start w No) (yA (aB rfl (yC (zm (v := str _) rfl (jD Tryz.func92 (fun w h => one_spec _ 1 (by omega) w (hW.now zm0 h)) (mB rfl ?_)))))); refine zp (t := 5) rfl (fun h1 => ?_) (fun h1 => ?_)
  · refine zw rfl rfl (bV h1) (zm (v := str _) rfl (zw rfl rfl (bV h1) (zg (fun _ => R_cat rfl rfl (by simp only [List.length_append, List.length_cons, List.length_nil]; omega)) (zw rfl rfl (bV h1) (zg (fun _ => R_cat rfl rfl (by simp only [List.length_append, List.length_cons, List.length_nil]; omega)) (zw rfl rfl (bV h1) (jD Tryz.func117 (fun w h => Contains_spec wordsT ([32] ++ s ++ [32]) w (by decide) (hW.now zm0 h)) (zw rfl rfl (bV h1) (jk rfl (jT (bV h1) rfl (aB rfl (yB (ze (zo (v := .bool _) rfl rfl rfl ?_))))))))))))))
    exact fun w' hw => ⟨by rw [nameOk_one h1], hw.f0⟩
  refine zs rfl rfl (bV h1) (zs rfl rfl (bV h1) (zs rfl rfl (bV h1) (zs rfl rfl (bV h1) (zs rfl rfl (bV h1) (jF (bV h1) rfl (aB rfl (yB (ze (zo (v := .bool _) rfl rfl rfl ?_))))))))); exact fun w' hw => ⟨by rw [nameOk_no h1], hw.f0⟩
theorem expr1_spec (w : World) (hW : Wd w) (p1 : Nat) (bare : Bool) (hq1 : w.heap[p1]? = some (cel [.bool bare] 4)) (p2 : Nat) (n : Nat) (hq2 : w.heap[p2]? = some (cel [.int .i64 (n : Nat)] 3)) :
    Ret Tryz.prog 90 #[pX p1, pX p2] w (fun v w' => v = .bool (bare && decide (n = 2)) ∧ Ext w w') := by
  refine enter (S := No) (l := [_, _]) (L := []) 8 Tryz.func90 rfl rfl rfl (St.start w No) (yA (aB rfl (yC (zl z4 rfl (fun _ h => cel_oldb hq1 zm0 id rfl h) (mB rfl ?_))))); refine zp (t := 4) rfl (fun h1 => ?_) (fun h1 => ?_)
  · refine zw rfl rfl (bV h1) (zl z3 rfl (fun _ h => cel_oldb hq2 zm0 id rfl h) (zw rfl rfl (bV h1) (je rfl rfl (jT (bV h1) rfl (aB rfl (yB (ze (zo (v := .bool _) rfl rfl rfl ?_)))))))); exact fun w' hw => ⟨by simp_all <;> omega, hw.f0⟩
  refine zs rfl rfl (bV h1) (zs rfl rfl (bV h1) (jF (bV h1) rfl (aB rfl (yB (ze (zo (v := .bool _) rfl rfl rfl ?_)))))); exact fun w' hw => ⟨by simp_all <;> omega, hw.f0⟩
theorem expr2_spec (w : World) (hW : Wd w) (p2 : Nat) (n : Nat) (hq2 : w.heap[p2]? = some (cel [.int .i64 (n : Nat)] 3)) (p3 : Nat) (op : Nat) (at_ : Int) (nm : Str) (v4 : Value) (hq3 : w.heap[p3]? = some (cel [.int .u8 (op : Nat), .int .i64 at_, str nm, v4] 52)) (hs : nm.length ≤ 10000000) :
    Ret Tryz.prog 91 #[pX p2, pX p3] w (fun v w' => v = .bool (decide (n = 0) && oneB 2 nm) ∧ Ext w w') := by
  refine enter (S := No) (l := [_, _]) (L := []) 10 Tryz.func91 rfl rfl rfl (St.start w No) (yA (aB rfl (yC (zl z3 rfl (fun _ h => cel_oldb hq2 zm0 id rfl h) (je rfl rfl (mB rfl ?_)))))); refine zd (t := 5) rfl (fun h1 => ?_) (fun h1 => ?_)
  · refine zw rfl rfl (bT h1) (zf fa52_2 rfl (zw rfl rfl (bT h1) (zl z9 rfl (fun _ h => cel_oldb hq3 zm0 id rfl h) (zw rfl rfl (bT h1) (jD Tryz.func92 (fun w h => one_spec _ 2 (by omega) w (hW.now zm0 h)) (jT (bT h1) rfl (aB rfl (yB (ze (zo (v := .bool _) rfl rfl rfl ?_)))))))))); exact fun w' hw => ⟨by simp_all <;> omega, hw.f0⟩
  refine zs rfl rfl (bF h1) (zs rfl rfl (bF h1) (zs rfl rfl (bF h1) (jF (bF h1) rfl (aB rfl (yB (ze (zo (v := .bool _) rfl rfl rfl ?_))))))); exact fun w' hw => ⟨by simp_all <;> omega, hw.f0⟩
theorem expr3_spec (w : World) (hW : Wd w) (p2 : Nat) (n : Nat) (hq2 : w.heap[p2]? = some (cel [.int .i64 (n : Nat)] 3)) (p3 : Nat) (op : Nat) (at_ : Int) (nm : Str) (v4 : Value) (hq3 : w.heap[p3]? = some (cel [.int .u8 (op : Nat), .int .i64 at_, str nm, v4] 52)) (hs : nm.length ≤ 10000000) :
    Ret Tryz.prog 93 #[pX p2, pX p3] w (fun v w' => v = .bool (decide (n = 0) && nameOk nm) ∧ Ext w w') := by
  refine enter (S := No) (l := [_, _]) (L := []) 10 Tryz.func93 rfl rfl rfl (St.start w No) (yA (aB rfl (yC (zl z3 rfl (fun _ h => cel_oldb hq2 zm0 id rfl h) (je rfl rfl (mB rfl ?_)))))); refine zd (t := 5) rfl (fun h1 => ?_) (fun h1 => ?_)
  · refine zw rfl rfl (bT h1) (zf fa52_2 rfl (zw rfl rfl (bT h1) (zl z9 rfl (fun _ h => cel_oldb hq3 zm0 id rfl h) (zw rfl rfl (bT h1) (jD Tryz.func94 (fun w h => Name_spec _ (by omega) w (hW.now zm0 h)) (jT (bT h1) rfl (aB rfl (yB (ze (zo (v := .bool _) rfl rfl rfl ?_)))))))))); exact fun w' hw => ⟨by simp_all <;> omega, hw.f0⟩
  refine zs rfl rfl (bF h1) (zs rfl rfl (bF h1) (zs rfl rfl (bF h1) (jF (bF h1) rfl (aB rfl (yB (ze (zo (v := .bool _) rfl rfl rfl ?_))))))); exact fun w' hw => ⟨by simp_all <;> omega, hw.f0⟩
theorem expr4_spec (w : World) (hW : Wd w) (p2 : Nat) (n : Nat) (hq2 : w.heap[p2]? = some (cel [.int .i64 (n : Nat)] 3)) (p3 : Nat) (op : Nat) (at_ : Int) (nm : Str) (v4 : Value) (hq3 : w.heap[p3]? = some (cel [.int .u8 (op : Nat), .int .i64 at_, str nm, v4] 52)) (hs : nm.length ≤ 10000000) :
    Ret Tryz.prog 95 #[pX p2, pX p3] w (fun v w' => v = .bool (decide (n = 1) && nameOk nm) ∧ Ext w w') := by
  refine enter (S := No) (l := [_, _]) (L := []) 10 Tryz.func95 rfl rfl rfl (St.start w No) (yA (aB rfl (yC (zl z3 rfl (fun _ h => cel_oldb hq2 zm0 id rfl h) (je rfl rfl (mB rfl ?_)))))); refine zd (t := 5) rfl (fun h1 => ?_) (fun h1 => ?_)
  · refine zw rfl rfl (bT h1) (zf fa52_2 rfl (zw rfl rfl (bT h1) (zl z9 rfl (fun _ h => cel_oldb hq3 zm0 id rfl h) (zw rfl rfl (bT h1) (jD Tryz.func94 (fun w h => Name_spec _ (by omega) w (hW.now zm0 h)) (jT (bT h1) rfl (aB rfl (yB (ze (zo (v := .bool _) rfl rfl rfl ?_)))))))))); exact fun w' hw => ⟨by simp_all <;> omega, hw.f0⟩
  refine zs rfl rfl (bF h1) (zs rfl rfl (bF h1) (zs rfl rfl (bF h1) (jF (bF h1) rfl (aB rfl (yB (ze (zo (v := .bool _) rfl rfl rfl ?_))))))); exact fun w' hw => ⟨by simp_all <;> omega, hw.f0⟩
theorem expr5_spec (w : World) (hW : Wd w) (p3 : Nat) (op : Nat) (at_ : Int) (nm : Str) (v4 : Value) (hq3 : w.heap[p3]? = some (cel [.int .u8 (op : Nat), .int .i64 at_, str nm, v4] 52)) (hs : nm.length ≤ 10000000) :
    Ret Tryz.prog 96 #[pX p3] w (fun v w' => v = .bool (nameOk nm) ∧ Ext w w') := by
  refine enter (S := No) (l := [_]) (L := []) 5 Tryz.func96 rfl rfl rfl (St.start w No) (yA (aB rfl (yC (zf fa52_2 rfl (zl z9 rfl (fun _ h => cel_oldb hq3 zm0 id rfl h) (jD Tryz.func94 (fun w h => Name_spec _ (by omega) w (hW.now zm0 h)) (aB rfl (yB (ze (zo (v := .bool _) rfl rfl rfl ?_)))))))))); exact fun w' hw => ⟨by simp_all <;> omega, hw.f0⟩
theorem expr6_spec (w : World) (hW : Wd w) (p1 : Nat) (bare : Bool) (hq1 : w.heap[p1]? = some (cel [.bool bare] 4)) (p2 : Nat) (n : Nat) (hq2 : w.heap[p2]? = some (cel [.int .i64 (n : Nat)] 3)) :
    Ret Tryz.prog 97 #[pX p1, pX p2] w (fun v w' => v = .bool (bare && decide (n = 1)) ∧ Ext w w') := by
  refine enter (S := No) (l := [_, _]) (L := []) 8 Tryz.func97 rfl rfl rfl (St.start w No) (yA (aB rfl (yC (zl z4 rfl (fun _ h => cel_oldb hq1 zm0 id rfl h) (mB rfl ?_))))); refine zp (t := 4) rfl (fun h1 => ?_) (fun h1 => ?_)
  · refine zw rfl rfl (bV h1) (zl z3 rfl (fun _ h => cel_oldb hq2 zm0 id rfl h) (zw rfl rfl (bV h1) (je rfl rfl (jT (bV h1) rfl (aB rfl (yB (ze (zo (v := .bool _) rfl rfl rfl ?_)))))))); exact fun w' hw => ⟨by simp_all <;> omega, hw.f0⟩
  refine zs rfl rfl (bV h1) (zs rfl rfl (bV h1) (jF (bV h1) rfl (aB rfl (yB (ze (zo (v := .bool _) rfl rfl rfl ?_)))))); exact fun w' hw => ⟨by simp_all <;> omega, hw.f0⟩
def ExprH (n : Nat) : Prop := ∀ (x : Ex) (cs : List Value) (N : Nat → Prop) (w : World), exW x < n → exM w N x cs → Wd w → Ret Tryz.prog 59 #[.agg cs.toArray] w fun v w' => v = .bool (exOk x) ∧ Ext w w'
theorem exprsC_spec (n : Nat) (ih : ExprH n) (hn : n ≤ 10000000) (x : Ex) (cs : List Value) (N : Nat → Prop) (w : World) (hx : exW x < n) (hm : exM w N x cs) (hW : Wd w) :
    Ret Tryz.prog 119 #[.agg cs.toArray] w (fun v w' => v = .bool (!exOk x) ∧ Ext w w') := by
  obtain ⟨op, at_, nm, ks⟩ := x
  have hm2 := hm
  unfold exM at hm2
  obtain ⟨ka, kc, rfl, hkc, hks⟩ := hm2
  have hx2 := hx
  unfold exW at hx2
  refine enter (S := No) (l := [_]) (L := []) 6 Tryz.func119 rfl rfl rfl (St.start w No) (yA (w_boxA rfl (fun b1 gb1 ub1 => aB rfl (yC (jy 0 z52 rfl rfl (jD Tryz.func59 (fun w h => ih _ _ N w hx (hm.now (fun _ _ hh => hh) zm0 h) (hW.now zm0 h)) (jk rfl (aB rfl (yB (ze (zo (v := .bool _) rfl rfl rfl ?_))))))))))); exact fun w' hw => ⟨rfl, hw.f0⟩
theorem idxE_spec (n : Nat) (ih : ExprH n) (hn : n ≤ 10000000) (l : List Ex) (a : Option Addr) (c : Nat) (N : Nat → Prop) (w : World) (hl : ∀ x ∈ l, exW x < n) (hll : l.length ≤ 10000000) (hm : exsM w N l a 0) (hW : Wd w) :
    Ret Tryz.prog 144 #[.slice a l.length c, .func (.func 119) #[] #[]] w (fun v w' => v = .int .i64 (firstI (fun x => !exOk x) l) ∧ Ext w w') := by
  refine enter (S := No) (l := [_, _]) (L := []) 19 Tryz.func144 rfl rfl rfl (St.start w No) (yA (aI rfl (yB (zq (yA (mS rfl (jj sl47 rfl (mI rfl (yB (zB (c_loop (fun m e B L => ∃ (k : Nat), e 0 = .slice a l.length c ∧ e 1 = .func (.func 119) #[] #[] ∧ e 7 = .int .i64 (l.length : Nat) ∧ e 8 = .int .i64 (k : Nat) ∧ B = [(w, No)] ∧ L = [] ∧ k ≤ l.length ∧ (∀ y ∈ l.take k, (!exOk y) = false) ∧ m = l.length - k) _ ⟨0, rfl, rfl, rfl, rfl, rfl, rfl, Nat.zero_le _, (by simp), rfl⟩ ?_)))))))))))
  rintro m e B L ⟨k, e0_1, e1_1, e7_1, e8_1, rfl, rfl, hk, hy, rfl⟩
  refine yA (jl e8_1 e7_1 (yB (zq ?_))); refine zD rfl (fun h1 => ?_) (fun h1 => ?_)
  · have hlt : k < l.length := (by omega); obtain ⟨x, hxk⟩ : ∃ x, l[k]? = some x := ⟨_, List.getElem?_eq_getElem hlt⟩; obtain ⟨cs, hA, hE⟩ := hm.get0 hxk; have hxn := hl x (List.mem_of_getElem? hxk); obtain ⟨b1, o1, rfl⟩ := hA.ptr; obtain ⟨op, at_, nm, ks⟩ := x; have hE2 := hE; unfold exM at hE2; obtain ⟨ka, kc, rfl, hkc, hks⟩ := hE2
    refine zi (zk (zq (zB (yA (mI e8_1 (aI rfl (yC (zm e1_1 (mS e0_1 (mI rfl (zg (fun _ => R_iaN (i := k) sl47 rfl rfl (by omega)) (w_loadC (l := [.int .u8 (op : Nat), .int .i64 at_, str nm, .slice ka ks.length kc]) z52 rfl rfl (fun w h j v hj => hA.cell (fun _ _ hh => hh) zm0 h j v hj) (zC (fun w => R_callv rfl Tryz.func119 rfl rfl) rfl rfl (fun w h => exprsC_spec n ih hn _ _ N w hxn (hE.now (fun _ _ hh => hh) zm0 h) (hW.now zm0 h)) (yB ?_)))))))))))))); refine c_cond rfl (fun h2 => ?_) (fun h2 => ?_)
    · refine yA (mI rfl (aI rfl (yB (ze (zb (zt (zt (zb (zt ((zo (v := .int _ _) rfl rfl rfl ?_))))))))))); exact fun w' hw => ⟨by rw [firstI_at hy hxk h2], hw.f0⟩
    refine zi (zO (zk (zr (ji e8_1 rfl (by omega) (mI rfl (zn ?_)))))); exact k_again _ (by omega) ⟨k + 1, e0_1, e1_1, e7_1, rfl, rfl, rfl, by omega, take_all hy hxk h2, rfl⟩
  refine zX (zx (zx (b_here rfl (zk (yA (aI rfl (yB (ze ?_))))))))
  obtain rfl : k = l.length := by omega
  rw [List.take_length] at hy
  refine zo (v := .int _ _) rfl rfl rfl ?_; exact fun w' hw => ⟨by rw [firstI_no hy], hw.f0⟩
theorem hasE_spec (n : Nat) (ih : ExprH n) (hn : n ≤ 10000000) (l : List Ex) (a : Option Addr) (c : Nat) (N : Nat → Prop) (w : World) (hl : ∀ x ∈ l, exW x < n) (hll : l.length ≤ 10000000) (hm : exsM w N l a 0) (hW : Wd w) :
    Ret Tryz.prog 118 #[.slice a l.length c, .func (.func 119) #[] #[]] w (fun v w' => v = .bool (l.any fun x => !exOk x) ∧ Ext w w') := by
  refine enter (S := No) (l := [_, _]) (L := []) 9 Tryz.func118 rfl rfl rfl (St.start w No) (yA (aB rfl (yC (mS rfl (zm rfl (jD Tryz.func144 (fun w h => idxE_spec n ih hn l a c N w hl hll (hm.now (fun _ _ hh => hh) zm0 h) (hW.now zm0 h)) (jh rfl rfl (aB rfl (yB (ze (zo (v := .bool _) rfl rfl rfl ?_))))))))))); exact fun w' hw => ⟨by rw [← firstI_ge], hw.f0⟩
theorem exprs_spec (n : Nat) (ih : ExprH n) (hn : n ≤ 10000000) (l : List Ex) (a : Option Addr) (c : Nat) (N : Nat → Prop) (w : World) (hl : ∀ x ∈ l, exW x < n) (hll : l.length ≤ 10000000) (hm : exsM w N l a 0) (hW : Wd w) :
    Ret Tryz.prog 98 #[.slice a l.length c] w (fun v w' => v = .bool (exsOk l) ∧ Ext w w') := by
  refine enter (S := No) (l := [_]) (L := []) 6 Tryz.func98 rfl rfl rfl (St.start w No) (yA (aB rfl (yC (mS rfl (jD Tryz.func118 (fun w h => hasE_spec n ih hn l a c N w hl hll (hm.now (fun _ _ hh => hh) zm0 h) (hW.now zm0 h)) (jk rfl (aB rfl (yB (ze (zo (v := .bool _) rfl rfl rfl ?_)))))))))); exact fun w' hw => ⟨by rw [any_not, exsOk_all], hw.f0⟩
theorem expr_step (n : Nat) (ih : ExprH n) (hn : n ≤ 10000000) (x : Ex) (cs : List Value) (N : Nat → Prop) (w : World) (hx : exW x < n + 1) (hm : exM w N x cs) (hW : Wd w) :
    Ret Tryz.prog 59 #[.agg cs.toArray] w (fun v w' => v = .bool (exOk x) ∧ Ext w w') := by
  obtain ⟨op, at_, nm, ks⟩ := x
  have hm2 := hm
  unfold exM at hm2
  obtain ⟨ka, kc, rfl, hkc, hks⟩ := hm2
  have hx2 := hx
  unfold exW at hx2
  have hkl : ∀ x ∈ ks, exW x < n := fun x hx => by have := exsW_mem hx; omega
  refine enter (S := No) (l := [_]) (L := []) 41 Tryz.func59 rfl rfl rfl (St.start w No) (yA (w_boxA rfl (fun t1b gt1b ut1b => aB rfl (yC (zf fa52_3 rfl (jM 0 z47 rfl (jj sl47 rfl (zA zr3 (fun t3b gt3b ut3b => jv 0 z3 rfl (yC (zf fa52_2 rfl (jM 1 z9 rfl (js rfl rfl (zA zr4 (fun t4b gt4b ut4b => jv 0 z4 rfl (yC (zg (fun _ => R_makeFunc) (za rfl (yC (w_makeMap (k := .u8) (fun mb gmb umb => zg (fun _ => R_makeFunc) (w_insI 0 rfl unm129 unk5 rfl rfl rfl rfl (zg (fun _ => R_makeFunc) (w_insI 0 rfl unm129 unk5 rfl rfl rfl rfl (zg (fun _ => R_makeFunc) (w_insI 0 rfl unm129 unk5 rfl rfl rfl rfl (zg (fun _ => R_makeFunc) (w_insI 0 rfl unm129 unk5 rfl rfl rfl rfl (zg (fun _ => R_makeFunc) (w_insI 0 rfl unm129 unk5 rfl rfl rfl rfl (zm rfl (w_insI 0 rfl unm129 unk5 rfl rfl rfl rfl (zm rfl (w_insI 0 rfl unm129 unk5 rfl rfl rfl rfl (zm rfl (w_insI 0 rfl unm129 unk5 rfl rfl rfl rfl (zm rfl (w_insI 0 rfl unm129 unk5 rfl rfl rfl rfl (zm rfl (za rfl (yC (zm rfl (zf fa52_0 rfl ?_)))))))))))))))))))))))))))))))))))))))))))
  rcases op_cases9 op with rfl | rfl | rfl | rfl | rfl | rfl | rfl | rfl | rfl | hop
  · refine jM 3 z5 rfl (w_lookI 0 (v := .func (.func 91) _ _) rfl unm129 unk5 zr22 rfl rfl rfl (za rfl (yC (zm rfl (zg (fun _ => R_fne unf22 rfl rfl) (mB rfl (zw rfl rfl rfl (zm rfl (zw rfl rfl rfl (zC (fun w => R_callv rfl Tryz.func91 rfl rfl) rfl rfl (fun w h => expr2_spec w (hW.now zm0 h) t3b _ (h.at_ 2 rfl) t1b _ _ _ _ (h.at_ 3 rfl) (by omega)) (jT rfl rfl (mB rfl (gTx rfl (fun hc w h => R_fa fa52_3 rfl) rfl (gTx rfl (fun hc w h => R_ld1 z47 (gvl_t hc) (zc 3 rfl rfl h)) rfl (w_cT rfl rfl rfl (fun hc w => runE_as (zR Tryz.func98 rfl rfl rfl) (arr1 (gvl_t hc))) rfl (fun hc w h => exprs_spec n ih hn ks ka kc N w hkl (by omega) (hks.now (fun _ _ hh => hh) zm0 h) (hW.now zm0 h)) (zg (v := .bool _) (fun _ => R_pickA rfl rfl rfl) (aB rfl (yB (ze (zo (v := .bool _) rfl rfl rfl ?_)))))))))))))))))))); exact fun w' hw => ⟨by (simp_all [exOk, ruleOk]; done), hw.f0⟩
  · refine jM 3 z5 rfl (w_lookI 0 (v := .func (.func 93) _ _) rfl unm129 unk5 zr22 rfl rfl rfl (za rfl (yC (zm rfl (zg (fun _ => R_fne unf22 rfl rfl) (mB rfl (zw rfl rfl rfl (zm rfl (zw rfl rfl rfl (zC (fun w => R_callv rfl Tryz.func93 rfl rfl) rfl rfl (fun w h => expr3_spec w (hW.now zm0 h) t3b _ (h.at_ 2 rfl) t1b _ _ _ _ (h.at_ 3 rfl) (by omega)) (jT rfl rfl (mB rfl (gTx rfl (fun hc w h => R_fa fa52_3 rfl) rfl (gTx rfl (fun hc w h => R_ld1 z47 (gvl_t hc) (zc 3 rfl rfl h)) rfl (w_cT rfl rfl rfl (fun hc w => runE_as (zR Tryz.func98 rfl rfl rfl) (arr1 (gvl_t hc))) rfl (fun hc w h => exprs_spec n ih hn ks ka kc N w hkl (by omega) (hks.now (fun _ _ hh => hh) zm0 h) (hW.now zm0 h)) (zg (v := .bool _) (fun _ => R_pickA rfl rfl rfl) (aB rfl (yB (ze (zo (v := .bool _) rfl rfl rfl ?_)))))))))))))))))))); exact fun w' hw => ⟨by (simp_all [exOk, ruleOk]; done), hw.f0⟩
  · refine jM 3 z5 rfl (w_lookI 0 (v := .func (.func 95) _ _) rfl unm129 unk5 zr22 rfl rfl rfl (za rfl (yC (zm rfl (zg (fun _ => R_fne unf22 rfl rfl) (mB rfl (zw rfl rfl rfl (zm rfl (zw rfl rfl rfl (zC (fun w => R_callv rfl Tryz.func95 rfl rfl) rfl rfl (fun w h => expr4_spec w (hW.now zm0 h) t3b _ (h.at_ 2 rfl) t1b _ _ _ _ (h.at_ 3 rfl) (by omega)) (jT rfl rfl (mB rfl (gTx rfl (fun hc w h => R_fa fa52_3 rfl) rfl (gTx rfl (fun hc w h => R_ld1 z47 (gvl_t hc) (zc 3 rfl rfl h)) rfl (w_cT rfl rfl rfl (fun hc w => runE_as (zR Tryz.func98 rfl rfl rfl) (arr1 (gvl_t hc))) rfl (fun hc w h => exprs_spec n ih hn ks ka kc N w hkl (by omega) (hks.now (fun _ _ hh => hh) zm0 h) (hW.now zm0 h)) (zg (v := .bool _) (fun _ => R_pickA rfl rfl rfl) (aB rfl (yB (ze (zo (v := .bool _) rfl rfl rfl ?_)))))))))))))))))))); exact fun w' hw => ⟨by (simp_all [exOk, ruleOk]; done), hw.f0⟩
  · refine jM 3 z5 rfl (w_lookI 0 (v := .func (.func 96) _ _) rfl unm129 unk5 zr22 rfl rfl rfl (za rfl (yC (zm rfl (zg (fun _ => R_fne unf22 rfl rfl) (mB rfl (zw rfl rfl rfl (zm rfl (zw rfl rfl rfl (zC (fun w => R_callv rfl Tryz.func96 rfl rfl) rfl rfl (fun w h => expr5_spec w (hW.now zm0 h) t1b _ _ _ _ (h.at_ 3 rfl) (by omega)) (jT rfl rfl (mB rfl (gTx rfl (fun hc w h => R_fa fa52_3 rfl) rfl (gTx rfl (fun hc w h => R_ld1 z47 (gvl_t hc) (zc 3 rfl rfl h)) rfl (w_cT rfl rfl rfl (fun hc w => runE_as (zR Tryz.func98 rfl rfl rfl) (arr1 (gvl_t hc))) rfl (fun hc w h => exprs_spec n ih hn ks ka kc N w hkl (by omega) (hks.now (fun _ _ hh => hh) zm0 h) (hW.now zm0 h)) (zg (v := .bool _) (fun _ => R_pickA rfl rfl rfl) (aB rfl (yB (ze (zo (v := .bool _) rfl rfl rfl ?_)))))))))))))))))))); exact fun w' hw => ⟨by (simp_all [exOk, ruleOk]; done), hw.f0⟩
  · refine jM 3 z5 rfl (w_lookI 0 (v := .func (.func 97) _ _) rfl unm129 unk5 zr22 rfl rfl rfl (za rfl (yC (zm rfl (zg (fun _ => R_fne unf22 rfl rfl) (mB rfl (zw rfl rfl rfl (zm rfl (zw rfl rfl rfl (zC (fun w => R_callv rfl Tryz.func97 rfl rfl) rfl rfl (fun w h => expr6_spec w (hW.now zm0 h) t4b _ (h.at_ 1 rfl) t3b _ (h.at_ 2 rfl)) (jT rfl rfl (mB rfl (gTx rfl (fun hc w h => R_fa fa52_3 rfl) rfl (gTx rfl (fun hc w h => R_ld1 z47 (gvl_t hc) (zc 3 rfl rfl h)) rfl (w_cT rfl rfl rfl (fun hc w => runE_as (zR Tryz.func98 rfl rfl rfl) (arr1 (gvl_t hc))) rfl (fun hc w h => exprs_spec n ih hn ks ka kc N w hkl (by omega) (hks.now (fun _ _ hh => hh) zm0 h) (hW.now zm0 h)) (zg (v := .bool _) (fun _ => R_pickA rfl rfl rfl) (aB rfl (yB (ze (zo (v := .bool _) rfl rfl rfl ?_)))))))))))))))))))); exact fun w' hw => ⟨by (simp_all [exOk, ruleOk]; done), hw.f0⟩
  · refine jM 3 z5 rfl (w_lookI 0 (v := .func (.func 90) _ _) rfl unm129 unk5 zr22 rfl rfl rfl (za rfl (yC (zm rfl (zg (fun _ => R_fne unf22 rfl rfl) (mB rfl (zw rfl rfl rfl (zm rfl (zw rfl rfl rfl (zC (fun w => R_callv rfl Tryz.func90 rfl rfl) rfl rfl (fun w h => expr1_spec w (hW.now zm0 h) t4b _ (h.at_ 1 rfl) t3b _ (h.at_ 2 rfl)) (jT rfl rfl (mB rfl (gTx rfl (fun hc w h => R_fa fa52_3 rfl) rfl (gTx rfl (fun hc w h => R_ld1 z47 (gvl_t hc) (zc 3 rfl rfl h)) rfl (w_cT rfl rfl rfl (fun hc w => runE_as (zR Tryz.func98 rfl rfl rfl) (arr1 (gvl_t hc))) rfl (fun hc w h => exprs_spec n ih hn ks ka kc N w hkl (by omega) (hks.now (fun _ _ hh => hh) zm0 h) (hW.now zm0 h)) (zg (v := .bool _) (fun _ => R_pickA rfl rfl rfl) (aB rfl (yB (ze (zo (v := .bool _) rfl rfl rfl ?_)))))))))))))))))))); exact fun w' hw => ⟨by (simp_all [exOk, ruleOk]; done), hw.f0⟩
  · refine jM 3 z5 rfl (w_lookI 0 (v := .func (.func 90) _ _) rfl unm129 unk5 zr22 rfl rfl rfl (za rfl (yC (zm rfl (zg (fun _ => R_fne unf22 rfl rfl) (mB rfl (zw rfl rfl rfl (zm rfl (zw rfl rfl rfl (zC (fun w => R_callv rfl Tryz.func90 rfl rfl) rfl rfl (fun w h => expr1_spec w (hW.now zm0 h) t4b _ (h.at_ 1 rfl) t3b _ (h.at_ 2 rfl)) (jT rfl rfl (mB rfl (gTx rfl (fun hc w h => R_fa fa52_3 rfl) rfl (gTx rfl (fun hc w h => R_ld1 z47 (gvl_t hc) (zc 3 rfl rfl h)) rfl (w_cT rfl rfl rfl (fun hc w => runE_as (zR Tryz.func98 rfl rfl rfl) (arr1 (gvl_t hc))) rfl (fun hc w h => exprs_spec n ih hn ks ka kc N w hkl (by omega) (hks.now (fun _ _ hh => hh) zm0 h) (hW.now zm0 h)) (zg (v := .bool _) (fun _ => R_pickA rfl rfl rfl) (aB rfl (yB (ze (zo (v := .bool _) rfl rfl rfl ?_)))))))))))))))))))); exact fun w' hw => ⟨by (simp_all [exOk, ruleOk]; done), hw.f0⟩
  · refine jM 3 z5 rfl (w_lookI 0 (v := .func (.func 90) _ _) rfl unm129 unk5 zr22 rfl rfl rfl (za rfl (yC (zm rfl (zg (fun _ => R_fne unf22 rfl rfl) (mB rfl (zw rfl rfl rfl (zm rfl (zw rfl rfl rfl (zC (fun w => R_callv rfl Tryz.func90 rfl rfl) rfl rfl (fun w h => expr1_spec w (hW.now zm0 h) t4b _ (h.at_ 1 rfl) t3b _ (h.at_ 2 rfl)) (jT rfl rfl (mB rfl (gTx rfl (fun hc w h => R_fa fa52_3 rfl) rfl (gTx rfl (fun hc w h => R_ld1 z47 (gvl_t hc) (zc 3 rfl rfl h)) rfl (w_cT rfl rfl rfl (fun hc w => runE_as (zR Tryz.func98 rfl rfl rfl) (arr1 (gvl_t hc))) rfl (fun hc w h => exprs_spec n ih hn ks ka kc N w hkl (by omega) (hks.now (fun _ _ hh => hh) zm0 h) (hW.now zm0 h)) (zg (v := .bool _) (fun _ => R_pickA rfl rfl rfl) (aB rfl (yB (ze (zo (v := .bool _) rfl rfl rfl ?_)))))))))))))))))))); exact fun w' hw => ⟨by (simp_all [exOk, ruleOk]; done), hw.f0⟩
  · refine jM 3 z5 rfl (w_lookI 0 (v := .func (.func 90) _ _) rfl unm129 unk5 zr22 rfl rfl rfl (za rfl (yC (zm rfl (zg (fun _ => R_fne unf22 rfl rfl) (mB rfl (zw rfl rfl rfl (zm rfl (zw rfl rfl rfl (zC (fun w => R_callv rfl Tryz.func90 rfl rfl) rfl rfl (fun w h => expr1_spec w (hW.now zm0 h) t4b _ (h.at_ 1 rfl) t3b _ (h.at_ 2 rfl)) (jT rfl rfl (mB rfl (gTx rfl (fun hc w h => R_fa fa52_3 rfl) rfl (gTx rfl (fun hc w h => R_ld1 z47 (gvl_t hc) (zc 3 rfl rfl h)) rfl (w_cT rfl rfl rfl (fun hc w => runE_as (zR Tryz.func98 rfl rfl rfl) (arr1 (gvl_t hc))) rfl (fun hc w h => exprs_spec n ih hn ks ka kc N w hkl (by omega) (hks.now (fun _ _ hh => hh) zm0 h) (hW.now zm0 h)) (zg (v := .bool _) (fun _ => R_pickA rfl rfl rfl) (aB rfl (yB (ze (zo (v := .bool _) rfl rfl rfl ?_)))))))))))))))))))); exact fun w' hw => ⟨by (simp_all [exOk, ruleOk]; done), hw.f0⟩
  refine jM 3 z5 rfl (w_lookI 0 (v := .nilFunc) rfl unm129 unk5 zr22 rfl rfl (look_none _ _ _ (by simp; omega)) (za rfl (yC (zm rfl (zg (fun _ => R_nne unf22 rfl rfl) (mB rfl ?_)))))); (iterate 2 refine zs rfl rfl rfl ?_); refine jF rfl rfl (mB rfl ?_); (iterate 3 refine zs rfl rfl rfl ?_); refine jF rfl rfl (aB rfl (yB (ze (zo (v := .bool _) rfl rfl rfl ?_)))); exact fun w' hw => ⟨by (unfold exOk; rw [rule_miss hop]; rfl), hw.f0⟩
theorem expr_all : ∀ n : Nat, n ≤ 10000000 → ExprH n
  | 0, _ => fun _ _ _ _ h _ _ => absurd h (Nat.not_lt_zero _)
  | n + 1, hn => fun x cs N w hx hm hW => expr_step n (expr_all n (by omega)) (by omega) x cs N w hx hm hW
theorem exprs_ok (l : List Ex) (a : Option Addr) (c : Nat) (N : Nat → Prop) (w : World) (hl : exsW l < 10000000) (hll : l.length ≤ 10000000) (hm : exsM w N l a 0) (hW : Wd w) : Ret Tryz.prog 98 #[.slice a l.length c] w fun v w' => v = .bool (exsOk l) ∧ Ext w w' :=
  exprs_spec _ (expr_all _ (Nat.le_refl _)) (Nat.le_refl _) l a c N w (fun _ hx => Nat.lt_of_le_of_lt (exsW_mem hx) hl) hll hm hW
end Go.Proofs.YtoehjlmdnajibaaGreatDoor
end
section
namespace Go.Proofs.YtoehjlmdnajibaaGreatDoor
open Go.RowKit Go.Sx
open Go.Tok Go.Tree Go.Prs
abbrev Ro (sv : Value) (z k o : Nat) : Obj := cel [sv, .int .i64 (k : Nat), .int .i64 (z : Nat), .int .i64 (o : Nat)] 143
def pan (fl : Fl) : List PanicEntry := [{ v := .iface 37 (.agg #[.int .i64 (fl.1 : Nat), .int .i64 (fl.2 : Nat)]), recovered := false }]
theorem Wd.frS {w w' : World} {S : Nat → Prop} (h : Wd w) (k : Fr S w w') (hs : ∀ j, S j → 4 ≤ j) : Wd w' := ⟨h.tb.fr k (fun x => absurd (hs _ x) (by decide)), Nat.le_trans h.gs k.size, by obtain ⟨m, hm⟩ := h.ml; exact ⟨m, k.cell hm (fun x => absurd (hs _ x) (by decide))⟩⟩
structure Pe (w : World) (rb : Nat) (T : List Tk) (z : Nat) (sv : Value) : Prop where
  wd : Wd w
  gl : 4 ≤ rb
  tk : ∃ a c, sv = .slice a T.length c ∧ ∀ k t, T[k]? = some t → At w (fun j => j ≠ rb) a (k * 3) (tkC t)
  len : T.length ≤ 6000
  zz : z ≤ 10000000
  tb : ∀ t ∈ T, t.2.1.length ≤ 10000000 ∧ t.2.2 ≤ 10000000
theorem Pe.fr {w w' : World} {rb z : Nat} {T : List Tk} {sv : Value} {S : Nat → Prop} (h : Pe w rb T z sv) (k : Fr S w w') (hs : ∀ j, S j → j = rb) : Pe w' rb T z sv :=
  ⟨h.wd.frS k (fun j hj => by rw [hs j hj]; exact h.gl), h.gl, by
    obtain ⟨a, c, h1, h2⟩ := h.tk
    exact ⟨a, c, h1, fun i t hi => (h2 i t hi).fr k (fun j hj hS => hj (hs j hS))⟩, h.len, h.zz, h.tb⟩
theorem Pe.now {w w' : World} {rb z : Nat} {T : List Tk} {sv : Value} {B : Base} {L : Heap} (h : Pe w rb T z sv) (hx : (w, fun j => j = rb) ∈ B) (hw : St B L w') : Pe w' rb T z sv := h.fr (hw.fr _ hx) (fun _ h => h)
theorem Pe.no {w w' : World} {rb z : Nat} {T : List Tk} {sv : Value} {B : Base} {L : Heap} (h : Pe w rb T z sv) (hx : (w, No) ∈ B) (hw : St B L w') : Pe w' rb T z sv := h.fr (hw.fr _ hx) (fun _ h => h.elim)
theorem nowT_b {w : World} {rb z k : Nat} {T : List Tk} {sv : Value} (h : Pe w rb T z sv) : (nowT z (T.drop k)).2.1.length ≤ 10000000 ∧ (nowT z (T.drop k)).2.2 ≤ 10000000 := by
  cases hd : T.drop k with
  | nil => exact ⟨by simp [nowT], h.zz⟩
  | cons t l => exact h.tb t (List.mem_of_mem_drop (hd ▸ List.mem_cons_self))
theorem now_lt {T : List Tk} {k z : Nat} (h : (nowT z (T.drop k)).1 ≠ 0) : k < T.length := by
  rcases Nat.lt_or_ge k T.length with h' | h'
  · exact h'
  rw [show T.drop k = [] from List.drop_eq_nil_of_le h'] at h; exact absurd rfl h
theorem drop_tl {T : List Tk} {k : Nat} : (T.drop k).tail = T.drop (k + 1) := by rw [List.tail_drop]
theorem isW_lt {x : Str} {T : List Tk} {k : Nat} (h : isW x (T.drop k) = true) : k < T.length := by have := isW_pos h; rw [List.length_drop] at this; omega
theorem named_lt {T : List Tk} {k : Nat} (h : named (T.drop k) = true) : k < T.length := by have := named_pos h; rw [List.length_drop] at this; omega
theorem now_ok (rb k o z : Nat) (T : List Tk) (sv : Value) (w : World) (hP : Pe w rb T z sv) (hb : w.heap[rb]? = some (Ro sv z k o)) (hk : k ≤ T.length) :
    Ret Tryz.prog 128 #[pX rb] w (fun v w' => v = .agg (tkC (nowT z (T.drop k))).toArray ∧ Ext w w') := by
  have hlen := hP.len
  obtain ⟨a, c, rfl, htk⟩ := hP.tk
  refine enter (S := No) (l := [_]) (L := []) 28 Tryz.func128 rfl rfl rfl (St.start w No) (yA (zA zr141 (fun t2b gt2b ut2b => yB (zq (zq (c_draw mixed (by kernel_rfl) (mP rfl (zI rfl (zf fa143_1 rfl (zl z3 rfl (fun _ h => cel_oldb hb zm0 (fun x => x) rfl h) (mP rfl (zI rfl (zf fa143_0 rfl (zl z137 rfl (fun _ h => cel_oldb hb zm0 (fun x => x) rfl h) (jj sl137 rfl (jl rfl rfl (yB ?_))))))))))))))))); refine zD rfl (fun h2 => ?_) (fun h2 => ?_)
  · have hlt : k < T.length := (by omega); obtain ⟨b1, o1, rfl, hne, hc1⟩ := htk k _ (List.getElem?_eq_getElem hlt)
    refine zq (c_tail 10 mixed (by kernel_rfl) (mP rfl (zI rfl (zf fa143_0 rfl (zl z137 rfl (fun _ h => cel_oldb hb zm0 (fun x => x) rfl h) (mP rfl (zI rfl (zf fa143_1 rfl (zl z3 rfl (fun _ h => cel_oldb hb zm0 (fun x => x) rfl h) (zg (fun _ => R_iaN (i := k) sl137 rfl rfl (by omega)) (w_loadC (l := tkC T[k]) z141 rfl rfl (fun w h j v hj => cel_old zm0 (hc1 j v hj) (fun x => x) h) (w_tailst 0 rfl z141 rfl rfl rfl rfl rfl rfl rfl (zk (ze (zt ((r_fin (.inl rfl) rfl (.agg rfl rfl z141 (fun _ h => h.at_ 0 rfl) rfl .nil) ?_))))))))))))))))); exact fun w' hw => ⟨by rw [List.drop_eq_getElem_cons hlt]; rfl, hw.f0⟩
  refine zi (zk (yA (mP rfl (zI rfl (zf fa143_2 rfl (zl z3 rfl (fun _ h => cel_oldb hb zm0 (fun x => x) rfl h) (jb bt141 rfl (jv 0 z141 rfl (yB (ze (r_fin (.inl rfl) rfl (.agg rfl rfl z141 (fun _ h => h.at_ 0 rfl) rfl .nil) ?_))))))))))); exact fun w' hw => ⟨by rw [show T.drop k = [] from List.drop_eq_nil_of_le (by omega)]; rfl, hw.f0⟩
theorem is_ok (x : Str) (hx : x ≠ []) (rb k o z : Nat) (T : List Tk) (sv : Value) (w : World) (hP : Pe w rb T z sv) (hb : w.heap[rb]? = some (Ro sv z k o)) (hk : k ≤ T.length) :
    Ret Tryz.prog 153 #[pX rb, str x] w (fun v w' => v = .bool (isW x (T.drop k)) ∧ Ext w w') := by
  refine enter (S := No) (l := [_, _]) (L := []) 21 Tryz.func153 rfl rfl rfl (St.start w No) (yA (aB rfl (yC (mP rfl (jD Tryz.func128 (fun w h => now_ok rb k o z T sv w (hP.no zm0 h) (h.old hb zm0 (fun x => x)) hk) (zA zr141 (fun t5b gt5b ut5b => jv 0 z141 rfl (yC (zf fa141_0 rfl (jM 0 z5 rfl (jn rfl rfl (mB rfl ?_)))))))))))); refine zd (t := 11) rfl (fun h2 => ?_) (fun h2 => ?_)
  · refine zw rfl rfl (bT h2) (zf fa141_1 rfl (zw rfl rfl (bT h2) (jM 0 z9 rfl (zw rfl rfl (bT h2) (zm (v := str _) rfl (zw rfl rfl (bT h2) (js rfl rfl (jT (bT h2) rfl (mB rfl ?_))))))))); refine zd (t := 17) rfl (fun h3 => ?_) (fun h3 => ?_)
    · refine zw rfl rfl (bT h3) (zm (v := str _) rfl (zw rfl rfl (bT h3) (zg (fun _ => R_sne rfl rfl) (jT (bT h3) rfl (aB rfl (yB (ze (zo (v := .bool _) rfl rfl rfl ?_)))))))); exact fun w' hw => ⟨by rw [isW_now hx z]; simp_all [nc_eql], hw.f0⟩
    refine zs rfl rfl (bF h3) (zs rfl rfl (bF h3) (jF (bF h3) rfl (aB rfl (yB (ze (zo (v := .bool _) rfl rfl rfl ?_)))))); exact fun w' hw => ⟨by rw [isW_now hx z]; simp_all [nc_eql], hw.f0⟩
  refine zs rfl rfl (bF h2) (zs rfl rfl (bF h2) (zs rfl rfl (bF h2) (zs rfl rfl (bF h2) (jF (bF h2) rfl (mB rfl ?_))))); (iterate 2 refine zs rfl rfl rfl ?_); refine jF rfl rfl (aB rfl (yB (ze (zo (v := .bool _) rfl rfl rfl ?_)))); exact fun w' hw => ⟨by rw [isW_now hx z]; simp_all [nc_eql], hw.f0⟩
theorem named_ok (rb k o z : Nat) (T : List Tk) (sv : Value) (w : World) (hP : Pe w rb T z sv) (hb : w.heap[rb]? = some (Ro sv z k o)) (hk : k ≤ T.length) :
    Ret Tryz.prog 167 #[pX rb] w (fun v w' => v = .bool (named (T.drop k)) ∧ Ext w w') := by
  have hnb := nowT_b (k := k) hP
  refine enter (S := No) (l := [_]) (L := []) 14 Tryz.func167 rfl rfl rfl (St.start w No) (yA (aB rfl (yC (mP rfl (jD Tryz.func128 (fun w h => now_ok rb k o z T sv w (hP.no zm0 h) (h.old hb zm0 (fun x => x)) hk) (zA zr141 (fun t3b gt3b ut3b => jv 0 z141 rfl (yC (zf fa141_0 rfl (jM 0 z5 rfl (je rfl rfl (mB rfl ?_)))))))))))); refine zd (t := 9) rfl (fun h2 => ?_) (fun h2 => ?_)
  · refine zw rfl rfl (bT h2) (zf fa141_1 rfl (zw rfl rfl (bT h2) (jM 0 z9 rfl (zw rfl rfl (bT h2) (jD Tryz.func94 (fun w h => Name_spec (nowT z (T.drop k)).2.1 hnb.1 w (hP.no zm0 h).wd) (jT (bT h2) rfl (aB rfl (yB (ze (zo (v := .bool _) rfl rfl rfl ?_)))))))))); exact fun w' hw => ⟨by rw [named_now z]; simp_all [nc_eql], hw.f0⟩
  refine zs rfl rfl (bF h2) (zs rfl rfl (bF h2) (zs rfl rfl (bF h2) (jF (bF h2) rfl (aB rfl (yB (ze (zo (v := .bool _) rfl rfl rfl ?_))))))); exact fun w' hw => ⟨by rw [named_now z]; simp_all [nc_eql], hw.f0⟩
theorem fail_ok (e : Nat) (rb k o z : Nat) (T : List Tk) (sv : Value) (w : World) (hP : Pe w rb T z sv) (hb : w.heap[rb]? = some (Ro sv z k o)) (hk : k ≤ T.length) :
    RetP Tryz.prog 108 #[pX rb, .int .i64 (e : Nat)] w (fun _ _ => False) (fun ch w' => ch = pan (e, place z (T.drop k)) ∧ Ext w w') := by
  refine enterP (S := No) (l := [_, _]) (L := []) 10 Tryz.func108 rfl rfl rfl (St.start w No) (zr (mI rfl (mP rfl (jD Tryz.func128 (fun w h => now_ok rb k o z T sv w (hP.no zm0 h) (h.old hb zm0 (fun x => x)) hk) (zg (fun _ => R_fieldA fd141_2 z3 rfl rfl) (jb bt37 rfl (zg (fun _ => R_mkI cn37 rfl) (w_halt (fun w => R_panic rfl) rfl ?_)))))))); exact fun w' hw => p_out rfl ⟨by rw [place_now]; rfl, hw.f0⟩
theorem deeper_ok (rb k o z : Nat) (T : List Tk) (sv : Value) (w : World) (hP : Pe w rb T z sv) (hb : w.heap[rb]? = some (Ro sv z k o)) (hk : k ≤ T.length) (ho : o ≤ 64) :
    RetP Tryz.prog 154 #[pX rb] w (fun v w' => o < 64 ∧ Fr (fun j => j = rb) w w' ∧ w'.heap[rb]? = some (Ro sv z k (o + 1))) (fun ch w' => ¬ o < 64 ∧ ch = pan (131, place z (T.drop k)) ∧ Fr (fun j => j = rb) w w') := by
  refine enterP (S := (fun j => j = rb)) (l := [_]) (L := [(rb, Ro sv z k o)]) 16 Tryz.func154 rfl rfl rfl (St.start1 w hb rfl) (yA (mP rfl (zI rfl (zf fa143_3 rfl (jM 0 z3 rfl (ji rfl rfl (by omega) (zI rfl (zf fa143_3 rfl (jv 0 z3 rfl (yC (mP rfl (zI rfl (zf fa143_3 rfl (jM 0 z3 rfl (jg rfl rfl (yB ?_)))))))))))))))); refine zD rfl (fun h1 => ?_) (fun h1 => ?_)
  · refine zr (mP rfl (w_callP (R := fun _ _ _ => False) (E := fun w ch w' => ch = pan (131, place z (T.drop (k))) ∧ Ext w w') (fun w => zR Tryz.func108 rfl rfl rfl) rfl rfl (fun w h => fail_ok 131 rb (k) (o + 1) z T sv w (hP.now zm0 h) (h.at_ 0 rfl) (by omega)) (fun w hw v w' h => h.elim) (fun w hw ch w' hh a ha => ?_)))
    exact p_out ha ⟨by omega, hh.1, (hw.f0).ext hh.2⟩
  refine zi (k_p (.inr rfl) (r_none (.inr rfl) rfl ?_)); exact fun w' hw => ⟨by omega, hw.f0, hw.at_ 0 rfl⟩
theorem take_ok (x : Str) (hx : x ≠ []) (rb k o z : Nat) (T : List Tk) (sv : Value) (w : World) (hP : Pe w rb T z sv) (hb : w.heap[rb]? = some (Ro sv z k o)) (hk : k ≤ T.length) (ho : o ≤ 64) (hcl : closeB x = true → isW x (T.drop k) = true → 0 < o) :
    RetP Tryz.prog 130 #[pX rb, str x] w (TR rb (isW x (T.drop k)) (openB x = true → o < 64) (Ro sv z k o) (Ro sv z (k + 1) (upo x o)) w) (TE rb (isW x (T.drop k)) (openB x = true → o < 64) (pan (131, place z (T.drop k))) w) := by
  have hlen := hP.len
  refine enterP (S := (fun j => j = rb)) (l := [_, _]) (L := [(rb, Ro sv z k o)]) 34 Tryz.func130 rfl rfl rfl (St.start1 w hb rfl) (yA (aB rfl (yB (zq (yA (mP rfl (zm (v := str _) rfl (jD Tryz.func153 (fun w h => is_ok x hx rb k o z T sv w (hP.now zm0 h) (h.at_ 0 rfl) hk) (jk rfl (yB ?_)))))))))); refine c_condN rfl (fun h1 => ?_) (fun h1 => ?_)
  · refine yA (aB rfl (yB (ze (zt ((k_p (.inl rfl) (zo (v := .bool _) rfl rfl rfl ?_))))))); exact fun w' hw => ⟨hw.f0, .inl ⟨h1, rfl, hw.at_ 0 rfl⟩⟩
  have hi := h1; have hlt := isW_lt hi
  refine zi (zk (zq (yA (zm (v := str _) rfl (yB (zB (zq (yA (js rfl rfl (aB rfl (yB ?_))))))))))); refine zD rfl (fun h2 => ?_) (fun h2 => ?_)
  · have hop : openB x = true := (by rw [h2]; rfl)
    refine zi (zk (zE (bT h2) (zr (mP rfl ?_)))); refine w_callP (R := fun w v w' => o < 64 ∧ Fr (fun j => j = rb) w w' ∧ w'.heap[rb]? = some (Ro sv z k (o + 1))) (E := fun w ch w' => ¬ o < 64 ∧ ch = pan (131, place z (T.drop k)) ∧ Fr (fun j => j = rb) w w') (fun w => zR Tryz.func154 rfl rfl rfl) rfl rfl (fun w h => deeper_ok rb k o z T sv w (hP.now zm0 h) (h.at_ 0 rfl) hk ho) ?_ (fun w hw ch w' hh a ha => p_out ha ⟨hi, (fun hl => hh.1 (hl hop)), hh.2.1, (hw.f0).row1 hh.2.2 rfl⟩)
    refine fun w hw v w' h => ⟨_, _, hw.mod 0 rfl h.2.1 h.2.2, ?_⟩
    have ho2 : o < 64 := h.1
    refine zn (zO (zk (yA (mP rfl (zI rfl (zf fa143_1 rfl (jM 0 z3 rfl (ji rfl rfl (by omega) (zI rfl (zf fa143_1 rfl (jv 0 z3 rfl (yC (aB rfl (yB (ze (k_p (.inl rfl) (zo (v := .bool _) rfl rfl rfl ?_))))))))))))))))); exact fun w' hw => ⟨hw.f0, .inr ⟨hi, fun _ => ho2, rfl, by have := hw.at_ 0 rfl; rwa [show upo x o = o + 1 by unfold upo; rw [if_pos hop]]⟩⟩
  refine yA (js rfl rfl (aB rfl (yB ?_))); refine zD rfl (fun h3 => ?_) (fun h3 => ?_)
  · have hop : openB x = true := (by rw [h3]; rfl)
    refine zi (zk (zE (bT h3) (zr (mP rfl ?_)))); refine w_callP (R := fun w v w' => o < 64 ∧ Fr (fun j => j = rb) w w' ∧ w'.heap[rb]? = some (Ro sv z k (o + 1))) (E := fun w ch w' => ¬ o < 64 ∧ ch = pan (131, place z (T.drop k)) ∧ Fr (fun j => j = rb) w w') (fun w => zR Tryz.func154 rfl rfl rfl) rfl rfl (fun w h => deeper_ok rb k o z T sv w (hP.now zm0 h) (h.at_ 0 rfl) hk ho) ?_ (fun w hw ch w' hh a ha => p_out ha ⟨hi, (fun hl => hh.1 (hl hop)), hh.2.1, (hw.f0).row1 hh.2.2 rfl⟩)
    refine fun w hw v w' h => ⟨_, _, hw.mod 0 rfl h.2.1 h.2.2, ?_⟩
    have ho2 : o < 64 := h.1
    refine zn (zO (zk (yA (mP rfl (zI rfl (zf fa143_1 rfl (jM 0 z3 rfl (ji rfl rfl (by omega) (zI rfl (zf fa143_1 rfl (jv 0 z3 rfl (yC (aB rfl (yB (ze (k_p (.inl rfl) (zo (v := .bool _) rfl rfl rfl ?_))))))))))))))))); exact fun w' hw => ⟨hw.f0, .inr ⟨hi, fun _ => ho2, rfl, by have := hw.at_ 0 rfl; rwa [show upo x o = o + 1 by unfold upo; rw [if_pos hop]]⟩⟩
  refine zr (js rfl rfl (aB rfl (yB ?_))); refine zD rfl (fun h4 => ?_) (fun h4 => ?_)
  · have hop : openB x = true := (by rw [h4]; rfl)
    refine zr (mP rfl ?_); refine w_callP (R := fun w v w' => o < 64 ∧ Fr (fun j => j = rb) w w' ∧ w'.heap[rb]? = some (Ro sv z k (o + 1))) (E := fun w ch w' => ¬ o < 64 ∧ ch = pan (131, place z (T.drop k)) ∧ Fr (fun j => j = rb) w w') (fun w => zR Tryz.func154 rfl rfl rfl) rfl rfl (fun w h => deeper_ok rb k o z T sv w (hP.now zm0 h) (h.at_ 0 rfl) hk ho) ?_ (fun w hw ch w' hh a ha => p_out ha ⟨hi, (fun hl => hh.1 (hl hop)), hh.2.1, (hw.f0).row1 hh.2.2 rfl⟩)
    refine fun w hw v w' h => ⟨_, _, hw.mod 0 rfl h.2.1 h.2.2, ?_⟩
    have ho2 : o < 64 := h.1
    refine zn (zO (zk (yA (mP rfl (zI rfl (zf fa143_1 rfl (jM 0 z3 rfl (ji rfl rfl (by omega) (zI rfl (zf fa143_1 rfl (jv 0 z3 rfl (yC (aB rfl (yB (ze (k_p (.inl rfl) (zo (v := .bool _) rfl rfl rfl ?_))))))))))))))))); exact fun w' hw => ⟨hw.f0, .inr ⟨hi, fun _ => ho2, rfl, by have := hw.at_ 0 rfl; rwa [show upo x o = o + 1 by unfold upo; rw [if_pos hop]]⟩⟩
  refine zq (yA (js rfl rfl (aB rfl (yB ?_)))); refine zD rfl (fun h5 => ?_) (fun h5 => ?_)
  · have hcb : closeB x = true := (by rw [h5]; rfl); obtain ⟨o2, rfl⟩ : ∃ o2, o = o2 + 1 := ⟨o - 1, by have := hcl hcb hi; omega⟩
    refine zi (zk (zE (bT h5) (zr (mP rfl (zI rfl (zf fa143_3 rfl (jM 0 z3 rfl (zg (fun _ => R_subN1 (n := o2) rfl rfl (by omega)) (zI rfl (zf fa143_3 rfl (jv 0 z3 rfl (zn (zO (zk (yA (mP rfl (zI rfl (zf fa143_1 rfl (jM 0 z3 rfl (ji rfl rfl (by omega) (zI rfl (zf fa143_1 rfl (jv 0 z3 rfl (yC (aB rfl (yB (ze (k_p (.inl rfl) (zo (v := .bool _) rfl rfl rfl ?_))))))))))))))))))))))))))))); exact fun w' hw => ⟨hw.f0, .inr ⟨hi, (fun h => by simp_all [openB]), rfl, by have := hw.at_ 0 rfl; rwa [show upo x (o2 + 1) = o2 by unfold upo; rw [if_neg (by simp_all [openB]), if_pos hcb]; rfl]⟩⟩
  refine yA (js rfl rfl (aB rfl (yB ?_))); refine zD rfl (fun h6 => ?_) (fun h6 => ?_)
  · have hcb : closeB x = true := (by rw [h6]; rfl); obtain ⟨o2, rfl⟩ : ∃ o2, o = o2 + 1 := ⟨o - 1, by have := hcl hcb hi; omega⟩
    refine zi (zk (zE (bT h6) (zr (mP rfl (zI rfl (zf fa143_3 rfl (jM 0 z3 rfl (zg (fun _ => R_subN1 (n := o2) rfl rfl (by omega)) (zI rfl (zf fa143_3 rfl (jv 0 z3 rfl (zn (zO (zk (yA (mP rfl (zI rfl (zf fa143_1 rfl (jM 0 z3 rfl (ji rfl rfl (by omega) (zI rfl (zf fa143_1 rfl (jv 0 z3 rfl (yC (aB rfl (yB (ze (k_p (.inl rfl) (zo (v := .bool _) rfl rfl rfl ?_))))))))))))))))))))))))))))); exact fun w' hw => ⟨hw.f0, .inr ⟨hi, (fun h => by simp_all [openB]), rfl, by have := hw.at_ 0 rfl; rwa [show upo x (o2 + 1) = o2 by unfold upo; rw [if_neg (by simp_all [openB]), if_pos hcb]; rfl]⟩⟩
  refine zr (js rfl rfl (aB rfl (yB ?_))); refine zD rfl (fun h7 => ?_) (fun h7 => ?_)
  · have hcb : closeB x = true := (by rw [h7]; rfl); obtain ⟨o2, rfl⟩ : ∃ o2, o = o2 + 1 := ⟨o - 1, by have := hcl hcb hi; omega⟩
    refine zr (mP rfl (zI rfl (zf fa143_3 rfl (jM 0 z3 rfl (zg (fun _ => R_subN1 (n := o2) rfl rfl (by omega)) (zI rfl (zf fa143_3 rfl (jv 0 z3 rfl (zn (zO (zk (yA (mP rfl (zI rfl (zf fa143_1 rfl (jM 0 z3 rfl (ji rfl rfl (by omega) (zI rfl (zf fa143_1 rfl (jv 0 z3 rfl (yC (aB rfl (zn (zk (ze (k_p (.inl rfl) (zo (v := .bool _) rfl rfl rfl ?_))))))))))))))))))))))))))); exact fun w' hw => ⟨hw.f0, .inr ⟨hi, (fun h => by simp_all [openB]), rfl, by have := hw.at_ 0 rfl; rwa [show upo x (o2 + 1) = o2 by unfold upo; rw [if_neg (by simp_all [openB]), if_pos hcb]; rfl]⟩⟩
  refine zi (zO (zk (yA (mP rfl (zI rfl (zf fa143_1 rfl (jM 0 z3 rfl (ji rfl rfl (by omega) (zI rfl (zf fa143_1 rfl (jv 0 z3 rfl (yC (aB rfl (yB (ze (k_p (.inl rfl) (zo (v := .bool _) rfl rfl rfl ?_))))))))))))))))); exact fun w' hw => ⟨hw.f0, .inr ⟨hi, (fun h => by simp_all [openB]), rfl, by have := hw.at_ 0 rfl; rwa [show upo x o = o by unfold upo; rw [if_neg (by simp_all [openB]), if_neg (by simp_all [closeB])]]⟩⟩
theorem wants_deep {z o : Nat} {x : Str} {xs : List Str} {ts : List Tk} (h : isW x ts = true) (hl : ¬ (openB x = true → o < 64)) : wants z o (x :: xs) ts = .error (131, place z ts) := by
  rw [wants, if_pos h, if_pos ⟨by false_or_by_contra; rename_i hh; exact hl (fun h => absurd h hh), fun ho => hl (fun _ => ho)⟩]
theorem wants_step {z o : Nat} {x : Str} {xs : List Str} {ts : List Tk} (h : isW x ts = true) (hl : openB x = true → o < 64) : wants z o (x :: xs) ts = wants z (upo x o) xs ts.tail := by
  rw [wants, if_pos h, if_neg (fun hh => hh.2 (hl hh.1))]
theorem wants_no {z o : Nat} {x : Str} {xs : List Str} {ts : List Tk} (h : isW x ts = false) : wants z o (x :: xs) ts = .error (130, place z ts) := by
  rw [wants, if_neg (by rw [h]; exact Bool.false_ne_true)]
theorem upo_le {x : Str} {o : Nat} (h : o ≤ 64) (hl : openB x = true → o < 64) : upo x o ≤ 64 := by
  unfold upo
  split
  · rename_i hx; have := hl hx; omega
  split <;> omega
theorem map_at {xs : List Str} {i : Nat} {x : Str} (h : xs[i]? = some x) : (xs.map str)[0 + i * 1]? = some (str x) := by rw [Nat.zero_add, Nat.mul_one, List.getElem?_map, h]; rfl
theorem want_ok (rb k o z : Nat) (T : List Tk) (sv : Value) (w : World) (hP : Pe w rb T z sv) (hb : w.heap[rb]? = some (Ro sv z k o)) (hk : k ≤ T.length) (ho : o ≤ 64) (xs : List Str) (hxs : ∀ x ∈ xs, x ≠ []) (sb : Nat) (hs : w.heap[sb]? = some (cel (xs.map str) 9)) (hsb : sb ≠ rb) (hn : xs.length ≤ 100) (hcl : xs.any closeB = true → xs.length = 1 ∧ 0 < o) :
    RetP Tryz.prog 131 #[pX rb, .slice (some ⟨sb, 0, none⟩) xs.length xs.length] w (PRs T (fun k' => Ro sv z k' (upos o xs)) rb (k + xs.length) (fun _ => .tuple #[]) (wants z o xs (T.drop k)) w) (PE pan rb (wants z o xs (T.drop k)) w) := by
  have hlen := hP.len
  refine enterP (S := (fun j => j = rb)) (l := [_, _]) (L := [(rb, Ro sv z k o)]) 19 Tryz.func131 rfl rfl rfl (St.start1 w hb rfl) (yA (mS rfl (jj sl153 rfl (mI rfl (yB (zB (c_loop (fun m e B L => ∃ (i k' o' : Nat), e 0 = pX rb ∧ e 6 = .slice (some ⟨sb, 0, none⟩) xs.length xs.length ∧ e 7 = .int .i64 (xs.length : Nat) ∧ e 8 = .int .i64 (i : Nat) ∧ B = [(w, (fun j => j = rb))] ∧ L = [(rb, Ro sv z k' o')] ∧ i ≤ xs.length ∧ k + i ≤ k' ∧ k' ≤ T.length ∧ o' ≤ 64 ∧ wants z o xs (T.drop k) = wants z o' (xs.drop i) (T.drop k') ∧ ((xs.drop i).any closeB = true → (xs.drop i).length = 1 ∧ 0 < o') ∧ upos o xs = upos o' (xs.drop i) ∧ m = xs.length - i) _ ⟨0, k, o, rfl, rfl, rfl, rfl, rfl, rfl, Nat.zero_le _, Nat.le_refl _, hk, ho, rfl, hcl, rfl, rfl⟩ ?_)))))))
  rintro m e B L ⟨i, k', o', e0_1, e6_1, e7_1, e8_1, rfl, rfl, hi, hkk, hk', ho', hw, hc, hu, rfl⟩
  refine yA (jl e8_1 e7_1 (yB (zq ?_))); refine zD rfl (fun h1 => ?_) (fun h1 => ?_)
  · have hlt0 : i < xs.length := (by omega); obtain ⟨x0, hx0i⟩ : ∃ x0, xs[i]? = some x0 := ⟨_, List.getElem?_eq_getElem hlt0⟩; have hx0 : x0 ≠ [] := hxs x0 (List.mem_of_getElem? hx0i); have hd0 : xs.drop i = x0 :: xs.drop (i + 1) := (by rw [List.drop_eq_getElem_cons hlt0, (List.getElem?_eq_some_iff.1 hx0i).2]); have hw0 := hw; rw [hd0] at hw0; have hx0s := map_at hx0i; have hc0 : closeB x0 = true → isW x0 (T.drop k') = true → 0 < o' := (fun h _ => (hc (by rw [hd0, List.any_cons, h, Bool.true_or])).2)
    refine zi (zk (zq (zB (yA (zg (fun _ => R_iaN (i := i) sl153 e6_1 e8_1 (by omega)) (zl (v := str x0) z9 rfl (fun _ h => cel_oldb hs zm0 hsb hx0s h) (za (v := str _) rfl (yC (mP e0_1 (zm (v := str _) rfl ?_)))))))))); refine w_take (b := isW x0 (T.drop k')) (lim := openB x0 = true → o' < 64) (o2 := Ro sv z (k' + 1) (upo x0 o')) (ch0 := pan (131, place z (T.drop k'))) 0 rfl zm0 rfl (fun w => zR Tryz.func130 rfl rfl rfl) rfl rfl (fun w h => take_ok x0 hx0 rb k' o' z T sv w (hP.now zm0 h) (h.at_ 0 rfl) (by omega) ho' hc0) (fun w' hi hl hf a ha => p_out ha ⟨_, hw0.trans (wants_deep hi hl), by simp, rfl, hf⟩) ?_ ?_
    · intro hi hl; have hlt := isW_lt hi
      refine jk rfl (yB (zG rfl (zi (zO (zk (zr (ji e8_1 rfl (by omega) (mI rfl (zn ?_))))))))); exact k_again _ (by omega) ⟨i + 1, k' + 1, upo x0 o', e0_1, e6_1, e7_1, rfl, rfl, rfl, by omega, by omega, by omega, upo_le ho' hl, (by rw [hw0, wants_step hi hl, drop_tl]), (fun h => by have := hc (by rw [hd0, List.any_cons, h, Bool.or_true]); rw [hd0, List.length_cons] at this; have h0 : xs.drop (i + 1) = [] := List.length_eq_zero_iff.1 (by omega); rw [h0] at h; cases h), (by rw [hu, hd0]; rfl), rfl⟩
    intro hi
    refine jk rfl (yB (zE rfl (zr (mP e0_1 (w_callP (R := fun _ _ _ => False) (E := fun w ch w' => ch = pan (130, place z (T.drop (k'))) ∧ Ext w w') (fun w => zR Tryz.func108 rfl rfl rfl) rfl rfl (fun w h => fail_ok 130 rb (k') (o') z T sv w (hP.now zm0 h) (h.at_ 0 rfl) (by omega)) (fun w hw v w' h => h.elim) (fun w hw ch w' hh a ha => ?_))))))
    exact p_out ha ⟨_, hw0.trans (wants_no hi), by simp, hh.1, (hw.f0).ext hh.2⟩
  refine zX (zx (zx (b_here rfl ((k_p (.inr rfl) (r_none (.inr rfl) rfl ?_)))))); exact fun w' hw2 => ⟨_, k', (by rw [hw, List.drop_eq_nil_of_le (by omega), wants]), by omega, hk', rfl, hw2.fr _ zm0, by have := hw2.at_ 0 rfl; rwa [show upos o xs = o' by rw [hu, List.drop_eq_nil_of_le (by omega)]; rfl]⟩
theorem name_ok (rb k o z : Nat) (T : List Tk) (sv : Value) (w : World) (hP : Pe w rb T z sv) (hb : w.heap[rb]? = some (Ro sv z k o)) (hk : k ≤ T.length) (ho : o ≤ 64) :
    RetP Tryz.prog 157 #[pX rb] w (PRs T (fun k' => Ro sv z k' o) rb (k + 1) str (nameX z (T.drop k)) w) (PE pan rb (nameX z (T.drop k)) w) := by
  have hlen := hP.len
  obtain ⟨a, c, hsv, htk⟩ := hP.tk
  refine enterP (S := (fun j => j = rb)) (l := [_]) (L := [(rb, Ro sv z k o)]) 27 Tryz.func157 rfl rfl rfl (St.start1 w hb rfl) (yA (za (v := str _) rfl (yB (zq (yA (mP rfl (jD Tryz.func167 (fun w h => named_ok rb k o z T sv w (hP.now zm0 h) (h.at_ 0 rfl) hk) (jk rfl (yB ?_))))))))); refine c_condN rfl (fun h1 => ?_) (fun h1 => ?_)
  · refine zr (mP rfl (w_callP (R := fun _ _ _ => False) (E := fun w ch w' => ch = pan (130, place z (T.drop (k))) ∧ Ext w w') (fun w => zR Tryz.func108 rfl rfl rfl) rfl rfl (fun w h => fail_ok 130 rb (k) (o) z T sv w (hP.now zm0 h) (h.at_ 0 rfl) (by omega)) (fun w hw v w' h => h.elim) (fun w hw ch w' hh a ha => ?_)))
    exact p_out ha ⟨_, if_neg (by rw [h1]; exact Bool.false_ne_true), by simp, hh.1, (hw.f0).ext hh.2⟩
  have hlt := named_lt h1; obtain ⟨b1, o1, rfl, hne, hc1⟩ := htk k _ (List.getElem?_eq_getElem hlt); subst hsv; have htx : txt (T.drop k) = T[k].2.1 := (by rw [List.drop_eq_getElem_cons hlt]; rfl); have hcx : w.cell? ⟨b1, o1 + k * 3 + 1, none⟩ = some (str (txt (T.drop k))) := (by rw [htx]; exact hc1 1 _ rfl)
  refine zi (zk (yA (mP rfl (zI rfl (zf fa143_1 rfl (jM 0 z3 rfl (ji rfl rfl (by omega) (zI rfl (zf fa143_1 rfl (jv 0 z3 rfl (yB (zq (c_draw mixed (by kernel_rfl) (mP rfl (zI rfl (zf fa143_0 rfl (jM 0 z137 rfl (mP rfl (zI rfl (zf fa143_1 rfl (jM 0 z3 rfl (zg (fun _ => R_subN1 (n := k) rfl rfl (by omega)) (zg (fun _ => R_iaN (i := k) sl137 rfl rfl (by omega)) (zf fa141_1 rfl (zl (v := str (txt (T.drop k))) z9 rfl (fun _ h => cel_old zm0 hcx hne h) (za (v := str (txt (T.drop k))) rfl (yB (ze (k_p (.inl rfl) (zo (v := str (txt (T.drop k))) rfl rfl rfl ?_)))))))))))))))))))))))))))))); exact fun w' hw => ⟨_, k + 1, (by rw [nameX, if_pos h1, drop_tl]), Nat.le_refl _, hlt, rfl, hw.f0, hw.at_ 0 rfl⟩
theorem take_w (x : Str) (hx : x ≠ []) (h1 : openB x = false) (h2 : closeB x = false) (rb k o z : Nat) (T : List Tk) (sv : Value) (w : World) (hP : Pe w rb T z sv) (hb : w.heap[rb]? = some (Ro sv z k o)) (hk : k ≤ T.length) (ho : o ≤ 64) :
    RetP Tryz.prog 130 #[pX rb, str x] w (TR rb (isW x (T.drop k)) True (Ro sv z k o) (Ro sv z (k + 1) o) w) (TE rb (isW x (T.drop k)) True (pan (131, place z (T.drop k))) w) := by
  have hu : upo x o = o := by unfold upo; rw [h1, h2]; rfl
  have := take_ok x hx rb k o z T sv w hP hb hk ho (fun h => by rw [h2] at h; cases h)
  rw [hu] at this
  refine this.mono (fun v w' h => ⟨h.1, h.2.imp (fun h => h) (fun h => ⟨h.1, trivial, h.2.2.1, h.2.2.2⟩)⟩) (fun ch w' h => (h.2.1 (fun h3 => by rw [h1] at h3; cases h3)).elim)
theorem take_op (x : Str) (hx : x ≠ []) (h1 : openB x = true) (rb k o z : Nat) (T : List Tk) (sv : Value) (w : World) (hP : Pe w rb T z sv) (hb : w.heap[rb]? = some (Ro sv z k o)) (hk : k ≤ T.length) (ho : o ≤ 64) :
    RetP Tryz.prog 130 #[pX rb, str x] w (TR rb (isW x (T.drop k)) (o < 64) (Ro sv z k o) (Ro sv z (k + 1) (o + 1)) w) (TE rb (isW x (T.drop k)) (o < 64) (pan (131, place z (T.drop k))) w) := by
  have hu : upo x o = o + 1 := by unfold upo; rw [if_pos h1]
  have h2 : closeB x = true → False := fun h => by
    simp only [openB, closeB, Bool.or_eq_true, decide_eq_true_eq] at h1 h
    rcases h1 with (rfl | rfl) | rfl <;> rcases h with (h | h) | h <;> cases h
  have := take_ok x hx rb k o z T sv w hP hb hk ho (fun h => (h2 h).elim)
  rw [hu] at this
  refine this.mono (fun v w' h => ⟨h.1, h.2.imp (fun h => h) (fun h => ⟨h.1, h.2.1 h1, h.2.2.1, h.2.2.2⟩)⟩) (fun ch w' h => ⟨h.1, fun hl => h.2.1 (fun _ => hl), h.2.2.1, h.2.2.2⟩)
theorem want_to {o : Nat} {xs : List Str} (o2 : Nat) (hu : upos o xs = o2) (rb k : Nat) (o' z : Nat) (T : List Tk) (sv : Value) (w : World) (hP : Pe w rb T z sv) (hb : w.heap[rb]? = some (Ro sv z k o')) (hk : k ≤ T.length) (ho : o' ≤ 64) (xs' : List Str) (hxs : ∀ x ∈ xs', x ≠ []) (sb : Nat) (hs : w.heap[sb]? = some (cel (xs'.map str) 9)) (hsb : sb ≠ rb) (hn : xs'.length ≤ 100) (hcl : xs'.any closeB = true → xs'.length = 1 ∧ 0 < o') (e1 : o' = o := by rfl) (e2 : xs' = xs := by rfl) :
    RetP Tryz.prog 131 #[pX rb, .slice (some ⟨sb, 0, none⟩) xs'.length xs'.length] w (PRs T (fun k' => Ro sv z k' o2) rb (k + xs'.length) (fun _ => .tuple #[]) (wants z o' xs' (T.drop k)) w) (PE pan rb (wants z o' xs' (T.drop k)) w) := by
  subst e1; subst e2; subst hu
  exact want_ok rb k o' z T sv w hP hb hk ho xs' hxs sb hs hsb hn hcl
end Go.Proofs.YtoehjlmdnajibaaGreatDoor
end
