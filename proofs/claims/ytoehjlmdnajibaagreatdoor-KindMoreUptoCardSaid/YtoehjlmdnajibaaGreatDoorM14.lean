/- Layer 15, KindMore: an expression's kind does not hang on a variable whose name does not stand in it, nor on the places, but for that of a fault; in the Upto form. Part 14 of 16. -/
import Derived.Test.YtoehjlmdnajibaaGreatDoorM13
set_option maxRecDepth 100000
set_option maxHeartbeats 16000000
section
namespace Go.Proofs.YtoehjlmdnajibaaGreatDoor
open Go.RowKit Go.Sx
open Go.Tok Go.Tree Go.Knd Go.Prs

def refD (o : Option (Nat × Nat × Bool)) : Value := .tuple #[.int .i64 ((o.map fun d => ((d.1 : Nat) : Int)).getD (-1)), .int .i64 ((o.map (·.2.1)).getD 0 : Nat), .bool ((o.map (·.2.2)).getD false)]
abbrev srcP (s : Str) : List Bk := (resOf (List.replicate 6 noBk) (parseP s)).1
abbrev srcF (s : Str) : Fl := (resOf (List.replicate 6 noBk) (parseP s)).2
def faultS (s : Str) : Ft := if (srcF s).1 = 0 then (outV (allK (srcP s))).2 else ((srcF s).1, ((srcF s).2 : Int))

theorem fault_ok (s : Str) (hs : s.length ≤ 10000000) (hp : ∀ b ∈ srcP s, bkW b < 10000000) (w : World) (hW : Wd w) (hng : 4 ≤ w.heap.size) :
  Ret Tryz.prog 24 #[str s] w (fun v w' => v = .agg (ftC (faultS s)).toArray ∧ Ext w w') := by
 refine enter (S := No) (l := [_]) (L := []) 16 Tryz.func24 rfl rfl rfl (St.start w No) (yA (zA zr37 (fun t2b gt2b ut2b => yC (zm (v := str _) rfl (zP (fun w => zR Tryz.func44 rfl rfl rfl) rfl rfl (fun w h => Parse_ok s hs w (hW.now zm0 h) (Nat.le_trans hng (h.fr _ zm0).size)) ?_)))))
 rintro w1 hw1 v w2 ⟨cs, rfl, hM, hne, hxx⟩; refine ⟨_, _, (hw1.ext hxx).base1, ?_⟩; have hK : Kt (w2, inL [_]) w.heap.size pgM (srcP s) cs := Kt.new hM TL.pg hw1 (hw1.fr _ zm0).size; have hcl : cs.length = 18 := hK.len; clear hM hne
 refine zm rfl (zg (fun _ => R_extract rfl rfl) (zg (fun _ => R_extract rfl rfl) (zA zr32 (fun t3b gt3b ut3b => zA zr37 (fun t4b gt4b ut4b => w_storeW cs 1 rfl z32 rfl rfl rfl hcl (pg_one hK) rfl (zV 0 rfl z37 rfl rfl rfl rfl rfl rfl rfl (yB (zq (yA (zf fa37_0 rfl (zL 0 z35 rfl rfl rfl (zg (fun _ => R_ne rfl rfl) (yB ?_))))))))))))); refine zD rfl (fun h4 => ?_) (fun h4 => ?_)
 ·refine yA (zY z37 rfl (fun _ h => h.at_ 0 rfl) rfl (zV 2 rfl z37 rfl rfl rfl rfl rfl rfl rfl (yB (ze (zt ((r_fin (.inl rfl) rfl (.agg rfl rfl z37 (fun _ h => h.at_ 2 rfl) rfl .nil) ?_))))))); exact fun w' hw => ⟨by unfold faultS; rw [if_neg (show ¬ (srcF s).1 = 0 by show ¬ (resOf (List.replicate 6 noBk) (parseP s)).2.1 = 0; omega)]; rfl, hw.fr _ zm1⟩
 ·refine zi (zk (yA (w_loadW z32 rfl (fun w h => h.at_ 1 rfl) hcl (zC (fun w => zR Tryz.func14 rfl rfl rfl) rfl rfl (fun w h => kCheck_ok (srcP s) cs w hp (hK.T TL.pg zm0 h) (hW.now zm1 h)) (zV 2 rfl z37 rfl rfl rfl rfl rfl rfl rfl (yB (ze (r_fin (.inl rfl) rfl (.agg rfl rfl z37 (fun _ h => h.at_ 2 rfl) rfl .nil) ?_)))))))); exact fun w' hw => ⟨by unfold faultS; rw [if_pos (show (srcF s).1 = 0 by show (resOf (List.replicate 6 noBk) (parseP s)).2.1 = 0; omega)]; rfl, hw.fr _ zm1⟩

theorem fault0 (w : World) (hW : Wd w) (hng : 4 ≤ w.heap.size) : Ret Tryz.prog 24 #[str [112, 97, 114, 97, 109, 101, 116, 101, 114, 115, 32, 123, 32, 114, 101, 97, 108, 32, 120, 59, 32, 125, 32, 109, 111, 100, 101, 108, 32, 123, 32, 105, 102, 32, 40, 120, 32, 61, 61, 32, 49, 41, 32, 123, 32, 125, 32, 125]] w fun v w' => v = .agg #[.int .i64 152, .int .i64 35] ∧ Ext w w' := by
 have h := fault_ok [112, 97, 114, 97, 109, 101, 116, 101, 114, 115, 32, 123, 32, 114, 101, 97, 108, 32, 120, 59, 32, 125, 32, 109, 111, 100, 101, 108, 32, 123, 32, 105, 102, 32, 40, 120, 32, 61, 61, 32, 49, 41, 32, 123, 32, 125, 32, 125] (by decide) (by decide +kernel) w hW hng
 rw [show faultS [112, 97, 114, 97, 109, 101, 116, 101, 114, 115, 32, 123, 32, 114, 101, 97, 108, 32, 120, 59, 32, 125, 32, 109, 111, 100, 101, 108, 32, 123, 32, 105, 102, 32, 40, 120, 32, 61, 61, 32, 49, 41, 32, 123, 32, 125, 32, 125] = (152, 35) by kernel_rfl] at h
 exact h

theorem fault1 (w : World) (hW : Wd w) (hng : 4 ≤ w.heap.size) : Ret Tryz.prog 24 #[str [112, 97, 114, 97, 109, 101, 116, 101, 114, 115, 32, 123, 32, 114, 101, 97, 108, 32, 120, 59, 32, 125, 32, 109, 111, 100, 101, 108, 32, 123, 32, 120, 32, 126, 32, 110, 111, 114, 109, 97, 108, 40, 48, 44, 32, 121, 41, 59, 32, 125]] w fun v w' => v = .agg #[.int .i64 150, .int .i64 45] ∧ Ext w w' := by
 have h := fault_ok [112, 97, 114, 97, 109, 101, 116, 101, 114, 115, 32, 123, 32, 114, 101, 97, 108, 32, 120, 59, 32, 125, 32, 109, 111, 100, 101, 108, 32, 123, 32, 120, 32, 126, 32, 110, 111, 114, 109, 97, 108, 40, 48, 44, 32, 121, 41, 59, 32, 125] (by decide) (by decide +kernel) w hW hng
 rw [show faultS [112, 97, 114, 97, 109, 101, 116, 101, 114, 115, 32, 123, 32, 114, 101, 97, 108, 32, 120, 59, 32, 125, 32, 109, 111, 100, 101, 108, 32, 123, 32, 120, 32, 126, 32, 110, 111, 114, 109, 97, 108, 40, 48, 44, 32, 121, 41, 59, 32, 125] = (150, 45) by kernel_rfl] at h
 exact h

theorem fault2 (w : World) (hW : Wd w) (hng : 4 ≤ w.heap.size) : Ret Tryz.prog 24 #[str [100, 97, 116, 97, 32, 123, 32, 105, 110, 116, 32, 110, 59, 32, 114, 101, 97, 108, 32, 110, 59, 32, 125]] w fun v w' => v = .agg #[.int .i64 151, .int .i64 14] ∧ Ext w w' := by
 have h := fault_ok [100, 97, 116, 97, 32, 123, 32, 105, 110, 116, 32, 110, 59, 32, 114, 101, 97, 108, 32, 110, 59, 32, 125] (by decide) (by decide +kernel) w hW hng
 rw [show faultS [100, 97, 116, 97, 32, 123, 32, 105, 110, 116, 32, 110, 59, 32, 114, 101, 97, 108, 32, 110, 59, 32, 125] = (151, 14) by kernel_rfl] at h
 exact h

theorem fault3 (w : World) (hW : Wd w) (hng : 4 ≤ w.heap.size) : Ret Tryz.prog 24 #[str [112, 97, 114, 97, 109, 101, 116, 101, 114, 115, 32, 123, 32, 118, 101, 99, 116, 111, 114, 91, 50, 93, 32, 120, 59, 32, 125, 32, 109, 111, 100, 101, 108, 32, 123, 32, 116, 97, 114, 103, 101, 116, 32, 43, 61, 32, 120, 59, 32, 125]] w fun v w' => v = .agg #[.int .i64 152, .int .i64 46] ∧ Ext w w' := by
 have h := fault_ok [112, 97, 114, 97, 109, 101, 116, 101, 114, 115, 32, 123, 32, 118, 101, 99, 116, 111, 114, 91, 50, 93, 32, 120, 59, 32, 125, 32, 109, 111, 100, 101, 108, 32, 123, 32, 116, 97, 114, 103, 101, 116, 32, 43, 61, 32, 120, 59, 32, 125] (by decide) (by decide +kernel) w hW hng
 rw [show faultS [112, 97, 114, 97, 109, 101, 116, 101, 114, 115, 32, 123, 32, 118, 101, 99, 116, 111, 114, 91, 50, 93, 32, 120, 59, 32, 125, 32, 109, 111, 100, 101, 108, 32, 123, 32, 116, 97, 114, 103, 101, 116, 32, 43, 61, 32, 120, 59, 32, 125] = (152, 46) by kernel_rfl] at h
 exact h

theorem fault4 (w : World) (hW : Wd w) (hng : 4 ≤ w.heap.size) : Ret Tryz.prog 24 #[str [112, 97, 114, 97, 109, 101, 116, 101, 114, 115, 32, 123, 32, 114, 101, 97, 108, 32, 120, 59, 32, 125, 32, 109, 111, 100, 101, 108, 32, 123, 32, 120, 32, 126, 32, 110, 111, 114, 109, 97, 108, 40, 48, 44, 32, 49, 41, 59, 32, 125]] w fun v w' => v = .agg #[.int .i64 0, .int .i64 0] ∧ Ext w w' := by
 have h := fault_ok [112, 97, 114, 97, 109, 101, 116, 101, 114, 115, 32, 123, 32, 114, 101, 97, 108, 32, 120, 59, 32, 125, 32, 109, 111, 100, 101, 108, 32, 123, 32, 120, 32, 126, 32, 110, 111, 114, 109, 97, 108, 40, 48, 44, 32, 49, 41, 59, 32, 125] (by decide) (by decide +kernel) w hW hng
 rw [show faultS [112, 97, 114, 97, 109, 101, 116, 101, 114, 115, 32, 123, 32, 114, 101, 97, 108, 32, 120, 59, 32, 125, 32, 109, 111, 100, 101, 108, 32, 123, 32, 120, 32, 126, 32, 110, 111, 114, 109, 97, 108, 40, 48, 44, 32, 49, 41, 59, 32, 125] = (0, 0) by kernel_rfl] at h
 exact h

theorem disc_p (w : World) : Ret Tryz.prog 10 #[str [112, 111, 105, 115, 115, 111, 110]] w fun v w' => v = .tuple #[.int .i64 1, .bool true, .bool true] ∧ Ext w w' := Discrete_ok [112, 111, 105, 115, 115, 111, 110] w
theorem disc_x (w : World) : Ret Tryz.prog 10 #[str [120]] w fun v w' => v = .tuple #[.int .i64 0, .bool false, .bool false] ∧ Ext w w' := Discrete_ok [120] w

theorem head15_ok (w : World) (hW : Wd w) (hng : 4 ≤ w.heap.size) :
  Ret Tryz.prog 9 #[] w (fun v w' => v = .bool true ∧ Ext w w') := by
 refine enter (S := No) (l := []) (L := []) 54 Tryz.func9 rfl rfl rfl (St.start w No) (yA (aB rfl (yC (zC (fun w => zR Tryz.func10 rfl rfl rfl) rfl rfl (fun w h => disc_p w) (zm rfl (zg (fun _ => R_extract rfl rfl) (zg (fun _ => R_extract rfl rfl) (zg (fun _ => R_extract rfl rfl) (aI rfl (aB rfl (aB rfl (yC (zC (fun w => zR Tryz.func10 rfl rfl rfl) rfl rfl (fun w h => disc_x w) (zm rfl (zg (fun _ => R_extract rfl rfl) (zg (fun _ => R_extract rfl rfl) (zg (fun _ => R_extract rfl rfl) (aI rfl (aB rfl (aB rfl (yC (zC (fun w => zR Tryz.func24 rfl rfl rfl) rfl rfl (fun w h => fault0 w (hW.now zm0 h) (Nat.le_trans hng (h.fr _ zm0).size)) (zg (fun _ => R_build bt37 rfl) (zg (fun _ => R_eqS fl37 rfl rfl (eq2_run (n := 9998) fl37 z35 z3 un35 un3)) (mB rfl ?_))))))))))))))))))))))))); refine zp (t := 20) rfl (fun h1 => ?_) (fun h1 => ?_)
 ·refine zw rfl rfl (bV h1) (zC (fun w => zR Tryz.func24 rfl rfl rfl) rfl rfl (fun w h => fault1 w (hW.now zm0 h) (Nat.le_trans hng (h.fr _ zm0).size)) (zw rfl rfl (bV h1) (zg (fun _ => R_build bt37 rfl) (zw rfl rfl (bV h1) (zg (fun _ => R_eqS fl37 rfl rfl (eq2_run (n := 9998) fl37 z35 z3 un35 un3)) (zg (v := .bool _) (fun _ => zT (bV h1) rfl) (mB rfl ?_))))))); refine zp (t := 25) rfl (fun h2 => ?_) (fun h2 => ?_)
  ·refine zw rfl rfl (bV h2) (zC (fun w => zR Tryz.func24 rfl rfl rfl) rfl rfl (fun w h => fault2 w (hW.now zm0 h) (Nat.le_trans hng (h.fr _ zm0).size)) (zw rfl rfl (bV h2) (zg (fun _ => R_build bt37 rfl) (zw rfl rfl (bV h2) (zg (fun _ => R_eqS fl37 rfl rfl (eq2_run (n := 9998) fl37 z35 z3 un35 un3)) (zg (v := .bool _) (fun _ => zT (bV h2) rfl) (mB rfl ?_))))))); refine zp (t := 30) rfl (fun h3 => ?_) (fun h3 => ?_)
   ·refine zw rfl rfl (bV h3) (zC (fun w => zR Tryz.func24 rfl rfl rfl) rfl rfl (fun w h => fault3 w (hW.now zm0 h) (Nat.le_trans hng (h.fr _ zm0).size)) (zw rfl rfl (bV h3) (zg (fun _ => R_build bt37 rfl) (zw rfl rfl (bV h3) (zg (fun _ => R_eqS fl37 rfl rfl (eq2_run (n := 9998) fl37 z35 z3 un35 un3)) (zg (v := .bool _) (fun _ => zT (bV h3) rfl) (mB rfl ?_))))))); refine zp (t := 35) rfl (fun h4 => ?_) (fun h4 => ?_)
    ·refine zw rfl rfl (bV h4) (zC (fun w => zR Tryz.func24 rfl rfl rfl) rfl rfl (fun w h => fault4 w (hW.now zm0 h) (Nat.le_trans hng (h.fr _ zm0).size)) (zw rfl rfl (bV h4) (zg (fun _ => R_build bt37 rfl) (zw rfl rfl (bV h4) (zg (fun _ => R_eqS fl37 rfl rfl (eq2_run (n := 9998) fl37 z35 z3 un35 un3)) (zg (v := .bool _) (fun _ => zT (bV h4) rfl) (mB rfl ?_))))))); refine zp (t := 40) rfl (fun h5 => ?_) (fun h5 => ?_)
     ·refine zw rfl rfl (bV h5) (mI rfl (zw rfl rfl (bV h5) (zg (fun _ => R_eq rfl rfl) (zg (v := .bool _) (fun _ => zT (bV h5) rfl) (mB rfl ?_))))); refine zd (t := 44) rfl (fun h6 => ?_) (fun h6 => ?_)
      ·refine zw rfl rfl (bT h6) (mB rfl (zg (v := .bool _) (fun _ => zT (bT h6) rfl) (mB rfl ?_))); refine zp (t := 47) rfl (fun h7 => ?_) (fun h7 => ?_)
       ·refine zw rfl rfl (bV h7) (mB rfl (zg (v := .bool _) (fun _ => zT (bV h7) rfl) (mB rfl ?_))); refine zp (t := 50) rfl (fun h8 => ?_) (fun h8 => ?_)
        ·refine zw rfl rfl (bV h8) (mB rfl (zw rfl rfl (bV h8) (zg (fun _ => R_not rfl) (zg (v := .bool _) (fun _ => zT (bV h8) rfl) (aB rfl (yB (ze (zo (v := .bool _) rfl rfl rfl ?_)))))))); exact fun w' hw => ⟨rfl, hw.fr _ zm0⟩
        ·exact absurd h8 (by decide)
       ·exact absurd h7 (by decide)
      ·exact absurd (by rfl) h6
     ·exact absurd h5 (by decide)
    ·exact absurd h4 (by decide)
   ·exact absurd h3 (by decide)
  ·exact absurd h2 (by decide)
 ·exact absurd h1 (by decide)

end Go.Proofs.YtoehjlmdnajibaaGreatDoor
end

section
namespace Go.Proofs.YtoehjlmdnajibaaGreatDoor
open Go.RowKit Go.Sx
open Go.Tok Go.Tree


def RNodesP (n : Nat) : Prop := ∀ (l : List Ex) (a : Option Addr) (c : Nat) (N : Nat → Prop) (w : World), exsW l < n → l.length ≤ 10000000 → exsM w N l a 0 →
    Ret Tryz.prog 37 #[.slice a l.length c] w fun v w' => v = .int .i64 (exsN l : Nat) ∧ Ext w w'
def RLongP (n : Nat) : Prop := ∀ (l : List Ex) (a : Option Addr) (c : Nat) (N : Nat → Prop) (w : World), exsW l < n → l.length ≤ 10000000 → exsM w N l a 0 →
    Ret Tryz.prog 29 #[.slice a l.length c] w fun v w' => v = .bool (exsLong l) ∧ Ext w w'

theorem rnodes_step (n : Nat) (ih : RNodesP n) (hN : n ≤ 10000000) (l : List Ex) (a : Option Addr) (c : Nat) (N : Nat → Prop) (w : World) (hl : exsW l < n + 1) (hll : l.length ≤ 10000000) (hm : exsM w N l a 0) :
    Ret Tryz.prog 37 #[.slice a l.length c] w (fun v w' => v = .int .i64 (exsN l : Nat) ∧ Ext w w') := by
  refine enter (S := No) (l := [_]) (L := []) 21 Tryz.func37 rfl rfl rfl (St.start w No) (yA (aI rfl (yC (aI rfl (yB (zq (yA (aI rfl (yB (zB (c_loop (fun m e B L => ∃ (k : Nat), e 0 = .slice a l.length c ∧ e 3 = .int .i64 (exsN (l.take k) : Nat) ∧ e 4 = .int .i64 (k : Nat) ∧ B = [(w, No)] ∧ L = [] ∧ k ≤ l.length ∧ m = l.length - k) _ ⟨0, rfl, rfl, rfl, rfl, rfl, Nat.zero_le _, rfl⟩ ?_)))))))))))
  rintro m e B L ⟨k, e0_1, e3_1, e4_1, rfl, rfl, hk, rfl⟩
  refine zq (yA (mI e4_1 (mS e0_1 (zg (fun _ => R_len sl47 rfl) (zg (fun _ => R_lt rfl rfl) (yB ?_)))))); refine zD rfl (fun h1 => ?_) (fun h1 => ?_)
  · have hlt : k < l.length := (by omega); obtain ⟨x, hxk⟩ : ∃ x, l[k]? = some x := ⟨_, List.getElem?_eq_getElem hlt⟩; obtain ⟨cs, hA, hE⟩ := hm.get0 hxk; have hxn := exsW_mem (List.mem_of_getElem? hxk); have hle := exsN_take l (k + 1); have hnx := exsN_next hxk; have hlN := exsN_le l; obtain ⟨b1, o1, rfl⟩ := hA.ptr; obtain ⟨op, at_, nm, ks⟩ := x; have hE2 := hE; unfold exM at hE2; obtain ⟨ka, kc, rfl, hkc, hks⟩ := hE2; have hxw := hxn; unfold exW at hxw; have hxN := hnx; unfold exN at hxN; have hkN := exsN_le ks
    refine zi (zk (zq (zB (zr (mI e3_1 (zg (fun _ => R_addi rfl rfl (by omega)) (mS e0_1 (mI e4_1 (zg (fun _ => R_iaN (i := k) sl47 rfl rfl (by omega)) (zf fa52_3 rfl (zl z47 rfl (fun _ h => hA.cell (fun _ _ hh => hh) zm0 h 3 _ rfl) (zC (fun w => zR Tryz.func37 rfl rfl rfl) rfl rfl (fun w h => ih ks ka kc N w (by omega) (by omega) (hks.now (fun _ _ hh => hh) zm0 h)) (zg (fun _ => R_addi rfl rfl (by omega)) (aI rfl (zn (zO (zk (zr (mI e4_1 (zg (fun _ => R_addi rfl rfl (by omega)) (aI rfl (zn ?_))))))))))))))))))))))
    have hfin : ((exsN (l.take k) : Nat) : Int) + 1 + ((exsN ks : Nat) : Int) = ((exsN (l.take (k + 1)) : Nat) : Int) := by omega
    exact k_again _ (by omega) ⟨k + 1, e0_1, (congrArg (Value.int .i64) hfin), rfl, rfl, rfl, by omega, rfl⟩
  · refine zX (zx (zx (b_here rfl (zk (yA (mI e3_1 (aI rfl (yB (ze (zo (v := .int _ _) rfl rfl rfl ?_)))))))))); exact fun w' hw => ⟨by rw [List.take_of_length_le (by omega)], hw.fr _ zm0⟩


theorem rnodes_all : ∀ n : Nat, n ≤ 10000000 → RNodesP n
  | 0, _ => fun _ _ _ _ _ h => absurd h (Nat.not_lt_zero _)
  | n + 1, h => rnodes_step n (rnodes_all n (by omega)) (by omega)
theorem rnodes_ok : RNodesP 10000000 := rnodes_all _ (Nat.le_refl _)

theorem rlong_step (n : Nat) (ih : RLongP n) (hN : n ≤ 10000000) (l : List Ex) (a : Option Addr) (c : Nat) (N : Nat → Prop) (w : World) (hl : exsW l < n + 1) (hll : l.length ≤ 10000000) (hm : exsM w N l a 0) :
    Ret Tryz.prog 29 #[.slice a l.length c] w (fun v w' => v = .bool (exsLong l) ∧ Ext w w') := by
  refine enter (S := No) (l := [_]) (L := []) 25 Tryz.func29 rfl rfl rfl (St.start w No) (yA (aB rfl (yB (zq (yA (aI rfl (yB (zB (c_loop (fun m e B L => ∃ (k : Nat), e 0 = .slice a l.length c ∧ e 3 = .int .i64 (k : Nat) ∧ B = [(w, No)] ∧ L = [] ∧ k ≤ l.length ∧ (∀ y ∈ l.take k, exLong y = false) ∧ m = l.length - k) _ ⟨0, rfl, rfl, rfl, rfl, Nat.zero_le _, (by simp), rfl⟩ ?_)))))))))
  rintro m e B L ⟨k, e0_1, e3_1, rfl, rfl, hk, hy, rfl⟩
  refine zq (yA (mI e3_1 (mS e0_1 (zg (fun _ => R_len sl47 rfl) (zg (fun _ => R_lt rfl rfl) (yB ?_)))))); refine zD rfl (fun h1 => ?_) (fun h1 => ?_)
  · have hlt : k < l.length := (by omega); obtain ⟨x, hxk⟩ : ∃ x, l[k]? = some x := ⟨_, List.getElem?_eq_getElem hlt⟩; obtain ⟨cs, hA, hE⟩ := hm.get0 hxk; have hxn := exsW_mem (List.mem_of_getElem? hxk); have hle := exsN_take l (k + 1); have hnx := exsN_next hxk; have hlN := exsN_le l; obtain ⟨b1, o1, rfl⟩ := hA.ptr; obtain ⟨op, at_, nm, ks⟩ := x; have hE2 := hE; unfold exM at hE2; obtain ⟨ka, kc, rfl, hkc, hks⟩ := hE2; have hxw := hxn; unfold exW at hxw; have hxN := hnx; unfold exN at hxN; have hkN := exsN_le ks
    refine zi (zk (zq (zB (yA (mS e0_1 (mI e3_1 (zg (fun _ => R_iaN (i := k) sl47 rfl rfl (by omega)) (zf fa52_2 rfl ?_)))))))); refine zl z9 rfl (fun _ h => by exact hA.cell (fun _ _ hh => hh) zm0 h 2 _ rfl) ?_; refine zg (fun _ => R_slen st9 rfl (by omega)) (zg (fun _ => R_gt rfl rfl) (mB rfl ?_)); refine zd (t := 17) rfl (fun h2 => ?_) (fun h2 => ?_)
    · refine zs rfl rfl (bT h2) (zs rfl rfl (bT h2) (zs rfl rfl (bT h2) (zs rfl rfl (bT h2) (zs rfl rfl (bT h2) (zs rfl rfl (bT h2) (zg (v := .bool _) (fun _ => zT (bT h2) rfl) (yB (zE rfl (yA (aB rfl (yB (ze (zb (zt (zt (zb (zt ((zo (v := .bool _) rfl rfl rfl ?_))))))))))))))))))); exact fun w' hw => ⟨by rw [exsLong_any]; (rw [any_yes hxk (by (try clear ih hm hA hE hks hw hl hxn hle hnx hxN hxw hy hlN hkN e0_1 e3_1); simp only [exLong]; grind)]; done), hw.fr _ zm0⟩
    · refine zw rfl rfl (bF h2) (mS e0_1 (zw rfl rfl (bF h2) (mI e3_1 (zw rfl rfl (bF h2) (zg (fun _ => R_iaN (i := k) sl47 rfl rfl (by omega)) (zw rfl rfl (bF h2) (zf fa52_3 rfl (zw rfl rfl (bF h2) ?_)))))))); refine zl z47 rfl (fun _ h => by exact hA.cell (fun _ _ hh => hh) zm0 h 3 _ rfl) ?_; refine zw rfl rfl (bF h2) (zC (fun w => zR Tryz.func29 rfl rfl rfl) rfl rfl (fun w h => ih ks ka kc N w (by omega) (by omega) (hks.now (fun _ _ hh => hh) zm0 h)) (zg (v := .bool _) (fun _ => zF (bF h2) rfl) (yB ?_))); refine c_cond rfl (fun h3 => ?_) (fun h3 => ?_)
      · refine yA (aB rfl (yB (ze (zb (zt (zt (zb (zt ((zo (v := .bool _) rfl rfl rfl ?_)))))))))); exact fun w' hw => ⟨by rw [exsLong_any]; (rw [any_yes hxk (by (try clear ih hm hA hE hks hw hl hxn hle hnx hxN hxw hy hlN hkN e0_1 e3_1); simp only [exLong]; grind)]; done), hw.fr _ zm0⟩
      · refine zi (zO (zk (zr (mI e3_1 (zg (fun _ => R_addi rfl rfl (by omega)) (aI rfl (zn ?_))))))); exact k_again _ (by omega) ⟨k + 1, e0_1, rfl, rfl, rfl, by omega, take_all hy hxk (by (try clear ih hm hA hE hks hl hxn hle hnx hxN hxw hy hlN hkN e0_1 e3_1); simp only [exLong]; grind), rfl⟩
  · refine zX (zx (zx (b_here rfl (zk (yA (aB rfl (yB (ze (zo (v := .bool _) rfl rfl rfl ?_))))))))); exact fun w' hw => ⟨by rw [exsLong_any]; (rw [any_of_take hy (by omega)]; done), hw.fr _ zm0⟩


theorem rlong_all : ∀ n : Nat, n ≤ 10000000 → RLongP n
  | 0, _ => fun _ _ _ _ _ h => absurd h (Nat.not_lt_zero _)
  | n + 1, h => rlong_step n (rlong_all n (by omega)) (by omega)
theorem rlong_ok : RLongP 10000000 := rlong_all _ (Nat.le_refl _)
def RNodesOfP (n : Nat) : Prop := ∀ (l : List Sm) (a : Option Addr) (c : Nat) (N : Nat → Prop) (w : World), smsW l < n → l.length ≤ 10000000 → smsM w N l a 0 →
    Ret Tryz.prog 45 #[.slice a l.length c] w fun v w' => v = .int .i64 (smsN l : Nat) ∧ Ext w w'
def RLongOfP (n : Nat) : Prop := ∀ (l : List Sm) (a : Option Addr) (c : Nat) (N : Nat → Prop) (w : World), smsW l < n → l.length ≤ 10000000 → smsM w N l a 0 →
    Ret Tryz.prog 28 #[.slice a l.length c] w fun v w' => v = .bool (smsLong l) ∧ Ext w w'

end Go.Proofs.YtoehjlmdnajibaaGreatDoor
end

section
namespace Go.Proofs.YtoehjlmdnajibaaGreatDoor
open Go.RowKit Go.Sx
open Go.Tok Go.Tree
theorem exsM_one {w : World} {N : Nat → Prop} {b : Nat} {x : Ex} {cx : List Value} (hN : N b) (h : w.heap[b]? = some (cel cx 52)) (hx : exM w N x cx) : exsM w N [x] (some ⟨b, 0, none⟩) 0 := by
  unfold exsM
  refine ⟨⟨cx, ⟨b, 0, rfl, hN, fun j v hj => ?_⟩, hx⟩, by unfold exsM; trivial⟩
  simp only [World.cell?, h]
  simp [cel, hj]


mutual
theorem exM.any {w : World} {N : Nat → Prop} : ∀ (e : Ex) (cs : List Value), exM w N e cs → exM w (fun _ => True) e cs
  | .mk op at_ nm ks, cs, h => by
    unfold exM at h ⊢
    obtain ⟨a, c, h1, h2, h3⟩ := h
    exact ⟨a, c, h1, h2, exsM.any ks a 0 h3⟩
theorem exsM.any {w : World} {N : Nat → Prop} : ∀ (l : List Ex) (a : Option Addr) (i : Nat), exsM w N l a i → exsM w (fun _ => True) l a i
  | [], _, _, _ => by unfold exsM; trivial
  | e :: l, a, i, h => by
    unfold exsM at h ⊢
    obtain ⟨⟨cs, ⟨b, o, ha, hb, hc⟩, h2⟩, h3⟩ := h
    exact ⟨⟨cs, ⟨b, o, ha, trivial, hc⟩, exM.any e cs h2⟩, exsM.any l a (i + 4) h3⟩
end

theorem exsN_one (x : Ex) : exsN [x] = exN x := by unfold exsN exsN; omega
theorem exsLong_one (x : Ex) : exsLong [x] = exLong x := by unfold exsLong exsLong; rw [Bool.or_false]

theorem exsW_one (x : Ex) : exsW [x] = exW x := by unfold exsW exsW; omega
theorem rnodes_one {op : Nat} {at_ : Int} {nm : Str} {ks : List Ex} {ka : Option Addr} {kc : Nat} {N : Nat → Prop} (b : Nat) (w : World) (hx : exW (Ex.mk op at_ nm ks) < 10000000) (hb : w.heap[b]? = some (cel [.int .u8 (op : Nat), .int .i64 at_, str nm, .slice ka ks.length kc] 52)) (hm : exM w N (Ex.mk op at_ nm ks) [.int .u8 (op : Nat), .int .i64 at_, str nm, .slice ka ks.length kc]) :
    Ret Tryz.prog 37 #[.slice (some ⟨b, 0, none⟩) 1 1] w fun v w' => v = .int .i64 (exN (Ex.mk op at_ nm ks) : Nat) ∧ Ext w w' :=
by rw [← exsN_one]; exact rnodes_ok [(Ex.mk op at_ nm ks)] (some ⟨b, 0, none⟩) 1 _ w (by rw [exsW_one]; exact hx) (show (1 : Nat) ≤ 10000000 by decide) (exsM_one (N := fun _ => True) trivial hb (exM.any _ _ hm))
theorem rlong_one {op : Nat} {at_ : Int} {nm : Str} {ks : List Ex} {ka : Option Addr} {kc : Nat} {N : Nat → Prop} (b : Nat) (w : World) (hx : exW (Ex.mk op at_ nm ks) < 10000000) (hb : w.heap[b]? = some (cel [.int .u8 (op : Nat), .int .i64 at_, str nm, .slice ka ks.length kc] 52)) (hm : exM w N (Ex.mk op at_ nm ks) [.int .u8 (op : Nat), .int .i64 at_, str nm, .slice ka ks.length kc]) :
    Ret Tryz.prog 29 #[.slice (some ⟨b, 0, none⟩) 1 1] w fun v w' => v = .bool (exLong (Ex.mk op at_ nm ks)) ∧ Ext w w' :=
by rw [← exsLong_one]; exact rlong_ok [(Ex.mk op at_ nm ks)] (some ⟨b, 0, none⟩) 1 _ w (by rw [exsW_one]; exact hx) (show (1 : Nat) ≤ 10000000 by decide) (exsM_one (N := fun _ => True) trivial hb (exM.any _ _ hm))

theorem SmallExpr_spec (x : Ex) (cs : List Value) (N : Nat → Prop) (w : World) (hx : exW x < 10000000) (hm : exM w N x cs) :
    Ret Tryz.prog 19 #[.agg cs.toArray] w (fun v w' => v = .bool (exSmall x) ∧ Ext w w') := by
  obtain ⟨op, at_, nm, ks⟩ := x
  have hm2 := hm
  unfold exM at hm2
  obtain ⟨ka, kc, rfl, hkc, hks⟩ := hm2
  have hx2 := hx
  unfold exW at hx2
  refine enter (S := No) (l := [_]) (L := []) 13 Tryz.func19 rfl rfl rfl (St.start w No) (yA (w_boxA rfl (fun t1b gt1b ut1b => aB rfl (yC (zY z52 rfl (fun _ h => h.at_ 0 rfl) rfl (zS slt47 (by decide) rfl rfl (fun b2 gb2 ub2 => zC (fun w => zR Tryz.func37 rfl rfl rfl) rfl rfl (fun w h => rnodes_one _ w hx (h.at_ 0 rfl) (hm.now (fun _ _ hh => hh) zm0 h)) (zg (fun _ => R_le rfl rfl) (mB rfl ?_))))))))); refine zd (t := 7) rfl (fun h3 => ?_) (fun h3 => ?_)
  · refine zw rfl rfl (bT h3) (zY z52 rfl (fun _ h => h.at_ 1 rfl) rfl (zw rfl rfl (bT h3) (zS slt47 (by decide) rfl rfl (fun b4 gb4 ub4 => zw rfl rfl (bT h3) (zC (fun w => zR Tryz.func29 rfl rfl rfl) rfl rfl (fun w h => rlong_one _ w hx (h.at_ 0 rfl) (hm.now (fun _ _ hh => hh) zm0 h)) (zw rfl rfl (bT h3) (zg (fun _ => R_not rfl) (zg (v := .bool _) (fun _ => zT (bT h3) rfl) (aB rfl (yB (ze (zo (v := .bool _) rfl rfl rfl ?_)))))))))))); exact fun w' hw => ⟨by (try clear hm hks hw gb2 gb4 gt1b ub2 ub4 ut1b); simp only [exSmall]; grind, hw.fr _ zm0⟩
  · refine zs rfl rfl (bF h3) (zs rfl rfl (bF h3) (zs rfl rfl (bF h3) (zs rfl rfl (bF h3) (zg (v := .bool _) (fun _ => zF (bF h3) rfl) (aB rfl (yB (ze (zo (v := .bool _) rfl rfl rfl ?_)))))))); exact fun w' hw => ⟨by (try clear hm hks hw gb2 gt1b ub2 ut1b); simp only [exSmall]; grind, hw.fr _ zm0⟩

end Go.Proofs.YtoehjlmdnajibaaGreatDoor
end

section
open Go.RowKit
namespace Go.Sx
theorem c_heldI {P : Program} {ops : Array Oper} {Q : Exit → Act → World → Prop} {e : Env} {B : Base} {L : Heap} {id : Nat} {n : Nat} {ds : List Deferred} (idx : List Nat) (hm : P.follows .mixedOrders = true) (h : WH P ops ⟨n, ds, none⟩ Q (St B (idx.filterMap fun i => L[i]?)) ops.size (Array.replicate ops.size false) e B L) : WC P ⟨n, ds, none⟩ (.region id ops true) Q e B L := c_held _ hm h
end Go.Sx
namespace Go.Sx
open Go.RowKit
def u8s (ts : List Nat) : List Value := ts.map fun t => .int .u8 (t : Nat)
abbrev OwnU (te : TypeId) (v : Value) (ts : List Nat) (W : Heap) : Prop := Own te 1 v (u8s ts) ts.length W
theorem OwnU.more {te : TypeId} {a : Option Addr} {c : Nat} {ts : List Nat} {t : Nat} {W : Heap} (h : Own te 1 (.slice a (ts.length + 1) c) (u8s ts ++ [.int .u8 (t : Nat)]) (ts.length + 1) W) : OwnU te (.slice a (ts ++ [t]).length c) (ts ++ [t]) W := by
  have e1 : (ts ++ [t]).length = ts.length + 1 := by simp
  have e2 : u8s (ts ++ [t]) = u8s ts ++ [.int .u8 (t : Nat)] := by simp [u8s]
  unfold OwnU; rw [e1, e2]; exact h
theorem OwnU.cell {te : TypeId} {a : Option Addr} {c i : Nat} {ts : List Nat} {W : Heap} (h : OwnU te (.slice a ts.length c) ts W) (hi : i < ts.length) : ∃ b, a = some ⟨b, 0, none⟩ ∧ ∀ (B : Base) (L : Heap) (w : World), (∀ p ∈ W, p ∈ L) → St B L w → ∀ (j t : Nat), ts[j]? = some t → w.cell? ⟨b, j, none⟩ = some (.int .u8 (t : Nat)) := by
  obtain ⟨b, h1, h2⟩ := Own.cell h hi
  exact ⟨b, h1, fun B L w hW hw j t ht => h2 B L w hW hw j _ (by unfold u8s; rw [List.getElem?_map, ht]; rfl)⟩
end Go.Sx
end

section
namespace Go.Knd
open Go.Tok Go.Tree
mutual
def mapA (g : Int → Int) : Ex → Ex
  | .mk op a nm ks => .mk op (g a) nm (mapsA g ks)
def mapsA (g : Int → Int) : List Ex → List Ex
  | [] => []
  | e :: l => mapA g e :: mapsA g l
end
theorem mapA_at (g : Int → Int) (e : Ex) : (mapA g e).at_ = g e.at_ := by obtain ⟨op, a, nm, ks⟩ := e; rw [mapA]; rfl
theorem mapsA_len (g : Int → Int) : ∀ l : List Ex, (mapsA g l).length = l.length
  | [] => by rw [mapsA]
  | e :: l => by rw [mapsA, List.length_cons, List.length_cons, mapsA_len g l]
def mapF {α : Type} (g : Int → Int) : Except Ft α → Except Ft α
  | .ok a => .ok a
  | .error f => .error (f.1, g f.2)
theorem need_mapF (g : Int → Int) (t : Nat) (a : Int) (p : Bool) : needT t (g a) p = mapF g (needT t a p) := by unfold needT; split <;> rfl
theorem rule_mapF (g : Int → Int) (l : List Vr) (op : Nat) (a : Int) (nm : Str) (ks : List Ex) (t u : Nat) (p : Bool) : ruleK l op (g a) nm (mapsA g ks) t u p = mapF g (ruleK l op a nm ks t u p) := by
  unfold ruleK
  by_cases h1 : op = 1
  · rw [if_pos h1, if_pos h1]; exact need_mapF g _ _ _
  · rw [if_neg h1, if_neg h1]
    by_cases h2 : op = 2
    · rw [if_pos h2, if_pos h2]; cases findV l nm <;> rfl
    · rw [if_neg h2, if_neg h2]
      by_cases h3 : op = 3
      · rw [if_pos h3, if_pos h3]
        cases findV l nm with
        | none => rfl
        | some v =>
          dsimp only
          split
          · rfl
          · cases ks with
            | nil => rw [mapsA]; rfl
            | cons k r =>
              rw [mapsA]
              dsimp only
              rw [mapA_at]
              split
              · rfl
              · split
                · rfl
                · exact need_mapF g _ _ _
      · rw [if_neg h3, if_neg h3]
        by_cases h4 : op = 4
        · rw [if_pos h4, if_pos h4, mapsA_len]
          cases callK nm t u with
          | none => rfl
          | some x =>
            dsimp only
            by_cases h5 : ks.length ≠ (if nm = [100, 111, 116] then 2 else 1)
            · rw [if_pos h5, if_pos h5]; rfl
            · rw [if_neg h5, if_neg h5]; exact need_mapF g _ _ _
        · rw [if_neg h4, if_neg h4]
          split
          · exact need_mapF g _ _ _
          · exact need_mapF g _ _ _
mutual
theorem of_mapA (g : Int → Int) (l : List Vr) : ∀ e : Ex, ofK l (mapA g e) = mapF g (ofK l e)
  | .mk op a nm ks => by
    rw [mapA, ofK, ofK, kids_mapA g l ks]
    cases kidsK l ks with
    | error f => rfl
    | ok r => exact rule_mapF g l op a nm ks _ _ _
theorem kids_mapA (g : Int → Int) (l : List Vr) : ∀ ks : List Ex, kidsK l (mapsA g ks) = mapF g (kidsK l ks)
  | [] => by rw [mapsA, kidsK]; rfl
  | e :: r => by
    rw [mapsA, kidsK, kidsK, of_mapA g l e, kids_mapA g l r]
    cases ofK l e with
    | error f => rfl
    | ok k =>
      dsimp only [mapF]
      cases kidsK l r with
      | error f => rfl
      | ok r => rfl
end
mutual
def speaksK (s : Str) : Ex → Bool
  | .mk _ _ nm ks => decide (nm = s) || speaksS s ks
def speaksS (s : Str) : List Ex → Bool
  | [] => false
  | e :: l => speaksK s e || speaksS s l
end
theorem find_more {l : List Vr} {m : Vr} {s : Str} (h : ¬ s = m.nm) : findV (l ++ [m]) s = findV l s := by
  unfold findV
  rw [List.reverse_append, List.reverse_singleton, List.singleton_append, List.find?_cons]
  have : decide (m.nm = s) = false := decide_eq_false (fun h2 => h h2.symm)
  rw [this]
theorem rule_more {l : List Vr} {m : Vr} {op : Nat} {a : Int} {nm : Str} {ks : List Ex} {t u : Nat} {p : Bool} (h : ¬ nm = m.nm) : ruleK (l ++ [m]) op a nm ks t u p = ruleK l op a nm ks t u p := by
  unfold ruleK; rw [find_more h]
mutual
theorem of_more {l : List Vr} {m : Vr} : ∀ e : Ex, speaksK m.nm e = false → ofK (l ++ [m]) e = ofK l e
  | .mk op a nm ks, h => by
    rw [speaksK, Bool.or_eq_false_iff, decide_eq_false_iff_not] at h
    rw [ofK, ofK, kids_more ks h.2]
    cases kidsK l ks with
    | error f => rfl
    | ok r => exact rule_more h.1
theorem kids_more {l : List Vr} {m : Vr} : ∀ ks : List Ex, speaksS m.nm ks = false → kidsK (l ++ [m]) ks = kidsK l ks
  | [], _ => by rw [kidsK, kidsK]
  | e :: r, h => by
    rw [speaksS, Bool.or_eq_false_iff] at h
    rw [kidsK, kidsK, of_more e h.1, kids_more r h.2]
end
end Go.Knd
end

section
namespace Go.Knd
open Go.Tok Go.Tree
mutual
theorem exOk_mapA (g : Int → Int) : ∀ e : Ex, exOk (mapA g e) = exOk e
  | .mk op a nm ks => by rw [mapA, exOk, exOk, mapsA_len, exsOk_mapA g ks]
theorem exsOk_mapA (g : Int → Int) : ∀ l : List Ex, exsOk (mapsA g l) = exsOk l
  | [] => by rw [mapsA]
  | e :: l => by rw [mapsA, exsOk, exsOk, exOk_mapA g e, exsOk_mapA g l]
end
theorem mapsA_snoc (g : Int → Int) : ∀ (l : List Ex) (e : Ex), mapsA g (l ++ [e]) = mapsA g l ++ [mapA g e]
  | [], e => by rw [List.nil_append, mapsA, mapsA, mapsA, List.nil_append]
  | x :: l, e => by rw [List.cons_append, mapsA, mapsA, mapsA_snoc g l e, List.cons_append]
theorem kind_moved (g : Int → Int) (e : Ex) (l : List Vr) (hok : exOk e = true) : kindOf (mapA g e) l = mapF g (kindOf e l) := by
  unfold kindOf
  rw [exOk_mapA, if_pos hok, if_pos hok, of_mapA]
theorem kind_bad (g : Int → Int) (e : Ex) (l : List Vr) (hok : exOk e = false) : kindOf (mapA g e) l = .error (120, 0) ∧ kindOf e l = .error (120, 0) := by
  unfold kindOf
  rw [exOk_mapA, hok]; exact ⟨rfl, rfl⟩
theorem kind_more (e : Ex) (l : List Vr) (m : Vr) (h : speaksK m.nm e = false) : kindOf e (l ++ [m]) = kindOf e l := by
  unfold kindOf
  rw [of_more e h]
theorem speaksS_any (s : Str) : ∀ l : List Ex, speaksS s l = l.any (speaksK s)
  | [] => by rw [speaksS, List.any_nil]
  | e :: l => by rw [speaksS, List.any_cons, speaksS_any s l]
end Go.Knd
end

section
namespace Go.Knd
open Go.Tok Go.Tree
def szS : Str := [115, 105, 122, 101]
def parS (l : List Vr) (nm : Str) : Bool := l.any fun v => decide (v.nm = nm) && v.par
mutual
def hangsK (l : List Vr) : Ex → Bool
  | .mk op _ nm ks => ((decide (op = 2) || decide (op = 3)) && parS l nm) || (!(decide (op = 4) && decide (nm = szS)) && hangsS l ks)
def hangsS (l : List Vr) : List Ex → Bool
  | [] => false
  | e :: r => hangsK l e || hangsS l r
end
mutual
def placesK (l : List Vr) : Ex → Bool
  | .mk op _ _ ks => !(decide (op = 3) && hangsS l ks) && placesS l ks
def placesS (l : List Vr) : List Ex → Bool
  | [] => true
  | e :: r => placesK l e && placesS l r
end
def uniq (l : List Vr) : Prop := ∀ v ∈ l, ∀ u ∈ l, v.nm = u.nm → v = u
theorem need_ok {t : Nat} {a : Int} {p : Bool} {k : Nat × Bool} (h : needT t a p = .ok k) : k.2 = p := by
  unfold needT at h
  split at h
  · cases h
  · cases h; rfl
section
variable {l s : List Vr}
end
end Go.Knd
end

section
namespace Go.Tree
def tb (ts : List Str) : Nat := (ts.map fun s => s.length + 1).sum
def pgW (p : List Bk) : Nat := (p.map bkW).sum
def sp (s : Str) : Str := s ++ (if brk s then [10] else [32])
def setIs (p : List Bk) (i : Nat) (b : Bk) : List Bk := p.set i { b with is := true }
end Go.Tree
end

section
namespace Go.Tree
open Go.Tok
mutual
def exZ : Ex → Ex
  | .mk o _ n k => .mk o 0 n (exsZ k)
def exsZ : List Ex → List Ex
  | [] => []
  | e :: l => exZ e :: exsZ l
end
abbrev PR := Option (Ex × List Str)
mutual
def pSum : Nat → List Str → PR
  | 0, _ => none
  | f + 1, ts => match pProd f ts with | some (e, r) => sumL f e r | none => none
def sumL : Nat → Ex → List Str → PR
  | 0, _, _ => none
  | f + 1, e, ts =>
    if ts.head? = some [43] then (match pProd f ts.tail with | some (k, r) => sumL f (.mk 6 0 [] [e, k]) r | none => none)
    else if ts.head? = some [45] then (match pProd f ts.tail with | some (k, r) => sumL f (.mk 7 0 [] [e, k]) r | none => none)
    else some (e, ts)
def pProd : Nat → List Str → PR
  | 0, _ => none
  | f + 1, ts => match pSign f ts with | some (e, r) => prodL f e r | none => none
def prodL : Nat → Ex → List Str → PR
  | 0, _, _ => none
  | f + 1, e, ts =>
    if ts.head? = some [42] then (match pSign f ts.tail with | some (k, r) => prodL f (.mk 8 0 [] [e, k]) r | none => none)
    else if ts.head? = some [47] then (match pSign f ts.tail with | some (k, r) => prodL f (.mk 9 0 [] [e, k]) r | none => none)
    else some (e, ts)
def pSign : Nat → List Str → PR
  | 0, _ => none
  | f + 1, ts => match ts with
    | [] => none
    | t :: r =>
      if t = [45] then (match pSign f r with | some (k, r) => some (.mk 5 0 [] [k], r) | none => none)
      else if t = [40] then (match pSum f r with | some (e, r) => if r.head? = some [41] then some (e, r.tail) else none | none => none)
      else if oneB 2 t then some (.mk 1 0 t [], r)
      else if r.head? = some [91] then (match pSum f r.tail with | some (e, r) => if r.head? = some [93] then some (.mk 3 0 t [e], r.tail) else none | none => none)
      else if r.head? = some [40] then (if r.tail.head? = some [41] then some (.mk 4 0 t [], r.tail.tail) else match pSum f r.tail with | some (e, r) => argL f t [e] r | none => none)
      else some (.mk 2 0 t [], r)
def argL : Nat → Str → List Ex → List Str → PR
  | 0, _, _, _ => none
  | f + 1, t, l, ts =>
    if ts.head? = some [44] then (match pSum f ts.tail with | some (e, r) => argL f t (l ++ [e]) r | none => none)
    else if ts.head? = some [41] then some (.mk 4 0 t l, ts.tail)
    else none
end
def nb (r : List Str) : Prop := r.head? ≠ some [91] ∧ r.head? ≠ some [40]
def nm8 (r : List Str) : Prop := nb r ∧ r.head? ≠ some [42] ∧ r.head? ≠ some [47]
def nm6 (r : List Str) : Prop := nm8 r ∧ r.head? ≠ some [43] ∧ r.head? ≠ some [45]
def K (e : Ex) : Nat := 8 * exW e
def SgP (e : Ex) : Prop := ∀ f r, K e ≤ f + 4 → nb r → pSign f (exT e ++ r) = some (exZ e, r)
def PdP (e : Ex) : Prop := ∀ f r, K e ≤ f + 2 → nb r → ∃ g, f + 4 ≤ g + K e ∧ pProd f (exT e ++ r) = prodL g (exZ e) r
def SuP (e : Ex) : Prop := ∀ f r, K e ≤ f → nm8 r → ∃ g, f + 2 ≤ g + K e ∧ pSum f (exT e ++ r) = sumL g (exZ e) r
end Go.Tree
namespace Go.Tree
open Go.Tok
end Go.Tree
end

section
namespace Go.Tok
end Go.Tok
end

section
namespace Go.Tok
inductive Chain (s : List UInt8) : Nat → List Tk → Prop
  | nil (i : Nat) : Chain s i []
  | cons {i e kd : Nat} {ts : List Tk} : i ≤ s.length → skipTo s i < s.length → tokAt s (skipTo s i) = (kd, e, true) → Chain s e ts → Chain s i ((kd, tokTx s (skipTo s i), skipTo s i) :: ts)
def Bl (R : List UInt8) : Prop := R = [] ∨ ∃ r, R = 32 :: r
end Go.Tok
end

section
namespace Go.Tok
end Go.Tok
end

section
namespace Go.Tok
end Go.Tok
end

section
namespace Go.Tok
def Jn (ts : List Tk) : List UInt8 := ts.flatMap fun t => 32 :: t.2.1
def kt (t : Tk) : Nat × List UInt8 := (t.1, t.2.1)
def Good (t : Tk) : Prop := ∃ s k e, k ≤ s.length ∧ tokAt s k = (t.1, e, true) ∧ t.2.1 = (s.drop k).take (e - k)
end Go.Tok
end

section
namespace Go.Tok.W
open Go.Tok
def Bl (R : List UInt8) : Prop := R = [] ∨ ∃ c r, (c = 32 ∨ c = 10) ∧ R = c :: r
def Sp (xs : List (Tk × UInt8)) : List UInt8 := xs.flatMap fun t => t.1.2.1 ++ [t.2]
def isSp (c : UInt8) : Prop := c = 32 ∨ c = 10
end Go.Tok.W
end

section
namespace Go.Tree
open Go.Tok Go.Tok.W
def Tk1 (s : Str) : Prop := ∃ kd, Go.Tok.Good (kd, s, 0)
def Tks (l : List Str) : Prop := ∀ s ∈ l, Tk1 s
end Go.Tree
end

section
namespace Go.Tree
open Go.Tok Go.Tok.W
def exHd (h : Str) : Bool := decide (h = [45]) || (decide (h = [40]) || (oneB 2 h || nameOk h))
def hdK (h : Str) : Nat :=
  if h = [116, 97, 114, 103, 101, 116] then 2 else if h = [102, 111, 114] then 4 else if h = [105, 102] then 5 else if h = [123] then 6
  else if h = [125] then 7 else if h = [101, 108, 115, 101] then 8 else if h = [97, 114, 114, 97, 121] then 9 else if h = [105, 110, 116] then 10
  else if h = [114, 101, 97, 108] then 11 else if h = [118, 101, 99, 116, 111, 114] then 12 else if h = [60] then 13 else if h = [91] then 14 else 0
def hk : List Str → Nat
  | [] => 99
  | h :: _ => hdK h
end Go.Tree
namespace Go.Tree
open Go.Tok Go.Tok.W
def kS (op : Nat) : Nat := if op = 1 ∨ op = 3 then 0 else op
def elT (e : List Sm) : List Str := if 0 < e.length then [101, 108, 115, 101] :: [123] :: ((smsT e).flatten ++ [[125]]) else []
section
variable (a : Int) (nm : Str) (x y : Ex) (l : List Ex) (b e : List Sm) (r : List Str)
end
end Go.Tree
end

section
namespace Go.Tree
open Go.Tok Go.Tok.W
def bT (lo up : List Ex) : List Str := if lo.length + up.length = 0 then [] else [[60]] ++ ldT lowW lo ++ (if lo.length + up.length = 2 then [[44]] else []) ++ ldT upW up ++ [[62]]
section
variable (x y : Ex) (X : List Str)
end
def iT (i : List Ex) (r : List Str) : List Str := ldT [[61]] i ++ [59] :: r
def scT (d : Dc) (r : List Str) : List Str := bT d.lower d.upper ++ d.nm :: iT d.init r
end Go.Tree
end

section
namespace Go.Tree
open Go.Tok Go.Tok.W
def nhd (i : Nat) (r : List Str) : Prop := r.take 2 ≠ (headW i ++ [[123]]).take 2
theorem six {p : List Bk} (h : p.length = 6) : ∃ a b c d e f, p = [a, b, c, d, e, f] := by
  match p, h with
  | [a, b, c, d, e, f], _ => exact ⟨a, b, c, d, e, f, rfl⟩
def moveS (at_ : Int) : Sm → Sm
  | .mk o _ n k b e => .mk o at_ n k b e
def moveB (at_ : Int) (b : Bk) : Bk := { b with stmts := b.stmts.map (moveS at_) }
end Go.Tree
end

section
namespace Go.Knd
open Go.Tok Go.Tree
def countB (op n k : Nat) : Bool := decide (op = 4) || decide (op = 5) || (decide (op = 1) && decide (k = 0) && decide (n = 2))
def kidsC (s : List Vr) (op n : Nat) : Nat → List Ex → Bool
  | _, [] => true
  | k, x :: r => !(countB op n k && hangsK s x) && placesK s x && kidsC s op n (k + 1) r
mutual
def chosenS (s : List Vr) : Sm → Bool
  | .mk op _ _ ks b e => kidsC s op ks.length 0 ks && (chosenK s b && chosenK s e)
def chosenK (s : List Vr) : List Sm → Bool
  | [] => true
  | x :: r => chosenS s x && chosenK s r
end
section
variable {l s : List Vr}
end
end Go.Knd
end

section
namespace Go.Knd
open Go.Tok Go.Tree
def noB : Bk := ⟨false, [], []⟩
def cutB (d s : Nat) (b : Bk) : Bk := ⟨b.is, b.decls.take d, b.stmts.take s⟩
def cutP (n d s : Nat) : List Bk → List Bk
  | [] => []
  | b :: r => match n with
    | 0 => cutB d s b :: List.replicate r.length noB
    | n + 1 => b :: cutP n d s r
end Go.Knd
end

section
namespace Go.Knd
open Go.Tok Go.Tree
def Bad {α : Type} (X : Except Ft α) : Prop := ∀ f, X = .error f → f.1 ≠ 0
end Go.Knd
end

section
namespace Go.Sx
open Go.RowKit Go.Tree Go.Tok Go.Knd
section
variable {P : Program} {c : Cf} {e : Env} {B : Base} {L : Heap} {rest : List Oper} {d : Nat} {ρ : Operand → Value} {D : Option Tmp} {g : Option (Nat × Bool)} {x y : Operand} {T : TypeId} {p : String} {ed : Array Edge} {t : Nat} {w : World}
end
section
variable {P : Program} {t : TypeId} {w : World}
theorem eq_bool_run {d : Nat} {a b : Bool} (h : P.underlying t = some .bool) : (Op.equalIn (d + 1) t (.bool a) (.bool b)).run P w = .ok (decide (a = b)) w := by
  rw [run_equalIn_bool' w d t a b h]; by_cases hx : a = b <;> simp [hx]
theorem eqK_run {t1 t2 : TypeId} {a c : Nat} {b d : Bool} {n : Nat} (hS : flatS P t [(t1, 0), (t2, 1)]) (z1 : szB P t1 1 false = true) (z2 : szB P t2 1 false = true) (u1 : P.underlying t1 = some (.int .u8)) (u2 : P.underlying t2 = some .bool) :
    (Op.equalIn (n + 2) t (.agg #[.int .u8 (a : Nat), .bool b]) (.agg #[.int .u8 (c : Nat), .bool d])).run P w = .ok (decide ((a, b) = (c, d))) w := by
  rw [run_equalIn_agg w (n + 1) t _ _ hS.u hS.s]
  have hf := hS.f
  generalize (P.fieldsOf t).toList = fs at hf
  obtain ⟨f1, fs1, rfl, h1, hf⟩ := List.map_eq_cons_iff.1 hf
  obtain ⟨f2, fs2, rfl, h2, hf⟩ := List.map_eq_cons_iff.1 hf
  obtain rfl := List.map_eq_nil_iff.1 hf
  have e : decide ((a, b) = (c, d)) = (decide ((a : Int) = (c : Int)) && (decide (b = d) && true)) := by rw [Bool.eq_iff_iff]; simp [Int.natCast_inj]
  rw [e]
  exact eqF_cons (xs := [.int .u8 (a : Nat), .bool b]) (ys := [.int .u8 (c : Nat), .bool d]) h1 z1 rfl rfl (eq_int_run u1) (eqF_cons h2 z2 rfl rfl (eq_bool_run u2) eqF_nil)
end
section
variable {P : Program} {ops : Array Oper} {Q : Exit → Act → World → Prop} {c : Cf} {e : Env} {B : Base} {L : Heap} {fuel d : Nat} {S : World → Prop} {listed : Array Bool} {v : Value}
end
theorem vrsV.take {w : World} {N : Nat → Prop} {l : List Vr} {b : Option Addr × Nat} (h : vrsV w N l b) (k : Nat) : vrsV w N (l.take k) b := by
  refine ⟨Nat.le_trans (by rw [List.length_take]; omega) h.1, fun j v hj => h.2 j v ?_⟩
  rw [List.getElem?_take] at hj
  split at hj
  · exact hj
  · cases hj
theorem smsM.take {w : World} {N : Nat → Prop} {a : Option Addr} : ∀ (l : List Sm) (i k : Nat), smsM w N l a i → smsM w N (l.take k) a i
  | _, i, 0, _ => by rw [List.take_zero]; unfold smsM; trivial
  | [], i, k + 1, _ => by rw [List.take_nil]; unfold smsM; trivial
  | x :: l, i, k + 1, h => by
    unfold smsM at h
    rw [List.take_succ_cons]
    unfold smsM
    exact ⟨h.1, smsM.take l _ k h.2⟩
theorem dcsM.take {w : World} {N : Nat → Prop} {a : Option Addr} {l : List Dc} (h : dcsM w N l a) (k : Nat) : dcsM w N (l.take k) a := fun j d hj => by
  rw [List.getElem?_take] at hj
  split at hj
  · exact h j d hj
  · cases hj
theorem put_ne {α : Type} {cs c : List α} {i j : Nat} (hl : cs.length = 18) (hc : c.length = 3) (hi : i < 6) (hj : j ≠ i) : ((cs.take (i * 3) ++ c ++ cs.drop (i * 3 + 3)).drop (j * 3)).take 3 = (cs.drop (j * 3)).take 3 := by
  have l1 : (cs.take (i * 3)).length = i * 3 := by rw [List.length_take]; omega
  refine List.ext_getElem? fun k => ?_
  rw [List.getElem?_take, List.getElem?_take, List.getElem?_drop, List.getElem?_drop]
  split
  · rename_i hk
    rw [List.append_assoc]
    by_cases h2 : j < i
    · rw [List.getElem?_append_left (by omega), List.getElem?_take, if_pos (by omega)]
    · rw [List.getElem?_append_right (by omega), List.getElem?_append_right (by omega), List.getElem?_drop, l1, hc]
      congr 1; omega
  · rfl
theorem pgM.put {w : World} {N : Nat → Prop} {p : List Bk} {cs c : List Value} {i : Nat} {b : Bk} (h : pgM w N p cs) (hi : i < 6) (hc : c.length = 3) (hb : bkM w N b c) : pgM w N (p.set i b) (cs.take (i * 3) ++ c ++ cs.drop (i * 3 + 3)) := by
  have h6 := h.six
  have hl := h.len
  have l1 : (cs.take (i * 3)).length = i * 3 := by rw [List.length_take]; omega
  refine ⟨by rw [List.length_set]; exact h6, by simp only [List.length_append, List.length_drop, l1, hc]; omega, fun j x hx => ?_⟩
  by_cases hj : j = i
  · subst hj
    rw [List.getElem?_set_self (by omega)] at hx
    obtain rfl := Option.some.inj hx
    rw [List.append_assoc, List.drop_append_of_le_length (by omega), List.drop_of_length_le (by omega), List.nil_append, List.take_append_of_le_length (by omega), List.take_of_length_le (by omega)]
    exact hb
  · rw [List.getElem?_set_ne (by omega)] at hx
    have h1 := h.one j x hx
    rw [put_ne hl hc hi hj]; exact h1
theorem pgM.cells {w : World} {N : Nat → Prop} {p : List Bk} {cs c : List Value} {i j : Nat} (_ : pgM w N p cs) (h : (cs.drop (i * 3)).take 3 = c) {v : Value} (hv : c[j]? = some v) : cs[i * 3 + j]? = some v := by
  subst h
  rw [List.getElem?_take] at hv
  split at hv
  · rwa [List.getElem?_drop] at hv
  · cases hv
end Go.Sx
end

section
namespace Go.Proofs.YtoehjlmdnajibaaGreatDoor
open Go.RowKit Go.Sx
open Go.Tok Go.Tree Go.Knd Go.Prs

def capB (b : Bk) (c : List Value) : Prop := ∃ da dc sa sc, c = [.bool b.is, .slice da b.decls.length dc, .slice sa b.stmts.length sc] ∧ b.decls.length ≤ dc ∧ b.stmts.length ≤ sc
end Go.Proofs.YtoehjlmdnajibaaGreatDoor
end

section
namespace Go.Knd
open Go.Tok Go.Tree
end Go.Knd
end

section
namespace Go.Knd
open Go.Tok Go.Tree
end Go.Knd
end

section
namespace Go.Proofs.YtoehjlmdnajibaaGreatDoor
open Go.RowKit Go.Sx
open Go.Tok Go.Tree Go.Knd Go.Prs

def HgH (n : Nat) : Prop := ∀ (x : Ex) (cs : List Value) (vs : List Vr) (va : Option Addr) (vc : Nat) (w : World), exW x < n → hangsK vs x = false → exM w (fun _ => True) x cs → vrsV w (fun _ => True) vs (va, vc) → vs.length ≤ 90000000 →
  Ret Tryz.prog 17 #[.agg cs.toArray, .slice va vs.length vc] w fun v w' => v = .bool false ∧ Ext w w'
def PlH (n : Nat) : Prop := ∀ (x : Ex) (cs : List Value) (vs : List Vr) (va : Option Addr) (vc : Nat) (w : World), exW x < n → placesK vs x = true → exM w (fun _ => True) x cs → vrsV w (fun _ => True) vs (va, vc) → vs.length ≤ 90000000 →
  Ret Tryz.prog 36 #[.agg cs.toArray, .slice va vs.length vc] w fun v w' => v = .bool true ∧ Ext w w'
def ChH (n : Nat) : Prop := ∀ (l : List Sm) (a : Option Addr) (c : Nat) (vs : List Vr) (va : Option Addr) (vc : Nat) (w : World), smsW l < n → chosenK vs l = true → l.length ≤ 10000000 → smsM w (fun _ => True) l a 0 → vrsV w (fun _ => True) vs (va, vc) → vs.length ≤ 90000000 →
  Ret Tryz.prog 18 #[.slice a l.length c, .slice va vs.length vc] w fun v w' => v = .bool true ∧ Ext w w'

end Go.Proofs.YtoehjlmdnajibaaGreatDoor
end

section
namespace Go.Sx
open Go.RowKit Go.Tree Go.Tok Go.Knd
section
variable {P : Program} {ops : Array Oper} {Q : Exit → Act → World → Prop} {c : Cf} {e : Env} {B : Base} {L : Heap} {d : Nat} {x y : Operand} {T : TypeId} {p : String} {ed : Array Edge} {t te bytes : Nat} {z v : Value} {xs : List Value} {W : Heap} {q fuel : Nat} {S : World → Prop} {listed : Array Bool} {w0 : World}
theorem o_vrsM {vs : List Vr} {a : Option Addr} {cp n : Nat} (hq : ops[q]? = some ⟨some d, .call ⟨.builtin .append, #[x, y], #[t, t]⟩, T, p, ed, none⟩) (hT : slT P t te 4 bytes z) (hx : ev c.n e x = v) (hv : Own te 4 v xs n W) (hy : ev c.n e y = .slice a vs.length cp) (hM : vrsV w0 (fun _ => True) vs (a, cp)) (hX : (w0, No) ∈ B) (hn : n + vs.length ≤ 100000000) (hby : bytes ≤ 1000)
    (h : ∀ v' W', Own te 4 v' (xs ++ vrsC vs) (n + vs.length) W' → WH P ops c Q S fuel (listed.setIfInBounds q true) (upd e d v') B (L ++ W')) : WO P ops c Q S fuel listed q e B (W ++ L) := by
  by_cases h0 : vs = []
  · subst h0
    obtain ⟨i, ht, hi, hsz, _, _, _⟩ := slT_spec hT
    obtain ⟨a1, c1, rfl⟩ := hv.slice
    refine o_val hq rfl rfl fun w hw => ?_
    have hs : Src P i.size t (.slice a 0 cp) 0 [] w := ⟨.inl ⟨te, ht⟩, fun _ => rfl, by cases a <;> simp [Builtin.firstCells, go_sem], by cases a <;> simp [Builtin.firstCells, go_sem], by simp, by simp⟩
    have hr := _root_.Go.run_append_nothing (P := P) w t t T te i ht hi a1 n c1 (Own.le hv) _ hs
    exact ⟨_, _, B, _, R_append hx hy hr, hw.perm List.perm_append_comm, h _ W (by simpa [vrsC] using hv)⟩
  · have hl : 0 < vs.length := List.length_pos_iff.2 h0
    obtain ⟨q2, o, rfl, _, _⟩ := vrs_row hM.2 h0
    refine o_val hq rfl rfl fun w hw => ?_
    obtain ⟨v', w', L2, k1, k2, k3⟩ := app_run (ρ := ev c.n e) (D := some d) (g := none) (x := x) (y := y) (T := T) (p := p) (ed := ed) (A := []) (L := L) (news := vrsC vs) hT (by decide) hx (hv.toR [] L) hy (vrsC_len vs) (fun w hw j u hj => by
        obtain ⟨q3, o3, he, _, hc⟩ := vrs_row (hM.nowT hX hw).2 h0
        cases he; exact hc j u hj) (vrsC_one vs) hl (by omega)
      (Nat.le_trans (Nat.mul_le_mul hn hby) (by decide)) hw
    obtain ⟨W', k4, rfl⟩ := k2.own
    exact ⟨v', w', B, _, k1, St.perm k3 (by rw [List.nil_append]; exact List.perm_append_comm), h v' W' k4⟩
theorem o_vr1 {u : Vr} {sb i n : Nat} (hq : ops[q]? = some ⟨some d, .call ⟨.builtin .append, #[x, y], #[t, t]⟩, T, p, ed, none⟩) (hT : slT P t te 4 bytes z) (hx : ev c.n e x = v) (hv : Own te 4 v xs n W) (hy : ev c.n e y = .slice (some ⟨sb, 0, none⟩) 1 1) (hi : L[i]? = some (sb, cel (vrC u) te)) (hn : n + 1 ≤ 100000000) (hby : bytes ≤ 1000)
    (h : ∀ v' W', Own te 4 v' (xs ++ vrC u) (n + 1) W' → WH P ops c Q S fuel (listed.setIfInBounds q true) (upd e d v') B (L ++ W')) : WO P ops c Q S fuel listed q e B (W ++ L) := by
  refine o_val hq rfl rfl fun w hw => ?_
  obtain ⟨v', w', L2, k1, k2, k3⟩ := app_run (ρ := ev c.n e) (D := some d) (g := none) (x := x) (y := y) (T := T) (p := p) (ed := ed) (A := []) (L := L) (news := vrC u) hT (by decide) hx (hv.toR [] L) hy rfl (fun w hw j r hj => by
      rw [Nat.zero_add]
      exact zc (W.length + i) (by rw [List.nil_append, List.getElem?_append_right (by omega), Nat.add_sub_cancel_left]; exact hi) hj hw) rfl (by decide) (by omega)
    (Nat.le_trans (Nat.mul_le_mul hn hby) (by decide)) hw
  obtain ⟨W', k4, rfl⟩ := k2.own
  exact ⟨v', w', B, _, k1, St.perm k3 (by rw [List.nil_append]; exact List.perm_append_comm), h v' W' k4⟩
end
section
variable {P : Program} {ops : Array Oper} {c : Cf} {Q : Exit → Act → World → Prop} {S : World → Prop} {fuel : Nat} {listed : Array Bool} {e : Env} {B B' : Base} {L L' : Heap}
theorem o_bsliceE {d : Nat} {T : TypeId} {pp : String} {ed : Array Edge} {t el k bytes len i : Nat} {z : Value} {listed : Array Bool} {parts : List (Nat × Operand)} {g : Option (Nat × Bool)} {ps : List (Nat × Value)} (hi : ops[i]? = some ⟨some d, .buildSlice t len parts.toArray, T, pp, ed, g⟩) (hw : Region.wanted ⟨some d, .buildSlice t len parts.toArray, T, pp, ed, g⟩ (yielded ops (act c e).tmps) = true) (hT : slT P t el k bytes z) (hps : (parts.map fun p => (p.1, ev c.n e p.2)) = ps) (hk : 0 < len * k) (hs : Nat.ble (len * k) 16777216 = true) (hf : fillB (plA len k) ps (len * k) = true)
    (h : ∀ b, (∀ x ∈ L, x.1 < b) → (∀ x ∈ B, x.1.heap.size ≤ b) → WH P ops c Q S fuel (listed.setIfInBounds i true) (upd e d (.slice (some ⟨b, 0, none⟩) len len)) B ((b, cel (fillL (plA len k) ps (zsL z (len * k))) el) :: L)) :
    WO P ops c Q S fuel listed i e B L := by
  subst hps
  exact o_bsliceV hi hw hT hk hs hf h
theorem h_dp (R : Nat → Array Bool → Env → Base → Heap → Prop) (h0 : R fuel listed e B L) (hs : ∀ n l e B L, R n l e B L → (∀ m l' e' B' L', m < n → R m l' e' B' L' → WH P ops c Q S m l' e' B' L') → WH P ops c Q S n l e B L) : WH P ops c Q S fuel listed e B L := by
  induction fuel using Nat.strongRecOn generalizing listed e B L with
  | _ n ih => exact hs n listed e B L h0 fun m l' e' B' L' hm hR => ih m hm hR
theorem h_dpl (Rs : List (Nat → Array Bool → Env → Base → Heap → Prop)) (i0 : Nat) {R0 : Nat → Array Bool → Env → Base → Heap → Prop} (hi : Rs[i0]? = some R0) (h0 : R0 fuel listed e B L)
    (hs : ∀ R ∈ Rs, ∀ n l e B L, R n l e B L → (∀ (j : Nat) (R' : Nat → Array Bool → Env → Base → Heap → Prop), Rs[j]? = some R' → ∀ m l' e' B' L', m < n → R' m l' e' B' L' → WH P ops c Q S m l' e' B' L') → WH P ops c Q S n l e B L) : WH P ops c Q S fuel listed e B L := by
  refine h_dp (fun n l e B L => ∃ R ∈ Rs, R n l e B L) ⟨R0, List.mem_of_getElem? hi, h0⟩ ?_
  rintro n l e B L ⟨R, hR, h⟩ ih
  exact hs R hR n l e B L h fun j R' hj m l' e' B' L' hm h' => ih m l' e' B' L' hm ⟨R', List.mem_of_getElem? hj, h'⟩
theorem h_stP (hc : ∀ w, St B L w → St B' L' w) (h : WH P ops c Q S fuel listed e B' L') : WH P ops c Q S fuel listed e B L := ⟨fun w hw => h.s w (hc w hw), fun w hw => h.h w (hc w hw)⟩
theorem h_four (i j k m : Nat) (hr : Region.ready .any ops listed = [i, j, k, m]) (hs : ∀ w, St B L w → S w) (h1 : WO P ops c Q S fuel listed i e B L) (h2 : WO P ops c Q S fuel listed j e B L) (h3 : WO P ops c Q S fuel listed k e B L) (h4 : WO P ops c Q S fuel listed m e B L) : WH P ops c Q S (fuel + 1) listed e B L := by
  refine ⟨hs, fun w hw => wpAnyH_all hr (by simp) (fun q hq => ?_)⟩
  simp only [List.mem_cons, List.not_mem_nil, or_false] at hq
  rcases hq with rfl | rfl | rfl | rfl
  · unfold WO at h1; exact h1 w hw
  · unfold WO at h2; exact h2 w hw
  · unfold WO at h3; exact h3 w hw
  · unfold WO at h4; exact h4 w hw
end
theorem ownVr {w : World} {T : TypeId} {l : List Vr} {a : Option Addr} {c : Nat} {W : Heap} (h : Own T 4 (.slice a l.length c) (vrsC l) l.length W) (hW : ∀ p ∈ W, w.heap[p.1]? = some p.2) : vrsV w (fun _ => True) l (a, c) := by
  obtain ⟨⟨a1, c1⟩, he, hv⟩ := own_vrs (N := fun _ => True) h hW (fun _ _ => trivial)
  cases he; exact hv
theorem ownMore {T : TypeId} {l : List Vr} {v : Vr} {r : Value} {W : Heap} (h : Own T 4 r (vrsC l ++ vrC v) (l.length + 1) W) : ∃ (a : Option Addr) (c : Nat), r = .slice a (l ++ [v]).length c ∧ Own T 4 (.slice a (l ++ [v]).length c) (vrsC (l ++ [v])) (l ++ [v]).length W := by
  rw [← vrsC_snoc, show l.length + 1 = (l ++ [v]).length by simp] at h
  obtain ⟨a, c, rfl⟩ := h.slice
  exact ⟨a, c, rfl, h⟩
theorem exV_M {W : World} {N : Nat → Prop} {e : Ex} {b : Option Addr × Nat} (h : exsV W N e.kids b) : exM W N e (exE e b) := by
  obtain ⟨op, a, nm, ks⟩ := e
  unfold exM
  exact ⟨b.1, b.2, rfl, h.1, h.2⟩
theorem exs_finA {w w' : World} {B : Base} {T : TypeId} {l : List Ex} {v : Value} {xs : List Value} {W L : Heap} (h : Own T 4 v xs l.length W) (hw : St B L w') (hx : (w, No) ∈ B) (hL : ∀ p ∈ W, p ∈ L) (hm : ∀ (j : Nat) e, l[j]? = some e → exM w' (Nn w w') e ((xs.drop (j * 4)).take 4)) : ∃ b : Option Addr × Nat, v = .slice b.1 l.length b.2 ∧ exsV w' (Nn w w') l b :=
  own_exs h (fun p hp => hw.own p (hL p hp)) (fun p hp => by
    refine ⟨?_, lt_of_blk (hw.own p (hL p hp))⟩
    rcases hw.ok p (hL p hp) (w, No) hx with h | h
    · exact h.elim
    · exact h) hm
end Go.Sx
end

section
namespace Go.Proofs.YtoehjlmdnajibaaGreatDoor
open Go.RowKit Go.Sx
open Go.Tok Go.Tree Go.Knd Go.Prs

def mv (a : Int) : Int := IntKind.i64.wrap (a + 7)
mutual
theorem exW_mapA (g : Int → Int) : ∀ e : Ex, exW (mapA g e) = exW e
  | .mk op a nm ks => by rw [mapA, exW, exW, exsW_mapA g ks, mapsA_len]
theorem exsW_mapA (g : Int → Int) : ∀ l : List Ex, exsW (mapsA g l) = exsW l
  | [] => by rw [mapsA]
  | e :: l => by rw [mapsA, exsW, exsW, exW_mapA g e, exsW_mapA g l]
end
theorem of_moved (g : Int → Int) (x : Ex) (vs : List Vr) : ∃ (k : Nat × Bool) (e : Nat) (a a2 : Int), outK (kindOf x vs) = (k, (e, a)) ∧ outK (kindOf (mapA g x) vs) = (k, (e, a2)) ∧ (e ≠ 0 → e ≠ 120 → a2 = g a) := by
  cases hok : exOk x with
  | false =>
    obtain ⟨h1, h2⟩ := kind_bad g x vs hok
    exact ⟨(0, false), 120, 0, 0, by rw [h2]; rfl, by rw [h1]; rfl, fun _ h => absurd rfl h⟩
  | true =>
    have h := kind_moved g x vs hok
    cases hk : kindOf x vs with
    | error f =>
      rw [hk] at h
      exact ⟨(0, false), f.1, f.2, g f.2, rfl, by rw [h]; rfl, fun _ _ => rfl⟩
    | ok k =>
      rw [hk] at h
      exact ⟨k, 0, 0, 0, rfl, by rw [h]; rfl, fun h => absurd rfl h⟩
def SpH (n : Nat) : Prop := ∀ (x : Ex) (cs : List Value) (s : Str) (w : World), exW x < n → exM w (fun _ => True) x cs → Ret Tryz.prog 23 #[.agg cs.toArray, str s] w fun v w' => v = .bool (speaksK s x) ∧ Ext w w'
def MvH (n : Nat) : Prop := ∀ (x : Ex) (cs : List Value) (w : World), exW x < n → exM w (fun _ => True) x cs → Ret Tryz.prog 22 #[.agg cs.toArray, .int .i64 7] w fun v w' => ∃ b : Option Addr × Nat, v = .agg (exE (mapA mv x) b).toArray ∧ exsV w' (Nn w w') (mapA mv x).kids b ∧ Ext w w'
theorem take_any {s : Str} {ks : List Ex} {k : Nat} {x : Ex} (h : speaksS s (ks.take k) = false) (hk : ks[k]? = some x) (hx : speaksK s x = false) : speaksS s (ks.take (k + 1)) = false := by
  obtain ⟨hi, rfl⟩ := List.getElem?_eq_some_iff.1 hk
  rw [speaksS_any] at h ⊢
  rw [List.take_succ_eq_append_getElem hi, List.any_append, h, List.any_cons, List.any_nil, hx]; rfl
theorem spk_mem {s : Str} {ks : List Ex} {k : Nat} {x : Ex} (hk : ks[k]? = some x) (hx : speaksK s x = true) : speaksS s ks = true := by
  rw [speaksS_any, List.any_eq_true]; exact ⟨x, List.mem_of_getElem? hk, hx⟩

theorem speaks_step (n : Nat) (ih : SpH n) (hn : n ≤ 10000000) (x : Ex) (cs : List Value) (s : Str) (w : World) (hx : exW x < n + 1) (hm : exM w (fun _ => True) x cs) :
    Ret Tryz.prog 23 #[.agg cs.toArray, str s] w (fun v w' => v = .bool (speaksK s x) ∧ Ext w w') := by
  obtain ⟨op, at_, nm, ks⟩ := x
  have hm2 := hm
  unfold exM at hm2
  obtain ⟨ka, kc, rfl, hkc, hks⟩ := hm2
  have hx2 := hx
  unfold exW at hx2
  refine enter (S := No) (l := [_, _]) (L := []) 24 Tryz.func23 rfl rfl rfl (St.start w No) (yA (w_boxA rfl (fun t2b gt2b ut2b => aB rfl (yB (zq (yA (zf fa52_2 rfl (zL 0 z9 rfl rfl rfl (zm (v := str _) rfl (zg (fun _ => R_seq rfl rfl) (yB ?_))))))))))); refine zD rfl (fun h2 => ?_) (fun h2 => ?_)
  · refine yA (aB rfl (yB (ze (zt ((zo (v := .bool _) rfl rfl rfl ?_)))))); exact fun w' hw => ⟨congrArg Value.bool (by rw [speaksK, decide_eq_true h2, Bool.true_or]), hw.fr _ zm0⟩
  · refine zi (zk (zq (yA (aI rfl (yB (zB (c_loop (fun m e B L => ∃ (k : Nat), e 1 = str s ∧ e 2 = .pointer (some ⟨t2b, 0, none⟩) ∧ e 5 = .int .i64 (k : Nat) ∧ B = [(w, No)] ∧ L = [(t2b, cel [.int .u8 (op : Nat), .int .i64 at_, str nm, .slice ka ks.length kc] 52)] ∧ k ≤ ks.length ∧ speaksS s (ks.take k) = false ∧ m = ks.length - k) _ ⟨0, rfl, rfl, rfl, rfl, rfl, Nat.zero_le _, (by rw [List.take_zero, speaksS]), rfl⟩ ?_)))))))
    rintro m e B L ⟨k, e1_1, e2_1, e5_1, rfl, rfl, hk, hy, rfl⟩
    refine zq (yA (mI e5_1 (zf fa52_3 e2_1 (zL 0 z47 rfl rfl rfl (zg (fun _ => R_len sl47 rfl) (zg (fun _ => R_lt rfl rfl) (yB ?_))))))); refine zD rfl (fun h3 => ?_) (fun h3 => ?_)
    · have hlt : k < ks.length := (by omega); obtain ⟨x, hxk⟩ : ∃ x, ks[k]? = some x := ⟨_, List.getElem?_eq_getElem hlt⟩; obtain ⟨cs, hA, hE⟩ := hks.get0 hxk; have hxn := exsW_mem (List.mem_of_getElem? hxk); obtain ⟨b1, o1, rfl⟩ := hA.ptr; obtain ⟨op2, at2, nm2, ks2⟩ := x; have hE2 := hE; unfold exM at hE2; obtain ⟨ka2, kc2, rfl, hkc2, hks2⟩ := hE2
      refine zi (zk (zq (zB (yA (zf fa52_3 e2_1 (zL 0 z47 rfl rfl rfl (mI e5_1 (zg (fun _ => R_iaN (i := k) sl47 rfl rfl (by omega)) (w_loadC (l := [.int .u8 (op2 : Nat), .int .i64 at2, str nm2, .slice ka2 ks2.length kc2]) z52 rfl rfl (fun w h j v hj => hA.cell (fun _ _ hh => hh) zm0 h j v hj) (zm (v := str _) e1_1 (zC (fun w => zR Tryz.func23 rfl rfl rfl) rfl rfl (fun w h => ih _ _ s w (by omega) (hE.nowT zm0 h)) (yB ?_)))))))))))); refine c_cond rfl (fun h4 => ?_) (fun h4 => ?_)
      · refine yA (aB rfl (yB (ze (zb (zt (zt (zb (zt ((zo (v := .bool _) rfl rfl rfl ?_)))))))))); exact fun w' hw => ⟨congrArg Value.bool (by rw [speaksK, spk_mem hxk h4, Bool.or_true]), hw.fr _ zm0⟩
      · refine zi (zO (zk (zr (mI e5_1 (zg (fun _ => R_addi rfl rfl (by omega)) (aI rfl (zn ?_))))))); exact k_again _ (by omega) ⟨k + 1, e1_1, e2_1, rfl, rfl, rfl, by omega, take_any hy hxk h4, rfl⟩
    · refine zX (zx (zx (b_here rfl (zk (yA (aB rfl (yB (ze (zo (v := .bool _) rfl rfl rfl ?_))))))))); exact fun w' hw => ⟨congrArg Value.bool (by rw [List.take_of_length_le (by omega)] at hy; rw [speaksK, hy, decide_eq_false (by assumption), Bool.or_false]), hw.fr _ zm0⟩

theorem speaks_all : ∀ n : Nat, n ≤ 10000000 → SpH n
  | 0, _ => fun _ _ _ _ h => absurd h (Nat.not_lt_zero _)
  | n + 1, h => speaks_step n (speaks_all n (by omega)) (by omega)
theorem speaks_ok : SpH 10000000 := speaks_all _ (Nat.le_refl _)

theorem moved_step (n : Nat) (ih : MvH n) (hn : n ≤ 10000000) (x : Ex) (cs : List Value) (w : World) (hx : exW x < n + 1) (hm : exM w (fun _ => True) x cs) :
    Ret Tryz.prog 22 #[.agg cs.toArray, .int .i64 7] w (fun v w' => ∃ b : Option Addr × Nat, v = .agg (exE (mapA mv x) b).toArray ∧ exsV w' (Nn w w') (mapA mv x).kids b ∧ Ext w w') := by
  obtain ⟨op, at_, nm, ks⟩ := x
  have hm2 := hm
  unfold exM at hm2
  obtain ⟨ka, kc, rfl, hkc, hks⟩ := hm2
  have hx2 := hx
  unfold exW at hx2
  refine enter (S := No) (l := [_, _]) (L := []) 32 Tryz.func22 rfl rfl rfl (St.start w No) (yA (w_boxA rfl (fun t2b gt2b ut2b => zA zr52 (fun t4b gt4b ut4b => yC (za (v := .slice _ _ _) rfl (yB (zq (yA (aI rfl (yB (zB (c_base (fun w9 h9 => ?_)))))))))))))
  refine c_loop (fun m e B L => ∃ (k : Nat) (l : List Ex) (v : Value) (xs : List Value) (W : Heap) (x : Bw), e 1 = .int .i64 7 ∧ e 2 = .pointer (some ⟨t2b, 0, none⟩) ∧ e 4 = .pointer (some ⟨t4b, 0, none⟩) ∧ e 5 = v ∧ e 6 = .int .i64 (k : Nat) ∧ B = [x, (w, No)] ∧ L = (t4b, cel [.int .u8 0, .int .i64 0, str [], .slice none 0 0] 52) :: (t2b, cel [.int .u8 (op : Nat), .int .i64 at_, str nm, .slice ka ks.length kc] 52) :: (W ++ []) ∧ k ≤ ks.length ∧ l = mapsA mv (ks.take k) ∧ Own 52 4 v xs l.length W ∧ Kt x w.heap.size (Mc 4 exM) l xs ∧ l.length = k ∧ m = ks.length - k) _ ⟨0, [], _, [], [], _, rfl, rfl, rfl, rfl, rfl, rfl, rfl, Nat.zero_le _, (by rw [List.take_zero, mapsA]), (Own.nil _ 4), (Mc.nil : Mc 4 exM _ _ [] []), rfl, rfl⟩ ?_
  rintro m e B L ⟨k, l, v, xs, W, x, e1_1, e2_1, e4_1, e5_1, e6_1, rfl, rfl, hk, hl, hO, hKl, hlk, rfl⟩
  refine zq (yA (mI e6_1 (zf fa52_3 e2_1 (zL 1 z47 rfl rfl rfl (zg (fun _ => R_len sl47 rfl) (zg (fun _ => R_lt rfl rfl) (yB ?_))))))); refine zD rfl (fun h3 => ?_) (fun h3 => ?_)
  · have hlt : k < ks.length := (by omega); obtain ⟨x, hxk⟩ : ∃ x, ks[k]? = some x := ⟨_, List.getElem?_eq_getElem hlt⟩; obtain ⟨cs, hA, hE⟩ := hks.get0 hxk; have hxn := exsW_mem (List.mem_of_getElem? hxk); obtain ⟨b1, o1, rfl⟩ := hA.ptr; obtain ⟨op2, at2, nm2, ks2⟩ := x; have hE2 := hE; unfold exM at hE2; obtain ⟨ka2, kc2, rfl, hkc2, hks2⟩ := hE2
    refine zi (zk (zq (zB (zr (zm (v := v) e5_1 (zf fa52_3 e2_1 (zL 1 z47 rfl rfl rfl (mI e6_1 (zg (fun _ => R_iaN (i := k) sl47 rfl rfl (by omega)) (w_loadC (l := [.int .u8 (op2 : Nat), .int .i64 at2, str nm2, .slice ka2 ks2.length kc2]) z52 rfl rfl (fun w h j v hj => hA.cell (fun _ _ hh => hh) zm1 h j v hj) (mI e1_1 (zP (fun w => zR Tryz.func22 rfl rfl rfl) rfl rfl (fun w h => ih _ _ w (by omega) (hE.nowT zm1 h)) ?_))))))))))))
    rintro w1 hw1 r w2 ⟨b2, rfl, hV, hxx⟩; refine ⟨_, _, (hw1.ext hxx).base1, ?_⟩; have hK2 : Kt (w2, inL _) w.heap.size exsV (mapA mv (Ex.mk op2 at2 nm2 ks2)).kids b2 := Kt.new hV TL.exs hw1 (hw1.fr _ zm1).size
    refine zS slt47 (by decide) rfl rfl (fun sb gsb usb => w_app (L := []) (W := W) (news := exE (mapA mv (Ex.mk op2 at2 nm2 ks2)) b2) [_, _, _] slt47 (by decide) rfl hO rfl rfl (row_own 0 rfl (fun j u h => h)) rfl (by decide) (by omega) (by omega) (fun v2 W2 hO2 => za (v := v2) rfl (zn (zO (zk (zr (mI e6_1 (zg (fun _ => R_addi rfl rfl (by omega)) (aI rfl (zn (zK (B' := _) (L' := (t4b, cel [.int .u8 0, .int .i64 0, str [], .slice none 0 0] 52) :: (t2b, cel [.int .u8 (op : Nat), .int .i64 at_, str nm, .slice (some ⟨b1, o1, none⟩) ks.length kc] 52) :: (W2 ++ [])) (fun w h => h.drop (List.sublist_cons_self _ _)) (k_base (fun w9 h9 => zK (fun w' h => h.keep2 zm2) ?_))))))))))))); exact k_again _ (by omega) ⟨k + 1, l ++ [mapA mv (Ex.mk op2 at2 nm2 ks2)], v2, _, W2, _, e1_1, e2_1, e4_1, rfl, rfl, rfl, rfl, by omega, (by rw [hl, List.take_add_one, hxk]; exact (mapsA_snoc mv _ _).symm), (by rw [List.length_append]; exact hO2), Mc.snoc (hKl.now TL.exc4 zm1 h9) hO.1 rfl (exV_M (hK2.now TL.exs zm0 h9)), (by rw [List.length_append, List.length_singleton]; omega), rfl⟩
  · obtain ⟨va4, vc4, rfl⟩ := hO.slice; have hk2 : l = mapsA mv ks := (by rw [hl, List.take_of_length_le (by omega)]); have hl4 : l.length = ks.length := (by omega); rw [hl4] at e5_1
    refine zX (zx (zx (b_here rfl (zk (yA (zf fa52_1 e2_1 (zL 1 z3 rfl rfl rfl (mI e1_1 (zg (fun _ => R_add rfl rfl) (zm (v := .slice va4 ks.length vc4) e5_1 (zf fa52_1 e2_1 (zV 1 rfl z3 rfl rfl rfl rfl rfl rfl rfl (zf fa52_3 e2_1 (zV 1 rfl z47 rfl rfl rfl rfl rfl rfl rfl (yC (zY z52 e2_1 (fun _ h => h.at_ 1 rfl) rfl (zV 0 rfl z52 e4_1 rfl rfl rfl rfl rfl rfl (yB (ze (r_fin (.inl rfl) rfl (.agg rfl e4_1 z52 (fun _ h => h.at_ 0 rfl) rfl .nil) ?_))))))))))))))))))))
    exact fun w' hw => by subst hk2; obtain ⟨b, hb, hv⟩ := exs_finA (w := w) hO hw zm1 (fun p hp => by simp [hp]) (fun j e he => hKl.fin TL.exc4 zm0 hw j e he); cases hb; exact ⟨b, by rw [mapA]; show _ = Value.agg (List.toArray [.int .u8 (op : Nat), .int .i64 (mv at_), str nm, .slice b.1 (mapsA mv ks).length b.2]); rw [mapsA_len]; rfl, by rw [mapA]; exact hv, hw.fr _ zm1⟩

theorem moved_all : ∀ n : Nat, n ≤ 10000000 → MvH n
  | 0, _ => fun _ _ _ h => absurd h (Nat.not_lt_zero _)
  | n + 1, h => moved_step n (moved_all n (by omega)) (by omega)
theorem moved_ok : MvH 10000000 := moved_all _ (Nat.le_refl _)
end Go.Proofs.YtoehjlmdnajibaaGreatDoor
end

section
namespace Go.Sx
open Go.RowKit
def gvl (c : Bool) (v : Value) : Value := bif c then v else undef
theorem gl {a b : Bool} (h : (a && b) = true) : a = true := by cases a <;> first | rfl | cases h
section
variable {P : Program} {ops : Array Oper} {Q : Exit → Act → World → Prop} {c : Cf} {e : Env} {B : Base} {L : Heap} {rest : List Oper} {v : Value} {d : Nat} {q : Md} {op : Op} {T : TypeId} {p : String} {a : Array Edge} {j t : Nat} {x c0 : Bool}
variable {f : FuncId} {args : Array Value}
end
section
variable {P : Program} {ρ : Operand → Value} {w : World} {D : Option Tmp} {T : TypeId} {p : String} {ed : Array Edge} {g : Option (Nat × Bool)} {x y : Operand} {a b : Bool}
end
end Go.Sx
namespace Go.Sx
theorem arr2 {a a' b b' : Value} (h : a = a') (h2 : b = b') : (#[a, b] : Array Value) = #[a', b'] := by rw [h, h2]
theorem runE_as {P : Program} {o : Oper} {f : FuncId} {args args' : Array Value} {ρ : Operand → Value} {w : World} (h : RunE P o ρ w f args) (he : args = args') : RunE P o ρ w f args' := he ▸ h
end Go.Sx
attribute [irreducible] Go.Sx.gvl
end
