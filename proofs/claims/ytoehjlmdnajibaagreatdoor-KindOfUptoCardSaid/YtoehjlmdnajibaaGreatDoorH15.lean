/- Layer 15, KindOf: Of of kind tells the kind, or the fault, of the document, for expressions of at most 400 nodes, names of at most 200 bytes and at most 20 variables; in the Upto form. Part 15 of 17. -/
import Derived.Test.YtoehjlmdnajibaaGreatDoorH14
set_option maxRecDepth 100000
set_option maxHeartbeats 16000000
section
namespace Go.Proofs.YtoehjlmdnajibaaGreatDoor
open Go.RowKit Go.Sx
open Go.Tok Go.Tree Go.Knd Go.Prs

def refD (o : Option (Nat × Nat × Bool)) : Value := .tuple #[.int .i64 ((o.map fun d => ((d.1 : Nat) : Int)).getD (-1)), .int .i64 ((o.map (·.2.1)).getD 0 : Nat), .bool ((o.map (·.2.2)).getD false)]
abbrev srcP (s : Str) : List Bk := (resOf (List.replicate 6 noBk) (parseP s)).1
abbrev srcF (s : Str) : Fl := (resOf (List.replicate 6 noBk) (parseP s)).2
def faultS (s : Str) : Ft := if (srcF s).1 = 0 then (outV (allK (srcP s))).2 else ((srcF s).1, ((srcF s).2 : Int))

theorem fault_ok (s : Str) (hs : s.length ≤ 10000000) (hp : ∀ b ∈ srcP s, bkW b < 10000000) (w : World) (hW : Wd w) (hng : 4 ≤ w.heap.size) :
  Ret Tryz.prog 24 #[str s] w (fun v w' => v = .agg (ftC (faultS s)).toArray ∧ Ext w w') := by
 refine enter (S := No) (l := [_]) (L := []) 16 Tryz.func24 rfl rfl rfl (St.start w No) (yA (zA zr37 (fun t2b gt2b ut2b => yC (zm (v := str _) rfl (zP (fun w => zR Tryz.func44 rfl rfl rfl) rfl rfl (fun w h => Parse_ok s hs w (hW.now zm0 h) (Nat.le_trans hng (h.fr _ zm0).size)) ?_)))))
 rintro w1 hw1 v w2 ⟨cs, rfl, hM, hne, hxx⟩; refine ⟨_, _, (hw1.ext hxx).base1, ?_⟩; have hK : Kt (w2, inL [_]) w.heap.size pgM (srcP s) cs := Kt.new hM TL.pg hw1 (hw1.fr _ zm0).size; have hcl : cs.length = 18 := hK.len; clear hM hne
 refine zm rfl (zg (fun _ => R_extract rfl rfl) (zg (fun _ => R_extract rfl rfl) (zA zr32 (fun t3b gt3b ut3b => zA zr37 (fun t4b gt4b ut4b => w_storeW cs 1 rfl z32 rfl rfl rfl hcl (pg_one hK) rfl (zV 0 rfl z37 rfl rfl rfl rfl rfl rfl rfl (yB (zq (yA (zf fa37_0 rfl (zL 0 z35 rfl rfl rfl (zg (fun _ => R_ne rfl rfl) (yB ?_))))))))))))); refine zD rfl (fun h4 => ?_) (fun h4 => ?_)
 ·refine yA (zY z37 rfl (fun _ h => h.at_ 0 rfl) rfl (zV 2 rfl z37 rfl rfl rfl rfl rfl rfl rfl (yB (ze (zt ((r_fin (.inl rfl) rfl (.agg rfl rfl z37 (fun _ h => h.at_ 2 rfl) rfl .nil) ?_))))))); exact fun w' hw => ⟨by unfold faultS; rw [if_neg (show ¬ (srcF s).1 = 0 by show ¬ (resOf (List.replicate 6 noBk) (parseP s)).2.1 = 0; omega)]; rfl, hw.fr _ zm1⟩
 ·refine zi (zk (yA (w_loadW z32 rfl (fun w h => h.at_ 1 rfl) hcl (zC (fun w => zR Tryz.func14 rfl rfl rfl) rfl rfl (fun w h => kCheck_ok (srcP s) cs w hp (hK.T TL.pg zm0 h) (hW.now zm1 h)) (zV 2 rfl z37 rfl rfl rfl rfl rfl rfl rfl (yB (ze (r_fin (.inl rfl) rfl (.agg rfl rfl z37 (fun _ h => h.at_ 2 rfl) rfl .nil) ?_)))))))); exact fun w' hw => ⟨by unfold faultS; rw [if_pos (show (srcF s).1 = 0 by show (resOf (List.replicate 6 noBk) (parseP s)).2.1 = 0; omega)]; rfl, hw.fr _ zm1⟩

theorem fault0 (w : World) (hW : Wd w) (hng : 4 ≤ w.heap.size) : Ret Tryz.prog 24 #[str [112, 97, 114, 97, 109, 101, 116, 101, 114, 115, 32, 123, 32, 114, 101, 97, 108, 32, 120, 59, 32, 125, 32, 109, 111, 100, 101, 108, 32, 123, 32, 105, 102, 32, 40, 120, 32, 61, 61, 32, 49, 41, 32, 123, 32, 125, 32, 125]] w fun v w' => v = .agg #[.int .i64 152, .int .i64 35] ∧ Ext w w' := by
 have h := fault_ok [112, 97, 114, 97, 109, 101, 116, 101, 114, 115, 32, 123, 32, 114, 101, 97, 108, 32, 120, 59, 32, 125, 32, 109, 111, 100, 101, 108, 32, 123, 32, 105, 102, 32, 40, 120, 32, 61, 61, 32, 49, 41, 32, 123, 32, 125, 32, 125] (by decide) (by decide +kernel) w hW hng
 rw [show faultS [112, 97, 114, 97, 109, 101, 116, 101, 114, 115, 32, 123, 32, 114, 101, 97, 108, 32, 120, 59, 32, 125, 32, 109, 111, 100, 101, 108, 32, 123, 32, 105, 102, 32, 40, 120, 32, 61, 61, 32, 49, 41, 32, 123, 32, 125, 32, 125] = (152, 35) by kernel_rfl] at h
 exact h

theorem fault1 (w : World) (hW : Wd w) (hng : 4 ≤ w.heap.size) : Ret Tryz.prog 24 #[str [112, 97, 114, 97, 109, 101, 116, 101, 114, 115, 32, 123, 32, 114, 101, 97, 108, 32, 120, 59, 32, 125, 32, 109, 111, 100, 101, 108, 32, 123, 32, 120, 32, 126, 32, 110, 111, 114, 109, 97, 108, 40, 48, 44, 32, 121, 41, 59, 32, 125]] w fun v w' => v = .agg #[.int .i64 150, .int .i64 45] ∧ Ext w w' := by
 have h := fault_ok [112, 97, 114, 97, 109, 101, 116, 101, 114, 115, 32, 123, 32, 114, 101, 97, 108, 32, 120, 59, 32, 125, 32, 109, 111, 100, 101, 108, 32, 123, 32, 120, 32, 126, 32, 110, 111, 114, 109, 97, 108, 40, 48, 44, 32, 121, 41, 59, 32, 125] (by decide) (by decide +kernel) w hW hng
 rw [show faultS [112, 97, 114, 97, 109, 101, 116, 101, 114, 115, 32, 123, 32, 114, 101, 97, 108, 32, 120, 59, 32, 125, 32, 109, 111, 100, 101, 108, 32, 123, 32, 120, 32, 126, 32, 110, 111, 114, 109, 97, 108, 40, 48, 44, 32, 121, 41, 59, 32, 125] = (150, 45) by kernel_rfl] at h
 exact h

theorem fault2 (w : World) (hW : Wd w) (hng : 4 ≤ w.heap.size) : Ret Tryz.prog 24 #[str [100, 97, 116, 97, 32, 123, 32, 105, 110, 116, 32, 110, 59, 32, 114, 101, 97, 108, 32, 110, 59, 32, 125]] w fun v w' => v = .agg #[.int .i64 151, .int .i64 14] ∧ Ext w w' := by
 have h := fault_ok [100, 97, 116, 97, 32, 123, 32, 105, 110, 116, 32, 110, 59, 32, 114, 101, 97, 108, 32, 110, 59, 32, 125] (by decide) (by decide +kernel) w hW hng
 rw [show faultS [100, 97, 116, 97, 32, 123, 32, 105, 110, 116, 32, 110, 59, 32, 114, 101, 97, 108, 32, 110, 59, 32, 125] = (151, 14) by kernel_rfl] at h
 exact h

theorem fault3 (w : World) (hW : Wd w) (hng : 4 ≤ w.heap.size) : Ret Tryz.prog 24 #[str [112, 97, 114, 97, 109, 101, 116, 101, 114, 115, 32, 123, 32, 118, 101, 99, 116, 111, 114, 91, 50, 93, 32, 120, 59, 32, 125, 32, 109, 111, 100, 101, 108, 32, 123, 32, 116, 97, 114, 103, 101, 116, 32, 43, 61, 32, 120, 59, 32, 125]] w fun v w' => v = .agg #[.int .i64 152, .int .i64 46] ∧ Ext w w' := by
 have h := fault_ok [112, 97, 114, 97, 109, 101, 116, 101, 114, 115, 32, 123, 32, 118, 101, 99, 116, 111, 114, 91, 50, 93, 32, 120, 59, 32, 125, 32, 109, 111, 100, 101, 108, 32, 123, 32, 116, 97, 114, 103, 101, 116, 32, 43, 61, 32, 120, 59, 32, 125] (by decide) (by decide +kernel) w hW hng
 rw [show faultS [112, 97, 114, 97, 109, 101, 116, 101, 114, 115, 32, 123, 32, 118, 101, 99, 116, 111, 114, 91, 50, 93, 32, 120, 59, 32, 125, 32, 109, 111, 100, 101, 108, 32, 123, 32, 116, 97, 114, 103, 101, 116, 32, 43, 61, 32, 120, 59, 32, 125] = (152, 46) by kernel_rfl] at h
 exact h

theorem fault4 (w : World) (hW : Wd w) (hng : 4 ≤ w.heap.size) : Ret Tryz.prog 24 #[str [112, 97, 114, 97, 109, 101, 116, 101, 114, 115, 32, 123, 32, 114, 101, 97, 108, 32, 120, 59, 32, 125, 32, 109, 111, 100, 101, 108, 32, 123, 32, 120, 32, 126, 32, 110, 111, 114, 109, 97, 108, 40, 48, 44, 32, 49, 41, 59, 32, 125]] w fun v w' => v = .agg #[.int .i64 0, .int .i64 0] ∧ Ext w w' := by
 have h := fault_ok [112, 97, 114, 97, 109, 101, 116, 101, 114, 115, 32, 123, 32, 114, 101, 97, 108, 32, 120, 59, 32, 125, 32, 109, 111, 100, 101, 108, 32, 123, 32, 120, 32, 126, 32, 110, 111, 114, 109, 97, 108, 40, 48, 44, 32, 49, 41, 59, 32, 125] (by decide) (by decide +kernel) w hW hng
 rw [show faultS [112, 97, 114, 97, 109, 101, 116, 101, 114, 115, 32, 123, 32, 114, 101, 97, 108, 32, 120, 59, 32, 125, 32, 109, 111, 100, 101, 108, 32, 123, 32, 120, 32, 126, 32, 110, 111, 114, 109, 97, 108, 40, 48, 44, 32, 49, 41, 59, 32, 125] = (0, 0) by kernel_rfl] at h
 exact h

theorem disc_p (w : World) : Ret Tryz.prog 10 #[str [112, 111, 105, 115, 115, 111, 110]] w fun v w' => v = .tuple #[.int .i64 1, .bool true, .bool true] ∧ Ext w w' := Discrete_ok [112, 111, 105, 115, 115, 111, 110] w
theorem disc_x (w : World) : Ret Tryz.prog 10 #[str [120]] w fun v w' => v = .tuple #[.int .i64 0, .bool false, .bool false] ∧ Ext w w' := Discrete_ok [120] w

theorem head15_ok (w : World) (hW : Wd w) (hng : 4 ≤ w.heap.size) :
  Ret Tryz.prog 9 #[] w (fun v w' => v = .bool true ∧ Ext w w') := by
 refine enter (S := No) (l := []) (L := []) 54 Tryz.func9 rfl rfl rfl (St.start w No) (yA (aB rfl (yC (zC (fun w => zR Tryz.func10 rfl rfl rfl) rfl rfl (fun w h => disc_p w) (zm rfl (zg (fun _ => R_extract rfl rfl) (zg (fun _ => R_extract rfl rfl) (zg (fun _ => R_extract rfl rfl) (aI rfl (aB rfl (aB rfl (yC (zC (fun w => zR Tryz.func10 rfl rfl rfl) rfl rfl (fun w h => disc_x w) (zm rfl (zg (fun _ => R_extract rfl rfl) (zg (fun _ => R_extract rfl rfl) (zg (fun _ => R_extract rfl rfl) (aI rfl (aB rfl (aB rfl (yC (zC (fun w => zR Tryz.func24 rfl rfl rfl) rfl rfl (fun w h => fault0 w (hW.now zm0 h) (Nat.le_trans hng (h.fr _ zm0).size)) (zg (fun _ => R_build bt37 rfl) (zg (fun _ => R_eqS fl37 rfl rfl (eq2_run (n := 9998) fl37 z35 z3 un35 un3)) (mB rfl ?_))))))))))))))))))))))))); refine zp (t := 20) rfl (fun h1 => ?_) (fun h1 => ?_)
 ·refine zw rfl rfl (bV h1) (zC (fun w => zR Tryz.func24 rfl rfl rfl) rfl rfl (fun w h => fault1 w (hW.now zm0 h) (Nat.le_trans hng (h.fr _ zm0).size)) (zw rfl rfl (bV h1) (zg (fun _ => R_build bt37 rfl) (zw rfl rfl (bV h1) (zg (fun _ => R_eqS fl37 rfl rfl (eq2_run (n := 9998) fl37 z35 z3 un35 un3)) (zg (v := .bool _) (fun _ => zT (bV h1) rfl) (mB rfl ?_))))))); refine zp (t := 25) rfl (fun h2 => ?_) (fun h2 => ?_)
  ·refine zw rfl rfl (bV h2) (zC (fun w => zR Tryz.func24 rfl rfl rfl) rfl rfl (fun w h => fault2 w (hW.now zm0 h) (Nat.le_trans hng (h.fr _ zm0).size)) (zw rfl rfl (bV h2) (zg (fun _ => R_build bt37 rfl) (zw rfl rfl (bV h2) (zg (fun _ => R_eqS fl37 rfl rfl (eq2_run (n := 9998) fl37 z35 z3 un35 un3)) (zg (v := .bool _) (fun _ => zT (bV h2) rfl) (mB rfl ?_))))))); refine zp (t := 30) rfl (fun h3 => ?_) (fun h3 => ?_)
   ·refine zw rfl rfl (bV h3) (zC (fun w => zR Tryz.func24 rfl rfl rfl) rfl rfl (fun w h => fault3 w (hW.now zm0 h) (Nat.le_trans hng (h.fr _ zm0).size)) (zw rfl rfl (bV h3) (zg (fun _ => R_build bt37 rfl) (zw rfl rfl (bV h3) (zg (fun _ => R_eqS fl37 rfl rfl (eq2_run (n := 9998) fl37 z35 z3 un35 un3)) (zg (v := .bool _) (fun _ => zT (bV h3) rfl) (mB rfl ?_))))))); refine zp (t := 35) rfl (fun h4 => ?_) (fun h4 => ?_)
    ·refine zw rfl rfl (bV h4) (zC (fun w => zR Tryz.func24 rfl rfl rfl) rfl rfl (fun w h => fault4 w (hW.now zm0 h) (Nat.le_trans hng (h.fr _ zm0).size)) (zw rfl rfl (bV h4) (zg (fun _ => R_build bt37 rfl) (zw rfl rfl (bV h4) (zg (fun _ => R_eqS fl37 rfl rfl (eq2_run (n := 9998) fl37 z35 z3 un35 un3)) (zg (v := .bool _) (fun _ => zT (bV h4) rfl) (mB rfl ?_))))))); refine zp (t := 40) rfl (fun h5 => ?_) (fun h5 => ?_)
     ·refine zw rfl rfl (bV h5) (mI rfl (zw rfl rfl (bV h5) (zg (fun _ => R_eq rfl rfl) (zg (v := .bool _) (fun _ => zT (bV h5) rfl) (mB rfl ?_))))); refine zd (t := 44) rfl (fun h6 => ?_) (fun h6 => ?_)
      ·refine zw rfl rfl (bT h6) (mB rfl (zg (v := .bool _) (fun _ => zT (bT h6) rfl) (mB rfl ?_))); refine zp (t := 47) rfl (fun h7 => ?_) (fun h7 => ?_)
       ·refine zw rfl rfl (bV h7) (mB rfl (zg (v := .bool _) (fun _ => zT (bV h7) rfl) (mB rfl ?_))); refine zp (t := 50) rfl (fun h8 => ?_) (fun h8 => ?_)
        ·refine zw rfl rfl (bV h8) (mB rfl (zw rfl rfl (bV h8) (zg (fun _ => R_not rfl) (zg (v := .bool _) (fun _ => zT (bV h8) rfl) (aB rfl (yB (ze (zo (v := .bool _) rfl rfl rfl ?_)))))))); exact fun w' hw => ⟨rfl, hw.fr _ zm0⟩
        ·exact absurd h8 (by decide)
       ·exact absurd h7 (by decide)
      ·exact absurd (by rfl) h6
     ·exact absurd h5 (by decide)
    ·exact absurd h4 (by decide)
   ·exact absurd h3 (by decide)
  ·exact absurd h2 (by decide)
 ·exact absurd h1 (by decide)

end Go.Proofs.YtoehjlmdnajibaaGreatDoor
end

section
open Go.RowKit
namespace Go.Sx
theorem c_heldI {P : Program} {ops : Array Oper} {Q : Exit → Act → World → Prop} {e : Env} {B : Base} {L : Heap} {id : Nat} {n : Nat} {ds : List Deferred} (idx : List Nat) (hm : P.follows .mixedOrders = true) (h : WH P ops ⟨n, ds, none⟩ Q (St B (idx.filterMap fun i => L[i]?)) ops.size (Array.replicate ops.size false) e B L) : WC P ⟨n, ds, none⟩ (.region id ops true) Q e B L := c_held _ hm h
end Go.Sx
namespace Go.Sx
open Go.RowKit
def u8s (ts : List Nat) : List Value := ts.map fun t => .int .u8 (t : Nat)
abbrev OwnU (te : TypeId) (v : Value) (ts : List Nat) (W : Heap) : Prop := Own te 1 v (u8s ts) ts.length W
theorem OwnU.more {te : TypeId} {a : Option Addr} {c : Nat} {ts : List Nat} {t : Nat} {W : Heap} (h : Own te 1 (.slice a (ts.length + 1) c) (u8s ts ++ [.int .u8 (t : Nat)]) (ts.length + 1) W) : OwnU te (.slice a (ts ++ [t]).length c) (ts ++ [t]) W := by
  have e1 : (ts ++ [t]).length = ts.length + 1 := by simp
  have e2 : u8s (ts ++ [t]) = u8s ts ++ [.int .u8 (t : Nat)] := by simp [u8s]
  unfold OwnU; rw [e1, e2]; exact h
theorem OwnU.cell {te : TypeId} {a : Option Addr} {c i : Nat} {ts : List Nat} {W : Heap} (h : OwnU te (.slice a ts.length c) ts W) (hi : i < ts.length) : ∃ b, a = some ⟨b, 0, none⟩ ∧ ∀ (B : Base) (L : Heap) (w : World), (∀ p ∈ W, p ∈ L) → St B L w → ∀ (j t : Nat), ts[j]? = some t → w.cell? ⟨b, j, none⟩ = some (.int .u8 (t : Nat)) := by
  obtain ⟨b, h1, h2⟩ := Own.cell h hi
  exact ⟨b, h1, fun B L w hW hw j t ht => h2 B L w hW hw j _ (by unfold u8s; rw [List.getElem?_map, ht]; rfl)⟩
theorem at_get {ts : List Nat} {i : Nat} (h : i < ts.length) : ts[i]? = some (ts.getD i 0) := by rw [List.getD_eq_getElem?_getD, List.getElem?_eq_getElem h]; rfl
end Go.Sx
end

section
namespace Go.Knd
open Go.Tok Go.Tree
def oneY (ts : List Nat) : Nat := if ts.length = 1 then ts.getD 0 0 else 0
def rcall (nm : Str) (ts : List Nat) : Option Nat :=
  if nm ∈ ([[101, 120, 112], [108, 111, 103], [115, 113, 114, 116], [115, 113, 117, 97, 114, 101], [105, 110, 118, 95, 108, 111, 103, 105, 116]] : List Str) then some (if scal (oneY ts) = true then 2 else if oneY ts = 3 then 3 else 0)
  else if nm = [115, 117, 109] then some (if oneY ts = 4 then 1 else if oneY ts = 3 ∨ oneY ts = 5 then 2 else 0)
  else if nm = [100, 111, 116] then some (if ts.length = 2 ∧ ts.getD 0 0 = 3 ∧ ts.getD 1 0 = 3 then 2 else 0)
  else if nm = [115, 105, 122, 101] then some (if 3 ≤ oneY ts ∧ oneY ts ≤ 5 then 1 else 0)
  else none
theorem getD1 {ts : List Nat} (h : ts.length = 1) : ts.getD 1 0 = 0 := by
  rw [List.getD_eq_getElem?_getD, List.getElem?_eq_none (by omega)]; rfl
section
variable {l : List Vr} {at_ : Int} {nm : Str} {ks : List Ex} {ts : List Nat} {p : Bool}
theorem rcall_n (h : rcall nm ts = none) : ruleK l 4 at_ nm ks (ts.getD 0 0) (ts.getD 1 0) p = .error (150, at_) := by
  refine rule_4n ?_
  unfold rcall at h; unfold callK
  split at h
  · cases h
  · rename_i h1
    rw [if_neg h1]
    split at h
    · cases h
    · rename_i h2
      rw [if_neg h2]
      split at h
      · cases h
      · rename_i h3
        rw [if_neg h3]
        split at h
        · cases h
        · rename_i h4
          rw [if_neg h4]
theorem rcall_s {t : Nat} (hl : ts.length = ks.length) (h : rcall nm ts = some t) : ruleK l 4 at_ nm ks (ts.getD 0 0) (ts.getD 1 0) p = needT t at_ (if nm = [115, 105, 122, 101] then false else p) := by
  have hp : (p && !decide (nm = [115, 105, 122, 101])) = (if nm = [115, 105, 122, 101] then false else p) := by
    by_cases q : nm = [115, 105, 122, 101]
    · rw [if_pos q, decide_eq_true q]; simp
    · rw [if_neg q, decide_eq_false q]; simp
  have fin : ∀ (c : Nat) (n : Nat), callK nm (ts.getD 0 0) (ts.getD 1 0) = some c → (if nm = [100, 111, 116] then 2 else 1) = n → (ts.length = n → c = t) → (ts.length ≠ n → t = 0) → ruleK l 4 at_ nm ks (ts.getD 0 0) (ts.getD 1 0) p = needT t at_ (if nm = [115, 105, 122, 101] then false else p) := by
    intro c n hc hn h1 h2
    rw [rule_4s hc, hn, ← hp]
    by_cases q : ts.length = n
    · rw [decide_eq_true (hl.symm.trans q), h1 q, needT_k]; rfl
    · rw [decide_eq_false (fun hh => q (hl.trans hh)), h2 q]; rfl
  unfold rcall at h
  have hone : ts.length ≠ 1 → oneY ts = 0 := fun q => by unfold oneY; rw [if_neg q]
  have hone1 : ts.length = 1 → oneY ts = ts.getD 0 0 := fun q => by unfold oneY; rw [if_pos q]
  split at h
  · rename_i h1
    have hd : ¬ nm = [100, 111, 116] := by rintro rfl; exact absurd h1 (by decide)
    refine fin _ 1 (by unfold callK; rw [if_pos h1]) (if_neg hd) (fun q => ?_) (fun q => ?_)
    · cases h
      rw [hone1 q, getD1 q, if_pos rfl]
      unfold scal
      by_cases q1 : ts.getD 0 0 = 1 <;> by_cases q2 : ts.getD 0 0 = 2 <;> simp [q1, q2]
    · cases h
      rw [hone q]; rfl
  · rename_i h1
    split at h
    · rename_i h2
      subst h2
      refine fin _ 1 (by unfold callK; rw [if_neg (by decide), if_pos rfl]) rfl (fun q => ?_) (fun q => ?_)
      · cases h; rw [hone1 q, getD1 q, if_pos rfl]
      · cases h; rw [hone q]; rfl
    · rename_i h2
      split at h
      · rename_i h3
        subst h3
        refine fin _ 2 (by unfold callK; rw [if_neg (by decide), if_neg (by decide), if_pos rfl]) rfl (fun q => ?_) (fun q => ?_)
        · cases h; simp [q]
        · cases h; rw [if_neg (fun hh => q hh.1)]
      · rename_i h3
        split at h
        · rename_i h4
          subst h4
          refine fin _ 1 (by unfold callK; rw [if_neg (by decide), if_neg (by decide), if_neg (by decide), if_pos rfl]) rfl (fun q => ?_) (fun q => ?_)
          · cases h
            rw [hone1 q, getD1 q, if_pos rfl]
            by_cases q2 : 3 ≤ ts.getD 0 0 ∧ ts.getD 0 0 ≤ 5
            · rw [if_pos q2, if_pos (by omega)]
            · rw [if_neg q2, if_neg (by omega)]
          · cases h; rw [hone q]; rfl
        · cases h
end
end Go.Knd
namespace Go.Knd
open Go.Tok Go.Tree
theorem needT_0 {t : Nat} {a : Int} {p : Bool} (h : t = 0) : needT t a p = .error (152, a) := by unfold needT; rw [if_pos h]
theorem needT_1 {t : Nat} {a : Int} {p : Bool} (h : ¬ t = 0) : needT t a p = .ok (t, p) := by unfold needT; rw [if_neg h]
theorem idx_0 {t : Nat} (h : ¬ (t = 3 ∨ t = 4 ∨ t = 5)) : idxT t = 0 := by unfold idxT; split <;> (try split) <;> omega
theorem idx_n {t : Nat} (h : t = 3 ∨ t = 4 ∨ t = 5) : idxT t ≠ 0 := by unfold idxT; split <;> (try split) <;> omega
section
variable {l : List Vr} {at_ : Int} {nm : Str} {a b : Nat} {p : Bool} {v : Vr} {k : Ex} {ks : List Ex}
theorem rule_1' : ruleK l 1 at_ nm ks a b p = needT (if digitsK nm = true then 1 else 2) at_ p := rfl
theorem rule_5' : ruleK l 5 at_ nm ks a b p = needT (if a ≤ 3 then a else 0) at_ p := rfl
theorem rule_6' {op : Nat} (h : op = 6 ∨ op = 7 ∨ op = 8 ∨ op = 9) : ruleK l op at_ nm ks a b p = needT (twoK op a b) at_ p := by rw [rule_6 h, needT_k]
theorem rule_3a (h : findV l nm = some v) (h1 : ¬ (v.ty = 3 ∨ v.ty = 4 ∨ v.ty = 5)) : ruleK l 3 at_ nm [k] a b p = .error (152, at_) := by rw [rule_3s h, idx_0 h1]; rfl
theorem rule_3b (h : findV l nm = some v) (h1 : v.ty = 3 ∨ v.ty = 4 ∨ v.ty = 5) (h2 : ¬ a = 1) : ruleK l 3 at_ nm [k] a b p = .error (152, k.at_) := by
  rw [rule_3s h, decide_eq_false (idx_n h1)]
  show andK (countedK k (a, p)) _ = _
  unfold countedK; rw [decide_eq_false (show ¬ (a, p).1 = 1 from h2)]; rfl
theorem rule_3c (h : findV l nm = some v) (h1 : v.ty = 3 ∨ v.ty = 4 ∨ v.ty = 5) (h2 : a = 1) (h3 : p = true) : ruleK l 3 at_ nm [k] a b p = .error (153, k.at_) := by
  rw [rule_3s h, decide_eq_false (idx_n h1)]
  show andK (countedK k (a, p)) _ = _
  subst h2; subst h3; rfl
theorem rule_3d (h : findV l nm = some v) (h1 : v.ty = 3 ∨ v.ty = 4 ∨ v.ty = 5) (h2 : a = 1) (h3 : p = false) : ruleK l 3 at_ nm [k] a b p = .ok (if v.ty = 4 then 1 else 2, v.par) := by
  rw [rule_3s h, decide_eq_false (idx_n h1)]
  show andK (countedK k (a, p)) _ = _
  subst h2; subst h3
  have : idxT v.ty = (if v.ty = 4 then 1 else 2) := by unfold idxT; split <;> (try split) <;> omega
  rw [this]; rfl
end
end Go.Knd
end

section
namespace Go.Knd
open Go.Tok Go.Tree
mutual
def mapA (g : Int → Int) : Ex → Ex
  | .mk op a nm ks => .mk op (g a) nm (mapsA g ks)
def mapsA (g : Int → Int) : List Ex → List Ex
  | [] => []
  | e :: l => mapA g e :: mapsA g l
end
def mapF {α : Type} (g : Int → Int) : Except Ft α → Except Ft α
  | .ok a => .ok a
  | .error f => .error (f.1, g f.2)
mutual
def speaksK (s : Str) : Ex → Bool
  | .mk _ _ nm ks => decide (nm = s) || speaksS s ks
def speaksS (s : Str) : List Ex → Bool
  | [] => false
  | e :: l => speaksK s e || speaksS s l
end
end Go.Knd
end

section
namespace Go.Knd
open Go.Tok Go.Tree
theorem need_code {t : Nat} {a : Int} {p : Bool} {f : Ft} (h : needT t a p = .error f) : f.1 = 152 := by
  unfold needT at h
  split at h
  · cases h; rfl
  · cases h
theorem rule_code {l : List Vr} {op : Nat} {a : Int} {nm : Str} {ks : List Ex} {t u : Nat} {p : Bool} {f : Ft} (h : ruleK l op a nm ks t u p = .error f) : f.1 = 150 ∨ f.1 = 152 ∨ f.1 = 153 := by
  unfold ruleK at h
  by_cases h1 : op = 1
  · rw [if_pos h1] at h; exact .inr (.inl (need_code h))
  · rw [if_neg h1] at h
    by_cases h2 : op = 2
    · rw [if_pos h2] at h
      cases hf : findV l nm with
      | none => rw [hf] at h; cases h; exact .inl rfl
      | some v => rw [hf] at h; cases h
    · rw [if_neg h2] at h
      by_cases h3 : op = 3
      · rw [if_pos h3] at h
        cases hf : findV l nm with
        | none => rw [hf] at h; cases h; exact .inl rfl
        | some v =>
          rw [hf] at h
          dsimp only at h
          split at h
          · cases h; exact .inr (.inl rfl)
          · cases ks with
            | nil => cases h; exact .inr (.inl rfl)
            | cons k r =>
              dsimp only at h
              split at h
              · cases h; exact .inr (.inl rfl)
              · split at h
                · cases h; exact .inr (.inr rfl)
                · exact .inr (.inl (need_code h))
      · rw [if_neg h3] at h
        by_cases h4 : op = 4
        · rw [if_pos h4] at h
          cases hc : callK nm t u with
          | none => rw [hc] at h; cases h; exact .inl rfl
          | some x =>
            rw [hc] at h
            dsimp only at h
            by_cases h5 : ks.length ≠ (if nm = [100, 111, 116] then 2 else 1)
            · rw [if_pos h5] at h; cases h; exact .inr (.inl rfl)
            · rw [if_neg h5] at h; exact .inr (.inl (need_code h))
        · rw [if_neg h4] at h
          split at h
          · exact .inr (.inl (need_code h))
          · exact .inr (.inl (need_code h))
mutual
theorem of_code {l : List Vr} : ∀ (e : Ex) (f : Ft), ofK l e = .error f → f.1 = 150 ∨ f.1 = 152 ∨ f.1 = 153
  | .mk op a nm ks, f, h => by
    rw [ofK] at h
    cases hq : kidsK l ks with
    | error f2 => rw [hq] at h; cases h; exact kids_code ks f hq
    | ok r => rw [hq] at h; exact rule_code h
theorem kids_code {l : List Vr} : ∀ (ks : List Ex) (f : Ft), kidsK l ks = .error f → f.1 = 150 ∨ f.1 = 152 ∨ f.1 = 153
  | [], f, h => by rw [kidsK] at h; cases h
  | e :: r, f, h => by
    rw [kidsK] at h
    cases hq : ofK l e with
    | error f2 => rw [hq] at h; cases h; exact of_code e f hq
    | ok k =>
      rw [hq] at h
      dsimp only at h
      cases hr : kidsK l r with
      | error f2 => rw [hr] at h; cases h; exact kids_code r f hr
      | ok r2 => rw [hr] at h; cases h
end
end Go.Knd
end

section
namespace Go.Proofs.YtoehjlmdnajibaaGreatDoor
open Go.RowKit Go.Sx
open Go.Tok Go.Tree Go.Knd

theorem rnone_ok (w : World) :
  Ret Tryz.prog 34 #[] w (fun v w' => v = .agg #[.int .i64 0, .int .i64 0] ∧ Ext w w') := by
 refine enter (S := No) (l := []) (L := []) 2 Tryz.func34 rfl rfl rfl (St.start w No) (yA (zA zr37 (fun t0b gt0b ut0b => yC (zg (fun _ => R_build bt37 rfl) (zV 0 rfl z37 rfl rfl rfl rfl rfl rfl rfl (yB (ze (r_fin (.inl rfl) rfl (.agg rfl rfl z37 (fun _ h => h.at_ 0 rfl) rfl .nil) ?_)))))))); exact fun w' hw => ⟨rfl, hw.fr _ zm0⟩

theorem rbad_ok (e : Nat) (a : Int) (w : World) :
  Ret Tryz.prog 32 #[.agg #[.int .i64 (e : Nat), .int .i64 a]] w (fun v w' => v = .bool (decide (¬ ((e : Nat) : Int) = 0)) ∧ Ext w w') := by
 refine enter (S := No) (l := [_]) (L := []) 6 Tryz.func32 rfl rfl rfl (St.start w No) (yA (w_boxA rfl (fun t1b gt1b ut1b => aB rfl (yC (zf fa37_0 rfl (zL 0 z35 rfl rfl rfl (zg (fun _ => R_ne rfl rfl) (aB rfl (yB (ze (zo (v := .bool _) rfl rfl rfl ?_))))))))))); exact fun w' hw => ⟨rfl, hw.fr _ zm0⟩

theorem bad_t (e : Nat) (a : Int) (he : ¬ e = 0) (w : World) : Ret Tryz.prog 32 #[.agg #[.int .i64 (e : Nat), .int .i64 a]] w fun v w' => v = .bool true ∧ Ext w w' := by
 have h := rbad_ok e a w
 rw [decide_eq_true (by omega)] at h; exact h
theorem bad_f (a : Int) (w : World) : Ret Tryz.prog 32 #[.agg #[.int .i64 0, .int .i64 a]] w fun v w' => v = .bool false ∧ Ext w w' := rbad_ok 0 a w

theorem rscalar_ok (t : Nat) (w : World) :
  Ret Tryz.prog 50 #[.int .u8 (t : Nat)] w (fun v w' => v = .bool (scal t) ∧ Ext w w') := by
 refine enter (S := No) (l := [_]) (L := []) 9 Tryz.func50 rfl rfl rfl (St.start w No) (yA (aB rfl (yC (mI rfl (zg (fun _ => R_eq rfl rfl) (mB rfl ?_)))))); refine zd (t := 5) rfl (fun h1 => ?_) (fun h1 => ?_)
 ·refine zs rfl rfl (bT h1) (zs rfl rfl (bT h1) (zg (v := .bool _) (fun _ => zT (bT h1) rfl) (aB rfl (yB (ze (zo (v := .bool _) rfl rfl rfl ?_)))))); exact fun w' hw => ⟨congrArg Value.bool (by clear hw; simp only [scal]; grind), hw.fr _ zm0⟩
 ·refine zw rfl rfl (bF h1) (mI rfl (zw rfl rfl (bF h1) (zg (fun _ => R_eq rfl rfl) (zg (v := .bool _) (fun _ => zF (bF h1) rfl) (aB rfl (yB (ze (zo (v := .bool _) rfl rfl rfl ?_)))))))); exact fun w' hw => ⟨congrArg Value.bool (by clear hw; simp only [scal]; grind), hw.fr _ zm0⟩

theorem rtwo_ok (op a b : Nat) (hop : op = 6 ∨ op = 7 ∨ op = 8 ∨ op = 9) (w : World) :
  Ret Tryz.prog 74 #[.int .u8 (op : Nat), .int .u8 (a : Nat), .int .u8 (b : Nat)] w (fun v w' => v = .int .u8 (twoK op a b : Nat) ∧ Ext w w') := by
 refine enter (S := No) (l := [_, _, _]) (L := []) 63 Tryz.func74 rfl rfl rfl (St.start w No) (yA ?_)
 rcases hop with rfl | rfl | rfl | rfl
 ·refine aI rfl (yB ?_); refine c_cut (fun e B L => e 0 = .int .u8 6 ∧ e 1 = .int .u8 (a : Nat) ∧ e 2 = .int .u8 (b : Nat) ∧ B = [(w, No)] ∧ L = [] ∧ (scal a && scal b) = false) ?_ ?_
  ·refine yA (mI rfl (zC (fun w => zR Tryz.func50 rfl rfl rfl) rfl rfl (fun w h => rscalar_ok _ w) (mB rfl ?_))); refine zp (t := 9) rfl (fun h1 => ?_) (fun h1 => ?_)
   ·refine zw rfl rfl (bV h1) (mI rfl (zw rfl rfl (bV h1) (zC (fun w => zR Tryz.func50 rfl rfl rfl) rfl rfl (fun w h => rscalar_ok _ w) (zg (v := .bool _) (fun _ => zT (bV h1) rfl) (yB ?_))))); refine c_cond rfl (fun h2 => ?_) (fun h2 => ?_)
    ·refine zq (yA (mI rfl (zg (fun _ => R_eq rfl rfl) (mB rfl (zw rfl rfl (congrArg Value.bool (decide_eq_false (by decide))) (mI rfl (zw rfl rfl (congrArg Value.bool (decide_eq_false (by decide))) (zg (fun _ => R_eq rfl rfl) (zg (v := .bool _) (fun _ => zF (congrArg Value.bool (decide_eq_false (by decide))) rfl) (mB rfl ?_)))))))))); refine zd (t := 19) rfl (fun h3 => ?_) (fun h3 => ?_)
     ·refine zs rfl rfl (bT h3) (zs rfl rfl (bT h3) (zg (v := .bool _) (fun _ => zT (bT h3) rfl) (yB (zE rfl (yA (aI rfl (yB (ze (zt (zt ((zo (v := .int _ _) rfl rfl rfl ?_)))))))))))); exact fun w' hw => ⟨congrArg (fun n : Nat => Value.int .u8 (n : Int)) (show _ = twoK _ a b by clear hw; unfold twoK; simp only [scal] at *; grind), hw.fr _ zm0⟩
     ·refine zw rfl rfl (bF h3) (mI rfl (zw rfl rfl (bF h3) (zg (fun _ => R_eq rfl rfl) (zg (v := .bool _) (fun _ => zF (bF h3) rfl) (yB ?_))))); refine zD rfl (fun h4 => ?_) (fun h4 => ?_)
      ·refine yA (aI rfl (yB (ze (zt (zt ((zo (v := .int _ _) rfl rfl rfl ?_))))))); exact fun w' hw => ⟨congrArg (fun n : Nat => Value.int .u8 (n : Int)) (show _ = twoK _ a b by clear hw; unfold twoK; simp only [scal] at *; grind), hw.fr _ zm0⟩
      ·refine zi (zk (yA (aI rfl (yB (ze (zt ((zo (v := .int _ _) rfl rfl rfl ?_)))))))); exact fun w' hw => ⟨congrArg (fun n : Nat => Value.int .u8 (n : Int)) (show _ = twoK _ a b by clear hw; unfold twoK; simp only [scal] at *; grind), hw.fr _ zm0⟩
    ·refine zi ?_; exact k_mid ⟨rfl, rfl, rfl, rfl, rfl, (by (rw [h2, Bool.and_false]; done))⟩
   ·refine zs rfl rfl (bV h1) (zs rfl rfl (bV h1) (zg (v := .bool _) (fun _ => zF (bV h1) rfl) (yB (zG rfl (zi ?_))))); exact k_mid ⟨rfl, rfl, rfl, rfl, rfl, (by (rw [h1, Bool.false_and]; done))⟩
  rintro e B L ⟨e0_1, e1_1, e2_1, rfl, rfl, hs⟩
  refine zq (yA (mI e0_1 (zg (fun _ => R_eq rfl rfl) (mB rfl (zs rfl rfl (congrArg Value.bool (decide_eq_true (by decide))) (zs rfl rfl (congrArg Value.bool (decide_eq_true (by decide))) (zg (v := .bool _) (fun _ => zT (congrArg Value.bool (decide_eq_true (by decide))) rfl) (mB rfl (zw rfl rfl rfl (mI e1_1 (zw rfl rfl rfl (zg (fun _ => R_eq rfl rfl) (zg (v := .bool _) (fun _ => zT rfl rfl) (mB rfl ?_)))))))))))))); refine zd (t := 33) rfl (fun h5 => ?_) (fun h5 => ?_)
  ·refine zw rfl rfl (bT h5) (mI e2_1 (zw rfl rfl (bT h5) (zg (fun _ => R_eq rfl rfl) (zg (v := .bool _) (fun _ => zT (bT h5) rfl) (yB ?_))))); refine zD rfl (fun h6 => ?_) (fun h6 => ?_)
   ·refine yA (aI rfl (yB (ze (zt ((zo (v := .int _ _) rfl rfl rfl ?_)))))); exact fun w' hw => ⟨congrArg (fun n : Nat => Value.int .u8 (n : Int)) (show _ = twoK _ a b by clear hw; unfold twoK; simp only [scal] at *; grind), hw.fr _ zm0⟩
   ·refine zi (zk (zq (yA (mI e0_1 (zg (fun _ => R_eq rfl rfl) (mB rfl (zw rfl rfl (congrArg Value.bool (decide_eq_false (by decide))) (mI e0_1 (zw rfl rfl (congrArg Value.bool (decide_eq_false (by decide))) (zg (fun _ => R_eq rfl rfl) (zg (v := .bool _) (fun _ => zF (congrArg Value.bool (decide_eq_false (by decide))) rfl) (mB rfl (zs rfl rfl (congrArg Value.bool (decide_eq_false (by decide))) (zs rfl rfl (congrArg Value.bool (decide_eq_false (by decide))) (zg (v := .bool _) (fun _ => zF (congrArg Value.bool (decide_eq_false (by decide))) rfl) (mB rfl ?_)))))))))))))))); (iterate 2 refine zs rfl rfl rfl ?_); refine zg (v := .bool _) (fun _ => zF rfl rfl) (mB rfl (zw rfl rfl rfl (mI e0_1 (zw rfl rfl rfl (zg (fun _ => R_eq rfl rfl) (zw rfl rfl rfl (mB rfl (zs rfl rfl (congrArg Value.bool (decide_eq_false (by decide))) (zs rfl rfl (congrArg Value.bool (decide_eq_false (by decide))) (zw rfl rfl rfl (zg (v := .bool _) (fun _ => zF (congrArg Value.bool (decide_eq_false (by decide))) rfl) (zw rfl rfl rfl ?_))))))))))))
    refine mB rfl ?_; (iterate 2 refine zs rfl rfl rfl ?_); refine zw rfl rfl rfl (zg (v := .bool _) (fun _ => zF rfl rfl) (zg (v := .bool _) (fun _ => zF rfl rfl) (yB (zG rfl (zi (zk (yA (aI rfl (yB (ze (zo (v := .int _ _) rfl rfl rfl ?_))))))))))); exact fun w' hw => ⟨congrArg (fun n : Nat => Value.int .u8 (n : Int)) (show _ = twoK _ a b by clear hw; unfold twoK; simp only [scal] at *; grind), hw.fr _ zm0⟩
  ·refine zs rfl rfl (bF h5) (zs rfl rfl (bF h5) (zg (v := .bool _) (fun _ => zF (bF h5) rfl) (yB (zG rfl (zi (zk (zq (yA (mI e0_1 (zg (fun _ => R_eq rfl rfl) (mB rfl (zw rfl rfl (congrArg Value.bool (decide_eq_false (by decide))) (mI e0_1 (zw rfl rfl (congrArg Value.bool (decide_eq_false (by decide))) (zg (fun _ => R_eq rfl rfl) (zg (v := .bool _) (fun _ => zF (congrArg Value.bool (decide_eq_false (by decide))) rfl) (mB rfl (zs rfl rfl (congrArg Value.bool (decide_eq_false (by decide))) (zs rfl rfl (congrArg Value.bool (decide_eq_false (by decide))) (zg (v := .bool _) (fun _ => zF (congrArg Value.bool (decide_eq_false (by decide))) rfl) (mB rfl ?_))))))))))))))))))))); (iterate 2 refine zs rfl rfl rfl ?_); refine zg (v := .bool _) (fun _ => zF rfl rfl) (mB rfl (zw rfl rfl rfl (mI e0_1 (zw rfl rfl rfl (zg (fun _ => R_eq rfl rfl) (zw rfl rfl rfl (mB rfl (zs rfl rfl (congrArg Value.bool (decide_eq_false (by decide))) (zs rfl rfl (congrArg Value.bool (decide_eq_false (by decide))) ?_)))))))))
   refine zw rfl rfl rfl (zg (v := .bool _) (fun _ => zF (congrArg Value.bool (decide_eq_false (by decide))) rfl) (zw rfl rfl rfl (mB rfl ?_))); (iterate 2 refine zs rfl rfl rfl ?_); refine zw rfl rfl rfl (zg (v := .bool _) (fun _ => zF rfl rfl) (zg (v := .bool _) (fun _ => zF rfl rfl) (yB (zG rfl (zi (zk (yA (aI rfl (yB (ze (zo (v := .int _ _) rfl rfl rfl ?_))))))))))); exact fun w' hw => ⟨congrArg (fun n : Nat => Value.int .u8 (n : Int)) (show _ = twoK _ a b by clear hw; unfold twoK; simp only [scal] at *; grind), hw.fr _ zm0⟩
 ·refine aI rfl (yB ?_); refine c_cut (fun e B L => e 0 = .int .u8 7 ∧ e 1 = .int .u8 (a : Nat) ∧ e 2 = .int .u8 (b : Nat) ∧ B = [(w, No)] ∧ L = [] ∧ (scal a && scal b) = false) ?_ ?_
  ·refine yA (mI rfl (zC (fun w => zR Tryz.func50 rfl rfl rfl) rfl rfl (fun w h => rscalar_ok _ w) (mB rfl ?_))); refine zp (t := 9) rfl (fun h7 => ?_) (fun h7 => ?_)
   ·refine zw rfl rfl (bV h7) (mI rfl (zw rfl rfl (bV h7) (zC (fun w => zR Tryz.func50 rfl rfl rfl) rfl rfl (fun w h => rscalar_ok _ w) (zg (v := .bool _) (fun _ => zT (bV h7) rfl) (yB ?_))))); refine c_cond rfl (fun h8 => ?_) (fun h8 => ?_)
    ·refine zq (yA (mI rfl (zg (fun _ => R_eq rfl rfl) (mB rfl (zw rfl rfl (congrArg Value.bool (decide_eq_false (by decide))) (mI rfl (zw rfl rfl (congrArg Value.bool (decide_eq_false (by decide))) (zg (fun _ => R_eq rfl rfl) (zg (v := .bool _) (fun _ => zF (congrArg Value.bool (decide_eq_false (by decide))) rfl) (mB rfl ?_)))))))))); refine zd (t := 19) rfl (fun h9 => ?_) (fun h9 => ?_)
     ·refine zs rfl rfl (bT h9) (zs rfl rfl (bT h9) (zg (v := .bool _) (fun _ => zT (bT h9) rfl) (yB (zE rfl (yA (aI rfl (yB (ze (zt (zt ((zo (v := .int _ _) rfl rfl rfl ?_)))))))))))); exact fun w' hw => ⟨congrArg (fun n : Nat => Value.int .u8 (n : Int)) (show _ = twoK _ a b by clear hw; unfold twoK; simp only [scal] at *; grind), hw.fr _ zm0⟩
     ·refine zw rfl rfl (bF h9) (mI rfl (zw rfl rfl (bF h9) (zg (fun _ => R_eq rfl rfl) (zg (v := .bool _) (fun _ => zF (bF h9) rfl) (yB ?_))))); refine zD rfl (fun h10 => ?_) (fun h10 => ?_)
      ·refine yA (aI rfl (yB (ze (zt (zt ((zo (v := .int _ _) rfl rfl rfl ?_))))))); exact fun w' hw => ⟨congrArg (fun n : Nat => Value.int .u8 (n : Int)) (show _ = twoK _ a b by clear hw; unfold twoK; simp only [scal] at *; grind), hw.fr _ zm0⟩
      ·refine zi (zk (yA (aI rfl (yB (ze (zt ((zo (v := .int _ _) rfl rfl rfl ?_)))))))); exact fun w' hw => ⟨congrArg (fun n : Nat => Value.int .u8 (n : Int)) (show _ = twoK _ a b by clear hw; unfold twoK; simp only [scal] at *; grind), hw.fr _ zm0⟩
    ·refine zi ?_; exact k_mid ⟨rfl, rfl, rfl, rfl, rfl, (by (rw [h8, Bool.and_false]; done))⟩
   ·refine zs rfl rfl (bV h7) (zs rfl rfl (bV h7) (zg (v := .bool _) (fun _ => zF (bV h7) rfl) (yB (zG rfl (zi ?_))))); exact k_mid ⟨rfl, rfl, rfl, rfl, rfl, (by (rw [h7, Bool.false_and]; done))⟩
  rintro e B L ⟨e0_2, e1_2, e2_2, rfl, rfl, hs⟩
  refine zq (yA (mI e0_2 (zg (fun _ => R_eq rfl rfl) (mB rfl (zw rfl rfl (congrArg Value.bool (decide_eq_false (by decide))) (mI e0_2 (zw rfl rfl (congrArg Value.bool (decide_eq_false (by decide))) (zg (fun _ => R_eq rfl rfl) (zg (v := .bool _) (fun _ => zF (congrArg Value.bool (decide_eq_false (by decide))) rfl) (mB rfl (zw rfl rfl (congrArg Value.bool (decide_eq_true (by decide))) (mI e1_2 (zw rfl rfl (congrArg Value.bool (decide_eq_true (by decide))) (zg (fun _ => R_eq rfl rfl) (zg (v := .bool _) (fun _ => zT (congrArg Value.bool (decide_eq_true (by decide))) rfl) (mB rfl ?_)))))))))))))))); refine zd (t := 33) rfl (fun h11 => ?_) (fun h11 => ?_)
  ·refine zw rfl rfl (bT h11) (mI e2_2 (zw rfl rfl (bT h11) (zg (fun _ => R_eq rfl rfl) (zg (v := .bool _) (fun _ => zT (bT h11) rfl) (yB ?_))))); refine zD rfl (fun h12 => ?_) (fun h12 => ?_)
   ·refine yA (aI rfl (yB (ze (zt ((zo (v := .int _ _) rfl rfl rfl ?_)))))); exact fun w' hw => ⟨congrArg (fun n : Nat => Value.int .u8 (n : Int)) (show _ = twoK _ a b by clear hw; unfold twoK; simp only [scal] at *; grind), hw.fr _ zm0⟩
   ·refine zi (zk (zq (yA (mI e0_2 (zg (fun _ => R_eq rfl rfl) (mB rfl (zw rfl rfl (congrArg Value.bool (decide_eq_false (by decide))) (mI e0_2 (zw rfl rfl (congrArg Value.bool (decide_eq_false (by decide))) (zg (fun _ => R_eq rfl rfl) (zg (v := .bool _) (fun _ => zF (congrArg Value.bool (decide_eq_false (by decide))) rfl) (mB rfl (zs rfl rfl (congrArg Value.bool (decide_eq_false (by decide))) (zs rfl rfl (congrArg Value.bool (decide_eq_false (by decide))) (zg (v := .bool _) (fun _ => zF (congrArg Value.bool (decide_eq_false (by decide))) rfl) (mB rfl ?_)))))))))))))))); (iterate 2 refine zs rfl rfl rfl ?_); refine zg (v := .bool _) (fun _ => zF rfl rfl) (mB rfl (zw rfl rfl rfl (mI e0_2 (zw rfl rfl rfl (zg (fun _ => R_eq rfl rfl) (zw rfl rfl rfl (mB rfl (zs rfl rfl (congrArg Value.bool (decide_eq_false (by decide))) (zs rfl rfl (congrArg Value.bool (decide_eq_false (by decide))) (zw rfl rfl rfl (zg (v := .bool _) (fun _ => zF (congrArg Value.bool (decide_eq_false (by decide))) rfl) (zw rfl rfl rfl ?_))))))))))))
    refine mB rfl ?_; (iterate 2 refine zs rfl rfl rfl ?_); refine zw rfl rfl rfl (zg (v := .bool _) (fun _ => zF rfl rfl) (zg (v := .bool _) (fun _ => zF rfl rfl) (yB (zG rfl (zi (zk (yA (aI rfl (yB (ze (zo (v := .int _ _) rfl rfl rfl ?_))))))))))); exact fun w' hw => ⟨congrArg (fun n : Nat => Value.int .u8 (n : Int)) (show _ = twoK _ a b by clear hw; unfold twoK; simp only [scal] at *; grind), hw.fr _ zm0⟩
  ·refine zs rfl rfl (bF h11) (zs rfl rfl (bF h11) (zg (v := .bool _) (fun _ => zF (bF h11) rfl) (yB (zG rfl (zi (zk (zq (yA (mI e0_2 (zg (fun _ => R_eq rfl rfl) (mB rfl (zw rfl rfl (congrArg Value.bool (decide_eq_false (by decide))) (mI e0_2 (zw rfl rfl (congrArg Value.bool (decide_eq_false (by decide))) (zg (fun _ => R_eq rfl rfl) (zg (v := .bool _) (fun _ => zF (congrArg Value.bool (decide_eq_false (by decide))) rfl) (mB rfl (zs rfl rfl (congrArg Value.bool (decide_eq_false (by decide))) (zs rfl rfl (congrArg Value.bool (decide_eq_false (by decide))) (zg (v := .bool _) (fun _ => zF (congrArg Value.bool (decide_eq_false (by decide))) rfl) (mB rfl ?_))))))))))))))))))))); (iterate 2 refine zs rfl rfl rfl ?_); refine zg (v := .bool _) (fun _ => zF rfl rfl) (mB rfl (zw rfl rfl rfl (mI e0_2 (zw rfl rfl rfl (zg (fun _ => R_eq rfl rfl) (zw rfl rfl rfl (mB rfl (zs rfl rfl (congrArg Value.bool (decide_eq_false (by decide))) (zs rfl rfl (congrArg Value.bool (decide_eq_false (by decide))) ?_)))))))))
   refine zw rfl rfl rfl (zg (v := .bool _) (fun _ => zF (congrArg Value.bool (decide_eq_false (by decide))) rfl) (zw rfl rfl rfl (mB rfl ?_))); (iterate 2 refine zs rfl rfl rfl ?_); refine zw rfl rfl rfl (zg (v := .bool _) (fun _ => zF rfl rfl) (zg (v := .bool _) (fun _ => zF rfl rfl) (yB (zG rfl (zi (zk (yA (aI rfl (yB (ze (zo (v := .int _ _) rfl rfl rfl ?_))))))))))); exact fun w' hw => ⟨congrArg (fun n : Nat => Value.int .u8 (n : Int)) (show _ = twoK _ a b by clear hw; unfold twoK; simp only [scal] at *; grind), hw.fr _ zm0⟩
 ·refine aI rfl (yB ?_); refine c_cut (fun e B L => e 0 = .int .u8 8 ∧ e 1 = .int .u8 (a : Nat) ∧ e 2 = .int .u8 (b : Nat) ∧ B = [(w, No)] ∧ L = [] ∧ (scal a && scal b) = false) ?_ ?_
  ·refine yA (mI rfl (zC (fun w => zR Tryz.func50 rfl rfl rfl) rfl rfl (fun w h => rscalar_ok _ w) (mB rfl ?_))); refine zp (t := 9) rfl (fun h13 => ?_) (fun h13 => ?_)
   ·refine zw rfl rfl (bV h13) (mI rfl (zw rfl rfl (bV h13) (zC (fun w => zR Tryz.func50 rfl rfl rfl) rfl rfl (fun w h => rscalar_ok _ w) (zg (v := .bool _) (fun _ => zT (bV h13) rfl) (yB ?_))))); refine c_cond rfl (fun h14 => ?_) (fun h14 => ?_)
    ·refine zq (yA (mI rfl (zg (fun _ => R_eq rfl rfl) (mB rfl (zw rfl rfl (congrArg Value.bool (decide_eq_false (by decide))) (mI rfl (zw rfl rfl (congrArg Value.bool (decide_eq_false (by decide))) (zg (fun _ => R_eq rfl rfl) (zg (v := .bool _) (fun _ => zF (congrArg Value.bool (decide_eq_false (by decide))) rfl) (mB rfl ?_)))))))))); refine zd (t := 19) rfl (fun h15 => ?_) (fun h15 => ?_)
     ·refine zs rfl rfl (bT h15) (zs rfl rfl (bT h15) (zg (v := .bool _) (fun _ => zT (bT h15) rfl) (yB (zE rfl (yA (aI rfl (yB (ze (zt (zt ((zo (v := .int _ _) rfl rfl rfl ?_)))))))))))); exact fun w' hw => ⟨congrArg (fun n : Nat => Value.int .u8 (n : Int)) (show _ = twoK _ a b by clear hw; unfold twoK; simp only [scal] at *; grind), hw.fr _ zm0⟩
     ·refine zw rfl rfl (bF h15) (mI rfl (zw rfl rfl (bF h15) (zg (fun _ => R_eq rfl rfl) (zg (v := .bool _) (fun _ => zF (bF h15) rfl) (yB ?_))))); refine zD rfl (fun h16 => ?_) (fun h16 => ?_)
      ·refine yA (aI rfl (yB (ze (zt (zt ((zo (v := .int _ _) rfl rfl rfl ?_))))))); exact fun w' hw => ⟨congrArg (fun n : Nat => Value.int .u8 (n : Int)) (show _ = twoK _ a b by clear hw; unfold twoK; simp only [scal] at *; grind), hw.fr _ zm0⟩
      ·refine zi (zk (yA (aI rfl (yB (ze (zt ((zo (v := .int _ _) rfl rfl rfl ?_)))))))); exact fun w' hw => ⟨congrArg (fun n : Nat => Value.int .u8 (n : Int)) (show _ = twoK _ a b by clear hw; unfold twoK; simp only [scal] at *; grind), hw.fr _ zm0⟩
    ·refine zi ?_; exact k_mid ⟨rfl, rfl, rfl, rfl, rfl, (by (rw [h14, Bool.and_false]; done))⟩
   ·refine zs rfl rfl (bV h13) (zs rfl rfl (bV h13) (zg (v := .bool _) (fun _ => zF (bV h13) rfl) (yB (zG rfl (zi ?_))))); exact k_mid ⟨rfl, rfl, rfl, rfl, rfl, (by (rw [h13, Bool.false_and]; done))⟩
  rintro e B L ⟨e0_3, e1_3, e2_3, rfl, rfl, hs⟩
  refine zq (yA (mI e0_3 (zg (fun _ => R_eq rfl rfl) (mB rfl (zw rfl rfl (congrArg Value.bool (decide_eq_false (by decide))) (mI e0_3 (zw rfl rfl (congrArg Value.bool (decide_eq_false (by decide))) (zg (fun _ => R_eq rfl rfl) (zg (v := .bool _) (fun _ => zF (congrArg Value.bool (decide_eq_false (by decide))) rfl) (mB rfl (zs rfl rfl (congrArg Value.bool (decide_eq_false (by decide))) (zs rfl rfl (congrArg Value.bool (decide_eq_false (by decide))) (zg (v := .bool _) (fun _ => zF (congrArg Value.bool (decide_eq_false (by decide))) rfl) (mB rfl ?_)))))))))))))); (iterate 2 refine zs rfl rfl rfl ?_); refine zg (v := .bool _) (fun _ => zF rfl rfl) (yB (zG rfl (zi (zk (zq (yA (mI e0_3 (zg (fun _ => R_eq rfl rfl) (mB rfl (zs rfl rfl (congrArg Value.bool (decide_eq_true (by decide))) (zs rfl rfl (congrArg Value.bool (decide_eq_true (by decide))) (zg (v := .bool _) (fun _ => zT (congrArg Value.bool (decide_eq_true (by decide))) rfl) ?_))))))))))))
  refine mB rfl (zw rfl rfl rfl (mI e1_3 (zw rfl rfl rfl (zg (fun _ => R_eq rfl rfl) (zg (v := .bool _) (fun _ => zT rfl rfl) (mB rfl ?_)))))); refine zd (t := 47) rfl (fun h17 => ?_) (fun h17 => ?_)
  ·refine zw rfl rfl (bT h17) (mI e2_3 (zw rfl rfl (bT h17) (zC (fun w => zR Tryz.func50 rfl rfl rfl) rfl rfl (fun w h => rscalar_ok _ w) (zg (v := .bool _) (fun _ => zT (bT h17) rfl) (mB rfl ?_))))); refine zp (t := 51) rfl (fun h18 => ?_) (fun h18 => ?_)
   ·refine zs rfl rfl (bV h18) (zs rfl rfl (bV h18) (zs rfl rfl (bV h18) (zU rfl rfl rfl (zU rfl rfl rfl (zs rfl rfl (bV h18) (zs rfl rfl (bV h18) (zU rfl rfl rfl (zU rfl rfl rfl (zs rfl rfl (bV h18) (zg (v := .bool _) (fun _ => zT (bV h18) rfl) (yB (zE rfl (yA (aI rfl (yB (ze (zt ((zo (v := .int _ _) rfl rfl rfl ?_))))))))))))))))))); exact fun w' hw => ⟨congrArg (fun n : Nat => Value.int .u8 (n : Int)) (show _ = twoK _ a b by clear hw; unfold twoK; simp only [scal] at *; grind), hw.fr _ zm0⟩
   ·refine zw rfl rfl (bV h18) (mI e0_3 (zw rfl rfl (bV h18) (zg (fun _ => R_eq rfl rfl) (zw rfl rfl (bV h18) (mB rfl (zw rfl rfl (congrArg Value.bool (decide_eq_true (by decide))) (mI e1_3 (zw rfl rfl (congrArg Value.bool (decide_eq_true (by decide))) (zC (fun w => zR Tryz.func50 rfl rfl rfl) rfl rfl (fun w h => rscalar_ok _ w) (zw rfl rfl (bV h18) (zg (v := .bool _) (fun _ => zT (congrArg Value.bool (decide_eq_true (by decide))) rfl) (zw rfl rfl (bV h18) (mB rfl ?_))))))))))))); refine zp (t := 58) rfl (fun h19 => ?_) (fun h19 => ?_)
    ·refine zw rfl rfl (bV h19) (mI e2_3 (zw rfl rfl (bV h19) (zg (fun _ => R_eq rfl rfl) (zw rfl rfl (bV h18) (zg (v := .bool _) (fun _ => zT (bV h19) rfl) (zg (v := .bool _) (fun _ => zF (bV h18) rfl) (yB ?_))))))); refine zD rfl (fun h20 => ?_) (fun h20 => ?_)
     ·refine yA (aI rfl (yB (ze (zt ((zo (v := .int _ _) rfl rfl rfl ?_)))))); exact fun w' hw => ⟨congrArg (fun n : Nat => Value.int .u8 (n : Int)) (show _ = twoK _ a b by clear hw; unfold twoK; simp only [scal] at *; grind), hw.fr _ zm0⟩
     ·refine zi (zk (yA (aI rfl (yB (ze (zo (v := .int _ _) rfl rfl rfl ?_)))))); exact fun w' hw => ⟨congrArg (fun n : Nat => Value.int .u8 (n : Int)) (show _ = twoK _ a b by clear hw; unfold twoK; simp only [scal] at *; grind), hw.fr _ zm0⟩
    ·refine zs rfl rfl (bV h19) (zs rfl rfl (bV h19) (zw rfl rfl (bV h18) (zg (v := .bool _) (fun _ => zF (bV h19) rfl) (zg (v := .bool _) (fun _ => zF (bV h18) rfl) (yB (zG rfl (zi (zk (yA (aI rfl (yB (ze (zo (v := .int _ _) rfl rfl rfl ?_))))))))))))); exact fun w' hw => ⟨congrArg (fun n : Nat => Value.int .u8 (n : Int)) (show _ = twoK _ a b by clear hw; unfold twoK; simp only [scal] at *; grind), hw.fr _ zm0⟩
  ·refine zs rfl rfl (bF h17) (zs rfl rfl (bF h17) (zg (v := .bool _) (fun _ => zF (bF h17) rfl) (mB rfl (zw rfl rfl rfl (mI e0_3 (zw rfl rfl rfl (zg (fun _ => R_eq rfl rfl) (zw rfl rfl rfl (mB rfl (zw rfl rfl (congrArg Value.bool (decide_eq_true (by decide))) (mI e1_3 (zw rfl rfl (congrArg Value.bool (decide_eq_true (by decide))) (zC (fun w => zR Tryz.func50 rfl rfl rfl) rfl rfl (fun w h => rscalar_ok _ w) (zw rfl rfl rfl (zg (v := .bool _) (fun _ => zT (congrArg Value.bool (decide_eq_true (by decide))) rfl) (zw rfl rfl rfl (mB rfl ?_)))))))))))))))))
   refine zp (t := 58) rfl (fun h21 => ?_) (fun h21 => ?_)
   ·refine zw rfl rfl (bV h21) (mI e2_3 (zw rfl rfl (bV h21) (zg (fun _ => R_eq rfl rfl) (zw rfl rfl rfl (zg (v := .bool _) (fun _ => zT (bV h21) rfl) (zg (v := .bool _) (fun _ => zF rfl rfl) (yB ?_))))))); refine zD rfl (fun h22 => ?_) (fun h22 => ?_)
    ·refine yA (aI rfl (yB (ze (zt ((zo (v := .int _ _) rfl rfl rfl ?_)))))); exact fun w' hw => ⟨congrArg (fun n : Nat => Value.int .u8 (n : Int)) (show _ = twoK _ a b by clear hw; unfold twoK; simp only [scal] at *; grind), hw.fr _ zm0⟩
    ·refine zi (zk (yA (aI rfl (yB (ze (zo (v := .int _ _) rfl rfl rfl ?_)))))); exact fun w' hw => ⟨congrArg (fun n : Nat => Value.int .u8 (n : Int)) (show _ = twoK _ a b by clear hw; unfold twoK; simp only [scal] at *; grind), hw.fr _ zm0⟩
   ·refine zs rfl rfl (bV h21) (zs rfl rfl (bV h21) (zw rfl rfl rfl (zg (v := .bool _) (fun _ => zF (bV h21) rfl) (zg (v := .bool _) (fun _ => zF rfl rfl) (yB (zG rfl (zi (zk (yA (aI rfl (yB (ze (zo (v := .int _ _) rfl rfl rfl ?_))))))))))))); exact fun w' hw => ⟨congrArg (fun n : Nat => Value.int .u8 (n : Int)) (show _ = twoK _ a b by clear hw; unfold twoK; simp only [scal] at *; grind), hw.fr _ zm0⟩
 ·refine aI rfl (yB ?_); refine c_cut (fun e B L => e 0 = .int .u8 9 ∧ e 1 = .int .u8 (a : Nat) ∧ e 2 = .int .u8 (b : Nat) ∧ B = [(w, No)] ∧ L = [] ∧ (scal a && scal b) = false) ?_ ?_
  ·refine yA (mI rfl (zC (fun w => zR Tryz.func50 rfl rfl rfl) rfl rfl (fun w h => rscalar_ok _ w) (mB rfl ?_))); refine zp (t := 9) rfl (fun h23 => ?_) (fun h23 => ?_)
   ·refine zw rfl rfl (bV h23) (mI rfl (zw rfl rfl (bV h23) (zC (fun w => zR Tryz.func50 rfl rfl rfl) rfl rfl (fun w h => rscalar_ok _ w) (zg (v := .bool _) (fun _ => zT (bV h23) rfl) (yB ?_))))); refine c_cond rfl (fun h24 => ?_) (fun h24 => ?_)
    ·refine zq (yA (mI rfl (zg (fun _ => R_eq rfl rfl) (mB rfl (zs rfl rfl (congrArg Value.bool (decide_eq_true (by decide))) (zs rfl rfl (congrArg Value.bool (decide_eq_true (by decide))) (zg (v := .bool _) (fun _ => zT (congrArg Value.bool (decide_eq_true (by decide))) rfl) (mB rfl ?_)))))))); (iterate 2 refine zs rfl rfl rfl ?_); refine zg (v := .bool _) (fun _ => zT rfl rfl) (yB (zE rfl (yA (aI rfl (yB (ze (zt (zt (?_)))))))))
     refine zo (v := .int _ _) rfl rfl rfl ?_; exact fun w' hw => ⟨congrArg (fun n : Nat => Value.int .u8 (n : Int)) (show _ = twoK _ a b by clear hw; unfold twoK; simp only [scal] at *; grind), hw.fr _ zm0⟩
    ·refine zi ?_; exact k_mid ⟨rfl, rfl, rfl, rfl, rfl, (by (rw [h24, Bool.and_false]; done))⟩
   ·refine zs rfl rfl (bV h23) (zs rfl rfl (bV h23) (zg (v := .bool _) (fun _ => zF (bV h23) rfl) (yB (zG rfl (zi ?_))))); exact k_mid ⟨rfl, rfl, rfl, rfl, rfl, (by (rw [h23, Bool.false_and]; done))⟩
  rintro e B L ⟨e0_4, e1_4, e2_4, rfl, rfl, hs⟩
  refine zq (yA (mI e0_4 (zg (fun _ => R_eq rfl rfl) (mB rfl (zw rfl rfl (congrArg Value.bool (decide_eq_false (by decide))) (mI e0_4 (zw rfl rfl (congrArg Value.bool (decide_eq_false (by decide))) (zg (fun _ => R_eq rfl rfl) (zg (v := .bool _) (fun _ => zF (congrArg Value.bool (decide_eq_false (by decide))) rfl) (mB rfl (zs rfl rfl (congrArg Value.bool (decide_eq_false (by decide))) (zs rfl rfl (congrArg Value.bool (decide_eq_false (by decide))) (zg (v := .bool _) (fun _ => zF (congrArg Value.bool (decide_eq_false (by decide))) rfl) (mB rfl ?_)))))))))))))); (iterate 2 refine zs rfl rfl rfl ?_); refine zg (v := .bool _) (fun _ => zF rfl rfl) (yB (zG rfl (zi (zk (zq (yA (mI e0_4 (zg (fun _ => R_eq rfl rfl) (mB rfl (zw rfl rfl (congrArg Value.bool (decide_eq_false (by decide))) (mI e0_4 (zw rfl rfl (congrArg Value.bool (decide_eq_false (by decide))) (zg (fun _ => R_eq rfl rfl) (zg (v := .bool _) (fun _ => zF (congrArg Value.bool (decide_eq_false (by decide))) rfl) ?_))))))))))))))
  refine mB rfl (zw rfl rfl (congrArg Value.bool (decide_eq_true (by decide))) (mI e1_4 (zw rfl rfl (congrArg Value.bool (decide_eq_true (by decide))) (zg (fun _ => R_eq rfl rfl) (zg (v := .bool _) (fun _ => zT (congrArg Value.bool (decide_eq_true (by decide))) rfl) (mB rfl ?_)))))); refine zd (t := 47) rfl (fun h25 => ?_) (fun h25 => ?_)
  ·refine zw rfl rfl (bT h25) (mI e2_4 (zw rfl rfl (bT h25) (zC (fun w => zR Tryz.func50 rfl rfl rfl) rfl rfl (fun w h => rscalar_ok _ w) (zg (v := .bool _) (fun _ => zT (bT h25) rfl) (mB rfl ?_))))); refine zp (t := 51) rfl (fun h26 => ?_) (fun h26 => ?_)
   ·refine zs rfl rfl (bV h26) (zs rfl rfl (bV h26) (zs rfl rfl (bV h26) (zU rfl rfl rfl (zU rfl rfl rfl (zs rfl rfl (bV h26) (zs rfl rfl (bV h26) (zU rfl rfl rfl (zU rfl rfl rfl (zs rfl rfl (bV h26) (zg (v := .bool _) (fun _ => zT (bV h26) rfl) (yB (zE rfl (yA (aI rfl (yB (ze (zt ((zo (v := .int _ _) rfl rfl rfl ?_))))))))))))))))))); exact fun w' hw => ⟨congrArg (fun n : Nat => Value.int .u8 (n : Int)) (show _ = twoK _ a b by clear hw; unfold twoK; simp only [scal] at *; grind), hw.fr _ zm0⟩
   ·refine zw rfl rfl (bV h26) (mI e0_4 (zw rfl rfl (bV h26) (zg (fun _ => R_eq rfl rfl) (zw rfl rfl (bV h26) (mB rfl (zs rfl rfl (congrArg Value.bool (decide_eq_false (by decide))) (zs rfl rfl (congrArg Value.bool (decide_eq_false (by decide))) (zw rfl rfl (bV h26) (zg (v := .bool _) (fun _ => zF (congrArg Value.bool (decide_eq_false (by decide))) rfl) (zw rfl rfl (bV h26) (mB rfl ?_))))))))))); (iterate 2 refine zs rfl rfl rfl ?_); refine zw rfl rfl (bV h26) (zg (v := .bool _) (fun _ => zF rfl rfl) (zg (v := .bool _) (fun _ => zF (bV h26) rfl) (zn ?_)))
    refine zk (zG rfl (zi (zk (yA (aI rfl (yB (ze (zo (v := .int _ _) rfl rfl rfl ?_)))))))); exact fun w' hw => ⟨congrArg (fun n : Nat => Value.int .u8 (n : Int)) (show _ = twoK _ a b by clear hw; unfold twoK; simp only [scal] at *; grind), hw.fr _ zm0⟩
  ·refine zs rfl rfl (bF h25) (zs rfl rfl (bF h25) (zg (v := .bool _) (fun _ => zF (bF h25) rfl) (mB rfl (zw rfl rfl rfl (mI e0_4 (zw rfl rfl rfl (zg (fun _ => R_eq rfl rfl) (zw rfl rfl rfl (mB rfl (zs rfl rfl (congrArg Value.bool (decide_eq_false (by decide))) (zs rfl rfl (congrArg Value.bool (decide_eq_false (by decide))) (zw rfl rfl rfl (zg (v := .bool _) (fun _ => zF (congrArg Value.bool (decide_eq_false (by decide))) rfl) (zw rfl rfl rfl (mB rfl ?_))))))))))))))); (iterate 2 refine zs rfl rfl rfl ?_); refine zw rfl rfl rfl (zg (v := .bool _) (fun _ => zF rfl rfl) (zg (v := .bool _) (fun _ => zF rfl rfl) (yB (zG rfl (zi (zk (yA (aI rfl (yB (ze (zo (v := .int _ _) rfl rfl rfl ?_))))))))))); exact fun w' hw => ⟨congrArg (fun n : Nat => Value.int .u8 (n : Int)) (show _ = twoK _ a b by clear hw; unfold twoK; simp only [scal] at *; grind), hw.fr _ zm0⟩

theorem rint_ok (s : Str) (hs : s.length ≤ 10000000) (w : World) :
  Ret Tryz.prog 72 #[str s] w (fun v w' => v = .bool (digitsK s) ∧ Ext w w') := by
 refine enter (S := No) (l := [_]) (L := []) 23 Tryz.func72 rfl rfl rfl (St.start w No) (yA (aB rfl (yB (zq (yA (aI rfl (yB (zB (c_loop (fun m e B L => ∃ (k : Nat), e 0 = str s ∧ e 3 = .int .i64 (k : Nat) ∧ B = [(w, No)] ∧ L = [] ∧ k ≤ s.length ∧ (∀ b ∈ s.take k, (!(decide (48 ≤ b.toNat) && decide (b.toNat ≤ 57))) = false) ∧ m = s.length - k) _ ⟨0, rfl, rfl, rfl, rfl, Nat.zero_le _, (by simp), rfl⟩ ?_)))))))))
 rintro m e B L ⟨k, e0_1, e3_1, rfl, rfl, hk, hy, rfl⟩
 refine zq (yA (mI e3_1 (zm (v := str _) e0_1 (zg (fun _ => R_slen st9 rfl (by omega)) (zg (fun _ => R_lt rfl rfl) (yB ?_)))))); refine zD rfl (fun h1 => ?_) (fun h1 => ?_)
 ·refine zi (zk (zq (zB (yA (zm (v := str _) e0_1 (mI e3_1 (w_sidx st9 rfl rfl (by omega) (zg (fun _ => R_lt rfl rfl) (mB rfl ?_))))))))); refine zd (t := 14) rfl (fun h2 => ?_) (fun h2 => ?_)
  ·refine zs rfl rfl (bT h2) (zs rfl rfl (bT h2) (zs rfl rfl (bT h2) (zs rfl rfl (bT h2) (zg (v := .bool _) (fun _ => zT (bT h2) rfl) (yB (zE rfl (yA (aB rfl (yB (ze (zb (zt (zt (zb (zt ((zo (v := .bool _) rfl rfl rfl ?_))))))))))))))))); exact fun w' hw => ⟨congrArg Value.bool (by unfold digitsK; (rw [dig_all, any_yes (List.getElem?_eq_getElem (show k < s.length by omega)) (by clear hw; grind), Bool.not_true, Bool.and_false])), hw.fr _ zm0⟩
  ·refine zw rfl rfl (bF h2) (zm (v := str _) e0_1 (zw rfl rfl (bF h2) (mI e3_1 (zw rfl rfl (bF h2) (w_sidx st9 rfl rfl (by omega) (zw rfl rfl (bF h2) (zg (fun _ => R_gt rfl rfl) (zg (v := .bool _) (fun _ => zF (bF h2) rfl) (yB ?_))))))))); refine zD rfl (fun h3 => ?_) (fun h3 => ?_)
   ·refine yA (aB rfl (yB (ze (zb (zt (zt (zb (zt ((zo (v := .bool _) rfl rfl rfl ?_)))))))))); exact fun w' hw => ⟨congrArg Value.bool (by unfold digitsK; (rw [dig_all, any_yes (List.getElem?_eq_getElem (show k < s.length by omega)) (by clear hw; grind), Bool.not_true, Bool.and_false])), hw.fr _ zm0⟩
   ·refine zi (zO (zk (zr (mI e3_1 (zg (fun _ => R_addi rfl rfl (by omega)) (aI rfl (zn ?_))))))); exact k_again _ (by omega) ⟨k + 1, e0_1, rfl, rfl, rfl, by omega, take_all hy (List.getElem?_eq_getElem (by omega)) (by grind), rfl⟩
 ·refine zX (zx (zx (b_here rfl (zk (yA (zm (v := str _) e0_1 (zg (fun _ => R_slen st9 rfl (by omega)) (zg (fun _ => R_le rfl rfl) (aB rfl (yB (ze (zo (v := .bool _) rfl rfl rfl ?_)))))))))))); exact fun w' hw => ⟨congrArg Value.bool (by unfold digitsK; (rw [dig_all, any_of_take hy (by omega), Bool.not_false, Bool.and_true, Bool.eq_iff_iff]; simp only [decide_eq_true_eq]; omega)), hw.fr _ zm0⟩

theorem rFind_ok (vs : List Vr) (va : Option Addr) (vc : Nat) (nm : Str) (w : World) (hv : vrsV w (fun _ => True) vs (va, vc)) (hvl : vs.length ≤ 90000000) :
  Ret Tryz.prog 48 #[.slice va vs.length vc, str nm] w (fun v w' => v = .tuple #[.agg (vrO (findV vs nm)).toArray, .bool (findV vs nm).isSome] ∧ Ext w w') := by
 refine enter (S := No) (l := [_, _]) (L := []) 26 Tryz.func48 rfl rfl rfl (St.start w No) (yA (zA zr54 (fun t4b gt4b ut4b => aB rfl (yB (zq (yA (mS rfl (zg (fun _ => R_len sl34 rfl) (zg (fun _ => R_subi rfl rfl (by omega)) (aI rfl (yB (zB (c_loop (fun m e B L => ∃ (k : Nat), e 0 = .slice va vs.length vc ∧ e 1 = str nm ∧ e 4 = .pointer (some ⟨t4b, 0, none⟩) ∧ e 6 = .int .i64 ((k : Nat) - 1) ∧ B = [(w, No)] ∧ L = [(t4b, cel (vrO none) 54)] ∧ k ≤ vs.length ∧ findV vs nm = findV (vs.take k) nm ∧ m = k + 1) _ ⟨vs.length, rfl, rfl, rfl, rfl, rfl, rfl, Nat.le_refl _, (findV_full (Nat.le_refl _)).symm, rfl⟩ ?_)))))))))))))
 rintro m e B L ⟨k, e0_1, e1_1, e4_1, e6_1, rfl, rfl, hk, hf, rfl⟩
 refine zq (yA (mI e6_1 (zg (fun _ => R_ge rfl rfl) (yB ?_)))); refine zD rfl (fun h2 => ?_) (fun h2 => ?_)
 ·obtain ⟨q, rfl⟩ : ∃ q, k = q + 1 := ⟨k - 1, by omega⟩; have e6q : e 6 = .int .i64 ((q : Nat) : Int) := e6_1.trans (congrArg (Value.int .i64) (by omega)); have hlt : q < vs.length := (by omega); obtain ⟨v, hxk⟩ : ∃ x, vs[q]? = some x := ⟨_, List.getElem?_eq_getElem hlt⟩; have hA := hv.2 q v hxk; have hA1 : ∃ b1 o1, va = some ⟨b1, o1, none⟩ := hA.ptr; obtain ⟨b1, o1, rfl⟩ := hA1
  refine zi (zk (zq (zB (yA (mS e0_1 (mI e6q (zg (fun _ => R_iaN (i := q) sl34 rfl rfl (by omega)) (zf fa54_0 rfl (zl (v := str v.nm) z9 rfl (fun w h => hA.cell (x := (_, No)) (fun _ _ h => h) zm0 h 0 _ rfl) (zm (v := str _) e1_1 (zg (fun _ => R_seq rfl rfl) (yB ?_)))))))))))); refine zD rfl (fun h3 => ?_) (fun h3 => ?_)
  ·refine yA (mS e0_1 (mI e6q (zg (fun _ => R_iaN (i := q) sl34 rfl rfl (by omega)) (w_loadC (l := vrC v) z54 rfl rfl (fun w h j v hj => hA.cell (x := (_, No)) (fun _ _ h => h) zm0 h j v hj) (zV 0 rfl z54 e4_1 rfl rfl rfl rfl rfl rfl (aB rfl (yB (ze (zb (zt (zt (zb (zt ((r_fin (.inl rfl) rfl (.agg rfl e4_1 z54 (fun _ h => h.at_ 0 rfl) rfl (.tmp rfl rfl .nil)) ?_))))))))))))))); exact fun w' hw => ⟨by rw [hf.trans ((findV_take hxk).trans (if_pos h3))]; rfl, hw.fr _ zm0⟩
  ·refine zi (zO (zk (zr (mI e6q (zg (fun _ => R_subi rfl rfl (by omega)) (aI rfl (zn ?_))))))); exact k_again _ (by omega) ⟨q, e0_1, e1_1, e4_1, rfl, rfl, rfl, by omega, (hf.trans ((findV_take hxk).trans (if_neg h3))), rfl⟩
 ·refine zX (zx (zx (b_here rfl (zk (yA (zg (fun _ => R_build bt54 rfl) (zV 0 rfl z54 e4_1 rfl rfl rfl rfl rfl rfl (aB rfl (yB (ze (r_fin (.inl rfl) rfl (.agg rfl e4_1 z54 (fun _ h => h.at_ 0 rfl) rfl (.tmp rfl rfl .nil)) ?_))))))))))); exact fun w' hw => ⟨by obtain rfl : k = 0 := (by omega); rw [hf, show List.take 0 vs = [] from rfl, findV_none]; rfl, hw.fr _ zm0⟩

theorem rc_real {nm : Str} {ts : List Nat} (h : nm ∈ ([[101, 120, 112], [108, 111, 103], [115, 113, 114, 116], [115, 113, 117, 97, 114, 101], [105, 110, 118, 95, 108, 111, 103, 105, 116]] : List Str)) : rcall nm ts = some (if scal (oneY ts) = true then 2 else if oneY ts = 3 then 3 else 0) := by unfold rcall; rw [if_pos h]
theorem rc_sum (ts : List Nat) : rcall [115, 117, 109] ts = some (if oneY ts = 4 then 1 else if oneY ts = 3 ∨ oneY ts = 5 then 2 else 0) := by unfold rcall; rw [if_neg (by decide), if_pos rfl]
theorem rc_dot (ts : List Nat) : rcall [100, 111, 116] ts = some (if ts.length = 2 ∧ ts.getD 0 0 = 3 ∧ ts.getD 1 0 = 3 then 2 else 0) := by unfold rcall; rw [if_neg (by decide), if_neg (by decide), if_pos rfl]
theorem rc_size (ts : List Nat) : rcall [115, 105, 122, 101] ts = some (if 3 ≤ oneY ts ∧ oneY ts ≤ 5 then 1 else 0) := by unfold rcall; rw [if_neg (by decide), if_neg (by decide), if_neg (by decide), if_pos rfl]
theorem rc_none {nm : Str} {ts : List Nat} (h1 : ¬ nm ∈ ([[101, 120, 112], [108, 111, 103], [115, 113, 114, 116], [115, 113, 117, 97, 114, 101], [105, 110, 118, 95, 108, 111, 103, 105, 116]] : List Str)) (h2 : ¬ nm = [115, 117, 109]) (h3 : ¬ nm = [100, 111, 116]) (h4 : ¬ nm = [115, 105, 122, 101]) : rcall nm ts = none := by unfold rcall; rw [if_neg h1, if_neg h2, if_neg h3, if_neg h4]
theorem rcv {o : Option Nat} {t n : Nat} (h : o = some t) (hn : t = n) : Value.tuple #[.int .u8 (n : Nat), .bool true] = .tuple #[.int .u8 (o.getD 0 : Nat), .bool o.isSome] := by subst hn; rw [h]; rfl

theorem rcall_ok (nm : Str) (ts : List Nat) (a : Option Addr) (c : Nat) (w : World) (hl : ts.length ≤ 10000000) (hT : ∀ (j t : Nat), ts[j]? = some t → ∃ b, a = some ⟨b, 0, none⟩ ∧ w.cell? ⟨b, j, none⟩ = some (.int .u8 (t : Nat))) :
  Ret Tryz.prog 73 #[str nm, .slice a ts.length c] w (fun v w' => v = (.tuple #[.int .u8 ((rcall nm ts).getD 0 : Nat), .bool (rcall nm ts).isSome]) ∧ Ext w w') := by
 refine enter (S := No) (l := [_, _]) (L := []) 59 Tryz.func73 rfl rfl rfl (St.start w No) (yA (aI rfl (aB rfl (yC (aI rfl (yB ?_)))))); refine c_cut (fun e B L => e 0 = str nm ∧ e 1 = .slice a ts.length c ∧ e 6 = .int .u8 (oneY ts : Nat) ∧ B = [(w, No)] ∧ L = []) ?_ ?_
 ·refine yA (mS rfl (zg (fun _ => R_len sl115 rfl) (zg (fun _ => R_eq rfl rfl) (yB ?_)))); refine zD rfl (fun h1 => ?_) (fun h1 => ?_)
  ·obtain ⟨tb, rfl, hc0⟩ := hT 0 (ts.getD 0 0) (at_get (by omega))
   refine zr (mS rfl (zg (fun _ => R_iaN (i := 0) sl115 rfl rfl (by omega)) (zl (v := .int .u8 (ts.getD 0 0 : Nat)) z5 rfl (fun w h => cel_old zm0 (by rw [Nat.zero_add]; exact hc0) (fun x => x) h) (aI rfl (zn ?_))))); exact k_mid ⟨rfl, rfl, (congrArg (fun n : Nat => Value.int .u8 (n : Int)) (show _ = oneY ts by unfold oneY; rw [if_pos (by omega)])), rfl, rfl⟩
  ·refine zi ?_; exact k_mid ⟨rfl, rfl, (congrArg (fun n : Nat => Value.int .u8 (n : Int)) (show 0 = oneY ts by unfold oneY; rw [if_neg (by omega)])), rfl, rfl⟩
 rintro e B L ⟨e0_1, e1_1, e6_1, rfl, rfl⟩
 refine zq (yA (zm (v := str _) e0_1 (yB (zB (zq (yA (zg (fun _ => R_seq rfl rfl) (aB rfl (yB ?_))))))))); refine zD rfl (fun h2 => ?_) (fun h2 => ?_)
 ·refine zi (zk (zE (bT h2) (zq (yA (mI e6_1 (zC (fun w => zR Tryz.func50 rfl rfl rfl) rfl rfl (fun w h => rscalar_ok _ w) (yB ?_))))))); refine c_cond rfl (fun h3 => ?_) (fun h3 => ?_)
  ·refine yA (aI rfl (aB rfl (yB (ze (zt (zb (zt ((r_two (v := .int _ _) (v2 := .bool _) rfl rfl rfl rfl rfl ?_))))))))); exact fun w' hw => ⟨by exact rcv (rc_real (by clear hw; simp only [List.mem_cons, List.not_mem_nil, or_false]; grind)) (by clear hw; simp only [scal] at *; grind), hw.fr _ zm0⟩
  ·refine zi (zk (zq (yA (mI e6_1 (zg (fun _ => R_eq rfl rfl) (yB ?_)))))); refine zD rfl (fun h4 => ?_) (fun h4 => ?_)
   ·refine yA (aI rfl (aB rfl (yB (ze (zt (zb (zt ((r_two (v := .int _ _) (v2 := .bool _) rfl rfl rfl rfl rfl ?_))))))))); exact fun w' hw => ⟨by exact rcv (rc_real (by clear hw; simp only [List.mem_cons, List.not_mem_nil, or_false]; grind)) (by clear hw; simp only [scal] at *; grind), hw.fr _ zm0⟩
   ·refine zi (zk (yA (aI rfl (aB rfl (yB (ze (zb (zt ((r_two (v := .int _ _) (v2 := .bool _) rfl rfl rfl rfl rfl ?_)))))))))); exact fun w' hw => ⟨by exact rcv (rc_real (by clear hw; simp only [List.mem_cons, List.not_mem_nil, or_false]; grind)) (by clear hw; simp only [scal] at *; grind), hw.fr _ zm0⟩
 ·refine yA (zg (fun _ => R_seq rfl rfl) (aB rfl (yB ?_))); refine zD rfl (fun h5 => ?_) (fun h5 => ?_)
  ·refine zi (zk (zE (bT h5) (zq (yA (mI e6_1 (zC (fun w => zR Tryz.func50 rfl rfl rfl) rfl rfl (fun w h => rscalar_ok _ w) (yB ?_))))))); refine c_cond rfl (fun h6 => ?_) (fun h6 => ?_)
   ·refine yA (aI rfl (aB rfl (yB (ze (zt (zb (zt ((r_two (v := .int _ _) (v2 := .bool _) rfl rfl rfl rfl rfl ?_))))))))); exact fun w' hw => ⟨by exact rcv (rc_real (by clear hw; simp only [List.mem_cons, List.not_mem_nil, or_false]; grind)) (by clear hw; simp only [scal] at *; grind), hw.fr _ zm0⟩
   ·refine zi (zk (zq (yA (mI e6_1 (zg (fun _ => R_eq rfl rfl) (yB ?_)))))); refine zD rfl (fun h7 => ?_) (fun h7 => ?_)
    ·refine yA (aI rfl (aB rfl (yB (ze (zt (zb (zt ((r_two (v := .int _ _) (v2 := .bool _) rfl rfl rfl rfl rfl ?_))))))))); exact fun w' hw => ⟨by exact rcv (rc_real (by clear hw; simp only [List.mem_cons, List.not_mem_nil, or_false]; grind)) (by clear hw; simp only [scal] at *; grind), hw.fr _ zm0⟩
    ·refine zi (zk (yA (aI rfl (aB rfl (yB (ze (zb (zt ((r_two (v := .int _ _) (v2 := .bool _) rfl rfl rfl rfl rfl ?_)))))))))); exact fun w' hw => ⟨by exact rcv (rc_real (by clear hw; simp only [List.mem_cons, List.not_mem_nil, or_false]; grind)) (by clear hw; simp only [scal] at *; grind), hw.fr _ zm0⟩
  ·refine yA (zg (fun _ => R_seq rfl rfl) (aB rfl (yB ?_))); refine zD rfl (fun h8 => ?_) (fun h8 => ?_)
   ·refine zi (zk (zE (bT h8) (zq (yA (mI e6_1 (zC (fun w => zR Tryz.func50 rfl rfl rfl) rfl rfl (fun w h => rscalar_ok _ w) (yB ?_))))))); refine c_cond rfl (fun h9 => ?_) (fun h9 => ?_)
    ·refine yA (aI rfl (aB rfl (yB (ze (zt (zb (zt ((r_two (v := .int _ _) (v2 := .bool _) rfl rfl rfl rfl rfl ?_))))))))); exact fun w' hw => ⟨by exact rcv (rc_real (by clear hw; simp only [List.mem_cons, List.not_mem_nil, or_false]; grind)) (by clear hw; simp only [scal] at *; grind), hw.fr _ zm0⟩
    ·refine zi (zk (zq (yA (mI e6_1 (zg (fun _ => R_eq rfl rfl) (yB ?_)))))); refine zD rfl (fun h10 => ?_) (fun h10 => ?_)
     ·refine yA (aI rfl (aB rfl (yB (ze (zt (zb (zt ((r_two (v := .int _ _) (v2 := .bool _) rfl rfl rfl rfl rfl ?_))))))))); exact fun w' hw => ⟨by exact rcv (rc_real (by clear hw; simp only [List.mem_cons, List.not_mem_nil, or_false]; grind)) (by clear hw; simp only [scal] at *; grind), hw.fr _ zm0⟩
     ·refine zi (zk (yA (aI rfl (aB rfl (yB (ze (zb (zt ((r_two (v := .int _ _) (v2 := .bool _) rfl rfl rfl rfl rfl ?_)))))))))); exact fun w' hw => ⟨by exact rcv (rc_real (by clear hw; simp only [List.mem_cons, List.not_mem_nil, or_false]; grind)) (by clear hw; simp only [scal] at *; grind), hw.fr _ zm0⟩
   ·refine yA (zg (fun _ => R_seq rfl rfl) (aB rfl (yB ?_))); refine zD rfl (fun h11 => ?_) (fun h11 => ?_)
    ·refine zi (zk (zE (bT h11) (zq (yA (mI e6_1 (zC (fun w => zR Tryz.func50 rfl rfl rfl) rfl rfl (fun w h => rscalar_ok _ w) (yB ?_))))))); refine c_cond rfl (fun h12 => ?_) (fun h12 => ?_)
     ·refine yA (aI rfl (aB rfl (yB (ze (zt (zb (zt ((r_two (v := .int _ _) (v2 := .bool _) rfl rfl rfl rfl rfl ?_))))))))); exact fun w' hw => ⟨by exact rcv (rc_real (by clear hw; simp only [List.mem_cons, List.not_mem_nil, or_false]; grind)) (by clear hw; simp only [scal] at *; grind), hw.fr _ zm0⟩
     ·refine zi (zk (zq (yA (mI e6_1 (zg (fun _ => R_eq rfl rfl) (yB ?_)))))); refine zD rfl (fun h13 => ?_) (fun h13 => ?_)
      ·refine yA (aI rfl (aB rfl (yB (ze (zt (zb (zt ((r_two (v := .int _ _) (v2 := .bool _) rfl rfl rfl rfl rfl ?_))))))))); exact fun w' hw => ⟨by exact rcv (rc_real (by clear hw; simp only [List.mem_cons, List.not_mem_nil, or_false]; grind)) (by clear hw; simp only [scal] at *; grind), hw.fr _ zm0⟩
      ·refine zi (zk (yA (aI rfl (aB rfl (yB (ze (zb (zt ((r_two (v := .int _ _) (v2 := .bool _) rfl rfl rfl rfl rfl ?_)))))))))); exact fun w' hw => ⟨by exact rcv (rc_real (by clear hw; simp only [List.mem_cons, List.not_mem_nil, or_false]; grind)) (by clear hw; simp only [scal] at *; grind), hw.fr _ zm0⟩
    ·refine zr (zg (fun _ => R_seq rfl rfl) (aB rfl (yB ?_))); refine zD rfl (fun h14 => ?_) (fun h14 => ?_)
     ·refine zq (yA (mI e6_1 (zC (fun w => zR Tryz.func50 rfl rfl rfl) rfl rfl (fun w h => rscalar_ok _ w) (yB ?_)))); refine c_cond rfl (fun h15 => ?_) (fun h15 => ?_)
      ·refine yA (aI rfl (aB rfl (yB (ze (zt (zb (zt ((r_two (v := .int _ _) (v2 := .bool _) rfl rfl rfl rfl rfl ?_))))))))); exact fun w' hw => ⟨by exact rcv (rc_real (by clear hw; simp only [List.mem_cons, List.not_mem_nil, or_false]; grind)) (by clear hw; simp only [scal] at *; grind), hw.fr _ zm0⟩
      ·refine zi (zk (zq (yA (mI e6_1 (zg (fun _ => R_eq rfl rfl) (yB ?_)))))); refine zD rfl (fun h16 => ?_) (fun h16 => ?_)
       ·refine yA (aI rfl (aB rfl (yB (ze (zt (zb (zt ((r_two (v := .int _ _) (v2 := .bool _) rfl rfl rfl rfl rfl ?_))))))))); exact fun w' hw => ⟨by exact rcv (rc_real (by clear hw; simp only [List.mem_cons, List.not_mem_nil, or_false]; grind)) (by clear hw; simp only [scal] at *; grind), hw.fr _ zm0⟩
       ·refine zi (zk (yA (aI rfl (aB rfl (yB (ze (zb (zt ((r_two (v := .int _ _) (v2 := .bool _) rfl rfl rfl rfl rfl ?_)))))))))); exact fun w' hw => ⟨by exact rcv (rc_real (by clear hw; simp only [List.mem_cons, List.not_mem_nil, or_false]; grind)) (by clear hw; simp only [scal] at *; grind), hw.fr _ zm0⟩
     ·refine yA (zg (fun _ => R_seq rfl rfl) (aB rfl (yB ?_))); refine zD rfl (fun h17 => ?_) (fun h17 => ?_)
      ·refine zq (yA (mI e6_1 (zg (fun _ => R_eq rfl rfl) (yB ?_)))); refine zD rfl (fun h18 => ?_) (fun h18 => ?_)
       ·refine yA (aI rfl (aB rfl (yB (ze (zt (zb (zt ((r_two (v := .int _ _) (v2 := .bool _) rfl rfl rfl rfl rfl ?_))))))))); exact fun w' hw => ⟨by (subst_vars; exact rcv (rc_sum _) (by clear hw; grind)), hw.fr _ zm0⟩
       ·refine zi (zk (zq (yA (mI e6_1 (zg (fun _ => R_eq rfl rfl) (mB rfl ?_)))))); refine zd (t := 30) rfl (fun h19 => ?_) (fun h19 => ?_)
        ·refine zs rfl rfl (bT h19) (zs rfl rfl (bT h19) (zg (v := .bool _) (fun _ => zT (bT h19) rfl) (yB (zE rfl (yA (aI rfl (aB rfl (yB (ze (zt (zb (zt ((r_two (v := .int _ _) (v2 := .bool _) rfl rfl rfl rfl rfl ?_)))))))))))))); exact fun w' hw => ⟨by (subst_vars; exact rcv (rc_sum _) (by clear hw; grind)), hw.fr _ zm0⟩
        ·refine zw rfl rfl (bF h19) (mI e6_1 (zw rfl rfl (bF h19) (zg (fun _ => R_eq rfl rfl) (zg (v := .bool _) (fun _ => zF (bF h19) rfl) (yB ?_))))); refine zD rfl (fun h20 => ?_) (fun h20 => ?_)
         ·refine yA (aI rfl (aB rfl (yB (ze (zt (zb (zt ((r_two (v := .int _ _) (v2 := .bool _) rfl rfl rfl rfl rfl ?_))))))))); exact fun w' hw => ⟨by (subst_vars; exact rcv (rc_sum _) (by clear hw; grind)), hw.fr _ zm0⟩
         ·refine zi (zk (yA (aI rfl (aB rfl (yB (ze (zb (zt ((r_two (v := .int _ _) (v2 := .bool _) rfl rfl rfl rfl rfl ?_)))))))))); exact fun w' hw => ⟨by (subst_vars; exact rcv (rc_sum _) (by clear hw; grind)), hw.fr _ zm0⟩
      ·refine yA (zg (fun _ => R_seq rfl rfl) (aB rfl (yB ?_))); refine zD rfl (fun h21 => ?_) (fun h21 => ?_)
       ·refine zq (yA (mS e1_1 (zg (fun _ => R_len sl115 rfl) (zg (fun _ => R_eq rfl rfl) (mB rfl ?_))))); refine zd (t := 39) rfl (fun h22 => ?_) (fun h22 => ?_)
        ·obtain ⟨tb, rfl, hc0⟩ := hT 0 (ts.getD 0 0) (at_get (by omega)); obtain ⟨tb1, htb, hc1⟩ := hT 1 (ts.getD 1 0) (at_get (by omega)); cases htb
         refine zw rfl rfl (bT h22) (mS e1_1 (zw rfl rfl (bT h22) (zg (fun _ => R_iaN (i := 0) sl115 rfl rfl (by omega)) (zw rfl rfl (bT h22) (zl (v := .int .u8 (ts.getD 0 0 : Nat)) z5 rfl (fun w h => cel_old zm0 (by rw [Nat.zero_add]; exact hc0) (fun x => x) h) (zw rfl rfl (bT h22) (zg (fun _ => R_eq rfl rfl) (zg (v := .bool _) (fun _ => zT (bT h22) rfl) (mB rfl ?_))))))))); refine zd (t := 45) rfl (fun h23 => ?_) (fun h23 => ?_)
         ·refine zw rfl rfl (bT h23) (mS e1_1 (zw rfl rfl (bT h23) (zg (fun _ => R_iaN (i := 1) sl115 rfl rfl (by omega)) (zw rfl rfl (bT h23) (zl (v := .int .u8 (ts.getD 1 0 : Nat)) z5 rfl (fun w h => cel_old zm0 (by rw [Nat.zero_add]; exact hc1) (fun x => x) h) (zw rfl rfl (bT h23) (zg (fun _ => R_eq rfl rfl) (zg (v := .bool _) (fun _ => zT (bT h23) rfl) (yB ?_))))))))); refine zD rfl (fun h24 => ?_) (fun h24 => ?_)
          ·refine yA (aI rfl (aB rfl (yB (ze (zt (zb (zt ((r_two (v := .int _ _) (v2 := .bool _) rfl rfl rfl rfl rfl ?_))))))))); exact fun w' hw => ⟨by (subst_vars; exact rcv (rc_dot _) (by clear hw; grind)), hw.fr _ zm0⟩
          ·refine zi (zk (yA (aI rfl (aB rfl (yB (ze (zb (zt ((r_two (v := .int _ _) (v2 := .bool _) rfl rfl rfl rfl rfl ?_)))))))))); exact fun w' hw => ⟨by (subst_vars; exact rcv (rc_dot _) (by clear hw; grind)), hw.fr _ zm0⟩
         ·refine zs rfl rfl (bF h23) (zs rfl rfl (bF h23) (zs rfl rfl (bF h23) (zs rfl rfl (bF h23) (zg (v := .bool _) (fun _ => zF (bF h23) rfl) (yB (zG rfl (zi (zk (yA (aI rfl (aB rfl (yB (ze (zb (zt ((r_two (v := .int _ _) (v2 := .bool _) rfl rfl rfl rfl rfl ?_))))))))))))))))); exact fun w' hw => ⟨by (subst_vars; exact rcv (rc_dot _) (by clear hw; grind)), hw.fr _ zm0⟩
        ·refine zs rfl rfl (bF h22) (zs rfl rfl (bF h22) (zs rfl rfl (bF h22) (zs rfl rfl (bF h22) (zg (v := .bool _) (fun _ => zF (bF h22) rfl) (mB rfl ?_))))); (iterate 4 refine zs rfl rfl rfl ?_); refine zg (v := .bool _) (fun _ => zF rfl rfl) (yB (zG rfl (zi (zk (yA (aI rfl (aB rfl (yB (ze (zb (zt (?_))))))))))))
         refine r_two (v := .int _ _) (v2 := .bool _) rfl rfl rfl rfl rfl ?_; exact fun w' hw => ⟨by (subst_vars; exact rcv (rc_dot _) (by clear hw; grind)), hw.fr _ zm0⟩
       ·refine yA (zg (fun _ => R_seq rfl rfl) (aB rfl (yB ?_))); refine zD rfl (fun h25 => ?_) (fun h25 => ?_)
        ·refine zq (yA (mI e6_1 (zg (fun _ => R_ge rfl rfl) (mB rfl ?_)))); refine zd (t := 55) rfl (fun h26 => ?_) (fun h26 => ?_)
         ·refine zw rfl rfl (bT h26) (mI e6_1 (zw rfl rfl (bT h26) (zg (fun _ => R_le rfl rfl) (zg (v := .bool _) (fun _ => zT (bT h26) rfl) (yB ?_))))); refine zD rfl (fun h27 => ?_) (fun h27 => ?_)
          ·refine yA (aI rfl (aB rfl (yB (ze (zt (zb (zt ((r_two (v := .int _ _) (v2 := .bool _) rfl rfl rfl rfl rfl ?_))))))))); exact fun w' hw => ⟨by (subst_vars; exact rcv (rc_size _) (by clear hw; grind)), hw.fr _ zm0⟩
          ·refine zi (zk (yA (aI rfl (aB rfl (yB (ze (zb (zt ((r_two (v := .int _ _) (v2 := .bool _) rfl rfl rfl rfl rfl ?_)))))))))); exact fun w' hw => ⟨by (subst_vars; exact rcv (rc_size _) (by clear hw; grind)), hw.fr _ zm0⟩
         ·refine zs rfl rfl (bF h26) (zs rfl rfl (bF h26) (zg (v := .bool _) (fun _ => zF (bF h26) rfl) (yB (zG rfl (zi (zk (yA (aI rfl (aB rfl (yB (ze (zb (zt ((r_two (v := .int _ _) (v2 := .bool _) rfl rfl rfl rfl rfl ?_))))))))))))))); exact fun w' hw => ⟨by (subst_vars; exact rcv (rc_size _) (by clear hw; grind)), hw.fr _ zm0⟩
        ·refine zi (zO (zk (yA (aI rfl (aB rfl (yB (ze (r_two (v := .int _ _) (v2 := .bool _) rfl rfl rfl rfl rfl ?_)))))))); exact fun w' hw => ⟨by (rw [rc_none (by clear hw; simp only [List.mem_cons, List.not_mem_nil, or_false]; grind) (by assumption) (by assumption) (by assumption)]; rfl), hw.fr _ zm0⟩
end Go.Proofs.YtoehjlmdnajibaaGreatDoor
end
