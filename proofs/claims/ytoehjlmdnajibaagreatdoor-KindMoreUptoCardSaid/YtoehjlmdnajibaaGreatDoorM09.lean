/- Layer 15, KindMore: an expression's kind does not hang on a variable whose name does not stand in it, nor on the places, but for that of a fault; in the Upto form. Part 9 of 16. -/
import Derived.Test.YtoehjlmdnajibaaGreatDoorM08
set_option maxRecDepth 100000
set_option maxHeartbeats 16000000
section
namespace Go.Proofs.YtoehjlmdnajibaaGreatDoor
open Go.RowKit Go.Sx
open Go.Tok Go.Tree Go.Knd
def panK (fl : Ft) : List PanicEntry := [{ v := .iface 37 (.agg #[.int .i64 (fl.1 : Nat), .int .i64 fl.2]), recovered := false }]
def realK (a b : Nat) : Nat := if b = 0 then (if a = 1 ∨ a = 2 then 2 else if a = 3 then 3 else 0) else 0
def sumK (a b : Nat) : Nat := if b = 0 then (if a = 4 then 1 else if a = 3 ∨ a = 5 then 2 else 0) else 0
def dotK (a b : Nat) : Nat := if a = 3 ∧ b = 3 then 2 else 0
def vecK (a b : Nat) : Nat := if a = 3 ∧ b = 3 then 3 else 0
def sizeK (a b : Nat) : Nat := if b = 0 then (if a = 3 ∨ a = 4 ∨ a = 5 then 1 else 0) else 0

theorem scalar_ok (t : Nat) (w : World) :
    Ret Tryz.prog 84 #[.int .u8 (t : Nat)] w (fun v w' => v = .bool (scal t) ∧ Ext w w') := by
  refine enter (S := No) (l := [_]) (L := []) 9 Tryz.func84 rfl rfl rfl (St.start w No) (yA (aB rfl (yC (mI rfl (zg (fun _ => R_eq rfl rfl) (mB rfl ?_)))))); refine zd (t := 5) rfl (fun h1 => ?_) (fun h1 => ?_)
  · refine zs rfl rfl (bT h1) (zs rfl rfl (bT h1) (zg (v := .bool _) (fun _ => zT (bT h1) rfl) (aB rfl (yB (ze (zo (v := .bool _) rfl rfl rfl ?_)))))); exact fun w' hw => ⟨congrArg Value.bool (by clear hw; simp only [scal]; grind), hw.fr _ zm0⟩
  · refine zw rfl rfl (bF h1) (mI rfl (zw rfl rfl (bF h1) (zg (fun _ => R_eq rfl rfl) (zg (v := .bool _) (fun _ => zF (bF h1) rfl) (aB rfl (yB (ze (zo (v := .bool _) rfl rfl rfl ?_)))))))); exact fun w' hw => ⟨congrArg Value.bool (by clear hw; simp only [scal]; grind), hw.fr _ zm0⟩

theorem whole_ok (t : Nat) (w : World) :
    Ret Tryz.prog 81 #[.int .u8 (t : Nat)] w (fun v w' => v = .bool (whol t) ∧ Ext w w') := by
  refine enter (S := No) (l := [_]) (L := []) 9 Tryz.func81 rfl rfl rfl (St.start w No) (yA (aB rfl (yC (mI rfl (zg (fun _ => R_eq rfl rfl) (mB rfl ?_)))))); refine zd (t := 5) rfl (fun h1 => ?_) (fun h1 => ?_)
  · refine zs rfl rfl (bT h1) (zs rfl rfl (bT h1) (zg (v := .bool _) (fun _ => zT (bT h1) rfl) (aB rfl (yB (ze (zo (v := .bool _) rfl rfl rfl ?_)))))); exact fun w' hw => ⟨congrArg Value.bool (by clear hw; simp only [whol]; grind), hw.fr _ zm0⟩
  · refine zw rfl rfl (bF h1) (mI rfl (zw rfl rfl (bF h1) (zg (fun _ => R_eq rfl rfl) (zg (v := .bool _) (fun _ => zF (bF h1) rfl) (aB rfl (yB (ze (zo (v := .bool _) rfl rfl rfl ?_)))))))); exact fun w' hw => ⟨congrArg Value.bool (by clear hw; simp only [whol]; grind), hw.fr _ zm0⟩

theorem fit_ok (v t : Nat) (w : World) :
    Ret Tryz.prog 86 #[.int .u8 (v : Nat), .int .u8 (t : Nat)] w (fun r w' => r = .bool (fitK v t) ∧ Ext w w') := by
  refine enter (S := No) (l := [_, _]) (L := []) 27 Tryz.func86 rfl rfl rfl (St.start w No) (yA (aB rfl (yC (mI rfl (zg (fun _ => R_eq rfl rfl) (mB rfl ?_)))))); refine zd (t := 7) rfl (fun h1 => ?_) (fun h1 => ?_)
  · refine zw rfl rfl (bT h1) (mI rfl (zw rfl rfl (bT h1) (zg (fun _ => R_eq rfl rfl) (zg (v := .bool _) (fun _ => zT (bT h1) rfl) (mB rfl ?_))))); refine zd (t := 11) rfl (fun h2 => ?_) (fun h2 => ?_)
    · refine zs rfl rfl (bT h2) (zs rfl rfl (bT h2) (zs rfl rfl (bT h2) (zU rfl rfl rfl (zU rfl rfl rfl (zs rfl rfl (bT h2) (zg (v := .bool _) (fun _ => zT (bT h2) rfl) (mB rfl ?_))))))); (iterate 3 refine zs rfl rfl rfl ?_); refine zU rfl rfl rfl (zU rfl rfl rfl (zs rfl rfl rfl (zg (v := .bool _) (fun _ => zT rfl rfl) (aB rfl (yB (ze (zo (v := .bool _) rfl rfl rfl ?_))))))); exact fun w' hw => ⟨congrArg Value.bool (by clear hw; simp only [fitK]; grind), hw.fr _ zm0⟩
    · refine zw rfl rfl (bF h2) (mI rfl (zw rfl rfl (bF h2) (zg (fun _ => R_eq rfl rfl) (zw rfl rfl (bF h2) (mB rfl ?_))))); refine zd (t := 14) rfl (fun h3 => ?_) (fun h3 => ?_)
      · refine zw rfl rfl (bT h3) (mI rfl (zw rfl rfl (bT h3) (zC (fun w => zR Tryz.func84 rfl rfl rfl) rfl rfl (fun w h => scalar_ok _ w) (zw rfl rfl (bF h2) (zg (v := .bool _) (fun _ => zT (bT h3) rfl) (zg (v := .bool _) (fun _ => zF (bF h2) rfl) (mB rfl ?_))))))); refine zp (t := 19) rfl (fun h4 => ?_) (fun h4 => ?_)
        · refine zs rfl rfl (bV h4) (zs rfl rfl (bV h4) (zs rfl rfl (bV h4) (zU rfl rfl rfl (zU rfl rfl rfl (zs rfl rfl (bV h4) (zg (v := .bool _) (fun _ => zT (bV h4) rfl) (aB rfl (yB (ze (zo (v := .bool _) rfl rfl rfl ?_)))))))))); exact fun w' hw => ⟨congrArg Value.bool (by clear hw; simp only [fitK]; grind), hw.fr _ zm0⟩
        · refine zw rfl rfl (bV h4) (mI rfl (zw rfl rfl (bV h4) (zg (fun _ => R_eq rfl rfl) (zw rfl rfl (bV h4) (mB rfl ?_))))); refine zd (t := 22) rfl (fun h5 => ?_) (fun h5 => ?_)
          · refine zw rfl rfl (bT h5) (mI rfl (zw rfl rfl (bT h5) (zg (fun _ => R_eq rfl rfl) (zw rfl rfl (bV h4) (zg (v := .bool _) (fun _ => zT (bT h5) rfl) (zg (v := .bool _) (fun _ => zF (bV h4) rfl) (aB rfl (yB (ze (zo (v := .bool _) rfl rfl rfl ?_)))))))))); exact fun w' hw => ⟨congrArg Value.bool (by clear hw; simp only [fitK]; grind), hw.fr _ zm0⟩
          · refine zs rfl rfl (bF h5) (zs rfl rfl (bF h5) (zw rfl rfl (bV h4) (zg (v := .bool _) (fun _ => zF (bF h5) rfl) (zg (v := .bool _) (fun _ => zF (bV h4) rfl) (aB rfl (yB (ze (zo (v := .bool _) rfl rfl rfl ?_)))))))); exact fun w' hw => ⟨congrArg Value.bool (by clear hw; simp only [fitK]; grind), hw.fr _ zm0⟩
      · refine zs rfl rfl (bF h3) (zs rfl rfl (bF h3) (zw rfl rfl (bF h2) (zg (v := .bool _) (fun _ => zF (bF h3) rfl) (zg (v := .bool _) (fun _ => zF (bF h2) rfl) (mB rfl (zw rfl rfl rfl (mI rfl (zw rfl rfl rfl (zg (fun _ => R_eq rfl rfl) (zw rfl rfl rfl (mB rfl ?_))))))))))); refine zd (t := 22) rfl (fun h6 => ?_) (fun h6 => ?_)
        · refine zw rfl rfl (bT h6) (mI rfl (zw rfl rfl (bT h6) (zg (fun _ => R_eq rfl rfl) (zw rfl rfl rfl (zg (v := .bool _) (fun _ => zT (bT h6) rfl) (zg (v := .bool _) (fun _ => zF rfl rfl) (aB rfl (yB (ze (zo (v := .bool _) rfl rfl rfl ?_)))))))))); exact fun w' hw => ⟨congrArg Value.bool (by clear hw; simp only [fitK]; grind), hw.fr _ zm0⟩
        · refine zs rfl rfl (bF h6) (zs rfl rfl (bF h6) (zw rfl rfl rfl (zg (v := .bool _) (fun _ => zF (bF h6) rfl) (zg (v := .bool _) (fun _ => zF rfl rfl) (aB rfl (yB (ze (zo (v := .bool _) rfl rfl rfl ?_)))))))); exact fun w' hw => ⟨congrArg Value.bool (by clear hw; simp only [fitK]; grind), hw.fr _ zm0⟩
  · refine zs rfl rfl (bF h1) (zs rfl rfl (bF h1) (zg (v := .bool _) (fun _ => zF (bF h1) rfl) (mB rfl (zw rfl rfl rfl (mI rfl (zw rfl rfl rfl (zg (fun _ => R_eq rfl rfl) (zw rfl rfl rfl (mB rfl ?_))))))))); refine zd (t := 14) rfl (fun h7 => ?_) (fun h7 => ?_)
    · refine zw rfl rfl (bT h7) (mI rfl (zw rfl rfl (bT h7) (zC (fun w => zR Tryz.func84 rfl rfl rfl) rfl rfl (fun w h => scalar_ok _ w) (zw rfl rfl rfl (zg (v := .bool _) (fun _ => zT (bT h7) rfl) (zg (v := .bool _) (fun _ => zF rfl rfl) (mB rfl ?_))))))); refine zp (t := 19) rfl (fun h8 => ?_) (fun h8 => ?_)
      · refine zs rfl rfl (bV h8) (zs rfl rfl (bV h8) (zs rfl rfl (bV h8) (zU rfl rfl rfl (zU rfl rfl rfl (zs rfl rfl (bV h8) (zg (v := .bool _) (fun _ => zT (bV h8) rfl) (aB rfl (yB (ze (zo (v := .bool _) rfl rfl rfl ?_)))))))))); exact fun w' hw => ⟨congrArg Value.bool (by clear hw; simp only [fitK]; grind), hw.fr _ zm0⟩
      · refine zw rfl rfl (bV h8) (mI rfl (zw rfl rfl (bV h8) (zg (fun _ => R_eq rfl rfl) (zw rfl rfl (bV h8) (mB rfl ?_))))); refine zd (t := 22) rfl (fun h9 => ?_) (fun h9 => ?_)
        · refine zw rfl rfl (bT h9) (mI rfl (zw rfl rfl (bT h9) (zg (fun _ => R_eq rfl rfl) (zw rfl rfl (bV h8) (zg (v := .bool _) (fun _ => zT (bT h9) rfl) (zg (v := .bool _) (fun _ => zF (bV h8) rfl) (aB rfl (yB (ze (zo (v := .bool _) rfl rfl rfl ?_)))))))))); exact fun w' hw => ⟨congrArg Value.bool (by clear hw; simp only [fitK]; grind), hw.fr _ zm0⟩
        · refine zs rfl rfl (bF h9) (zs rfl rfl (bF h9) (zw rfl rfl (bV h8) (zg (v := .bool _) (fun _ => zF (bF h9) rfl) (zg (v := .bool _) (fun _ => zF (bV h8) rfl) (aB rfl (yB (ze (zo (v := .bool _) rfl rfl rfl ?_)))))))); exact fun w' hw => ⟨congrArg Value.bool (by clear hw; simp only [fitK]; grind), hw.fr _ zm0⟩
    · refine zs rfl rfl (bF h7) (zs rfl rfl (bF h7) (zw rfl rfl rfl (zg (v := .bool _) (fun _ => zF (bF h7) rfl) (zg (v := .bool _) (fun _ => zF rfl rfl) (mB rfl (zw rfl rfl rfl (mI rfl (zw rfl rfl rfl (zg (fun _ => R_eq rfl rfl) (zw rfl rfl rfl (mB rfl ?_))))))))))); refine zd (t := 22) rfl (fun h10 => ?_) (fun h10 => ?_)
      · refine zw rfl rfl (bT h10) (mI rfl (zw rfl rfl (bT h10) (zg (fun _ => R_eq rfl rfl) (zw rfl rfl rfl (zg (v := .bool _) (fun _ => zT (bT h10) rfl) (zg (v := .bool _) (fun _ => zF rfl rfl) (aB rfl (yB (ze (zo (v := .bool _) rfl rfl rfl ?_)))))))))); exact fun w' hw => ⟨congrArg Value.bool (by clear hw; simp only [fitK]; grind), hw.fr _ zm0⟩
      · refine zs rfl rfl (bF h10) (zs rfl rfl (bF h10) (zw rfl rfl rfl (zg (v := .bool _) (fun _ => zF (bF h10) rfl) (zg (v := .bool _) (fun _ => zF rfl rfl) (aB rfl (yB (ze (zo (v := .bool _) rfl rfl rfl ?_)))))))); exact fun w' hw => ⟨congrArg Value.bool (by clear hw; simp only [fitK]; grind), hw.fr _ zm0⟩

theorem digitC_ok (b : UInt8) (w : World) :
    Ret Tryz.prog 100 #[.int .u8 (b.toNat : Nat)] w (fun v w' => v = .bool (!(decide (48 ≤ b.toNat) && decide (b.toNat ≤ 57))) ∧ Ext w w') := by
  refine enter (S := No) (l := [_]) (L := []) 9 Tryz.func100 rfl rfl rfl (St.start w No) (yA (aB rfl (yC (mI rfl (zg (fun _ => R_lt rfl rfl) (mB rfl ?_)))))); refine zd (t := 5) rfl (fun h1 => ?_) (fun h1 => ?_)
  · refine zs rfl rfl (bT h1) (zs rfl rfl (bT h1) (zg (v := .bool _) (fun _ => zT (bT h1) rfl) (aB rfl (yB (ze (zo (v := .bool _) rfl rfl rfl ?_)))))); exact fun w' hw => ⟨congrArg Value.bool (by clear hw; grind), hw.fr _ zm0⟩
  · refine zw rfl rfl (bF h1) (mI rfl (zw rfl rfl (bF h1) (zg (fun _ => R_gt rfl rfl) (zg (v := .bool _) (fun _ => zF (bF h1) rfl) (aB rfl (yB (ze (zo (v := .bool _) rfl rfl rfl ?_)))))))); exact fun w' hw => ⟨congrArg Value.bool (by clear hw; grind), hw.fr _ zm0⟩

theorem idxB_ok (s : Str) (hs : s.length ≤ 10000000) (sb cap : Nat) (w : World) (hc : ∀ (j : Nat) u, s[j]? = some u → w.cell? ⟨sb, j, none⟩ = some (.int .u8 (u.toNat : Nat))) :
    Ret Tryz.prog 120 #[.slice (some ⟨sb, 0, none⟩) s.length cap, .func (.func 100) #[] #[]] w (fun v w' => v = .int .i64 (firstI (fun b : UInt8 => !(decide (48 ≤ b.toNat) && decide (b.toNat ≤ 57))) s) ∧ Ext w w') := by
  refine enter (S := No) (l := [_, _]) (L := []) 19 Tryz.func120 rfl rfl rfl (St.start w No) (yA (aI rfl (yB (zq (yA (mS rfl (zg (fun _ => R_len sl115 rfl) (mI rfl (yB (zB (c_loop (fun m e B L => ∃ (k : Nat), e 0 = .slice (some ⟨sb, 0, none⟩) s.length cap ∧ e 1 = .func (.func 100) #[] #[] ∧ e 7 = .int .i64 (s.length : Nat) ∧ e 8 = .int .i64 (k : Nat) ∧ B = [(w, No)] ∧ L = [] ∧ k ≤ s.length ∧ (∀ b ∈ s.take k, (!(decide (48 ≤ b.toNat) && decide (b.toNat ≤ 57))) = false) ∧ m = s.length - k) _ ⟨0, rfl, rfl, rfl, rfl, rfl, rfl, Nat.zero_le _, (by simp), rfl⟩ ?_)))))))))))
  rintro m e B L ⟨k, e0_1, e1_1, e7_1, e8_1, rfl, rfl, hk, hy, rfl⟩
  refine yA (zg (fun _ => R_lt e8_1 e7_1) (yB (zq ?_))); refine zD rfl (fun h1 => ?_) (fun h1 => ?_)
  · have hlt : k < s.length := (by omega); obtain ⟨x, hxk⟩ : ∃ x, s[k]? = some x := ⟨_, List.getElem?_eq_getElem hlt⟩
    refine zi (zk (zq (zB (yA (mI e8_1 (aI rfl (yC (zm e1_1 (mS e0_1 (mI rfl (zg (fun _ => R_iaN (i := k) sl115 rfl rfl (by omega)) (zl (v := .int .u8 (x.toNat : Nat)) z5 rfl (fun w h => cel_old zm0 (by rw [Nat.zero_add, Nat.mul_one]; exact hc k x hxk) (fun x => x) h) (zC (fun w => R_callv rfl Tryz.func100 rfl rfl) rfl rfl (fun w h => digitC_ok x w) (yB ?_)))))))))))))); refine c_cond rfl (fun h2 => ?_) (fun h2 => ?_)
    · refine yA (mI rfl (aI rfl (yB (ze (zb (zt (zt (zb (zt ((zo (v := .int _ _) rfl rfl rfl ?_))))))))))); exact fun w' hw => ⟨by rw [firstI_at hy hxk h2], hw.fr _ zm0⟩
    · refine zi (zO (zk (zr (zg (fun _ => R_addi e8_1 rfl (by omega)) (mI rfl (zn ?_)))))); exact k_again _ (by omega) ⟨k + 1, e0_1, e1_1, e7_1, rfl, rfl, rfl, by omega, take_all hy hxk h2, rfl⟩
  · refine zX (zx (zx (b_here rfl (zk (yA (aI rfl (yB (ze ?_))))))))
    obtain rfl : k = s.length := by omega
    rw [List.take_length] at hy
    refine zo (v := .int _ _) rfl rfl rfl ?_; exact fun w' hw => ⟨by rw [firstI_no hy], hw.fr _ zm0⟩

theorem hasB_ok (s : Str) (hs : s.length ≤ 10000000) (sb cap : Nat) (w : World) (hc : ∀ (j : Nat) u, s[j]? = some u → w.cell? ⟨sb, j, none⟩ = some (.int .u8 (u.toNat : Nat))) :
    Ret Tryz.prog 99 #[.slice (some ⟨sb, 0, none⟩) s.length cap, .func (.func 100) #[] #[]] w (fun v w' => v = .bool (s.any fun b : UInt8 => !(decide (48 ≤ b.toNat) && decide (b.toNat ≤ 57))) ∧ Ext w w') := by
  refine enter (S := No) (l := [_, _]) (L := []) 9 Tryz.func99 rfl rfl rfl (St.start w No) (yA (aB rfl (yC (mS rfl (zm rfl (zC (fun w => zR Tryz.func120 rfl rfl rfl) rfl rfl (fun w h => idxB_ok s hs sb cap w (fun j u hj => cel_old zm0 (hc j u hj) (fun x => x) h)) (zg (fun _ => R_ge rfl rfl) (aB rfl (yB (ze (zo (v := .bool _) rfl rfl rfl ?_))))))))))); exact fun w' hw => ⟨by rw [← firstI_ge], hw.fr _ zm0⟩

theorem dig_all (s : Str) : (s.all fun b : UInt8 => decide (48 ≤ b.toNat) && decide (b.toNat ≤ 57)) = !(s.any fun b : UInt8 => !(decide (48 ≤ b.toNat) && decide (b.toNat ≤ 57))) := by
  induction s with
  | nil => rfl
  | cons b s ih => rw [List.all_cons, List.any_cons, ih, Bool.not_or, Bool.not_not]

theorem digits_ok (s : Str) (hs : s.length ≤ 10000000) (w : World) :
    Ret Tryz.prog 61 #[str s] w (fun v w' => v = .bool (digitsK s) ∧ Ext w w') := by
  refine enter (S := No) (l := [_]) (L := []) 12 Tryz.func61 rfl rfl rfl (St.start w No) (yA (aB rfl (yC (zm (v := str _) rfl (zg (fun _ => R_slen st9 rfl (by omega)) (zg (fun _ => R_le rfl rfl) (mB rfl ?_))))))); refine zd (t := 6) rfl (fun h1 => ?_) (fun h1 => ?_)
  · refine zw rfl rfl (bT h1) (zm (v := str _) rfl (zw rfl rfl (bT h1) (w_convS un9 un115 un5 rfl (fun sb cap ob hcap hob => zw rfl rfl (bT h1) (zC (fun w => zR Tryz.func99 rfl rfl rfl) rfl rfl (fun w h => hasB_ok s hs sb cap w (fun j u hj => hob w (h.at_ 0 rfl) j u hj)) (zw rfl rfl (bT h1) (zg (fun _ => R_not rfl) (zg (v := .bool _) (fun _ => zT (bT h1) rfl) (aB rfl (yB (ze (zo (v := .bool _) rfl rfl rfl ?_)))))))))))); exact fun w' hw => ⟨by unfold digitsK; rw [dig_all, decide_eq_true (by omega), Bool.true_and], hw.fr _ zm0⟩
  · refine zs rfl rfl (bF h1) (zs rfl rfl (bF h1) (zs rfl rfl (bF h1) (zs rfl rfl (bF h1) (zg (v := .bool _) (fun _ => zF (bF h1) rfl) (aB rfl (yB (ze (zo (v := .bool _) rfl rfl rfl ?_)))))))); exact fun w' hw => ⟨by unfold digitsK; rw [decide_eq_false (by omega)]; rfl, hw.fr _ zm0⟩

theorem lookB_ok (k b : Nat) (l : List (Int × Value)) (v : Value) (w : World) (hb : w.heap[b]? = some (mpI .u8 l)) (hv : (l.lookup (k : Int)).getD (.int .u8 0) = v) :
    Ret Tryz.prog 64 #[.map (some b), .int .u8 (k : Nat)] w (fun r w' => r = v ∧ Ext w w') := by
  refine enter (S := No) (l := [_, _]) (L := []) 8 Tryz.func64 rfl rfl rfl (St.start w No) (yA (aI rfl (yC (zm rfl (mI rfl (w_lookI' (fun w h => h.old hb zm0 (fun x => x)) unm108 unk5 zr5 rfl rfl hv (za (v := v) rfl (yB (ze (zo (v := v) rfl rfl rfl ?_)))))))))); exact fun w' hw => ⟨rfl, hw.fr _ zm0⟩

theorem lookT_ok (x y b : Nat) (l : List ((Nat × Nat) × Value)) (v : Value) (w : World) (hb : w.heap[b]? = some (mpP l)) (hv : (l.lookup (x, y)).getD (.int .u8 0) = v) :
    Ret Tryz.prog 103 #[.map (some b), pr x y] w (fun r w' => r = v ∧ Ext w w') := by
  refine enter (S := No) (l := [_, _]) (L := []) 8 Tryz.func103 rfl rfl rfl (St.start w No) (yA (w_boxA rfl (fun tb gtb utb => aI rfl (yC (zm rfl (zY z104 rfl (fun _ h => h.at_ 0 rfl) rfl (w_lookP (s := (x, y)) (fun w h => h.old hb zm0 (fun x => x)) unm136 ky104 zr5 rfl rfl hv (za (v := v) rfl (yB (ze (zo (v := v) rfl rfl rfl ?_))))))))))); exact fun w' hw => ⟨rfl, hw.fr _ zm0⟩

theorem realK_l102030 (a b : Nat) : (([((1, 0), .int .u8 2), ((2, 0), .int .u8 2), ((3, 0), .int .u8 3)] : List ((Nat × Nat) × Value)).lookup (a, b)).getD (.int .u8 0) = .int .u8 (realK a b : Nat) := by
  by_cases h0 : (a, b) = (1, 0)
  · cases h0; rfl
  by_cases h1 : (a, b) = (2, 0)
  · cases h1; rfl
  by_cases h2 : (a, b) = (3, 0)
  · cases h2; rfl
  have q : ∀ k : Nat × Nat, ¬ (a, b) = k → ((a, b) == k) = false := fun k h => by simpa using h
  have e : realK a b = 0 := by clear q; simp only [Prod.mk.injEq] at *; unfold realK; grind
  rw [e]; simp only [List.lookup, q _ h0, q _ h1, q _ h2]; rfl

theorem realK_l103020 (a b : Nat) : (([((1, 0), .int .u8 2), ((3, 0), .int .u8 3), ((2, 0), .int .u8 2)] : List ((Nat × Nat) × Value)).lookup (a, b)).getD (.int .u8 0) = .int .u8 (realK a b : Nat) := by
  by_cases h0 : (a, b) = (1, 0)
  · cases h0; rfl
  by_cases h1 : (a, b) = (3, 0)
  · cases h1; rfl
  by_cases h2 : (a, b) = (2, 0)
  · cases h2; rfl
  have q : ∀ k : Nat × Nat, ¬ (a, b) = k → ((a, b) == k) = false := fun k h => by simpa using h
  have e : realK a b = 0 := by clear q; simp only [Prod.mk.injEq] at *; unfold realK; grind
  rw [e]; simp only [List.lookup, q _ h0, q _ h1, q _ h2]; rfl

theorem realK_l201030 (a b : Nat) : (([((2, 0), .int .u8 2), ((1, 0), .int .u8 2), ((3, 0), .int .u8 3)] : List ((Nat × Nat) × Value)).lookup (a, b)).getD (.int .u8 0) = .int .u8 (realK a b : Nat) := by
  by_cases h0 : (a, b) = (2, 0)
  · cases h0; rfl
  by_cases h1 : (a, b) = (1, 0)
  · cases h1; rfl
  by_cases h2 : (a, b) = (3, 0)
  · cases h2; rfl
  have q : ∀ k : Nat × Nat, ¬ (a, b) = k → ((a, b) == k) = false := fun k h => by simpa using h
  have e : realK a b = 0 := by clear q; simp only [Prod.mk.injEq] at *; unfold realK; grind
  rw [e]; simp only [List.lookup, q _ h0, q _ h1, q _ h2]; rfl

theorem realK_l203010 (a b : Nat) : (([((2, 0), .int .u8 2), ((3, 0), .int .u8 3), ((1, 0), .int .u8 2)] : List ((Nat × Nat) × Value)).lookup (a, b)).getD (.int .u8 0) = .int .u8 (realK a b : Nat) := by
  by_cases h0 : (a, b) = (2, 0)
  · cases h0; rfl
  by_cases h1 : (a, b) = (3, 0)
  · cases h1; rfl
  by_cases h2 : (a, b) = (1, 0)
  · cases h2; rfl
  have q : ∀ k : Nat × Nat, ¬ (a, b) = k → ((a, b) == k) = false := fun k h => by simpa using h
  have e : realK a b = 0 := by clear q; simp only [Prod.mk.injEq] at *; unfold realK; grind
  rw [e]; simp only [List.lookup, q _ h0, q _ h1, q _ h2]; rfl

theorem realK_l301020 (a b : Nat) : (([((3, 0), .int .u8 3), ((1, 0), .int .u8 2), ((2, 0), .int .u8 2)] : List ((Nat × Nat) × Value)).lookup (a, b)).getD (.int .u8 0) = .int .u8 (realK a b : Nat) := by
  by_cases h0 : (a, b) = (3, 0)
  · cases h0; rfl
  by_cases h1 : (a, b) = (1, 0)
  · cases h1; rfl
  by_cases h2 : (a, b) = (2, 0)
  · cases h2; rfl
  have q : ∀ k : Nat × Nat, ¬ (a, b) = k → ((a, b) == k) = false := fun k h => by simpa using h
  have e : realK a b = 0 := by clear q; simp only [Prod.mk.injEq] at *; unfold realK; grind
  rw [e]; simp only [List.lookup, q _ h0, q _ h1, q _ h2]; rfl

theorem realK_l302010 (a b : Nat) : (([((3, 0), .int .u8 3), ((2, 0), .int .u8 2), ((1, 0), .int .u8 2)] : List ((Nat × Nat) × Value)).lookup (a, b)).getD (.int .u8 0) = .int .u8 (realK a b : Nat) := by
  by_cases h0 : (a, b) = (3, 0)
  · cases h0; rfl
  by_cases h1 : (a, b) = (2, 0)
  · cases h1; rfl
  by_cases h2 : (a, b) = (1, 0)
  · cases h2; rfl
  have q : ∀ k : Nat × Nat, ¬ (a, b) = k → ((a, b) == k) = false := fun k h => by simpa using h
  have e : realK a b = 0 := by clear q; simp only [Prod.mk.injEq] at *; unfold realK; grind
  rw [e]; simp only [List.lookup, q _ h0, q _ h1, q _ h2]; rfl

theorem sumK_l403050 (a b : Nat) : (([((4, 0), .int .u8 1), ((3, 0), .int .u8 2), ((5, 0), .int .u8 2)] : List ((Nat × Nat) × Value)).lookup (a, b)).getD (.int .u8 0) = .int .u8 (sumK a b : Nat) := by
  by_cases h0 : (a, b) = (4, 0)
  · cases h0; rfl
  by_cases h1 : (a, b) = (3, 0)
  · cases h1; rfl
  by_cases h2 : (a, b) = (5, 0)
  · cases h2; rfl
  have q : ∀ k : Nat × Nat, ¬ (a, b) = k → ((a, b) == k) = false := fun k h => by simpa using h
  have e : sumK a b = 0 := by clear q; simp only [Prod.mk.injEq] at *; unfold sumK; grind
  rw [e]; simp only [List.lookup, q _ h0, q _ h1, q _ h2]; rfl

theorem sumK_l405030 (a b : Nat) : (([((4, 0), .int .u8 1), ((5, 0), .int .u8 2), ((3, 0), .int .u8 2)] : List ((Nat × Nat) × Value)).lookup (a, b)).getD (.int .u8 0) = .int .u8 (sumK a b : Nat) := by
  by_cases h0 : (a, b) = (4, 0)
  · cases h0; rfl
  by_cases h1 : (a, b) = (5, 0)
  · cases h1; rfl
  by_cases h2 : (a, b) = (3, 0)
  · cases h2; rfl
  have q : ∀ k : Nat × Nat, ¬ (a, b) = k → ((a, b) == k) = false := fun k h => by simpa using h
  have e : sumK a b = 0 := by clear q; simp only [Prod.mk.injEq] at *; unfold sumK; grind
  rw [e]; simp only [List.lookup, q _ h0, q _ h1, q _ h2]; rfl

theorem sumK_l304050 (a b : Nat) : (([((3, 0), .int .u8 2), ((4, 0), .int .u8 1), ((5, 0), .int .u8 2)] : List ((Nat × Nat) × Value)).lookup (a, b)).getD (.int .u8 0) = .int .u8 (sumK a b : Nat) := by
  by_cases h0 : (a, b) = (3, 0)
  · cases h0; rfl
  by_cases h1 : (a, b) = (4, 0)
  · cases h1; rfl
  by_cases h2 : (a, b) = (5, 0)
  · cases h2; rfl
  have q : ∀ k : Nat × Nat, ¬ (a, b) = k → ((a, b) == k) = false := fun k h => by simpa using h
  have e : sumK a b = 0 := by clear q; simp only [Prod.mk.injEq] at *; unfold sumK; grind
  rw [e]; simp only [List.lookup, q _ h0, q _ h1, q _ h2]; rfl

theorem sumK_l305040 (a b : Nat) : (([((3, 0), .int .u8 2), ((5, 0), .int .u8 2), ((4, 0), .int .u8 1)] : List ((Nat × Nat) × Value)).lookup (a, b)).getD (.int .u8 0) = .int .u8 (sumK a b : Nat) := by
  by_cases h0 : (a, b) = (3, 0)
  · cases h0; rfl
  by_cases h1 : (a, b) = (5, 0)
  · cases h1; rfl
  by_cases h2 : (a, b) = (4, 0)
  · cases h2; rfl
  have q : ∀ k : Nat × Nat, ¬ (a, b) = k → ((a, b) == k) = false := fun k h => by simpa using h
  have e : sumK a b = 0 := by clear q; simp only [Prod.mk.injEq] at *; unfold sumK; grind
  rw [e]; simp only [List.lookup, q _ h0, q _ h1, q _ h2]; rfl

theorem sumK_l504030 (a b : Nat) : (([((5, 0), .int .u8 2), ((4, 0), .int .u8 1), ((3, 0), .int .u8 2)] : List ((Nat × Nat) × Value)).lookup (a, b)).getD (.int .u8 0) = .int .u8 (sumK a b : Nat) := by
  by_cases h0 : (a, b) = (5, 0)
  · cases h0; rfl
  by_cases h1 : (a, b) = (4, 0)
  · cases h1; rfl
  by_cases h2 : (a, b) = (3, 0)
  · cases h2; rfl
  have q : ∀ k : Nat × Nat, ¬ (a, b) = k → ((a, b) == k) = false := fun k h => by simpa using h
  have e : sumK a b = 0 := by clear q; simp only [Prod.mk.injEq] at *; unfold sumK; grind
  rw [e]; simp only [List.lookup, q _ h0, q _ h1, q _ h2]; rfl

theorem sumK_l503040 (a b : Nat) : (([((5, 0), .int .u8 2), ((3, 0), .int .u8 2), ((4, 0), .int .u8 1)] : List ((Nat × Nat) × Value)).lookup (a, b)).getD (.int .u8 0) = .int .u8 (sumK a b : Nat) := by
  by_cases h0 : (a, b) = (5, 0)
  · cases h0; rfl
  by_cases h1 : (a, b) = (3, 0)
  · cases h1; rfl
  by_cases h2 : (a, b) = (4, 0)
  · cases h2; rfl
  have q : ∀ k : Nat × Nat, ¬ (a, b) = k → ((a, b) == k) = false := fun k h => by simpa using h
  have e : sumK a b = 0 := by clear q; simp only [Prod.mk.injEq] at *; unfold sumK; grind
  rw [e]; simp only [List.lookup, q _ h0, q _ h1, q _ h2]; rfl

theorem dotK_l33 (a b : Nat) : (([((3, 3), .int .u8 2)] : List ((Nat × Nat) × Value)).lookup (a, b)).getD (.int .u8 0) = .int .u8 (dotK a b : Nat) := by
  by_cases h0 : (a, b) = (3, 3)
  · cases h0; rfl
  have q : ∀ k : Nat × Nat, ¬ (a, b) = k → ((a, b) == k) = false := fun k h => by simpa using h
  have e : dotK a b = 0 := by clear q; simp only [Prod.mk.injEq] at *; unfold dotK; grind
  rw [e]; simp only [List.lookup, q _ h0]; rfl

theorem sizeK_l403050 (a b : Nat) : (([((4, 0), .int .u8 1), ((3, 0), .int .u8 1), ((5, 0), .int .u8 1)] : List ((Nat × Nat) × Value)).lookup (a, b)).getD (.int .u8 0) = .int .u8 (sizeK a b : Nat) := by
  by_cases h0 : (a, b) = (4, 0)
  · cases h0; rfl
  by_cases h1 : (a, b) = (3, 0)
  · cases h1; rfl
  by_cases h2 : (a, b) = (5, 0)
  · cases h2; rfl
  have q : ∀ k : Nat × Nat, ¬ (a, b) = k → ((a, b) == k) = false := fun k h => by simpa using h
  have e : sizeK a b = 0 := by clear q; simp only [Prod.mk.injEq] at *; unfold sizeK; grind
  rw [e]; simp only [List.lookup, q _ h0, q _ h1, q _ h2]; rfl

theorem sizeK_l405030 (a b : Nat) : (([((4, 0), .int .u8 1), ((5, 0), .int .u8 1), ((3, 0), .int .u8 1)] : List ((Nat × Nat) × Value)).lookup (a, b)).getD (.int .u8 0) = .int .u8 (sizeK a b : Nat) := by
  by_cases h0 : (a, b) = (4, 0)
  · cases h0; rfl
  by_cases h1 : (a, b) = (5, 0)
  · cases h1; rfl
  by_cases h2 : (a, b) = (3, 0)
  · cases h2; rfl
  have q : ∀ k : Nat × Nat, ¬ (a, b) = k → ((a, b) == k) = false := fun k h => by simpa using h
  have e : sizeK a b = 0 := by clear q; simp only [Prod.mk.injEq] at *; unfold sizeK; grind
  rw [e]; simp only [List.lookup, q _ h0, q _ h1, q _ h2]; rfl

theorem sizeK_l304050 (a b : Nat) : (([((3, 0), .int .u8 1), ((4, 0), .int .u8 1), ((5, 0), .int .u8 1)] : List ((Nat × Nat) × Value)).lookup (a, b)).getD (.int .u8 0) = .int .u8 (sizeK a b : Nat) := by
  by_cases h0 : (a, b) = (3, 0)
  · cases h0; rfl
  by_cases h1 : (a, b) = (4, 0)
  · cases h1; rfl
  by_cases h2 : (a, b) = (5, 0)
  · cases h2; rfl
  have q : ∀ k : Nat × Nat, ¬ (a, b) = k → ((a, b) == k) = false := fun k h => by simpa using h
  have e : sizeK a b = 0 := by clear q; simp only [Prod.mk.injEq] at *; unfold sizeK; grind
  rw [e]; simp only [List.lookup, q _ h0, q _ h1, q _ h2]; rfl

theorem sizeK_l305040 (a b : Nat) : (([((3, 0), .int .u8 1), ((5, 0), .int .u8 1), ((4, 0), .int .u8 1)] : List ((Nat × Nat) × Value)).lookup (a, b)).getD (.int .u8 0) = .int .u8 (sizeK a b : Nat) := by
  by_cases h0 : (a, b) = (3, 0)
  · cases h0; rfl
  by_cases h1 : (a, b) = (5, 0)
  · cases h1; rfl
  by_cases h2 : (a, b) = (4, 0)
  · cases h2; rfl
  have q : ∀ k : Nat × Nat, ¬ (a, b) = k → ((a, b) == k) = false := fun k h => by simpa using h
  have e : sizeK a b = 0 := by clear q; simp only [Prod.mk.injEq] at *; unfold sizeK; grind
  rw [e]; simp only [List.lookup, q _ h0, q _ h1, q _ h2]; rfl

theorem sizeK_l504030 (a b : Nat) : (([((5, 0), .int .u8 1), ((4, 0), .int .u8 1), ((3, 0), .int .u8 1)] : List ((Nat × Nat) × Value)).lookup (a, b)).getD (.int .u8 0) = .int .u8 (sizeK a b : Nat) := by
  by_cases h0 : (a, b) = (5, 0)
  · cases h0; rfl
  by_cases h1 : (a, b) = (4, 0)
  · cases h1; rfl
  by_cases h2 : (a, b) = (3, 0)
  · cases h2; rfl
  have q : ∀ k : Nat × Nat, ¬ (a, b) = k → ((a, b) == k) = false := fun k h => by simpa using h
  have e : sizeK a b = 0 := by clear q; simp only [Prod.mk.injEq] at *; unfold sizeK; grind
  rw [e]; simp only [List.lookup, q _ h0, q _ h1, q _ h2]; rfl

theorem sizeK_l503040 (a b : Nat) : (([((5, 0), .int .u8 1), ((3, 0), .int .u8 1), ((4, 0), .int .u8 1)] : List ((Nat × Nat) × Value)).lookup (a, b)).getD (.int .u8 0) = .int .u8 (sizeK a b : Nat) := by
  by_cases h0 : (a, b) = (5, 0)
  · cases h0; rfl
  by_cases h1 : (a, b) = (3, 0)
  · cases h1; rfl
  by_cases h2 : (a, b) = (4, 0)
  · cases h2; rfl
  have q : ∀ k : Nat × Nat, ¬ (a, b) = k → ((a, b) == k) = false := fun k h => by simpa using h
  have e : sizeK a b = 0 := by clear q; simp only [Prod.mk.injEq] at *; unfold sizeK; grind
  rw [e]; simp only [List.lookup, q _ h0, q _ h1, q _ h2]; rfl

theorem vecK_l33 (a b : Nat) : (([((3, 3), .int .u8 3)] : List ((Nat × Nat) × Value)).lookup (a, b)).getD (.int .u8 0) = .int .u8 (vecK a b : Nat) := by
  by_cases h0 : (a, b) = (3, 3)
  · cases h0; rfl
  have q : ∀ k : Nat × Nat, ¬ (a, b) = k → ((a, b) == k) = false := fun k h => by simpa using h
  have e : vecK a b = 0 := by clear q; simp only [Prod.mk.injEq] at *; unfold vecK; grind
  rw [e]; simp only [List.lookup, q _ h0]; rfl

theorem real_ok (a b : Nat) (w : World) :
    Ret Tryz.prog 102 #[pr a b] w (fun v w' => v = .int .u8 (realK a b : Nat) ∧ Ext w w') := by
  refine enter (S := No) (l := [_]) (L := []) 10 Tryz.func102 rfl rfl rfl (St.start w No) (yA (w_boxA rfl (fun tb gtb utb => aI rfl (yB (zq (c_heldS mixed (zh2 1 rfl rfl (fun w h => h) (fun w h => R_buildA ar104 zr104 rfl) (zh2 3 rfl rfl (fun w h => h) (fun w h => R_buildA ar104 zr104 rfl) (zh2 5 rfl rfl (fun w h => h) (fun w h => R_buildA ar104 zr104 rfl) (h_loadA 8 rfl (by kernel_rfl) (fun w h => h) z104 rfl (fun _ h => h.at_ 0 rfl) rfl (zH2 0 (fun w h => h) (o_makeMapP rfl (fun mb gmb umb => ?_)))))))))))))
  refine h_three 2 4 6 (by kernel_rfl) (fun w h => (h.drop (.cons _ (List.Sublist.refl _)))) ?_ ?_ ?_
  · refine o_insP 0 (s := (1, 0)) (v := .int .u8 2) rfl rfl unm136 ky104 rfl rfl rfl rfl ?_; refine h_two 4 6 (by kernel_rfl) (fun w h => (h.drop (.cons _ (List.Sublist.refl _)))) ?_ ?_
    · refine o_insP 0 (s := (2, 0)) (v := .int .u8 2) rfl rfl unm136 ky104 rfl rfl rfl rfl (zH2 6 (fun w h => (h.drop (.cons _ (List.Sublist.refl _)))) (o_insP 0 (s := (3, 0)) (v := .int .u8 3) rfl rfl unm136 ky104 rfl rfl rfl rfl (zh2 7 rfl rfl (fun w h => (h.drop (.cons _ (List.Sublist.refl _)))) (fun w h => R_move rfl) (zH2 9 (fun w h => (h.drop (.cons _ (List.Sublist.refl _)))) (o_pureW rfl (wn_none rfl) rfl (fun w => zR Tryz.func103 rfl rfl rfl) (fun w h => lookT_ok a b mb [((1, 0), .int .u8 2), ((2, 0), .int .u8 2), ((3, 0), .int .u8 3)] (.int .u8 (realK a b : Nat)) w (h.at_ 0 rfl) (realK_l102030 a b)) (zh (v := .int _ _) 10 rfl (by kernel_rfl) rfl rfl (fun w h => (h.drop (.cons _ (List.Sublist.refl _)))) (fun w h => R_assign rfl) (zN2 (fun w h => (h.drop (.cons _ (List.Sublist.refl _)))) (zk (ze (zo (v := .int _ _) rfl rfl rfl ?_)))))))))); exact fun w' hw => ⟨rfl, hw.fr _ zm0⟩
    · refine o_insP 0 (s := (3, 0)) (v := .int .u8 3) rfl rfl unm136 ky104 rfl rfl rfl rfl (zH2 4 (fun w h => (h.drop (.cons _ (List.Sublist.refl _)))) (o_insP 0 (s := (2, 0)) (v := .int .u8 2) rfl rfl unm136 ky104 rfl rfl rfl rfl (zh2 7 rfl rfl (fun w h => (h.drop (.cons _ (List.Sublist.refl _)))) (fun w h => R_move rfl) (zH2 9 (fun w h => (h.drop (.cons _ (List.Sublist.refl _)))) (o_pureW rfl (wn_none rfl) rfl (fun w => zR Tryz.func103 rfl rfl rfl) (fun w h => lookT_ok a b mb [((1, 0), .int .u8 2), ((3, 0), .int .u8 3), ((2, 0), .int .u8 2)] (.int .u8 (realK a b : Nat)) w (h.at_ 0 rfl) (realK_l103020 a b)) (zh (v := .int _ _) 10 rfl (by kernel_rfl) rfl rfl (fun w h => (h.drop (.cons _ (List.Sublist.refl _)))) (fun w h => R_assign rfl) (zN2 (fun w h => (h.drop (.cons _ (List.Sublist.refl _)))) (zk (ze (zo (v := .int _ _) rfl rfl rfl ?_)))))))))); exact fun w' hw => ⟨rfl, hw.fr _ zm0⟩
  · refine o_insP 0 (s := (2, 0)) (v := .int .u8 2) rfl rfl unm136 ky104 rfl rfl rfl rfl ?_; refine h_two 2 6 (by kernel_rfl) (fun w h => (h.drop (.cons _ (List.Sublist.refl _)))) ?_ ?_
    · refine o_insP 0 (s := (1, 0)) (v := .int .u8 2) rfl rfl unm136 ky104 rfl rfl rfl rfl (zH2 6 (fun w h => (h.drop (.cons _ (List.Sublist.refl _)))) (o_insP 0 (s := (3, 0)) (v := .int .u8 3) rfl rfl unm136 ky104 rfl rfl rfl rfl (zh2 7 rfl rfl (fun w h => (h.drop (.cons _ (List.Sublist.refl _)))) (fun w h => R_move rfl) (zH2 9 (fun w h => (h.drop (.cons _ (List.Sublist.refl _)))) (o_pureW rfl (wn_none rfl) rfl (fun w => zR Tryz.func103 rfl rfl rfl) (fun w h => lookT_ok a b mb [((2, 0), .int .u8 2), ((1, 0), .int .u8 2), ((3, 0), .int .u8 3)] (.int .u8 (realK a b : Nat)) w (h.at_ 0 rfl) (realK_l201030 a b)) (zh (v := .int _ _) 10 rfl (by kernel_rfl) rfl rfl (fun w h => (h.drop (.cons _ (List.Sublist.refl _)))) (fun w h => R_assign rfl) (zN2 (fun w h => (h.drop (.cons _ (List.Sublist.refl _)))) (zk (ze (zo (v := .int _ _) rfl rfl rfl ?_)))))))))); exact fun w' hw => ⟨rfl, hw.fr _ zm0⟩
    · refine o_insP 0 (s := (3, 0)) (v := .int .u8 3) rfl rfl unm136 ky104 rfl rfl rfl rfl (zH2 2 (fun w h => (h.drop (.cons _ (List.Sublist.refl _)))) (o_insP 0 (s := (1, 0)) (v := .int .u8 2) rfl rfl unm136 ky104 rfl rfl rfl rfl (zh2 7 rfl rfl (fun w h => (h.drop (.cons _ (List.Sublist.refl _)))) (fun w h => R_move rfl) (zH2 9 (fun w h => (h.drop (.cons _ (List.Sublist.refl _)))) (o_pureW rfl (wn_none rfl) rfl (fun w => zR Tryz.func103 rfl rfl rfl) (fun w h => lookT_ok a b mb [((2, 0), .int .u8 2), ((3, 0), .int .u8 3), ((1, 0), .int .u8 2)] (.int .u8 (realK a b : Nat)) w (h.at_ 0 rfl) (realK_l203010 a b)) (zh (v := .int _ _) 10 rfl (by kernel_rfl) rfl rfl (fun w h => (h.drop (.cons _ (List.Sublist.refl _)))) (fun w h => R_assign rfl) (zN2 (fun w h => (h.drop (.cons _ (List.Sublist.refl _)))) (zk (ze (zo (v := .int _ _) rfl rfl rfl ?_)))))))))); exact fun w' hw => ⟨rfl, hw.fr _ zm0⟩
  · refine o_insP 0 (s := (3, 0)) (v := .int .u8 3) rfl rfl unm136 ky104 rfl rfl rfl rfl ?_; refine h_two 2 4 (by kernel_rfl) (fun w h => (h.drop (.cons _ (List.Sublist.refl _)))) ?_ ?_
    · refine o_insP 0 (s := (1, 0)) (v := .int .u8 2) rfl rfl unm136 ky104 rfl rfl rfl rfl (zH2 4 (fun w h => (h.drop (.cons _ (List.Sublist.refl _)))) (o_insP 0 (s := (2, 0)) (v := .int .u8 2) rfl rfl unm136 ky104 rfl rfl rfl rfl (zh2 7 rfl rfl (fun w h => (h.drop (.cons _ (List.Sublist.refl _)))) (fun w h => R_move rfl) (zH2 9 (fun w h => (h.drop (.cons _ (List.Sublist.refl _)))) (o_pureW rfl (wn_none rfl) rfl (fun w => zR Tryz.func103 rfl rfl rfl) (fun w h => lookT_ok a b mb [((3, 0), .int .u8 3), ((1, 0), .int .u8 2), ((2, 0), .int .u8 2)] (.int .u8 (realK a b : Nat)) w (h.at_ 0 rfl) (realK_l301020 a b)) (zh (v := .int _ _) 10 rfl (by kernel_rfl) rfl rfl (fun w h => (h.drop (.cons _ (List.Sublist.refl _)))) (fun w h => R_assign rfl) (zN2 (fun w h => (h.drop (.cons _ (List.Sublist.refl _)))) (zk (ze (zo (v := .int _ _) rfl rfl rfl ?_)))))))))); exact fun w' hw => ⟨rfl, hw.fr _ zm0⟩
    · refine o_insP 0 (s := (2, 0)) (v := .int .u8 2) rfl rfl unm136 ky104 rfl rfl rfl rfl (zH2 2 (fun w h => (h.drop (.cons _ (List.Sublist.refl _)))) (o_insP 0 (s := (1, 0)) (v := .int .u8 2) rfl rfl unm136 ky104 rfl rfl rfl rfl (zh2 7 rfl rfl (fun w h => (h.drop (.cons _ (List.Sublist.refl _)))) (fun w h => R_move rfl) (zH2 9 (fun w h => (h.drop (.cons _ (List.Sublist.refl _)))) (o_pureW rfl (wn_none rfl) rfl (fun w => zR Tryz.func103 rfl rfl rfl) (fun w h => lookT_ok a b mb [((3, 0), .int .u8 3), ((2, 0), .int .u8 2), ((1, 0), .int .u8 2)] (.int .u8 (realK a b : Nat)) w (h.at_ 0 rfl) (realK_l302010 a b)) (zh (v := .int _ _) 10 rfl (by kernel_rfl) rfl rfl (fun w h => (h.drop (.cons _ (List.Sublist.refl _)))) (fun w h => R_assign rfl) (zN2 (fun w h => (h.drop (.cons _ (List.Sublist.refl _)))) (zk (ze (zo (v := .int _ _) rfl rfl rfl ?_)))))))))); exact fun w' hw => ⟨rfl, hw.fr _ zm0⟩

def callV (o : Option Nat) : Value := .tuple #[.int .u8 (o.getD 0 : Nat), .bool o.isSome]
theorem call_real {nm : Str} {a b : Nat} (h : nm ∈ ([[101, 120, 112], [108, 111, 103], [115, 113, 114, 116], [115, 113, 117, 97, 114, 101], [105, 110, 118, 95, 108, 111, 103, 105, 116]] : List Str)) : callK nm a b = some (realK a b) := by unfold callK; rw [if_pos h]; rfl
theorem call_sum (a b : Nat) : callK [115, 117, 109] a b = some (sumK a b) := by unfold callK; rw [if_neg (by decide), if_pos rfl]; rfl
theorem call_dot (a b : Nat) : callK [100, 111, 116] a b = some (dotK a b) := by unfold callK; rw [if_neg (by decide), if_neg (by decide), if_pos rfl]; rfl
theorem call_size (a b : Nat) : callK [115, 105, 122, 101] a b = some (sizeK a b) := by unfold callK; rw [if_neg (by decide), if_neg (by decide), if_neg (by decide), if_pos rfl]; rfl
theorem call_none {nm : Str} {a b : Nat} (h1 : ¬ nm ∈ ([[101, 120, 112], [108, 111, 103], [115, 113, 114, 116], [115, 113, 117, 97, 114, 101], [105, 110, 118, 95, 108, 111, 103, 105, 116]] : List Str)) (h2 : ¬ nm = [115, 117, 109]) (h3 : ¬ nm = [100, 111, 116]) (h4 : ¬ nm = [115, 105, 122, 101]) : callK nm a b = none := by unfold callK; rw [if_neg h1, if_neg h2, if_neg h3, if_neg h4]

theorem calls_ok (nm : Str) (a b : Nat) (w : World) :
    Ret Tryz.prog 67 #[str nm, pr a b] w (fun v w' => v = callV (callK nm a b) ∧ Ext w w') := by
  refine enter (S := No) (l := [_, _]) (L := []) 40 Tryz.func67 rfl rfl rfl (St.start w No) (yA (w_boxA rfl (fun tb gtb utb => aI rfl (aB rfl (yB (zq (yA (zm (v := str _) rfl (yB (zB (zq (yA (zg (fun _ => R_seq rfl rfl) (aB rfl (yB ?_))))))))))))))); refine zD rfl (fun h2 => ?_) (fun h2 => ?_)
  · refine zi (zk (zE (bT h2) (yA (zY z104 rfl (fun _ h => h.at_ 0 rfl) rfl (zC (fun w => zR Tryz.func102 rfl rfl rfl) rfl rfl (fun w h => real_ok a b w) (aI rfl (aB rfl (yB (ze (zb (zt ((r_two (v := .int _ _) (v2 := .bool _) rfl rfl rfl rfl rfl ?_))))))))))))); exact fun w' hw => ⟨by (rw [call_real (by clear hw; simp only [List.mem_cons, List.not_mem_nil, or_false]; grind)]; rfl), hw.fr _ zm0⟩
  · refine yA (zg (fun _ => R_seq rfl rfl) (aB rfl (yB ?_))); refine zD rfl (fun h3 => ?_) (fun h3 => ?_)
    · refine zi (zk (zE (bT h3) (yA (zY z104 rfl (fun _ h => h.at_ 0 rfl) rfl (zC (fun w => zR Tryz.func102 rfl rfl rfl) rfl rfl (fun w h => real_ok a b w) (aI rfl (aB rfl (yB (ze (zb (zt ((r_two (v := .int _ _) (v2 := .bool _) rfl rfl rfl rfl rfl ?_))))))))))))); exact fun w' hw => ⟨by (rw [call_real (by clear hw; simp only [List.mem_cons, List.not_mem_nil, or_false]; grind)]; rfl), hw.fr _ zm0⟩
    · refine yA (zg (fun _ => R_seq rfl rfl) (aB rfl (yB ?_))); refine zD rfl (fun h4 => ?_) (fun h4 => ?_)
      · refine zi (zk (zE (bT h4) (yA (zY z104 rfl (fun _ h => h.at_ 0 rfl) rfl (zC (fun w => zR Tryz.func102 rfl rfl rfl) rfl rfl (fun w h => real_ok a b w) (aI rfl (aB rfl (yB (ze (zb (zt ((r_two (v := .int _ _) (v2 := .bool _) rfl rfl rfl rfl rfl ?_))))))))))))); exact fun w' hw => ⟨by (rw [call_real (by clear hw; simp only [List.mem_cons, List.not_mem_nil, or_false]; grind)]; rfl), hw.fr _ zm0⟩
      · refine yA (zg (fun _ => R_seq rfl rfl) (aB rfl (yB ?_))); refine zD rfl (fun h5 => ?_) (fun h5 => ?_)
        · refine zi (zk (zE (bT h5) (yA (zY z104 rfl (fun _ h => h.at_ 0 rfl) rfl (zC (fun w => zR Tryz.func102 rfl rfl rfl) rfl rfl (fun w h => real_ok a b w) (aI rfl (aB rfl (yB (ze (zb (zt ((r_two (v := .int _ _) (v2 := .bool _) rfl rfl rfl rfl rfl ?_))))))))))))); exact fun w' hw => ⟨by (rw [call_real (by clear hw; simp only [List.mem_cons, List.not_mem_nil, or_false]; grind)]; rfl), hw.fr _ zm0⟩
        · refine zr (zg (fun _ => R_seq rfl rfl) (aB rfl (yB ?_))); refine zD rfl (fun h6 => ?_) (fun h6 => ?_)
          · refine yA (zY z104 rfl (fun _ h => h.at_ 0 rfl) rfl (zC (fun w => zR Tryz.func102 rfl rfl rfl) rfl rfl (fun w h => real_ok a b w) (aI rfl (aB rfl (yB (ze (zb (zt ((r_two (v := .int _ _) (v2 := .bool _) rfl rfl rfl rfl rfl ?_)))))))))); exact fun w' hw => ⟨by (rw [call_real (by clear hw; simp only [List.mem_cons, List.not_mem_nil, or_false]; grind)]; rfl), hw.fr _ zm0⟩
          · refine yA (zg (fun _ => R_seq rfl rfl) (aB rfl (yB ?_))); refine zD rfl (fun h7 => ?_) (fun h7 => ?_)
            · refine zq (c_heldS mixed (zh2 1 rfl rfl (fun w h => h) (fun w h => R_buildA ar104 zr104 rfl) (zh2 3 rfl rfl (fun w h => h) (fun w h => R_buildA ar104 zr104 rfl) (zh2 5 rfl rfl (fun w h => h) (fun w h => R_buildA ar104 zr104 rfl) (h_loadA 8 rfl (by kernel_rfl) (fun w h => h) z104 rfl (fun _ h => h.at_ 0 rfl) rfl (zH2 0 (fun w h => h) (o_makeMapP rfl (fun mb gmb umb => ?_))))))))
              refine h_three 2 4 6 (by kernel_rfl) (fun w h => (h.drop (.cons _ (List.Sublist.refl _)))) ?_ ?_ ?_
              · refine o_insP 0 (s := (4, 0)) (v := .int .u8 1) rfl rfl unm136 ky104 rfl rfl rfl rfl ?_; refine h_two 4 6 (by kernel_rfl) (fun w h => (h.drop (.cons _ (List.Sublist.refl _)))) ?_ ?_
                · refine o_insP 0 (s := (3, 0)) (v := .int .u8 2) rfl rfl unm136 ky104 rfl rfl rfl rfl (zH2 6 (fun w h => (h.drop (.cons _ (List.Sublist.refl _)))) (o_insP 0 (s := (5, 0)) (v := .int .u8 2) rfl rfl unm136 ky104 rfl rfl rfl rfl (zh2 7 rfl rfl (fun w h => (h.drop (.cons _ (List.Sublist.refl _)))) (fun w h => R_move rfl) (zH2 9 (fun w h => (h.drop (.cons _ (List.Sublist.refl _)))) (o_pureW rfl (wn_none rfl) rfl (fun w => zR Tryz.func103 rfl rfl rfl) (fun w h => lookT_ok a b mb [((4, 0), .int .u8 1), ((3, 0), .int .u8 2), ((5, 0), .int .u8 2)] (.int .u8 (sumK a b : Nat)) w (h.at_ 0 rfl) (sumK_l403050 a b)) (zh (v := .int _ _) 10 rfl (by kernel_rfl) rfl rfl (fun w h => (h.drop (.cons _ (List.Sublist.refl _)))) (fun w h => R_assign rfl) (zh (v := .bool _) 11 rfl (by kernel_rfl) rfl rfl (fun w h => (h.drop (.cons _ (List.Sublist.refl _)))) (fun w h => R_assign rfl) (zN2 (fun w h => (h.drop (.cons _ (List.Sublist.refl _)))) (zk (ze (zb (zt ((r_two (v := .int _ _) (v2 := .bool _) rfl rfl rfl rfl rfl ?_)))))))))))))); exact fun w' hw => ⟨by (subst_vars; (rw [call_sum]; rfl)), hw.fr _ zm0⟩
                · refine o_insP 0 (s := (5, 0)) (v := .int .u8 2) rfl rfl unm136 ky104 rfl rfl rfl rfl (zH2 4 (fun w h => (h.drop (.cons _ (List.Sublist.refl _)))) (o_insP 0 (s := (3, 0)) (v := .int .u8 2) rfl rfl unm136 ky104 rfl rfl rfl rfl (zh2 7 rfl rfl (fun w h => (h.drop (.cons _ (List.Sublist.refl _)))) (fun w h => R_move rfl) (zH2 9 (fun w h => (h.drop (.cons _ (List.Sublist.refl _)))) (o_pureW rfl (wn_none rfl) rfl (fun w => zR Tryz.func103 rfl rfl rfl) (fun w h => lookT_ok a b mb [((4, 0), .int .u8 1), ((5, 0), .int .u8 2), ((3, 0), .int .u8 2)] (.int .u8 (sumK a b : Nat)) w (h.at_ 0 rfl) (sumK_l405030 a b)) (zh (v := .int _ _) 10 rfl (by kernel_rfl) rfl rfl (fun w h => (h.drop (.cons _ (List.Sublist.refl _)))) (fun w h => R_assign rfl) (zh (v := .bool _) 11 rfl (by kernel_rfl) rfl rfl (fun w h => (h.drop (.cons _ (List.Sublist.refl _)))) (fun w h => R_assign rfl) (zN2 (fun w h => (h.drop (.cons _ (List.Sublist.refl _)))) (zk (ze (zb (zt ((r_two (v := .int _ _) (v2 := .bool _) rfl rfl rfl rfl rfl ?_)))))))))))))); exact fun w' hw => ⟨by (subst_vars; (rw [call_sum]; rfl)), hw.fr _ zm0⟩
              · refine o_insP 0 (s := (3, 0)) (v := .int .u8 2) rfl rfl unm136 ky104 rfl rfl rfl rfl ?_; refine h_two 2 6 (by kernel_rfl) (fun w h => (h.drop (.cons _ (List.Sublist.refl _)))) ?_ ?_
                · refine o_insP 0 (s := (4, 0)) (v := .int .u8 1) rfl rfl unm136 ky104 rfl rfl rfl rfl (zH2 6 (fun w h => (h.drop (.cons _ (List.Sublist.refl _)))) (o_insP 0 (s := (5, 0)) (v := .int .u8 2) rfl rfl unm136 ky104 rfl rfl rfl rfl (zh2 7 rfl rfl (fun w h => (h.drop (.cons _ (List.Sublist.refl _)))) (fun w h => R_move rfl) (zH2 9 (fun w h => (h.drop (.cons _ (List.Sublist.refl _)))) (o_pureW rfl (wn_none rfl) rfl (fun w => zR Tryz.func103 rfl rfl rfl) (fun w h => lookT_ok a b mb [((3, 0), .int .u8 2), ((4, 0), .int .u8 1), ((5, 0), .int .u8 2)] (.int .u8 (sumK a b : Nat)) w (h.at_ 0 rfl) (sumK_l304050 a b)) (zh (v := .int _ _) 10 rfl (by kernel_rfl) rfl rfl (fun w h => (h.drop (.cons _ (List.Sublist.refl _)))) (fun w h => R_assign rfl) (zh (v := .bool _) 11 rfl (by kernel_rfl) rfl rfl (fun w h => (h.drop (.cons _ (List.Sublist.refl _)))) (fun w h => R_assign rfl) (zN2 (fun w h => (h.drop (.cons _ (List.Sublist.refl _)))) (zk (ze (zb (zt ((r_two (v := .int _ _) (v2 := .bool _) rfl rfl rfl rfl rfl ?_)))))))))))))); exact fun w' hw => ⟨by (subst_vars; (rw [call_sum]; rfl)), hw.fr _ zm0⟩
                · refine o_insP 0 (s := (5, 0)) (v := .int .u8 2) rfl rfl unm136 ky104 rfl rfl rfl rfl (zH2 2 (fun w h => (h.drop (.cons _ (List.Sublist.refl _)))) (o_insP 0 (s := (4, 0)) (v := .int .u8 1) rfl rfl unm136 ky104 rfl rfl rfl rfl (zh2 7 rfl rfl (fun w h => (h.drop (.cons _ (List.Sublist.refl _)))) (fun w h => R_move rfl) (zH2 9 (fun w h => (h.drop (.cons _ (List.Sublist.refl _)))) (o_pureW rfl (wn_none rfl) rfl (fun w => zR Tryz.func103 rfl rfl rfl) (fun w h => lookT_ok a b mb [((3, 0), .int .u8 2), ((5, 0), .int .u8 2), ((4, 0), .int .u8 1)] (.int .u8 (sumK a b : Nat)) w (h.at_ 0 rfl) (sumK_l305040 a b)) (zh (v := .int _ _) 10 rfl (by kernel_rfl) rfl rfl (fun w h => (h.drop (.cons _ (List.Sublist.refl _)))) (fun w h => R_assign rfl) (zh (v := .bool _) 11 rfl (by kernel_rfl) rfl rfl (fun w h => (h.drop (.cons _ (List.Sublist.refl _)))) (fun w h => R_assign rfl) (zN2 (fun w h => (h.drop (.cons _ (List.Sublist.refl _)))) (zk (ze (zb (zt ((r_two (v := .int _ _) (v2 := .bool _) rfl rfl rfl rfl rfl ?_)))))))))))))); exact fun w' hw => ⟨by (subst_vars; (rw [call_sum]; rfl)), hw.fr _ zm0⟩
              · refine o_insP 0 (s := (5, 0)) (v := .int .u8 2) rfl rfl unm136 ky104 rfl rfl rfl rfl ?_; refine h_two 2 4 (by kernel_rfl) (fun w h => (h.drop (.cons _ (List.Sublist.refl _)))) ?_ ?_
                · refine o_insP 0 (s := (4, 0)) (v := .int .u8 1) rfl rfl unm136 ky104 rfl rfl rfl rfl (zH2 4 (fun w h => (h.drop (.cons _ (List.Sublist.refl _)))) (o_insP 0 (s := (3, 0)) (v := .int .u8 2) rfl rfl unm136 ky104 rfl rfl rfl rfl (zh2 7 rfl rfl (fun w h => (h.drop (.cons _ (List.Sublist.refl _)))) (fun w h => R_move rfl) (zH2 9 (fun w h => (h.drop (.cons _ (List.Sublist.refl _)))) (o_pureW rfl (wn_none rfl) rfl (fun w => zR Tryz.func103 rfl rfl rfl) (fun w h => lookT_ok a b mb [((5, 0), .int .u8 2), ((4, 0), .int .u8 1), ((3, 0), .int .u8 2)] (.int .u8 (sumK a b : Nat)) w (h.at_ 0 rfl) (sumK_l504030 a b)) (zh (v := .int _ _) 10 rfl (by kernel_rfl) rfl rfl (fun w h => (h.drop (.cons _ (List.Sublist.refl _)))) (fun w h => R_assign rfl) (zh (v := .bool _) 11 rfl (by kernel_rfl) rfl rfl (fun w h => (h.drop (.cons _ (List.Sublist.refl _)))) (fun w h => R_assign rfl) (zN2 (fun w h => (h.drop (.cons _ (List.Sublist.refl _)))) (zk (ze (zb (zt ((r_two (v := .int _ _) (v2 := .bool _) rfl rfl rfl rfl rfl ?_)))))))))))))); exact fun w' hw => ⟨by (subst_vars; (rw [call_sum]; rfl)), hw.fr _ zm0⟩
                · refine o_insP 0 (s := (3, 0)) (v := .int .u8 2) rfl rfl unm136 ky104 rfl rfl rfl rfl (zH2 2 (fun w h => (h.drop (.cons _ (List.Sublist.refl _)))) (o_insP 0 (s := (4, 0)) (v := .int .u8 1) rfl rfl unm136 ky104 rfl rfl rfl rfl (zh2 7 rfl rfl (fun w h => (h.drop (.cons _ (List.Sublist.refl _)))) (fun w h => R_move rfl) (zH2 9 (fun w h => (h.drop (.cons _ (List.Sublist.refl _)))) (o_pureW rfl (wn_none rfl) rfl (fun w => zR Tryz.func103 rfl rfl rfl) (fun w h => lookT_ok a b mb [((5, 0), .int .u8 2), ((3, 0), .int .u8 2), ((4, 0), .int .u8 1)] (.int .u8 (sumK a b : Nat)) w (h.at_ 0 rfl) (sumK_l503040 a b)) (zh (v := .int _ _) 10 rfl (by kernel_rfl) rfl rfl (fun w h => (h.drop (.cons _ (List.Sublist.refl _)))) (fun w h => R_assign rfl) (zh (v := .bool _) 11 rfl (by kernel_rfl) rfl rfl (fun w h => (h.drop (.cons _ (List.Sublist.refl _)))) (fun w h => R_assign rfl) (zN2 (fun w h => (h.drop (.cons _ (List.Sublist.refl _)))) (zk (ze (zb (zt ((r_two (v := .int _ _) (v2 := .bool _) rfl rfl rfl rfl rfl ?_)))))))))))))); exact fun w' hw => ⟨by (subst_vars; (rw [call_sum]; rfl)), hw.fr _ zm0⟩
            · refine yA (zg (fun _ => R_seq rfl rfl) (aB rfl (yB ?_))); refine zD rfl (fun h8 => ?_) (fun h8 => ?_)
              · refine zq (c_heldS mixed (zh2 1 rfl rfl (fun w h => h) (fun w h => R_buildA ar104 zr104 rfl) (h_loadA 4 rfl (by kernel_rfl) (fun w h => h) z104 rfl (fun _ h => h.at_ 0 rfl) rfl (zH2 0 (fun w h => h) (o_makeMapP rfl (fun mb gmb umb => zH2 2 (fun w h => (h.drop (.cons _ (List.Sublist.refl _)))) (o_insP 0 (s := (3, 3)) (v := .int .u8 2) rfl rfl unm136 ky104 rfl rfl rfl rfl (zh2 3 rfl rfl (fun w h => (h.drop (.cons _ (List.Sublist.refl _)))) (fun w h => R_move rfl) (zH2 5 (fun w h => (h.drop (.cons _ (List.Sublist.refl _)))) (o_pureW rfl (wn_none rfl) rfl (fun w => zR Tryz.func103 rfl rfl rfl) (fun w h => lookT_ok a b mb [((3, 3), .int .u8 2)] (.int .u8 (dotK a b : Nat)) w (h.at_ 0 rfl) (dotK_l33 a b)) (zh (v := .int _ _) 6 rfl (by kernel_rfl) rfl rfl (fun w h => (h.drop (.cons _ (List.Sublist.refl _)))) (fun w h => R_assign rfl) (zh (v := .bool _) 7 rfl (by kernel_rfl) rfl rfl (fun w h => (h.drop (.cons _ (List.Sublist.refl _)))) (fun w h => R_assign rfl) (zN2 (fun w h => (h.drop (.cons _ (List.Sublist.refl _)))) (zk (ze (zb (zt ((r_two (v := .int _ _) (v2 := .bool _) rfl rfl rfl rfl rfl ?_))))))))))))))))))); exact fun w' hw => ⟨by (subst_vars; (rw [call_dot]; rfl)), hw.fr _ zm0⟩
              · refine yA (zg (fun _ => R_seq rfl rfl) (aB rfl (yB ?_))); refine zD rfl (fun h9 => ?_) (fun h9 => ?_)
                · refine zq (c_heldS mixed (zh2 1 rfl rfl (fun w h => h) (fun w h => R_buildA ar104 zr104 rfl) (zh2 3 rfl rfl (fun w h => h) (fun w h => R_buildA ar104 zr104 rfl) (zh2 5 rfl rfl (fun w h => h) (fun w h => R_buildA ar104 zr104 rfl) (h_loadA 8 rfl (by kernel_rfl) (fun w h => h) z104 rfl (fun _ h => h.at_ 0 rfl) rfl (zH2 0 (fun w h => h) (o_makeMapP rfl (fun mb gmb umb => ?_))))))))
                  refine h_three 2 4 6 (by kernel_rfl) (fun w h => (h.drop (.cons _ (List.Sublist.refl _)))) ?_ ?_ ?_
                  · refine o_insP 0 (s := (4, 0)) (v := .int .u8 1) rfl rfl unm136 ky104 rfl rfl rfl rfl ?_; refine h_two 4 6 (by kernel_rfl) (fun w h => (h.drop (.cons _ (List.Sublist.refl _)))) ?_ ?_
                    · refine o_insP 0 (s := (3, 0)) (v := .int .u8 1) rfl rfl unm136 ky104 rfl rfl rfl rfl (zH2 6 (fun w h => (h.drop (.cons _ (List.Sublist.refl _)))) (o_insP 0 (s := (5, 0)) (v := .int .u8 1) rfl rfl unm136 ky104 rfl rfl rfl rfl (zh2 7 rfl rfl (fun w h => (h.drop (.cons _ (List.Sublist.refl _)))) (fun w h => R_move rfl) (zH2 9 (fun w h => (h.drop (.cons _ (List.Sublist.refl _)))) (o_pureW rfl (wn_none rfl) rfl (fun w => zR Tryz.func103 rfl rfl rfl) (fun w h => lookT_ok a b mb [((4, 0), .int .u8 1), ((3, 0), .int .u8 1), ((5, 0), .int .u8 1)] (.int .u8 (sizeK a b : Nat)) w (h.at_ 0 rfl) (sizeK_l403050 a b)) (zh (v := .int _ _) 10 rfl (by kernel_rfl) rfl rfl (fun w h => (h.drop (.cons _ (List.Sublist.refl _)))) (fun w h => R_assign rfl) (zh (v := .bool _) 11 rfl (by kernel_rfl) rfl rfl (fun w h => (h.drop (.cons _ (List.Sublist.refl _)))) (fun w h => R_assign rfl) (zN2 (fun w h => (h.drop (.cons _ (List.Sublist.refl _)))) (zk (ze (zb (zt ((r_two (v := .int _ _) (v2 := .bool _) rfl rfl rfl rfl rfl ?_)))))))))))))); exact fun w' hw => ⟨by (subst_vars; (rw [call_size]; rfl)), hw.fr _ zm0⟩
                    · refine o_insP 0 (s := (5, 0)) (v := .int .u8 1) rfl rfl unm136 ky104 rfl rfl rfl rfl (zH2 4 (fun w h => (h.drop (.cons _ (List.Sublist.refl _)))) (o_insP 0 (s := (3, 0)) (v := .int .u8 1) rfl rfl unm136 ky104 rfl rfl rfl rfl (zh2 7 rfl rfl (fun w h => (h.drop (.cons _ (List.Sublist.refl _)))) (fun w h => R_move rfl) (zH2 9 (fun w h => (h.drop (.cons _ (List.Sublist.refl _)))) (o_pureW rfl (wn_none rfl) rfl (fun w => zR Tryz.func103 rfl rfl rfl) (fun w h => lookT_ok a b mb [((4, 0), .int .u8 1), ((5, 0), .int .u8 1), ((3, 0), .int .u8 1)] (.int .u8 (sizeK a b : Nat)) w (h.at_ 0 rfl) (sizeK_l405030 a b)) (zh (v := .int _ _) 10 rfl (by kernel_rfl) rfl rfl (fun w h => (h.drop (.cons _ (List.Sublist.refl _)))) (fun w h => R_assign rfl) (zh (v := .bool _) 11 rfl (by kernel_rfl) rfl rfl (fun w h => (h.drop (.cons _ (List.Sublist.refl _)))) (fun w h => R_assign rfl) (zN2 (fun w h => (h.drop (.cons _ (List.Sublist.refl _)))) (zk (ze (zb (zt ((r_two (v := .int _ _) (v2 := .bool _) rfl rfl rfl rfl rfl ?_)))))))))))))); exact fun w' hw => ⟨by (subst_vars; (rw [call_size]; rfl)), hw.fr _ zm0⟩
                  · refine o_insP 0 (s := (3, 0)) (v := .int .u8 1) rfl rfl unm136 ky104 rfl rfl rfl rfl ?_; refine h_two 2 6 (by kernel_rfl) (fun w h => (h.drop (.cons _ (List.Sublist.refl _)))) ?_ ?_
                    · refine o_insP 0 (s := (4, 0)) (v := .int .u8 1) rfl rfl unm136 ky104 rfl rfl rfl rfl (zH2 6 (fun w h => (h.drop (.cons _ (List.Sublist.refl _)))) (o_insP 0 (s := (5, 0)) (v := .int .u8 1) rfl rfl unm136 ky104 rfl rfl rfl rfl (zh2 7 rfl rfl (fun w h => (h.drop (.cons _ (List.Sublist.refl _)))) (fun w h => R_move rfl) (zH2 9 (fun w h => (h.drop (.cons _ (List.Sublist.refl _)))) (o_pureW rfl (wn_none rfl) rfl (fun w => zR Tryz.func103 rfl rfl rfl) (fun w h => lookT_ok a b mb [((3, 0), .int .u8 1), ((4, 0), .int .u8 1), ((5, 0), .int .u8 1)] (.int .u8 (sizeK a b : Nat)) w (h.at_ 0 rfl) (sizeK_l304050 a b)) (zh (v := .int _ _) 10 rfl (by kernel_rfl) rfl rfl (fun w h => (h.drop (.cons _ (List.Sublist.refl _)))) (fun w h => R_assign rfl) (zh (v := .bool _) 11 rfl (by kernel_rfl) rfl rfl (fun w h => (h.drop (.cons _ (List.Sublist.refl _)))) (fun w h => R_assign rfl) (zN2 (fun w h => (h.drop (.cons _ (List.Sublist.refl _)))) (zk (ze (zb (zt ((r_two (v := .int _ _) (v2 := .bool _) rfl rfl rfl rfl rfl ?_)))))))))))))); exact fun w' hw => ⟨by (subst_vars; (rw [call_size]; rfl)), hw.fr _ zm0⟩
                    · refine o_insP 0 (s := (5, 0)) (v := .int .u8 1) rfl rfl unm136 ky104 rfl rfl rfl rfl (zH2 2 (fun w h => (h.drop (.cons _ (List.Sublist.refl _)))) (o_insP 0 (s := (4, 0)) (v := .int .u8 1) rfl rfl unm136 ky104 rfl rfl rfl rfl (zh2 7 rfl rfl (fun w h => (h.drop (.cons _ (List.Sublist.refl _)))) (fun w h => R_move rfl) (zH2 9 (fun w h => (h.drop (.cons _ (List.Sublist.refl _)))) (o_pureW rfl (wn_none rfl) rfl (fun w => zR Tryz.func103 rfl rfl rfl) (fun w h => lookT_ok a b mb [((3, 0), .int .u8 1), ((5, 0), .int .u8 1), ((4, 0), .int .u8 1)] (.int .u8 (sizeK a b : Nat)) w (h.at_ 0 rfl) (sizeK_l305040 a b)) (zh (v := .int _ _) 10 rfl (by kernel_rfl) rfl rfl (fun w h => (h.drop (.cons _ (List.Sublist.refl _)))) (fun w h => R_assign rfl) (zh (v := .bool _) 11 rfl (by kernel_rfl) rfl rfl (fun w h => (h.drop (.cons _ (List.Sublist.refl _)))) (fun w h => R_assign rfl) (zN2 (fun w h => (h.drop (.cons _ (List.Sublist.refl _)))) (zk (ze (zb (zt ((r_two (v := .int _ _) (v2 := .bool _) rfl rfl rfl rfl rfl ?_)))))))))))))); exact fun w' hw => ⟨by (subst_vars; (rw [call_size]; rfl)), hw.fr _ zm0⟩
                  · refine o_insP 0 (s := (5, 0)) (v := .int .u8 1) rfl rfl unm136 ky104 rfl rfl rfl rfl ?_; refine h_two 2 4 (by kernel_rfl) (fun w h => (h.drop (.cons _ (List.Sublist.refl _)))) ?_ ?_
                    · refine o_insP 0 (s := (4, 0)) (v := .int .u8 1) rfl rfl unm136 ky104 rfl rfl rfl rfl (zH2 4 (fun w h => (h.drop (.cons _ (List.Sublist.refl _)))) (o_insP 0 (s := (3, 0)) (v := .int .u8 1) rfl rfl unm136 ky104 rfl rfl rfl rfl (zh2 7 rfl rfl (fun w h => (h.drop (.cons _ (List.Sublist.refl _)))) (fun w h => R_move rfl) (zH2 9 (fun w h => (h.drop (.cons _ (List.Sublist.refl _)))) (o_pureW rfl (wn_none rfl) rfl (fun w => zR Tryz.func103 rfl rfl rfl) (fun w h => lookT_ok a b mb [((5, 0), .int .u8 1), ((4, 0), .int .u8 1), ((3, 0), .int .u8 1)] (.int .u8 (sizeK a b : Nat)) w (h.at_ 0 rfl) (sizeK_l504030 a b)) (zh (v := .int _ _) 10 rfl (by kernel_rfl) rfl rfl (fun w h => (h.drop (.cons _ (List.Sublist.refl _)))) (fun w h => R_assign rfl) (zh (v := .bool _) 11 rfl (by kernel_rfl) rfl rfl (fun w h => (h.drop (.cons _ (List.Sublist.refl _)))) (fun w h => R_assign rfl) (zN2 (fun w h => (h.drop (.cons _ (List.Sublist.refl _)))) (zk (ze (zb (zt ((r_two (v := .int _ _) (v2 := .bool _) rfl rfl rfl rfl rfl ?_)))))))))))))); exact fun w' hw => ⟨by (subst_vars; (rw [call_size]; rfl)), hw.fr _ zm0⟩
                    · refine o_insP 0 (s := (3, 0)) (v := .int .u8 1) rfl rfl unm136 ky104 rfl rfl rfl rfl (zH2 2 (fun w h => (h.drop (.cons _ (List.Sublist.refl _)))) (o_insP 0 (s := (4, 0)) (v := .int .u8 1) rfl rfl unm136 ky104 rfl rfl rfl rfl (zh2 7 rfl rfl (fun w h => (h.drop (.cons _ (List.Sublist.refl _)))) (fun w h => R_move rfl) (zH2 9 (fun w h => (h.drop (.cons _ (List.Sublist.refl _)))) (o_pureW rfl (wn_none rfl) rfl (fun w => zR Tryz.func103 rfl rfl rfl) (fun w h => lookT_ok a b mb [((5, 0), .int .u8 1), ((3, 0), .int .u8 1), ((4, 0), .int .u8 1)] (.int .u8 (sizeK a b : Nat)) w (h.at_ 0 rfl) (sizeK_l503040 a b)) (zh (v := .int _ _) 10 rfl (by kernel_rfl) rfl rfl (fun w h => (h.drop (.cons _ (List.Sublist.refl _)))) (fun w h => R_assign rfl) (zh (v := .bool _) 11 rfl (by kernel_rfl) rfl rfl (fun w h => (h.drop (.cons _ (List.Sublist.refl _)))) (fun w h => R_assign rfl) (zN2 (fun w h => (h.drop (.cons _ (List.Sublist.refl _)))) (zk (ze (zb (zt ((r_two (v := .int _ _) (v2 := .bool _) rfl rfl rfl rfl rfl ?_)))))))))))))); exact fun w' hw => ⟨by (subst_vars; (rw [call_size]; rfl)), hw.fr _ zm0⟩
                · refine zi (zO (zk (yA (aI rfl (aB rfl (yB (ze (r_two (v := .int _ _) (v2 := .bool _) rfl rfl rfl rfl rfl ?_)))))))); exact fun w' hw => ⟨by (rw [call_none (by clear hw; simp only [List.mem_cons, List.not_mem_nil, or_false]; grind) (by assumption) (by assumption) (by assumption)]; rfl), hw.fr _ zm0⟩

theorem joined_ok (op a b : Nat) (w : World) :
    Ret Tryz.prog 68 #[.int .u8 (op : Nat), pr a b] w (fun v w' => v = .int .u8 (twoK op a b : Nat) ∧ Ext w w') := by
  refine enter (S := No) (l := [_, _]) (L := []) 59 Tryz.func68 rfl rfl rfl (St.start w No) (yA (w_boxA rfl (fun tb gtb utb => aI rfl (yB (zq (c_heldS mixed (zh2 0 rfl rfl (fun w h => h) (fun w h => R_iaA ar104 (by decide) rfl rfl (by decide)) (zh (v := .int _ _) 1 rfl (by kernel_rfl) rfl rfl (fun w h => h) (fun w h => R_ld1 z5 rfl ((fun _ h => zc 0 rfl rfl h) w h)) (zh2 2 rfl rfl (fun w h => h) (fun w h => R_iaA (i := 1) ar104 (by decide) rfl rfl (by omega)) (zh (v := .int _ _) 3 rfl (by kernel_rfl) rfl rfl (fun w h => h) (fun w h => R_ld1 z5 rfl ((fun _ h => zc 0 rfl rfl h) w h)) (zh (v := .int _ _) 4 rfl (by kernel_rfl) rfl rfl (fun w h => h) (fun w h => R_assign rfl) (zh (v := .int _ _) 5 rfl (by kernel_rfl) rfl rfl (fun w h => h) (fun w h => R_assign rfl) (zN2 (fun w h => h) (zk (zq (zB (yA (mI rfl (zC (fun w => zR Tryz.func84 rfl rfl rfl) rfl rfl (fun w h => scalar_ok _ w) (mB rfl ?_)))))))))))))))))))); refine zp (t := 14) rfl (fun h2 => ?_) (fun h2 => ?_)
  · refine zw rfl rfl (bV h2) (mI rfl (zw rfl rfl (bV h2) (zC (fun w => zR Tryz.func84 rfl rfl rfl) rfl rfl (fun w h => scalar_ok _ w) (zg (v := .bool _) (fun _ => zT (bV h2) rfl) (aB rfl (yB ?_)))))); refine c_cond rfl (fun h3 => ?_) (fun h3 => ?_)
    · refine zq (yA (mI rfl (zg (fun _ => R_ne rfl rfl) (mB rfl ?_)))); refine zd (t := 20) rfl (fun h4 => ?_) (fun h4 => ?_)
      · refine zw rfl rfl (bT h4) (mI rfl (zw rfl rfl (bT h4) (zg (fun _ => R_eq rfl rfl) (zg (v := .bool _) (fun _ => zT (bT h4) rfl) (mB rfl ?_))))); refine zd (t := 24) rfl (fun h5 => ?_) (fun h5 => ?_)
        · refine zw rfl rfl (bT h5) (mI rfl (zw rfl rfl (bT h5) (zg (fun _ => R_eq rfl rfl) (zg (v := .bool _) (fun _ => zT (bT h5) rfl) (yB ?_))))); refine zD rfl (fun h6 => ?_) (fun h6 => ?_)
          · refine yA (aI rfl (yB (ze (zt (zb (zt ((zo (v := .int _ _) rfl rfl rfl ?_)))))))); exact fun w' hw => ⟨congrArg (fun n : Nat => Value.int .u8 (n : Int)) (show _ = twoK op a b by clear hw; unfold twoK; grind), hw.fr _ zm0⟩
          · refine zi (zk (yA (aI rfl (yB (ze (zb (zt ((zo (v := .int _ _) rfl rfl rfl ?_))))))))); exact fun w' hw => ⟨congrArg (fun n : Nat => Value.int .u8 (n : Int)) (show _ = twoK op a b by clear hw; unfold twoK; grind), hw.fr _ zm0⟩
        · refine zs rfl rfl (bF h5) (zs rfl rfl (bF h5) (zg (v := .bool _) (fun _ => zF (bF h5) rfl) (yB (zG rfl (zi (zk (yA (aI rfl (yB (ze (zb (zt ((zo (v := .int _ _) rfl rfl rfl ?_)))))))))))))); exact fun w' hw => ⟨congrArg (fun n : Nat => Value.int .u8 (n : Int)) (show _ = twoK op a b by clear hw; unfold twoK; grind), hw.fr _ zm0⟩
      · refine zs rfl rfl (bF h4) (zs rfl rfl (bF h4) (zg (v := .bool _) (fun _ => zF (bF h4) rfl) (mB rfl ?_))); (iterate 2 refine zs rfl rfl rfl ?_); refine zg (v := .bool _) (fun _ => zF rfl rfl) (yB (zG rfl (zi (zk (yA (aI rfl (yB (ze (zb (zt (?_)))))))))))
        refine zo (v := .int _ _) rfl rfl rfl ?_; exact fun w' hw => ⟨congrArg (fun n : Nat => Value.int .u8 (n : Int)) (show _ = twoK op a b by clear hw; unfold twoK; grind), hw.fr _ zm0⟩
    · refine yA (mI rfl (zg (fun _ => R_eq rfl rfl) (mB rfl ?_))); refine zd (t := 31) rfl (fun h7 => ?_) (fun h7 => ?_)
      · refine zs rfl rfl (bT h7) (zs rfl rfl (bT h7) (zg (v := .bool _) (fun _ => zT (bT h7) rfl) (aB rfl (yB (zE rfl (zq (c_heldS mixed (zh2 1 rfl rfl (fun w h => h) (fun w h => R_buildA ar104 zr104 rfl) (h_loadA 4 rfl (by kernel_rfl) (fun w h => h) z104 rfl (fun _ h => h.at_ 0 rfl) rfl (zH2 0 (fun w h => h) (o_makeMapP rfl (fun mb gmb umb => zH2 2 (fun w h => (h.drop (.cons _ (List.Sublist.refl _)))) (o_insP 0 (s := (3, 3)) (v := .int .u8 3) rfl rfl unm136 ky104 rfl rfl rfl rfl (zh2 3 rfl rfl (fun w h => (h.drop (.cons _ (List.Sublist.refl _)))) (fun w h => R_move rfl) (zH2 5 (fun w h => (h.drop (.cons _ (List.Sublist.refl _)))) (o_pureW rfl (wn_none rfl) rfl (fun w => zR Tryz.func103 rfl rfl rfl) (fun w h => lookT_ok a b mb [((3, 3), .int .u8 3)] (.int .u8 (twoK op a b : Nat)) w (h.at_ 0 rfl) ((vecK_l33 a b).trans (congrArg (fun n : Nat => Value.int .u8 (n : Int)) (by clear h; unfold twoK vecK; grind)))) (zh (v := .int _ _) 6 rfl (by kernel_rfl) rfl rfl (fun w h => (h.drop (.cons _ (List.Sublist.refl _)))) (fun w h => R_assign rfl) (zN2 (fun w h => (h.drop (.cons _ (List.Sublist.refl _)))) (zk (ze (zb (zt ((zo (v := .int _ _) rfl rfl rfl ?_)))))))))))))))))))))))); exact fun w' hw => ⟨congrArg (fun n : Nat => Value.int .u8 (n : Int)) (show _ = twoK op a b by clear hw; unfold twoK; grind), hw.fr _ zm0⟩
      · refine zw rfl rfl (bF h7) (mI rfl (zw rfl rfl (bF h7) (zg (fun _ => R_eq rfl rfl) (zg (v := .bool _) (fun _ => zF (bF h7) rfl) (aB rfl (yB ?_)))))); refine zD rfl (fun h8 => ?_) (fun h8 => ?_)
        · refine zq (c_heldS mixed (zh2 1 rfl rfl (fun w h => h) (fun w h => R_buildA ar104 zr104 rfl) (h_loadA 4 rfl (by kernel_rfl) (fun w h => h) z104 rfl (fun _ h => h.at_ 0 rfl) rfl (zH2 0 (fun w h => h) (o_makeMapP rfl (fun mb gmb umb => zH2 2 (fun w h => (h.drop (.cons _ (List.Sublist.refl _)))) (o_insP 0 (s := (3, 3)) (v := .int .u8 3) rfl rfl unm136 ky104 rfl rfl rfl rfl (zh2 3 rfl rfl (fun w h => (h.drop (.cons _ (List.Sublist.refl _)))) (fun w h => R_move rfl) (zH2 5 (fun w h => (h.drop (.cons _ (List.Sublist.refl _)))) (o_pureW rfl (wn_none rfl) rfl (fun w => zR Tryz.func103 rfl rfl rfl) (fun w h => lookT_ok a b mb [((3, 3), .int .u8 3)] (.int .u8 (twoK op a b : Nat)) w (h.at_ 0 rfl) ((vecK_l33 a b).trans (congrArg (fun n : Nat => Value.int .u8 (n : Int)) (by clear h; unfold twoK vecK; grind)))) (zh (v := .int _ _) 6 rfl (by kernel_rfl) rfl rfl (fun w h => (h.drop (.cons _ (List.Sublist.refl _)))) (fun w h => R_assign rfl) (zN2 (fun w h => (h.drop (.cons _ (List.Sublist.refl _)))) (zk (ze (zb (zt ((zo (v := .int _ _) rfl rfl rfl ?_)))))))))))))))))); exact fun w' hw => ⟨congrArg (fun n : Nat => Value.int .u8 (n : Int)) (show _ = twoK op a b by clear hw; unfold twoK; grind), hw.fr _ zm0⟩
        · refine yA (mI rfl (zg (fun _ => R_eq rfl rfl) (mB rfl ?_))); refine zd (t := 43) rfl (fun h9 => ?_) (fun h9 => ?_)
          · refine zw rfl rfl (bT h9) (mI rfl (zw rfl rfl (bT h9) (zC (fun w => zR Tryz.func84 rfl rfl rfl) rfl rfl (fun w h => scalar_ok _ w) (zg (v := .bool _) (fun _ => zT (bT h9) rfl) (mB rfl ?_))))); refine zp (t := 47) rfl (fun h10 => ?_) (fun h10 => ?_)
            · refine zs rfl rfl (bV h10) (zs rfl rfl (bV h10) (zs rfl rfl (bV h10) (zU rfl rfl rfl (zU rfl rfl rfl (zs rfl rfl (bV h10) (zs rfl rfl (bV h10) (zU rfl rfl rfl (zU rfl rfl rfl (zs rfl rfl (bV h10) (zg (v := .bool _) (fun _ => zT (bV h10) rfl) (aB rfl (yB (zE rfl (yA (aI rfl (yB (ze (zb (zt ((zo (v := .int _ _) rfl rfl rfl ?_))))))))))))))))))))); exact fun w' hw => ⟨congrArg (fun n : Nat => Value.int .u8 (n : Int)) (show _ = twoK op a b by clear hw; unfold twoK; grind), hw.fr _ zm0⟩
            · refine zw rfl rfl (bV h10) (mI rfl (zw rfl rfl (bV h10) (zg (fun _ => R_eq rfl rfl) (zw rfl rfl (bV h10) (mB rfl ?_))))); refine zd (t := 50) rfl (fun h11 => ?_) (fun h11 => ?_)
              · refine zw rfl rfl (bT h11) (mI rfl (zw rfl rfl (bT h11) (zC (fun w => zR Tryz.func84 rfl rfl rfl) rfl rfl (fun w h => scalar_ok _ w) (zw rfl rfl (bV h10) (zg (v := .bool _) (fun _ => zT (bT h11) rfl) (zw rfl rfl (bV h10) (mB rfl ?_))))))); refine zp (t := 54) rfl (fun h12 => ?_) (fun h12 => ?_)
                · refine zw rfl rfl (bV h12) (mI rfl (zw rfl rfl (bV h12) (zg (fun _ => R_eq rfl rfl) (zw rfl rfl (bV h10) (zg (v := .bool _) (fun _ => zT (bV h12) rfl) (zg (v := .bool _) (fun _ => zF (bV h10) rfl) (aB rfl (yB ?_)))))))); refine zD rfl (fun h13 => ?_) (fun h13 => ?_)
                  · refine yA (aI rfl (yB (ze (zb (zt ((zo (v := .int _ _) rfl rfl rfl ?_))))))); exact fun w' hw => ⟨congrArg (fun n : Nat => Value.int .u8 (n : Int)) (show _ = twoK op a b by clear hw; unfold twoK; grind), hw.fr _ zm0⟩
                  · refine zi (zO (zk (yA (aI rfl (yB (ze (zo (v := .int _ _) rfl rfl rfl ?_))))))); exact fun w' hw => ⟨congrArg (fun n : Nat => Value.int .u8 (n : Int)) (show _ = twoK op a b by clear hw; unfold twoK; grind), hw.fr _ zm0⟩
                · refine zs rfl rfl (bV h12) (zs rfl rfl (bV h12) (zw rfl rfl (bV h10) (zg (v := .bool _) (fun _ => zF (bV h12) rfl) (zg (v := .bool _) (fun _ => zF (bV h10) rfl) (aB rfl (yB (zG rfl (zi (zO (zk (yA (aI rfl (yB (ze (zo (v := .int _ _) rfl rfl rfl ?_))))))))))))))); exact fun w' hw => ⟨congrArg (fun n : Nat => Value.int .u8 (n : Int)) (show _ = twoK op a b by clear hw; unfold twoK; grind), hw.fr _ zm0⟩
              · refine zs rfl rfl (bF h11) (zs rfl rfl (bF h11) (zw rfl rfl (bV h10) (zg (v := .bool _) (fun _ => zF (bF h11) rfl) (zw rfl rfl (bV h10) (mB rfl ?_))))); (iterate 2 refine zs rfl rfl rfl ?_); refine zw rfl rfl (bV h10) (zg (v := .bool _) (fun _ => zF rfl rfl) (zg (v := .bool _) (fun _ => zF (bV h10) rfl) (aB rfl (yB (zG rfl (zi (zO (zk (yA (aI rfl (yB (ze (zo (v := .int _ _) rfl rfl rfl ?_)))))))))))))
                exact fun w' hw => ⟨congrArg (fun n : Nat => Value.int .u8 (n : Int)) (show _ = twoK op a b by clear hw; unfold twoK; grind), hw.fr _ zm0⟩
          · refine zs rfl rfl (bF h9) (zs rfl rfl (bF h9) (zg (v := .bool _) (fun _ => zF (bF h9) rfl) (mB rfl (zw rfl rfl rfl (mI rfl (zw rfl rfl rfl (zg (fun _ => R_eq rfl rfl) (zw rfl rfl rfl (mB rfl ?_))))))))); refine zd (t := 50) rfl (fun h14 => ?_) (fun h14 => ?_)
            · refine zw rfl rfl (bT h14) (mI rfl (zw rfl rfl (bT h14) (zC (fun w => zR Tryz.func84 rfl rfl rfl) rfl rfl (fun w h => scalar_ok _ w) (zw rfl rfl rfl (zg (v := .bool _) (fun _ => zT (bT h14) rfl) (zw rfl rfl rfl (mB rfl ?_))))))); refine zp (t := 54) rfl (fun h15 => ?_) (fun h15 => ?_)
              · refine zw rfl rfl (bV h15) (mI rfl (zw rfl rfl (bV h15) (zg (fun _ => R_eq rfl rfl) (zw rfl rfl rfl (zg (v := .bool _) (fun _ => zT (bV h15) rfl) (zg (v := .bool _) (fun _ => zF rfl rfl) (aB rfl (yB ?_)))))))); refine zD rfl (fun h16 => ?_) (fun h16 => ?_)
                · refine yA (aI rfl (yB (ze (zb (zt ((zo (v := .int _ _) rfl rfl rfl ?_))))))); exact fun w' hw => ⟨congrArg (fun n : Nat => Value.int .u8 (n : Int)) (show _ = twoK op a b by clear hw; unfold twoK; grind), hw.fr _ zm0⟩
                · refine zi (zO (zk (yA (aI rfl (yB (ze (zo (v := .int _ _) rfl rfl rfl ?_))))))); exact fun w' hw => ⟨congrArg (fun n : Nat => Value.int .u8 (n : Int)) (show _ = twoK op a b by clear hw; unfold twoK; grind), hw.fr _ zm0⟩
              · refine zs rfl rfl (bV h15) (zs rfl rfl (bV h15) (zw rfl rfl rfl (zg (v := .bool _) (fun _ => zF (bV h15) rfl) (zg (v := .bool _) (fun _ => zF rfl rfl) (aB rfl (yB (zG rfl (zi (zO (zk (yA (aI rfl (yB (ze (zo (v := .int _ _) rfl rfl rfl ?_))))))))))))))); exact fun w' hw => ⟨congrArg (fun n : Nat => Value.int .u8 (n : Int)) (show _ = twoK op a b by clear hw; unfold twoK; grind), hw.fr _ zm0⟩
            · refine zs rfl rfl (bF h14) (zs rfl rfl (bF h14) (zw rfl rfl rfl (zg (v := .bool _) (fun _ => zF (bF h14) rfl) (zw rfl rfl rfl (mB rfl ?_))))); (iterate 2 refine zs rfl rfl rfl ?_); refine zw rfl rfl rfl (zg (v := .bool _) (fun _ => zF rfl rfl) (zg (v := .bool _) (fun _ => zF rfl rfl) (aB rfl (yB (zG rfl (zi (zO (zk (yA (aI rfl (yB (ze (zo (v := .int _ _) rfl rfl rfl ?_)))))))))))))
              exact fun w' hw => ⟨congrArg (fun n : Nat => Value.int .u8 (n : Int)) (show _ = twoK op a b by clear hw; unfold twoK; grind), hw.fr _ zm0⟩
  · refine zs rfl rfl (bV h2) (zs rfl rfl (bV h2) (zg (v := .bool _) (fun _ => zF (bV h2) rfl) (aB rfl (yB (zG rfl (yA (mI rfl (zg (fun _ => R_eq rfl rfl) (mB rfl ?_))))))))); refine zd (t := 31) rfl (fun h17 => ?_) (fun h17 => ?_)
    · refine zs rfl rfl (bT h17) (zs rfl rfl (bT h17) (zg (v := .bool _) (fun _ => zT (bT h17) rfl) (aB rfl (yB (zE rfl (zq (c_heldS mixed (zh2 1 rfl rfl (fun w h => h) (fun w h => R_buildA ar104 zr104 rfl) (h_loadA 4 rfl (by kernel_rfl) (fun w h => h) z104 rfl (fun _ h => h.at_ 0 rfl) rfl (zH2 0 (fun w h => h) (o_makeMapP rfl (fun mb gmb umb => zH2 2 (fun w h => (h.drop (.cons _ (List.Sublist.refl _)))) (o_insP 0 (s := (3, 3)) (v := .int .u8 3) rfl rfl unm136 ky104 rfl rfl rfl rfl (zh2 3 rfl rfl (fun w h => (h.drop (.cons _ (List.Sublist.refl _)))) (fun w h => R_move rfl) (zH2 5 (fun w h => (h.drop (.cons _ (List.Sublist.refl _)))) (o_pureW rfl (wn_none rfl) rfl (fun w => zR Tryz.func103 rfl rfl rfl) (fun w h => lookT_ok a b mb [((3, 3), .int .u8 3)] (.int .u8 (twoK op a b : Nat)) w (h.at_ 0 rfl) ((vecK_l33 a b).trans (congrArg (fun n : Nat => Value.int .u8 (n : Int)) (by clear h; unfold twoK vecK; grind)))) (zh (v := .int _ _) 6 rfl (by kernel_rfl) rfl rfl (fun w h => (h.drop (.cons _ (List.Sublist.refl _)))) (fun w h => R_assign rfl) (zN2 (fun w h => (h.drop (.cons _ (List.Sublist.refl _)))) (zk (ze (zb (zt ((zo (v := .int _ _) rfl rfl rfl ?_)))))))))))))))))))))))); exact fun w' hw => ⟨congrArg (fun n : Nat => Value.int .u8 (n : Int)) (show _ = twoK op a b by clear hw; unfold twoK; grind), hw.fr _ zm0⟩
    · refine zw rfl rfl (bF h17) (mI rfl (zw rfl rfl (bF h17) (zg (fun _ => R_eq rfl rfl) (zg (v := .bool _) (fun _ => zF (bF h17) rfl) (aB rfl (yB ?_)))))); refine zD rfl (fun h18 => ?_) (fun h18 => ?_)
      · refine zq (c_heldS mixed (zh2 1 rfl rfl (fun w h => h) (fun w h => R_buildA ar104 zr104 rfl) (h_loadA 4 rfl (by kernel_rfl) (fun w h => h) z104 rfl (fun _ h => h.at_ 0 rfl) rfl (zH2 0 (fun w h => h) (o_makeMapP rfl (fun mb gmb umb => zH2 2 (fun w h => (h.drop (.cons _ (List.Sublist.refl _)))) (o_insP 0 (s := (3, 3)) (v := .int .u8 3) rfl rfl unm136 ky104 rfl rfl rfl rfl (zh2 3 rfl rfl (fun w h => (h.drop (.cons _ (List.Sublist.refl _)))) (fun w h => R_move rfl) (zH2 5 (fun w h => (h.drop (.cons _ (List.Sublist.refl _)))) (o_pureW rfl (wn_none rfl) rfl (fun w => zR Tryz.func103 rfl rfl rfl) (fun w h => lookT_ok a b mb [((3, 3), .int .u8 3)] (.int .u8 (twoK op a b : Nat)) w (h.at_ 0 rfl) ((vecK_l33 a b).trans (congrArg (fun n : Nat => Value.int .u8 (n : Int)) (by clear h; unfold twoK vecK; grind)))) (zh (v := .int _ _) 6 rfl (by kernel_rfl) rfl rfl (fun w h => (h.drop (.cons _ (List.Sublist.refl _)))) (fun w h => R_assign rfl) (zN2 (fun w h => (h.drop (.cons _ (List.Sublist.refl _)))) (zk (ze (zb (zt ((zo (v := .int _ _) rfl rfl rfl ?_)))))))))))))))))); exact fun w' hw => ⟨congrArg (fun n : Nat => Value.int .u8 (n : Int)) (show _ = twoK op a b by clear hw; unfold twoK; grind), hw.fr _ zm0⟩
      · refine yA (mI rfl (zg (fun _ => R_eq rfl rfl) (mB rfl ?_))); refine zd (t := 43) rfl (fun h19 => ?_) (fun h19 => ?_)
        · refine zw rfl rfl (bT h19) (mI rfl (zw rfl rfl (bT h19) (zC (fun w => zR Tryz.func84 rfl rfl rfl) rfl rfl (fun w h => scalar_ok _ w) (zg (v := .bool _) (fun _ => zT (bT h19) rfl) (mB rfl ?_))))); refine zp (t := 47) rfl (fun h20 => ?_) (fun h20 => ?_)
          · refine zs rfl rfl (bV h20) (zs rfl rfl (bV h20) (zs rfl rfl (bV h20) (zU rfl rfl rfl (zU rfl rfl rfl (zs rfl rfl (bV h20) (zs rfl rfl (bV h20) (zU rfl rfl rfl (zU rfl rfl rfl (zs rfl rfl (bV h20) (zg (v := .bool _) (fun _ => zT (bV h20) rfl) (aB rfl (yB (zE rfl (yA (aI rfl (yB (ze (zb (zt ((zo (v := .int _ _) rfl rfl rfl ?_))))))))))))))))))))); exact fun w' hw => ⟨congrArg (fun n : Nat => Value.int .u8 (n : Int)) (show _ = twoK op a b by clear hw; unfold twoK; grind), hw.fr _ zm0⟩
          · refine zw rfl rfl (bV h20) (mI rfl (zw rfl rfl (bV h20) (zg (fun _ => R_eq rfl rfl) (zw rfl rfl (bV h20) (mB rfl ?_))))); refine zd (t := 50) rfl (fun h21 => ?_) (fun h21 => ?_)
            · refine zw rfl rfl (bT h21) (mI rfl (zw rfl rfl (bT h21) (zC (fun w => zR Tryz.func84 rfl rfl rfl) rfl rfl (fun w h => scalar_ok _ w) (zw rfl rfl (bV h20) (zg (v := .bool _) (fun _ => zT (bT h21) rfl) (zw rfl rfl (bV h20) (mB rfl ?_))))))); refine zp (t := 54) rfl (fun h22 => ?_) (fun h22 => ?_)
              · refine zw rfl rfl (bV h22) (mI rfl (zw rfl rfl (bV h22) (zg (fun _ => R_eq rfl rfl) (zw rfl rfl (bV h20) (zg (v := .bool _) (fun _ => zT (bV h22) rfl) (zg (v := .bool _) (fun _ => zF (bV h20) rfl) (aB rfl (yB ?_)))))))); refine zD rfl (fun h23 => ?_) (fun h23 => ?_)
                · refine yA (aI rfl (yB (ze (zb (zt ((zo (v := .int _ _) rfl rfl rfl ?_))))))); exact fun w' hw => ⟨congrArg (fun n : Nat => Value.int .u8 (n : Int)) (show _ = twoK op a b by clear hw; unfold twoK; grind), hw.fr _ zm0⟩
                · refine zi (zO (zk (yA (aI rfl (yB (ze (zo (v := .int _ _) rfl rfl rfl ?_))))))); exact fun w' hw => ⟨congrArg (fun n : Nat => Value.int .u8 (n : Int)) (show _ = twoK op a b by clear hw; unfold twoK; grind), hw.fr _ zm0⟩
              · refine zs rfl rfl (bV h22) (zs rfl rfl (bV h22) (zw rfl rfl (bV h20) (zg (v := .bool _) (fun _ => zF (bV h22) rfl) (zg (v := .bool _) (fun _ => zF (bV h20) rfl) (aB rfl (yB (zG rfl (zi (zO (zk (yA (aI rfl (yB (ze (zo (v := .int _ _) rfl rfl rfl ?_))))))))))))))); exact fun w' hw => ⟨congrArg (fun n : Nat => Value.int .u8 (n : Int)) (show _ = twoK op a b by clear hw; unfold twoK; grind), hw.fr _ zm0⟩
            · refine zs rfl rfl (bF h21) (zs rfl rfl (bF h21) (zw rfl rfl (bV h20) (zg (v := .bool _) (fun _ => zF (bF h21) rfl) (zw rfl rfl (bV h20) (mB rfl ?_))))); (iterate 2 refine zs rfl rfl rfl ?_); refine zw rfl rfl (bV h20) (zg (v := .bool _) (fun _ => zF rfl rfl) (zg (v := .bool _) (fun _ => zF (bV h20) rfl) (aB rfl (yB (zG rfl (zi (zO (zk (yA (aI rfl (yB (ze (zo (v := .int _ _) rfl rfl rfl ?_)))))))))))))
              exact fun w' hw => ⟨congrArg (fun n : Nat => Value.int .u8 (n : Int)) (show _ = twoK op a b by clear hw; unfold twoK; grind), hw.fr _ zm0⟩
        · refine zs rfl rfl (bF h19) (zs rfl rfl (bF h19) (zg (v := .bool _) (fun _ => zF (bF h19) rfl) (mB rfl (zw rfl rfl rfl (mI rfl (zw rfl rfl rfl (zg (fun _ => R_eq rfl rfl) (zw rfl rfl rfl (mB rfl ?_))))))))); refine zd (t := 50) rfl (fun h24 => ?_) (fun h24 => ?_)
          · refine zw rfl rfl (bT h24) (mI rfl (zw rfl rfl (bT h24) (zC (fun w => zR Tryz.func84 rfl rfl rfl) rfl rfl (fun w h => scalar_ok _ w) (zw rfl rfl rfl (zg (v := .bool _) (fun _ => zT (bT h24) rfl) (zw rfl rfl rfl (mB rfl ?_))))))); refine zp (t := 54) rfl (fun h25 => ?_) (fun h25 => ?_)
            · refine zw rfl rfl (bV h25) (mI rfl (zw rfl rfl (bV h25) (zg (fun _ => R_eq rfl rfl) (zw rfl rfl rfl (zg (v := .bool _) (fun _ => zT (bV h25) rfl) (zg (v := .bool _) (fun _ => zF rfl rfl) (aB rfl (yB ?_)))))))); refine zD rfl (fun h26 => ?_) (fun h26 => ?_)
              · refine yA (aI rfl (yB (ze (zb (zt ((zo (v := .int _ _) rfl rfl rfl ?_))))))); exact fun w' hw => ⟨congrArg (fun n : Nat => Value.int .u8 (n : Int)) (show _ = twoK op a b by clear hw; unfold twoK; grind), hw.fr _ zm0⟩
              · refine zi (zO (zk (yA (aI rfl (yB (ze (zo (v := .int _ _) rfl rfl rfl ?_))))))); exact fun w' hw => ⟨congrArg (fun n : Nat => Value.int .u8 (n : Int)) (show _ = twoK op a b by clear hw; unfold twoK; grind), hw.fr _ zm0⟩
            · refine zs rfl rfl (bV h25) (zs rfl rfl (bV h25) (zw rfl rfl rfl (zg (v := .bool _) (fun _ => zF (bV h25) rfl) (zg (v := .bool _) (fun _ => zF rfl rfl) (aB rfl (yB (zG rfl (zi (zO (zk (yA (aI rfl (yB (ze (zo (v := .int _ _) rfl rfl rfl ?_))))))))))))))); exact fun w' hw => ⟨congrArg (fun n : Nat => Value.int .u8 (n : Int)) (show _ = twoK op a b by clear hw; unfold twoK; grind), hw.fr _ zm0⟩
          · refine zs rfl rfl (bF h24) (zs rfl rfl (bF h24) (zw rfl rfl rfl (zg (v := .bool _) (fun _ => zF (bF h24) rfl) (zw rfl rfl rfl (mB rfl ?_))))); (iterate 2 refine zs rfl rfl rfl ?_); refine zw rfl rfl rfl (zg (v := .bool _) (fun _ => zF rfl rfl) (zg (v := .bool _) (fun _ => zF rfl rfl) (aB rfl (yB (zG rfl (zi (zO (zk (yA (aI rfl (yB (ze (zo (v := .int _ _) rfl rfl rfl ?_)))))))))))))
            exact fun w' hw => ⟨congrArg (fun n : Nat => Value.int .u8 (n : Int)) (show _ = twoK op a b by clear hw; unfold twoK; grind), hw.fr _ zm0⟩

abbrev distC (d : Option (Nat × Nat × Bool)) : List Value := [.int .i64 ((d.map (·.1)).getD 0 : Nat), .int .i64 ((d.map (·.2.1)).getD 0 : Nat), .bool ((d.map (·.2.2)).getD false)]
def distL : List (Str × Value) := [([110, 111, 114, 109, 97, 108], .agg #[.int .i64 2, .int .i64 0, .bool false]), ([99, 97, 117, 99, 104, 121], .agg #[.int .i64 2, .int .i64 0, .bool false]), ([117, 110, 105, 102, 111, 114, 109], .agg #[.int .i64 2, .int .i64 0, .bool false]), ([108, 111, 103, 110, 111, 114, 109, 97, 108], .agg #[.int .i64 2, .int .i64 0, .bool false]), ([103, 97, 109, 109, 97], .agg #[.int .i64 2, .int .i64 1, .bool false]), ([98, 101, 116, 97], .agg #[.int .i64 2, .int .i64 2, .bool false]), ([101, 120, 112, 111, 110, 101, 110, 116, 105, 97, 108], .agg #[.int .i64 1, .int .i64 0, .bool false]), ([98, 101, 114, 110, 111, 117, 108, 108, 105], .agg #[.int .i64 1, .int .i64 0, .bool true]), ([98, 101, 114, 110, 111, 117, 108, 108, 105, 95, 108, 111, 103, 105, 116], .agg #[.int .i64 1, .int .i64 0, .bool true]), ([112, 111, 105, 115, 115, 111, 110], .agg #[.int .i64 1, .int .i64 0, .bool true]), ([112, 111, 105, 115, 115, 111, 110, 95, 108, 111, 103], .agg #[.int .i64 1, .int .i64 0, .bool true])]
theorem dist_look (s : Str) : (Value.tuple #[(distL.lookup s).getD (.agg #[.int .i64 0, .int .i64 0, .bool false]), .bool (distL.lookup s).isSome]) = .tuple #[.agg (distC (distK s)).toArray, .bool (distK s).isSome] := by
  unfold distL
  by_cases h0 : s = [110, 111, 114, 109, 97, 108]
  · subst h0; rfl
  by_cases h1 : s = [99, 97, 117, 99, 104, 121]
  · subst h1; rfl
  by_cases h2 : s = [117, 110, 105, 102, 111, 114, 109]
  · subst h2; rfl
  by_cases h3 : s = [108, 111, 103, 110, 111, 114, 109, 97, 108]
  · subst h3; rfl
  by_cases h4 : s = [103, 97, 109, 109, 97]
  · subst h4; rfl
  by_cases h5 : s = [98, 101, 116, 97]
  · subst h5; rfl
  by_cases h6 : s = [101, 120, 112, 111, 110, 101, 110, 116, 105, 97, 108]
  · subst h6; rfl
  by_cases h7 : s = [98, 101, 114, 110, 111, 117, 108, 108, 105]
  · subst h7; rfl
  by_cases h8 : s = [98, 101, 114, 110, 111, 117, 108, 108, 105, 95, 108, 111, 103, 105, 116]
  · subst h8; rfl
  by_cases h9 : s = [112, 111, 105, 115, 115, 111, 110]
  · subst h9; rfl
  by_cases h10 : s = [112, 111, 105, 115, 115, 111, 110, 95, 108, 111, 103]
  · subst h10; rfl
  all_goals
    have q : ∀ k : Str, ¬ s = k → (s == k) = false := fun k h => by simpa using h
    have e : distK s = none := by unfold distK; simp only [List.mem_cons, List.not_mem_nil, or_false]; rw [if_neg (by grind), if_neg (by assumption), if_neg (by assumption), if_neg (by assumption), if_neg (by grind)]
    rw [e]
    simp only [List.lookup]
    rw [q _ h0, q _ h1, q _ h2, q _ h3, q _ h4, q _ h5, q _ h6, q _ h7, q _ h8, q _ h9, q _ h10]
    rfl

theorem dists_ok (s : Str) (w : World) :
    Ret Tryz.prog 25 #[str s] w (fun v w' => v = .tuple #[.agg (distC (distK s)).toArray, .bool (distK s).isSome] ∧ Ext w w') := by
  refine enter (S := No) (l := [_]) (L := []) 26 Tryz.func25 rfl rfl rfl (St.start w No) (yA (zA zr66 (fun t2b gt2b ut2b => aB rfl (yC (w_makeMapS (fun mb gmb umb => zg (fun _ => R_build bt66 rfl) (w_insS 0 rfl unm88 unk9 rfl rfl rfl rfl (zg (fun _ => R_build bt66 rfl) (w_insS 0 rfl unm88 unk9 rfl rfl rfl rfl (zg (fun _ => R_build bt66 rfl) (w_insS 0 rfl unm88 unk9 rfl rfl rfl rfl (zg (fun _ => R_build bt66 rfl) (w_insS 0 rfl unm88 unk9 rfl rfl rfl rfl (zg (fun _ => R_build bt66 rfl) (w_insS 0 rfl unm88 unk9 rfl rfl rfl rfl (zg (fun _ => R_build bt66 rfl) (w_insS 0 rfl unm88 unk9 rfl rfl rfl rfl (zg (fun _ => R_build bt66 rfl) (w_insS 0 rfl unm88 unk9 rfl rfl rfl rfl (zg (fun _ => R_build bt66 rfl) (w_insS 0 rfl unm88 unk9 rfl rfl rfl rfl (zg (fun _ => R_build bt66 rfl) (w_insS 0 rfl unm88 unk9 rfl rfl rfl rfl (zg (fun _ => R_build bt66 rfl) (w_insS 0 rfl unm88 unk9 rfl rfl rfl rfl (zg (fun _ => R_build bt66 rfl) (w_insS 0 rfl unm88 unk9 rfl rfl rfl rfl (zm rfl (zm (v := str _) rfl (w_lookS2 (l := distL) 0 rfl unm88 unk9 zr66 rfl rfl (dist_look s) (zm rfl (zg (fun _ => R_extract rfl rfl) (zg (fun _ => R_extract rfl rfl) (zA zr66 (fun b2 gb2 ub2 => zV 0 rfl z66 rfl rfl rfl rfl rfl rfl rfl (aB rfl (yC (zY z66 rfl (fun _ h => h.at_ 0 rfl) rfl (mB rfl (zV 2 rfl z66 rfl rfl rfl rfl rfl rfl rfl (aB rfl (yB (ze (r_fin (.inl rfl) rfl (.agg rfl rfl z66 (fun _ h => h.at_ 2 rfl) rfl (.tmp rfl rfl .nil)) ?_)))))))))))))))))))))))))))))))))))))))))))); exact fun w' hw => ⟨rfl, hw.fr _ zm0⟩

theorem Discrete_ok (s : Str) (w : World) :
    Ret Tryz.prog 10 #[str s] w (fun v w' => v = .tuple #[.int .i64 (((distK s).map (·.1)).getD 0 : Nat), .bool (((distK s).map (·.2.2)).getD false), .bool (distK s).isSome] ∧ Ext w w') := by
  refine enter (S := No) (l := [_]) (L := []) 16 Tryz.func10 rfl rfl rfl (St.start w No) (yA (aI rfl (aB rfl (aB rfl (yC (zm (v := str _) rfl (zC (fun w => zR Tryz.func25 rfl rfl rfl) rfl rfl (fun w h => dists_ok _ w) (zm rfl (zg (fun _ => R_extract rfl rfl) (zg (fun _ => R_extract rfl rfl) (zA zr66 (fun t5b gt5b ut5b => zV 0 rfl z66 rfl rfl rfl rfl rfl rfl rfl (aB rfl (yB (zq (c_heldS mixed (zh2 0 rfl rfl (fun w h => h) (fun w h => R_fa fa66_0 rfl) (zh (v := .int _ _) 1 rfl (by kernel_rfl) rfl rfl (fun w h => h) (fun w h => R_ld1 z3 rfl ((fun _ h => zc 0 rfl rfl h) w h)) (zh2 2 rfl rfl (fun w h => h) (fun w h => R_fa fa66_2 rfl) (zh (v := .bool _) 3 rfl (by kernel_rfl) rfl rfl (fun w h => h) (fun w h => R_ld1 z4 rfl ((fun _ h => zc 0 rfl rfl h) w h)) (zh (v := .bool _) 4 rfl (by kernel_rfl) rfl rfl (fun w h => h) (fun w h => R_move rfl) (zh (v := .int _ _) 5 rfl (by kernel_rfl) rfl rfl (fun w h => h) (fun w h => R_assign rfl) (zh (v := .bool _) 6 rfl (by kernel_rfl) rfl rfl (fun w h => h) (fun w h => R_assign rfl) (zh (v := .bool _) 7 rfl (by kernel_rfl) rfl rfl (fun w h => h) (fun w h => R_assign rfl) (zN2 (fun w h => h) (zk (ze (r_fin (.inl rfl) rfl (.tmp rfl rfl (.tmp rfl rfl (.tmp rfl rfl .nil))) ?_)))))))))))))))))))))))))))); exact fun w' hw => ⟨rfl, hw.fr _ zm0⟩

theorem idxW_ok (xs : List Str) (nm : Str) (sb : Nat) (w : World) (hx : xs.length ≤ 1000) (hb : w.heap[sb]? = some (cel (xs.map str) 9)) :
    Ret Tryz.prog 142 #[.slice (some ⟨sb, 0, none⟩) xs.length xs.length, str nm] w (fun v w' => v = .int .i64 (firstI (fun x : Str => decide (nm = x)) xs) ∧ Ext w w') := by
  refine enter (S := No) (l := [_, _]) (L := []) 19 Tryz.func142 rfl rfl rfl (St.start w No) (yA (aI rfl (yB (zq (yA (mS rfl (zg (fun _ => R_len sl153 rfl) (mI rfl (yB (zB (c_loop (fun m e B L => ∃ (k : Nat), e 0 = .slice (some ⟨sb, 0, none⟩) xs.length xs.length ∧ e 1 = str nm ∧ e 7 = .int .i64 (xs.length : Nat) ∧ e 8 = .int .i64 (k : Nat) ∧ B = [(w, No)] ∧ L = [] ∧ k ≤ xs.length ∧ (∀ x ∈ xs.take k, decide (nm = x) = false) ∧ m = xs.length - k) _ ⟨0, rfl, rfl, rfl, rfl, rfl, rfl, Nat.zero_le _, (by simp), rfl⟩ ?_)))))))))))
  rintro m e B L ⟨k, e0_1, e1_1, e7_1, e8_1, rfl, rfl, hk, hy, rfl⟩
  refine yA (zg (fun _ => R_lt e8_1 e7_1) (yB (zq ?_))); refine zD rfl (fun h1 => ?_) (fun h1 => ?_)
  · have hlt : k < xs.length := (by omega); obtain ⟨x, hxk⟩ : ∃ x, xs[k]? = some x := ⟨_, List.getElem?_eq_getElem hlt⟩; have hxm : (xs.map str)[0 + k * 1]? = some (str x) := (by rw [Nat.zero_add, Nat.mul_one, List.getElem?_map, hxk]; rfl)
    refine zi (zk (zq (zB (yA (mI e8_1 (aI rfl (yC (zm (v := str _) e1_1 (mS e0_1 (mI rfl (zg (fun _ => R_iaN (i := k) sl153 rfl rfl (by omega)) (zl (v := str x) z9 rfl (fun w h => cel_oldb hb zm0 id hxm h) (zg (fun _ => R_seq rfl rfl) (yB ?_)))))))))))))); refine zD rfl (fun h2 => ?_) (fun h2 => ?_)
    · refine yA (mI rfl (aI rfl (yB (ze (zb (zt (zt (zb (zt ((zo (v := .int _ _) rfl rfl rfl ?_))))))))))); exact fun w' hw => ⟨by rw [firstI_at hy hxk (decide_eq_true h2)], hw.fr _ zm0⟩
    · refine zi (zO (zk (zr (zg (fun _ => R_addi e8_1 rfl (by omega)) (mI rfl (zn ?_)))))); exact k_again _ (by omega) ⟨k + 1, e0_1, e1_1, e7_1, rfl, rfl, rfl, by omega, take_all hy hxk (decide_eq_false h2), rfl⟩
  · refine zX (zx (zx (b_here rfl (zk (yA (aI rfl (yB (ze ?_))))))))
    obtain rfl : k = xs.length := by omega
    rw [List.take_length] at hy
    refine zo (v := .int _ _) rfl rfl rfl ?_; exact fun w' hw => ⟨by rw [firstI_no hy], hw.fr _ zm0⟩

theorem any_mem (xs : List Str) (nm : Str) : (xs.any fun x : Str => decide (nm = x)) = decide (nm ∈ xs) := by
  rw [Bool.eq_iff_iff, List.any_eq_true, decide_eq_true_eq]
  exact ⟨fun ⟨x, h1, h2⟩ => by rw [of_decide_eq_true h2]; exact h1, fun h => ⟨nm, h, decide_eq_true rfl⟩⟩

theorem hasW_ok (xs : List Str) (nm : Str) (sb : Nat) (w : World) (hx : xs.length ≤ 1000) (hb : w.heap[sb]? = some (cel (xs.map str) 9)) :
    Ret Tryz.prog 116 #[.slice (some ⟨sb, 0, none⟩) xs.length xs.length, str nm] w (fun v w' => v = .bool (decide (nm ∈ xs)) ∧ Ext w w') := by
  refine enter (S := No) (l := [_, _]) (L := []) 9 Tryz.func116 rfl rfl rfl (St.start w No) (yA (aB rfl (yC (mS rfl (zm (v := str _) rfl (zC (fun w => zR Tryz.func142 rfl rfl rfl) rfl rfl (fun w h => idxW_ok xs nm sb w hx (h.old hb zm0 (fun x => x))) (zg (fun _ => R_ge rfl rfl) (aB rfl (yB (ze (zo (v := .bool _) rfl rfl rfl ?_))))))))))); exact fun w' hw => ⟨by rw [← any_mem, ← firstI_ge], hw.fr _ zm0⟩

theorem failK_ok (e : Nat) (at_ : Int) (w : World) :
    RetP Tryz.prog 63 #[.int .i64 (e : Nat), .int .i64 at_] w (fun _ _ => False) (fun ch w' => ch = panK (e, at_) ∧ Ext w w') := by
  refine enterP (S := No) (l := [_, _]) (L := []) 8 Tryz.func63 rfl rfl rfl (St.start w No) (zr (mI rfl (mI rfl (zg (fun _ => R_build bt37 rfl) (zg (fun _ => R_mkI cn37 rfl) (w_halt (fun w => R_panic rfl) rfl ?_)))))); exact fun w' hw => p_out rfl ⟨rfl, hw.fr _ zm0⟩

theorem need_ok (b : Bool) (at_ : Int) (w : World) :
    RetP Tryz.prog 65 #[.bool b, .int .i64 at_] w (NR b w) (NE panK b at_ w) := by
  refine enterP (S := No) (l := [_, _]) (L := []) 8 Tryz.func65 rfl rfl rfl (St.start w No) (yA (mB rfl (zg (fun _ => R_not rfl) (yB ?_)))); refine c_condN rfl (fun h1 => ?_) (fun h1 => ?_)
  · refine zr (mI rfl ?_); refine w_callP (R := fun _ _ _ => False) (E := fun w ch w' => ch = panK (152, at_) ∧ Ext w w') (fun w => zR Tryz.func63 rfl rfl rfl) rfl rfl (fun w h => failK_ok 152 at_ w) (fun w hw v w' h => h.elim) (fun w hw ch w' hh a ha => p_out ha ⟨h1, hh.1, (hw.fr _ zm0).ext hh.2⟩)
  · refine zi (k_p (.inr rfl) (r_none (.inr rfl) rfl ?_)); exact fun w' hw => ⟨h1, rfl, hw.fr _ zm0⟩
end Go.Proofs.YtoehjlmdnajibaaGreatDoor
end

section
namespace Go.Knd
open Go.Tok Go.Tree
theorem needT_k (t : Nat) (a : Int) (p : Bool) : needT t a p = andK (needK (!decide (t = 0)) a) fun _ => .ok (t, p) := by
  unfold needT needK
  by_cases h : t = 0
  · rw [if_pos h, decide_eq_true h]; rfl
  · rw [if_neg h, decide_eq_false h]; rfl
section
variable {l : List Vr} {at_ : Int} {nm : Str} {ks : List Ex} {a b : Nat} {p : Bool}
theorem rule_1 : ruleK l 1 at_ nm ks a b p = andK (needK (!decide ((if digitsK nm = true then 1 else 2) = 0)) at_) fun _ => .ok (if digitsK nm = true then 1 else 2, p) := needT_k _ _ _
theorem rule_2n (h : findV l nm = none) : ruleK l 2 at_ nm ks a b p = .error (150, at_) := by unfold ruleK; rw [if_neg (by decide), if_pos rfl, h]
theorem rule_2s {v : Vr} (h : findV l nm = some v) : ruleK l 2 at_ nm ks a b p = .ok (v.ty, v.par) := by unfold ruleK; rw [if_neg (by decide), if_pos rfl, h]
theorem rule_3n (h : findV l nm = none) : ruleK l 3 at_ nm ks a b p = .error (150, at_) := by unfold ruleK; rw [if_neg (by decide), if_neg (by decide), if_pos rfl, h]
def idxT (t : Nat) : Nat := if t = 4 then 1 else if t = 3 ∨ t = 5 then 2 else 0
theorem rule_3s {v : Vr} {k : Ex} (h : findV l nm = some v) : ruleK l 3 at_ nm [k] a b p = andK (needK (!decide (idxT v.ty = 0)) at_) fun _ => andK (countedK k (a, p)) fun _ => andK (needK (!decide (idxT v.ty = 0)) at_) fun _ => .ok (idxT v.ty, v.par) := by
  unfold ruleK
  rw [if_neg (by decide), if_neg (by decide), if_pos rfl, h]
  dsimp only
  by_cases h1 : v.ty = 3 ∨ v.ty = 4 ∨ v.ty = 5
  · have h2 : ¬ idxT v.ty = 0 := by unfold idxT; split <;> (try split) <;> omega
    have h3 : idxT v.ty = (if v.ty = 4 then 1 else 2) := by unfold idxT; split <;> (try split) <;> omega
    rw [if_neg (not_not_intro h1), decide_eq_false h2]
    show _ = andK (countedK k (a, p)) _
    unfold countedK
    dsimp only
    by_cases h4 : a = 1
    · rw [if_neg (not_not_intro h4), decide_eq_true h4]
      by_cases h5 : p = true
      · rw [if_pos h5]; show _ = andK (andK (needK true k.at_) _) _; rw [h5]; rfl
      · rw [if_neg h5, needT_k, ← h3, decide_eq_false h2]
        have h6 : p = false := by simpa using h5
        rw [h6]; rfl
    · rw [if_pos h4, decide_eq_false h4]; rfl
  · have h2 : idxT v.ty = 0 := by unfold idxT; split <;> (try split) <;> omega
    rw [if_pos h1, decide_eq_true h2]; rfl
theorem rule_4n (h : callK nm a b = none) : ruleK l 4 at_ nm ks a b p = .error (150, at_) := by unfold ruleK; rw [if_neg (by decide), if_neg (by decide), if_neg (by decide), if_pos rfl, h]
theorem rule_4s {t : Nat} (h : callK nm a b = some t) : ruleK l 4 at_ nm ks a b p = andK (needK (decide (ks.length = if nm = [100, 111, 116] then 2 else 1)) at_) fun _ => andK (needK (!decide (t = 0)) at_) fun _ => .ok (t, p && !decide (nm = [115, 105, 122, 101])) := by
  unfold ruleK
  rw [if_neg (by decide), if_neg (by decide), if_neg (by decide), if_pos rfl, h]
  dsimp only
  by_cases h1 : ks.length = (if nm = [100, 111, 116] then 2 else 1)
  · rw [if_neg (not_not_intro h1), decide_eq_true h1, needT_k]; rfl
  · rw [if_pos h1, decide_eq_false h1]; rfl
theorem rule_5 : ruleK l 5 at_ nm ks a b p = andK (needK (!decide ((if a ≤ 3 then a else 0) = 0)) at_) fun _ => .ok (if a ≤ 3 then a else 0, p) := needT_k _ _ _
theorem rule_6 {op : Nat} (h : op = 6 ∨ op = 7 ∨ op = 8 ∨ op = 9) : ruleK l op at_ nm ks a b p = andK (needK (!decide (twoK op a b = 0)) at_) fun _ => .ok (twoK op a b, p) := by
  unfold ruleK
  rw [if_neg (by omega), if_neg (by omega), if_neg (by omega), if_neg (by omega), if_neg (by omega), needT_k]
end
theorem op_ok9 {op n : Nat} {nm : Str} (h : ruleOk op nm n = true) : op = 1 ∨ op = 2 ∨ op = 3 ∨ op = 4 ∨ op = 5 ∨ (op = 6 ∨ op = 7 ∨ op = 8 ∨ op = 9) := by
  unfold ruleOk at h
  split at h <;> first | omega | (exact absurd h (by decide))
theorem rule3_len {nm : Str} {n : Nat} (h : ruleOk 3 nm n = true) : n = 1 := by
  simp only [ruleOk, Bool.and_eq_true, decide_eq_true_eq] at h; exact h.1
end Go.Knd
end

section
namespace Go.Proofs.YtoehjlmdnajibaaGreatDoor
open Go.RowKit Go.Sx
open Go.Tok Go.Tree Go.Knd
def fdPs : Array Go.Tmp := #[10, 11]
def fdAs : Go.Code := (Go.Code.region 2 #[(Go.Oper.mk (some 7) (Go.Op.alloc 54) 0 "kind.go:87" #[] none), (Go.Oper.mk none (Go.Op.store 54 (Go.Operand.tmp 7) (Go.Operand.tmp 11)) 0 "kind.go:87" #[(Go.Edge.mk 0 Go.Ground.data), (Go.Edge.mk 0 Go.Ground.phase)] none)] false)
def fdBo : Go.Code := (Go.Code.block 1 (Go.Code.seq (Go.Code.region 3 #[(Go.Oper.mk (some 12) (Go.Op.fieldAddr 54 (Go.Operand.tmp 7) 0) 0 "kind.go:88" #[] none), (Go.Oper.mk (some 13) (Go.Op.load 9 (Go.Operand.tmp 12)) 9 "kind.go:88" #[(Go.Edge.mk 0 Go.Ground.data)] none), (Go.Oper.mk (some 14) (Go.Op.load 9 (Go.Operand.tmp 3)) 9 "kind.go:88" #[] none), (Go.Oper.mk (some 15) (Go.Op.binOp Go.BinOp.eql 9 (Go.Operand.tmp 13) (Go.Operand.tmp 14) 9) 4 "kind.go:88" #[(Go.Edge.mk 1 Go.Ground.data), (Go.Edge.mk 2 Go.Ground.data)] none)] false) (Go.Code.cond (Go.Operand.tmp 15) (Go.Code.seq (Go.Code.region 4 #[(Go.Oper.mk (some 16) (Go.Op.load 54 (Go.Operand.tmp 7)) 54 "kind.go:89" #[] none), (Go.Oper.mk none (Go.Op.store 54 (Go.Operand.tmp 4) (Go.Operand.tmp 16)) 0 "kind.go:89" #[(Go.Edge.mk 0 Go.Ground.data), (Go.Edge.mk 0 Go.Ground.phase)] none), (Go.Oper.mk none (Go.Op.store 4 (Go.Operand.tmp 5) (Go.Operand.const (Go.Value.bool true))) 0 "kind.go:89" #[(Go.Edge.mk 1 Go.Ground.chain), (Go.Edge.mk 0 Go.Ground.phase), (Go.Edge.mk 1 Go.Ground.phase)] none)] false) Go.Code.ret) Go.Code.skip)))

abbrev kdV (k : Nat × Bool) : Value := .agg #[.int .u8 (k.1 : Nat), .bool k.2]
def FindY (nm : Str) (J0 : Heap → Prop) (J1 : Vr → Heap → Prop) (lo : Nat) : Prop :=
  ∀ (k : Nat) (v : Vr) (Lc Lr : Heap) (B : Base) (w : World), J0 Lc → St B (Lc ++ Lr) w →
    YieldAt (fw none) 0 Tryz.prog lo #[.int .i64 (k : Nat), .agg (vrC v).toArray] w (fun en w' => ∃ u, en = .returned u ∧ ∃ Lc', ((¬ v.nm = nm ∧ u = .bool true ∧ J0 Lc') ∨ (v.nm = nm ∧ u = .bool false ∧ J1 v Lc')) ∧ St B (Lc' ++ Lr) w')
def fdO (e : Env) (fn r : Nat) (ds : List Deferred) : Option Vr → Obj
  | none => lpO .ready none fn ⟨18, ds, none⟩ e fdPs fdAs fdBo r
  | some _ => lpO .done (some .ret) fn ⟨18, ds, none⟩ e fdPs fdAs fdBo r
def fdL (e : Env) (fn r l nb rb ob : Nat) (ds : List Deferred) (nm : Str) (q : Option Vr) : Heap := [(l, fdO e fn r ds q), (nb, cel [str nm] 9), (rb, cel (vrO q) 54), (ob, cel [.bool q.isSome] 4)]
def fdJ (e : Env) (fn r l nb rb ob : Nat) (ds : List Deferred) (nm : Str) (J : Option Vr) (Lc : Heap) : Prop := Lc = fdL e fn r l nb rb ob ds nm J

theorem find_round (e : Env) (fn r l nb rb ob : Nat) (ds : List Deferred) (nm : Str) (he3 : e 3 = .pointer (some ⟨nb, 0, none⟩)) (he4 : e 4 = .pointer (some ⟨rb, 0, none⟩)) (he5 : e 5 = .pointer (some ⟨ob, 0, none⟩)) : FindY nm (fdJ e fn r l nb rb ob ds nm none) (fun v => fdJ e fn r l nb rb ob ds nm (some v)) l := by
  intro k v Lc Lr B w hJ0 hw
  obtain rfl := hJ0
  refine yield_round 0 (L := _ :: _ :: _ :: _ :: Lr) hw rfl rfl (zr (zA zr54 (fun t7b gt7b ut7b => zV 0 rfl z54 rfl rfl rfl rfl rfl rfl rfl (zn (k_begin (l' := 0) 1 rfl (zB (yA (zf fa54_0 rfl (zL 0 z9 rfl rfl rfl (zL 2 z9 he3 rfl rfl (zg (fun _ => R_seq rfl rfl) (yB ?_)))))))))))); refine zD rfl (fun h2 => ?_) (fun h2 => ?_)
  · refine yA (zY z54 rfl (fun _ h => h.at_ 0 rfl) rfl (zV 3 rfl z54 he4 rfl rfl rfl rfl rfl rfl (zV 4 rfl z4 he5 rfl rfl rfl rfl rfl rfl (yB (ze (zb ((k_roundR 1 rfl ?_)))))))); exact fun w h => ⟨_, rfl, _, .inr ⟨h2, rfl, rfl⟩, h.drop (List.sublist_cons_self _ _)⟩
  · refine zi (zO ((k_round 1 rfl ?_))); exact fun w h => ⟨_, rfl, _, .inl ⟨h2, rfl, rfl⟩, h.drop (List.sublist_cons_self _ _)⟩

theorem back_ok (l : List Vr) (a : Option Addr) (c : Nat) (w : World) :
    Ret Tryz.prog 101 #[.slice a l.length c] w (fun v w' => ∃ W, (∃ vb, v = .func (.func 121) #[] #[.pointer (some ⟨vb, 0, none⟩)] ∧ W = [(vb, cel [.slice a l.length c] 83)]) ∧ New w w' W) := by
  refine enter (S := No) (l := [_]) (L := []) 4 Tryz.func101 rfl rfl rfl (St.start w No) (yA (w_box rfl (fun vb gvb uvb => za rfl (yC (zg (fun _ => R_makeFunc) (za rfl (yB (ze (zo rfl rfl rfl ?_))))))))); exact fun w' hw => ⟨_, ⟨vb, rfl, rfl⟩, St.made (A := []) hw⟩

theorem backC_ok (l : List Vr) (a : Option Addr) (c : Nat) (y : World × (Nat → Prop)) (N : Nat → Prop) (hm : vrsM y.1 N l a) (hn : Apart y N) (hl : l.length ≤ 100000000) (vb lo : Nat) (nm : Str) (J0 : Heap → Prop) (J1 : Vr → Heap → Prop) (hJ : FindY nm J0 J1 lo) (Lc Lr : Heap) (hJ0 : J0 Lc) (Bs : Base) (hy : y ∈ Bs) (w : World) (hs : St Bs ((vb, cel [.slice a l.length c] 83) :: (Lc ++ Lr)) w) :
    Ret Tryz.prog 121 #[.func (.yield lo) #[] #[], .pointer (some ⟨vb, 0, none⟩)] w (fun v w' => v = .tuple #[] ∧ ∃ Lc', (match findV l nm with | none => J0 Lc' | some v => J1 v Lc') ∧ St Bs ((vb, cel [.slice a l.length c] 83) :: (Lc' ++ Lr)) w') := by
  refine enterB (l := [_, _]) 19 Tryz.func121 rfl rfl rfl (hs) (yA (zL 0 z83 rfl rfl rfl (zg (fun _ => R_len sl83 rfl) (zg (fun _ => R_subi rfl rfl (by omega)) (aI rfl (yB (zB (c_loop (fun m e B L => ∃ (k : Nat) (L1 : Heap), e 0 = .func (.yield lo) #[] #[] ∧ e 1 = .pointer (some ⟨vb, 0, none⟩) ∧ e 3 = .int .i64 ((k : Nat) - 1) ∧ Bs = B ∧ L = (vb, cel [.slice a l.length c] 83) :: (L1 ++ Lr) ∧ k ≤ l.length ∧ J0 L1 ∧ findV l nm = findV (l.take k) nm ∧ m = k + 1) _ ⟨l.length, Lc, rfl, rfl, rfl, rfl, rfl, Nat.le_refl _, hJ0, (findV_full (Nat.le_refl _)).symm, rfl⟩ ?_))))))))
  rintro m e B L ⟨k, L1, e0_1, e1_1, e3_1, rfl, rfl, hk, hJ1, hf, rfl⟩
  refine zq (yA (mI e3_1 (zg (fun _ => R_ge rfl rfl) (yB ?_)))); refine zD rfl (fun h1 => ?_) (fun h1 => ?_)
  · obtain ⟨q, rfl⟩ : ∃ q, k = q + 1 := ⟨k - 1, by omega⟩; have e3q : e 3 = .int .i64 ((q : Nat) : Int) := e3_1.trans (congrArg (Value.int .i64) (by omega)); have hlt : q < l.length := (by omega); obtain ⟨v, hxk⟩ : ∃ x, l[q]? = some x := ⟨_, List.getElem?_eq_getElem hlt⟩; have hA := hm q v hxk; obtain ⟨b1, o1, rfl⟩ := hA.ptr
    refine zi (zk (zq (zB (yA (zm e0_1 (mI e3q (zL 0 z83 e1_1 rfl rfl (mI e3q (zg (fun _ => R_iaN (i := q) sl83 rfl rfl (by omega)) (w_loadC (l := vrC v) z54 rfl rfl (fun w h j u hj => hA.cell hn hy h j u hj) (w_yield rfl (fun w h => hJ q v L1 ([(vb, _)] ++ Lr) Bs w hJ1 (h.perm (perm_mid [(vb, _)] L1 Lr))) ?_)))))))))))
    rintro w h u w' ⟨L2, ⟨hne, rfl, hJ2⟩ | ⟨heq, rfl, hJ2⟩, h2⟩
    · refine ⟨_, _, h2.perm (perm_mid [(vb, _)] L2 Lr).symm, ?_⟩
      refine zg (fun _ => R_not rfl) (yB (zG rfl (zi (zO (zk (zr (mI e3q (zg (fun _ => R_subi rfl rfl (by omega)) (aI rfl (zn ?_)))))))))); exact k_again _ (by omega) ⟨q, L2, e0_1, e1_1, rfl, rfl, rfl, by omega, hJ2, (hf.trans ((findV_take hxk).trans (if_neg hne))), rfl⟩
    · refine ⟨_, _, h2.perm (perm_mid [(vb, _)] L2 Lr).symm, ?_⟩
      refine zg (fun _ => R_not rfl) (yB (zE rfl (ze (zb (zt (zt (zb ((r_none (.inl rfl) rfl ?_))))))))); exact fun w' hw => ⟨rfl, L2, by rw [hf.trans ((findV_take hxk).trans (if_pos heq))]; exact hJ2, hw⟩
  · refine zX (zx (zx (b_here rfl ((r_none (.inr rfl) rfl ?_))))); exact fun w' hw => ⟨rfl, L1, by obtain rfl : k = 0 := (by omega); rw [hf, List.take_zero, findV_none]; exact hJ1, hw⟩

theorem find_ok (vs : List Vr) (va : Option Addr) (vc : Nat) (nm : Str) (w : World) (hv : vrsV w (fun _ => True) vs (va, vc)) (hvl : vs.length ≤ 90000000) :
    Ret Tryz.prog 62 #[.slice va vs.length vc, str nm] w (fun v w' => v = .tuple #[.agg (vrO (findV vs nm)).toArray, .bool (findV vs nm).isSome] ∧ Ext w w') := by
  refine enterM (S := No) (l := [_, _]) (L := []) 18 Tryz.func62 rfl rfl rfl (St.start w No) (yA (w_box rfl (fun nb gnb unb => zA zr54 (fun rb grb urb => zA zr4 (fun ob gob uob => yB (zq (yA (mS rfl (w_callW (fun w => zR Tryz.func101 rfl rfl rfl) rfl rfl (fun w _ => back_ok vs va vc w) ?_)))))))))
  rintro u W0 ⟨vb, rfl, rfl⟩
  refine yB (zB (c_gen fun e he => ?_))
  have he3 : e 3 = .pointer (some ⟨nb, 0, none⟩) := congrFun he 3
  have he4 : e 4 = .pointer (some ⟨rb, 0, none⟩) := congrFun he 4
  have he5 : e 5 = .pointer (some ⟨ob, 0, none⟩) := congrFun he 5
  have he9 : e 9 = .func (.func 121) #[] #[.pointer (some ⟨vb, 0, none⟩)] := congrFun he 9
  refine c_range (f := 121) (fi := []) (ca := [.pointer (some ⟨vb, 0, none⟩)]) he9 rfl rfl rfl (fun r l2 fn w' => ∃ Lc', (match findV vs nm with | none => fdJ e fn r l2 nb rb ob [] nm none Lc' | some v => fdJ e fn r l2 nb rb ob [] nm (some v) Lc') ∧ St [(w, No)] ((vb, cel [.slice va vs.length vc] 83) :: (Lc' ++ [(r, .deferred (some []))])) w') ?_ ?_
  · intro fn r l2 hr1 hr2 hl w1 hw1
    refine (backC_ok vs va vc (w, No) _ hv.2 (fun _ _ h => h) (by omega) vb l2 nm _ _ (find_round e fn r l2 nb rb ob [] nm he3 he4 he5) _ [(r, .deferred (some []))] rfl [(w, No)] zm0 w1 (hw1.pick [2, 0, 5, 4, 3, 1] (by decide))).mono ?_
    rintro v w2 ⟨rfl, h3⟩; exact h3
  · rintro fn r l2 hr1 hr2 hl w1 ⟨Lc', hm, hs⟩
    rcases hq : findV vs nm with _ | v
    · rw [hq] at hm; obtain rfl := hm
      refine ⟨_, _, .ready, none, (fun h => by cases h), hs.drop (List.sublist_cons_self _ _), ?_⟩
      refine zO (zk (yA (zg (fun _ => R_build bt54 rfl) (zV 2 rfl z54 he4 rfl rfl rfl rfl rfl rfl (zV 3 rfl z4 he5 rfl rfl rfl rfl rfl rfl (yB (ze (r_finM1 4 rfl (.inl rfl) rfl (.agg rfl he4 z54 (fun _ h => h.at_ 2 rfl) rfl (.cell rfl he5 z4 (fun _ h => zc 3 rfl rfl h) .nil)) ?_)))))))); exact fun w' hw => ⟨rfl, hw.fr _ zm0⟩
    · rw [hq] at hm; obtain rfl := hm
      refine ⟨_, _, .done, some .ret, (fun h => by cases h), hs.drop (List.sublist_cons_self _ _), ?_⟩
      refine ze (zb (zt ((r_finM1 4 rfl (.inl rfl) rfl (.agg rfl he4 z54 (fun _ h => h.at_ 2 rfl) rfl (.cell rfl he5 z4 (fun _ h => zc 3 rfl rfl h) .nil)) ?_)))); exact fun w' hw => ⟨rfl, hw.fr _ zm0⟩

theorem with_ok (vs : List Vr) (va : Option Addr) (vc : Nat) (v : Vr) (w : World) (hv : vrsW w (fun _ => True) vs (va, vc)) (hvl : vs.length ≤ 80000000) :
    Ret Tryz.prog 87 #[.slice va vs.length vc, .agg (vrC v).toArray] w (fun r w' => ∃ b, r = .slice b.1 (vs ++ [v]).length b.2 ∧ vrsW w' (Nn w w') (vs ++ [v]) b ∧ Ext w w') := by
  refine enter (S := No) (l := [_, _]) (L := []) 14 Tryz.func87 rfl rfl rfl (St.start w No) (yA (w_boxA rfl (fun t3b gt3b ut3b => za (v := .slice _ _ _) rfl (yB (zq (c_heldS mixed (zh (v := .slice _ _ _) 0 rfl (by kernel_rfl) rfl rfl (fun w h => h) (fun w h => R_move rfl) (zh (v := .slice _ _ _) 1 rfl (by kernel_rfl) rfl rfl (fun w h => h) (fun w h => R_move rfl) (zh2 2 rfl rfl (fun w h => h) (fun w h => R_len sl83 rfl) (zh (v := .slice _ _ _) 3 rfl (by kernel_rfl) rfl rfl (fun w h => h) (fun w h => R_move rfl) (zh2 4 rfl rfl (fun w h => h) (fun w h => R_len sl83 rfl) (zh2 5 rfl rfl (fun w h => h) (fun w h => R_sl3 (n := vs.length) sl83 rfl rfl rfl hv.1.1) (h_loadA 6 rfl (by kernel_rfl) (fun w h => h) z54 rfl (fun _ h => h.at_ 0 rfl) rfl (zH2 7 (fun w h => h) (o_bsliceV rfl (wn_none rfl) slt83 (by decide) rfl rfl (fun sb gsb usb => zH2 8 (fun w h => (h.drop (.cons _ (List.Sublist.refl _)))) (o_any (R := fun v' W' => Own 54 4 v' (vrsC (vs ++ [v])) (vs ++ [v]).length W') (F := fun W' => W' ++ _) rfl rfl rfl (fun w h => app_var (i := 0) slt83 rfl (hv.nowT zm0 h).1.2 hv.2 rfl rfl (by omega) (by decide) h) (fun v' W' hO => ?_))))))))))))))))))
  obtain ⟨a2, c2, rfl⟩ := hO.slice
  refine zh (v := .slice _ _ _) 9 rfl (by kernel_rfl) rfl rfl (fun w h => (h.drop (List.sublist_append_right _ _)).drop (List.sublist_cons_self _ _)) (fun w h => R_assign rfl) (zN2 (fun w h => (h.drop (List.sublist_append_right _ _)).drop (List.sublist_cons_self _ _)) (zk (ze (zo (v := .slice _ _ _) rfl rfl rfl ?_)))); exact fun w' hw => by obtain ⟨b, h1, h2⟩ := with_fin hO hw (by simp); exact ⟨b, h1, h2, hw.fr _ zm0⟩

theorem counted_ok (sv : Value) (op : Nat) (at_ : Int) (nm : Str) (v4 : Value) (ty : Nat) (p : Bool) (t : Nat) (w : World) :
    RetP Tryz.prog 66 #[sv, .agg [.int .u8 (op : Nat), .int .i64 at_, str nm, v4].toArray, .agg #[.int .u8 (ty : Nat), .bool p], .int .u8 (t : Nat)] w (RK (fun _ => .tuple #[]) (andK (needK (decide (t = 1)) at_) (fun _ => if p = true then .error (153, at_) else .ok ())) w) (EK panK (andK (needK (decide (t = 1)) at_) (fun _ => if p = true then .error (153, at_) else .ok ())) w) := by
  have hG : (andK (needK (decide (t = 1)) at_) (fun _ => if p = true then .error (153, at_) else .ok ())) = _ := rfl
  refine enterP (S := No) (l := [_, _, _, _]) (L := []) 18 Tryz.func66 rfl rfl rfl (St.start w No) (yA (w_boxA rfl (fun t5b gt5b ut5b => w_boxA rfl (fun t6b gt6b ut6b => yC (mI rfl (zg (fun _ => R_eq rfl rfl) (zf fa52_1 rfl (zL 1 z3 rfl rfl rfl ?_)))))))); refine w_need (pan := panK) (at_ := _) zm0 (fun w => zR Tryz.func65 rfl rfl rfl) rfl rfl (fun w h => need_ok _ _ w) (fun hb w' hx2 a ha => p_out ha ⟨_, hG.trans (andK_er (needK_no (by (rw [Bool.eq_iff_iff]; simp only [decide_eq_true_eq, Bool.or_eq_true, Bool.and_eq_true, Bool.not_eq_true', decide_eq_false_iff_not]; omega)) hb)), rfl, hx2⟩) (fun hb3 => ?_)
  have hG3 := hG.trans (andK_of (needK_yes (by (rw [Bool.eq_iff_iff]; simp only [decide_eq_true_eq, Bool.or_eq_true, Bool.and_eq_true, Bool.not_eq_true', decide_eq_false_iff_not]; omega)) hb3))
  refine yC (zf fa58_1 rfl (zL 0 z4 rfl rfl rfl (yB ?_))); refine c_cond rfl (fun h4 => ?_) (fun h4 => ?_)
  · refine zr (zf fa52_1 rfl (zL 1 z3 rfl rfl rfl ?_)); refine w_fail (pan := panK) (fl := (153, _)) zm0 (fun w => zR Tryz.func63 rfl rfl rfl) rfl rfl (fun w h => failK_ok 153 _ w) (fun w' hx2 a ha => p_out ha ⟨_, hG3.trans (if_pos h4), rfl, hx2⟩)
  · refine zi (k_p (.inr rfl) (r_none (.inr rfl) rfl ?_)); exact fun w' hw => ⟨(), hG3.trans (if_neg (by rw [h4]; exact Bool.false_ne_true)), rfl, hw.fr _ zm0⟩
end Go.Proofs.YtoehjlmdnajibaaGreatDoor
end
