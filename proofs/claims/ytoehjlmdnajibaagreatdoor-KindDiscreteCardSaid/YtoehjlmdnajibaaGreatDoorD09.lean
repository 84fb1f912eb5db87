/- Layer 15, KindDiscrete: Discrete tells what the document says of each name of at most 100 bytes, for every text: no condition. Part 9 of 14. -/
import Derived.Test.YtoehjlmdnajibaaGreatDoorD03
import Derived.Test.YtoehjlmdnajibaaGreatDoorD07
import Derived.Test.YtoehjlmdnajibaaGreatDoorD08
section
namespace Go.Proofs.YtoehjlmdnajibaaGreatDoor
open Go.RowKit Go.Sx
open Go.Tok Go.Tree Go.Knd
def panK (fl : Ft) : List PanicEntry := [{ v := .iface 37 (.agg #[.int .i64 (fl.1 : Nat), .int .i64 fl.2]), recovered := false }]
def realK (a b : Nat) : Nat := if b = 0 then (if a = 1 ∨ a = 2 then 2 else if a = 3 then 3 else 0) else 0
def sumK (a b : Nat) : Nat := if b = 0 then (if a = 4 then 1 else if a = 3 ∨ a = 5 then 2 else 0) else 0
def dotK (a b : Nat) : Nat := if a = 3 ∧ b = 3 then 2 else 0
def vecK (a b : Nat) : Nat := if a = 3 ∧ b = 3 then 3 else 0
def sizeK (a b : Nat) : Nat := if b = 0 then (if a = 3 ∨ a = 4 ∨ a = 5 then 1 else 0) else 0

set_option maxRecDepth 100000 in
set_option maxHeartbeats 400000 in
theorem scalar_ok (t : Nat) (w : World) :
    Ret Tryz.prog 84 #[.int .u8 (t : Nat)] w (fun v w' => v = .bool (scal t) ∧ Ext w w') := by
  refine enter (S := No) (l := [_]) (L := []) 9 Tryz.func84 rfl rfl rfl (St.start w No) ?_; refine yA ?_; refine aB rfl ?_; refine yC ?_; refine mI rfl ?_; refine w_r (fun _ => R_eq rfl rfl) rfl rfl ?_; refine mB rfl ?_; refine zd (t := 5) rfl (fun h1 => ?_) (fun h1 => ?_)
  · refine zs rfl rfl (bT h1) ?_; refine zs rfl rfl (bT h1) ?_; refine w_r (v := .bool _) (fun _ => zT (bT h1) rfl) rfl rfl ?_; refine aB rfl ?_; refine yB ?_; refine ze ?_; refine zo (v := .bool _) rfl rfl rfl ?_; exact fun w' hw => ⟨congrArg Value.bool (by clear hw; simp only [scal]; grind), hw.fr _ (.head _)⟩
  · refine zw rfl rfl (bF h1) ?_; refine mI rfl ?_; refine zw rfl rfl (bF h1) ?_; refine w_r (fun _ => R_eq rfl rfl) rfl rfl ?_; refine w_r (v := .bool _) (fun _ => zF (bF h1) rfl) rfl rfl ?_; refine aB rfl ?_; refine yB ?_; refine ze ?_; refine zo (v := .bool _) rfl rfl rfl ?_; exact fun w' hw => ⟨congrArg Value.bool (by clear hw; simp only [scal]; grind), hw.fr _ (.head _)⟩

set_option maxRecDepth 100000 in
set_option maxHeartbeats 400000 in
theorem whole_ok (t : Nat) (w : World) :
    Ret Tryz.prog 81 #[.int .u8 (t : Nat)] w (fun v w' => v = .bool (whol t) ∧ Ext w w') := by
  refine enter (S := No) (l := [_]) (L := []) 9 Tryz.func81 rfl rfl rfl (St.start w No) ?_; refine yA ?_; refine aB rfl ?_; refine yC ?_; refine mI rfl ?_; refine w_r (fun _ => R_eq rfl rfl) rfl rfl ?_; refine mB rfl ?_; refine zd (t := 5) rfl (fun h1 => ?_) (fun h1 => ?_)
  · refine zs rfl rfl (bT h1) ?_; refine zs rfl rfl (bT h1) ?_; refine w_r (v := .bool _) (fun _ => zT (bT h1) rfl) rfl rfl ?_; refine aB rfl ?_; refine yB ?_; refine ze ?_; refine zo (v := .bool _) rfl rfl rfl ?_; exact fun w' hw => ⟨congrArg Value.bool (by clear hw; simp only [whol]; grind), hw.fr _ (.head _)⟩
  · refine zw rfl rfl (bF h1) ?_; refine mI rfl ?_; refine zw rfl rfl (bF h1) ?_; refine w_r (fun _ => R_eq rfl rfl) rfl rfl ?_; refine w_r (v := .bool _) (fun _ => zF (bF h1) rfl) rfl rfl ?_; refine aB rfl ?_; refine yB ?_; refine ze ?_; refine zo (v := .bool _) rfl rfl rfl ?_; exact fun w' hw => ⟨congrArg Value.bool (by clear hw; simp only [whol]; grind), hw.fr _ (.head _)⟩

set_option maxRecDepth 100000 in
set_option maxHeartbeats 400000 in
theorem fit_ok (v t : Nat) (w : World) :
    Ret Tryz.prog 86 #[.int .u8 (v : Nat), .int .u8 (t : Nat)] w (fun r w' => r = .bool (fitK v t) ∧ Ext w w') := by
  refine enter (S := No) (l := [_, _]) (L := []) 27 Tryz.func86 rfl rfl rfl (St.start w No) ?_; refine yA ?_; refine aB rfl ?_; refine yC ?_; refine mI rfl ?_; refine w_r (fun _ => R_eq rfl rfl) rfl rfl ?_; refine mB rfl ?_; refine zd (t := 7) rfl (fun h1 => ?_) (fun h1 => ?_)
  · refine zw rfl rfl (bT h1) ?_; refine mI rfl ?_; refine zw rfl rfl (bT h1) ?_; refine w_r (fun _ => R_eq rfl rfl) rfl rfl ?_; refine w_r (v := .bool _) (fun _ => zT (bT h1) rfl) rfl rfl ?_; refine mB rfl ?_; refine zd (t := 11) rfl (fun h2 => ?_) (fun h2 => ?_)
    · refine zs rfl rfl (bT h2) ?_; refine zs rfl rfl (bT h2) ?_; refine zs rfl rfl (bT h2) ?_; refine zU rfl rfl rfl ?_; refine zU rfl rfl rfl ?_; refine zs rfl rfl (bT h2) ?_; refine w_r (v := .bool _) (fun _ => zT (bT h2) rfl) rfl rfl ?_; refine mB rfl ?_; refine zs rfl rfl rfl ?_; refine zs rfl rfl rfl ?_; refine zs rfl rfl rfl ?_; refine zU rfl rfl rfl ?_; refine zU rfl rfl rfl ?_; refine zs rfl rfl rfl ?_; refine w_r (v := .bool _) (fun _ => zT rfl rfl) rfl rfl ?_; refine aB rfl ?_; refine yB ?_; refine ze ?_; refine zo (v := .bool _) rfl rfl rfl ?_; exact fun w' hw => ⟨congrArg Value.bool (by clear hw; simp only [fitK]; grind), hw.fr _ (.head _)⟩
    · refine zw rfl rfl (bF h2) ?_; refine mI rfl ?_; refine zw rfl rfl (bF h2) ?_; refine w_r (fun _ => R_eq rfl rfl) rfl rfl ?_; refine zw rfl rfl (bF h2) ?_; refine mB rfl ?_; refine zd (t := 14) rfl (fun h3 => ?_) (fun h3 => ?_)
      · refine zw rfl rfl (bT h3) ?_; refine mI rfl ?_; refine zw rfl rfl (bT h3) ?_; refine zC (fun w => zR Tryz.func84 rfl rfl rfl) rfl rfl (fun w h => scalar_ok _ w) ?_; refine zw rfl rfl (bF h2) ?_; refine w_r (v := .bool _) (fun _ => zT (bT h3) rfl) rfl rfl ?_; refine w_r (v := .bool _) (fun _ => zF (bF h2) rfl) rfl rfl ?_; refine mB rfl ?_; refine zp (t := 19) rfl (fun h4 => ?_) (fun h4 => ?_)
        · refine zs rfl rfl (bV h4) ?_; refine zs rfl rfl (bV h4) ?_; refine zs rfl rfl (bV h4) ?_; refine zU rfl rfl rfl ?_; refine zU rfl rfl rfl ?_; refine zs rfl rfl (bV h4) ?_; refine w_r (v := .bool _) (fun _ => zT (bV h4) rfl) rfl rfl ?_; refine aB rfl ?_; refine yB ?_; refine ze ?_; refine zo (v := .bool _) rfl rfl rfl ?_; exact fun w' hw => ⟨congrArg Value.bool (by clear hw; simp only [fitK]; grind), hw.fr _ (.head _)⟩
        · refine zw rfl rfl (bV h4) ?_; refine mI rfl ?_; refine zw rfl rfl (bV h4) ?_; refine w_r (fun _ => R_eq rfl rfl) rfl rfl ?_; refine zw rfl rfl (bV h4) ?_; refine mB rfl ?_; refine zd (t := 22) rfl (fun h5 => ?_) (fun h5 => ?_)
          · refine zw rfl rfl (bT h5) ?_; refine mI rfl ?_; refine zw rfl rfl (bT h5) ?_; refine w_r (fun _ => R_eq rfl rfl) rfl rfl ?_; refine zw rfl rfl (bV h4) ?_; refine w_r (v := .bool _) (fun _ => zT (bT h5) rfl) rfl rfl ?_; refine w_r (v := .bool _) (fun _ => zF (bV h4) rfl) rfl rfl ?_; refine aB rfl ?_; refine yB ?_; refine ze ?_; refine zo (v := .bool _) rfl rfl rfl ?_; exact fun w' hw => ⟨congrArg Value.bool (by clear hw; simp only [fitK]; grind), hw.fr _ (.head _)⟩
          · refine zs rfl rfl (bF h5) ?_; refine zs rfl rfl (bF h5) ?_; refine zw rfl rfl (bV h4) ?_; refine w_r (v := .bool _) (fun _ => zF (bF h5) rfl) rfl rfl ?_; refine w_r (v := .bool _) (fun _ => zF (bV h4) rfl) rfl rfl ?_; refine aB rfl ?_; refine yB ?_; refine ze ?_; refine zo (v := .bool _) rfl rfl rfl ?_; exact fun w' hw => ⟨congrArg Value.bool (by clear hw; simp only [fitK]; grind), hw.fr _ (.head _)⟩
      · refine zs rfl rfl (bF h3) ?_; refine zs rfl rfl (bF h3) ?_; refine zw rfl rfl (bF h2) ?_; refine w_r (v := .bool _) (fun _ => zF (bF h3) rfl) rfl rfl ?_; refine w_r (v := .bool _) (fun _ => zF (bF h2) rfl) rfl rfl ?_; refine mB rfl ?_; refine zw rfl rfl rfl ?_; refine mI rfl ?_; refine zw rfl rfl rfl ?_; refine w_r (fun _ => R_eq rfl rfl) rfl rfl ?_; refine zw rfl rfl rfl ?_; refine mB rfl ?_; refine zd (t := 22) rfl (fun h6 => ?_) (fun h6 => ?_)
        · refine zw rfl rfl (bT h6) ?_; refine mI rfl ?_; refine zw rfl rfl (bT h6) ?_; refine w_r (fun _ => R_eq rfl rfl) rfl rfl ?_; refine zw rfl rfl rfl ?_; refine w_r (v := .bool _) (fun _ => zT (bT h6) rfl) rfl rfl ?_; refine w_r (v := .bool _) (fun _ => zF rfl rfl) rfl rfl ?_; refine aB rfl ?_; refine yB ?_; refine ze ?_; refine zo (v := .bool _) rfl rfl rfl ?_; exact fun w' hw => ⟨congrArg Value.bool (by clear hw; simp only [fitK]; grind), hw.fr _ (.head _)⟩
        · refine zs rfl rfl (bF h6) ?_; refine zs rfl rfl (bF h6) ?_; refine zw rfl rfl rfl ?_; refine w_r (v := .bool _) (fun _ => zF (bF h6) rfl) rfl rfl ?_; refine w_r (v := .bool _) (fun _ => zF rfl rfl) rfl rfl ?_; refine aB rfl ?_; refine yB ?_; refine ze ?_; refine zo (v := .bool _) rfl rfl rfl ?_; exact fun w' hw => ⟨congrArg Value.bool (by clear hw; simp only [fitK]; grind), hw.fr _ (.head _)⟩
  · refine zs rfl rfl (bF h1) ?_; refine zs rfl rfl (bF h1) ?_; refine w_r (v := .bool _) (fun _ => zF (bF h1) rfl) rfl rfl ?_; refine mB rfl ?_; refine zw rfl rfl rfl ?_; refine mI rfl ?_; refine zw rfl rfl rfl ?_; refine w_r (fun _ => R_eq rfl rfl) rfl rfl ?_; refine zw rfl rfl rfl ?_; refine mB rfl ?_; refine zd (t := 14) rfl (fun h7 => ?_) (fun h7 => ?_)
    · refine zw rfl rfl (bT h7) ?_; refine mI rfl ?_; refine zw rfl rfl (bT h7) ?_; refine zC (fun w => zR Tryz.func84 rfl rfl rfl) rfl rfl (fun w h => scalar_ok _ w) ?_; refine zw rfl rfl rfl ?_; refine w_r (v := .bool _) (fun _ => zT (bT h7) rfl) rfl rfl ?_; refine w_r (v := .bool _) (fun _ => zF rfl rfl) rfl rfl ?_; refine mB rfl ?_; refine zp (t := 19) rfl (fun h8 => ?_) (fun h8 => ?_)
      · refine zs rfl rfl (bV h8) ?_; refine zs rfl rfl (bV h8) ?_; refine zs rfl rfl (bV h8) ?_; refine zU rfl rfl rfl ?_; refine zU rfl rfl rfl ?_; refine zs rfl rfl (bV h8) ?_; refine w_r (v := .bool _) (fun _ => zT (bV h8) rfl) rfl rfl ?_; refine aB rfl ?_; refine yB ?_; refine ze ?_; refine zo (v := .bool _) rfl rfl rfl ?_; exact fun w' hw => ⟨congrArg Value.bool (by clear hw; simp only [fitK]; grind), hw.fr _ (.head _)⟩
      · refine zw rfl rfl (bV h8) ?_; refine mI rfl ?_; refine zw rfl rfl (bV h8) ?_; refine w_r (fun _ => R_eq rfl rfl) rfl rfl ?_; refine zw rfl rfl (bV h8) ?_; refine mB rfl ?_; refine zd (t := 22) rfl (fun h9 => ?_) (fun h9 => ?_)
        · refine zw rfl rfl (bT h9) ?_; refine mI rfl ?_; refine zw rfl rfl (bT h9) ?_; refine w_r (fun _ => R_eq rfl rfl) rfl rfl ?_; refine zw rfl rfl (bV h8) ?_; refine w_r (v := .bool _) (fun _ => zT (bT h9) rfl) rfl rfl ?_; refine w_r (v := .bool _) (fun _ => zF (bV h8) rfl) rfl rfl ?_; refine aB rfl ?_; refine yB ?_; refine ze ?_; refine zo (v := .bool _) rfl rfl rfl ?_; exact fun w' hw => ⟨congrArg Value.bool (by clear hw; simp only [fitK]; grind), hw.fr _ (.head _)⟩
        · refine zs rfl rfl (bF h9) ?_; refine zs rfl rfl (bF h9) ?_; refine zw rfl rfl (bV h8) ?_; refine w_r (v := .bool _) (fun _ => zF (bF h9) rfl) rfl rfl ?_; refine w_r (v := .bool _) (fun _ => zF (bV h8) rfl) rfl rfl ?_; refine aB rfl ?_; refine yB ?_; refine ze ?_; refine zo (v := .bool _) rfl rfl rfl ?_; exact fun w' hw => ⟨congrArg Value.bool (by clear hw; simp only [fitK]; grind), hw.fr _ (.head _)⟩
    · refine zs rfl rfl (bF h7) ?_; refine zs rfl rfl (bF h7) ?_; refine zw rfl rfl rfl ?_; refine w_r (v := .bool _) (fun _ => zF (bF h7) rfl) rfl rfl ?_; refine w_r (v := .bool _) (fun _ => zF rfl rfl) rfl rfl ?_; refine mB rfl ?_; refine zw rfl rfl rfl ?_; refine mI rfl ?_; refine zw rfl rfl rfl ?_; refine w_r (fun _ => R_eq rfl rfl) rfl rfl ?_; refine zw rfl rfl rfl ?_; refine mB rfl ?_; refine zd (t := 22) rfl (fun h10 => ?_) (fun h10 => ?_)
      · refine zw rfl rfl (bT h10) ?_; refine mI rfl ?_; refine zw rfl rfl (bT h10) ?_; refine w_r (fun _ => R_eq rfl rfl) rfl rfl ?_; refine zw rfl rfl rfl ?_; refine w_r (v := .bool _) (fun _ => zT (bT h10) rfl) rfl rfl ?_; refine w_r (v := .bool _) (fun _ => zF rfl rfl) rfl rfl ?_; refine aB rfl ?_; refine yB ?_; refine ze ?_; refine zo (v := .bool _) rfl rfl rfl ?_; exact fun w' hw => ⟨congrArg Value.bool (by clear hw; simp only [fitK]; grind), hw.fr _ (.head _)⟩
      · refine zs rfl rfl (bF h10) ?_; refine zs rfl rfl (bF h10) ?_; refine zw rfl rfl rfl ?_; refine w_r (v := .bool _) (fun _ => zF (bF h10) rfl) rfl rfl ?_; refine w_r (v := .bool _) (fun _ => zF rfl rfl) rfl rfl ?_; refine aB rfl ?_; refine yB ?_; refine ze ?_; refine zo (v := .bool _) rfl rfl rfl ?_; exact fun w' hw => ⟨congrArg Value.bool (by clear hw; simp only [fitK]; grind), hw.fr _ (.head _)⟩

set_option maxRecDepth 100000 in
set_option maxHeartbeats 400000 in
theorem digitC_ok (b : UInt8) (w : World) :
    Ret Tryz.prog 100 #[.int .u8 (b.toNat : Nat)] w (fun v w' => v = .bool (!(decide (48 ≤ b.toNat) && decide (b.toNat ≤ 57))) ∧ Ext w w') := by
  refine enter (S := No) (l := [_]) (L := []) 9 Tryz.func100 rfl rfl rfl (St.start w No) ?_; refine yA ?_; refine aB rfl ?_; refine yC ?_; refine mI rfl ?_; refine w_r (fun _ => R_lt rfl rfl) rfl rfl ?_; refine mB rfl ?_; refine zd (t := 5) rfl (fun h1 => ?_) (fun h1 => ?_)
  · refine zs rfl rfl (bT h1) ?_; refine zs rfl rfl (bT h1) ?_; refine w_r (v := .bool _) (fun _ => zT (bT h1) rfl) rfl rfl ?_; refine aB rfl ?_; refine yB ?_; refine ze ?_; refine zo (v := .bool _) rfl rfl rfl ?_; exact fun w' hw => ⟨congrArg Value.bool (by clear hw; grind), hw.fr _ (.head _)⟩
  · refine zw rfl rfl (bF h1) ?_; refine mI rfl ?_; refine zw rfl rfl (bF h1) ?_; refine w_r (fun _ => R_gt rfl rfl) rfl rfl ?_; refine w_r (v := .bool _) (fun _ => zF (bF h1) rfl) rfl rfl ?_; refine aB rfl ?_; refine yB ?_; refine ze ?_; refine zo (v := .bool _) rfl rfl rfl ?_; exact fun w' hw => ⟨congrArg Value.bool (by clear hw; grind), hw.fr _ (.head _)⟩

set_option maxRecDepth 100000 in
set_option maxHeartbeats 400000 in
theorem idxB_ok (s : Str) (hs : s.length ≤ 10000000) (sb cap : Nat) (w : World) (hc : ∀ (j : Nat) u, s[j]? = some u → w.cell? ⟨sb, j, none⟩ = some (.int .u8 (u.toNat : Nat))) :
    Ret Tryz.prog 120 #[.slice (some ⟨sb, 0, none⟩) s.length cap, .func (.func 100) #[] #[]] w (fun v w' => v = .int .i64 (firstI (fun b : UInt8 => !(decide (48 ≤ b.toNat) && decide (b.toNat ≤ 57))) s) ∧ Ext w w') := by
  refine enter (S := No) (l := [_, _]) (L := []) 19 Tryz.func120 rfl rfl rfl (St.start w No) ?_; refine yA ?_; refine aI rfl ?_; refine yB ?_; refine zq ?_; refine yA ?_; refine mS rfl ?_; refine w_r (fun _ => R_len sl115 rfl) rfl rfl ?_; refine mI rfl ?_; refine yB ?_; refine zB ?_; refine c_loop (fun m e B L => ∃ (k : Nat), e 0 = .slice (some ⟨sb, 0, none⟩) s.length cap ∧ e 1 = .func (.func 100) #[] #[] ∧ e 7 = .int .i64 (s.length : Nat) ∧ e 8 = .int .i64 (k : Nat) ∧ B = [(w, No)] ∧ L = [] ∧ k ≤ s.length ∧ (∀ b ∈ s.take k, (!(decide (48 ≤ b.toNat) && decide (b.toNat ≤ 57))) = false) ∧ m = s.length - k) _ ⟨0, rfl, rfl, rfl, rfl, rfl, rfl, Nat.zero_le _, (by simp), rfl⟩ ?_
  rintro m e B L ⟨k, e0_1, e1_1, e7_1, e8_1, rfl, rfl, hk, hy, rfl⟩
  refine yA ?_; refine w_r (fun _ => R_lt e8_1 e7_1) rfl rfl ?_; refine yB ?_; refine zq ?_; refine zD rfl (fun h1 => ?_) (fun h1 => ?_)
  · have hlt : k < s.length := (by omega); obtain ⟨x, hxk⟩ : ∃ x, s[k]? = some x := ⟨_, List.getElem?_eq_getElem hlt⟩
    refine zi ?_; refine zk ?_; refine zq ?_; refine zB ?_; refine yA ?_; refine mI e8_1 ?_; refine aI rfl ?_; refine yC ?_; refine zm e1_1 ?_; refine mS e0_1 ?_; refine mI rfl ?_; refine w_r (fun _ => R_iaN (i := k) sl115 rfl rfl (by first | omega | decide | exact Nat.succ_pos _)) rfl rfl ?_; refine zl (v := .int .u8 (x.toNat : Nat)) z5 rfl (fun w h => cel_old (.head _) (by rw [Nat.zero_add, Nat.mul_one]; exact hc k x hxk) (fun x => x) h) ?_; refine zC (fun w => R_callv rfl Tryz.func100 rfl rfl) rfl rfl (fun w h => digitC_ok x w) ?_; refine yB ?_; refine c_cond rfl (fun h2 => ?_) (fun h2 => ?_)
    · refine yA ?_; refine mI rfl ?_; refine aI rfl ?_; refine yB ?_; refine ze ?_; refine zb (zt (zt (zb (zt (?_)))))
      refine zo (v := .int _ _) rfl rfl rfl ?_; exact fun w' hw => ⟨by rw [firstI_at hy hxk h2], hw.fr _ (.head _)⟩
    · refine zi ?_; refine b_on (zk ?_); refine zr ?_; refine w_r (fun _ => R_addi e8_1 rfl (by omega)) rfl rfl ?_; refine mI rfl ?_; refine zn ?_; exact k_again _ (by omega) ⟨k + 1, e0_1, e1_1, e7_1, rfl, rfl, rfl, by omega, take_all hy hxk h2, rfl⟩
  · refine c_exit ?_; refine zx (zx (b_here rfl (zk ?_))); refine yA ?_; refine aI rfl ?_; refine yB ?_; refine ze ?_
    obtain rfl : k = s.length := by omega
    rw [List.take_length] at hy
    refine zo (v := .int _ _) rfl rfl rfl ?_; exact fun w' hw => ⟨by rw [firstI_no hy], hw.fr _ (.head _)⟩

set_option maxRecDepth 100000 in
set_option maxHeartbeats 400000 in
theorem hasB_ok (s : Str) (hs : s.length ≤ 10000000) (sb cap : Nat) (w : World) (hc : ∀ (j : Nat) u, s[j]? = some u → w.cell? ⟨sb, j, none⟩ = some (.int .u8 (u.toNat : Nat))) :
    Ret Tryz.prog 99 #[.slice (some ⟨sb, 0, none⟩) s.length cap, .func (.func 100) #[] #[]] w (fun v w' => v = .bool (s.any fun b : UInt8 => !(decide (48 ≤ b.toNat) && decide (b.toNat ≤ 57))) ∧ Ext w w') := by
  refine enter (S := No) (l := [_, _]) (L := []) 9 Tryz.func99 rfl rfl rfl (St.start w No) ?_; refine yA ?_; refine aB rfl ?_; refine yC ?_; refine mS rfl ?_; refine zm rfl ?_; refine zC (fun w => zR Tryz.func120 rfl rfl rfl) rfl rfl (fun w h => idxB_ok s hs sb cap w (fun j u hj => cel_old (.head _) (hc j u hj) (fun x => x) h)) ?_; refine w_r (fun _ => R_ge rfl rfl) rfl rfl ?_; refine aB rfl ?_; refine yB ?_; refine ze ?_; refine zo (v := .bool _) rfl rfl rfl ?_; exact fun w' hw => ⟨by rw [← firstI_ge], hw.fr _ (.head _)⟩

theorem dig_all (s : Str) : (s.all fun b : UInt8 => decide (48 ≤ b.toNat) && decide (b.toNat ≤ 57)) = !(s.any fun b : UInt8 => !(decide (48 ≤ b.toNat) && decide (b.toNat ≤ 57))) := by
  induction s with
  | nil => rfl
  | cons b s ih => rw [List.all_cons, List.any_cons, ih, Bool.not_or, Bool.not_not]

set_option maxRecDepth 100000 in
set_option maxHeartbeats 400000 in
theorem digits_ok (s : Str) (hs : s.length ≤ 10000000) (w : World) :
    Ret Tryz.prog 61 #[str s] w (fun v w' => v = .bool (digitsK s) ∧ Ext w w') := by
  refine enter (S := No) (l := [_]) (L := []) 12 Tryz.func61 rfl rfl rfl (St.start w No) ?_; refine yA ?_; refine aB rfl ?_; refine yC ?_; refine zm (v := str _) rfl ?_; refine w_r (fun _ => R_slen st9 rfl (by omega)) rfl rfl ?_; refine w_r (fun _ => R_le rfl rfl) rfl rfl ?_; refine mB rfl ?_; refine zd (t := 6) rfl (fun h1 => ?_) (fun h1 => ?_)
  · refine zw rfl rfl (bT h1) ?_; refine zm (v := str _) rfl ?_; refine zw rfl rfl (bT h1) ?_; refine w_convS un9 un115 un5 rfl (fun sb cap ob hcap hob => ?_)
    refine zw rfl rfl (bT h1) ?_; refine zC (fun w => zR Tryz.func99 rfl rfl rfl) rfl rfl (fun w h => hasB_ok s hs sb cap w (fun j u hj => hob w (h.at_ 0 rfl) j u hj)) ?_; refine zw rfl rfl (bT h1) ?_; refine w_r (fun _ => R_not rfl) rfl rfl ?_; refine w_r (v := .bool _) (fun _ => zT (bT h1) rfl) rfl rfl ?_; refine aB rfl ?_; refine yB ?_; refine ze ?_; refine zo (v := .bool _) rfl rfl rfl ?_; exact fun w' hw => ⟨by unfold digitsK; rw [dig_all, decide_eq_true (by omega), Bool.true_and], hw.fr _ (.head _)⟩
  · refine zs rfl rfl (bF h1) ?_; refine zs rfl rfl (bF h1) ?_; refine zs rfl rfl (bF h1) ?_; refine zs rfl rfl (bF h1) ?_; refine w_r (v := .bool _) (fun _ => zF (bF h1) rfl) rfl rfl ?_; refine aB rfl ?_; refine yB ?_; refine ze ?_; refine zo (v := .bool _) rfl rfl rfl ?_; exact fun w' hw => ⟨by unfold digitsK; rw [decide_eq_false (by omega)]; rfl, hw.fr _ (.head _)⟩

set_option maxRecDepth 100000 in
set_option maxHeartbeats 400000 in
theorem lookB_ok (k b : Nat) (l : List (Int × Value)) (v : Value) (w : World) (hb : w.heap[b]? = some (mpI .u8 l)) (hv : (l.lookup (k : Int)).getD (.int .u8 0) = v) :
    Ret Tryz.prog 64 #[.map (some b), .int .u8 (k : Nat)] w (fun r w' => r = v ∧ Ext w w') := by
  refine enter (S := No) (l := [_, _]) (L := []) 8 Tryz.func64 rfl rfl rfl (St.start w No) ?_; refine yA ?_; refine aI rfl ?_; refine yC ?_; refine zm rfl ?_; refine mI rfl ?_; refine w_lookI' (fun w h => h.old hb (.head _) (fun x => x)) unm108 unk5 zr5 rfl rfl hv ?_; refine za (v := v) rfl ?_; refine yB ?_; refine ze ?_; refine zo (v := v) rfl rfl rfl ?_; exact fun w' hw => ⟨rfl, hw.fr _ (.head _)⟩

set_option maxRecDepth 100000 in
set_option maxHeartbeats 400000 in
theorem lookT_ok (x y b : Nat) (l : List ((Nat × Nat) × Value)) (v : Value) (w : World) (hb : w.heap[b]? = some (mpP l)) (hv : (l.lookup (x, y)).getD (.int .u8 0) = v) :
    Ret Tryz.prog 103 #[.map (some b), pr x y] w (fun r w' => r = v ∧ Ext w w') := by
  refine enter (S := No) (l := [_, _]) (L := []) 8 Tryz.func103 rfl rfl rfl (St.start w No) ?_; refine yA ?_; refine w_boxA rfl (fun tb gtb utb => ?_)
  refine aI rfl ?_; refine yC ?_; refine zm rfl ?_; refine w_loadA z104 rfl (fun _ h => h.at_ 0 rfl) rfl ?_; refine w_lookP (s := (x, y)) (fun w h => h.old hb (.head _) (fun x => x)) unm136 ky104 zr5 rfl rfl hv ?_; refine za (v := v) rfl ?_; refine yB ?_; refine ze ?_; refine zo (v := v) rfl rfl rfl ?_; exact fun w' hw => ⟨rfl, hw.fr _ (.head _)⟩

theorem realK_l102030 (a b : Nat) : (([((1, 0), .int .u8 2), ((2, 0), .int .u8 2), ((3, 0), .int .u8 3)] : List ((Nat × Nat) × Value)).lookup (a, b)).getD (.int .u8 0) = .int .u8 (realK a b : Nat) := by
  by_cases h0 : (a, b) = (1, 0)
  · cases h0; rfl
  by_cases h1 : (a, b) = (2, 0)
  · cases h1; rfl
  by_cases h2 : (a, b) = (3, 0)
  · cases h2; rfl
  have q : ∀ k : Nat × Nat, ¬ (a, b) = k → ((a, b) == k) = false := fun k h => by simpa using h
  have e : realK a b = 0 := by clear q; simp only [Prod.mk.injEq] at *; unfold realK; grind
  rw [e]; simp only [List.lookup, q _ h0, q _ h1, q _ h2]; rfl

theorem realK_l103020 (a b : Nat) : (([((1, 0), .int .u8 2), ((3, 0), .int .u8 3), ((2, 0), .int .u8 2)] : List ((Nat × Nat) × Value)).lookup (a, b)).getD (.int .u8 0) = .int .u8 (realK a b : Nat) := by
  by_cases h0 : (a, b) = (1, 0)
  · cases h0; rfl
  by_cases h1 : (a, b) = (3, 0)
  · cases h1; rfl
  by_cases h2 : (a, b) = (2, 0)
  · cases h2; rfl
  have q : ∀ k : Nat × Nat, ¬ (a, b) = k → ((a, b) == k) = false := fun k h => by simpa using h
  have e : realK a b = 0 := by clear q; simp only [Prod.mk.injEq] at *; unfold realK; grind
  rw [e]; simp only [List.lookup, q _ h0, q _ h1, q _ h2]; rfl

theorem realK_l201030 (a b : Nat) : (([((2, 0), .int .u8 2), ((1, 0), .int .u8 2), ((3, 0), .int .u8 3)] : List ((Nat × Nat) × Value)).lookup (a, b)).getD (.int .u8 0) = .int .u8 (realK a b : Nat) := by
  by_cases h0 : (a, b) = (2, 0)
  · cases h0; rfl
  by_cases h1 : (a, b) = (1, 0)
  · cases h1; rfl
  by_cases h2 : (a, b) = (3, 0)
  · cases h2; rfl
  have q : ∀ k : Nat × Nat, ¬ (a, b) = k → ((a, b) == k) = false := fun k h => by simpa using h
  have e : realK a b = 0 := by clear q; simp only [Prod.mk.injEq] at *; unfold realK; grind
  rw [e]; simp only [List.lookup, q _ h0, q _ h1, q _ h2]; rfl

theorem realK_l203010 (a b : Nat) : (([((2, 0), .int .u8 2), ((3, 0), .int .u8 3), ((1, 0), .int .u8 2)] : List ((Nat × Nat) × Value)).lookup (a, b)).getD (.int .u8 0) = .int .u8 (realK a b : Nat) := by
  by_cases h0 : (a, b) = (2, 0)
  · cases h0; rfl
  by_cases h1 : (a, b) = (3, 0)
  · cases h1; rfl
  by_cases h2 : (a, b) = (1, 0)
  · cases h2; rfl
  have q : ∀ k : Nat × Nat, ¬ (a, b) = k → ((a, b) == k) = false := fun k h => by simpa using h
  have e : realK a b = 0 := by clear q; simp only [Prod.mk.injEq] at *; unfold realK; grind
  rw [e]; simp only [List.lookup, q _ h0, q _ h1, q _ h2]; rfl

theorem realK_l301020 (a b : Nat) : (([((3, 0), .int .u8 3), ((1, 0), .int .u8 2), ((2, 0), .int .u8 2)] : List ((Nat × Nat) × Value)).lookup (a, b)).getD (.int .u8 0) = .int .u8 (realK a b : Nat) := by
  by_cases h0 : (a, b) = (3, 0)
  · cases h0; rfl
  by_cases h1 : (a, b) = (1, 0)
  · cases h1; rfl
  by_cases h2 : (a, b) = (2, 0)
  · cases h2; rfl
  have q : ∀ k : Nat × Nat, ¬ (a, b) = k → ((a, b) == k) = false := fun k h => by simpa using h
  have e : realK a b = 0 := by clear q; simp only [Prod.mk.injEq] at *; unfold realK; grind
  rw [e]; simp only [List.lookup, q _ h0, q _ h1, q _ h2]; rfl

theorem realK_l302010 (a b : Nat) : (([((3, 0), .int .u8 3), ((2, 0), .int .u8 2), ((1, 0), .int .u8 2)] : List ((Nat × Nat) × Value)).lookup (a, b)).getD (.int .u8 0) = .int .u8 (realK a b : Nat) := by
  by_cases h0 : (a, b) = (3, 0)
  · cases h0; rfl
  by_cases h1 : (a, b) = (2, 0)
  · cases h1; rfl
  by_cases h2 : (a, b) = (1, 0)
  · cases h2; rfl
  have q : ∀ k : Nat × Nat, ¬ (a, b) = k → ((a, b) == k) = false := fun k h => by simpa using h
  have e : realK a b = 0 := by clear q; simp only [Prod.mk.injEq] at *; unfold realK; grind
  rw [e]; simp only [List.lookup, q _ h0, q _ h1, q _ h2]; rfl

theorem sumK_l403050 (a b : Nat) : (([((4, 0), .int .u8 1), ((3, 0), .int .u8 2), ((5, 0), .int .u8 2)] : List ((Nat × Nat) × Value)).lookup (a, b)).getD (.int .u8 0) = .int .u8 (sumK a b : Nat) := by
  by_cases h0 : (a, b) = (4, 0)
  · cases h0; rfl
  by_cases h1 : (a, b) = (3, 0)
  · cases h1; rfl
  by_cases h2 : (a, b) = (5, 0)
  · cases h2; rfl
  have q : ∀ k : Nat × Nat, ¬ (a, b) = k → ((a, b) == k) = false := fun k h => by simpa using h
  have e : sumK a b = 0 := by clear q; simp only [Prod.mk.injEq] at *; unfold sumK; grind
  rw [e]; simp only [List.lookup, q _ h0, q _ h1, q _ h2]; rfl

theorem sumK_l405030 (a b : Nat) : (([((4, 0), .int .u8 1), ((5, 0), .int .u8 2), ((3, 0), .int .u8 2)] : List ((Nat × Nat) × Value)).lookup (a, b)).getD (.int .u8 0) = .int .u8 (sumK a b : Nat) := by
  by_cases h0 : (a, b) = (4, 0)
  · cases h0; rfl
  by_cases h1 : (a, b) = (5, 0)
  · cases h1; rfl
  by_cases h2 : (a, b) = (3, 0)
  · cases h2; rfl
  have q : ∀ k : Nat × Nat, ¬ (a, b) = k → ((a, b) == k) = false := fun k h => by simpa using h
  have e : sumK a b = 0 := by clear q; simp only [Prod.mk.injEq] at *; unfold sumK; grind
  rw [e]; simp only [List.lookup, q _ h0, q _ h1, q _ h2]; rfl

theorem sumK_l304050 (a b : Nat) : (([((3, 0), .int .u8 2), ((4, 0), .int .u8 1), ((5, 0), .int .u8 2)] : List ((Nat × Nat) × Value)).lookup (a, b)).getD (.int .u8 0) = .int .u8 (sumK a b : Nat) := by
  by_cases h0 : (a, b) = (3, 0)
  · cases h0; rfl
  by_cases h1 : (a, b) = (4, 0)
  · cases h1; rfl
  by_cases h2 : (a, b) = (5, 0)
  · cases h2; rfl
  have q : ∀ k : Nat × Nat, ¬ (a, b) = k → ((a, b) == k) = false := fun k h => by simpa using h
  have e : sumK a b = 0 := by clear q; simp only [Prod.mk.injEq] at *; unfold sumK; grind
  rw [e]; simp only [List.lookup, q _ h0, q _ h1, q _ h2]; rfl

theorem sumK_l305040 (a b : Nat) : (([((3, 0), .int .u8 2), ((5, 0), .int .u8 2), ((4, 0), .int .u8 1)] : List ((Nat × Nat) × Value)).lookup (a, b)).getD (.int .u8 0) = .int .u8 (sumK a b : Nat) := by
  by_cases h0 : (a, b) = (3, 0)
  · cases h0; rfl
  by_cases h1 : (a, b) = (5, 0)
  · cases h1; rfl
  by_cases h2 : (a, b) = (4, 0)
  · cases h2; rfl
  have q : ∀ k : Nat × Nat, ¬ (a, b) = k → ((a, b) == k) = false := fun k h => by simpa using h
  have e : sumK a b = 0 := by clear q; simp only [Prod.mk.injEq] at *; unfold sumK; grind
  rw [e]; simp only [List.lookup, q _ h0, q _ h1, q _ h2]; rfl

theorem sumK_l504030 (a b : Nat) : (([((5, 0), .int .u8 2), ((4, 0), .int .u8 1), ((3, 0), .int .u8 2)] : List ((Nat × Nat) × Value)).lookup (a, b)).getD (.int .u8 0) = .int .u8 (sumK a b : Nat) := by
  by_cases h0 : (a, b) = (5, 0)
  · cases h0; rfl
  by_cases h1 : (a, b) = (4, 0)
  · cases h1; rfl
  by_cases h2 : (a, b) = (3, 0)
  · cases h2; rfl
  have q : ∀ k : Nat × Nat, ¬ (a, b) = k → ((a, b) == k) = false := fun k h => by simpa using h
  have e : sumK a b = 0 := by clear q; simp only [Prod.mk.injEq] at *; unfold sumK; grind
  rw [e]; simp only [List.lookup, q _ h0, q _ h1, q _ h2]; rfl

theorem sumK_l503040 (a b : Nat) : (([((5, 0), .int .u8 2), ((3, 0), .int .u8 2), ((4, 0), .int .u8 1)] : List ((Nat × Nat) × Value)).lookup (a, b)).getD (.int .u8 0) = .int .u8 (sumK a b : Nat) := by
  by_cases h0 : (a, b) = (5, 0)
  · cases h0; rfl
  by_cases h1 : (a, b) = (3, 0)
  · cases h1; rfl
  by_cases h2 : (a, b) = (4, 0)
  · cases h2; rfl
  have q : ∀ k : Nat × Nat, ¬ (a, b) = k → ((a, b) == k) = false := fun k h => by simpa using h
  have e : sumK a b = 0 := by clear q; simp only [Prod.mk.injEq] at *; unfold sumK; grind
  rw [e]; simp only [List.lookup, q _ h0, q _ h1, q _ h2]; rfl

theorem dotK_l33 (a b : Nat) : (([((3, 3), .int .u8 2)] : List ((Nat × Nat) × Value)).lookup (a, b)).getD (.int .u8 0) = .int .u8 (dotK a b : Nat) := by
  by_cases h0 : (a, b) = (3, 3)
  · cases h0; rfl
  have q : ∀ k : Nat × Nat, ¬ (a, b) = k → ((a, b) == k) = false := fun k h => by simpa using h
  have e : dotK a b = 0 := by clear q; simp only [Prod.mk.injEq] at *; unfold dotK; grind
  rw [e]; simp only [List.lookup, q _ h0]; rfl

theorem sizeK_l403050 (a b : Nat) : (([((4, 0), .int .u8 1), ((3, 0), .int .u8 1), ((5, 0), .int .u8 1)] : List ((Nat × Nat) × Value)).lookup (a, b)).getD (.int .u8 0) = .int .u8 (sizeK a b : Nat) := by
  by_cases h0 : (a, b) = (4, 0)
  · cases h0; rfl
  by_cases h1 : (a, b) = (3, 0)
  · cases h1; rfl
  by_cases h2 : (a, b) = (5, 0)
  · cases h2; rfl
  have q : ∀ k : Nat × Nat, ¬ (a, b) = k → ((a, b) == k) = false := fun k h => by simpa using h
  have e : sizeK a b = 0 := by clear q; simp only [Prod.mk.injEq] at *; unfold sizeK; grind
  rw [e]; simp only [List.lookup, q _ h0, q _ h1, q _ h2]; rfl

theorem sizeK_l405030 (a b : Nat) : (([((4, 0), .int .u8 1), ((5, 0), .int .u8 1), ((3, 0), .int .u8 1)] : List ((Nat × Nat) × Value)).lookup (a, b)).getD (.int .u8 0) = .int .u8 (sizeK a b : Nat) := by
  by_cases h0 : (a, b) = (4, 0)
  · cases h0; rfl
  by_cases h1 : (a, b) = (5, 0)
  · cases h1; rfl
  by_cases h2 : (a, b) = (3, 0)
  · cases h2; rfl
  have q : ∀ k : Nat × Nat, ¬ (a, b) = k → ((a, b) == k) = false := fun k h => by simpa using h
  have e : sizeK a b = 0 := by clear q; simp only [Prod.mk.injEq] at *; unfold sizeK; grind
  rw [e]; simp only [List.lookup, q _ h0, q _ h1, q _ h2]; rfl

theorem sizeK_l304050 (a b : Nat) : (([((3, 0), .int .u8 1), ((4, 0), .int .u8 1), ((5, 0), .int .u8 1)] : List ((Nat × Nat) × Value)).lookup (a, b)).getD (.int .u8 0) = .int .u8 (sizeK a b : Nat) := by
  by_cases h0 : (a, b) = (3, 0)
  · cases h0; rfl
  by_cases h1 : (a, b) = (4, 0)
  · cases h1; rfl
  by_cases h2 : (a, b) = (5, 0)
  · cases h2; rfl
  have q : ∀ k : Nat × Nat, ¬ (a, b) = k → ((a, b) == k) = false := fun k h => by simpa using h
  have e : sizeK a b = 0 := by clear q; simp only [Prod.mk.injEq] at *; unfold sizeK; grind
  rw [e]; simp only [List.lookup, q _ h0, q _ h1, q _ h2]; rfl

theorem sizeK_l305040 (a b : Nat) : (([((3, 0), .int .u8 1), ((5, 0), .int .u8 1), ((4, 0), .int .u8 1)] : List ((Nat × Nat) × Value)).lookup (a, b)).getD (.int .u8 0) = .int .u8 (sizeK a b : Nat) := by
  by_cases h0 : (a, b) = (3, 0)
  · cases h0; rfl
  by_cases h1 : (a, b) = (5, 0)
  · cases h1; rfl
  by_cases h2 : (a, b) = (4, 0)
  · cases h2; rfl
  have q : ∀ k : Nat × Nat, ¬ (a, b) = k → ((a, b) == k) = false := fun k h => by simpa using h
  have e : sizeK a b = 0 := by clear q; simp only [Prod.mk.injEq] at *; unfold sizeK; grind
  rw [e]; simp only [List.lookup, q _ h0, q _ h1, q _ h2]; rfl

theorem sizeK_l504030 (a b : Nat) : (([((5, 0), .int .u8 1), ((4, 0), .int .u8 1), ((3, 0), .int .u8 1)] : List ((Nat × Nat) × Value)).lookup (a, b)).getD (.int .u8 0) = .int .u8 (sizeK a b : Nat) := by
  by_cases h0 : (a, b) = (5, 0)
  · cases h0; rfl
  by_cases h1 : (a, b) = (4, 0)
  · cases h1; rfl
  by_cases h2 : (a, b) = (3, 0)
  · cases h2; rfl
  have q : ∀ k : Nat × Nat, ¬ (a, b) = k → ((a, b) == k) = false := fun k h => by simpa using h
  have e : sizeK a b = 0 := by clear q; simp only [Prod.mk.injEq] at *; unfold sizeK; grind
  rw [e]; simp only [List.lookup, q _ h0, q _ h1, q _ h2]; rfl

theorem sizeK_l503040 (a b : Nat) : (([((5, 0), .int .u8 1), ((3, 0), .int .u8 1), ((4, 0), .int .u8 1)] : List ((Nat × Nat) × Value)).lookup (a, b)).getD (.int .u8 0) = .int .u8 (sizeK a b : Nat) := by
  by_cases h0 : (a, b) = (5, 0)
  · cases h0; rfl
  by_cases h1 : (a, b) = (3, 0)
  · cases h1; rfl
  by_cases h2 : (a, b) = (4, 0)
  · cases h2; rfl
  have q : ∀ k : Nat × Nat, ¬ (a, b) = k → ((a, b) == k) = false := fun k h => by simpa using h
  have e : sizeK a b = 0 := by clear q; simp only [Prod.mk.injEq] at *; unfold sizeK; grind
  rw [e]; simp only [List.lookup, q _ h0, q _ h1, q _ h2]; rfl

theorem vecK_l33 (a b : Nat) : (([((3, 3), .int .u8 3)] : List ((Nat × Nat) × Value)).lookup (a, b)).getD (.int .u8 0) = .int .u8 (vecK a b : Nat) := by
  by_cases h0 : (a, b) = (3, 3)
  · cases h0; rfl
  have q : ∀ k : Nat × Nat, ¬ (a, b) = k → ((a, b) == k) = false := fun k h => by simpa using h
  have e : vecK a b = 0 := by clear q; simp only [Prod.mk.injEq] at *; unfold vecK; grind
  rw [e]; simp only [List.lookup, q _ h0]; rfl

set_option maxRecDepth 100000 in
set_option maxHeartbeats 4000000 in
theorem real_ok (a b : Nat) (w : World) :
    Ret Tryz.prog 102 #[pr a b] w (fun v w' => v = .int .u8 (realK a b : Nat) ∧ Ext w w') := by
  refine enter (S := No) (l := [_]) (L := []) 10 Tryz.func102 rfl rfl rfl (St.start w No) ?_; refine yA ?_; refine w_boxA rfl (fun tb gtb utb => ?_)
  refine aI rfl ?_; refine yB ?_; refine zq ?_; refine c_heldS mixed ?_; refine zh 1 rfl (by kernel_rfl) rfl rfl (fun w h => h) (fun w h => R_buildA ar104 zr104 rfl) ?_; refine zh 3 rfl (by kernel_rfl) rfl rfl (fun w h => h) (fun w h => R_buildA ar104 zr104 rfl) ?_; refine zh 5 rfl (by kernel_rfl) rfl rfl (fun w h => h) (fun w h => R_buildA ar104 zr104 rfl) ?_; refine h_loadA 8 rfl (by kernel_rfl) (fun w h => h) z104 rfl (fun _ h => h.at_ 0 rfl) rfl ?_; refine h_one 0 (by kernel_rfl) (fun w h => h) ?_; refine o_makeMapP rfl (fun mb gmb umb => ?_)
  refine h_three 2 4 6 (by kernel_rfl) (fun w h => (h.drop (.cons _ (List.Sublist.refl _)))) ?_ ?_ ?_
  · refine o_insP 0 (s := (1, 0)) (v := .int .u8 2) rfl rfl unm136 ky104 rfl rfl rfl rfl ?_; refine h_two 4 6 (by kernel_rfl) (fun w h => (h.drop (.cons _ (List.Sublist.refl _)))) ?_ ?_
    · refine o_insP 0 (s := (2, 0)) (v := .int .u8 2) rfl rfl unm136 ky104 rfl rfl rfl rfl ?_; refine h_one 6 (by kernel_rfl) (fun w h => (h.drop (.cons _ (List.Sublist.refl _)))) ?_; refine o_insP 0 (s := (3, 0)) (v := .int .u8 3) rfl rfl unm136 ky104 rfl rfl rfl rfl ?_; refine zh 7 rfl (by kernel_rfl) rfl rfl (fun w h => (h.drop (.cons _ (List.Sublist.refl _)))) (fun w h => R_move rfl) ?_; refine h_one 9 (by kernel_rfl) (fun w h => (h.drop (.cons _ (List.Sublist.refl _)))) ?_; refine o_pureW rfl (wn_none rfl) rfl (fun w => zR Tryz.func103 rfl rfl rfl) (fun w h => lookT_ok a b mb [((1, 0), .int .u8 2), ((2, 0), .int .u8 2), ((3, 0), .int .u8 3)] (.int .u8 (realK a b : Nat)) w (h.at_ 0 rfl) (realK_l102030 a b)) ?_; refine zh (v := .int _ _) 10 rfl (by kernel_rfl) rfl rfl (fun w h => (h.drop (.cons _ (List.Sublist.refl _)))) (fun w h => R_assign rfl) ?_
      refine h_done (by kernel_rfl) (fun w h => (h.drop (.cons _ (List.Sublist.refl _)))) ?_; refine zk ?_; refine ze ?_; refine zo (v := .int _ _) rfl rfl rfl ?_; exact fun w' hw => ⟨rfl, hw.fr _ (.head _)⟩
    · refine o_insP 0 (s := (3, 0)) (v := .int .u8 3) rfl rfl unm136 ky104 rfl rfl rfl rfl ?_; refine h_one 4 (by kernel_rfl) (fun w h => (h.drop (.cons _ (List.Sublist.refl _)))) ?_; refine o_insP 0 (s := (2, 0)) (v := .int .u8 2) rfl rfl unm136 ky104 rfl rfl rfl rfl ?_; refine zh 7 rfl (by kernel_rfl) rfl rfl (fun w h => (h.drop (.cons _ (List.Sublist.refl _)))) (fun w h => R_move rfl) ?_; refine h_one 9 (by kernel_rfl) (fun w h => (h.drop (.cons _ (List.Sublist.refl _)))) ?_; refine o_pureW rfl (wn_none rfl) rfl (fun w => zR Tryz.func103 rfl rfl rfl) (fun w h => lookT_ok a b mb [((1, 0), .int .u8 2), ((3, 0), .int .u8 3), ((2, 0), .int .u8 2)] (.int .u8 (realK a b : Nat)) w (h.at_ 0 rfl) (realK_l103020 a b)) ?_; refine zh (v := .int _ _) 10 rfl (by kernel_rfl) rfl rfl (fun w h => (h.drop (.cons _ (List.Sublist.refl _)))) (fun w h => R_assign rfl) ?_
      refine h_done (by kernel_rfl) (fun w h => (h.drop (.cons _ (List.Sublist.refl _)))) ?_; refine zk ?_; refine ze ?_; refine zo (v := .int _ _) rfl rfl rfl ?_; exact fun w' hw => ⟨rfl, hw.fr _ (.head _)⟩
  · refine o_insP 0 (s := (2, 0)) (v := .int .u8 2) rfl rfl unm136 ky104 rfl rfl rfl rfl ?_; refine h_two 2 6 (by kernel_rfl) (fun w h => (h.drop (.cons _ (List.Sublist.refl _)))) ?_ ?_
    · refine o_insP 0 (s := (1, 0)) (v := .int .u8 2) rfl rfl unm136 ky104 rfl rfl rfl rfl ?_; refine h_one 6 (by kernel_rfl) (fun w h => (h.drop (.cons _ (List.Sublist.refl _)))) ?_; refine o_insP 0 (s := (3, 0)) (v := .int .u8 3) rfl rfl unm136 ky104 rfl rfl rfl rfl ?_; refine zh 7 rfl (by kernel_rfl) rfl rfl (fun w h => (h.drop (.cons _ (List.Sublist.refl _)))) (fun w h => R_move rfl) ?_; refine h_one 9 (by kernel_rfl) (fun w h => (h.drop (.cons _ (List.Sublist.refl _)))) ?_; refine o_pureW rfl (wn_none rfl) rfl (fun w => zR Tryz.func103 rfl rfl rfl) (fun w h => lookT_ok a b mb [((2, 0), .int .u8 2), ((1, 0), .int .u8 2), ((3, 0), .int .u8 3)] (.int .u8 (realK a b : Nat)) w (h.at_ 0 rfl) (realK_l201030 a b)) ?_; refine zh (v := .int _ _) 10 rfl (by kernel_rfl) rfl rfl (fun w h => (h.drop (.cons _ (List.Sublist.refl _)))) (fun w h => R_assign rfl) ?_
      refine h_done (by kernel_rfl) (fun w h => (h.drop (.cons _ (List.Sublist.refl _)))) ?_; refine zk ?_; refine ze ?_; refine zo (v := .int _ _) rfl rfl rfl ?_; exact fun w' hw => ⟨rfl, hw.fr _ (.head _)⟩
    · refine o_insP 0 (s := (3, 0)) (v := .int .u8 3) rfl rfl unm136 ky104 rfl rfl rfl rfl ?_; refine h_one 2 (by kernel_rfl) (fun w h => (h.drop (.cons _ (List.Sublist.refl _)))) ?_; refine o_insP 0 (s := (1, 0)) (v := .int .u8 2) rfl rfl unm136 ky104 rfl rfl rfl rfl ?_; refine zh 7 rfl (by kernel_rfl) rfl rfl (fun w h => (h.drop (.cons _ (List.Sublist.refl _)))) (fun w h => R_move rfl) ?_; refine h_one 9 (by kernel_rfl) (fun w h => (h.drop (.cons _ (List.Sublist.refl _)))) ?_; refine o_pureW rfl (wn_none rfl) rfl (fun w => zR Tryz.func103 rfl rfl rfl) (fun w h => lookT_ok a b mb [((2, 0), .int .u8 2), ((3, 0), .int .u8 3), ((1, 0), .int .u8 2)] (.int .u8 (realK a b : Nat)) w (h.at_ 0 rfl) (realK_l203010 a b)) ?_; refine zh (v := .int _ _) 10 rfl (by kernel_rfl) rfl rfl (fun w h => (h.drop (.cons _ (List.Sublist.refl _)))) (fun w h => R_assign rfl) ?_
      refine h_done (by kernel_rfl) (fun w h => (h.drop (.cons _ (List.Sublist.refl _)))) ?_; refine zk ?_; refine ze ?_; refine zo (v := .int _ _) rfl rfl rfl ?_; exact fun w' hw => ⟨rfl, hw.fr _ (.head _)⟩
  · refine o_insP 0 (s := (3, 0)) (v := .int .u8 3) rfl rfl unm136 ky104 rfl rfl rfl rfl ?_; refine h_two 2 4 (by kernel_rfl) (fun w h => (h.drop (.cons _ (List.Sublist.refl _)))) ?_ ?_
    · refine o_insP 0 (s := (1, 0)) (v := .int .u8 2) rfl rfl unm136 ky104 rfl rfl rfl rfl ?_; refine h_one 4 (by kernel_rfl) (fun w h => (h.drop (.cons _ (List.Sublist.refl _)))) ?_; refine o_insP 0 (s := (2, 0)) (v := .int .u8 2) rfl rfl unm136 ky104 rfl rfl rfl rfl ?_; refine zh 7 rfl (by kernel_rfl) rfl rfl (fun w h => (h.drop (.cons _ (List.Sublist.refl _)))) (fun w h => R_move rfl) ?_; refine h_one 9 (by kernel_rfl) (fun w h => (h.drop (.cons _ (List.Sublist.refl _)))) ?_; refine o_pureW rfl (wn_none rfl) rfl (fun w => zR Tryz.func103 rfl rfl rfl) (fun w h => lookT_ok a b mb [((3, 0), .int .u8 3), ((1, 0), .int .u8 2), ((2, 0), .int .u8 2)] (.int .u8 (realK a b : Nat)) w (h.at_ 0 rfl) (realK_l301020 a b)) ?_; refine zh (v := .int _ _) 10 rfl (by kernel_rfl) rfl rfl (fun w h => (h.drop (.cons _ (List.Sublist.refl _)))) (fun w h => R_assign rfl) ?_
      refine h_done (by kernel_rfl) (fun w h => (h.drop (.cons _ (List.Sublist.refl _)))) ?_; refine zk ?_; refine ze ?_; refine zo (v := .int _ _) rfl rfl rfl ?_; exact fun w' hw => ⟨rfl, hw.fr _ (.head _)⟩
    · refine o_insP 0 (s := (2, 0)) (v := .int .u8 2) rfl rfl unm136 ky104 rfl rfl rfl rfl ?_; refine h_one 2 (by kernel_rfl) (fun w h => (h.drop (.cons _ (List.Sublist.refl _)))) ?_; refine o_insP 0 (s := (1, 0)) (v := .int .u8 2) rfl rfl unm136 ky104 rfl rfl rfl rfl ?_; refine zh 7 rfl (by kernel_rfl) rfl rfl (fun w h => (h.drop (.cons _ (List.Sublist.refl _)))) (fun w h => R_move rfl) ?_; refine h_one 9 (by kernel_rfl) (fun w h => (h.drop (.cons _ (List.Sublist.refl _)))) ?_; refine o_pureW rfl (wn_none rfl) rfl (fun w => zR Tryz.func103 rfl rfl rfl) (fun w h => lookT_ok a b mb [((3, 0), .int .u8 3), ((2, 0), .int .u8 2), ((1, 0), .int .u8 2)] (.int .u8 (realK a b : Nat)) w (h.at_ 0 rfl) (realK_l302010 a b)) ?_; refine zh (v := .int _ _) 10 rfl (by kernel_rfl) rfl rfl (fun w h => (h.drop (.cons _ (List.Sublist.refl _)))) (fun w h => R_assign rfl) ?_
      refine h_done (by kernel_rfl) (fun w h => (h.drop (.cons _ (List.Sublist.refl _)))) ?_; refine zk ?_; refine ze ?_; refine zo (v := .int _ _) rfl rfl rfl ?_; exact fun w' hw => ⟨rfl, hw.fr _ (.head _)⟩

def callV (o : Option Nat) : Value := .tuple #[.int .u8 (o.getD 0 : Nat), .bool o.isSome]
theorem call_real {nm : Str} {a b : Nat} (h : nm ∈ ([[101, 120, 112], [108, 111, 103], [115, 113, 114, 116], [115, 113, 117, 97, 114, 101], [105, 110, 118, 95, 108, 111, 103, 105, 116]] : List Str)) : callK nm a b = some (realK a b) := by unfold callK; rw [if_pos h]; rfl
theorem call_sum (a b : Nat) : callK [115, 117, 109] a b = some (sumK a b) := by unfold callK; rw [if_neg (by decide), if_pos rfl]; rfl
theorem call_dot (a b : Nat) : callK [100, 111, 116] a b = some (dotK a b) := by unfold callK; rw [if_neg (by decide), if_neg (by decide), if_pos rfl]; rfl
theorem call_size (a b : Nat) : callK [115, 105, 122, 101] a b = some (sizeK a b) := by unfold callK; rw [if_neg (by decide), if_neg (by decide), if_neg (by decide), if_pos rfl]; rfl
theorem call_none {nm : Str} {a b : Nat} (h1 : ¬ nm ∈ ([[101, 120, 112], [108, 111, 103], [115, 113, 114, 116], [115, 113, 117, 97, 114, 101], [105, 110, 118, 95, 108, 111, 103, 105, 116]] : List Str)) (h2 : ¬ nm = [115, 117, 109]) (h3 : ¬ nm = [100, 111, 116]) (h4 : ¬ nm = [115, 105, 122, 101]) : callK nm a b = none := by unfold callK; rw [if_neg h1, if_neg h2, if_neg h3, if_neg h4]

set_option maxRecDepth 100000 in
set_option maxHeartbeats 8000000 in
theorem calls_ok (nm : Str) (a b : Nat) (w : World) :
    Ret Tryz.prog 67 #[str nm, pr a b] w (fun v w' => v = callV (callK nm a b) ∧ Ext w w') := by
  refine enter (S := No) (l := [_, _]) (L := []) 40 Tryz.func67 rfl rfl rfl (St.start w No) ?_; refine yA ?_; refine w_boxA rfl (fun tb gtb utb => ?_)
  refine aI rfl ?_; refine aB rfl ?_; refine yB ?_; refine zq ?_; refine yA ?_; refine zm (v := str _) rfl ?_; refine yB ?_; refine zB ?_; refine zq ?_; refine yA ?_; refine w_r (fun _ => R_seq rfl rfl) rfl rfl ?_; refine aB rfl ?_; refine yB ?_; refine zD rfl (fun h2 => ?_) (fun h2 => ?_)
  · refine zi ?_; refine zk ?_; refine zE (bT h2) ?_; refine yA ?_; refine w_loadA z104 rfl (fun _ h => h.at_ 0 rfl) rfl ?_; refine zC (fun w => zR Tryz.func102 rfl rfl rfl) rfl rfl (fun w h => real_ok a b w) ?_; refine aI rfl ?_; refine aB rfl ?_; refine yB ?_; refine ze ?_; refine zb (zt (?_))
    refine r_two (v := .int _ _) (v2 := .bool _) rfl rfl rfl rfl rfl ?_; exact fun w' hw => ⟨by first | (rw [call_real (by clear hw; simp only [List.mem_cons, List.not_mem_nil, or_false]; grind)]; rfl) | (subst_vars; first | (rw [call_sum]; rfl) | (rw [call_dot]; rfl) | (rw [call_size]; rfl)) | (rw [call_none (by clear hw; simp only [List.mem_cons, List.not_mem_nil, or_false]; grind) (by assumption) (by assumption) (by assumption)]; rfl), hw.fr _ (.head _)⟩
  · refine yA ?_; refine w_r (fun _ => R_seq rfl rfl) rfl rfl ?_; refine aB rfl ?_; refine yB ?_; refine zD rfl (fun h3 => ?_) (fun h3 => ?_)
    · refine zi ?_; refine zk ?_; refine zE (bT h3) ?_; refine yA ?_; refine w_loadA z104 rfl (fun _ h => h.at_ 0 rfl) rfl ?_; refine zC (fun w => zR Tryz.func102 rfl rfl rfl) rfl rfl (fun w h => real_ok a b w) ?_; refine aI rfl ?_; refine aB rfl ?_; refine yB ?_; refine ze ?_; refine zb (zt (?_))
      refine r_two (v := .int _ _) (v2 := .bool _) rfl rfl rfl rfl rfl ?_; exact fun w' hw => ⟨by first | (rw [call_real (by clear hw; simp only [List.mem_cons, List.not_mem_nil, or_false]; grind)]; rfl) | (subst_vars; first | (rw [call_sum]; rfl) | (rw [call_dot]; rfl) | (rw [call_size]; rfl)) | (rw [call_none (by clear hw; simp only [List.mem_cons, List.not_mem_nil, or_false]; grind) (by assumption) (by assumption) (by assumption)]; rfl), hw.fr _ (.head _)⟩
    · refine yA ?_; refine w_r (fun _ => R_seq rfl rfl) rfl rfl ?_; refine aB rfl ?_; refine yB ?_; refine zD rfl (fun h4 => ?_) (fun h4 => ?_)
      · refine zi ?_; refine zk ?_; refine zE (bT h4) ?_; refine yA ?_; refine w_loadA z104 rfl (fun _ h => h.at_ 0 rfl) rfl ?_; refine zC (fun w => zR Tryz.func102 rfl rfl rfl) rfl rfl (fun w h => real_ok a b w) ?_; refine aI rfl ?_; refine aB rfl ?_; refine yB ?_; refine ze ?_; refine zb (zt (?_))
        refine r_two (v := .int _ _) (v2 := .bool _) rfl rfl rfl rfl rfl ?_; exact fun w' hw => ⟨by first | (rw [call_real (by clear hw; simp only [List.mem_cons, List.not_mem_nil, or_false]; grind)]; rfl) | (subst_vars; first | (rw [call_sum]; rfl) | (rw [call_dot]; rfl) | (rw [call_size]; rfl)) | (rw [call_none (by clear hw; simp only [List.mem_cons, List.not_mem_nil, or_false]; grind) (by assumption) (by assumption) (by assumption)]; rfl), hw.fr _ (.head _)⟩
      · refine yA ?_; refine w_r (fun _ => R_seq rfl rfl) rfl rfl ?_; refine aB rfl ?_; refine yB ?_; refine zD rfl (fun h5 => ?_) (fun h5 => ?_)
        · refine zi ?_; refine zk ?_; refine zE (bT h5) ?_; refine yA ?_; refine w_loadA z104 rfl (fun _ h => h.at_ 0 rfl) rfl ?_; refine zC (fun w => zR Tryz.func102 rfl rfl rfl) rfl rfl (fun w h => real_ok a b w) ?_; refine aI rfl ?_; refine aB rfl ?_; refine yB ?_; refine ze ?_; refine zb (zt (?_))
          refine r_two (v := .int _ _) (v2 := .bool _) rfl rfl rfl rfl rfl ?_; exact fun w' hw => ⟨by first | (rw [call_real (by clear hw; simp only [List.mem_cons, List.not_mem_nil, or_false]; grind)]; rfl) | (subst_vars; first | (rw [call_sum]; rfl) | (rw [call_dot]; rfl) | (rw [call_size]; rfl)) | (rw [call_none (by clear hw; simp only [List.mem_cons, List.not_mem_nil, or_false]; grind) (by assumption) (by assumption) (by assumption)]; rfl), hw.fr _ (.head _)⟩
        · refine zr ?_; refine w_r (fun _ => R_seq rfl rfl) rfl rfl ?_; refine aB rfl ?_; refine yB ?_; refine zD rfl (fun h6 => ?_) (fun h6 => ?_)
          · refine yA ?_; refine w_loadA z104 rfl (fun _ h => h.at_ 0 rfl) rfl ?_; refine zC (fun w => zR Tryz.func102 rfl rfl rfl) rfl rfl (fun w h => real_ok a b w) ?_; refine aI rfl ?_; refine aB rfl ?_; refine yB ?_; refine ze ?_; refine zb (zt (?_))
            refine r_two (v := .int _ _) (v2 := .bool _) rfl rfl rfl rfl rfl ?_; exact fun w' hw => ⟨by first | (rw [call_real (by clear hw; simp only [List.mem_cons, List.not_mem_nil, or_false]; grind)]; rfl) | (subst_vars; first | (rw [call_sum]; rfl) | (rw [call_dot]; rfl) | (rw [call_size]; rfl)) | (rw [call_none (by clear hw; simp only [List.mem_cons, List.not_mem_nil, or_false]; grind) (by assumption) (by assumption) (by assumption)]; rfl), hw.fr _ (.head _)⟩
          · refine yA ?_; refine w_r (fun _ => R_seq rfl rfl) rfl rfl ?_; refine aB rfl ?_; refine yB ?_; refine zD rfl (fun h7 => ?_) (fun h7 => ?_)
            · refine zq ?_; refine c_heldS mixed ?_; refine zh 1 rfl (by kernel_rfl) rfl rfl (fun w h => h) (fun w h => R_buildA ar104 zr104 rfl) ?_; refine zh 3 rfl (by kernel_rfl) rfl rfl (fun w h => h) (fun w h => R_buildA ar104 zr104 rfl) ?_; refine zh 5 rfl (by kernel_rfl) rfl rfl (fun w h => h) (fun w h => R_buildA ar104 zr104 rfl) ?_; refine h_loadA 8 rfl (by kernel_rfl) (fun w h => h) z104 rfl (fun _ h => h.at_ 0 rfl) rfl ?_; refine h_one 0 (by kernel_rfl) (fun w h => h) ?_; refine o_makeMapP rfl (fun mb gmb umb => ?_)
              refine h_three 2 4 6 (by kernel_rfl) (fun w h => (h.drop (.cons _ (List.Sublist.refl _)))) ?_ ?_ ?_
              · refine o_insP 0 (s := (4, 0)) (v := .int .u8 1) rfl rfl unm136 ky104 rfl rfl rfl rfl ?_; refine h_two 4 6 (by kernel_rfl) (fun w h => (h.drop (.cons _ (List.Sublist.refl _)))) ?_ ?_
                · refine o_insP 0 (s := (3, 0)) (v := .int .u8 2) rfl rfl unm136 ky104 rfl rfl rfl rfl ?_; refine h_one 6 (by kernel_rfl) (fun w h => (h.drop (.cons _ (List.Sublist.refl _)))) ?_; refine o_insP 0 (s := (5, 0)) (v := .int .u8 2) rfl rfl unm136 ky104 rfl rfl rfl rfl ?_; refine zh 7 rfl (by kernel_rfl) rfl rfl (fun w h => (h.drop (.cons _ (List.Sublist.refl _)))) (fun w h => R_move rfl) ?_; refine h_one 9 (by kernel_rfl) (fun w h => (h.drop (.cons _ (List.Sublist.refl _)))) ?_; refine o_pureW rfl (wn_none rfl) rfl (fun w => zR Tryz.func103 rfl rfl rfl) (fun w h => lookT_ok a b mb [((4, 0), .int .u8 1), ((3, 0), .int .u8 2), ((5, 0), .int .u8 2)] (.int .u8 (sumK a b : Nat)) w (h.at_ 0 rfl) (sumK_l403050 a b)) ?_; refine zh (v := .int _ _) 10 rfl (by kernel_rfl) rfl rfl (fun w h => (h.drop (.cons _ (List.Sublist.refl _)))) (fun w h => R_assign rfl) ?_
                  refine zh (v := .bool _) 11 rfl (by kernel_rfl) rfl rfl (fun w h => (h.drop (.cons _ (List.Sublist.refl _)))) (fun w h => R_assign rfl) ?_; refine h_done (by kernel_rfl) (fun w h => (h.drop (.cons _ (List.Sublist.refl _)))) ?_; refine zk ?_; refine ze ?_; refine zb (zt (?_))
                  refine r_two (v := .int _ _) (v2 := .bool _) rfl rfl rfl rfl rfl ?_; exact fun w' hw => ⟨by first | (rw [call_real (by clear hw; simp only [List.mem_cons, List.not_mem_nil, or_false]; grind)]; rfl) | (subst_vars; first | (rw [call_sum]; rfl) | (rw [call_dot]; rfl) | (rw [call_size]; rfl)) | (rw [call_none (by clear hw; simp only [List.mem_cons, List.not_mem_nil, or_false]; grind) (by assumption) (by assumption) (by assumption)]; rfl), hw.fr _ (.head _)⟩
                · refine o_insP 0 (s := (5, 0)) (v := .int .u8 2) rfl rfl unm136 ky104 rfl rfl rfl rfl ?_; refine h_one 4 (by kernel_rfl) (fun w h => (h.drop (.cons _ (List.Sublist.refl _)))) ?_; refine o_insP 0 (s := (3, 0)) (v := .int .u8 2) rfl rfl unm136 ky104 rfl rfl rfl rfl ?_; refine zh 7 rfl (by kernel_rfl) rfl rfl (fun w h => (h.drop (.cons _ (List.Sublist.refl _)))) (fun w h => R_move rfl) ?_; refine h_one 9 (by kernel_rfl) (fun w h => (h.drop (.cons _ (List.Sublist.refl _)))) ?_; refine o_pureW rfl (wn_none rfl) rfl (fun w => zR Tryz.func103 rfl rfl rfl) (fun w h => lookT_ok a b mb [((4, 0), .int .u8 1), ((5, 0), .int .u8 2), ((3, 0), .int .u8 2)] (.int .u8 (sumK a b : Nat)) w (h.at_ 0 rfl) (sumK_l405030 a b)) ?_; refine zh (v := .int _ _) 10 rfl (by kernel_rfl) rfl rfl (fun w h => (h.drop (.cons _ (List.Sublist.refl _)))) (fun w h => R_assign rfl) ?_
                  refine zh (v := .bool _) 11 rfl (by kernel_rfl) rfl rfl (fun w h => (h.drop (.cons _ (List.Sublist.refl _)))) (fun w h => R_assign rfl) ?_; refine h_done (by kernel_rfl) (fun w h => (h.drop (.cons _ (List.Sublist.refl _)))) ?_; refine zk ?_; refine ze ?_; refine zb (zt (?_))
                  refine r_two (v := .int _ _) (v2 := .bool _) rfl rfl rfl rfl rfl ?_; exact fun w' hw => ⟨by first | (rw [call_real (by clear hw; simp only [List.mem_cons, List.not_mem_nil, or_false]; grind)]; rfl) | (subst_vars; first | (rw [call_sum]; rfl) | (rw [call_dot]; rfl) | (rw [call_size]; rfl)) | (rw [call_none (by clear hw; simp only [List.mem_cons, List.not_mem_nil, or_false]; grind) (by assumption) (by assumption) (by assumption)]; rfl), hw.fr _ (.head _)⟩
              · refine o_insP 0 (s := (3, 0)) (v := .int .u8 2) rfl rfl unm136 ky104 rfl rfl rfl rfl ?_; refine h_two 2 6 (by kernel_rfl) (fun w h => (h.drop (.cons _ (List.Sublist.refl _)))) ?_ ?_
                · refine o_insP 0 (s := (4, 0)) (v := .int .u8 1) rfl rfl unm136 ky104 rfl rfl rfl rfl ?_; refine h_one 6 (by kernel_rfl) (fun w h => (h.drop (.cons _ (List.Sublist.refl _)))) ?_; refine o_insP 0 (s := (5, 0)) (v := .int .u8 2) rfl rfl unm136 ky104 rfl rfl rfl rfl ?_; refine zh 7 rfl (by kernel_rfl) rfl rfl (fun w h => (h.drop (.cons _ (List.Sublist.refl _)))) (fun w h => R_move rfl) ?_; refine h_one 9 (by kernel_rfl) (fun w h => (h.drop (.cons _ (List.Sublist.refl _)))) ?_; refine o_pureW rfl (wn_none rfl) rfl (fun w => zR Tryz.func103 rfl rfl rfl) (fun w h => lookT_ok a b mb [((3, 0), .int .u8 2), ((4, 0), .int .u8 1), ((5, 0), .int .u8 2)] (.int .u8 (sumK a b : Nat)) w (h.at_ 0 rfl) (sumK_l304050 a b)) ?_; refine zh (v := .int _ _) 10 rfl (by kernel_rfl) rfl rfl (fun w h => (h.drop (.cons _ (List.Sublist.refl _)))) (fun w h => R_assign rfl) ?_
                  refine zh (v := .bool _) 11 rfl (by kernel_rfl) rfl rfl (fun w h => (h.drop (.cons _ (List.Sublist.refl _)))) (fun w h => R_assign rfl) ?_; refine h_done (by kernel_rfl) (fun w h => (h.drop (.cons _ (List.Sublist.refl _)))) ?_; refine zk ?_; refine ze ?_; refine zb (zt (?_))
                  refine r_two (v := .int _ _) (v2 := .bool _) rfl rfl rfl rfl rfl ?_; exact fun w' hw => ⟨by first | (rw [call_real (by clear hw; simp only [List.mem_cons, List.not_mem_nil, or_false]; grind)]; rfl) | (subst_vars; first | (rw [call_sum]; rfl) | (rw [call_dot]; rfl) | (rw [call_size]; rfl)) | (rw [call_none (by clear hw; simp only [List.mem_cons, List.not_mem_nil, or_false]; grind) (by assumption) (by assumption) (by assumption)]; rfl), hw.fr _ (.head _)⟩
                · refine o_insP 0 (s := (5, 0)) (v := .int .u8 2) rfl rfl unm136 ky104 rfl rfl rfl rfl ?_; refine h_one 2 (by kernel_rfl) (fun w h => (h.drop (.cons _ (List.Sublist.refl _)))) ?_; refine o_insP 0 (s := (4, 0)) (v := .int .u8 1) rfl rfl unm136 ky104 rfl rfl rfl rfl ?_; refine zh 7 rfl (by kernel_rfl) rfl rfl (fun w h => (h.drop (.cons _ (List.Sublist.refl _)))) (fun w h => R_move rfl) ?_; refine h_one 9 (by kernel_rfl) (fun w h => (h.drop (.cons _ (List.Sublist.refl _)))) ?_; refine o_pureW rfl (wn_none rfl) rfl (fun w => zR Tryz.func103 rfl rfl rfl) (fun w h => lookT_ok a b mb [((3, 0), .int .u8 2), ((5, 0), .int .u8 2), ((4, 0), .int .u8 1)] (.int .u8 (sumK a b : Nat)) w (h.at_ 0 rfl) (sumK_l305040 a b)) ?_; refine zh (v := .int _ _) 10 rfl (by kernel_rfl) rfl rfl (fun w h => (h.drop (.cons _ (List.Sublist.refl _)))) (fun w h => R_assign rfl) ?_
                  refine zh (v := .bool _) 11 rfl (by kernel_rfl) rfl rfl (fun w h => (h.drop (.cons _ (List.Sublist.refl _)))) (fun w h => R_assign rfl) ?_; refine h_done (by kernel_rfl) (fun w h => (h.drop (.cons _ (List.Sublist.refl _)))) ?_; refine zk ?_; refine ze ?_; refine zb (zt (?_))
                  refine r_two (v := .int _ _) (v2 := .bool _) rfl rfl rfl rfl rfl ?_; exact fun w' hw => ⟨by first | (rw [call_real (by clear hw; simp only [List.mem_cons, List.not_mem_nil, or_false]; grind)]; rfl) | (subst_vars; first | (rw [call_sum]; rfl) | (rw [call_dot]; rfl) | (rw [call_size]; rfl)) | (rw [call_none (by clear hw; simp only [List.mem_cons, List.not_mem_nil, or_false]; grind) (by assumption) (by assumption) (by assumption)]; rfl), hw.fr _ (.head _)⟩
              · refine o_insP 0 (s := (5, 0)) (v := .int .u8 2) rfl rfl unm136 ky104 rfl rfl rfl rfl ?_; refine h_two 2 4 (by kernel_rfl) (fun w h => (h.drop (.cons _ (List.Sublist.refl _)))) ?_ ?_
                · refine o_insP 0 (s := (4, 0)) (v := .int .u8 1) rfl rfl unm136 ky104 rfl rfl rfl rfl ?_; refine h_one 4 (by kernel_rfl) (fun w h => (h.drop (.cons _ (List.Sublist.refl _)))) ?_; refine o_insP 0 (s := (3, 0)) (v := .int .u8 2) rfl rfl unm136 ky104 rfl rfl rfl rfl ?_; refine zh 7 rfl (by kernel_rfl) rfl rfl (fun w h => (h.drop (.cons _ (List.Sublist.refl _)))) (fun w h => R_move rfl) ?_; refine h_one 9 (by kernel_rfl) (fun w h => (h.drop (.cons _ (List.Sublist.refl _)))) ?_; refine o_pureW rfl (wn_none rfl) rfl (fun w => zR Tryz.func103 rfl rfl rfl) (fun w h => lookT_ok a b mb [((5, 0), .int .u8 2), ((4, 0), .int .u8 1), ((3, 0), .int .u8 2)] (.int .u8 (sumK a b : Nat)) w (h.at_ 0 rfl) (sumK_l504030 a b)) ?_; refine zh (v := .int _ _) 10 rfl (by kernel_rfl) rfl rfl (fun w h => (h.drop (.cons _ (List.Sublist.refl _)))) (fun w h => R_assign rfl) ?_
                  refine zh (v := .bool _) 11 rfl (by kernel_rfl) rfl rfl (fun w h => (h.drop (.cons _ (List.Sublist.refl _)))) (fun w h => R_assign rfl) ?_; refine h_done (by kernel_rfl) (fun w h => (h.drop (.cons _ (List.Sublist.refl _)))) ?_; refine zk ?_; refine ze ?_; refine zb (zt (?_))
                  refine r_two (v := .int _ _) (v2 := .bool _) rfl rfl rfl rfl rfl ?_; exact fun w' hw => ⟨by first | (rw [call_real (by clear hw; simp only [List.mem_cons, List.not_mem_nil, or_false]; grind)]; rfl) | (subst_vars; first | (rw [call_sum]; rfl) | (rw [call_dot]; rfl) | (rw [call_size]; rfl)) | (rw [call_none (by clear hw; simp only [List.mem_cons, List.not_mem_nil, or_false]; grind) (by assumption) (by assumption) (by assumption)]; rfl), hw.fr _ (.head _)⟩
                · refine o_insP 0 (s := (3, 0)) (v := .int .u8 2) rfl rfl unm136 ky104 rfl rfl rfl rfl ?_; refine h_one 2 (by kernel_rfl) (fun w h => (h.drop (.cons _ (List.Sublist.refl _)))) ?_; refine o_insP 0 (s := (4, 0)) (v := .int .u8 1) rfl rfl unm136 ky104 rfl rfl rfl rfl ?_; refine zh 7 rfl (by kernel_rfl) rfl rfl (fun w h => (h.drop (.cons _ (List.Sublist.refl _)))) (fun w h => R_move rfl) ?_; refine h_one 9 (by kernel_rfl) (fun w h => (h.drop (.cons _ (List.Sublist.refl _)))) ?_; refine o_pureW rfl (wn_none rfl) rfl (fun w => zR Tryz.func103 rfl rfl rfl) (fun w h => lookT_ok a b mb [((5, 0), .int .u8 2), ((3, 0), .int .u8 2), ((4, 0), .int .u8 1)] (.int .u8 (sumK a b : Nat)) w (h.at_ 0 rfl) (sumK_l503040 a b)) ?_; refine zh (v := .int _ _) 10 rfl (by kernel_rfl) rfl rfl (fun w h => (h.drop (.cons _ (List.Sublist.refl _)))) (fun w h => R_assign rfl) ?_
                  refine zh (v := .bool _) 11 rfl (by kernel_rfl) rfl rfl (fun w h => (h.drop (.cons _ (List.Sublist.refl _)))) (fun w h => R_assign rfl) ?_; refine h_done (by kernel_rfl) (fun w h => (h.drop (.cons _ (List.Sublist.refl _)))) ?_; refine zk ?_; refine ze ?_; refine zb (zt (?_))
                  refine r_two (v := .int _ _) (v2 := .bool _) rfl rfl rfl rfl rfl ?_; exact fun w' hw => ⟨by first | (rw [call_real (by clear hw; simp only [List.mem_cons, List.not_mem_nil, or_false]; grind)]; rfl) | (subst_vars; first | (rw [call_sum]; rfl) | (rw [call_dot]; rfl) | (rw [call_size]; rfl)) | (rw [call_none (by clear hw; simp only [List.mem_cons, List.not_mem_nil, or_false]; grind) (by assumption) (by assumption) (by assumption)]; rfl), hw.fr _ (.head _)⟩
            · refine yA ?_; refine w_r (fun _ => R_seq rfl rfl) rfl rfl ?_; refine aB rfl ?_; refine yB ?_; refine zD rfl (fun h8 => ?_) (fun h8 => ?_)
              · refine zq ?_; refine c_heldS mixed ?_; refine zh 1 rfl (by kernel_rfl) rfl rfl (fun w h => h) (fun w h => R_buildA ar104 zr104 rfl) ?_; refine h_loadA 4 rfl (by kernel_rfl) (fun w h => h) z104 rfl (fun _ h => h.at_ 0 rfl) rfl ?_; refine h_one 0 (by kernel_rfl) (fun w h => h) ?_; refine o_makeMapP rfl (fun mb gmb umb => ?_)
                refine h_one 2 (by kernel_rfl) (fun w h => (h.drop (.cons _ (List.Sublist.refl _)))) ?_; refine o_insP 0 (s := (3, 3)) (v := .int .u8 2) rfl rfl unm136 ky104 rfl rfl rfl rfl ?_; refine zh 3 rfl (by kernel_rfl) rfl rfl (fun w h => (h.drop (.cons _ (List.Sublist.refl _)))) (fun w h => R_move rfl) ?_; refine h_one 5 (by kernel_rfl) (fun w h => (h.drop (.cons _ (List.Sublist.refl _)))) ?_; refine o_pureW rfl (wn_none rfl) rfl (fun w => zR Tryz.func103 rfl rfl rfl) (fun w h => lookT_ok a b mb [((3, 3), .int .u8 2)] (.int .u8 (dotK a b : Nat)) w (h.at_ 0 rfl) (dotK_l33 a b)) ?_; refine zh (v := .int _ _) 6 rfl (by kernel_rfl) rfl rfl (fun w h => (h.drop (.cons _ (List.Sublist.refl _)))) (fun w h => R_assign rfl) ?_; refine zh (v := .bool _) 7 rfl (by kernel_rfl) rfl rfl (fun w h => (h.drop (.cons _ (List.Sublist.refl _)))) (fun w h => R_assign rfl) ?_
                refine h_done (by kernel_rfl) (fun w h => (h.drop (.cons _ (List.Sublist.refl _)))) ?_; refine zk ?_; refine ze ?_; refine zb (zt (?_))
                refine r_two (v := .int _ _) (v2 := .bool _) rfl rfl rfl rfl rfl ?_; exact fun w' hw => ⟨by first | (rw [call_real (by clear hw; simp only [List.mem_cons, List.not_mem_nil, or_false]; grind)]; rfl) | (subst_vars; first | (rw [call_sum]; rfl) | (rw [call_dot]; rfl) | (rw [call_size]; rfl)) | (rw [call_none (by clear hw; simp only [List.mem_cons, List.not_mem_nil, or_false]; grind) (by assumption) (by assumption) (by assumption)]; rfl), hw.fr _ (.head _)⟩
              · refine yA ?_; refine w_r (fun _ => R_seq rfl rfl) rfl rfl ?_; refine aB rfl ?_; refine yB ?_; refine zD rfl (fun h9 => ?_) (fun h9 => ?_)
                · refine zq ?_; refine c_heldS mixed ?_; refine zh 1 rfl (by kernel_rfl) rfl rfl (fun w h => h) (fun w h => R_buildA ar104 zr104 rfl) ?_; refine zh 3 rfl (by kernel_rfl) rfl rfl (fun w h => h) (fun w h => R_buildA ar104 zr104 rfl) ?_; refine zh 5 rfl (by kernel_rfl) rfl rfl (fun w h => h) (fun w h => R_buildA ar104 zr104 rfl) ?_; refine h_loadA 8 rfl (by kernel_rfl) (fun w h => h) z104 rfl (fun _ h => h.at_ 0 rfl) rfl ?_; refine h_one 0 (by kernel_rfl) (fun w h => h) ?_; refine o_makeMapP rfl (fun mb gmb umb => ?_)
                  refine h_three 2 4 6 (by kernel_rfl) (fun w h => (h.drop (.cons _ (List.Sublist.refl _)))) ?_ ?_ ?_
                  · refine o_insP 0 (s := (4, 0)) (v := .int .u8 1) rfl rfl unm136 ky104 rfl rfl rfl rfl ?_; refine h_two 4 6 (by kernel_rfl) (fun w h => (h.drop (.cons _ (List.Sublist.refl _)))) ?_ ?_
                    · refine o_insP 0 (s := (3, 0)) (v := .int .u8 1) rfl rfl unm136 ky104 rfl rfl rfl rfl ?_; refine h_one 6 (by kernel_rfl) (fun w h => (h.drop (.cons _ (List.Sublist.refl _)))) ?_; refine o_insP 0 (s := (5, 0)) (v := .int .u8 1) rfl rfl unm136 ky104 rfl rfl rfl rfl ?_; refine zh 7 rfl (by kernel_rfl) rfl rfl (fun w h => (h.drop (.cons _ (List.Sublist.refl _)))) (fun w h => R_move rfl) ?_; refine h_one 9 (by kernel_rfl) (fun w h => (h.drop (.cons _ (List.Sublist.refl _)))) ?_; refine o_pureW rfl (wn_none rfl) rfl (fun w => zR Tryz.func103 rfl rfl rfl) (fun w h => lookT_ok a b mb [((4, 0), .int .u8 1), ((3, 0), .int .u8 1), ((5, 0), .int .u8 1)] (.int .u8 (sizeK a b : Nat)) w (h.at_ 0 rfl) (sizeK_l403050 a b)) ?_; refine zh (v := .int _ _) 10 rfl (by kernel_rfl) rfl rfl (fun w h => (h.drop (.cons _ (List.Sublist.refl _)))) (fun w h => R_assign rfl) ?_
                      refine zh (v := .bool _) 11 rfl (by kernel_rfl) rfl rfl (fun w h => (h.drop (.cons _ (List.Sublist.refl _)))) (fun w h => R_assign rfl) ?_; refine h_done (by kernel_rfl) (fun w h => (h.drop (.cons _ (List.Sublist.refl _)))) ?_; refine zk ?_; refine ze ?_; refine zb (zt (?_))
                      refine r_two (v := .int _ _) (v2 := .bool _) rfl rfl rfl rfl rfl ?_; exact fun w' hw => ⟨by first | (rw [call_real (by clear hw; simp only [List.mem_cons, List.not_mem_nil, or_false]; grind)]; rfl) | (subst_vars; first | (rw [call_sum]; rfl) | (rw [call_dot]; rfl) | (rw [call_size]; rfl)) | (rw [call_none (by clear hw; simp only [List.mem_cons, List.not_mem_nil, or_false]; grind) (by assumption) (by assumption) (by assumption)]; rfl), hw.fr _ (.head _)⟩
                    · refine o_insP 0 (s := (5, 0)) (v := .int .u8 1) rfl rfl unm136 ky104 rfl rfl rfl rfl ?_; refine h_one 4 (by kernel_rfl) (fun w h => (h.drop (.cons _ (List.Sublist.refl _)))) ?_; refine o_insP 0 (s := (3, 0)) (v := .int .u8 1) rfl rfl unm136 ky104 rfl rfl rfl rfl ?_; refine zh 7 rfl (by kernel_rfl) rfl rfl (fun w h => (h.drop (.cons _ (List.Sublist.refl _)))) (fun w h => R_move rfl) ?_; refine h_one 9 (by kernel_rfl) (fun w h => (h.drop (.cons _ (List.Sublist.refl _)))) ?_; refine o_pureW rfl (wn_none rfl) rfl (fun w => zR Tryz.func103 rfl rfl rfl) (fun w h => lookT_ok a b mb [((4, 0), .int .u8 1), ((5, 0), .int .u8 1), ((3, 0), .int .u8 1)] (.int .u8 (sizeK a b : Nat)) w (h.at_ 0 rfl) (sizeK_l405030 a b)) ?_; refine zh (v := .int _ _) 10 rfl (by kernel_rfl) rfl rfl (fun w h => (h.drop (.cons _ (List.Sublist.refl _)))) (fun w h => R_assign rfl) ?_
                      refine zh (v := .bool _) 11 rfl (by kernel_rfl) rfl rfl (fun w h => (h.drop (.cons _ (List.Sublist.refl _)))) (fun w h => R_assign rfl) ?_; refine h_done (by kernel_rfl) (fun w h => (h.drop (.cons _ (List.Sublist.refl _)))) ?_; refine zk ?_; refine ze ?_; refine zb (zt (?_))
                      refine r_two (v := .int _ _) (v2 := .bool _) rfl rfl rfl rfl rfl ?_; exact fun w' hw => ⟨by first | (rw [call_real (by clear hw; simp only [List.mem_cons, List.not_mem_nil, or_false]; grind)]; rfl) | (subst_vars; first | (rw [call_sum]; rfl) | (rw [call_dot]; rfl) | (rw [call_size]; rfl)) | (rw [call_none (by clear hw; simp only [List.mem_cons, List.not_mem_nil, or_false]; grind) (by assumption) (by assumption) (by assumption)]; rfl), hw.fr _ (.head _)⟩
                  · refine o_insP 0 (s := (3, 0)) (v := .int .u8 1) rfl rfl unm136 ky104 rfl rfl rfl rfl ?_; refine h_two 2 6 (by kernel_rfl) (fun w h => (h.drop (.cons _ (List.Sublist.refl _)))) ?_ ?_
                    · refine o_insP 0 (s := (4, 0)) (v := .int .u8 1) rfl rfl unm136 ky104 rfl rfl rfl rfl ?_; refine h_one 6 (by kernel_rfl) (fun w h => (h.drop (.cons _ (List.Sublist.refl _)))) ?_; refine o_insP 0 (s := (5, 0)) (v := .int .u8 1) rfl rfl unm136 ky104 rfl rfl rfl rfl ?_; refine zh 7 rfl (by kernel_rfl) rfl rfl (fun w h => (h.drop (.cons _ (List.Sublist.refl _)))) (fun w h => R_move rfl) ?_; refine h_one 9 (by kernel_rfl) (fun w h => (h.drop (.cons _ (List.Sublist.refl _)))) ?_; refine o_pureW rfl (wn_none rfl) rfl (fun w => zR Tryz.func103 rfl rfl rfl) (fun w h => lookT_ok a b mb [((3, 0), .int .u8 1), ((4, 0), .int .u8 1), ((5, 0), .int .u8 1)] (.int .u8 (sizeK a b : Nat)) w (h.at_ 0 rfl) (sizeK_l304050 a b)) ?_; refine zh (v := .int _ _) 10 rfl (by kernel_rfl) rfl rfl (fun w h => (h.drop (.cons _ (List.Sublist.refl _)))) (fun w h => R_assign rfl) ?_
                      refine zh (v := .bool _) 11 rfl (by kernel_rfl) rfl rfl (fun w h => (h.drop (.cons _ (List.Sublist.refl _)))) (fun w h => R_assign rfl) ?_; refine h_done (by kernel_rfl) (fun w h => (h.drop (.cons _ (List.Sublist.refl _)))) ?_; refine zk ?_; refine ze ?_; refine zb (zt (?_))
                      refine r_two (v := .int _ _) (v2 := .bool _) rfl rfl rfl rfl rfl ?_; exact fun w' hw => ⟨by first | (rw [call_real (by clear hw; simp only [List.mem_cons, List.not_mem_nil, or_false]; grind)]; rfl) | (subst_vars; first | (rw [call_sum]; rfl) | (rw [call_dot]; rfl) | (rw [call_size]; rfl)) | (rw [call_none (by clear hw; simp only [List.mem_cons, List.not_mem_nil, or_false]; grind) (by assumption) (by assumption) (by assumption)]; rfl), hw.fr _ (.head _)⟩
                    · refine o_insP 0 (s := (5, 0)) (v := .int .u8 1) rfl rfl unm136 ky104 rfl rfl rfl rfl ?_; refine h_one 2 (by kernel_rfl) (fun w h => (h.drop (.cons _ (List.Sublist.refl _)))) ?_; refine o_insP 0 (s := (4, 0)) (v := .int .u8 1) rfl rfl unm136 ky104 rfl rfl rfl rfl ?_; refine zh 7 rfl (by kernel_rfl) rfl rfl (fun w h => (h.drop (.cons _ (List.Sublist.refl _)))) (fun w h => R_move rfl) ?_; refine h_one 9 (by kernel_rfl) (fun w h => (h.drop (.cons _ (List.Sublist.refl _)))) ?_; refine o_pureW rfl (wn_none rfl) rfl (fun w => zR Tryz.func103 rfl rfl rfl) (fun w h => lookT_ok a b mb [((3, 0), .int .u8 1), ((5, 0), .int .u8 1), ((4, 0), .int .u8 1)] (.int .u8 (sizeK a b : Nat)) w (h.at_ 0 rfl) (sizeK_l305040 a b)) ?_; refine zh (v := .int _ _) 10 rfl (by kernel_rfl) rfl rfl (fun w h => (h.drop (.cons _ (List.Sublist.refl _)))) (fun w h => R_assign rfl) ?_
                      refine zh (v := .bool _) 11 rfl (by kernel_rfl) rfl rfl (fun w h => (h.drop (.cons _ (List.Sublist.refl _)))) (fun w h => R_assign rfl) ?_; refine h_done (by kernel_rfl) (fun w h => (h.drop (.cons _ (List.Sublist.refl _)))) ?_; refine zk ?_; refine ze ?_; refine zb (zt (?_))
                      refine r_two (v := .int _ _) (v2 := .bool _) rfl rfl rfl rfl rfl ?_; exact fun w' hw => ⟨by first | (rw [call_real (by clear hw; simp only [List.mem_cons, List.not_mem_nil, or_false]; grind)]; rfl) | (subst_vars; first | (rw [call_sum]; rfl) | (rw [call_dot]; rfl) | (rw [call_size]; rfl)) | (rw [call_none (by clear hw; simp only [List.mem_cons, List.not_mem_nil, or_false]; grind) (by assumption) (by assumption) (by assumption)]; rfl), hw.fr _ (.head _)⟩
                  · refine o_insP 0 (s := (5, 0)) (v := .int .u8 1) rfl rfl unm136 ky104 rfl rfl rfl rfl ?_; refine h_two 2 4 (by kernel_rfl) (fun w h => (h.drop (.cons _ (List.Sublist.refl _)))) ?_ ?_
                    · refine o_insP 0 (s := (4, 0)) (v := .int .u8 1) rfl rfl unm136 ky104 rfl rfl rfl rfl ?_; refine h_one 4 (by kernel_rfl) (fun w h => (h.drop (.cons _ (List.Sublist.refl _)))) ?_; refine o_insP 0 (s := (3, 0)) (v := .int .u8 1) rfl rfl unm136 ky104 rfl rfl rfl rfl ?_; refine zh 7 rfl (by kernel_rfl) rfl rfl (fun w h => (h.drop (.cons _ (List.Sublist.refl _)))) (fun w h => R_move rfl) ?_; refine h_one 9 (by kernel_rfl) (fun w h => (h.drop (.cons _ (List.Sublist.refl _)))) ?_; refine o_pureW rfl (wn_none rfl) rfl (fun w => zR Tryz.func103 rfl rfl rfl) (fun w h => lookT_ok a b mb [((5, 0), .int .u8 1), ((4, 0), .int .u8 1), ((3, 0), .int .u8 1)] (.int .u8 (sizeK a b : Nat)) w (h.at_ 0 rfl) (sizeK_l504030 a b)) ?_; refine zh (v := .int _ _) 10 rfl (by kernel_rfl) rfl rfl (fun w h => (h.drop (.cons _ (List.Sublist.refl _)))) (fun w h => R_assign rfl) ?_
                      refine zh (v := .bool _) 11 rfl (by kernel_rfl) rfl rfl (fun w h => (h.drop (.cons _ (List.Sublist.refl _)))) (fun w h => R_assign rfl) ?_; refine h_done (by kernel_rfl) (fun w h => (h.drop (.cons _ (List.Sublist.refl _)))) ?_; refine zk ?_; refine ze ?_; refine zb (zt (?_))
                      refine r_two (v := .int _ _) (v2 := .bool _) rfl rfl rfl rfl rfl ?_; exact fun w' hw => ⟨by first | (rw [call_real (by clear hw; simp only [List.mem_cons, List.not_mem_nil, or_false]; grind)]; rfl) | (subst_vars; first | (rw [call_sum]; rfl) | (rw [call_dot]; rfl) | (rw [call_size]; rfl)) | (rw [call_none (by clear hw; simp only [List.mem_cons, List.not_mem_nil, or_false]; grind) (by assumption) (by assumption) (by assumption)]; rfl), hw.fr _ (.head _)⟩
                    · refine o_insP 0 (s := (3, 0)) (v := .int .u8 1) rfl rfl unm136 ky104 rfl rfl rfl rfl ?_; refine h_one 2 (by kernel_rfl) (fun w h => (h.drop (.cons _ (List.Sublist.refl _)))) ?_; refine o_insP 0 (s := (4, 0)) (v := .int .u8 1) rfl rfl unm136 ky104 rfl rfl rfl rfl ?_; refine zh 7 rfl (by kernel_rfl) rfl rfl (fun w h => (h.drop (.cons _ (List.Sublist.refl _)))) (fun w h => R_move rfl) ?_; refine h_one 9 (by kernel_rfl) (fun w h => (h.drop (.cons _ (List.Sublist.refl _)))) ?_; refine o_pureW rfl (wn_none rfl) rfl (fun w => zR Tryz.func103 rfl rfl rfl) (fun w h => lookT_ok a b mb [((5, 0), .int .u8 1), ((3, 0), .int .u8 1), ((4, 0), .int .u8 1)] (.int .u8 (sizeK a b : Nat)) w (h.at_ 0 rfl) (sizeK_l503040 a b)) ?_; refine zh (v := .int _ _) 10 rfl (by kernel_rfl) rfl rfl (fun w h => (h.drop (.cons _ (List.Sublist.refl _)))) (fun w h => R_assign rfl) ?_
                      refine zh (v := .bool _) 11 rfl (by kernel_rfl) rfl rfl (fun w h => (h.drop (.cons _ (List.Sublist.refl _)))) (fun w h => R_assign rfl) ?_; refine h_done (by kernel_rfl) (fun w h => (h.drop (.cons _ (List.Sublist.refl _)))) ?_; refine zk ?_; refine ze ?_; refine zb (zt (?_))
                      refine r_two (v := .int _ _) (v2 := .bool _) rfl rfl rfl rfl rfl ?_; exact fun w' hw => ⟨by first | (rw [call_real (by clear hw; simp only [List.mem_cons, List.not_mem_nil, or_false]; grind)]; rfl) | (subst_vars; first | (rw [call_sum]; rfl) | (rw [call_dot]; rfl) | (rw [call_size]; rfl)) | (rw [call_none (by clear hw; simp only [List.mem_cons, List.not_mem_nil, or_false]; grind) (by assumption) (by assumption) (by assumption)]; rfl), hw.fr _ (.head _)⟩
                · refine zi ?_; refine b_on (zk ?_); refine yA ?_; refine aI rfl ?_; refine aB rfl ?_; refine yB ?_; refine ze ?_; refine r_two (v := .int _ _) (v2 := .bool _) rfl rfl rfl rfl rfl ?_; exact fun w' hw => ⟨by first | (rw [call_real (by clear hw; simp only [List.mem_cons, List.not_mem_nil, or_false]; grind)]; rfl) | (subst_vars; first | (rw [call_sum]; rfl) | (rw [call_dot]; rfl) | (rw [call_size]; rfl)) | (rw [call_none (by clear hw; simp only [List.mem_cons, List.not_mem_nil, or_false]; grind) (by assumption) (by assumption) (by assumption)]; rfl), hw.fr _ (.head _)⟩

set_option maxRecDepth 100000 in
set_option maxHeartbeats 8000000 in
theorem joined_ok (op a b : Nat) (w : World) :
    Ret Tryz.prog 68 #[.int .u8 (op : Nat), pr a b] w (fun v w' => v = .int .u8 (twoK op a b : Nat) ∧ Ext w w') := by
  refine enter (S := No) (l := [_, _]) (L := []) 59 Tryz.func68 rfl rfl rfl (St.start w No) ?_; refine yA ?_; refine w_boxA rfl (fun tb gtb utb => ?_)
  refine aI rfl ?_; refine yB ?_; refine zq ?_; refine c_heldS mixed ?_; refine zh 0 rfl (by kernel_rfl) rfl rfl (fun w h => h) (fun w h => R_iaA ar104 (by decide) rfl rfl (by first | omega | decide | exact Nat.succ_pos _)) ?_; refine zh (v := .int _ _) 1 rfl (by kernel_rfl) rfl rfl (fun w h => h) (fun w h => R_ld1 z5 rfl ((fun _ h => zc 0 rfl rfl h) w h)) ?_; refine zh 2 rfl (by kernel_rfl) rfl rfl (fun w h => h) (fun w h => R_iaA (i := 1) ar104 (by decide) rfl rfl (by first | omega | decide | exact Nat.succ_pos _)) ?_; refine zh (v := .int _ _) 3 rfl (by kernel_rfl) rfl rfl (fun w h => h) (fun w h => R_ld1 z5 rfl ((fun _ h => zc 0 rfl rfl h) w h)) ?_; refine zh (v := .int _ _) 4 rfl (by kernel_rfl) rfl rfl (fun w h => h) (fun w h => R_assign rfl) ?_
  refine zh (v := .int _ _) 5 rfl (by kernel_rfl) rfl rfl (fun w h => h) (fun w h => R_assign rfl) ?_; refine h_done (by kernel_rfl) (fun w h => h) ?_; refine zk ?_; refine zq ?_; refine zB ?_; refine yA ?_; refine mI rfl ?_; refine zC (fun w => zR Tryz.func84 rfl rfl rfl) rfl rfl (fun w h => scalar_ok _ w) ?_; refine mB rfl ?_; refine zp (t := 14) rfl (fun h2 => ?_) (fun h2 => ?_)
  · refine zw rfl rfl (bV h2) ?_; refine mI rfl ?_; refine zw rfl rfl (bV h2) ?_; refine zC (fun w => zR Tryz.func84 rfl rfl rfl) rfl rfl (fun w h => scalar_ok _ w) ?_; refine w_r (v := .bool _) (fun _ => zT (bV h2) rfl) rfl rfl ?_; refine aB rfl ?_; refine yB ?_; refine c_cond rfl (fun h3 => ?_) (fun h3 => ?_)
    · refine zq ?_; refine yA ?_; refine mI rfl ?_; refine w_r (fun _ => R_ne rfl rfl) rfl rfl ?_; refine mB rfl ?_; refine zd (t := 20) rfl (fun h4 => ?_) (fun h4 => ?_)
      · refine zw rfl rfl (bT h4) ?_; refine mI rfl ?_; refine zw rfl rfl (bT h4) ?_; refine w_r (fun _ => R_eq rfl rfl) rfl rfl ?_; refine w_r (v := .bool _) (fun _ => zT (bT h4) rfl) rfl rfl ?_; refine mB rfl ?_; refine zd (t := 24) rfl (fun h5 => ?_) (fun h5 => ?_)
        · refine zw rfl rfl (bT h5) ?_; refine mI rfl ?_; refine zw rfl rfl (bT h5) ?_; refine w_r (fun _ => R_eq rfl rfl) rfl rfl ?_; refine w_r (v := .bool _) (fun _ => zT (bT h5) rfl) rfl rfl ?_; refine yB ?_; refine zD rfl (fun h6 => ?_) (fun h6 => ?_)
          · refine yA ?_; refine aI rfl ?_; refine yB ?_; refine ze ?_; refine zt (zb (zt (?_)))
            refine zo (v := .int _ _) rfl rfl rfl ?_; exact fun w' hw => ⟨congrArg (fun n : Nat => Value.int .u8 (n : Int)) (show _ = twoK op a b by clear hw; unfold twoK; grind), hw.fr _ (.head _)⟩
          · refine zi ?_; refine zk ?_; refine yA ?_; refine aI rfl ?_; refine yB ?_; refine ze ?_; refine zb (zt (?_))
            refine zo (v := .int _ _) rfl rfl rfl ?_; exact fun w' hw => ⟨congrArg (fun n : Nat => Value.int .u8 (n : Int)) (show _ = twoK op a b by clear hw; unfold twoK; grind), hw.fr _ (.head _)⟩
        · refine zs rfl rfl (bF h5) ?_; refine zs rfl rfl (bF h5) ?_; refine w_r (v := .bool _) (fun _ => zF (bF h5) rfl) rfl rfl ?_; refine yB ?_; refine c_condF rfl ?_; refine zi ?_; refine zk ?_; refine yA ?_; refine aI rfl ?_; refine yB ?_; refine ze ?_; refine zb (zt (?_))
          refine zo (v := .int _ _) rfl rfl rfl ?_; exact fun w' hw => ⟨congrArg (fun n : Nat => Value.int .u8 (n : Int)) (show _ = twoK op a b by clear hw; unfold twoK; grind), hw.fr _ (.head _)⟩
      · refine zs rfl rfl (bF h4) ?_; refine zs rfl rfl (bF h4) ?_; refine w_r (v := .bool _) (fun _ => zF (bF h4) rfl) rfl rfl ?_; refine mB rfl ?_; refine zs rfl rfl rfl ?_; refine zs rfl rfl rfl ?_; refine w_r (v := .bool _) (fun _ => zF rfl rfl) rfl rfl ?_; refine yB ?_; refine c_condF rfl ?_; refine zi ?_; refine zk ?_; refine yA ?_; refine aI rfl ?_; refine yB ?_; refine ze ?_; refine zb (zt (?_))
        refine zo (v := .int _ _) rfl rfl rfl ?_; exact fun w' hw => ⟨congrArg (fun n : Nat => Value.int .u8 (n : Int)) (show _ = twoK op a b by clear hw; unfold twoK; grind), hw.fr _ (.head _)⟩
    · refine yA ?_; refine mI rfl ?_; refine w_r (fun _ => R_eq rfl rfl) rfl rfl ?_; refine mB rfl ?_; refine zd (t := 31) rfl (fun h7 => ?_) (fun h7 => ?_)
      · refine zs rfl rfl (bT h7) ?_; refine zs rfl rfl (bT h7) ?_; refine w_r (v := .bool _) (fun _ => zT (bT h7) rfl) rfl rfl ?_; refine aB rfl ?_; refine yB ?_; refine zE rfl ?_; refine zq ?_; refine c_heldS mixed ?_; refine zh 1 rfl (by kernel_rfl) rfl rfl (fun w h => h) (fun w h => R_buildA ar104 zr104 rfl) ?_; refine h_loadA 4 rfl (by kernel_rfl) (fun w h => h) z104 rfl (fun _ h => h.at_ 0 rfl) rfl ?_; refine h_one 0 (by kernel_rfl) (fun w h => h) ?_; refine o_makeMapP rfl (fun mb gmb umb => ?_)
        refine h_one 2 (by kernel_rfl) (fun w h => (h.drop (.cons _ (List.Sublist.refl _)))) ?_; refine o_insP 0 (s := (3, 3)) (v := .int .u8 3) rfl rfl unm136 ky104 rfl rfl rfl rfl ?_; refine zh 3 rfl (by kernel_rfl) rfl rfl (fun w h => (h.drop (.cons _ (List.Sublist.refl _)))) (fun w h => R_move rfl) ?_; refine h_one 5 (by kernel_rfl) (fun w h => (h.drop (.cons _ (List.Sublist.refl _)))) ?_; refine o_pureW rfl (wn_none rfl) rfl (fun w => zR Tryz.func103 rfl rfl rfl) (fun w h => lookT_ok a b mb [((3, 3), .int .u8 3)] (.int .u8 (twoK op a b : Nat)) w (h.at_ 0 rfl) ((vecK_l33 a b).trans (congrArg (fun n : Nat => Value.int .u8 (n : Int)) (by clear h; unfold twoK vecK; grind)))) ?_; refine zh (v := .int _ _) 6 rfl (by kernel_rfl) rfl rfl (fun w h => (h.drop (.cons _ (List.Sublist.refl _)))) (fun w h => R_assign rfl) ?_
        refine h_done (by kernel_rfl) (fun w h => (h.drop (.cons _ (List.Sublist.refl _)))) ?_; refine zk ?_; refine ze ?_; refine zb (zt (?_))
        refine zo (v := .int _ _) rfl rfl rfl ?_; exact fun w' hw => ⟨congrArg (fun n : Nat => Value.int .u8 (n : Int)) (show _ = twoK op a b by clear hw; unfold twoK; grind), hw.fr _ (.head _)⟩
      · refine zw rfl rfl (bF h7) ?_; refine mI rfl ?_; refine zw rfl rfl (bF h7) ?_; refine w_r (fun _ => R_eq rfl rfl) rfl rfl ?_; refine w_r (v := .bool _) (fun _ => zF (bF h7) rfl) rfl rfl ?_; refine aB rfl ?_; refine yB ?_; refine zD rfl (fun h8 => ?_) (fun h8 => ?_)
        · refine zq ?_; refine c_heldS mixed ?_; refine zh 1 rfl (by kernel_rfl) rfl rfl (fun w h => h) (fun w h => R_buildA ar104 zr104 rfl) ?_; refine h_loadA 4 rfl (by kernel_rfl) (fun w h => h) z104 rfl (fun _ h => h.at_ 0 rfl) rfl ?_; refine h_one 0 (by kernel_rfl) (fun w h => h) ?_; refine o_makeMapP rfl (fun mb gmb umb => ?_)
          refine h_one 2 (by kernel_rfl) (fun w h => (h.drop (.cons _ (List.Sublist.refl _)))) ?_; refine o_insP 0 (s := (3, 3)) (v := .int .u8 3) rfl rfl unm136 ky104 rfl rfl rfl rfl ?_; refine zh 3 rfl (by kernel_rfl) rfl rfl (fun w h => (h.drop (.cons _ (List.Sublist.refl _)))) (fun w h => R_move rfl) ?_; refine h_one 5 (by kernel_rfl) (fun w h => (h.drop (.cons _ (List.Sublist.refl _)))) ?_; refine o_pureW rfl (wn_none rfl) rfl (fun w => zR Tryz.func103 rfl rfl rfl) (fun w h => lookT_ok a b mb [((3, 3), .int .u8 3)] (.int .u8 (twoK op a b : Nat)) w (h.at_ 0 rfl) ((vecK_l33 a b).trans (congrArg (fun n : Nat => Value.int .u8 (n : Int)) (by clear h; unfold twoK vecK; grind)))) ?_; refine zh (v := .int _ _) 6 rfl (by kernel_rfl) rfl rfl (fun w h => (h.drop (.cons _ (List.Sublist.refl _)))) (fun w h => R_assign rfl) ?_
          refine h_done (by kernel_rfl) (fun w h => (h.drop (.cons _ (List.Sublist.refl _)))) ?_; refine zk ?_; refine ze ?_; refine zb (zt (?_))
          refine zo (v := .int _ _) rfl rfl rfl ?_; exact fun w' hw => ⟨congrArg (fun n : Nat => Value.int .u8 (n : Int)) (show _ = twoK op a b by clear hw; unfold twoK; grind), hw.fr _ (.head _)⟩
        · refine yA ?_; refine mI rfl ?_; refine w_r (fun _ => R_eq rfl rfl) rfl rfl ?_; refine mB rfl ?_; refine zd (t := 43) rfl (fun h9 => ?_) (fun h9 => ?_)
          · refine zw rfl rfl (bT h9) ?_; refine mI rfl ?_; refine zw rfl rfl (bT h9) ?_; refine zC (fun w => zR Tryz.func84 rfl rfl rfl) rfl rfl (fun w h => scalar_ok _ w) ?_; refine w_r (v := .bool _) (fun _ => zT (bT h9) rfl) rfl rfl ?_; refine mB rfl ?_; refine zp (t := 47) rfl (fun h10 => ?_) (fun h10 => ?_)
            · refine zs rfl rfl (bV h10) ?_; refine zs rfl rfl (bV h10) ?_; refine zs rfl rfl (bV h10) ?_; refine zU rfl rfl rfl ?_; refine zU rfl rfl rfl ?_; refine zs rfl rfl (bV h10) ?_; refine zs rfl rfl (bV h10) ?_; refine zU rfl rfl rfl ?_; refine zU rfl rfl rfl ?_; refine zs rfl rfl (bV h10) ?_; refine w_r (v := .bool _) (fun _ => zT (bV h10) rfl) rfl rfl ?_; refine aB rfl ?_; refine yB ?_; refine zE rfl ?_; refine yA ?_; refine aI rfl ?_; refine yB ?_; refine ze ?_; refine zb (zt (?_))
              refine zo (v := .int _ _) rfl rfl rfl ?_; exact fun w' hw => ⟨congrArg (fun n : Nat => Value.int .u8 (n : Int)) (show _ = twoK op a b by clear hw; unfold twoK; grind), hw.fr _ (.head _)⟩
            · refine zw rfl rfl (bV h10) ?_; refine mI rfl ?_; refine zw rfl rfl (bV h10) ?_; refine w_r (fun _ => R_eq rfl rfl) rfl rfl ?_; refine zw rfl rfl (bV h10) ?_; refine mB rfl ?_; refine zd (t := 50) rfl (fun h11 => ?_) (fun h11 => ?_)
              · refine zw rfl rfl (bT h11) ?_; refine mI rfl ?_; refine zw rfl rfl (bT h11) ?_; refine zC (fun w => zR Tryz.func84 rfl rfl rfl) rfl rfl (fun w h => scalar_ok _ w) ?_; refine zw rfl rfl (bV h10) ?_; refine w_r (v := .bool _) (fun _ => zT (bT h11) rfl) rfl rfl ?_; refine zw rfl rfl (bV h10) ?_; refine mB rfl ?_; refine zp (t := 54) rfl (fun h12 => ?_) (fun h12 => ?_)
                · refine zw rfl rfl (bV h12) ?_; refine mI rfl ?_; refine zw rfl rfl (bV h12) ?_; refine w_r (fun _ => R_eq rfl rfl) rfl rfl ?_; refine zw rfl rfl (bV h10) ?_; refine w_r (v := .bool _) (fun _ => zT (bV h12) rfl) rfl rfl ?_; refine w_r (v := .bool _) (fun _ => zF (bV h10) rfl) rfl rfl ?_; refine aB rfl ?_; refine yB ?_; refine zD rfl (fun h13 => ?_) (fun h13 => ?_)
                  · refine yA ?_; refine aI rfl ?_; refine yB ?_; refine ze ?_; refine zb (zt (?_))
                    refine zo (v := .int _ _) rfl rfl rfl ?_; exact fun w' hw => ⟨congrArg (fun n : Nat => Value.int .u8 (n : Int)) (show _ = twoK op a b by clear hw; unfold twoK; grind), hw.fr _ (.head _)⟩
                  · refine zi ?_; refine b_on (zk ?_); refine yA ?_; refine aI rfl ?_; refine yB ?_; refine ze ?_; refine zo (v := .int _ _) rfl rfl rfl ?_; exact fun w' hw => ⟨congrArg (fun n : Nat => Value.int .u8 (n : Int)) (show _ = twoK op a b by clear hw; unfold twoK; grind), hw.fr _ (.head _)⟩
                · refine zs rfl rfl (bV h12) ?_; refine zs rfl rfl (bV h12) ?_; refine zw rfl rfl (bV h10) ?_; refine w_r (v := .bool _) (fun _ => zF (bV h12) rfl) rfl rfl ?_; refine w_r (v := .bool _) (fun _ => zF (bV h10) rfl) rfl rfl ?_; refine aB rfl ?_; refine yB ?_; refine c_condF rfl ?_; refine zi ?_; refine b_on (zk ?_); refine yA ?_; refine aI rfl ?_; refine yB ?_; refine ze ?_; refine zo (v := .int _ _) rfl rfl rfl ?_; exact fun w' hw => ⟨congrArg (fun n : Nat => Value.int .u8 (n : Int)) (show _ = twoK op a b by clear hw; unfold twoK; grind), hw.fr _ (.head _)⟩
              · refine zs rfl rfl (bF h11) ?_; refine zs rfl rfl (bF h11) ?_; refine zw rfl rfl (bV h10) ?_; refine w_r (v := .bool _) (fun _ => zF (bF h11) rfl) rfl rfl ?_; refine zw rfl rfl (bV h10) ?_; refine mB rfl ?_; refine zs rfl rfl rfl ?_; refine zs rfl rfl rfl ?_; refine zw rfl rfl (bV h10) ?_; refine w_r (v := .bool _) (fun _ => zF rfl rfl) rfl rfl ?_; refine w_r (v := .bool _) (fun _ => zF (bV h10) rfl) rfl rfl ?_; refine aB rfl ?_; refine yB ?_; refine c_condF rfl ?_; refine zi ?_; refine b_on (zk ?_); refine yA ?_; refine aI rfl ?_; refine yB ?_; refine ze ?_; refine zo (v := .int _ _) rfl rfl rfl ?_
                exact fun w' hw => ⟨congrArg (fun n : Nat => Value.int .u8 (n : Int)) (show _ = twoK op a b by clear hw; unfold twoK; grind), hw.fr _ (.head _)⟩
          · refine zs rfl rfl (bF h9) ?_; refine zs rfl rfl (bF h9) ?_; refine w_r (v := .bool _) (fun _ => zF (bF h9) rfl) rfl rfl ?_; refine mB rfl ?_; refine zw rfl rfl rfl ?_; refine mI rfl ?_; refine zw rfl rfl rfl ?_; refine w_r (fun _ => R_eq rfl rfl) rfl rfl ?_; refine zw rfl rfl rfl ?_; refine mB rfl ?_; refine zd (t := 50) rfl (fun h14 => ?_) (fun h14 => ?_)
            · refine zw rfl rfl (bT h14) ?_; refine mI rfl ?_; refine zw rfl rfl (bT h14) ?_; refine zC (fun w => zR Tryz.func84 rfl rfl rfl) rfl rfl (fun w h => scalar_ok _ w) ?_; refine zw rfl rfl rfl ?_; refine w_r (v := .bool _) (fun _ => zT (bT h14) rfl) rfl rfl ?_; refine zw rfl rfl rfl ?_; refine mB rfl ?_; refine zp (t := 54) rfl (fun h15 => ?_) (fun h15 => ?_)
              · refine zw rfl rfl (bV h15) ?_; refine mI rfl ?_; refine zw rfl rfl (bV h15) ?_; refine w_r (fun _ => R_eq rfl rfl) rfl rfl ?_; refine zw rfl rfl rfl ?_; refine w_r (v := .bool _) (fun _ => zT (bV h15) rfl) rfl rfl ?_; refine w_r (v := .bool _) (fun _ => zF rfl rfl) rfl rfl ?_; refine aB rfl ?_; refine yB ?_; refine zD rfl (fun h16 => ?_) (fun h16 => ?_)
                · refine yA ?_; refine aI rfl ?_; refine yB ?_; refine ze ?_; refine zb (zt (?_))
                  refine zo (v := .int _ _) rfl rfl rfl ?_; exact fun w' hw => ⟨congrArg (fun n : Nat => Value.int .u8 (n : Int)) (show _ = twoK op a b by clear hw; unfold twoK; grind), hw.fr _ (.head _)⟩
                · refine zi ?_; refine b_on (zk ?_); refine yA ?_; refine aI rfl ?_; refine yB ?_; refine ze ?_; refine zo (v := .int _ _) rfl rfl rfl ?_; exact fun w' hw => ⟨congrArg (fun n : Nat => Value.int .u8 (n : Int)) (show _ = twoK op a b by clear hw; unfold twoK; grind), hw.fr _ (.head _)⟩
              · refine zs rfl rfl (bV h15) ?_; refine zs rfl rfl (bV h15) ?_; refine zw rfl rfl rfl ?_; refine w_r (v := .bool _) (fun _ => zF (bV h15) rfl) rfl rfl ?_; refine w_r (v := .bool _) (fun _ => zF rfl rfl) rfl rfl ?_; refine aB rfl ?_; refine yB ?_; refine c_condF rfl ?_; refine zi ?_; refine b_on (zk ?_); refine yA ?_; refine aI rfl ?_; refine yB ?_; refine ze ?_; refine zo (v := .int _ _) rfl rfl rfl ?_; exact fun w' hw => ⟨congrArg (fun n : Nat => Value.int .u8 (n : Int)) (show _ = twoK op a b by clear hw; unfold twoK; grind), hw.fr _ (.head _)⟩
            · refine zs rfl rfl (bF h14) ?_; refine zs rfl rfl (bF h14) ?_; refine zw rfl rfl rfl ?_; refine w_r (v := .bool _) (fun _ => zF (bF h14) rfl) rfl rfl ?_; refine zw rfl rfl rfl ?_; refine mB rfl ?_; refine zs rfl rfl rfl ?_; refine zs rfl rfl rfl ?_; refine zw rfl rfl rfl ?_; refine w_r (v := .bool _) (fun _ => zF rfl rfl) rfl rfl ?_; refine w_r (v := .bool _) (fun _ => zF rfl rfl) rfl rfl ?_; refine aB rfl ?_; refine yB ?_; refine c_condF rfl ?_; refine zi ?_; refine b_on (zk ?_); refine yA ?_; refine aI rfl ?_; refine yB ?_; refine ze ?_; refine zo (v := .int _ _) rfl rfl rfl ?_
              exact fun w' hw => ⟨congrArg (fun n : Nat => Value.int .u8 (n : Int)) (show _ = twoK op a b by clear hw; unfold twoK; grind), hw.fr _ (.head _)⟩
  · refine zs rfl rfl (bV h2) ?_; refine zs rfl rfl (bV h2) ?_; refine w_r (v := .bool _) (fun _ => zF (bV h2) rfl) rfl rfl ?_; refine aB rfl ?_; refine yB ?_; refine c_condF rfl ?_; refine yA ?_; refine mI rfl ?_; refine w_r (fun _ => R_eq rfl rfl) rfl rfl ?_; refine mB rfl ?_; refine zd (t := 31) rfl (fun h17 => ?_) (fun h17 => ?_)
    · refine zs rfl rfl (bT h17) ?_; refine zs rfl rfl (bT h17) ?_; refine w_r (v := .bool _) (fun _ => zT (bT h17) rfl) rfl rfl ?_; refine aB rfl ?_; refine yB ?_; refine zE rfl ?_; refine zq ?_; refine c_heldS mixed ?_; refine zh 1 rfl (by kernel_rfl) rfl rfl (fun w h => h) (fun w h => R_buildA ar104 zr104 rfl) ?_; refine h_loadA 4 rfl (by kernel_rfl) (fun w h => h) z104 rfl (fun _ h => h.at_ 0 rfl) rfl ?_; refine h_one 0 (by kernel_rfl) (fun w h => h) ?_; refine o_makeMapP rfl (fun mb gmb umb => ?_)
      refine h_one 2 (by kernel_rfl) (fun w h => (h.drop (.cons _ (List.Sublist.refl _)))) ?_; refine o_insP 0 (s := (3, 3)) (v := .int .u8 3) rfl rfl unm136 ky104 rfl rfl rfl rfl ?_; refine zh 3 rfl (by kernel_rfl) rfl rfl (fun w h => (h.drop (.cons _ (List.Sublist.refl _)))) (fun w h => R_move rfl) ?_; refine h_one 5 (by kernel_rfl) (fun w h => (h.drop (.cons _ (List.Sublist.refl _)))) ?_; refine o_pureW rfl (wn_none rfl) rfl (fun w => zR Tryz.func103 rfl rfl rfl) (fun w h => lookT_ok a b mb [((3, 3), .int .u8 3)] (.int .u8 (twoK op a b : Nat)) w (h.at_ 0 rfl) ((vecK_l33 a b).trans (congrArg (fun n : Nat => Value.int .u8 (n : Int)) (by clear h; unfold twoK vecK; grind)))) ?_; refine zh (v := .int _ _) 6 rfl (by kernel_rfl) rfl rfl (fun w h => (h.drop (.cons _ (List.Sublist.refl _)))) (fun w h => R_assign rfl) ?_
      refine h_done (by kernel_rfl) (fun w h => (h.drop (.cons _ (List.Sublist.refl _)))) ?_; refine zk ?_; refine ze ?_; refine zb (zt (?_))
      refine zo (v := .int _ _) rfl rfl rfl ?_; exact fun w' hw => ⟨congrArg (fun n : Nat => Value.int .u8 (n : Int)) (show _ = twoK op a b by clear hw; unfold twoK; grind), hw.fr _ (.head _)⟩
    · refine zw rfl rfl (bF h17) ?_; refine mI rfl ?_; refine zw rfl rfl (bF h17) ?_; refine w_r (fun _ => R_eq rfl rfl) rfl rfl ?_; refine w_r (v := .bool _) (fun _ => zF (bF h17) rfl) rfl rfl ?_; refine aB rfl ?_; refine yB ?_; refine zD rfl (fun h18 => ?_) (fun h18 => ?_)
      · refine zq ?_; refine c_heldS mixed ?_; refine zh 1 rfl (by kernel_rfl) rfl rfl (fun w h => h) (fun w h => R_buildA ar104 zr104 rfl) ?_; refine h_loadA 4 rfl (by kernel_rfl) (fun w h => h) z104 rfl (fun _ h => h.at_ 0 rfl) rfl ?_; refine h_one 0 (by kernel_rfl) (fun w h => h) ?_; refine o_makeMapP rfl (fun mb gmb umb => ?_)
        refine h_one 2 (by kernel_rfl) (fun w h => (h.drop (.cons _ (List.Sublist.refl _)))) ?_; refine o_insP 0 (s := (3, 3)) (v := .int .u8 3) rfl rfl unm136 ky104 rfl rfl rfl rfl ?_; refine zh 3 rfl (by kernel_rfl) rfl rfl (fun w h => (h.drop (.cons _ (List.Sublist.refl _)))) (fun w h => R_move rfl) ?_; refine h_one 5 (by kernel_rfl) (fun w h => (h.drop (.cons _ (List.Sublist.refl _)))) ?_; refine o_pureW rfl (wn_none rfl) rfl (fun w => zR Tryz.func103 rfl rfl rfl) (fun w h => lookT_ok a b mb [((3, 3), .int .u8 3)] (.int .u8 (twoK op a b : Nat)) w (h.at_ 0 rfl) ((vecK_l33 a b).trans (congrArg (fun n : Nat => Value.int .u8 (n : Int)) (by clear h; unfold twoK vecK; grind)))) ?_; refine zh (v := .int _ _) 6 rfl (by kernel_rfl) rfl rfl (fun w h => (h.drop (.cons _ (List.Sublist.refl _)))) (fun w h => R_assign rfl) ?_
        refine h_done (by kernel_rfl) (fun w h => (h.drop (.cons _ (List.Sublist.refl _)))) ?_; refine zk ?_; refine ze ?_; refine zb (zt (?_))
        refine zo (v := .int _ _) rfl rfl rfl ?_; exact fun w' hw => ⟨congrArg (fun n : Nat => Value.int .u8 (n : Int)) (show _ = twoK op a b by clear hw; unfold twoK; grind), hw.fr _ (.head _)⟩
      · refine yA ?_; refine mI rfl ?_; refine w_r (fun _ => R_eq rfl rfl) rfl rfl ?_; refine mB rfl ?_; refine zd (t := 43) rfl (fun h19 => ?_) (fun h19 => ?_)
        · refine zw rfl rfl (bT h19) ?_; refine mI rfl ?_; refine zw rfl rfl (bT h19) ?_; refine zC (fun w => zR Tryz.func84 rfl rfl rfl) rfl rfl (fun w h => scalar_ok _ w) ?_; refine w_r (v := .bool _) (fun _ => zT (bT h19) rfl) rfl rfl ?_; refine mB rfl ?_; refine zp (t := 47) rfl (fun h20 => ?_) (fun h20 => ?_)
          · refine zs rfl rfl (bV h20) ?_; refine zs rfl rfl (bV h20) ?_; refine zs rfl rfl (bV h20) ?_; refine zU rfl rfl rfl ?_; refine zU rfl rfl rfl ?_; refine zs rfl rfl (bV h20) ?_; refine zs rfl rfl (bV h20) ?_; refine zU rfl rfl rfl ?_; refine zU rfl rfl rfl ?_; refine zs rfl rfl (bV h20) ?_; refine w_r (v := .bool _) (fun _ => zT (bV h20) rfl) rfl rfl ?_; refine aB rfl ?_; refine yB ?_; refine zE rfl ?_; refine yA ?_; refine aI rfl ?_; refine yB ?_; refine ze ?_; refine zb (zt (?_))
            refine zo (v := .int _ _) rfl rfl rfl ?_; exact fun w' hw => ⟨congrArg (fun n : Nat => Value.int .u8 (n : Int)) (show _ = twoK op a b by clear hw; unfold twoK; grind), hw.fr _ (.head _)⟩
          · refine zw rfl rfl (bV h20) ?_; refine mI rfl ?_; refine zw rfl rfl (bV h20) ?_; refine w_r (fun _ => R_eq rfl rfl) rfl rfl ?_; refine zw rfl rfl (bV h20) ?_; refine mB rfl ?_; refine zd (t := 50) rfl (fun h21 => ?_) (fun h21 => ?_)
            · refine zw rfl rfl (bT h21) ?_; refine mI rfl ?_; refine zw rfl rfl (bT h21) ?_; refine zC (fun w => zR Tryz.func84 rfl rfl rfl) rfl rfl (fun w h => scalar_ok _ w) ?_; refine zw rfl rfl (bV h20) ?_; refine w_r (v := .bool _) (fun _ => zT (bT h21) rfl) rfl rfl ?_; refine zw rfl rfl (bV h20) ?_; refine mB rfl ?_; refine zp (t := 54) rfl (fun h22 => ?_) (fun h22 => ?_)
              · refine zw rfl rfl (bV h22) ?_; refine mI rfl ?_; refine zw rfl rfl (bV h22) ?_; refine w_r (fun _ => R_eq rfl rfl) rfl rfl ?_; refine zw rfl rfl (bV h20) ?_; refine w_r (v := .bool _) (fun _ => zT (bV h22) rfl) rfl rfl ?_; refine w_r (v := .bool _) (fun _ => zF (bV h20) rfl) rfl rfl ?_; refine aB rfl ?_; refine yB ?_; refine zD rfl (fun h23 => ?_) (fun h23 => ?_)
                · refine yA ?_; refine aI rfl ?_; refine yB ?_; refine ze ?_; refine zb (zt (?_))
                  refine zo (v := .int _ _) rfl rfl rfl ?_; exact fun w' hw => ⟨congrArg (fun n : Nat => Value.int .u8 (n : Int)) (show _ = twoK op a b by clear hw; unfold twoK; grind), hw.fr _ (.head _)⟩
                · refine zi ?_; refine b_on (zk ?_); refine yA ?_; refine aI rfl ?_; refine yB ?_; refine ze ?_; refine zo (v := .int _ _) rfl rfl rfl ?_; exact fun w' hw => ⟨congrArg (fun n : Nat => Value.int .u8 (n : Int)) (show _ = twoK op a b by clear hw; unfold twoK; grind), hw.fr _ (.head _)⟩
              · refine zs rfl rfl (bV h22) ?_; refine zs rfl rfl (bV h22) ?_; refine zw rfl rfl (bV h20) ?_; refine w_r (v := .bool _) (fun _ => zF (bV h22) rfl) rfl rfl ?_; refine w_r (v := .bool _) (fun _ => zF (bV h20) rfl) rfl rfl ?_; refine aB rfl ?_; refine yB ?_; refine c_condF rfl ?_; refine zi ?_; refine b_on (zk ?_); refine yA ?_; refine aI rfl ?_; refine yB ?_; refine ze ?_; refine zo (v := .int _ _) rfl rfl rfl ?_; exact fun w' hw => ⟨congrArg (fun n : Nat => Value.int .u8 (n : Int)) (show _ = twoK op a b by clear hw; unfold twoK; grind), hw.fr _ (.head _)⟩
            · refine zs rfl rfl (bF h21) ?_; refine zs rfl rfl (bF h21) ?_; refine zw rfl rfl (bV h20) ?_; refine w_r (v := .bool _) (fun _ => zF (bF h21) rfl) rfl rfl ?_; refine zw rfl rfl (bV h20) ?_; refine mB rfl ?_; refine zs rfl rfl rfl ?_; refine zs rfl rfl rfl ?_; refine zw rfl rfl (bV h20) ?_; refine w_r (v := .bool _) (fun _ => zF rfl rfl) rfl rfl ?_; refine w_r (v := .bool _) (fun _ => zF (bV h20) rfl) rfl rfl ?_; refine aB rfl ?_; refine yB ?_; refine c_condF rfl ?_; refine zi ?_; refine b_on (zk ?_); refine yA ?_; refine aI rfl ?_; refine yB ?_; refine ze ?_; refine zo (v := .int _ _) rfl rfl rfl ?_
              exact fun w' hw => ⟨congrArg (fun n : Nat => Value.int .u8 (n : Int)) (show _ = twoK op a b by clear hw; unfold twoK; grind), hw.fr _ (.head _)⟩
        · refine zs rfl rfl (bF h19) ?_; refine zs rfl rfl (bF h19) ?_; refine w_r (v := .bool _) (fun _ => zF (bF h19) rfl) rfl rfl ?_; refine mB rfl ?_; refine zw rfl rfl rfl ?_; refine mI rfl ?_; refine zw rfl rfl rfl ?_; refine w_r (fun _ => R_eq rfl rfl) rfl rfl ?_; refine zw rfl rfl rfl ?_; refine mB rfl ?_; refine zd (t := 50) rfl (fun h24 => ?_) (fun h24 => ?_)
          · refine zw rfl rfl (bT h24) ?_; refine mI rfl ?_; refine zw rfl rfl (bT h24) ?_; refine zC (fun w => zR Tryz.func84 rfl rfl rfl) rfl rfl (fun w h => scalar_ok _ w) ?_; refine zw rfl rfl rfl ?_; refine w_r (v := .bool _) (fun _ => zT (bT h24) rfl) rfl rfl ?_; refine zw rfl rfl rfl ?_; refine mB rfl ?_; refine zp (t := 54) rfl (fun h25 => ?_) (fun h25 => ?_)
            · refine zw rfl rfl (bV h25) ?_; refine mI rfl ?_; refine zw rfl rfl (bV h25) ?_; refine w_r (fun _ => R_eq rfl rfl) rfl rfl ?_; refine zw rfl rfl rfl ?_; refine w_r (v := .bool _) (fun _ => zT (bV h25) rfl) rfl rfl ?_; refine w_r (v := .bool _) (fun _ => zF rfl rfl) rfl rfl ?_; refine aB rfl ?_; refine yB ?_; refine zD rfl (fun h26 => ?_) (fun h26 => ?_)
              · refine yA ?_; refine aI rfl ?_; refine yB ?_; refine ze ?_; refine zb (zt (?_))
                refine zo (v := .int _ _) rfl rfl rfl ?_; exact fun w' hw => ⟨congrArg (fun n : Nat => Value.int .u8 (n : Int)) (show _ = twoK op a b by clear hw; unfold twoK; grind), hw.fr _ (.head _)⟩
              · refine zi ?_; refine b_on (zk ?_); refine yA ?_; refine aI rfl ?_; refine yB ?_; refine ze ?_; refine zo (v := .int _ _) rfl rfl rfl ?_; exact fun w' hw => ⟨congrArg (fun n : Nat => Value.int .u8 (n : Int)) (show _ = twoK op a b by clear hw; unfold twoK; grind), hw.fr _ (.head _)⟩
            · refine zs rfl rfl (bV h25) ?_; refine zs rfl rfl (bV h25) ?_; refine zw rfl rfl rfl ?_; refine w_r (v := .bool _) (fun _ => zF (bV h25) rfl) rfl rfl ?_; refine w_r (v := .bool _) (fun _ => zF rfl rfl) rfl rfl ?_; refine aB rfl ?_; refine yB ?_; refine c_condF rfl ?_; refine zi ?_; refine b_on (zk ?_); refine yA ?_; refine aI rfl ?_; refine yB ?_; refine ze ?_; refine zo (v := .int _ _) rfl rfl rfl ?_; exact fun w' hw => ⟨congrArg (fun n : Nat => Value.int .u8 (n : Int)) (show _ = twoK op a b by clear hw; unfold twoK; grind), hw.fr _ (.head _)⟩
          · refine zs rfl rfl (bF h24) ?_; refine zs rfl rfl (bF h24) ?_; refine zw rfl rfl rfl ?_; refine w_r (v := .bool _) (fun _ => zF (bF h24) rfl) rfl rfl ?_; refine zw rfl rfl rfl ?_; refine mB rfl ?_; refine zs rfl rfl rfl ?_; refine zs rfl rfl rfl ?_; refine zw rfl rfl rfl ?_; refine w_r (v := .bool _) (fun _ => zF rfl rfl) rfl rfl ?_; refine w_r (v := .bool _) (fun _ => zF rfl rfl) rfl rfl ?_; refine aB rfl ?_; refine yB ?_; refine c_condF rfl ?_; refine zi ?_; refine b_on (zk ?_); refine yA ?_; refine aI rfl ?_; refine yB ?_; refine ze ?_; refine zo (v := .int _ _) rfl rfl rfl ?_
            exact fun w' hw => ⟨congrArg (fun n : Nat => Value.int .u8 (n : Int)) (show _ = twoK op a b by clear hw; unfold twoK; grind), hw.fr _ (.head _)⟩

abbrev distC (d : Option (Nat × Nat × Bool)) : List Value := [.int .i64 ((d.map (·.1)).getD 0 : Nat), .int .i64 ((d.map (·.2.1)).getD 0 : Nat), .bool ((d.map (·.2.2)).getD false)]
def distL : List (Str × Value) := [([110, 111, 114, 109, 97, 108], .agg #[.int .i64 2, .int .i64 0, .bool false]), ([99, 97, 117, 99, 104, 121], .agg #[.int .i64 2, .int .i64 0, .bool false]), ([117, 110, 105, 102, 111, 114, 109], .agg #[.int .i64 2, .int .i64 0, .bool false]), ([108, 111, 103, 110, 111, 114, 109, 97, 108], .agg #[.int .i64 2, .int .i64 0, .bool false]), ([103, 97, 109, 109, 97], .agg #[.int .i64 2, .int .i64 1, .bool false]), ([98, 101, 116, 97], .agg #[.int .i64 2, .int .i64 2, .bool false]), ([101, 120, 112, 111, 110, 101, 110, 116, 105, 97, 108], .agg #[.int .i64 1, .int .i64 0, .bool false]), ([98, 101, 114, 110, 111, 117, 108, 108, 105], .agg #[.int .i64 1, .int .i64 0, .bool true]), ([98, 101, 114, 110, 111, 117, 108, 108, 105, 95, 108, 111, 103, 105, 116], .agg #[.int .i64 1, .int .i64 0, .bool true]), ([112, 111, 105, 115, 115, 111, 110], .agg #[.int .i64 1, .int .i64 0, .bool true]), ([112, 111, 105, 115, 115, 111, 110, 95, 108, 111, 103], .agg #[.int .i64 1, .int .i64 0, .bool true])]
theorem dist_look (s : Str) : (Value.tuple #[(distL.lookup s).getD (.agg #[.int .i64 0, .int .i64 0, .bool false]), .bool (distL.lookup s).isSome]) = .tuple #[.agg (distC (distK s)).toArray, .bool (distK s).isSome] := by
  unfold distL
  by_cases h0 : s = [110, 111, 114, 109, 97, 108]
  · subst h0; rfl
  by_cases h1 : s = [99, 97, 117, 99, 104, 121]
  · subst h1; rfl
  by_cases h2 : s = [117, 110, 105, 102, 111, 114, 109]
  · subst h2; rfl
  by_cases h3 : s = [108, 111, 103, 110, 111, 114, 109, 97, 108]
  · subst h3; rfl
  by_cases h4 : s = [103, 97, 109, 109, 97]
  · subst h4; rfl
  by_cases h5 : s = [98, 101, 116, 97]
  · subst h5; rfl
  by_cases h6 : s = [101, 120, 112, 111, 110, 101, 110, 116, 105, 97, 108]
  · subst h6; rfl
  by_cases h7 : s = [98, 101, 114, 110, 111, 117, 108, 108, 105]
  · subst h7; rfl
  by_cases h8 : s = [98, 101, 114, 110, 111, 117, 108, 108, 105, 95, 108, 111, 103, 105, 116]
  · subst h8; rfl
  by_cases h9 : s = [112, 111, 105, 115, 115, 111, 110]
  · subst h9; rfl
  by_cases h10 : s = [112, 111, 105, 115, 115, 111, 110, 95, 108, 111, 103]
  · subst h10; rfl
  all_goals
    have q : ∀ k : Str, ¬ s = k → (s == k) = false := fun k h => by simpa using h
    have e : distK s = none := by unfold distK; simp only [List.mem_cons, List.not_mem_nil, or_false]; rw [if_neg (by grind), if_neg (by assumption), if_neg (by assumption), if_neg (by assumption), if_neg (by grind)]
    rw [e]
    simp only [List.lookup]
    rw [q _ h0, q _ h1, q _ h2, q _ h3, q _ h4, q _ h5, q _ h6, q _ h7, q _ h8, q _ h9, q _ h10]
    rfl

set_option maxRecDepth 100000 in
set_option maxHeartbeats 4000000 in
theorem dists_ok (s : Str) (w : World) :
    Ret Tryz.prog 25 #[str s] w (fun v w' => v = .tuple #[.agg (distC (distK s)).toArray, .bool (distK s).isSome] ∧ Ext w w') := by
  refine enter (S := No) (l := [_]) (L := []) 26 Tryz.func25 rfl rfl rfl (St.start w No) ?_; refine yA ?_; refine w_alloc zr66 (fun t2b gt2b ut2b => ?_)
  refine aB rfl ?_; refine yC ?_; refine w_makeMapS (fun mb gmb umb => ?_)
  refine w_r (fun _ => R_build bt66 rfl) rfl rfl ?_; refine w_insS 0 rfl unm88 unk9 rfl rfl rfl rfl ?_; refine w_r (fun _ => R_build bt66 rfl) rfl rfl ?_; refine w_insS 0 rfl unm88 unk9 rfl rfl rfl rfl ?_; refine w_r (fun _ => R_build bt66 rfl) rfl rfl ?_; refine w_insS 0 rfl unm88 unk9 rfl rfl rfl rfl ?_; refine w_r (fun _ => R_build bt66 rfl) rfl rfl ?_; refine w_insS 0 rfl unm88 unk9 rfl rfl rfl rfl ?_; refine w_r (fun _ => R_build bt66 rfl) rfl rfl ?_; refine w_insS 0 rfl unm88 unk9 rfl rfl rfl rfl ?_; refine w_r (fun _ => R_build bt66 rfl) rfl rfl ?_; refine w_insS 0 rfl unm88 unk9 rfl rfl rfl rfl ?_; refine w_r (fun _ => R_build bt66 rfl) rfl rfl ?_; refine w_insS 0 rfl unm88 unk9 rfl rfl rfl rfl ?_; refine w_r (fun _ => R_build bt66 rfl) rfl rfl ?_; refine w_insS 0 rfl unm88 unk9 rfl rfl rfl rfl ?_
  refine w_r (fun _ => R_build bt66 rfl) rfl rfl ?_; refine w_insS 0 rfl unm88 unk9 rfl rfl rfl rfl ?_; refine w_r (fun _ => R_build bt66 rfl) rfl rfl ?_; refine w_insS 0 rfl unm88 unk9 rfl rfl rfl rfl ?_; refine w_r (fun _ => R_build bt66 rfl) rfl rfl ?_; refine w_insS 0 rfl unm88 unk9 rfl rfl rfl rfl ?_; refine zm rfl ?_; refine zm (v := str _) rfl ?_; refine w_lookS2 (l := distL) 0 rfl unm88 unk9 zr66 rfl rfl (dist_look s) ?_; refine zm rfl ?_; refine w_r (fun _ => R_extract rfl rfl) rfl rfl ?_; refine w_r (fun _ => R_extract rfl rfl) rfl rfl ?_; refine w_alloc zr66 (fun b2 gb2 ub2 => ?_)
  refine w_store 0 rfl z66 rfl rfl rfl rfl rfl rfl rfl ?_; refine aB rfl ?_; refine yC ?_; refine w_loadA z66 rfl (fun _ h => h.at_ 0 rfl) rfl ?_; refine mB rfl ?_; refine w_store 2 rfl z66 rfl rfl rfl rfl rfl rfl rfl ?_; refine aB rfl ?_; refine yB ?_; refine ze ?_; refine r_fin (.inl rfl) rfl (.agg rfl rfl z66 (fun _ h => h.at_ 2 rfl) rfl (.tmp rfl rfl .nil)) ?_; exact fun w' hw => ⟨rfl, hw.fr _ (.head _)⟩

set_option maxRecDepth 100000 in
set_option maxHeartbeats 400000 in
theorem Discrete_ok (s : Str) (w : World) :
    Ret Tryz.prog 10 #[str s] w (fun v w' => v = .tuple #[.int .i64 (((distK s).map (·.1)).getD 0 : Nat), .bool (((distK s).map (·.2.2)).getD false), .bool (distK s).isSome] ∧ Ext w w') := by
  refine enter (S := No) (l := [_]) (L := []) 16 Tryz.func10 rfl rfl rfl (St.start w No) ?_; refine yA ?_; refine aI rfl ?_; refine aB rfl ?_; refine aB rfl ?_; refine yC ?_; refine zm (v := str _) rfl ?_; refine zC (fun w => zR Tryz.func25 rfl rfl rfl) rfl rfl (fun w h => dists_ok _ w) ?_; refine zm rfl ?_; refine w_r (fun _ => R_extract rfl rfl) rfl rfl ?_; refine w_r (fun _ => R_extract rfl rfl) rfl rfl ?_; refine w_alloc zr66 (fun t5b gt5b ut5b => ?_)
  refine w_store 0 rfl z66 rfl rfl rfl rfl rfl rfl rfl ?_; refine aB rfl ?_; refine yB ?_; refine zq ?_; refine c_heldS mixed ?_; refine zh 0 rfl (by kernel_rfl) rfl rfl (fun w h => h) (fun w h => R_fa fa66_0 rfl) ?_; refine zh (v := .int _ _) 1 rfl (by kernel_rfl) rfl rfl (fun w h => h) (fun w h => R_ld1 z3 rfl ((fun _ h => zc 0 rfl rfl h) w h)) ?_; refine zh 2 rfl (by kernel_rfl) rfl rfl (fun w h => h) (fun w h => R_fa fa66_2 rfl) ?_; refine zh (v := .bool _) 3 rfl (by kernel_rfl) rfl rfl (fun w h => h) (fun w h => R_ld1 z4 rfl ((fun _ h => zc 0 rfl rfl h) w h)) ?_; refine zh (v := .bool _) 4 rfl (by kernel_rfl) rfl rfl (fun w h => h) (fun w h => R_move rfl) ?_; refine zh (v := .int _ _) 5 rfl (by kernel_rfl) rfl rfl (fun w h => h) (fun w h => R_assign rfl) ?_
  refine zh (v := .bool _) 6 rfl (by kernel_rfl) rfl rfl (fun w h => h) (fun w h => R_assign rfl) ?_; refine zh (v := .bool _) 7 rfl (by kernel_rfl) rfl rfl (fun w h => h) (fun w h => R_assign rfl) ?_; refine h_done (by kernel_rfl) (fun w h => h) ?_; refine zk ?_; refine ze ?_; refine r_fin (.inl rfl) rfl (.tmp rfl rfl (.tmp rfl rfl (.tmp rfl rfl .nil))) ?_; exact fun w' hw => ⟨rfl, hw.fr _ (.head _)⟩

set_option maxRecDepth 100000 in
set_option maxHeartbeats 400000 in
theorem idxW_ok (xs : List Str) (nm : Str) (sb : Nat) (w : World) (hx : xs.length ≤ 1000) (hb : w.heap[sb]? = some (cel (xs.map str) 9)) :
    Ret Tryz.prog 142 #[.slice (some ⟨sb, 0, none⟩) xs.length xs.length, str nm] w (fun v w' => v = .int .i64 (firstI (fun x : Str => decide (nm = x)) xs) ∧ Ext w w') := by
  refine enter (S := No) (l := [_, _]) (L := []) 19 Tryz.func142 rfl rfl rfl (St.start w No) ?_; refine yA ?_; refine aI rfl ?_; refine yB ?_; refine zq ?_; refine yA ?_; refine mS rfl ?_; refine w_r (fun _ => R_len sl153 rfl) rfl rfl ?_; refine mI rfl ?_; refine yB ?_; refine zB ?_; refine c_loop (fun m e B L => ∃ (k : Nat), e 0 = .slice (some ⟨sb, 0, none⟩) xs.length xs.length ∧ e 1 = str nm ∧ e 7 = .int .i64 (xs.length : Nat) ∧ e 8 = .int .i64 (k : Nat) ∧ B = [(w, No)] ∧ L = [] ∧ k ≤ xs.length ∧ (∀ x ∈ xs.take k, decide (nm = x) = false) ∧ m = xs.length - k) _ ⟨0, rfl, rfl, rfl, rfl, rfl, rfl, Nat.zero_le _, (by simp), rfl⟩ ?_
  rintro m e B L ⟨k, e0_1, e1_1, e7_1, e8_1, rfl, rfl, hk, hy, rfl⟩
  refine yA ?_; refine w_r (fun _ => R_lt e8_1 e7_1) rfl rfl ?_; refine yB ?_; refine zq ?_; refine zD rfl (fun h1 => ?_) (fun h1 => ?_)
  · have hlt : k < xs.length := (by omega); obtain ⟨x, hxk⟩ : ∃ x, xs[k]? = some x := ⟨_, List.getElem?_eq_getElem hlt⟩; have hxm : (xs.map str)[0 + k * 1]? = some (str x) := (by rw [Nat.zero_add, Nat.mul_one, List.getElem?_map, hxk]; rfl)
    refine zi ?_; refine zk ?_; refine zq ?_; refine zB ?_; refine yA ?_; refine mI e8_1 ?_; refine aI rfl ?_; refine yC ?_; refine zm (v := str _) e1_1 ?_; refine mS e0_1 ?_; refine mI rfl ?_; refine w_r (fun _ => R_iaN (i := k) sl153 rfl rfl (by first | omega | decide | exact Nat.succ_pos _)) rfl rfl ?_; refine zl (v := str x) z9 rfl (fun w h => cel_oldb hb (.head _) id hxm h) ?_; refine w_r (fun _ => R_seq rfl rfl) rfl rfl ?_; refine yB ?_; refine zD rfl (fun h2 => ?_) (fun h2 => ?_)
    · refine yA ?_; refine mI rfl ?_; refine aI rfl ?_; refine yB ?_; refine ze ?_; refine zb (zt (zt (zb (zt (?_)))))
      refine zo (v := .int _ _) rfl rfl rfl ?_; exact fun w' hw => ⟨by rw [firstI_at hy hxk (decide_eq_true h2)], hw.fr _ (.head _)⟩
    · refine zi ?_; refine b_on (zk ?_); refine zr ?_; refine w_r (fun _ => R_addi e8_1 rfl (by omega)) rfl rfl ?_; refine mI rfl ?_; refine zn ?_; exact k_again _ (by omega) ⟨k + 1, e0_1, e1_1, e7_1, rfl, rfl, rfl, by omega, take_all hy hxk (decide_eq_false h2), rfl⟩
  · refine c_exit ?_; refine zx (zx (b_here rfl (zk ?_))); refine yA ?_; refine aI rfl ?_; refine yB ?_; refine ze ?_
    obtain rfl : k = xs.length := by omega
    rw [List.take_length] at hy
    refine zo (v := .int _ _) rfl rfl rfl ?_; exact fun w' hw => ⟨by rw [firstI_no hy], hw.fr _ (.head _)⟩

theorem any_mem (xs : List Str) (nm : Str) : (xs.any fun x : Str => decide (nm = x)) = decide (nm ∈ xs) := by
  rw [Bool.eq_iff_iff, List.any_eq_true, decide_eq_true_eq]
  exact ⟨fun ⟨x, h1, h2⟩ => by rw [of_decide_eq_true h2]; exact h1, fun h => ⟨nm, h, decide_eq_true rfl⟩⟩

set_option maxRecDepth 100000 in
set_option maxHeartbeats 400000 in
theorem hasW_ok (xs : List Str) (nm : Str) (sb : Nat) (w : World) (hx : xs.length ≤ 1000) (hb : w.heap[sb]? = some (cel (xs.map str) 9)) :
    Ret Tryz.prog 116 #[.slice (some ⟨sb, 0, none⟩) xs.length xs.length, str nm] w (fun v w' => v = .bool (decide (nm ∈ xs)) ∧ Ext w w') := by
  refine enter (S := No) (l := [_, _]) (L := []) 9 Tryz.func116 rfl rfl rfl (St.start w No) ?_; refine yA ?_; refine aB rfl ?_; refine yC ?_; refine mS rfl ?_; refine zm (v := str _) rfl ?_; refine zC (fun w => zR Tryz.func142 rfl rfl rfl) rfl rfl (fun w h => idxW_ok xs nm sb w hx (h.old hb (.head _) (fun x => x))) ?_; refine w_r (fun _ => R_ge rfl rfl) rfl rfl ?_; refine aB rfl ?_; refine yB ?_; refine ze ?_; refine zo (v := .bool _) rfl rfl rfl ?_; exact fun w' hw => ⟨by rw [← any_mem, ← firstI_ge], hw.fr _ (.head _)⟩

set_option maxRecDepth 100000 in
set_option maxHeartbeats 400000 in
theorem failK_ok (e : Nat) (at_ : Int) (w : World) :
    RetP Tryz.prog 63 #[.int .i64 (e : Nat), .int .i64 at_] w (fun _ _ => False) (fun ch w' => ch = panK (e, at_) ∧ Ext w w') := by
  refine enterP (S := No) (l := [_, _]) (L := []) 8 Tryz.func63 rfl rfl rfl (St.start w No) ?_; refine zr ?_; refine mI rfl ?_; refine mI rfl ?_; refine w_r (fun _ => R_build bt37 rfl) rfl rfl ?_; refine w_r (fun _ => R_mkI cn37 rfl) rfl rfl ?_; refine w_halt (fun w => R_panic rfl) rfl ?_; exact fun w' hw => p_out rfl ⟨rfl, hw.fr _ (.head _)⟩

set_option maxRecDepth 100000 in
set_option maxHeartbeats 400000 in
theorem need_ok (b : Bool) (at_ : Int) (w : World) :
    RetP Tryz.prog 65 #[.bool b, .int .i64 at_] w (NR b w) (NE panK b at_ w) := by
  refine enterP (S := No) (l := [_, _]) (L := []) 8 Tryz.func65 rfl rfl rfl (St.start w No) ?_; refine yA ?_; refine mB rfl ?_; refine w_r (fun _ => R_not rfl) rfl rfl ?_; refine yB ?_; refine c_condN rfl (fun h1 => ?_) (fun h1 => ?_)
  · refine zr ?_; refine mI rfl ?_; refine w_callP (R := fun _ _ _ => False) (E := fun w ch w' => ch = panK (152, at_) ∧ Ext w w') (fun w => zR Tryz.func63 rfl rfl rfl) rfl rfl (fun w h => failK_ok 152 at_ w) (fun w hw v w' h => h.elim) (fun w hw ch w' hh a ha => p_out ha ⟨h1, hh.1, (hw.fr _ (.head _)).ext hh.2⟩)
  · refine zi ?_; refine k_p (.inr rfl) ?_; refine r_none (.inr rfl) rfl ?_; exact fun w' hw => ⟨h1, rfl, hw.fr _ (.head _)⟩
end Go.Proofs.YtoehjlmdnajibaaGreatDoor
end

section
/- The plain part of layer kind: one expression's rule, step by step. -/
namespace Go.Knd
open Go.Tok Go.Tree
theorem needT_k (t : Nat) (a : Int) (p : Bool) : needT t a p = andK (needK (!decide (t = 0)) a) fun _ => .ok (t, p) := by
  unfold needT needK
  by_cases h : t = 0
  · rw [if_pos h, decide_eq_true h]; rfl
  · rw [if_neg h, decide_eq_false h]; rfl
section
variable {l : List Vr} {at_ : Int} {nm : Str} {ks : List Ex} {a b : Nat} {p : Bool}
theorem rule_1 : ruleK l 1 at_ nm ks a b p = andK (needK (!decide ((if digitsK nm = true then 1 else 2) = 0)) at_) fun _ => .ok (if digitsK nm = true then 1 else 2, p) := needT_k _ _ _
theorem rule_2n (h : findV l nm = none) : ruleK l 2 at_ nm ks a b p = .error (150, at_) := by unfold ruleK; rw [if_neg (by decide), if_pos rfl, h]
theorem rule_2s {v : Vr} (h : findV l nm = some v) : ruleK l 2 at_ nm ks a b p = .ok (v.ty, v.par) := by unfold ruleK; rw [if_neg (by decide), if_pos rfl, h]
theorem rule_3n (h : findV l nm = none) : ruleK l 3 at_ nm ks a b p = .error (150, at_) := by unfold ruleK; rw [if_neg (by decide), if_neg (by decide), if_pos rfl, h]
/-- the type of an element -/
def idxT (t : Nat) : Nat := if t = 4 then 1 else if t = 3 ∨ t = 5 then 2 else 0
theorem rule_3s {v : Vr} {k : Ex} (h : findV l nm = some v) : ruleK l 3 at_ nm [k] a b p = andK (needK (!decide (idxT v.ty = 0)) at_) fun _ => andK (countedK k (a, p)) fun _ => andK (needK (!decide (idxT v.ty = 0)) at_) fun _ => .ok (idxT v.ty, v.par) := by
  unfold ruleK
  rw [if_neg (by decide), if_neg (by decide), if_pos rfl, h]
  dsimp only
  by_cases h1 : v.ty = 3 ∨ v.ty = 4 ∨ v.ty = 5
  · have h2 : ¬ idxT v.ty = 0 := by unfold idxT; split <;> (try split) <;> omega
    have h3 : idxT v.ty = (if v.ty = 4 then 1 else 2) := by unfold idxT; split <;> (try split) <;> omega
    rw [if_neg (not_not_intro h1), decide_eq_false h2]
    show _ = andK (countedK k (a, p)) _
    unfold countedK
    dsimp only
    by_cases h4 : a = 1
    · rw [if_neg (not_not_intro h4), decide_eq_true h4]
      by_cases h5 : p = true
      · rw [if_pos h5]; show _ = andK (andK (needK true k.at_) _) _; rw [h5]; rfl
      · rw [if_neg h5, needT_k, ← h3, decide_eq_false h2]
        have h6 : p = false := by simpa using h5
        rw [h6]; rfl
    · rw [if_pos h4, decide_eq_false h4]; rfl
  · have h2 : idxT v.ty = 0 := by unfold idxT; split <;> (try split) <;> omega
    rw [if_pos h1, decide_eq_true h2]; rfl
theorem rule_4n (h : callK nm a b = none) : ruleK l 4 at_ nm ks a b p = .error (150, at_) := by unfold ruleK; rw [if_neg (by decide), if_neg (by decide), if_neg (by decide), if_pos rfl, h]
theorem rule_4s {t : Nat} (h : callK nm a b = some t) : ruleK l 4 at_ nm ks a b p = andK (needK (decide (ks.length = if nm = [100, 111, 116] then 2 else 1)) at_) fun _ => andK (needK (!decide (t = 0)) at_) fun _ => .ok (t, p && !decide (nm = [115, 105, 122, 101])) := by
  unfold ruleK
  rw [if_neg (by decide), if_neg (by decide), if_neg (by decide), if_pos rfl, h]
  dsimp only
  by_cases h1 : ks.length = (if nm = [100, 111, 116] then 2 else 1)
  · rw [if_neg (not_not_intro h1), decide_eq_true h1, needT_k]; rfl
  · rw [if_pos h1, decide_eq_false h1]; rfl
theorem rule_5 : ruleK l 5 at_ nm ks a b p = andK (needK (!decide ((if a ≤ 3 then a else 0) = 0)) at_) fun _ => .ok (if a ≤ 3 then a else 0, p) := needT_k _ _ _
theorem rule_6 {op : Nat} (h : op = 6 ∨ op = 7 ∨ op = 8 ∨ op = 9) : ruleK l op at_ nm ks a b p = andK (needK (!decide (twoK op a b = 0)) at_) fun _ => .ok (twoK op a b, p) := by
  unfold ruleK
  rw [if_neg (by omega), if_neg (by omega), if_neg (by omega), if_neg (by omega), if_neg (by omega), needT_k]
end
theorem op_ok9 {op n : Nat} {nm : Str} (h : ruleOk op nm n = true) : op = 1 ∨ op = 2 ∨ op = 3 ∨ op = 4 ∨ op = 5 ∨ (op = 6 ∨ op = 7 ∨ op = 8 ∨ op = 9) := by
  unfold ruleOk at h
  split at h <;> first | omega | (exact absurd h (by decide))
theorem rule3_len {nm : Str} {n : Nat} (h : ruleOk 3 nm n = true) : n = 1 := by
  simp only [ruleOk, Bool.and_eq_true, decide_eq_true_eq] at h; exact h.1
end Go.Knd
end
