/- Layer 5, DyadRounds: at every two small dyadic numbers and every way, the law of rounding, quotients, scales and grids answers true. Part 4 of 10. -/
import Derived.Test.YtoapegnngbhkbaaGreatDoorR03
import Derived.Laws.CopyRow
import Derived.Lib.AppendZeros
import Derived.Lib.Bytealg
section
namespace Go.Proofs.YtoapegnngbhkbaaGreatDoor
open Go.RowKit Go.Sx
open Go.Num
/-- the divisor and the number, shifted; their halves -/
structure D64 (hi lo y s Y s1 t u w1 w0 : Nat) : Prop where
 s63 : s ≤ 63
 Ye : Y = y * 2 ^ s
 YB : Y < Go.Num.B
 Yh : Y = s1 * 4294967296 + t
 th : t < 4294967296
 sh : s1 < 4294967296
 s2 : 4294967296 ≤ 2 * s1
 uY : u < Y
 w1h : w1 < 4294967296
 w0h : w0 < 4294967296
 X : (hi * Go.Num.B + lo) * 2 ^ s = (u * 4294967296 + w1) * 4294967296 + w0
theorem d64_norm {hi lo y : Nat} (hy : hi < y) (hyB : y < Go.Num.B) (hlo : lo < Go.Num.B) :
  D64 hi lo y (64 - bl y) (y * 2 ^ (64 - bl y) % Go.Num.B) (y * 2 ^ (64 - bl y) % Go.Num.B / 2 ^ 32) (y * 2 ^ (64 - bl y) % Go.Num.B % 4294967296) (hi * 2 ^ (64 - bl y) % Go.Num.B ||| lo / 2 ^ (64 - (64 - bl y))) (lo * 2 ^ (64 - bl y) % Go.Num.B / 2 ^ 32) (lo * 2 ^ (64 - bl y) % Go.Num.B % 4294967296) := by
 have hy0 : y ≠ 0 := by omega
 have hbp : 0 < bl y := bl_pos hy0
 have hb64 : bl y ≤ 64 := bl_iff.2 (by rw [← B_two]; exact hyB)
 obtain ⟨s, hs⟩ : ∃ s, s = 64 - bl y := ⟨_, rfl⟩
 rw [← hs]
 have hs64 : s < 64 := by omega
 have hps : 0 < 2 ^ s := Nat.pow_pos (by decide)
 have hB : Go.Num.B = 2 ^ bl y * 2 ^ s := by rw [B_two, ← Nat.pow_add]; congr 1; omega
 have hyS : y * 2 ^ s < Go.Num.B := by rw [hB]; exact Nat.mul_lt_mul_of_pos_right (lt_bl y) hps
 have hhS : hi * 2 ^ s < Go.Num.B := Nat.lt_of_le_of_lt (Nat.mul_le_mul_right _ (Nat.le_of_lt hy)) hyS
 obtain ⟨p1, p2, _⟩ := shl_parts lo hs64
 have hq : lo / 2 ^ (64 - s) < 2 ^ s := by
  rw [Nat.div_lt_iff_lt_mul (Nat.pow_pos (by decide)), ← Nat.pow_add, show s + (64 - s) = 64 by omega, ← B_two]; exact hlo
 have hor : hi * 2 ^ s % Go.Num.B ||| lo / 2 ^ (64 - s) = hi * 2 ^ s + lo / 2 ^ (64 - s) := by
  rw [Nat.mod_eq_of_lt hhS, Nat.or_comm, Nat.mul_comm hi, or_add hq]; omega
 rw [hor, Nat.mod_eq_of_lt hyS]
 have htop : 2 ^ 63 ≤ y * 2 ^ s := by
  have h1 := bl_ge hy0
  have h2 : 2 ^ (bl y - 1) * 2 ^ s ≤ y * 2 ^ s := Nat.mul_le_mul_right _ h1
  rwa [← Nat.pow_add, show bl y - 1 + s = 63 by omega] at h2
 have hz : lo * 2 ^ s % Go.Num.B < Go.Num.B := Nat.mod_lt _ B_pos
 have hX : (hi * Go.Num.B + lo) * 2 ^ s = (hi * 2 ^ s + lo / 2 ^ (64 - s)) * Go.Num.B + lo * 2 ^ s % Go.Num.B := by
  rw [p2, Nat.add_mul, p1, Nat.add_mul]
  have e1 : hi * Go.Num.B * 2 ^ s = hi * 2 ^ s * Go.Num.B := by rw [Nat.mul_assoc, Nat.mul_comm Go.Num.B, ← Nat.mul_assoc]
  rw [e1, Nat.mul_comm Go.Num.B (lo / 2 ^ (64 - s))]; omega
 have hXlt : (hi * 2 ^ s + lo / 2 ^ (64 - s)) * Go.Num.B < y * 2 ^ s * Go.Num.B := by
  have h1 : (hi * Go.Num.B + lo) * 2 ^ s < y * Go.Num.B * 2 ^ s := Nat.mul_lt_mul_of_pos_right (by
   have : (hi + 1) * Go.Num.B ≤ y * Go.Num.B := Nat.mul_le_mul_right _ hy
   rw [Nat.add_mul] at this; omega) hps
  have e2 : y * Go.Num.B * 2 ^ s = y * 2 ^ s * Go.Num.B := by rw [Nat.mul_assoc, Nat.mul_comm Go.Num.B, ← Nat.mul_assoc]
  omega
 generalize hi * 2 ^ s + lo / 2 ^ (64 - s) = u at *
 generalize lo * 2 ^ s % Go.Num.B = z at *
 generalize hYe : y * 2 ^ s = Y at *
 have hBv : Go.Num.B = 18446744073709551616 := rfl
 have h32 : (2 : Nat) ^ 32 = 4294967296 := rfl
 have h63 : (2 : Nat) ^ 63 = 9223372036854775808 := rfl
 rw [h32]
 refine ⟨by omega, hYe.symm, hyS, ?_, Nat.mod_lt _ (by decide), ?_, ?_, Nat.lt_of_mul_lt_mul_right hXlt, ?_, Nat.mod_lt _ (by decide), ?_⟩
 ·omega
 ·omega
 ·omega
 ·omega
 ·rw [hX, hBv]
  omega
section
variable {hi lo y s Y s1 t u w1 w0 U w q r : Nat}
theorem D64.init (hD : D64 hi lo y s Y s1 t u w1 w0) (hU : U < Y) (hw : w < 4294967296) : (U * 4294967296 + w) / Y ≤ U / s1 ∧ U / s1 ≤ 4294967296 + 1 ∧ U / s1 * s1 + U % s1 = U ∧ U % s1 < s1 := by
 have h := half_init (h := 4294967296) (by decide) hD.s2 hD.th (hD.Yh ▸ hU) hw
 rwa [← hD.Yh] at h
theorem D64.step (hD : D64 hi lo y s Y s1 t u w1 w0) (hU : U < Y) (hw : w < 4294967296) (hq : (U * 4294967296 + w) / Y ≤ q) (he : q * s1 + r = U) (hc : 4294967296 ≤ q ∨ 4294967296 * r + w < q * t) : (U * 4294967296 + w) / Y ≤ q - 1 ∧ 0 < q ∧ (q - 1) * s1 + (r + s1) = U := by
 have h := half_step (h := 4294967296) (s := s1) (t := t) (w := w) (u := U) (by rw [← hD.Yh]; exact hU) hw (by rw [← hD.Yh]; exact hq) he hc
 rwa [← hD.Yh] at h
theorem D64.end_ (hD : D64 hi lo y s Y s1 t u w1 w0) (hY : 0 < Y) (hq : (U * 4294967296 + w) / Y ≤ q) (he : q * s1 + r = U) (hc : q * t ≤ 4294967296 * r + w) : q = (U * 4294967296 + w) / Y := by
 have h := half_end (h := 4294967296) (s := s1) (t := t) (w := w) (u := U) (by rw [← hD.Yh]; exact hY) (by rw [← hD.Yh]; exact hq) he hc
 rwa [← hD.Yh] at h
theorem D64.brk (hD : D64 hi lo y s Y s1 t u w1 w0) (hY : 0 < Y) (hq : (U * 4294967296 + w) / Y ≤ q) (he : q * s1 + r = U) (hq2 : q ≤ 4294967296) (hr : 4294967296 ≤ r) : q = (U * 4294967296 + w) / Y := by
 have h := half_brk (h := 4294967296) (s := s1) (t := t) (w := w) (u := U) (by rw [← hD.Yh]; exact hY) hD.th (by rw [← hD.Yh]; exact hq) he hq2 hr
 rwa [← hD.Yh] at h
end
theorem D64.fin {hi lo y s Y s1 t u w1 w0 : Nat} (h : D64 hi lo y s Y s1 t u w1 w0) (hy : 0 < y) :
  (u * 4294967296 + w1) / Y * 4294967296 + ((u * 4294967296 + w1) % Y * 4294967296 + w0) / Y = (hi * Go.Num.B + lo) / y ∧ ((u * 4294967296 + w1) % Y * 4294967296 + w0) % Y / 2 ^ s = (hi * Go.Num.B + lo) % y := by
 have hY : 0 < Y := by rw [h.Ye]; exact Nat.mul_pos hy (Nat.pow_pos (by decide))
 have h1 := halves (h := 4294967296) hY u w1 w0
 simp only at h1
 rw [h1.1, h1.2, ← h.X, h.Ye]
 exact shl_div _ _ _
theorem q_lt {q : Nat} (h : q < 4294967296) {t : Nat} (ht : t < 4294967296) : q * t < Go.Num.B := by
 have h1 : q * t ≤ 4294967295 * 4294967295 := Nat.mul_le_mul (by omega) (by omega)
 have hBv : Go.Num.B = 18446744073709551616 := rfl
 omega
set_option maxRecDepth 100000 in
set_option maxHeartbeats 4000000 in
theorem Div64_ok {hi lo y : Nat} (w : World) (hy : hi < y) (hyB : y < Go.Num.B) (hlo : lo < Go.Num.B) :
  Ret Tryz.prog 119 #[.int .u64 (hi : Nat), .int .u64 (lo : Nat), .int .u64 (y : Nat)] w (fun v w' => v = .tuple #[.int .u64 ((hi * Go.Num.B + lo) / y : Nat), .int .u64 ((hi * Go.Num.B + lo) % y : Nat)] ∧ Ext w w') := by
 have hbp : 0 < bl y := bl_pos (by omega)
 have hb64 : bl y ≤ 64 := bl_iff.2 (by rw [← B_two]; exact hyB)
 refine enter (S := No) (l := [_, _, _]) (L := []) 135 Tryz.func119 rfl rfl rfl (St.start w No) ?_; refine yA ?_; refine aI rfl ?_; refine aI rfl ?_; refine yB ?_; refine zq ?_; refine yA ?_; refine mI rfl ?_; refine w_r (fun _ => R_eqN (a := y) (b := 0) rfl rfl) rfl rfl ?_; refine yB ?_; refine zD rfl (fun h1 => ?_) (fun h1 => ?_)
 ·omega
 ·refine zi ?_; refine zk ?_; refine zq ?_; refine yA ?_; refine mI rfl ?_; refine mI rfl ?_; refine w_r (fun _ => R_leN (a := y) (b := hi) rfl rfl) rfl rfl ?_; refine yB ?_; refine zD rfl (fun h2 => ?_) (fun h2 => ?_)
  ·omega
  ·refine zi ?_; refine zk ?_; refine zq ?_; refine yA ?_; refine mI rfl ?_; refine w_r (fun _ => R_eqN (a := hi) (b := 0) rfl rfl) rfl rfl ?_; refine yB ?_; refine zD rfl (fun h3 => ?_) (fun h3 => ?_)
   ·subst h3
    refine zq ?_; refine c_draw mixed (by kernel_rfl) ?_; refine mI rfl ?_; refine mI rfl ?_; refine w_r (fun _ => R_quoU (a := lo) (b := y) rfl rfl (by first | exact Nat.mod_lt _ B_pos | (have hBv : Go.Num.B = 18446744073709551616 := rfl; omega)) (by first | exact Nat.mod_lt _ B_pos | (have hBv : Go.Num.B = 18446744073709551616 := rfl; omega))) rfl rfl ?_; refine mI rfl ?_; refine mI rfl ?_; refine w_r (fun _ => R_remU (a := lo) (b := y) rfl rfl (by first | exact Nat.mod_lt _ B_pos | (have hBv : Go.Num.B = 18446744073709551616 := rfl; omega))) rfl rfl ?_; refine aI rfl ?_; refine aI rfl ?_; refine yB ?_; refine ze ?_; refine zt (?_)
    refine r_two (v := .int _ _) (v2 := .int _ _) rfl rfl rfl rfl rfl ?_; exact fun w' hw => ⟨by rw [Nat.zero_mul, Nat.zero_add], hw.fr _ (.head _)⟩
   ·refine zi ?_; refine zk ?_; refine yA ?_; refine mI rfl ?_; refine zC (fun w => zR Tryz.func137 rfl rfl rfl) rfl rfl (fun w h => LZ64_ok y w hyB) ?_; refine w_r (fun _ => R_convK (n := (64 - bl y)) un3 un99 rfl (wrap_u (by first | exact Nat.mod_lt _ B_pos | (have hBv : Go.Num.B = 18446744073709551616 := rfl; omega)))) rfl rfl ?_; refine aI rfl ?_; refine yC ?_; refine mI rfl ?_; refine mI rfl ?_; refine w_r (fun _ => R_shlU (a := y) (n := (64 - bl y)) rfl rfl (by first | exact Nat.mod_lt _ B_pos | (have hBv : Go.Num.B = 18446744073709551616 := rfl; omega))) rfl rfl ?_
    refine aI rfl ?_; refine yC ?_; refine mI rfl ?_; refine w_r (fun _ => R_shrU (a := (y * 2 ^ (64 - bl y) % Go.Num.B)) (n := 32) rfl rfl (by first | exact Nat.mod_lt _ B_pos | (have hBv : Go.Num.B = 18446744073709551616 := rfl; omega))) rfl rfl ?_; refine aI rfl ?_; refine yC ?_; refine mI rfl ?_; refine w_r (fun _ => R_andM (a := (y * 2 ^ (64 - bl y) % Go.Num.B)) rfl rfl (by first | exact Nat.mod_lt _ B_pos | (have hBv : Go.Num.B = 18446744073709551616 := rfl; omega))) rfl rfl ?_; refine aI rfl ?_; refine yC ?_; refine mI rfl ?_; refine mI rfl ?_
    refine w_r (fun _ => R_shlU (a := hi) (n := (64 - bl y)) rfl rfl (by first | exact Nat.mod_lt _ B_pos | (have hBv : Go.Num.B = 18446744073709551616 := rfl; omega))) rfl rfl ?_; refine mI rfl ?_; refine mI rfl ?_; refine w_r (fun _ => R_subU (a := 64) (b := (64 - bl y)) rfl rfl (by first | exact Nat.mod_lt _ B_pos | (have hBv : Go.Num.B = 18446744073709551616 := rfl; omega)) (by first | exact Nat.mod_lt _ B_pos | (have hBv : Go.Num.B = 18446744073709551616 := rfl; omega))) rfl rfl ?_; refine w_r (fun _ => R_shrU (a := lo) (n := (64 - (64 - bl y))) rfl rfl (by first | exact Nat.mod_lt _ B_pos | (have hBv : Go.Num.B = 18446744073709551616 := rfl; omega))) rfl rfl ?_
    refine w_r (fun _ => R_orU (a := (hi * 2 ^ (64 - bl y) % Go.Num.B)) (b := (lo / 2 ^ (64 - (64 - bl y)))) rfl rfl (by first | exact Nat.mod_lt _ B_pos | (have hBv : Go.Num.B = 18446744073709551616 := rfl; omega)) (by exact Nat.lt_of_le_of_lt (Nat.div_le_self _ _) hlo)) rfl rfl ?_; refine aI rfl ?_; refine yC ?_; refine mI rfl ?_; refine mI rfl ?_; refine w_r (fun _ => R_shlU (a := lo) (n := (64 - bl y)) rfl rfl (by first | exact Nat.mod_lt _ B_pos | (have hBv : Go.Num.B = 18446744073709551616 := rfl; omega))) rfl rfl ?_
    refine aI rfl ?_; refine yC ?_; refine mI rfl ?_; refine w_r (fun _ => R_shrU (a := (lo * 2 ^ (64 - bl y) % Go.Num.B)) (n := 32) rfl rfl (by first | exact Nat.mod_lt _ B_pos | (have hBv : Go.Num.B = 18446744073709551616 := rfl; omega))) rfl rfl ?_; refine aI rfl ?_; refine yB ?_; refine c_cut (fun e B L => ∃ (s Y s1 t u w1 w0 : Nat), e 0 = .int .u64 (hi : Nat) ∧ e 1 = .int .u64 (lo : Nat) ∧ e 2 = .int .u64 (Y : Nat) ∧ e 8 = .int .u64 (s : Nat) ∧ e 9 = .int .u64 (s1 : Nat) ∧ e 10 = .int .u64 (t : Nat) ∧ e 11 = .int .u64 (u : Nat) ∧ e 13 = .int .u64 (w1 : Nat) ∧ e 14 = .int .u64 (w0 : Nat) ∧ B = [(w, No)] ∧ L = [] ∧ D64 hi lo y s Y s1 t u w1 w0) ?_ ?_
    ·refine zr ?_; refine mI rfl ?_; refine w_r (fun _ => R_andM (a := (lo * 2 ^ (64 - bl y) % Go.Num.B)) rfl rfl (by first | exact Nat.mod_lt _ B_pos | (have hBv : Go.Num.B = 18446744073709551616 := rfl; omega))) rfl rfl ?_; refine aI rfl ?_; refine zn ?_; exact k_mid ⟨(64 - bl y), (y * 2 ^ (64 - bl y) % Go.Num.B), ((y * 2 ^ (64 - bl y) % Go.Num.B) / 2 ^ 32), ((y * 2 ^ (64 - bl y) % Go.Num.B) % 4294967296), ((hi * 2 ^ (64 - bl y) % Go.Num.B) ||| (lo / 2 ^ (64 - (64 - bl y)))), ((lo * 2 ^ (64 - bl y) % Go.Num.B) / 2 ^ 32), ((lo * 2 ^ (64 - bl y) % Go.Num.B) % 4294967296), rfl, rfl, rfl, rfl, rfl, rfl, rfl, rfl, rfl, rfl, rfl, d64_norm hy hyB hlo⟩
    rintro e B L ⟨s, Y, s1, t, u, w1, w0, e0_1, e1_1, e2_1, e8_1, e9_1, e10_1, e11_1, e13_1, e14_1, rfl, rfl, hD⟩
    have hi0 := hD.init hD.uY hD.w1h
    have hu := hD.uY; have hYB := hD.YB; have hs2 := hD.s2; have hsh := hD.sh; have hth := hD.th; have hw1 := hD.w1h; have hw0 := hD.w0h; have hs63 := hD.s63; have hY0 : 0 < Y := (by omega); have hBv : Go.Num.B = 18446744073709551616 := rfl
    refine yA ?_; refine mI e11_1 ?_; refine mI e9_1 ?_; refine w_r (fun _ => R_quoU (a := u) (b := s1) rfl rfl (by first | exact Nat.mod_lt _ B_pos | (have hBv : Go.Num.B = 18446744073709551616 := rfl; omega)) (by first | exact Nat.mod_lt _ B_pos | (have hBv : Go.Num.B = 18446744073709551616 := rfl; omega))) rfl rfl ?_; refine aI rfl ?_; refine yC ?_; refine mI e11_1 ?_; refine mI rfl ?_; refine mI e9_1 ?_; refine w_r (fun _ => R_mulU (a := (u / s1)) (b := s1) rfl rfl (by first | exact Nat.mod_lt _ B_pos | (have hBv : Go.Num.B = 18446744073709551616 := rfl; omega))) rfl rfl ?_
    refine w_r (fun _ => R_subU (a := u) (b := ((u / s1) * s1)) rfl rfl (by first | exact Nat.mod_lt _ B_pos | (have hBv : Go.Num.B = 18446744073709551616 := rfl; omega)) (by first | exact Nat.mod_lt _ B_pos | (have hBv : Go.Num.B = 18446744073709551616 := rfl; omega))) rfl rfl ?_; refine aI rfl ?_; refine yB ?_; refine c_cut (fun e B L => e 0 = .int .u64 (hi : Nat) ∧ e 1 = .int .u64 (lo : Nat) ∧ e 2 = .int .u64 (Y : Nat) ∧ e 8 = .int .u64 (s : Nat) ∧ e 9 = .int .u64 (s1 : Nat) ∧ e 10 = .int .u64 (t : Nat) ∧ e 11 = .int .u64 (u : Nat) ∧ e 13 = .int .u64 (w1 : Nat) ∧ e 14 = .int .u64 (w0 : Nat) ∧ e 15 = .int .u64 (((u * 4294967296 + w1) / Y) : Nat) ∧ B = [(w, No)] ∧ L = []) ?_ ?_
    ·refine zB ?_; refine c_loop (fun m9 e B L => ∃ (q r : Nat), e 0 = .int .u64 (hi : Nat) ∧ e 1 = .int .u64 (lo : Nat) ∧ e 2 = .int .u64 (Y : Nat) ∧ e 8 = .int .u64 (s : Nat) ∧ e 9 = .int .u64 (s1 : Nat) ∧ e 10 = .int .u64 (t : Nat) ∧ e 11 = .int .u64 (u : Nat) ∧ e 13 = .int .u64 (w1 : Nat) ∧ e 14 = .int .u64 (w0 : Nat) ∧ e 15 = .int .u64 (q : Nat) ∧ e 16 = .int .u64 (r : Nat) ∧ B = [(w, No)] ∧ L = [] ∧ (u * 4294967296 + w1) / Y ≤ q ∧ q * s1 + r = u ∧ q ≤ 4294967296 + 1 ∧ r < 4294967296 ∧ m9 = q + 1) _ ⟨_, _, e0_1, e1_1, e2_1, e8_1, e9_1, e10_1, e11_1, e13_1, e14_1, rfl, rfl, rfl, rfl, hi0.1, by omega, hi0.2.1, by omega, rfl⟩ ?_
     rintro m9 e B L ⟨q, r, e0_3, e1_3, e2_3, e8_3, e9_3, e10_3, e11_3, e13_3, e14_3, e15_3, e16_3, rfl, rfl, hq, he, hqh, hr, rfl⟩
     refine zq ?_; refine yA ?_; refine mI e15_3 ?_; refine w_r (fun _ => R_geN (a := q) (b := 4294967296) rfl rfl) rfl rfl ?_; refine mB rfl ?_; refine zd (t := 69) rfl (fun h4 => ?_) (fun h4 => ?_)
     ·have hst := hD.step hD.uY hw1 hq he (.inl h4)
      refine zs rfl rfl (bT h4) ?_; refine zs rfl rfl (bT h4) ?_; refine zs rfl rfl (bT h4) ?_; refine zs rfl rfl (bT h4) ?_; refine zs rfl rfl (bT h4) ?_; refine zs rfl rfl (bT h4) ?_; refine zs rfl rfl (bT h4) ?_; refine zs rfl rfl (bT h4) ?_; refine w_r (v := .bool _) (fun _ => zT (bT h4) rfl) rfl rfl ?_; refine yB ?_; refine zE rfl ?_; refine zi ?_; refine zk ?_; refine zB ?_; refine yA ?_; refine mI e15_3 ?_; refine w_r (fun _ => R_subU (a := q) (b := 1) rfl rfl (by first | exact Nat.mod_lt _ B_pos | (have hBv : Go.Num.B = 18446744073709551616 := rfl; omega)) (by first | exact Nat.mod_lt _ B_pos | (have hBv : Go.Num.B = 18446744073709551616 := rfl; omega))) rfl rfl ?_
      refine aI rfl ?_; refine yC ?_; refine mI e16_3 ?_; refine mI e9_3 ?_; refine w_r (fun _ => R_addU (a := r) (b := s1) rfl rfl (by first | exact Nat.mod_lt _ B_pos | (have hBv : Go.Num.B = 18446744073709551616 := rfl; omega))) rfl rfl ?_; refine aI rfl ?_; refine yC ?_; refine mI rfl ?_; refine w_r (fun _ => R_geN (a := (r + s1)) (b := 4294967296) rfl rfl) rfl rfl ?_; refine yB ?_; refine zD rfl (fun h5 => ?_) (fun h5 => ?_)
      ·have hfin := hD.brk hY0 hst.1 hst.2.2 (by omega) h5
       refine c_exit ?_; refine b_past rfl (zx (b_here rfl (?_)))
       exact k_mid ⟨e0_3, e1_3, e2_3, e8_3, e9_3, e10_3, e11_3, e13_3, e14_3, (by rw [← hfin]; (try rfl)), rfl, rfl⟩
      ·refine zi ?_; refine b_on (?_)
       exact k_again _ (by omega) ⟨(q - 1), (r + s1), e0_3, e1_3, e2_3, e8_3, e9_3, e10_3, e11_3, e13_3, e14_3, rfl, rfl, rfl, rfl, hst.1, hst.2.2, by omega, by omega, rfl⟩
     ·have hqt := q_lt (q := q) (by omega) hth
      refine zw rfl rfl (bF h4) ?_; refine mI e15_3 ?_; refine zw rfl rfl (bF h4) ?_; refine mI e10_3 ?_; refine zw rfl rfl (bF h4) ?_; refine w_r (fun _ => R_mulU (a := q) (b := t) rfl rfl (by first | exact Nat.mod_lt _ B_pos | (have hBv : Go.Num.B = 18446744073709551616 := rfl; omega))) rfl rfl ?_; refine zw rfl rfl (bF h4) ?_; refine mI e16_3 ?_; refine zw rfl rfl (bF h4) ?_; refine w_r (fun _ => R_mulU (a := 4294967296) (b := r) rfl rfl (by first | exact Nat.mod_lt _ B_pos | (have hBv : Go.Num.B = 18446744073709551616 := rfl; omega))) rfl rfl ?_; refine zw rfl rfl (bF h4) ?_; refine mI e13_3 ?_; refine zw rfl rfl (bF h4) ?_
      refine w_r (fun _ => R_addU (a := (4294967296 * r)) (b := w1) rfl rfl (by first | exact Nat.mod_lt _ B_pos | (have hBv : Go.Num.B = 18446744073709551616 := rfl; omega))) rfl rfl ?_; refine zw rfl rfl (bF h4) ?_; refine w_r (fun _ => R_gtN (a := (q * t)) (b := ((4294967296 * r) + w1)) rfl rfl) rfl rfl ?_; refine w_r (v := .bool _) (fun _ => zF (bF h4) rfl) rfl rfl ?_; refine yB ?_; refine zD rfl (fun h6 => ?_) (fun h6 => ?_)
      ·have hst := hD.step hD.uY hw1 hq he (.inr h6)
       refine zi ?_; refine zk ?_; refine zB ?_; refine yA ?_; refine mI e15_3 ?_; refine w_r (fun _ => R_subU (a := q) (b := 1) rfl rfl (by first | exact Nat.mod_lt _ B_pos | (have hBv : Go.Num.B = 18446744073709551616 := rfl; omega)) (by first | exact Nat.mod_lt _ B_pos | (have hBv : Go.Num.B = 18446744073709551616 := rfl; omega))) rfl rfl ?_; refine aI rfl ?_; refine yC ?_; refine mI e16_3 ?_; refine mI e9_3 ?_; refine w_r (fun _ => R_addU (a := r) (b := s1) rfl rfl (by first | exact Nat.mod_lt _ B_pos | (have hBv : Go.Num.B = 18446744073709551616 := rfl; omega))) rfl rfl ?_
       refine aI rfl ?_; refine yC ?_; refine mI rfl ?_; refine w_r (fun _ => R_geN (a := (r + s1)) (b := 4294967296) rfl rfl) rfl rfl ?_; refine yB ?_; refine zD rfl (fun h7 => ?_) (fun h7 => ?_)
       ·have hfin := hD.brk hY0 hst.1 hst.2.2 (by omega) h7
        refine c_exit ?_; refine b_past rfl (zx (b_here rfl (?_)))
        exact k_mid ⟨e0_3, e1_3, e2_3, e8_3, e9_3, e10_3, e11_3, e13_3, e14_3, (by rw [← hfin]; (try rfl)), rfl, rfl⟩
       ·refine zi ?_; refine b_on (?_)
        exact k_again _ (by omega) ⟨(q - 1), (r + s1), e0_3, e1_3, e2_3, e8_3, e9_3, e10_3, e11_3, e13_3, e14_3, rfl, rfl, rfl, rfl, hst.1, hst.2.2, by omega, by omega, rfl⟩
      ·have hfin := hD.end_ hY0 hq he (by omega)
       refine c_exit ?_; refine zx (zx (b_here rfl (?_)))
       exact k_mid ⟨e0_3, e1_3, e2_3, e8_3, e9_3, e10_3, e11_3, e13_3, e14_3, (by rw [← hfin]; exact e15_3), rfl, rfl⟩
    rintro e B L ⟨e0_2, e1_2, e2_2, e8_2, e9_2, e10_2, e11_2, e13_2, e14_2, e15_2, rfl, rfl⟩
    refine c_cut (fun e B L => e 0 = .int .u64 (hi : Nat) ∧ e 1 = .int .u64 (lo : Nat) ∧ e 2 = .int .u64 (Y : Nat) ∧ e 8 = .int .u64 (s : Nat) ∧ e 9 = .int .u64 (s1 : Nat) ∧ e 10 = .int .u64 (t : Nat) ∧ e 11 = .int .u64 (u : Nat) ∧ e 13 = .int .u64 (w1 : Nat) ∧ e 14 = .int .u64 (w0 : Nat) ∧ e 15 = .int .u64 (((u * 4294967296 + w1) / Y) : Nat) ∧ e 17 = .int .u64 (((u * 4294967296 + w1) % Y) : Nat) ∧ B = [(w, No)] ∧ L = []) ?_ ?_
    ·refine zr ?_; refine mI e11_2 ?_; refine w_r (fun _ => R_mulM (a := u) (b := 4294967296) rfl rfl) rfl rfl ?_; refine mI e13_2 ?_; refine w_r (fun _ => R_addM (a := (u * 4294967296 % Go.Num.B)) (b := w1) rfl rfl) rfl rfl ?_; refine mI e15_2 ?_; refine mI e2_2 ?_; refine w_r (fun _ => R_mulM (a := (((u * 4294967296 + w1) / Y))) (b := Y) rfl rfl) rfl rfl ?_; refine w_r (fun _ => R_subM (a := (((u * 4294967296 % Go.Num.B) + w1) % Go.Num.B)) (b := ((((u * 4294967296 + w1) / Y)) * Y % Go.Num.B)) rfl rfl (by exact Nat.le_of_lt (Nat.mod_lt _ B_pos))) rfl rfl ?_; refine aI rfl ?_; refine zn ?_; exact k_mid ⟨e0_2, e1_2, e2_2, e8_2, e9_2, e10_2, e11_2, e13_2, e14_2, e15_2, congrArg (fun z : Nat => Value.int .u64 (z : Int)) (half_rest hD.YB hY0), rfl, rfl⟩
    rintro e B L ⟨e0_4, e1_4, e2_4, e8_4, e9_4, e10_4, e11_4, e13_4, e14_4, e15_4, e17_4, rfl, rfl⟩
    have hR := Nat.mod_lt (u * 4294967296 + w1) hY0
    have hi0 := hD.init hR hD.w0h
    refine yA ?_; refine mI e17_4 ?_; refine mI e9_4 ?_; refine w_r (fun _ => R_quoU (a := (((u * 4294967296 + w1) % Y))) (b := s1) rfl rfl (by first | exact Nat.mod_lt _ B_pos | (have hBv : Go.Num.B = 18446744073709551616 := rfl; omega)) (by first | exact Nat.mod_lt _ B_pos | (have hBv : Go.Num.B = 18446744073709551616 := rfl; omega))) rfl rfl ?_; refine aI rfl ?_; refine yC ?_; refine mI e17_4 ?_; refine mI rfl ?_; refine mI e9_4 ?_; refine w_r (fun _ => R_mulU (a := ((((u * 4294967296 + w1) % Y)) / s1)) (b := s1) rfl rfl (by first | exact Nat.mod_lt _ B_pos | (have hBv : Go.Num.B = 18446744073709551616 := rfl; omega))) rfl rfl ?_
    refine w_r (fun _ => R_subU (a := (((u * 4294967296 + w1) % Y))) (b := (((((u * 4294967296 + w1) % Y)) / s1) * s1)) rfl rfl (by first | exact Nat.mod_lt _ B_pos | (have hBv : Go.Num.B = 18446744073709551616 := rfl; omega)) (by first | exact Nat.mod_lt _ B_pos | (have hBv : Go.Num.B = 18446744073709551616 := rfl; omega))) rfl rfl ?_; refine aI rfl ?_; refine yB ?_
    refine c_cut (fun e B L => e 0 = .int .u64 (hi : Nat) ∧ e 1 = .int .u64 (lo : Nat) ∧ e 2 = .int .u64 (Y : Nat) ∧ e 8 = .int .u64 (s : Nat) ∧ e 9 = .int .u64 (s1 : Nat) ∧ e 10 = .int .u64 (t : Nat) ∧ e 11 = .int .u64 (u : Nat) ∧ e 13 = .int .u64 (w1 : Nat) ∧ e 14 = .int .u64 (w0 : Nat) ∧ e 15 = .int .u64 (((u * 4294967296 + w1) / Y) : Nat) ∧ e 17 = .int .u64 (((u * 4294967296 + w1) % Y) : Nat) ∧ e 18 = .int .u64 (((((u * 4294967296 + w1) % Y) * 4294967296 + w0) / Y) : Nat) ∧ B = [(w, No)] ∧ L = []) ?_ ?_
    ·refine zB ?_; refine c_loop (fun m9 e B L => ∃ (q r : Nat), e 0 = .int .u64 (hi : Nat) ∧ e 1 = .int .u64 (lo : Nat) ∧ e 2 = .int .u64 (Y : Nat) ∧ e 8 = .int .u64 (s : Nat) ∧ e 9 = .int .u64 (s1 : Nat) ∧ e 10 = .int .u64 (t : Nat) ∧ e 11 = .int .u64 (u : Nat) ∧ e 13 = .int .u64 (w1 : Nat) ∧ e 14 = .int .u64 (w0 : Nat) ∧ e 15 = .int .u64 (((u * 4294967296 + w1) / Y) : Nat) ∧ e 17 = .int .u64 (((u * 4294967296 + w1) % Y) : Nat) ∧ e 18 = .int .u64 (q : Nat) ∧ e 16 = .int .u64 (r : Nat) ∧ B = [(w, No)] ∧ L = [] ∧ (((u * 4294967296 + w1) % Y) * 4294967296 + w0) / Y ≤ q ∧ q * s1 + r = ((u * 4294967296 + w1) % Y) ∧ q ≤ 4294967296 + 1 ∧ r < 4294967296 ∧ m9 = q + 1) _ ⟨_, _, e0_4, e1_4, e2_4, e8_4, e9_4, e10_4, e11_4, e13_4, e14_4, e15_4, e17_4, rfl, rfl, rfl, rfl, hi0.1, by omega, hi0.2.1, by omega, rfl⟩ ?_
     rintro m9 e B L ⟨q, r, e0_6, e1_6, e2_6, e8_6, e9_6, e10_6, e11_6, e13_6, e14_6, e15_6, e17_6, e18_6, e16_6, rfl, rfl, hq, he, hqh, hr, rfl⟩
     refine zq ?_; refine yA ?_; refine mI e18_6 ?_; refine w_r (fun _ => R_geN (a := q) (b := 4294967296) rfl rfl) rfl rfl ?_; refine mB rfl ?_; refine zd (t := 104) rfl (fun h8 => ?_) (fun h8 => ?_)
     ·have hst := hD.step hR hw0 hq he (.inl h8)
      refine zs rfl rfl (bT h8) ?_; refine zs rfl rfl (bT h8) ?_; refine zs rfl rfl (bT h8) ?_; refine zs rfl rfl (bT h8) ?_; refine zs rfl rfl (bT h8) ?_; refine zs rfl rfl (bT h8) ?_; refine zs rfl rfl (bT h8) ?_; refine zs rfl rfl (bT h8) ?_; refine w_r (v := .bool _) (fun _ => zT (bT h8) rfl) rfl rfl ?_; refine yB ?_; refine zE rfl ?_; refine zi ?_; refine zk ?_; refine zB ?_; refine yA ?_; refine mI e18_6 ?_; refine w_r (fun _ => R_subU (a := q) (b := 1) rfl rfl (by first | exact Nat.mod_lt _ B_pos | (have hBv : Go.Num.B = 18446744073709551616 := rfl; omega)) (by first | exact Nat.mod_lt _ B_pos | (have hBv : Go.Num.B = 18446744073709551616 := rfl; omega))) rfl rfl ?_
      refine aI rfl ?_; refine yC ?_; refine mI e16_6 ?_; refine mI e9_6 ?_; refine w_r (fun _ => R_addU (a := r) (b := s1) rfl rfl (by first | exact Nat.mod_lt _ B_pos | (have hBv : Go.Num.B = 18446744073709551616 := rfl; omega))) rfl rfl ?_; refine aI rfl ?_; refine yC ?_; refine mI rfl ?_; refine w_r (fun _ => R_geN (a := (r + s1)) (b := 4294967296) rfl rfl) rfl rfl ?_; refine yB ?_; refine zD rfl (fun h9 => ?_) (fun h9 => ?_)
      ·have hfin := hD.brk hY0 hst.1 hst.2.2 (by omega) h9
       refine c_exit ?_; refine b_past rfl (zx (b_here rfl (?_)))
       exact k_mid ⟨e0_6, e1_6, e2_6, e8_6, e9_6, e10_6, e11_6, e13_6, e14_6, e15_6, e17_6, (by rw [← hfin]; (try rfl)), rfl, rfl⟩
      ·refine zi ?_; refine b_on (?_)
       exact k_again _ (by omega) ⟨(q - 1), (r + s1), e0_6, e1_6, e2_6, e8_6, e9_6, e10_6, e11_6, e13_6, e14_6, e15_6, e17_6, rfl, rfl, rfl, rfl, hst.1, hst.2.2, by omega, by omega, rfl⟩
     ·have hqt := q_lt (q := q) (by omega) hth
      refine zw rfl rfl (bF h8) ?_; refine mI e18_6 ?_; refine zw rfl rfl (bF h8) ?_; refine mI e10_6 ?_; refine zw rfl rfl (bF h8) ?_; refine w_r (fun _ => R_mulU (a := q) (b := t) rfl rfl (by first | exact Nat.mod_lt _ B_pos | (have hBv : Go.Num.B = 18446744073709551616 := rfl; omega))) rfl rfl ?_; refine zw rfl rfl (bF h8) ?_; refine mI e16_6 ?_; refine zw rfl rfl (bF h8) ?_; refine w_r (fun _ => R_mulU (a := 4294967296) (b := r) rfl rfl (by first | exact Nat.mod_lt _ B_pos | (have hBv : Go.Num.B = 18446744073709551616 := rfl; omega))) rfl rfl ?_; refine zw rfl rfl (bF h8) ?_; refine mI e14_6 ?_; refine zw rfl rfl (bF h8) ?_
      refine w_r (fun _ => R_addU (a := (4294967296 * r)) (b := w0) rfl rfl (by first | exact Nat.mod_lt _ B_pos | (have hBv : Go.Num.B = 18446744073709551616 := rfl; omega))) rfl rfl ?_; refine zw rfl rfl (bF h8) ?_; refine w_r (fun _ => R_gtN (a := (q * t)) (b := ((4294967296 * r) + w0)) rfl rfl) rfl rfl ?_; refine w_r (v := .bool _) (fun _ => zF (bF h8) rfl) rfl rfl ?_; refine yB ?_; refine zD rfl (fun h10 => ?_) (fun h10 => ?_)
      ·have hst := hD.step hR hw0 hq he (.inr h10)
       refine zi ?_; refine zk ?_; refine zB ?_; refine yA ?_; refine mI e18_6 ?_; refine w_r (fun _ => R_subU (a := q) (b := 1) rfl rfl (by first | exact Nat.mod_lt _ B_pos | (have hBv : Go.Num.B = 18446744073709551616 := rfl; omega)) (by first | exact Nat.mod_lt _ B_pos | (have hBv : Go.Num.B = 18446744073709551616 := rfl; omega))) rfl rfl ?_; refine aI rfl ?_; refine yC ?_; refine mI e16_6 ?_; refine mI e9_6 ?_; refine w_r (fun _ => R_addU (a := r) (b := s1) rfl rfl (by first | exact Nat.mod_lt _ B_pos | (have hBv : Go.Num.B = 18446744073709551616 := rfl; omega))) rfl rfl ?_
       refine aI rfl ?_; refine yC ?_; refine mI rfl ?_; refine w_r (fun _ => R_geN (a := (r + s1)) (b := 4294967296) rfl rfl) rfl rfl ?_; refine yB ?_; refine zD rfl (fun h11 => ?_) (fun h11 => ?_)
       ·have hfin := hD.brk hY0 hst.1 hst.2.2 (by omega) h11
        refine c_exit ?_; refine b_past rfl (zx (b_here rfl (?_)))
        exact k_mid ⟨e0_6, e1_6, e2_6, e8_6, e9_6, e10_6, e11_6, e13_6, e14_6, e15_6, e17_6, (by rw [← hfin]; (try rfl)), rfl, rfl⟩
       ·refine zi ?_; refine b_on (?_)
        exact k_again _ (by omega) ⟨(q - 1), (r + s1), e0_6, e1_6, e2_6, e8_6, e9_6, e10_6, e11_6, e13_6, e14_6, e15_6, e17_6, rfl, rfl, rfl, rfl, hst.1, hst.2.2, by omega, by omega, rfl⟩
      ·have hfin := hD.end_ hY0 hq he (by omega)
       refine c_exit ?_; refine zx (zx (b_here rfl (?_)))
       exact k_mid ⟨e0_6, e1_6, e2_6, e8_6, e9_6, e10_6, e11_6, e13_6, e14_6, e15_6, e17_6, (by rw [← hfin]; exact e18_6), rfl, rfl⟩
    rintro e B L ⟨e0_5, e1_5, e2_5, e8_5, e9_5, e10_5, e11_5, e13_5, e14_5, e15_5, e17_5, e18_5, rfl, rfl⟩
    have hQ1 := half_lt hD.uY hD.w1h; have hQ0 := half_lt hR hD.w0h
    refine yA ?_; refine mI e15_5 ?_; refine w_r (fun _ => R_mulU (a := (((u * 4294967296 + w1) / Y))) (b := 4294967296) rfl rfl (by first | exact Nat.mod_lt _ B_pos | (have hBv : Go.Num.B = 18446744073709551616 := rfl; omega))) rfl rfl ?_; refine mI e18_5 ?_; refine w_r (fun _ => R_addU (a := ((((u * 4294967296 + w1) / Y)) * 4294967296)) (b := (((((u * 4294967296 + w1) % Y) * 4294967296 + w0) / Y))) rfl rfl (by first | exact Nat.mod_lt _ B_pos | (have hBv : Go.Num.B = 18446744073709551616 := rfl; omega))) rfl rfl ?_; refine mI e17_5 ?_; refine w_r (fun _ => R_mulM (a := (((u * 4294967296 + w1) % Y))) (b := 4294967296) rfl rfl) rfl rfl ?_; refine mI e14_5 ?_
    refine w_r (fun _ => R_addM (a := ((((u * 4294967296 + w1) % Y)) * 4294967296 % Go.Num.B)) (b := w0) rfl rfl) rfl rfl ?_; refine mI e18_5 ?_; refine mI e2_5 ?_; refine w_r (fun _ => R_mulM (a := (((((u * 4294967296 + w1) % Y) * 4294967296 + w0) / Y))) (b := Y) rfl rfl) rfl rfl ?_; refine w_r (fun _ => R_subM (a := ((((((u * 4294967296 + w1) % Y)) * 4294967296 % Go.Num.B) + w0) % Go.Num.B)) (b := ((((((u * 4294967296 + w1) % Y) * 4294967296 + w0) / Y)) * Y % Go.Num.B)) rfl rfl (by exact Nat.le_of_lt (Nat.mod_lt _ B_pos))) rfl rfl ?_
    refine mI e8_5 ?_; refine w_r (fun _ => R_shrU (a := ((((((((u * 4294967296 + w1) % Y)) * 4294967296 % Go.Num.B) + w0) % Go.Num.B) + Go.Num.B - ((((((u * 4294967296 + w1) % Y) * 4294967296 + w0) / Y)) * Y % Go.Num.B)) % Go.Num.B)) (n := s) rfl rfl (by first | exact Nat.mod_lt _ B_pos | (have hBv : Go.Num.B = 18446744073709551616 := rfl; omega))) rfl rfl ?_; refine aI rfl ?_; refine aI rfl ?_; refine yB ?_; refine ze ?_; refine r_two (v := .int _ _) (v2 := .int _ _) rfl rfl rfl rfl rfl ?_; exact fun w' hw => ⟨by rw [half_rest hD.YB hY0, (hD.fin (by omega)).1, (hD.fin (by omega)).2], hw.fr _ (.head _)⟩
end Go.Proofs.YtoapegnngbhkbaaGreatDoor
end
section
namespace Go.Proofs.YtoapegnngbhkbaaGreatDoor
open Go.RowKit Go.Sx
open Go.Num
theorem limb_sum {x y o c : Nat} (hx : x < Go.Num.B) (hy : y < Go.Num.B) (ho : o < Go.Num.B) (hc : c < Go.Num.B) :
  ((x * y % Go.Num.B + o + 0) % Go.Num.B + c + 0) % Go.Num.B = (x * y + o + c) % Go.Num.B ∧ x * y / Go.Num.B + (x * y % Go.Num.B + o + 0) / Go.Num.B + ((x * y % Go.Num.B + o + 0) % Go.Num.B + c + 0) / Go.Num.B = (x * y + o + c) / Go.Num.B ∧ (x * y + o + c) / Go.Num.B < Go.Num.B ∧ x * y / Go.Num.B + (x * y % Go.Num.B + o + 0) / Go.Num.B < Go.Num.B := by
 have h1 := mul_digit hx hy ho hc
 have h2 : ((x * y % Go.Num.B + o + 0) % Go.Num.B + c + 0) % Go.Num.B = (x * y + o + c) % Go.Num.B ∧ x * y / Go.Num.B + (x * y % Go.Num.B + o + 0) / Go.Num.B + ((x * y % Go.Num.B + o + 0) % Go.Num.B + c + 0) / Go.Num.B = (x * y + o + c) / Go.Num.B := by
  generalize x * y = p
  have hB : Go.Num.B = 18446744073709551616 := rfl
  rw [hB]
  constructor <;> omega
 refine ⟨h2.1, h2.2, h1, ?_⟩
 rw [← h2.2] at h1
 exact Nat.lt_of_le_of_lt (Nat.le_add_right _ _) h1
theorem limb_sum2 {x y c : Nat} (hx : x < Go.Num.B) (hy : y < Go.Num.B) (hc : c < Go.Num.B) :
  (x * y % Go.Num.B + c + 0) % Go.Num.B = (x * y + c) % Go.Num.B ∧ x * y / Go.Num.B + (x * y % Go.Num.B + c + 0) / Go.Num.B = (x * y + c) / Go.Num.B ∧ (x * y + c) / Go.Num.B < Go.Num.B := by
 have h1 := mul_digit (o := 0) hx hy B_pos hc
 rw [Nat.add_zero] at h1
 have h2 : (x * y % Go.Num.B + c + 0) % Go.Num.B = (x * y + c) % Go.Num.B ∧ x * y / Go.Num.B + (x * y % Go.Num.B + c + 0) / Go.Num.B = (x * y + c) / Go.Num.B := by
  generalize x * y = p
  have hB : Go.Num.B = 18446744073709551616 := rfl
  rw [hB]
  constructor <;> omega
 exact ⟨h2.1, h2.2, h1⟩
theorem row_start (n m i : Nat) (k : Nat) (hm : m < Go.Num.B ^ k) : n % Go.Num.B ^ i * m < Go.Num.B ^ (i + k) := by
 rw [Nat.pow_add]
 rcases Nat.eq_zero_or_pos m with h | h
 ·subst h; rw [Nat.mul_zero]; exact Nat.mul_pos (Bpow_pos i) (Bpow_pos k)
 ·exact Nat.lt_of_lt_of_le (Nat.mul_lt_mul_of_pos_right (Nat.mod_lt _ (Bpow_pos i)) h) (Nat.mul_le_mul_left _ (Nat.le_of_lt hm))
theorem row_end {n m i k z c : Nat} (hm : m < Go.Num.B ^ k) (h : z % Go.Num.B ^ (i + k) + Go.Num.B ^ (i + k) * c = n % Go.Num.B ^ i * m % Go.Num.B ^ (i + k) + dg Go.Num.B n i * (m % Go.Num.B ^ k) * Go.Num.B ^ i) (hz : z / Go.Num.B ^ (i + k) = n % Go.Num.B ^ i * m / Go.Num.B ^ (i + k)) :
  setd Go.Num.B z (i + k) c = n % Go.Num.B ^ (i + 1) * m := by
 have h0 := row_start n m i k hm
 rw [Nat.div_eq_of_lt h0] at hz
 have hz2 : z < Go.Num.B ^ (i + k) := by
  rcases Nat.lt_or_ge z (Go.Num.B ^ (i + k)) with h5 | h5
  ·exact h5
  ·have := Nat.div_pos h5 (Bpow_pos (i + k)); omega
 rw [setd_zero (dg_out hz2)]
 rw [Nat.mod_eq_of_lt hz2, Nat.mod_eq_of_lt h0, Nat.mod_eq_of_lt hm] at h
 rw [h, mod_step, Nat.add_mul, Nat.mul_comm (Go.Num.B ^ i), Nat.mul_right_comm (dg Go.Num.B n i)]
theorem div_next {z z0 j : Nat} (h : z / Go.Num.B ^ j = z0 / Go.Num.B ^ j) : dg Go.Num.B z j = dg Go.Num.B z0 j ∧ z / Go.Num.B ^ (j + 1) = z0 / Go.Num.B ^ (j + 1) := by
 refine ⟨?_, ?_⟩
 ·unfold dg; rw [h]
 ·rw [Nat.pow_succ, ← Nat.div_div_eq_div_mul, h, Nat.div_div_eq_div_mul]
set_option maxRecDepth 100000 in
set_option maxHeartbeats 4000000 in
theorem Mul_ok {a a2 : Option Addr} {k c k2 c2 n m : Nat} (w : World) (hA : Nm w a k c n) (hB : Nm w a2 k2 c2 m) (hs : k ≤ 4000000 ∧ k2 ≤ 4000000 ∧ sz n ≤ 2048 ∧ sz m ≤ 2048 ∧ sz (n * m) ≤ 2048) :
  Ret Tryz.prog 96 #[.slice a k c, .slice a2 k2 c2] w (Tel (fun a c => .tuple #[.slice a (sz (n * m)) c, .int .i64 0]) (sz (n * m)) (n * m) w) := by
 refine enter (S := No) (l := [_, _]) (L := []) 91 Tryz.func96 rfl rfl rfl (St.start w No) ?_; refine yA ?_; refine za (v := .slice _ _ _) rfl ?_; refine aI rfl ?_; refine yC ?_; refine mS rfl ?_; refine w_tel (fun w => zR Tryz.func78 rfl rfl rfl) rfl rfl (fun w h => normal_ok w ((Kn.old hA).at_ 0 rfl h) (by omega)) (fun x1 a1 c1 hK1 hN1 => ?_)
 refine mS rfl ?_; refine w_tel (fun w => zR Tryz.func78 rfl rfl rfl) rfl rfl (fun w h => normal_ok w ((Kn.old hB).at_ 1 rfl h) (by omega)) (fun x2 a2 c2 hK2 hN2 => ?_)
 refine za (v := .slice _ _ _) rfl ?_; refine za (v := .slice _ _ _) rfl ?_; refine yB ?_; refine zq ?_; refine yA ?_; refine mS rfl ?_; refine mS rfl ?_; refine zS slt139 (by decide) rfl rfl (fun lb glb ulb => ?_)
 refine zC (fun w => zR Tryz.func88 rfl rfl rfl) rfl rfl (fun w h => long2_ok w (h.at_ 0 rfl) (hK1.at_ 1 rfl h) (hK2.at_ 0 rfl h) ⟨by omega, by omega⟩ ⟨by omega, by omega⟩) ?_; refine yB ?_; refine c_condF rfl ?_; refine zi ?_; refine zk ?_; refine yA ?_; refine mS rfl ?_; refine w_r (fun _ => R_len sl23 rfl) rfl rfl ?_; refine mS rfl ?_; refine w_r (fun _ => R_len sl23 rfl) rfl rfl ?_; refine w_r (fun _ => R_addN (n := (sz n)) (b := (sz m)) rfl rfl (by omega)) rfl rfl ?_; refine w_makeU (n := ((sz n) + (sz m))) slt23 rfl rfl (by omega) (by omega) (fun ob gob uob => ?_)
 refine za (v := .slice _ _ _) rfl ?_; refine yB ?_; refine zq ?_; refine yA ?_; refine mS rfl ?_; refine w_r (fun _ => R_len sl23 rfl) rfl rfl ?_; refine mI rfl ?_; refine yB ?_; refine zB ?_; refine c_st (B' := _) (L' := [(ob, cel (lmV (n % Go.Num.B ^ 0 * m) (sz n + sz m)) 66)]) (fun w h => by rw [Nat.pow_zero, Nat.mod_one, Nat.zero_mul]; exact h.drop (.cons_cons _ (List.nil_sublist _))) ?_
 refine c_loop (fun m9 e B L => ∃ (i : Nat), e 0 = .slice a1 (sz n) c1 ∧ e 1 = .slice a2 (sz m) c2 ∧ e 6 = .slice (some ⟨ob, 0, none⟩) (sz n + sz m) (sz n + sz m) ∧ e 29 = .slice a1 (sz n) c1 ∧ e 30 = .int .i64 (sz n : Nat) ∧ e 31 = .int .i64 (i : Nat) ∧ B = [x2, x1, (w, No)] ∧ L = [(ob, cel (lmV (n % Go.Num.B ^ i * m) (sz n + sz m)) 66)] ∧ i ≤ sz n ∧ m9 = sz n + 1 - i) _ ⟨0, rfl, rfl, rfl, rfl, rfl, rfl, rfl, rfl, Nat.zero_le _, rfl⟩ ?_
 rintro m9 e B L ⟨i, e0_1, e1_1, e6_1, e29_1, e30_1, e31_1, rfl, rfl, hi, rfl⟩
 refine yA ?_; refine w_r (fun _ => R_ltN (a := i) (b := (sz n)) e31_1 e30_1) rfl rfl ?_; refine yB ?_; refine zq ?_; refine zD rfl (fun h3 => ?_) (fun h3 => ?_)
 ·refine zi ?_; refine zk ?_; refine zq ?_; refine zB ?_; refine yA ?_; refine mI e31_1 ?_; refine w_r (fun _ => R_iaK (i := i) sl23 e29_1 (hK1.ptr (by omega)) e31_1 (by omega)) rfl rfl ?_; refine zl (v := .int .u64 ((dg Go.Num.B n i) : Nat)) z66 rfl (fun w h => hK1.ca 1 rfl (by omega) h) ?_; refine aI rfl ?_; refine aI rfl ?_; refine yC ?_; refine aI rfl ?_; refine yB ?_; refine zq ?_; refine yA ?_; refine mS e1_1 ?_; refine w_r (fun _ => R_len sl23 rfl) rfl rfl ?_; refine mI rfl ?_; refine yB ?_; refine zB ?_
  refine c_loop (fun m9 e B L => ∃ (z cy q : Nat), e 0 = .slice a1 (sz n) c1 ∧ e 1 = .slice a2 (sz m) c2 ∧ e 6 = .slice (some ⟨ob, 0, none⟩) (sz n + sz m) (sz n + sz m) ∧ e 29 = .slice a1 (sz n) c1 ∧ e 30 = .int .i64 (sz n : Nat) ∧ e 31 = .int .i64 (i : Nat) ∧ e 7 = .int .i64 (i : Nat) ∧ e 8 = .int .u64 (dg Go.Num.B n i : Nat) ∧ e 9 = .int .u64 (cy : Nat) ∧ e 36 = .slice a2 (sz m) c2 ∧ e 37 = .int .i64 (sz m : Nat) ∧ e 38 = .int .i64 (q : Nat) ∧ B = [x2, x1, (w, No)] ∧ L = [(ob, cel (lmV z (sz n + sz m)) 66)] ∧ q ≤ sz m ∧ z % Go.Num.B ^ (i + q) + Go.Num.B ^ (i + q) * cy = (n % Go.Num.B ^ i * m) % Go.Num.B ^ (i + q) + dg Go.Num.B n i * (m % Go.Num.B ^ q) * Go.Num.B ^ i ∧ z / Go.Num.B ^ (i + q) = (n % Go.Num.B ^ i * m) / Go.Num.B ^ (i + q) ∧ cy < Go.Num.B ∧ m9 = sz m + 1 - q) _ ⟨(n % Go.Num.B ^ i * m), 0, 0, e0_1, e1_1, e6_1, e29_1, e30_1, e31_1, rfl, rfl, rfl, rfl, rfl, rfl, rfl, rfl, Nat.zero_le _, by simp [Nat.mod_one], rfl, by decide, rfl⟩ ?_
  rintro m9 e B L ⟨z, cy, q, e0_2, e1_2, e6_2, e29_2, e30_2, e31_2, e7_2, e8_2, e9_2, e36_2, e37_2, e38_2, rfl, rfl, hq, hE, hD, hcy, rfl⟩
  refine yA ?_; refine w_r (fun _ => R_ltN (a := q) (b := (sz m)) e38_2 e37_2) rfl rfl ?_; refine yB ?_; refine zq ?_; refine zD rfl (fun h4 => ?_) (fun h4 => ?_)
  ·have hls := limb_sum (dg_lt B_pos n i) (dg_lt B_pos m q) (dg_lt B_pos z (i + q)) hcy
   refine zi ?_; refine zk ?_; refine zq ?_; refine zB ?_; refine yA ?_; refine mI e38_2 ?_; refine w_r (fun _ => R_iaK (i := q) sl23 e36_2 (hK2.ptr (by omega)) e38_2 (by omega)) rfl rfl ?_; refine zl (v := .int .u64 ((dg Go.Num.B m q) : Nat)) z66 rfl (fun w h => hK2.ca 0 rfl (by omega) h) ?_; refine aI rfl ?_; refine aI rfl ?_; refine yC ?_; refine mI e8_2 ?_; refine mI rfl ?_; refine zC (fun w => zR Tryz.func130 rfl rfl rfl) rfl rfl (fun w h => Mul64_ok (dg Go.Num.B n i) (dg Go.Num.B m q) w (dg_lt B_pos _ _) (dg_lt B_pos _ _)) ?_
   refine zm rfl ?_; refine w_r (fun _ => R_extract rfl rfl) rfl rfl ?_; refine w_r (fun _ => R_extract rfl rfl) rfl rfl ?_; refine aI rfl ?_; refine aI rfl ?_; refine yC ?_; refine mI rfl ?_; refine mS e6_2 ?_; refine mI e7_2 ?_; refine mI rfl ?_; refine w_r (fun _ => R_addN (n := i) (b := q) rfl rfl (by omega)) rfl rfl ?_; refine w_r (fun _ => R_iaN (i := (i + q)) sl23 rfl rfl (by omega)) rfl rfl ?_; refine zl (v := .int .u64 ((dg Go.Num.B z (i + q)) : Nat)) z66 rfl (fun w h => cel_lm 0 rfl (by omega) h) ?_; refine w_r (fun _ => R_callX rfl (add64 ((dg Go.Num.B n i) * (dg Go.Num.B m q) % Go.Num.B) (dg Go.Num.B z (i + q)) 0 (by omega) _)) rfl rfl ?_; refine zm rfl ?_
   refine w_r (fun _ => R_extract rfl rfl) rfl rfl ?_; refine w_r (fun _ => R_extract rfl rfl) rfl rfl ?_; refine aI rfl ?_; refine aI rfl ?_; refine yC ?_; refine mI rfl ?_; refine mI rfl ?_; refine w_r (fun _ => R_addU (a := ((dg Go.Num.B n i) * (dg Go.Num.B m q) / Go.Num.B)) (b := ((((dg Go.Num.B n i) * (dg Go.Num.B m q) % Go.Num.B) + (dg Go.Num.B z (i + q)) + 0) / Go.Num.B)) rfl rfl (by exact hls.2.2.2)) rfl rfl ?_; refine aI rfl ?_; refine yC ?_; refine mI rfl ?_; refine mI e9_2 ?_
   refine w_r (fun _ => R_callX rfl (add64 ((((dg Go.Num.B n i) * (dg Go.Num.B m q) % Go.Num.B) + (dg Go.Num.B z (i + q)) + 0) % Go.Num.B) cy 0 (by omega) _)) rfl rfl ?_; refine zm rfl ?_; refine w_r (fun _ => R_extract rfl rfl) rfl rfl ?_; refine w_r (fun _ => R_extract rfl rfl) rfl rfl ?_; refine aI rfl ?_; refine aI rfl ?_; refine yB ?_; refine zr ?_; refine mS e6_2 ?_; refine mI e7_2 ?_; refine mI rfl ?_; refine w_r (fun _ => R_addN (n := i) (b := q) rfl rfl (by omega)) rfl rfl ?_; refine mI rfl ?_; refine mI rfl ?_
   refine mI rfl ?_; refine w_r (fun _ => R_addU (a := (((dg Go.Num.B n i) * (dg Go.Num.B m q) / Go.Num.B) + ((((dg Go.Num.B n i) * (dg Go.Num.B m q) % Go.Num.B) + (dg Go.Num.B z (i + q)) + 0) / Go.Num.B))) (b := ((((((dg Go.Num.B n i) * (dg Go.Num.B m q) % Go.Num.B) + (dg Go.Num.B z (i + q)) + 0) % Go.Num.B) + cy + 0) / Go.Num.B)) rfl rfl (by rw [hls.2.1]; exact hls.2.2.1)) rfl rfl ?_; refine w_r (fun _ => R_iaN (i := (i + q)) sl23 rfl rfl (by omega)) rfl rfl ?_; refine w_putU (dv := ((((((dg Go.Num.B n i) * (dg Go.Num.B m q) % Go.Num.B) + (dg Go.Num.B z (i + q)) + 0) % Go.Num.B) + cy + 0) % Go.Num.B)) (z' := (setd Go.Num.B z (i + q) ((dg Go.Num.B n i * dg Go.Num.B m q + dg Go.Num.B z (i + q) + cy) % Go.Num.B))) (j := (i + q)) 0 rfl z66 rfl rfl (by exact Nat.mod_lt _ B_pos) (by omega) (by rw [hls.1]) ?_
   refine aI rfl ?_; refine zn ?_; refine b_on (zk ?_); refine zr ?_; refine w_r (fun _ => R_addN (n := q) (b := 1) e38_2 rfl (by omega)) rfl rfl ?_; refine mI rfl ?_; refine zn ?_
   have hdn := div_next hD
   exact k_again _ (by omega) ⟨(setd Go.Num.B z (i + q) ((dg Go.Num.B n i * dg Go.Num.B m q + dg Go.Num.B z (i + q) + cy) % Go.Num.B)), ((dg Go.Num.B n i * dg Go.Num.B m q + dg Go.Num.B z (i + q) + cy) / Go.Num.B), q + 1, e0_2, e1_2, e6_2, e29_2, e30_2, e31_2, e7_2, e8_2, by rw [← hls.2.1]; rfl, e36_2, e37_2, rfl, rfl, rfl, by omega, mul_step B_pos hE hdn.1, (setd_div B_pos (Nat.mod_lt _ B_pos)).trans hdn.2, hls.2.2.1, rfl⟩
  ·obtain rfl : q = sz m := (by omega)
   refine c_exit ?_; refine zx (zx (b_here rfl (zk ?_))); refine zr ?_; refine mS e6_2 ?_; refine mI e7_2 ?_; refine mS e1_2 ?_; refine w_r (fun _ => R_len sl23 rfl) rfl rfl ?_; refine w_r (fun _ => R_addN (n := i) (b := (sz m)) rfl rfl (by omega)) rfl rfl ?_; refine mI e9_2 ?_; refine w_r (fun _ => R_iaN (i := (i + (sz m))) sl23 rfl rfl (by omega)) rfl rfl ?_; refine w_putU (dv := cy) (z' := (n % Go.Num.B ^ (i + 1) * m)) (j := (i + (sz m))) 0 rfl z66 rfl rfl (by exact hcy) (by omega) (row_end (lt_sz m) hE hD) ?_; refine zn ?_; refine b_on (zk ?_); refine zr ?_; refine w_r (fun _ => R_addN (n := i) (b := 1) e31_2 rfl (by omega)) rfl rfl ?_; refine mI rfl ?_; refine zn ?_
   exact k_again _ (by omega) ⟨i + 1, e0_2, e1_2, e6_2, e29_2, e30_2, rfl, rfl, rfl, by omega, rfl⟩
 ·have hfin : n % Go.Num.B ^ i * m = n * m := (by obtain rfl : i = sz n := (by omega); rw [Nat.mod_eq_of_lt (lt_sz n)]); rw [hfin]; have hfl : n * m < Go.Num.B ^ (sz n + sz m) := (by rw [← hfin]; exact Nat.lt_of_lt_of_le (row_start n m i (sz m) (lt_sz m)) (Nat.pow_le_pow_right B_pos (by omega)))
  refine c_exit ?_; refine zx (zx (b_here rfl (zk ?_))); refine yA ?_; refine mS e6_1 ?_; refine w_tel (fun w => zR Tryz.func105 rfl rfl rfl) rfl rfl (fun w h => told_ok w (Nm.own 0 rfl hfl (Nat.le_refl _) h) ⟨by omega, by omega⟩) (fun x5 a5 c5 hK5 hN5 => ?_)
  refine w_r (fun _ => R_extract rfl rfl) rfl rfl ?_; refine w_r (fun _ => R_extract rfl rfl) rfl rfl ?_; refine za (v := .slice _ _ _) rfl ?_; refine aI rfl ?_; refine yB ?_; refine ze ?_; refine r_two (v := .slice _ _ _) (v2 := .int _ _) rfl rfl rfl rfl rfl ?_; exact fun w' hw => ⟨_, _, rfl, (hK5.at_ 0 rfl hw), (hN5 _ (.tail _ (.tail _ (.head _)))), hw.fr (w, No) (.tail _ (.tail _ (.tail _ (.head _))))⟩
end Go.Proofs.YtoapegnngbhkbaaGreatDoor
end
section
namespace Go.Proofs.YtoapegnngbhkbaaGreatDoor
open Go.RowKit Go.Sx
open Go.Num
theorem dgs_inj {n m k : Nat} (hn : n < Go.Num.B ^ k) (hm : m < Go.Num.B ^ k) (h : dgs Go.Num.B n k = dgs Go.Num.B m k) : n = m := by
 have := congrArg (vlb Go.Num.B) h
 rwa [vlb_dgs, vlb_dgs, Nat.mod_eq_of_lt hn, Nat.mod_eq_of_lt hm] at this
theorem shift_lt {a i s k : Nat} (hs : s < 64) (hk : i < k) : a % Go.Num.B ^ i * 2 ^ s < Go.Num.B ^ k := by
 have h1 : a % Go.Num.B ^ i * 2 ^ s < Go.Num.B ^ i * 2 ^ s := Nat.mul_lt_mul_of_pos_right (Nat.mod_lt _ (Bpow_pos i)) (Nat.pow_pos (by decide))
 have h2 : Go.Num.B ^ i * 2 ^ s ≤ Go.Num.B ^ i * Go.Num.B := Nat.mul_le_mul_left _ (by rw [B_two]; exact Nat.pow_le_pow_right (by decide) (by omega))
 rw [← Nat.pow_succ] at h2
 exact Nat.lt_of_lt_of_le (Nat.lt_of_lt_of_le h1 h2) (Nat.pow_le_pow_right B_pos hk)
theorem shift_setd {a i s k : Nat} (hs : s < 64) (hk : i + 1 < k) :
  dg Go.Num.B (a % Go.Num.B ^ i * 2 ^ s) i ||| dg Go.Num.B a i * 2 ^ s % Go.Num.B < Go.Num.B ∧ dg Go.Num.B a i / 2 ^ 1 / 2 ^ (63 - s) < Go.Num.B ∧
  setd Go.Num.B (setd Go.Num.B (a % Go.Num.B ^ i * 2 ^ s) i (dg Go.Num.B (a % Go.Num.B ^ i * 2 ^ s) i ||| dg Go.Num.B a i * 2 ^ s % Go.Num.B)) (i + 1) (dg Go.Num.B a i / 2 ^ 1 / 2 ^ (63 - s)) = a % Go.Num.B ^ (i + 1) * 2 ^ s := by
 obtain ⟨h1, h2, h3, h4⟩ := shift_step (a := a) (i := i) (n := s) (k := k) hs hk rfl rfl
 refine ⟨h2, h3, ?_⟩
 rw [dgs_set B_pos h2 (by omega), dgs_set B_pos h3 hk] at h4
 exact dgs_inj (setd_lt B_pos h3 (setd_lt B_pos h2 (shift_lt hs (by omega)) (by omega)) hk) (shift_lt hs hk) h4
set_option maxRecDepth 100000 in
set_option maxHeartbeats 2000000 in
theorem shift_ok {a : Option Addr} {k c n s : Nat} (w : World) (hA : Nm w a k c n) (hs : s < 64) (hk : k ≤ 4000000) :
  Ret Tryz.prog 106 #[.slice a k c, .int .i64 (s : Nat)] w (fun v w' => ∃ W, (∃ b, v = .slice (some ⟨b, 0, none⟩) (k + 1) (k + 1) ∧ W = [(b, cel (lmV (n * 2 ^ s) (k + 1)) 66)]) ∧ New w w' W) := by
 refine enter (S := No) (l := [_, _]) (L := []) 39 Tryz.func106 rfl rfl rfl (St.start w No) ?_; refine yA ?_; refine za (v := .slice _ _ _) rfl ?_; refine yC ?_; refine mS rfl ?_; refine w_r (fun _ => R_len sl23 rfl) rfl rfl ?_; refine w_r (fun _ => R_addN (n := k) (b := 1) rfl rfl (by omega)) rfl rfl ?_; refine w_makeU (n := (k + 1)) slt23 rfl rfl (by omega) (by omega) (fun ob gob uob => ?_)
 refine za (v := .slice _ _ _) rfl ?_; refine yB ?_; refine zq ?_; refine yA ?_; refine mS rfl ?_; refine w_r (fun _ => R_len sl23 rfl) rfl rfl ?_; refine mI rfl ?_; refine yB ?_; refine zB ?_; refine c_st (B' := _) (L' := [(ob, cel (lmV (n % Go.Num.B ^ 0 * 2 ^ s) (k + 1)) 66)]) (fun w h => by rw [Nat.pow_zero, Nat.mod_one, Nat.zero_mul]; exact h) ?_; refine c_loop (fun m9 e B L => ∃ (i : Nat), e 0 = .slice a k c ∧ e 1 = .int .i64 (s : Nat) ∧ e 5 = .slice (some ⟨ob, 0, none⟩) (k + 1) (k + 1) ∧ e 12 = .slice a k c ∧ e 13 = .int .i64 (k : Nat) ∧ e 14 = .int .i64 (i : Nat) ∧ B = [(w, No)] ∧ L = [(ob, cel (lmV (n % Go.Num.B ^ i * 2 ^ s) (k + 1)) 66)] ∧ i ≤ k ∧ m9 = k + 1 - i) _ ⟨0, rfl, rfl, rfl, rfl, rfl, rfl, rfl, rfl, Nat.zero_le _, rfl⟩ ?_
 rintro m9 e B L ⟨i, e0_1, e1_1, e5_1, e12_1, e13_1, e14_1, rfl, rfl, hi, rfl⟩
 refine yA ?_; refine w_r (fun _ => R_ltN (a := i) (b := k) e14_1 e13_1) rfl rfl ?_; refine yB ?_; refine zq ?_; refine zD rfl (fun h1 => ?_) (fun h1 => ?_)
 ·have hst := shift_setd (a := n) (i := i) (k := k + 1) hs (by omega)
  refine zi ?_; refine zk ?_; refine zq ?_; refine zB ?_; refine yA ?_; refine mI e14_1 ?_; refine w_r (fun _ => R_iaK (i := i) sl23 e12_1 ((Kn.old hA).ptr (by omega)) e14_1 (by omega)) rfl rfl ?_; refine zl (v := .int .u64 ((dg Go.Num.B n i) : Nat)) z66 rfl (fun w h => (Kn.old hA).ca 0 rfl (by omega) h) ?_; refine aI rfl ?_; refine aI rfl ?_; refine yB ?_; refine zq ?_; refine c_tail 9 mixed (by kernel_rfl) ?_; refine mS e5_1 ?_; refine mI rfl ?_; refine w_r (fun _ => R_iaN (i := i) sl23 rfl rfl (by omega)) rfl rfl ?_; refine zl (v := .int .u64 ((dg Go.Num.B (n % Go.Num.B ^ i * 2 ^ s) i) : Nat)) z66 rfl (fun w h => cel_lm 0 rfl (by omega) h) ?_
  refine mI rfl ?_; refine mI e1_1 ?_; refine w_r (fun _ => R_shlU (a := (dg Go.Num.B n i)) (n := s) rfl rfl (by omega)) rfl rfl ?_; refine w_r (fun _ => R_orU (a := (dg Go.Num.B (n % Go.Num.B ^ i * 2 ^ s) i)) (b := ((dg Go.Num.B n i) * 2 ^ s % Go.Num.B)) rfl rfl (by first | omega | exact dg_lt B_pos _ _) (by exact Nat.mod_lt _ B_pos)) rfl rfl ?_; refine w_r (fun _ => R_iaN (i := i) sl23 rfl rfl (by omega)) rfl rfl ?_; refine w_tailU (dv := ((dg Go.Num.B (n % Go.Num.B ^ i * 2 ^ s) i) ||| ((dg Go.Num.B n i) * 2 ^ s % Go.Num.B))) (z' := (setd Go.Num.B (n % Go.Num.B ^ i * 2 ^ s) i ((dg Go.Num.B (n % Go.Num.B ^ i * 2 ^ s) i) ||| ((dg Go.Num.B n i) * 2 ^ s % Go.Num.B)))) (j := i) 0 rfl z66 rfl rfl (by exact hst.1) (by omega) (rfl) ?_
  refine zk ?_; refine zr ?_; refine mS e5_1 ?_; refine mI rfl ?_; refine w_r (fun _ => R_addN (n := i) (b := 1) rfl rfl (by omega)) rfl rfl ?_; refine mI rfl ?_; refine w_r (fun _ => R_shrU (a := (dg Go.Num.B n i)) (n := 1) rfl rfl (by omega)) rfl rfl ?_; refine mI e1_1 ?_; refine w_r (fun _ => R_subN (n := 63) (b := s) rfl rfl (by omega) (by omega)) rfl rfl ?_; refine w_r (fun _ => R_shrU (a := ((dg Go.Num.B n i) / 2 ^ 1)) (n := (63 - s)) rfl rfl (by omega)) rfl rfl ?_; refine w_r (fun _ => R_iaN (i := (i + 1)) sl23 rfl rfl (by omega)) rfl rfl ?_; refine w_putU (dv := (((dg Go.Num.B n i) / 2 ^ 1) / 2 ^ (63 - s))) (z' := (n % Go.Num.B ^ (i + 1) * 2 ^ s)) (j := (i + 1)) 0 rfl z66 rfl rfl (by exact hst.2.1) (by omega) (hst.2.2) ?_
  refine zn ?_; refine b_on (zk ?_); refine zr ?_; refine w_r (fun _ => R_addN (n := i) (b := 1) e14_1 rfl (by omega)) rfl rfl ?_; refine mI rfl ?_; refine zn ?_; exact k_again _ (by omega) ⟨i + 1, e0_1, e1_1, e5_1, e12_1, e13_1, rfl, rfl, rfl, by omega, rfl⟩
 ·have hfin : n % Go.Num.B ^ i = n := (by obtain rfl : i = k := (by omega); exact Nat.mod_eq_of_lt hA.lt); rw [hfin]
  refine c_exit ?_; refine zx (zx (b_here rfl (zk ?_))); refine yA ?_; refine mS e5_1 ?_; refine za (v := .slice _ _ _) rfl ?_; refine yB ?_; refine ze ?_; refine zo (v := .slice _ _ _) rfl rfl rfl ?_; exact fun w' hw => ⟨_, ⟨ob, rfl, rfl⟩, St.made (A := []) hw⟩
set_option maxRecDepth 100000 in
set_option maxHeartbeats 2000000 in
theorem small_ok {a : Option Addr} {k c n d : Nat} (w : World) (hA : Nm w a k c n) (hd : 0 < d ∧ d < Go.Num.B) (hk : k ≤ 4000000) :
  Ret Tryz.prog 89 #[.slice a k c, .int .u64 (d : Nat)] w (Tel (fun a c => .tuple #[.slice a (sz (n / d)) c, .int .u64 (n % d : Nat)]) (sz (n / d)) (n / d) w) := by
 have hnd : n / d < Go.Num.B ^ k := Nat.lt_of_le_of_lt (Nat.div_le_self _ _) hA.lt
 refine enter (S := No) (l := [_, _]) (L := []) 35 Tryz.func89 rfl rfl rfl (St.start w No) ?_; refine yA ?_; refine za (v := .slice _ _ _) rfl ?_; refine aI rfl ?_; refine yC ?_; refine mS rfl ?_; refine w_r (fun _ => R_len sl23 rfl) rfl rfl ?_; refine w_makeU (n := k) slt23 rfl rfl (by omega) (by omega) (fun ob gob uob => ?_)
 refine za (v := .slice _ _ _) rfl ?_; refine yC ?_; refine aI rfl ?_; refine yB ?_; refine zq ?_; refine yA ?_; refine mS rfl ?_; refine w_r (fun _ => R_len sl23 rfl) rfl rfl ?_; refine w_r (fun _ => R_subi rfl rfl (by omega)) rfl rfl ?_; refine aI rfl ?_; refine yB ?_; refine zB ?_; refine c_st (B' := _) (L' := [(ob, cel (lmV (n / d / Go.Num.B ^ k * Go.Num.B ^ k) k) 66)]) (fun w h => by rw [Nat.div_eq_of_lt hnd, Nat.zero_mul]; exact h) ?_
 refine c_loop (fun m9 e B L => ∃ (j : Nat), e 0 = .slice a k c ∧ e 1 = .int .u64 (d : Nat) ∧ e 6 = .slice (some ⟨ob, 0, none⟩) k k ∧ e 7 = .int .u64 (n / Go.Num.B ^ j % d : Nat) ∧ e 8 = .int .i64 ((j : Nat) - 1) ∧ B = [(w, No)] ∧ L = [(ob, cel (lmV (n / d / Go.Num.B ^ j * Go.Num.B ^ j) k) 66)] ∧ j ≤ k ∧ m9 = j + 1) _ ⟨k, rfl, rfl, rfl, by rw [Nat.div_eq_of_lt hA.lt, Nat.zero_mod]; rfl, rfl, rfl, rfl, Nat.le_refl _, rfl⟩ ?_
 rintro m9 e B L ⟨j, e0_1, e1_1, e6_1, e7_1, e8_1, rfl, rfl, hj, rfl⟩
 refine zq ?_; refine yA ?_; refine mI e8_1 ?_; refine w_r (fun _ => R_ge rfl rfl) rfl rfl ?_; refine yB ?_; refine zD rfl (fun h1 => ?_) (fun h1 => ?_)
 ·obtain ⟨i, rfl⟩ : ∃ i, j = i + 1 := ⟨j - 1, by omega⟩; have ejq : e 8 = .int .i64 ((i : Nat) : Int) := e8_1.trans (congrArg (Value.int .i64) (by omega)); have hst := small_digit B_pos hd.1 n i
  refine zi ?_; refine zk ?_; refine zq ?_; refine zB ?_; refine zr ?_; refine mS e6_1 ?_; refine mI ejq ?_; refine mI e7_1 ?_; refine mS e0_1 ?_; refine mI ejq ?_; refine w_r (fun _ => R_iaK (i := i) sl23 rfl ((Kn.old hA).ptr (by omega)) rfl (by omega)) rfl rfl ?_; refine zl (v := .int .u64 ((dg Go.Num.B n i) : Nat)) z66 rfl (fun w h => (Kn.old hA).ca 0 rfl (by omega) h) ?_; refine mI e1_1 ?_; refine zC (fun w => zR Tryz.func119 rfl rfl rfl) rfl rfl (fun w h => Div64_ok w (Nat.mod_lt _ hd.1) hd.2 (dg_lt B_pos _ _)) ?_; refine zm rfl ?_; refine w_r (fun _ => R_extract rfl rfl) rfl rfl ?_; refine w_r (fun _ => R_extract rfl rfl) rfl rfl ?_; refine w_r (fun _ => R_iaN (i := i) sl23 rfl rfl (by omega)) rfl rfl ?_
  refine w_putU (dv := ((n / Go.Num.B ^ (i + 1) % d * Go.Num.B + dg Go.Num.B n i) / d)) (z' := (n / d / Go.Num.B ^ i * Go.Num.B ^ i)) (j := i) 0 rfl z66 rfl rfl (by exact hst.1) (by omega) (by rw [setd_zero (high_dg B_pos _ _), ← hst.2, ← high_step]) ?_; refine aI rfl ?_; refine zn ?_; refine b_on (zk ?_); refine zr ?_; refine mI ejq ?_; refine w_r (fun _ => R_subi rfl rfl (by omega)) rfl rfl ?_; refine aI rfl ?_; refine zn ?_; exact k_again _ (by omega) ⟨i, e0_1, e1_1, e6_1, by rw [(small_step B_pos hd.1 n i).2]; rfl, rfl, rfl, rfl, by omega, rfl⟩
 ·obtain rfl : j = 0 := (by omega); rw [Nat.pow_zero, Nat.div_one, Nat.mul_one]; rw [Nat.pow_zero, Nat.div_one] at e7_1
  refine c_exit ?_; refine zx (zx (b_here rfl (zk ?_))); refine yA ?_; refine mS e6_1 ?_; refine w_tel (fun w => zR Tryz.func78 rfl rfl rfl) rfl rfl (fun w h => normal_ok w (Nm.own 0 rfl hnd (Nat.le_refl _) h) (by omega)) (fun x2 a2 c2 hK2 hN2 => ?_)
  refine mI e7_1 ?_; refine za (v := .slice _ _ _) rfl ?_; refine aI rfl ?_; refine yB ?_; refine ze ?_; refine r_two (v := .slice _ _ _) (v2 := .int _ _) rfl rfl rfl rfl rfl ?_; exact fun w' hw => ⟨_, _, rfl, (hK2.at_ 0 rfl hw), (hN2 _ (.head _)), hw.fr (w, No) (.tail _ (.head _))⟩
end Go.Proofs.YtoapegnngbhkbaaGreatDoor
end
section
namespace Go.Proofs.YtoapegnngbhkbaaGreatDoor
open Go.RowKit Go.Sx
open Go.Num
set_option maxRecDepth 100000 in
set_option maxHeartbeats 2000000 in
theorem times_ok {a : Option Addr} {k c n g : Nat} (w : World) (hA : Nm w a k c n) (hg : g < Go.Num.B) (hk : k ≤ 3000000) :
  Ret Tryz.prog 139 #[.slice a k c, .int .u64 (g : Nat)] w (Tel (fun a c => .slice a (sz (n * g)) c) (sz (n * g)) (n * g) w) := by
 have hfl : n * g < Go.Num.B ^ (k + 1) := by
  rw [Nat.pow_succ]
  rcases Nat.eq_zero_or_pos g with h0 | h0
  ·subst h0; rw [Nat.mul_zero]; exact Nat.mul_pos (Bpow_pos k) B_pos
  ·exact Nat.lt_of_lt_of_le (Nat.mul_lt_mul_of_pos_right hA.lt h0) (Nat.mul_le_mul_left _ (Nat.le_of_lt hg))
 refine enter (S := No) (l := [_, _]) (L := []) 50 Tryz.func139 rfl rfl rfl (St.start w No) ?_; refine yA ?_; refine za (v := .slice _ _ _) rfl ?_; refine yC ?_; refine mS rfl ?_; refine w_r (fun _ => R_len sl23 rfl) rfl rfl ?_; refine w_r (fun _ => R_addN (n := k) (b := 1) rfl rfl (by omega)) rfl rfl ?_; refine w_makeU (n := (k + 1)) slt23 rfl rfl (by omega) (by omega) (fun ob gob uob => ?_)
 refine za (v := .slice _ _ _) rfl ?_; refine yC ?_; refine aI rfl ?_; refine yB ?_; refine zq ?_; refine yA ?_; refine mS rfl ?_; refine w_r (fun _ => R_len sl23 rfl) rfl rfl ?_; refine mI rfl ?_; refine yB ?_; refine zB ?_; refine c_st (B' := _) (L' := [(ob, cel (lmV (n % Go.Num.B ^ 0 * g % Go.Num.B ^ 0) (k + 1)) 66)]) (fun w h => by rw [Nat.pow_zero, Nat.mod_one]; exact h) ?_
 refine c_loop (fun m9 e B L => ∃ (i : Nat), e 0 = .slice a k c ∧ e 1 = .int .u64 (g : Nat) ∧ e 5 = .slice (some ⟨ob, 0, none⟩) (k + 1) (k + 1) ∧ e 6 = .int .u64 ((n % Go.Num.B ^ i * g / Go.Num.B ^ i) : Nat) ∧ e 16 = .slice a k c ∧ e 17 = .int .i64 (k : Nat) ∧ e 18 = .int .i64 (i : Nat) ∧ B = [(w, No)] ∧ L = [(ob, cel (lmV (n % Go.Num.B ^ i * g % Go.Num.B ^ i) (k + 1)) 66)] ∧ i ≤ k ∧ m9 = k + 1 - i) _ ⟨0, rfl, rfl, rfl, by rw [Nat.pow_zero, Nat.mod_one, Nat.zero_mul]; rfl, rfl, rfl, rfl, rfl, rfl, Nat.zero_le _, rfl⟩ ?_
 rintro m9 e B L ⟨i, e0_1, e1_1, e5_1, e6_1, e16_1, e17_1, e18_1, rfl, rfl, hi, rfl⟩
 refine yA ?_; refine w_r (fun _ => R_ltN (a := i) (b := k) e18_1 e17_1) rfl rfl ?_; refine yB ?_; refine zq ?_; refine zD rfl (fun h1 => ?_) (fun h1 => ?_)
 ·have hts := times_step B_pos n g i; simp only at hts; have hls := limb_sum2 (dg_lt B_pos n i) hg (times_carry B_pos (a := n) hg i)
  refine zi ?_; refine zk ?_; refine zq ?_; refine zB ?_; refine yA ?_; refine mI e18_1 ?_; refine w_r (fun _ => R_iaK (i := i) sl23 e16_1 ((Kn.old hA).ptr (by omega)) e18_1 (by omega)) rfl rfl ?_; refine zl (v := .int .u64 ((dg Go.Num.B n i) : Nat)) z66 rfl (fun w h => (Kn.old hA).ca 0 rfl (by omega) h) ?_; refine aI rfl ?_; refine aI rfl ?_; refine yC ?_; refine mI rfl ?_; refine mI e1_1 ?_; refine zC (fun w => zR Tryz.func130 rfl rfl rfl) rfl rfl (fun w h => Mul64_ok (dg Go.Num.B n i) g w (dg_lt B_pos _ _) hg) ?_; refine zm rfl ?_; refine w_r (fun _ => R_extract rfl rfl) rfl rfl ?_; refine w_r (fun _ => R_extract rfl rfl) rfl rfl ?_; refine aI rfl ?_
  refine aI rfl ?_; refine yC ?_; refine mI rfl ?_; refine mI e6_1 ?_; refine w_r (fun _ => R_callX rfl (add64 ((dg Go.Num.B n i) * g % Go.Num.B) ((n % Go.Num.B ^ i * g / Go.Num.B ^ i)) 0 (by omega) _)) rfl rfl ?_; refine zm rfl ?_; refine w_r (fun _ => R_extract rfl rfl) rfl rfl ?_; refine w_r (fun _ => R_extract rfl rfl) rfl rfl ?_; refine aI rfl ?_; refine aI rfl ?_; refine yB ?_; refine zr ?_; refine mS e5_1 ?_; refine mI rfl ?_; refine mI rfl ?_
  refine mI rfl ?_; refine mI rfl ?_; refine w_r (fun _ => R_addU (a := ((dg Go.Num.B n i) * g / Go.Num.B)) (b := ((((dg Go.Num.B n i) * g % Go.Num.B) + ((n % Go.Num.B ^ i * g / Go.Num.B ^ i)) + 0) / Go.Num.B)) rfl rfl (by rw [hls.2.1]; exact hls.2.2)) rfl rfl ?_; refine w_r (fun _ => R_iaN (i := i) sl23 rfl rfl (by omega)) rfl rfl ?_; refine w_putU (dv := ((((dg Go.Num.B n i) * g % Go.Num.B) + ((n % Go.Num.B ^ i * g / Go.Num.B ^ i)) + 0) % Go.Num.B)) (z' := (n % Go.Num.B ^ (i + 1) * g % Go.Num.B ^ (i + 1))) (j := i) 0 rfl z66 rfl rfl (by exact Nat.mod_lt _ B_pos) (by omega) (by rw [setd_zero (dg_out (Nat.mod_lt _ (Bpow_pos i))), hls.1, ← hts.1]) ?_; refine aI rfl ?_; refine zn ?_; refine b_on (zk ?_); refine zr ?_; refine w_r (fun _ => R_addN (n := i) (b := 1) e18_1 rfl (by omega)) rfl rfl ?_
  refine mI rfl ?_; refine zn ?_; exact k_again _ (by omega) ⟨i + 1, e0_1, e1_1, e5_1, by rw [hts.2, ← hls.2.1]; rfl, e16_1, e17_1, rfl, rfl, rfl, by omega, rfl⟩
 ·have hik : i = k := (by omega)
  refine c_exit ?_; refine zx (zx (b_here rfl (zk ?_))); refine yA ?_; refine mS e5_1 ?_; refine mS e0_1 ?_; refine w_r (fun _ => R_len sl23 rfl) rfl rfl ?_; refine mI e6_1 ?_; refine w_r (fun _ => R_iaN (i := k) sl23 rfl rfl (by omega)) rfl rfl ?_; refine w_putU (dv := ((n % Go.Num.B ^ i * g / Go.Num.B ^ i))) (z' := (n * g)) (j := k) 0 rfl z66 rfl rfl (by exact times_carry B_pos hg _) (by omega) (by obtain rfl : i = k := (by omega); rw [setd_zero (dg_out (Nat.mod_lt _ (Bpow_pos i))), Nat.mod_eq_of_lt hA.lt, Nat.mod_add_div]) ?_; refine yC ?_; refine mS e5_1 ?_
  refine w_tel (fun w => zR Tryz.func78 rfl rfl rfl) rfl rfl (fun w h => normal_ok w (Nm.own 0 rfl hfl (Nat.le_refl _) h) (by omega)) (fun x2 a2 c2 hK2 hN2 => ?_)
  refine za (v := .slice _ _ _) rfl ?_; refine yB ?_; refine ze ?_; refine zo (v := .slice _ _ _) rfl rfl rfl ?_; exact fun w' hw => ⟨_, _, rfl, (hK2.at_ 0 rfl hw), (hN2 _ (.head _)), hw.fr (w, No) (.tail _ (.head _))⟩
set_option maxRecDepth 100000 in
set_option maxHeartbeats 2000000 in
theorem guess_ok {a : Option Addr} {q c u v i k : Nat} (w : World) (hU : Nm w a q c u) (hs : q ≤ 4000000 ∧ i < q ∧ 1 < k ∧ k ≤ i) (hv : v < Go.Num.B ^ k) (ht : 0 < dg Go.Num.B v (k - 1)) (hu : u < Go.Num.B ^ (i + 1)) (hQ : u / Go.Num.B ^ (i - k) / v < Go.Num.B) :
  Ret Tryz.prog 138 #[.slice a q c, .int .u64 (dg Go.Num.B v (k - 1) : Nat), .int .u64 (dg Go.Num.B v (k - 2) : Nat), .int .i64 (i : Nat)] w (fun v' w' => (∃ g, v' = .int .u64 (g : Nat) ∧ u / Go.Num.B ^ (i - k) / v ≤ g ∧ g < Go.Num.B) ∧ Ext w w') := by
 have hB1 := dg_lt B_pos v (k - 1)
 refine enter (S := No) (l := [_, _, _, _]) (L := []) 71 Tryz.func138 rfl rfl rfl (St.start w No) ?_; refine yA ?_; refine aI rfl ?_; refine yB ?_; refine zq ?_; refine yA ?_; refine mS rfl ?_; refine mI rfl ?_; refine w_r (fun _ => R_iaK (i := i) sl23 rfl ((Kn.old hU).ptr (by omega)) rfl (by omega)) rfl rfl ?_; refine zl (v := .int .u64 ((dg Go.Num.B u i) : Nat)) z66 rfl (fun w h => (Kn.old hU).ca 0 rfl (by omega) h) ?_; refine mI rfl ?_; refine w_r (fun _ => R_geN (a := (dg Go.Num.B u i)) (b := (dg Go.Num.B v (k - 1))) rfl rfl) rfl rfl ?_; refine yB ?_; refine zD rfl (fun h1 => ?_) (fun h1 => ?_)
 ·refine yA ?_; refine aI rfl ?_; refine yB ?_; refine ze ?_; refine zt (?_)
  refine zo (v := .int _ _) rfl rfl rfl ?_; exact fun w' hw => ⟨⟨18446744073709551615, rfl, by have hBv : Go.Num.B = 18446744073709551616 := rfl; omega, by decide⟩, hw.fr _ (.head _)⟩
 ·refine zi ?_; refine zk ?_; refine zq ?_; refine c_heldS mixed ?_; refine zh (v := .slice _ _ _) 0 rfl (by kernel_rfl) rfl rfl (fun w h => h) (fun w h => R_move rfl) ?_; refine zh (v := .int _ _) 1 rfl (by kernel_rfl) rfl rfl (fun w h => h) (fun w h => R_move rfl) ?_; refine zh 2 rfl (by kernel_rfl) rfl rfl (fun w h => h) (fun w h => R_iaK (i := i) sl23 rfl ((Kn.old hU).ptr (by omega)) rfl (by omega)) ?_; refine zh (v := .int .u64 ((dg Go.Num.B u i) : Nat)) 3 rfl (by kernel_rfl) rfl rfl (fun w h => h) (fun w h => R_ld1 z66 rfl ((Kn.old hU).ca 0 rfl (by omega) h)) ?_; refine zh (v := .slice _ _ _) 4 rfl (by kernel_rfl) rfl rfl (fun w h => h) (fun w h => R_move rfl) ?_; refine zh (v := .int _ _) 5 rfl (by kernel_rfl) rfl rfl (fun w h => h) (fun w h => R_move rfl) ?_
  refine zh 6 rfl (by kernel_rfl) rfl rfl (fun w h => h) (fun w h => R_subN (n := i) (b := 1) rfl rfl (by omega) (by omega)) ?_; refine zh 7 rfl (by kernel_rfl) rfl rfl (fun w h => h) (fun w h => R_iaK (i := (i - 1)) sl23 rfl ((Kn.old hU).ptr (by omega)) rfl (by omega)) ?_; refine zh (v := .int .u64 ((dg Go.Num.B u (i - 1)) : Nat)) 8 rfl (by kernel_rfl) rfl rfl (fun w h => h) (fun w h => R_ld1 z66 rfl ((Kn.old hU).ca 0 rfl (by omega) h)) ?_; refine zh (v := .int _ _) 9 rfl (by kernel_rfl) rfl rfl (fun w h => h) (fun w h => R_move rfl) ?_; refine h_one 10 (by kernel_rfl) (fun w h => h) ?_; refine o_pureW rfl (wn_none rfl) rfl (fun w => zR Tryz.func119 rfl rfl rfl) (fun w h => Div64_ok w (by omega) (dg_lt B_pos _ _) (dg_lt B_pos _ _)) ?_; refine zh 11 rfl (by kernel_rfl) rfl rfl (fun w h => h) (fun w h => R_move rfl) ?_
  refine zh 12 rfl (by kernel_rfl) rfl rfl (fun w h => h) (fun w h => R_extract rfl rfl) ?_; refine zh 13 rfl (by kernel_rfl) rfl rfl (fun w h => h) (fun w h => R_extract rfl rfl) ?_; refine zh (v := .int _ _) 14 rfl (by kernel_rfl) rfl rfl (fun w h => h) (fun w h => R_assign rfl) ?_; refine zh (v := .int _ _) 15 rfl (by kernel_rfl) rfl rfl (fun w h => h) (fun w h => R_assign rfl) ?_; refine h_done (by kernel_rfl) (fun w h => h) ?_; refine zk ?_; refine zB ?_
  have hqq : (dg Go.Num.B u i * Go.Num.B + dg Go.Num.B u (i - 1)) / dg Go.Num.B v (k - 1) < Go.Num.B := half_lt (h := Go.Num.B) (by omega) (dg_lt B_pos _ _)
  refine c_loop (fun m9 e B L => ∃ (p r : Nat), e 0 = .slice a q c ∧ e 1 = .int .u64 (dg Go.Num.B v (k - 1) : Nat) ∧ e 2 = .int .u64 (dg Go.Num.B v (k - 2) : Nat) ∧ e 3 = .int .i64 (i : Nat) ∧ e 9 = .int .u64 (p : Nat) ∧ e 10 = .int .u64 (r : Nat) ∧ B = [(w, No)] ∧ L = [] ∧ u / Go.Num.B ^ (i - k) / v ≤ p ∧ p < Go.Num.B ∧ p * dg Go.Num.B v (k - 1) + r = dg Go.Num.B u i * Go.Num.B + dg Go.Num.B u (i - 1) ∧ r < Go.Num.B ∧ m9 = p + 1) _ ⟨_, _, rfl, rfl, rfl, rfl, rfl, rfl, rfl, rfl, guess_first B_pos (by omega) hs.2.2.2 hv ht hu, hqq, by rw [Nat.mul_comm]; exact Nat.div_add_mod _ _, Nat.lt_trans (Nat.mod_lt _ ht) hB1, rfl⟩ ?_
  rintro m9 e B L ⟨p, r, e0_1, e1_1, e2_1, e3_1, e9_1, e10_1, rfl, rfl, hq, hqB, he, hr, rfl⟩
  refine zB ?_; refine yA ?_; refine mI e9_1 ?_; refine mI e2_1 ?_; refine zC (fun w => zR Tryz.func130 rfl rfl rfl) rfl rfl (fun w h => Mul64_ok p (dg Go.Num.B v (k - 2)) w hqB (dg_lt B_pos _ _)) ?_; refine zm rfl ?_; refine w_r (fun _ => R_extract rfl rfl) rfl rfl ?_; refine w_r (fun _ => R_extract rfl rfl) rfl rfl ?_; refine aI rfl ?_; refine aI rfl ?_; refine yB ?_; refine zq ?_; refine yA ?_; refine mI rfl ?_; refine mI e10_1 ?_; refine w_r (fun _ => R_ltN (a := (p * (dg Go.Num.B v (k - 2)) / Go.Num.B)) (b := r) rfl rfl) rfl rfl ?_; refine mB rfl ?_; refine zd (t := 44) rfl (fun h2 => ?_) (fun h2 => ?_)
  ·refine zs rfl rfl (bT h2) ?_; refine zs rfl rfl (bT h2) ?_; refine zs rfl rfl (bT h2) ?_; refine zs rfl rfl (bT h2) ?_; refine zU rfl rfl rfl ?_; refine zU rfl rfl rfl ?_; refine zU rfl rfl rfl ?_; refine zU rfl rfl rfl ?_; refine zU rfl rfl rfl ?_; refine zU rfl rfl rfl ?_; refine zU rfl rfl rfl ?_; refine zs rfl rfl (bT h2) ?_; refine w_r (v := .bool _) (fun _ => zT (bT h2) rfl) rfl rfl ?_; refine yB ?_; refine zE rfl ?_; refine yA ?_; refine mI e9_1 ?_; refine aI rfl ?_; refine yB ?_; refine ze ?_; refine zt (zb (zt (zb (?_))))
   refine zo (v := .int _ _) rfl rfl rfl ?_; exact fun w' hw => ⟨⟨_, rfl, hq, hqB⟩, hw.fr _ (.head _)⟩
  ·refine zw rfl rfl (bF h2) ?_; refine mI rfl ?_; refine zw rfl rfl (bF h2) ?_; refine mI e10_1 ?_; refine zw rfl rfl (bF h2) ?_; refine w_r (fun _ => R_eqN (a := (p * (dg Go.Num.B v (k - 2)) / Go.Num.B)) (b := r) rfl rfl) rfl rfl ?_; refine zw rfl rfl (bF h2) ?_; refine mB rfl ?_; refine zd (t := 48) rfl (fun h3 => ?_) (fun h3 => ?_)
   ·refine zw rfl rfl (bT h3) ?_; refine mI rfl ?_; refine zw rfl rfl (bT h3) ?_; refine mS e0_1 ?_; refine zw rfl rfl (bT h3) ?_; refine mI e3_1 ?_; refine zw rfl rfl (bT h3) ?_; refine w_r (fun _ => R_subN (n := i) (b := 2) rfl rfl (by omega) (by omega)) rfl rfl ?_; refine zw rfl rfl (bT h3) ?_; refine w_r (fun _ => R_iaK (i := (i - 2)) sl23 rfl ((Kn.old hU).ptr (by omega)) rfl (by omega)) rfl rfl ?_; refine zw rfl rfl (bT h3) ?_; refine zl (v := .int .u64 ((dg Go.Num.B u (i - 2)) : Nat)) z66 rfl (fun w h => (Kn.old hU).ca 0 rfl (by omega) h) ?_; refine zw rfl rfl (bT h3) ?_; refine w_r (fun _ => R_leN (a := (p * (dg Go.Num.B v (k - 2)) % Go.Num.B)) (b := (dg Go.Num.B u (i - 2))) rfl rfl) rfl rfl ?_
    refine zw rfl rfl (bF h2) ?_; refine w_r (v := .bool _) (fun _ => zT (bT h3) rfl) rfl rfl ?_; refine w_r (v := .bool _) (fun _ => zF (bF h2) rfl) rfl rfl ?_; refine yB ?_; refine zD rfl (fun h4 => ?_) (fun h4 => ?_)
    ·refine yA ?_; refine mI e9_1 ?_; refine aI rfl ?_; refine yB ?_; refine ze ?_; refine zt (zb (zt (zb (?_))))
     refine zo (v := .int _ _) rfl rfl rfl ?_; exact fun w' hw => ⟨⟨_, rfl, hq, hqB⟩, hw.fr _ (.head _)⟩
    ·refine zi ?_; refine zk ?_; refine yA ?_; refine mI e9_1 ?_; refine w_r (fun _ => R_subU (a := p) (b := 1) rfl rfl (by exact (guess_next B_pos hs.2.2.1 hs.2.2.2 hv hu hq he (by have := (two_limbs B_pos (dg_lt B_pos u (i - 2)) (q := p) (n := dg Go.Num.B v (k - 2)) (r := r)); omega)).2.1) (by exact hqB)) rfl rfl ?_; refine aI rfl ?_; refine yC ?_; refine mI e10_1 ?_; refine mI e1_1 ?_; refine w_r (fun _ => R_callX rfl (add64 r (dg Go.Num.B v (k - 1)) 0 (by omega) _)) rfl rfl ?_; refine zm rfl ?_; refine w_r (fun _ => R_extract rfl rfl) rfl rfl ?_
     refine w_r (fun _ => R_extract rfl rfl) rfl rfl ?_; refine aI rfl ?_; refine aI rfl ?_; refine yB ?_; refine zq ?_; refine yA ?_; refine mI rfl ?_; refine w_r (fun _ => R_neN (a := ((r + (dg Go.Num.B v (k - 1)) + 0) / Go.Num.B)) (b := 0) rfl rfl) rfl rfl ?_; refine yB ?_; refine zD rfl (fun h5 => ?_) (fun h5 => ?_)
     ·have hst := guess_next B_pos hs.2.2.1 hs.2.2.2 hv hu hq he (by have := (two_limbs B_pos (dg_lt B_pos u (i - 2)) (q := p) (n := dg Go.Num.B v (k - 2)) (r := r)); omega)
      refine yA ?_; refine mI rfl ?_; refine aI rfl ?_; refine yB ?_; refine ze ?_; refine zt (zb (zt (zb (?_))))
      refine zo (v := .int _ _) rfl rfl rfl ?_; exact fun w' hw => ⟨⟨_, rfl, hst.1, by omega⟩, hw.fr _ (.head _)⟩
     ·have hst := guess_next B_pos hs.2.2.1 hs.2.2.2 hv hu hq he (by have := (two_limbs B_pos (dg_lt B_pos u (i - 2)) (q := p) (n := dg Go.Num.B v (k - 2)) (r := r)); omega); rw [Nat.add_zero] at h5; have hsm : r + dg Go.Num.B v (k - 1) < Go.Num.B := (by rcases Nat.lt_or_ge (r + dg Go.Num.B v (k - 1)) Go.Num.B with h | h; (exact h); (have := Nat.div_pos h B_pos; omega))
      refine zi ?_; refine zk ?_; refine zr ?_; refine mI rfl ?_; refine aI rfl ?_; refine zn ?_; refine b_on (?_)
      exact k_again _ (by omega) ⟨(p - 1), (r + dg Go.Num.B v (k - 1)), e0_1, e1_1, e2_1, e3_1, rfl, congrArg (fun z : Nat => Value.int .u64 (z : Int)) (Nat.mod_eq_of_lt hsm), rfl, rfl, hst.1, by omega, hst.2.2, hsm, rfl⟩
   ·refine zs rfl rfl (bF h3) ?_; refine zs rfl rfl (bF h3) ?_; refine zs rfl rfl (bF h3) ?_; refine zs rfl rfl (bF h3) ?_; refine zs rfl rfl (bF h3) ?_; refine zs rfl rfl (bF h3) ?_; refine zs rfl rfl (bF h3) ?_; refine zw rfl rfl (bF h2) ?_; refine w_r (v := .bool _) (fun _ => zF (bF h3) rfl) rfl rfl ?_; refine w_r (v := .bool _) (fun _ => zF (bF h2) rfl) rfl rfl ?_; refine yB ?_; refine c_condF rfl ?_; refine zi ?_; refine zk ?_; refine yA ?_; refine mI e9_1 ?_; refine w_r (fun _ => R_subU (a := p) (b := 1) rfl rfl (by exact (guess_next B_pos hs.2.2.1 hs.2.2.2 hv hu hq he (by have := (two_limbs B_pos (dg_lt B_pos u (i - 2)) (q := p) (n := dg Go.Num.B v (k - 2)) (r := r)); omega)).2.1) (by exact hqB)) rfl rfl ?_
    refine aI rfl ?_; refine yC ?_; refine mI e10_1 ?_; refine mI e1_1 ?_; refine w_r (fun _ => R_callX rfl (add64 r (dg Go.Num.B v (k - 1)) 0 (by omega) _)) rfl rfl ?_; refine zm rfl ?_; refine w_r (fun _ => R_extract rfl rfl) rfl rfl ?_; refine w_r (fun _ => R_extract rfl rfl) rfl rfl ?_; refine aI rfl ?_; refine aI rfl ?_; refine yB ?_; refine zq ?_; refine yA ?_; refine mI rfl ?_; refine w_r (fun _ => R_neN (a := ((r + (dg Go.Num.B v (k - 1)) + 0) / Go.Num.B)) (b := 0) rfl rfl) rfl rfl ?_; refine yB ?_; refine zD rfl (fun h6 => ?_) (fun h6 => ?_)
    ·have hst := guess_next B_pos hs.2.2.1 hs.2.2.2 hv hu hq he (by have := (two_limbs B_pos (dg_lt B_pos u (i - 2)) (q := p) (n := dg Go.Num.B v (k - 2)) (r := r)); omega)
     refine yA ?_; refine mI rfl ?_; refine aI rfl ?_; refine yB ?_; refine ze ?_; refine zt (zb (zt (zb (?_))))
     refine zo (v := .int _ _) rfl rfl rfl ?_; exact fun w' hw => ⟨⟨_, rfl, hst.1, by omega⟩, hw.fr _ (.head _)⟩
    ·have hst := guess_next B_pos hs.2.2.1 hs.2.2.2 hv hu hq he (by have := (two_limbs B_pos (dg_lt B_pos u (i - 2)) (q := p) (n := dg Go.Num.B v (k - 2)) (r := r)); omega); rw [Nat.add_zero] at h6; have hsm : r + dg Go.Num.B v (k - 1) < Go.Num.B := (by rcases Nat.lt_or_ge (r + dg Go.Num.B v (k - 1)) Go.Num.B with h | h; (exact h); (have := Nat.div_pos h B_pos; omega))
     refine zi ?_; refine zk ?_; refine zr ?_; refine mI rfl ?_; refine aI rfl ?_; refine zn ?_; refine b_on (?_)
     exact k_again _ (by omega) ⟨(p - 1), (r + dg Go.Num.B v (k - 1)), e0_1, e1_1, e2_1, e3_1, rfl, congrArg (fun z : Nat => Value.int .u64 (z : Int)) (Nat.mod_eq_of_lt hsm), rfl, rfl, hst.1, by omega, hst.2.2, hsm, rfl⟩
end Go.Proofs.YtoapegnngbhkbaaGreatDoor
end
section
/- Rows of limbs of one's own: parts that are cleared, copied to; rows that are grown. -/
namespace Go.Sx
open Go.RowKit Go.Num
theorem lmV_splice {z p k j q : Nat} (hp : p < Go.Num.B ^ q) (hk : j + q ≤ k) (hz : z < Go.Num.B ^ (j + q)) : (lmV z k).take j ++ lmV p q ++ (lmV z k).drop (j + q) = lmV (z % Go.Num.B ^ j + Go.Num.B ^ j * p) k := by
  have hl := lmV_len z k
  apply lmV_ext (by simp [lmV_len]; omega)
  intro i hi
  rcases Nat.lt_or_ge i j with h | h
  · rw [List.append_assoc, List.getElem?_append_left (by rw [List.length_take, hl]; omega), List.getElem?_take_of_lt h, lmV_at hi, dg_low B_pos h, dg_mod B_pos h]
  · rcases Nat.lt_or_ge i (j + q) with h2 | h2
    · rw [List.getElem?_append_left (by rw [List.length_append, List.length_take, hl, lmV_len]; omega), List.getElem?_append_right (by rw [List.length_take, hl]; omega), List.length_take, hl, show min j k = j by omega, lmV_at (by omega)]
      have := dg_high (b := Go.Num.B) (x := z % Go.Num.B ^ j) (y := p) (j := j) (i := i - j) (Nat.mod_lt _ (Bpow_pos j))
      rw [Nat.add_sub_cancel' h] at this
      rw [this]
    · rw [List.getElem?_append_right (by rw [List.length_append, List.length_take, hl, lmV_len]; omega), List.length_append, List.length_take, hl, lmV_len, show min j k = j by omega, List.getElem?_drop, Nat.add_sub_cancel' h2, lmV_at hi]
      rw [dg_out (Nat.lt_of_lt_of_le hz (Nat.pow_le_pow_right B_pos h2)), dg_out (Nat.lt_of_lt_of_le (lt_app (Nat.mod_lt _ (Bpow_pos j)) hp) (Nat.pow_le_pow_right B_pos h2))]
theorem Nm.seg {w : World} {b q k c c' z j : Nat} (h : Nm w (some ⟨b, 0, none⟩) k c z) (hj : j + q ≤ k) (hz : z < Go.Num.B ^ (j + q)) (hc : q ≤ c') : Nm w (some ⟨b, 0 + j * 1, none⟩) q c' (z / Go.Num.B ^ j) := by
  have h1 := h.part (q := q) (j := j) hj c' hc
  have hlt : z / Go.Num.B ^ j < Go.Num.B ^ q := by rw [Nat.div_lt_iff_lt_mul (Bpow_pos j), ← Nat.pow_add, Nat.add_comm]; exact hz
  rw [Nat.mod_eq_of_lt hlt] at h1
  rw [Nat.mul_one]; exact h1
section
variable {P : Program} {ρ : Operand → Value} {w : World} {D : Option Tmp} {t ty : TypeId} {pos : String} {aft : Array Edge} {g : Option (Nat × Bool)} {x : Operand} {kl kh : IntKind}
theorem R_segN {lo hi : Operand} {b k c l h : Nat} (hu : slB P t 1 = true) (hx : ρ x = .slice (some ⟨b, 0, none⟩) k c) (hlo : ρ lo = .int kl (l : Nat)) (hhi : ρ hi = .int kh (h : Nat)) (h1 : l < h) (h2 : h ≤ c) :
    Run P ⟨D, .slice t x (some lo) (some hi) none, ty, pos, aft, g⟩ ρ w (.slice (some ⟨b, 0 + l * 1, none⟩) (h - l) (c - l)) w := by
  obtain ⟨e, ti, h3, h4, h5⟩ := slB_spec hu
  have h6 : (l : Int) ≤ (h : Int) := by omega
  have h7 : (h : Int) ≤ (c : Int) := by omega
  have h8 : ¬ c = l := by omega
  have h9 : l ≤ h := by omega
  simp [Run, execOp, hx, hlo, hhi, go_sem, Instr.sliceAt, Instr.slice, run_underlying h3, Instr.sliceBounds, Instr.sliceBound, asIntOf, h2, h6, h7, h8, h9, sizeOf, typeInfo, h4, h5, Addr.add]
  omega
end
theorem Own.empty {T : TypeId} {k : Nat} {a : Option Addr} {n c : Nat} {xs : List Value} {W : Heap} (h : Own T k (.slice a n c) xs n W) : Own T k (.slice a 0 c) [] 0 W := by
  rcases h.2 with ⟨h1, h2, rfl⟩ | ⟨b, c', sp, h1, h2, h3, rfl⟩
  · cases h1; exact Own.nil T k
  · simp only [Value.slice.injEq] at h1
    obtain ⟨rfl, _, rfl⟩ := h1
    refine ⟨by simp, .inr ⟨b, _, xs ++ sp, rfl, Nat.zero_le _, ?_, rfl⟩⟩
    rw [List.length_append, h.1, h3, ← Nat.add_mul, Nat.add_sub_cancel' h2, Nat.sub_zero]
section
variable {P : Program} {ops : Array Oper} {Q : Exit → Act → World → Prop} {c : Cf} {e : Env} {B : Base} {L : Heap} {rest : List Oper} {d : Nat} {x y : Operand} {T : TypeId} {p : String} {ed : Array Edge} {t te : Nat} {b k z j q cp m cm n : Nat} {a : Option Addr} {T2 : TypeId}
theorem w_clearU (i : Nat) (hi : L[i]? = some (b, cel (lmV z k) T2)) (hT : slT P t te 1 8 (.int .u64 0)) (hx : ev c.n e x = .slice (some ⟨b, 0 + j * 1, none⟩) q cp) (hj : j + q ≤ k) (hq : 0 < q) (hz : z < Go.Num.B ^ (j + q))
    (h : WX .sq P ops c Q rest e B (L.set i (b, cel (lmV (z % Go.Num.B ^ j) k) T2))) : WX .sq P ops c Q (⟨none, .call ⟨.builtin .clear, #[x], #[t]⟩, T, p, ed, none⟩ :: rest) e B L := by
  obtain ⟨ti, ht, hti, hsz, hby, hzz, hzs⟩ := slT_spec hT
  rw [Nat.mul_one] at hx
  unfold WX at *
  intro w hw
  have hb := hw.at_ i hi
  have hst := run_storeCells_at P b (0 + j) T2 (List.replicate q (.int .u64 0)) 0 _ w hb (by simp [lmV_len]; omega) (fun v hv => by rw [(List.mem_replicate.1 hv).2]; rfl)
  have e0 : (lmV z k).take j ++ List.replicate q (.int .u64 0) ++ (lmV z k).drop (j + q) = lmV (z % Go.Num.B ^ j) k := by
    have := lmV_splice (p := 0) (Bpow_pos q) hj hz
    rwa [lmV_zero, Nat.mul_zero, Nat.add_zero] at this
  simp only [Nat.zero_add, Nat.add_zero, List.length_replicate, e0] at hst
  have hzc : (Builtin.zeroCells (Value.int .u64 0).cells q).toList = List.replicate q (.int .u64 0) := by
    apply List.ext_getElem
    · simp [Builtin.zeroCells, Value.cells]
    · intro i h1 h2; simp [Builtin.zeroCells, Value.cells, Nat.mod_one]
  have hr : (Builtin.clear_ #[t] T #[.slice (some ⟨b, 0 + j, none⟩) q cp]).run P w = .ok (.tuple #[]) (w.setRow b (lmV (z % Go.Num.B ^ j) k).toArray) := by
    have hq0 : q ≠ 0 := by omega
    obtain ⟨q', rfl⟩ : ∃ q', q = q' + 1 := ⟨q - 1, by omega⟩
    rw [Nat.zero_add]
    simp [Builtin.clear_, run_underlying ht, zeroValue, typeInfo, hti, hzz, hzc, hst]
  refine s_drop (v := .tuple #[]) (w' := w.setRow b (lmV (z % Go.Num.B ^ j) k).toArray) ?_ rfl rfl (h _ (hw.put i hi))
  unfold Run
  simp only [execOp, resolve, Sem.run_bind, pure_run, Result.andThen_ok, invoke, builtin, List.map_toArray, List.map_cons, List.map_nil, hx, hr]
theorem w_copyU (i : Nat) (hi : L[i]? = some (b, cel (lmV z k) T2)) (hT : slT P t te 1 8 (.int .u64 0)) (hx : ev c.n e x = .slice (some ⟨b, 0 + j * 1, none⟩) q cp) (hj : j + q ≤ k) (hz : z < Go.Num.B ^ j) (hy : ev c.n e y = .slice a m cm) (hN : ∀ w, St B L w → Nm w a m cm n) (hm : m ≤ q)
    (h : WX .sq P ops c Q rest (upd e d (.int .i64 (m : Nat))) B (L.set i (b, cel (lmV (z + Go.Num.B ^ j * n) k) T2))) : WX .sq P ops c Q (⟨some d, .call ⟨.builtin .copy, #[x, y], #[t, t]⟩, T, p, ed, none⟩ :: rest) e B L := by
  obtain ⟨ti, ht, hti, hsz, hby, hzz, hzs⟩ := slT_spec hT
  rw [Nat.mul_one] at hx
  unfold WX at *
  intro w hw
  have hb := hw.at_ i hi
  have hNw := hN w hw
  have hsz1 : (P.info? te).map (·.size) = some 1 := by rw [hti]; simp [hsz]
  by_cases h0 : m = 0
  · subst h0
    have hn0 : n = 0 := by have := hNw.lt; rw [Nat.pow_zero] at this; omega
    subst hn0
    have hr := run_copy_none (P := P) w t t T te (some ⟨b, 0 + j, none⟩) a q cp 0 cm ht hsz1 (by simp)
    have hL : L.set i (b, cel (lmV (z + Go.Num.B ^ j * 0) k) T2) = L := by
      rw [Nat.mul_zero, Nat.add_zero]
      apply List.ext_getElem?
      intro r
      rw [List.getElem?_set]
      split
      · rename_i hr; subst hr
        have := (List.getElem?_eq_some_iff.1 hi).1
        rw [if_pos this, hi]
      · rfl
    rw [hL] at h
    refine s_run (v := .int .i64 ((0 : Nat) : Int)) (w' := w) ?_ rfl rfl (h w hw)
    unfold Run
    simp only [execOp, resolve, Sem.run_bind, pure_run, Result.andThen_ok, invoke, builtin, List.map_toArray, List.map_cons, List.map_nil, hx, hy, hr]
    rfl
  · obtain ⟨b2, o2, rfl⟩ := hNw.ptr (by omega)
    have hr := run_copy_row (P := P) w t t T te b (0 + j) q cp ⟨b2, o2, none⟩ m cm _ T2 (lmV n m) ht hsz1 hb (by rw [lmV_len]; exact (Nat.min_eq_left hm).symm) (fun r v hv => by
      have := hNw.news r v hv
      simp only [Addr.add]; split <;> simp_all) (by rw [lmV_len, List.size_toArray, lmV_len]; omega) (fun v hv => List.all_eq_true.1 (lmV_one n m) v hv)
    have e0 : (lmV z k).take (0 + j) ++ lmV n m ++ (lmV z k).drop (0 + j + (lmV n m).length) = lmV (z + Go.Num.B ^ j * n) k := by
      have := lmV_splice (p := n) (z := z) (k := k) (j := j) hNw.lt (by omega) (Nat.lt_of_lt_of_le hz (Nat.pow_le_pow_right B_pos (Nat.le_add_right _ _)))
      rw [Nat.zero_add, lmV_len]
      rwa [Nat.mod_eq_of_lt hz] at this
    rw [lmV_len] at hr
    rw [lmV_len] at e0
    simp only [e0] at hr
    refine s_run (v := .int .i64 (m : Nat)) (w' := w.setRow b (lmV (z + Go.Num.B ^ j * n) k).toArray) ?_ rfl rfl (h _ (hw.put i hi))
    unfold Run
    simp only [execOp, resolve, Sem.run_bind, pure_run, Result.andThen_ok, invoke, builtin, List.map_toArray, List.map_cons, List.map_nil, hx, hy, hr]
    rfl
/-- append(nil, make([]T, q)...) -/
theorem w_appZ {tn : TypeId} {kn kq : IntKind} (hT : slT P t te 1 8 (.int .u64 0)) (htn : P.underlying tn = some (.int kn)) (hx : ev c.n e x = .slice none 0 0) (hy : ev c.n e y = .int kq (q : Nat)) (hq : 0 < q) (hs : q ≤ 8000000)
    (h2 : ∀ a c' W, Own te 1 (.slice a q c') (lmV 0 q) q W → WX .sq P ops c Q rest (upd e d (.slice a q c')) B (W ++ L)) : WX .sq P ops c Q (⟨some d, .call ⟨.builtin .append, #[x, y], #[t, tn]⟩, T, p, ed, none⟩ :: rest) e B L := by
  obtain ⟨ti, ht, hti, hsz, hby, hzz, hzs⟩ := slT_spec hT
  have hr0 := fun w => Go.Lib.run_append_nil_zeros (P := P) w t tn T te ti (.int .u64 0) kq kn ht htn hti hzz q hq (by omega) (by omega) (by rw [hby]; omega)
  unfold WX at *
  intro w hw
  have hr := hr0 w
  have hge := grownCap_ge w q 0 te
  have hzc : ∀ r, Builtin.zeroCells (Value.int .u64 0).cells r = (List.replicate r (.int .u64 0)).toArray := fun r => by
    apply Array.ext
    · simp [Builtin.zeroCells, Value.cells]
    · intro i h1 h2; simp [Builtin.zeroCells, Value.cells, Nat.mod_one]
  have hs2 : St B ([(w.heap.size, cel (lmV 0 q ++ List.replicate (grownCap w q 0 te - q) (.int .u64 0)) te)] ++ L) (w.drew.alloc (cel (lmV 0 q ++ List.replicate (grownCap w q 0 te - q) (.int .u64 0)) te)) := (hw.drawn (w.drawn + 1)).new
  rw [hzc, hzc] at hr
  refine s_run (v := .slice (some ⟨w.heap.size, 0, none⟩) q (grownCap w q 0 te)) (w' := w.drew.alloc (cel (lmV 0 q ++ List.replicate (grownCap w q 0 te - q) (.int .u64 0)) te)) ?_ rfl rfl (h2 _ _ [(w.heap.size, cel (lmV 0 q ++ List.replicate (grownCap w q 0 te - q) (.int .u64 0)) te)] ⟨by rw [lmV_len, Nat.mul_one], .inr ⟨_, _, List.replicate (grownCap w q 0 te - q) (.int .u64 0), rfl, hge, by simp, rfl⟩⟩ _ hs2)
  unfold Run
  simp only [execOp, resolve, Sem.run_bind, pure_run, Result.andThen_ok, invoke, builtin, List.map_toArray, List.map_cons, List.map_nil, hx, hy, hr]
  rw [lmV_zero]
  simp [cel]
end
end Go.Sx
end
section
namespace Go.Proofs.YtoapegnngbhkbaaGreatDoor
open Go.RowKit Go.Sx
open Go.Num
set_option maxRecDepth 100000 in
set_option maxHeartbeats 400000 in
theorem Grow_ok (q : Nat) (w : World) (hq : q ≤ 8000000) :
  Ret Tryz.prog 141 #[.slice none 0 0, .int .i64 (q : Nat)] w (fun v w' => ∃ W, (∃ a' c', v = .slice a' 0 c' ∧ Own 66 1 v (lmV 0 0) 0 W) ∧ New w w' W) := by
 refine enter (S := No) (l := [_, _]) (L := []) 27 Tryz.func141 rfl rfl rfl (St.start w No) ?_; refine yA ?_; refine za (v := .slice _ _ _) rfl ?_; refine yB ?_; refine zq ?_; refine yA ?_; refine mI rfl ?_; refine w_r (fun _ => R_ltN (a := q) (b := 0) rfl rfl) rfl rfl ?_; refine yB ?_; refine zD rfl (fun h1 => ?_) (fun h1 => ?_)
 ·omega
 ·refine zi ?_; refine zk ?_; refine zq ?_; refine yA ?_; refine mI rfl ?_; refine mS rfl ?_; refine w_r (fun _ => R_cap (a := none) (k := 0) (c := 0) sl23 rfl) rfl rfl ?_; refine mS rfl ?_; refine w_r (fun _ => R_len sl23 rfl) rfl rfl ?_; refine w_r (fun _ => R_subN (n := 0) (b := 0) rfl rfl (by omega) (by omega)) rfl rfl ?_; refine w_r (fun _ => R_subN (n := q) (b := (0 - 0)) rfl rfl (by omega) (by omega)) rfl rfl ?_; refine aI rfl ?_; refine yC ?_; refine mI rfl ?_; refine w_r (fun _ => R_gtN (a := (q - (0 - 0))) (b := 0) rfl rfl) rfl rfl ?_; refine yB ?_; refine zD rfl (fun h2 => ?_) (fun h2 => ?_)
  ·refine zr ?_; refine mS rfl ?_; refine mS rfl ?_; refine w_r (fun _ => R_cap (a := none) (k := 0) (c := 0) sl23 rfl) rfl rfl ?_; refine w_r (fun _ => R_hiN (q := 0) (a := none) (k := 0) (c := 0) sl23 rfl rfl (Nat.le_refl _)) rfl rfl ?_; refine mI rfl ?_; refine w_appZ (q := q) slt23 un3 rfl rfl (by omega) (by omega) (fun a1 c1 W1 hO1 => ?_)
   refine mS rfl ?_; refine w_r (fun _ => R_len sl23 rfl) rfl rfl ?_; refine w_r (fun _ => R_hiN (q := 0) (a := a1) (k := q) (c := c1) sl23 rfl rfl (Nat.zero_le _)) rfl rfl ?_; refine za (v := .slice _ _ _) rfl ?_; refine yC ?_; refine mS rfl ?_; refine za (v := .slice _ _ _) rfl ?_; refine yB ?_; refine ze ?_; refine zo (v := .slice _ _ _) rfl rfl rfl ?_; exact fun w' hw => ⟨W1, ⟨_, _, rfl, hO1.empty⟩, St.made (A := []) (by simpa using hw)⟩
  ·refine zi ?_; refine zk ?_; refine yA ?_; refine mS rfl ?_; refine za (v := .slice _ _ _) rfl ?_; refine yB ?_; refine ze ?_; refine zo (v := .slice _ _ _) rfl rfl rfl ?_; exact fun w' hw => ⟨[], ⟨_, _, rfl, Own.nil _ _⟩, St.made (A := []) (by simpa using hw)⟩
theorem two_cell0 {w : World} {b : Nat} {T : TypeId} {u v : Value} (hb : w.heap[b]? = some (cel [u, v] T)) : w.cell? ⟨b, 0 + 0 * 1, none⟩ = some u := by simp [World.cell?, hb]
theorem two_cell1 {w : World} {b : Nat} {T : TypeId} {u v : Value} (hb : w.heap[b]? = some (cel [u, v] T)) : w.cell? ⟨b, 0 + (0 + 1) * 1, none⟩ = some v := by simp [World.cell?, hb]
set_option maxRecDepth 100000 in
set_option maxHeartbeats 2000000 in
theorem Concat_ok {a a2 : Option Addr} {k c k2 c2 n m b c' : Nat} {T : TypeId} (w : World) (hb : w.heap[b]? = some (cel [.slice a k c, .slice a2 k2 c2] T)) (hA : Nm w a k c n) (hB : Nm w a2 k2 c2 m) (hk : k ≤ 3000000 ∧ k2 ≤ 3000000) :
  Ret Tryz.prog 110 #[.slice (some ⟨b, 0, none⟩) 2 c'] w (fun v w' => ∃ W, (∃ a' c', v = .slice a' (k + k2) c' ∧ Own 66 1 v (lmV (n + Go.Num.B ^ k * m) (k + k2)) (k + k2) W) ∧ New w w' W) := by
 refine enter (S := No) (l := [_]) (L := []) 36 Tryz.func110 rfl rfl rfl (St.start w No) ?_; refine yA ?_; refine za (v := .slice _ _ _) rfl ?_; refine yC ?_; refine aI rfl ?_; refine yB ?_; refine zq ?_; refine yA ?_; refine mS rfl ?_; refine w_r (fun _ => R_len sl139 rfl) rfl rfl ?_; refine mI rfl ?_; refine yB ?_; refine zB ?_; refine c_rounds 3 ?_; refine yA ?_; refine w_r (fun _ => R_lt rfl rfl) rfl rfl ?_; refine yB ?_; refine zq ?_; refine zE (congrArg Value.bool (decide_eq_true (by decide))) ?_
 refine zi ?_; refine zk ?_; refine zq ?_; refine zB ?_; refine yA ?_; refine w_r (fun _ => R_iaN (i := 0) sl139 rfl rfl (by first | omega | decide | exact Nat.succ_pos _ | exact Nat.succ_lt_succ (Nat.succ_pos _))) rfl rfl ?_; refine zl (v := .slice a k c) z23 rfl (fun w1 h => h.oldc (.head _) (two_cell0 hb)) ?_; refine za (v := .slice _ _ _) rfl ?_; refine yC ?_; refine mI rfl ?_; refine mS rfl ?_; refine w_r (fun _ => R_len sl23 rfl) rfl rfl ?_; refine w_r (fun _ => R_addN (n := 0) (b := k) rfl rfl (by omega)) rfl rfl ?_; refine aI rfl ?_; refine yC ?_; refine mI rfl ?_; refine w_r (fun _ => R_ltN (a := (0 + k)) (b := 0) rfl rfl) rfl rfl ?_
 refine yB ?_; refine zD rfl (fun h1 => ?_) (fun h1 => ?_)
 ·omega
 ·refine zi ?_; refine b_on (zk ?_); refine zr ?_; refine w_r (fun _ => R_addN (n := 0) (b := 1) rfl rfl (by omega)) rfl rfl ?_; refine mI rfl ?_; refine zn ?_; refine k_rounds ?_; refine yA ?_; refine w_r (fun _ => R_lt rfl rfl) rfl rfl ?_; refine yB ?_; refine zq ?_; refine zE (congrArg Value.bool (decide_eq_true (by decide))) ?_; refine zi ?_; refine zk ?_; refine zq ?_; refine zB ?_; refine yA ?_; refine w_r (fun _ => R_iaN (i := (0 + 1)) sl139 rfl rfl (by first | omega | decide | exact Nat.succ_pos _ | exact Nat.succ_lt_succ (Nat.succ_pos _))) rfl rfl ?_; refine zl (v := .slice a2 k2 c2) z23 rfl (fun w1 h => h.oldc (.head _) (two_cell1 hb)) ?_
  refine za (v := .slice _ _ _) rfl ?_; refine yC ?_; refine mI rfl ?_; refine mS rfl ?_; refine w_r (fun _ => R_len sl23 rfl) rfl rfl ?_; refine w_r (fun _ => R_addN (n := (0 + k)) (b := k2) rfl rfl (by omega)) rfl rfl ?_; refine aI rfl ?_; refine yC ?_; refine mI rfl ?_; refine w_r (fun _ => R_ltN (a := ((0 + k) + k2)) (b := 0) rfl rfl) rfl rfl ?_; refine yB ?_; refine zD rfl (fun h2 => ?_) (fun h2 => ?_)
  ·omega
  ·refine zi ?_; refine b_on (zk ?_); refine zr ?_; refine w_r (fun _ => R_addN (n := (0 + 1)) (b := 1) rfl rfl (by omega)) rfl rfl ?_; refine mI rfl ?_; refine zn ?_; refine k_rounds ?_; refine yA ?_; refine w_r (fun _ => R_lt rfl rfl) rfl rfl ?_; refine yB ?_; refine zq ?_; refine c_condF (congrArg Value.bool (decide_eq_false (by decide))) ?_; refine c_exit ?_; refine zx (zx (b_here rfl (zk ?_))); refine yA ?_; refine mI rfl ?_; refine w_callW (fun w => zR Tryz.func141 rfl rfl rfl) rfl rfl (fun w _ => Grow_ok ((0 + k) + k2) w (by omega)) ?_
   rintro v0 W0 ⟨a4, c4, rfl, hO0⟩
   refine za (v := .slice _ _ _) rfl ?_; refine yB ?_; refine zq ?_; refine yA ?_; refine mS rfl ?_; refine w_r (fun _ => R_len sl139 rfl) rfl rfl ?_; refine mI rfl ?_; refine yB ?_; refine zB ?_; refine c_rounds 3 ?_; refine yA ?_; refine w_r (fun _ => R_lt rfl rfl) rfl rfl ?_; refine yB ?_; refine zq ?_; refine zE (congrArg Value.bool (decide_eq_true (by decide))) ?_; refine zi ?_; refine zk ?_; refine zq ?_; refine zB ?_; refine yA ?_; refine w_r (fun _ => R_iaN (i := 0) sl139 rfl rfl (by first | omega | decide | exact Nat.succ_pos _ | exact Nat.succ_lt_succ (Nat.succ_pos _))) rfl rfl ?_; refine zl (v := .slice a k c) z23 rfl (fun w1 h => h.oldc (.head _) (two_cell0 hb)) ?_
   refine za (v := .slice _ _ _) rfl ?_; refine yB ?_; refine zr ?_; refine mS rfl ?_; refine mS rfl ?_; refine w_st (B' := _) (L' := [] ++ (W0 ++ [])) (fun w h => h) ?_; refine w_appN (z := 0) (k := 0) [] slt23 rfl hO0 (by decide) rfl (fun w h => ((Kn.old hA).at_ 0 rfl h)) (by omega) (fun v1 W1 hO1 => ?_)
   rw [Nat.pow_zero, Nat.one_mul, Nat.zero_add, Nat.zero_add] at hO1
   obtain ⟨a5, c5, rfl⟩ := hO1.slice
   refine za (v := .slice _ _ _) rfl ?_; refine zn ?_; refine b_on (zk ?_); refine zr ?_; refine w_r (fun _ => R_addN (n := 0) (b := 1) rfl rfl (by omega)) rfl rfl ?_; refine mI rfl ?_; refine zn ?_; refine k_rounds ?_; refine yA ?_; refine w_r (fun _ => R_lt rfl rfl) rfl rfl ?_; refine yB ?_; refine zq ?_; refine zE (congrArg Value.bool (decide_eq_true (by decide))) ?_; refine zi ?_; refine zk ?_; refine zq ?_; refine zB ?_; refine yA ?_; refine w_r (fun _ => R_iaN (i := (0 + 1)) sl139 rfl rfl (by first | omega | decide | exact Nat.succ_pos _ | exact Nat.succ_lt_succ (Nat.succ_pos _))) rfl rfl ?_; refine zl (v := .slice a2 k2 c2) z23 rfl (fun w1 h => h.oldc (.head _) (two_cell1 hb)) ?_
   refine za (v := .slice _ _ _) rfl ?_; refine yB ?_; refine zr ?_; refine mS rfl ?_; refine mS rfl ?_; refine w_st (B' := _) (L' := [] ++ (W1 ++ [])) (fun w h => h) ?_; refine w_appN (z := n) (k := k) [] slt23 rfl hO1 hA.lt rfl (fun w h => ((Kn.old hB).at_ 0 rfl h)) (by omega) (fun v2 W2 hO2 => ?_)
   obtain ⟨a6, c6, rfl⟩ := hO2.slice
   refine za (v := .slice _ _ _) rfl ?_; refine zn ?_; refine b_on (zk ?_); refine zr ?_; refine w_r (fun _ => R_addN (n := (0 + 1)) (b := 1) rfl rfl (by omega)) rfl rfl ?_; refine mI rfl ?_; refine zn ?_; refine k_rounds ?_; refine yA ?_; refine w_r (fun _ => R_lt rfl rfl) rfl rfl ?_; refine yB ?_; refine zq ?_; refine c_condF (congrArg Value.bool (decide_eq_false (by decide))) ?_; refine c_exit ?_; refine zx (zx (b_here rfl (zk ?_)))
   refine yA ?_; refine mS rfl ?_; refine za (v := .slice _ _ _) rfl ?_; refine yB ?_; refine ze ?_; refine zo (v := .slice _ _ _) rfl rfl rfl ?_; exact fun w' hw => ⟨W2, ⟨_, _, rfl, hO2⟩, St.made (A := []) (by simpa using hw)⟩
theorem shift_lt2 {n k s : Nat} (h : n < Go.Num.B ^ k) (hs : s < 65) : n * 2 ^ s < Go.Num.B ^ (k + 1) := by
 rw [Nat.pow_succ]
 have h1 : n * 2 ^ s < Go.Num.B ^ k * 2 ^ s := Nat.mul_lt_mul_of_pos_right h (Nat.pow_pos (by decide))
 exact Nat.lt_of_lt_of_le h1 (Nat.mul_le_mul_left _ (by rw [B_two]; exact Nat.pow_le_pow_right (by decide) (by omega)))
theorem shr_zero {n s : Nat} (h : sz n ≤ s / 64) : n / 2 ^ s = 0 := by
 refine Nat.div_eq_of_lt (Nat.lt_of_lt_of_le (lt_sz n) ?_)
 rw [B_pow]; exact Nat.pow_le_pow_right (by decide) (by omega)
theorem shr_whole {n s : Nat} (h : s % 64 = 0) : n / Go.Num.B ^ (s / 64) = n / 2 ^ s := by
 rw [shr64 n s, h, Nat.pow_zero, Nat.div_one]
theorem shr_part {n s : Nat} : n / Go.Num.B ^ (s / 64) * 2 ^ (64 - s % 64) / Go.Num.B ^ 1 = n / 2 ^ s := by
 rw [Nat.pow_one, shr_up _ (Nat.mod_lt _ (by decide)), ← shr64]
theorem sz_div (n p : Nat) : sz (n / p) ≤ sz n := sz_mono (Nat.div_le_self _ _)
set_option maxRecDepth 100000 in
set_option maxHeartbeats 2000000 in
theorem Shr_ok {a : Option Addr} {k c n s : Nat} (w : World) (hA : Nm w a k c n) (hs : k ≤ 2000000 ∧ sz n ≤ 2048 ∧ s ≤ 100000000) :
  Ret Tryz.prog 75 #[.slice a k c, .int .i64 (s : Nat)] w (Tel (fun a c => .tuple #[.slice a (sz (n / 2 ^ s)) c, .int .i64 0]) (sz (n / 2 ^ s)) (n / 2 ^ s) w) := by
 have hd := sz_div n (2 ^ s)
 refine enter (S := No) (l := [_, _]) (L := []) 41 Tryz.func75 rfl rfl rfl (St.start w No) ?_; refine yA ?_; refine za (v := .slice _ _ _) rfl ?_; refine aI rfl ?_; refine yC ?_; refine mS rfl ?_; refine w_tel (fun w => zR Tryz.func78 rfl rfl rfl) rfl rfl (fun w h => normal_ok w ((Kn.old hA).at_ 0 rfl h) (by omega)) (fun x1 a1 c1 hK1 hN1 => ?_)
 refine za (v := .slice _ _ _) rfl ?_; refine yB ?_; refine zq ?_; refine zB ?_; refine yA ?_; refine mS rfl ?_; refine zS slt139 (by decide) rfl rfl (fun b2 gb2 ub2 => ?_)
 refine zC (fun w => zR Tryz.func88 rfl rfl rfl) rfl rfl (fun w h => long1_ok w (h.at_ 0 rfl) (hK1.at_ 0 rfl h) ⟨by omega, by omega⟩) ?_; refine aB rfl ?_; refine yB ?_; refine c_condF rfl ?_; refine yA ?_; refine mI rfl ?_; refine w_r (fun _ => R_ltN (a := s) (b := 0) rfl rfl) rfl rfl ?_; refine aB rfl ?_; refine yB ?_; refine zD rfl (fun h3 => ?_) (fun h3 => ?_)
 ·omega
 ·refine yA ?_; refine mI rfl ?_; refine w_r (fun _ => R_quoN (a := s) (b := 64) rfl rfl (by omega) (by omega)) rfl rfl ?_; refine mS rfl ?_; refine w_r (fun _ => R_len sl23 rfl) rfl rfl ?_; refine w_r (fun _ => R_geN (a := (s / 64)) (b := (sz n)) rfl rfl) rfl rfl ?_; refine aB rfl ?_; refine yB ?_; refine zD rfl (fun h4 => ?_) (fun h4 => ?_)
  ·have hq := shr_zero h4
   refine yA ?_; refine za (v := .slice _ _ _) rfl ?_; refine aI rfl ?_; refine yB ?_; refine ze ?_; refine zb (zt (?_))
   rw [hq]
   refine r_two (v := .slice _ _ _) (v2 := .int _ _) rfl rfl rfl rfl rfl ?_; exact fun w' hw => ⟨none, 0, rfl, Nm.nil _, Fsh.nil _ _, hw.fr (w, No) (.tail _ (.head _))⟩
  ·refine zi ?_; refine b_on (zk ?_); refine yA ?_; refine mS rfl ?_; refine mI rfl ?_; refine w_r (fun _ => R_quoN (a := s) (b := 64) rfl rfl (by omega) (by omega)) rfl rfl ?_; refine w_r (fun _ => R_lowN (l := (s / 64)) sl23 rfl rfl (by omega) hK1.kc) rfl rfl ?_; refine za (v := .slice _ _ _) rfl ?_; refine yB ?_; refine zq ?_; refine yA ?_; refine mI rfl ?_; refine w_r (fun _ => R_remU (a := s) (b := 64) rfl rfl (by omega)) rfl rfl ?_; refine aI rfl ?_; refine yC ?_; refine mI rfl ?_; refine w_r (fun _ => R_eqN (a := (s % 64)) (b := 0) rfl rfl) rfl rfl ?_; refine yB ?_; refine zD rfl (fun h5 => ?_) (fun h5 => ?_)
   ·have hq := shr_whole (n := n) h5; have hd2 := sz_div n (Go.Num.B ^ (s / 64))
    refine yA ?_; refine mS rfl ?_; refine w_tel (fun w => zR Tryz.func105 rfl rfl rfl) rfl rfl (fun w h => told_ok w ((hK1.low (l := (s / 64)) (by omega)).at_ 0 rfl h) ⟨by omega, by rw [hq]; omega⟩) (fun x6 a6 c6 hK6 hN6 => ?_)
    refine w_r (fun _ => R_extract rfl rfl) rfl rfl ?_; refine w_r (fun _ => R_extract rfl rfl) rfl rfl ?_; refine za (v := .slice _ _ _) rfl ?_; refine aI rfl ?_; refine yB ?_; refine ze ?_; refine zt (?_)
    rw [← hq]
    refine r_two (v := .slice _ _ _) (v2 := .int _ _) rfl rfl rfl rfl rfl ?_; exact fun w' hw => ⟨_, _, rfl, (hK6.at_ 0 rfl hw), (hN6 _ (.tail _ (.head _))), hw.fr (w, No) (.tail _ (.tail _ (.head _)))⟩
   ·have hq := shr_part (n := n) (s := s); have hsl : n / Go.Num.B ^ (s / 64) * 2 ^ (64 - s % 64) < Go.Num.B ^ (sz n - s / 64 + 1) := shift_lt2 (hK1.low (l := s / 64) (by omega)).lt (by omega)
    refine zi ?_; refine zk ?_; refine yA ?_; refine mS rfl ?_; refine mI rfl ?_; refine w_r (fun _ => R_subN (n := 64) (b := (s % 64)) rfl rfl (by omega) (by omega)) rfl rfl ?_; refine w_callW (fun w => zR Tryz.func106 rfl rfl rfl) rfl rfl (fun w h => shift_ok w ((hK1.low (l := (s / 64)) (by omega)).at_ 0 rfl h) (by omega) (by omega)) ?_
    rintro usb Wusb ⟨sb, rfl, rfl⟩
    refine w_r (fun _ => R_lowN (l := 1) sl23 rfl rfl (by omega) (Nat.le_refl _)) rfl rfl ?_; refine w_tel (fun w => zR Tryz.func105 rfl rfl rfl) rfl rfl (fun w h => told_ok w ((Nm.own 0 rfl hsl (Nat.le_refl _) h).low (l := 1) (by omega)) ⟨by omega, by rw [hq]; omega⟩) (fun x7 a7 c7 hK7 hN7 => ?_)
    refine w_r (fun _ => R_extract rfl rfl) rfl rfl ?_; refine w_r (fun _ => R_extract rfl rfl) rfl rfl ?_; refine za (v := .slice _ _ _) rfl ?_; refine aI rfl ?_; refine yB ?_; refine ze ?_
    rw [← hq]
    refine r_two (v := .slice _ _ _) (v2 := .int _ _) rfl rfl rfl rfl rfl ?_; exact fun w' hw => ⟨_, _, rfl, (hK7.at_ 0 rfl hw), (hN7 _ (.tail _ (.head _))), hw.fr (w, No) (.tail _ (.tail _ (.head _)))⟩
theorem shl_cat {n s : Nat} : Go.Num.B ^ (s / 64) * (n * 2 ^ (s % 64)) = n * 2 ^ s := (shl64 n s).symm
theorem shl_catlt {n s k : Nat} (h : n < Go.Num.B ^ k) : n * 2 ^ s < Go.Num.B ^ (s / 64 + (k + 1)) := by
 rw [shl64, Nat.pow_add]
 exact Nat.mul_lt_mul_of_pos_left (shift_lt2 h (Nat.lt_trans (Nat.mod_lt _ (by decide)) (by decide))) (Bpow_pos _)
set_option maxRecDepth 100000 in
set_option maxHeartbeats 4000000 in
theorem Shl_ok {a : Option Addr} {k c n s : Nat} (w : World) (hA : Nm w a k c n) (hs : k ≤ 2000000 ∧ sz n ≤ 2048 ∧ s ≤ 131072 ∧ sz (n * 2 ^ s) ≤ 2048) :
  Ret Tryz.prog 80 #[.slice a k c, .int .i64 (s : Nat)] w (Tel (fun a c => .tuple #[.slice a (sz (n * 2 ^ s)) c, .int .i64 0]) (sz (n * 2 ^ s)) (n * 2 ^ s) w) := by
 refine enter (S := No) (l := [_, _]) (L := []) 34 Tryz.func80 rfl rfl rfl (St.start w No) ?_; refine yA ?_; refine za (v := .slice _ _ _) rfl ?_; refine aI rfl ?_; refine yC ?_; refine mS rfl ?_; refine w_tel (fun w => zR Tryz.func78 rfl rfl rfl) rfl rfl (fun w h => normal_ok w ((Kn.old hA).at_ 0 rfl h) (by omega)) (fun x1 a1 c1 hK1 hN1 => ?_)
 refine za (v := .slice _ _ _) rfl ?_; refine yB ?_; refine zq ?_; refine zB ?_; refine yA ?_; refine mS rfl ?_; refine zS slt139 (by decide) rfl rfl (fun b2 gb2 ub2 => ?_)
 refine zC (fun w => zR Tryz.func88 rfl rfl rfl) rfl rfl (fun w h => long1_ok w (h.at_ 0 rfl) (hK1.at_ 0 rfl h) ⟨by omega, by omega⟩) ?_; refine aB rfl ?_; refine yB ?_; refine c_condF rfl ?_; refine yA ?_; refine mI rfl ?_; refine w_r (fun _ => R_ltN (a := s) (b := 0) rfl rfl) rfl rfl ?_; refine aB rfl ?_; refine yB ?_; refine zD rfl (fun h3 => ?_) (fun h3 => ?_)
 ·omega
 ·refine yA ?_; refine mS rfl ?_; refine w_r (fun _ => R_len sl23 rfl) rfl rfl ?_; refine w_r (fun _ => R_eqN (a := (sz n)) (b := 0) rfl rfl) rfl rfl ?_; refine aB rfl ?_; refine yB ?_; refine zD rfl (fun h4 => ?_) (fun h4 => ?_)
  ·have hq : n * 2 ^ s = 0 := (by rw [sz_eq_zero.1 h4, Nat.zero_mul])
   refine yA ?_; refine za (v := .slice _ _ _) rfl ?_; refine aI rfl ?_; refine yB ?_; refine ze ?_; refine zb (zt (?_))
   rw [hq]
   refine r_two (v := .slice _ _ _) (v2 := .int _ _) rfl rfl rfl rfl rfl ?_; exact fun w' hw => ⟨none, 0, rfl, Nm.nil _, Fsh.nil _ _, hw.fr (w, No) (.tail _ (.head _))⟩
  ·refine yA ?_; refine mI rfl ?_; refine w_r (fun _ => R_gtN (a := s) (b := 131072) rfl rfl) rfl rfl ?_; refine aB rfl ?_; refine yB ?_; refine zD rfl (fun h5 => ?_) (fun h5 => ?_)
   ·omega
   ·refine zi ?_; refine b_on (zk ?_); refine zq ?_; refine c_heldS mixed ?_; refine zh (v := .int _ _) 0 rfl (by kernel_rfl) rfl rfl (fun w h => h) (fun w h => R_move rfl) ?_; refine zh 1 rfl (by kernel_rfl) rfl rfl (fun w h => h) (fun w h => R_quoN (a := s) (b := 64) rfl rfl (by omega) (by omega)) ?_; refine zh (v := .slice _ _ _) 3 rfl (by kernel_rfl) rfl rfl (fun w h => h) (fun w h => R_move rfl) ?_; refine zh (v := .int _ _) 4 rfl (by kernel_rfl) rfl rfl (fun w h => h) (fun w h => R_move rfl) ?_; refine zh 5 rfl (by kernel_rfl) rfl rfl (fun w h => h) (fun w h => R_remU (a := s) (b := 64) rfl rfl (by omega)) ?_; refine h_two 2 6 (by kernel_rfl) (fun w h => h) ?_ ?_
    ·refine o_makeU (n := (s / 64)) rfl slt23 rfl rfl (by omega) (by omega) (fun ob gob uob => ?_)
     refine h_one 6 (by kernel_rfl) (fun w h => (h.drop (.cons _ (List.Sublist.refl _)))) ?_; refine o_callW rfl rfl rfl (fun w => zR Tryz.func106 rfl rfl rfl) (fun w h => shift_ok w (hK1.at_ 0 rfl h) (by omega) (by omega)) ?_
     rintro usb Wusb ⟨sb, rfl, rfl⟩
     refine h_one 7 (by kernel_rfl) (fun w h => (h.drop (.cons _ (.cons _ (List.Sublist.refl _))))) ?_; refine o_bsliceV rfl (wn_none rfl) slt139 (by decide) rfl rfl (fun lb glb ulb => ?_)
     refine h_one 8 (by kernel_rfl) (fun w h => (h.drop (.cons _ (.cons _ (.cons _ (List.Sublist.refl _)))))) ?_; refine o_callW rfl rfl rfl (fun w => zR Tryz.func110 rfl rfl rfl) (fun w h => Concat_ok w (h.at_ 0 rfl) (Nm.own 2 rfl (Bpow_pos _) (Nat.le_refl _) h) (Nm.own 1 rfl (shift_lt2 hK1.lt (by omega)) (Nat.le_refl _) h) ⟨by omega, by omega⟩) ?_
     rintro u9 W9 ⟨a9, c9, rfl, hO9⟩; rw [Nat.zero_add, shl_cat] at hO9; obtain ⟨a8, c8, h8, hM9, _⟩ := hO9.nm (shl_catlt hK1.lt); cases h8
     refine h_one 9 (by kernel_rfl) (fun w h => ((h.drop (List.sublist_append_right _ _)).drop (.cons _ (.cons _ (.cons _ (List.Sublist.refl _)))))) ?_; refine o_tel rfl (wn_none rfl) rfl (fun w => zR Tryz.func105 rfl rfl rfl) (fun w h => told_ok w (hM9 _ (fun p hp => h.own p (List.mem_append_left _ hp))) ⟨by omega, by omega⟩) (fun x6 a6 c6 hK6 hN6 => ?_)
     refine zh 10 rfl (by kernel_rfl) rfl rfl (fun w h => (((h.drop (List.sublist_append_right _ _)).drop (.cons _ (.cons _ (.cons _ (List.Sublist.refl _)))))).unbase (fun x hx => .tail _ hx)) (fun w h => R_extract rfl rfl) ?_; refine zh 11 rfl (by kernel_rfl) rfl rfl (fun w h => (((h.drop (List.sublist_append_right _ _)).drop (.cons _ (.cons _ (.cons _ (List.Sublist.refl _)))))).unbase (fun x hx => .tail _ hx)) (fun w h => R_extract rfl rfl) ?_; refine zh (v := .slice _ _ _) 12 rfl (by kernel_rfl) rfl rfl (fun w h => (((h.drop (List.sublist_append_right _ _)).drop (.cons _ (.cons _ (.cons _ (List.Sublist.refl _)))))).unbase (fun x hx => .tail _ hx)) (fun w h => R_assign rfl) ?_
     refine zh (v := .int _ _) 13 rfl (by kernel_rfl) rfl rfl (fun w h => (((h.drop (List.sublist_append_right _ _)).drop (.cons _ (.cons _ (.cons _ (List.Sublist.refl _)))))).unbase (fun x hx => .tail _ hx)) (fun w h => R_assign rfl) ?_; refine h_done (by kernel_rfl) (fun w h => (((h.drop (List.sublist_append_right _ _)).drop (.cons _ (.cons _ (.cons _ (List.Sublist.refl _)))))).unbase (fun x hx => .tail _ hx)) ?_; refine zk ?_; refine ze ?_; refine r_two (v := .slice _ _ _) (v2 := .int _ _) rfl rfl rfl rfl rfl ?_; exact fun w' hw => ⟨_, _, rfl, (hK6.at_ 0 rfl hw), (hN6 _ (.tail _ (.head _))), hw.fr (w, No) (.tail _ (.tail _ (.head _)))⟩
    ·refine o_callW rfl rfl rfl (fun w => zR Tryz.func106 rfl rfl rfl) (fun w h => shift_ok w (hK1.at_ 0 rfl h) (by omega) (by omega)) ?_
     rintro usb Wusb ⟨sb, rfl, rfl⟩
     refine h_one 2 (by kernel_rfl) (fun w h => (h.drop (.cons _ (List.Sublist.refl _)))) ?_; refine o_makeU (n := (s / 64)) rfl slt23 rfl rfl (by omega) (by omega) (fun ob gob uob => ?_)
     refine h_one 7 (by kernel_rfl) (fun w h => (h.drop (.cons _ (.cons _ (List.Sublist.refl _))))) ?_; refine o_bsliceV rfl (wn_none rfl) slt139 (by decide) rfl rfl (fun lb glb ulb => ?_)
     refine h_one 8 (by kernel_rfl) (fun w h => (h.drop (.cons _ (.cons _ (.cons _ (List.Sublist.refl _)))))) ?_; refine o_callW rfl rfl rfl (fun w => zR Tryz.func110 rfl rfl rfl) (fun w h => Concat_ok w (h.at_ 0 rfl) (Nm.own 1 rfl (Bpow_pos _) (Nat.le_refl _) h) (Nm.own 2 rfl (shift_lt2 hK1.lt (by omega)) (Nat.le_refl _) h) ⟨by omega, by omega⟩) ?_
     rintro u9 W9 ⟨a9, c9, rfl, hO9⟩; rw [Nat.zero_add, shl_cat] at hO9; obtain ⟨a8, c8, h8, hM9, _⟩ := hO9.nm (shl_catlt hK1.lt); cases h8
     refine h_one 9 (by kernel_rfl) (fun w h => ((h.drop (List.sublist_append_right _ _)).drop (.cons _ (.cons _ (.cons _ (List.Sublist.refl _)))))) ?_; refine o_tel rfl (wn_none rfl) rfl (fun w => zR Tryz.func105 rfl rfl rfl) (fun w h => told_ok w (hM9 _ (fun p hp => h.own p (List.mem_append_left _ hp))) ⟨by omega, by omega⟩) (fun x7 a7 c7 hK7 hN7 => ?_)
     refine zh 10 rfl (by kernel_rfl) rfl rfl (fun w h => (((h.drop (List.sublist_append_right _ _)).drop (.cons _ (.cons _ (.cons _ (List.Sublist.refl _)))))).unbase (fun x hx => .tail _ hx)) (fun w h => R_extract rfl rfl) ?_; refine zh 11 rfl (by kernel_rfl) rfl rfl (fun w h => (((h.drop (List.sublist_append_right _ _)).drop (.cons _ (.cons _ (.cons _ (List.Sublist.refl _)))))).unbase (fun x hx => .tail _ hx)) (fun w h => R_extract rfl rfl) ?_; refine zh (v := .slice _ _ _) 12 rfl (by kernel_rfl) rfl rfl (fun w h => (((h.drop (List.sublist_append_right _ _)).drop (.cons _ (.cons _ (.cons _ (List.Sublist.refl _)))))).unbase (fun x hx => .tail _ hx)) (fun w h => R_assign rfl) ?_
     refine zh (v := .int _ _) 13 rfl (by kernel_rfl) rfl rfl (fun w h => (((h.drop (List.sublist_append_right _ _)).drop (.cons _ (.cons _ (.cons _ (List.Sublist.refl _)))))).unbase (fun x hx => .tail _ hx)) (fun w h => R_assign rfl) ?_; refine h_done (by kernel_rfl) (fun w h => (((h.drop (List.sublist_append_right _ _)).drop (.cons _ (.cons _ (.cons _ (List.Sublist.refl _)))))).unbase (fun x hx => .tail _ hx)) ?_; refine zk ?_; refine ze ?_; refine r_two (v := .slice _ _ _) (v2 := .int _ _) rfl rfl rfl rfl rfl ?_; exact fun w' hw => ⟨_, _, rfl, (hK7.at_ 0 rfl hw), (hN7 _ (.tail _ (.head _))), hw.fr (w, No) (.tail _ (.tail _ (.head _)))⟩
end Go.Proofs.YtoapegnngbhkbaaGreatDoor
end
section
/- The plain part of the dyadic numbers: a quotient at an exponent, and the next one. -/
namespace Go.Num
/-- the quotient of a by b and 2^e, rounded down; k is what the first exponent is above -/
def qe (a : Int) (b : Nat) (k : Int) : Int := if 0 ≤ k then (a * (2 ^ k.toNat : Nat)) / (b : Int) else a / ((b * 2 ^ (-k).toNat : Nat) : Int)
theorem qe_next (a : Int) {b : Nat} (hb : 0 < b) (k : Int) : qe a b (k - 1) = qe a b k / 2 := by
  unfold qe
  rcases Int.lt_or_le k 1 with h | h
  · rcases Int.lt_or_le k 0 with h1 | h1
    · rw [if_neg (by omega), if_neg (by omega)]
      rw [Int.ediv_ediv_of_nonneg (by exact Int.natCast_nonneg _)]
      rw [show (-(k - 1)).toNat = (-k).toNat + 1 by omega, Nat.pow_succ, ← Nat.mul_assoc]
      rfl
    · have : k = 0 := by omega
      subst this
      rw [if_neg (by omega), if_pos (by omega)]
      rw [Int.ediv_ediv_of_nonneg (by exact Int.natCast_nonneg _)]
      simp
  · rw [if_pos (by omega), if_pos (by omega)]
    rw [Int.ediv_ediv_of_nonneg (by exact Int.natCast_nonneg _)]
    rw [show k.toNat = (k - 1).toNat + 1 by omega, Nat.pow_succ]
    rw [Int.natCast_mul, ← Int.mul_assoc, show ((2 : Nat) : Int) = 2 from rfl, Int.mul_ediv_mul_of_pos_left _ _ (by decide)]
end Go.Num
end
section
/- The plain part of the dyadic numbers: normal forms, and a number rounded to some bits. -/
namespace Go.Num
theorem ediv_abs_ge {X : Int} {Y T : Nat} (hY : 0 < Y) (h : T * Y ≤ X.natAbs) : T ≤ (X / (Y : Int)).natAbs := by
  have hY' : (0 : Int) < (Y : Int) := by omega
  have h' : ((T : Int) * (Y : Int)) ≤ (X.natAbs : Int) := by rw [← Int.natCast_mul]; omega
  rcases Int.lt_or_le X 0 with h0 | h0
  · have h1 : X / (Y : Int) < -(T : Int) + 1 := by
      rw [Int.ediv_lt_iff_lt_mul hY', Int.add_mul, Int.neg_mul]; omega
    omega
  · have h1 : (T : Int) ≤ X / (Y : Int) := by
      rw [Int.le_ediv_iff_mul_le hY']; omega
    omega
theorem ediv_abs_le {X : Int} {Y T : Nat} (hY : 0 < Y) (h : X.natAbs ≤ T * Y) : (X / (Y : Int)).natAbs ≤ T := by
  have hY' : (0 : Int) < (Y : Int) := by omega
  have h' : (X.natAbs : Int) ≤ ((T : Int) * (Y : Int)) := by rw [← Int.natCast_mul]; omega
  have h1 : X / (Y : Int) < (T : Int) + 1 := by
    rw [Int.ediv_lt_iff_lt_mul hY', Int.add_mul]; omega
  have h2 : -(T : Int) ≤ X / (Y : Int) := by
    rw [Int.le_ediv_iff_mul_le hY', Int.neg_mul]; omega
  omega
theorem abs_pow (a : Int) (k : Nat) : (a * ((2 ^ k : Nat) : Int)).natAbs = a.natAbs * 2 ^ k := by
  rw [Int.natAbs_mul, Int.natAbs_natCast]
theorem qe_ge {a : Int} {b t : Nat} {k : Int} (ha : a ≠ 0) (hb : 0 < b) (h : (t : Int) + bl b ≤ k + bl a.natAbs - 1) : 2 ^ t ≤ (qe a b k).natAbs := by
  have h1 := bl_ge (n := a.natAbs) (by omega)
  have h2 := lt_bl b
  have hp := bl_pos (n := a.natAbs) (by omega)
  unfold qe
  split
  · refine ediv_abs_ge hb ?_
    rw [abs_pow]
    calc 2 ^ t * b ≤ 2 ^ t * 2 ^ bl b := Nat.mul_le_mul_left _ (Nat.le_of_lt h2)
      _ = 2 ^ (t + bl b) := by rw [Nat.pow_add]
      _ ≤ 2 ^ (bl a.natAbs - 1 + k.toNat) := Nat.pow_le_pow_right (by decide) (by omega)
      _ = 2 ^ (bl a.natAbs - 1) * 2 ^ k.toNat := by rw [Nat.pow_add]
      _ ≤ a.natAbs * 2 ^ k.toNat := Nat.mul_le_mul_right _ h1
  · refine ediv_abs_ge (Nat.mul_pos hb (Nat.pow_pos (by decide))) ?_
    calc 2 ^ t * (b * 2 ^ (-k).toNat) ≤ 2 ^ t * (2 ^ bl b * 2 ^ (-k).toNat) := Nat.mul_le_mul_left _ (Nat.mul_le_mul_right _ (Nat.le_of_lt h2))
      _ = 2 ^ (t + (bl b + (-k).toNat)) := by rw [Nat.pow_add, Nat.pow_add]
      _ ≤ 2 ^ (bl a.natAbs - 1) := Nat.pow_le_pow_right (by decide) (by omega)
      _ ≤ a.natAbs := h1
theorem qe_le {a : Int} {b t : Nat} {k : Int} (hb : 0 < b) (h : k + bl a.natAbs ≤ t + bl b - 1) : (qe a b k).natAbs ≤ 2 ^ t := by
  have h1 := lt_bl a.natAbs
  have h2 := bl_ge (n := b) (by omega)
  have hp := bl_pos (n := b) (by omega)
  unfold qe
  split
  · refine ediv_abs_le hb ?_
    rw [abs_pow]
    calc a.natAbs * 2 ^ k.toNat ≤ 2 ^ bl a.natAbs * 2 ^ k.toNat := Nat.mul_le_mul_right _ (Nat.le_of_lt h1)
      _ = 2 ^ (bl a.natAbs + k.toNat) := by rw [Nat.pow_add]
      _ ≤ 2 ^ (t + (bl b - 1)) := Nat.pow_le_pow_right (by decide) (by omega)
      _ = 2 ^ t * 2 ^ (bl b - 1) := by rw [Nat.pow_add]
      _ ≤ 2 ^ t * b := Nat.mul_le_mul_left _ h2
  · refine ediv_abs_le (Nat.mul_pos hb (Nat.pow_pos (by decide))) ?_
    calc a.natAbs ≤ 2 ^ bl a.natAbs := Nat.le_of_lt h1
      _ ≤ 2 ^ (t + ((bl b - 1) + (-k).toNat)) := Nat.pow_le_pow_right (by decide) (by omega)
      _ = 2 ^ t * (2 ^ (bl b - 1) * 2 ^ (-k).toNat) := by rw [Nat.pow_add, Nat.pow_add]
      _ ≤ 2 ^ t * (b * 2 ^ (-k).toNat) := Nat.mul_le_mul_left _ (Nat.mul_le_mul_right _ h2)
/-- how many bits 0 a number ends in -/
def tz (n : Nat) : Nat := if n = 0 then 0 else if n % 2 = 1 then 0 else tz (n / 2) + 1
termination_by n
decreasing_by omega
/-- a number without the bits 0 that it ends in -/
def od (n : Nat) : Nat := n / 2 ^ tz n
theorem tz_zero : tz 0 = 0 := by rw [tz]; rfl
theorem tz_odd {n : Nat} (h : n % 2 = 1) : tz n = 0 := by rw [tz, if_neg (by omega), if_pos h]
theorem tz_even {n : Nat} (h : n ≠ 0) : tz (2 * n) = tz n + 1 := by rw [tz, if_neg (by omega), if_neg (by omega), Nat.mul_div_cancel_left _ (by decide)]
theorem od_zero : od 0 = 0 := by unfold od; rw [Nat.zero_div]
theorem od_odd {n : Nat} (h : n % 2 = 1) : od n = n := by unfold od; rw [tz_odd h]; simp
theorem od_even (n : Nat) : od (2 * n) = od n := by
  rcases Nat.eq_zero_or_pos n with rfl | h
  · rfl
  · unfold od; rw [tz_even (by omega), Nat.pow_succ, Nat.mul_comm _ 2, Nat.mul_div_mul_left _ _ (by decide)]
/-- bits of a number, normal -/
def nb (x : Int) : Nat := bl (od x.natAbs)
/-- a dyadic number, normal -/
def nd (x e : Int) : Int × Int := if x = 0 then (0, 0) else (x.sign * od x.natAbs, e + tz x.natAbs)
theorem nd_zero (e : Int) : nd 0 e = (0, 0) := rfl
theorem nb_half (x : Int) : nb (2 * x) = nb x := by unfold nb; rw [Int.natAbs_mul, show (2 : Int).natAbs = 2 from rfl, od_even]
theorem nd_half (x e : Int) : nd (2 * x) e = nd x (e + 1) := by
  unfold nd
  rcases Decidable.em (x = 0) with rfl | h
  · rfl
  · rw [if_neg (by omega), if_neg h, Int.natAbs_mul, show (2 : Int).natAbs = 2 from rfl, od_even, tz_even (by omega), Int.sign_mul, show (2 : Int).sign = 1 from rfl, Int.one_mul]
    congr 1
    omega
theorem even_of_nb {x : Int} {p : Nat} (h : nb x ≤ p) (h2 : 2 ^ p ≤ x.natAbs) : x = 2 * (x / 2) := by
  rcases Nat.mod_two_eq_zero_or_one x.natAbs with h0 | h0
  · omega
  · unfold nb at h
    rw [od_odd h0] at h
    have := bl_iff.1 h
    omega
/-- a rounded number that has few bits already is that of the next exponent -/
theorem nb_skip {x e : Int} {p : Nat} (h : nb x ≤ p) (h2 : 2 ^ p ≤ x.natAbs) : nd x e = nd (x / 2) (e + 1) ∧ nb (x / 2) ≤ p := by
  have h3 := even_of_nb h h2
  have e1 := nd_half (x / 2) e
  have e2 := nb_half (x / 2)
  rw [← h3] at e1 e2
  exact ⟨e1, by omega⟩
theorem od_pow : ∀ k : Nat, od (2 ^ k) = 1
  | 0 => od_odd rfl
  | k + 1 => by rw [Nat.pow_succ, Nat.mul_comm, od_even, od_pow k]
theorem od_le (n : Nat) : od n ≤ n := Nat.div_le_self _ _
/-- at most 2^p: at most p bits -/
theorem nb_le {x : Int} {p : Nat} (hp : 0 < p) (h : x.natAbs ≤ 2 ^ p) : nb x ≤ p := by
  unfold nb
  rcases Nat.lt_or_ge x.natAbs (2 ^ p) with h1 | h1
  · exact bl_le (Nat.lt_of_le_of_lt (od_le _) h1)
  · rw [show x.natAbs = 2 ^ p by omega, od_pow]
    exact bl_le (Nat.lt_of_lt_of_le (by decide) (Nat.pow_le_pow_right (n := 2) (by decide) hp))
/-- what a rounding tells: at its first exponent or at the next one -/
def rd (a : Int) (b p : Nat) (f e0 : Int) : Int × Int :=
  if nb (qe a b (f - e0)) ≤ p then nd (qe a b (f - e0)) e0 else nd (qe a b (f - (e0 + 1))) (e0 + 1)
section
variable {a : Int} {b p : Nat} {f e0 : Int}
/-- the first exponent: tops less bits -/
def e0is (a : Int) (b p : Nat) (f e0 : Int) : Prop := e0 = bl a.natAbs + f - bl b - p
/-- the rounding ends at the second exponent -/
theorem rd_ends (hb : 0 < b) (hp : 0 < p) (h : e0is a b p f e0) : nb (qe a b (f - (e0 + 1))) ≤ p := by
  unfold e0is at h
  exact nb_le hp (qe_le hb (by omega))
theorem rd_skip1 (ha : a ≠ 0) (hb : 0 < b) (h : e0is a b p f e0) (h1 : nb (qe a b (f - (e0 - 1))) ≤ p) :
    nd (qe a b (f - (e0 - 1))) (e0 - 1) = nd (qe a b (f - e0)) e0 ∧ nb (qe a b (f - e0)) ≤ p := by
  unfold e0is at h
  have h2 := nb_skip (e := e0 - 1) h1 (qe_ge ha hb (by omega))
  rw [← qe_next a hb, show f - (e0 - 1) - 1 = f - e0 by omega, show e0 - 1 + 1 = e0 by omega] at h2
  exact h2
theorem rd_skip2 (ha : a ≠ 0) (hb : 0 < b) (h : e0is a b p f e0) (h1 : nb (qe a b (f - (e0 - 2))) ≤ p) :
    nd (qe a b (f - (e0 - 2))) (e0 - 2) = nd (qe a b (f - (e0 - 1))) (e0 - 1) ∧ nb (qe a b (f - (e0 - 1))) ≤ p := by
  have h' := h
  unfold e0is at h'
  have h3 : 2 ^ (p + 1) ≤ (qe a b (f - (e0 - 2))).natAbs := qe_ge ha hb (by omega)
  have h2 := nb_skip (e := e0 - 2) h1 (Nat.le_trans (Nat.pow_le_pow_right (by decide) (Nat.le_succ p)) h3)
  rw [← qe_next a hb, show f - (e0 - 2) - 1 = f - (e0 - 1) by omega, show e0 - 2 + 1 = e0 - 1 by omega] at h2
  exact h2
/-- what a rounding tells that begins two exponents below -/
theorem rd_low (ha : a ≠ 0) (hb : 0 < b) (h : e0is a b p f e0) :
    rd a b p f e0 = if nb (qe a b (f - (e0 - 2))) ≤ p then nd (qe a b (f - (e0 - 2))) (e0 - 2)
      else if nb (qe a b (f - (e0 - 1))) ≤ p then nd (qe a b (f - (e0 - 1))) (e0 - 1) else rd a b p f e0 := by
  split
  · rename_i h1
    obtain ⟨h2, h3⟩ := rd_skip2 ha hb h h1
    obtain ⟨h4, h5⟩ := rd_skip1 ha hb h h3
    rw [h2, h4]; unfold rd; rw [if_pos h5]
  · split
    · rename_i h3
      obtain ⟨h4, h5⟩ := rd_skip1 ha hb h h3
      rw [h4]; unfold rd; rw [if_pos h5]
    · rfl
end
end Go.Num
end
section
/- The plain part of the integers: a sign and a size, sums, quotients rounded down. -/
namespace Go.Num
/-- the integer of a sign and a size -/
def iv (s : Bool) (n : Nat) : Int := if s then -(n : Int) else n
/-- the sign of an integer -/
def ng (x : Int) : Bool := decide (x < 0)
section
variable {s t : Bool} {n m : Nat} {x y : Int}
theorem iv_abs (s : Bool) (n : Nat) : (iv s n).natAbs = n := by cases s <;> simp [iv]
theorem ng_iv (s : Bool) (n : Nat) : ng (iv s n) = (s && decide (n ≠ 0)) := by
  cases s
  · simp [iv, ng]
  · simp only [iv, ng, if_true, Bool.true_and]; exact decide_eq_decide.2 (by omega)
theorem iv_ng (x : Int) : iv (ng x) x.natAbs = x := by
  unfold iv ng
  rcases Int.lt_or_le x 0 with h | h
  · rw [decide_eq_true h, if_pos rfl]; omega
  · rw [decide_eq_false (by omega), if_neg (by decide)]; omega
theorem iv_zero (s : Bool) : iv s 0 = 0 := by cases s <;> rfl
theorem iv_not (s : Bool) (n : Nat) : iv (!s) n = -iv s n := by cases s <;> simp [iv]
theorem ng_true : ng x = true ↔ x < 0 := by unfold ng; exact decide_eq_true_iff
theorem ng_false : ng x = false ↔ 0 ≤ x := by unfold ng; rw [decide_eq_false_iff_not]; omega
/-- a sum of one sign -/
theorem add_same (h : ng x = ng y) : iv (ng x) (x.natAbs + y.natAbs) = x + y := by
  unfold iv ng at *
  rcases Int.lt_or_le x 0 with h1 | h1 <;> rcases Int.lt_or_le y 0 with h2 | h2
  · rw [decide_eq_true h1, if_pos rfl]; omega
  · rw [decide_eq_true h1, decide_eq_false (by omega)] at h; exact absurd h (by decide)
  · rw [decide_eq_false (p := x < 0) (by omega), decide_eq_true h2] at h; exact absurd h (by decide)
  · rw [decide_eq_false (by omega), if_neg (by decide)]; omega
/-- a sum of two signs, the first one's size is not below -/
theorem add_apart (h : ng x ≠ ng y) (hn : y.natAbs ≤ x.natAbs) : iv (ng x) (x.natAbs - y.natAbs) = x + y := by
  unfold iv ng at *
  rcases Int.lt_or_le x 0 with h1 | h1 <;> rcases Int.lt_or_le y 0 with h2 | h2
  · rw [decide_eq_true h1, decide_eq_true h2] at h; exact absurd rfl h
  · rw [decide_eq_true h1, if_pos rfl]; omega
  · rw [decide_eq_false (by omega), if_neg (by decide)]; omega
  · rw [decide_eq_false (p := x < 0) (by omega), decide_eq_false (p := y < 0) (by omega)] at h; exact absurd rfl h
theorem mul_iv (s t : Bool) (n m : Nat) : iv (s != t) (n * m) = iv s n * iv t m := by
  cases s <;> cases t <;> simp [iv, Int.neg_mul, Int.mul_neg]
/-- a quotient of sizes is the quotient rounded down if the signs are one, or nothing is left -/
theorem floor_pos (n m : Nat) : ((n / m : Nat) : Int) = (n : Int) / (m : Int) := Int.natCast_ediv n m
theorem floor_neg {n m : Nat} (hm : 0 < m) : -(n : Int) / (m : Int) = -((if n % m = 0 then n / m else n / m + 1 : Nat) : Int) := by
  have h1 := Nat.div_add_mod n m
  have h2 := Nat.mod_lt n hm
  have hm' : (0 : Int) < (m : Int) := by omega
  generalize n / m = q at *
  generalize n % m = r at *
  subst h1
  split
  · refine ((Int.ediv_emod_unique (r := 0) hm').2 ⟨?_, by omega, by omega⟩).1
    rw [Int.natCast_add, Int.natCast_mul, Int.mul_neg]; omega
  · refine ((Int.ediv_emod_unique (r := (m : Int) - r) hm').2 ⟨?_, by omega, by omega⟩).1
    rw [Int.natCast_add (m * q), Int.natCast_mul, Int.mul_neg, show ((q + 1 : Nat) : Int) = (q : Int) + 1 from rfl, Int.mul_add]; omega
/-- the quotient of x by y, rounded down: over the size of y -/
def fl (x y : Int) : Int := (if ng y then -x else x) / (y.natAbs : Int)
/-- the quotient as the program tells it -/
theorem fl_sizes (hy : y ≠ 0) : fl x y = iv (ng x != ng y) (if (ng x != ng y) = true ∧ x.natAbs % y.natAbs ≠ 0 then x.natAbs / y.natAbs + 1 else x.natAbs / y.natAbs) := by
  have hm : 0 < y.natAbs := by omega
  have e : (if ng y then -x else x) = iv (ng x != ng y) x.natAbs := by
    cases hs : ng y
    · rw [if_neg (by decide), Bool.bne_false, iv_ng]
    · rw [if_pos rfl, Bool.bne_true, iv_not, iv_ng]
  unfold fl
  rw [e]
  generalize x.natAbs = n
  generalize y.natAbs = m at *
  cases (ng x != ng y)
  · rw [if_neg (fun h => absurd h.1 (by decide))]
    simp only [iv, Bool.false_eq_true, if_false]
    exact (floor_pos n m).symm
  · simp only [iv, if_true]
    rw [floor_neg hm]
    congr 2
    by_cases h : n % m = 0
    · rw [if_pos h, if_neg (fun h2 => h2.2 h)]
    · rw [if_neg h, if_pos ⟨trivial, h⟩]
/-- a number is at most the quotient just if what is left has the divisor's sign, or nothing is left -/
theorem fl_le (hy : y ≠ 0) (c : Int) : (x - c * y = 0 ∨ (x - c * y).sign = y.sign) ↔ c ≤ fl x y := by
  have hm : (0 : Int) < (y.natAbs : Int) := by omega
  unfold fl
  rw [Int.le_ediv_iff_mul_le hm]
  rcases Int.lt_or_le y 0 with h | h
  · rw [ng_true.2 h, if_pos rfl, Int.sign_eq_neg_one_iff_neg.2 h, Int.sign_eq_neg_one_iff_neg]
    rw [show (y.natAbs : Int) = -y by omega, Int.mul_neg]
    omega
  · rw [ng_false.2 h, if_neg (by decide), Int.sign_eq_one_iff_pos.2 (show 0 < y by omega), Int.sign_eq_one_iff_pos]
    rw [show (y.natAbs : Int) = y by omega]
    omega
/-- the quotient of the sizes with its sign, and one more, is not below -/
theorem fl_start (hy : y ≠ 0) : fl x y ≤ iv (ng x != ng y) (x.natAbs / y.natAbs) + 1 := by
  rw [fl_sizes hy]
  generalize x.natAbs / y.natAbs = q
  cases (ng x != ng y)
  · rw [if_neg (fun h => absurd h.1 (by decide))]; omega
  · simp only [iv, if_true]
    split <;> omega
/-- the loop from above ends at the quotient -/
theorem fl_end (hy : y ≠ 0) {c : Int} (h : fl x y ≤ c) (h2 : x - c * y = 0 ∨ (x - c * y).sign = y.sign) : c = fl x y := by
  have := (fl_le hy c).1 h2
  omega
theorem fl_down (hy : y ≠ 0) {c : Int} (h2 : ¬(x - c * y = 0 ∨ (x - c * y).sign = y.sign)) : fl x y ≤ c - 1 := by
  have := mt (fl_le hy c).2 h2
  omega
end
end Go.Num
end
