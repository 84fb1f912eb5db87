/- Layer 13, ParseWrites. Part 5 of 15. -/
import Derived.Test.YtaniogadknakoaaGreatDoorW04
set_option maxRecDepth 100000
set_option maxHeartbeats 16000000
section
namespace Go.Proofs.YtaniogadknakoaaGreatDoor
open Go.RowKit Go.Sx
open Go.Tok
theorem two_at {k : Nat} (h : k < 5) : ([str [61, 61], str [33, 61], str [60, 61], str [62, 61], str [43, 61]] : List Value)[0 + k * 1]? = some (str (signsL.getD k [])) := by
  match k, h with
  | 0, _ => rfl
  | 1, _ => rfl
  | 2, _ => rfl
  | 3, _ => rfl
  | 4, _ => rfl

theorem rdigit_spec (s : List UInt8) (i : Nat) (hs : s.length ≤ 10000000) (hi : i ≤ 20000000) (w : World) :
    Ret Tryz.prog 47 #[str s, .int .i64 (i : Nat)] w (fun v w' => v = .bool (atP digitB s i) ∧ Ext w w') := by
  refine enter (S := No) (l := [_, _]) (L := []) 21 Tryz.func47 rfl rfl rfl (St.start w No) (yA (aB rfl (yC (mI rfl (zm (v := str _) rfl (zg (fun _ => R_slen st9 rfl (by omega)) (zg (fun _ => R_lt rfl rfl) (mB rfl ?_)))))))); refine zd (t := 9) rfl (fun h1 => ?_) (fun h1 => ?_)
  · refine zw rfl rfl (bT h1) (zm (v := str _) rfl (zw rfl rfl (bT h1) (mI rfl (zw rfl rfl (bT h1) (w_sidx st9 rfl rfl (by omega) (zw rfl rfl (bT h1) (zg (fun _ => R_ge rfl rfl) (zg (v := .bool _) (fun _ => zT (bT h1) rfl) (mB rfl ?_))))))))); refine zd (t := 15) rfl (fun h2 => ?_) (fun h2 => ?_)
    · refine zw rfl rfl (bT h2) (zm (v := str _) rfl (zw rfl rfl (bT h2) (mI rfl (zw rfl rfl (bT h2) (w_sidx st9 rfl rfl (by omega) (zw rfl rfl (bT h2) (zg (fun _ => R_le rfl rfl) (zg (v := .bool _) (fun _ => zT (bT h2) rfl) (aB rfl (yB (ze (zo (v := .bool _) rfl rfl rfl ?_)))))))))))); exact fun w' hw => ⟨by (rw [atP_in (by omega), digit_int]; simp [*]; done), hw.fr _ zm0⟩
    · refine zs rfl rfl (bF h2) (zs rfl rfl (bF h2) (zs rfl rfl (bF h2) (zs rfl rfl (bF h2) (zg (v := .bool _) (fun _ => zF (bF h2) rfl) (aB rfl (yB (ze (zo (v := .bool _) rfl rfl rfl ?_)))))))); exact fun w' hw => ⟨by (rw [atP_in (by omega), digit_int]; simp [*]; done), hw.fr _ zm0⟩
  · refine zs rfl rfl (bF h1) (zs rfl rfl (bF h1) (zs rfl rfl (bF h1) (zs rfl rfl (bF h1) (zg (v := .bool _) (fun _ => zF (bF h1) rfl) (mB rfl ?_))))); (iterate 4 refine zs rfl rfl rfl ?_); refine zg (v := .bool _) (fun _ => zF rfl rfl) (aB rfl (yB (ze (zo (v := .bool _) rfl rfl rfl ?_)))); exact fun w' hw => ⟨by rw [atP_out (by omega)], hw.fr _ zm0⟩

theorem rletter_spec (s : List UInt8) (i : Nat) (hs : s.length ≤ 10000000) (hi : i ≤ 20000000) (w : World) :
    Ret Tryz.prog 46 #[str s, .int .i64 (i : Nat)] w (fun v w' => v = .bool (atP letterB s i) ∧ Ext w w') := by
  refine enter (S := No) (l := [_, _]) (L := []) 39 Tryz.func46 rfl rfl rfl (St.start w No) (yA (aB rfl (yC (mI rfl (zm (v := str _) rfl (zg (fun _ => R_slen st9 rfl (by omega)) (zg (fun _ => R_lt rfl rfl) (mB rfl ?_)))))))); refine zd (t := 9) rfl (fun h1 => ?_) (fun h1 => ?_)
  · refine zw rfl rfl (bT h1) (zm (v := str _) rfl (zw rfl rfl (bT h1) (mI rfl (zw rfl rfl (bT h1) (w_sidx st9 rfl rfl (by omega) (zw rfl rfl (bT h1) (zg (fun _ => R_ge rfl rfl) (zw rfl rfl (bT h1) (mB rfl ?_))))))))); refine zd (t := 14) rfl (fun h2 => ?_) (fun h2 => ?_)
    · refine zw rfl rfl (bT h2) (zm (v := str _) rfl (zw rfl rfl (bT h2) (mI rfl (zw rfl rfl (bT h2) (w_sidx st9 rfl rfl (by omega) (zw rfl rfl (bT h2) (zg (fun _ => R_le rfl rfl) (zw rfl rfl (bT h1) (zg (v := .bool _) (fun _ => zT (bT h2) rfl) (zw rfl rfl (bT h1) (mB rfl ?_))))))))))); refine zd (t := 20) rfl (fun h3 => ?_) (fun h3 => ?_)
      · refine zs rfl rfl (bT h3) (zs rfl rfl (bT h3) (zs rfl rfl (bT h3) (zs rfl rfl (bT h3) (zs rfl rfl (bT h3) (zU rfl rfl rfl (zU rfl rfl rfl (zU rfl rfl rfl (zU rfl rfl rfl (zs rfl rfl (bT h3) (zw rfl rfl (bT h1) (zg (v := .bool _) (fun _ => zT (bT h3) rfl) (zw rfl rfl (bT h1) (mB rfl ?_))))))))))))); (iterate 4 refine zs rfl rfl rfl ?_); refine zw rfl rfl (bT h1) (zg (v := .bool _) (fun _ => zT rfl rfl) (zg (v := .bool _) (fun _ => zT (bT h1) rfl) (aB rfl (yB (ze ?_)))))
        refine zo (v := .bool _) rfl rfl rfl ?_; exact fun w' hw => ⟨by (rw [atP_in (by omega), letter_int]; simp [*]; done), hw.fr _ zm0⟩
      · refine zw rfl rfl (bF h3) (zm (v := str _) rfl (zw rfl rfl (bF h3) (mI rfl (zw rfl rfl (bF h3) (w_sidx st9 rfl rfl (by omega) (zw rfl rfl (bF h3) (zg (fun _ => R_ge rfl rfl) (zw rfl rfl (bF h3) (mB rfl ?_))))))))); refine zd (t := 25) rfl (fun h4 => ?_) (fun h4 => ?_)
        · refine zw rfl rfl (bT h4) (zm (v := str _) rfl (zw rfl rfl (bT h4) (mI rfl (zw rfl rfl (bT h4) (w_sidx st9 rfl rfl (by omega) (zw rfl rfl (bT h4) (zg (fun _ => R_le rfl rfl) (zw rfl rfl (bF h3) (zg (v := .bool _) (fun _ => zT (bT h4) rfl) (zw rfl rfl (bT h1) (zg (v := .bool _) (fun _ => zF (bF h3) rfl) (zw rfl rfl (bT h1) (mB rfl ?_))))))))))))); refine zd (t := 32) rfl (fun h5 => ?_) (fun h5 => ?_)
          · refine zs rfl rfl (bT h5) (zs rfl rfl (bT h5) (zs rfl rfl (bT h5) (zs rfl rfl (bT h5) (zw rfl rfl (bT h1) (zg (v := .bool _) (fun _ => zT (bT h5) rfl) (zg (v := .bool _) (fun _ => zT (bT h1) rfl) (aB rfl (yB (ze (zo (v := .bool _) rfl rfl rfl ?_)))))))))); exact fun w' hw => ⟨by (exfalso; omega), hw.fr _ zm0⟩
          · refine zw rfl rfl (bF h5) (zm (v := str _) rfl (zw rfl rfl (bF h5) (mI rfl (zw rfl rfl (bF h5) (w_sidx st9 rfl rfl (by omega) (zw rfl rfl (bF h5) (zg (fun _ => R_eq rfl rfl) (zw rfl rfl (bT h1) (zg (v := .bool _) (fun _ => zF (bF h5) rfl) (zg (v := .bool _) (fun _ => zT (bT h1) rfl) (aB rfl (yB (ze (zo (v := .bool _) rfl rfl rfl ?_)))))))))))))); exact fun w' hw => ⟨by (rw [atP_in (by omega), letter_int]; simp [*]; done), hw.fr _ zm0⟩
        · refine zs rfl rfl (bF h4) (zs rfl rfl (bF h4) (zs rfl rfl (bF h4) (zs rfl rfl (bF h4) (zw rfl rfl (bF h3) (zg (v := .bool _) (fun _ => zF (bF h4) rfl) (zw rfl rfl (bT h1) (zg (v := .bool _) (fun _ => zF (bF h3) rfl) (zw rfl rfl (bT h1) (mB rfl (zw rfl rfl rfl (zm (v := str _) rfl (zw rfl rfl rfl (mI rfl (zw rfl rfl rfl (w_sidx st9 rfl rfl (by omega) (zw rfl rfl rfl (zg (fun _ => R_eq rfl rfl) (zw rfl rfl (bT h1) (zg (v := .bool _) (fun _ => zF rfl rfl) (zg (v := .bool _) (fun _ => zT (bT h1) rfl) (aB rfl (yB (ze (zo (v := .bool _) rfl rfl rfl ?_)))))))))))))))))))))))); exact fun w' hw => ⟨by (exfalso; omega), hw.fr _ zm0⟩
    · refine zs rfl rfl (bF h2) (zs rfl rfl (bF h2) (zs rfl rfl (bF h2) (zs rfl rfl (bF h2) (zw rfl rfl (bT h1) (zg (v := .bool _) (fun _ => zF (bF h2) rfl) (zw rfl rfl (bT h1) (mB rfl (zw rfl rfl rfl (zm (v := str _) rfl (zw rfl rfl rfl (mI rfl (zw rfl rfl rfl (w_sidx st9 rfl rfl (by omega) (zw rfl rfl rfl (zg (fun _ => R_ge rfl rfl) (zw rfl rfl rfl (mB rfl ?_))))))))))))))))); refine zd (t := 25) rfl (fun h6 => ?_) (fun h6 => ?_)
      · refine zw rfl rfl (bT h6) (zm (v := str _) rfl (zw rfl rfl (bT h6) (mI rfl (zw rfl rfl (bT h6) (w_sidx st9 rfl rfl (by omega) (zw rfl rfl (bT h6) (zg (fun _ => R_le rfl rfl) (zw rfl rfl rfl (zg (v := .bool _) (fun _ => zT (bT h6) rfl) (zw rfl rfl (bT h1) (zg (v := .bool _) (fun _ => zF rfl rfl) (zw rfl rfl (bT h1) (mB rfl ?_))))))))))))); refine zd (t := 32) rfl (fun h7 => ?_) (fun h7 => ?_)
        · refine zs rfl rfl (bT h7) (zs rfl rfl (bT h7) (zs rfl rfl (bT h7) (zs rfl rfl (bT h7) (zw rfl rfl (bT h1) (zg (v := .bool _) (fun _ => zT (bT h7) rfl) (zg (v := .bool _) (fun _ => zT (bT h1) rfl) (aB rfl (yB (ze (zo (v := .bool _) rfl rfl rfl ?_)))))))))); exact fun w' hw => ⟨by (rw [atP_in (by omega), letter_int]; simp [*]; done), hw.fr _ zm0⟩
        · refine zw rfl rfl (bF h7) (zm (v := str _) rfl (zw rfl rfl (bF h7) (mI rfl (zw rfl rfl (bF h7) (w_sidx st9 rfl rfl (by omega) (zw rfl rfl (bF h7) (zg (fun _ => R_eq rfl rfl) (zw rfl rfl (bT h1) (zg (v := .bool _) (fun _ => zF (bF h7) rfl) (zg (v := .bool _) (fun _ => zT (bT h1) rfl) (aB rfl (yB (ze (zo (v := .bool _) rfl rfl rfl ?_)))))))))))))); exact fun w' hw => ⟨by (rw [atP_in (by omega), letter_int]; simp [*]; done), hw.fr _ zm0⟩
      · refine zs rfl rfl (bF h6) (zs rfl rfl (bF h6) (zs rfl rfl (bF h6) (zs rfl rfl (bF h6) (zw rfl rfl rfl (zg (v := .bool _) (fun _ => zF (bF h6) rfl) (zw rfl rfl (bT h1) (zg (v := .bool _) (fun _ => zF rfl rfl) (zw rfl rfl (bT h1) (mB rfl (zw rfl rfl rfl (zm (v := str _) rfl (zw rfl rfl rfl (mI rfl (zw rfl rfl rfl (w_sidx st9 rfl rfl (by omega) (zw rfl rfl rfl (zg (fun _ => R_eq rfl rfl) (zw rfl rfl (bT h1) (zg (v := .bool _) (fun _ => zF rfl rfl) (zg (v := .bool _) (fun _ => zT (bT h1) rfl) (aB rfl (yB (ze (zo (v := .bool _) rfl rfl rfl ?_)))))))))))))))))))))))); exact fun w' hw => ⟨by (rw [atP_in (by omega), letter_int]; simp [*]; done), hw.fr _ zm0⟩
  · refine zs rfl rfl (bF h1) (zs rfl rfl (bF h1) (zs rfl rfl (bF h1) (zs rfl rfl (bF h1) (zs rfl rfl (bF h1) (zU rfl rfl rfl (zU rfl rfl rfl (zU rfl rfl rfl (zU rfl rfl rfl (zs rfl rfl (bF h1) (zs rfl rfl (bF h1) (zU rfl rfl rfl (zU rfl rfl rfl (zU rfl rfl rfl (zU rfl rfl rfl (zU rfl rfl rfl (zU rfl rfl rfl (zU rfl rfl rfl (zU rfl rfl rfl (zU rfl rfl rfl (zU rfl rfl rfl (zs rfl rfl (bF h1) (zs rfl rfl (bF h1) (zU rfl rfl rfl (zU rfl rfl rfl (zU rfl rfl rfl (zU rfl rfl rfl (zs rfl rfl (bF h1) (zg (v := .bool _) (fun _ => zF (bF h1) rfl) (aB rfl (yB (ze (zo (v := .bool _) rfl rfl rfl ?_)))))))))))))))))))))))))))))))); exact fun w' hw => ⟨by rw [atP_out (by omega)], hw.fr _ zm0⟩

theorem rblank_spec (s : List UInt8) (i : Nat) (hs : s.length ≤ 10000000) (hi : i ≤ 20000000) (w : World) :
    Ret Tryz.prog 86 #[str s, .int .i64 (i : Nat)] w (fun v w' => v = .bool (atP blankB s i) ∧ Ext w w') := by
  refine enter (S := No) (l := [_, _]) (L := []) 33 Tryz.func86 rfl rfl rfl (St.start w No) (yA (aB rfl (yC (mI rfl (zm (v := str _) rfl (zg (fun _ => R_slen st9 rfl (by omega)) (zg (fun _ => R_lt rfl rfl) (mB rfl ?_)))))))); refine zd (t := 9) rfl (fun h1 => ?_) (fun h1 => ?_)
  · refine zw rfl rfl (bT h1) (zm (v := str _) rfl (zw rfl rfl (bT h1) (mI rfl (zw rfl rfl (bT h1) (w_sidx st9 rfl rfl (by omega) (zw rfl rfl (bT h1) (zg (fun _ => R_eq rfl rfl) (zw rfl rfl (bT h1) (mB rfl ?_))))))))); refine zd (t := 14) rfl (fun h2 => ?_) (fun h2 => ?_)
    · refine zs rfl rfl (bT h2) (zs rfl rfl (bT h2) (zs rfl rfl (bT h2) (zs rfl rfl (bT h2) (zw rfl rfl (bT h1) (zg (v := .bool _) (fun _ => zT (bT h2) rfl) (zw rfl rfl (bT h1) (mB rfl ?_))))))); (iterate 4 refine zs rfl rfl rfl ?_); refine zw rfl rfl (bT h1) (zg (v := .bool _) (fun _ => zT rfl rfl) (zw rfl rfl (bT h1) (mB rfl ?_))); (iterate 4 refine zs rfl rfl rfl ?_); refine zw rfl rfl (bT h1) (zg (v := .bool _) (fun _ => zT rfl rfl) ?_)
      refine zg (v := .bool _) (fun _ => zT (bT h1) rfl) (aB rfl (yB (ze (zo (v := .bool _) rfl rfl rfl ?_)))); exact fun w' hw => ⟨by (rw [atP_in (by omega), blank_int]; simp [*]; done), hw.fr _ zm0⟩
    · refine zw rfl rfl (bF h2) (zm (v := str _) rfl (zw rfl rfl (bF h2) (mI rfl (zw rfl rfl (bF h2) (w_sidx st9 rfl rfl (by omega) (zw rfl rfl (bF h2) (zg (fun _ => R_eq rfl rfl) (zw rfl rfl (bT h1) (zg (v := .bool _) (fun _ => zF (bF h2) rfl) (zw rfl rfl (bT h1) (mB rfl ?_))))))))))); refine zd (t := 20) rfl (fun h3 => ?_) (fun h3 => ?_)
      · refine zs rfl rfl (bT h3) (zs rfl rfl (bT h3) (zs rfl rfl (bT h3) (zs rfl rfl (bT h3) (zw rfl rfl (bT h1) (zg (v := .bool _) (fun _ => zT (bT h3) rfl) (zw rfl rfl (bT h1) (mB rfl ?_))))))); (iterate 4 refine zs rfl rfl rfl ?_); refine zw rfl rfl (bT h1) (zg (v := .bool _) (fun _ => zT rfl rfl) (zg (v := .bool _) (fun _ => zT (bT h1) rfl) (aB rfl (yB (ze (zo (v := .bool _) rfl rfl rfl ?_)))))); exact fun w' hw => ⟨by (rw [atP_in (by omega), blank_int]; simp [*]; done), hw.fr _ zm0⟩
      · refine zw rfl rfl (bF h3) (zm (v := str _) rfl (zw rfl rfl (bF h3) (mI rfl (zw rfl rfl (bF h3) (w_sidx st9 rfl rfl (by omega) (zw rfl rfl (bF h3) (zg (fun _ => R_eq rfl rfl) (zw rfl rfl (bT h1) (zg (v := .bool _) (fun _ => zF (bF h3) rfl) (zw rfl rfl (bT h1) (mB rfl ?_))))))))))); refine zd (t := 26) rfl (fun h4 => ?_) (fun h4 => ?_)
        · refine zs rfl rfl (bT h4) (zs rfl rfl (bT h4) (zs rfl rfl (bT h4) (zs rfl rfl (bT h4) (zw rfl rfl (bT h1) (zg (v := .bool _) (fun _ => zT (bT h4) rfl) (zg (v := .bool _) (fun _ => zT (bT h1) rfl) (aB rfl (yB (ze (zo (v := .bool _) rfl rfl rfl ?_)))))))))); exact fun w' hw => ⟨by (rw [atP_in (by omega), blank_int]; simp [*]; done), hw.fr _ zm0⟩
        · refine zw rfl rfl (bF h4) (zm (v := str _) rfl (zw rfl rfl (bF h4) (mI rfl (zw rfl rfl (bF h4) (w_sidx st9 rfl rfl (by omega) (zw rfl rfl (bF h4) (zg (fun _ => R_eq rfl rfl) (zw rfl rfl (bT h1) (zg (v := .bool _) (fun _ => zF (bF h4) rfl) (zg (v := .bool _) (fun _ => zT (bT h1) rfl) (aB rfl (yB (ze (zo (v := .bool _) rfl rfl rfl ?_)))))))))))))); exact fun w' hw => ⟨by (rw [atP_in (by omega), blank_int]; simp [*]; done), hw.fr _ zm0⟩
  · refine zs rfl rfl (bF h1) (zs rfl rfl (bF h1) (zs rfl rfl (bF h1) (zs rfl rfl (bF h1) (zs rfl rfl (bF h1) (zU rfl rfl rfl (zU rfl rfl rfl (zU rfl rfl rfl (zU rfl rfl rfl (zs rfl rfl (bF h1) (zs rfl rfl (bF h1) (zU rfl rfl rfl (zU rfl rfl rfl (zU rfl rfl rfl (zU rfl rfl rfl (zs rfl rfl (bF h1) (zs rfl rfl (bF h1) (zU rfl rfl rfl (zU rfl rfl rfl (zU rfl rfl rfl (zU rfl rfl rfl (zs rfl rfl (bF h1) (zg (v := .bool _) (fun _ => zF (bF h1) rfl) (aB rfl (yB (ze (zo (v := .bool _) rfl rfl rfl ?_)))))))))))))))))))))))))); exact fun w' hw => ⟨by rw [atP_out (by omega)], hw.fr _ zm0⟩

theorem ris_spec (s : List UInt8) (i : Nat) (b : UInt8) (hs : s.length ≤ 10000000) (hi : i ≤ 20000000) (w : World) :
    Ret Tryz.prog 87 #[str s, .int .i64 (i : Nat), .int .u8 (b.toNat : Nat)] w (fun v w' => v = .bool (atP (eqB b) s i) ∧ Ext w w') := by
  refine enter (S := No) (l := [_, _, _]) (L := []) 18 Tryz.func87 rfl rfl rfl (St.start w No) (yA (aB rfl (yC (mI rfl (zm (v := str _) rfl (zg (fun _ => R_slen st9 rfl (by omega)) (zg (fun _ => R_lt rfl rfl) (mB rfl ?_)))))))); refine zd (t := 11) rfl (fun h1 => ?_) (fun h1 => ?_)
  · refine zw rfl rfl (bT h1) (zm (v := str _) rfl (zw rfl rfl (bT h1) (mI rfl (zw rfl rfl (bT h1) (w_sidx st9 rfl rfl (by omega) (zw rfl rfl (bT h1) (mI rfl (zw rfl rfl (bT h1) (zg (fun _ => R_eq rfl rfl) (zg (v := .bool _) (fun _ => zT (bT h1) rfl) (aB rfl (yB (ze (zo (v := .bool _) rfl rfl rfl ?_)))))))))))))); exact fun w' hw => ⟨by (rw [atP_in (by omega), eq_int]; done), hw.fr _ zm0⟩
  · refine zs rfl rfl (bF h1) (zs rfl rfl (bF h1) (zs rfl rfl (bF h1) (zs rfl rfl (bF h1) (zs rfl rfl (bF h1) (zg (v := .bool _) (fun _ => zF (bF h1) rfl) (aB rfl (yB (ze (zo (v := .bool _) rfl rfl rfl ?_))))))))); exact fun w' hw => ⟨by rw [atP_out (by omega)], hw.fr _ zm0⟩

theorem rdigits_spec (s : List UInt8) (i : Nat) (hs : s.length ≤ 10000000) (hi : i ≤ s.length) (w : World) :
    Ret Tryz.prog 88 #[str s, .int .i64 (i : Nat)] w (fun v w' => v = .int .i64 (runTo digitB s i : Nat) ∧ Ext w w') := by
  refine enter (S := No) (l := [_, _]) (L := []) 11 Tryz.func88 rfl rfl rfl (St.start w No) (yA (aI rfl (yB (zq (zB (c_loop (fun m e B L => ∃ (k : Nat), e 0 = str s ∧ e 1 = .int .i64 (k : Nat) ∧ B = [(w, No)] ∧ L = [] ∧ k ≤ s.length ∧ runTo digitB s k = runTo digitB s i ∧ m = s.length - k) _ ⟨i, rfl, rfl, rfl, rfl, hi, rfl, rfl⟩ ?_))))))
  rintro m e B L ⟨k, e0_1, e1_1, rfl, rfl, hk, hr, rfl⟩
  refine zq (yA (zm (v := str _) e0_1 (mI e1_1 (zC (fun w => zR Tryz.func47 rfl rfl rfl) rfl rfl (fun w h => rdigit_spec s k hs (by omega) w) (yB ?_))))); refine c_cond rfl (fun h1 => ?_) (fun h1 => ?_)
  · refine zi (zk (zB (zr (mI e1_1 (zg (fun _ => R_addi rfl rfl (by omega)) (aI rfl (zn (zO (?_)))))))))
    have hl := atP_lt h1
    exact k_again _ (by omega) ⟨k + 1, e0_1, rfl, rfl, rfl, by omega, by rw [← hr, runTo_step h1], rfl⟩
  · refine zX (zx (zx (b_here rfl (zk (yA (mI e1_1 (aI rfl (yB (ze (zo (v := .int _ _) rfl rfl rfl ?_)))))))))); exact fun w' hw => ⟨by rw [← hr, runTo_stop h1], hw.fr _ zm0⟩

theorem rskip_spec (s : List UInt8) (i : Nat) (hs : s.length ≤ 10000000) (hi : i ≤ s.length) (w : World) :
    Ret Tryz.prog 45 #[str s, .int .i64 (i : Nat)] w (fun v w' => v = .int .i64 (skipTo s i : Nat) ∧ Ext w w') := by
  refine enter (S := No) (l := [_, _]) (L := []) 34 Tryz.func45 rfl rfl rfl (St.start w No) (yA (aI rfl (yB (zB (c_loop (fun m e B L => ∃ (k : Nat), e 0 = str s ∧ e 1 = .int .i64 (k : Nat) ∧ B = [(w, No)] ∧ L = [] ∧ k ≤ s.length ∧ skipTo s k = skipTo s i ∧ m = s.length - k) _ ⟨i, rfl, rfl, rfl, rfl, hi, rfl, rfl⟩ ?_)))))
  rintro m e B L ⟨k, e0_1, e1_1, rfl, rfl, hk, hr, rfl⟩
  refine zB (zq (yA (zm (v := str _) e0_1 (mI e1_1 (zC (fun w => zR Tryz.func86 rfl rfl rfl) rfl rfl (fun w h => rblank_spec s k hs (by omega) w) (yB ?_)))))); refine c_cond rfl (fun h1 => ?_) (fun h1 => ?_)
  · refine yA (mI e1_1 (zg (fun _ => R_addi rfl rfl (by omega)) (aI rfl (yB (zX (zx (b_here rfl (?_))))))))
    have hl := atP_lt h1
    exact k_again _ (by omega) ⟨k + 1, e0_1, rfl, rfl, rfl, by omega, by rw [← hr, skip_blank hl h1], rfl⟩
  · refine zi (zk (zq (yA (zm (v := str _) e0_1 (mI e1_1 (zC (fun w => zR Tryz.func87 rfl rfl rfl) rfl rfl (fun w h => ris_spec s k 47 hs (by omega) w) (zg (fun _ => R_not rfl) (mB rfl ?_)))))))); refine zp (t := 14) rfl (fun h2 => ?_) (fun h2 => ?_)
    · refine zs rfl rfl (bV h2) (zs rfl rfl (bV h2) (zs rfl rfl (bV h2) (zs rfl rfl (bV h2) (zs rfl rfl (bV h2) (zg (v := .bool _) (fun _ => zT (bV h2) rfl) (yB (zE rfl (yA (mI e1_1 (aI rfl (yB (ze (zt (zb (zt (zb ((zo (v := .int _ _) rfl rfl rfl ?_)))))))))))))))))); exact fun w' hw => ⟨by rw [← hr, skip_stop hk (by simpa using h1) (by simp_all [cmt])], hw.fr _ zm0⟩
    · refine zw rfl rfl (bV h2) (zm (v := str _) e0_1 (zw rfl rfl (bV h2) (mI e1_1 (zw rfl rfl (bV h2) (zg (fun _ => R_addi rfl rfl (by omega)) (zw rfl rfl (bV h2) (zC (fun w => zR Tryz.func87 rfl rfl rfl) rfl rfl (fun w h => ris_spec s (k + 1) 47 hs (by omega) w) (zw rfl rfl (bV h2) (zg (fun _ => R_not rfl) (zg (v := .bool _) (fun _ => zF (bV h2) rfl) (yB ?_))))))))))); refine c_condN rfl (fun h3 => ?_) (fun h3 => ?_)
      · refine yA (mI e1_1 (aI rfl (yB (ze (zt (zb (zt (zb ((zo (v := .int _ _) rfl rfl rfl ?_)))))))))); exact fun w' hw => ⟨by rw [← hr, skip_stop hk (by simpa using h1) (by simp_all [cmt])], hw.fr _ zm0⟩
      · refine zi (zk (zB ?_)); refine c_loop (fun m e B L => ∃ (q : Nat), e 0 = str s ∧ e 1 = .int .i64 (q : Nat) ∧ B = [(w, No)] ∧ L = [] ∧ k ≤ q ∧ q ≤ s.length ∧ runTo notNl s q = runTo notNl s k ∧ m = s.length - q) _ ⟨k, e0_1, e1_1, rfl, rfl, by omega, hk, rfl, rfl⟩ ?_
        rintro m e B L ⟨q, e0_2, e1_2, rfl, rfl, hkq, hq, hn, rfl⟩
        refine zq (yA (mI e1_2 (zm (v := str _) e0_2 (zg (fun _ => R_slen st9 rfl (by omega)) (zg (fun _ => R_lt rfl rfl) (mB rfl ?_)))))); refine zd (t := 26) rfl (fun h4 => ?_) (fun h4 => ?_)
        · refine zw rfl rfl (bT h4) (zm (v := str _) e0_2 (zw rfl rfl (bT h4) (mI e1_2 (zw rfl rfl (bT h4) (w_sidx st9 rfl rfl (by omega) (zw rfl rfl (bT h4) (zg (fun _ => R_ne rfl rfl) (zg (v := .bool _) (fun _ => zT (bT h4) rfl) (yB ?_))))))))); refine zD rfl (fun h5 => ?_) (fun h5 => ?_)
          · refine zi (zk (zB (zr (mI e1_2 (zg (fun _ => R_addi rfl rfl (by omega)) (aI rfl (zn (zO (?_)))))))))
            exact k_again _ (by omega) ⟨q + 1, e0_2, rfl, rfl, rfl, by omega, by omega, by rw [← hn, runTo_step (show atP notNl s q = true by rw [atP_in (by omega), notNl_int]; simp; omega)], rfl⟩
          · refine zX (zx (zx (b_here rfl (zO (?_)))))
            have hc : cmt s k = true := by simp_all [cmt]
            have hc2 := cmt_run hc
            have hx : atP notNl s q = false := by rw [atP_in (by omega), notNl_int]; simp; omega
            rw [runTo_stop hx] at hn
            exact k_again _ (by omega) ⟨q, e0_2, e1_2, rfl, rfl, by omega, by rw [← hr, skip_cmt hk (by simpa using h1) hc, ← hn], rfl⟩
        · refine zs rfl rfl (bF h4) (zs rfl rfl (bF h4) (zs rfl rfl (bF h4) (zs rfl rfl (bF h4) (zg (v := .bool _) (fun _ => zF (bF h4) rfl) (yB (zG rfl (zX (zx (zx (b_here rfl (zO (?_))))))))))))
          have hc : cmt s k = true := by simp_all [cmt]
          have hc2 := cmt_run hc
          have hx : atP notNl s q = false := atP_out (by omega)
          rw [runTo_stop hx] at hn
          exact k_again _ (by omega) ⟨q, e0_2, e1_2, rfl, rfl, by omega, by rw [← hr, skip_cmt hk (by simpa using h1) hc, ← hn], rfl⟩

theorem rnumber_spec (s : List UInt8) (i : Nat) (hs : s.length ≤ 10000000) (hi : i ≤ s.length) (w : World) :
    Ret Tryz.prog 48 #[str s, .int .i64 (i : Nat)] w (fun v w' => v = .tuple #[.int .i64 (numEnd s i : Nat), .bool (numFine s i)] ∧ Ext w w') := by
  have g1 := runTo_le (p := digitB) hi
  have g2 := numDot_le g1
  have g3 := numTens_le g2.1
  have g0 : numEnd s i = (numTens s (numDot s (runTo digitB s i))).2 := rfl
  refine enter (S := No) (l := [_, _]) (L := []) 87 Tryz.func48 rfl rfl rfl (St.start w No) (yA (aI rfl (aB rfl (yC (zm (v := str _) rfl (mI rfl ?_))))))
  have q1 := runTo_le (p := digitB) (s := s) (i := i) (by omega)
  have q2 := runTo_ge digitB s i
  refine zC (fun w => zR Tryz.func88 rfl rfl rfl) rfl rfl (fun w h => rdigits_spec s i hs (by omega) w) (aI rfl (yB ?_)); refine c_cut (fun e B L => e 0 = str s ∧ e 1 = .int .i64 (numDot s (runTo digitB s i) : Nat) ∧ B = [(w, No)] ∧ L = []) ?_ ?_
  · refine yA (zm (v := str _) rfl (mI rfl (zC (fun w => zR Tryz.func87 rfl rfl rfl) rfl rfl (fun w h => ris_spec s (runTo digitB s i) 46 hs (by omega) w) (mB rfl ?_)))); refine zp (t := 13) rfl (fun h1 => ?_) (fun h1 => ?_)
    · refine zw rfl rfl (bV h1) (zm (v := str _) rfl (zw rfl rfl (bV h1) (mI rfl (zw rfl rfl (bV h1) (zg (fun _ => R_addi rfl rfl (by omega)) (zw rfl rfl (bV h1) (zC (fun w => zR Tryz.func47 rfl rfl rfl) rfl rfl (fun w h => rdigit_spec s ((runTo digitB s i) + 1) hs (by omega) w) (zg (v := .bool _) (fun _ => zT (bV h1) rfl) (yB ?_))))))))); refine c_cond rfl (fun h2 => ?_) (fun h2 => ?_)
      · refine zr (zm (v := str _) rfl (mI rfl (zg (fun _ => R_addi rfl rfl (by omega)) ?_)))
        have q1 := runTo_le (p := digitB) (s := s) (i := ((runTo digitB s i) + 1)) (by (have := atP_lt (by assumption); omega))
        have q2 := runTo_ge digitB s ((runTo digitB s i) + 1)
        refine zC (fun w => zR Tryz.func88 rfl rfl rfl) rfl rfl (fun w h => rdigits_spec s ((runTo digitB s i) + 1) hs (by omega) w) (aI rfl (zn ?_))
        have hd : numDot s (runTo digitB s i) = runTo digitB s (runTo digitB s i + 1) := by simp [numDot, h1, h2]
        exact k_mid ⟨rfl, by rw [hd]; rfl, rfl, rfl⟩
      · refine zi ?_
        have hd : numDot s (runTo digitB s i) = runTo digitB s i := by simp [numDot, h2]
        exact k_mid ⟨rfl, by rw [hd]; rfl, rfl, rfl⟩
    · refine zs rfl rfl (bV h1) (zs rfl rfl (bV h1) (zs rfl rfl (bV h1) (zs rfl rfl (bV h1) (zg (v := .bool _) (fun _ => zF (bV h1) rfl) (yB (zG rfl (zi ?_)))))))
      have hd : numDot s (runTo digitB s i) = runTo digitB s i := by simp [numDot, h1]
      exact k_mid ⟨rfl, by rw [hd]; rfl, rfl, rfl⟩
  rintro e B L ⟨e0_1, e1_1, rfl, rfl⟩
  refine yA (mI e1_1 (aI rfl (yB ?_))); refine c_cut (fun e B L => ∃ (q : Nat), e 0 = str s ∧ e 1 = .int .i64 (numEnd s i : Nat) ∧ e 6 = .int .i64 (q : Nat) ∧ B = [(w, No)] ∧ L = [] ∧ q ≤ numEnd s i ∧ (numTens s (numDot s (runTo digitB s i))).1 = numEnd s i - q) ?_ ?_
  · refine yA (zm (v := str _) e0_1 (mI e1_1 (zC (fun w => zR Tryz.func87 rfl rfl rfl) rfl rfl (fun w h => ris_spec s (numDot s (runTo digitB s i)) 101 hs (by omega) w) (mB rfl ?_)))); refine zp (t := 27) rfl (fun h3 => ?_) (fun h3 => ?_)
    · refine zw rfl rfl (bV h3) (zm (v := str _) e0_1 (zw rfl rfl (bV h3) (mI e1_1 (zw rfl rfl (bV h3) (zg (fun _ => R_addi rfl rfl (by omega)) (zw rfl rfl (bV h3) (zC (fun w => zR Tryz.func47 rfl rfl rfl) rfl rfl (fun w h => rdigit_spec s ((numDot s (runTo digitB s i)) + 1) hs (by omega) w) (zg (v := .bool _) (fun _ => zT (bV h3) rfl) (yB ?_))))))))); refine c_cond rfl (fun h4 => ?_) (fun h4 => ?_)
      · refine yA (mI e1_1 (zg (fun _ => R_addi rfl rfl (by omega)) (aI rfl (yB (zr (zm (v := str _) e0_1 (mI rfl ?_)))))))
        have q1 := runTo_le (p := digitB) (s := s) (i := ((numDot s (runTo digitB s i)) + 1)) (by (have := atP_lt (by assumption); omega))
        have q2 := runTo_ge digitB s ((numDot s (runTo digitB s i)) + 1)
        refine zC (fun w => zR Tryz.func88 rfl rfl rfl) rfl rfl (fun w h => rdigits_spec s ((numDot s (runTo digitB s i)) + 1) hs (by omega) w) (aI rfl (zn ?_))
        have hT : numTens s (numDot s (runTo digitB s i)) = (runTo digitB s ((numDot s (runTo digitB s i)) + 1) - ((numDot s (runTo digitB s i)) + 1), runTo digitB s ((numDot s (runTo digitB s i)) + 1)) := by simp_all [numTens, at_pm]
        exact k_mid ⟨((numDot s (runTo digitB s i)) + 1), e0_1, by rw [g0, hT]; rfl, rfl, rfl, rfl, by rw [g0, hT]; exact runTo_ge _ _ _, by rw [g0, hT]⟩
      · refine yA (zm (v := str _) e0_1 (mI e1_1 (zC (fun w => zR Tryz.func87 rfl rfl rfl) rfl rfl (fun w h => ris_spec s (numDot s (runTo digitB s i)) 101 hs (by omega) w) (mB rfl ?_)))); refine zp (t := 41) rfl (fun h5 => ?_) (fun h5 => ?_)
        · refine zw rfl rfl (bV h5) (zm (v := str _) e0_1 (zw rfl rfl (bV h5) (mI e1_1 (zw rfl rfl (bV h5) (zg (fun _ => R_addi rfl rfl (by omega)) (zw rfl rfl (bV h5) (zC (fun w => zR Tryz.func87 rfl rfl rfl) rfl rfl (fun w h => ris_spec s ((numDot s (runTo digitB s i)) + 1) 43 hs (by omega) w) (zw rfl rfl (bV h5) (mB rfl ?_))))))))); refine zp (t := 46) rfl (fun h6 => ?_) (fun h6 => ?_)
          · refine zs rfl rfl (bV h6) (zs rfl rfl (bV h6) (zs rfl rfl (bV h6) (zs rfl rfl (bV h6) (zw rfl rfl (bV h5) (zg (v := .bool _) (fun _ => zT (bV h6) rfl) (zg (v := .bool _) (fun _ => zT (bV h5) rfl) (mB rfl (zw rfl rfl rfl (zm (v := str _) e0_1 (zw rfl rfl rfl (mI e1_1 (zw rfl rfl rfl (zg (fun _ => R_addi rfl rfl (by omega)) (zw rfl rfl rfl (zC (fun w => zR Tryz.func47 rfl rfl rfl) rfl rfl (fun w h => rdigit_spec s ((numDot s (runTo digitB s i)) + 2) hs (by omega) w) (zg (v := .bool _) (fun _ => zT rfl rfl) (yB ?_)))))))))))))))))
            refine c_cond rfl (fun h7 => ?_) (fun h7 => ?_)
            · refine yA (mI e1_1 (zg (fun _ => R_addi rfl rfl (by omega)) (aI rfl (yB (zr (zm (v := str _) e0_1 (mI rfl ?_)))))))
              have q1 := runTo_le (p := digitB) (s := s) (i := ((numDot s (runTo digitB s i)) + 2)) (by (have := atP_lt (by assumption); omega))
              have q2 := runTo_ge digitB s ((numDot s (runTo digitB s i)) + 2)
              refine zC (fun w => zR Tryz.func88 rfl rfl rfl) rfl rfl (fun w h => rdigits_spec s ((numDot s (runTo digitB s i)) + 2) hs (by omega) w) (aI rfl (zn ?_))
              have hT : numTens s (numDot s (runTo digitB s i)) = (runTo digitB s ((numDot s (runTo digitB s i)) + 2) - ((numDot s (runTo digitB s i)) + 2), runTo digitB s ((numDot s (runTo digitB s i)) + 2)) := by simp_all [numTens, at_pm]
              exact k_mid ⟨((numDot s (runTo digitB s i)) + 2), e0_1, by rw [g0, hT]; rfl, rfl, rfl, rfl, by rw [g0, hT]; exact runTo_ge _ _ _, by rw [g0, hT]⟩
            · refine zi ?_
              have hT : numTens s (numDot s (runTo digitB s i)) = (0, (numDot s (runTo digitB s i))) := by simp_all [numTens, at_pm]
              exact k_mid ⟨(numDot s (runTo digitB s i)), e0_1, by rw [g0, hT]; exact e1_1, rfl, rfl, rfl, by rw [g0, hT]; exact Nat.le_refl _, by rw [g0, hT]; simp⟩
          · refine zw rfl rfl (bV h6) (zm (v := str _) e0_1 (zw rfl rfl (bV h6) (mI e1_1 (zw rfl rfl (bV h6) (zg (fun _ => R_addi rfl rfl (by omega)) (zw rfl rfl (bV h6) (zC (fun w => zR Tryz.func87 rfl rfl rfl) rfl rfl (fun w h => ris_spec s ((numDot s (runTo digitB s i)) + 1) 45 hs (by omega) w) (zw rfl rfl (bV h5) (zg (v := .bool _) (fun _ => zF (bV h6) rfl) (zg (v := .bool _) (fun _ => zT (bV h5) rfl) (mB rfl ?_))))))))))); refine zp (t := 53) rfl (fun h8 => ?_) (fun h8 => ?_)
            · refine zw rfl rfl (bV h8) (zm (v := str _) e0_1 (zw rfl rfl (bV h8) (mI e1_1 (zw rfl rfl (bV h8) (zg (fun _ => R_addi rfl rfl (by omega)) (zw rfl rfl (bV h8) (zC (fun w => zR Tryz.func47 rfl rfl rfl) rfl rfl (fun w h => rdigit_spec s ((numDot s (runTo digitB s i)) + 2) hs (by omega) w) (zg (v := .bool _) (fun _ => zT (bV h8) rfl) (yB ?_))))))))); refine c_cond rfl (fun h9 => ?_) (fun h9 => ?_)
              · refine yA (mI e1_1 (zg (fun _ => R_addi rfl rfl (by omega)) (aI rfl (yB (zr (zm (v := str _) e0_1 (mI rfl ?_)))))))
                have q1 := runTo_le (p := digitB) (s := s) (i := ((numDot s (runTo digitB s i)) + 2)) (by (have := atP_lt (by assumption); omega))
                have q2 := runTo_ge digitB s ((numDot s (runTo digitB s i)) + 2)
                refine zC (fun w => zR Tryz.func88 rfl rfl rfl) rfl rfl (fun w h => rdigits_spec s ((numDot s (runTo digitB s i)) + 2) hs (by omega) w) (aI rfl (zn ?_))
                have hT : numTens s (numDot s (runTo digitB s i)) = (runTo digitB s ((numDot s (runTo digitB s i)) + 2) - ((numDot s (runTo digitB s i)) + 2), runTo digitB s ((numDot s (runTo digitB s i)) + 2)) := by simp_all [numTens, at_pm]
                exact k_mid ⟨((numDot s (runTo digitB s i)) + 2), e0_1, by rw [g0, hT]; rfl, rfl, rfl, rfl, by rw [g0, hT]; exact runTo_ge _ _ _, by rw [g0, hT]⟩
              · refine zi ?_
                have hT : numTens s (numDot s (runTo digitB s i)) = (0, (numDot s (runTo digitB s i))) := by simp_all [numTens, at_pm]
                exact k_mid ⟨(numDot s (runTo digitB s i)), e0_1, by rw [g0, hT]; exact e1_1, rfl, rfl, rfl, by rw [g0, hT]; exact Nat.le_refl _, by rw [g0, hT]; simp⟩
            · refine zs rfl rfl (bV h8) (zs rfl rfl (bV h8) (zs rfl rfl (bV h8) (zs rfl rfl (bV h8) (zg (v := .bool _) (fun _ => zF (bV h8) rfl) (yB (zG rfl (zi ?_)))))))
              have hT : numTens s (numDot s (runTo digitB s i)) = (0, (numDot s (runTo digitB s i))) := by simp_all [numTens, at_pm]
              exact k_mid ⟨(numDot s (runTo digitB s i)), e0_1, by rw [g0, hT]; exact e1_1, rfl, rfl, rfl, by rw [g0, hT]; exact Nat.le_refl _, by rw [g0, hT]; simp⟩
        · refine zs rfl rfl (bV h5) (zs rfl rfl (bV h5) (zs rfl rfl (bV h5) (zs rfl rfl (bV h5) (zs rfl rfl (bV h5) (zU rfl rfl rfl (zU rfl rfl rfl (zU rfl rfl rfl (zU rfl rfl rfl (zs rfl rfl (bV h5) (zg (v := .bool _) (fun _ => zF (bV h5) rfl) (mB rfl ?_))))))))))); (iterate 4 refine zs rfl rfl rfl ?_); refine zg (v := .bool _) (fun _ => zF rfl rfl) (yB (zG rfl (zi ?_)))
          have hT : numTens s (numDot s (runTo digitB s i)) = (0, (numDot s (runTo digitB s i))) := by simp_all [numTens, at_pm]
          exact k_mid ⟨(numDot s (runTo digitB s i)), e0_1, by rw [g0, hT]; exact e1_1, rfl, rfl, rfl, by rw [g0, hT]; exact Nat.le_refl _, by rw [g0, hT]; simp⟩
    · refine zs rfl rfl (bV h3) (zs rfl rfl (bV h3) (zs rfl rfl (bV h3) (zs rfl rfl (bV h3) (zg (v := .bool _) (fun _ => zF (bV h3) rfl) (yB (zG rfl (yA (zm (v := str _) e0_1 (mI e1_1 (zC (fun w => zR Tryz.func87 rfl rfl rfl) rfl rfl (fun w h => ris_spec s (numDot s (runTo digitB s i)) 101 hs (by omega) w) (mB rfl ?_))))))))))); refine zp (t := 41) rfl (fun h10 => ?_) (fun h10 => ?_)
      · refine zw rfl rfl (bV h10) (zm (v := str _) e0_1 (zw rfl rfl (bV h10) (mI e1_1 (zw rfl rfl (bV h10) (zg (fun _ => R_addi rfl rfl (by omega)) (zw rfl rfl (bV h10) (zC (fun w => zR Tryz.func87 rfl rfl rfl) rfl rfl (fun w h => ris_spec s ((numDot s (runTo digitB s i)) + 1) 43 hs (by omega) w) (zw rfl rfl (bV h10) (mB rfl ?_))))))))); refine zp (t := 46) rfl (fun h11 => ?_) (fun h11 => ?_)
        · refine zs rfl rfl (bV h11) (zs rfl rfl (bV h11) (zs rfl rfl (bV h11) (zs rfl rfl (bV h11) (zw rfl rfl (bV h10) (zg (v := .bool _) (fun _ => zT (bV h11) rfl) (zg (v := .bool _) (fun _ => zT (bV h10) rfl) (mB rfl (zw rfl rfl rfl (zm (v := str _) e0_1 (zw rfl rfl rfl (mI e1_1 (zw rfl rfl rfl (zg (fun _ => R_addi rfl rfl (by omega)) (zw rfl rfl rfl (zC (fun w => zR Tryz.func47 rfl rfl rfl) rfl rfl (fun w h => rdigit_spec s ((numDot s (runTo digitB s i)) + 2) hs (by omega) w) (zg (v := .bool _) (fun _ => zT rfl rfl) (yB ?_)))))))))))))))))
          refine c_cond rfl (fun h12 => ?_) (fun h12 => ?_)
          · refine yA (mI e1_1 (zg (fun _ => R_addi rfl rfl (by omega)) (aI rfl (yB (zr (zm (v := str _) e0_1 (mI rfl ?_)))))))
            have q1 := runTo_le (p := digitB) (s := s) (i := ((numDot s (runTo digitB s i)) + 2)) (by (have := atP_lt (by assumption); omega))
            have q2 := runTo_ge digitB s ((numDot s (runTo digitB s i)) + 2)
            refine zC (fun w => zR Tryz.func88 rfl rfl rfl) rfl rfl (fun w h => rdigits_spec s ((numDot s (runTo digitB s i)) + 2) hs (by omega) w) (aI rfl (zn ?_))
            have hT : numTens s (numDot s (runTo digitB s i)) = (runTo digitB s ((numDot s (runTo digitB s i)) + 2) - ((numDot s (runTo digitB s i)) + 2), runTo digitB s ((numDot s (runTo digitB s i)) + 2)) := by simp_all [numTens, at_pm]
            exact k_mid ⟨((numDot s (runTo digitB s i)) + 2), e0_1, by rw [g0, hT]; rfl, rfl, rfl, rfl, by rw [g0, hT]; exact runTo_ge _ _ _, by rw [g0, hT]⟩
          · refine zi ?_
            have hT : numTens s (numDot s (runTo digitB s i)) = (0, (numDot s (runTo digitB s i))) := by simp_all [numTens, at_pm]
            exact k_mid ⟨(numDot s (runTo digitB s i)), e0_1, by rw [g0, hT]; exact e1_1, rfl, rfl, rfl, by rw [g0, hT]; exact Nat.le_refl _, by rw [g0, hT]; simp⟩
        · refine zw rfl rfl (bV h11) (zm (v := str _) e0_1 (zw rfl rfl (bV h11) (mI e1_1 (zw rfl rfl (bV h11) (zg (fun _ => R_addi rfl rfl (by omega)) (zw rfl rfl (bV h11) (zC (fun w => zR Tryz.func87 rfl rfl rfl) rfl rfl (fun w h => ris_spec s ((numDot s (runTo digitB s i)) + 1) 45 hs (by omega) w) (zw rfl rfl (bV h10) (zg (v := .bool _) (fun _ => zF (bV h11) rfl) (zg (v := .bool _) (fun _ => zT (bV h10) rfl) (mB rfl ?_))))))))))); refine zp (t := 53) rfl (fun h13 => ?_) (fun h13 => ?_)
          · refine zw rfl rfl (bV h13) (zm (v := str _) e0_1 (zw rfl rfl (bV h13) (mI e1_1 (zw rfl rfl (bV h13) (zg (fun _ => R_addi rfl rfl (by omega)) (zw rfl rfl (bV h13) (zC (fun w => zR Tryz.func47 rfl rfl rfl) rfl rfl (fun w h => rdigit_spec s ((numDot s (runTo digitB s i)) + 2) hs (by omega) w) (zg (v := .bool _) (fun _ => zT (bV h13) rfl) (yB ?_))))))))); refine c_cond rfl (fun h14 => ?_) (fun h14 => ?_)
            · refine yA (mI e1_1 (zg (fun _ => R_addi rfl rfl (by omega)) (aI rfl (yB (zr (zm (v := str _) e0_1 (mI rfl ?_)))))))
              have q1 := runTo_le (p := digitB) (s := s) (i := ((numDot s (runTo digitB s i)) + 2)) (by (have := atP_lt (by assumption); omega))
              have q2 := runTo_ge digitB s ((numDot s (runTo digitB s i)) + 2)
              refine zC (fun w => zR Tryz.func88 rfl rfl rfl) rfl rfl (fun w h => rdigits_spec s ((numDot s (runTo digitB s i)) + 2) hs (by omega) w) (aI rfl (zn ?_))
              have hT : numTens s (numDot s (runTo digitB s i)) = (runTo digitB s ((numDot s (runTo digitB s i)) + 2) - ((numDot s (runTo digitB s i)) + 2), runTo digitB s ((numDot s (runTo digitB s i)) + 2)) := by simp_all [numTens, at_pm]
              exact k_mid ⟨((numDot s (runTo digitB s i)) + 2), e0_1, by rw [g0, hT]; rfl, rfl, rfl, rfl, by rw [g0, hT]; exact runTo_ge _ _ _, by rw [g0, hT]⟩
            · refine zi ?_
              have hT : numTens s (numDot s (runTo digitB s i)) = (0, (numDot s (runTo digitB s i))) := by simp_all [numTens, at_pm]
              exact k_mid ⟨(numDot s (runTo digitB s i)), e0_1, by rw [g0, hT]; exact e1_1, rfl, rfl, rfl, by rw [g0, hT]; exact Nat.le_refl _, by rw [g0, hT]; simp⟩
          · refine zs rfl rfl (bV h13) (zs rfl rfl (bV h13) (zs rfl rfl (bV h13) (zs rfl rfl (bV h13) (zg (v := .bool _) (fun _ => zF (bV h13) rfl) (yB (zG rfl (zi ?_)))))))
            have hT : numTens s (numDot s (runTo digitB s i)) = (0, (numDot s (runTo digitB s i))) := by simp_all [numTens, at_pm]
            exact k_mid ⟨(numDot s (runTo digitB s i)), e0_1, by rw [g0, hT]; exact e1_1, rfl, rfl, rfl, by rw [g0, hT]; exact Nat.le_refl _, by rw [g0, hT]; simp⟩
      · refine zs rfl rfl (bV h10) (zs rfl rfl (bV h10) (zs rfl rfl (bV h10) (zs rfl rfl (bV h10) (zs rfl rfl (bV h10) (zU rfl rfl rfl (zU rfl rfl rfl (zU rfl rfl rfl (zU rfl rfl rfl (zs rfl rfl (bV h10) (zg (v := .bool _) (fun _ => zF (bV h10) rfl) (mB rfl ?_))))))))))); (iterate 4 refine zs rfl rfl rfl ?_); refine zg (v := .bool _) (fun _ => zF rfl rfl) (yB (zG rfl (zi ?_)))
        have hT : numTens s (numDot s (runTo digitB s i)) = (0, (numDot s (runTo digitB s i))) := by simp_all [numTens, at_pm]
        exact k_mid ⟨(numDot s (runTo digitB s i)), e0_1, by rw [g0, hT]; exact e1_1, rfl, rfl, rfl, by rw [g0, hT]; exact Nat.le_refl _, by rw [g0, hT]; simp⟩
  rintro e B L ⟨q, e0_2, e1_2, e6_2, rfl, rfl, hq, hf⟩
  refine yA (mI e1_2 (mI e1_2 (mI e6_2 (zg (fun _ => R_subi rfl rfl (by omega)) (zg (fun _ => R_le rfl rfl) (mB rfl ?_)))))); refine zd (t := 69) rfl (fun h15 => ?_) (fun h15 => ?_)
  · refine zw rfl rfl (bT h15) (zm (v := str _) e0_2 (zw rfl rfl (bT h15) (mI e1_2 (zw rfl rfl (bT h15) (zC (fun w => zR Tryz.func46 rfl rfl rfl) rfl rfl (fun w h => rletter_spec s (numEnd s i) hs (by omega) w) (zw rfl rfl (bT h15) (zg (fun _ => R_not rfl) (zg (v := .bool _) (fun _ => zT (bT h15) rfl) (mB rfl ?_))))))))); refine zp (t := 75) rfl (fun h16 => ?_) (fun h16 => ?_)
    · refine zw rfl rfl (bV h16) (zm (v := str _) e0_2 (zw rfl rfl (bV h16) (mI e1_2 (zw rfl rfl (bV h16) (zC (fun w => zR Tryz.func47 rfl rfl rfl) rfl rfl (fun w h => rdigit_spec s (numEnd s i) hs (by omega) w) (zw rfl rfl (bV h16) (zg (fun _ => R_not rfl) (zg (v := .bool _) (fun _ => zT (bV h16) rfl) (mB rfl ?_))))))))); refine zp (t := 81) rfl (fun h17 => ?_) (fun h17 => ?_)
      · refine zw rfl rfl (bV h17) (zm (v := str _) e0_2 (zw rfl rfl (bV h17) (mI e1_2 (zw rfl rfl (bV h17) (zC (fun w => zR Tryz.func87 rfl rfl rfl) rfl rfl (fun w h => ris_spec s (numEnd s i) 46 hs (by omega) w) (zw rfl rfl (bV h17) (zg (fun _ => R_not rfl) (zg (v := .bool _) (fun _ => zT (bV h17) rfl) (aI rfl (aB rfl (yB (ze ?_))))))))))))
        have hx : decide (numEnd s i - q ≤ 4) = decide (((numEnd s i : Nat) : Int) - (q : Int) ≤ 4) := by congr 1; apply propext; omega
        refine r_two (v := .int _ _) (v2 := .bool _) rfl rfl rfl rfl rfl ?_; exact fun w' hw => ⟨by rw [numFine, hf, at_tail, hx]; clear hx hf g0 g3; (simp_all; done), hw.fr _ zm0⟩
      · refine zs rfl rfl (bV h17) (zs rfl rfl (bV h17) (zs rfl rfl (bV h17) (zs rfl rfl (bV h17) (zg (v := .bool _) (fun _ => zF (bV h17) rfl) (aI rfl (aB rfl (yB (ze ?_))))))))
        have hx : decide (numEnd s i - q ≤ 4) = decide (((numEnd s i : Nat) : Int) - (q : Int) ≤ 4) := by congr 1; apply propext; omega
        refine r_two (v := .int _ _) (v2 := .bool _) rfl rfl rfl rfl rfl ?_; exact fun w' hw => ⟨by rw [numFine, hf, at_tail, hx]; clear hx hf g0 g3; (simp_all; done), hw.fr _ zm0⟩
    · refine zs rfl rfl (bV h16) (zs rfl rfl (bV h16) (zs rfl rfl (bV h16) (zs rfl rfl (bV h16) (zg (v := .bool _) (fun _ => zF (bV h16) rfl) (mB rfl ?_))))); (iterate 4 refine zs rfl rfl rfl ?_); refine zg (v := .bool _) (fun _ => zF rfl rfl) (aI rfl (aB rfl (yB (ze ?_))))
      have hx : decide (numEnd s i - q ≤ 4) = decide (((numEnd s i : Nat) : Int) - (q : Int) ≤ 4) := by congr 1; apply propext; omega
      refine r_two (v := .int _ _) (v2 := .bool _) rfl rfl rfl rfl rfl ?_; exact fun w' hw => ⟨by rw [numFine, hf, at_tail, hx]; clear hx hf g0 g3; (simp_all; done), hw.fr _ zm0⟩
  · refine zs rfl rfl (bF h15) (zs rfl rfl (bF h15) (zs rfl rfl (bF h15) (zs rfl rfl (bF h15) (zg (v := .bool _) (fun _ => zF (bF h15) rfl) (mB rfl ?_))))); (iterate 4 refine zs rfl rfl rfl ?_); refine zg (v := .bool _) (fun _ => zF rfl rfl) (mB rfl ?_); (iterate 4 refine zs rfl rfl rfl ?_); refine zg (v := .bool _) (fun _ => zF rfl rfl) (aI rfl (aB rfl (yB (ze ?_))))
    have hx : decide (numEnd s i - q ≤ 4) = decide (((numEnd s i : Nat) : Int) - (q : Int) ≤ 4) := by congr 1; apply propext; omega
    refine r_two (v := .int _ _) (v2 := .bool _) rfl rfl rfl rfl rfl ?_; exact fun w' hw => ⟨by rw [numFine, hf, at_tail, hx]; clear hx hf g0 g3; (simp_all; intros; omega), hw.fr _ zm0⟩

theorem rsign_spec (s : List UInt8) (i : Nat) (hs : s.length ≤ 10000000) (hi : i < s.length) (w : World) :
    Ret Tryz.prog 49 #[str s, .int .i64 (i : Nat)] w (fun v w' => v = .int .i64 (signLen s i : Nat) ∧ Ext w w') := by
  refine enter (S := No) (l := [_, _]) (L := []) 46 Tryz.func49 rfl rfl rfl (St.start w No) (yA (aI rfl (yC (zS slt56 (by decide) rfl rfl (fun fb gfb ufb => za (v := .slice _ _ _) rfl (yB (zq (yA (aI rfl (yB (zB ?_))))))))))); refine c_loop (fun m e B L => ∃ (k : Nat), e 0 = str s ∧ e 1 = .int .i64 (i : Nat) ∧ e 5 = .slice (some ⟨fb, 0, none⟩) 5 5 ∧ e 6 = .int .i64 (k : Nat) ∧ B = [(w, No)] ∧ L = [(fb, cel [str [61, 61], str [33, 61], str [60, 61], str [62, 61], str [43, 61]] 9)] ∧ k ≤ 5 ∧ (signsL.take k).find? (fun t => t.isPrefixOf (s.drop i)) = none ∧ m = 5 - k) _ ⟨0, rfl, rfl, rfl, rfl, rfl, rfl, by omega, rfl, rfl⟩ ?_
  rintro m e B L ⟨k, e0_1, e1_1, e5_1, e6_1, rfl, rfl, hk, hn, rfl⟩
  refine zq (yA (mI e6_1 (mS e5_1 (zg (fun _ => R_len sl56 rfl) (zg (fun _ => R_lt rfl rfl) (yB ?_)))))); refine zD rfl (fun h1 => ?_) (fun h1 => ?_)
  · refine zi (zk (zq (zB (zq (c_draw mixed (by kernel_rfl) (mI e1_1 (zg (fun _ => R_addi rfl rfl (by omega)) (zm (v := str _) e0_1 (zg (fun _ => R_slen st9 rfl (by omega)) (zg (fun _ => R_le rfl rfl) (mB rfl ?_))))))))))); refine zd (t := 21) rfl (fun h2 => ?_) (fun h2 => ?_)
    · refine zw rfl rfl (bT h2) (zm (v := str _) e0_1 (zw rfl rfl (bT h2) (mI e1_1 (zw rfl rfl (bT h2) (mI e1_1 (zw rfl rfl (bT h2) (zg (fun _ => R_addi rfl rfl (by omega)) (zw rfl rfl (bT h2) (zg (fun _ => R_sslN (l := i) (h := (i + 2)) st9 rfl rfl rfl (by omega) (by omega)) (zw rfl rfl (bT h2) (mS e5_1 (zw rfl rfl (bT h2) (mI e6_1 (zw rfl rfl (bT h2) (zg (fun _ => R_iaN (i := k) sl56 rfl rfl (by omega)) (zw rfl rfl (bT h2) ?_)))))))))))))))); refine zl z9 rfl (fun _ h => by exact zc 0 rfl (two_at (by omega)) h) ?_
      refine zw rfl rfl (bT h2) (zg (fun _ => R_seq rfl rfl) (zg (v := .bool _) (fun _ => zT (bT h2) rfl) (yB ?_))); refine zD rfl (fun h3 => ?_) (fun h3 => ?_)
      · refine yA (aI rfl (yB (ze (zb (zt (zt (zb (zt (?_)))))))))
        have r2 := sig_found (by omega) hn (show (signsL.getD k []).isPrefixOf (s.drop i) = true by rw [pre_two _ (sig_two k (by omega)), Bool.and_eq_true, decide_eq_true_eq, decide_eq_true_eq]; rw [show i + 2 - i = 2 by omega] at h3; exact ⟨by omega, h3⟩)
        refine zo (v := .int _ _) rfl rfl rfl ?_; exact fun w' hw => ⟨by rw [r2, sig_two k (by omega)]; rfl, hw.fr _ zm0⟩
      · refine zi (zO (zk (zr (mI e6_1 (zg (fun _ => R_addi rfl rfl (by omega)) (aI rfl (zn ?_))))))); exact k_again _ (by omega) ⟨k + 1, e0_1, e1_1, e5_1, rfl, rfl, rfl, by omega, sig_step (by omega) hn (by rw [pre_two _ (sig_two k (by omega))]; simp only [Bool.and_eq_false_iff, decide_eq_false_iff_not]; exact .inr (by rw [show i + 2 - i = 2 by omega] at h3; exact h3)), rfl⟩
    · refine zs rfl rfl (bF h2) (zs rfl rfl (bF h2) (zs rfl rfl (bF h2) (zs rfl rfl (bF h2) (zs rfl rfl (bF h2) (zs rfl rfl (bF h2) (zs rfl rfl (bF h2) (zs rfl rfl (bF h2) (zs rfl rfl (bF h2) (zs rfl rfl (bF h2) (zg (v := .bool _) (fun _ => zF (bF h2) rfl) (yB (zG rfl (zi (zO (zk (zr (mI e6_1 (zg (fun _ => R_addi rfl rfl (by omega)) (aI rfl (zn ?_))))))))))))))))))))
      exact k_again _ (by omega) ⟨k + 1, e0_1, e1_1, e5_1, rfl, rfl, rfl, by omega, sig_step (by omega) hn (by rw [pre_two _ (sig_two k (by omega))]; simp only [Bool.and_eq_false_iff, decide_eq_false_iff_not]; exact .inl (by omega)), rfl⟩
  · refine zX (zx (zx (b_here rfl (zk (yA (za (v := str _) rfl (yB (zq (yA (aI rfl (yB (zB ?_))))))))))))
    obtain rfl : k = 5 := by omega
    refine c_loop (fun m e B L => ∃ (k : Nat), e 0 = str s ∧ e 1 = .int .i64 (i : Nat) ∧ e 7 = str oneT ∧ e 8 = .int .i64 (k : Nat) ∧ B = [(w, No)] ∧ L = [(fb, cel [str [61, 61], str [33, 61], str [60, 61], str [62, 61], str [43, 61]] 9)] ∧ k ≤ 17 ∧ (signsL.take (5 + k)).find? (fun t => t.isPrefixOf (s.drop i)) = none ∧ m = 17 - k) _ ⟨0, e0_1, e1_1, rfl, rfl, rfl, rfl, by omega, hn, rfl⟩ ?_
    rintro m e B L ⟨k, e0_2, e1_2, e7_2, e8_2, rfl, rfl, hk, hn, rfl⟩
    have hL : oneT.length = 17 := rfl
    refine zq (yA (mI e8_2 (zm (v := str _) e7_2 (zg (fun _ => R_slen st9 rfl (by omega)) (zg (fun _ => R_lt rfl rfl) (yB ?_)))))); refine zD rfl (fun h4 => ?_) (fun h4 => ?_)
    · have hkl : k < oneT.length := by omega
      refine zi (zk (zq (zB (zq (c_draw mixed (by kernel_rfl) (zm (v := str _) e0_2 (mI e1_2 (w_sidx st9 rfl rfl (by omega) (zm (v := str _) e7_2 (mI e8_2 (w_sidx st9 rfl rfl (by omega) (zg (fun _ => R_eq rfl rfl) (yB ?_))))))))))))); refine zD rfl (fun h5 => ?_) (fun h5 => ?_)
      · refine yA (aI rfl (yB (ze (zb (zt (zt (zb (zt (?_)))))))))
        have r2 := sig_found (k := 5 + k) (by omega) hn (by rw [sig_one k (by omega), pre_one _ hi]; simpa [List.getD_eq_getElem?_getD, hkl] using h5)
        refine zo (v := .int _ _) rfl rfl rfl ?_; exact fun w' hw => ⟨by rw [r2, sig_one k (by omega)]; rfl, hw.fr _ zm0⟩
      · refine zi (zO (zk (zr (mI e8_2 (zg (fun _ => R_addi rfl rfl (by omega)) (aI rfl (zn ?_))))))); exact k_again _ (by omega) ⟨k + 1, e0_2, e1_2, e7_2, rfl, rfl, rfl, by omega, sig_step (k := 5 + k) (by omega) hn (by rw [sig_one k (by omega), pre_one _ hi]; simpa [List.getD_eq_getElem?_getD, hkl] using h5), rfl⟩
    · refine zX (zx (zx (b_here rfl (zk (yA (aI rfl (yB (ze ?_))))))))
      have r2 := sig_none (k := 5 + k) (by omega) hn
      refine zo (v := .int _ _) rfl rfl rfl ?_; exact fun w' hw => ⟨by rw [r2]; rfl, hw.fr _ zm0⟩
end Go.Proofs.YtaniogadknakoaaGreatDoor
end

section
namespace Go.Proofs.YtaniogadknakoaaGreatDoor
open Go.RowKit Go.Sx
open Go.Tok

theorem rRead_spec (s : List UInt8) (hs : s.length ≤ 10000000) (w : World) :
  Ret Tryz.prog 20 #[str s] w (fun v w' => ∃ W, RdV (readP s) v W ∧ New w w' W) := by
 have g0 := skipTo_le (s := s) (Nat.zero_le _)
 refine enter (S := No) (l := [_]) (L := []) 84 Tryz.func20 rfl rfl rfl (St.start w No) (yA (za (v := .slice _ _ _) rfl (zA zr32 (fun t3b gt3b ut3b => yB (zq (yA (zm (v := str _) rfl (zg (fun _ => R_slen st9 rfl (by omega)) (zg (fun _ => R_gt rfl rfl) (yB ?_)))))))))); refine zD rfl (fun h2 => ?_) (fun h2 => ?_)
 ·refine yA (zg (fun _ => R_build bt32 rfl) (za (v := .slice _ _ _) rfl (zV 0 rfl z32 rfl rfl rfl rfl rfl rfl rfl (yB (ze (zt ((r_fin (.inl rfl) rfl (.tmp rfl rfl (.agg rfl rfl z32 (fun _ h => h.at_ 0 rfl) rfl .nil)) ?_)))))))); exact fun w' hw => ⟨[], by rw [readP_long (by omega)]; exact ⟨none, 0, rfl, Own.nil _ _⟩, .none (hw.fr _ zm0)⟩
 ·refine zi (zk (yA (za (v := .slice _ _ _) rfl (yC (zm (v := str _) rfl (zC (fun w => zR Tryz.func45 rfl rfl rfl) rfl rfl (fun w h => rskip_spec s 0 hs (by omega) w) (aI rfl (yB (zq (zB (c_loop (fun m e B L => ∃ (k : Nat) (x : Rd) (a0 : Option Addr) (c0 : Nat) (W : Heap), e 0 = str s ∧ e 3 = .pointer (some ⟨t3b, 0, none⟩) ∧ e 4 = .slice a0 x.1.length c0 ∧ e 5 = .int .i64 (k : Nat) ∧ B = [(w, No)] ∧ L = (t3b, cel [.int .i64 0, .int .i64 0] 32) :: (W ++ []) ∧ k ≤ s.length ∧ Toks (.slice a0 x.1.length c0) x.1 W ∧ x.1.length ≤ 6000 ∧ x.2 = (0, 0) ∧ lexS readN s k x = readS s ∧ m = s.length - k) _ ⟨skipTo s 0, ([], 0, 0), none, 0, [], rfl, rfl, rfl, rfl, rfl, rfl, g0.1, Own.nil _ _, Nat.zero_le _, rfl, rfl, rfl⟩ ?_)))))))))))
  rintro m e B L ⟨k, x, a0, c0, W, e0_1, e3_1, e4_1, e5_1, rfl, rfl, hk, hT, hx6, hx0, hr, rfl⟩
  have g2 := tok_le hk
  have g6 := signLen_le hk
  refine zq (yA (mI e5_1 (zm (v := str _) e0_1 (zg (fun _ => R_slen st9 rfl (by omega)) (zg (fun _ => R_lt rfl rfl) (yB ?_)))))); refine zD rfl (fun h3 => ?_) (fun h3 => ?_)
  ·have hlt : k < s.length := by omega
   refine zi (zk (zB (yA (mI e5_1 (zg (fun _ => R_build bt58 rfl) (zA zr58 (fun t6b gt6b ut6b => zV 0 rfl z58 rfl rfl rfl rfl rfl rfl rfl (yC (mI e5_1 (aI rfl (aB rfl (yB ?_)))))))))))); refine c_cut (fun e B L => ∃ (kd q : Nat), e 0 = str s ∧ e 3 = .pointer (some ⟨t3b, 0, none⟩) ∧ e 4 = .slice a0 x.1.length c0 ∧ e 5 = .int .i64 (k : Nat) ∧ e 6 = .pointer (some ⟨t6b, 0, none⟩) ∧ e 7 = .int .i64 (q : Nat) ∧ e 8 = .bool (tokAt s k).2.2 ∧ B = [(w, No)] ∧ L = (t6b, cel [.int .u8 (kd : Nat), str ([]), .int .i64 (k : Nat)] 58) :: (t3b, cel [.int .i64 0, .int .i64 0] 32) :: (W ++ []) ∧ ((tokAt s k).2.2 = true → kd = (tokAt s k).1 ∧ q = (tokAt s k).2.1)) ?_ ?_
   ·refine yA (zm (v := str _) e0_1 (mI e5_1 (zC (fun w => zR Tryz.func46 rfl rfl rfl) rfl rfl (fun w h => rletter_spec s k hs (by omega) w) (mB rfl ?_)))); refine zp (t := 25) rfl (fun h5 => ?_) (fun h5 => ?_)
    ·refine zw rfl rfl (bV h5) (zm (v := str _) e0_1 (zw rfl rfl (bV h5) (mI e5_1 (zw rfl rfl (bV h5) (w_sidx st9 rfl rfl (by omega) (zw rfl rfl (bV h5) (zg (fun _ => R_ne rfl rfl) (zg (v := .bool _) (fun _ => zT (bV h5) rfl) (yB ?_))))))))); refine zD rfl (fun h6 => ?_) (fun h6 => ?_)
     ·have hnb : nameB s k = true := by rw [nameB, h5, atP_in hlt, eq_int' 95 95 rfl, decide_eq_false (by omega)]; rfl
      refine yA (zf fa58_0 rfl (zV 0 rfl z5 rfl rfl rfl rfl rfl rfl rfl (yB (zB ?_)))); refine c_loop (fun m e B L => ∃ (q : Nat), e 0 = str s ∧ e 3 = .pointer (some ⟨t3b, 0, none⟩) ∧ e 4 = .slice a0 x.1.length c0 ∧ e 5 = .int .i64 (k : Nat) ∧ e 6 = .pointer (some ⟨t6b, 0, none⟩) ∧ e 7 = .int .i64 (q : Nat) ∧ e 8 = .bool true ∧ B = [(w, No)] ∧ L = (t6b, cel [.int .u8 (1 : Nat), str ([]), .int .i64 (k : Nat)] 58) :: (t3b, cel [.int .i64 0, .int .i64 0] 32) :: (W ++ []) ∧ k ≤ q ∧ q ≤ s.length ∧ runTo wordB s q = runTo wordB s k ∧ m = s.length - q) _ ⟨k, e0_1, e3_1, e4_1, e5_1, rfl, rfl, rfl, rfl, rfl, by omega, hk, rfl, rfl⟩ ?_
      rintro m e B L ⟨q, e0_3, e3_3, e4_3, e5_3, e6_3, e7_3, e8_3, rfl, rfl, hkq, hq, hw0, rfl⟩
      refine zq (yA (zm (v := str _) e0_3 (mI e7_3 (zC (fun w => zR Tryz.func46 rfl rfl rfl) rfl rfl (fun w h => rletter_spec s q hs (by omega) w) (mB rfl ?_))))); refine zp (t := 35) rfl (fun h7 => ?_) (fun h7 => ?_)
      ·refine zs rfl rfl (bV h7) (zs rfl rfl (bV h7) (zs rfl rfl (bV h7) (zg (v := .bool _) (fun _ => zT (bV h7) rfl) (yB (zE rfl (zi (zk (zB (zr (mI e7_3 (zg (fun _ => R_addi rfl rfl (by omega)) (aI rfl (zn (zO (?_)))))))))))))))
       have hw1 : atP wordB s q = true := by rw [at_word]; simp [*]
       have hw2 := atP_lt hw1
       exact k_again _ (by omega) ⟨q + 1, e0_3, e3_3, e4_3, e5_3, e6_3, rfl, e8_3, rfl, rfl, by omega, by omega, by rw [← hw0, runTo_step hw1], rfl⟩
      ·refine zw rfl rfl (bV h7) (zm (v := str _) e0_3 (zw rfl rfl (bV h7) (mI e7_3 (zw rfl rfl (bV h7) (zC (fun w => zR Tryz.func47 rfl rfl rfl) rfl rfl (fun w h => rdigit_spec s q hs (by omega) w) (zg (v := .bool _) (fun _ => zF (bV h7) rfl) (yB ?_))))))); refine c_cond rfl (fun h8 => ?_) (fun h8 => ?_)
       ·refine zi (zk (zB (zr (mI e7_3 (zg (fun _ => R_addi rfl rfl (by omega)) (aI rfl (zn (zO (?_)))))))))
        have hw1 : atP wordB s q = true := by rw [at_word]; simp [*]
        have hw2 := atP_lt hw1
        exact k_again _ (by omega) ⟨q + 1, e0_3, e3_3, e4_3, e5_3, e6_3, rfl, e8_3, rfl, rfl, by omega, by omega, by rw [← hw0, runTo_step hw1], rfl⟩
       ·refine zX (zx (zx (b_here rfl (?_))))
        have hx : atP wordB s q = false := by rw [at_word]; simp [*]
        rw [runTo_stop hx] at hw0
        have e0 : tokAt s k = (1, q, true) := by rw [tokAt, if_pos hnb, ← hw0]
        exact k_mid ⟨1, q, e0_3, e3_3, e4_3, e5_3, e6_3, e7_3, by rw [e0]; exact e8_3, rfl, rfl, by rw [e0]; exact fun _ => ⟨rfl, rfl⟩⟩
     ·have hnb : nameB s k = false := by rw [nameB, h5, atP_in hlt, eq_int' 95 95 rfl, decide_eq_true (by omega)]; rfl
      refine yA (zm (v := str _) e0_1 (mI e5_1 (zC (fun w => zR Tryz.func47 rfl rfl rfl) rfl rfl (fun w h => rdigit_spec s k hs (by omega) w) (yB ?_)))); refine c_cond rfl (fun h9 => ?_) (fun h9 => ?_)
      ·refine yA (zf fa58_0 rfl (zV 0 rfl z5 rfl rfl rfl rfl rfl rfl rfl (yB (zr (zm (v := str _) e0_1 (mI e5_1 (zC (fun w => zR Tryz.func48 rfl rfl rfl) rfl rfl (fun w h => rnumber_spec s k hs (by omega) w) (zm rfl (zg (fun _ => R_extract rfl rfl) (zg (fun _ => R_extract rfl rfl) (aI rfl (aB rfl (zn ?_)))))))))))))
       have e0 : tokAt s k = (2, numEnd s k, numFine s k) := by rw [tokAt, if_neg (by rw [hnb]; simp), if_pos h9]
       exact k_mid ⟨2, numEnd s k, e0_1, e3_1, e4_1, e5_1, rfl, rfl, by rw [e0]; rfl, rfl, rfl, by rw [e0]; exact fun _ => ⟨rfl, rfl⟩⟩
      ·refine yA (zf fa58_0 rfl (zV 0 rfl z5 rfl rfl rfl rfl rfl rfl rfl (yC (mI e5_1 (zm (v := str _) e0_1 (mI e5_1 (zC (fun w => zR Tryz.func49 rfl rfl rfl) rfl rfl (fun w h => rsign_spec s k hs (by omega) w) (zg (fun _ => R_addi rfl rfl (by omega)) (aI rfl (yB (zr (mI rfl (mI e5_1 (zg (fun _ => R_gt rfl rfl) (aB rfl (zn ?_))))))))))))))))
       have e0 : tokAt s k = if signLen s k = 0 then (0, k, false) else (3, k + signLen s k, true) := by rw [tokAt, if_neg (by rw [hnb]; simp), if_neg (by rw [h9]; simp)]
       have e8 : (tokAt s k).2.2 = decide (((k : Nat) : Int) + (signLen s k : Int) > (k : Int)) := by rw [e0]; split <;> simp <;> omega
       exact k_mid ⟨3, (k + signLen s k), e0_1, e3_1, e4_1, e5_1, rfl, rfl, by rw [e8]; rfl, rfl, rfl, by rw [e0]; split <;> simp⟩
    ·have hnb : nameB s k = false := by rw [nameB, h5]; rfl
     refine zs rfl rfl (bV h5) (zs rfl rfl (bV h5) (zs rfl rfl (bV h5) (zs rfl rfl (bV h5) (zg (v := .bool _) (fun _ => zF (bV h5) rfl) (yB (zG rfl (yA (zm (v := str _) e0_1 (mI e5_1 (zC (fun w => zR Tryz.func47 rfl rfl rfl) rfl rfl (fun w h => rdigit_spec s k hs (by omega) w) (yB ?_))))))))))); refine c_cond rfl (fun h10 => ?_) (fun h10 => ?_)
     ·refine yA (zf fa58_0 rfl (zV 0 rfl z5 rfl rfl rfl rfl rfl rfl rfl (yB (zr (zm (v := str _) e0_1 (mI e5_1 (zC (fun w => zR Tryz.func48 rfl rfl rfl) rfl rfl (fun w h => rnumber_spec s k hs (by omega) w) (zm rfl (zg (fun _ => R_extract rfl rfl) (zg (fun _ => R_extract rfl rfl) (aI rfl (aB rfl (zn ?_)))))))))))))
      have e0 : tokAt s k = (2, numEnd s k, numFine s k) := by rw [tokAt, if_neg (by rw [hnb]; simp), if_pos h10]
      exact k_mid ⟨2, numEnd s k, e0_1, e3_1, e4_1, e5_1, rfl, rfl, by rw [e0]; rfl, rfl, rfl, by rw [e0]; exact fun _ => ⟨rfl, rfl⟩⟩
     ·refine yA (zf fa58_0 rfl (zV 0 rfl z5 rfl rfl rfl rfl rfl rfl rfl (yC (mI e5_1 (zm (v := str _) e0_1 (mI e5_1 (zC (fun w => zR Tryz.func49 rfl rfl rfl) rfl rfl (fun w h => rsign_spec s k hs (by omega) w) (zg (fun _ => R_addi rfl rfl (by omega)) (aI rfl (yB (zr (mI rfl (mI e5_1 (zg (fun _ => R_gt rfl rfl) (aB rfl (zn ?_))))))))))))))))
      have e0 : tokAt s k = if signLen s k = 0 then (0, k, false) else (3, k + signLen s k, true) := by rw [tokAt, if_neg (by rw [hnb]; simp), if_neg (by rw [h10]; simp)]
      have e8 : (tokAt s k).2.2 = decide (((k : Nat) : Int) + (signLen s k : Int) > (k : Int)) := by rw [e0]; split <;> simp <;> omega
      exact k_mid ⟨3, (k + signLen s k), e0_1, e3_1, e4_1, e5_1, rfl, rfl, by rw [e8]; rfl, rfl, rfl, by rw [e0]; split <;> simp⟩
   rintro e B L ⟨kd, q, e0_2, e3_2, e4_2, e5_2, e6_2, e7_2, e8_2, rfl, rfl, hfine⟩
   refine zq (yA (mB e8_2 (zg (fun _ => R_not rfl) (yB ?_)))); refine c_condN rfl (fun h11 => ?_) (fun h11 => ?_)
   ·refine yA (mI e5_2 (zg (fun _ => R_build bt32 rfl) (za (v := .slice _ _ _) rfl (zV 1 rfl z32 e3_2 rfl rfl rfl rfl rfl rfl (yB (ze (zt (zb (zt (zb (zt (?_))))))))))))
    have hrS : readS s = (x.1, 110, k) := by rw [← hr, lexS_end readN hlt (by rw [h11]; rfl), h11]; rfl
    refine r_fin (.inl rfl) rfl (.tmp rfl rfl (.agg rfl e3_2 z32 (fun _ h => h.at_ 1 rfl) rfl .nil)) ?_; exact fun w' hw => ⟨[], by rw [readP_bad (by omega) (by rw [hrS]; simp), hrS]; exact ⟨none, 0, rfl, Own.nil _ _⟩, .none (hw.fr _ zm0)⟩
   ·have hgo := h11; have hkd := (hfine hgo).1; have hq := (hfine hgo).2; have hqk := g2.2.2 hgo; have hql : q ≤ s.length := by omega
    refine zi (zk (zq (yA (mS e4_2 (zg (fun _ => R_len sl50 rfl) (zg (fun _ => R_eq rfl rfl) (yB ?_))))))); refine zD rfl (fun h12 => ?_) (fun h12 => ?_)
    ·refine yA (mI e5_2 (zg (fun _ => R_build bt32 rfl) (za (v := .slice _ _ _) rfl (zV 1 rfl z32 e3_2 rfl rfl rfl rfl rfl rfl (yB (ze (zt (zb (zt (zb (zt (?_))))))))))))
     have hN : readN x (tokAt s k).1 (tokTx s k) k (tokAt s k).2.2 = ((x.1, 6, k), false) := by rw [readN, if_neg (by rw [h11]; simp), if_pos (by omega)]
     have hrS : readS s = (x.1, 6, k) := by rw [← hr, lexS_end readN hlt (by rw [hN]), hN]
     refine r_fin (.inl rfl) rfl (.tmp rfl rfl (.agg rfl e3_2 z32 (fun _ h => h.at_ 1 rfl) rfl .nil)) ?_; exact fun w' hw => ⟨[], by rw [readP_bad (by omega) (by rw [hrS]; simp), hrS]; exact ⟨none, 0, rfl, Own.nil _ _⟩, .none (hw.fr _ zm0)⟩
    ·refine zi (zk (yA (zm (v := str _) e0_2 (mI e5_2 (mI e7_2 (zg (fun _ => R_sslN (l := k) (h := q) st9 rfl rfl rfl (by omega) (by omega)) (zf fa58_1 e6_2 (zV 0 rfl z9 rfl rfl rfl rfl rfl rfl rfl (yC (mS e4_2 (zY z58 e6_2 (fun _ h => h.at_ 0 rfl) rfl (zS slt50 (by decide) rfl rfl (fun bs gbs ubs => w_app [(bs, _), (t6b, _), (t3b, _)] (news := tkC (kd, (s.drop k).take (q - k), k)) slt50 (by decide) rfl hT rfl rfl (row_own 0 rfl (fun _ _ h => h)) rfl (by decide) (by omega) (by omega) (fun v2 W2 hO2 => ?_))))))))))))))
     obtain ⟨a2, c2, rfl⟩ := hO2.slice
     refine za (v := .slice _ _ _) rfl (yB (zr (zm (v := str _) e0_2 (mI e7_2 (zC (fun w => zR Tryz.func45 rfl rfl rfl) rfl rfl (fun w h => rskip_spec s q hs (by omega) w) (aI rfl (zn (zO (?_)))))))))
     have hN : readN x (tokAt s k).1 (tokTx s k) k (tokAt s k).2.2 = ((x.1 ++ [(kd, (s.drop k).take (q - k), k)], x.2), true) := by rw [readN, if_neg (by rw [hgo]; simp), if_neg (by omega), tokTx, ← hq, ← hkd]
     refine zK (B' := [(w, No)]) (L' := (t3b, cel [.int .i64 0, .int .i64 0] 32) :: (W2 ++ [])) (fun w h => h.drop (.cons _ (.cons _ (List.Sublist.refl _)))) ?_
     have g5 := skipTo_le hql
     exact k_again _ (by omega) ⟨skipTo s q, (x.1 ++ [(kd, (s.drop k).take (q - k), k)], x.2), a2, c2, W2, e0_2, e3_2, (congrArg (fun n : Nat => Value.slice a2 n c2) (show x.1.length + 1 = (x.1 ++ [(kd, (s.drop k).take (q - k), k)]).length by simp)), rfl, rfl, rfl, g5.1, by simpa using Toks.more hO2, by simp; omega, hx0, by rw [← hr, lexS_go readN readN_no hlt (by rw [hN]), hN, ← hq], rfl⟩
  ·refine zX (zx (zx (b_here rfl (zk (yA (mS e4_1 (zg (fun _ => R_build bt32 rfl) (za (v := .slice _ _ _) rfl (zV 0 rfl z32 e3_1 rfl rfl rfl rfl rfl rfl (yB (ze ?_)))))))))))
   have hrS : readS s = x := by rw [← hr, lexS_stop readN (by omega)]
   refine r_fin (.inl rfl) rfl (.tmp rfl rfl (.agg rfl e3_1 z32 (fun _ h => h.at_ 0 rfl) rfl .nil)) ?_; exact fun w' hw => ⟨W, by rw [readP_fine (by omega) (by rw [hrS, hx0]), hrS]; exact ⟨a0, c0, rfl, hT⟩, St.made (A := []) (by simpa using hw.drop (L' := W ++ []) (List.sublist_cons_self _ _))⟩
end Go.Proofs.YtaniogadknakoaaGreatDoor
end

section
namespace Go.Proofs.YtaniogadknakoaaGreatDoor
open Go.RowKit Go.Sx
open Go.Tok
theorem tks_at : ∀ (l : List Tk) (k : Nat) (t : Tk), l[k]? = some t → ∀ (j : Nat) u, (tkC t)[j]? = some u → (tksC l)[k * 3 + j]? = some u
  | [], _, _, h, _, _, _ => by simp at h
  | x :: l, 0, t, h, j, u, hu => by
    obtain rfl : x = t := by simpa using h
    have hj := (List.getElem?_eq_some_iff.1 hu).1
    show ((tkC x) ++ tksC l)[0 * 3 + j]? = some u
    rw [List.getElem?_append_left (by simpa using hj)]
    simpa using hu
  | x :: l, k + 1, t, h, j, u, hu => by
    have ih := tks_at l k t (by simpa using h) j u hu
    show ((tkC x) ++ tksC l)[(k + 1) * 3 + j]? = some u
    have hl : (tkC x).length = 3 := rfl
    rw [List.getElem?_append_right (by rw [hl]; omega), hl, show (k + 1) * 3 + j - 3 = k * 3 + j by omega]
    exact ih
theorem Toks.cell {l : List Tk} {a : Option Addr} {c k : Nat} {W : Heap} {w : World} (h : Toks (.slice a l.length c) l W) (hm : ∀ p ∈ W, w.heap[p.1]? = some p.2) (hk : k < l.length) : ∃ b, a = some ⟨b, 0, none⟩ ∧ ∀ (j : Nat) u, (tkC l[k])[j]? = some u → w.cell? ⟨b, 0 + k * 3 + j, none⟩ = some u := by
  obtain ⟨b, rfl, hc⟩ := Own.cellw h hk
  exact ⟨b, rfl, fun j u hu => by rw [Nat.zero_add]; exact hc w hm _ u (tks_at l k _ (by simp) j u hu)⟩

end Go.Proofs.YtaniogadknakoaaGreatDoor
end

section
namespace Go.Proofs.YtaniogadknakoaaGreatDoor
open Go.RowKit Go.Sx
open Go.Tok Go.Tree
theorem Toks.cellS {l : List Tk} {a : Option Addr} {c k : Nat} {W : Heap} (h : Toks (.slice a l.length c) l W) (hk : k < l.length) : ∃ b, a = some ⟨b, 0, none⟩ ∧ ∀ (B : Base) (L : Heap) (w : World), (∀ p ∈ W, p ∈ L) → St B L w → ∀ (t : Tk), l[k]? = some t → ∀ (j : Nat) u, (tkC t)[j]? = some u → w.cell? ⟨b, 0 + k * 3 + j, none⟩ = some u := by
  obtain ⟨b, rfl, hc⟩ := Own.cell h hk
  exact ⟨b, rfl, fun B L w hW hw t ht j u hu => by rw [Nat.zero_add]; exact hc B L w hW hw _ u (tks_at l k t ht j u hu)⟩
structure Wd (w : World) : Prop where
  tb : Tb w
  gs : 0 < w.heap.size
  ml : ∃ m, w.cell? ⟨2, 0, none⟩ = some (.int .i64 m)
theorem Wd.ext {w w' : World} (h : Wd w) (k : Ext w w') : Wd w' := ⟨h.tb.fr k (fun x => x), Nat.le_trans h.gs k.size, by obtain ⟨m, hm⟩ := h.ml; exact ⟨m, k.cell hm (fun x => x)⟩⟩
theorem Wd.now {w w' : World} {B : Base} {L : Heap} (h : Wd w) (hx : (w, No) ∈ B) (hw : St B L w') : Wd w' := h.ext (hw.fr _ hx)
theorem Contains_spec (s t : List UInt8) (w : World) (hs : s.length < 4294967281) (hw : Wd w) : Ret Tryz.prog 121 #[str s, str t] w fun v w' => v = .bool (Lib.contains s t) ∧ Ext w w' := by
  obtain ⟨m, hm⟩ := hw.ml
  exact Calls.mono (Tryz.strings_Contains ⟨s.toArray⟩ ⟨t.toArray⟩ m w hs hm) fun e w' ⟨h1, h2⟩ => ⟨_, h1, by simp, by rw [h2]; exact Fr.refl _ _⟩

theorem one_spec (s : Str) (k : Nat) (hs : s.length ≤ 10000000) (w : World) (hW : Wd w) :
    Ret Tryz.prog 94 #[str s, .int .u8 (k : Nat)] w (fun v w' => v = .bool (oneB k s) ∧ Ext w w') := by
  have ht := hW.tb
  have hgs := hW.gs
  refine enter (S := No) (l := [_, _]) (L := []) 36 Tryz.func94 rfl rfl rfl (St.start w No) (yA (aB rfl (yC (zm (v := str _) rfl (w_callW (R := RdV (readP s)) (fun w => zR Tryz.func56 rfl rfl rfl) rfl rfl (fun w h => Read_spec s hs w (ht.fr (h.fr _ zm0) (fun x => x)) (Nat.le_trans hgs (h.fr _ zm0).size)) (fun u W1 hR1 => w_st (fun w h => h.perm List.perm_append_comm) ?_))))))
  obtain ⟨a1, c1, rfl, hT1⟩ := hR1
  refine zm rfl (zg (fun _ => R_extract rfl rfl) (zg (fun _ => R_extract rfl rfl) (zA zr32 (fun t6b gt6b ut6b => za (v := .slice _ _ _) rfl (zV 0 rfl z32 rfl rfl rfl rfl rfl rfl rfl (yC (zf fa32_0 rfl (zL 0 z30 rfl rfl rfl (zg (fun _ => R_eq rfl rfl) (mB rfl ?_)))))))))); refine zd (t := 15) rfl (fun h2 => ?_) (fun h2 => ?_)
  · refine zw rfl rfl (bT h2) (mS rfl (zw rfl rfl (bT h2) (zg (fun _ => R_len sl50 rfl) (zw rfl rfl (bT h2) (zg (fun _ => R_eq rfl rfl) (zg (v := .bool _) (fun _ => zT (bT h2) rfl) (mB rfl ?_))))))); refine zd (t := 20) rfl (fun h3 => ?_) (fun h3 => ?_)
    · obtain ⟨b1, rfl, hc1⟩ := hT1.cellS (k := 0) (by omega); obtain ⟨t, q1⟩ : ∃ t, (readP s).1[0]? = some t := ⟨_, List.getElem?_eq_getElem (by omega)⟩; have e1 := oneB_at (k := k) (by omega) q1 (by omega)
      refine zw rfl rfl (bT h3) (mS rfl (zw rfl rfl (bT h3) (zg (fun _ => R_iaN (i := 0) sl50 rfl rfl (by omega)) (zw rfl rfl (bT h3) (zf fa58_0 rfl (zw rfl rfl (bT h3) ?_)))))); refine zl z5 rfl (fun _ h => by exact hc1 _ _ _ (fun p hp => by simp [hp]) h _ q1 _ _ rfl) ?_; refine zw rfl rfl (bT h3) (mI rfl (zw rfl rfl (bT h3) (zg (fun _ => R_eq rfl rfl) (zg (v := .bool _) (fun _ => zT (bT h3) rfl) (mB rfl ?_))))); refine zd (t := 28) rfl (fun h4 => ?_) (fun h4 => ?_)
      · refine zw rfl rfl (bT h4) (mS rfl (zw rfl rfl (bT h4) (zg (fun _ => R_iaN (i := 0) sl50 rfl rfl (by omega)) (zw rfl rfl (bT h4) (zf fa58_1 rfl (zw rfl rfl (bT h4) ?_)))))); refine zl z9 rfl (fun _ h => by exact hc1 _ _ _ (fun p hp => by simp [hp]) h _ q1 _ _ rfl) ?_; refine zw rfl rfl (bT h4) (zm (v := str _) rfl (zw rfl rfl (bT h4) (zg (fun _ => R_seq rfl rfl) (zg (v := .bool _) (fun _ => zT (bT h4) rfl) (aB rfl (yB (ze (zo (v := .bool _) rfl rfl rfl ?_)))))))); exact fun w' hw => ⟨by rw [e1, decide_eq_true h4]; rfl, hw.fr _ zm0⟩
      · refine zs rfl rfl (bF h4) (zs rfl rfl (bF h4) (zs rfl rfl (bF h4) (zs rfl rfl (bF h4) (zs rfl rfl (bF h4) (zs rfl rfl (bF h4) (zg (v := .bool _) (fun _ => zF (bF h4) rfl) (aB rfl (yB (ze (zo (v := .bool _) rfl rfl rfl ?_)))))))))); exact fun w' hw => ⟨by rw [e1, decide_eq_false h4]; rfl, hw.fr _ zm0⟩
    · refine zs rfl rfl (bF h3) (zs rfl rfl (bF h3) (zs rfl rfl (bF h3) (zs rfl rfl (bF h3) (zs rfl rfl (bF h3) (zs rfl rfl (bF h3) (zg (v := .bool _) (fun _ => zF (bF h3) rfl) (mB rfl ?_))))))); (iterate 6 refine zs rfl rfl rfl ?_); refine zg (v := .bool _) (fun _ => zF rfl rfl) (aB rfl (yB (ze (zo (v := .bool _) rfl rfl rfl ?_)))); exact fun w' hw => ⟨by rw [oneB_len (by omega)], hw.fr _ zm0⟩
  · refine zs rfl rfl (bF h2) (zs rfl rfl (bF h2) (zs rfl rfl (bF h2) (zg (v := .bool _) (fun _ => zF (bF h2) rfl) (mB rfl ?_)))); (iterate 6 refine zs rfl rfl rfl ?_); refine zg (v := .bool _) (fun _ => zF rfl rfl) (mB rfl ?_); (iterate 6 refine zs rfl rfl rfl ?_); refine zg (v := .bool _) (fun _ => zF rfl rfl) (aB rfl (yB (ze (zo (v := .bool _) rfl rfl rfl ?_))))
    exact fun w' hw => ⟨by rw [oneB_E (by omega)], hw.fr _ zm0⟩

theorem Name_spec (s : Str) (hs : s.length ≤ 10000000) (w : World) (hW : Wd w) :
    Ret Tryz.prog 96 #[str s] w (fun v w' => v = .bool (nameOk s) ∧ Ext w w') := by
  refine enter (S := No) (l := [_]) (L := []) 12 Tryz.func96 rfl rfl rfl (St.start w No) (yA (aB rfl (yC (zm (v := str _) rfl (zC (fun w => zR Tryz.func94 rfl rfl rfl) rfl rfl (fun w h => one_spec _ 1 (by omega) w (hW.now zm0 h)) (mB rfl ?_)))))); refine zp (t := 5) rfl (fun h1 => ?_) (fun h1 => ?_)
  · refine zw rfl rfl (bV h1) (zm (v := str _) rfl (zw rfl rfl (bV h1) (zg (fun _ => R_cat rfl rfl (by simp only [List.length_append, List.length_cons, List.length_nil]; omega)) (zw rfl rfl (bV h1) (zg (fun _ => R_cat rfl rfl (by simp only [List.length_append, List.length_cons, List.length_nil]; omega)) (zw rfl rfl (bV h1) (zC (fun w => zR Tryz.func121 rfl rfl rfl) rfl rfl (fun w h => Contains_spec wordsT ([32] ++ s ++ [32]) w (by decide) (hW.now zm0 h)) (zw rfl rfl (bV h1) (zg (fun _ => R_not rfl) (zg (v := .bool _) (fun _ => zT (bV h1) rfl) (aB rfl (yB (ze (zo (v := .bool _) rfl rfl rfl ?_))))))))))))))
    exact fun w' hw => ⟨by rw [nameOk_one h1], hw.fr _ zm0⟩
  · refine zs rfl rfl (bV h1) (zs rfl rfl (bV h1) (zs rfl rfl (bV h1) (zs rfl rfl (bV h1) (zs rfl rfl (bV h1) (zg (v := .bool _) (fun _ => zF (bV h1) rfl) (aB rfl (yB (ze (zo (v := .bool _) rfl rfl rfl ?_))))))))); exact fun w' hw => ⟨by rw [nameOk_no h1], hw.fr _ zm0⟩

theorem expr1_spec (w : World) (hW : Wd w) (p1 : Nat) (bare : Bool) (hq1 : w.heap[p1]? = some (cel [.bool bare] 4)) (p2 : Nat) (n : Nat) (hq2 : w.heap[p2]? = some (cel [.int .i64 (n : Nat)] 3)) :
    Ret Tryz.prog 92 #[.pointer (some ⟨p1, 0, none⟩), .pointer (some ⟨p2, 0, none⟩)] w (fun v w' => v = .bool (bare && decide (n = 2)) ∧ Ext w w') := by
  refine enter (S := No) (l := [_, _]) (L := []) 8 Tryz.func92 rfl rfl rfl (St.start w No) (yA (aB rfl (yC (zl z4 rfl (fun _ h => cel_oldb hq1 zm0 id rfl h) (mB rfl ?_))))); refine zp (t := 4) rfl (fun h1 => ?_) (fun h1 => ?_)
  · refine zw rfl rfl (bV h1) (zl z3 rfl (fun _ h => cel_oldb hq2 zm0 id rfl h) (zw rfl rfl (bV h1) (zg (fun _ => R_eq rfl rfl) (zg (v := .bool _) (fun _ => zT (bV h1) rfl) (aB rfl (yB (ze (zo (v := .bool _) rfl rfl rfl ?_)))))))); exact fun w' hw => ⟨by simp_all <;> omega, hw.fr _ zm0⟩
  · refine zs rfl rfl (bV h1) (zs rfl rfl (bV h1) (zg (v := .bool _) (fun _ => zF (bV h1) rfl) (aB rfl (yB (ze (zo (v := .bool _) rfl rfl rfl ?_)))))); exact fun w' hw => ⟨by simp_all <;> omega, hw.fr _ zm0⟩

theorem expr2_spec (w : World) (hW : Wd w) (p2 : Nat) (n : Nat) (hq2 : w.heap[p2]? = some (cel [.int .i64 (n : Nat)] 3)) (p3 : Nat) (op : Nat) (at_ : Int) (nm : Str) (v4 : Value) (hq3 : w.heap[p3]? = some (cel [.int .u8 (op : Nat), .int .i64 at_, str nm, v4] 39)) (hs : nm.length ≤ 10000000) :
    Ret Tryz.prog 93 #[.pointer (some ⟨p2, 0, none⟩), .pointer (some ⟨p3, 0, none⟩)] w (fun v w' => v = .bool (decide (n = 0) && oneB 2 nm) ∧ Ext w w') := by
  refine enter (S := No) (l := [_, _]) (L := []) 10 Tryz.func93 rfl rfl rfl (St.start w No) (yA (aB rfl (yC (zl z3 rfl (fun _ h => cel_oldb hq2 zm0 id rfl h) (zg (fun _ => R_eq rfl rfl) (mB rfl ?_)))))); refine zd (t := 5) rfl (fun h1 => ?_) (fun h1 => ?_)
  · refine zw rfl rfl (bT h1) (zf fa39_2 rfl (zw rfl rfl (bT h1) (zl z9 rfl (fun _ h => cel_oldb hq3 zm0 id rfl h) (zw rfl rfl (bT h1) (zC (fun w => zR Tryz.func94 rfl rfl rfl) rfl rfl (fun w h => one_spec _ 2 (by omega) w (hW.now zm0 h)) (zg (v := .bool _) (fun _ => zT (bT h1) rfl) (aB rfl (yB (ze (zo (v := .bool _) rfl rfl rfl ?_)))))))))); exact fun w' hw => ⟨by simp_all <;> omega, hw.fr _ zm0⟩
  · refine zs rfl rfl (bF h1) (zs rfl rfl (bF h1) (zs rfl rfl (bF h1) (zg (v := .bool _) (fun _ => zF (bF h1) rfl) (aB rfl (yB (ze (zo (v := .bool _) rfl rfl rfl ?_))))))); exact fun w' hw => ⟨by simp_all <;> omega, hw.fr _ zm0⟩

theorem expr3_spec (w : World) (hW : Wd w) (p2 : Nat) (n : Nat) (hq2 : w.heap[p2]? = some (cel [.int .i64 (n : Nat)] 3)) (p3 : Nat) (op : Nat) (at_ : Int) (nm : Str) (v4 : Value) (hq3 : w.heap[p3]? = some (cel [.int .u8 (op : Nat), .int .i64 at_, str nm, v4] 39)) (hs : nm.length ≤ 10000000) :
    Ret Tryz.prog 95 #[.pointer (some ⟨p2, 0, none⟩), .pointer (some ⟨p3, 0, none⟩)] w (fun v w' => v = .bool (decide (n = 0) && nameOk nm) ∧ Ext w w') := by
  refine enter (S := No) (l := [_, _]) (L := []) 10 Tryz.func95 rfl rfl rfl (St.start w No) (yA (aB rfl (yC (zl z3 rfl (fun _ h => cel_oldb hq2 zm0 id rfl h) (zg (fun _ => R_eq rfl rfl) (mB rfl ?_)))))); refine zd (t := 5) rfl (fun h1 => ?_) (fun h1 => ?_)
  · refine zw rfl rfl (bT h1) (zf fa39_2 rfl (zw rfl rfl (bT h1) (zl z9 rfl (fun _ h => cel_oldb hq3 zm0 id rfl h) (zw rfl rfl (bT h1) (zC (fun w => zR Tryz.func96 rfl rfl rfl) rfl rfl (fun w h => Name_spec _ (by omega) w (hW.now zm0 h)) (zg (v := .bool _) (fun _ => zT (bT h1) rfl) (aB rfl (yB (ze (zo (v := .bool _) rfl rfl rfl ?_)))))))))); exact fun w' hw => ⟨by simp_all <;> omega, hw.fr _ zm0⟩
  · refine zs rfl rfl (bF h1) (zs rfl rfl (bF h1) (zs rfl rfl (bF h1) (zg (v := .bool _) (fun _ => zF (bF h1) rfl) (aB rfl (yB (ze (zo (v := .bool _) rfl rfl rfl ?_))))))); exact fun w' hw => ⟨by simp_all <;> omega, hw.fr _ zm0⟩

theorem expr4_spec (w : World) (hW : Wd w) (p2 : Nat) (n : Nat) (hq2 : w.heap[p2]? = some (cel [.int .i64 (n : Nat)] 3)) (p3 : Nat) (op : Nat) (at_ : Int) (nm : Str) (v4 : Value) (hq3 : w.heap[p3]? = some (cel [.int .u8 (op : Nat), .int .i64 at_, str nm, v4] 39)) (hs : nm.length ≤ 10000000) :
    Ret Tryz.prog 97 #[.pointer (some ⟨p2, 0, none⟩), .pointer (some ⟨p3, 0, none⟩)] w (fun v w' => v = .bool (decide (n = 1) && nameOk nm) ∧ Ext w w') := by
  refine enter (S := No) (l := [_, _]) (L := []) 10 Tryz.func97 rfl rfl rfl (St.start w No) (yA (aB rfl (yC (zl z3 rfl (fun _ h => cel_oldb hq2 zm0 id rfl h) (zg (fun _ => R_eq rfl rfl) (mB rfl ?_)))))); refine zd (t := 5) rfl (fun h1 => ?_) (fun h1 => ?_)
  · refine zw rfl rfl (bT h1) (zf fa39_2 rfl (zw rfl rfl (bT h1) (zl z9 rfl (fun _ h => cel_oldb hq3 zm0 id rfl h) (zw rfl rfl (bT h1) (zC (fun w => zR Tryz.func96 rfl rfl rfl) rfl rfl (fun w h => Name_spec _ (by omega) w (hW.now zm0 h)) (zg (v := .bool _) (fun _ => zT (bT h1) rfl) (aB rfl (yB (ze (zo (v := .bool _) rfl rfl rfl ?_)))))))))); exact fun w' hw => ⟨by simp_all <;> omega, hw.fr _ zm0⟩
  · refine zs rfl rfl (bF h1) (zs rfl rfl (bF h1) (zs rfl rfl (bF h1) (zg (v := .bool _) (fun _ => zF (bF h1) rfl) (aB rfl (yB (ze (zo (v := .bool _) rfl rfl rfl ?_))))))); exact fun w' hw => ⟨by simp_all <;> omega, hw.fr _ zm0⟩

theorem expr5_spec (w : World) (hW : Wd w) (p3 : Nat) (op : Nat) (at_ : Int) (nm : Str) (v4 : Value) (hq3 : w.heap[p3]? = some (cel [.int .u8 (op : Nat), .int .i64 at_, str nm, v4] 39)) (hs : nm.length ≤ 10000000) :
    Ret Tryz.prog 98 #[.pointer (some ⟨p3, 0, none⟩)] w (fun v w' => v = .bool (nameOk nm) ∧ Ext w w') := by
  refine enter (S := No) (l := [_]) (L := []) 5 Tryz.func98 rfl rfl rfl (St.start w No) (yA (aB rfl (yC (zf fa39_2 rfl (zl z9 rfl (fun _ h => cel_oldb hq3 zm0 id rfl h) (zC (fun w => zR Tryz.func96 rfl rfl rfl) rfl rfl (fun w h => Name_spec _ (by omega) w (hW.now zm0 h)) (aB rfl (yB (ze (zo (v := .bool _) rfl rfl rfl ?_)))))))))); exact fun w' hw => ⟨by simp_all <;> omega, hw.fr _ zm0⟩

theorem expr6_spec (w : World) (hW : Wd w) (p1 : Nat) (bare : Bool) (hq1 : w.heap[p1]? = some (cel [.bool bare] 4)) (p2 : Nat) (n : Nat) (hq2 : w.heap[p2]? = some (cel [.int .i64 (n : Nat)] 3)) :
    Ret Tryz.prog 99 #[.pointer (some ⟨p1, 0, none⟩), .pointer (some ⟨p2, 0, none⟩)] w (fun v w' => v = .bool (bare && decide (n = 1)) ∧ Ext w w') := by
  refine enter (S := No) (l := [_, _]) (L := []) 8 Tryz.func99 rfl rfl rfl (St.start w No) (yA (aB rfl (yC (zl z4 rfl (fun _ h => cel_oldb hq1 zm0 id rfl h) (mB rfl ?_))))); refine zp (t := 4) rfl (fun h1 => ?_) (fun h1 => ?_)
  · refine zw rfl rfl (bV h1) (zl z3 rfl (fun _ h => cel_oldb hq2 zm0 id rfl h) (zw rfl rfl (bV h1) (zg (fun _ => R_eq rfl rfl) (zg (v := .bool _) (fun _ => zT (bV h1) rfl) (aB rfl (yB (ze (zo (v := .bool _) rfl rfl rfl ?_)))))))); exact fun w' hw => ⟨by simp_all <;> omega, hw.fr _ zm0⟩
  · refine zs rfl rfl (bV h1) (zs rfl rfl (bV h1) (zg (v := .bool _) (fun _ => zF (bV h1) rfl) (aB rfl (yB (ze (zo (v := .bool _) rfl rfl rfl ?_)))))); exact fun w' hw => ⟨by simp_all <;> omega, hw.fr _ zm0⟩


def ExprH (n : Nat) : Prop := ∀ (x : Ex) (cs : List Value) (N : Nat → Prop) (w : World), exW x < n → exM w N x cs → Wd w → Ret Tryz.prog 54 #[.agg cs.toArray] w fun v w' => v = .bool (exOk x) ∧ Ext w w'

theorem exprsC_spec (n : Nat) (ih : ExprH n) (hn : n ≤ 10000000) (x : Ex) (cs : List Value) (N : Nat → Prop) (w : World) (hx : exW x < n) (hm : exM w N x cs) (hW : Wd w) :
    Ret Tryz.prog 123 #[.agg cs.toArray] w (fun v w' => v = .bool (!exOk x) ∧ Ext w w') := by
  obtain ⟨op, at_, nm, ks⟩ := x
  have hm2 := hm
  unfold exM at hm2
  obtain ⟨ka, kc, rfl, hkc, hks⟩ := hm2
  have hx2 := hx
  unfold exW at hx2
  refine enter (S := No) (l := [_]) (L := []) 6 Tryz.func123 rfl rfl rfl (St.start w No) (yA (w_boxA rfl (fun b1 gb1 ub1 => aB rfl (yC (zY z39 rfl (fun _ h => h.at_ 0 rfl) rfl (zC (fun w => zR Tryz.func54 rfl rfl rfl) rfl rfl (fun w h => ih _ _ N w hx (hm.now (fun _ _ hh => hh) zm0 h) (hW.now zm0 h)) (zg (fun _ => R_not rfl) (aB rfl (yB (ze (zo (v := .bool _) rfl rfl rfl ?_))))))))))); exact fun w' hw => ⟨rfl, hw.fr _ zm0⟩

theorem idxE_spec (n : Nat) (ih : ExprH n) (hn : n ≤ 10000000) (l : List Ex) (a : Option Addr) (c : Nat) (N : Nat → Prop) (w : World) (hl : ∀ x ∈ l, exW x < n) (hll : l.length ≤ 10000000) (hm : exsM w N l a 0) (hW : Wd w) :
    Ret Tryz.prog 148 #[.slice a l.length c, .func (.func 123) #[] #[]] w (fun v w' => v = .int .i64 (firstI (fun x => !exOk x) l) ∧ Ext w w') := by
  refine enter (S := No) (l := [_, _]) (L := []) 19 Tryz.func148 rfl rfl rfl (St.start w No) (yA (aI rfl (yB (zq (yA (mS rfl (zg (fun _ => R_len sl37 rfl) (mI rfl (yB (zB (c_loop (fun m e B L => ∃ (k : Nat), e 0 = .slice a l.length c ∧ e 1 = .func (.func 123) #[] #[] ∧ e 7 = .int .i64 (l.length : Nat) ∧ e 8 = .int .i64 (k : Nat) ∧ B = [(w, No)] ∧ L = [] ∧ k ≤ l.length ∧ (∀ y ∈ l.take k, (!exOk y) = false) ∧ m = l.length - k) _ ⟨0, rfl, rfl, rfl, rfl, rfl, rfl, Nat.zero_le _, (by simp), rfl⟩ ?_)))))))))))
  rintro m e B L ⟨k, e0_1, e1_1, e7_1, e8_1, rfl, rfl, hk, hy, rfl⟩
  refine yA (zg (fun _ => R_lt e8_1 e7_1) (yB (zq ?_))); refine zD rfl (fun h1 => ?_) (fun h1 => ?_)
  · have hlt : k < l.length := (by omega); obtain ⟨x, hxk⟩ : ∃ x, l[k]? = some x := ⟨_, List.getElem?_eq_getElem hlt⟩; obtain ⟨cs, hA, hE⟩ := hm.get0 hxk; have hxn := hl x (List.mem_of_getElem? hxk); obtain ⟨b1, o1, rfl⟩ := hA.ptr; obtain ⟨op, at_, nm, ks⟩ := x; have hE2 := hE; unfold exM at hE2; obtain ⟨ka, kc, rfl, hkc, hks⟩ := hE2
    refine zi (zk (zq (zB (yA (mI e8_1 (aI rfl (yC (zm e1_1 (mS e0_1 (mI rfl (zg (fun _ => R_iaN (i := k) sl37 rfl rfl (by omega)) (w_loadC (l := [.int .u8 (op : Nat), .int .i64 at_, str nm, .slice ka ks.length kc]) z39 rfl rfl (fun w h j v hj => hA.cell (fun _ _ hh => hh) zm0 h j v hj) (zC (fun w => R_callv rfl Tryz.func123 rfl rfl) rfl rfl (fun w h => exprsC_spec n ih hn _ _ N w hxn (hE.now (fun _ _ hh => hh) zm0 h) (hW.now zm0 h)) (yB ?_)))))))))))))); refine c_cond rfl (fun h2 => ?_) (fun h2 => ?_)
    · refine yA (mI rfl (aI rfl (yB (ze (zb (zt (zt (zb (zt ((zo (v := .int _ _) rfl rfl rfl ?_))))))))))); exact fun w' hw => ⟨by rw [firstI_at hy hxk h2], hw.fr _ zm0⟩
    · refine zi (zO (zk (zr (zg (fun _ => R_addi e8_1 rfl (by omega)) (mI rfl (zn ?_)))))); exact k_again _ (by omega) ⟨k + 1, e0_1, e1_1, e7_1, rfl, rfl, rfl, by omega, take_all hy hxk h2, rfl⟩
  · refine zX (zx (zx (b_here rfl (zk (yA (aI rfl (yB (ze ?_))))))))
    obtain rfl : k = l.length := by omega
    rw [List.take_length] at hy
    refine zo (v := .int _ _) rfl rfl rfl ?_; exact fun w' hw => ⟨by rw [firstI_no hy], hw.fr _ zm0⟩

theorem hasE_spec (n : Nat) (ih : ExprH n) (hn : n ≤ 10000000) (l : List Ex) (a : Option Addr) (c : Nat) (N : Nat → Prop) (w : World) (hl : ∀ x ∈ l, exW x < n) (hll : l.length ≤ 10000000) (hm : exsM w N l a 0) (hW : Wd w) :
    Ret Tryz.prog 122 #[.slice a l.length c, .func (.func 123) #[] #[]] w (fun v w' => v = .bool (l.any fun x => !exOk x) ∧ Ext w w') := by
  refine enter (S := No) (l := [_, _]) (L := []) 9 Tryz.func122 rfl rfl rfl (St.start w No) (yA (aB rfl (yC (mS rfl (zm rfl (zC (fun w => zR Tryz.func148 rfl rfl rfl) rfl rfl (fun w h => idxE_spec n ih hn l a c N w hl hll (hm.now (fun _ _ hh => hh) zm0 h) (hW.now zm0 h)) (zg (fun _ => R_ge rfl rfl) (aB rfl (yB (ze (zo (v := .bool _) rfl rfl rfl ?_))))))))))); exact fun w' hw => ⟨by rw [← firstI_ge], hw.fr _ zm0⟩

theorem exprs_spec (n : Nat) (ih : ExprH n) (hn : n ≤ 10000000) (l : List Ex) (a : Option Addr) (c : Nat) (N : Nat → Prop) (w : World) (hl : ∀ x ∈ l, exW x < n) (hll : l.length ≤ 10000000) (hm : exsM w N l a 0) (hW : Wd w) :
    Ret Tryz.prog 100 #[.slice a l.length c] w (fun v w' => v = .bool (exsOk l) ∧ Ext w w') := by
  refine enter (S := No) (l := [_]) (L := []) 6 Tryz.func100 rfl rfl rfl (St.start w No) (yA (aB rfl (yC (mS rfl (zC (fun w => zR Tryz.func122 rfl rfl rfl) rfl rfl (fun w h => hasE_spec n ih hn l a c N w hl hll (hm.now (fun _ _ hh => hh) zm0 h) (hW.now zm0 h)) (zg (fun _ => R_not rfl) (aB rfl (yB (ze (zo (v := .bool _) rfl rfl rfl ?_)))))))))); exact fun w' hw => ⟨by rw [any_not, exsOk_all], hw.fr _ zm0⟩

theorem expr_step (n : Nat) (ih : ExprH n) (hn : n ≤ 10000000) (x : Ex) (cs : List Value) (N : Nat → Prop) (w : World) (hx : exW x < n + 1) (hm : exM w N x cs) (hW : Wd w) :
    Ret Tryz.prog 54 #[.agg cs.toArray] w (fun v w' => v = .bool (exOk x) ∧ Ext w w') := by
  obtain ⟨op, at_, nm, ks⟩ := x
  have hm2 := hm
  unfold exM at hm2
  obtain ⟨ka, kc, rfl, hkc, hks⟩ := hm2
  have hx2 := hx
  unfold exW at hx2
  have hkl : ∀ x ∈ ks, exW x < n := fun x hx => by have := exsW_mem hx; omega
  refine enter (S := No) (l := [_]) (L := []) 41 Tryz.func54 rfl rfl rfl (St.start w No) (yA (w_boxA rfl (fun t1b gt1b ut1b => aB rfl (yC (zf fa39_3 rfl (zL 0 z37 rfl rfl rfl (zg (fun _ => R_len sl37 rfl) (zA zr3 (fun t3b gt3b ut3b => zV 0 rfl z3 rfl rfl rfl rfl rfl rfl rfl (yC (zf fa39_2 rfl (zL 1 z9 rfl rfl rfl (zg (fun _ => R_seq rfl rfl) (zA zr4 (fun t4b gt4b ut4b => zV 0 rfl z4 rfl rfl rfl rfl rfl rfl rfl (yC (zg (fun _ => R_makeFunc) (za rfl (yC (w_makeMap (k := .u8) (fun mb gmb umb => zg (fun _ => R_makeFunc) (w_insI 0 rfl unm132 unk5 rfl rfl rfl rfl (zg (fun _ => R_makeFunc) (w_insI 0 rfl unm132 unk5 rfl rfl rfl rfl (zg (fun _ => R_makeFunc) (w_insI 0 rfl unm132 unk5 rfl rfl rfl rfl (zg (fun _ => R_makeFunc) (w_insI 0 rfl unm132 unk5 rfl rfl rfl rfl (zg (fun _ => R_makeFunc) (w_insI 0 rfl unm132 unk5 rfl rfl rfl rfl (zm rfl (w_insI 0 rfl unm132 unk5 rfl rfl rfl rfl (zm rfl (w_insI 0 rfl unm132 unk5 rfl rfl rfl rfl (zm rfl (w_insI 0 rfl unm132 unk5 rfl rfl rfl rfl (zm rfl (w_insI 0 rfl unm132 unk5 rfl rfl rfl rfl (zm rfl (za rfl (yC (zm rfl (zf fa39_0 rfl ?_)))))))))))))))))))))))))))))))))))))))))))
  rcases op_cases9 op with rfl | rfl | rfl | rfl | rfl | rfl | rfl | rfl | rfl | hop
  · refine zL 3 z5 rfl rfl rfl (w_lookI 0 (v := .func (.func 93) _ _) rfl unm132 unk5 zr22 rfl rfl rfl (za rfl (yC (zm rfl (zg (fun _ => R_fne unf22 rfl rfl) (mB rfl (zw rfl rfl rfl (zm rfl (zw rfl rfl rfl (zC (fun w => R_callv rfl Tryz.func93 rfl rfl) rfl rfl (fun w h => expr2_spec w (hW.now zm0 h) t3b _ (h.at_ 2 rfl) t1b _ _ _ _ (h.at_ 3 rfl) (by omega)) (zg (v := .bool _) (fun _ => zT rfl rfl) (mB rfl ?_)))))))))))); refine zp (t := 36) rfl (fun h4 => ?_) (fun h4 => ?_)
    · refine zw rfl rfl (bV h4) (zf fa39_3 rfl (zw rfl rfl (bV h4) (zL 3 z37 rfl rfl rfl (zw rfl rfl (bV h4) (zC (fun w => zR Tryz.func100 rfl rfl rfl) rfl rfl (fun w h => exprs_spec n ih hn ks ka kc N w hkl (by omega) (hks.now (fun _ _ hh => hh) zm0 h) (hW.now zm0 h)) (zg (v := .bool _) (fun _ => zT (bV h4) rfl) (aB rfl (yB (ze (zo (v := .bool _) rfl rfl rfl ?_)))))))))); exact fun w' hw => ⟨by (simp_all [exOk, ruleOk]; done), hw.fr _ zm0⟩
    · refine zs rfl rfl (bV h4) (zs rfl rfl (bV h4) (zs rfl rfl (bV h4) (zg (v := .bool _) (fun _ => zF (bV h4) rfl) (aB rfl (yB (ze (zo (v := .bool _) rfl rfl rfl ?_))))))); exact fun w' hw => ⟨by (simp_all [exOk, ruleOk]; done), hw.fr _ zm0⟩
  · refine zL 3 z5 rfl rfl rfl (w_lookI 0 (v := .func (.func 95) _ _) rfl unm132 unk5 zr22 rfl rfl rfl (za rfl (yC (zm rfl (zg (fun _ => R_fne unf22 rfl rfl) (mB rfl (zw rfl rfl rfl (zm rfl (zw rfl rfl rfl (zC (fun w => R_callv rfl Tryz.func95 rfl rfl) rfl rfl (fun w h => expr3_spec w (hW.now zm0 h) t3b _ (h.at_ 2 rfl) t1b _ _ _ _ (h.at_ 3 rfl) (by omega)) (zg (v := .bool _) (fun _ => zT rfl rfl) (mB rfl ?_)))))))))))); refine zp (t := 36) rfl (fun h5 => ?_) (fun h5 => ?_)
    · refine zw rfl rfl (bV h5) (zf fa39_3 rfl (zw rfl rfl (bV h5) (zL 3 z37 rfl rfl rfl (zw rfl rfl (bV h5) (zC (fun w => zR Tryz.func100 rfl rfl rfl) rfl rfl (fun w h => exprs_spec n ih hn ks ka kc N w hkl (by omega) (hks.now (fun _ _ hh => hh) zm0 h) (hW.now zm0 h)) (zg (v := .bool _) (fun _ => zT (bV h5) rfl) (aB rfl (yB (ze (zo (v := .bool _) rfl rfl rfl ?_)))))))))); exact fun w' hw => ⟨by (simp_all [exOk, ruleOk]; done), hw.fr _ zm0⟩
    · refine zs rfl rfl (bV h5) (zs rfl rfl (bV h5) (zs rfl rfl (bV h5) (zg (v := .bool _) (fun _ => zF (bV h5) rfl) (aB rfl (yB (ze (zo (v := .bool _) rfl rfl rfl ?_))))))); exact fun w' hw => ⟨by (simp_all [exOk, ruleOk]; done), hw.fr _ zm0⟩
  · refine zL 3 z5 rfl rfl rfl (w_lookI 0 (v := .func (.func 97) _ _) rfl unm132 unk5 zr22 rfl rfl rfl (za rfl (yC (zm rfl (zg (fun _ => R_fne unf22 rfl rfl) (mB rfl (zw rfl rfl rfl (zm rfl (zw rfl rfl rfl (zC (fun w => R_callv rfl Tryz.func97 rfl rfl) rfl rfl (fun w h => expr4_spec w (hW.now zm0 h) t3b _ (h.at_ 2 rfl) t1b _ _ _ _ (h.at_ 3 rfl) (by omega)) (zg (v := .bool _) (fun _ => zT rfl rfl) (mB rfl ?_)))))))))))); refine zp (t := 36) rfl (fun h6 => ?_) (fun h6 => ?_)
    · refine zw rfl rfl (bV h6) (zf fa39_3 rfl (zw rfl rfl (bV h6) (zL 3 z37 rfl rfl rfl (zw rfl rfl (bV h6) (zC (fun w => zR Tryz.func100 rfl rfl rfl) rfl rfl (fun w h => exprs_spec n ih hn ks ka kc N w hkl (by omega) (hks.now (fun _ _ hh => hh) zm0 h) (hW.now zm0 h)) (zg (v := .bool _) (fun _ => zT (bV h6) rfl) (aB rfl (yB (ze (zo (v := .bool _) rfl rfl rfl ?_)))))))))); exact fun w' hw => ⟨by (simp_all [exOk, ruleOk]; done), hw.fr _ zm0⟩
    · refine zs rfl rfl (bV h6) (zs rfl rfl (bV h6) (zs rfl rfl (bV h6) (zg (v := .bool _) (fun _ => zF (bV h6) rfl) (aB rfl (yB (ze (zo (v := .bool _) rfl rfl rfl ?_))))))); exact fun w' hw => ⟨by (simp_all [exOk, ruleOk]; done), hw.fr _ zm0⟩
  · refine zL 3 z5 rfl rfl rfl (w_lookI 0 (v := .func (.func 98) _ _) rfl unm132 unk5 zr22 rfl rfl rfl (za rfl (yC (zm rfl (zg (fun _ => R_fne unf22 rfl rfl) (mB rfl (zw rfl rfl rfl (zm rfl (zw rfl rfl rfl (zC (fun w => R_callv rfl Tryz.func98 rfl rfl) rfl rfl (fun w h => expr5_spec w (hW.now zm0 h) t1b _ _ _ _ (h.at_ 3 rfl) (by omega)) (zg (v := .bool _) (fun _ => zT rfl rfl) (mB rfl ?_)))))))))))); refine zp (t := 36) rfl (fun h7 => ?_) (fun h7 => ?_)
    · refine zw rfl rfl (bV h7) (zf fa39_3 rfl (zw rfl rfl (bV h7) (zL 3 z37 rfl rfl rfl (zw rfl rfl (bV h7) (zC (fun w => zR Tryz.func100 rfl rfl rfl) rfl rfl (fun w h => exprs_spec n ih hn ks ka kc N w hkl (by omega) (hks.now (fun _ _ hh => hh) zm0 h) (hW.now zm0 h)) (zg (v := .bool _) (fun _ => zT (bV h7) rfl) (aB rfl (yB (ze (zo (v := .bool _) rfl rfl rfl ?_)))))))))); exact fun w' hw => ⟨by (simp_all [exOk, ruleOk]; done), hw.fr _ zm0⟩
    · refine zs rfl rfl (bV h7) (zs rfl rfl (bV h7) (zs rfl rfl (bV h7) (zg (v := .bool _) (fun _ => zF (bV h7) rfl) (aB rfl (yB (ze (zo (v := .bool _) rfl rfl rfl ?_))))))); exact fun w' hw => ⟨by (simp_all [exOk, ruleOk]; done), hw.fr _ zm0⟩
  · refine zL 3 z5 rfl rfl rfl (w_lookI 0 (v := .func (.func 99) _ _) rfl unm132 unk5 zr22 rfl rfl rfl (za rfl (yC (zm rfl (zg (fun _ => R_fne unf22 rfl rfl) (mB rfl (zw rfl rfl rfl (zm rfl (zw rfl rfl rfl (zC (fun w => R_callv rfl Tryz.func99 rfl rfl) rfl rfl (fun w h => expr6_spec w (hW.now zm0 h) t4b _ (h.at_ 1 rfl) t3b _ (h.at_ 2 rfl)) (zg (v := .bool _) (fun _ => zT rfl rfl) (mB rfl ?_)))))))))))); refine zp (t := 36) rfl (fun h8 => ?_) (fun h8 => ?_)
    · refine zw rfl rfl (bV h8) (zf fa39_3 rfl (zw rfl rfl (bV h8) (zL 3 z37 rfl rfl rfl (zw rfl rfl (bV h8) (zC (fun w => zR Tryz.func100 rfl rfl rfl) rfl rfl (fun w h => exprs_spec n ih hn ks ka kc N w hkl (by omega) (hks.now (fun _ _ hh => hh) zm0 h) (hW.now zm0 h)) (zg (v := .bool _) (fun _ => zT (bV h8) rfl) (aB rfl (yB (ze (zo (v := .bool _) rfl rfl rfl ?_)))))))))); exact fun w' hw => ⟨by (simp_all [exOk, ruleOk]; done), hw.fr _ zm0⟩
    · refine zs rfl rfl (bV h8) (zs rfl rfl (bV h8) (zs rfl rfl (bV h8) (zg (v := .bool _) (fun _ => zF (bV h8) rfl) (aB rfl (yB (ze (zo (v := .bool _) rfl rfl rfl ?_))))))); exact fun w' hw => ⟨by (simp_all [exOk, ruleOk]; done), hw.fr _ zm0⟩
  · refine zL 3 z5 rfl rfl rfl (w_lookI 0 (v := .func (.func 92) _ _) rfl unm132 unk5 zr22 rfl rfl rfl (za rfl (yC (zm rfl (zg (fun _ => R_fne unf22 rfl rfl) (mB rfl (zw rfl rfl rfl (zm rfl (zw rfl rfl rfl (zC (fun w => R_callv rfl Tryz.func92 rfl rfl) rfl rfl (fun w h => expr1_spec w (hW.now zm0 h) t4b _ (h.at_ 1 rfl) t3b _ (h.at_ 2 rfl)) (zg (v := .bool _) (fun _ => zT rfl rfl) (mB rfl ?_)))))))))))); refine zp (t := 36) rfl (fun h9 => ?_) (fun h9 => ?_)
    · refine zw rfl rfl (bV h9) (zf fa39_3 rfl (zw rfl rfl (bV h9) (zL 3 z37 rfl rfl rfl (zw rfl rfl (bV h9) (zC (fun w => zR Tryz.func100 rfl rfl rfl) rfl rfl (fun w h => exprs_spec n ih hn ks ka kc N w hkl (by omega) (hks.now (fun _ _ hh => hh) zm0 h) (hW.now zm0 h)) (zg (v := .bool _) (fun _ => zT (bV h9) rfl) (aB rfl (yB (ze (zo (v := .bool _) rfl rfl rfl ?_)))))))))); exact fun w' hw => ⟨by (simp_all [exOk, ruleOk]; done), hw.fr _ zm0⟩
    · refine zs rfl rfl (bV h9) (zs rfl rfl (bV h9) (zs rfl rfl (bV h9) (zg (v := .bool _) (fun _ => zF (bV h9) rfl) (aB rfl (yB (ze (zo (v := .bool _) rfl rfl rfl ?_))))))); exact fun w' hw => ⟨by (simp_all [exOk, ruleOk]; done), hw.fr _ zm0⟩
  · refine zL 3 z5 rfl rfl rfl (w_lookI 0 (v := .func (.func 92) _ _) rfl unm132 unk5 zr22 rfl rfl rfl (za rfl (yC (zm rfl (zg (fun _ => R_fne unf22 rfl rfl) (mB rfl (zw rfl rfl rfl (zm rfl (zw rfl rfl rfl (zC (fun w => R_callv rfl Tryz.func92 rfl rfl) rfl rfl (fun w h => expr1_spec w (hW.now zm0 h) t4b _ (h.at_ 1 rfl) t3b _ (h.at_ 2 rfl)) (zg (v := .bool _) (fun _ => zT rfl rfl) (mB rfl ?_)))))))))))); refine zp (t := 36) rfl (fun h10 => ?_) (fun h10 => ?_)
    · refine zw rfl rfl (bV h10) (zf fa39_3 rfl (zw rfl rfl (bV h10) (zL 3 z37 rfl rfl rfl (zw rfl rfl (bV h10) (zC (fun w => zR Tryz.func100 rfl rfl rfl) rfl rfl (fun w h => exprs_spec n ih hn ks ka kc N w hkl (by omega) (hks.now (fun _ _ hh => hh) zm0 h) (hW.now zm0 h)) (zg (v := .bool _) (fun _ => zT (bV h10) rfl) (aB rfl (yB (ze (zo (v := .bool _) rfl rfl rfl ?_)))))))))); exact fun w' hw => ⟨by (simp_all [exOk, ruleOk]; done), hw.fr _ zm0⟩
    · refine zs rfl rfl (bV h10) (zs rfl rfl (bV h10) (zs rfl rfl (bV h10) (zg (v := .bool _) (fun _ => zF (bV h10) rfl) (aB rfl (yB (ze (zo (v := .bool _) rfl rfl rfl ?_))))))); exact fun w' hw => ⟨by (simp_all [exOk, ruleOk]; done), hw.fr _ zm0⟩
  · refine zL 3 z5 rfl rfl rfl (w_lookI 0 (v := .func (.func 92) _ _) rfl unm132 unk5 zr22 rfl rfl rfl (za rfl (yC (zm rfl (zg (fun _ => R_fne unf22 rfl rfl) (mB rfl (zw rfl rfl rfl (zm rfl (zw rfl rfl rfl (zC (fun w => R_callv rfl Tryz.func92 rfl rfl) rfl rfl (fun w h => expr1_spec w (hW.now zm0 h) t4b _ (h.at_ 1 rfl) t3b _ (h.at_ 2 rfl)) (zg (v := .bool _) (fun _ => zT rfl rfl) (mB rfl ?_)))))))))))); refine zp (t := 36) rfl (fun h11 => ?_) (fun h11 => ?_)
    · refine zw rfl rfl (bV h11) (zf fa39_3 rfl (zw rfl rfl (bV h11) (zL 3 z37 rfl rfl rfl (zw rfl rfl (bV h11) (zC (fun w => zR Tryz.func100 rfl rfl rfl) rfl rfl (fun w h => exprs_spec n ih hn ks ka kc N w hkl (by omega) (hks.now (fun _ _ hh => hh) zm0 h) (hW.now zm0 h)) (zg (v := .bool _) (fun _ => zT (bV h11) rfl) (aB rfl (yB (ze (zo (v := .bool _) rfl rfl rfl ?_)))))))))); exact fun w' hw => ⟨by (simp_all [exOk, ruleOk]; done), hw.fr _ zm0⟩
    · refine zs rfl rfl (bV h11) (zs rfl rfl (bV h11) (zs rfl rfl (bV h11) (zg (v := .bool _) (fun _ => zF (bV h11) rfl) (aB rfl (yB (ze (zo (v := .bool _) rfl rfl rfl ?_))))))); exact fun w' hw => ⟨by (simp_all [exOk, ruleOk]; done), hw.fr _ zm0⟩
  · refine zL 3 z5 rfl rfl rfl (w_lookI 0 (v := .func (.func 92) _ _) rfl unm132 unk5 zr22 rfl rfl rfl (za rfl (yC (zm rfl (zg (fun _ => R_fne unf22 rfl rfl) (mB rfl (zw rfl rfl rfl (zm rfl (zw rfl rfl rfl (zC (fun w => R_callv rfl Tryz.func92 rfl rfl) rfl rfl (fun w h => expr1_spec w (hW.now zm0 h) t4b _ (h.at_ 1 rfl) t3b _ (h.at_ 2 rfl)) (zg (v := .bool _) (fun _ => zT rfl rfl) (mB rfl ?_)))))))))))); refine zp (t := 36) rfl (fun h12 => ?_) (fun h12 => ?_)
    · refine zw rfl rfl (bV h12) (zf fa39_3 rfl (zw rfl rfl (bV h12) (zL 3 z37 rfl rfl rfl (zw rfl rfl (bV h12) (zC (fun w => zR Tryz.func100 rfl rfl rfl) rfl rfl (fun w h => exprs_spec n ih hn ks ka kc N w hkl (by omega) (hks.now (fun _ _ hh => hh) zm0 h) (hW.now zm0 h)) (zg (v := .bool _) (fun _ => zT (bV h12) rfl) (aB rfl (yB (ze (zo (v := .bool _) rfl rfl rfl ?_)))))))))); exact fun w' hw => ⟨by (simp_all [exOk, ruleOk]; done), hw.fr _ zm0⟩
    · refine zs rfl rfl (bV h12) (zs rfl rfl (bV h12) (zs rfl rfl (bV h12) (zg (v := .bool _) (fun _ => zF (bV h12) rfl) (aB rfl (yB (ze (zo (v := .bool _) rfl rfl rfl ?_))))))); exact fun w' hw => ⟨by (simp_all [exOk, ruleOk]; done), hw.fr _ zm0⟩
  · refine zL 3 z5 rfl rfl rfl (w_lookI 0 (v := .nilFunc) rfl unm132 unk5 zr22 rfl rfl (look_none _ _ _ (by simp; omega)) (za rfl (yC (zm rfl (zg (fun _ => R_nne unf22 rfl rfl) (mB rfl ?_)))))); (iterate 2 refine zs rfl rfl rfl ?_); refine zg (v := .bool _) (fun _ => zF rfl rfl) (mB rfl ?_); (iterate 3 refine zs rfl rfl rfl ?_); refine zg (v := .bool _) (fun _ => zF rfl rfl) (aB rfl (yB (ze (zo (v := .bool _) rfl rfl rfl ?_)))); exact fun w' hw => ⟨by (unfold exOk; rw [rule_miss hop]; rfl), hw.fr _ zm0⟩


theorem expr_all : ∀ n : Nat, n ≤ 10000000 → ExprH n
  | 0, _ => fun _ _ _ _ h _ _ => absurd h (Nat.not_lt_zero _)
  | n + 1, hn => fun x cs N w hx hm hW => expr_step n (expr_all n (by omega)) (by omega) x cs N w hx hm hW
theorem expr_ok (x : Ex) (cs : List Value) (N : Nat → Prop) (w : World) (hx : exW x < 10000000) (hm : exM w N x cs) (hW : Wd w) : Ret Tryz.prog 54 #[.agg cs.toArray] w fun v w' => v = .bool (exOk x) ∧ Ext w w' := expr_all _ (Nat.le_refl _) x cs N w hx hm hW
theorem exprs_ok (l : List Ex) (a : Option Addr) (c : Nat) (N : Nat → Prop) (w : World) (hl : exsW l < 10000000) (hll : l.length ≤ 10000000) (hm : exsM w N l a 0) (hW : Wd w) : Ret Tryz.prog 100 #[.slice a l.length c] w fun v w' => v = .bool (exsOk l) ∧ Ext w w' :=
  exprs_spec _ (expr_all _ (Nat.le_refl _)) (Nat.le_refl _) l a c N w (fun _ hx => Nat.lt_of_le_of_lt (exsW_mem hx) hl) hll hm hW
end Go.Proofs.YtaniogadknakoaaGreatDoor
end
