/- For every two programs, of a bulk of at most 1048576, the law TreeProgs holds of the given program. Part 4 of 18. -/
import Derived.Test.YtcmcdgkjipnfnaaGreatDoorP02
import Derived.Test.YtcmcdgkjipnfnaaGreatDoorP03
import Derived.Lib.LastIndexByte
import Derived.Lib.IndexMore
section
namespace Go.Proofs.YtcmcdgkjipnfnaaGreatDoor
open Go.RowKit Go.Sx
open Go.Tok
theorem two_at {k : Nat} (h : k < 5) : ([str [61, 61], str [33, 61], str [60, 61], str [62, 61], str [43, 61]] : List Value)[0 + k * 1]? = some (str (signsL.getD k [])) := by
  match k, h with
  | 0, _ => rfl
  | 1, _ => rfl
  | 2, _ => rfl
  | 3, _ => rfl
  | 4, _ => rfl

set_option maxRecDepth 100000 in
set_option maxHeartbeats 400000 in
theorem rdigit_spec (s : List UInt8) (i : Nat) (hs : s.length ≤ 10000000) (hi : i ≤ 20000000) (w : World) :
    Ret Tryz.prog 112 #[str s, .int .i64 (i : Nat)] w (fun v w' => v = .bool (atP digitB s i) ∧ Ext w w') := by
  refine enter (S := No) (l := [_, _]) (L := []) 21 Tryz.func112 rfl rfl rfl (St.start w No) ?_; refine yA ?_; refine aB rfl ?_; refine yC ?_; refine mI rfl ?_; refine zm (v := str _) rfl ?_; refine w_r (fun _ => R_slen st9 rfl (by omega)) rfl rfl ?_; refine w_r (fun _ => R_lt rfl rfl) rfl rfl ?_; refine mB rfl ?_; refine zd (t := 9) rfl (fun h1 => ?_) (fun h1 => ?_)
  · refine zw rfl rfl (bT h1) ?_; refine zm (v := str _) rfl ?_; refine zw rfl rfl (bT h1) ?_; refine mI rfl ?_; refine zw rfl rfl (bT h1) ?_; refine w_sidx st9 rfl rfl (by omega) ?_; refine zw rfl rfl (bT h1) ?_; refine w_r (fun _ => R_ge rfl rfl) rfl rfl ?_; refine w_r (v := .bool _) (fun _ => zT (bT h1) rfl) rfl rfl ?_; refine mB rfl ?_; refine zd (t := 15) rfl (fun h2 => ?_) (fun h2 => ?_)
    · refine zw rfl rfl (bT h2) ?_; refine zm (v := str _) rfl ?_; refine zw rfl rfl (bT h2) ?_; refine mI rfl ?_; refine zw rfl rfl (bT h2) ?_; refine w_sidx st9 rfl rfl (by omega) ?_; refine zw rfl rfl (bT h2) ?_; refine w_r (fun _ => R_le rfl rfl) rfl rfl ?_; refine w_r (v := .bool _) (fun _ => zT (bT h2) rfl) rfl rfl ?_; refine aB rfl ?_; refine yB ?_; refine ze ?_; refine zo (v := .bool _) rfl rfl rfl ?_; exact fun w' hw => ⟨by first | (exfalso; omega) | rw [atP_out (by omega)] | (rw [atP_in (by omega), digit_int]; done) | (rw [atP_in (by omega), digit_int]; simp [*]; done) | (rw [atP_in (by omega), digit_int]; congr 1; simp_all; done), hw.fr _ (.head _)⟩
    · refine zs rfl rfl (bF h2) ?_; refine zs rfl rfl (bF h2) ?_; refine zs rfl rfl (bF h2) ?_; refine zs rfl rfl (bF h2) ?_; refine w_r (v := .bool _) (fun _ => zF (bF h2) rfl) rfl rfl ?_; refine aB rfl ?_; refine yB ?_; refine ze ?_; refine zo (v := .bool _) rfl rfl rfl ?_; exact fun w' hw => ⟨by first | (exfalso; omega) | rw [atP_out (by omega)] | (rw [atP_in (by omega), digit_int]; done) | (rw [atP_in (by omega), digit_int]; simp [*]; done) | (rw [atP_in (by omega), digit_int]; congr 1; simp_all; done), hw.fr _ (.head _)⟩
  · refine zs rfl rfl (bF h1) ?_; refine zs rfl rfl (bF h1) ?_; refine zs rfl rfl (bF h1) ?_; refine zs rfl rfl (bF h1) ?_; refine w_r (v := .bool _) (fun _ => zF (bF h1) rfl) rfl rfl ?_; refine mB rfl ?_; refine zs rfl rfl rfl ?_; refine zs rfl rfl rfl ?_; refine zs rfl rfl rfl ?_; refine zs rfl rfl rfl ?_; refine w_r (v := .bool _) (fun _ => zF rfl rfl) rfl rfl ?_; refine aB rfl ?_; refine yB ?_; refine ze ?_; refine zo (v := .bool _) rfl rfl rfl ?_; exact fun w' hw => ⟨by first | (exfalso; omega) | rw [atP_out (by omega)] | (rw [atP_in (by omega), digit_int]; done) | (rw [atP_in (by omega), digit_int]; simp [*]; done) | (rw [atP_in (by omega), digit_int]; congr 1; simp_all; done), hw.fr _ (.head _)⟩

set_option maxRecDepth 100000 in
set_option maxHeartbeats 400000 in
theorem rletter_spec (s : List UInt8) (i : Nat) (hs : s.length ≤ 10000000) (hi : i ≤ 20000000) (w : World) :
    Ret Tryz.prog 111 #[str s, .int .i64 (i : Nat)] w (fun v w' => v = .bool (atP letterB s i) ∧ Ext w w') := by
  refine enter (S := No) (l := [_, _]) (L := []) 39 Tryz.func111 rfl rfl rfl (St.start w No) ?_; refine yA ?_; refine aB rfl ?_; refine yC ?_; refine mI rfl ?_; refine zm (v := str _) rfl ?_; refine w_r (fun _ => R_slen st9 rfl (by omega)) rfl rfl ?_; refine w_r (fun _ => R_lt rfl rfl) rfl rfl ?_; refine mB rfl ?_; refine zd (t := 9) rfl (fun h1 => ?_) (fun h1 => ?_)
  · refine zw rfl rfl (bT h1) ?_; refine zm (v := str _) rfl ?_; refine zw rfl rfl (bT h1) ?_; refine mI rfl ?_; refine zw rfl rfl (bT h1) ?_; refine w_sidx st9 rfl rfl (by omega) ?_; refine zw rfl rfl (bT h1) ?_; refine w_r (fun _ => R_ge rfl rfl) rfl rfl ?_; refine zw rfl rfl (bT h1) ?_; refine mB rfl ?_; refine zd (t := 14) rfl (fun h2 => ?_) (fun h2 => ?_)
    · refine zw rfl rfl (bT h2) ?_; refine zm (v := str _) rfl ?_; refine zw rfl rfl (bT h2) ?_; refine mI rfl ?_; refine zw rfl rfl (bT h2) ?_; refine w_sidx st9 rfl rfl (by omega) ?_; refine zw rfl rfl (bT h2) ?_; refine w_r (fun _ => R_le rfl rfl) rfl rfl ?_; refine zw rfl rfl (bT h1) ?_; refine w_r (v := .bool _) (fun _ => zT (bT h2) rfl) rfl rfl ?_; refine zw rfl rfl (bT h1) ?_; refine mB rfl ?_; refine zd (t := 20) rfl (fun h3 => ?_) (fun h3 => ?_)
      · refine zs rfl rfl (bT h3) ?_; refine zs rfl rfl (bT h3) ?_; refine zs rfl rfl (bT h3) ?_; refine zs rfl rfl (bT h3) ?_; refine zs rfl rfl (bT h3) ?_; refine zU rfl rfl rfl ?_; refine zU rfl rfl rfl ?_; refine zU rfl rfl rfl ?_; refine zU rfl rfl rfl ?_; refine zs rfl rfl (bT h3) ?_; refine zw rfl rfl (bT h1) ?_; refine w_r (v := .bool _) (fun _ => zT (bT h3) rfl) rfl rfl ?_; refine zw rfl rfl (bT h1) ?_; refine mB rfl ?_; refine zs rfl rfl rfl ?_; refine zs rfl rfl rfl ?_; refine zs rfl rfl rfl ?_; refine zs rfl rfl rfl ?_; refine zw rfl rfl (bT h1) ?_; refine w_r (v := .bool _) (fun _ => zT rfl rfl) rfl rfl ?_; refine w_r (v := .bool _) (fun _ => zT (bT h1) rfl) rfl rfl ?_; refine aB rfl ?_; refine yB ?_; refine ze ?_
        refine zo (v := .bool _) rfl rfl rfl ?_; exact fun w' hw => ⟨by first | (exfalso; omega) | rw [atP_out (by omega)] | (rw [atP_in (by omega), letter_int]; done) | (rw [atP_in (by omega), letter_int]; simp [*]; done) | (rw [atP_in (by omega), letter_int]; congr 1; simp_all; done), hw.fr _ (.head _)⟩
      · refine zw rfl rfl (bF h3) ?_; refine zm (v := str _) rfl ?_; refine zw rfl rfl (bF h3) ?_; refine mI rfl ?_; refine zw rfl rfl (bF h3) ?_; refine w_sidx st9 rfl rfl (by omega) ?_; refine zw rfl rfl (bF h3) ?_; refine w_r (fun _ => R_ge rfl rfl) rfl rfl ?_; refine zw rfl rfl (bF h3) ?_; refine mB rfl ?_; refine zd (t := 25) rfl (fun h4 => ?_) (fun h4 => ?_)
        · refine zw rfl rfl (bT h4) ?_; refine zm (v := str _) rfl ?_; refine zw rfl rfl (bT h4) ?_; refine mI rfl ?_; refine zw rfl rfl (bT h4) ?_; refine w_sidx st9 rfl rfl (by omega) ?_; refine zw rfl rfl (bT h4) ?_; refine w_r (fun _ => R_le rfl rfl) rfl rfl ?_; refine zw rfl rfl (bF h3) ?_; refine w_r (v := .bool _) (fun _ => zT (bT h4) rfl) rfl rfl ?_; refine zw rfl rfl (bT h1) ?_; refine w_r (v := .bool _) (fun _ => zF (bF h3) rfl) rfl rfl ?_; refine zw rfl rfl (bT h1) ?_; refine mB rfl ?_; refine zd (t := 32) rfl (fun h5 => ?_) (fun h5 => ?_)
          · refine zs rfl rfl (bT h5) ?_; refine zs rfl rfl (bT h5) ?_; refine zs rfl rfl (bT h5) ?_; refine zs rfl rfl (bT h5) ?_; refine zw rfl rfl (bT h1) ?_; refine w_r (v := .bool _) (fun _ => zT (bT h5) rfl) rfl rfl ?_; refine w_r (v := .bool _) (fun _ => zT (bT h1) rfl) rfl rfl ?_; refine aB rfl ?_; refine yB ?_; refine ze ?_; refine zo (v := .bool _) rfl rfl rfl ?_; exact fun w' hw => ⟨by first | (exfalso; omega) | rw [atP_out (by omega)] | (rw [atP_in (by omega), letter_int]; done) | (rw [atP_in (by omega), letter_int]; simp [*]; done) | (rw [atP_in (by omega), letter_int]; congr 1; simp_all; done), hw.fr _ (.head _)⟩
          · refine zw rfl rfl (bF h5) ?_; refine zm (v := str _) rfl ?_; refine zw rfl rfl (bF h5) ?_; refine mI rfl ?_; refine zw rfl rfl (bF h5) ?_; refine w_sidx st9 rfl rfl (by omega) ?_; refine zw rfl rfl (bF h5) ?_; refine w_r (fun _ => R_eq rfl rfl) rfl rfl ?_; refine zw rfl rfl (bT h1) ?_; refine w_r (v := .bool _) (fun _ => zF (bF h5) rfl) rfl rfl ?_; refine w_r (v := .bool _) (fun _ => zT (bT h1) rfl) rfl rfl ?_; refine aB rfl ?_; refine yB ?_; refine ze ?_; refine zo (v := .bool _) rfl rfl rfl ?_; exact fun w' hw => ⟨by first | (exfalso; omega) | rw [atP_out (by omega)] | (rw [atP_in (by omega), letter_int]; done) | (rw [atP_in (by omega), letter_int]; simp [*]; done) | (rw [atP_in (by omega), letter_int]; congr 1; simp_all; done), hw.fr _ (.head _)⟩
        · refine zs rfl rfl (bF h4) ?_; refine zs rfl rfl (bF h4) ?_; refine zs rfl rfl (bF h4) ?_; refine zs rfl rfl (bF h4) ?_; refine zw rfl rfl (bF h3) ?_; refine w_r (v := .bool _) (fun _ => zF (bF h4) rfl) rfl rfl ?_; refine zw rfl rfl (bT h1) ?_; refine w_r (v := .bool _) (fun _ => zF (bF h3) rfl) rfl rfl ?_; refine zw rfl rfl (bT h1) ?_; refine mB rfl ?_; refine zw rfl rfl rfl ?_; refine zm (v := str _) rfl ?_; refine zw rfl rfl rfl ?_; refine mI rfl ?_; refine zw rfl rfl rfl ?_; refine w_sidx st9 rfl rfl (by omega) ?_; refine zw rfl rfl rfl ?_; refine w_r (fun _ => R_eq rfl rfl) rfl rfl ?_; refine zw rfl rfl (bT h1) ?_; refine w_r (v := .bool _) (fun _ => zF rfl rfl) rfl rfl ?_
          refine w_r (v := .bool _) (fun _ => zT (bT h1) rfl) rfl rfl ?_; refine aB rfl ?_; refine yB ?_; refine ze ?_; refine zo (v := .bool _) rfl rfl rfl ?_; exact fun w' hw => ⟨by first | (exfalso; omega) | rw [atP_out (by omega)] | (rw [atP_in (by omega), letter_int]; done) | (rw [atP_in (by omega), letter_int]; simp [*]; done) | (rw [atP_in (by omega), letter_int]; congr 1; simp_all; done), hw.fr _ (.head _)⟩
    · refine zs rfl rfl (bF h2) ?_; refine zs rfl rfl (bF h2) ?_; refine zs rfl rfl (bF h2) ?_; refine zs rfl rfl (bF h2) ?_; refine zw rfl rfl (bT h1) ?_; refine w_r (v := .bool _) (fun _ => zF (bF h2) rfl) rfl rfl ?_; refine zw rfl rfl (bT h1) ?_; refine mB rfl ?_; refine zw rfl rfl rfl ?_; refine zm (v := str _) rfl ?_; refine zw rfl rfl rfl ?_; refine mI rfl ?_; refine zw rfl rfl rfl ?_; refine w_sidx st9 rfl rfl (by omega) ?_; refine zw rfl rfl rfl ?_; refine w_r (fun _ => R_ge rfl rfl) rfl rfl ?_; refine zw rfl rfl rfl ?_; refine mB rfl ?_; refine zd (t := 25) rfl (fun h6 => ?_) (fun h6 => ?_)
      · refine zw rfl rfl (bT h6) ?_; refine zm (v := str _) rfl ?_; refine zw rfl rfl (bT h6) ?_; refine mI rfl ?_; refine zw rfl rfl (bT h6) ?_; refine w_sidx st9 rfl rfl (by omega) ?_; refine zw rfl rfl (bT h6) ?_; refine w_r (fun _ => R_le rfl rfl) rfl rfl ?_; refine zw rfl rfl rfl ?_; refine w_r (v := .bool _) (fun _ => zT (bT h6) rfl) rfl rfl ?_; refine zw rfl rfl (bT h1) ?_; refine w_r (v := .bool _) (fun _ => zF rfl rfl) rfl rfl ?_; refine zw rfl rfl (bT h1) ?_; refine mB rfl ?_; refine zd (t := 32) rfl (fun h7 => ?_) (fun h7 => ?_)
        · refine zs rfl rfl (bT h7) ?_; refine zs rfl rfl (bT h7) ?_; refine zs rfl rfl (bT h7) ?_; refine zs rfl rfl (bT h7) ?_; refine zw rfl rfl (bT h1) ?_; refine w_r (v := .bool _) (fun _ => zT (bT h7) rfl) rfl rfl ?_; refine w_r (v := .bool _) (fun _ => zT (bT h1) rfl) rfl rfl ?_; refine aB rfl ?_; refine yB ?_; refine ze ?_; refine zo (v := .bool _) rfl rfl rfl ?_; exact fun w' hw => ⟨by first | (exfalso; omega) | rw [atP_out (by omega)] | (rw [atP_in (by omega), letter_int]; done) | (rw [atP_in (by omega), letter_int]; simp [*]; done) | (rw [atP_in (by omega), letter_int]; congr 1; simp_all; done), hw.fr _ (.head _)⟩
        · refine zw rfl rfl (bF h7) ?_; refine zm (v := str _) rfl ?_; refine zw rfl rfl (bF h7) ?_; refine mI rfl ?_; refine zw rfl rfl (bF h7) ?_; refine w_sidx st9 rfl rfl (by omega) ?_; refine zw rfl rfl (bF h7) ?_; refine w_r (fun _ => R_eq rfl rfl) rfl rfl ?_; refine zw rfl rfl (bT h1) ?_; refine w_r (v := .bool _) (fun _ => zF (bF h7) rfl) rfl rfl ?_; refine w_r (v := .bool _) (fun _ => zT (bT h1) rfl) rfl rfl ?_; refine aB rfl ?_; refine yB ?_; refine ze ?_; refine zo (v := .bool _) rfl rfl rfl ?_; exact fun w' hw => ⟨by first | (exfalso; omega) | rw [atP_out (by omega)] | (rw [atP_in (by omega), letter_int]; done) | (rw [atP_in (by omega), letter_int]; simp [*]; done) | (rw [atP_in (by omega), letter_int]; congr 1; simp_all; done), hw.fr _ (.head _)⟩
      · refine zs rfl rfl (bF h6) ?_; refine zs rfl rfl (bF h6) ?_; refine zs rfl rfl (bF h6) ?_; refine zs rfl rfl (bF h6) ?_; refine zw rfl rfl rfl ?_; refine w_r (v := .bool _) (fun _ => zF (bF h6) rfl) rfl rfl ?_; refine zw rfl rfl (bT h1) ?_; refine w_r (v := .bool _) (fun _ => zF rfl rfl) rfl rfl ?_; refine zw rfl rfl (bT h1) ?_; refine mB rfl ?_; refine zw rfl rfl rfl ?_; refine zm (v := str _) rfl ?_; refine zw rfl rfl rfl ?_; refine mI rfl ?_; refine zw rfl rfl rfl ?_; refine w_sidx st9 rfl rfl (by omega) ?_; refine zw rfl rfl rfl ?_; refine w_r (fun _ => R_eq rfl rfl) rfl rfl ?_; refine zw rfl rfl (bT h1) ?_; refine w_r (v := .bool _) (fun _ => zF rfl rfl) rfl rfl ?_; refine w_r (v := .bool _) (fun _ => zT (bT h1) rfl) rfl rfl ?_
        refine aB rfl ?_; refine yB ?_; refine ze ?_; refine zo (v := .bool _) rfl rfl rfl ?_; exact fun w' hw => ⟨by first | (exfalso; omega) | rw [atP_out (by omega)] | (rw [atP_in (by omega), letter_int]; done) | (rw [atP_in (by omega), letter_int]; simp [*]; done) | (rw [atP_in (by omega), letter_int]; congr 1; simp_all; done), hw.fr _ (.head _)⟩
  · refine zs rfl rfl (bF h1) ?_; refine zs rfl rfl (bF h1) ?_; refine zs rfl rfl (bF h1) ?_; refine zs rfl rfl (bF h1) ?_; refine zs rfl rfl (bF h1) ?_; refine zU rfl rfl rfl ?_; refine zU rfl rfl rfl ?_; refine zU rfl rfl rfl ?_; refine zU rfl rfl rfl ?_; refine zs rfl rfl (bF h1) ?_; refine zs rfl rfl (bF h1) ?_; refine zU rfl rfl rfl ?_; refine zU rfl rfl rfl ?_; refine zU rfl rfl rfl ?_; refine zU rfl rfl rfl ?_; refine zU rfl rfl rfl ?_; refine zU rfl rfl rfl ?_; refine zU rfl rfl rfl ?_; refine zU rfl rfl rfl ?_; refine zU rfl rfl rfl ?_; refine zU rfl rfl rfl ?_; refine zs rfl rfl (bF h1) ?_; refine zs rfl rfl (bF h1) ?_; refine zU rfl rfl rfl ?_; refine zU rfl rfl rfl ?_; refine zU rfl rfl rfl ?_; refine zU rfl rfl rfl ?_; refine zs rfl rfl (bF h1) ?_
    refine w_r (v := .bool _) (fun _ => zF (bF h1) rfl) rfl rfl ?_; refine aB rfl ?_; refine yB ?_; refine ze ?_; refine zo (v := .bool _) rfl rfl rfl ?_; exact fun w' hw => ⟨by first | (exfalso; omega) | rw [atP_out (by omega)] | (rw [atP_in (by omega), letter_int]; done) | (rw [atP_in (by omega), letter_int]; simp [*]; done) | (rw [atP_in (by omega), letter_int]; congr 1; simp_all; done), hw.fr _ (.head _)⟩

set_option maxRecDepth 100000 in
set_option maxHeartbeats 400000 in
theorem rblank_spec (s : List UInt8) (i : Nat) (hs : s.length ≤ 10000000) (hi : i ≤ 20000000) (w : World) :
    Ret Tryz.prog 127 #[str s, .int .i64 (i : Nat)] w (fun v w' => v = .bool (atP blankB s i) ∧ Ext w w') := by
  refine enter (S := No) (l := [_, _]) (L := []) 33 Tryz.func127 rfl rfl rfl (St.start w No) ?_; refine yA ?_; refine aB rfl ?_; refine yC ?_; refine mI rfl ?_; refine zm (v := str _) rfl ?_; refine w_r (fun _ => R_slen st9 rfl (by omega)) rfl rfl ?_; refine w_r (fun _ => R_lt rfl rfl) rfl rfl ?_; refine mB rfl ?_; refine zd (t := 9) rfl (fun h1 => ?_) (fun h1 => ?_)
  · refine zw rfl rfl (bT h1) ?_; refine zm (v := str _) rfl ?_; refine zw rfl rfl (bT h1) ?_; refine mI rfl ?_; refine zw rfl rfl (bT h1) ?_; refine w_sidx st9 rfl rfl (by omega) ?_; refine zw rfl rfl (bT h1) ?_; refine w_r (fun _ => R_eq rfl rfl) rfl rfl ?_; refine zw rfl rfl (bT h1) ?_; refine mB rfl ?_; refine zd (t := 14) rfl (fun h2 => ?_) (fun h2 => ?_)
    · refine zs rfl rfl (bT h2) ?_; refine zs rfl rfl (bT h2) ?_; refine zs rfl rfl (bT h2) ?_; refine zs rfl rfl (bT h2) ?_; refine zw rfl rfl (bT h1) ?_; refine w_r (v := .bool _) (fun _ => zT (bT h2) rfl) rfl rfl ?_; refine zw rfl rfl (bT h1) ?_; refine mB rfl ?_; refine zs rfl rfl rfl ?_; refine zs rfl rfl rfl ?_; refine zs rfl rfl rfl ?_; refine zs rfl rfl rfl ?_; refine zw rfl rfl (bT h1) ?_; refine w_r (v := .bool _) (fun _ => zT rfl rfl) rfl rfl ?_; refine zw rfl rfl (bT h1) ?_; refine mB rfl ?_; refine zs rfl rfl rfl ?_; refine zs rfl rfl rfl ?_; refine zs rfl rfl rfl ?_; refine zs rfl rfl rfl ?_; refine zw rfl rfl (bT h1) ?_; refine w_r (v := .bool _) (fun _ => zT rfl rfl) rfl rfl ?_
      refine w_r (v := .bool _) (fun _ => zT (bT h1) rfl) rfl rfl ?_; refine aB rfl ?_; refine yB ?_; refine ze ?_; refine zo (v := .bool _) rfl rfl rfl ?_; exact fun w' hw => ⟨by first | (exfalso; omega) | rw [atP_out (by omega)] | (rw [atP_in (by omega), blank_int]; done) | (rw [atP_in (by omega), blank_int]; simp [*]; done) | (rw [atP_in (by omega), blank_int]; congr 1; simp_all; done), hw.fr _ (.head _)⟩
    · refine zw rfl rfl (bF h2) ?_; refine zm (v := str _) rfl ?_; refine zw rfl rfl (bF h2) ?_; refine mI rfl ?_; refine zw rfl rfl (bF h2) ?_; refine w_sidx st9 rfl rfl (by omega) ?_; refine zw rfl rfl (bF h2) ?_; refine w_r (fun _ => R_eq rfl rfl) rfl rfl ?_; refine zw rfl rfl (bT h1) ?_; refine w_r (v := .bool _) (fun _ => zF (bF h2) rfl) rfl rfl ?_; refine zw rfl rfl (bT h1) ?_; refine mB rfl ?_; refine zd (t := 20) rfl (fun h3 => ?_) (fun h3 => ?_)
      · refine zs rfl rfl (bT h3) ?_; refine zs rfl rfl (bT h3) ?_; refine zs rfl rfl (bT h3) ?_; refine zs rfl rfl (bT h3) ?_; refine zw rfl rfl (bT h1) ?_; refine w_r (v := .bool _) (fun _ => zT (bT h3) rfl) rfl rfl ?_; refine zw rfl rfl (bT h1) ?_; refine mB rfl ?_; refine zs rfl rfl rfl ?_; refine zs rfl rfl rfl ?_; refine zs rfl rfl rfl ?_; refine zs rfl rfl rfl ?_; refine zw rfl rfl (bT h1) ?_; refine w_r (v := .bool _) (fun _ => zT rfl rfl) rfl rfl ?_; refine w_r (v := .bool _) (fun _ => zT (bT h1) rfl) rfl rfl ?_; refine aB rfl ?_; refine yB ?_; refine ze ?_; refine zo (v := .bool _) rfl rfl rfl ?_
        exact fun w' hw => ⟨by first | (exfalso; omega) | rw [atP_out (by omega)] | (rw [atP_in (by omega), blank_int]; done) | (rw [atP_in (by omega), blank_int]; simp [*]; done) | (rw [atP_in (by omega), blank_int]; congr 1; simp_all; done), hw.fr _ (.head _)⟩
      · refine zw rfl rfl (bF h3) ?_; refine zm (v := str _) rfl ?_; refine zw rfl rfl (bF h3) ?_; refine mI rfl ?_; refine zw rfl rfl (bF h3) ?_; refine w_sidx st9 rfl rfl (by omega) ?_; refine zw rfl rfl (bF h3) ?_; refine w_r (fun _ => R_eq rfl rfl) rfl rfl ?_; refine zw rfl rfl (bT h1) ?_; refine w_r (v := .bool _) (fun _ => zF (bF h3) rfl) rfl rfl ?_; refine zw rfl rfl (bT h1) ?_; refine mB rfl ?_; refine zd (t := 26) rfl (fun h4 => ?_) (fun h4 => ?_)
        · refine zs rfl rfl (bT h4) ?_; refine zs rfl rfl (bT h4) ?_; refine zs rfl rfl (bT h4) ?_; refine zs rfl rfl (bT h4) ?_; refine zw rfl rfl (bT h1) ?_; refine w_r (v := .bool _) (fun _ => zT (bT h4) rfl) rfl rfl ?_; refine w_r (v := .bool _) (fun _ => zT (bT h1) rfl) rfl rfl ?_; refine aB rfl ?_; refine yB ?_; refine ze ?_; refine zo (v := .bool _) rfl rfl rfl ?_; exact fun w' hw => ⟨by first | (exfalso; omega) | rw [atP_out (by omega)] | (rw [atP_in (by omega), blank_int]; done) | (rw [atP_in (by omega), blank_int]; simp [*]; done) | (rw [atP_in (by omega), blank_int]; congr 1; simp_all; done), hw.fr _ (.head _)⟩
        · refine zw rfl rfl (bF h4) ?_; refine zm (v := str _) rfl ?_; refine zw rfl rfl (bF h4) ?_; refine mI rfl ?_; refine zw rfl rfl (bF h4) ?_; refine w_sidx st9 rfl rfl (by omega) ?_; refine zw rfl rfl (bF h4) ?_; refine w_r (fun _ => R_eq rfl rfl) rfl rfl ?_; refine zw rfl rfl (bT h1) ?_; refine w_r (v := .bool _) (fun _ => zF (bF h4) rfl) rfl rfl ?_; refine w_r (v := .bool _) (fun _ => zT (bT h1) rfl) rfl rfl ?_; refine aB rfl ?_; refine yB ?_; refine ze ?_; refine zo (v := .bool _) rfl rfl rfl ?_; exact fun w' hw => ⟨by first | (exfalso; omega) | rw [atP_out (by omega)] | (rw [atP_in (by omega), blank_int]; done) | (rw [atP_in (by omega), blank_int]; simp [*]; done) | (rw [atP_in (by omega), blank_int]; congr 1; simp_all; done), hw.fr _ (.head _)⟩
  · refine zs rfl rfl (bF h1) ?_; refine zs rfl rfl (bF h1) ?_; refine zs rfl rfl (bF h1) ?_; refine zs rfl rfl (bF h1) ?_; refine zs rfl rfl (bF h1) ?_; refine zU rfl rfl rfl ?_; refine zU rfl rfl rfl ?_; refine zU rfl rfl rfl ?_; refine zU rfl rfl rfl ?_; refine zs rfl rfl (bF h1) ?_; refine zs rfl rfl (bF h1) ?_; refine zU rfl rfl rfl ?_; refine zU rfl rfl rfl ?_; refine zU rfl rfl rfl ?_; refine zU rfl rfl rfl ?_; refine zs rfl rfl (bF h1) ?_; refine zs rfl rfl (bF h1) ?_; refine zU rfl rfl rfl ?_; refine zU rfl rfl rfl ?_; refine zU rfl rfl rfl ?_; refine zU rfl rfl rfl ?_; refine zs rfl rfl (bF h1) ?_; refine w_r (v := .bool _) (fun _ => zF (bF h1) rfl) rfl rfl ?_; refine aB rfl ?_; refine yB ?_; refine ze ?_
    refine zo (v := .bool _) rfl rfl rfl ?_; exact fun w' hw => ⟨by first | (exfalso; omega) | rw [atP_out (by omega)] | (rw [atP_in (by omega), blank_int]; done) | (rw [atP_in (by omega), blank_int]; simp [*]; done) | (rw [atP_in (by omega), blank_int]; congr 1; simp_all; done), hw.fr _ (.head _)⟩

set_option maxRecDepth 100000 in
set_option maxHeartbeats 400000 in
theorem ris_spec (s : List UInt8) (i : Nat) (b : UInt8) (hs : s.length ≤ 10000000) (hi : i ≤ 20000000) (w : World) :
    Ret Tryz.prog 128 #[str s, .int .i64 (i : Nat), .int .u8 (b.toNat : Nat)] w (fun v w' => v = .bool (atP (eqB b) s i) ∧ Ext w w') := by
  refine enter (S := No) (l := [_, _, _]) (L := []) 18 Tryz.func128 rfl rfl rfl (St.start w No) ?_; refine yA ?_; refine aB rfl ?_; refine yC ?_; refine mI rfl ?_; refine zm (v := str _) rfl ?_; refine w_r (fun _ => R_slen st9 rfl (by omega)) rfl rfl ?_; refine w_r (fun _ => R_lt rfl rfl) rfl rfl ?_; refine mB rfl ?_; refine zd (t := 11) rfl (fun h1 => ?_) (fun h1 => ?_)
  · refine zw rfl rfl (bT h1) ?_; refine zm (v := str _) rfl ?_; refine zw rfl rfl (bT h1) ?_; refine mI rfl ?_; refine zw rfl rfl (bT h1) ?_; refine w_sidx st9 rfl rfl (by omega) ?_; refine zw rfl rfl (bT h1) ?_; refine mI rfl ?_; refine zw rfl rfl (bT h1) ?_; refine w_r (fun _ => R_eq rfl rfl) rfl rfl ?_; refine w_r (v := .bool _) (fun _ => zT (bT h1) rfl) rfl rfl ?_; refine aB rfl ?_; refine yB ?_; refine ze ?_; refine zo (v := .bool _) rfl rfl rfl ?_; exact fun w' hw => ⟨by first | (exfalso; omega) | rw [atP_out (by omega)] | (rw [atP_in (by omega), eq_int]; done) | (rw [atP_in (by omega), eq_int]; simp [*]; done) | (rw [atP_in (by omega), eq_int]; congr 1; simp_all; done), hw.fr _ (.head _)⟩
  · refine zs rfl rfl (bF h1) ?_; refine zs rfl rfl (bF h1) ?_; refine zs rfl rfl (bF h1) ?_; refine zs rfl rfl (bF h1) ?_; refine zs rfl rfl (bF h1) ?_; refine w_r (v := .bool _) (fun _ => zF (bF h1) rfl) rfl rfl ?_; refine aB rfl ?_; refine yB ?_; refine ze ?_; refine zo (v := .bool _) rfl rfl rfl ?_; exact fun w' hw => ⟨by first | (exfalso; omega) | rw [atP_out (by omega)] | (rw [atP_in (by omega), eq_int]; done) | (rw [atP_in (by omega), eq_int]; simp [*]; done) | (rw [atP_in (by omega), eq_int]; congr 1; simp_all; done), hw.fr _ (.head _)⟩

set_option maxRecDepth 100000 in
set_option maxHeartbeats 400000 in
theorem rdigits_spec (s : List UInt8) (i : Nat) (hs : s.length ≤ 10000000) (hi : i ≤ s.length) (w : World) :
    Ret Tryz.prog 129 #[str s, .int .i64 (i : Nat)] w (fun v w' => v = .int .i64 (runTo digitB s i : Nat) ∧ Ext w w') := by
  refine enter (S := No) (l := [_, _]) (L := []) 11 Tryz.func129 rfl rfl rfl (St.start w No) ?_; refine yA ?_; refine aI rfl ?_; refine yB ?_; refine zq ?_; refine zB ?_; refine c_loop (fun m e B L => ∃ (k : Nat), e 0 = str s ∧ e 1 = .int .i64 (k : Nat) ∧ B = [(w, No)] ∧ L = [] ∧ k ≤ s.length ∧ runTo digitB s k = runTo digitB s i ∧ m = s.length - k) _ ⟨i, rfl, rfl, rfl, rfl, hi, rfl, rfl⟩ ?_
  rintro m e B L ⟨k, e0_1, e1_1, rfl, rfl, hk, hr, rfl⟩
  refine zq ?_; refine yA ?_; refine zm (v := str _) e0_1 ?_; refine mI e1_1 ?_; refine zC (fun w => zR Tryz.func112 rfl rfl rfl) rfl rfl (fun w h => rdigit_spec s k hs (by omega) w) ?_; refine yB ?_; refine c_cond rfl (fun h1 => ?_) (fun h1 => ?_)
  · refine zi ?_; refine zk ?_; refine zB ?_; refine zr ?_; refine mI e1_1 ?_; refine w_r (fun _ => R_addi rfl rfl (by omega)) rfl rfl ?_; refine aI rfl ?_; refine zn ?_; refine b_on (?_)
    have hl := atP_lt h1
    exact k_again _ (by omega) ⟨k + 1, e0_1, rfl, rfl, rfl, by omega, by rw [← hr, runTo_step h1], rfl⟩
  · refine c_exit ?_; refine zx (zx (b_here rfl (zk ?_))); refine yA ?_; refine mI e1_1 ?_; refine aI rfl ?_; refine yB ?_; refine ze ?_; refine zo (v := .int _ _) rfl rfl rfl ?_; exact fun w' hw => ⟨by rw [← hr, runTo_stop h1], hw.fr _ (.head _)⟩

set_option maxRecDepth 100000 in
set_option maxHeartbeats 400000 in
theorem rskip_spec (s : List UInt8) (i : Nat) (hs : s.length ≤ 10000000) (hi : i ≤ s.length) (w : World) :
    Ret Tryz.prog 110 #[str s, .int .i64 (i : Nat)] w (fun v w' => v = .int .i64 (skipTo s i : Nat) ∧ Ext w w') := by
  refine enter (S := No) (l := [_, _]) (L := []) 34 Tryz.func110 rfl rfl rfl (St.start w No) ?_; refine yA ?_; refine aI rfl ?_; refine yB ?_; refine zB ?_; refine c_loop (fun m e B L => ∃ (k : Nat), e 0 = str s ∧ e 1 = .int .i64 (k : Nat) ∧ B = [(w, No)] ∧ L = [] ∧ k ≤ s.length ∧ skipTo s k = skipTo s i ∧ m = s.length - k) _ ⟨i, rfl, rfl, rfl, rfl, hi, rfl, rfl⟩ ?_
  rintro m e B L ⟨k, e0_1, e1_1, rfl, rfl, hk, hr, rfl⟩
  refine zB ?_; refine zq ?_; refine yA ?_; refine zm (v := str _) e0_1 ?_; refine mI e1_1 ?_; refine zC (fun w => zR Tryz.func127 rfl rfl rfl) rfl rfl (fun w h => rblank_spec s k hs (by omega) w) ?_; refine yB ?_; refine c_cond rfl (fun h1 => ?_) (fun h1 => ?_)
  · refine yA ?_; refine mI e1_1 ?_; refine w_r (fun _ => R_addi rfl rfl (by omega)) rfl rfl ?_; refine aI rfl ?_; refine yB ?_; refine c_exit ?_; refine zx (b_here rfl (?_))
    have hl := atP_lt h1
    exact k_again _ (by omega) ⟨k + 1, e0_1, rfl, rfl, rfl, by omega, by rw [← hr, skip_blank hl h1], rfl⟩
  · refine zi ?_; refine zk ?_; refine zq ?_; refine yA ?_; refine zm (v := str _) e0_1 ?_; refine mI e1_1 ?_; refine zC (fun w => zR Tryz.func128 rfl rfl rfl) rfl rfl (fun w h => ris_spec s k 47 hs (by omega) w) ?_; refine w_r (fun _ => R_not rfl) rfl rfl ?_; refine mB rfl ?_; refine zp (t := 14) rfl (fun h2 => ?_) (fun h2 => ?_)
    · refine zs rfl rfl (bV h2) ?_; refine zs rfl rfl (bV h2) ?_; refine zs rfl rfl (bV h2) ?_; refine zs rfl rfl (bV h2) ?_; refine zs rfl rfl (bV h2) ?_; refine w_r (v := .bool _) (fun _ => zT (bV h2) rfl) rfl rfl ?_; refine yB ?_; refine zE rfl ?_; refine yA ?_; refine mI e1_1 ?_; refine aI rfl ?_; refine yB ?_; refine ze ?_; refine zt (zb (zt (zb (?_))))
      refine zo (v := .int _ _) rfl rfl rfl ?_; exact fun w' hw => ⟨by rw [← hr, skip_stop hk (by simpa using h1) (by simp_all [cmt])], hw.fr _ (.head _)⟩
    · refine zw rfl rfl (bV h2) ?_; refine zm (v := str _) e0_1 ?_; refine zw rfl rfl (bV h2) ?_; refine mI e1_1 ?_; refine zw rfl rfl (bV h2) ?_; refine w_r (fun _ => R_addi rfl rfl (by omega)) rfl rfl ?_; refine zw rfl rfl (bV h2) ?_; refine zC (fun w => zR Tryz.func128 rfl rfl rfl) rfl rfl (fun w h => ris_spec s (k + 1) 47 hs (by omega) w) ?_; refine zw rfl rfl (bV h2) ?_; refine w_r (fun _ => R_not rfl) rfl rfl ?_; refine w_r (v := .bool _) (fun _ => zF (bV h2) rfl) rfl rfl ?_; refine yB ?_; refine c_condN rfl (fun h3 => ?_) (fun h3 => ?_)
      · refine yA ?_; refine mI e1_1 ?_; refine aI rfl ?_; refine yB ?_; refine ze ?_; refine zt (zb (zt (zb (?_))))
        refine zo (v := .int _ _) rfl rfl rfl ?_; exact fun w' hw => ⟨by rw [← hr, skip_stop hk (by simpa using h1) (by simp_all [cmt])], hw.fr _ (.head _)⟩
      · refine zi ?_; refine zk ?_; refine zB ?_; refine c_loop (fun m e B L => ∃ (q : Nat), e 0 = str s ∧ e 1 = .int .i64 (q : Nat) ∧ B = [(w, No)] ∧ L = [] ∧ k ≤ q ∧ q ≤ s.length ∧ runTo notNl s q = runTo notNl s k ∧ m = s.length - q) _ ⟨k, e0_1, e1_1, rfl, rfl, by omega, hk, rfl, rfl⟩ ?_
        rintro m e B L ⟨q, e0_2, e1_2, rfl, rfl, hkq, hq, hn, rfl⟩
        refine zq ?_; refine yA ?_; refine mI e1_2 ?_; refine zm (v := str _) e0_2 ?_; refine w_r (fun _ => R_slen st9 rfl (by omega)) rfl rfl ?_; refine w_r (fun _ => R_lt rfl rfl) rfl rfl ?_; refine mB rfl ?_; refine zd (t := 26) rfl (fun h4 => ?_) (fun h4 => ?_)
        · refine zw rfl rfl (bT h4) ?_; refine zm (v := str _) e0_2 ?_; refine zw rfl rfl (bT h4) ?_; refine mI e1_2 ?_; refine zw rfl rfl (bT h4) ?_; refine w_sidx st9 rfl rfl (by omega) ?_; refine zw rfl rfl (bT h4) ?_; refine w_r (fun _ => R_ne rfl rfl) rfl rfl ?_; refine w_r (v := .bool _) (fun _ => zT (bT h4) rfl) rfl rfl ?_; refine yB ?_; refine zD rfl (fun h5 => ?_) (fun h5 => ?_)
          · refine zi ?_; refine zk ?_; refine zB ?_; refine zr ?_; refine mI e1_2 ?_; refine w_r (fun _ => R_addi rfl rfl (by omega)) rfl rfl ?_; refine aI rfl ?_; refine zn ?_; refine b_on (?_)
            exact k_again _ (by omega) ⟨q + 1, e0_2, rfl, rfl, rfl, by omega, by omega, by rw [← hn, runTo_step (show atP notNl s q = true by rw [atP_in (by omega), notNl_int]; simp; omega)], rfl⟩
          · refine c_exit ?_; refine zx (zx (b_here rfl (b_on (?_))))
            have hc : cmt s k = true := by simp_all [cmt]
            have hc2 := cmt_run hc
            have hx : atP notNl s q = false := by rw [atP_in (by omega), notNl_int]; simp; omega
            rw [runTo_stop hx] at hn
            exact k_again _ (by omega) ⟨q, e0_2, e1_2, rfl, rfl, by omega, by rw [← hr, skip_cmt hk (by simpa using h1) hc, ← hn], rfl⟩
        · refine zs rfl rfl (bF h4) ?_; refine zs rfl rfl (bF h4) ?_; refine zs rfl rfl (bF h4) ?_; refine zs rfl rfl (bF h4) ?_; refine w_r (v := .bool _) (fun _ => zF (bF h4) rfl) rfl rfl ?_; refine yB ?_; refine c_condF rfl ?_; refine c_exit ?_; refine zx (zx (b_here rfl (b_on (?_))))
          have hc : cmt s k = true := by simp_all [cmt]
          have hc2 := cmt_run hc
          have hx : atP notNl s q = false := atP_out (by omega)
          rw [runTo_stop hx] at hn
          exact k_again _ (by omega) ⟨q, e0_2, e1_2, rfl, rfl, by omega, by rw [← hr, skip_cmt hk (by simpa using h1) hc, ← hn], rfl⟩

set_option maxRecDepth 100000 in
set_option maxHeartbeats 400000 in
theorem rnumber_spec (s : List UInt8) (i : Nat) (hs : s.length ≤ 10000000) (hi : i ≤ s.length) (w : World) :
    Ret Tryz.prog 113 #[str s, .int .i64 (i : Nat)] w (fun v w' => v = .tuple #[.int .i64 (numEnd s i : Nat), .bool (numFine s i)] ∧ Ext w w') := by
  have g1 := runTo_le (p := digitB) hi
  have g2 := numDot_le g1
  have g3 := numTens_le g2.1
  have g0 : numEnd s i = (numTens s (numDot s (runTo digitB s i))).2 := rfl
  refine enter (S := No) (l := [_, _]) (L := []) 87 Tryz.func113 rfl rfl rfl (St.start w No) ?_; refine yA ?_; refine aI rfl ?_; refine aB rfl ?_; refine yC ?_; refine zm (v := str _) rfl ?_; refine mI rfl ?_
  have q1 := runTo_le (p := digitB) (s := s) (i := i) (by first | omega | (have := atP_lt (by assumption); omega))
  have q2 := runTo_ge digitB s i
  refine zC (fun w => zR Tryz.func129 rfl rfl rfl) rfl rfl (fun w h => rdigits_spec s i hs (by omega) w) ?_; refine aI rfl ?_; refine yB ?_; refine c_cut (fun e B L => e 0 = str s ∧ e 1 = .int .i64 (numDot s (runTo digitB s i) : Nat) ∧ B = [(w, No)] ∧ L = []) ?_ ?_
  · refine yA ?_; refine zm (v := str _) rfl ?_; refine mI rfl ?_; refine zC (fun w => zR Tryz.func128 rfl rfl rfl) rfl rfl (fun w h => ris_spec s (runTo digitB s i) 46 hs (by omega) w) ?_; refine mB rfl ?_; refine zp (t := 13) rfl (fun h1 => ?_) (fun h1 => ?_)
    · refine zw rfl rfl (bV h1) ?_; refine zm (v := str _) rfl ?_; refine zw rfl rfl (bV h1) ?_; refine mI rfl ?_; refine zw rfl rfl (bV h1) ?_; refine w_r (fun _ => R_addi rfl rfl (by omega)) rfl rfl ?_; refine zw rfl rfl (bV h1) ?_; refine zC (fun w => zR Tryz.func112 rfl rfl rfl) rfl rfl (fun w h => rdigit_spec s ((runTo digitB s i) + 1) hs (by omega) w) ?_; refine w_r (v := .bool _) (fun _ => zT (bV h1) rfl) rfl rfl ?_; refine yB ?_; refine c_cond rfl (fun h2 => ?_) (fun h2 => ?_)
      · refine zr ?_; refine zm (v := str _) rfl ?_; refine mI rfl ?_; refine w_r (fun _ => R_addi rfl rfl (by omega)) rfl rfl ?_
        have q1 := runTo_le (p := digitB) (s := s) (i := ((runTo digitB s i) + 1)) (by first | omega | (have := atP_lt (by assumption); omega))
        have q2 := runTo_ge digitB s ((runTo digitB s i) + 1)
        refine zC (fun w => zR Tryz.func129 rfl rfl rfl) rfl rfl (fun w h => rdigits_spec s ((runTo digitB s i) + 1) hs (by omega) w) ?_; refine aI rfl ?_; refine zn ?_
        have hd : numDot s (runTo digitB s i) = runTo digitB s (runTo digitB s i + 1) := by simp [numDot, h1, h2]
        exact k_mid ⟨rfl, by rw [hd]; rfl, rfl, rfl⟩
      · refine zi ?_
        have hd : numDot s (runTo digitB s i) = runTo digitB s i := by simp [numDot, h2]
        exact k_mid ⟨rfl, by rw [hd]; rfl, rfl, rfl⟩
    · refine zs rfl rfl (bV h1) ?_; refine zs rfl rfl (bV h1) ?_; refine zs rfl rfl (bV h1) ?_; refine zs rfl rfl (bV h1) ?_; refine w_r (v := .bool _) (fun _ => zF (bV h1) rfl) rfl rfl ?_; refine yB ?_; refine c_condF rfl ?_; refine zi ?_
      have hd : numDot s (runTo digitB s i) = runTo digitB s i := by simp [numDot, h1]
      exact k_mid ⟨rfl, by rw [hd]; rfl, rfl, rfl⟩
  rintro e B L ⟨e0_1, e1_1, rfl, rfl⟩
  refine yA ?_; refine mI e1_1 ?_; refine aI rfl ?_; refine yB ?_; refine c_cut (fun e B L => ∃ (q : Nat), e 0 = str s ∧ e 1 = .int .i64 (numEnd s i : Nat) ∧ e 6 = .int .i64 (q : Nat) ∧ B = [(w, No)] ∧ L = [] ∧ q ≤ numEnd s i ∧ (numTens s (numDot s (runTo digitB s i))).1 = numEnd s i - q) ?_ ?_
  · refine yA ?_; refine zm (v := str _) e0_1 ?_; refine mI e1_1 ?_; refine zC (fun w => zR Tryz.func128 rfl rfl rfl) rfl rfl (fun w h => ris_spec s (numDot s (runTo digitB s i)) 101 hs (by omega) w) ?_; refine mB rfl ?_; refine zp (t := 27) rfl (fun h3 => ?_) (fun h3 => ?_)
    · refine zw rfl rfl (bV h3) ?_; refine zm (v := str _) e0_1 ?_; refine zw rfl rfl (bV h3) ?_; refine mI e1_1 ?_; refine zw rfl rfl (bV h3) ?_; refine w_r (fun _ => R_addi rfl rfl (by omega)) rfl rfl ?_; refine zw rfl rfl (bV h3) ?_; refine zC (fun w => zR Tryz.func112 rfl rfl rfl) rfl rfl (fun w h => rdigit_spec s ((numDot s (runTo digitB s i)) + 1) hs (by omega) w) ?_; refine w_r (v := .bool _) (fun _ => zT (bV h3) rfl) rfl rfl ?_; refine yB ?_; refine c_cond rfl (fun h4 => ?_) (fun h4 => ?_)
      · refine yA ?_; refine mI e1_1 ?_; refine w_r (fun _ => R_addi rfl rfl (by omega)) rfl rfl ?_; refine aI rfl ?_; refine yB ?_; refine zr ?_; refine zm (v := str _) e0_1 ?_; refine mI rfl ?_
        have q1 := runTo_le (p := digitB) (s := s) (i := ((numDot s (runTo digitB s i)) + 1)) (by first | omega | (have := atP_lt (by assumption); omega))
        have q2 := runTo_ge digitB s ((numDot s (runTo digitB s i)) + 1)
        refine zC (fun w => zR Tryz.func129 rfl rfl rfl) rfl rfl (fun w h => rdigits_spec s ((numDot s (runTo digitB s i)) + 1) hs (by omega) w) ?_; refine aI rfl ?_; refine zn ?_
        have hT : numTens s (numDot s (runTo digitB s i)) = (runTo digitB s ((numDot s (runTo digitB s i)) + 1) - ((numDot s (runTo digitB s i)) + 1), runTo digitB s ((numDot s (runTo digitB s i)) + 1)) := by simp_all [numTens, at_pm]
        exact k_mid ⟨((numDot s (runTo digitB s i)) + 1), e0_1, by rw [g0, hT]; rfl, rfl, rfl, rfl, by rw [g0, hT]; exact runTo_ge _ _ _, by rw [g0, hT]⟩
      · refine yA ?_; refine zm (v := str _) e0_1 ?_; refine mI e1_1 ?_; refine zC (fun w => zR Tryz.func128 rfl rfl rfl) rfl rfl (fun w h => ris_spec s (numDot s (runTo digitB s i)) 101 hs (by omega) w) ?_; refine mB rfl ?_; refine zp (t := 41) rfl (fun h5 => ?_) (fun h5 => ?_)
        · refine zw rfl rfl (bV h5) ?_; refine zm (v := str _) e0_1 ?_; refine zw rfl rfl (bV h5) ?_; refine mI e1_1 ?_; refine zw rfl rfl (bV h5) ?_; refine w_r (fun _ => R_addi rfl rfl (by omega)) rfl rfl ?_; refine zw rfl rfl (bV h5) ?_; refine zC (fun w => zR Tryz.func128 rfl rfl rfl) rfl rfl (fun w h => ris_spec s ((numDot s (runTo digitB s i)) + 1) 43 hs (by omega) w) ?_; refine zw rfl rfl (bV h5) ?_; refine mB rfl ?_; refine zp (t := 46) rfl (fun h6 => ?_) (fun h6 => ?_)
          · refine zs rfl rfl (bV h6) ?_; refine zs rfl rfl (bV h6) ?_; refine zs rfl rfl (bV h6) ?_; refine zs rfl rfl (bV h6) ?_; refine zw rfl rfl (bV h5) ?_; refine w_r (v := .bool _) (fun _ => zT (bV h6) rfl) rfl rfl ?_; refine w_r (v := .bool _) (fun _ => zT (bV h5) rfl) rfl rfl ?_; refine mB rfl ?_; refine zw rfl rfl rfl ?_; refine zm (v := str _) e0_1 ?_; refine zw rfl rfl rfl ?_; refine mI e1_1 ?_; refine zw rfl rfl rfl ?_; refine w_r (fun _ => R_addi rfl rfl (by omega)) rfl rfl ?_; refine zw rfl rfl rfl ?_; refine zC (fun w => zR Tryz.func112 rfl rfl rfl) rfl rfl (fun w h => rdigit_spec s ((numDot s (runTo digitB s i)) + 2) hs (by omega) w) ?_; refine w_r (v := .bool _) (fun _ => zT rfl rfl) rfl rfl ?_; refine yB ?_
            refine c_cond rfl (fun h7 => ?_) (fun h7 => ?_)
            · refine yA ?_; refine mI e1_1 ?_; refine w_r (fun _ => R_addi rfl rfl (by omega)) rfl rfl ?_; refine aI rfl ?_; refine yB ?_; refine zr ?_; refine zm (v := str _) e0_1 ?_; refine mI rfl ?_
              have q1 := runTo_le (p := digitB) (s := s) (i := ((numDot s (runTo digitB s i)) + 2)) (by first | omega | (have := atP_lt (by assumption); omega))
              have q2 := runTo_ge digitB s ((numDot s (runTo digitB s i)) + 2)
              refine zC (fun w => zR Tryz.func129 rfl rfl rfl) rfl rfl (fun w h => rdigits_spec s ((numDot s (runTo digitB s i)) + 2) hs (by omega) w) ?_; refine aI rfl ?_; refine zn ?_
              have hT : numTens s (numDot s (runTo digitB s i)) = (runTo digitB s ((numDot s (runTo digitB s i)) + 2) - ((numDot s (runTo digitB s i)) + 2), runTo digitB s ((numDot s (runTo digitB s i)) + 2)) := by simp_all [numTens, at_pm]
              exact k_mid ⟨((numDot s (runTo digitB s i)) + 2), e0_1, by rw [g0, hT]; rfl, rfl, rfl, rfl, by rw [g0, hT]; exact runTo_ge _ _ _, by rw [g0, hT]⟩
            · refine zi ?_
              have hT : numTens s (numDot s (runTo digitB s i)) = (0, (numDot s (runTo digitB s i))) := by simp_all [numTens, at_pm]
              exact k_mid ⟨(numDot s (runTo digitB s i)), e0_1, by rw [g0, hT]; exact e1_1, rfl, rfl, rfl, by rw [g0, hT]; exact Nat.le_refl _, by rw [g0, hT]; simp⟩
          · refine zw rfl rfl (bV h6) ?_; refine zm (v := str _) e0_1 ?_; refine zw rfl rfl (bV h6) ?_; refine mI e1_1 ?_; refine zw rfl rfl (bV h6) ?_; refine w_r (fun _ => R_addi rfl rfl (by omega)) rfl rfl ?_; refine zw rfl rfl (bV h6) ?_; refine zC (fun w => zR Tryz.func128 rfl rfl rfl) rfl rfl (fun w h => ris_spec s ((numDot s (runTo digitB s i)) + 1) 45 hs (by omega) w) ?_; refine zw rfl rfl (bV h5) ?_; refine w_r (v := .bool _) (fun _ => zF (bV h6) rfl) rfl rfl ?_; refine w_r (v := .bool _) (fun _ => zT (bV h5) rfl) rfl rfl ?_; refine mB rfl ?_; refine zp (t := 53) rfl (fun h8 => ?_) (fun h8 => ?_)
            · refine zw rfl rfl (bV h8) ?_; refine zm (v := str _) e0_1 ?_; refine zw rfl rfl (bV h8) ?_; refine mI e1_1 ?_; refine zw rfl rfl (bV h8) ?_; refine w_r (fun _ => R_addi rfl rfl (by omega)) rfl rfl ?_; refine zw rfl rfl (bV h8) ?_; refine zC (fun w => zR Tryz.func112 rfl rfl rfl) rfl rfl (fun w h => rdigit_spec s ((numDot s (runTo digitB s i)) + 2) hs (by omega) w) ?_; refine w_r (v := .bool _) (fun _ => zT (bV h8) rfl) rfl rfl ?_; refine yB ?_; refine c_cond rfl (fun h9 => ?_) (fun h9 => ?_)
              · refine yA ?_; refine mI e1_1 ?_; refine w_r (fun _ => R_addi rfl rfl (by omega)) rfl rfl ?_; refine aI rfl ?_; refine yB ?_; refine zr ?_; refine zm (v := str _) e0_1 ?_; refine mI rfl ?_
                have q1 := runTo_le (p := digitB) (s := s) (i := ((numDot s (runTo digitB s i)) + 2)) (by first | omega | (have := atP_lt (by assumption); omega))
                have q2 := runTo_ge digitB s ((numDot s (runTo digitB s i)) + 2)
                refine zC (fun w => zR Tryz.func129 rfl rfl rfl) rfl rfl (fun w h => rdigits_spec s ((numDot s (runTo digitB s i)) + 2) hs (by omega) w) ?_; refine aI rfl ?_; refine zn ?_
                have hT : numTens s (numDot s (runTo digitB s i)) = (runTo digitB s ((numDot s (runTo digitB s i)) + 2) - ((numDot s (runTo digitB s i)) + 2), runTo digitB s ((numDot s (runTo digitB s i)) + 2)) := by simp_all [numTens, at_pm]
                exact k_mid ⟨((numDot s (runTo digitB s i)) + 2), e0_1, by rw [g0, hT]; rfl, rfl, rfl, rfl, by rw [g0, hT]; exact runTo_ge _ _ _, by rw [g0, hT]⟩
              · refine zi ?_
                have hT : numTens s (numDot s (runTo digitB s i)) = (0, (numDot s (runTo digitB s i))) := by simp_all [numTens, at_pm]
                exact k_mid ⟨(numDot s (runTo digitB s i)), e0_1, by rw [g0, hT]; exact e1_1, rfl, rfl, rfl, by rw [g0, hT]; exact Nat.le_refl _, by rw [g0, hT]; simp⟩
            · refine zs rfl rfl (bV h8) ?_; refine zs rfl rfl (bV h8) ?_; refine zs rfl rfl (bV h8) ?_; refine zs rfl rfl (bV h8) ?_; refine w_r (v := .bool _) (fun _ => zF (bV h8) rfl) rfl rfl ?_; refine yB ?_; refine c_condF rfl ?_; refine zi ?_
              have hT : numTens s (numDot s (runTo digitB s i)) = (0, (numDot s (runTo digitB s i))) := by simp_all [numTens, at_pm]
              exact k_mid ⟨(numDot s (runTo digitB s i)), e0_1, by rw [g0, hT]; exact e1_1, rfl, rfl, rfl, by rw [g0, hT]; exact Nat.le_refl _, by rw [g0, hT]; simp⟩
        · refine zs rfl rfl (bV h5) ?_; refine zs rfl rfl (bV h5) ?_; refine zs rfl rfl (bV h5) ?_; refine zs rfl rfl (bV h5) ?_; refine zs rfl rfl (bV h5) ?_; refine zU rfl rfl rfl ?_; refine zU rfl rfl rfl ?_; refine zU rfl rfl rfl ?_; refine zU rfl rfl rfl ?_; refine zs rfl rfl (bV h5) ?_; refine w_r (v := .bool _) (fun _ => zF (bV h5) rfl) rfl rfl ?_; refine mB rfl ?_; refine zs rfl rfl rfl ?_; refine zs rfl rfl rfl ?_; refine zs rfl rfl rfl ?_; refine zs rfl rfl rfl ?_; refine w_r (v := .bool _) (fun _ => zF rfl rfl) rfl rfl ?_; refine yB ?_; refine c_condF rfl ?_; refine zi ?_
          have hT : numTens s (numDot s (runTo digitB s i)) = (0, (numDot s (runTo digitB s i))) := by simp_all [numTens, at_pm]
          exact k_mid ⟨(numDot s (runTo digitB s i)), e0_1, by rw [g0, hT]; exact e1_1, rfl, rfl, rfl, by rw [g0, hT]; exact Nat.le_refl _, by rw [g0, hT]; simp⟩
    · refine zs rfl rfl (bV h3) ?_; refine zs rfl rfl (bV h3) ?_; refine zs rfl rfl (bV h3) ?_; refine zs rfl rfl (bV h3) ?_; refine w_r (v := .bool _) (fun _ => zF (bV h3) rfl) rfl rfl ?_; refine yB ?_; refine c_condF rfl ?_; refine yA ?_; refine zm (v := str _) e0_1 ?_; refine mI e1_1 ?_; refine zC (fun w => zR Tryz.func128 rfl rfl rfl) rfl rfl (fun w h => ris_spec s (numDot s (runTo digitB s i)) 101 hs (by omega) w) ?_; refine mB rfl ?_; refine zp (t := 41) rfl (fun h10 => ?_) (fun h10 => ?_)
      · refine zw rfl rfl (bV h10) ?_; refine zm (v := str _) e0_1 ?_; refine zw rfl rfl (bV h10) ?_; refine mI e1_1 ?_; refine zw rfl rfl (bV h10) ?_; refine w_r (fun _ => R_addi rfl rfl (by omega)) rfl rfl ?_; refine zw rfl rfl (bV h10) ?_; refine zC (fun w => zR Tryz.func128 rfl rfl rfl) rfl rfl (fun w h => ris_spec s ((numDot s (runTo digitB s i)) + 1) 43 hs (by omega) w) ?_; refine zw rfl rfl (bV h10) ?_; refine mB rfl ?_; refine zp (t := 46) rfl (fun h11 => ?_) (fun h11 => ?_)
        · refine zs rfl rfl (bV h11) ?_; refine zs rfl rfl (bV h11) ?_; refine zs rfl rfl (bV h11) ?_; refine zs rfl rfl (bV h11) ?_; refine zw rfl rfl (bV h10) ?_; refine w_r (v := .bool _) (fun _ => zT (bV h11) rfl) rfl rfl ?_; refine w_r (v := .bool _) (fun _ => zT (bV h10) rfl) rfl rfl ?_; refine mB rfl ?_; refine zw rfl rfl rfl ?_; refine zm (v := str _) e0_1 ?_; refine zw rfl rfl rfl ?_; refine mI e1_1 ?_; refine zw rfl rfl rfl ?_; refine w_r (fun _ => R_addi rfl rfl (by omega)) rfl rfl ?_; refine zw rfl rfl rfl ?_; refine zC (fun w => zR Tryz.func112 rfl rfl rfl) rfl rfl (fun w h => rdigit_spec s ((numDot s (runTo digitB s i)) + 2) hs (by omega) w) ?_; refine w_r (v := .bool _) (fun _ => zT rfl rfl) rfl rfl ?_; refine yB ?_
          refine c_cond rfl (fun h12 => ?_) (fun h12 => ?_)
          · refine yA ?_; refine mI e1_1 ?_; refine w_r (fun _ => R_addi rfl rfl (by omega)) rfl rfl ?_; refine aI rfl ?_; refine yB ?_; refine zr ?_; refine zm (v := str _) e0_1 ?_; refine mI rfl ?_
            have q1 := runTo_le (p := digitB) (s := s) (i := ((numDot s (runTo digitB s i)) + 2)) (by first | omega | (have := atP_lt (by assumption); omega))
            have q2 := runTo_ge digitB s ((numDot s (runTo digitB s i)) + 2)
            refine zC (fun w => zR Tryz.func129 rfl rfl rfl) rfl rfl (fun w h => rdigits_spec s ((numDot s (runTo digitB s i)) + 2) hs (by omega) w) ?_; refine aI rfl ?_; refine zn ?_
            have hT : numTens s (numDot s (runTo digitB s i)) = (runTo digitB s ((numDot s (runTo digitB s i)) + 2) - ((numDot s (runTo digitB s i)) + 2), runTo digitB s ((numDot s (runTo digitB s i)) + 2)) := by simp_all [numTens, at_pm]
            exact k_mid ⟨((numDot s (runTo digitB s i)) + 2), e0_1, by rw [g0, hT]; rfl, rfl, rfl, rfl, by rw [g0, hT]; exact runTo_ge _ _ _, by rw [g0, hT]⟩
          · refine zi ?_
            have hT : numTens s (numDot s (runTo digitB s i)) = (0, (numDot s (runTo digitB s i))) := by simp_all [numTens, at_pm]
            exact k_mid ⟨(numDot s (runTo digitB s i)), e0_1, by rw [g0, hT]; exact e1_1, rfl, rfl, rfl, by rw [g0, hT]; exact Nat.le_refl _, by rw [g0, hT]; simp⟩
        · refine zw rfl rfl (bV h11) ?_; refine zm (v := str _) e0_1 ?_; refine zw rfl rfl (bV h11) ?_; refine mI e1_1 ?_; refine zw rfl rfl (bV h11) ?_; refine w_r (fun _ => R_addi rfl rfl (by omega)) rfl rfl ?_; refine zw rfl rfl (bV h11) ?_; refine zC (fun w => zR Tryz.func128 rfl rfl rfl) rfl rfl (fun w h => ris_spec s ((numDot s (runTo digitB s i)) + 1) 45 hs (by omega) w) ?_; refine zw rfl rfl (bV h10) ?_; refine w_r (v := .bool _) (fun _ => zF (bV h11) rfl) rfl rfl ?_; refine w_r (v := .bool _) (fun _ => zT (bV h10) rfl) rfl rfl ?_; refine mB rfl ?_; refine zp (t := 53) rfl (fun h13 => ?_) (fun h13 => ?_)
          · refine zw rfl rfl (bV h13) ?_; refine zm (v := str _) e0_1 ?_; refine zw rfl rfl (bV h13) ?_; refine mI e1_1 ?_; refine zw rfl rfl (bV h13) ?_; refine w_r (fun _ => R_addi rfl rfl (by omega)) rfl rfl ?_; refine zw rfl rfl (bV h13) ?_; refine zC (fun w => zR Tryz.func112 rfl rfl rfl) rfl rfl (fun w h => rdigit_spec s ((numDot s (runTo digitB s i)) + 2) hs (by omega) w) ?_; refine w_r (v := .bool _) (fun _ => zT (bV h13) rfl) rfl rfl ?_; refine yB ?_; refine c_cond rfl (fun h14 => ?_) (fun h14 => ?_)
            · refine yA ?_; refine mI e1_1 ?_; refine w_r (fun _ => R_addi rfl rfl (by omega)) rfl rfl ?_; refine aI rfl ?_; refine yB ?_; refine zr ?_; refine zm (v := str _) e0_1 ?_; refine mI rfl ?_
              have q1 := runTo_le (p := digitB) (s := s) (i := ((numDot s (runTo digitB s i)) + 2)) (by first | omega | (have := atP_lt (by assumption); omega))
              have q2 := runTo_ge digitB s ((numDot s (runTo digitB s i)) + 2)
              refine zC (fun w => zR Tryz.func129 rfl rfl rfl) rfl rfl (fun w h => rdigits_spec s ((numDot s (runTo digitB s i)) + 2) hs (by omega) w) ?_; refine aI rfl ?_; refine zn ?_
              have hT : numTens s (numDot s (runTo digitB s i)) = (runTo digitB s ((numDot s (runTo digitB s i)) + 2) - ((numDot s (runTo digitB s i)) + 2), runTo digitB s ((numDot s (runTo digitB s i)) + 2)) := by simp_all [numTens, at_pm]
              exact k_mid ⟨((numDot s (runTo digitB s i)) + 2), e0_1, by rw [g0, hT]; rfl, rfl, rfl, rfl, by rw [g0, hT]; exact runTo_ge _ _ _, by rw [g0, hT]⟩
            · refine zi ?_
              have hT : numTens s (numDot s (runTo digitB s i)) = (0, (numDot s (runTo digitB s i))) := by simp_all [numTens, at_pm]
              exact k_mid ⟨(numDot s (runTo digitB s i)), e0_1, by rw [g0, hT]; exact e1_1, rfl, rfl, rfl, by rw [g0, hT]; exact Nat.le_refl _, by rw [g0, hT]; simp⟩
          · refine zs rfl rfl (bV h13) ?_; refine zs rfl rfl (bV h13) ?_; refine zs rfl rfl (bV h13) ?_; refine zs rfl rfl (bV h13) ?_; refine w_r (v := .bool _) (fun _ => zF (bV h13) rfl) rfl rfl ?_; refine yB ?_; refine c_condF rfl ?_; refine zi ?_
            have hT : numTens s (numDot s (runTo digitB s i)) = (0, (numDot s (runTo digitB s i))) := by simp_all [numTens, at_pm]
            exact k_mid ⟨(numDot s (runTo digitB s i)), e0_1, by rw [g0, hT]; exact e1_1, rfl, rfl, rfl, by rw [g0, hT]; exact Nat.le_refl _, by rw [g0, hT]; simp⟩
      · refine zs rfl rfl (bV h10) ?_; refine zs rfl rfl (bV h10) ?_; refine zs rfl rfl (bV h10) ?_; refine zs rfl rfl (bV h10) ?_; refine zs rfl rfl (bV h10) ?_; refine zU rfl rfl rfl ?_; refine zU rfl rfl rfl ?_; refine zU rfl rfl rfl ?_; refine zU rfl rfl rfl ?_; refine zs rfl rfl (bV h10) ?_; refine w_r (v := .bool _) (fun _ => zF (bV h10) rfl) rfl rfl ?_; refine mB rfl ?_; refine zs rfl rfl rfl ?_; refine zs rfl rfl rfl ?_; refine zs rfl rfl rfl ?_; refine zs rfl rfl rfl ?_; refine w_r (v := .bool _) (fun _ => zF rfl rfl) rfl rfl ?_; refine yB ?_; refine c_condF rfl ?_; refine zi ?_
        have hT : numTens s (numDot s (runTo digitB s i)) = (0, (numDot s (runTo digitB s i))) := by simp_all [numTens, at_pm]
        exact k_mid ⟨(numDot s (runTo digitB s i)), e0_1, by rw [g0, hT]; exact e1_1, rfl, rfl, rfl, by rw [g0, hT]; exact Nat.le_refl _, by rw [g0, hT]; simp⟩
  rintro e B L ⟨q, e0_2, e1_2, e6_2, rfl, rfl, hq, hf⟩
  refine yA ?_; refine mI e1_2 ?_; refine mI e1_2 ?_; refine mI e6_2 ?_; refine w_r (fun _ => R_subi rfl rfl (by omega)) rfl rfl ?_; refine w_r (fun _ => R_le rfl rfl) rfl rfl ?_; refine mB rfl ?_; refine zd (t := 69) rfl (fun h15 => ?_) (fun h15 => ?_)
  · refine zw rfl rfl (bT h15) ?_; refine zm (v := str _) e0_2 ?_; refine zw rfl rfl (bT h15) ?_; refine mI e1_2 ?_; refine zw rfl rfl (bT h15) ?_; refine zC (fun w => zR Tryz.func111 rfl rfl rfl) rfl rfl (fun w h => rletter_spec s (numEnd s i) hs (by omega) w) ?_; refine zw rfl rfl (bT h15) ?_; refine w_r (fun _ => R_not rfl) rfl rfl ?_; refine w_r (v := .bool _) (fun _ => zT (bT h15) rfl) rfl rfl ?_; refine mB rfl ?_; refine zp (t := 75) rfl (fun h16 => ?_) (fun h16 => ?_)
    · refine zw rfl rfl (bV h16) ?_; refine zm (v := str _) e0_2 ?_; refine zw rfl rfl (bV h16) ?_; refine mI e1_2 ?_; refine zw rfl rfl (bV h16) ?_; refine zC (fun w => zR Tryz.func112 rfl rfl rfl) rfl rfl (fun w h => rdigit_spec s (numEnd s i) hs (by omega) w) ?_; refine zw rfl rfl (bV h16) ?_; refine w_r (fun _ => R_not rfl) rfl rfl ?_; refine w_r (v := .bool _) (fun _ => zT (bV h16) rfl) rfl rfl ?_; refine mB rfl ?_; refine zp (t := 81) rfl (fun h17 => ?_) (fun h17 => ?_)
      · refine zw rfl rfl (bV h17) ?_; refine zm (v := str _) e0_2 ?_; refine zw rfl rfl (bV h17) ?_; refine mI e1_2 ?_; refine zw rfl rfl (bV h17) ?_; refine zC (fun w => zR Tryz.func128 rfl rfl rfl) rfl rfl (fun w h => ris_spec s (numEnd s i) 46 hs (by omega) w) ?_; refine zw rfl rfl (bV h17) ?_; refine w_r (fun _ => R_not rfl) rfl rfl ?_; refine w_r (v := .bool _) (fun _ => zT (bV h17) rfl) rfl rfl ?_; refine aI rfl ?_; refine aB rfl ?_; refine yB ?_; refine ze ?_
        have hx : decide (numEnd s i - q ≤ 4) = decide (((numEnd s i : Nat) : Int) - (q : Int) ≤ 4) := by congr 1; apply propext; omega
        refine r_two (v := .int _ _) (v2 := .bool _) rfl rfl rfl rfl rfl ?_; exact fun w' hw => ⟨by rw [numFine, hf, at_tail, hx]; clear hx hf g0 g3; first | (simp_all; done) | (simp_all; intros; omega), hw.fr _ (.head _)⟩
      · refine zs rfl rfl (bV h17) ?_; refine zs rfl rfl (bV h17) ?_; refine zs rfl rfl (bV h17) ?_; refine zs rfl rfl (bV h17) ?_; refine w_r (v := .bool _) (fun _ => zF (bV h17) rfl) rfl rfl ?_; refine aI rfl ?_; refine aB rfl ?_; refine yB ?_; refine ze ?_
        have hx : decide (numEnd s i - q ≤ 4) = decide (((numEnd s i : Nat) : Int) - (q : Int) ≤ 4) := by congr 1; apply propext; omega
        refine r_two (v := .int _ _) (v2 := .bool _) rfl rfl rfl rfl rfl ?_; exact fun w' hw => ⟨by rw [numFine, hf, at_tail, hx]; clear hx hf g0 g3; first | (simp_all; done) | (simp_all; intros; omega), hw.fr _ (.head _)⟩
    · refine zs rfl rfl (bV h16) ?_; refine zs rfl rfl (bV h16) ?_; refine zs rfl rfl (bV h16) ?_; refine zs rfl rfl (bV h16) ?_; refine w_r (v := .bool _) (fun _ => zF (bV h16) rfl) rfl rfl ?_; refine mB rfl ?_; refine zs rfl rfl rfl ?_; refine zs rfl rfl rfl ?_; refine zs rfl rfl rfl ?_; refine zs rfl rfl rfl ?_; refine w_r (v := .bool _) (fun _ => zF rfl rfl) rfl rfl ?_; refine aI rfl ?_; refine aB rfl ?_; refine yB ?_; refine ze ?_
      have hx : decide (numEnd s i - q ≤ 4) = decide (((numEnd s i : Nat) : Int) - (q : Int) ≤ 4) := by congr 1; apply propext; omega
      refine r_two (v := .int _ _) (v2 := .bool _) rfl rfl rfl rfl rfl ?_; exact fun w' hw => ⟨by rw [numFine, hf, at_tail, hx]; clear hx hf g0 g3; first | (simp_all; done) | (simp_all; intros; omega), hw.fr _ (.head _)⟩
  · refine zs rfl rfl (bF h15) ?_; refine zs rfl rfl (bF h15) ?_; refine zs rfl rfl (bF h15) ?_; refine zs rfl rfl (bF h15) ?_; refine w_r (v := .bool _) (fun _ => zF (bF h15) rfl) rfl rfl ?_; refine mB rfl ?_; refine zs rfl rfl rfl ?_; refine zs rfl rfl rfl ?_; refine zs rfl rfl rfl ?_; refine zs rfl rfl rfl ?_; refine w_r (v := .bool _) (fun _ => zF rfl rfl) rfl rfl ?_; refine mB rfl ?_; refine zs rfl rfl rfl ?_; refine zs rfl rfl rfl ?_; refine zs rfl rfl rfl ?_; refine zs rfl rfl rfl ?_; refine w_r (v := .bool _) (fun _ => zF rfl rfl) rfl rfl ?_; refine aI rfl ?_; refine aB rfl ?_; refine yB ?_; refine ze ?_
    have hx : decide (numEnd s i - q ≤ 4) = decide (((numEnd s i : Nat) : Int) - (q : Int) ≤ 4) := by congr 1; apply propext; omega
    refine r_two (v := .int _ _) (v2 := .bool _) rfl rfl rfl rfl rfl ?_; exact fun w' hw => ⟨by rw [numFine, hf, at_tail, hx]; clear hx hf g0 g3; first | (simp_all; done) | (simp_all; intros; omega), hw.fr _ (.head _)⟩

set_option maxRecDepth 100000 in
set_option maxHeartbeats 400000 in
theorem rsign_spec (s : List UInt8) (i : Nat) (hs : s.length ≤ 10000000) (hi : i < s.length) (w : World) :
    Ret Tryz.prog 114 #[str s, .int .i64 (i : Nat)] w (fun v w' => v = .int .i64 (signLen s i : Nat) ∧ Ext w w') := by
  refine enter (S := No) (l := [_, _]) (L := []) 46 Tryz.func114 rfl rfl rfl (St.start w No) ?_; refine yA ?_; refine aI rfl ?_; refine yC ?_; refine zS slt55 (by decide) rfl rfl (fun fb gfb ufb => ?_)
  refine za (v := .slice _ _ _) rfl ?_; refine yB ?_; refine zq ?_; refine yA ?_; refine aI rfl ?_; refine yB ?_; refine zB ?_; refine c_loop (fun m e B L => ∃ (k : Nat), e 0 = str s ∧ e 1 = .int .i64 (i : Nat) ∧ e 5 = .slice (some ⟨fb, 0, none⟩) 5 5 ∧ e 6 = .int .i64 (k : Nat) ∧ B = [(w, No)] ∧ L = [(fb, cel [str [61, 61], str [33, 61], str [60, 61], str [62, 61], str [43, 61]] 9)] ∧ k ≤ 5 ∧ (signsL.take k).find? (fun t => t.isPrefixOf (s.drop i)) = none ∧ m = 5 - k) _ ⟨0, rfl, rfl, rfl, rfl, rfl, rfl, by omega, rfl, rfl⟩ ?_
  rintro m e B L ⟨k, e0_1, e1_1, e5_1, e6_1, rfl, rfl, hk, hn, rfl⟩
  refine zq ?_; refine yA ?_; refine mI e6_1 ?_; refine mS e5_1 ?_; refine w_r (fun _ => R_len sl55 rfl) rfl rfl ?_; refine w_r (fun _ => R_lt rfl rfl) rfl rfl ?_; refine yB ?_; refine zD rfl (fun h1 => ?_) (fun h1 => ?_)
  · refine zi ?_; refine zk ?_; refine zq ?_; refine zB ?_; refine zq ?_; refine c_draw mixed (by kernel_rfl) ?_; refine mI e1_1 ?_; refine w_r (fun _ => R_addi rfl rfl (by omega)) rfl rfl ?_; refine zm (v := str _) e0_1 ?_; refine w_r (fun _ => R_slen st9 rfl (by omega)) rfl rfl ?_; refine w_r (fun _ => R_le rfl rfl) rfl rfl ?_; refine mB rfl ?_; refine zd (t := 21) rfl (fun h2 => ?_) (fun h2 => ?_)
    · refine zw rfl rfl (bT h2) ?_; refine zm (v := str _) e0_1 ?_; refine zw rfl rfl (bT h2) ?_; refine mI e1_1 ?_; refine zw rfl rfl (bT h2) ?_; refine mI e1_1 ?_; refine zw rfl rfl (bT h2) ?_; refine w_r (fun _ => R_addi rfl rfl (by omega)) rfl rfl ?_; refine zw rfl rfl (bT h2) ?_; refine w_r (fun _ => R_sslN (l := i) (h := (i + 2)) st9 rfl rfl rfl (by omega) (by omega)) rfl rfl ?_; refine zw rfl rfl (bT h2) ?_; refine mS e5_1 ?_; refine zw rfl rfl (bT h2) ?_; refine mI e6_1 ?_; refine zw rfl rfl (bT h2) ?_; refine w_r (fun _ => R_iaN (i := k) sl55 rfl rfl (by first | omega | decide)) rfl rfl ?_; refine zw rfl rfl (bT h2) ?_; refine zl z9 rfl (fun _ h => by first | exact zc 0 rfl rfl h | exact zc 0 rfl (two_at (by omega)) h) ?_
      refine zw rfl rfl (bT h2) ?_; refine w_r (fun _ => R_seq rfl rfl) rfl rfl ?_; refine w_r (v := .bool _) (fun _ => zT (bT h2) rfl) rfl rfl ?_; refine yB ?_; refine zD rfl (fun h3 => ?_) (fun h3 => ?_)
      · refine yA ?_; refine aI rfl ?_; refine yB ?_; refine ze ?_; refine zb (zt (zt (zb (zt (?_)))))
        have r2 := sig_found (by omega) hn (show (signsL.getD k []).isPrefixOf (s.drop i) = true by rw [pre_two _ (sig_two k (by omega)), Bool.and_eq_true, decide_eq_true_eq, decide_eq_true_eq]; rw [show i + 2 - i = 2 by omega] at h3; exact ⟨by omega, h3⟩)
        refine zo (v := .int _ _) rfl rfl rfl ?_; exact fun w' hw => ⟨by rw [r2, sig_two k (by omega)]; rfl, hw.fr _ (.head _)⟩
      · refine zi ?_; refine b_on (zk ?_); refine zr ?_; refine mI e6_1 ?_; refine w_r (fun _ => R_addi rfl rfl (by omega)) rfl rfl ?_; refine aI rfl ?_; refine zn ?_; exact k_again _ (by omega) ⟨k + 1, e0_1, e1_1, e5_1, rfl, rfl, rfl, by omega, sig_step (by omega) hn (by rw [pre_two _ (sig_two k (by omega))]; simp only [Bool.and_eq_false_iff, decide_eq_false_iff_not]; first | exact .inl (by omega) | exact .inr (by rw [show i + 2 - i = 2 by omega] at h3; exact h3)), rfl⟩
    · refine zs rfl rfl (bF h2) ?_; refine zs rfl rfl (bF h2) ?_; refine zs rfl rfl (bF h2) ?_; refine zs rfl rfl (bF h2) ?_; refine zs rfl rfl (bF h2) ?_; refine zs rfl rfl (bF h2) ?_; refine zs rfl rfl (bF h2) ?_; refine zs rfl rfl (bF h2) ?_; refine zs rfl rfl (bF h2) ?_; refine zs rfl rfl (bF h2) ?_; refine w_r (v := .bool _) (fun _ => zF (bF h2) rfl) rfl rfl ?_; refine yB ?_; refine c_condF rfl ?_; refine zi ?_; refine b_on (zk ?_); refine zr ?_; refine mI e6_1 ?_; refine w_r (fun _ => R_addi rfl rfl (by omega)) rfl rfl ?_; refine aI rfl ?_; refine zn ?_
      exact k_again _ (by omega) ⟨k + 1, e0_1, e1_1, e5_1, rfl, rfl, rfl, by omega, sig_step (by omega) hn (by rw [pre_two _ (sig_two k (by omega))]; simp only [Bool.and_eq_false_iff, decide_eq_false_iff_not]; first | exact .inl (by omega) | exact .inr (by rw [show i + 2 - i = 2 by omega] at h3; exact h3)), rfl⟩
  · refine c_exit ?_; refine zx (zx (b_here rfl (zk ?_))); refine yA ?_; refine za (v := str _) rfl ?_; refine yB ?_; refine zq ?_; refine yA ?_; refine aI rfl ?_; refine yB ?_; refine zB ?_
    obtain rfl : k = 5 := by omega
    refine c_loop (fun m e B L => ∃ (k : Nat), e 0 = str s ∧ e 1 = .int .i64 (i : Nat) ∧ e 7 = str oneT ∧ e 8 = .int .i64 (k : Nat) ∧ B = [(w, No)] ∧ L = [(fb, cel [str [61, 61], str [33, 61], str [60, 61], str [62, 61], str [43, 61]] 9)] ∧ k ≤ 17 ∧ (signsL.take (5 + k)).find? (fun t => t.isPrefixOf (s.drop i)) = none ∧ m = 17 - k) _ ⟨0, e0_1, e1_1, rfl, rfl, rfl, rfl, by omega, hn, rfl⟩ ?_
    rintro m e B L ⟨k, e0_2, e1_2, e7_2, e8_2, rfl, rfl, hk, hn, rfl⟩
    have hL : oneT.length = 17 := rfl
    refine zq ?_; refine yA ?_; refine mI e8_2 ?_; refine zm (v := str _) e7_2 ?_; refine w_r (fun _ => R_slen st9 rfl (by omega)) rfl rfl ?_; refine w_r (fun _ => R_lt rfl rfl) rfl rfl ?_; refine yB ?_; refine zD rfl (fun h4 => ?_) (fun h4 => ?_)
    · have hkl : k < oneT.length := by omega
      refine zi ?_; refine zk ?_; refine zq ?_; refine zB ?_; refine zq ?_; refine c_draw mixed (by kernel_rfl) ?_; refine zm (v := str _) e0_2 ?_; refine mI e1_2 ?_; refine w_sidx st9 rfl rfl (by omega) ?_; refine zm (v := str _) e7_2 ?_; refine mI e8_2 ?_; refine w_sidx st9 rfl rfl (by omega) ?_; refine w_r (fun _ => R_eq rfl rfl) rfl rfl ?_; refine yB ?_; refine zD rfl (fun h5 => ?_) (fun h5 => ?_)
      · refine yA ?_; refine aI rfl ?_; refine yB ?_; refine ze ?_; refine zb (zt (zt (zb (zt (?_)))))
        have r2 := sig_found (k := 5 + k) (by omega) hn (by rw [sig_one k (by omega), pre_one _ hi]; simpa [List.getD_eq_getElem?_getD, hkl] using h5)
        refine zo (v := .int _ _) rfl rfl rfl ?_; exact fun w' hw => ⟨by rw [r2, sig_one k (by omega)]; rfl, hw.fr _ (.head _)⟩
      · refine zi ?_; refine b_on (zk ?_); refine zr ?_; refine mI e8_2 ?_; refine w_r (fun _ => R_addi rfl rfl (by omega)) rfl rfl ?_; refine aI rfl ?_; refine zn ?_; exact k_again _ (by omega) ⟨k + 1, e0_2, e1_2, e7_2, rfl, rfl, rfl, by omega, sig_step (k := 5 + k) (by omega) hn (by rw [sig_one k (by omega), pre_one _ hi]; simpa [List.getD_eq_getElem?_getD, hkl] using h5), rfl⟩
    · refine c_exit ?_; refine zx (zx (b_here rfl (zk ?_))); refine yA ?_; refine aI rfl ?_; refine yB ?_; refine ze ?_
      have r2 := sig_none (k := 5 + k) (by omega) hn
      refine zo (v := .int _ _) rfl rfl rfl ?_; exact fun w' hw => ⟨by rw [r2]; rfl, hw.fr _ (.head _)⟩
end Go.Proofs.YtcmcdgkjipnfnaaGreatDoor
end

section
namespace Go.Proofs.YtcmcdgkjipnfnaaGreatDoor
open Go.RowKit Go.Sx
open Go.Tok

set_option maxRecDepth 100000 in
set_option maxHeartbeats 400000 in
theorem rRead_spec (s : List UInt8) (hs : s.length ≤ 10000000) (w : World) :
  Ret Tryz.prog 92 #[str s] w (fun v w' => ∃ W, RdV (readP s) v W ∧ New w w' W) := by
 have g0 := skipTo_le (s := s) (Nat.zero_le _)
 refine enter (S := No) (l := [_]) (L := []) 84 Tryz.func92 rfl rfl rfl (St.start w No) ?_; refine yA ?_; refine za (v := .slice _ _ _) rfl ?_; refine w_alloc zr115 (fun t3b gt3b ut3b => ?_)
 refine yB ?_; refine zq ?_; refine yA ?_; refine zm (v := str _) rfl ?_; refine w_r (fun _ => R_slen st9 rfl (by omega)) rfl rfl ?_; refine w_r (fun _ => R_gt rfl rfl) rfl rfl ?_; refine yB ?_; refine zD rfl (fun h2 => ?_) (fun h2 => ?_)
 ·refine yA ?_; refine w_r (fun _ => R_build bt115 rfl) rfl rfl ?_; refine za (v := .slice _ _ _) rfl ?_; refine w_store 0 rfl z115 rfl rfl rfl rfl rfl rfl rfl ?_; refine yB ?_; refine ze ?_; refine zt (?_)
  refine r_fin (.inl rfl) rfl (.tmp rfl rfl (.agg rfl rfl z115 (fun _ h => h.at_ 0 rfl) rfl .nil)) ?_; exact fun w' hw => ⟨[], by rw [readP_long (by omega)]; exact ⟨none, 0, rfl, Own.nil _ _⟩, .none (hw.fr _ (.head _))⟩
 ·refine zi ?_; refine zk ?_; refine yA ?_; refine za (v := .slice _ _ _) rfl ?_; refine yC ?_; refine zm (v := str _) rfl ?_; refine zC (fun w => zR Tryz.func110 rfl rfl rfl) rfl rfl (fun w h => rskip_spec s 0 hs (by omega) w) ?_; refine aI rfl ?_; refine yB ?_; refine zq ?_; refine zB ?_
  refine c_loop (fun m e B L => ∃ (k : Nat) (x : Rd) (a0 : Option Addr) (c0 : Nat) (W : Heap), e 0 = str s ∧ e 3 = .pointer (some ⟨t3b, 0, none⟩) ∧ e 4 = .slice a0 x.1.length c0 ∧ e 5 = .int .i64 (k : Nat) ∧ B = [(w, No)] ∧ L = (t3b, cel [.int .i64 0, .int .i64 0] 115) :: (W ++ []) ∧ k ≤ s.length ∧ Toks (.slice a0 x.1.length c0) x.1 W ∧ x.1.length ≤ 6000 ∧ x.2 = (0, 0) ∧ lexS readN s k x = readS s ∧ m = s.length - k) _ ⟨skipTo s 0, ([], 0, 0), none, 0, [], rfl, rfl, rfl, rfl, rfl, rfl, g0.1, Own.nil _ _, Nat.zero_le _, rfl, rfl, rfl⟩ ?_
  rintro m e B L ⟨k, x, a0, c0, W, e0_1, e3_1, e4_1, e5_1, rfl, rfl, hk, hT, hx6, hx0, hr, rfl⟩
  have g2 := tok_le hk
  have g6 := signLen_le hk
  refine zq ?_; refine yA ?_; refine mI e5_1 ?_; refine zm (v := str _) e0_1 ?_; refine w_r (fun _ => R_slen st9 rfl (by omega)) rfl rfl ?_; refine w_r (fun _ => R_lt rfl rfl) rfl rfl ?_; refine yB ?_; refine zD rfl (fun h3 => ?_) (fun h3 => ?_)
  ·have hlt : k < s.length := by omega
   refine zi ?_; refine zk ?_; refine zB ?_; refine yA ?_; refine mI e5_1 ?_; refine w_r (fun _ => R_build bt119 rfl) rfl rfl ?_; refine w_alloc zr119 (fun t6b gt6b ut6b => ?_)
   refine w_store 0 rfl z119 rfl rfl rfl rfl rfl rfl rfl ?_; refine yC ?_; refine mI e5_1 ?_; refine aI rfl ?_; refine aB rfl ?_; refine yB ?_; refine c_cut (fun e B L => ∃ (kd q : Nat), e 0 = str s ∧ e 3 = .pointer (some ⟨t3b, 0, none⟩) ∧ e 4 = .slice a0 x.1.length c0 ∧ e 5 = .int .i64 (k : Nat) ∧ e 6 = .pointer (some ⟨t6b, 0, none⟩) ∧ e 7 = .int .i64 (q : Nat) ∧ e 8 = .bool (tokAt s k).2.2 ∧ B = [(w, No)] ∧ L = (t6b, cel [.int .u8 (kd : Nat), str ([]), .int .i64 (k : Nat)] 119) :: (t3b, cel [.int .i64 0, .int .i64 0] 115) :: (W ++ []) ∧ ((tokAt s k).2.2 = true → kd = (tokAt s k).1 ∧ q = (tokAt s k).2.1)) ?_ ?_
   ·refine yA ?_; refine zm (v := str _) e0_1 ?_; refine mI e5_1 ?_; refine zC (fun w => zR Tryz.func111 rfl rfl rfl) rfl rfl (fun w h => rletter_spec s k hs (by omega) w) ?_; refine mB rfl ?_; refine zp (t := 25) rfl (fun h5 => ?_) (fun h5 => ?_)
    ·refine zw rfl rfl (bV h5) ?_; refine zm (v := str _) e0_1 ?_; refine zw rfl rfl (bV h5) ?_; refine mI e5_1 ?_; refine zw rfl rfl (bV h5) ?_; refine w_sidx st9 rfl rfl (by omega) ?_; refine zw rfl rfl (bV h5) ?_; refine w_r (fun _ => R_ne rfl rfl) rfl rfl ?_; refine w_r (v := .bool _) (fun _ => zT (bV h5) rfl) rfl rfl ?_; refine yB ?_; refine zD rfl (fun h6 => ?_) (fun h6 => ?_)
     ·have hnb : nameB s k = true := by rw [nameB, h5, atP_in hlt, eq_int' 95 95 rfl, decide_eq_false (by omega)]; rfl
      refine yA ?_; refine zf fa119_0 rfl ?_; refine w_store 0 rfl z5 rfl rfl rfl rfl rfl rfl rfl ?_; refine yB ?_; refine zB ?_; refine c_loop (fun m e B L => ∃ (q : Nat), e 0 = str s ∧ e 3 = .pointer (some ⟨t3b, 0, none⟩) ∧ e 4 = .slice a0 x.1.length c0 ∧ e 5 = .int .i64 (k : Nat) ∧ e 6 = .pointer (some ⟨t6b, 0, none⟩) ∧ e 7 = .int .i64 (q : Nat) ∧ e 8 = .bool true ∧ B = [(w, No)] ∧ L = (t6b, cel [.int .u8 (1 : Nat), str ([]), .int .i64 (k : Nat)] 119) :: (t3b, cel [.int .i64 0, .int .i64 0] 115) :: (W ++ []) ∧ k ≤ q ∧ q ≤ s.length ∧ runTo wordB s q = runTo wordB s k ∧ m = s.length - q) _ ⟨k, e0_1, e3_1, e4_1, e5_1, rfl, rfl, rfl, rfl, rfl, by omega, hk, rfl, rfl⟩ ?_
      rintro m e B L ⟨q, e0_3, e3_3, e4_3, e5_3, e6_3, e7_3, e8_3, rfl, rfl, hkq, hq, hw0, rfl⟩
      refine zq ?_; refine yA ?_; refine zm (v := str _) e0_3 ?_; refine mI e7_3 ?_; refine zC (fun w => zR Tryz.func111 rfl rfl rfl) rfl rfl (fun w h => rletter_spec s q hs (by omega) w) ?_; refine mB rfl ?_; refine zp (t := 35) rfl (fun h7 => ?_) (fun h7 => ?_)
      ·refine zs rfl rfl (bV h7) ?_; refine zs rfl rfl (bV h7) ?_; refine zs rfl rfl (bV h7) ?_; refine w_r (v := .bool _) (fun _ => zT (bV h7) rfl) rfl rfl ?_; refine yB ?_; refine zE rfl ?_; refine zi ?_; refine zk ?_; refine zB ?_; refine zr ?_; refine mI e7_3 ?_; refine w_r (fun _ => R_addi rfl rfl (by omega)) rfl rfl ?_; refine aI rfl ?_; refine zn ?_; refine b_on (?_)
       have hw1 : atP wordB s q = true := by rw [at_word]; simp [*]
       have hw2 := atP_lt hw1
       exact k_again _ (by omega) ⟨q + 1, e0_3, e3_3, e4_3, e5_3, e6_3, rfl, e8_3, rfl, rfl, by omega, by omega, by rw [← hw0, runTo_step hw1], rfl⟩
      ·refine zw rfl rfl (bV h7) ?_; refine zm (v := str _) e0_3 ?_; refine zw rfl rfl (bV h7) ?_; refine mI e7_3 ?_; refine zw rfl rfl (bV h7) ?_; refine zC (fun w => zR Tryz.func112 rfl rfl rfl) rfl rfl (fun w h => rdigit_spec s q hs (by omega) w) ?_; refine w_r (v := .bool _) (fun _ => zF (bV h7) rfl) rfl rfl ?_; refine yB ?_; refine c_cond rfl (fun h8 => ?_) (fun h8 => ?_)
       ·refine zi ?_; refine zk ?_; refine zB ?_; refine zr ?_; refine mI e7_3 ?_; refine w_r (fun _ => R_addi rfl rfl (by omega)) rfl rfl ?_; refine aI rfl ?_; refine zn ?_; refine b_on (?_)
        have hw1 : atP wordB s q = true := by rw [at_word]; simp [*]
        have hw2 := atP_lt hw1
        exact k_again _ (by omega) ⟨q + 1, e0_3, e3_3, e4_3, e5_3, e6_3, rfl, e8_3, rfl, rfl, by omega, by omega, by rw [← hw0, runTo_step hw1], rfl⟩
       ·refine c_exit ?_; refine zx (zx (b_here rfl (?_)))
        have hx : atP wordB s q = false := by rw [at_word]; simp [*]
        rw [runTo_stop hx] at hw0
        have e0 : tokAt s k = (1, q, true) := by rw [tokAt, if_pos hnb, ← hw0]
        exact k_mid ⟨1, q, e0_3, e3_3, e4_3, e5_3, e6_3, e7_3, by rw [e0]; exact e8_3, rfl, rfl, by rw [e0]; exact fun _ => ⟨rfl, rfl⟩⟩
     ·have hnb : nameB s k = false := by rw [nameB, h5, atP_in hlt, eq_int' 95 95 rfl, decide_eq_true (by omega)]; rfl
      refine yA ?_; refine zm (v := str _) e0_1 ?_; refine mI e5_1 ?_; refine zC (fun w => zR Tryz.func112 rfl rfl rfl) rfl rfl (fun w h => rdigit_spec s k hs (by omega) w) ?_; refine yB ?_; refine c_cond rfl (fun h9 => ?_) (fun h9 => ?_)
      ·refine yA ?_; refine zf fa119_0 rfl ?_; refine w_store 0 rfl z5 rfl rfl rfl rfl rfl rfl rfl ?_; refine yB ?_; refine zr ?_; refine zm (v := str _) e0_1 ?_; refine mI e5_1 ?_; refine zC (fun w => zR Tryz.func113 rfl rfl rfl) rfl rfl (fun w h => rnumber_spec s k hs (by omega) w) ?_; refine zm rfl ?_; refine w_r (fun _ => R_extract rfl rfl) rfl rfl ?_; refine w_r (fun _ => R_extract rfl rfl) rfl rfl ?_; refine aI rfl ?_; refine aB rfl ?_; refine zn ?_
       have e0 : tokAt s k = (2, numEnd s k, numFine s k) := by rw [tokAt, if_neg (by rw [hnb]; simp), if_pos h9]
       exact k_mid ⟨2, numEnd s k, e0_1, e3_1, e4_1, e5_1, rfl, rfl, by rw [e0]; rfl, rfl, rfl, by rw [e0]; exact fun _ => ⟨rfl, rfl⟩⟩
      ·refine yA ?_; refine zf fa119_0 rfl ?_; refine w_store 0 rfl z5 rfl rfl rfl rfl rfl rfl rfl ?_; refine yC ?_; refine mI e5_1 ?_; refine zm (v := str _) e0_1 ?_; refine mI e5_1 ?_; refine zC (fun w => zR Tryz.func114 rfl rfl rfl) rfl rfl (fun w h => rsign_spec s k hs (by omega) w) ?_; refine w_r (fun _ => R_addi rfl rfl (by omega)) rfl rfl ?_; refine aI rfl ?_; refine yB ?_; refine zr ?_; refine mI rfl ?_; refine mI e5_1 ?_; refine w_r (fun _ => R_gt rfl rfl) rfl rfl ?_; refine aB rfl ?_; refine zn ?_
       have e0 : tokAt s k = if signLen s k = 0 then (0, k, false) else (3, k + signLen s k, true) := by rw [tokAt, if_neg (by rw [hnb]; simp), if_neg (by rw [h9]; simp)]
       have e8 : (tokAt s k).2.2 = decide (((k : Nat) : Int) + (signLen s k : Int) > (k : Int)) := by rw [e0]; split <;> simp <;> omega
       exact k_mid ⟨3, (k + signLen s k), e0_1, e3_1, e4_1, e5_1, rfl, rfl, by rw [e8]; rfl, rfl, rfl, by rw [e0]; split <;> simp⟩
    ·have hnb : nameB s k = false := by rw [nameB, h5]; rfl
     refine zs rfl rfl (bV h5) ?_; refine zs rfl rfl (bV h5) ?_; refine zs rfl rfl (bV h5) ?_; refine zs rfl rfl (bV h5) ?_; refine w_r (v := .bool _) (fun _ => zF (bV h5) rfl) rfl rfl ?_; refine yB ?_; refine c_condF rfl ?_; refine yA ?_; refine zm (v := str _) e0_1 ?_; refine mI e5_1 ?_; refine zC (fun w => zR Tryz.func112 rfl rfl rfl) rfl rfl (fun w h => rdigit_spec s k hs (by omega) w) ?_; refine yB ?_; refine c_cond rfl (fun h10 => ?_) (fun h10 => ?_)
     ·refine yA ?_; refine zf fa119_0 rfl ?_; refine w_store 0 rfl z5 rfl rfl rfl rfl rfl rfl rfl ?_; refine yB ?_; refine zr ?_; refine zm (v := str _) e0_1 ?_; refine mI e5_1 ?_; refine zC (fun w => zR Tryz.func113 rfl rfl rfl) rfl rfl (fun w h => rnumber_spec s k hs (by omega) w) ?_; refine zm rfl ?_; refine w_r (fun _ => R_extract rfl rfl) rfl rfl ?_; refine w_r (fun _ => R_extract rfl rfl) rfl rfl ?_; refine aI rfl ?_; refine aB rfl ?_; refine zn ?_
      have e0 : tokAt s k = (2, numEnd s k, numFine s k) := by rw [tokAt, if_neg (by rw [hnb]; simp), if_pos h10]
      exact k_mid ⟨2, numEnd s k, e0_1, e3_1, e4_1, e5_1, rfl, rfl, by rw [e0]; rfl, rfl, rfl, by rw [e0]; exact fun _ => ⟨rfl, rfl⟩⟩
     ·refine yA ?_; refine zf fa119_0 rfl ?_; refine w_store 0 rfl z5 rfl rfl rfl rfl rfl rfl rfl ?_; refine yC ?_; refine mI e5_1 ?_; refine zm (v := str _) e0_1 ?_; refine mI e5_1 ?_; refine zC (fun w => zR Tryz.func114 rfl rfl rfl) rfl rfl (fun w h => rsign_spec s k hs (by omega) w) ?_; refine w_r (fun _ => R_addi rfl rfl (by omega)) rfl rfl ?_; refine aI rfl ?_; refine yB ?_; refine zr ?_; refine mI rfl ?_; refine mI e5_1 ?_; refine w_r (fun _ => R_gt rfl rfl) rfl rfl ?_; refine aB rfl ?_; refine zn ?_
      have e0 : tokAt s k = if signLen s k = 0 then (0, k, false) else (3, k + signLen s k, true) := by rw [tokAt, if_neg (by rw [hnb]; simp), if_neg (by rw [h10]; simp)]
      have e8 : (tokAt s k).2.2 = decide (((k : Nat) : Int) + (signLen s k : Int) > (k : Int)) := by rw [e0]; split <;> simp <;> omega
      exact k_mid ⟨3, (k + signLen s k), e0_1, e3_1, e4_1, e5_1, rfl, rfl, by rw [e8]; rfl, rfl, rfl, by rw [e0]; split <;> simp⟩
   rintro e B L ⟨kd, q, e0_2, e3_2, e4_2, e5_2, e6_2, e7_2, e8_2, rfl, rfl, hfine⟩
   refine zq ?_; refine yA ?_; refine mB e8_2 ?_; refine w_r (fun _ => R_not rfl) rfl rfl ?_; refine yB ?_; refine c_condN rfl (fun h11 => ?_) (fun h11 => ?_)
   ·refine yA ?_; refine mI e5_2 ?_; refine w_r (fun _ => R_build bt115 rfl) rfl rfl ?_; refine za (v := .slice _ _ _) rfl ?_; refine w_store 1 rfl z115 e3_2 rfl rfl rfl rfl rfl rfl ?_; refine yB ?_; refine ze ?_; refine zt (zb (zt (zb (zt (?_)))))
    have hrS : readS s = (x.1, 110, k) := by rw [← hr, lexS_end readN hlt (by rw [h11]; rfl), h11]; rfl
    refine r_fin (.inl rfl) rfl (.tmp rfl rfl (.agg rfl e3_2 z115 (fun _ h => h.at_ 1 rfl) rfl .nil)) ?_; exact fun w' hw => ⟨[], by rw [readP_bad (by omega) (by rw [hrS]; simp), hrS]; exact ⟨none, 0, rfl, Own.nil _ _⟩, .none (hw.fr _ (.head _))⟩
   ·have hgo := h11; have hkd := (hfine hgo).1; have hq := (hfine hgo).2; have hqk := g2.2.2 hgo; have hql : q ≤ s.length := by omega
    refine zi ?_; refine zk ?_; refine zq ?_; refine yA ?_; refine mS e4_2 ?_; refine w_r (fun _ => R_len sl113 rfl) rfl rfl ?_; refine w_r (fun _ => R_eq rfl rfl) rfl rfl ?_; refine yB ?_; refine zD rfl (fun h12 => ?_) (fun h12 => ?_)
    ·refine yA ?_; refine mI e5_2 ?_; refine w_r (fun _ => R_build bt115 rfl) rfl rfl ?_; refine za (v := .slice _ _ _) rfl ?_; refine w_store 1 rfl z115 e3_2 rfl rfl rfl rfl rfl rfl ?_; refine yB ?_; refine ze ?_; refine zt (zb (zt (zb (zt (?_)))))
     have hN : readN x (tokAt s k).1 (tokTx s k) k (tokAt s k).2.2 = ((x.1, 6, k), false) := by rw [readN, if_neg (by rw [h11]; simp), if_pos (by omega)]
     have hrS : readS s = (x.1, 6, k) := by rw [← hr, lexS_end readN hlt (by rw [hN]), hN]
     refine r_fin (.inl rfl) rfl (.tmp rfl rfl (.agg rfl e3_2 z115 (fun _ h => h.at_ 1 rfl) rfl .nil)) ?_; exact fun w' hw => ⟨[], by rw [readP_bad (by omega) (by rw [hrS]; simp), hrS]; exact ⟨none, 0, rfl, Own.nil _ _⟩, .none (hw.fr _ (.head _))⟩
    ·refine zi ?_; refine zk ?_; refine yA ?_; refine zm (v := str _) e0_2 ?_; refine mI e5_2 ?_; refine mI e7_2 ?_; refine w_r (fun _ => R_sslN (l := k) (h := q) st9 rfl rfl rfl (by omega) (by omega)) rfl rfl ?_; refine zf fa119_1 e6_2 ?_; refine w_store 0 rfl z9 rfl rfl rfl rfl rfl rfl rfl ?_; refine yC ?_; refine mS e4_2 ?_; refine w_loadA z119 e6_2 (fun _ h => h.at_ 0 rfl) rfl ?_; refine zS slt113 (by decide) rfl rfl (fun bs gbs ubs => ?_)
     refine w_app [(bs, _), (t6b, _), (t3b, _)] (news := tkC (kd, (s.drop k).take (q - k), k)) slt113 (by decide) rfl hT rfl rfl (row_own 0 rfl (fun _ _ h => h)) rfl (by decide) (by omega) (by omega) (fun v2 W2 hO2 => ?_)
     obtain ⟨a2, c2, rfl⟩ := hO2.slice
     refine za (v := .slice _ _ _) rfl ?_; refine yB ?_; refine zr ?_; refine zm (v := str _) e0_2 ?_; refine mI e7_2 ?_; refine zC (fun w => zR Tryz.func110 rfl rfl rfl) rfl rfl (fun w h => rskip_spec s q hs (by omega) w) ?_; refine aI rfl ?_; refine zn ?_; refine b_on (?_)
     have hN : readN x (tokAt s k).1 (tokTx s k) k (tokAt s k).2.2 = ((x.1 ++ [(kd, (s.drop k).take (q - k), k)], x.2), true) := by rw [readN, if_neg (by rw [hgo]; simp), if_neg (by omega), tokTx, ← hq, ← hkd]
     refine k_st (B' := [(w, No)]) (L' := (t3b, cel [.int .i64 0, .int .i64 0] 115) :: (W2 ++ [])) (fun w h => h.drop (.cons _ (.cons _ (List.Sublist.refl _)))) ?_
     have g5 := skipTo_le hql
     exact k_again _ (by omega) ⟨skipTo s q, (x.1 ++ [(kd, (s.drop k).take (q - k), k)], x.2), a2, c2, W2, e0_2, e3_2, (congrArg (fun n : Nat => Value.slice a2 n c2) (show x.1.length + 1 = (x.1 ++ [(kd, (s.drop k).take (q - k), k)]).length by simp)), rfl, rfl, rfl, g5.1, by simpa using Toks.more hO2, by simp; omega, hx0, by rw [← hr, lexS_go readN readN_no hlt (by rw [hN]), hN, ← hq], rfl⟩
  ·refine c_exit ?_; refine zx (zx (b_here rfl (zk ?_))); refine yA ?_; refine mS e4_1 ?_; refine w_r (fun _ => R_build bt115 rfl) rfl rfl ?_; refine za (v := .slice _ _ _) rfl ?_; refine w_store 0 rfl z115 e3_1 rfl rfl rfl rfl rfl rfl ?_; refine yB ?_; refine ze ?_
   have hrS : readS s = x := by rw [← hr, lexS_stop readN (by omega)]
   refine r_fin (.inl rfl) rfl (.tmp rfl rfl (.agg rfl e3_1 z115 (fun _ h => h.at_ 0 rfl) rfl .nil)) ?_; exact fun w' hw => ⟨W, by rw [readP_fine (by omega) (by rw [hrS, hx0]), hrS]; exact ⟨a0, c0, rfl, hT⟩, St.made (A := []) (by simpa using hw.drop (L' := W ++ []) (List.sublist_cons_self _ _))⟩
end Go.Proofs.YtcmcdgkjipnfnaaGreatDoor
end

section
/- The plain part of layer token: line and column. -/
namespace Go.Tok
def lineN (s : List UInt8) : Nat → Nat
  | 0 => 1
  | i + 1 => if atP (eqB 10) s i then lineN s i + 1 else lineN s i
def colN (s : List UInt8) : Nat → Nat
  | 0 => 1
  | i + 1 => if atP (eqB 10) s i then 1 else colN s i + 1
def plcK (n : Nat) (a : Int) : Nat := (if (n : Int) < (if a < 0 then 0 else a) then (n : Int) else (if a < 0 then 0 else a)).toNat
end Go.Tok
namespace Go.Tok
end Go.Tok
namespace Go.Tok
end Go.Tok
end

section
namespace Go.Proofs.YtcmcdgkjipnfnaaGreatDoor
open Go.RowKit Go.Sx
open Go.Tok
theorem tks_at : ∀ (l : List Tk) (k : Nat) (t : Tk), l[k]? = some t → ∀ (j : Nat) u, (tkC t)[j]? = some u → (tksC l)[k * 3 + j]? = some u
  | [], _, _, h, _, _, _ => by simp at h
  | x :: l, 0, t, h, j, u, hu => by
    obtain rfl : x = t := by simpa using h
    have hj := (List.getElem?_eq_some_iff.1 hu).1
    show ((tkC x) ++ tksC l)[0 * 3 + j]? = some u
    rw [List.getElem?_append_left (by simpa using hj)]
    simpa using hu
  | x :: l, k + 1, t, h, j, u, hu => by
    have ih := tks_at l k t (by simpa using h) j u hu
    show ((tkC x) ++ tksC l)[(k + 1) * 3 + j]? = some u
    have hl : (tkC x).length = 3 := rfl
    rw [List.getElem?_append_right (by rw [hl]; omega), hl, show (k + 1) * 3 + j - 3 = k * 3 + j by omega]
    exact ih
theorem Toks.cell {l : List Tk} {a : Option Addr} {c k : Nat} {W : Heap} {w : World} (h : Toks (.slice a l.length c) l W) (hm : ∀ p ∈ W, w.heap[p.1]? = some p.2) (hk : k < l.length) : ∃ b, a = some ⟨b, 0, none⟩ ∧ ∀ (j : Nat) u, (tkC l[k])[j]? = some u → w.cell? ⟨b, 0 + k * 3 + j, none⟩ = some u := by
  obtain ⟨b, rfl, hc⟩ := Own.cellw h hk
  exact ⟨b, rfl, fun j u hu => by rw [Nat.zero_add]; exact hc w hm _ u (tks_at l k _ (by simp) j u hu)⟩

end Go.Proofs.YtcmcdgkjipnfnaaGreatDoor
end

section
/- The plain part of layer tree: names and words; the first of a row that is so. -/
namespace Go.Tree
open Go.Tok
theorem oneB_E {k : Nat} {s : Str} (h : (readP s).2.1 ≠ 0) : oneB k s = false := by unfold oneB; rw [decide_eq_false h]; rfl
theorem oneB_len {k : Nat} {s : Str} (h : (readP s).1.length ≠ 1) : oneB k s = false := by
  unfold oneB
  rw [Bool.and_eq_false_iff]; right
  split
  · rename_i t ht; rw [ht] at h; exact absurd rfl h
  · rfl
theorem oneB_at {k : Nat} {s : Str} {t : Tk} (h0 : (readP s).2.1 = 0) (h1 : (readP s).1[0]? = some t) (hl : (readP s).1.length = 1) : oneB k s = (decide ((t.1 : Int) = (k : Int)) && decide (t.2.1 = s)) := by
  have h2 : (readP s).1 = [t] := by
    match hr : (readP s).1, hl with
    | [x], _ => rw [hr] at h1; simpa using h1
  unfold oneB
  rw [decide_eq_true h0, h2]
  have : decide (t.1 = k) = decide ((t.1 : Int) = (k : Int)) := by congr 1; apply propext; omega
  simp only [this, Bool.true_and]
/-! a name has no blank in it -/
theorem tokTx_word {s : Str} {i : Nat} (h : (tokAt s i).1 = 1) : (32 : UInt8) ∉ tokTx s i := by
  unfold tokTx
  unfold tokAt at h ⊢
  split
  · intro hm
    have e : (s.drop i).take (runTo wordB s i - i) = (s.drop i).takeWhile wordB := by
      unfold runTo
      rw [show i + ((s.drop i).takeWhile wordB).length - i = ((s.drop i).takeWhile wordB).length by omega]
      exact (List.prefix_iff_eq_take.1 (List.takeWhile_prefix wordB)).symm
    rw [e] at hm
    have := List.all_eq_true.1 (List.all_takeWhile (p := wordB) (l := s.drop i)) _ hm
    exact absurd this (by decide)
  · rename_i hn
    rw [if_neg hn] at h
    split at h
    · cases h
    · split at h <;> cases h
theorem lexF_names (s : Str) : ∀ (f i : Nat) (x : Rd), (∀ t ∈ x.1, t.1 = 1 → (32 : UInt8) ∉ t.2.1) → ∀ t ∈ (lexF readN s f i x).1, t.1 = 1 → (32 : UInt8) ∉ t.2.1
  | 0, _, x, h => h
  | f + 1, i, x, h => by
    have h2 : ∀ t ∈ (readN x (tokAt s i).1 (tokTx s i) i (tokAt s i).2.2).1.1, t.1 = 1 → (32 : UInt8) ∉ t.2.1 := by
      unfold readN
      split
      · exact h
      · split
        · exact h
        · intro t ht
          rcases List.mem_append.1 ht with ht | ht
          · exact h t ht
          · obtain rfl : t = _ := by simpa using ht
            exact fun hk => tokTx_word hk
    unfold lexF
    split
    · split
      · exact lexF_names s f _ _ h2
      · exact h2
    · exact h
theorem readP_names (s : Str) : ∀ t ∈ (readP s).1, t.1 = 1 → (32 : UInt8) ∉ t.2.1 := by
  have h : ∀ t ∈ (readS s).1, t.1 = 1 → (32 : UInt8) ∉ t.2.1 := lexF_names s _ _ _ (fun t ht => (List.not_mem_nil ht).elim)
  unfold readP
  split
  · exact fun t ht => (List.not_mem_nil ht).elim
  · split
    · exact h
    · exact fun t ht => (List.not_mem_nil ht).elim
theorem one_name {s : Str} (h : oneB 1 s = true) : (32 : UInt8) ∉ s := by
  unfold oneB at h
  rw [Bool.and_eq_true] at h
  obtain ⟨_, h2⟩ := h
  split at h2
  · rename_i t ht
    simp only [Bool.and_eq_true, decide_eq_true_eq] at h2
    have := readP_names s t (by rw [ht]; exact .head _) h2.1
    rwa [h2.2] at this
  · cases h2
theorem index_iff {sub : List UInt8} (hs : sub ≠ []) : ∀ s : List UInt8, 0 ≤ Lib.index s sub ↔ ∃ i, sub.isPrefixOf (s.drop i) = true
  | [] => by
    have : sub.isEmpty = false := by cases sub with | nil => exact absurd rfl hs | cons => rfl
    unfold Lib.index
    rw [this]
    constructor
    · intro h; exact absurd h (by decide)
    · rintro ⟨i, hi⟩
      cases sub with
      | nil => exact absurd rfl hs
      | cons a l => simp at hi
  | b :: l => by
    have ih := index_iff hs l
    have hg := Lib.index_ge l sub
    unfold Lib.index
    split
    · rename_i hp
      exact ⟨fun _ => ⟨0, by simpa using hp⟩, fun _ => Int.le_refl _⟩
    · rename_i hp
      split
      · rename_i h1
        have h1 : Lib.index l sub = -1 := by simpa using h1
        constructor
        · intro h; exact absurd h (by decide)
        · rintro ⟨i, hi⟩
          cases i with
          | zero => exact absurd (by simpa using hi) hp
          | succ i => have := ih.2 ⟨i, by simpa using hi⟩; omega
      · rename_i h1
        have h1 : ¬ Lib.index l sub = -1 := by simpa using h1
        constructor
        · intro _
          obtain ⟨i, hi⟩ := ih.1 (by omega)
          exact ⟨i + 1, by simpa using hi⟩
        · intro _; omega
theorem words_fwd : ∀ i, i < 112 → (wordsT.drop i).head? = some 32 → i = 111 ∨ wordsL.contains ((wordsT.drop (i + 1)).takeWhile (fun b => b != 32)) = true := by decide +kernel
theorem words_bwd : ∀ x ∈ wordsL, Lib.contains wordsT ([32] ++ x ++ [32]) = true := by decide +kernel
theorem words_len : wordsT.length = 112 := by decide +kernel
theorem take_while_stop (s : List UInt8) (hs : (32 : UInt8) ∉ s) (r : List UInt8) : (s ++ 32 :: r).takeWhile (fun b => b != 32) = s := by
  induction s with
  | nil => simp
  | cons a l ih =>
    have ha : a ≠ 32 := fun h => hs (by simp [h])
    have hl : (32 : UInt8) ∉ l := fun h => hs (List.mem_cons_of_mem _ h)
    rw [List.cons_append, List.takeWhile_cons, if_pos (by simpa using ha), ih hl]
theorem words_contains {s : Str} (hs : (32 : UInt8) ∉ s) : Lib.contains wordsT ([32] ++ s ++ [32]) = wordsL.contains s := by
  rw [Bool.eq_iff_iff]
  constructor
  · intro h
    unfold Lib.contains at h
    obtain ⟨i, hi⟩ := (index_iff (by simp) _).1 (of_decide_eq_true h)
    obtain ⟨r, hr⟩ := List.isPrefixOf_iff_prefix.1 hi
    have hl : i < 112 := by
      rcases Nat.lt_or_ge i 112 with h1 | h1
      · exact h1
      · rw [List.drop_eq_nil_of_le (by rw [words_len]; exact h1)] at hr; simp at hr
    have e1 : wordsT.drop i = 32 :: (s ++ 32 :: r) := by rw [← hr]; simp
    have e2 : wordsT.drop (i + 1) = s ++ 32 :: r := by
      rw [← List.drop_drop, e1]; rfl
    rcases words_fwd i hl (by rw [e1]; rfl) with h1 | h1
    · subst h1
      rw [List.drop_eq_nil_of_le (by rw [words_len]; exact Nat.le_refl _)] at e2
      simp at e2
    · rw [e2, take_while_stop s hs] at h1; exact h1
  · intro h
    exact words_bwd s (by simpa using h)
theorem nameOk_one {s : Str} (h : oneB 1 s = true) : nameOk s = !Lib.contains wordsT ([32] ++ s ++ [32]) := by
  unfold nameOk; rw [h, words_contains (one_name h)]; rfl
theorem nameOk_no {s : Str} (h : oneB 1 s = false) : nameOk s = false := by unfold nameOk; rw [h]; rfl
/-! the first that is so -/
def firstI {α : Type} (p : α → Bool) (l : List α) : Int := match l.findIdx? p with | some k => k | none => -1
theorem firstI_at {α : Type} {p : α → Bool} {l : List α} {k : Nat} {x : α} (h : ∀ y ∈ l.take k, p y = false) (hx : l[k]? = some x) (hp : p x = true) : firstI p l = k := by
  have hk := (List.getElem?_eq_some_iff.1 hx).1
  have hg := (List.getElem?_eq_some_iff.1 hx).2
  have : l.findIdx? p = some k := by
    rw [List.findIdx?_eq_some_iff_getElem]
    refine ⟨hk, by rw [hg]; exact hp, fun j hj => ?_⟩
    have := h l[j] (by rw [List.mem_take_iff_getElem]; exact ⟨j, by omega, rfl⟩)
    simp [this]
  unfold firstI; rw [this]
theorem firstI_no {α : Type} {p : α → Bool} {l : List α} (h : ∀ y ∈ l, p y = false) : firstI p l = -1 := by
  have : l.findIdx? p = none := by rw [List.findIdx?_eq_none_iff]; exact h
  unfold firstI; rw [this]
theorem firstI_ge {α : Type} (p : α → Bool) (l : List α) : decide (firstI p l ≥ 0) = l.any p := by
  unfold firstI
  cases h : l.findIdx? p with
  | none =>
    rw [List.findIdx?_eq_none_iff] at h
    have : l.any p = false := List.any_eq_false.2 (fun x hx => by simp [h x hx])
    rw [this]; rfl
  | some k =>
    rw [List.findIdx?_eq_some_iff_getElem] at h
    obtain ⟨hk, hp, _⟩ := h
    have : l.any p = true := List.any_eq_true.2 ⟨l[k], List.getElem_mem hk, hp⟩
    rw [this]
    exact decide_eq_true (Int.natCast_nonneg k)
theorem take_all {α : Type} {p : α → Bool} {l : List α} {k : Nat} {x : α} (h : ∀ y ∈ l.take k, p y = false) (hx : l[k]? = some x) (hp : p x = false) : ∀ y ∈ l.take (k + 1), p y = false := by
  obtain ⟨hk, hg⟩ := List.getElem?_eq_some_iff.1 hx
  intro y hy
  rw [List.take_succ_eq_append_getElem hk, List.mem_append, hg] at hy
  rcases hy with hy | hy
  · exact h y hy
  · obtain rfl : y = x := by simpa using hy
    exact hp
theorem look_none {α : Type} (l : List (Int × α)) (n : Int) (z : α) (h : l.all (fun p => decide (p.1 ≠ n)) = true) : (l.lookup n).getD z = z := by
  induction l with
  | nil => rfl
  | cons p l ih =>
    rw [List.all_cons, Bool.and_eq_true, decide_eq_true_eq] at h
    have h2 : (n == p.1) = false := by simpa using fun e => h.1 e.symm
    obtain ⟨q, v⟩ := p
    simp only [List.lookup, h2]
    exact ih h.2
theorem any_not {α : Type} (p : α → Bool) (l : List α) : (!l.any fun x => !p x) = l.all p := by
  induction l with
  | nil => rfl
  | cons x l ih => rw [List.any_cons, List.all_cons, ← ih]; cases p x <;> simp
theorem op_cases9 (op : Nat) : op = 1 ∨ op = 2 ∨ op = 3 ∨ op = 4 ∨ op = 5 ∨ op = 6 ∨ op = 7 ∨ op = 8 ∨ op = 9 ∨ (op = 0 ∨ 10 ≤ op) := by omega
theorem op_cases6 (op : Nat) : op = 1 ∨ op = 2 ∨ op = 3 ∨ op = 4 ∨ op = 5 ∨ op = 6 ∨ (op = 0 ∨ 7 ≤ op) := by omega
theorem srule_miss {op : Nat} (h : op = 0 ∨ 7 ≤ op) (nm : Str) (ks : List Ex) : sruleOk op nm ks = false := by
  unfold sruleOk
  split <;> first | rfl | omega
theorem cmp_int (op : Nat) : cmpOp op = (decide ((op : Int) ≥ 10) && decide ((op : Int) ≤ 15)) := by
  unfold cmpOp
  have h1 : decide (10 ≤ op) = decide ((op : Int) ≥ 10) := by congr 1; apply propext; omega
  have h2 : decide (op ≤ 15) = decide ((op : Int) ≤ 15) := by congr 1; apply propext; omega
  rw [h1, h2]
theorem rule_miss {op : Nat} (h : op = 0 ∨ 10 ≤ op) (nm : Str) (n : Nat) : ruleOk op nm n = false := by
  unfold ruleOk
  split <;> first | rfl | omega
end Go.Tree
end
