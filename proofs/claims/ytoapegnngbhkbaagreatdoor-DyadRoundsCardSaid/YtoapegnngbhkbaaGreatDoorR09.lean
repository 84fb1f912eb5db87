/- Layer 5, DyadRounds: at every two small dyadic numbers and every way, the law of rounding, quotients, scales and grids answers true. Part 9 of 10. -/
import Derived.Test.YtoapegnngbhkbaaGreatDoorR08
section
namespace Go.Proofs.YtoapegnngbhkbaaGreatDoor
open Go.RowKit Go.Sx
open Go.Num
theorem q_start (s t : Bool) (n m : Nat) (hm : m ≠ 0) : iv (s != t) (n / m) = iv (ng (iv s n) != ng (iv t m)) ((iv s n).natAbs / (iv t m).natAbs) := by
 rw [iv_abs, iv_abs, ng_iv, ng_iv, decide_eq_true hm, Bool.and_true]
 by_cases h : n = 0
 ·subst h; rw [Nat.zero_div, iv_zero, iv_zero]
 ·rw [decide_eq_true h, Bool.and_true]
theorem q_abs {s t : Bool} {n m : Nat} (hm : m ≠ 0) : fl (iv s n) (iv t m) ≤ iv (s != t) (n / m) + 1 ∧ (iv (s != t) (n / m) + 1).natAbs ≤ n + 1 ∧ (fl (iv s n) (iv t m)).natAbs ≤ n + 1 := by
 have hy : iv t m ≠ 0 := fun h => hm (by have := iv_abs t m; rw [h] at this; exact this.symm)
 have h0 := Nat.div_le_self n m
 refine ⟨by rw [q_start s t n m hm]; exact fl_start hy, ?_, ?_⟩
 ·have := iv_abs (s != t) (n / m); omega
 ·rw [fl_sizes hy, iv_abs, iv_abs, iv_abs]; split <;> omega
theorem sz_up {z : Int} {n : Nat} (h : z.natAbs ≤ n + 1) : sz z.natAbs ≤ sz n + 1 := Nat.le_trans (sz_mono h) (sz_iff.2 (Nat.lt_of_le_of_lt (Nat.succ_le_of_lt (lt_sz n)) (Nat.pow_lt_pow_right B_gt (Nat.lt_succ_self _))))
theorem iAddI_ok {x y : Int} {a : Option Addr} {c : Nat} {a2 : Option Addr} {c2 : Nat} (w : World) (hA : Nm w a (sz x.natAbs) c x.natAbs) (hA2 : Nm w a2 (sz y.natAbs) c2 y.natAbs) (hs : sz x.natAbs ≤ 900 ∧ sz y.natAbs ≤ 900) : Ret Tryz.prog 114 #[.agg #[.bool (ng (x)), .slice a (sz (x).natAbs) c], .agg #[.bool (ng (y)), .slice a2 (sz (y).natAbs) c2]] w (Tel (fun a c => .agg #[.bool (ng (x + y)), .slice a (sz (x + y).natAbs) c]) (sz (x + y).natAbs) (x + y).natAbs w) := by
 have := iAdd_ok (ng x) (ng y) w hA hA2 ⟨by omega, by omega⟩
 rwa [iv_ng, iv_ng] at this
theorem iSubI_ok {x y : Int} {a : Option Addr} {c : Nat} {a2 : Option Addr} {c2 : Nat} (w : World) (hA : Nm w a (sz x.natAbs) c x.natAbs) (hA2 : Nm w a2 (sz y.natAbs) c2 y.natAbs) (hs : sz x.natAbs ≤ 900 ∧ sz y.natAbs ≤ 900) : Ret Tryz.prog 115 #[.agg #[.bool (ng (x)), .slice a (sz (x).natAbs) c], .agg #[.bool (ng (y)), .slice a2 (sz (y).natAbs) c2]] w (Tel (fun a c => .agg #[.bool (ng (x - y)), .slice a (sz (x - y).natAbs) c]) (sz (x - y).natAbs) (x - y).natAbs w) := by
 have := iSub_ok (ng x) (ng y) w hA hA2 hs
 rwa [iv_ng, iv_ng] at this
theorem iSubR_ok {s : Bool} {n k : Nat} {y : Int} {a : Option Addr} {c : Nat} {a2 : Option Addr} {c2 : Nat} (w : World) (hA : Nm w a k c n) (hA2 : Nm w a2 (sz y.natAbs) c2 y.natAbs) (hs : k ≤ 900 ∧ sz y.natAbs ≤ 900) : Ret Tryz.prog 115 #[.agg #[.bool s, .slice a k c], .agg #[.bool (ng (y)), .slice a2 (sz (y).natAbs) c2]] w (Tel (fun a c => .agg #[.bool (ng (iv s n - y)), .slice a (sz (iv s n - y).natAbs) c]) (sz (iv s n - y).natAbs) (iv s n - y).natAbs w) := by
 have := iSub_ok s (ng y) w hA hA2 hs
 rwa [iv_ng] at this
theorem iMulR_ok {t : Bool} {m k2 : Nat} {x : Int} {a : Option Addr} {c : Nat} {a2 : Option Addr} {c2 : Nat} (w : World) (hA : Nm w a (sz x.natAbs) c x.natAbs) (hA2 : Nm w a2 k2 c2 m) (hs : sz x.natAbs ≤ 1000 ∧ k2 ≤ 1000) : Ret Tryz.prog 116 #[.agg #[.bool (ng (x)), .slice a (sz (x).natAbs) c], .agg #[.bool t, .slice a2 k2 c2]] w (Tel (fun a c => .agg #[.bool (ng (x * iv t m)), .slice a (sz (x * iv t m).natAbs) c]) (sz (x * iv t m).natAbs) (x * iv t m).natAbs w) := by
 have := iMul_ok (ng x) t w hA hA2 hs
 rwa [iv_ng] at this
theorem iSignI_ok {x : Int} {a : Option Addr} {c : Nat} (w : World) (hA : Nm w a (sz x.natAbs) c x.natAbs) (hs : sz x.natAbs ≤ 4000000) : Ret Tryz.prog 50 #[.agg #[.bool (ng (x)), .slice a (sz (x).natAbs) c]] w fun v w' => v = .int .i64 x.sign ∧ Ext w w' := by
 have := iSign_ok (ng x) w hA hs
 rwa [iv_ng] at this
theorem mul_szI (x y : Int) : sz (x * y).natAbs ≤ sz x.natAbs + sz y.natAbs := by rw [Int.natAbs_mul]; exact mul_sz _ _
theorem sub_szI (x y : Int) : sz (x - y).natAbs ≤ max (sz x.natAbs) (sz y.natAbs) + 1 := Nat.le_trans (sz_mono (show (x - y).natAbs ≤ x.natAbs + y.natAbs by omega)) (add_sz _ _)
set_option maxRecDepth 100000 in
set_option maxHeartbeats 4000000 in
theorem iFloor_ok (s t : Bool) {a : Option Addr} {k c n : Nat} {a2 : Option Addr} {k2 c2 m : Nat} (w : World) (hA : Nm w a k c n) (hA2 : Nm w a2 k2 c2 m) (hs : k ≤ 400 ∧ k2 ≤ 400 ∧ m ≠ 0) :
  Ret Tryz.prog 85 #[.agg #[.bool s, .slice a k c], .agg #[.bool t, .slice a2 k2 c2]] w (Tel2 (fun a c a2 c2 => .tuple #[.agg #[.bool (ng (fl (iv s n) (iv t m))), .slice a (sz (fl (iv s n) (iv t m)).natAbs) c], .agg #[.bool (ng ((iv s n) - fl (iv s n) (iv t m) * (iv t m))), .slice a2 (sz ((iv s n) - fl (iv s n) (iv t m) * (iv t m)).natAbs) c2]]) (sz (fl (iv s n) (iv t m)).natAbs) (fl (iv s n) (iv t m)).natAbs (sz ((iv s n) - fl (iv s n) (iv t m) * (iv t m)).natAbs) ((iv s n) - fl (iv s n) (iv t m) * (iv t m)).natAbs w) := by
 have hsn : sz n ≤ k := sz_iff.2 hA.lt
 have hsm : sz m ≤ k2 := sz_iff.2 hA2.lt
 have hqa := q_abs (s := s) (t := t) (n := n) hs.2.2
 have hY0 : (iv t m) ≠ 0 := fun h => hs.2.2 (by have := iv_abs t m; rw [h] at this; exact this.symm)
 have hdq := sz_mono (Nat.div_le_self n m)
 have hq9 := iv_abs (s != t) (n / m)
 refine enter (S := No) (l := [_, _]) (L := []) 49 Tryz.func85 rfl rfl rfl (St.start w No) ?_; refine yA ?_; refine w_boxA rfl (fun p gp up => ?_)
 refine w_boxA rfl (fun p2 gp2 up2 => ?_)
 refine w_alloc zr25 (fun r gr ur => ?_)
 refine w_alloc zr25 (fun r2 gr2 ur2 => ?_)
 refine yC ?_; refine zf fa25_1 rfl ?_; refine zl z23 rfl (fun _ h => zc 3 rfl rfl h) ?_; refine zf fa25_1 rfl ?_; refine zl z23 rfl (fun _ h => zc 2 rfl rfl h) ?_; refine w_tel2 (fun w => zR Tryz.func104 rfl rfl rfl) rfl rfl (fun w h => rDiv_ok w ((Kn.old hA).at_ 0 rfl h) ((Kn.old hA2).at_ 0 rfl h) ⟨by omega, by omega, hs.2.2⟩) (fun x5 a5 c5 a5' c5' hK5 hN5 hK5' hN5' => ?_)
 refine zm rfl ?_; refine w_r (fun _ => R_extract rfl rfl) rfl rfl ?_; refine w_r (fun _ => R_extract rfl rfl) rfl rfl ?_; refine za (v := .slice _ _ _) rfl ?_; refine za (v := .slice _ _ _) rfl ?_; refine yC ?_; refine zf fa25_0 rfl ?_; refine zl z4 rfl (fun _ h => zc 3 rfl rfl h) ?_; refine zf fa25_0 rfl ?_; refine zl z4 rfl (fun _ h => zc 2 rfl rfl h) ?_; refine w_r (fun _ => R_bne unb4 rfl rfl) rfl rfl ?_; refine mS rfl ?_; refine w_r (fun _ => R_build bt25 rfl) rfl rfl ?_; refine w_tel (fun w => zR Tryz.func35 rfl rfl rfl) rfl rfl (fun w h => iNorm_ok _ w (hK5.at_ 0 rfl h) (by omega)) (fun x6 a6 c6 hK6 hN6 => ?_)
 refine w_alloc zr25 (fun b8 gb8 ub8 => ?_)
 refine w_store 0 rfl z25 rfl rfl rfl rfl rfl rfl rfl ?_; refine yB ?_; refine c_cut (fun e B L => ∃ (z : Int) (yz : BaseW) (az : Option Addr) (cz : Nat), e 2 = .pointer (some ⟨p, 0, none⟩) ∧ e 3 = .pointer (some ⟨p2, 0, none⟩) ∧ e 4 = .pointer (some ⟨r, 0, none⟩) ∧ e 5 = .pointer (some ⟨r2, 0, none⟩) ∧ e 8 = .pointer (some ⟨b8, 0, none⟩) ∧ B = [yz, (w, No)] ∧ L = [(b8, cel [.bool (ng z), .slice az (sz (z).natAbs) cz] 25), (r2, cel [.bool false, .slice none 0 0] 25), (r, cel [.bool false, .slice none 0 0] 25), (p2, cel [.bool t, .slice a2 k2 c2] 25), (p, cel [.bool s, .slice a k c] 25)] ∧ Kn yz az (sz z.natAbs) cz z.natAbs ∧ New_ [(w, No)] az (sz z.natAbs) ∧ (fl (iv s n) (iv t m)) ≤ z ∧ z.natAbs ≤ n + 1) ?_ ?_
 ·refine c_heldI [1, 2, 3, 4] mixed ?_; refine h_two 0 1 (by kernel_rfl) (fun w h => (h).pick [1, 2, 3, 4] (by decide)) ?_ ?_
  ·refine o_run rfl rfl rfl (fun w h => R_ldb z25 rfl (h.at_ 0 rfl) rfl) ?_; refine h_one 1 (by kernel_rfl) (fun w h => (h).pick [1, 2, 3, 4] (by decide)) ?_; refine o_tel rfl (wn_none rfl) rfl (fun w => zR Tryz.func68 rfl rfl rfl) (fun w h => iOf_ok (x := 1) w ⟨by decide, by decide⟩) (fun x8 a8 c8 hK8 hN8 => ?_)
   refine h_one 2 (by kernel_rfl) (fun w h => (h.unbase (fun x hx => .tail _ (hx))).pick [1, 2, 3, 4] (by decide)) ?_; refine o_tel rfl (wn_none rfl) rfl (fun w => zR Tryz.func114 rfl rfl rfl) (fun w h => iAddI_ok (x := (iv (s != t) (n / m))) (y := 1) w (hK6.at_ 1 rfl h) (hK8.at_ 0 rfl h) ⟨by rw [hq9]; omega, by decide⟩) (fun x9 a9 c9 hK9 hN9 => ?_)
   refine h_one 3 (by kernel_rfl) (fun w h => (h.unbase (fun x hx => .tail _ (.tail _ (hx)))).pick [1, 2, 3, 4] (by decide)) ?_; refine o_store 0 rfl rfl z25 rfl rfl rfl rfl rfl rfl rfl ?_; refine h_done (by kernel_rfl) (fun w h => (h.unbase (fun x hx => .tail _ (.tail _ (hx)))).pick [1, 2, 3, 4] (by decide)) ?_; refine k_st (B' := [x9, (w, No)]) (L' := _) (fun w h => (h.pick [0, 1, 2, 3, 4] (by decide)).unbase (fun x hx => by rcases List.mem_cons.1 hx with rfl | hx; (exact (.head _)); rcases List.mem_cons.1 hx with rfl | hx; (exact (.tail _ (.tail _ (.tail _ (.tail _ (.head _)))))); exact absurd hx (by simp))) ?_; exact k_mid ⟨_, x9, a9, c9, rfl, rfl, rfl, rfl, rfl, rfl, rfl, hK9, fun y hy => hN9 y (by rcases List.mem_cons.1 hy with rfl | hy; (exact (.tail _ (.tail _ (.tail _ (.head _))))); exact absurd hy (by simp)), hqa.1, hqa.2.1⟩
  ·refine o_tel rfl (wn_none rfl) rfl (fun w => zR Tryz.func68 rfl rfl rfl) (fun w h => iOf_ok (x := 1) w ⟨by decide, by decide⟩) (fun x10 a10 c10 hK10 hN10 => ?_)
   refine h_one 0 (by kernel_rfl) (fun w h => (h.unbase (fun x hx => .tail _ (hx))).pick [1, 2, 3, 4] (by decide)) ?_; refine o_run rfl rfl rfl (fun w h => R_ldb z25 rfl (h.at_ 0 rfl) rfl) ?_; refine h_one 2 (by kernel_rfl) (fun w h => (h.unbase (fun x hx => .tail _ (hx))).pick [1, 2, 3, 4] (by decide)) ?_; refine o_tel rfl (wn_none rfl) rfl (fun w => zR Tryz.func114 rfl rfl rfl) (fun w h => iAddI_ok (x := (iv (s != t) (n / m))) (y := 1) w (hK6.at_ 1 rfl h) (hK10.at_ 0 rfl h) ⟨by rw [hq9]; omega, by decide⟩) (fun x11 a11 c11 hK11 hN11 => ?_)
   refine h_one 3 (by kernel_rfl) (fun w h => (h.unbase (fun x hx => .tail _ (.tail _ (hx)))).pick [1, 2, 3, 4] (by decide)) ?_; refine o_store 0 rfl rfl z25 rfl rfl rfl rfl rfl rfl rfl ?_; refine h_done (by kernel_rfl) (fun w h => (h.unbase (fun x hx => .tail _ (.tail _ (hx)))).pick [1, 2, 3, 4] (by decide)) ?_; refine k_st (B' := [x11, (w, No)]) (L' := _) (fun w h => (h.pick [0, 1, 2, 3, 4] (by decide)).unbase (fun x hx => by rcases List.mem_cons.1 hx with rfl | hx; (exact (.head _)); rcases List.mem_cons.1 hx with rfl | hx; (exact (.tail _ (.tail _ (.tail _ (.tail _ (.head _)))))); exact absurd hx (by simp))) ?_; exact k_mid ⟨_, x11, a11, c11, rfl, rfl, rfl, rfl, rfl, rfl, rfl, hK11, fun y hy => hN11 y (by rcases List.mem_cons.1 hy with rfl | hy; (exact (.tail _ (.tail _ (.tail _ (.head _))))); exact absurd hy (by simp)), hqa.1, hqa.2.1⟩
 rintro e B L ⟨z, yz, az, cz, e2_1, e3_1, e4_1, e5_1, e8_1, rfl, rfl, hKz, hNz, hfl, hzn⟩
 refine zB ?_; refine c_loop (fun m9 e B L => ∃ (z : Int) (yz : BaseW) (az : Option Addr) (cz : Nat), e 2 = .pointer (some ⟨p, 0, none⟩) ∧ e 3 = .pointer (some ⟨p2, 0, none⟩) ∧ e 4 = .pointer (some ⟨r, 0, none⟩) ∧ e 5 = .pointer (some ⟨r2, 0, none⟩) ∧ e 8 = .pointer (some ⟨b8, 0, none⟩) ∧ B = [yz, (w, No)] ∧ L = [(b8, cel [.bool (ng z), .slice az (sz (z).natAbs) cz] 25), (r2, cel [.bool false, .slice none 0 0] 25), (r, cel [.bool false, .slice none 0 0] 25), (p2, cel [.bool t, .slice a2 k2 c2] 25), (p, cel [.bool s, .slice a k c] 25)] ∧ Kn yz az (sz z.natAbs) cz z.natAbs ∧ New_ [(w, No)] az (sz z.natAbs) ∧ (fl (iv s n) (iv t m)) ≤ z ∧ z.natAbs ≤ n + 1 ∧ m9 = (z - (fl (iv s n) (iv t m))).toNat + 1) _ ⟨z, yz, az, cz, e2_1, e3_1, e4_1, e5_1, e8_1, rfl, rfl, hKz, hNz, hfl, hzn, rfl⟩ ?_
 rintro m9 e B L ⟨z, yz, az, cz, e2_2, e3_2, e4_2, e5_2, e8_2, rfl, rfl, hKz, hNz, hfl, hzn, rfl⟩
 have hzs := sz_up hzn
 have hml := mul_szI z (iv t m)
 have hym : (iv t m).natAbs = m := iv_abs t m
 rw [hym] at hml
 have hrl := sub_szI (iv s n) (z * (iv t m))
 have hxm : (iv s n).natAbs = n := iv_abs s n
 rw [hxm] at hrl
 refine zB ?_; refine c_cut (fun e B L => ∃ (yr : BaseW) (ar : Option Addr) (cr b9 : Nat), e 2 = .pointer (some ⟨p, 0, none⟩) ∧ e 3 = .pointer (some ⟨p2, 0, none⟩) ∧ e 4 = .pointer (some ⟨r, 0, none⟩) ∧ e 5 = .pointer (some ⟨r2, 0, none⟩) ∧ e 8 = .pointer (some ⟨b8, 0, none⟩) ∧ e 9 = .pointer (some ⟨b9, 0, none⟩) ∧ B = [yr, yz, (w, No)] ∧ L = [(b9, cel [.bool (ng ((iv s n) - z * (iv t m))), .slice ar (sz (((iv s n) - z * (iv t m))).natAbs) cr] 25), (b8, cel [.bool (ng z), .slice az (sz (z).natAbs) cz] 25), (r2, cel [.bool false, .slice none 0 0] 25), (r, cel [.bool false, .slice none 0 0] 25), (p2, cel [.bool t, .slice a2 k2 c2] 25), (p, cel [.bool s, .slice a k c] 25)] ∧ Kn yr ar (sz ((iv s n) - z * (iv t m)).natAbs) cr ((iv s n) - z * (iv t m)).natAbs ∧ New_ [(w, No)] ar (sz ((iv s n) - z * (iv t m)).natAbs)) ?_ ?_
 ·refine c_heldI [0, 1, 2, 3, 4] mixed ?_; refine h_loadA 0 rfl (by kernel_rfl) (fun w h => (h).pick [0, 1, 2, 3, 4] (by decide)) z25 e2_2 (fun _ h => h.at_ 4 rfl) rfl ?_; refine h_loadA 1 rfl (by kernel_rfl) (fun w h => (h).pick [0, 1, 2, 3, 4] (by decide)) z25 e8_2 (fun _ h => h.at_ 0 rfl) rfl ?_; refine h_loadA 2 rfl (by kernel_rfl) (fun w h => (h).pick [0, 1, 2, 3, 4] (by decide)) z25 e3_2 (fun _ h => h.at_ 3 rfl) rfl ?_; refine h_two 3 5 (by kernel_rfl) (fun w h => (h).pick [0, 1, 2, 3, 4] (by decide)) ?_ ?_
  ·refine o_tel rfl (wn_none rfl) rfl (fun w => zR Tryz.func116 rfl rfl rfl) (fun w h => iMulR_ok (x := z) (t := t) w (hKz.at_ 0 rfl h) ((Kn.old hA2).at_ 1 rfl h) ⟨by omega, by omega⟩) (fun x12 a12 c12 hK12 hN12 => ?_)
   refine h_two 4 5 (by kernel_rfl) (fun w h => (h.unbase (fun x hx => .tail _ (hx))).pick [0, 1, 2, 3, 4] (by decide)) ?_ ?_
   ·refine o_tel rfl (wn_none rfl) rfl (fun w => zR Tryz.func115 rfl rfl rfl) (fun w h => iSubR_ok (s := s) (y := z * (iv t m)) w ((Kn.old hA).at_ 2 rfl h) (hK12.at_ 0 rfl h) ⟨by omega, by omega⟩) (fun x13 a13 c13 hK13 hN13 => ?_)
    refine h_one 5 (by kernel_rfl) (fun w h => (h.unbase (fun x hx => .tail _ (.tail _ (hx)))).pick [0, 1, 2, 3, 4] (by decide)) ?_; refine o_alloc rfl zr25 (fun b9 gb9 ub9 => ?_)
    refine h_one 6 (by kernel_rfl) (fun w h => (h.unbase (fun x hx => .tail _ (.tail _ (hx)))).pick [1, 2, 3, 4, 5] (by decide)) ?_; refine o_store 0 rfl rfl z25 rfl rfl rfl rfl rfl rfl rfl ?_; refine h_done (by kernel_rfl) (fun w h => (h.unbase (fun x hx => .tail _ (.tail _ (hx)))).pick [1, 2, 3, 4, 5] (by decide)) ?_; refine k_st (B' := [x13, yz, (w, No)]) (L' := _) (fun w h => (h.pick [0, 1, 2, 3, 4, 5] (by decide)).unbase (fun x hx => by rcases List.mem_cons.1 hx with rfl | hx; (exact (.head _)); rcases List.mem_cons.1 hx with rfl | hx; (exact (.tail _ (.tail _ (.head _)))); rcases List.mem_cons.1 hx with rfl | hx; (exact (.tail _ (.tail _ (.tail _ (.head _))))); exact absurd hx (by simp))) ?_
    exact k_mid ⟨x13, a13, c13, b9, e2_2, e3_2, e4_2, e5_2, e8_2, rfl, rfl, rfl, hK13, fun y hy => hN13 y (by rcases List.mem_cons.1 hy with rfl | hy; (exact (.tail _ (.tail _ (.head _)))); exact absurd hy (by simp))⟩
   ·refine o_alloc rfl zr25 (fun b9 gb9 ub9 => ?_)
    refine h_one 4 (by kernel_rfl) (fun w h => (h.unbase (fun x hx => .tail _ (hx))).pick [1, 2, 3, 4, 5] (by decide)) ?_; refine o_tel rfl (wn_none rfl) rfl (fun w => zR Tryz.func115 rfl rfl rfl) (fun w h => iSubR_ok (s := s) (y := z * (iv t m)) w ((Kn.old hA).at_ 2 rfl h) (hK12.at_ 0 rfl h) ⟨by omega, by omega⟩) (fun x14 a14 c14 hK14 hN14 => ?_)
    refine h_one 6 (by kernel_rfl) (fun w h => (h.unbase (fun x hx => .tail _ (.tail _ (hx)))).pick [1, 2, 3, 4, 5] (by decide)) ?_; refine o_store 0 rfl rfl z25 rfl rfl rfl rfl rfl rfl rfl ?_; refine h_done (by kernel_rfl) (fun w h => (h.unbase (fun x hx => .tail _ (.tail _ (hx)))).pick [1, 2, 3, 4, 5] (by decide)) ?_; refine k_st (B' := [x14, yz, (w, No)]) (L' := _) (fun w h => (h.pick [0, 1, 2, 3, 4, 5] (by decide)).unbase (fun x hx => by rcases List.mem_cons.1 hx with rfl | hx; (exact (.head _)); rcases List.mem_cons.1 hx with rfl | hx; (exact (.tail _ (.tail _ (.head _)))); rcases List.mem_cons.1 hx with rfl | hx; (exact (.tail _ (.tail _ (.tail _ (.head _))))); exact absurd hx (by simp))) ?_
    exact k_mid ⟨x14, a14, c14, b9, e2_2, e3_2, e4_2, e5_2, e8_2, rfl, rfl, rfl, hK14, fun y hy => hN14 y (by rcases List.mem_cons.1 hy with rfl | hy; (exact (.tail _ (.tail _ (.head _)))); exact absurd hy (by simp))⟩
  ·refine o_alloc rfl zr25 (fun b9 gb9 ub9 => ?_)
   refine h_one 3 (by kernel_rfl) (fun w h => (h).pick [1, 2, 3, 4, 5] (by decide)) ?_; refine o_tel rfl (wn_none rfl) rfl (fun w => zR Tryz.func116 rfl rfl rfl) (fun w h => iMulR_ok (x := z) (t := t) w (hKz.at_ 0 rfl h) ((Kn.old hA2).at_ 1 rfl h) ⟨by omega, by omega⟩) (fun x15 a15 c15 hK15 hN15 => ?_)
   refine h_one 4 (by kernel_rfl) (fun w h => (h.unbase (fun x hx => .tail _ (hx))).pick [1, 2, 3, 4, 5] (by decide)) ?_; refine o_tel rfl (wn_none rfl) rfl (fun w => zR Tryz.func115 rfl rfl rfl) (fun w h => iSubR_ok (s := s) (y := z * (iv t m)) w ((Kn.old hA).at_ 2 rfl h) (hK15.at_ 0 rfl h) ⟨by omega, by omega⟩) (fun x16 a16 c16 hK16 hN16 => ?_)
   refine h_one 6 (by kernel_rfl) (fun w h => (h.unbase (fun x hx => .tail _ (.tail _ (hx)))).pick [1, 2, 3, 4, 5] (by decide)) ?_; refine o_store 0 rfl rfl z25 rfl rfl rfl rfl rfl rfl rfl ?_; refine h_done (by kernel_rfl) (fun w h => (h.unbase (fun x hx => .tail _ (.tail _ (hx)))).pick [1, 2, 3, 4, 5] (by decide)) ?_; refine k_st (B' := [x16, yz, (w, No)]) (L' := _) (fun w h => (h.pick [0, 1, 2, 3, 4, 5] (by decide)).unbase (fun x hx => by rcases List.mem_cons.1 hx with rfl | hx; (exact (.head _)); rcases List.mem_cons.1 hx with rfl | hx; (exact (.tail _ (.tail _ (.head _)))); rcases List.mem_cons.1 hx with rfl | hx; (exact (.tail _ (.tail _ (.tail _ (.head _))))); exact absurd hx (by simp))) ?_
   exact k_mid ⟨x16, a16, c16, b9, e2_2, e3_2, e4_2, e5_2, e8_2, rfl, rfl, rfl, hK16, fun y hy => hN16 y (by rcases List.mem_cons.1 hy with rfl | hy; (exact (.tail _ (.tail _ (.head _)))); exact absurd hy (by simp))⟩
 rintro e B L ⟨yr, ar, cr, b9, e2_3, e3_3, e4_3, e5_3, e8_3, e9_3, rfl, rfl, hKr, hNr⟩
 refine zq ?_; refine zq ?_; refine c_heldS mixed ?_; refine h_loadA 0 rfl (by kernel_rfl) (fun w h => h) z25 e9_3 (fun _ h => h.at_ 0 rfl) rfl ?_; refine h_one 1 (by kernel_rfl) (fun w h => h) ?_; refine o_pureW rfl (wn_none rfl) rfl (fun w => zR Tryz.func50 rfl rfl rfl) (fun w h => iSignI_ok (x := ((iv s n) - z * (iv t m))) w (hKr.at_ 0 rfl h) (by omega)) ?_; refine zh 2 rfl (by kernel_rfl) rfl rfl (fun w h => h) (fun w h => R_eq rfl rfl) ?_; refine zh (v := .bool _) 3 rfl (by kernel_rfl) rfl rfl (fun w h => h) (fun w h => R_move rfl) ?_; refine h_splitD (t := 37) rfl (fun h17 => ?_) (fun h17 => ?_)
 ·have heq := fl_end hY0 hfl (.inl (Int.sign_eq_zero_iff_zero.1 h17))
  refine h_skip 4 rfl (by kernel_rfl) rfl rfl rfl (bT h17) rfl (fun w h => h) ?_; refine h_skip 5 rfl (by kernel_rfl) rfl rfl rfl (bT h17) rfl (fun w h => h) ?_; refine h_skip 6 rfl (by kernel_rfl) rfl rfl rfl (bT h17) rfl (fun w h => h) ?_; refine h_skip 7 rfl (by kernel_rfl) rfl rfl rfl (bT h17) rfl (fun w h => h) ?_; refine h_skip 8 rfl (by kernel_rfl) rfl rfl rfl (bT h17) rfl (fun w h => h) ?_; refine zh (v := .bool _) 9 rfl (by kernel_rfl) rfl rfl (fun w h => h) (fun w h => zT (bT h17) rfl) ?_; refine h_done (by kernel_rfl) (fun w h => h) ?_; refine zk ?_; refine zE rfl ?_; refine zq ?_; refine c_heldI [0, 1, 4, 5] mixed ?_; refine h_loadA 0 rfl (by kernel_rfl) (fun w h => (h).pick [0, 1, 4, 5] (by decide)) z25 e8_3 (fun _ h => h.at_ 1 rfl) rfl ?_
  refine h_loadA 1 rfl (by kernel_rfl) (fun w h => (h).pick [0, 1, 4, 5] (by decide)) z25 e9_3 (fun _ h => h.at_ 0 rfl) rfl ?_; refine h_one 2 (by kernel_rfl) (fun w h => (h).pick [0, 1, 4, 5] (by decide)) ?_; refine o_store 3 rfl rfl z25 e4_3 rfl rfl rfl rfl rfl rfl ?_; refine h_one 3 (by kernel_rfl) (fun w h => (h).pick [0, 1, 4, 5] (by decide)) ?_; refine o_store 2 rfl rfl z25 e5_3 rfl rfl rfl rfl rfl rfl ?_; refine h_done (by kernel_rfl) (fun w h => (h).pick [0, 1, 4, 5] (by decide)) ?_; refine zk ?_; refine ze ?_; refine zt (zb (zt (zb (?_))))
  rw [← heq]
  refine r_fin (.inl rfl) rfl (.agg rfl e4_3 z25 (fun _ h => h.at_ 3 rfl) rfl (.agg rfl e5_3 z25 (fun _ h => h.at_ 2 rfl) rfl .nil)) ?_; exact fun w' hw => ⟨_, _, _, _, rfl, (hKz.at_ 1 rfl hw), (hKr.at_ 0 rfl hw), hNz _ (.head _), hNr _ (.head _), hw.fr (w, No) (.tail _ (.tail _ (.head _)))⟩
 ·refine h_takeG 4 rfl (by kernel_rfl) rfl rfl rfl (bF h17) rfl (fun w h => h) (fun w h => R_ldb z25 e9_3 (h.at_ 0 rfl) rfl) ?_; refine h_takeG 6 rfl (by kernel_rfl) rfl rfl rfl (bF h17) rfl (fun w h => h) (fun w h => R_ldb z25 e3_3 (h.at_ 4 rfl) rfl) ?_; refine h_one 5 (by kernel_rfl) (fun w h => h) ?_; refine o_pureW rfl (wn_yes rfl rfl rfl (bF h17)) rfl (fun w => zR Tryz.func50 rfl rfl rfl) (fun w h => iSignI_ok (x := ((iv s n) - z * (iv t m))) w (hKr.at_ 0 rfl h) (by omega)) ?_; refine h_one 7 (by kernel_rfl) (fun w h => h) ?_; refine o_pureW rfl (wn_yes rfl rfl rfl (bF h17)) rfl (fun w => zR Tryz.func50 rfl rfl rfl) (fun w h => iSign_ok t w ((Kn.old hA2).at_ 2 rfl h) (by omega)) ?_; refine h_takeG 8 rfl (by kernel_rfl) rfl rfl rfl (bF h17) rfl (fun w h => h) (fun w h => R_eq rfl rfl) ?_
  refine zh (v := .bool _) 9 rfl (by kernel_rfl) rfl rfl (fun w h => h) (fun w h => zF (bF h17) rfl) ?_; refine h_done (by kernel_rfl) (fun w h => h) ?_; refine zk ?_; refine zD rfl (fun h18 => ?_) (fun h18 => ?_)
  ·have heq := fl_end hY0 hfl (.inr h18)
   refine zq ?_; refine c_heldI [0, 1, 4, 5] mixed ?_; refine h_loadA 0 rfl (by kernel_rfl) (fun w h => (h).pick [0, 1, 4, 5] (by decide)) z25 e8_3 (fun _ h => h.at_ 1 rfl) rfl ?_; refine h_loadA 1 rfl (by kernel_rfl) (fun w h => (h).pick [0, 1, 4, 5] (by decide)) z25 e9_3 (fun _ h => h.at_ 0 rfl) rfl ?_; refine h_one 2 (by kernel_rfl) (fun w h => (h).pick [0, 1, 4, 5] (by decide)) ?_; refine o_store 3 rfl rfl z25 e4_3 rfl rfl rfl rfl rfl rfl ?_; refine h_one 3 (by kernel_rfl) (fun w h => (h).pick [0, 1, 4, 5] (by decide)) ?_; refine o_store 2 rfl rfl z25 e5_3 rfl rfl rfl rfl rfl rfl ?_; refine h_done (by kernel_rfl) (fun w h => (h).pick [0, 1, 4, 5] (by decide)) ?_; refine zk ?_; refine ze ?_; refine zt (zb (zt (zb (?_))))
   rw [← heq]
   refine r_fin (.inl rfl) rfl (.agg rfl e4_3 z25 (fun _ h => h.at_ 3 rfl) rfl (.agg rfl e5_3 z25 (fun _ h => h.at_ 2 rfl) rfl .nil)) ?_; exact fun w' hw => ⟨_, _, _, _, rfl, (hKz.at_ 1 rfl hw), (hKr.at_ 0 rfl hw), hNz _ (.head _), hNr _ (.head _), hw.fr (w, No) (.tail _ (.tail _ (.head _)))⟩
  ·have hdn := fl_down hY0 (c := z) (fun h => h.elim (fun h => h17 (by rw [h]; rfl)) h18); have hab := hqa.2.2
   refine zi ?_; refine zk ?_; refine c_heldI [0, 2, 3, 4, 5] mixed ?_; refine h_two 0 1 (by kernel_rfl) (fun w h => (h).pick [0, 2, 3, 4, 5] (by decide)) ?_ ?_
   ·refine o_run rfl rfl rfl (fun w h => R_ldb z25 e8_3 (h.at_ 1 rfl) rfl) ?_; refine h_one 1 (by kernel_rfl) (fun w h => (h).pick [0, 2, 3, 4, 5] (by decide)) ?_; refine o_tel rfl (wn_none rfl) rfl (fun w => zR Tryz.func68 rfl rfl rfl) (fun w h => iOf_ok (x := 1) w ⟨by decide, by decide⟩) (fun x19 a19 c19 hK19 hN19 => ?_)
    refine h_one 2 (by kernel_rfl) (fun w h => (h.unbase (fun x hx => .tail _ (hx))).pick [0, 2, 3, 4, 5] (by decide)) ?_; refine o_tel rfl (wn_none rfl) rfl (fun w => zR Tryz.func115 rfl rfl rfl) (fun w h => iSubI_ok (x := z) (y := 1) w (hKz.at_ 2 rfl h) (hK19.at_ 0 rfl h) ⟨by omega, by decide⟩) (fun x20 a20 c20 hK20 hN20 => ?_)
    refine h_one 3 (by kernel_rfl) (fun w h => (h.unbase (fun x hx => .tail _ (.tail _ (hx)))).pick [0, 2, 3, 4, 5] (by decide)) ?_; refine o_store 1 rfl rfl z25 e8_3 rfl rfl rfl rfl rfl rfl ?_; refine h_done (by kernel_rfl) (fun w h => (h.unbase (fun x hx => .tail _ (.tail _ (hx)))).pick [0, 2, 3, 4, 5] (by decide)) ?_; refine b_on (?_)
    refine k_st (B' := [x20, (w, No)]) (L' := _) (fun w h => (h.pick [1, 2, 3, 4, 5] (by decide)).unbase (fun x hx => by rcases List.mem_cons.1 hx with rfl | hx; (exact (.head _)); rcases List.mem_cons.1 hx with rfl | hx; (exact (.tail _ (.tail _ (.tail _ (.tail _ (.head _)))))); exact absurd hx (by simp))) ?_; exact k_again _ (by omega) ⟨_, x20, a20, c20, e2_3, e3_3, e4_3, e5_3, e8_3, rfl, rfl, hK20, fun y hy => hN20 y (by rcases List.mem_cons.1 hy with rfl | hy; (exact (.tail _ (.tail _ (.tail _ (.head _))))); exact absurd hy (by simp)), hdn, by omega, rfl⟩
   ·refine o_tel rfl (wn_none rfl) rfl (fun w => zR Tryz.func68 rfl rfl rfl) (fun w h => iOf_ok (x := 1) w ⟨by decide, by decide⟩) (fun x21 a21 c21 hK21 hN21 => ?_)
    refine h_one 0 (by kernel_rfl) (fun w h => (h.unbase (fun x hx => .tail _ (hx))).pick [0, 2, 3, 4, 5] (by decide)) ?_; refine o_run rfl rfl rfl (fun w h => R_ldb z25 e8_3 (h.at_ 1 rfl) rfl) ?_; refine h_one 2 (by kernel_rfl) (fun w h => (h.unbase (fun x hx => .tail _ (hx))).pick [0, 2, 3, 4, 5] (by decide)) ?_; refine o_tel rfl (wn_none rfl) rfl (fun w => zR Tryz.func115 rfl rfl rfl) (fun w h => iSubI_ok (x := z) (y := 1) w (hKz.at_ 2 rfl h) (hK21.at_ 0 rfl h) ⟨by omega, by decide⟩) (fun x22 a22 c22 hK22 hN22 => ?_)
    refine h_one 3 (by kernel_rfl) (fun w h => (h.unbase (fun x hx => .tail _ (.tail _ (hx)))).pick [0, 2, 3, 4, 5] (by decide)) ?_; refine o_store 1 rfl rfl z25 e8_3 rfl rfl rfl rfl rfl rfl ?_; refine h_done (by kernel_rfl) (fun w h => (h.unbase (fun x hx => .tail _ (.tail _ (hx)))).pick [0, 2, 3, 4, 5] (by decide)) ?_; refine b_on (?_)
    refine k_st (B' := [x22, (w, No)]) (L' := _) (fun w h => (h.pick [1, 2, 3, 4, 5] (by decide)).unbase (fun x hx => by rcases List.mem_cons.1 hx with rfl | hx; (exact (.head _)); rcases List.mem_cons.1 hx with rfl | hx; (exact (.tail _ (.tail _ (.tail _ (.tail _ (.head _)))))); exact absurd hx (by simp))) ?_; exact k_again _ (by omega) ⟨_, x22, a22, c22, e2_3, e3_3, e4_3, e5_3, e8_3, rfl, rfl, hK22, fun y hy => hN22 y (by rcases List.mem_cons.1 hy with rfl | hy; (exact (.tail _ (.tail _ (.tail _ (.head _))))); exact absurd hy (by simp)), hdn, by omega, rfl⟩
end Go.Proofs.YtoapegnngbhkbaaGreatDoor
end
section
namespace Go.Proofs.YtoapegnngbhkbaaGreatDoor
open Go.RowKit Go.Sx
open Go.Num
theorem iNormN_ok (s : Bool) {a : Option Addr} {k c n : Nat} (w : World) (hA : Nm w a k c n) (hk : k ≤ 4000000) : Ret Tryz.prog 35 #[.agg #[.bool s, .slice a k c]] w (Tel (fun a c => .agg #[.bool (s && decide (n ≠ 0)), .slice a (sz n) c]) (sz n) n w) := by
 have := iNorm_ok s w hA hk
 rwa [ng_iv, iv_abs] at this
theorem even_tz {n i : Nat} (hi : i ≤ tz n) (h : n / 2 ^ i % 2 ≠ 1) (hn : n ≠ 0) : i + 1 ≤ tz n := by
 rcases Nat.lt_or_ge i (tz n) with h1 | h1
 ·exact h1
 ·exact absurd (tz_at hn) (by rw [show tz n = i by omega]; exact h)
set_option maxRecDepth 100000 in
set_option maxHeartbeats 400000 in
theorem jSmall_ok (s : Bool) (E : Int) (a : Option Addr) (k c : Nat) (w : World) :
  Ret Tryz.prog 5 #[.agg #[.bool s, .slice a k c, .int .i64 E]] w (fun v w' => v = .bool (decide (k ≤ 4 ∧ -300 ≤ E ∧ E ≤ 300)) ∧ Ext w w') := by
 refine enter (S := No) (l := [_]) (L := []) 18 Tryz.func5 rfl rfl rfl (St.start w No) ?_; refine yA ?_; refine w_boxA rfl (fun p gp up => ?_)
 refine aB rfl ?_; refine yC ?_; refine zf fa27_0 rfl ?_; refine zf fa25_1 rfl ?_; refine zl z23 rfl (fun _ h => zc 0 rfl rfl h) ?_; refine w_r (fun _ => R_len sl23 rfl) rfl rfl ?_; refine w_r (fun _ => R_leN (a := k) (b := 4) rfl rfl) rfl rfl ?_; refine mB rfl ?_; refine zd (t := 8) rfl (fun h2 => ?_) (fun h2 => ?_)
 ·refine zw rfl rfl (bT h2) ?_; refine zf fa27_1 rfl ?_; refine zw rfl rfl (bT h2) ?_; refine zl z3 rfl (fun _ h => zc 0 rfl rfl h) ?_; refine zw rfl rfl (bT h2) ?_; refine w_r (fun _ => R_ge rfl rfl) rfl rfl ?_; refine w_r (v := .bool _) (fun _ => zT (bT h2) rfl) rfl rfl ?_; refine mB rfl ?_; refine zd (t := 13) rfl (fun h3 => ?_) (fun h3 => ?_)
  ·refine zw rfl rfl (bT h3) ?_; refine zf fa27_1 rfl ?_; refine zw rfl rfl (bT h3) ?_; refine zl z3 rfl (fun _ h => zc 0 rfl rfl h) ?_; refine zw rfl rfl (bT h3) ?_; refine w_r (fun _ => R_le rfl rfl) rfl rfl ?_; refine w_r (v := .bool _) (fun _ => zT (bT h3) rfl) rfl rfl ?_; refine aB rfl ?_; refine yB ?_; refine ze ?_; refine zo (v := .bool _) rfl rfl rfl ?_; exact fun w' hw => ⟨by congr 1; exact decide_eq_decide.2 (by omega), hw.fr (w, No) (.head _)⟩
  ·refine zs rfl rfl (bF h3) ?_; refine zs rfl rfl (bF h3) ?_; refine zs rfl rfl (bF h3) ?_; refine w_r (v := .bool _) (fun _ => zF (bF h3) rfl) rfl rfl ?_; refine aB rfl ?_; refine yB ?_; refine ze ?_; refine zo (v := .bool _) rfl rfl rfl ?_; exact fun w' hw => ⟨by congr 1; exact (decide_eq_false (by omega)).symm, hw.fr (w, No) (.head _)⟩
 ·refine zs rfl rfl (bF h2) ?_; refine zs rfl rfl (bF h2) ?_; refine zs rfl rfl (bF h2) ?_; refine w_r (v := .bool _) (fun _ => zF (bF h2) rfl) rfl rfl ?_; refine mB rfl ?_; refine zs rfl rfl rfl ?_; refine zs rfl rfl rfl ?_; refine zs rfl rfl rfl ?_; refine w_r (v := .bool _) (fun _ => zF rfl rfl) rfl rfl ?_; refine aB rfl ?_; refine yB ?_; refine ze ?_; refine zo (v := .bool _) rfl rfl rfl ?_; exact fun w' hw => ⟨by congr 1; exact (decide_eq_false (by omega)).symm, hw.fr (w, No) (.head _)⟩
set_option maxRecDepth 100000 in
set_option maxHeartbeats 1000000 in
theorem jNorm_ok (s : Bool) (E : Int) {a : Option Addr} {k c n : Nat} (w : World) (hA : Nm w a k c n) (hs : k ≤ 1000 ∧ sz n ≤ 2047 ∧ -4611686018427387904 ≤ E ∧ E ≤ 4611686018427387904) :
  Ret Tryz.prog 12 #[.agg #[.bool s, .slice a k c, .int .i64 E]] w (Tel (fun a c => .agg #[.bool (ng ((nd (iv s n) E)).1), .slice a (sz ((nd (iv s n) E)).1.natAbs) c, .int .i64 ((nd (iv s n) E)).2]) (sz ((nd (iv s n) E)).1.natAbs) ((nd (iv s n) E)).1.natAbs w) := by
 have hn20 : n / 2 ^ 0 = n := by rw [Nat.pow_zero, Nat.div_one]
 refine enter (S := No) (l := [_]) (L := []) 28 Tryz.func12 rfl rfl rfl (St.start w No) ?_; refine yA ?_; refine w_boxA rfl (fun p gp up => ?_)
 refine w_alloc zr27 (fun r gr ur => ?_)
 refine yC ?_; refine zf fa27_0 rfl ?_; refine w_loadA z25 rfl (fun _ h => h.at_ 1 rfl) rfl ?_; refine w_tel (fun w => zR Tryz.func35 rfl rfl rfl) rfl rfl (fun w h => iNormN_ok s w ((Kn.old hA).at_ 0 rfl h) (by omega)) (fun x0 a0 c0 hK0 hN0 => ?_)
 refine w_alloc zr25 (fun b3 gb3 ub3 => ?_)
 refine w_store 0 rfl z25 rfl rfl rfl rfl rfl rfl rfl ?_; refine yB ?_; refine zq ?_; refine yA ?_; refine zf fa25_1 rfl ?_; refine zl z23 rfl (fun _ h => zc 0 rfl rfl h) ?_; refine w_r (fun _ => R_len sl23 rfl) rfl rfl ?_; refine w_r (fun _ => R_eqN (a := (sz n)) (b := 0) rfl rfl) rfl rfl ?_; refine yB ?_; refine zD rfl (fun h5 => ?_) (fun h5 => ?_)
 ·obtain rfl : n = 0 := sz_eq_zero.1 (by omega)
  refine yA ?_; refine w_r (fun _ => R_build bt27 rfl) rfl rfl ?_; refine w_store 1 rfl z27 rfl rfl rfl rfl rfl rfl rfl ?_; refine yB ?_; refine ze ?_; refine zt (?_)
  rw [iv_zero, nd_zero]
  refine r_fin (.inl rfl) rfl (.agg rfl rfl z27 (fun _ h => h.at_ 1 rfl) rfl .nil) ?_; exact fun w' hw => ⟨none, 0, rfl, Nm.nil _, Fsh.nil _ _, hw.fr (w, No) (.tail _ (.head _))⟩
 ·have hn0 : n ≠ 0 := (fun h => h5 (by rw [h]; rfl)); rw [show (s && decide (n ≠ 0)) = s by rw [decide_eq_true hn0, Bool.and_true]]
  refine zi ?_; refine zk ?_; refine yA ?_; refine zf fa27_1 rfl ?_; refine zl z3 rfl (fun _ h => zc 2 rfl rfl h) ?_; refine aI rfl ?_; refine yB ?_; refine zq ?_; refine zB ?_; refine c_st (B' := [x0, (w, No)]) (L' := [(b3, cel [.bool s, .slice a0 (sz (n / 2 ^ 0)) c0] 25), (r, cel [.bool false, .slice none 0 0, .int .i64 0] 27), (p, cel [.bool s, .slice a k c, .int .i64 E] 27)]) (fun w h => by rw [hn20]; exact h) ?_
  refine c_loop (fun m9 e B L => ∃ (i : Nat) (yi : BaseW) (ai : Option Addr) (ci : Nat), e 1 = .pointer (some ⟨p, 0, none⟩) ∧ e 2 = .pointer (some ⟨r, 0, none⟩) ∧ e 3 = .pointer (some ⟨b3, 0, none⟩) ∧ e 4 = .int .i64 (E + (i : Int)) ∧ B = [yi, (w, No)] ∧ L = [(b3, cel [.bool s, .slice ai (sz (n / 2 ^ i)) ci] 25), (r, cel [.bool false, .slice none 0 0, .int .i64 0] 27), (p, cel [.bool s, .slice a k c, .int .i64 E] 27)] ∧ i ≤ tz n ∧ Kn yi ai (sz (n / 2 ^ i)) ci (n / 2 ^ i) ∧ New_ [(w, No)] ai (sz (n / 2 ^ i)) ∧ m9 = tz n - i) _ ⟨0, x0, a0, c0, rfl, rfl, rfl, (congrArg (fun z : Int => Value.int .i64 z) (by omega)), rfl, rfl, Nat.zero_le _, by rw [hn20]; exact hK0, by rw [hn20]; exact hN0, rfl⟩ ?_
  rintro m9 e B L ⟨i, yi, ai, ci, e1_1, e2_1, e3_1, e4_1, rfl, rfl, hi, hKi, hNi, rfl⟩
  have htz := tz_bl hn0; have hbz := bl_sz hs.2.1; have hdi := sz_mono (Nat.div_le_self n (2 ^ i))
  refine zq ?_; refine yA ?_; refine zf fa25_1 e3_1 ?_; refine zl z23 rfl (fun _ h => zc 0 rfl rfl h) ?_; refine zC (fun w => zR Tryz.func36 rfl rfl rfl) rfl rfl (fun w h => rBit_ok w (hKi.at_ 0 rfl h) 0 ⟨by omega, by decide⟩) ?_; refine w_r (fun _ => R_not rfl) rfl rfl ?_; refine yB ?_; refine c_condN rfl (fun h6 => ?_) (fun h6 => ?_)
  ·have hi2 := even_tz hi (by have := of_decide_eq_false h6; rwa [Nat.pow_zero, Nat.div_one] at this) hn0
   refine zi ?_; refine zk ?_; refine zB ?_; refine yA ?_; refine zf fa25_1 e3_1 ?_; refine zl z23 rfl (fun _ h => zc 0 rfl rfl h) ?_; refine w_tel (fun w => zR Tryz.func37 rfl rfl rfl) rfl rfl (fun w h => (by have := rShr_ok w (hKi.at_ 0 rfl h) 1 ⟨by omega, by decide⟩; rwa [Nat.pow_one, Nat.div_div_eq_div_mul, ← Nat.pow_succ] at this)) (fun xv av cv hKv hNv => ?_)
   refine zf fa25_1 e3_1 ?_; refine w_store 0 rfl z23 rfl rfl rfl rfl rfl rfl rfl ?_; refine yB ?_; refine zr ?_; refine mI e4_1 ?_; refine w_r (fun _ => R_addi rfl rfl (by omega)) rfl rfl ?_; refine aI rfl ?_; refine zn ?_; refine b_on (?_)
   refine k_st (B' := [xv, (w, No)]) (L' := _) (fun w h => (h.pick [0, 1, 2] (by decide)).unbase (fun x hx => by rcases List.mem_cons.1 hx with rfl | hx; (exact (.head _)); rcases List.mem_cons.1 hx with rfl | hx; (exact (.tail _ (.tail _ (.head _)))); exact absurd hx (by simp))) ?_; exact k_again _ (by omega) ⟨i + 1, xv, av, cv, e1_1, e2_1, e3_1, (congrArg (fun z : Int => Value.int .i64 z) (by omega)), rfl, rfl, hi2, hKv, fun y hy => hNv y (by rcases List.mem_cons.1 hy with rfl | hy; (exact (.tail _ (.head _))); exact absurd hy (by simp)), rfl⟩
  ·have hiz : i = tz n := Nat.le_antisymm hi (tz_least i n (by have := of_decide_eq_true h6; rwa [Nat.pow_zero, Nat.div_one] at this))
   refine c_exit ?_; refine zx (zx (b_here rfl (zk ?_))); refine yA ?_; refine w_loadA z25 e3_1 (fun _ h => h.at_ 0 rfl) rfl ?_; refine mI e4_1 ?_; refine w_r (fun _ => R_build bt27 rfl) rfl rfl ?_; refine w_store 1 rfl z27 e2_1 rfl rfl rfl rfl rfl rfl ?_; refine yB ?_; refine ze ?_
   have hnd := nd_all (s := s) E hn0
   rw [hnd.1, hnd.2.1, hnd.2.2, show od n = n / 2 ^ i from by rw [hiz]; rfl, ← hiz]
   refine r_fin (.inl rfl) rfl (.agg rfl e2_1 z27 (fun _ h => h.at_ 1 rfl) rfl .nil) ?_; exact fun w' hw => ⟨_, _, rfl, (hKi.at_ 0 rfl hw), (hNi _ (.head _)), hw.fr (w, No) (.tail _ (.head _))⟩
theorem jNormI_ok (x E : Int) {a : Option Addr} {c : Nat} (w : World) (hA : Nm w a (sz x.natAbs) c x.natAbs) (hs : sz x.natAbs ≤ 1000 ∧ -4611686018427387904 ≤ E ∧ E ≤ 4611686018427387904) : Ret Tryz.prog 12 #[.agg #[.bool (ng x), .slice a (sz x.natAbs) c, .int .i64 E]] w (Tel (fun a c => .agg #[.bool (ng (nd x E).1), .slice a (sz (nd x E).1.natAbs) c, .int .i64 (nd x E).2]) (sz (nd x E).1.natAbs) (nd x E).1.natAbs w) := by
 have := jNorm_ok (ng x) E w hA ⟨hs.1, by omega, hs.2⟩
 rwa [iv_ng] at this
theorem pair_eq {y z : Int × Int} (h : y.1 = z.1) (h2 : y.2 = z.2) : y = z := Prod.ext h h2
theorem dg_par {y : Int × Int} (hno : (y.1 = 0 → y.2 = 0) ∧ (y.1 ≠ 0 → y.1.natAbs % 2 = 1)) (h : 0 < sz y.1.natAbs) : dg Go.Num.B y.1.natAbs 0 % 2 = 1 := by
 have h0 : y.1 ≠ 0 := fun h0 => by rw [h0] at h; exact absurd h (by decide)
 unfold dg
 rw [Nat.pow_zero, Nat.div_one, Nat.mod_mod_of_dvd _ (by decide)]
 exact hno.2 h0
theorem nd_norm {y : Int × Int} (hy : y = nd y.1 y.2) : (y.1 = 0 → y.2 = 0) ∧ (y.1 ≠ 0 → y.1.natAbs % 2 = 1) := by
 refine ⟨fun h => ?_, fun h => ?_⟩
 ·rw [h, nd_zero] at hy; rw [hy]
 ·have h1 : y.2 = y.2 + (tz y.1.natAbs : Int) := by
   have := congrArg Prod.snd hy
   rw [nd_of h] at this
   exact this
  have h2 : tz y.1.natAbs = 0 := by omega
  have := tz_at (n := y.1.natAbs) (by omega)
  rwa [h2, Nat.pow_zero, Nat.div_one] at this
set_option maxRecDepth 100000 in
set_option maxHeartbeats 1000000 in
theorem jSame_ok (y z : Int × Int) {a : Option Addr} {c : Nat} {a2 : Option Addr} {c2 : Nat} (w : World) (hA : Nm w a (sz y.1.natAbs) c y.1.natAbs) (hA2 : Nm w a2 (sz z.1.natAbs) c2 z.1.natAbs) (hy : y = nd y.1 y.2) (hs : sz y.1.natAbs ≤ 1000 ∧ sz z.1.natAbs ≤ 1000) :
  Ret Tryz.prog 11 #[.agg #[.bool (ng y.1), .slice a (sz y.1.natAbs) c, .int .i64 y.2], .agg #[.bool (ng z.1), .slice a2 (sz z.1.natAbs) c2, .int .i64 z.2]] w (fun v w' => v = .bool (decide (y = z)) ∧ Ext w w') := by
 have hno := nd_norm hy
 refine enter (S := No) (l := [_, _]) (L := []) 45 Tryz.func11 rfl rfl rfl (St.start w No) ?_; refine yA ?_; refine w_boxA rfl (fun p gp up => ?_)
 refine w_boxA rfl (fun p2 gp2 up2 => ?_)
 refine aB rfl ?_; refine yC ?_; refine zf fa27_1 rfl ?_; refine zl z3 rfl (fun _ h => zc 1 rfl rfl h) ?_; refine zf fa27_1 rfl ?_; refine zl z3 rfl (fun _ h => zc 0 rfl rfl h) ?_; refine w_r (fun _ => R_eq rfl rfl) rfl rfl ?_; refine mB rfl ?_; refine zd (t := 10) rfl (fun h3 => ?_) (fun h3 => ?_)
 ·refine zw rfl rfl (bT h3) ?_; refine zf fa27_0 rfl ?_; refine zw rfl rfl (bT h3) ?_; refine w_loadA z25 rfl (fun _ h => h.at_ 1 rfl) rfl ?_; refine zw rfl rfl (bT h3) ?_; refine zf fa27_0 rfl ?_; refine zw rfl rfl (bT h3) ?_; refine w_loadA z25 rfl (fun _ h => h.at_ 0 rfl) rfl ?_; refine zw rfl rfl (bT h3) ?_; refine zC (fun w => zR Tryz.func18 rfl rfl rfl) rfl rfl (fun w h => iSame_ok y.1 z.1 w ((Kn.old hA).at_ 0 rfl h) ((Kn.old hA2).at_ 0 rfl h) ⟨by omega, by omega⟩) ?_; refine w_r (v := .bool _) (fun _ => zT (bT h3) rfl) rfl rfl ?_; refine mB rfl ?_; refine zp (t := 17) rfl (fun h4 => ?_) (fun h4 => ?_)
  ·have heq := pair_eq (of_decide_eq_true h4) h3
   refine zw rfl rfl (bV h4) ?_; refine zf fa27_0 rfl ?_; refine zw rfl rfl (bV h4) ?_; refine zf fa25_1 rfl ?_; refine zw rfl rfl (bV h4) ?_; refine zl z23 rfl (fun _ h => zc 1 rfl rfl h) ?_; refine zw rfl rfl (bV h4) ?_; refine w_r (fun _ => R_len sl23 rfl) rfl rfl ?_; refine zw rfl rfl (bV h4) ?_; refine w_r (fun _ => R_gtN (a := (sz y.1.natAbs)) (b := 0) rfl rfl) rfl rfl ?_; refine zw rfl rfl (bV h4) ?_; refine mB rfl ?_; refine zd (t := 23) rfl (fun h5 => ?_) (fun h5 => ?_)
   ·refine zw rfl rfl (bT h5) ?_; refine zf fa27_0 rfl ?_; refine zw rfl rfl (bT h5) ?_; refine zf fa25_1 rfl ?_; refine zw rfl rfl (bT h5) ?_; refine zl z23 rfl (fun _ h => zc 1 rfl rfl h) ?_; refine zw rfl rfl (bT h5) ?_; refine w_r (fun _ => R_iaK (i := 0) sl23 rfl ((Kn.old hA).ptr (by omega)) rfl (by omega)) rfl rfl ?_; refine zw rfl rfl (bT h5) ?_; refine zl (v := .int .u64 ((dg Go.Num.B (y.1.natAbs) 0) : Nat)) z66 rfl (fun w h => (Kn.old hA).ca 0 rfl (by omega) h) ?_; refine zw rfl rfl (bT h5) ?_; refine w_r (fun _ => R_remU (a := (dg Go.Num.B (y.1.natAbs) 0)) (b := 2) rfl rfl (by omega)) rfl rfl ?_; refine zw rfl rfl (bT h5) ?_; refine w_r (fun _ => R_eqN (a := ((dg Go.Num.B (y.1.natAbs) 0) % 2)) (b := 1) rfl rfl) rfl rfl ?_
    refine zw rfl rfl (bV h4) ?_; refine w_r (v := .bool _) (fun _ => zT (bT h5) rfl) rfl rfl ?_; refine zw rfl rfl (bV h4) ?_; refine mB rfl ?_; refine zd (t := 32) rfl (fun h6 => ?_) (fun h6 => ?_)
    ·refine zs rfl rfl (bT h6) ?_; refine zs rfl rfl (bT h6) ?_; refine zs rfl rfl (bT h6) ?_; refine zs rfl rfl (bT h6) ?_; refine zs rfl rfl (bT h6) ?_; refine zs rfl rfl (bT h6) ?_; refine zU rfl rfl rfl ?_; refine zU rfl rfl rfl ?_; refine zU rfl rfl rfl ?_; refine zs rfl rfl (bT h6) ?_; refine zw rfl rfl (bV h4) ?_; refine w_r (v := .bool _) (fun _ => zT (bT h6) rfl) rfl rfl ?_; refine w_r (v := .bool _) (fun _ => zT (bV h4) rfl) rfl rfl ?_; refine aB rfl ?_; refine yB ?_; refine ze ?_; refine zo (v := .bool _) rfl rfl rfl ?_; exact fun w' hw => ⟨by rw [decide_eq_true heq], hw.fr (w, No) (.head _)⟩
    ·exact absurd (dg_par hno h5) h6
   ·have hy0 : y.1 = 0 := (by have := sz_eq_zero.1 (show sz y.1.natAbs = 0 by omega); omega)
    refine zs rfl rfl (bF h5) ?_; refine zs rfl rfl (bF h5) ?_; refine zs rfl rfl (bF h5) ?_; refine zs rfl rfl (bF h5) ?_; refine zs rfl rfl (bF h5) ?_; refine zs rfl rfl (bF h5) ?_; refine zs rfl rfl (bF h5) ?_; refine zw rfl rfl (bV h4) ?_; refine w_r (v := .bool _) (fun _ => zF (bF h5) rfl) rfl rfl ?_; refine zw rfl rfl (bV h4) ?_; refine mB rfl ?_; refine zw rfl rfl rfl ?_; refine zf fa27_0 rfl ?_; refine zw rfl rfl rfl ?_; refine zf fa25_1 rfl ?_; refine zw rfl rfl rfl ?_; refine zl z23 rfl (fun _ h => zc 1 rfl rfl h) ?_; refine zw rfl rfl rfl ?_; refine w_r (fun _ => R_len sl23 rfl) rfl rfl ?_; refine zw rfl rfl rfl ?_; refine w_r (fun _ => R_eqN (a := (sz y.1.natAbs)) (b := 0) rfl rfl) rfl rfl ?_; refine zw rfl rfl rfl ?_; refine mB rfl ?_
    refine zd (t := 38) rfl (fun h7 => ?_) (fun h7 => ?_)
    ·refine zw rfl rfl (bT h7) ?_; refine zf fa27_1 rfl ?_; refine zw rfl rfl (bT h7) ?_; refine zl z3 rfl (fun _ h => zc 1 rfl rfl h) ?_; refine zw rfl rfl (bT h7) ?_; refine w_r (fun _ => R_eq rfl rfl) rfl rfl ?_; refine zw rfl rfl rfl ?_; refine w_r (v := .bool _) (fun _ => zT (bT h7) rfl) rfl rfl ?_; refine zw rfl rfl (bV h4) ?_; refine w_r (v := .bool _) (fun _ => zF rfl rfl) rfl rfl ?_; refine w_r (v := .bool _) (fun _ => zT (bV h4) rfl) rfl rfl ?_; refine aB rfl ?_; refine yB ?_; refine ze ?_; refine zo (v := .bool _) rfl rfl rfl ?_; exact fun w' hw => ⟨by rw [decide_eq_true (hno.1 hy0), decide_eq_true heq], hw.fr (w, No) (.head _)⟩
    ·omega
  ·refine zs rfl rfl (bV h4) ?_; refine zs rfl rfl (bV h4) ?_; refine zs rfl rfl (bV h4) ?_; refine zs rfl rfl (bV h4) ?_; refine zs rfl rfl (bV h4) ?_; refine zs rfl rfl (bV h4) ?_; refine zU rfl rfl rfl ?_; refine zU rfl rfl rfl ?_; refine zU rfl rfl rfl ?_; refine zU rfl rfl rfl ?_; refine zU rfl rfl rfl ?_; refine zU rfl rfl rfl ?_; refine zU rfl rfl rfl ?_; refine zs rfl rfl (bV h4) ?_; refine zs rfl rfl (bV h4) ?_; refine zU rfl rfl rfl ?_; refine zU rfl rfl rfl ?_; refine zU rfl rfl rfl ?_; refine zU rfl rfl rfl ?_; refine zU rfl rfl rfl ?_; refine zU rfl rfl rfl ?_; refine zU rfl rfl rfl ?_; refine zU rfl rfl rfl ?_; refine zU rfl rfl rfl ?_; refine zU rfl rfl rfl ?_
   refine zs rfl rfl (bV h4) ?_; refine w_r (v := .bool _) (fun _ => zF (bV h4) rfl) rfl rfl ?_; refine aB rfl ?_; refine yB ?_; refine ze ?_; refine zo (v := .bool _) rfl rfl rfl ?_; exact fun w' hw => ⟨by rw [decide_eq_false (fun h => of_decide_eq_false h4 (by rw [h]))], hw.fr (w, No) (.head _)⟩
 ·refine zs rfl rfl (bF h3) ?_; refine zs rfl rfl (bF h3) ?_; refine zs rfl rfl (bF h3) ?_; refine zs rfl rfl (bF h3) ?_; refine zs rfl rfl (bF h3) ?_; refine w_r (v := .bool _) (fun _ => zF (bF h3) rfl) rfl rfl ?_; refine mB rfl ?_; refine zs rfl rfl rfl ?_; refine zs rfl rfl rfl ?_; refine zs rfl rfl rfl ?_; refine zs rfl rfl rfl ?_; refine zs rfl rfl rfl ?_; refine zs rfl rfl rfl ?_; refine zU rfl rfl rfl ?_; refine zU rfl rfl rfl ?_; refine zU rfl rfl rfl ?_; refine zU rfl rfl rfl ?_; refine zU rfl rfl rfl ?_; refine zU rfl rfl rfl ?_; refine zU rfl rfl rfl ?_; refine zs rfl rfl rfl ?_; refine zs rfl rfl rfl ?_; refine zU rfl rfl rfl ?_; refine zU rfl rfl rfl ?_
  refine zU rfl rfl rfl ?_; refine zU rfl rfl rfl ?_; refine zU rfl rfl rfl ?_; refine zU rfl rfl rfl ?_; refine zU rfl rfl rfl ?_; refine zU rfl rfl rfl ?_; refine zU rfl rfl rfl ?_; refine zU rfl rfl rfl ?_; refine zs rfl rfl rfl ?_; refine w_r (v := .bool _) (fun _ => zF rfl rfl) rfl rfl ?_; refine aB rfl ?_; refine yB ?_; refine ze ?_; refine zo (v := .bool _) rfl rfl rfl ?_; exact fun w' hw => ⟨by rw [decide_eq_false (fun h => h3 (by rw [h]))], hw.fr (w, No) (.head _)⟩
end Go.Proofs.YtoapegnngbhkbaaGreatDoor
end
section
namespace Go.Proofs.YtoapegnngbhkbaaGreatDoor
open Go.RowKit Go.Sx
open Go.Num
theorem odI_sz (x e : Int) : sz (nd x e).1.natAbs ≤ sz x.natAbs := by
 have := od_sz (s := ng x) (n := x.natAbs) e
 rwa [iv_ng] at this
end Go.Proofs.YtoapegnngbhkbaaGreatDoor
end
section
namespace Go.Proofs.YtoapegnngbhkbaaGreatDoor
open Go.RowKit Go.Sx
open Go.Num
theorem od_at {m : Nat} (hm : m % 2 = 1) : ∀ t : Nat, od (m * 2 ^ t) = m ∧ tz (m * 2 ^ t) = t
  | 0 => by rw [Nat.pow_zero, Nat.mul_one]; exact ⟨od_odd hm, tz_odd hm⟩
  | t + 1 => by
    have h := od_at hm t
    have hne : m * 2 ^ t ≠ 0 := Nat.mul_ne_zero (by omega) (Nat.pos_iff_ne_zero.1 (Nat.pow_pos (by decide)))
    rw [Nat.pow_succ, ← Nat.mul_assoc, Nat.mul_comm _ 2, od_even, tz_even hne, h.1, h.2]
    exact ⟨rfl, rfl⟩
theorem nd_at {x : Int} (e : Int) {m t : Nat} (hm : m % 2 = 1) (hx : x.natAbs = m * 2 ^ t) : nd x e = (x.sign * m, e + t) ∧ nb x = bl m := by
  have h := od_at hm t
  have hne : x ≠ 0 := fun h0 => by rw [h0] at hx; exact absurd hx.symm (Nat.mul_ne_zero (by omega) (Nat.pos_iff_ne_zero.1 (Nat.pow_pos (by decide))))
  rw [nd_of hne, hx, h.1, h.2]
  refine ⟨rfl, ?_⟩
  unfold nb; rw [hx, h.1]
theorem rd_1 {a : Int} {b p : Nat} {f e0 q : Int} {m t : Nat} (hq : qe a b (f - e0) = q) (hm : m % 2 = 1) (hx : q.natAbs = m * 2 ^ t) (hp : bl m ≤ p) : rd a b p f e0 = (q.sign * m, e0 + t) := by
  have h := nd_at e0 hm hx
  unfold rd
  rw [hq, if_pos (by rw [h.2]; exact hp), h.1]
theorem rd_2 {a : Int} {b p : Nat} {f e0 q q2 : Int} {m t m2 t2 : Nat} (hq : qe a b (f - e0) = q) (hm : m % 2 = 1) (hx : q.natAbs = m * 2 ^ t) (hp : ¬ bl m ≤ p) (hq2 : qe a b (f - (e0 + 1)) = q2) (hm2 : m2 % 2 = 1) (hx2 : q2.natAbs = m2 * 2 ^ t2) : rd a b p f e0 = (q2.sign * m2, e0 + 1 + t2) := by
  have h := nd_at e0 hm hx
  unfold rd
  rw [hq, if_neg (by rw [h.2]; exact hp), hq2, (nd_at (e0 + 1) hm2 hx2).1]
theorem nd45 : nd 45 0 = (45, 0) := (nd_at 0 (m := 45) (t := 0) rfl rfl).1
theorem nd45n : nd (-45) 0 = (-45, 0) := (nd_at 0 (m := 45) (t := 0) rfl rfl).1
theorem nd3 : nd 3 0 = (3, 0) := (nd_at 0 (m := 3) (t := 0) rfl rfl).1
theorem nd12 : nd 12 0 = (3, 2) := (nd_at 0 (m := 3) (t := 2) rfl rfl).1
theorem dv_a : dvv (45, 0) (1, 0) 3 false = (5, 3) := by
  unfold dvv; rw [if_neg (by decide)]
  show rd 45 1 3 0 2 = _
  rw [rd_2 (q := 11) (m := 11) (t := 0) (q2 := 5) (m2 := 5) (t2 := 0) (by decide) rfl rfl (by decide) (by decide) rfl rfl]; rfl
theorem dv_b : dvv (45, 0) (1, 0) 3 true = (3, 4) := by
  unfold dvv; rw [if_neg (by decide)]
  show nn (rd (-45) 1 3 0 2) = _
  rw [rd_1 (q := -12) (m := 3) (t := 2) (by decide) rfl rfl (by decide)]; rfl
theorem dv_c : dvv (-45, 0) (1, 0) 3 false = (-3, 4) := by
  unfold dvv; rw [if_neg (by decide)]
  show rd (-45) 1 3 0 2 = _
  rw [rd_1 (q := -12) (m := 3) (t := 2) (by decide) rfl rfl (by decide)]; rfl
theorem dv_d : dvv (1, 0) (3, 0) 4 false = (5, -4) := by
  unfold dvv; rw [if_neg (by decide)]
  show rd 1 3 4 0 (-5) = _
  rw [rd_1 (q := 10) (m := 5) (t := 1) (by decide) rfl rfl (by decide)]; rfl
theorem dv_u : dvv (1, 0) (3, 0) 4 true = (11, -5) := by
  unfold dvv; rw [if_neg (by decide)]
  show nn (rd (-1) 3 4 0 (-5)) = _
  rw [rd_1 (q := -11) (m := 11) (t := 0) (by decide) rfl rfl (by decide)]; rfl
theorem dig1 {n : Nat} (h : n < 10) (h0 : n ≠ 0) : Lib.decDigits n = [lt10 n] := by
  rw [dec_rev h0, rdec_pos h0, Nat.div_eq_of_lt h, rdec_zero]; rfl
theorem dig2 {n : Nat} (h : n < 100) (h0 : ¬ n < 10) : Lib.decDigits n = [lt10 (n / 10), lt10 n] := by
  rw [dec_rev (by omega), rdec_pos (by omega), rdec_pos (n := n / 10) (by omega), Nat.div_eq_of_lt (show n / 10 < 10 by omega), rdec_zero]; rfl
theorem it_pos {n : Nat} (h : n < 10) (h0 : n ≠ 0) : Lib.itoa (n : Int) = [lt10 n] := by
  unfold Lib.itoa; rw [if_neg (by omega), Int.toNat_natCast, dig1 h h0]
theorem it_neg {n : Nat} (h : n < 10) (h0 : n ≠ 0) : Lib.itoa (-(n : Int)) = [45, lt10 n] := by
  unfold Lib.itoa; rw [if_pos (by omega), Int.natAbs_neg, Int.natAbs_natCast, dig1 h h0]
theorem it_0 : Lib.itoa 0 = [48] := by unfold Lib.itoa; rw [if_neg (by decide)]; exact decDigits_zero
theorem txt_of {y : Int × Int} {l : List UInt8} (h : nd y.1 y.2 = y) (h2 : y.2.natAbs ≤ mx) (hl : dt y = l) : txt y.1 y.2 = l := by
  unfold txt; rw [h, if_pos ⟨h2, h2⟩, hl]
theorem tx_a : txt 5 3 = [53, 112, 51] := txt_of (y := (5, 3)) (nd_at 3 (m := 5) (t := 0) rfl rfl).1 (by decide) (by unfold dt; rw [show ((5, 3) : Int × Int).1 = ((5 : Nat) : Int) from rfl, show ((5, 3) : Int × Int).2 = ((3 : Nat) : Int) from rfl, it_pos (by decide) (by decide), it_pos (by decide) (by decide)]; rfl)
theorem tx_b : txt 3 4 = [51, 112, 52] := txt_of (y := (3, 4)) (nd_at 4 (m := 3) (t := 0) rfl rfl).1 (by decide) (by unfold dt; rw [show ((3, 4) : Int × Int).1 = ((3 : Nat) : Int) from rfl, show ((3, 4) : Int × Int).2 = ((4 : Nat) : Int) from rfl, it_pos (by decide) (by decide), it_pos (by decide) (by decide)]; rfl)
theorem tx_c : txt (-3) 4 = [45, 51, 112, 52] := txt_of (y := (-3, 4)) (nd_at 4 (m := 3) (t := 0) rfl rfl).1 (by decide) (by unfold dt; rw [show ((-3, 4) : Int × Int).1 = -((3 : Nat) : Int) from rfl, show ((-3, 4) : Int × Int).2 = ((4 : Nat) : Int) from rfl, it_neg (by decide) (by decide), it_pos (by decide) (by decide)]; rfl)
theorem tx_d : txt 5 (-4) = [53, 112, 45, 52] := txt_of (y := (5, -4)) (nd_at (-4) (m := 5) (t := 0) rfl rfl).1 (by decide) (by unfold dt; rw [show ((5, -4) : Int × Int).1 = ((5 : Nat) : Int) from rfl, show ((5, -4) : Int × Int).2 = -((4 : Nat) : Int) from rfl, it_pos (by decide) (by decide), it_neg (by decide) (by decide)]; rfl)
theorem tx_u : txt 11 (-5) = [49, 49, 112, 45, 53] := txt_of (y := (11, -5)) (nd_at (-5) (m := 11) (t := 0) rfl rfl).1 (by decide) (by unfold dt; rw [show ((11, -5) : Int × Int).2 = -((5 : Nat) : Int) from rfl, it_neg (by decide) (by decide)]; unfold Lib.itoa; rw [if_neg (by decide), show (11 : Int).toNat = 11 from rfl, dig2 (by decide) (by decide)]; rfl)
theorem tx_z : txt 3 2 = [51, 112, 50] := txt_of (y := (3, 2)) (nd_at 2 (m := 3) (t := 0) rfl rfl).1 (by decide) (by unfold dt; rw [show ((3, 2) : Int × Int).1 = ((3 : Nat) : Int) from rfl, show ((3, 2) : Int × Int).2 = ((2 : Nat) : Int) from rfl, it_pos (by decide) (by decide), it_pos (by decide) (by decide)]; rfl)
theorem tx_2 : txt 2 0 = [49, 112, 49] := by
  have h : nd 2 0 = (1, 1) := (nd_at 0 (m := 1) (t := 1) rfl rfl).1
  unfold txt; rw [h, if_pos ⟨by decide, by decide⟩]
  unfold dt; rw [show ((1, 1) : Int × Int).1 = ((1 : Nat) : Int) from rfl, show ((1, 1) : Int × Int).2 = ((1 : Nat) : Int) from rfl, it_pos (by decide) (by decide)]; rfl
theorem pp_2 : ppE [50, 112, 48] = 5 := by
  have h : pp [50, 112, 48] = none := by
    unfold pp
    rw [show zpv (bef [50, 112, 48]) = some 2 by decide, show Lib.atoiAll (aft [50, 112, 48]) = .ok 0 by decide]
    show (if txt 2 0 = _ then _ else _) = _
    rw [tx_2, if_neg (by decide)]
  unfold ppE; rw [h]
theorem pp_0 : ppE [48, 112, 48] = 0 ∧ (ppV [48, 112, 48]).1 = 0 := by
  have h : pp [48, 112, 48] = some (0, 0) := by
    have h2 : isT [48, 112, 48] (0, 0) := ⟨rfl, by decide, by unfold dt; rw [it_0]; rfl⟩
    exact pp_of h2
  unfold ppE ppV; rw [h]; exact ⟨rfl, rfl⟩
theorem hRound (x : Int) {p : Int} {up : Bool} {y : Int × Int} {X E : Int} {a : Option Addr} {c : Nat} (w : World) (hA : Nm w a (sz (nd x 0).1.natAbs) c (nd x 0).1.natAbs) (hx : nd x 0 = y) (hres : dvv y (1, 0) p up = (X, E)) (hp : 1 ≤ p ∧ p ≤ 1000) (hy : sz y.1.natAbs ≤ 10 ∧ y.2 = 0) :
    Ret Tryz.prog 13 #[.agg #[.bool (ng (nd x 0).1), .slice a (sz (nd x 0).1.natAbs) c, .int .i64 (nd x 0).2], .int .i64 p, .bool up] w (Tel (fun a c => .tuple #[.agg #[.bool (ng (X)), .slice a (sz (X).natAbs) c, .int .i64 (E)], .int .i64 0]) (sz (X).natAbs) (X).natAbs w) := by
  have := dRound_ok (ng (nd x 0).1) (nd x 0).2 p up w hA ⟨by rw [hx]; omega, by rw [hx]; omega, by rw [hx]; omega, by omega⟩
  rw [iv_ng, nd_idem, nd_one, show dve (1, 0) p = 0 from if_neg (by rintro (h | h); (exact absurd h (by decide)); omega)] at this
  rw [show dvv (nd x 0) (1, 0) p up = (X, E) by rw [hx]; exact hres] at this
  exact this
theorem hDiv (x z : Int) {p : Int} {up : Bool} {y y2 : Int × Int} {X E : Int} {a a2 : Option Addr} {c c2 : Nat} (w : World) (hA : Nm w a (sz (nd x 0).1.natAbs) c (nd x 0).1.natAbs) (hA2 : Nm w a2 (sz (nd z 0).1.natAbs) c2 (nd z 0).1.natAbs) (hx : nd x 0 = y) (hz : nd z 0 = y2) (hres : dvv y y2 p up = (X, E)) (hp : 1 ≤ p ∧ p ≤ 1000) (hy : sz y.1.natAbs ≤ 10 ∧ y.2 = 0) (hy2 : sz y2.1.natAbs ≤ 10 ∧ y2.2 = 0 ∧ y2.1 ≠ 0) :
    Ret Tryz.prog 14 #[.agg #[.bool (ng (nd x 0).1), .slice a (sz (nd x 0).1.natAbs) c, .int .i64 (nd x 0).2], .agg #[.bool (ng (nd z 0).1), .slice a2 (sz (nd z 0).1.natAbs) c2, .int .i64 (nd z 0).2], .int .i64 p, .bool up] w (Tel (fun a c => .tuple #[.agg #[.bool (ng (X)), .slice a (sz (X).natAbs) c, .int .i64 (E)], .int .i64 0]) (sz (X).natAbs) (X).natAbs w) := by
  have := dDiv_ok (ng (nd x 0).1) (ng (nd z 0).1) (nd x 0).2 (nd z 0).2 p up w hA hA2 ⟨by rw [hx]; omega, by rw [hz]; omega, by rw [hx]; omega, by rw [hz]; omega, by rw [hx]; omega, by rw [hz]; omega, by omega⟩
  rw [iv_ng, nd_idem, iv_ng, nd_idem, show dve (nd z 0) p = 0 from if_neg (by rw [hz]; rintro (h | h); (exact hy2.2.2 h); omega)] at this
  rw [show dvv (nd x 0) (nd z 0) p up = (X, E) by rw [hx, hz]; exact hres] at this
  exact this
theorem dParse_ok (s : List UInt8) (w : World) (hW : Wn w) (hs : s.length ≤ 200) : Ret Tryz.prog 8 #[str s] w (Tel (fun a c => .tuple #[.agg #[.bool (ng (ppV s).1), .slice a (sz (ppV s).1.natAbs) c, .int .i64 (ppV s).2], .int .i64 (ppE s)]) (sz (ppV s).1.natAbs) (ppV s).1.natAbs w) := by
  cases h : Lib.atoiAll (aft s) with
  | ok e => exact dParseY_ok s e w hW hs h
  | _ => exact dParseN_ok s w hW hs (fun e he => by rw [h] at he; cases he)
theorem dSignI_ok (x E : Int) {a : Option Addr} {c : Nat} (w : World) (hA : Nm w a (sz x.natAbs) c x.natAbs) (hs : sz x.natAbs ≤ 4000000) : Ret Tryz.prog 24 #[.agg #[.bool (ng (x)), .slice a (sz (x).natAbs) c, .int .i64 (E)]] w fun v w' => v = .int .i64 x.sign ∧ Ext w w' := by
  have := dSign_ok (ng x) E w hA hs
  rwa [iv_ng] at this
theorem tx_12 : txt (nd 12 0).1 (nd 12 0).2 = [51, 112, 50] := by rw [nd12]; exact tx_z
set_option maxRecDepth 100000 in
set_option maxHeartbeats 1000000 in
theorem head05_ok (w : World) (hW : Wn w) :
    Ret Tryz.prog 6 #[] w (fun v w' => v = .bool true ∧ Ext w w') := by
  refine enter (S := No) (l := []) (L := []) 111 Tryz.func6 rfl rfl rfl (St.start w No) ?_; refine yA ?_; refine aB rfl ?_; refine yC ?_; refine w_tel (fun w => zR Tryz.func23 rfl rfl rfl) rfl rfl (fun w h => dOf_ok (x := 45) w ⟨by decide, by decide⟩) (fun x1 a1 c1 hK1 hN1 => ?_)
  refine w_tel (fun w => zR Tryz.func13 rfl rfl rfl) rfl rfl (fun w h => hRound 45 w (hK1.at_ 0 rfl h) nd45 dv_a ⟨by decide, by decide⟩ ⟨by decide, rfl⟩) (fun x2 a2 c2 hK2 hN2 => ?_)
  refine zm rfl ?_; refine w_r (fun _ => R_extract rfl rfl) rfl rfl ?_; refine w_r (fun _ => R_extract rfl rfl) rfl rfl ?_; refine w_alloc zr27 (fun b3 gb3 ub3 => ?_)
  refine w_store 0 rfl z27 rfl rfl rfl rfl rfl rfl rfl ?_; refine aI rfl ?_; refine yC ?_; refine w_tel (fun w => zR Tryz.func23 rfl rfl rfl) rfl rfl (fun w h => dOf_ok (x := 45) w ⟨by decide, by decide⟩) (fun x4 a4 c4 hK4 hN4 => ?_)
  refine w_tel (fun w => zR Tryz.func13 rfl rfl rfl) rfl rfl (fun w h => hRound 45 w (hK4.at_ 0 rfl h) nd45 dv_b ⟨by decide, by decide⟩ ⟨by decide, rfl⟩) (fun x5 a5 c5 hK5 hN5 => ?_)
  refine zm rfl ?_; refine w_r (fun _ => R_extract rfl rfl) rfl rfl ?_; refine w_r (fun _ => R_extract rfl rfl) rfl rfl ?_; refine w_alloc zr27 (fun b6 gb6 ub6 => ?_)
  refine w_store 0 rfl z27 rfl rfl rfl rfl rfl rfl rfl ?_; refine aI rfl ?_; refine yC ?_; refine w_tel (fun w => zR Tryz.func23 rfl rfl rfl) rfl rfl (fun w h => dOf_ok (x := (-45)) w ⟨by decide, by decide⟩) (fun x7 a7 c7 hK7 hN7 => ?_)
  refine w_tel (fun w => zR Tryz.func13 rfl rfl rfl) rfl rfl (fun w h => hRound (-45) w (hK7.at_ 0 rfl h) nd45n dv_c ⟨by decide, by decide⟩ ⟨by decide, rfl⟩) (fun x8 a8 c8 hK8 hN8 => ?_)
  refine zm rfl ?_; refine w_r (fun _ => R_extract rfl rfl) rfl rfl ?_; refine w_r (fun _ => R_extract rfl rfl) rfl rfl ?_; refine w_alloc zr27 (fun b9 gb9 ub9 => ?_)
  refine w_store 0 rfl z27 rfl rfl rfl rfl rfl rfl rfl ?_; refine aI rfl ?_; refine yC ?_; refine w_tel (fun w => zR Tryz.func23 rfl rfl rfl) rfl rfl (fun w h => dOf_ok (x := 1) w ⟨by decide, by decide⟩) (fun x10 a10 c10 hK10 hN10 => ?_)
  refine w_tel (fun w => zR Tryz.func23 rfl rfl rfl) rfl rfl (fun w h => dOf_ok (x := 3) w ⟨by decide, by decide⟩) (fun x11 a11 c11 hK11 hN11 => ?_)
  refine w_tel (fun w => zR Tryz.func14 rfl rfl rfl) rfl rfl (fun w h => hDiv 1 3 w (hK10.at_ 1 rfl h) (hK11.at_ 0 rfl h) nd_one nd3 dv_d ⟨by decide, by decide⟩ ⟨by decide, rfl⟩ ⟨by decide, rfl, by decide⟩) (fun x12 a12 c12 hK12 hN12 => ?_)
  refine zm rfl ?_; refine w_r (fun _ => R_extract rfl rfl) rfl rfl ?_; refine w_r (fun _ => R_extract rfl rfl) rfl rfl ?_; refine w_alloc zr27 (fun b13 gb13 ub13 => ?_)
  refine w_store 0 rfl z27 rfl rfl rfl rfl rfl rfl rfl ?_; refine aI rfl ?_; refine yC ?_; refine w_tel (fun w => zR Tryz.func23 rfl rfl rfl) rfl rfl (fun w h => dOf_ok (x := 1) w ⟨by decide, by decide⟩) (fun x14 a14 c14 hK14 hN14 => ?_)
  refine w_tel (fun w => zR Tryz.func23 rfl rfl rfl) rfl rfl (fun w h => dOf_ok (x := 3) w ⟨by decide, by decide⟩) (fun x15 a15 c15 hK15 hN15 => ?_)
  refine w_tel (fun w => zR Tryz.func14 rfl rfl rfl) rfl rfl (fun w h => hDiv 1 3 w (hK14.at_ 1 rfl h) (hK15.at_ 0 rfl h) nd_one nd3 dv_u ⟨by decide, by decide⟩ ⟨by decide, rfl⟩ ⟨by decide, rfl, by decide⟩) (fun x16 a16 c16 hK16 hN16 => ?_)
  refine zm rfl ?_; refine w_r (fun _ => R_extract rfl rfl) rfl rfl ?_; refine w_r (fun _ => R_extract rfl rfl) rfl rfl ?_; refine w_alloc zr27 (fun b17 gb17 ub17 => ?_)
  refine w_store 0 rfl z27 rfl rfl rfl rfl rfl rfl rfl ?_; refine aI rfl ?_; refine yC ?_; refine w_tel (fun w => zR Tryz.func8 rfl rfl rfl) rfl rfl (fun w h => dParse_ok [50, 112, 48] w (hW.now (.tail _ (.tail _ (.tail _ (.tail _ (.tail _ (.tail _ (.tail _ (.tail _ (.tail _ (.tail _ (.tail _ (.tail _ (.head _))))))))))))) h) (by decide)) (fun x18 a18 c18 hK18 hN18 => ?_)
  rw [pp_2]
  refine zm rfl ?_; refine w_r (fun _ => R_extract rfl rfl) rfl rfl ?_; refine w_r (fun _ => R_extract rfl rfl) rfl rfl ?_; refine w_alloc zr27 (fun b19 gb19 ub19 => ?_)
  refine w_store 0 rfl z27 rfl rfl rfl rfl rfl rfl rfl ?_; refine aI rfl ?_; refine yC ?_; refine w_tel (fun w => zR Tryz.func8 rfl rfl rfl) rfl rfl (fun w h => dParse_ok [48, 112, 48] w (hW.now (.tail _ (.tail _ (.tail _ (.tail _ (.tail _ (.tail _ (.tail _ (.tail _ (.tail _ (.tail _ (.tail _ (.tail _ (.tail _ (.head _)))))))))))))) h) (by decide)) (fun x20 a20 c20 hK20 hN20 => ?_)
  rw [pp_0.1]
  refine zm rfl ?_; refine w_r (fun _ => R_extract rfl rfl) rfl rfl ?_; refine w_r (fun _ => R_extract rfl rfl) rfl rfl ?_; refine w_alloc zr27 (fun b21 gb21 ub21 => ?_)
  refine w_store 0 rfl z27 rfl rfl rfl rfl rfl rfl rfl ?_; refine aI rfl ?_; refine yC ?_; refine mI rfl ?_; refine w_r (fun _ => R_eq rfl rfl) rfl rfl ?_; refine mB rfl ?_; refine zw rfl rfl (congrArg Value.bool (decide_eq_true (by decide))) ?_; refine w_loadA z27 rfl (fun _ h => h.at_ 6 rfl) rfl ?_; refine zw rfl rfl (congrArg Value.bool (decide_eq_true (by decide))) ?_; refine zC (fun w => zR Tryz.func7 rfl rfl rfl) rfl rfl (fun w h => dTextI_ok 5 3 w (hK2.at_ 12 rfl h) (hW.now (.tail _ (.tail _ (.tail _ (.tail _ (.tail _ (.tail _ (.tail _ (.tail _ (.tail _ (.tail _ (.tail _ (.tail _ (.tail _ (.tail _ (.head _))))))))))))))) h) (by decide)) ?_
  rw [tx_a]
  refine zw rfl rfl (congrArg Value.bool (decide_eq_true (by decide))) ?_; refine w_r (fun _ => R_seq rfl rfl) rfl rfl ?_; refine w_r (v := .bool _) (fun _ => zT (congrArg Value.bool (decide_eq_true (by decide))) rfl) rfl rfl ?_; refine mB rfl ?_; refine zw rfl rfl (congrArg Value.bool (decide_eq_true rfl)) ?_; refine mI rfl ?_; refine zw rfl rfl (congrArg Value.bool (decide_eq_true rfl)) ?_; refine w_r (fun _ => R_eq rfl rfl) rfl rfl ?_; refine w_r (v := .bool _) (fun _ => zT (congrArg Value.bool (decide_eq_true rfl)) rfl) rfl rfl ?_; refine mB rfl ?_; refine zw rfl rfl (congrArg Value.bool (decide_eq_true (by decide))) ?_; refine w_loadA z27 rfl (fun _ h => h.at_ 5 rfl) rfl ?_; refine zw rfl rfl (congrArg Value.bool (decide_eq_true (by decide))) ?_
  refine zC (fun w => zR Tryz.func7 rfl rfl rfl) rfl rfl (fun w h => dTextI_ok 3 4 w (hK5.at_ 10 rfl h) (hW.now (.tail _ (.tail _ (.tail _ (.tail _ (.tail _ (.tail _ (.tail _ (.tail _ (.tail _ (.tail _ (.tail _ (.tail _ (.tail _ (.tail _ (.head _))))))))))))))) h) (by decide)) ?_
  rw [tx_b]
  refine zw rfl rfl (congrArg Value.bool (decide_eq_true (by decide))) ?_; refine w_r (fun _ => R_seq rfl rfl) rfl rfl ?_; refine w_r (v := .bool _) (fun _ => zT (congrArg Value.bool (decide_eq_true (by decide))) rfl) rfl rfl ?_; refine mB rfl ?_; refine zw rfl rfl (congrArg Value.bool (decide_eq_true rfl)) ?_; refine mI rfl ?_; refine zw rfl rfl (congrArg Value.bool (decide_eq_true rfl)) ?_; refine w_r (fun _ => R_eq rfl rfl) rfl rfl ?_; refine w_r (v := .bool _) (fun _ => zT (congrArg Value.bool (decide_eq_true rfl)) rfl) rfl rfl ?_; refine mB rfl ?_; refine zw rfl rfl (congrArg Value.bool (decide_eq_true (by decide))) ?_; refine w_loadA z27 rfl (fun _ h => h.at_ 4 rfl) rfl ?_; refine zw rfl rfl (congrArg Value.bool (decide_eq_true (by decide))) ?_
  refine zC (fun w => zR Tryz.func7 rfl rfl rfl) rfl rfl (fun w h => dTextI_ok (-3) 4 w (hK8.at_ 8 rfl h) (hW.now (.tail _ (.tail _ (.tail _ (.tail _ (.tail _ (.tail _ (.tail _ (.tail _ (.tail _ (.tail _ (.tail _ (.tail _ (.tail _ (.tail _ (.head _))))))))))))))) h) (by decide)) ?_
  rw [tx_c]
  refine zw rfl rfl (congrArg Value.bool (decide_eq_true (by decide))) ?_; refine w_r (fun _ => R_seq rfl rfl) rfl rfl ?_; refine w_r (v := .bool _) (fun _ => zT (congrArg Value.bool (decide_eq_true (by decide))) rfl) rfl rfl ?_; refine mB rfl ?_; refine zw rfl rfl (congrArg Value.bool (decide_eq_true rfl)) ?_; refine mI rfl ?_; refine zw rfl rfl (congrArg Value.bool (decide_eq_true rfl)) ?_; refine w_r (fun _ => R_eq rfl rfl) rfl rfl ?_; refine w_r (v := .bool _) (fun _ => zT (congrArg Value.bool (decide_eq_true rfl)) rfl) rfl rfl ?_; refine mB rfl ?_; refine zw rfl rfl (congrArg Value.bool (decide_eq_true (by decide))) ?_; refine w_loadA z27 rfl (fun _ h => h.at_ 3 rfl) rfl ?_; refine zw rfl rfl (congrArg Value.bool (decide_eq_true (by decide))) ?_
  refine zC (fun w => zR Tryz.func7 rfl rfl rfl) rfl rfl (fun w h => dTextI_ok 5 (-4) w (hK12.at_ 5 rfl h) (hW.now (.tail _ (.tail _ (.tail _ (.tail _ (.tail _ (.tail _ (.tail _ (.tail _ (.tail _ (.tail _ (.tail _ (.tail _ (.tail _ (.tail _ (.head _))))))))))))))) h) (by decide)) ?_
  rw [tx_d]
  refine zw rfl rfl (congrArg Value.bool (decide_eq_true (by decide))) ?_; refine w_r (fun _ => R_seq rfl rfl) rfl rfl ?_; refine w_r (v := .bool _) (fun _ => zT (congrArg Value.bool (decide_eq_true (by decide))) rfl) rfl rfl ?_; refine mB rfl ?_; refine zw rfl rfl (congrArg Value.bool (decide_eq_true rfl)) ?_; refine mI rfl ?_; refine zw rfl rfl (congrArg Value.bool (decide_eq_true rfl)) ?_; refine w_r (fun _ => R_eq rfl rfl) rfl rfl ?_; refine w_r (v := .bool _) (fun _ => zT (congrArg Value.bool (decide_eq_true rfl)) rfl) rfl rfl ?_; refine mB rfl ?_; refine zw rfl rfl (congrArg Value.bool (decide_eq_true (by decide))) ?_; refine w_loadA z27 rfl (fun _ h => h.at_ 2 rfl) rfl ?_; refine zw rfl rfl (congrArg Value.bool (decide_eq_true (by decide))) ?_
  refine zC (fun w => zR Tryz.func7 rfl rfl rfl) rfl rfl (fun w h => dTextI_ok 11 (-5) w (hK16.at_ 2 rfl h) (hW.now (.tail _ (.tail _ (.tail _ (.tail _ (.tail _ (.tail _ (.tail _ (.tail _ (.tail _ (.tail _ (.tail _ (.tail _ (.tail _ (.tail _ (.head _))))))))))))))) h) (by decide)) ?_
  rw [tx_u]
  refine zw rfl rfl (congrArg Value.bool (decide_eq_true (by decide))) ?_; refine w_r (fun _ => R_seq rfl rfl) rfl rfl ?_; refine w_r (v := .bool _) (fun _ => zT (congrArg Value.bool (decide_eq_true (by decide))) rfl) rfl rfl ?_; refine mB rfl ?_; refine zw rfl rfl (congrArg Value.bool (decide_eq_true rfl)) ?_; refine mI rfl ?_; refine zw rfl rfl (congrArg Value.bool (decide_eq_true rfl)) ?_; refine w_r (fun _ => R_eq rfl rfl) rfl rfl ?_; refine w_r (v := .bool _) (fun _ => zT (congrArg Value.bool (decide_eq_true rfl)) rfl) rfl rfl ?_; refine mB rfl ?_; refine zw rfl rfl (congrArg Value.bool (decide_eq_true (by decide))) ?_; refine mI rfl ?_; refine zw rfl rfl (congrArg Value.bool (decide_eq_true (by decide))) ?_
  refine w_r (fun _ => R_eq rfl rfl) rfl rfl ?_; refine w_r (v := .bool _) (fun _ => zT (congrArg Value.bool (decide_eq_true (by decide))) rfl) rfl rfl ?_; refine mB rfl ?_; refine zw rfl rfl (congrArg Value.bool (decide_eq_true (by decide))) ?_; refine w_loadA z27 rfl (fun _ h => h.at_ 0 rfl) rfl ?_; refine zw rfl rfl (congrArg Value.bool (decide_eq_true (by decide))) ?_; refine zC (fun w => zR Tryz.func24 rfl rfl rfl) rfl rfl (fun w h => dSignI_ok (ppV [48, 112, 48]).1 _ w (hK20.at_ 0 rfl h) (by rw [pp_0.2]; decide)) ?_
  rw [show (ppV [48, 112, 48]).1.sign = 0 by rw [pp_0.2]; rfl]
  refine zw rfl rfl (congrArg Value.bool (decide_eq_true (by decide))) ?_; refine w_r (fun _ => R_eq rfl rfl) rfl rfl ?_; refine w_r (v := .bool _) (fun _ => zT (congrArg Value.bool (decide_eq_true (by decide))) rfl) rfl rfl ?_; refine mB rfl ?_; refine zw rfl rfl (congrArg Value.bool (decide_eq_true rfl)) ?_; refine w_tel (fun w => zR Tryz.func23 rfl rfl rfl) rfl rfl (fun w h => dOf_ok (x := 12) w ⟨by decide, by decide⟩) (fun x22 a22 c22 hK22 hN22 => ?_)
  refine zw rfl rfl (congrArg Value.bool (decide_eq_true rfl)) ?_; refine zC (fun w => zR Tryz.func7 rfl rfl rfl) rfl rfl (fun w h => dTextI_ok (nd 12 0).1 (nd 12 0).2 w (hK22.at_ 0 rfl h) (hW.now (.tail _ (.tail _ (.tail _ (.tail _ (.tail _ (.tail _ (.tail _ (.tail _ (.tail _ (.tail _ (.tail _ (.tail _ (.tail _ (.tail _ (.tail _ (.head _)))))))))))))))) h) (by rw [nd12]; decide)) ?_
  rw [tx_12]
  refine zw rfl rfl (congrArg Value.bool (decide_eq_true rfl)) ?_; refine w_r (fun _ => R_seq rfl rfl) rfl rfl ?_; refine w_r (v := .bool _) (fun _ => zT (congrArg Value.bool (decide_eq_true rfl)) rfl) rfl rfl ?_; refine aB rfl ?_; refine yB ?_; refine ze ?_; refine zo (v := .bool _) rfl rfl rfl ?_; exact fun w' hw => ⟨congrArg Value.bool (decide_eq_true rfl), hw.fr (w, No) (.tail _ (.tail _ (.tail _ (.tail _ (.tail _ (.tail _ (.tail _ (.tail _ (.tail _ (.tail _ (.tail _ (.tail _ (.tail _ (.tail _ (.tail _ (.head _))))))))))))))))⟩
end Go.Proofs.YtoapegnngbhkbaaGreatDoor
end
section
namespace Go.Proofs.YtoapegnngbhkbaaGreatDoor
open Go.RowKit Go.Sx
open Go.Num
theorem of_small {k : Nat} {E : Int} (h : (!decide (k ≤ 4 ∧ -300 ≤ E ∧ E ≤ 300)) = false) : k ≤ 4 ∧ -300 ≤ E ∧ E ≤ 300 := by simpa using h
end Go.Proofs.YtoapegnngbhkbaaGreatDoor
end
section
namespace Go.Proofs.YtoapegnngbhkbaaGreatDoor
open Go.RowKit Go.Sx
open Go.Num
set_option maxRecDepth 100000 in
set_option maxHeartbeats 400000 in
theorem jSign_ok (s : Bool) (E : Int) {a : Option Addr} {k c n : Nat} (w : World) (hA : Nm w a k c n) (hk : k ≤ 4000000) :
  Ret Tryz.prog 21 #[.agg #[.bool s, .slice a k c, .int .i64 E]] w (fun v w' => v = .int .i64 (iv s n).sign ∧ Ext w w') := by
 refine enter (S := No) (l := [_]) (L := []) 6 Tryz.func21 rfl rfl rfl (St.start w No) ?_; refine yA ?_; refine w_boxA rfl (fun p gp up => ?_)
 refine aI rfl ?_; refine yC ?_; refine zf fa27_0 rfl ?_; refine w_loadA z25 rfl (fun _ h => h.at_ 0 rfl) rfl ?_; refine zC (fun w => zR Tryz.func50 rfl rfl rfl) rfl rfl (fun w h => iSign_ok s w ((Kn.old hA).at_ 0 rfl h) (by omega)) ?_; refine aI rfl ?_; refine yB ?_; refine ze ?_; refine zo (v := .int _ _) rfl rfl rfl ?_; exact fun w' hw => ⟨rfl, hw.fr (w, No) (.head _)⟩
theorem jSignI_ok (x E : Int) {a : Option Addr} {c : Nat} (w : World) (hA : Nm w a (sz x.natAbs) c x.natAbs) (hs : sz x.natAbs ≤ 4000000) : Ret Tryz.prog 21 #[.agg #[.bool (ng x), .slice a (sz x.natAbs) c, .int .i64 E]] w fun v w' => v = .int .i64 x.sign ∧ Ext w w' := by
 have := jSign_ok (ng x) E w hA hs
 rwa [iv_ng] at this
set_option maxRecDepth 100000 in
set_option maxHeartbeats 400000 in
theorem jOf_ok {x : Int} (w : World) (hx : -4611686018427387904 ≤ x ∧ x ≤ 4611686018427387904) :
  Ret Tryz.prog 49 #[.int .i64 x] w (Tel (fun a c => .agg #[.bool (ng (nd x 0).1), .slice a (sz (nd x 0).1.natAbs) c, .int .i64 (nd x 0).2]) (sz (nd x 0).1.natAbs) (nd x 0).1.natAbs w) := by
 have hBv : Go.Num.B = 18446744073709551616 := rfl
 have hxs : sz x.natAbs ≤ 1 := sz_iff.2 (by rw [Nat.pow_one]; omega)
 refine enter (S := No) (l := [_]) (L := []) 7 Tryz.func49 rfl rfl rfl (St.start w No) ?_; refine yA ?_; refine w_alloc zr27 (fun r gr ur => ?_)
 refine yC ?_; refine mI rfl ?_; refine w_tel (fun w => zR Tryz.func68 rfl rfl rfl) rfl rfl (fun w h => iOf_ok w hx) (fun x2 a2 c2 hK2 hN2 => ?_)
 refine w_r (fun _ => R_build bt27 rfl) rfl rfl ?_; refine w_tel (fun w => zR Tryz.func12 rfl rfl rfl) rfl rfl (fun w h => jNormI_ok x 0 w (hK2.at_ 0 rfl h) ⟨by omega, by decide, by decide⟩) (fun x3 a3 c3 hK3 hN3 => ?_)
 refine w_store 0 rfl z27 rfl rfl rfl rfl rfl rfl rfl ?_; refine yB ?_; refine ze ?_; refine r_fin (.inl rfl) rfl (.agg rfl rfl z27 (fun _ h => h.at_ 0 rfl) rfl .nil) ?_; exact fun w' hw => ⟨_, _, rfl, (hK3.at_ 0 rfl hw), (hN3 _ (.tail _ (.head _))), hw.fr (w, No) (.tail _ (.tail _ (.head _)))⟩
set_option maxRecDepth 100000 in
set_option maxHeartbeats 400000 in
theorem jTop_ok (s : Bool) (E : Int) {a : Option Addr} {k c n : Nat} (w : World) (hA : Nm w a k c n) (hs : k ≤ 1000000 ∧ sz n ≤ 2047 ∧ -4611686018427387904 ≤ E ∧ E ≤ 4611686018427387904) :
  Ret Tryz.prog 52 #[.agg #[.bool s, .slice a k c, .int .i64 E]] w (fun v w' => v = .int .i64 (if n = 0 then 0 else (bl n : Int) + E) ∧ Ext w w') := by
 have hbl := bl_sz hs.2.1
 refine enter (S := No) (l := [_]) (L := []) 13 Tryz.func52 rfl rfl rfl (St.start w No) ?_; refine yA ?_; refine w_boxA rfl (fun p gp up => ?_)
 refine aI rfl ?_; refine yB ?_; refine zq ?_; refine yA ?_; refine w_loadA z27 rfl (fun _ h => h.at_ 0 rfl) rfl ?_; refine zC (fun w => zR Tryz.func21 rfl rfl rfl) rfl rfl (fun w h => jSign_ok s E w ((Kn.old hA).at_ 0 rfl h) (by omega)) ?_; refine w_r (fun _ => R_eq rfl rfl) rfl rfl ?_; refine yB ?_; refine zD rfl (fun h2 => ?_) (fun h2 => ?_)
 ·have hn0 : n = 0 := sign_iv0.1 h2
  refine yA ?_; refine aI rfl ?_; refine yB ?_; refine ze ?_; refine zt (?_)
  refine zo (v := .int _ _) rfl rfl rfl ?_; exact fun w' hw => ⟨by rw [if_pos hn0], hw.fr (w, No) (.head _)⟩
 ·have hn0 : n ≠ 0 := fun h => h2 (sign_iv0.2 h)
  refine zi ?_; refine zk ?_; refine zq ?_; refine c_heldS mixed ?_; refine zh 0 rfl (by kernel_rfl) rfl rfl (fun w h => h) (fun w h => R_fa fa27_0 rfl) ?_; refine zh 1 rfl (by kernel_rfl) rfl rfl (fun w h => h) (fun w h => R_fa fa25_1 rfl) ?_; refine zh (v := .slice _ _ _) 2 rfl (by kernel_rfl) rfl rfl (fun w h => h) (fun w h => R_ld1 z23 rfl (zc 0 rfl rfl h)) ?_; refine zh 4 rfl (by kernel_rfl) rfl rfl (fun w h => h) (fun w h => R_fa fa27_1 rfl) ?_; refine zh (v := .int _ _) 5 rfl (by kernel_rfl) rfl rfl (fun w h => h) (fun w h => R_ld1 z3 rfl (zc 0 rfl rfl h)) ?_; refine h_one 3 (by kernel_rfl) (fun w h => h) ?_; refine o_pureW rfl (wn_none rfl) rfl (fun w => zR Tryz.func53 rfl rfl rfl) (fun w h => rBits_ok w ((Kn.old hA).at_ 0 rfl h) (by omega)) ?_
  refine zh 6 rfl (by kernel_rfl) rfl rfl (fun w h => h) (fun w h => R_addi rfl rfl (by omega)) ?_; refine zh (v := .int _ _) 7 rfl (by kernel_rfl) rfl rfl (fun w h => h) (fun w h => R_assign rfl) ?_; refine h_done (by kernel_rfl) (fun w h => h) ?_; refine zk ?_; refine ze ?_; refine zo (v := .int _ _) rfl rfl rfl ?_; exact fun w' hw => ⟨by rw [if_neg hn0], hw.fr (w, No) (.head _)⟩
set_option maxRecDepth 100000 in
set_option maxHeartbeats 400000 in
theorem jNeg0_ok (s : Bool) (E : Int) {a : Option Addr} {k c n : Nat} (w : World) (hA : Nm w a k c n) (hs : k ≤ 1000 ∧ sz n ≤ 900 ∧ -4000000 ≤ E ∧ E ≤ 4000000) :
  Ret Tryz.prog 51 #[.agg #[.bool s, .slice a k c, .int .i64 E]] w (Tel (fun a c => .agg #[.bool (ng ((nd (-iv s n) E)).1), .slice a (sz ((nd (-iv s n) E)).1.natAbs) c, .int .i64 ((nd (-iv s n) E)).2]) (sz ((nd (-iv s n) E)).1.natAbs) ((nd (-iv s n) E)).1.natAbs w) := by
 have hab : (-iv s n).natAbs = n := by rw [Int.natAbs_neg]; exact iv_abs s n
 refine enter (S := No) (l := [_]) (L := []) 10 Tryz.func51 rfl rfl rfl (St.start w No) ?_; refine yA ?_; refine w_boxA rfl (fun p gp up => ?_)
 refine w_alloc zr27 (fun r gr ur => ?_)
 refine yB ?_; refine zq ?_; refine c_heldI [1] mixed ?_; refine zh 0 rfl (by kernel_rfl) rfl rfl (fun w h => (h).pick [1] (by decide)) (fun w h => R_fa fa27_0 rfl) ?_; refine h_loadA 1 rfl (by kernel_rfl) (fun w h => (h).pick [1] (by decide)) z25 rfl (fun _ h => h.at_ 0 rfl) rfl ?_; refine zh 3 rfl (by kernel_rfl) rfl rfl (fun w h => (h).pick [1] (by decide)) (fun w h => R_fa fa27_1 rfl) ?_; refine zh (v := .int _ _) 4 rfl (by kernel_rfl) rfl rfl (fun w h => (h).pick [1] (by decide)) (fun w h => R_ld1 z3 rfl (zc 0 rfl rfl h)) ?_; refine h_one 2 (by kernel_rfl) (fun w h => (h).pick [1] (by decide)) ?_; refine o_tel rfl (wn_none rfl) rfl (fun w => zR Tryz.func86 rfl rfl rfl) (fun w h => iNeg_ok s w ((Kn.old hA).at_ 0 rfl h) (by omega)) (fun x3 a3 c3 hK3 hN3 => ?_)
 refine zh 5 rfl (by kernel_rfl) rfl rfl (fun w h => (h.unbase (fun x hx => .tail _ (hx))).pick [1] (by decide)) (fun w h => R_build bt27 rfl) ?_; refine h_one 6 (by kernel_rfl) (fun w h => (h.unbase (fun x hx => .tail _ (hx))).pick [1] (by decide)) ?_; refine o_tel rfl (wn_none rfl) rfl (fun w => zR Tryz.func12 rfl rfl rfl) (fun w h => jNormI_ok (-iv s n) E w (hK3.at_ 0 rfl h) ⟨by rw [hab]; omega, by omega, by omega⟩) (fun x4 a4 c4 hK4 hN4 => ?_)
 refine h_one 7 (by kernel_rfl) (fun w h => (h.unbase (fun x hx => .tail _ (.tail _ (hx)))).pick [1] (by decide)) ?_; refine o_store 0 rfl rfl z27 rfl rfl rfl rfl rfl rfl rfl ?_; refine h_done (by kernel_rfl) (fun w h => (h.unbase (fun x hx => .tail _ (.tail _ (hx)))).pick [1] (by decide)) ?_; refine zk ?_; refine ze ?_; refine r_fin (.inl rfl) rfl (.agg rfl rfl z27 (fun _ h => h.at_ 0 rfl) rfl .nil) ?_; exact fun w' hw => ⟨_, _, rfl, (hK4.at_ 0 rfl hw), (hN4 _ (.tail _ (.head _))), hw.fr (w, No) (.tail _ (.tail _ (.head _)))⟩
set_option maxRecDepth 100000 in
set_option maxHeartbeats 1000000 in
theorem jScale_ok (h9 : Int) (s : Bool) (E : Int) {a : Option Addr} {k c n : Nat} (w : World) (hA : Nm w a k c n) (hs : k ≤ 1000 ∧ sz n ≤ 900 ∧ (-1000 ≤ E ∧ E ≤ 1000) ∧ -1000 ≤ h9 ∧ h9 ≤ 1000) :
  Ret Tryz.prog 17 #[.agg #[.bool s, .slice a k c, .int .i64 E], .int .i64 h9] w (Tel (fun a c => .agg #[.bool (ng ((nd (iv s n) (E + h9))).1), .slice a (sz ((nd (iv s n) (E + h9))).1.natAbs) c, .int .i64 ((nd (iv s n) (E + h9))).2]) (sz ((nd (iv s n) (E + h9))).1.natAbs) ((nd (iv s n) (E + h9))).1.natAbs w) := by
 have hos := od_sz (s := s) (n := n) E
 have htz := nd_exp (s := s) (n := n) (E := E) (by omega) hs.2.2.1
 refine enter (S := No) (l := [_, _]) (L := []) 18 Tryz.func17 rfl rfl rfl (St.start w No) ?_; refine yA ?_; refine w_boxA rfl (fun p gp up => ?_)
 refine w_alloc zr27 (fun r gr ur => ?_)
 refine yC ?_; refine w_loadA z27 rfl (fun _ h => h.at_ 1 rfl) rfl ?_; refine w_tel (fun w => zR Tryz.func12 rfl rfl rfl) rfl rfl (fun w h => jNorm_ok s E w ((Kn.old hA).at_ 0 rfl h) ⟨by omega, by omega, by omega, by omega⟩) (fun x3 a3 c3 hK3 hN3 => ?_)
 refine w_store 1 rfl z27 rfl rfl rfl rfl rfl rfl rfl ?_; refine yB ?_; refine zq ?_; refine yA ?_; refine w_loadA z27 rfl (fun _ h => h.at_ 1 rfl) rfl ?_; refine zC (fun w => zR Tryz.func21 rfl rfl rfl) rfl rfl (fun w h => jSignI_ok (nd (iv s n) E).1 (nd (iv s n) E).2 w (hK3.at_ 0 rfl h) (by omega)) ?_; refine w_r (fun _ => R_eq rfl rfl) rfl rfl ?_; refine yB ?_; refine zD rfl (fun h4 => ?_) (fun h4 => ?_)
 ·have hn0 : n = 0 := nd1_zero.1 (Int.sign_eq_zero_iff_zero.1 h4)
  refine yA ?_; refine w_loadA z27 rfl (fun _ h => h.at_ 1 rfl) rfl ?_; refine w_store 0 rfl z27 rfl rfl rfl rfl rfl rfl rfl ?_; refine yB ?_; refine ze ?_; refine zt (?_)
  rw [show (nd (iv s n) (E + h9)) = (nd (iv s n) E) by rw [hn0, iv_zero, nd_zero, nd_zero]]
  refine r_fin (.inl rfl) rfl (.agg rfl rfl z27 (fun _ h => h.at_ 0 rfl) rfl .nil) ?_; exact fun w' hw => ⟨_, _, rfl, (hK3.at_ 0 rfl hw), (hN3 _ (.head _)), hw.fr (w, No) (.tail _ (.head _))⟩
 ·have hn0 : n ≠ 0 := fun h => h4 (by rw [nd1_zero.2 h]; rfl)
  refine zi ?_; refine zk ?_; refine yA ?_; refine zf fa27_0 rfl ?_; refine w_loadA z25 rfl (fun _ h => h.at_ 1 rfl) rfl ?_; refine zf fa27_1 rfl ?_; refine zl z3 rfl (fun _ h => zc 1 rfl rfl h) ?_; refine mI rfl ?_; refine w_r (fun _ => R_addi rfl rfl (by omega)) rfl rfl ?_; refine w_r (fun _ => R_build bt27 rfl) rfl rfl ?_; refine w_store 0 rfl z27 rfl rfl rfl rfl rfl rfl rfl ?_; refine yB ?_; refine ze ?_
  have e1 : (nd (iv s n) (E + h9)).1 = (nd (iv s n) E).1 := (by rw [nd_iv s _ hn0, nd_iv s _ hn0]); have e2 : (nd (iv s n) (E + h9)).2 = (nd (iv s n) E).2 + h9 := (by rw [nd_iv s _ hn0, nd_iv s _ hn0]; show E + h9 + (tz n : Int) = E + (tz n : Int) + h9; omega)
  rw [e1, e2]
  refine r_fin (.inl rfl) rfl (.agg rfl rfl z27 (fun _ h => h.at_ 0 rfl) rfl .nil) ?_; exact fun w' hw => ⟨_, _, rfl, (hK3.at_ 0 rfl hw), (hN3 _ (.head _)), hw.fr (w, No) (.tail _ (.head _))⟩
end Go.Proofs.YtoapegnngbhkbaaGreatDoor
end
section
namespace Go.Proofs.YtoapegnngbhkbaaGreatDoor
open Go.RowKit Go.Sx
open Go.Num
theorem iFloorL_ok (x : Int) (t : Bool) {a : Option Addr} {c : Nat} {a2 : Option Addr} {k2 c2 m : Nat} (w : World) (hA : Nm w a (sz x.natAbs) c x.natAbs) (hA2 : Nm w a2 k2 c2 m) (hs : sz x.natAbs ≤ 400 ∧ k2 ≤ 400 ∧ m ≠ 0) : Ret Tryz.prog 85 #[.agg #[.bool (ng (x)), .slice a (sz (x).natAbs) c], .agg #[.bool t, .slice a2 k2 c2]] w (Tel2 (fun a c a2 c2 => .tuple #[.agg #[.bool (ng (fl x (iv t m))), .slice a (sz (fl x (iv t m)).natAbs) c], .agg #[.bool (ng (x - fl x (iv t m) * (iv t m))), .slice a2 (sz (x - fl x (iv t m) * (iv t m)).natAbs) c2]]) (sz (fl x (iv t m)).natAbs) (fl x (iv t m)).natAbs (sz (x - fl x (iv t m) * (iv t m)).natAbs) (x - fl x (iv t m) * (iv t m)).natAbs w) := by
 have := iFloor_ok (ng x) t w hA hA2 hs
 rwa [iv_ng] at this
theorem iFloorR_ok (s : Bool) (y : Int) {a : Option Addr} {k c n : Nat} {a2 : Option Addr} {c2 : Nat} (w : World) (hA : Nm w a k c n) (hA2 : Nm w a2 (sz y.natAbs) c2 y.natAbs) (hs : k ≤ 400 ∧ sz y.natAbs ≤ 400 ∧ y.natAbs ≠ 0) : Ret Tryz.prog 85 #[.agg #[.bool s, .slice a k c], .agg #[.bool (ng (y)), .slice a2 (sz (y).natAbs) c2]] w (Tel2 (fun a c a2 c2 => .tuple #[.agg #[.bool (ng (fl (iv s n) y)), .slice a (sz (fl (iv s n) y).natAbs) c], .agg #[.bool (ng ((iv s n) - fl (iv s n) y * y)), .slice a2 (sz ((iv s n) - fl (iv s n) y * y).natAbs) c2]]) (sz (fl (iv s n) y).natAbs) (fl (iv s n) y).natAbs (sz ((iv s n) - fl (iv s n) y * y).natAbs) ((iv s n) - fl (iv s n) y * y).natAbs w) := by
 have := iFloor_ok s (ng y) w hA hA2 hs
 rwa [iv_ng] at this
set_option maxRecDepth 100000 in
set_option maxHeartbeats 1000000 in
theorem downU_ok (s t : Bool) (E F e9 : Int) (q : Nat) {a : Option Addr} {k c n : Nat} {a2 : Option Addr} {k2 c2 m : Nat} (w : World) (hA : Nm w a k c n) (hA2 : Nm w a2 k2 c2 m) (hs : k ≤ 100 ∧ k2 ≤ 100 ∧ m ≠ 0 ∧ q ≤ 10000 ∧ (-500000 ≤ E ∧ E ≤ 500000) ∧ (-500000 ≤ F ∧ F ≤ 500000) ∧ -4000000 ≤ e9 ∧ e9 ≤ 4000000) (hq : E - F - e9 = (q : Int)) :
  Ret Tryz.prog 48 #[.agg #[.bool s, .slice a k c, .int .i64 E], .agg #[.bool t, .slice a2 k2 c2, .int .i64 F], .int .i64 e9] w (Tel (fun a c => .agg #[.bool (ng ((fl (iv s n * ((2 ^ q : Nat) : Int)) (iv t m)))), .slice a (sz ((fl (iv s n * ((2 ^ q : Nat) : Int)) (iv t m))).natAbs) c]) (sz ((fl (iv s n * ((2 ^ q : Nat) : Int)) (iv t m))).natAbs) ((fl (iv s n * ((2 ^ q : Nat) : Int)) (iv t m))).natAbs w) := by
 have hz : sz (iv s n * ((2 ^ q : Nat) : Int)).natAbs ≤ 300 := by have h1 := sz_shl n q; have h2 : sz n ≤ k := sz_iff.2 hA.lt; rw [Int.natAbs_mul, Int.natAbs_natCast, iv_abs]; omega
 refine enter (S := No) (l := [_, _, _]) (L := []) 39 Tryz.func48 rfl rfl rfl (St.start w No) ?_; refine yA ?_; refine w_boxA rfl (fun p gp up => ?_)
 refine w_boxA rfl (fun p2 gp2 up2 => ?_)
 refine w_alloc zr25 (fun r gr ur => ?_)
 refine yC ?_; refine zf fa27_1 rfl ?_; refine zl z3 rfl (fun _ h => zc 2 rfl rfl h) ?_; refine zf fa27_1 rfl ?_; refine zl z3 rfl (fun _ h => zc 1 rfl rfl h) ?_; refine w_r (fun _ => R_subi rfl rfl (by omega)) rfl rfl ?_; refine mI rfl ?_; refine w_r (fun _ => R_subi rfl rfl (by omega)) rfl rfl ?_
 rw [hq]
 refine aI rfl ?_; refine yB ?_; refine zq ?_; refine c_heldI [0, 1, 2] mixed ?_; refine zh 0 rfl (by kernel_rfl) rfl rfl (fun w h => (h).pick [0, 1, 2] (by decide)) (fun w h => R_fa fa27_0 rfl) ?_; refine h_loadA 1 rfl (by kernel_rfl) (fun w h => (h).pick [0, 1, 2] (by decide)) z25 rfl (fun _ h => h.at_ 2 rfl) rfl ?_; refine zh 2 rfl (by kernel_rfl) rfl rfl (fun w h => (h).pick [0, 1, 2] (by decide)) (fun w h => R_fa fa27_0 rfl) ?_; refine h_loadA 3 rfl (by kernel_rfl) (fun w h => (h).pick [0, 1, 2] (by decide)) z25 rfl (fun _ h => h.at_ 1 rfl) rfl ?_; refine h_two 4 5 (by kernel_rfl) (fun w h => (h).pick [0, 1, 2] (by decide)) ?_ ?_
 ·refine o_alloc rfl zr25 (fun b8 gb8 ub8 => ?_)
  refine h_one 5 (by kernel_rfl) (fun w h => (h).pick [1, 2, 3] (by decide)) ?_; refine o_alloc rfl zr25 (fun b9 gb9 ub9 => ?_)
  refine h_one 6 (by kernel_rfl) (fun w h => (h).pick [2, 3, 4] (by decide)) ?_; refine o_store 1 rfl rfl z25 rfl rfl rfl rfl rfl rfl rfl ?_; refine h_one 7 (by kernel_rfl) (fun w h => (h).pick [2, 3, 4] (by decide)) ?_; refine o_store 0 rfl rfl z25 rfl rfl rfl rfl rfl rfl rfl ?_; refine h_done (by kernel_rfl) (fun w h => (h).pick [2, 3, 4] (by decide)) ?_; refine zk ?_; refine zq ?_; refine yA ?_; refine mI rfl ?_; refine w_r (fun _ => R_geN (a := q) (b := 0) rfl rfl) rfl rfl ?_; refine yB ?_; refine zD rfl (fun h4 => ?_) (fun h4 => ?_)
  ·refine zr ?_; refine w_loadA z25 rfl (fun _ h => h.at_ 1 rfl) rfl ?_; refine mI rfl ?_; refine w_tel (fun w => zR Tryz.func84 rfl rfl rfl) rfl rfl (fun w h => iShl_ok s w ((Kn.old hA).at_ 0 rfl h) (h9 := q) ⟨by omega, by omega⟩) (fun x5 a5 c5 hK5 hN5 => ?_)
   refine w_store 1 rfl z25 rfl rfl rfl rfl rfl rfl rfl ?_; refine yC ?_; refine w_loadA z25 rfl (fun _ h => h.at_ 1 rfl) rfl ?_; refine w_loadA z25 rfl (fun _ h => h.at_ 0 rfl) rfl ?_; refine w_tel2 (fun w => zR Tryz.func85 rfl rfl rfl) rfl rfl (fun w h => iFloorL_ok (iv s n * ((2 ^ q : Nat) : Int)) t w (hK5.at_ 0 rfl h) ((Kn.old hA2).at_ 1 rfl h) ⟨by omega, by omega, hs.2.2.1⟩) (fun x6 a6 c6 a6' c6' hK6 hN6 hK6' hN6' => ?_)
   refine zm rfl ?_; refine w_r (fun _ => R_extract rfl rfl) rfl rfl ?_; refine w_r (fun _ => R_extract rfl rfl) rfl rfl ?_; refine w_alloc zr25 (fun b10 gb10 ub10 => ?_)
   refine w_alloc zr25 (fun b11 gb11 ub11 => ?_)
   refine w_store 1 rfl z25 rfl rfl rfl rfl rfl rfl rfl ?_; refine w_store 0 rfl z25 rfl rfl rfl rfl rfl rfl rfl ?_; refine yC ?_; refine w_loadA z25 rfl (fun _ h => h.at_ 1 rfl) rfl ?_; refine w_store 4 rfl z25 rfl rfl rfl rfl rfl rfl rfl ?_; refine yB ?_; refine ze ?_; refine r_fin (.inl rfl) rfl (.agg rfl rfl z25 (fun _ h => h.at_ 4 rfl) rfl .nil) ?_; exact fun w' hw => ⟨_, _, rfl, (hK6.at_ 0 rfl hw), (hN6 _ (.tail _ (.head _))), hw.fr (w, No) (.tail _ (.tail _ (.head _)))⟩
  ·omega
 ·refine o_alloc rfl zr25 (fun b9 gb9 ub9 => ?_)
  refine h_one 4 (by kernel_rfl) (fun w h => (h).pick [1, 2, 3] (by decide)) ?_; refine o_alloc rfl zr25 (fun b8 gb8 ub8 => ?_)
  refine h_one 6 (by kernel_rfl) (fun w h => (h).pick [2, 3, 4] (by decide)) ?_; refine o_store 0 rfl rfl z25 rfl rfl rfl rfl rfl rfl rfl ?_; refine h_one 7 (by kernel_rfl) (fun w h => (h).pick [2, 3, 4] (by decide)) ?_; refine o_store 1 rfl rfl z25 rfl rfl rfl rfl rfl rfl rfl ?_; refine h_done (by kernel_rfl) (fun w h => (h).pick [2, 3, 4] (by decide)) ?_; refine zk ?_; refine zq ?_; refine yA ?_; refine mI rfl ?_; refine w_r (fun _ => R_geN (a := q) (b := 0) rfl rfl) rfl rfl ?_; refine yB ?_; refine zD rfl (fun h9 => ?_) (fun h9 => ?_)
  ·refine zr ?_; refine w_loadA z25 rfl (fun _ h => h.at_ 0 rfl) rfl ?_; refine mI rfl ?_; refine w_tel (fun w => zR Tryz.func84 rfl rfl rfl) rfl rfl (fun w h => iShl_ok s w ((Kn.old hA).at_ 0 rfl h) (h9 := q) ⟨by omega, by omega⟩) (fun x10 a10 c10 hK10 hN10 => ?_)
   refine w_store 0 rfl z25 rfl rfl rfl rfl rfl rfl rfl ?_; refine yC ?_; refine w_loadA z25 rfl (fun _ h => h.at_ 0 rfl) rfl ?_; refine w_loadA z25 rfl (fun _ h => h.at_ 1 rfl) rfl ?_; refine w_tel2 (fun w => zR Tryz.func85 rfl rfl rfl) rfl rfl (fun w h => iFloorL_ok (iv s n * ((2 ^ q : Nat) : Int)) t w (hK10.at_ 0 rfl h) ((Kn.old hA2).at_ 1 rfl h) ⟨by omega, by omega, hs.2.2.1⟩) (fun x11 a11 c11 a11' c11' hK11 hN11 hK11' hN11' => ?_)
   refine zm rfl ?_; refine w_r (fun _ => R_extract rfl rfl) rfl rfl ?_; refine w_r (fun _ => R_extract rfl rfl) rfl rfl ?_; refine w_alloc zr25 (fun b10 gb10 ub10 => ?_)
   refine w_alloc zr25 (fun b11 gb11 ub11 => ?_)
   refine w_store 1 rfl z25 rfl rfl rfl rfl rfl rfl rfl ?_; refine w_store 0 rfl z25 rfl rfl rfl rfl rfl rfl rfl ?_; refine yC ?_; refine w_loadA z25 rfl (fun _ h => h.at_ 1 rfl) rfl ?_; refine w_store 4 rfl z25 rfl rfl rfl rfl rfl rfl rfl ?_; refine yB ?_; refine ze ?_; refine r_fin (.inl rfl) rfl (.agg rfl rfl z25 (fun _ h => h.at_ 4 rfl) rfl .nil) ?_; exact fun w' hw => ⟨_, _, rfl, (hK11.at_ 0 rfl hw), (hN11 _ (.tail _ (.head _))), hw.fr (w, No) (.tail _ (.tail _ (.head _)))⟩
  ·omega
set_option maxRecDepth 100000 in
set_option maxHeartbeats 1000000 in
theorem downD_ok (s t : Bool) (E F e9 : Int) (q : Nat) {a : Option Addr} {k c n : Nat} {a2 : Option Addr} {k2 c2 m : Nat} (w : World) (hA : Nm w a k c n) (hA2 : Nm w a2 k2 c2 m) (hs : k ≤ 100 ∧ k2 ≤ 100 ∧ m ≠ 0 ∧ q ≤ 10000 ∧ (-500000 ≤ E ∧ E ≤ 500000) ∧ (-500000 ≤ F ∧ F ≤ 500000) ∧ -4000000 ≤ e9 ∧ e9 ≤ 4000000) (hq : E - F - e9 = -(q : Int) ∧ q ≠ 0) :
  Ret Tryz.prog 48 #[.agg #[.bool s, .slice a k c, .int .i64 E], .agg #[.bool t, .slice a2 k2 c2, .int .i64 F], .int .i64 e9] w (Tel (fun a c => .agg #[.bool (ng ((fl (iv s n) (iv t m * ((2 ^ q : Nat) : Int))))), .slice a (sz ((fl (iv s n) (iv t m * ((2 ^ q : Nat) : Int)))).natAbs) c]) (sz ((fl (iv s n) (iv t m * ((2 ^ q : Nat) : Int)))).natAbs) ((fl (iv s n) (iv t m * ((2 ^ q : Nat) : Int)))).natAbs w) := by
 obtain ⟨hq, hq0⟩ := hq
 have hab : (iv t m * ((2 ^ q : Nat) : Int)).natAbs = m * 2 ^ q := by rw [Int.natAbs_mul, Int.natAbs_natCast, iv_abs]
 have hz : sz (iv t m * ((2 ^ q : Nat) : Int)).natAbs ≤ 300 := by have h1 := sz_shl m q; have h2 : sz m ≤ k2 := sz_iff.2 hA2.lt; rw [hab]; omega
 have hne : (iv t m * ((2 ^ q : Nat) : Int)).natAbs ≠ 0 := by rw [hab]; exact Nat.mul_ne_zero hs.2.2.1 (Nat.pos_iff_ne_zero.1 (Nat.pow_pos (by decide)))
 refine enter (S := No) (l := [_, _, _]) (L := []) 39 Tryz.func48 rfl rfl rfl (St.start w No) ?_; refine yA ?_; refine w_boxA rfl (fun p gp up => ?_)
 refine w_boxA rfl (fun p2 gp2 up2 => ?_)
 refine w_alloc zr25 (fun r gr ur => ?_)
 refine yC ?_; refine zf fa27_1 rfl ?_; refine zl z3 rfl (fun _ h => zc 2 rfl rfl h) ?_; refine zf fa27_1 rfl ?_; refine zl z3 rfl (fun _ h => zc 1 rfl rfl h) ?_; refine w_r (fun _ => R_subi rfl rfl (by omega)) rfl rfl ?_; refine mI rfl ?_; refine w_r (fun _ => R_subi rfl rfl (by omega)) rfl rfl ?_
 rw [hq]
 refine aI rfl ?_; refine yB ?_; refine zq ?_; refine c_heldI [0, 1, 2] mixed ?_; refine zh 0 rfl (by kernel_rfl) rfl rfl (fun w h => (h).pick [0, 1, 2] (by decide)) (fun w h => R_fa fa27_0 rfl) ?_; refine h_loadA 1 rfl (by kernel_rfl) (fun w h => (h).pick [0, 1, 2] (by decide)) z25 rfl (fun _ h => h.at_ 2 rfl) rfl ?_; refine zh 2 rfl (by kernel_rfl) rfl rfl (fun w h => (h).pick [0, 1, 2] (by decide)) (fun w h => R_fa fa27_0 rfl) ?_; refine h_loadA 3 rfl (by kernel_rfl) (fun w h => (h).pick [0, 1, 2] (by decide)) z25 rfl (fun _ h => h.at_ 1 rfl) rfl ?_; refine h_two 4 5 (by kernel_rfl) (fun w h => (h).pick [0, 1, 2] (by decide)) ?_ ?_
 ·refine o_alloc rfl zr25 (fun b8 gb8 ub8 => ?_)
  refine h_one 5 (by kernel_rfl) (fun w h => (h).pick [1, 2, 3] (by decide)) ?_; refine o_alloc rfl zr25 (fun b9 gb9 ub9 => ?_)
  refine h_one 6 (by kernel_rfl) (fun w h => (h).pick [2, 3, 4] (by decide)) ?_; refine o_store 1 rfl rfl z25 rfl rfl rfl rfl rfl rfl rfl ?_; refine h_one 7 (by kernel_rfl) (fun w h => (h).pick [2, 3, 4] (by decide)) ?_; refine o_store 0 rfl rfl z25 rfl rfl rfl rfl rfl rfl rfl ?_; refine h_done (by kernel_rfl) (fun w h => (h).pick [2, 3, 4] (by decide)) ?_; refine zk ?_; refine zq ?_; refine yA ?_; refine mI rfl ?_; refine w_r (fun _ => R_ge rfl rfl) rfl rfl ?_; refine yB ?_; refine zD rfl (fun h4 => ?_) (fun h4 => ?_)
  ·omega
  ·refine zr ?_; refine w_loadA z25 rfl (fun _ h => h.at_ 0 rfl) rfl ?_; refine mI rfl ?_; refine w_r (fun _ => R_neg rfl) rfl rfl ?_
   rw [i64_negn (by omega)]
   refine w_tel (fun w => zR Tryz.func84 rfl rfl rfl) rfl rfl (fun w h => iShl_ok t w ((Kn.old hA2).at_ 0 rfl h) (h9 := q) ⟨by omega, by omega⟩) (fun x5 a5 c5 hK5 hN5 => ?_)
   refine w_store 0 rfl z25 rfl rfl rfl rfl rfl rfl rfl ?_; refine yC ?_; refine w_loadA z25 rfl (fun _ h => h.at_ 1 rfl) rfl ?_; refine w_loadA z25 rfl (fun _ h => h.at_ 0 rfl) rfl ?_; refine w_tel2 (fun w => zR Tryz.func85 rfl rfl rfl) rfl rfl (fun w h => iFloorR_ok s (iv t m * ((2 ^ q : Nat) : Int)) w ((Kn.old hA).at_ 1 rfl h) (hK5.at_ 0 rfl h) ⟨by omega, by omega, hne⟩) (fun x6 a6 c6 a6' c6' hK6 hN6 hK6' hN6' => ?_)
   refine zm rfl ?_; refine w_r (fun _ => R_extract rfl rfl) rfl rfl ?_; refine w_r (fun _ => R_extract rfl rfl) rfl rfl ?_; refine w_alloc zr25 (fun b10 gb10 ub10 => ?_)
   refine w_alloc zr25 (fun b11 gb11 ub11 => ?_)
   refine w_store 1 rfl z25 rfl rfl rfl rfl rfl rfl rfl ?_; refine w_store 0 rfl z25 rfl rfl rfl rfl rfl rfl rfl ?_; refine yC ?_; refine w_loadA z25 rfl (fun _ h => h.at_ 1 rfl) rfl ?_; refine w_store 4 rfl z25 rfl rfl rfl rfl rfl rfl rfl ?_; refine yB ?_; refine ze ?_; refine r_fin (.inl rfl) rfl (.agg rfl rfl z25 (fun _ h => h.at_ 4 rfl) rfl .nil) ?_; exact fun w' hw => ⟨_, _, rfl, (hK6.at_ 0 rfl hw), (hN6 _ (.tail _ (.head _))), hw.fr (w, No) (.tail _ (.tail _ (.head _)))⟩
 ·refine o_alloc rfl zr25 (fun b9 gb9 ub9 => ?_)
  refine h_one 4 (by kernel_rfl) (fun w h => (h).pick [1, 2, 3] (by decide)) ?_; refine o_alloc rfl zr25 (fun b8 gb8 ub8 => ?_)
  refine h_one 6 (by kernel_rfl) (fun w h => (h).pick [2, 3, 4] (by decide)) ?_; refine o_store 0 rfl rfl z25 rfl rfl rfl rfl rfl rfl rfl ?_; refine h_one 7 (by kernel_rfl) (fun w h => (h).pick [2, 3, 4] (by decide)) ?_; refine o_store 1 rfl rfl z25 rfl rfl rfl rfl rfl rfl rfl ?_; refine h_done (by kernel_rfl) (fun w h => (h).pick [2, 3, 4] (by decide)) ?_; refine zk ?_; refine zq ?_; refine yA ?_; refine mI rfl ?_; refine w_r (fun _ => R_ge rfl rfl) rfl rfl ?_; refine yB ?_; refine zD rfl (fun h9 => ?_) (fun h9 => ?_)
  ·omega
  ·refine zr ?_; refine w_loadA z25 rfl (fun _ h => h.at_ 1 rfl) rfl ?_; refine mI rfl ?_; refine w_r (fun _ => R_neg rfl) rfl rfl ?_
   rw [i64_negn (by omega)]
   refine w_tel (fun w => zR Tryz.func84 rfl rfl rfl) rfl rfl (fun w h => iShl_ok t w ((Kn.old hA2).at_ 0 rfl h) (h9 := q) ⟨by omega, by omega⟩) (fun x10 a10 c10 hK10 hN10 => ?_)
   refine w_store 1 rfl z25 rfl rfl rfl rfl rfl rfl rfl ?_; refine yC ?_; refine w_loadA z25 rfl (fun _ h => h.at_ 0 rfl) rfl ?_; refine w_loadA z25 rfl (fun _ h => h.at_ 1 rfl) rfl ?_; refine w_tel2 (fun w => zR Tryz.func85 rfl rfl rfl) rfl rfl (fun w h => iFloorR_ok s (iv t m * ((2 ^ q : Nat) : Int)) w ((Kn.old hA).at_ 1 rfl h) (hK10.at_ 0 rfl h) ⟨by omega, by omega, hne⟩) (fun x11 a11 c11 a11' c11' hK11 hN11 hK11' hN11' => ?_)
   refine zm rfl ?_; refine w_r (fun _ => R_extract rfl rfl) rfl rfl ?_; refine w_r (fun _ => R_extract rfl rfl) rfl rfl ?_; refine w_alloc zr25 (fun b10 gb10 ub10 => ?_)
   refine w_alloc zr25 (fun b11 gb11 ub11 => ?_)
   refine w_store 1 rfl z25 rfl rfl rfl rfl rfl rfl rfl ?_; refine w_store 0 rfl z25 rfl rfl rfl rfl rfl rfl rfl ?_; refine yC ?_; refine w_loadA z25 rfl (fun _ h => h.at_ 1 rfl) rfl ?_; refine w_store 4 rfl z25 rfl rfl rfl rfl rfl rfl rfl ?_; refine yB ?_; refine ze ?_; refine r_fin (.inl rfl) rfl (.agg rfl rfl z25 (fun _ h => h.at_ 4 rfl) rfl .nil) ?_; exact fun w' hw => ⟨_, _, rfl, (hK11.at_ 0 rfl hw), (hN11 _ (.tail _ (.head _))), hw.fr (w, No) (.tail _ (.tail _ (.head _)))⟩
theorem down_ok (s t : Bool) (E F e9 : Int) {a : Option Addr} {k c n : Nat} {a2 : Option Addr} {k2 c2 m : Nat} (w : World) (hA : Nm w a k c n) (hA2 : Nm w a2 k2 c2 m) (hs : k ≤ 100 ∧ k2 ≤ 100 ∧ m ≠ 0 ∧ (-500000 ≤ E ∧ E ≤ 500000) ∧ (-500000 ≤ F ∧ F ≤ 500000) ∧ (-4000000 ≤ e9 ∧ e9 ≤ 4000000) ∧ -10000 ≤ E - F - e9 ∧ E - F - e9 ≤ 10000) : Ret Tryz.prog 48 #[.agg #[.bool s, .slice a k c, .int .i64 E], .agg #[.bool t, .slice a2 k2 c2, .int .i64 F], .int .i64 e9] w (Tel (fun a c => .agg #[.bool (ng ((br (iv s n) (iv t m) (E - F - e9)))), .slice a (sz ((br (iv s n) (iv t m) (E - F - e9))).natAbs) c]) (sz ((br (iv s n) (iv t m) (E - F - e9))).natAbs) ((br (iv s n) (iv t m) (E - F - e9))).natAbs w) := by
 unfold br
 rcases Int.lt_or_le (E - F - e9) 0 with h | h
 ·obtain ⟨q, hq⟩ : ∃ q : Nat, E - F - e9 = -(q : Int) := ⟨(-(E - F - e9)).toNat, by omega⟩
  rw [if_neg (by omega), show (-(E - F - e9)).toNat = q by omega]
  exact downD_ok s t E F e9 q w hA hA2 ⟨hs.1, hs.2.1, hs.2.2.1, by omega, hs.2.2.2.1, hs.2.2.2.2.1, hs.2.2.2.2.2.1.1, hs.2.2.2.2.2.1.2⟩ ⟨hq, by omega⟩
 ·obtain ⟨q, hq⟩ : ∃ q : Nat, E - F - e9 = (q : Int) := ⟨(E - F - e9).toNat, by omega⟩
  rw [if_pos h, show (E - F - e9).toNat = q by omega]
  exact downU_ok s t E F e9 q w hA hA2 ⟨hs.1, hs.2.1, hs.2.2.1, by omega, hs.2.2.2.1, hs.2.2.2.2.1, hs.2.2.2.2.2.1.1, hs.2.2.2.2.2.1.2⟩ hq
theorem br_sz {x y k : Int} (hy : y ≠ 0) (h : sz x.natAbs ≤ 100) (hk : k ≤ 10000) : sz (br x y k).natAbs ≤ 301 := by
 rw [← br_eq]
 have h1 := fl_sz (BX x k) (BZ_ne hy k)
 have h2 := BX_sz h hk
 omega
end Go.Proofs.YtoapegnngbhkbaaGreatDoor
end
section
namespace Go.Proofs.YtoapegnngbhkbaaGreatDoor
open Go.RowKit Go.Sx
open Go.Num
/-- the document's quotient -/
def dr (x z : Int × Int) (p : Nat) (up : Bool) : Int × Int := if x.1 = 0 then (0, 0) else dv x z p up
theorem dr_zero {s : Bool} {n : Nat} {E : Int} (h : n = 0) (z : Int × Int) (p : Nat) (up : Bool) : dr (nd (iv s n) E) z p up = nd (iv s n) E := by
 subst h; unfold dr; rw [iv_zero, nd_zero, if_pos rfl]
section
variable {A : Int × Int} {y g : Int} {p j : Nat}
theorem ref_here (hA : A.1 ≠ 0) (hy : y ≠ 0) (hp : 0 < p) {e0 : Int} (he : e0 = (bl A.1.natAbs : Int) + A.2 - (bl y.natAbs + g) - p) (hj : j ≤ 3) (hj1 : j = 3 → ¬ nb (br A.1 y (A.2 - g - e0)) ≤ p) (h : nb (br A.1 y (A.2 - g - (e0 - 2 + (j : Int)))) ≤ p) : nd (br A.1 y (A.2 - g - (e0 - 2 + (j : Int)))) (e0 - 2 + (j : Int)) = dr A (nd y g) p false := by
 have hd := dv_ref hA hy hp he (q := fun e => br A.1 y (A.2 - g - e)) (fun _ => rfl)
 unfold dr
 rw [if_neg hA]
 rcases (show j = 0 ∨ j = 1 ∨ j = 2 ∨ j = 3 by omega) with rfl | rfl | rfl | rfl
 ·rw [show e0 - 2 + ((0 : Nat) : Int) = e0 - 2 by omega] at h ⊢; exact hd.1 h
 ·rw [show e0 - 2 + ((1 : Nat) : Int) = e0 - 1 by omega] at h ⊢; exact hd.2.1 h
 ·rw [show e0 - 2 + ((2 : Nat) : Int) = e0 by omega] at h ⊢; exact hd.2.2.1 h
 ·rw [show e0 - 2 + ((3 : Nat) : Int) = e0 + 1 by omega] at h ⊢; exact (hd.2.2.2 (hj1 rfl)).2
theorem ref_on (hA : A.1 ≠ 0) (hy : y ≠ 0) (hp : 0 < p) {e0 : Int} (he : e0 = (bl A.1.natAbs : Int) + A.2 - (bl y.natAbs + g) - p) (hj : j ≤ 3) (hj1 : j = 3 → ¬ nb (br A.1 y (A.2 - g - e0)) ≤ p) (h : ¬ nb (br A.1 y (A.2 - g - (e0 - 2 + (j : Int)))) ≤ p) : j + 1 ≤ 3 ∧ (j + 1 = 3 → ¬ nb (br A.1 y (A.2 - g - e0)) ≤ p) := by
 have hd := dv_ref hA hy hp he (q := fun e => br A.1 y (A.2 - g - e)) (fun _ => rfl)
 rcases (show j = 0 ∨ j = 1 ∨ j = 2 ∨ j = 3 by omega) with rfl | rfl | rfl | rfl
 ·exact ⟨by decide, fun h => absurd h (by decide)⟩
 ·exact ⟨by decide, fun h => absurd h (by decide)⟩
 ·rw [show e0 - 2 + ((2 : Nat) : Int) = e0 by omega] at h; exact ⟨by decide, fun _ => h⟩
 ·rw [show e0 - 2 + ((3 : Nat) : Int) = e0 + 1 by omega] at h; exact absurd (hd.2.2.2 (hj1 rfl)).1 h
end
theorem jdownI_ok (x : Int) (t : Bool) (E F e9 : Int) {a : Option Addr} {c : Nat} {a2 : Option Addr} {k2 c2 m : Nat} (w : World) (hA : Nm w a (sz x.natAbs) c x.natAbs) (hA2 : Nm w a2 k2 c2 m) (hs : sz x.natAbs ≤ 100 ∧ k2 ≤ 100 ∧ m ≠ 0 ∧ (-500000 ≤ E ∧ E ≤ 500000) ∧ (-500000 ≤ F ∧ F ≤ 500000) ∧ (-4000000 ≤ e9 ∧ e9 ≤ 4000000) ∧ -10000 ≤ E - F - e9 ∧ E - F - e9 ≤ 10000) : Ret Tryz.prog 48 #[.agg #[.bool (ng x), .slice a (sz x.natAbs) c, .int .i64 E], .agg #[.bool t, .slice a2 k2 c2, .int .i64 F], .int .i64 e9] w (Tel (fun a c => .agg #[.bool (ng (br x (iv t m) (E - F - e9))), .slice a (sz (br x (iv t m) (E - F - e9)).natAbs) c]) (sz (br x (iv t m) (E - F - e9)).natAbs) (br x (iv t m) (E - F - e9)).natAbs w) := by
 have := down_ok (ng x) t E F e9 w hA hA2 hs
 rwa [iv_ng] at this
theorem jTopN_ok (s : Bool) (E : Int) {a : Option Addr} {k c n : Nat} (w : World) (hA : Nm w a k c n) (hs : n ≠ 0 ∧ k ≤ 1000000 ∧ sz n ≤ 2047 ∧ -4611686018427387904 ≤ E ∧ E ≤ 4611686018427387904) : Ret Tryz.prog 52 #[.agg #[.bool s, .slice a k c, .int .i64 E]] w fun v w' => v = .int .i64 ((bl n : Int) + E) ∧ Ext w w' := by
 have := jTop_ok s E w hA hs.2
 rwa [if_neg hs.1] at this
theorem iv_ne {t : Bool} {m : Nat} (h : m ≠ 0) : iv t m ≠ 0 := fun h0 => h (by have := iv_abs t m; rw [h0] at this; exact this.symm)
set_option maxRecDepth 100000 in
set_option maxHeartbeats 4000000 in
theorem jDivF_ok (s t : Bool) (E F : Int) (p : Nat) {a : Option Addr} {k c n : Nat} {a2 : Option Addr} {k2 c2 m : Nat} (w : World) (hA : Nm w a k c n) (hA2 : Nm w a2 k2 c2 m) (hs : k ≤ 100 ∧ k2 ≤ 100 ∧ sz n ≤ 10 ∧ sz m ≤ 10 ∧ m ≠ 0 ∧ (-3000 ≤ E ∧ E ≤ 3000) ∧ (-1000 ≤ F ∧ F ≤ 1000) ∧ 0 < p ∧ p ≤ 1000) :
  Ret Tryz.prog 22 #[.agg #[.bool s, .slice a k c, .int .i64 E], .agg #[.bool t, .slice a2 k2 c2, .int .i64 F], .int .i64 (p : Nat), .bool false] w (Tel (fun a c => .agg #[.bool (ng ((dr (nd (iv s n) E) (nd (iv t m) F) p false)).1), .slice a (sz ((dr (nd (iv s n) E) (nd (iv t m) F) p false)).1.natAbs) c, .int .i64 ((dr (nd (iv s n) E) (nd (iv t m) F) p false)).2]) (sz ((dr (nd (iv s n) E) (nd (iv t m) F) p false)).1.natAbs) ((dr (nd (iv s n) E) (nd (iv t m) F) p false)).1.natAbs w) := by
 have hos := od_sz (s := s) (n := n) E
 have hbA := bl_small (Nat.le_trans hos hs.2.2.1)
 have hbm := bl_small hs.2.2.2.1
 have hbn := bl_small hs.2.2.1
 have hy := iv_ne (t := t) hs.2.2.2.2.1
 refine enter (S := No) (l := [_, _, _, _]) (L := []) 48 Tryz.func22 rfl rfl rfl (St.start w No) ?_; refine yA ?_; refine w_boxA rfl (fun pa gpa upa => ?_)
 refine w_boxA rfl (fun p2 gp2 up2 => ?_)
 refine w_alloc zr27 (fun r gr ur => ?_)
 refine yC ?_; refine w_loadA z27 rfl (fun _ h => h.at_ 2 rfl) rfl ?_; refine w_tel (fun w => zR Tryz.func12 rfl rfl rfl) rfl rfl (fun w h => jNorm_ok s E w ((Kn.old hA).at_ 0 rfl h) ⟨by omega, by omega, by omega, by omega⟩) (fun xA aA cA hKA hNA => ?_)
 refine w_store 2 rfl z27 rfl rfl rfl rfl rfl rfl rfl ?_; refine yB ?_; refine zq ?_; refine yA ?_; refine w_loadA z27 rfl (fun _ h => h.at_ 2 rfl) rfl ?_; refine zC (fun w => zR Tryz.func21 rfl rfl rfl) rfl rfl (fun w h => jSignI_ok (nd (iv s n) E).1 (nd (iv s n) E).2 w (hKA.at_ 0 rfl h) (by omega)) ?_; refine w_r (fun _ => R_eq rfl rfl) rfl rfl ?_; refine yB ?_; refine zD rfl (fun h5 => ?_) (fun h5 => ?_)
 ·have hn0 : n = 0 := nd1_zero.1 (Int.sign_eq_zero_iff_zero.1 h5)
  refine yA ?_; refine w_loadA z27 rfl (fun _ h => h.at_ 2 rfl) rfl ?_; refine w_store 0 rfl z27 rfl rfl rfl rfl rfl rfl rfl ?_; refine yB ?_; refine ze ?_; refine zt (?_)
  rw [dr_zero hn0]
  refine r_fin (.inl rfl) rfl (.agg rfl rfl z27 (fun _ h => h.at_ 0 rfl) rfl .nil) ?_; exact fun w' hw => ⟨_, _, rfl, (hKA.at_ 0 rfl hw), (hNA _ (.head _)), hw.fr (w, No) (.tail _ (.head _))⟩
 ·have hA1 : (nd (iv s n) E).1 ≠ 0 := fun h => h5 (by rw [h]; rfl); have hAn : (nd (iv s n) E).1.natAbs ≠ 0 := (by omega); have hn0 : n ≠ 0 := fun h => hA1 (nd1_zero.2 h); have hex := (nd_all (s := s) E hn0).2.2; have htz := tz_bl hn0
  refine zi ?_; refine zk ?_; refine zq ?_; refine yA ?_; refine mB rfl ?_; refine yB ?_; refine c_condF rfl ?_; refine zi ?_; refine zk ?_; refine zq ?_; refine c_heldS mixed ?_; refine h_loadA 0 rfl (by kernel_rfl) (fun w h => h) z27 rfl (fun _ h => h.at_ 2 rfl) rfl ?_; refine h_loadA 2 rfl (by kernel_rfl) (fun w h => h) z27 rfl (fun _ h => h.at_ 1 rfl) rfl ?_; refine zh (v := .int _ _) 5 rfl (by kernel_rfl) rfl rfl (fun w h => h) (fun w h => R_move rfl) ?_; refine h_one 1 (by kernel_rfl) (fun w h => h) ?_; refine o_pureW rfl (wn_none rfl) rfl (fun w => zR Tryz.func52 rfl rfl rfl) (fun w h => jTopN_ok _ _ w (hKA.at_ 0 rfl h) ⟨hAn, by omega, by omega, by omega, by omega⟩) ?_; refine h_one 3 (by kernel_rfl) (fun w h => h) ?_
  refine o_pureW rfl (wn_none rfl) rfl (fun w => zR Tryz.func52 rfl rfl rfl) (fun w h => jTopN_ok _ _ w ((Kn.old hA2).at_ 1 rfl h) ⟨hs.2.2.2.2.1, by omega, by omega, by omega, by omega⟩) ?_; refine zh 4 rfl (by kernel_rfl) rfl rfl (fun w h => h) (fun w h => R_subi rfl rfl (by omega)) ?_; refine zh 6 rfl (by kernel_rfl) rfl rfl (fun w h => h) (fun w h => R_subi rfl rfl (by omega)) ?_; refine zh 7 rfl (by kernel_rfl) rfl rfl (fun w h => h) (fun w h => R_subi rfl rfl (by omega)) ?_; refine zh (v := .int _ _) 8 rfl (by kernel_rfl) rfl rfl (fun w h => h) (fun w h => R_assign rfl) ?_; refine h_done (by kernel_rfl) (fun w h => h) ?_; refine zk ?_; refine zB ?_
  refine c_loop (fun m9 e B L => ∃ (j : Nat), e 2 = .int .i64 (p : Nat) ∧ e 3 = .bool false ∧ e 4 = .pointer (some ⟨pa, 0, none⟩) ∧ e 5 = .pointer (some ⟨p2, 0, none⟩) ∧ e 8 = .pointer (some ⟨r, 0, none⟩) ∧ e 9 = .int .i64 ((((bl (nd (iv s n) E).1.natAbs : Int) + (nd (iv s n) E).2 - ((bl m : Int) + F) - (p : Int)) - 2) + (j : Int)) ∧ B = [xA, (w, No)] ∧ L = [(r, cel [.bool false, .slice none 0 0, .int .i64 0] 27), (p2, cel [.bool t, .slice a2 k2 c2, .int .i64 F] 27), (pa, cel [.bool (ng (nd (iv s n) E).1), .slice aA (sz (nd (iv s n) E).1.natAbs) cA, .int .i64 (nd (iv s n) E).2] 27)] ∧ j ≤ 3 ∧ (j = 3 → ¬ nb (br (nd (iv s n) E).1 (iv t m) ((nd (iv s n) E).2 - F - ((bl (nd (iv s n) E).1.natAbs : Int) + (nd (iv s n) E).2 - ((bl m : Int) + F) - (p : Int)))) ≤ p) ∧ m9 = 4 - j) _ ⟨0, rfl, rfl, rfl, rfl, rfl, (congrArg (fun z : Int => Value.int .i64 z) (by omega)), rfl, rfl, Nat.zero_le _, fun h => absurd h (by decide), rfl⟩ ?_
  rintro m9 e B L ⟨j, e2_1, e3_1, e4_1, e5_1, e8_1, e9_1, rfl, rfl, hj, hj1, rfl⟩
  have hzv := br_sz (x := (nd (iv s n) E).1) (k := (nd (iv s n) E).2 - F - ((((bl (nd (iv s n) E).1.natAbs : Int) + (nd (iv s n) E).2 - ((bl m : Int) + F) - (p : Int)) - 2) + (j : Int))) hy (by omega) (by omega)
  have hzq := odI_sz (br (nd (iv s n) E).1 (iv t m) ((nd (iv s n) E).2 - F - ((((bl (nd (iv s n) E).1.natAbs : Int) + (nd (iv s n) E).2 - ((bl m : Int) + F) - (p : Int)) - 2) + (j : Int)))) ((((bl (nd (iv s n) E).1.natAbs : Int) + (nd (iv s n) E).2 - ((bl m : Int) + F) - (p : Int)) - 2) + (j : Int))
  refine zB ?_; refine yA ?_; refine w_loadA z27 e4_1 (fun _ h => h.at_ 2 rfl) rfl ?_; refine w_loadA z27 e5_1 (fun _ h => h.at_ 1 rfl) rfl ?_; refine mI e9_1 ?_; refine w_tel (fun w => zR Tryz.func48 rfl rfl rfl) rfl rfl (fun w h => jdownI_ok (nd (iv s n) E).1 t (nd (iv s n) E).2 F ((((bl (nd (iv s n) E).1.natAbs : Int) + (nd (iv s n) E).2 - ((bl m : Int) + F) - (p : Int)) - 2) + (j : Int)) w (hKA.at_ 0 rfl h) ((Kn.old hA2).at_ 1 rfl h) ⟨by omega, by omega, hs.2.2.2.2.1, by omega, by omega, by omega, by omega, by omega⟩) (fun x6 a6 c6 hK6 hN6 => ?_)
  refine mI e9_1 ?_; refine w_r (fun _ => R_build bt27 rfl) rfl rfl ?_; refine w_tel (fun w => zR Tryz.func12 rfl rfl rfl) rfl rfl (fun w h => jNormI_ok (br (nd (iv s n) E).1 (iv t m) ((nd (iv s n) E).2 - F - ((((bl (nd (iv s n) E).1.natAbs : Int) + (nd (iv s n) E).2 - ((bl m : Int) + F) - (p : Int)) - 2) + (j : Int)))) ((((bl (nd (iv s n) E).1.natAbs : Int) + (nd (iv s n) E).2 - ((bl m : Int) + F) - (p : Int)) - 2) + (j : Int)) w (hK6.at_ 0 rfl h) ⟨by omega, by omega, by omega⟩) (fun x7 a7 c7 hK7 hN7 => ?_)
  refine w_alloc zr27 (fun bq gbq ubq => ?_)
  refine w_store 0 rfl z27 rfl rfl rfl rfl rfl rfl rfl ?_; refine yB ?_; refine zq ?_; refine yA ?_; refine zf fa27_0 rfl ?_; refine zf fa25_1 rfl ?_; refine zl z23 rfl (fun _ h => zc 0 rfl rfl h) ?_; refine zC (fun w => zR Tryz.func53 rfl rfl rfl) rfl rfl (fun w h => rBits_ok w (hK7.at_ 0 rfl h) (by omega)) ?_; refine mI e2_1 ?_; refine w_r (fun _ => R_le rfl rfl) rfl rfl ?_; refine yB ?_; refine zD rfl (fun h9 => ?_) (fun h9 => ?_)
  ·have hnb : nb (br (nd (iv s n) E).1 (iv t m) ((nd (iv s n) E).2 - F - ((((bl (nd (iv s n) E).1.natAbs : Int) + (nd (iv s n) E).2 - ((bl m : Int) + F) - (p : Int)) - 2) + (j : Int)))) ≤ p := (by rw [← nb_nd (br (nd (iv s n) E).1 (iv t m) ((nd (iv s n) E).2 - F - ((((bl (nd (iv s n) E).1.natAbs : Int) + (nd (iv s n) E).2 - ((bl m : Int) + F) - (p : Int)) - 2) + (j : Int)))) ((((bl (nd (iv s n) E).1.natAbs : Int) + (nd (iv s n) E).2 - ((bl m : Int) + F) - (p : Int)) - 2) + (j : Int))]; omega)
   refine yA ?_; refine w_loadA z27 rfl (fun _ h => h.at_ 0 rfl) rfl ?_; refine w_store 1 rfl z27 e8_1 rfl rfl rfl rfl rfl rfl ?_; refine yB ?_; refine ze ?_; refine zt (zb (zt (zb (?_))))
   rw [← ref_here hA1 hy (e0 := ((bl (nd (iv s n) E).1.natAbs : Int) + (nd (iv s n) E).2 - ((bl m : Int) + F) - (p : Int))) hs.2.2.2.2.2.2.2.1 (by rw [iv_abs]) hj hj1 hnb]
   refine r_fin (.inl rfl) rfl (.agg rfl e8_1 z27 (fun _ h => h.at_ 1 rfl) rfl .nil) ?_; exact fun w' hw => ⟨_, _, rfl, (hK7.at_ 0 rfl hw), (hN7 _ (.tail _ (.tail _ (.head _)))), hw.fr (w, No) (.tail _ (.tail _ (.tail _ (.head _))))⟩
  ·have hon := ref_on hA1 hy (e0 := ((bl (nd (iv s n) E).1.natAbs : Int) + (nd (iv s n) E).2 - ((bl m : Int) + F) - (p : Int))) hs.2.2.2.2.2.2.2.1 (by rw [iv_abs]) hj hj1 (fun h => by rw [← nb_nd (br (nd (iv s n) E).1 (iv t m) ((nd (iv s n) E).2 - F - ((((bl (nd (iv s n) E).1.natAbs : Int) + (nd (iv s n) E).2 - ((bl m : Int) + F) - (p : Int)) - 2) + (j : Int)))) ((((bl (nd (iv s n) E).1.natAbs : Int) + (nd (iv s n) E).2 - ((bl m : Int) + F) - (p : Int)) - 2) + (j : Int))] at h; omega)
   refine zi ?_; refine zk ?_; refine zr ?_; refine mI e9_1 ?_; refine w_r (fun _ => R_addi rfl rfl (by omega)) rfl rfl ?_; refine aI rfl ?_; refine zn ?_; refine b_on (?_)
   refine k_st (B' := [xA, (w, No)]) (L' := _) (fun w h => (h.pick [1, 2, 3] (by decide)).unbase (fun x hx => by rcases List.mem_cons.1 hx with rfl | hx; (exact (.tail _ (.tail _ (.head _)))); rcases List.mem_cons.1 hx with rfl | hx; (exact (.tail _ (.tail _ (.tail _ (.head _))))); exact absurd hx (by simp))) ?_; exact k_again _ (by omega) ⟨j + 1, e2_1, e3_1, e4_1, e5_1, e8_1, (congrArg (fun z : Int => Value.int .i64 z) (by omega)), rfl, rfl, hon.1, hon.2, rfl⟩
end Go.Proofs.YtoapegnngbhkbaaGreatDoor
end
section
namespace Go.Proofs.YtoapegnngbhkbaaGreatDoor
open Go.RowKit Go.Sx
open Go.Num
theorem nn_norm {y : Int × Int} (h : nd y.1 y.2 = y) : nd (nn y).1 (nn y).2 = nn y := by
 show nd (-y.1) y.2 = nn y
 rw [nd_neg, h]
theorem qt_sz {x z k : Int} {up : Bool} (hz : z ≠ 0) (h : sz x.natAbs ≤ 100) (hk : k ≤ 10000) : sz (qt x z k up).natAbs ≤ 301 := by
 unfold qt
 cases up
 ·exact br_sz hz h hk
 ·rw [if_pos rfl, Int.natAbs_neg]; exact br_sz hz (by rwa [Int.natAbs_neg]) hk
theorem nd_bd {V e : Int} (h : sz V.natAbs ≤ 301) (he : -20000 ≤ e ∧ e ≤ 20000) : sz (nd V e).1.natAbs ≤ 301 ∧ -20000 ≤ (nd V e).2 ∧ (nd V e).2 ≤ 40000 := by
 refine ⟨Nat.le_trans (odI_sz V e) h, ?_⟩
 by_cases h0 : V = 0
 ·subst h0; rw [nd_zero]; exact ⟨by decide, by decide⟩
 ·rw [nd_of h0]
  have h1 := tz_bl (n := V.natAbs) (by omega)
  have h2 := bl_sz h
  show -20000 ≤ e + (tz V.natAbs : Int) ∧ e + (tz V.natAbs : Int) ≤ 40000
  omega
theorem dr_bd {A C : Int × Int} {p : Nat} {up : Bool} (hC : C.1 ≠ 0) (hp : 0 < p) (h : sz A.1.natAbs ≤ 10 ∧ sz C.1.natAbs ≤ 10 ∧ p ≤ 1000 ∧ (-5000 ≤ A.2 ∧ A.2 ≤ 5000) ∧ -5000 ≤ C.2 ∧ C.2 ≤ 5000) : nd (dr A C p up).1 (dr A C p up).2 = dr A C p up ∧ sz (dr A C p up).1.natAbs ≤ 301 ∧ -20000 ≤ (dr A C p up).2 ∧ (dr A C p up).2 ≤ 40000 := by
 unfold dr
 split
 ·exact ⟨rfl, Nat.zero_le _, by decide, by decide⟩
 ·have hbA := bl_small h.1
  have hbC := bl_small h.2.1
  have hd := dv_prog (a := A) (b := C) (p := p) (up := up) hC hp (e0 := (bl A.1.natAbs : Int) + (A.2 - C.2) - bl C.1.natAbs - p) rfl
  generalize he : (bl A.1.natAbs : Int) + (A.2 - C.2) - bl C.1.natAbs - p = e0 at hd
  by_cases h1 : nb (qt A.1 C.1 (A.2 - C.2 - e0) up) ≤ p
  ·rw [← hd.1 h1]
   exact ⟨nd_idem _ _, nd_bd (qt_sz hC (by omega) (by omega)) (by omega)⟩
  ·rw [← (hd.2 h1).2]
   exact ⟨nd_idem _ _, nd_bd (qt_sz hC (by omega) (by omega)) (by omega)⟩
theorem dr_up (a b : Int × Int) (p : Nat) : nn (dr (nn a) b p false) = dr a b p true := by
 unfold dr
 by_cases h : a.1 = 0
 ·rw [if_pos h, if_pos (show (nn a).1 = 0 from by show -a.1 = 0; omega)]; rfl
 ·rw [if_neg h, if_neg (show ¬ (nn a).1 = 0 from fun h0 => h (by have : -a.1 = 0 := h0; omega)), dv_up]
theorem jNegI_ok (y : Int × Int) (hy : nd y.1 y.2 = y) {a : Option Addr} {c : Nat} (w : World) (hA : Nm w a (sz y.1.natAbs) c y.1.natAbs) (hs : sz y.1.natAbs ≤ 900 ∧ -4000000 ≤ y.2 ∧ y.2 ≤ 4000000) : Ret Tryz.prog 51 #[.agg #[.bool (ng y.1), .slice a (sz y.1.natAbs) c, .int .i64 y.2]] w (Tel (fun a c => .agg #[.bool (ng ((nn y)).1), .slice a (sz ((nn y)).1.natAbs) c, .int .i64 ((nn y)).2]) (sz ((nn y)).1.natAbs) ((nn y)).1.natAbs w) := by
 have := jNeg0_ok (ng y.1) y.2 w hA ⟨by omega, hs.1, hs.2.1, hs.2.2⟩
 rwa [iv_ng, nd_neg, hy] at this
theorem jDivN_ok (y : Int × Int) (hy : nd y.1 y.2 = y) (t : Bool) (F : Int) (p : Nat) {a : Option Addr} {c : Nat} {a2 : Option Addr} {k2 c2 m : Nat} (w : World) (hA : Nm w a (sz y.1.natAbs) c y.1.natAbs) (hA2 : Nm w a2 k2 c2 m) (hs : sz y.1.natAbs ≤ 10 ∧ k2 ≤ 100 ∧ sz m ≤ 10 ∧ m ≠ 0 ∧ (-3000 ≤ y.2 ∧ y.2 ≤ 3000) ∧ (-1000 ≤ F ∧ F ≤ 1000) ∧ 0 < p ∧ p ≤ 1000) : Ret Tryz.prog 22 #[.agg #[.bool (ng y.1), .slice a (sz y.1.natAbs) c, .int .i64 y.2], .agg #[.bool t, .slice a2 k2 c2, .int .i64 F], .int .i64 (p : Nat), .bool false] w (Tel (fun a c => .agg #[.bool (ng ((dr y (nd (iv t m) F) p false)).1), .slice a (sz ((dr y (nd (iv t m) F) p false)).1.natAbs) c, .int .i64 ((dr y (nd (iv t m) F) p false)).2]) (sz ((dr y (nd (iv t m) F) p false)).1.natAbs) ((dr y (nd (iv t m) F) p false)).1.natAbs w) := by
 have := jDivF_ok (ng y.1) t y.2 F p w hA hA2 ⟨by omega, hs.2.1, hs.1, hs.2.2⟩
 rwa [iv_ng, hy] at this
theorem nd_exS {s : Bool} {n : Nat} {E : Int} (hn : sz n ≤ 10) : (nd (iv s n) E).2 = 0 ∨ (E ≤ (nd (iv s n) E).2 ∧ (nd (iv s n) E).2 ≤ E + 640) := by
 by_cases h : n = 0
 ·subst h; rw [iv_zero, nd_zero]; exact .inl rfl
 ·rw [(nd_all E h).2.2]
  have h1 := tz_bl h
  have h2 := bl_small hn
  exact .inr (by omega)
set_option maxRecDepth 100000 in
set_option maxHeartbeats 4000000 in
theorem jDivT_ok (s t : Bool) (E F : Int) (p : Nat) {a : Option Addr} {k c n : Nat} {a2 : Option Addr} {k2 c2 m : Nat} (w : World) (hA : Nm w a k c n) (hA2 : Nm w a2 k2 c2 m) (hs : k ≤ 100 ∧ k2 ≤ 100 ∧ sz n ≤ 10 ∧ sz m ≤ 10 ∧ m ≠ 0 ∧ (-1000 ≤ E ∧ E ≤ 1000) ∧ (-1000 ≤ F ∧ F ≤ 1000) ∧ 0 < p ∧ p ≤ 1000) :
  Ret Tryz.prog 22 #[.agg #[.bool s, .slice a k c, .int .i64 E], .agg #[.bool t, .slice a2 k2 c2, .int .i64 F], .int .i64 (p : Nat), .bool true] w (Tel (fun a c => .agg #[.bool (ng ((dr (nd (iv s n) E) (nd (iv t m) F) p true)).1), .slice a (sz ((dr (nd (iv s n) E) (nd (iv t m) F) p true)).1.natAbs) c, .int .i64 ((dr (nd (iv s n) E) (nd (iv t m) F) p true)).2]) (sz ((dr (nd (iv s n) E) (nd (iv t m) F) p true)).1.natAbs) ((dr (nd (iv s n) E) (nd (iv t m) F) p true)).1.natAbs w) := by
 have hos := od_sz (s := s) (n := n) E
 have hoc := od_sz (s := t) (n := m) F
 have hex := nd_exS (s := s) (n := n) (E := E) hs.2.2.1
 have hexc := nd_exS (s := t) (n := m) (E := F) hs.2.2.2.1
 have hC : (nd (iv t m) F).1 ≠ 0 := nd_ne (iv_ne hs.2.2.2.2.1)
 have hab : sz (nn (nd (iv s n) E)).1.natAbs = sz (nd (iv s n) E).1.natAbs := congrArg sz (Int.natAbs_neg _)
 have hab2 : (nn (nd (iv s n) E)).2 = (nd (iv s n) E).2 := rfl
 have hD := dr_bd (A := nn (nd (iv s n) E)) (C := (nd (iv t m) F)) (up := false) hC hs.2.2.2.2.2.2.2.1 ⟨by omega, by omega, by omega, by omega, by omega⟩
 refine enter (S := No) (l := [_, _, _, _]) (L := []) 48 Tryz.func22 rfl rfl rfl (St.start w No) ?_; refine yA ?_; refine w_boxA rfl (fun pa gpa upa => ?_)
 refine w_boxA rfl (fun p2 gp2 up2 => ?_)
 refine w_alloc zr27 (fun r gr ur => ?_)
 refine yC ?_; refine w_loadA z27 rfl (fun _ h => h.at_ 2 rfl) rfl ?_; refine w_tel (fun w => zR Tryz.func12 rfl rfl rfl) rfl rfl (fun w h => jNorm_ok s E w ((Kn.old hA).at_ 0 rfl h) ⟨by omega, by omega, by omega, by omega⟩) (fun xA aA cA hKA hNA => ?_)
 refine w_store 2 rfl z27 rfl rfl rfl rfl rfl rfl rfl ?_; refine yB ?_; refine zq ?_; refine yA ?_; refine w_loadA z27 rfl (fun _ h => h.at_ 2 rfl) rfl ?_; refine zC (fun w => zR Tryz.func21 rfl rfl rfl) rfl rfl (fun w h => jSignI_ok (nd (iv s n) E).1 (nd (iv s n) E).2 w (hKA.at_ 0 rfl h) (by omega)) ?_; refine w_r (fun _ => R_eq rfl rfl) rfl rfl ?_; refine yB ?_; refine zD rfl (fun h5 => ?_) (fun h5 => ?_)
 ·have hn0 : n = 0 := nd1_zero.1 (Int.sign_eq_zero_iff_zero.1 h5)
  refine yA ?_; refine w_loadA z27 rfl (fun _ h => h.at_ 2 rfl) rfl ?_; refine w_store 0 rfl z27 rfl rfl rfl rfl rfl rfl rfl ?_; refine yB ?_; refine ze ?_; refine zt (?_)
  rw [dr_zero hn0]
  refine r_fin (.inl rfl) rfl (.agg rfl rfl z27 (fun _ h => h.at_ 0 rfl) rfl .nil) ?_; exact fun w' hw => ⟨_, _, rfl, (hKA.at_ 0 rfl hw), (hNA _ (.head _)), hw.fr (w, No) (.tail _ (.head _))⟩
 ·skip
  refine zi ?_; refine zk ?_; refine zq ?_; refine yA ?_; refine mB rfl ?_; refine yB ?_; refine zE rfl ?_; refine zq ?_; refine c_heldI [1, 2] mixed ?_; refine h_loadA 0 rfl (by kernel_rfl) (fun w h => (h).pick [1, 2] (by decide)) z27 rfl (fun _ h => h.at_ 1 rfl) rfl ?_; refine h_loadA 2 rfl (by kernel_rfl) (fun w h => (h).pick [1, 2] (by decide)) z27 rfl (fun _ h => h.at_ 0 rfl) rfl ?_; refine zh (v := .int _ _) 3 rfl (by kernel_rfl) rfl rfl (fun w h => (h).pick [1, 2] (by decide)) (fun w h => R_move rfl) ?_; refine h_one 1 (by kernel_rfl) (fun w h => (h).pick [1, 2] (by decide)) ?_; refine o_tel rfl (wn_none rfl) rfl (fun w => zR Tryz.func51 rfl rfl rfl) (fun w h => jNegI_ok (nd (iv s n) E) (nd_idem _ _) w (hKA.at_ 0 rfl h) ⟨by omega, by omega, by omega⟩) (fun x6 a6 c6 hK6 hN6 => ?_)
  refine h_one 4 (by kernel_rfl) (fun w h => (h.unbase (fun x hx => .tail _ (hx))).pick [1, 2] (by decide)) ?_; refine o_tel rfl (wn_none rfl) rfl (fun w => zR Tryz.func22 rfl rfl rfl) (fun w h => jDivN_ok (nn (nd (iv s n) E)) (nn_norm (nd_idem _ _)) t F p w (hK6.at_ 0 rfl h) ((Kn.old hA2).at_ 2 rfl h) ⟨by omega, by omega, by omega, hs.2.2.2.2.1, by omega, by omega, hs.2.2.2.2.2.2.2.1, by omega⟩) (fun x7 a7 c7 hK7 hN7 => ?_)
  refine h_one 5 (by kernel_rfl) (fun w h => (h.unbase (fun x hx => .tail _ (.tail _ (hx)))).pick [1, 2] (by decide)) ?_; refine o_tel rfl (wn_none rfl) rfl (fun w => zR Tryz.func51 rfl rfl rfl) (fun w h => jNegI_ok (dr (nn (nd (iv s n) E)) (nd (iv t m) F) p false) hD.1 w (hK7.at_ 0 rfl h) ⟨by omega, by omega, by omega⟩) (fun x8 a8 c8 hK8 hN8 => ?_)
  refine h_one 6 (by kernel_rfl) (fun w h => (h.unbase (fun x hx => .tail _ (.tail _ (.tail _ (hx))))).pick [1, 2] (by decide)) ?_; refine o_store 0 rfl rfl z27 rfl rfl rfl rfl rfl rfl rfl ?_; refine h_done (by kernel_rfl) (fun w h => (h.unbase (fun x hx => .tail _ (.tail _ (.tail _ (hx))))).pick [1, 2] (by decide)) ?_; refine zk ?_; refine ze ?_; refine zt (?_)
  rw [← dr_up]
  refine r_fin (.inl rfl) rfl (.agg rfl rfl z27 (fun _ h => h.at_ 0 rfl) rfl .nil) ?_; exact fun w' hw => ⟨_, _, rfl, (hK8.at_ 0 rfl hw), (hN8 _ (.tail _ (.tail _ (.tail _ (.head _))))), hw.fr (w, No) (.tail _ (.tail _ (.tail _ (.tail _ (.head _)))))⟩
theorem jDiv_ok (s t : Bool) (E F : Int) (p : Nat) (up : Bool) {a : Option Addr} {k c n : Nat} {a2 : Option Addr} {k2 c2 m : Nat} (w : World) (hA : Nm w a k c n) (hA2 : Nm w a2 k2 c2 m) (hs : k ≤ 100 ∧ k2 ≤ 100 ∧ sz n ≤ 10 ∧ sz m ≤ 10 ∧ m ≠ 0 ∧ (-1000 ≤ E ∧ E ≤ 1000) ∧ (-1000 ≤ F ∧ F ≤ 1000) ∧ 0 < p ∧ p ≤ 1000) : Ret Tryz.prog 22 #[.agg #[.bool s, .slice a k c, .int .i64 E], .agg #[.bool t, .slice a2 k2 c2, .int .i64 F], .int .i64 (p : Nat), .bool up] w (Tel (fun a c => .agg #[.bool (ng ((dr (nd (iv s n) E) (nd (iv t m) F) p up)).1), .slice a (sz ((dr (nd (iv s n) E) (nd (iv t m) F) p up)).1.natAbs) c, .int .i64 ((dr (nd (iv s n) E) (nd (iv t m) F) p up)).2]) (sz ((dr (nd (iv s n) E) (nd (iv t m) F) p up)).1.natAbs) ((dr (nd (iv s n) E) (nd (iv t m) F) p up)).1.natAbs w) := by
 cases up
 ·exact jDivF_ok s t E F p w hA hA2 ⟨hs.1, hs.2.1, hs.2.2.1, hs.2.2.2.1, hs.2.2.2.2.1, by omega, hs.2.2.2.2.2.2⟩
 ·exact jDivT_ok s t E F p w hA hA2 hs
theorem jDivO_ok (s : Bool) (E : Int) (p : Nat) (up : Bool) {a : Option Addr} {k c n : Nat} {a2 : Option Addr} {c2 : Nat} (w : World) (hA : Nm w a k c n) (hA2 : Nm w a2 (sz (nd 1 0).1.natAbs) c2 (nd 1 0).1.natAbs) (hs : k ≤ 100 ∧ sz n ≤ 10 ∧ (-1000 ≤ E ∧ E ≤ 1000) ∧ 0 < p ∧ p ≤ 1000) : Ret Tryz.prog 22 #[.agg #[.bool s, .slice a k c, .int .i64 E], .agg #[.bool (ng (nd 1 0).1), .slice a2 (sz (nd 1 0).1.natAbs) c2, .int .i64 (nd 1 0).2], .int .i64 (p : Nat), .bool up] w (Tel (fun a c => .agg #[.bool (ng ((dr (nd (iv s n) E) (nd 1 0) p up)).1), .slice a (sz ((dr (nd (iv s n) E) (nd 1 0) p up)).1.natAbs) c, .int .i64 ((dr (nd (iv s n) E) (nd 1 0) p up)).2]) (sz ((dr (nd (iv s n) E) (nd 1 0) p up)).1.natAbs) ((dr (nd (iv s n) E) (nd 1 0) p up)).1.natAbs w) := by
 have ho1 : sz (nd 1 0).1.natAbs ≤ 10 ∧ (nd 1 0).2 = 0 ∧ (nd 1 0).1.natAbs ≠ 0 := by rw [nd_one]; exact ⟨by decide, rfl, by decide⟩
 have := jDiv_ok s (ng (nd 1 0).1) E (nd 1 0).2 p up w hA hA2 ⟨hs.1, by omega, hs.2.1, by omega, ho1.2.2, hs.2.2.1, by omega, hs.2.2.2⟩
 rwa [iv_ng, nd_idem] at this
theorem jdownO_ok (s : Bool) (E e9 : Int) {a : Option Addr} {k c n : Nat} {a2 : Option Addr} {c2 : Nat} (w : World) (hA : Nm w a k c n) (hA2 : Nm w a2 (sz (nd 1 0).1.natAbs) c2 (nd 1 0).1.natAbs) (hs : k ≤ 100 ∧ (-1000 ≤ E ∧ E ≤ 1000) ∧ -1000 ≤ e9 ∧ e9 ≤ 1000) : Ret Tryz.prog 48 #[.agg #[.bool s, .slice a k c, .int .i64 E], .agg #[.bool (ng (nd 1 0).1), .slice a2 (sz (nd 1 0).1.natAbs) c2, .int .i64 (nd 1 0).2], .int .i64 e9] w (Tel (fun a c => .agg #[.bool (ng (br (iv s n) 1 (E - e9))), .slice a (sz (br (iv s n) 1 (E - e9)).natAbs) c]) (sz (br (iv s n) 1 (E - e9)).natAbs) (br (iv s n) 1 (E - e9)).natAbs w) := by
 have ho1 : sz (nd 1 0).1.natAbs ≤ 10 ∧ (nd 1 0).2 = 0 ∧ (nd 1 0).1.natAbs ≠ 0 := by rw [nd_one]; exact ⟨by decide, rfl, by decide⟩
 have := down_ok s (ng (nd 1 0).1) E (nd 1 0).2 e9 w hA hA2 ⟨hs.1, by omega, ho1.2.2, by omega, by omega, by omega, by omega, by omega⟩
 have e : br (iv s n) (iv (ng (nd 1 0).1) (nd 1 0).1.natAbs) (E - (nd 1 0).2 - e9) = br (iv s n) 1 (E - e9) := by rw [iv_ng, ho1.2.1, Int.sub_zero, nd_one]
 rwa [e] at this
set_option maxRecDepth 100000 in
set_option maxHeartbeats 400000 in
theorem jRound_ok (s : Bool) (E : Int) (p : Nat) (up : Bool) {a : Option Addr} {k c n : Nat} (w : World) (hA : Nm w a k c n) (hs : k ≤ 100 ∧ sz n ≤ 10 ∧ (-1000 ≤ E ∧ E ≤ 1000) ∧ 0 < p ∧ p ≤ 1000) :
  Ret Tryz.prog 20 #[.agg #[.bool s, .slice a k c, .int .i64 E], .int .i64 (p : Nat), .bool up] w (Tel (fun a c => .agg #[.bool (ng ((dr (nd (iv s n) E) (nd 1 0) p up)).1), .slice a (sz ((dr (nd (iv s n) E) (nd 1 0) p up)).1.natAbs) c, .int .i64 ((dr (nd (iv s n) E) (nd 1 0) p up)).2]) (sz ((dr (nd (iv s n) E) (nd 1 0) p up)).1.natAbs) ((dr (nd (iv s n) E) (nd 1 0) p up)).1.natAbs w) := by
 refine enter (S := No) (l := [_, _, _]) (L := []) 12 Tryz.func20 rfl rfl rfl (St.start w No) ?_; refine yA ?_; refine w_boxA rfl (fun pa gpa upa => ?_)
 refine w_alloc zr27 (fun r gr ur => ?_)
 refine yB ?_; refine zq ?_; refine c_heldI [1] mixed ?_; refine h_loadA 0 rfl (by kernel_rfl) (fun w h => (h).pick [1] (by decide)) z27 rfl (fun _ h => h.at_ 0 rfl) rfl ?_; refine zh (v := .int _ _) 2 rfl (by kernel_rfl) rfl rfl (fun w h => (h).pick [1] (by decide)) (fun w h => R_move rfl) ?_; refine zh (v := .bool _) 3 rfl (by kernel_rfl) rfl rfl (fun w h => (h).pick [1] (by decide)) (fun w h => R_move rfl) ?_; refine h_one 1 (by kernel_rfl) (fun w h => (h).pick [1] (by decide)) ?_; refine o_tel rfl (wn_none rfl) rfl (fun w => zR Tryz.func49 rfl rfl rfl) (fun w h => jOf_ok (x := 1) w ⟨by decide, by decide⟩) (fun x3 a3 c3 hK3 hN3 => ?_)
 refine h_one 4 (by kernel_rfl) (fun w h => (h.unbase (fun x hx => .tail _ (hx))).pick [1] (by decide)) ?_; refine o_tel rfl (wn_none rfl) rfl (fun w => zR Tryz.func22 rfl rfl rfl) (fun w h => jDivO_ok s E p up w ((Kn.old hA).at_ 1 rfl h) (hK3.at_ 0 rfl h) hs) (fun x4 a4 c4 hK4 hN4 => ?_)
 refine h_one 5 (by kernel_rfl) (fun w h => (h.unbase (fun x hx => .tail _ (.tail _ (hx)))).pick [1] (by decide)) ?_; refine o_store 0 rfl rfl z27 rfl rfl rfl rfl rfl rfl rfl ?_; refine h_done (by kernel_rfl) (fun w h => (h.unbase (fun x hx => .tail _ (.tail _ (hx)))).pick [1] (by decide)) ?_; refine zk ?_; refine ze ?_; refine r_fin (.inl rfl) rfl (.agg rfl rfl z27 (fun _ h => h.at_ 0 rfl) rfl .nil) ?_; exact fun w' hw => ⟨_, _, rfl, (hK4.at_ 0 rfl hw), (hN4 _ (.tail _ (.head _))), hw.fr (w, No) (.tail _ (.tail _ (.head _)))⟩
set_option maxRecDepth 100000 in
set_option maxHeartbeats 400000 in
theorem jGrid_ok (s : Bool) (E e9 : Int) {a : Option Addr} {k c n : Nat} (w : World) (hA : Nm w a k c n) (hs : k ≤ 100 ∧ (-1000 ≤ E ∧ E ≤ 1000) ∧ -1000 ≤ e9 ∧ e9 ≤ 1000) :
  Ret Tryz.prog 19 #[.agg #[.bool s, .slice a k c, .int .i64 E], .int .i64 e9] w (Tel (fun a c => .agg #[.bool (ng (br (iv s n) 1 (E - e9))), .slice a (sz (br (iv s n) 1 (E - e9)).natAbs) c]) (sz (br (iv s n) 1 (E - e9)).natAbs) (br (iv s n) 1 (E - e9)).natAbs w) := by
 refine enter (S := No) (l := [_, _]) (L := []) 9 Tryz.func19 rfl rfl rfl (St.start w No) ?_; refine yA ?_; refine w_boxA rfl (fun pa gpa upa => ?_)
 refine w_alloc zr25 (fun r gr ur => ?_)
 refine yB ?_; refine zq ?_; refine c_heldI [1] mixed ?_; refine h_loadA 0 rfl (by kernel_rfl) (fun w h => (h).pick [1] (by decide)) z27 rfl (fun _ h => h.at_ 0 rfl) rfl ?_; refine zh (v := .int _ _) 2 rfl (by kernel_rfl) rfl rfl (fun w h => (h).pick [1] (by decide)) (fun w h => R_move rfl) ?_; refine h_one 1 (by kernel_rfl) (fun w h => (h).pick [1] (by decide)) ?_; refine o_tel rfl (wn_none rfl) rfl (fun w => zR Tryz.func49 rfl rfl rfl) (fun w h => jOf_ok (x := 1) w ⟨by decide, by decide⟩) (fun x3 a3 c3 hK3 hN3 => ?_)
 refine h_one 3 (by kernel_rfl) (fun w h => (h.unbase (fun x hx => .tail _ (hx))).pick [1] (by decide)) ?_; refine o_tel rfl (wn_none rfl) rfl (fun w => zR Tryz.func48 rfl rfl rfl) (fun w h => jdownO_ok s E e9 w ((Kn.old hA).at_ 1 rfl h) (hK3.at_ 0 rfl h) hs) (fun x4 a4 c4 hK4 hN4 => ?_)
 refine h_one 4 (by kernel_rfl) (fun w h => (h.unbase (fun x hx => .tail _ (.tail _ (hx)))).pick [1] (by decide)) ?_; refine o_store 0 rfl rfl z25 rfl rfl rfl rfl rfl rfl rfl ?_; refine h_done (by kernel_rfl) (fun w h => (h.unbase (fun x hx => .tail _ (.tail _ (hx)))).pick [1] (by decide)) ?_; refine zk ?_; refine ze ?_; refine r_fin (.inl rfl) rfl (.agg rfl rfl z25 (fun _ h => h.at_ 0 rfl) rfl .nil) ?_; exact fun w' hw => ⟨_, _, rfl, (hK4.at_ 0 rfl hw), (hN4 _ (.tail _ (.head _))), hw.fr (w, No) (.tail _ (.tail _ (.head _)))⟩
end Go.Proofs.YtoapegnngbhkbaaGreatDoor
end
