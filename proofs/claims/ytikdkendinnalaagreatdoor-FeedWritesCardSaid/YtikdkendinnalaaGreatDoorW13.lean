/- Layer 14, FeedWrites: that Write and Find tell what the document says, and that what is written is read as the same data again. Part 13 of 14. -/
import Derived.Test.YtikdkendinnalaaGreatDoorW11
set_option maxRecDepth 100000
set_option maxHeartbeats 16000000
section
namespace Go.Proofs.YtikdkendinnalaaGreatDoor
open Go.RowKit Go.Sx
open Go.Num Go.Feed
theorem may2_ok (s s1 : Bool) {a : Option Addr} {k c n : Nat} {a8 : Option Addr} {k8 c8 m : Nat} {au : Option Addr} {ku cu nu : Nat} {av : Option Addr} {kv cv mv : Nat} {sb : Nat} (w : World) (hA : Nm w a k c n) (hA8 : Nm w a8 k8 c8 m) (hB : Nm w au ku cu nu) (hB8 : Nm w av kv cv mv) (hb : w.heap[sb]? = some (cel [.bool s, .slice a k c, .slice a8 k8 c8, .bool s1, .slice au ku cu, .slice av kv cv] 46)) (hs : (k ≤ 1000000 ∧ k8 ≤ 1000000 ∧ ku ≤ 1000000 ∧ kv ≤ 1000000) ∧ (sz n ≤ 900 ∧ sz m ≤ 900 ∧ sz nu ≤ 900 ∧ sz mv ≤ 900) ∧ m ≠ 0 ∧ mv ≠ 0) :
  Ret Tryz.prog 51 #[.slice (some ⟨sb, 0, none⟩) 2 2] w (fun v w' => v = .tuple #[] ∧ Ext w w') := by
 have hz1 := sz_pos hs.2.2.1
 have hz2 := sz_pos hs.2.2.2
 refine enter (S := No) (l := [_]) (L := []) 39 Tryz.func51 rfl rfl rfl (St.start w No) ?_; refine yA ?_; refine mS rfl ?_; refine jj sl31 rfl ?_; refine mI rfl ?_; refine yB ?_; refine zB ?_; refine c_rounds 3 ?_; refine yA ?_; refine jl rfl rfl ?_; refine yB ?_; refine zq ?_; refine zE bD ?_; refine zi ?_; refine zk ?_; refine zq ?_; refine zB ?_; refine yA ?_; refine zg (fun _ => R_iaN (i := 0) sl31 rfl rfl (by first | omega | decide | exact Nat.succ_pos _ | exact Nat.succ_lt_succ (Nat.succ_pos _))) ?_
 refine w_loadC (l := [.bool s, .slice a k c, .slice a8 k8 c8]) z46 rfl rfl (fun w h j v hj => cel_oldb hb zm0 (fun x => x) (by rcases j with _ | _ | _ | j; (exact hj); (exact hj); (exact hj); (cases hj)) h) ?_; refine zA zr46 (fun eb geb ueb => ?_)
 refine jv 0 z46 rfl ?_; refine yC ?_; refine zf fa46_0 rfl ?_; refine jy 0 z44 rfl rfl ?_; refine w_tel (fun w => zR Tryz.func84 rfl rfl rfl) rfl rfl (fun w h => zNorm_ok _ w ((Kn.old hA).at_ 0 rfl h) ⟨by omega, by omega⟩) (fun x2 a2 c2 hK2 hN2 => ?_)
 refine zm rfl ?_; refine jx rfl rfl ?_; refine jx rfl rfl ?_; refine zA zr44 (fun nb gnb unb => ?_)
 refine jv 0 z44 rfl ?_; refine aI rfl ?_; refine yC ?_; refine zf fa46_1 rfl ?_; refine jM 1 z42 rfl ?_; refine w_tel (fun w => zR Tryz.func85 rfl rfl rfl) rfl rfl (fun w h => NNorm_ok w ((Kn.old hA8).at_ 1 rfl h) ⟨by omega, by omega⟩) (fun x4 a4 c4 hK4 hN4 => ?_)
 refine zm rfl ?_; refine jx rfl rfl ?_; refine jx rfl rfl ?_; refine za (v := .slice _ _ _) rfl ?_; refine aI rfl ?_; refine yC ?_; refine mI rfl ?_; refine jn rfl rfl ?_; refine mB rfl ?_; refine zw rfl rfl bE ?_; refine mI rfl ?_; refine zw rfl rfl bE ?_; refine jn rfl rfl ?_; refine jF bE rfl ?_
 refine mB rfl ?_; refine zw rfl rfl bE ?_; refine mS rfl ?_; refine zw rfl rfl bE ?_; refine jj sl42 rfl ?_; refine zw rfl rfl bE ?_; refine zg (fun _ => R_eqN (a := (sz m)) (b := 0) rfl rfl) ?_; refine jF bE rfl ?_; refine yB ?_; refine zD rfl (fun h5 => ?_) (fun h5 => ?_)
 ·omega
 ·refine zi ?_; refine zO (zk ?_); refine zr ?_; refine zg (fun _ => R_addN (n := 0) (b := 1) rfl rfl (by omega)) ?_; refine mI rfl ?_; refine zn ?_; refine k_rounds ?_; refine yA ?_; refine jl rfl rfl ?_; refine yB ?_; refine zq ?_; refine zE bD ?_; refine zi ?_; refine zk ?_; refine zq ?_; refine zB ?_; refine yA ?_; refine zg (fun _ => R_iaN (i := (0 + 1)) sl31 rfl rfl (by first | omega | decide | exact Nat.succ_pos _ | exact Nat.succ_lt_succ (Nat.succ_pos _))) ?_
  refine w_loadC (l := [.bool s1, .slice au ku cu, .slice av kv cv]) z46 rfl rfl (fun w h j v hj => cel_oldb hb zm2 (fun x => x) (by rcases j with _ | _ | _ | j; (exact hj); (exact hj); (exact hj); (cases hj)) h) ?_; refine zA zr46 (fun eb geb ueb => ?_)
  refine jv 0 z46 rfl ?_; refine yC ?_; refine zf fa46_0 rfl ?_; refine jy 0 z44 rfl rfl ?_; refine w_tel (fun w => zR Tryz.func84 rfl rfl rfl) rfl rfl (fun w h => zNorm_ok _ w ((Kn.old hB).at_ 2 rfl h) ⟨by omega, by omega⟩) (fun x7 a7 c7 hK7 hN7 => ?_)
  refine zm rfl ?_; refine jx rfl rfl ?_; refine jx rfl rfl ?_; refine zA zr44 (fun nb gnb unb => ?_)
  refine jv 0 z44 rfl ?_; refine aI rfl ?_; refine yC ?_; refine zf fa46_1 rfl ?_; refine jM 1 z42 rfl ?_; refine w_tel (fun w => zR Tryz.func85 rfl rfl rfl) rfl rfl (fun w h => NNorm_ok w ((Kn.old hB8).at_ 3 rfl h) ⟨by omega, by omega⟩) (fun x9 a9 c9 hK9 hN9 => ?_)
  refine zm rfl ?_; refine jx rfl rfl ?_; refine jx rfl rfl ?_; refine za (v := .slice _ _ _) rfl ?_; refine aI rfl ?_; refine yC ?_; refine mI rfl ?_; refine jn rfl rfl ?_; refine mB rfl ?_; refine zw rfl rfl bE ?_; refine mI rfl ?_; refine zw rfl rfl bE ?_; refine jn rfl rfl ?_; refine jF bE rfl ?_
  refine mB rfl ?_; refine zw rfl rfl bE ?_; refine mS rfl ?_; refine zw rfl rfl bE ?_; refine jj sl42 rfl ?_; refine zw rfl rfl bE ?_; refine zg (fun _ => R_eqN (a := (sz mv)) (b := 0) rfl rfl) ?_; refine jF bE rfl ?_; refine yB ?_; refine zD rfl (fun h10 => ?_) (fun h10 => ?_)
  ·omega
  ·refine zi ?_; refine zO (zk ?_); refine zr ?_; refine zg (fun _ => R_addN (n := (0 + 1)) (b := 1) rfl rfl (by omega)) ?_; refine mI rfl ?_; refine zn ?_; refine k_rounds ?_; refine yA ?_; refine jl rfl rfl ?_; refine yB ?_; refine zq ?_; refine zG bE ?_; refine zX ?_; refine zx (zx (b_here rfl (?_)))
   refine r_none (.inr rfl) rfl ?_; exact fun w' hw => ⟨rfl, hw.fr (w, No) zm4⟩
theorem zCmpE_ok (s : Bool) {a : Option Addr} {k c n : Nat} {a8 : Option Addr} {k8 c8 : Nat} (w : World) (hA : Nm w a k c n) (hA8 : Nm w a8 k8 c8 n) (hs : k ≤ 1000000 ∧ k8 ≤ 1000000) :
  Ret Tryz.prog 52 #[.agg #[.bool s, .slice a k c], .agg #[.bool s, .slice a8 k8 c8]] w (fun v w' => v = .int .i64 0 ∧ Ext w w') := by
 obtain ⟨g, hg⟩ : ∃ g, (s && decide (n ≠ 0)) = g := ⟨_, rfl⟩
 refine enter (S := No) (l := [_, _]) (L := []) 33 Tryz.func52 rfl rfl rfl (St.start w No) ?_; refine yA ?_; refine w_boxA rfl (fun p gp up => ?_)
 refine w_boxA rfl (fun p2 gp2 up2 => ?_)
 refine aI rfl ?_; refine yB ?_; refine zq ?_; refine c_heldI [0, 1] mixed ?_; refine h_loadA 0 rfl (by kernel_rfl) (pk [0, 1]) z44 rfl (fun _ h => h.at_ 1 rfl) rfl ?_; refine h_loadA 2 rfl (by kernel_rfl) (pk [0, 1]) z44 rfl (fun _ h => h.at_ 0 rfl) rfl ?_; refine h_three 1 4 5 (by kernel_rfl) (pk [0, 1]) ?_ ?_ ?_
 ·refine o_pureW rfl (wn_none rfl) rfl (fun w => zR Tryz.func73 rfl rfl rfl) (fun w h => of_ok _ w ((Kn.old hA).at_ 0 rfl h) (by omega)) ?_; refine h_three 3 4 5 (by kernel_rfl) (pk [0, 1]) ?_ ?_ ?_
  ·refine o_pureW rfl (wn_none rfl) rfl (fun w => zR Tryz.func73 rfl rfl rfl) (fun w h => of_ok _ w ((Kn.old hA8).at_ 0 rfl h) (by omega)) ?_; refine h_two 4 5 (by kernel_rfl) (pk [0, 1]) ?_ ?_
   ·refine o_alloc rfl zr120 (fun xb gxb uxb => ?_)
    refine zH2 5 (pk [1, 2]) ?_; refine o_alloc rfl zr120 (fun yb gyb uyb => ?_)
    refine zH2 6 (pk [2, 3]) ?_; refine zJ 1 rfl rfl z120 rfl rfl rfl rfl rfl rfl rfl ?_; refine zH2 7 (pk [2, 3]) ?_; refine zJ 0 rfl rfl z120 rfl rfl rfl rfl rfl rfl rfl ?_; refine zN2 (pk [2, 3]) ?_; refine zk ?_; refine yA ?_; refine zf fa44_1 rfl ?_; refine jM 3 z42 rfl ?_; refine zf fa44_1 rfl ?_; refine jM 2 z42 rfl ?_; refine jD Tryz.func55 (fun w h => Cmp_ok w ((Kn.old hA).at_ 0 rfl h) ((Kn.old hA8).at_ 0 rfl h) ⟨by omega, by omega⟩) ?_
    refine aI rfl ?_; refine yB ?_; refine zq ?_; refine zB ?_; refine yA ?_; refine zf fa120_1 rfl ?_; refine jM 1 z4 rfl ?_; refine mB rfl ?_; refine zp (t := 20) rfl (fun h3 => ?_) (fun h3 => ?_)
    ·refine zw rfl rfl (bV h3) ?_; refine zf fa120_1 rfl ?_; refine zw rfl rfl (bV h3) ?_; refine jM 0 z4 rfl ?_; refine jT (bV h3) rfl ?_; refine aB rfl ?_; refine yB ?_; refine c_cond rfl (fun h4 => ?_) (fun h4 => ?_)
     ·refine yA ?_; refine mI rfl ?_; refine zg (fun _ => R_neg rfl) ?_; refine aI rfl ?_; refine yB ?_; refine ze ?_; refine zb (zt (?_))
      refine zo (v := .int _ _) rfl rfl rfl ?_; exact fun w' hw => ⟨by first | (rw [cmpN_self]; done) | (rw [cmpN_self]; rfl) | (exfalso; simp_all; done), hw.fr (w, No) zm0⟩
     ·refine yA ?_; refine zf fa120_1 rfl ?_; refine jM 1 z4 rfl ?_; refine aB rfl ?_; refine yB ?_; refine c_cond rfl (fun h5 => ?_) (fun h5 => ?_)
      ·refine yA ?_; refine aI rfl ?_; refine yB ?_; refine ze ?_; refine zb (zt (?_))
       refine zo (v := .int _ _) rfl rfl rfl ?_; exact fun w' hw => ⟨by first | (rw [cmpN_self]; done) | (rw [cmpN_self]; rfl) | (exfalso; simp_all; done), hw.fr (w, No) zm0⟩
      ·refine yA ?_; refine zf fa120_1 rfl ?_; refine jM 0 z4 rfl ?_; refine aB rfl ?_; refine yB ?_; refine c_cond rfl (fun h6 => ?_) (fun h6 => ?_)
       ·refine yA ?_; refine aI rfl ?_; refine yB ?_; refine ze ?_; refine zb (zt (?_))
        refine zo (v := .int _ _) rfl rfl rfl ?_; exact fun w' hw => ⟨by first | (rw [cmpN_self]; done) | (rw [cmpN_self]; rfl) | (exfalso; simp_all; done), hw.fr (w, No) zm0⟩
       ·refine zi ?_; refine zO (zk ?_); refine yA ?_; refine mI rfl ?_; refine aI rfl ?_; refine yB ?_; refine ze ?_; refine zo (v := .int _ _) rfl rfl rfl ?_; exact fun w' hw => ⟨by first | (rw [cmpN_self]; done) | (rw [cmpN_self]; rfl) | (exfalso; simp_all; done), hw.fr (w, No) zm0⟩
    ·refine zs rfl rfl (bV h3) ?_; refine zs rfl rfl (bV h3) ?_; refine jF (bV h3) rfl ?_; refine aB rfl ?_; refine yB ?_; refine zG rfl ?_; refine yA ?_; refine zf fa120_1 rfl ?_; refine jM 1 z4 rfl ?_; refine aB rfl ?_; refine yB ?_; refine c_cond rfl (fun h7 => ?_) (fun h7 => ?_)
     ·refine yA ?_; refine aI rfl ?_; refine yB ?_; refine ze ?_; refine zb (zt (?_))
      refine zo (v := .int _ _) rfl rfl rfl ?_; exact fun w' hw => ⟨by first | (rw [cmpN_self]; done) | (rw [cmpN_self]; rfl) | (exfalso; simp_all; done), hw.fr (w, No) zm0⟩
     ·refine yA ?_; refine zf fa120_1 rfl ?_; refine jM 0 z4 rfl ?_; refine aB rfl ?_; refine yB ?_; refine c_cond rfl (fun h8 => ?_) (fun h8 => ?_)
      ·refine yA ?_; refine aI rfl ?_; refine yB ?_; refine ze ?_; refine zb (zt (?_))
       refine zo (v := .int _ _) rfl rfl rfl ?_; exact fun w' hw => ⟨by first | (rw [cmpN_self]; done) | (rw [cmpN_self]; rfl) | (exfalso; simp_all; done), hw.fr (w, No) zm0⟩
      ·refine zi ?_; refine zO (zk ?_); refine yA ?_; refine mI rfl ?_; refine aI rfl ?_; refine yB ?_; refine ze ?_; refine zo (v := .int _ _) rfl rfl rfl ?_; exact fun w' hw => ⟨by first | (rw [cmpN_self]; done) | (rw [cmpN_self]; rfl) | (exfalso; simp_all; done), hw.fr (w, No) zm0⟩
   ·refine o_alloc rfl zr120 (fun yb gyb uyb => ?_)
    refine zH2 4 (pk [1, 2]) ?_; refine o_alloc rfl zr120 (fun xb gxb uxb => ?_)
    refine zH2 6 (pk [2, 3]) ?_; refine zJ 0 rfl rfl z120 rfl rfl rfl rfl rfl rfl rfl ?_; refine zH2 7 (pk [2, 3]) ?_; refine zJ 1 rfl rfl z120 rfl rfl rfl rfl rfl rfl rfl ?_; refine zN2 (pk [2, 3]) ?_; refine zk ?_; refine yA ?_; refine zf fa44_1 rfl ?_; refine jM 3 z42 rfl ?_; refine zf fa44_1 rfl ?_; refine jM 2 z42 rfl ?_; refine jD Tryz.func55 (fun w h => Cmp_ok w ((Kn.old hA).at_ 0 rfl h) ((Kn.old hA8).at_ 0 rfl h) ⟨by omega, by omega⟩) ?_
    refine aI rfl ?_; refine yB ?_; refine zq ?_; refine zB ?_; refine yA ?_; refine zf fa120_1 rfl ?_; refine jM 0 z4 rfl ?_; refine mB rfl ?_; refine zp (t := 20) rfl (fun h9 => ?_) (fun h9 => ?_)
    ·refine zw rfl rfl (bV h9) ?_; refine zf fa120_1 rfl ?_; refine zw rfl rfl (bV h9) ?_; refine jM 1 z4 rfl ?_; refine jT (bV h9) rfl ?_; refine aB rfl ?_; refine yB ?_; refine c_cond rfl (fun h10 => ?_) (fun h10 => ?_)
     ·refine yA ?_; refine mI rfl ?_; refine zg (fun _ => R_neg rfl) ?_; refine aI rfl ?_; refine yB ?_; refine ze ?_; refine zb (zt (?_))
      refine zo (v := .int _ _) rfl rfl rfl ?_; exact fun w' hw => ⟨by first | (rw [cmpN_self]; done) | (rw [cmpN_self]; rfl) | (exfalso; simp_all; done), hw.fr (w, No) zm0⟩
     ·refine yA ?_; refine zf fa120_1 rfl ?_; refine jM 0 z4 rfl ?_; refine aB rfl ?_; refine yB ?_; refine c_cond rfl (fun h11 => ?_) (fun h11 => ?_)
      ·refine yA ?_; refine aI rfl ?_; refine yB ?_; refine ze ?_; refine zb (zt (?_))
       refine zo (v := .int _ _) rfl rfl rfl ?_; exact fun w' hw => ⟨by first | (rw [cmpN_self]; done) | (rw [cmpN_self]; rfl) | (exfalso; simp_all; done), hw.fr (w, No) zm0⟩
      ·refine yA ?_; refine zf fa120_1 rfl ?_; refine jM 1 z4 rfl ?_; refine aB rfl ?_; refine yB ?_; refine c_cond rfl (fun h12 => ?_) (fun h12 => ?_)
       ·refine yA ?_; refine aI rfl ?_; refine yB ?_; refine ze ?_; refine zb (zt (?_))
        refine zo (v := .int _ _) rfl rfl rfl ?_; exact fun w' hw => ⟨by first | (rw [cmpN_self]; done) | (rw [cmpN_self]; rfl) | (exfalso; simp_all; done), hw.fr (w, No) zm0⟩
       ·refine zi ?_; refine zO (zk ?_); refine yA ?_; refine mI rfl ?_; refine aI rfl ?_; refine yB ?_; refine ze ?_; refine zo (v := .int _ _) rfl rfl rfl ?_; exact fun w' hw => ⟨by first | (rw [cmpN_self]; done) | (rw [cmpN_self]; rfl) | (exfalso; simp_all; done), hw.fr (w, No) zm0⟩
    ·refine zs rfl rfl (bV h9) ?_; refine zs rfl rfl (bV h9) ?_; refine jF (bV h9) rfl ?_; refine aB rfl ?_; refine yB ?_; refine zG rfl ?_; refine yA ?_; refine zf fa120_1 rfl ?_; refine jM 0 z4 rfl ?_; refine aB rfl ?_; refine yB ?_; refine c_cond rfl (fun h13 => ?_) (fun h13 => ?_)
     ·refine yA ?_; refine aI rfl ?_; refine yB ?_; refine ze ?_; refine zb (zt (?_))
      refine zo (v := .int _ _) rfl rfl rfl ?_; exact fun w' hw => ⟨by first | (rw [cmpN_self]; done) | (rw [cmpN_self]; rfl) | (exfalso; simp_all; done), hw.fr (w, No) zm0⟩
     ·refine yA ?_; refine zf fa120_1 rfl ?_; refine jM 1 z4 rfl ?_; refine aB rfl ?_; refine yB ?_; refine c_cond rfl (fun h14 => ?_) (fun h14 => ?_)
      ·refine yA ?_; refine aI rfl ?_; refine yB ?_; refine ze ?_; refine zb (zt (?_))
       refine zo (v := .int _ _) rfl rfl rfl ?_; exact fun w' hw => ⟨by first | (rw [cmpN_self]; done) | (rw [cmpN_self]; rfl) | (exfalso; simp_all; done), hw.fr (w, No) zm0⟩
      ·refine zi ?_; refine zO (zk ?_); refine yA ?_; refine mI rfl ?_; refine aI rfl ?_; refine yB ?_; refine ze ?_; refine zo (v := .int _ _) rfl rfl rfl ?_; exact fun w' hw => ⟨by first | (rw [cmpN_self]; done) | (rw [cmpN_self]; rfl) | (exfalso; simp_all; done), hw.fr (w, No) zm0⟩
  ·refine o_alloc rfl zr120 (fun xb gxb uxb => ?_)
   refine h_two 3 5 (by kernel_rfl) (pk [1, 2]) ?_ ?_
   ·refine o_pureW rfl (wn_none rfl) rfl (fun w => zR Tryz.func73 rfl rfl rfl) (fun w h => of_ok _ w ((Kn.old hA8).at_ 0 rfl h) (by omega)) ?_; refine zH2 5 (pk [1, 2]) ?_; refine o_alloc rfl zr120 (fun yb gyb uyb => ?_)
    refine zH2 6 (pk [2, 3]) ?_; refine zJ 1 rfl rfl z120 rfl rfl rfl rfl rfl rfl rfl ?_; refine zH2 7 (pk [2, 3]) ?_; refine zJ 0 rfl rfl z120 rfl rfl rfl rfl rfl rfl rfl ?_; refine zN2 (pk [2, 3]) ?_; refine zk ?_; refine yA ?_; refine zf fa44_1 rfl ?_; refine jM 3 z42 rfl ?_; refine zf fa44_1 rfl ?_; refine jM 2 z42 rfl ?_; refine jD Tryz.func55 (fun w h => Cmp_ok w ((Kn.old hA).at_ 0 rfl h) ((Kn.old hA8).at_ 0 rfl h) ⟨by omega, by omega⟩) ?_
    refine aI rfl ?_; refine yB ?_; refine zq ?_; refine zB ?_; refine yA ?_; refine zf fa120_1 rfl ?_; refine jM 1 z4 rfl ?_; refine mB rfl ?_; refine zp (t := 20) rfl (fun h15 => ?_) (fun h15 => ?_)
    ·refine zw rfl rfl (bV h15) ?_; refine zf fa120_1 rfl ?_; refine zw rfl rfl (bV h15) ?_; refine jM 0 z4 rfl ?_; refine jT (bV h15) rfl ?_; refine aB rfl ?_; refine yB ?_; refine c_cond rfl (fun h16 => ?_) (fun h16 => ?_)
     ·refine yA ?_; refine mI rfl ?_; refine zg (fun _ => R_neg rfl) ?_; refine aI rfl ?_; refine yB ?_; refine ze ?_; refine zb (zt (?_))
      refine zo (v := .int _ _) rfl rfl rfl ?_; exact fun w' hw => ⟨by first | (rw [cmpN_self]; done) | (rw [cmpN_self]; rfl) | (exfalso; simp_all; done), hw.fr (w, No) zm0⟩
     ·refine yA ?_; refine zf fa120_1 rfl ?_; refine jM 1 z4 rfl ?_; refine aB rfl ?_; refine yB ?_; refine c_cond rfl (fun h17 => ?_) (fun h17 => ?_)
      ·refine yA ?_; refine aI rfl ?_; refine yB ?_; refine ze ?_; refine zb (zt (?_))
       refine zo (v := .int _ _) rfl rfl rfl ?_; exact fun w' hw => ⟨by first | (rw [cmpN_self]; done) | (rw [cmpN_self]; rfl) | (exfalso; simp_all; done), hw.fr (w, No) zm0⟩
      ·refine yA ?_; refine zf fa120_1 rfl ?_; refine jM 0 z4 rfl ?_; refine aB rfl ?_; refine yB ?_; refine c_cond rfl (fun h18 => ?_) (fun h18 => ?_)
       ·refine yA ?_; refine aI rfl ?_; refine yB ?_; refine ze ?_; refine zb (zt (?_))
        refine zo (v := .int _ _) rfl rfl rfl ?_; exact fun w' hw => ⟨by first | (rw [cmpN_self]; done) | (rw [cmpN_self]; rfl) | (exfalso; simp_all; done), hw.fr (w, No) zm0⟩
       ·refine zi ?_; refine zO (zk ?_); refine yA ?_; refine mI rfl ?_; refine aI rfl ?_; refine yB ?_; refine ze ?_; refine zo (v := .int _ _) rfl rfl rfl ?_; exact fun w' hw => ⟨by first | (rw [cmpN_self]; done) | (rw [cmpN_self]; rfl) | (exfalso; simp_all; done), hw.fr (w, No) zm0⟩
    ·refine zs rfl rfl (bV h15) ?_; refine zs rfl rfl (bV h15) ?_; refine jF (bV h15) rfl ?_; refine aB rfl ?_; refine yB ?_; refine zG rfl ?_; refine yA ?_; refine zf fa120_1 rfl ?_; refine jM 1 z4 rfl ?_; refine aB rfl ?_; refine yB ?_; refine c_cond rfl (fun h19 => ?_) (fun h19 => ?_)
     ·refine yA ?_; refine aI rfl ?_; refine yB ?_; refine ze ?_; refine zb (zt (?_))
      refine zo (v := .int _ _) rfl rfl rfl ?_; exact fun w' hw => ⟨by first | (rw [cmpN_self]; done) | (rw [cmpN_self]; rfl) | (exfalso; simp_all; done), hw.fr (w, No) zm0⟩
     ·refine yA ?_; refine zf fa120_1 rfl ?_; refine jM 0 z4 rfl ?_; refine aB rfl ?_; refine yB ?_; refine c_cond rfl (fun h20 => ?_) (fun h20 => ?_)
      ·refine yA ?_; refine aI rfl ?_; refine yB ?_; refine ze ?_; refine zb (zt (?_))
       refine zo (v := .int _ _) rfl rfl rfl ?_; exact fun w' hw => ⟨by first | (rw [cmpN_self]; done) | (rw [cmpN_self]; rfl) | (exfalso; simp_all; done), hw.fr (w, No) zm0⟩
      ·refine zi ?_; refine zO (zk ?_); refine yA ?_; refine mI rfl ?_; refine aI rfl ?_; refine yB ?_; refine ze ?_; refine zo (v := .int _ _) rfl rfl rfl ?_; exact fun w' hw => ⟨by first | (rw [cmpN_self]; done) | (rw [cmpN_self]; rfl) | (exfalso; simp_all; done), hw.fr (w, No) zm0⟩
   ·refine o_alloc rfl zr120 (fun yb gyb uyb => ?_)
    refine zH2 3 (pk [2, 3]) ?_; refine o_pureW rfl (wn_none rfl) rfl (fun w => zR Tryz.func73 rfl rfl rfl) (fun w h => of_ok _ w ((Kn.old hA8).at_ 0 rfl h) (by omega)) ?_; refine zH2 6 (pk [2, 3]) ?_; refine zJ 1 rfl rfl z120 rfl rfl rfl rfl rfl rfl rfl ?_; refine zH2 7 (pk [2, 3]) ?_; refine zJ 0 rfl rfl z120 rfl rfl rfl rfl rfl rfl rfl ?_; refine zN2 (pk [2, 3]) ?_; refine zk ?_; refine yA ?_; refine zf fa44_1 rfl ?_; refine jM 3 z42 rfl ?_; refine zf fa44_1 rfl ?_
    refine jM 2 z42 rfl ?_; refine jD Tryz.func55 (fun w h => Cmp_ok w ((Kn.old hA).at_ 0 rfl h) ((Kn.old hA8).at_ 0 rfl h) ⟨by omega, by omega⟩) ?_; refine aI rfl ?_; refine yB ?_; refine zq ?_; refine zB ?_; refine yA ?_; refine zf fa120_1 rfl ?_; refine jM 1 z4 rfl ?_; refine mB rfl ?_; refine zp (t := 20) rfl (fun h21 => ?_) (fun h21 => ?_)
    ·refine zw rfl rfl (bV h21) ?_; refine zf fa120_1 rfl ?_; refine zw rfl rfl (bV h21) ?_; refine jM 0 z4 rfl ?_; refine jT (bV h21) rfl ?_; refine aB rfl ?_; refine yB ?_; refine c_cond rfl (fun h22 => ?_) (fun h22 => ?_)
     ·refine yA ?_; refine mI rfl ?_; refine zg (fun _ => R_neg rfl) ?_; refine aI rfl ?_; refine yB ?_; refine ze ?_; refine zb (zt (?_))
      refine zo (v := .int _ _) rfl rfl rfl ?_; exact fun w' hw => ⟨by first | (rw [cmpN_self]; done) | (rw [cmpN_self]; rfl) | (exfalso; simp_all; done), hw.fr (w, No) zm0⟩
     ·refine yA ?_; refine zf fa120_1 rfl ?_; refine jM 1 z4 rfl ?_; refine aB rfl ?_; refine yB ?_; refine c_cond rfl (fun h23 => ?_) (fun h23 => ?_)
      ·refine yA ?_; refine aI rfl ?_; refine yB ?_; refine ze ?_; refine zb (zt (?_))
       refine zo (v := .int _ _) rfl rfl rfl ?_; exact fun w' hw => ⟨by first | (rw [cmpN_self]; done) | (rw [cmpN_self]; rfl) | (exfalso; simp_all; done), hw.fr (w, No) zm0⟩
      ·refine yA ?_; refine zf fa120_1 rfl ?_; refine jM 0 z4 rfl ?_; refine aB rfl ?_; refine yB ?_; refine c_cond rfl (fun h24 => ?_) (fun h24 => ?_)
       ·refine yA ?_; refine aI rfl ?_; refine yB ?_; refine ze ?_; refine zb (zt (?_))
        refine zo (v := .int _ _) rfl rfl rfl ?_; exact fun w' hw => ⟨by first | (rw [cmpN_self]; done) | (rw [cmpN_self]; rfl) | (exfalso; simp_all; done), hw.fr (w, No) zm0⟩
       ·refine zi ?_; refine zO (zk ?_); refine yA ?_; refine mI rfl ?_; refine aI rfl ?_; refine yB ?_; refine ze ?_; refine zo (v := .int _ _) rfl rfl rfl ?_; exact fun w' hw => ⟨by first | (rw [cmpN_self]; done) | (rw [cmpN_self]; rfl) | (exfalso; simp_all; done), hw.fr (w, No) zm0⟩
    ·refine zs rfl rfl (bV h21) ?_; refine zs rfl rfl (bV h21) ?_; refine jF (bV h21) rfl ?_; refine aB rfl ?_; refine yB ?_; refine zG rfl ?_; refine yA ?_; refine zf fa120_1 rfl ?_; refine jM 1 z4 rfl ?_; refine aB rfl ?_; refine yB ?_; refine c_cond rfl (fun h25 => ?_) (fun h25 => ?_)
     ·refine yA ?_; refine aI rfl ?_; refine yB ?_; refine ze ?_; refine zb (zt (?_))
      refine zo (v := .int _ _) rfl rfl rfl ?_; exact fun w' hw => ⟨by first | (rw [cmpN_self]; done) | (rw [cmpN_self]; rfl) | (exfalso; simp_all; done), hw.fr (w, No) zm0⟩
     ·refine yA ?_; refine zf fa120_1 rfl ?_; refine jM 0 z4 rfl ?_; refine aB rfl ?_; refine yB ?_; refine c_cond rfl (fun h26 => ?_) (fun h26 => ?_)
      ·refine yA ?_; refine aI rfl ?_; refine yB ?_; refine ze ?_; refine zb (zt (?_))
       refine zo (v := .int _ _) rfl rfl rfl ?_; exact fun w' hw => ⟨by first | (rw [cmpN_self]; done) | (rw [cmpN_self]; rfl) | (exfalso; simp_all; done), hw.fr (w, No) zm0⟩
      ·refine zi ?_; refine zO (zk ?_); refine yA ?_; refine mI rfl ?_; refine aI rfl ?_; refine yB ?_; refine ze ?_; refine zo (v := .int _ _) rfl rfl rfl ?_; exact fun w' hw => ⟨by first | (rw [cmpN_self]; done) | (rw [cmpN_self]; rfl) | (exfalso; simp_all; done), hw.fr (w, No) zm0⟩
  ·refine o_alloc rfl zr120 (fun yb gyb uyb => ?_)
   refine h_two 3 4 (by kernel_rfl) (pk [1, 2]) ?_ ?_
   ·refine o_pureW rfl (wn_none rfl) rfl (fun w => zR Tryz.func73 rfl rfl rfl) (fun w h => of_ok _ w ((Kn.old hA8).at_ 0 rfl h) (by omega)) ?_; refine zH2 4 (pk [1, 2]) ?_; refine o_alloc rfl zr120 (fun xb gxb uxb => ?_)
    refine zH2 6 (pk [2, 3]) ?_; refine zJ 0 rfl rfl z120 rfl rfl rfl rfl rfl rfl rfl ?_; refine zH2 7 (pk [2, 3]) ?_; refine zJ 1 rfl rfl z120 rfl rfl rfl rfl rfl rfl rfl ?_; refine zN2 (pk [2, 3]) ?_; refine zk ?_; refine yA ?_; refine zf fa44_1 rfl ?_; refine jM 3 z42 rfl ?_; refine zf fa44_1 rfl ?_; refine jM 2 z42 rfl ?_; refine jD Tryz.func55 (fun w h => Cmp_ok w ((Kn.old hA).at_ 0 rfl h) ((Kn.old hA8).at_ 0 rfl h) ⟨by omega, by omega⟩) ?_
    refine aI rfl ?_; refine yB ?_; refine zq ?_; refine zB ?_; refine yA ?_; refine zf fa120_1 rfl ?_; refine jM 0 z4 rfl ?_; refine mB rfl ?_; refine zp (t := 20) rfl (fun h27 => ?_) (fun h27 => ?_)
    ·refine zw rfl rfl (bV h27) ?_; refine zf fa120_1 rfl ?_; refine zw rfl rfl (bV h27) ?_; refine jM 1 z4 rfl ?_; refine jT (bV h27) rfl ?_; refine aB rfl ?_; refine yB ?_; refine c_cond rfl (fun h28 => ?_) (fun h28 => ?_)
     ·refine yA ?_; refine mI rfl ?_; refine zg (fun _ => R_neg rfl) ?_; refine aI rfl ?_; refine yB ?_; refine ze ?_; refine zb (zt (?_))
      refine zo (v := .int _ _) rfl rfl rfl ?_; exact fun w' hw => ⟨by first | (rw [cmpN_self]; done) | (rw [cmpN_self]; rfl) | (exfalso; simp_all; done), hw.fr (w, No) zm0⟩
     ·refine yA ?_; refine zf fa120_1 rfl ?_; refine jM 0 z4 rfl ?_; refine aB rfl ?_; refine yB ?_; refine c_cond rfl (fun h29 => ?_) (fun h29 => ?_)
      ·refine yA ?_; refine aI rfl ?_; refine yB ?_; refine ze ?_; refine zb (zt (?_))
       refine zo (v := .int _ _) rfl rfl rfl ?_; exact fun w' hw => ⟨by first | (rw [cmpN_self]; done) | (rw [cmpN_self]; rfl) | (exfalso; simp_all; done), hw.fr (w, No) zm0⟩
      ·refine yA ?_; refine zf fa120_1 rfl ?_; refine jM 1 z4 rfl ?_; refine aB rfl ?_; refine yB ?_; refine c_cond rfl (fun h30 => ?_) (fun h30 => ?_)
       ·refine yA ?_; refine aI rfl ?_; refine yB ?_; refine ze ?_; refine zb (zt (?_))
        refine zo (v := .int _ _) rfl rfl rfl ?_; exact fun w' hw => ⟨by first | (rw [cmpN_self]; done) | (rw [cmpN_self]; rfl) | (exfalso; simp_all; done), hw.fr (w, No) zm0⟩
       ·refine zi ?_; refine zO (zk ?_); refine yA ?_; refine mI rfl ?_; refine aI rfl ?_; refine yB ?_; refine ze ?_; refine zo (v := .int _ _) rfl rfl rfl ?_; exact fun w' hw => ⟨by first | (rw [cmpN_self]; done) | (rw [cmpN_self]; rfl) | (exfalso; simp_all; done), hw.fr (w, No) zm0⟩
    ·refine zs rfl rfl (bV h27) ?_; refine zs rfl rfl (bV h27) ?_; refine jF (bV h27) rfl ?_; refine aB rfl ?_; refine yB ?_; refine zG rfl ?_; refine yA ?_; refine zf fa120_1 rfl ?_; refine jM 0 z4 rfl ?_; refine aB rfl ?_; refine yB ?_; refine c_cond rfl (fun h31 => ?_) (fun h31 => ?_)
     ·refine yA ?_; refine aI rfl ?_; refine yB ?_; refine ze ?_; refine zb (zt (?_))
      refine zo (v := .int _ _) rfl rfl rfl ?_; exact fun w' hw => ⟨by first | (rw [cmpN_self]; done) | (rw [cmpN_self]; rfl) | (exfalso; simp_all; done), hw.fr (w, No) zm0⟩
     ·refine yA ?_; refine zf fa120_1 rfl ?_; refine jM 1 z4 rfl ?_; refine aB rfl ?_; refine yB ?_; refine c_cond rfl (fun h32 => ?_) (fun h32 => ?_)
      ·refine yA ?_; refine aI rfl ?_; refine yB ?_; refine ze ?_; refine zb (zt (?_))
       refine zo (v := .int _ _) rfl rfl rfl ?_; exact fun w' hw => ⟨by first | (rw [cmpN_self]; done) | (rw [cmpN_self]; rfl) | (exfalso; simp_all; done), hw.fr (w, No) zm0⟩
      ·refine zi ?_; refine zO (zk ?_); refine yA ?_; refine mI rfl ?_; refine aI rfl ?_; refine yB ?_; refine ze ?_; refine zo (v := .int _ _) rfl rfl rfl ?_; exact fun w' hw => ⟨by first | (rw [cmpN_self]; done) | (rw [cmpN_self]; rfl) | (exfalso; simp_all; done), hw.fr (w, No) zm0⟩
   ·refine o_alloc rfl zr120 (fun xb gxb uxb => ?_)
    refine zH2 3 (pk [2, 3]) ?_; refine o_pureW rfl (wn_none rfl) rfl (fun w => zR Tryz.func73 rfl rfl rfl) (fun w h => of_ok _ w ((Kn.old hA8).at_ 0 rfl h) (by omega)) ?_; refine zH2 6 (pk [2, 3]) ?_; refine zJ 0 rfl rfl z120 rfl rfl rfl rfl rfl rfl rfl ?_; refine zH2 7 (pk [2, 3]) ?_; refine zJ 1 rfl rfl z120 rfl rfl rfl rfl rfl rfl rfl ?_; refine zN2 (pk [2, 3]) ?_; refine zk ?_; refine yA ?_; refine zf fa44_1 rfl ?_; refine jM 3 z42 rfl ?_; refine zf fa44_1 rfl ?_
    refine jM 2 z42 rfl ?_; refine jD Tryz.func55 (fun w h => Cmp_ok w ((Kn.old hA).at_ 0 rfl h) ((Kn.old hA8).at_ 0 rfl h) ⟨by omega, by omega⟩) ?_; refine aI rfl ?_; refine yB ?_; refine zq ?_; refine zB ?_; refine yA ?_; refine zf fa120_1 rfl ?_; refine jM 0 z4 rfl ?_; refine mB rfl ?_; refine zp (t := 20) rfl (fun h33 => ?_) (fun h33 => ?_)
    ·refine zw rfl rfl (bV h33) ?_; refine zf fa120_1 rfl ?_; refine zw rfl rfl (bV h33) ?_; refine jM 1 z4 rfl ?_; refine jT (bV h33) rfl ?_; refine aB rfl ?_; refine yB ?_; refine c_cond rfl (fun h34 => ?_) (fun h34 => ?_)
     ·refine yA ?_; refine mI rfl ?_; refine zg (fun _ => R_neg rfl) ?_; refine aI rfl ?_; refine yB ?_; refine ze ?_; refine zb (zt (?_))
      refine zo (v := .int _ _) rfl rfl rfl ?_; exact fun w' hw => ⟨by first | (rw [cmpN_self]; done) | (rw [cmpN_self]; rfl) | (exfalso; simp_all; done), hw.fr (w, No) zm0⟩
     ·refine yA ?_; refine zf fa120_1 rfl ?_; refine jM 0 z4 rfl ?_; refine aB rfl ?_; refine yB ?_; refine c_cond rfl (fun h35 => ?_) (fun h35 => ?_)
      ·refine yA ?_; refine aI rfl ?_; refine yB ?_; refine ze ?_; refine zb (zt (?_))
       refine zo (v := .int _ _) rfl rfl rfl ?_; exact fun w' hw => ⟨by first | (rw [cmpN_self]; done) | (rw [cmpN_self]; rfl) | (exfalso; simp_all; done), hw.fr (w, No) zm0⟩
      ·refine yA ?_; refine zf fa120_1 rfl ?_; refine jM 1 z4 rfl ?_; refine aB rfl ?_; refine yB ?_; refine c_cond rfl (fun h36 => ?_) (fun h36 => ?_)
       ·refine yA ?_; refine aI rfl ?_; refine yB ?_; refine ze ?_; refine zb (zt (?_))
        refine zo (v := .int _ _) rfl rfl rfl ?_; exact fun w' hw => ⟨by first | (rw [cmpN_self]; done) | (rw [cmpN_self]; rfl) | (exfalso; simp_all; done), hw.fr (w, No) zm0⟩
       ·refine zi ?_; refine zO (zk ?_); refine yA ?_; refine mI rfl ?_; refine aI rfl ?_; refine yB ?_; refine ze ?_; refine zo (v := .int _ _) rfl rfl rfl ?_; exact fun w' hw => ⟨by first | (rw [cmpN_self]; done) | (rw [cmpN_self]; rfl) | (exfalso; simp_all; done), hw.fr (w, No) zm0⟩
    ·refine zs rfl rfl (bV h33) ?_; refine zs rfl rfl (bV h33) ?_; refine jF (bV h33) rfl ?_; refine aB rfl ?_; refine yB ?_; refine zG rfl ?_; refine yA ?_; refine zf fa120_1 rfl ?_; refine jM 0 z4 rfl ?_; refine aB rfl ?_; refine yB ?_; refine c_cond rfl (fun h37 => ?_) (fun h37 => ?_)
     ·refine yA ?_; refine aI rfl ?_; refine yB ?_; refine ze ?_; refine zb (zt (?_))
      refine zo (v := .int _ _) rfl rfl rfl ?_; exact fun w' hw => ⟨by first | (rw [cmpN_self]; done) | (rw [cmpN_self]; rfl) | (exfalso; simp_all; done), hw.fr (w, No) zm0⟩
     ·refine yA ?_; refine zf fa120_1 rfl ?_; refine jM 1 z4 rfl ?_; refine aB rfl ?_; refine yB ?_; refine c_cond rfl (fun h38 => ?_) (fun h38 => ?_)
      ·refine yA ?_; refine aI rfl ?_; refine yB ?_; refine ze ?_; refine zb (zt (?_))
       refine zo (v := .int _ _) rfl rfl rfl ?_; exact fun w' hw => ⟨by first | (rw [cmpN_self]; done) | (rw [cmpN_self]; rfl) | (exfalso; simp_all; done), hw.fr (w, No) zm0⟩
      ·refine zi ?_; refine zO (zk ?_); refine yA ?_; refine mI rfl ?_; refine aI rfl ?_; refine yB ?_; refine ze ?_; refine zo (v := .int _ _) rfl rfl rfl ?_; exact fun w' hw => ⟨by first | (rw [cmpN_self]; done) | (rw [cmpN_self]; rfl) | (exfalso; simp_all; done), hw.fr (w, No) zm0⟩
 ·refine o_alloc rfl zr120 (fun xb gxb uxb => ?_)
  refine h_two 1 5 (by kernel_rfl) (pk [1, 2]) ?_ ?_
  ·refine o_pureW rfl (wn_none rfl) rfl (fun w => zR Tryz.func73 rfl rfl rfl) (fun w h => of_ok _ w ((Kn.old hA).at_ 0 rfl h) (by omega)) ?_; refine h_two 3 5 (by kernel_rfl) (pk [1, 2]) ?_ ?_
   ·refine o_pureW rfl (wn_none rfl) rfl (fun w => zR Tryz.func73 rfl rfl rfl) (fun w h => of_ok _ w ((Kn.old hA8).at_ 0 rfl h) (by omega)) ?_; refine zH2 5 (pk [1, 2]) ?_; refine o_alloc rfl zr120 (fun yb gyb uyb => ?_)
    refine zH2 6 (pk [2, 3]) ?_; refine zJ 1 rfl rfl z120 rfl rfl rfl rfl rfl rfl rfl ?_; refine zH2 7 (pk [2, 3]) ?_; refine zJ 0 rfl rfl z120 rfl rfl rfl rfl rfl rfl rfl ?_; refine zN2 (pk [2, 3]) ?_; refine zk ?_; refine yA ?_; refine zf fa44_1 rfl ?_; refine jM 3 z42 rfl ?_; refine zf fa44_1 rfl ?_; refine jM 2 z42 rfl ?_; refine jD Tryz.func55 (fun w h => Cmp_ok w ((Kn.old hA).at_ 0 rfl h) ((Kn.old hA8).at_ 0 rfl h) ⟨by omega, by omega⟩) ?_
    refine aI rfl ?_; refine yB ?_; refine zq ?_; refine zB ?_; refine yA ?_; refine zf fa120_1 rfl ?_; refine jM 1 z4 rfl ?_; refine mB rfl ?_; refine zp (t := 20) rfl (fun h39 => ?_) (fun h39 => ?_)
    ·refine zw rfl rfl (bV h39) ?_; refine zf fa120_1 rfl ?_; refine zw rfl rfl (bV h39) ?_; refine jM 0 z4 rfl ?_; refine jT (bV h39) rfl ?_; refine aB rfl ?_; refine yB ?_; refine c_cond rfl (fun h40 => ?_) (fun h40 => ?_)
     ·refine yA ?_; refine mI rfl ?_; refine zg (fun _ => R_neg rfl) ?_; refine aI rfl ?_; refine yB ?_; refine ze ?_; refine zb (zt (?_))
      refine zo (v := .int _ _) rfl rfl rfl ?_; exact fun w' hw => ⟨by first | (rw [cmpN_self]; done) | (rw [cmpN_self]; rfl) | (exfalso; simp_all; done), hw.fr (w, No) zm0⟩
     ·refine yA ?_; refine zf fa120_1 rfl ?_; refine jM 1 z4 rfl ?_; refine aB rfl ?_; refine yB ?_; refine c_cond rfl (fun h41 => ?_) (fun h41 => ?_)
      ·refine yA ?_; refine aI rfl ?_; refine yB ?_; refine ze ?_; refine zb (zt (?_))
       refine zo (v := .int _ _) rfl rfl rfl ?_; exact fun w' hw => ⟨by first | (rw [cmpN_self]; done) | (rw [cmpN_self]; rfl) | (exfalso; simp_all; done), hw.fr (w, No) zm0⟩
      ·refine yA ?_; refine zf fa120_1 rfl ?_; refine jM 0 z4 rfl ?_; refine aB rfl ?_; refine yB ?_; refine c_cond rfl (fun h42 => ?_) (fun h42 => ?_)
       ·refine yA ?_; refine aI rfl ?_; refine yB ?_; refine ze ?_; refine zb (zt (?_))
        refine zo (v := .int _ _) rfl rfl rfl ?_; exact fun w' hw => ⟨by first | (rw [cmpN_self]; done) | (rw [cmpN_self]; rfl) | (exfalso; simp_all; done), hw.fr (w, No) zm0⟩
       ·refine zi ?_; refine zO (zk ?_); refine yA ?_; refine mI rfl ?_; refine aI rfl ?_; refine yB ?_; refine ze ?_; refine zo (v := .int _ _) rfl rfl rfl ?_; exact fun w' hw => ⟨by first | (rw [cmpN_self]; done) | (rw [cmpN_self]; rfl) | (exfalso; simp_all; done), hw.fr (w, No) zm0⟩
    ·refine zs rfl rfl (bV h39) ?_; refine zs rfl rfl (bV h39) ?_; refine jF (bV h39) rfl ?_; refine aB rfl ?_; refine yB ?_; refine zG rfl ?_; refine yA ?_; refine zf fa120_1 rfl ?_; refine jM 1 z4 rfl ?_; refine aB rfl ?_; refine yB ?_; refine c_cond rfl (fun h43 => ?_) (fun h43 => ?_)
     ·refine yA ?_; refine aI rfl ?_; refine yB ?_; refine ze ?_; refine zb (zt (?_))
      refine zo (v := .int _ _) rfl rfl rfl ?_; exact fun w' hw => ⟨by first | (rw [cmpN_self]; done) | (rw [cmpN_self]; rfl) | (exfalso; simp_all; done), hw.fr (w, No) zm0⟩
     ·refine yA ?_; refine zf fa120_1 rfl ?_; refine jM 0 z4 rfl ?_; refine aB rfl ?_; refine yB ?_; refine c_cond rfl (fun h44 => ?_) (fun h44 => ?_)
      ·refine yA ?_; refine aI rfl ?_; refine yB ?_; refine ze ?_; refine zb (zt (?_))
       refine zo (v := .int _ _) rfl rfl rfl ?_; exact fun w' hw => ⟨by first | (rw [cmpN_self]; done) | (rw [cmpN_self]; rfl) | (exfalso; simp_all; done), hw.fr (w, No) zm0⟩
      ·refine zi ?_; refine zO (zk ?_); refine yA ?_; refine mI rfl ?_; refine aI rfl ?_; refine yB ?_; refine ze ?_; refine zo (v := .int _ _) rfl rfl rfl ?_; exact fun w' hw => ⟨by first | (rw [cmpN_self]; done) | (rw [cmpN_self]; rfl) | (exfalso; simp_all; done), hw.fr (w, No) zm0⟩
   ·refine o_alloc rfl zr120 (fun yb gyb uyb => ?_)
    refine zH2 3 (pk [2, 3]) ?_; refine o_pureW rfl (wn_none rfl) rfl (fun w => zR Tryz.func73 rfl rfl rfl) (fun w h => of_ok _ w ((Kn.old hA8).at_ 0 rfl h) (by omega)) ?_; refine zH2 6 (pk [2, 3]) ?_; refine zJ 1 rfl rfl z120 rfl rfl rfl rfl rfl rfl rfl ?_; refine zH2 7 (pk [2, 3]) ?_; refine zJ 0 rfl rfl z120 rfl rfl rfl rfl rfl rfl rfl ?_; refine zN2 (pk [2, 3]) ?_; refine zk ?_; refine yA ?_; refine zf fa44_1 rfl ?_; refine jM 3 z42 rfl ?_; refine zf fa44_1 rfl ?_
    refine jM 2 z42 rfl ?_; refine jD Tryz.func55 (fun w h => Cmp_ok w ((Kn.old hA).at_ 0 rfl h) ((Kn.old hA8).at_ 0 rfl h) ⟨by omega, by omega⟩) ?_; refine aI rfl ?_; refine yB ?_; refine zq ?_; refine zB ?_; refine yA ?_; refine zf fa120_1 rfl ?_; refine jM 1 z4 rfl ?_; refine mB rfl ?_; refine zp (t := 20) rfl (fun h45 => ?_) (fun h45 => ?_)
    ·refine zw rfl rfl (bV h45) ?_; refine zf fa120_1 rfl ?_; refine zw rfl rfl (bV h45) ?_; refine jM 0 z4 rfl ?_; refine jT (bV h45) rfl ?_; refine aB rfl ?_; refine yB ?_; refine c_cond rfl (fun h46 => ?_) (fun h46 => ?_)
     ·refine yA ?_; refine mI rfl ?_; refine zg (fun _ => R_neg rfl) ?_; refine aI rfl ?_; refine yB ?_; refine ze ?_; refine zb (zt (?_))
      refine zo (v := .int _ _) rfl rfl rfl ?_; exact fun w' hw => ⟨by first | (rw [cmpN_self]; done) | (rw [cmpN_self]; rfl) | (exfalso; simp_all; done), hw.fr (w, No) zm0⟩
     ·refine yA ?_; refine zf fa120_1 rfl ?_; refine jM 1 z4 rfl ?_; refine aB rfl ?_; refine yB ?_; refine c_cond rfl (fun h47 => ?_) (fun h47 => ?_)
      ·refine yA ?_; refine aI rfl ?_; refine yB ?_; refine ze ?_; refine zb (zt (?_))
       refine zo (v := .int _ _) rfl rfl rfl ?_; exact fun w' hw => ⟨by first | (rw [cmpN_self]; done) | (rw [cmpN_self]; rfl) | (exfalso; simp_all; done), hw.fr (w, No) zm0⟩
      ·refine yA ?_; refine zf fa120_1 rfl ?_; refine jM 0 z4 rfl ?_; refine aB rfl ?_; refine yB ?_; refine c_cond rfl (fun h48 => ?_) (fun h48 => ?_)
       ·refine yA ?_; refine aI rfl ?_; refine yB ?_; refine ze ?_; refine zb (zt (?_))
        refine zo (v := .int _ _) rfl rfl rfl ?_; exact fun w' hw => ⟨by first | (rw [cmpN_self]; done) | (rw [cmpN_self]; rfl) | (exfalso; simp_all; done), hw.fr (w, No) zm0⟩
       ·refine zi ?_; refine zO (zk ?_); refine yA ?_; refine mI rfl ?_; refine aI rfl ?_; refine yB ?_; refine ze ?_; refine zo (v := .int _ _) rfl rfl rfl ?_; exact fun w' hw => ⟨by first | (rw [cmpN_self]; done) | (rw [cmpN_self]; rfl) | (exfalso; simp_all; done), hw.fr (w, No) zm0⟩
    ·refine zs rfl rfl (bV h45) ?_; refine zs rfl rfl (bV h45) ?_; refine jF (bV h45) rfl ?_; refine aB rfl ?_; refine yB ?_; refine zG rfl ?_; refine yA ?_; refine zf fa120_1 rfl ?_; refine jM 1 z4 rfl ?_; refine aB rfl ?_; refine yB ?_; refine c_cond rfl (fun h49 => ?_) (fun h49 => ?_)
     ·refine yA ?_; refine aI rfl ?_; refine yB ?_; refine ze ?_; refine zb (zt (?_))
      refine zo (v := .int _ _) rfl rfl rfl ?_; exact fun w' hw => ⟨by first | (rw [cmpN_self]; done) | (rw [cmpN_self]; rfl) | (exfalso; simp_all; done), hw.fr (w, No) zm0⟩
     ·refine yA ?_; refine zf fa120_1 rfl ?_; refine jM 0 z4 rfl ?_; refine aB rfl ?_; refine yB ?_; refine c_cond rfl (fun h50 => ?_) (fun h50 => ?_)
      ·refine yA ?_; refine aI rfl ?_; refine yB ?_; refine ze ?_; refine zb (zt (?_))
       refine zo (v := .int _ _) rfl rfl rfl ?_; exact fun w' hw => ⟨by first | (rw [cmpN_self]; done) | (rw [cmpN_self]; rfl) | (exfalso; simp_all; done), hw.fr (w, No) zm0⟩
      ·refine zi ?_; refine zO (zk ?_); refine yA ?_; refine mI rfl ?_; refine aI rfl ?_; refine yB ?_; refine ze ?_; refine zo (v := .int _ _) rfl rfl rfl ?_; exact fun w' hw => ⟨by first | (rw [cmpN_self]; done) | (rw [cmpN_self]; rfl) | (exfalso; simp_all; done), hw.fr (w, No) zm0⟩
  ·refine o_alloc rfl zr120 (fun yb gyb uyb => ?_)
   refine zH2 1 (pk [2, 3]) ?_; refine o_pureW rfl (wn_none rfl) rfl (fun w => zR Tryz.func73 rfl rfl rfl) (fun w h => of_ok _ w ((Kn.old hA).at_ 0 rfl h) (by omega)) ?_; refine zH2 3 (pk [2, 3]) ?_; refine o_pureW rfl (wn_none rfl) rfl (fun w => zR Tryz.func73 rfl rfl rfl) (fun w h => of_ok _ w ((Kn.old hA8).at_ 0 rfl h) (by omega)) ?_; refine zH2 6 (pk [2, 3]) ?_; refine zJ 1 rfl rfl z120 rfl rfl rfl rfl rfl rfl rfl ?_; refine zH2 7 (pk [2, 3]) ?_; refine zJ 0 rfl rfl z120 rfl rfl rfl rfl rfl rfl rfl ?_; refine zN2 (pk [2, 3]) ?_
   refine zk ?_; refine yA ?_; refine zf fa44_1 rfl ?_; refine jM 3 z42 rfl ?_; refine zf fa44_1 rfl ?_; refine jM 2 z42 rfl ?_; refine jD Tryz.func55 (fun w h => Cmp_ok w ((Kn.old hA).at_ 0 rfl h) ((Kn.old hA8).at_ 0 rfl h) ⟨by omega, by omega⟩) ?_; refine aI rfl ?_; refine yB ?_; refine zq ?_; refine zB ?_; refine yA ?_; refine zf fa120_1 rfl ?_; refine jM 1 z4 rfl ?_; refine mB rfl ?_; refine zp (t := 20) rfl (fun h51 => ?_) (fun h51 => ?_)
   ·refine zw rfl rfl (bV h51) ?_; refine zf fa120_1 rfl ?_; refine zw rfl rfl (bV h51) ?_; refine jM 0 z4 rfl ?_; refine jT (bV h51) rfl ?_; refine aB rfl ?_; refine yB ?_; refine c_cond rfl (fun h52 => ?_) (fun h52 => ?_)
    ·refine yA ?_; refine mI rfl ?_; refine zg (fun _ => R_neg rfl) ?_; refine aI rfl ?_; refine yB ?_; refine ze ?_; refine zb (zt (?_))
     refine zo (v := .int _ _) rfl rfl rfl ?_; exact fun w' hw => ⟨by first | (rw [cmpN_self]; done) | (rw [cmpN_self]; rfl) | (exfalso; simp_all; done), hw.fr (w, No) zm0⟩
    ·refine yA ?_; refine zf fa120_1 rfl ?_; refine jM 1 z4 rfl ?_; refine aB rfl ?_; refine yB ?_; refine c_cond rfl (fun h53 => ?_) (fun h53 => ?_)
     ·refine yA ?_; refine aI rfl ?_; refine yB ?_; refine ze ?_; refine zb (zt (?_))
      refine zo (v := .int _ _) rfl rfl rfl ?_; exact fun w' hw => ⟨by first | (rw [cmpN_self]; done) | (rw [cmpN_self]; rfl) | (exfalso; simp_all; done), hw.fr (w, No) zm0⟩
     ·refine yA ?_; refine zf fa120_1 rfl ?_; refine jM 0 z4 rfl ?_; refine aB rfl ?_; refine yB ?_; refine c_cond rfl (fun h54 => ?_) (fun h54 => ?_)
      ·refine yA ?_; refine aI rfl ?_; refine yB ?_; refine ze ?_; refine zb (zt (?_))
       refine zo (v := .int _ _) rfl rfl rfl ?_; exact fun w' hw => ⟨by first | (rw [cmpN_self]; done) | (rw [cmpN_self]; rfl) | (exfalso; simp_all; done), hw.fr (w, No) zm0⟩
      ·refine zi ?_; refine zO (zk ?_); refine yA ?_; refine mI rfl ?_; refine aI rfl ?_; refine yB ?_; refine ze ?_; refine zo (v := .int _ _) rfl rfl rfl ?_; exact fun w' hw => ⟨by first | (rw [cmpN_self]; done) | (rw [cmpN_self]; rfl) | (exfalso; simp_all; done), hw.fr (w, No) zm0⟩
   ·refine zs rfl rfl (bV h51) ?_; refine zs rfl rfl (bV h51) ?_; refine jF (bV h51) rfl ?_; refine aB rfl ?_; refine yB ?_; refine zG rfl ?_; refine yA ?_; refine zf fa120_1 rfl ?_; refine jM 1 z4 rfl ?_; refine aB rfl ?_; refine yB ?_; refine c_cond rfl (fun h55 => ?_) (fun h55 => ?_)
    ·refine yA ?_; refine aI rfl ?_; refine yB ?_; refine ze ?_; refine zb (zt (?_))
     refine zo (v := .int _ _) rfl rfl rfl ?_; exact fun w' hw => ⟨by first | (rw [cmpN_self]; done) | (rw [cmpN_self]; rfl) | (exfalso; simp_all; done), hw.fr (w, No) zm0⟩
    ·refine yA ?_; refine zf fa120_1 rfl ?_; refine jM 0 z4 rfl ?_; refine aB rfl ?_; refine yB ?_; refine c_cond rfl (fun h56 => ?_) (fun h56 => ?_)
     ·refine yA ?_; refine aI rfl ?_; refine yB ?_; refine ze ?_; refine zb (zt (?_))
      refine zo (v := .int _ _) rfl rfl rfl ?_; exact fun w' hw => ⟨by first | (rw [cmpN_self]; done) | (rw [cmpN_self]; rfl) | (exfalso; simp_all; done), hw.fr (w, No) zm0⟩
     ·refine zi ?_; refine zO (zk ?_); refine yA ?_; refine mI rfl ?_; refine aI rfl ?_; refine yB ?_; refine ze ?_; refine zo (v := .int _ _) rfl rfl rfl ?_; exact fun w' hw => ⟨by first | (rw [cmpN_self]; done) | (rw [cmpN_self]; rfl) | (exfalso; simp_all; done), hw.fr (w, No) zm0⟩
 ·refine o_alloc rfl zr120 (fun yb gyb uyb => ?_)
  refine h_two 1 4 (by kernel_rfl) (pk [1, 2]) ?_ ?_
  ·refine o_pureW rfl (wn_none rfl) rfl (fun w => zR Tryz.func73 rfl rfl rfl) (fun w h => of_ok _ w ((Kn.old hA).at_ 0 rfl h) (by omega)) ?_; refine h_two 3 4 (by kernel_rfl) (pk [1, 2]) ?_ ?_
   ·refine o_pureW rfl (wn_none rfl) rfl (fun w => zR Tryz.func73 rfl rfl rfl) (fun w h => of_ok _ w ((Kn.old hA8).at_ 0 rfl h) (by omega)) ?_; refine zH2 4 (pk [1, 2]) ?_; refine o_alloc rfl zr120 (fun xb gxb uxb => ?_)
    refine zH2 6 (pk [2, 3]) ?_; refine zJ 0 rfl rfl z120 rfl rfl rfl rfl rfl rfl rfl ?_; refine zH2 7 (pk [2, 3]) ?_; refine zJ 1 rfl rfl z120 rfl rfl rfl rfl rfl rfl rfl ?_; refine zN2 (pk [2, 3]) ?_; refine zk ?_; refine yA ?_; refine zf fa44_1 rfl ?_; refine jM 3 z42 rfl ?_; refine zf fa44_1 rfl ?_; refine jM 2 z42 rfl ?_; refine jD Tryz.func55 (fun w h => Cmp_ok w ((Kn.old hA).at_ 0 rfl h) ((Kn.old hA8).at_ 0 rfl h) ⟨by omega, by omega⟩) ?_
    refine aI rfl ?_; refine yB ?_; refine zq ?_; refine zB ?_; refine yA ?_; refine zf fa120_1 rfl ?_; refine jM 0 z4 rfl ?_; refine mB rfl ?_; refine zp (t := 20) rfl (fun h57 => ?_) (fun h57 => ?_)
    ·refine zw rfl rfl (bV h57) ?_; refine zf fa120_1 rfl ?_; refine zw rfl rfl (bV h57) ?_; refine jM 1 z4 rfl ?_; refine jT (bV h57) rfl ?_; refine aB rfl ?_; refine yB ?_; refine c_cond rfl (fun h58 => ?_) (fun h58 => ?_)
     ·refine yA ?_; refine mI rfl ?_; refine zg (fun _ => R_neg rfl) ?_; refine aI rfl ?_; refine yB ?_; refine ze ?_; refine zb (zt (?_))
      refine zo (v := .int _ _) rfl rfl rfl ?_; exact fun w' hw => ⟨by first | (rw [cmpN_self]; done) | (rw [cmpN_self]; rfl) | (exfalso; simp_all; done), hw.fr (w, No) zm0⟩
     ·refine yA ?_; refine zf fa120_1 rfl ?_; refine jM 0 z4 rfl ?_; refine aB rfl ?_; refine yB ?_; refine c_cond rfl (fun h59 => ?_) (fun h59 => ?_)
      ·refine yA ?_; refine aI rfl ?_; refine yB ?_; refine ze ?_; refine zb (zt (?_))
       refine zo (v := .int _ _) rfl rfl rfl ?_; exact fun w' hw => ⟨by first | (rw [cmpN_self]; done) | (rw [cmpN_self]; rfl) | (exfalso; simp_all; done), hw.fr (w, No) zm0⟩
      ·refine yA ?_; refine zf fa120_1 rfl ?_; refine jM 1 z4 rfl ?_; refine aB rfl ?_; refine yB ?_; refine c_cond rfl (fun h60 => ?_) (fun h60 => ?_)
       ·refine yA ?_; refine aI rfl ?_; refine yB ?_; refine ze ?_; refine zb (zt (?_))
        refine zo (v := .int _ _) rfl rfl rfl ?_; exact fun w' hw => ⟨by first | (rw [cmpN_self]; done) | (rw [cmpN_self]; rfl) | (exfalso; simp_all; done), hw.fr (w, No) zm0⟩
       ·refine zi ?_; refine zO (zk ?_); refine yA ?_; refine mI rfl ?_; refine aI rfl ?_; refine yB ?_; refine ze ?_; refine zo (v := .int _ _) rfl rfl rfl ?_; exact fun w' hw => ⟨by first | (rw [cmpN_self]; done) | (rw [cmpN_self]; rfl) | (exfalso; simp_all; done), hw.fr (w, No) zm0⟩
    ·refine zs rfl rfl (bV h57) ?_; refine zs rfl rfl (bV h57) ?_; refine jF (bV h57) rfl ?_; refine aB rfl ?_; refine yB ?_; refine zG rfl ?_; refine yA ?_; refine zf fa120_1 rfl ?_; refine jM 0 z4 rfl ?_; refine aB rfl ?_; refine yB ?_; refine c_cond rfl (fun h61 => ?_) (fun h61 => ?_)
     ·refine yA ?_; refine aI rfl ?_; refine yB ?_; refine ze ?_; refine zb (zt (?_))
      refine zo (v := .int _ _) rfl rfl rfl ?_; exact fun w' hw => ⟨by first | (rw [cmpN_self]; done) | (rw [cmpN_self]; rfl) | (exfalso; simp_all; done), hw.fr (w, No) zm0⟩
     ·refine yA ?_; refine zf fa120_1 rfl ?_; refine jM 1 z4 rfl ?_; refine aB rfl ?_; refine yB ?_; refine c_cond rfl (fun h62 => ?_) (fun h62 => ?_)
      ·refine yA ?_; refine aI rfl ?_; refine yB ?_; refine ze ?_; refine zb (zt (?_))
       refine zo (v := .int _ _) rfl rfl rfl ?_; exact fun w' hw => ⟨by first | (rw [cmpN_self]; done) | (rw [cmpN_self]; rfl) | (exfalso; simp_all; done), hw.fr (w, No) zm0⟩
      ·refine zi ?_; refine zO (zk ?_); refine yA ?_; refine mI rfl ?_; refine aI rfl ?_; refine yB ?_; refine ze ?_; refine zo (v := .int _ _) rfl rfl rfl ?_; exact fun w' hw => ⟨by first | (rw [cmpN_self]; done) | (rw [cmpN_self]; rfl) | (exfalso; simp_all; done), hw.fr (w, No) zm0⟩
   ·refine o_alloc rfl zr120 (fun xb gxb uxb => ?_)
    refine zH2 3 (pk [2, 3]) ?_; refine o_pureW rfl (wn_none rfl) rfl (fun w => zR Tryz.func73 rfl rfl rfl) (fun w h => of_ok _ w ((Kn.old hA8).at_ 0 rfl h) (by omega)) ?_; refine zH2 6 (pk [2, 3]) ?_; refine zJ 0 rfl rfl z120 rfl rfl rfl rfl rfl rfl rfl ?_; refine zH2 7 (pk [2, 3]) ?_; refine zJ 1 rfl rfl z120 rfl rfl rfl rfl rfl rfl rfl ?_; refine zN2 (pk [2, 3]) ?_; refine zk ?_; refine yA ?_; refine zf fa44_1 rfl ?_; refine jM 3 z42 rfl ?_; refine zf fa44_1 rfl ?_
    refine jM 2 z42 rfl ?_; refine jD Tryz.func55 (fun w h => Cmp_ok w ((Kn.old hA).at_ 0 rfl h) ((Kn.old hA8).at_ 0 rfl h) ⟨by omega, by omega⟩) ?_; refine aI rfl ?_; refine yB ?_; refine zq ?_; refine zB ?_; refine yA ?_; refine zf fa120_1 rfl ?_; refine jM 0 z4 rfl ?_; refine mB rfl ?_; refine zp (t := 20) rfl (fun h63 => ?_) (fun h63 => ?_)
    ·refine zw rfl rfl (bV h63) ?_; refine zf fa120_1 rfl ?_; refine zw rfl rfl (bV h63) ?_; refine jM 1 z4 rfl ?_; refine jT (bV h63) rfl ?_; refine aB rfl ?_; refine yB ?_; refine c_cond rfl (fun h64 => ?_) (fun h64 => ?_)
     ·refine yA ?_; refine mI rfl ?_; refine zg (fun _ => R_neg rfl) ?_; refine aI rfl ?_; refine yB ?_; refine ze ?_; refine zb (zt (?_))
      refine zo (v := .int _ _) rfl rfl rfl ?_; exact fun w' hw => ⟨by first | (rw [cmpN_self]; done) | (rw [cmpN_self]; rfl) | (exfalso; simp_all; done), hw.fr (w, No) zm0⟩
     ·refine yA ?_; refine zf fa120_1 rfl ?_; refine jM 0 z4 rfl ?_; refine aB rfl ?_; refine yB ?_; refine c_cond rfl (fun h65 => ?_) (fun h65 => ?_)
      ·refine yA ?_; refine aI rfl ?_; refine yB ?_; refine ze ?_; refine zb (zt (?_))
       refine zo (v := .int _ _) rfl rfl rfl ?_; exact fun w' hw => ⟨by first | (rw [cmpN_self]; done) | (rw [cmpN_self]; rfl) | (exfalso; simp_all; done), hw.fr (w, No) zm0⟩
      ·refine yA ?_; refine zf fa120_1 rfl ?_; refine jM 1 z4 rfl ?_; refine aB rfl ?_; refine yB ?_; refine c_cond rfl (fun h66 => ?_) (fun h66 => ?_)
       ·refine yA ?_; refine aI rfl ?_; refine yB ?_; refine ze ?_; refine zb (zt (?_))
        refine zo (v := .int _ _) rfl rfl rfl ?_; exact fun w' hw => ⟨by first | (rw [cmpN_self]; done) | (rw [cmpN_self]; rfl) | (exfalso; simp_all; done), hw.fr (w, No) zm0⟩
       ·refine zi ?_; refine zO (zk ?_); refine yA ?_; refine mI rfl ?_; refine aI rfl ?_; refine yB ?_; refine ze ?_; refine zo (v := .int _ _) rfl rfl rfl ?_; exact fun w' hw => ⟨by first | (rw [cmpN_self]; done) | (rw [cmpN_self]; rfl) | (exfalso; simp_all; done), hw.fr (w, No) zm0⟩
    ·refine zs rfl rfl (bV h63) ?_; refine zs rfl rfl (bV h63) ?_; refine jF (bV h63) rfl ?_; refine aB rfl ?_; refine yB ?_; refine zG rfl ?_; refine yA ?_; refine zf fa120_1 rfl ?_; refine jM 0 z4 rfl ?_; refine aB rfl ?_; refine yB ?_; refine c_cond rfl (fun h67 => ?_) (fun h67 => ?_)
     ·refine yA ?_; refine aI rfl ?_; refine yB ?_; refine ze ?_; refine zb (zt (?_))
      refine zo (v := .int _ _) rfl rfl rfl ?_; exact fun w' hw => ⟨by first | (rw [cmpN_self]; done) | (rw [cmpN_self]; rfl) | (exfalso; simp_all; done), hw.fr (w, No) zm0⟩
     ·refine yA ?_; refine zf fa120_1 rfl ?_; refine jM 1 z4 rfl ?_; refine aB rfl ?_; refine yB ?_; refine c_cond rfl (fun h68 => ?_) (fun h68 => ?_)
      ·refine yA ?_; refine aI rfl ?_; refine yB ?_; refine ze ?_; refine zb (zt (?_))
       refine zo (v := .int _ _) rfl rfl rfl ?_; exact fun w' hw => ⟨by first | (rw [cmpN_self]; done) | (rw [cmpN_self]; rfl) | (exfalso; simp_all; done), hw.fr (w, No) zm0⟩
      ·refine zi ?_; refine zO (zk ?_); refine yA ?_; refine mI rfl ?_; refine aI rfl ?_; refine yB ?_; refine ze ?_; refine zo (v := .int _ _) rfl rfl rfl ?_; exact fun w' hw => ⟨by first | (rw [cmpN_self]; done) | (rw [cmpN_self]; rfl) | (exfalso; simp_all; done), hw.fr (w, No) zm0⟩
  ·refine o_alloc rfl zr120 (fun xb gxb uxb => ?_)
   refine zH2 1 (pk [2, 3]) ?_; refine o_pureW rfl (wn_none rfl) rfl (fun w => zR Tryz.func73 rfl rfl rfl) (fun w h => of_ok _ w ((Kn.old hA).at_ 0 rfl h) (by omega)) ?_; refine zH2 3 (pk [2, 3]) ?_; refine o_pureW rfl (wn_none rfl) rfl (fun w => zR Tryz.func73 rfl rfl rfl) (fun w h => of_ok _ w ((Kn.old hA8).at_ 0 rfl h) (by omega)) ?_; refine zH2 6 (pk [2, 3]) ?_; refine zJ 0 rfl rfl z120 rfl rfl rfl rfl rfl rfl rfl ?_; refine zH2 7 (pk [2, 3]) ?_; refine zJ 1 rfl rfl z120 rfl rfl rfl rfl rfl rfl rfl ?_; refine zN2 (pk [2, 3]) ?_
   refine zk ?_; refine yA ?_; refine zf fa44_1 rfl ?_; refine jM 3 z42 rfl ?_; refine zf fa44_1 rfl ?_; refine jM 2 z42 rfl ?_; refine jD Tryz.func55 (fun w h => Cmp_ok w ((Kn.old hA).at_ 0 rfl h) ((Kn.old hA8).at_ 0 rfl h) ⟨by omega, by omega⟩) ?_; refine aI rfl ?_; refine yB ?_; refine zq ?_; refine zB ?_; refine yA ?_; refine zf fa120_1 rfl ?_; refine jM 0 z4 rfl ?_; refine mB rfl ?_; refine zp (t := 20) rfl (fun h69 => ?_) (fun h69 => ?_)
   ·refine zw rfl rfl (bV h69) ?_; refine zf fa120_1 rfl ?_; refine zw rfl rfl (bV h69) ?_; refine jM 1 z4 rfl ?_; refine jT (bV h69) rfl ?_; refine aB rfl ?_; refine yB ?_; refine c_cond rfl (fun h70 => ?_) (fun h70 => ?_)
    ·refine yA ?_; refine mI rfl ?_; refine zg (fun _ => R_neg rfl) ?_; refine aI rfl ?_; refine yB ?_; refine ze ?_; refine zb (zt (?_))
     refine zo (v := .int _ _) rfl rfl rfl ?_; exact fun w' hw => ⟨by first | (rw [cmpN_self]; done) | (rw [cmpN_self]; rfl) | (exfalso; simp_all; done), hw.fr (w, No) zm0⟩
    ·refine yA ?_; refine zf fa120_1 rfl ?_; refine jM 0 z4 rfl ?_; refine aB rfl ?_; refine yB ?_; refine c_cond rfl (fun h71 => ?_) (fun h71 => ?_)
     ·refine yA ?_; refine aI rfl ?_; refine yB ?_; refine ze ?_; refine zb (zt (?_))
      refine zo (v := .int _ _) rfl rfl rfl ?_; exact fun w' hw => ⟨by first | (rw [cmpN_self]; done) | (rw [cmpN_self]; rfl) | (exfalso; simp_all; done), hw.fr (w, No) zm0⟩
     ·refine yA ?_; refine zf fa120_1 rfl ?_; refine jM 1 z4 rfl ?_; refine aB rfl ?_; refine yB ?_; refine c_cond rfl (fun h72 => ?_) (fun h72 => ?_)
      ·refine yA ?_; refine aI rfl ?_; refine yB ?_; refine ze ?_; refine zb (zt (?_))
       refine zo (v := .int _ _) rfl rfl rfl ?_; exact fun w' hw => ⟨by first | (rw [cmpN_self]; done) | (rw [cmpN_self]; rfl) | (exfalso; simp_all; done), hw.fr (w, No) zm0⟩
      ·refine zi ?_; refine zO (zk ?_); refine yA ?_; refine mI rfl ?_; refine aI rfl ?_; refine yB ?_; refine ze ?_; refine zo (v := .int _ _) rfl rfl rfl ?_; exact fun w' hw => ⟨by first | (rw [cmpN_self]; done) | (rw [cmpN_self]; rfl) | (exfalso; simp_all; done), hw.fr (w, No) zm0⟩
   ·refine zs rfl rfl (bV h69) ?_; refine zs rfl rfl (bV h69) ?_; refine jF (bV h69) rfl ?_; refine aB rfl ?_; refine yB ?_; refine zG rfl ?_; refine yA ?_; refine zf fa120_1 rfl ?_; refine jM 0 z4 rfl ?_; refine aB rfl ?_; refine yB ?_; refine c_cond rfl (fun h73 => ?_) (fun h73 => ?_)
    ·refine yA ?_; refine aI rfl ?_; refine yB ?_; refine ze ?_; refine zb (zt (?_))
     refine zo (v := .int _ _) rfl rfl rfl ?_; exact fun w' hw => ⟨by first | (rw [cmpN_self]; done) | (rw [cmpN_self]; rfl) | (exfalso; simp_all; done), hw.fr (w, No) zm0⟩
    ·refine yA ?_; refine zf fa120_1 rfl ?_; refine jM 1 z4 rfl ?_; refine aB rfl ?_; refine yB ?_; refine c_cond rfl (fun h74 => ?_) (fun h74 => ?_)
     ·refine yA ?_; refine aI rfl ?_; refine yB ?_; refine ze ?_; refine zb (zt (?_))
      refine zo (v := .int _ _) rfl rfl rfl ?_; exact fun w' hw => ⟨by first | (rw [cmpN_self]; done) | (rw [cmpN_self]; rfl) | (exfalso; simp_all; done), hw.fr (w, No) zm0⟩
     ·refine zi ?_; refine zO (zk ?_); refine yA ?_; refine mI rfl ?_; refine aI rfl ?_; refine yB ?_; refine ze ?_; refine zo (v := .int _ _) rfl rfl rfl ?_; exact fun w' hw => ⟨by first | (rw [cmpN_self]; done) | (rw [cmpN_self]; rfl) | (exfalso; simp_all; done), hw.fr (w, No) zm0⟩
theorem fidleI_ok (ob fb : Nat) {B : Base} {L : Heap} (w : World) (hw : St B L w) : CallsD Tryz.prog 83 #[pX ob, pX fb] .returning w fun e u w' => (∃ v, e = .returned v) ∧ u = .returning ∧ St B L w' := by
 refine enterR0 (l := [_, _]) 10 Tryz.func83 rfl rfl rfl rfl ⟨_, _, hw, ?_⟩
 refine yA ?_; refine zm rfl ?_; refine zg (fun _ => R_ine0 uni20 rfl rfl) ?_; refine yB ?_; refine zG rfl ?_; refine zi ?_; exact r_rec (.inr rfl) rfl fun w' hw => hw
theorem faceI_ok (cf : FuncId) (F9 : Func) (C9 : Code) (hf9 : Tryz.prog.funcs[cf]? = some F9) (hb9 : F9.body = some C9) (hn9 : (F9.name == "runtime.NumGoroutine") = false) (ca : List Value) (z9 : Int) (w : World) (hc : ∀ w1, Ext w w1 → Ret Tryz.prog cf ca.toArray w1 (fun v w' => v = .int .i64 z9 ∧ Ext w1 w')) :
  Ret Tryz.prog 49 #[.func (.func cf) #[] ca.toArray] w (fun v w' => v = .tuple #[.int .i64 z9, .int .i64 0] ∧ Ext w w') := by
 refine enterD (S := No) (l := [_]) (L := []) 7 Tryz.func49 rfl rfl rfl (St.start w No) ?_; refine yA ?_; refine zA zr3 (fun ob gob uob => ?_)
 refine zA zr25 (fun fb gfb ufb => ?_)
 refine yC ?_; refine zg (fun _ => R_makeFunc) ?_; refine w_defer (fun w => R_defer (ca := [pX ob, pX fb]) rfl) rfl rfl ?_; refine yC ?_; refine zm rfl ?_; refine zC (v := .int .i64 z9) (fun w => R_callv rfl hf9 hb9 hn9) rfl rfl (fun w h => hc w (h.fr (_, No) zm0)) ?_; refine jv 1 z3 rfl ?_; refine jv 0 z25 rfl ?_; refine yB ?_; refine ze ?_
 refine r_finD (.inl rfl) rfl (f := 83) (ca := [pX ob, pX fb]) (fun _ => invoke_cl Tryz.func83 rfl rfl) (fun w hw => fidleI_ok ob fb w hw) (.cell rfl rfl z3 (fun _ h => zc 1 rfl rfl h) (.cell rfl rfl z25 (fun _ h => zc 0 rfl rfl h) .nil)) ?_; exact fun w' hw => ⟨rfl, hw.fr (w, No) zm0⟩
theorem zc_eq {b b1 : Bool} {N N1 : Nat} {a a1 : Option Addr} {k k1 c c1 : Nat} {w : World} (hb : b = b1) (hN : N = N1) (hA : Nm w a k c N) (hA1 : Nm w a1 k1 c1 N1) (hs : k ≤ 1000000 ∧ k1 ≤ 1000000) : Ret Tryz.prog 52 #[.agg #[.bool b, .slice a k c], .agg #[.bool b1, .slice a1 k1 c1]] w fun v w' => v = .int .i64 0 ∧ Ext w w' := by
 subst hb; subst hN
 exact zCmpE_ok b w hA hA1 hs
theorem cmpC_ok (s s1 : Bool) {a : Option Addr} {k c n : Nat} {a8 : Option Addr} {k8 c8 m : Nat} {au : Option Addr} {ku cu nu : Nat} {av : Option Addr} {kv cv mv : Nat} (w : World) (hA : Nm w a k c n) (hA8 : Nm w a8 k8 c8 m) (hB : Nm w au ku cu nu) (hB8 : Nm w av kv cv mv) (pa pb : Nat) (hpa : w.heap[pa]? = some (cel [.bool s, .slice a k c, .slice a8 k8 c8] 46)) (hpb : w.heap[pb]? = some (cel [.bool s1, .slice au ku cu, .slice av kv cv] 46)) (hs : (k ≤ 1000000 ∧ k8 ≤ 1000000 ∧ ku ≤ 1000000 ∧ kv ≤ 1000000) ∧ (sz n ≤ 900 ∧ sz m ≤ 900 ∧ sz nu ≤ 900 ∧ sz mv ≤ 900) ∧ m ≠ 0 ∧ mv ≠ 0) (he : n * mv = nu * m ∧ (s && decide (n * mv ≠ 0)) = (s1 && decide (nu * m ≠ 0))) :
  Ret Tryz.prog 50 #[pX pa, pX pb] w (fun v w' => v = .int .i64 0 ∧ Ext w w') := by
 have hm1 := mul_szF n mv
 have hm2 := mul_szF nu m
 have hsg : ((s != false) && decide (n * mv ≠ 0)) = ((s1 != false) && decide (nu * m ≠ 0)) := by rw [Bool.bne_false, Bool.bne_false]; exact he.2
 have hmul := he.1
 refine enter (S := No) (l := [_, _]) (L := []) 22 Tryz.func50 rfl rfl rfl (St.start w No) ?_; refine yA ?_; refine aI rfl ?_; refine yC ?_; refine zY z46 rfl (fun w h => h.old hpa zm0 (fun x => x)) rfl ?_; refine zY z46 rfl (fun w h => h.old hpb zm0 (fun x => x)) rfl ?_; refine zS slt31 (by decide) rfl rfl (fun sb gsb usb => ?_)
 refine jD (v := .tuple #[]) Tryz.func51 (fun w h => may2_ok s s1 w ((Kn.old hA).at_ 0 rfl h) ((Kn.old hA8).at_ 0 rfl h) ((Kn.old hB).at_ 0 rfl h) ((Kn.old hB8).at_ 0 rfl h) (h.at_ 0 rfl) hs) ?_; refine yB ?_; refine zq ?_; refine c_heldS mixed ?_; refine zh2 0 rfl rfl (fun w h => h) (fun w h => R_fa fa46_0 rfl) ?_; refine zh2 1 rfl rfl (fun w h => h) (fun w h => R_ldA (l := [.bool s, .slice a k c]) z44 rfl rfl (fun j v hj => cel_oldb hpa zm0 (fun x => x) (by rcases j with _ | _ | j; (exact hj); (exact hj); (cases hj)) h)) ?_; refine zh2 2 rfl rfl (fun w h => h) (fun w h => R_fa fa46_1 rfl) ?_; refine zh2 3 rfl rfl (fun w h => h) (fun w h => R_ld1 z42 rfl (cel_oldb hpb zm0 (fun x => x) rfl h)) ?_
 refine zh2 7 rfl rfl (fun w h => h) (fun w h => R_fa fa46_0 rfl) ?_; refine zh2 8 rfl rfl (fun w h => h) (fun w h => R_ldA (l := [.bool s1, .slice au ku cu]) z44 rfl rfl (fun j v hj => cel_oldb hpb zm0 (fun x => x) (by rcases j with _ | _ | j; (exact hj); (exact hj); (cases hj)) h)) ?_; refine zh2 9 rfl rfl (fun w h => h) (fun w h => R_fa fa46_1 rfl) ?_; refine zh2 10 rfl rfl (fun w h => h) (fun w h => R_ld1 z42 rfl (cel_oldb hpa zm0 (fun x => x) rfl h)) ?_; refine zH2 4 (fun w h => h) ?_; refine o_pureW rfl (wn_none rfl) rfl (fun w => zR Tryz.func54 rfl rfl rfl) (fun w h => whole_ok _ _ _ w) ?_; refine zH2 5 (fun w h => h) ?_; refine o_bsliceV rfl (wn_none rfl) slt133 (by decide) rfl rfl (fun b1 gb1 ub1 => ?_)
 refine zH2 6 (fun w h => h.d1) ?_; refine o_tel rfl (wn_none rfl) rfl (fun w => zR Tryz.func53 rfl rfl rfl) (fun w h => product_ok s false w ((Kn.old hA).at_ 0 rfl h) ((Kn.old hB8).at_ 0 rfl h) (h.at_ 0 rfl) ⟨by omega, by omega, by omega, by omega, by omega⟩) (fun x1 a1 c1 hK1 hN1 => ?_)
 refine zH2 11 (fun w h => h.d1.unbase (fun x hx => .tail _ (hx))) ?_; refine o_pureW rfl (wn_none rfl) rfl (fun w => zR Tryz.func54 rfl rfl rfl) (fun w h => whole_ok _ _ _ w) ?_; refine zH2 12 (fun w h => h.d1.unbase (fun x hx => .tail _ (hx))) ?_; refine o_bsliceV rfl (wn_none rfl) slt133 (by decide) rfl rfl (fun b2 gb2 ub2 => ?_)
 refine zH2 13 (fun w h => (h.drop (.cons _ (.cons _ (List.Sublist.refl _)))).unbase (fun x hx => .tail _ (hx))) ?_; refine o_tel rfl (wn_none rfl) rfl (fun w => zR Tryz.func53 rfl rfl rfl) (fun w h => product_ok s1 false w ((Kn.old hB).at_ 1 rfl h) ((Kn.old hA8).at_ 1 rfl h) (h.at_ 0 rfl) ⟨by omega, by omega, by omega, by omega, by omega⟩) (fun x2 a2 c2 hK2 hN2 => ?_)
 refine zH2 14 (fun w h => (h.drop (.cons _ (.cons _ (List.Sublist.refl _)))).unbase (fun x hx => .tail _ (.tail _ (hx)))) ?_; refine o_pureW rfl (wn_none rfl) rfl (fun w => zR Tryz.func52 rfl rfl rfl) (fun w h => zc_eq hsg hmul (hK1.at_ 1 rfl h) (hK2.at_ 0 rfl h) ⟨by omega, by omega⟩) ?_; refine zh (v := .int _ _) 15 rfl (by kernel_rfl) rfl rfl (fun w h => (h.drop (.cons _ (.cons _ (List.Sublist.refl _)))).unbase (fun x hx => .tail _ (.tail _ (hx)))) (fun w h => R_assign rfl) ?_; refine zN2 (fun w h => (h.drop (.cons _ (.cons _ (List.Sublist.refl _)))).unbase (fun x hx => .tail _ (.tail _ (hx)))) ?_; refine zk ?_; refine ze ?_; refine zo (v := .int _ _) rfl rfl rfl ?_; exact fun w' hw => ⟨rfl, hw.fr (w, No) zm2⟩
theorem fCmpE_ok (s s1 : Bool) {a : Option Addr} {k c n : Nat} {a8 : Option Addr} {k8 c8 m : Nat} {au : Option Addr} {ku cu nu : Nat} {av : Option Addr} {kv cv mv : Nat} (w : World) (hA : Nm w a k c n) (hA8 : Nm w a8 k8 c8 m) (hB : Nm w au ku cu nu) (hB8 : Nm w av kv cv mv) (hs : (k ≤ 1000000 ∧ k8 ≤ 1000000 ∧ ku ≤ 1000000 ∧ kv ≤ 1000000) ∧ (sz n ≤ 900 ∧ sz m ≤ 900 ∧ sz nu ≤ 900 ∧ sz mv ≤ 900) ∧ m ≠ 0 ∧ mv ≠ 0) (he : n * mv = nu * m ∧ (s && decide (n * mv ≠ 0)) = (s1 && decide (nu * m ≠ 0))) :
  Ret Tryz.prog 19 #[.agg #[.bool s, .slice a k c, .slice a8 k8 c8], .agg #[.bool s1, .slice au ku cu, .slice av kv cv]] w (fun v w' => v = .tuple #[.int .i64 0, .int .i64 0] ∧ Ext w w') := by
 refine enter (S := No) (l := [_, _]) (L := []) 10 Tryz.func19 rfl rfl rfl (St.start w No) ?_; refine yA ?_; refine w_boxA rfl (fun pa gpa upa => ?_)
 refine w_boxA rfl (fun pb gpb upb => ?_)
 refine aI rfl ?_; refine aI rfl ?_; refine yC ?_; refine zg (fun _ => R_makeFunc) ?_; refine jD Tryz.func49 (fun w h => faceI_ok _ _ _ Tryz.func50 rfl rfl [pX pa, pX pb] 0 w (fun w1 hx => cmpC_ok s s1 w1 (((Kn.old hA).at_ 0 rfl h).ext hx) (((Kn.old hA8).at_ 0 rfl h).ext hx) (((Kn.old hB).at_ 0 rfl h).ext hx) (((Kn.old hB8).at_ 0 rfl h).ext hx) pa pb (hx.get (h.at_ 1 rfl) (fun x => x)) (hx.get (h.at_ 0 rfl) (fun x => x)) hs he)) ?_; refine jx rfl rfl ?_; refine jx rfl rfl ?_; refine aI rfl ?_; refine aI rfl ?_; refine yB ?_; refine ze ?_
 refine r_two (v := .int _ _) (v2 := .int _ _) rfl rfl rfl rfl rfl ?_; exact fun w' hw => ⟨rfl, hw.fr (w, No) zm0⟩
end Go.Proofs.YtikdkendinnalaaGreatDoor
end
