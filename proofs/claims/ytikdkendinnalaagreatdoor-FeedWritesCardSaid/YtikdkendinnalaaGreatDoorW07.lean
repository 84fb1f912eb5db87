/- Layer 14, FeedWrites: that Write and Find tell what the document says, and that what is written is read as the same data again. Part 7 of 14. -/
import Derived.Test.YtikdkendinnalaaGreatDoorW06
set_option maxRecDepth 100000
set_option maxHeartbeats 16000000
section
namespace Go.Proofs.YtikdkendinnalaaGreatDoor
open Go.RowKit Go.Sx
open Go.Num Go.Feed
theorem ftold_no (s : Bool) {a : Option Addr} {k c n : Nat} {a8 : Option Addr} {k8 c8 m : Nat} (w : World) (hA : Nm w a k c n) (hA8 : Nm w a8 k8 c8 m) (hs : k ≤ 1000000 ∧ k8 ≤ 1000000 ∧ sz n ≤ 2000 ∧ m = 0) :
  RetP Tryz.prog 116 #[.agg #[.bool s, .slice a k c], .agg #[.bool false, .slice a8 k8 c8]] w (fun _ _ => False) (fun ch w' => ch = panE 2 ∧ Ext w w') := by
 refine enterP (S := No) (l := [_, _]) (L := []) 58 Tryz.func116 rfl rfl rfl (St.start w No) ?_; refine yA ?_; refine w_boxA rfl (fun p gp up => ?_)
 refine w_boxA rfl (fun p2 gp2 up2 => ?_)
 refine zA zr46 (fun r gr ur => ?_)
 refine yB ?_; refine zq ?_; refine yA ?_; refine jy 1 z44 rfl rfl ?_; refine jD Tryz.func151 (fun w h => zSign_ok _ w ((Kn.old hA8).at_ 0 rfl h) (by omega)) ?_; refine je rfl rfl ?_; refine yB ?_; refine zD rfl (fun h4 => ?_) (fun h4 => ?_)
 ·refine zr ?_; refine zg (fun _ => R_mkI cn25 rfl) ?_; refine w_halt (fun w => R_panic rfl) rfl ?_; exact fun w' hw => p_out rfl ⟨rfl, hw.fr (w, No) zm0⟩
 ·exact absurd (by rw [iv_sign, if_pos hs.2.2.2]) h4
theorem makeC_ok (s : Bool) {a : Option Addr} {k c n : Nat} {a8 : Option Addr} {k8 c8 m : Nat} (w : World) (hA : Nm w a k c n) (hA8 : Nm w a8 k8 c8 m) (pn pd : Nat) (hpn : w.heap[pn]? = some (cel [.bool s, .slice a k c] 44)) (hpd : w.heap[pd]? = some (cel [.bool false, .slice a8 k8 c8] 44)) (hs : k ≤ 1000000 ∧ k8 ≤ 1000000 ∧ sz n ≤ 2000 ∧ sz m ≤ 2000 ∧ m ≠ 0) :
  Ret Tryz.prog 115 #[pX pn, pX pd] w (Tel2 (fun a c a2 c2 => .agg #[.bool (ng (mkR s n m).1), .slice a (sz (mkR s n m).1.natAbs) c, .slice a2 (sz (mkR s n m).2) c2]) (sz (mkR s n m).1.natAbs) (mkR s n m).1.natAbs (sz (mkR s n m).2) (mkR s n m).2 w) := by
 refine enter (S := No) (l := [_, _]) (L := []) 27 Tryz.func115 rfl rfl rfl (St.start w No) ?_; refine yA ?_; refine zA zr46 (fun r gr ur => ?_)
 refine yC ?_; refine zY z44 rfl (fun w h => h.old hpn zm0 (fun x => x)) rfl ?_; refine w_tel (fun w => zR Tryz.func84 rfl rfl rfl) rfl rfl (fun w h => zNorm_ok _ w ((Kn.old hA).at_ 0 rfl h) ⟨by omega, by omega⟩) (fun x2 a2 c2 hK2 hN2 => ?_)
 refine zm rfl ?_; refine jx rfl rfl ?_; refine jx rfl rfl ?_; refine zA zr44 (fun ib gib uib => ?_)
 refine jv 0 z44 rfl ?_; refine aI rfl ?_; refine yC ?_; refine zY z44 rfl (fun w h => h.old hpd zm1 (fun x => x)) rfl ?_; refine w_tel (fun w => zR Tryz.func84 rfl rfl rfl) rfl rfl (fun w h => zNorm_ok _ w ((Kn.old hA8).at_ 1 rfl h) ⟨by omega, by omega⟩) (fun x4 a4 c4 hK4 hN4 => ?_)
 refine zm rfl ?_; refine jx rfl rfl ?_; refine jx rfl rfl ?_; refine zA zr44 (fun jb gjb ujb => ?_)
 refine jv 0 z44 rfl ?_; refine aI rfl ?_; refine yB ?_; refine zq ?_; refine yA ?_; refine mI rfl ?_; refine jn rfl rfl ?_; refine mB rfl ?_; refine zw rfl rfl bE ?_; refine mI rfl ?_; refine zw rfl rfl bE ?_; refine jn rfl rfl ?_; refine jF bE rfl ?_; refine yB ?_; refine zG bE ?_; refine zi ?_; refine zk ?_; refine yA ?_
 refine zY z44 rfl (fun w h => h.old hpn zm2 (fun x => x)) rfl ?_; refine zY z44 rfl (fun w h => h.old hpd zm2 (fun x => x)) rfl ?_; refine w_tel2 (fun w => zR Tryz.func116 rfl rfl rfl) rfl rfl (fun w h => ftold_ok s w ((Kn.old hA).at_ 2 rfl h) ((Kn.old hA8).at_ 2 rfl h) hs) (fun x6 a6 c6 a6' c6' hK6 hN6 hK6' hN6' => ?_)
 refine jv 2 z46 rfl ?_; refine yB ?_; refine ze ?_; refine r_fin (.inl rfl) rfl (.agg rfl rfl z46 (fun _ h => h.at_ 2 rfl) rfl .nil) ?_; exact fun w' hw => ⟨_, _, _, _, rfl, (hK6.at_ 0 rfl hw), (hK6'.at_ 0 rfl hw), (hN6 _ zm2), (hN6' _ zm2), hw.fr (w, No) zm3⟩
theorem makeC_no (s : Bool) {a : Option Addr} {k c n : Nat} {a8 : Option Addr} {k8 c8 m : Nat} (w : World) (hA : Nm w a k c n) (hA8 : Nm w a8 k8 c8 m) (pn pd : Nat) (hpn : w.heap[pn]? = some (cel [.bool s, .slice a k c] 44)) (hpd : w.heap[pd]? = some (cel [.bool false, .slice a8 k8 c8] 44)) (hs : k ≤ 1000000 ∧ k8 ≤ 1000000 ∧ sz n ≤ 2000 ∧ m = 0) :
  RetP Tryz.prog 115 #[pX pn, pX pd] w (fun _ _ => False) (fun ch w' => ch = panE 2 ∧ Ext w w') := by
 have hm0 : sz m = 0 := sz_eq_zero.2 hs.2.2.2
 refine enterP (S := No) (l := [_, _]) (L := []) 27 Tryz.func115 rfl rfl rfl (St.start w No) ?_; refine yA ?_; refine zA zr46 (fun r gr ur => ?_)
 refine yC ?_; refine zY z44 rfl (fun w h => h.old hpn zm0 (fun x => x)) rfl ?_; refine w_tel (fun w => zR Tryz.func84 rfl rfl rfl) rfl rfl (fun w h => zNorm_ok _ w ((Kn.old hA).at_ 0 rfl h) ⟨by omega, by omega⟩) (fun x2 a2 c2 hK2 hN2 => ?_)
 refine zm rfl ?_; refine jx rfl rfl ?_; refine jx rfl rfl ?_; refine zA zr44 (fun ib gib uib => ?_)
 refine jv 0 z44 rfl ?_; refine aI rfl ?_; refine yC ?_; refine zY z44 rfl (fun w h => h.old hpd zm1 (fun x => x)) rfl ?_; refine w_tel (fun w => zR Tryz.func84 rfl rfl rfl) rfl rfl (fun w h => zNorm_ok _ w ((Kn.old hA8).at_ 1 rfl h) ⟨by omega, by omega⟩) (fun x4 a4 c4 hK4 hN4 => ?_)
 refine zm rfl ?_; refine jx rfl rfl ?_; refine jx rfl rfl ?_; refine zA zr44 (fun jb gjb ujb => ?_)
 refine jv 0 z44 rfl ?_; refine aI rfl ?_; refine yB ?_; refine zq ?_; refine yA ?_; refine mI rfl ?_; refine jn rfl rfl ?_; refine mB rfl ?_; refine zw rfl rfl bE ?_; refine mI rfl ?_; refine zw rfl rfl bE ?_; refine jn rfl rfl ?_; refine jF bE rfl ?_; refine yB ?_; refine zG bE ?_; refine zi ?_; refine zk ?_; refine yA ?_
 refine zY z44 rfl (fun w h => h.old hpn zm2 (fun x => x)) rfl ?_; refine zY z44 rfl (fun w h => h.old hpd zm2 (fun x => x)) rfl ?_; refine w_callP (R := fun _ _ _ => False) (E := fun w ch w' => ch = panE 2 ∧ Ext w w') (fun w => zR Tryz.func116 rfl rfl rfl) rfl rfl (fun w h => ftold_no s w ((Kn.old hA).at_ 2 rfl h) ((Kn.old hA8).at_ 2 rfl h) hs) (fun w hw v w' h => h.elim) (fun w hw ch w' hh a9 ha => by obtain ⟨rfl, hxx⟩ := hh; have hw' := hw.ext hxx; exact p_out ha ⟨rfl, hw'.fr (_, No) zm2⟩)
theorem make_ok (s : Bool) {a : Option Addr} {k c n : Nat} {a8 : Option Addr} {k8 c8 m : Nat} (w : World) (hA : Nm w a k c n) (hA8 : Nm w a8 k8 c8 m) (hs : k ≤ 1000000 ∧ k8 ≤ 1000000 ∧ sz n ≤ 2000 ∧ sz m ≤ 2000 ∧ m ≠ 0) :
  Ret Tryz.prog 72 #[.agg #[.bool s, .slice a k c], .agg #[.bool false, .slice a8 k8 c8]] w (Tel2 (fun a c a2 c2 => .tuple #[.agg #[.bool (ng (mkR s n m).1), .slice a (sz (mkR s n m).1.natAbs) c, .slice a2 (sz (mkR s n m).2) c2], .int .i64 0]) (sz (mkR s n m).1.natAbs) (mkR s n m).1.natAbs (sz (mkR s n m).2) (mkR s n m).2 w) := by
 refine enter (S := No) (l := [_, _]) (L := []) 10 Tryz.func72 rfl rfl rfl (St.start w No) ?_; refine yA ?_; refine w_boxA rfl (fun pn gpn upn => ?_)
 refine w_boxA rfl (fun pd gpd upd => ?_)
 refine zA zr46 (fun r gr ur => ?_)
 refine aI rfl ?_; refine yC ?_; refine zg (fun _ => R_makeFunc) ?_; refine w_tel2 (fun w => zR Tryz.func114 rfl rfl rfl) rfl rfl (fun w h => faceF_ok _ _ _ Tryz.func115 rfl rfl [pX pn, pX pd] _ _ _ _ _ w (fun w1 hx => makeC_ok s w1 (((Kn.old hA).at_ 0 rfl h).ext hx) (((Kn.old hA8).at_ 0 rfl h).ext hx) pn pd (hx.get (h.at_ 2 rfl) (fun x => x)) (hx.get (h.at_ 1 rfl) (fun x => x)) hs)) (fun x4 a4 c4 a4' c4' hK4 hN4 hK4' hN4' => ?_)
 refine jx rfl rfl ?_; refine jx rfl rfl ?_; refine jv 0 z46 rfl ?_; refine aI rfl ?_; refine yB ?_; refine ze ?_; refine r_fin (.inl rfl) rfl (.agg rfl rfl z46 (fun _ h => h.at_ 0 rfl) rfl (.tmp rfl rfl .nil)) ?_; exact fun w' hw => ⟨_, _, _, _, rfl, (hK4.at_ 0 rfl hw), (hK4'.at_ 0 rfl hw), (hN4 _ zm0), (hN4' _ zm0), hw.fr (w, No) zm1⟩
theorem make_no (s : Bool) {a : Option Addr} {k c n : Nat} {a8 : Option Addr} {k8 c8 m : Nat} (w : World) (hA : Nm w a k c n) (hA8 : Nm w a8 k8 c8 m) (hs : k ≤ 1000000 ∧ k8 ≤ 1000000 ∧ sz n ≤ 2000 ∧ m = 0) :
  Ret Tryz.prog 72 #[.agg #[.bool s, .slice a k c], .agg #[.bool false, .slice a8 k8 c8]] w (fun v w' => v = .tuple #[.agg #[.bool false, .slice none 0 0, .slice none 0 0], .int .i64 2] ∧ Ext w w') := by
 refine enter (S := No) (l := [_, _]) (L := []) 10 Tryz.func72 rfl rfl rfl (St.start w No) ?_; refine yA ?_; refine w_boxA rfl (fun pn gpn upn => ?_)
 refine w_boxA rfl (fun pd gpd upd => ?_)
 refine zA zr46 (fun r gr ur => ?_)
 refine aI rfl ?_; refine yC ?_; refine zg (fun _ => R_makeFunc) ?_; refine jD Tryz.func114 (fun w h => faceF_no _ _ _ Tryz.func115 rfl rfl [pX pn, pX pd] 2 w (fun w1 hx => makeC_no s w1 (((Kn.old hA).at_ 0 rfl h).ext hx) (((Kn.old hA8).at_ 0 rfl h).ext hx) pn pd (hx.get (h.at_ 2 rfl) (fun x => x)) (hx.get (h.at_ 1 rfl) (fun x => x)) hs)) ?_; refine jx rfl rfl ?_; refine jx rfl rfl ?_; refine jv 0 z46 rfl ?_; refine aI rfl ?_; refine yB ?_; refine ze ?_; refine r_fin (.inl rfl) rfl (.agg rfl rfl z46 (fun _ h => h.at_ 0 rfl) rfl (.tmp rfl rfl .nil)) ?_
 exact fun w' hw => ⟨rfl, hw.fr (w, No) zm0⟩
theorem fNorm_ok (s : Bool) {a : Option Addr} {k c n : Nat} {a8 : Option Addr} {k8 c8 m : Nat} (w : World) (hA : Nm w a k c n) (hA8 : Nm w a8 k8 c8 m) (hs : k ≤ 1000000 ∧ k8 ≤ 1000000 ∧ sz n ≤ 2000 ∧ sz m ≤ 2000 ∧ m ≠ 0) :
  Ret Tryz.prog 37 #[.agg #[.bool s, .slice a k c, .slice a8 k8 c8]] w (Tel2 (fun a c a2 c2 => .tuple #[.agg #[.bool (ng (mkR s n m).1), .slice a (sz (mkR s n m).1.natAbs) c, .slice a2 (sz (mkR s n m).2) c2], .int .i64 0]) (sz (mkR s n m).1.natAbs) (mkR s n m).1.natAbs (sz (mkR s n m).2) (mkR s n m).2 w) := by
 refine enter (S := No) (l := [_]) (L := []) 12 Tryz.func37 rfl rfl rfl (St.start w No) ?_; refine yA ?_; refine w_boxA rfl (fun p gp up => ?_)
 refine zA zr46 (fun r gr ur => ?_)
 refine aI rfl ?_; refine yB ?_; refine zq ?_; refine c_heldI [1] mixed ?_; refine zh2 0 rfl rfl (pk [1]) (fun w h => R_fa fa46_0 rfl) ?_; refine h_loadA 1 rfl (by kernel_rfl) (pk [1]) z44 rfl (fun _ h => h.at_ 0 rfl) rfl ?_; refine zh2 2 rfl rfl (pk [1]) (fun w h => R_fa fa46_1 rfl) ?_; refine zh (v := .slice _ _ _) 3 rfl (by kernel_rfl) rfl rfl (pk [1]) (fun w h => R_ld1 z42 rfl (zc 0 rfl rfl h)) ?_; refine zH2 4 (pk [1]) ?_; refine o_pureW rfl (wn_none rfl) rfl (fun w => zR Tryz.func54 rfl rfl rfl) (fun w h => whole_ok _ _ _ w) ?_; refine zH2 5 (pk [1]) ?_
 refine o_tel2 rfl (wn_none rfl) rfl (fun w => zR Tryz.func72 rfl rfl rfl) (fun w h => make_ok s w ((Kn.old hA).at_ 0 rfl h) ((Kn.old hA8).at_ 0 rfl h) hs) (fun x3 a3 c3 a3' c3' hK3 hN3 hK3' hN3' => ?_)
 refine zh2 6 rfl rfl (fun w h => (h.unbase (fun x hx => .tail _ (hx))).pick [1] (by decide)) (fun w h => R_extract rfl rfl) ?_; refine zh2 7 rfl rfl (fun w h => (h.unbase (fun x hx => .tail _ (hx))).pick [1] (by decide)) (fun w h => R_extract rfl rfl) ?_; refine zH2 8 (fun w h => (h.unbase (fun x hx => .tail _ (hx))).pick [1] (by decide)) ?_; refine zJ 0 rfl rfl z46 rfl rfl rfl rfl rfl rfl rfl ?_; refine zh (v := .int _ _) 9 rfl (by kernel_rfl) rfl rfl (fun w h => (h.unbase (fun x hx => .tail _ (hx))).pick [1] (by decide)) (fun w h => R_assign rfl) ?_; refine zN2 (fun w h => (h.unbase (fun x hx => .tail _ (hx))).pick [1] (by decide)) ?_; refine zk ?_; refine ze ?_; refine r_fin (.inl rfl) rfl (.agg rfl rfl z46 (fun _ h => h.at_ 0 rfl) rfl (.tmp rfl rfl .nil)) ?_
 exact fun w' hw => ⟨_, _, _, _, rfl, (hK3.at_ 0 rfl hw), (hK3'.at_ 0 rfl hw), (hN3 _ zm0), (hN3' _ zm0), hw.fr (w, No) zm1⟩
theorem fNorm_no (s : Bool) {a : Option Addr} {k c n : Nat} {a8 : Option Addr} {k8 c8 m : Nat} (w : World) (hA : Nm w a k c n) (hA8 : Nm w a8 k8 c8 m) (hs : k ≤ 1000000 ∧ k8 ≤ 1000000 ∧ sz n ≤ 2000 ∧ m = 0) :
  Ret Tryz.prog 37 #[.agg #[.bool s, .slice a k c, .slice a8 k8 c8]] w (fun v w' => v = .tuple #[.agg #[.bool false, .slice none 0 0, .slice none 0 0], .int .i64 2] ∧ Ext w w') := by
 refine enter (S := No) (l := [_]) (L := []) 12 Tryz.func37 rfl rfl rfl (St.start w No) ?_; refine yA ?_; refine w_boxA rfl (fun p gp up => ?_)
 refine zA zr46 (fun r gr ur => ?_)
 refine aI rfl ?_; refine yB ?_; refine zq ?_; refine c_heldI [1] mixed ?_; refine zh2 0 rfl rfl (pk [1]) (fun w h => R_fa fa46_0 rfl) ?_; refine h_loadA 1 rfl (by kernel_rfl) (pk [1]) z44 rfl (fun _ h => h.at_ 0 rfl) rfl ?_; refine zh2 2 rfl rfl (pk [1]) (fun w h => R_fa fa46_1 rfl) ?_; refine zh (v := .slice _ _ _) 3 rfl (by kernel_rfl) rfl rfl (pk [1]) (fun w h => R_ld1 z42 rfl (zc 0 rfl rfl h)) ?_; refine zH2 4 (pk [1]) ?_; refine o_pureW rfl (wn_none rfl) rfl (fun w => zR Tryz.func54 rfl rfl rfl) (fun w h => whole_ok _ _ _ w) ?_; refine zH2 5 (pk [1]) ?_
 refine o_pureW rfl (wn_none rfl) rfl (fun w => zR Tryz.func72 rfl rfl rfl) (fun w h => make_no s w ((Kn.old hA).at_ 0 rfl h) ((Kn.old hA8).at_ 0 rfl h) hs) ?_; refine zh2 6 rfl rfl (pk [1]) (fun w h => R_extract rfl rfl) ?_; refine zh2 7 rfl rfl (pk [1]) (fun w h => R_extract rfl rfl) ?_; refine zH2 8 (pk [1]) ?_; refine zJ 0 rfl rfl z46 rfl rfl rfl rfl rfl rfl rfl ?_; refine zh (v := .int _ _) 9 rfl (by kernel_rfl) rfl rfl (pk [1]) (fun w h => R_assign rfl) ?_; refine zN2 (pk [1]) ?_; refine zk ?_; refine ze ?_; refine r_fin (.inl rfl) rfl (.agg rfl rfl z46 (fun _ h => h.at_ 0 rfl) rfl (.tmp rfl rfl .nil)) ?_
 exact fun w' hw => ⟨rfl, hw.fr (w, No) zm0⟩
theorem fNeg_ok (s : Bool) {a : Option Addr} {k c n : Nat} {a8 : Option Addr} {k8 c8 m : Nat} (w : World) (hA : Nm w a k c n) (hA8 : Nm w a8 k8 c8 m) (hs : k ≤ 1000000 ∧ k8 ≤ 1000000 ∧ sz n ≤ 2000 ∧ sz m ≤ 2000 ∧ m ≠ 0) :
  Ret Tryz.prog 102 #[.agg #[.bool s, .slice a k c, .slice a8 k8 c8]] w (Tel2 (fun a c a2 c2 => .tuple #[.agg #[.bool (ng (mkR (!s) n m).1), .slice a (sz (mkR (!s) n m).1.natAbs) c, .slice a2 (sz (mkR (!s) n m).2) c2], .int .i64 0]) (sz (mkR (!s) n m).1.natAbs) (mkR (!s) n m).1.natAbs (sz (mkR (!s) n m).2) (mkR (!s) n m).2 w) := by
 refine enter (S := No) (l := [_]) (L := []) 14 Tryz.func102 rfl rfl rfl (St.start w No) ?_; refine yA ?_; refine w_boxA rfl (fun p gp up => ?_)
 refine zA zr46 (fun r gr ur => ?_)
 refine aI rfl ?_; refine yC ?_; refine zf fa46_0 rfl ?_; refine zf fa44_0 rfl ?_; refine jM 1 z4 rfl ?_; refine jk rfl ?_; refine zf fa46_0 rfl ?_; refine zf fa44_0 rfl ?_; refine jv 1 z4 rfl ?_; refine yC ?_; refine jy 1 z46 rfl rfl ?_; refine w_tel2 (fun w => zR Tryz.func37 rfl rfl rfl) rfl rfl (fun w h => fNorm_ok (!s) w ((Kn.old hA).at_ 0 rfl h) ((Kn.old hA8).at_ 0 rfl h) hs) (fun x3 a3 c3 a3' c3' hK3 hN3 hK3' hN3' => ?_)
 refine jx rfl rfl ?_; refine jx rfl rfl ?_; refine jv 0 z46 rfl ?_; refine aI rfl ?_; refine yB ?_; refine ze ?_; refine r_fin (.inl rfl) rfl (.agg rfl rfl z46 (fun _ h => h.at_ 0 rfl) rfl (.tmp rfl rfl .nil)) ?_; exact fun w' hw => ⟨_, _, _, _, rfl, (hK3.at_ 0 rfl hw), (hK3'.at_ 0 rfl hw), (hN3 _ zm0), (hN3' _ zm0), hw.fr (w, No) zm1⟩
theorem itoa_len (x : Int) : (Lib.itoa x).length ≤ bl x.natAbs + 2 := by
 unfold Lib.itoa
 have := dec_len x.natAbs
 split
 ·simp only [List.length_cons]; omega
 ·rw [show x.toNat = x.natAbs by omega]; omega
theorem zTextI_ok (x : Int) {a : Option Addr} {c : Nat} (w : World) (hA : Nm w a (sz x.natAbs) c x.natAbs) (hs : sz x.natAbs ≤ 2047) : Ret Tryz.prog 38 #[.agg #[.bool (ng x), .slice a (sz x.natAbs) c]] w fun v w' => v = str (Lib.itoa x) ∧ Ext w w' := by
 have := zText_ok (ng x) w hA ⟨by omega, hs⟩
 rwa [iv_ng] at this
def txtR (x : Rt) : List UInt8 := Lib.itoa x.1 ++ (if x.2 = 1 then [] else 47 :: Lib.decDigits x.2)
theorem mkR_sz (s : Bool) (n m : Nat) : sz (mkR s n m).1.natAbs ≤ sz n ∧ sz (mkR s n m).2 ≤ sz m := by
 rw [← (mkR_parts s n m).2.1, ← (mkR_parts s n m).2.2]
 exact ⟨sz_mono (Nat.div_le_self _ _), sz_mono (Nat.div_le_self _ _)⟩
theorem fText_ok (s : Bool) {a : Option Addr} {k c n : Nat} {a8 : Option Addr} {k8 c8 m : Nat} (w : World) (hA : Nm w a k c n) (hA8 : Nm w a8 k8 c8 m) (hs : k ≤ 1000000 ∧ k8 ≤ 1000000 ∧ sz n ≤ 2000 ∧ sz m ≤ 2000 ∧ m ≠ 0) :
  Ret Tryz.prog 20 #[.agg #[.bool s, .slice a k c, .slice a8 k8 c8]] w (fun v w' => v = str (txtR (mkR s n m)) ∧ Ext w w') := by
 have hxs := mkR_sz s n m
 have hs1 : sz 1 = 1 := rfl
 have hil := itoa_len (mkR s n m).1
 have hbl : bl (mkR s n m).1.natAbs ≤ 64 * 2000 := Nat.le_trans (bl_sz (Nat.le_trans hxs.1 hs.2.2.1)) (by decide)
 have hdl := dec_len (mkR s n m).2
 have hb2 : bl (mkR s n m).2 ≤ 64 * 2000 := Nat.le_trans (bl_sz (Nat.le_trans hxs.2 hs.2.2.2.1)) (by decide)
 refine enter (S := No) (l := [_]) (L := []) 27 Tryz.func20 rfl rfl rfl (St.start w No) ?_; refine yA ?_; refine w_boxA rfl (fun p gp up => ?_)
 refine za (v := str _) rfl ?_; refine yC ?_; refine jy 0 z46 rfl rfl ?_; refine w_tel2 (fun w => zR Tryz.func37 rfl rfl rfl) rfl rfl (fun w h => fNorm_ok s w ((Kn.old hA).at_ 0 rfl h) ((Kn.old hA8).at_ 0 rfl h) hs) (fun x2 a2 c2 a2' c2' hK2 hN2 hK2' hN2' => ?_)
 refine zm rfl ?_; refine jx rfl rfl ?_; refine jx rfl rfl ?_; refine jv 0 z46 rfl ?_; refine aI rfl ?_; refine yB ?_; refine zq ?_; refine yA ?_; refine mI rfl ?_; refine jn rfl rfl ?_; refine yB ?_; refine zG bE ?_; refine zi ?_; refine zk ?_; refine yA ?_; refine zf fa46_0 rfl ?_; refine jy 0 z44 rfl rfl ?_; refine jD Tryz.func38 (fun w h => zTextI_ok _ w (hK2.at_ 0 rfl h) (by omega)) ?_; refine za (v := str _) rfl ?_; refine yB ?_; refine zq ?_; refine zq ?_; refine c_heldS mixed ?_
 refine zh2 0 rfl rfl (fun w h => h) (fun w h => R_fa fa46_1 rfl) ?_; refine zh (v := .slice _ _ _) 1 rfl (by kernel_rfl) rfl rfl (fun w h => h) (fun w h => R_ld1 z42 rfl (zc 0 rfl rfl h)) ?_; refine zH2 2 (fun w h => h) ?_; refine o_tel rfl (wn_none rfl) rfl (fun w => zR Tryz.func56 rfl rfl rfl) (fun w h => Of_ok (s := 1) w (by decide)) (fun x3 a3 c3 hK3 hN3 => ?_)
 refine zH2 3 (fun w h => h.unbase (fun x hx => .tail _ (hx))) ?_; refine o_pureW rfl (wn_none rfl) rfl (fun w => zR Tryz.func55 rfl rfl rfl) (fun w h => Cmp_ok w (hK2'.at_ 1 rfl h) (hK3.at_ 0 rfl h) ⟨by omega, by omega⟩) ?_; refine zh2 4 rfl rfl (fun w h => h.unbase (fun x hx => .tail _ (hx))) (fun w h => R_ne rfl rfl) ?_; refine zN2 (fun w h => h.unbase (fun x hx => .tail _ (hx))) ?_; refine zk ?_; refine zD rfl (fun h4 => ?_) (fun h4 => ?_)
 ·have h1 : (mkR s n m).2 ≠ 1 := fun h => h4 (cmpN_eq.2 h)
  refine zr ?_; refine zm (v := str _) rfl ?_; refine zf fa46_1 rfl ?_; refine jM 0 z42 rfl ?_; refine jD Tryz.func57 (fun w h => Text_ok w (hK2'.at_ 1 rfl h) ⟨by omega, by omega⟩) ?_; refine zg (fun _ => R_cat rfl rfl (by (try simp only [List.length_append, List.length_cons, List.length_nil]); omega)) ?_; refine zg (fun _ => R_cat rfl rfl (by (try simp only [List.length_append, List.length_cons, List.length_nil]); omega)) ?_; refine za (v := str _) rfl ?_; refine yC ?_; refine zm (v := str _) rfl ?_; refine za (v := str _) rfl ?_; refine yB ?_; refine ze ?_; refine zo (v := str _) rfl rfl rfl ?_
  exact fun w' hw => ⟨by unfold txtR; rw [if_neg h1]; simp, hw.fr (w, No) zm2⟩
 ·have h1 : (mkR s n m).2 = 1 := cmpN_eq.1 (Decidable.not_not.1 h4)
  refine zi ?_; refine zk ?_; refine yA ?_; refine zm (v := str _) rfl ?_; refine za (v := str _) rfl ?_; refine yB ?_; refine ze ?_; refine zo (v := str _) rfl rfl rfl ?_; exact fun w' hw => ⟨by unfold txtR; rw [if_pos h1, List.append_nil], hw.fr (w, No) zm2⟩
end Go.Proofs.YtikdkendinnalaaGreatDoor
end
section
namespace Go.Proofs.YtikdkendinnalaaGreatDoor
open Go.RowKit Go.Sx
def Tb (w : World) : Prop := ∃ T f, w.heap[2]? = some (.cells (Lib.asciiSpaceTab.map fun z => Value.int .u8 z).toArray T f)
theorem Tb.tab {w : World} (h : Tb w) : Lib.TabIs Tryz.prog w "strings.asciiSpace" .u8 Lib.asciiSpaceTab := by
 obtain ⟨T, f, h⟩ := h
 unfold Lib.TabIs World.var?
 have : Tryz.prog.globalNamed "strings.asciiSpace" = some 2 := by kernel_rfl
 rw [this]
 simp [h]
theorem Tb.of {w : World} (h : Lib.TabIs Tryz.prog w "strings.asciiSpace" .u8 Lib.asciiSpaceTab) : Tb w := by
 unfold Lib.TabIs World.var? at h
 have : Tryz.prog.globalNamed "strings.asciiSpace" = some 2 := by kernel_rfl
 rw [this] at h
 simp only [Option.bind_some] at h
 split at h
 ·rename_i cs T f hh; cases h; exact ⟨T, f, hh⟩
 ·cases h
theorem Tb.fr {S : Nat → Prop} {w w' : World} (h : Tb w) (k : Fr S w w') (hs : ¬ S 2) : Tb w' := by
 obtain ⟨T, f, h⟩ := h
 exact ⟨T, f, k.get h hs⟩
theorem Tb.lt {w : World} (h : Tb w) : 2 < w.heap.size := by
 obtain ⟨T, f, h⟩ := h
 exact lt_of_blk h
theorem IndexByte_spec (s : List UInt8) (c : Int) (w : World) : Ret Tryz.prog 141 #[str s, .int .u8 c] w fun v w' => v = .int .i64 (Lib.indexByte s c.toNat.toUInt8) ∧ Ext w w' :=
 Calls.mono (Tryz.strings_IndexByte ⟨s.toArray⟩ c w) fun e w' ⟨h1, h2⟩ => ⟨_, h1, by simp, by rw [h2]; exact Fr.refl _ _⟩
theorem u8_back (b : UInt8) : ((b.toNat : Nat) : Int).toNat.toUInt8 = b := by simp
theorem IndexByte_at (s : List UInt8) (b : UInt8) (w : World) : Ret Tryz.prog 141 #[str s, .int .u8 (b.toNat : Nat)] w fun v w' => v = .int .i64 (Lib.indexByte s b) ∧ Ext w w' := by
 have := IndexByte_spec s (b.toNat : Nat) w
 rwa [u8_back] at this
theorem HasPrefix_spec (s p : List UInt8) (w : World) : Ret Tryz.prog 140 #[str s, str p] w fun v w' => v = .bool (p.isPrefixOf s) ∧ Ext w w' :=
 Calls.mono (Tryz.strings_HasPrefix ⟨s.toArray⟩ ⟨p.toArray⟩ w) fun e w' ⟨h1, h2⟩ => ⟨_, h1, by simp [Lib.hasPrefix], by rw [h2]; exact Fr.refl _ _⟩
theorem Fields_spec (s : List UInt8) (w : World) (hs : s.length < 4294967281) (ha : ∀ (j : Nat) b, s[j]? = some b → b.toNat < 128) (ht : Tb w) : Ret Tryz.prog 139 #[str s] w fun v w' =>
  v = .slice (some ⟨w.heap.size, 0, none⟩) (Lib.fields s).length (Lib.fields s).length ∧ w' = w.alloc (cel ((Lib.fields s).map str) 9) :=
 Calls.mono (Tryz.strings_Fields ⟨s.toArray⟩ w hs (by simpa using ha) ht.tab) fun e w' ⟨h1, h2⟩ => ⟨_, h1, by simp, by simpa using h2⟩
end Go.Proofs.YtikdkendinnalaaGreatDoor
end
section
namespace Go.Proofs.YtikdkendinnalaaGreatDoor
open Go.RowKit Go.Sx
open Go.Tok
theorem Fields_signs (x : List UInt8) (hx : x = signsT) (w : World) (ht : Tb w) : Ret Tryz.prog 139 #[str x] w fun v w' =>
  v = .slice (some ⟨w.heap.size, 0, none⟩) 22 22 ∧ w' = w.alloc (cel (signsL.map str) 9) := by
 subst hx
 have := Fields_spec signsT w (by decide) signs_ascii ht
 rw [signs_fields] at this
 exact this
theorem sig_at {k : Nat} (h : k < 22) : (signsL.map str)[0 + k * 1]? = some (str (signsL.getD k [])) := by
 have : k < signsL.length := h
 simp [this]
theorem is_spec (p : Nat) (s so : List UInt8) (q : UInt8 → Bool) (hq : so.contains = q) (j on : Nat) (w : World) (hp : w.heap[p]? = some (cel [str s, .int .i64 (j : Nat)] 105)) (hs : s.length ≤ 10000000) (hj : j ≤ 10000000) (h1 : on ≤ 10) :
  Ret Tryz.prog 137 #[pX p, str so, .int .i64 (on : Nat)] w (fun v w' => v = .bool (atP q s (j + on)) ∧ Ext w w') := by
 refine enter (S := No) (l := [_, _, _]) (L := []) 35 Tryz.func137 rfl rfl rfl (St.start w No) ?_; refine yA ?_; refine aB rfl ?_; refine yB ?_; refine zq ?_; refine c_draw mixed (by kernel_rfl) ?_; refine mP rfl ?_; refine zI rfl ?_; refine zf fa105_1 rfl ?_; refine zl z3 rfl (fun _ h => cel_oldb hp zm0 id rfl h) ?_; refine mI rfl ?_; refine ji rfl rfl (by omega) ?_; refine mP rfl ?_; refine zI rfl ?_; refine zf fa105_0 rfl ?_; refine zl z9 rfl (fun _ h => cel_oldb hp zm0 id rfl h) ?_; refine zg (fun _ => R_slen st9 rfl (by omega)) ?_; refine jl rfl rfl ?_; refine mB rfl ?_; refine zd (t := 19) rfl (fun h1 => ?_) (fun h1 => ?_)
 ·refine zw rfl rfl (bT h1) ?_; refine zm (v := str _) rfl ?_; refine zw rfl rfl (bT h1) ?_; refine mP rfl ?_; refine zw rfl rfl (bT h1) ?_; refine zI rfl ?_; refine zw rfl rfl (bT h1) ?_; refine zf fa105_0 rfl ?_; refine zw rfl rfl (bT h1) ?_; refine zl z9 rfl (fun _ h => cel_oldb hp zm0 id rfl h) ?_; refine zw rfl rfl (bT h1) ?_; refine mP rfl ?_; refine zw rfl rfl (bT h1) ?_; refine zI rfl ?_; refine zw rfl rfl (bT h1) ?_; refine zf fa105_1 rfl ?_; refine zw rfl rfl (bT h1) ?_; refine zl z3 rfl (fun _ h => cel_oldb hp zm0 id rfl h) ?_; refine zw rfl rfl (bT h1) ?_; refine mI rfl ?_; refine zw rfl rfl (bT h1) ?_; refine ji rfl rfl (by omega) ?_; refine zw rfl rfl (bT h1) ?_
  refine w_sidx st9 rfl rfl (by omega) ?_; refine zw rfl rfl (bT h1) ?_; refine jD Tryz.func141 (fun w h => IndexByte_at _ _ w) ?_; refine zw rfl rfl (bT h1) ?_; refine jh rfl rfl ?_; refine jT (bT h1) rfl ?_; refine aB rfl ?_; refine yB ?_; refine ze ?_; refine zo (v := .bool _) rfl rfl rfl ?_; exact fun w' hw => ⟨by subst hq; rw [atP_in (by omega), ← index_contains], hw.f0⟩
 ·refine zs rfl rfl (bF h1) ?_; refine zs rfl rfl (bF h1) ?_; refine zs rfl rfl (bF h1) ?_; refine zs rfl rfl (bF h1) ?_; refine zs rfl rfl (bF h1) ?_; refine zs rfl rfl (bF h1) ?_; refine zs rfl rfl (bF h1) ?_; refine zs rfl rfl (bF h1) ?_; refine zs rfl rfl (bF h1) ?_; refine zs rfl rfl (bF h1) ?_; refine zs rfl rfl (bF h1) ?_; refine zs rfl rfl (bF h1) ?_; refine zs rfl rfl (bF h1) ?_; refine zs rfl rfl (bF h1) ?_; refine jF (bF h1) rfl ?_; refine aB rfl ?_; refine yB ?_; refine ze ?_; refine zo (v := .bool _) rfl rfl rfl ?_; exact fun w' hw => ⟨by rw [atP_out (by omega)], hw.f0⟩
theorem run_spec (p : Nat) (s so : List UInt8) (q : UInt8 → Bool) (hq : so.contains = q) (j : Nat) (w : World) (hp : w.heap[p]? = some (cel [str s, .int .i64 (j : Nat)] 105)) (hs : s.length ≤ 10000000) (hj : j ≤ s.length) :
  Ret Tryz.prog 138 #[pX p, str so] w (fun v w' => v = .int .i64 (runTo q s j - j : Nat) ∧ Fr (fun i => i = p) w w' ∧ w'.heap[p]? = some (cel [str s, .int .i64 (runTo q s j : Nat)] 105)) := by
 refine enter (S := (fun i => i = p)) (l := [_, _]) (L := [(p, cel [str s, .int .i64 (j : Nat)] 105)]) 26 Tryz.func138 rfl rfl rfl (St.start1 w hp rfl) ?_; refine yA ?_; refine aI rfl ?_; refine yC ?_; refine mP rfl ?_; refine zI rfl ?_; refine zf fa105_1 rfl ?_; refine jM 0 z3 rfl ?_; refine aI rfl ?_; refine yB ?_; refine zq ?_; refine zB ?_; refine c_loop (fun m e B L => ∃ (k : Nat), e 0 = pX p ∧ e 1 = str so ∧ e 5 = .int .i64 (j : Nat) ∧ B = [(w, (fun i => i = p))] ∧ L = [(p, cel [str s, .int .i64 (k : Nat)] 105)] ∧ j ≤ k ∧ k ≤ s.length ∧ runTo q s k = runTo q s j ∧ m = s.length - k) _ ⟨j, rfl, rfl, rfl, rfl, rfl, by omega, by omega, rfl, rfl⟩ ?_
 rintro m e B L ⟨k, e0_1, e1_1, e5_1, rfl, rfl, p0_1, p1_1, p2_1, rfl⟩
 refine zq ?_; refine yA ?_; refine mP e0_1 ?_; refine zm (v := str _) e1_1 ?_; refine jD Tryz.func137 (fun w h => is_spec p s _ _ hq _ 0 w (h.at_ 0 rfl) hs (by omega) (by decide)) ?_; refine yB ?_; refine c_cond rfl (fun h1 => ?_) (fun h1 => ?_)
 ·replace h1 : atP q s k = true := h1; have h2 := atP_lt h1
  refine zi ?_; refine zk ?_; refine zB ?_; refine zr ?_; refine mP e0_1 ?_; refine zI rfl ?_; refine zf fa105_1 rfl ?_; refine jM 0 z3 rfl ?_; refine ji rfl rfl (by omega) ?_; refine zI rfl ?_; refine zf fa105_1 rfl ?_; refine jv 0 z3 rfl ?_; refine zn ?_; refine zO (?_)
  exact k_again _ (by omega) ⟨k + 1, e0_1, e1_1, e5_1, rfl, rfl, by omega, by omega, by rw [← p2_1, runTo_step h1], rfl⟩
 ·refine zX ?_; refine zx (zx (b_here rfl (zk ?_))); refine yA ?_; refine mP e0_1 ?_; refine zI rfl ?_; refine zf fa105_1 rfl ?_; refine jM 0 z3 rfl ?_; refine mI e5_1 ?_; refine zg (fun _ => R_subi rfl rfl (by omega)) ?_; refine aI rfl ?_; refine yB ?_; refine ze ?_
  replace h1 : atP q s k = false := h1
  have h2 : runTo q s j = k := by rw [← p2_1, runTo_stop h1]
  rw [h2]
  refine zo (v := .int _ _) rfl rfl rfl ?_; exact fun w' hw => ⟨by congr 1; omega, hw.f0, hw.at_ 0 rfl⟩
theorem skip_spec (p : Nat) (s : List UInt8) (j : Nat) (w : World) (hp : w.heap[p]? = some (cel [str s, .int .i64 (j : Nat)] 105)) (hs : s.length ≤ 10000000) (hj : j ≤ s.length) :
  Ret Tryz.prog 99 #[pX p] w (fun v w' => v = .tuple #[] ∧ Fr (fun i => i = p) w w' ∧ w'.heap[p]? = some (cel [str s, .int .i64 (skipTo s j : Nat)] 105)) := by
 refine enter (S := (fun i => i = p)) (l := [_]) (L := [(p, cel [str s, .int .i64 (j : Nat)] 105)]) 46 Tryz.func99 rfl rfl rfl (St.start1 w hp rfl) ?_; refine zB ?_; refine c_loop (fun m e B L => ∃ (k : Nat), e 0 = pX p ∧ B = [(w, (fun i => i = p))] ∧ L = [(p, cel [str s, .int .i64 (k : Nat)] 105)] ∧ k ≤ s.length ∧ skipTo s k = skipTo s j ∧ m = s.length - k) _ ⟨j, rfl, rfl, rfl, by omega, rfl, rfl⟩ ?_
 rintro m e B L ⟨k, e0_1, rfl, rfl, p0_1, p1_1, rfl⟩
 have r0 := Lib.indexByte_ge (s.drop (runTo blankB s k)) 10
 have r6 := runTo_le (p := notNl) (runTo_le (p := blankB) p0_1)
 have r7 := index_run s _ (runTo_le (p := blankB) p0_1)
 have r1 := runTo_ge blankB s k
 have r2 := runTo_le (p := blankB) p0_1
 refine zB ?_; refine yA ?_; refine mP e0_1 ?_; refine w_call1 0 rfl (fun w => zR Tryz.func138 rfl rfl rfl) rfl rfl (fun w h => run_spec p s _ _ con_blanks _ w (h.at_ 0 rfl) hs (by omega)) ?_; refine yB ?_; refine zq ?_; refine zq ?_; refine c_draw mixed (by kernel_rfl) ?_; refine mP e0_1 ?_; refine zI rfl ?_; refine zf fa105_0 rfl ?_; refine jM 0 z9 rfl ?_; refine mP e0_1 ?_; refine zI rfl ?_; refine zf fa105_1 rfl ?_; refine jM 0 z3 rfl ?_; refine zg (fun _ => R_ssl_loN st9 rfl rfl (by omega)) ?_; refine jD Tryz.func140 (fun w h => HasPrefix_spec _ _ w) ?_; refine jk rfl ?_; refine yB ?_
 refine c_condN rfl (fun h1 => ?_) (fun h1 => ?_)
 ·rw [prefix_cmt] at h1
  refine ze ?_; refine zt (zb (zt (zb (?_))))
  refine r_none (.inl rfl) rfl ?_; exact fun w' hw => ⟨rfl, hw.f0, by have := hw.at_ 0 rfl; rw [← p1_1, skipTo_eq p0_1, if_neg (by simp [h1])]; exact this⟩
 ·rw [prefix_cmt] at h1
  refine zi ?_; refine zk ?_; refine zq ?_; refine c_draw mixed (by kernel_rfl) ?_; refine mP e0_1 ?_; refine zI rfl ?_; refine zf fa105_0 rfl ?_; refine jM 0 z9 rfl ?_; refine mP e0_1 ?_; refine zI rfl ?_; refine zf fa105_1 rfl ?_; refine jM 0 z3 rfl ?_; refine zg (fun _ => R_ssl_loN st9 rfl rfl (by omega)) ?_; refine jD Tryz.func141 (fun w h => IndexByte_at _ 10 w) ?_; refine aI rfl ?_; refine yB ?_; refine zq ?_; refine yA ?_; refine mI rfl ?_; refine jl rfl rfl ?_; refine yB ?_; refine zD rfl (fun h2 => ?_) (fun h2 => ?_)
  ·first | rw [if_pos h2] at r7 | rw [if_neg h2] at r7
   refine c_draw mixed (by kernel_rfl) ?_; refine mP e0_1 ?_; refine zI rfl ?_; refine zf fa105_0 rfl ?_; refine jM 0 z9 rfl ?_; refine zg (fun _ => R_slen st9 rfl (by omega)) ?_; refine mP e0_1 ?_; refine zI rfl ?_; refine zf fa105_1 rfl ?_; refine jM 0 z3 rfl ?_; refine zg (fun _ => R_subi rfl rfl (by omega)) ?_; refine aI rfl ?_; refine yB ?_; refine zr ?_; refine mP e0_1 ?_; refine zI rfl ?_; refine zf fa105_1 rfl ?_; refine jM 0 z3 rfl ?_; refine mI rfl ?_; refine ji rfl rfl (by omega) ?_
   refine zI rfl ?_; refine zf fa105_1 rfl ?_; refine jv 0 z3 rfl ?_; refine zn ?_; refine zO (?_)
   have r3 := cmt_run h1
   have r4 := r7
   exact k_again _ (by omega) ⟨s.length, (by first | rfl | assumption), (by first | rfl | assumption), congrArg (fun x : Int => [(p, cel [str s, .int .i64 x] 105)]) (by omega), by omega, by rw [← p1_1, skipTo_eq p0_1, if_pos h1, r4], rfl⟩
  ·first | rw [if_pos h2] at r7 | rw [if_neg h2] at r7
   refine zi ?_; refine zk ?_; refine zr ?_; refine mP e0_1 ?_; refine zI rfl ?_; refine zf fa105_1 rfl ?_; refine jM 0 z3 rfl ?_; refine mI rfl ?_; refine ji rfl rfl (by omega) ?_; refine zI rfl ?_; refine zf fa105_1 rfl ?_; refine jv 0 z3 rfl ?_; refine zn ?_; refine zO (?_)
   have r3 := cmt_run h1
   have r4 := r7
   exact k_again _ (by omega) ⟨runTo notNl s (runTo blankB s k), (by first | rfl | assumption), (by first | rfl | assumption), congrArg (fun x : Int => [(p, cel [str s, .int .i64 x] 105)]) (by omega), by omega, by rw [← p1_1, skipTo_eq p0_1, if_pos h1], rfl⟩
theorem name_spec (p : Nat) (s : List UInt8) (j : Nat) (w : World) (hp : w.heap[p]? = some (cel [str s, .int .i64 (j : Nat)] 105)) (hs : s.length ≤ 10000000) (hj : j ≤ s.length) :
  Ret Tryz.prog 96 #[pX p] w (fun v w' => v = .tuple #[.int .u8 (if nameB s j then 1 else 0), .bool (nameB s j)] ∧ Fr (fun i => i = p) w w' ∧ w'.heap[p]? = some (cel [str s, .int .i64 (if nameB s j then runTo wordB s j else j : Nat)] 105)) := by
 refine enter (S := (fun i => i = p)) (l := [_]) (L := [(p, cel [str s, .int .i64 (j : Nat)] 105)]) 13 Tryz.func96 rfl rfl rfl (St.start1 w hp rfl) ?_; refine yA ?_; refine aI rfl ?_; refine aB rfl ?_; refine yB ?_; refine zq ?_; refine yA ?_; refine mP rfl ?_; refine jD Tryz.func137 (fun w h => is_spec p s _ _ (con_one 95) _ 0 w (h.at_ 0 rfl) hs (by omega) (by decide)) ?_; refine mB rfl ?_; refine zp (t := 6) rfl (fun h1 => ?_) (fun h1 => ?_)
 ·refine zs rfl rfl (bV h1) ?_; refine zs rfl rfl (bV h1) ?_; refine zs rfl rfl (bV h1) ?_; refine jT (bV h1) rfl ?_; refine yB ?_; refine zE rfl ?_; refine yA ?_; refine aI rfl ?_; refine aB rfl ?_; refine yB ?_; refine ze ?_; refine zt (?_)
  have h0 : nameB s j = false := by simp only [nameB]; rw [show atP (eqB 95) s j = true from h1]; simp
  rw [h0]
  refine r_two (v := .int _ _) (v2 := .bool _) rfl rfl rfl rfl rfl ?_; exact fun w' hw => ⟨rfl, hw.f0, hw.at_ 0 rfl⟩
 ·refine zw rfl rfl (bV h1) ?_; refine mP rfl ?_; refine zw rfl rfl (bV h1) ?_; refine jD Tryz.func137 (fun w h => is_spec p s _ _ con_letters _ 0 w (h.at_ 0 rfl) hs (by omega) (by decide)) ?_; refine zw rfl rfl (bV h1) ?_; refine jk rfl ?_; refine jF (bV h1) rfl ?_; refine yB ?_; refine c_condN rfl (fun h2 => ?_) (fun h2 => ?_)
  ·refine yA ?_; refine aI rfl ?_; refine aB rfl ?_; refine yB ?_; refine ze ?_; refine zt (?_)
   have h0 : nameB s j = false := by simp only [nameB]; rw [show atP letterB s j = false from h2]; rfl
   rw [h0]
   refine r_two (v := .int _ _) (v2 := .bool _) rfl rfl rfl rfl rfl ?_; exact fun w' hw => ⟨rfl, hw.f0, hw.at_ 0 rfl⟩
  ·refine zi ?_; refine zk ?_; refine yA ?_; refine mP rfl ?_; refine w_call1 0 rfl (fun w => zR Tryz.func138 rfl rfl rfl) rfl rfl (fun w h => run_spec p s _ _ con_words _ w (h.at_ 0 rfl) hs (by omega)) ?_; refine yC ?_; refine aI rfl ?_; refine aB rfl ?_; refine yB ?_; refine ze ?_
   have h0 : nameB s j = true := by simp only [nameB]; rw [show atP (eqB 95) s j = false from h1, show atP letterB s j = true from h2]; rfl
   rw [h0]
   refine r_two (v := .int _ _) (v2 := .bool _) rfl rfl rfl rfl rfl ?_; exact fun w' hw => ⟨rfl, hw.f0, hw.at_ 0 rfl⟩
theorem number_spec (p : Nat) (s : List UInt8) (j : Nat) (w : World) (hp : w.heap[p]? = some (cel [str s, .int .i64 (j : Nat)] 105)) (hs : s.length ≤ 10000000) (hj : j ≤ s.length) :
  Ret Tryz.prog 97 #[pX p] w (fun v w' => v = .tuple #[.int .u8 (if atP digitB s j then 2 else 0), .bool (if atP digitB s j then numFine s j else false)] ∧ Fr (fun i => i = p) w w' ∧ w'.heap[p]? = some (cel [str s, .int .i64 (if atP digitB s j then numEnd s j else j : Nat)] 105)) := by
 have g1 := runTo_le (p := digitB) hj
 have g2 := runTo_ge digitB s j
 refine enter (S := (fun i => i = p)) (l := [_]) (L := [(p, cel [str s, .int .i64 (j : Nat)] 105)]) 66 Tryz.func97 rfl rfl rfl (St.start1 w hp rfl) ?_; refine yA ?_; refine aI rfl ?_; refine aB rfl ?_; refine yB ?_; refine zq ?_; refine yA ?_; refine mP rfl ?_; refine w_call1 0 rfl (fun w => zR Tryz.func138 rfl rfl rfl) rfl rfl (fun w h => run_spec p s _ _ con_digits _ w (h.at_ 0 rfl) hs (by omega)) ?_; refine je rfl rfl ?_; refine yB ?_; refine zD rfl (fun h1 => ?_) (fun h1 => ?_)
 ·(try simp only [Nat.add_zero] at h1); (try have qh1 := atP_lt h1)
  have g0 := run_zero digitB s j
  refine yA ?_; refine aI rfl ?_; refine aB rfl ?_; refine yB ?_; refine ze ?_; refine zt (?_)
  have g5 : atP digitB s j = false := by rw [← g0]; omega
  rw [g5]
  refine r_two (v := .int _ _) (v2 := .bool _) rfl rfl rfl rfl rfl ?_; exact fun w' hw => ⟨rfl, hw.f0, by have := hw.at_ 0 rfl; rw [runTo_stop g5] at this; exact this⟩
 ·(try simp only [Nat.add_zero] at h1)
  have g0 := run_zero digitB s j
  refine zi ?_; refine zk ?_; refine c_cut (fun e B L => e 0 = pX p ∧ B = [(w, (fun i => i = p))] ∧ L = [(p, cel [str s, .int .i64 (numDot s (runTo digitB s j) : Nat)] 105)]) ?_ ?_
  ·(try simp only [Nat.add_zero] at mid1); (try have qmid1 := atP_lt mid1)
   refine yA ?_; refine mP rfl ?_; refine jD Tryz.func137 (fun w h => is_spec p s _ _ (con_one 46) _ 0 w (h.at_ 0 rfl) hs (by omega) (by decide)) ?_; refine mB rfl ?_; refine zp (t := 10) rfl (fun h2 => ?_) (fun h2 => ?_)
   ·(try simp only [Nat.add_zero] at h2); (try have qh2 := atP_lt h2)
    refine zw rfl rfl (bV h2) ?_; refine mP rfl ?_; refine zw rfl rfl (bV h2) ?_; refine jD Tryz.func137 (fun w h => is_spec p s _ _ con_digits _ 1 w (h.at_ 0 rfl) hs (by omega) (by decide)) ?_; refine jT (bV h2) rfl ?_; refine yB ?_; refine c_cond rfl (fun h3 => ?_) (fun h3 => ?_)
    ·(try simp only [Nat.add_zero] at h3); (try have qh3 := atP_lt h3)
     refine yA ?_; refine mP rfl ?_; refine zI rfl ?_; refine zf fa105_1 rfl ?_; refine jM 0 z3 rfl ?_; refine ji rfl rfl (by omega) ?_; refine zI rfl ?_; refine zf fa105_1 rfl ?_; refine jv 0 z3 rfl ?_; refine yB ?_; refine zr ?_; refine mP rfl ?_; refine w_call1 0 rfl (fun w => zR Tryz.func138 rfl rfl rfl) rfl rfl (fun w h => run_spec p s _ _ con_digits ((runTo digitB s j) + 1) w (h.at_ 0 rfl) hs (by omega)) ?_; refine zn ?_; exact k_mid ⟨rfl, rfl, by rw [numDot, if_pos (by rw [h2, h3]; rfl)]; rfl⟩
    ·(try simp only [Nat.add_zero] at h3)
     refine zi ?_; exact k_mid ⟨rfl, rfl, by rw [numDot, if_neg (by rw [h2, h3]; simp)]; rfl⟩
   ·(try simp only [Nat.add_zero] at h2)
    refine zs rfl rfl (bV h2) ?_; refine zs rfl rfl (bV h2) ?_; refine jF (bV h2) rfl ?_; refine yB ?_; refine zG rfl ?_; refine zi ?_; exact k_mid ⟨rfl, rfl, by rw [numDot, if_neg (by rw [h2]; simp)]; rfl⟩
  rintro e B L ⟨e0_1, rfl, rfl⟩
  have g3 := numDot_le (runTo_le (p := digitB) hj)
  refine yA ?_; refine aI rfl ?_; refine yB ?_; refine c_cut (fun e B L => e 0 = pX p ∧ e 4 = .int .i64 ((numTens s (numDot s (runTo digitB s j))).1 : Nat) ∧ B = [(w, (fun i => i = p))] ∧ L = [(p, cel [str s, .int .i64 ((numTens s (numDot s (runTo digitB s j))).2 : Nat)] 105)]) ?_ ?_
  ·(try simp only [Nat.add_zero] at mid2); (try have qmid2 := atP_lt mid2)
   refine zB ?_; refine yA ?_; refine mP e0_1 ?_; refine jD Tryz.func137 (fun w h => is_spec p s _ _ (con_one 101) _ 0 w (h.at_ 0 rfl) hs (by omega) (by decide)) ?_; refine mB rfl ?_; refine zp (t := 26) rfl (fun h4 => ?_) (fun h4 => ?_)
   ·(try simp only [Nat.add_zero] at h4); (try have qh4 := atP_lt h4)
    refine zw rfl rfl (bV h4) ?_; refine mP e0_1 ?_; refine zw rfl rfl (bV h4) ?_; refine jD Tryz.func137 (fun w h => is_spec p s _ _ con_digits _ 1 w (h.at_ 0 rfl) hs (by omega) (by decide)) ?_; refine jT (bV h4) rfl ?_; refine aB rfl ?_; refine yB ?_; refine c_cond rfl (fun h5 => ?_) (fun h5 => ?_)
    ·(try simp only [Nat.add_zero] at h5); (try have qh5 := atP_lt h5)
     refine yA ?_; refine mP e0_1 ?_; refine zI rfl ?_; refine zf fa105_1 rfl ?_; refine jM 0 z3 rfl ?_; refine ji rfl rfl (by omega) ?_; refine zI rfl ?_; refine zf fa105_1 rfl ?_; refine jv 0 z3 rfl ?_; refine yB ?_; refine zr ?_; refine mP e0_1 ?_; refine w_call1 0 rfl (fun w => zR Tryz.func138 rfl rfl rfl) rfl rfl (fun w h => run_spec p s _ _ con_digits ((numDot s (runTo digitB s j)) + 1) w (h.at_ 0 rfl) hs (by omega)) ?_; refine aI rfl ?_; refine zn ?_; refine zO (?_)
     have e4 : numTens s (numDot s (runTo digitB s j)) = (runTo digitB s ((numDot s (runTo digitB s j)) + 1) - ((numDot s (runTo digitB s j)) + 1), runTo digitB s ((numDot s (runTo digitB s j)) + 1)) := by rw [numTens, if_pos (by rw [h4, h5]; rfl)]
     exact k_mid ⟨e0_1, by rw [e4]; first | done | rfl, rfl, by rw [e4]; first | done | rfl⟩
    ·(try simp only [Nat.add_zero] at h5)
     refine yA ?_; refine mP e0_1 ?_; refine jD Tryz.func137 (fun w h => is_spec p s _ _ (con_one 101) _ 0 w (h.at_ 0 rfl) hs (by omega) (by decide)) ?_; refine mB rfl ?_; refine zp (t := 42) rfl (fun h6 => ?_) (fun h6 => ?_)
     ·(try simp only [Nat.add_zero] at h6); (try have qh6 := atP_lt h6)
      refine zw rfl rfl (bV h6) ?_; refine mP e0_1 ?_; refine zw rfl rfl (bV h6) ?_; refine jD Tryz.func137 (fun w h => is_spec p s _ _ con_pm _ 1 w (h.at_ 0 rfl) hs (by omega) (by decide)) ?_; refine jT (bV h6) rfl ?_; refine mB rfl ?_; refine zp (t := 46) rfl (fun h7 => ?_) (fun h7 => ?_)
      ·(try simp only [Nat.add_zero] at h7); (try have qh7 := atP_lt h7)
       refine zw rfl rfl (bV h7) ?_; refine mP e0_1 ?_; refine zw rfl rfl (bV h7) ?_; refine jD Tryz.func137 (fun w h => is_spec p s _ _ con_digits _ 2 w (h.at_ 0 rfl) hs (by omega) (by decide)) ?_; refine jT (bV h7) rfl ?_; refine aB rfl ?_; refine yB ?_; refine c_cond rfl (fun h8 => ?_) (fun h8 => ?_)
       ·(try simp only [Nat.add_zero] at h8); (try have qh8 := atP_lt h8)
        refine yA ?_; refine mP e0_1 ?_; refine zI rfl ?_; refine zf fa105_1 rfl ?_; refine jM 0 z3 rfl ?_; refine ji rfl rfl (by omega) ?_; refine zI rfl ?_; refine zf fa105_1 rfl ?_; refine jv 0 z3 rfl ?_; refine yB ?_; refine zr ?_; refine mP e0_1 ?_; refine w_call1 0 rfl (fun w => zR Tryz.func138 rfl rfl rfl) rfl rfl (fun w h => run_spec p s _ _ con_digits ((numDot s (runTo digitB s j)) + 2) w (h.at_ 0 rfl) hs (by omega)) ?_; refine aI rfl ?_; refine zn ?_; refine zO (?_)
        have e4 : numTens s (numDot s (runTo digitB s j)) = (runTo digitB s ((numDot s (runTo digitB s j)) + 2) - ((numDot s (runTo digitB s j)) + 2), runTo digitB s ((numDot s (runTo digitB s j)) + 2)) := by rw [numTens, if_neg (by rw [h4, h5]; simp), if_pos (by rw [h6, h7, h8]; rfl)]
        exact k_mid ⟨e0_1, by rw [e4]; first | done | rfl, rfl, by rw [e4]; first | done | rfl⟩
       ·(try simp only [Nat.add_zero] at h8)
        refine zi ?_; refine zO (?_)
        have e4 : numTens s (numDot s (runTo digitB s j)) = (0, (numDot s (runTo digitB s j))) := by rw [numTens, if_neg (by rw [h4, h5]; simp), if_neg (by rw [h6, h7, h8]; simp)]
        exact k_mid ⟨e0_1, by rw [e4]; first | done | rfl, rfl, by rw [e4]; first | done | rfl⟩
      ·(try simp only [Nat.add_zero] at h7)
       refine zs rfl rfl (bV h7) ?_; refine zs rfl rfl (bV h7) ?_; refine jF (bV h7) rfl ?_; refine aB rfl ?_; refine yB ?_; refine zG rfl ?_; refine zi ?_; refine zO (?_)
       have e4 : numTens s (numDot s (runTo digitB s j)) = (0, (numDot s (runTo digitB s j))) := by rw [numTens, if_neg (by rw [h4, h5]; simp), if_neg (by rw [h6, h7]; simp)]
       exact k_mid ⟨e0_1, by rw [e4]; first | done | rfl, rfl, by rw [e4]; first | done | rfl⟩
     ·(try simp only [Nat.add_zero] at h6)
      refine zs rfl rfl (bV h6) ?_; refine zs rfl rfl (bV h6) ?_; refine jF (bV h6) rfl ?_; refine mB rfl ?_; (iterate 2 refine zs rfl rfl rfl ?_); refine jF rfl rfl ?_; refine aB rfl ?_; refine yB ?_; refine zG rfl ?_; refine zi ?_; refine zO (?_)
      have e4 : numTens s (numDot s (runTo digitB s j)) = (0, (numDot s (runTo digitB s j))) := by rw [numTens, if_neg (by rw [h4, h5]; simp), if_neg (by rw [h6]; simp)]
      exact k_mid ⟨e0_1, by rw [e4]; first | done | rfl, rfl, by rw [e4]; first | done | rfl⟩
   ·(try simp only [Nat.add_zero] at h4)
    refine zs rfl rfl (bV h4) ?_; refine zs rfl rfl (bV h4) ?_; refine jF (bV h4) rfl ?_; refine aB rfl ?_; refine yB ?_; refine zG rfl ?_; refine yA ?_; refine mP e0_1 ?_; refine jD Tryz.func137 (fun w h => is_spec p s _ _ (con_one 101) _ 0 w (h.at_ 0 rfl) hs (by omega) (by decide)) ?_; refine mB rfl ?_; refine zp (t := 42) rfl (fun h9 => ?_) (fun h9 => ?_)
    ·rw [Nat.add_zero] at h9; rw [h4] at h9; cases h9
    ·(try simp only [Nat.add_zero] at h9)
     refine zs rfl rfl (bV h9) ?_; refine zs rfl rfl (bV h9) ?_; refine jF (bV h9) rfl ?_; refine mB rfl ?_; (iterate 2 refine zs rfl rfl rfl ?_); refine jF rfl rfl ?_; refine aB rfl ?_; refine yB ?_; refine zG rfl ?_; refine zi ?_; refine zO (?_)
     have e4 : numTens s (numDot s (runTo digitB s j)) = (0, (numDot s (runTo digitB s j))) := by rw [numTens, if_neg (by rw [h4]; simp), if_neg (by rw [h4]; simp)]
     exact k_mid ⟨e0_1, by rw [e4]; first | done | rfl, rfl, by rw [e4]; first | done | rfl⟩
  rintro e B L ⟨e0_2, e4_2, rfl, rfl⟩
  have g4 := numTens_le g3.1
  refine yA ?_; refine mI e4_2 ?_; refine jm rfl rfl ?_; refine mB rfl ?_; refine zd (t := 61) rfl (fun h10 => ?_) (fun h10 => ?_)
  ·(try simp only [Nat.add_zero] at h10); (try have qh10 := atP_lt h10)
   refine zw rfl rfl (bT h10) ?_; refine mP e0_2 ?_; refine zw rfl rfl (bT h10) ?_; refine jD Tryz.func137 (fun w h => is_spec p s _ _ con_tails _ 0 w (h.at_ 0 rfl) hs (by omega) (by decide)) ?_; refine zw rfl rfl (bT h10) ?_; refine jk rfl ?_; refine jT (bT h10) rfl ?_; refine aI rfl ?_; refine aB rfl ?_; refine yB ?_; refine ze ?_
   have g5 : atP digitB s j = true := by cases hc : atP digitB s j; exact absurd (g0.mpr hc) (by omega); rfl
   have g6 : numFine s j = !atP tailB s (numEnd s j) := by rw [numFine, decide_eq_true (by omega)]; rfl
   rw [g5, if_pos rfl, if_pos rfl, if_pos rfl, g6]
   refine r_two (v := .int _ _) (v2 := .bool _) rfl rfl rfl rfl rfl ?_; exact fun w' hw => ⟨rfl, hw.f0, hw.at_ 0 rfl⟩
  ·(try simp only [Nat.add_zero] at h10)
   refine zs rfl rfl (bF h10) ?_; refine zs rfl rfl (bF h10) ?_; refine zs rfl rfl (bF h10) ?_; refine jF (bF h10) rfl ?_; refine aI rfl ?_; refine aB rfl ?_; refine yB ?_; refine ze ?_
   have g5 : atP digitB s j = true := by cases hc : atP digitB s j; exact absurd (g0.mpr hc) (by omega); rfl
   have g6 : numFine s j = false := by rw [numFine, decide_eq_false (by omega)]; rfl
   rw [g5, if_pos rfl, if_pos rfl, if_pos rfl, g6]
   refine r_two (v := .int _ _) (v2 := .bool _) rfl rfl rfl rfl rfl ?_; exact fun w' hw => ⟨rfl, hw.f0, hw.at_ 0 rfl⟩
theorem sign_spec (p : Nat) (s : List UInt8) (j : Nat) (w : World) (hp : w.heap[p]? = some (cel [str s, .int .i64 (j : Nat)] 105)) (hs : s.length ≤ 10000000) (hj : j ≤ s.length) (ht : Tb w) (hg : 2 < p) :
  Ret Tryz.prog 98 #[pX p] w (fun v w' => v = .tuple #[.int .u8 (if signLen s j = 0 then 0 else 3), .bool (!decide (signLen s j = 0))] ∧ Fr (fun i => i = p) w w' ∧ w'.heap[p]? = some (cel [str s, .int .i64 (j + signLen s j : Nat)] 105)) := by
 refine enter (S := (fun i => i = p)) (l := [_]) (L := [(p, cel [str s, .int .i64 (j : Nat)] 105)]) 33 Tryz.func98 rfl rfl rfl (St.start1 w hp rfl) ?_; refine yA ?_; refine aI rfl ?_; refine aB rfl ?_; refine yB ?_; refine zq ?_; refine yA ?_; refine w_callN (g := fun b => .slice (some ⟨b, 0, none⟩) 22 22) (fun w => zR Tryz.func139 rfl rfl rfl) rfl rfl (fun w h => Fields_signs _ rfl w (ht.fr (h.fr _ zm0) (by intro hh; omega))) (fun fb gfb ufb => ?_)
 refine jj sl81 rfl ?_; refine mI rfl ?_; refine yB ?_; refine zB ?_; refine c_loop (fun m e B L => ∃ (k : Nat), e 0 = pX p ∧ e 6 = .slice (some ⟨fb, 0, none⟩) 22 22 ∧ e 7 = .int .i64 22 ∧ e 8 = .int .i64 (k : Nat) ∧ B = [(w, (fun i => i = p))] ∧ L = [(fb, cel (signsL.map str) 9), (p, cel [str s, .int .i64 (j : Nat)] 105)] ∧ k ≤ 22 ∧ (signsL.take k).find? (fun t => t.isPrefixOf (s.drop j)) = none ∧ m = 22 - k) _ ⟨0, rfl, rfl, rfl, rfl, rfl, rfl, by omega, rfl, rfl⟩ ?_
 rintro m e B L ⟨k, e0_1, e6_1, e7_1, e8_1, rfl, rfl, p0_1, p1_1, rfl⟩
 have r1 := sig_len k
 refine yA ?_; refine jl e8_1 e7_1 ?_; refine yB ?_; refine zq ?_; refine zD rfl (fun h1 => ?_) (fun h1 => ?_)
 ·refine zi ?_; refine zk ?_; refine zq ?_; refine zB ?_; refine yA ?_; refine zg (fun _ => R_iaN (i := k) sl81 e6_1 e8_1 (by first | omega | decide | exact Nat.succ_pos _ | exact Nat.succ_lt_succ (Nat.succ_pos _))) ?_; refine zl z9 rfl (fun _ h => by first | exact zc 0 rfl rfl h | exact zc 1 rfl rfl h | exact zc 0 rfl (sig_at (by omega)) h) ?_; refine za (v := str _) rfl ?_; refine yB ?_; refine zq ?_; refine c_draw mixed (by kernel_rfl) ?_; refine mP e0_1 ?_; refine zI rfl ?_; refine zf fa105_0 rfl ?_; refine jM 1 z9 rfl ?_; refine mP e0_1 ?_; refine zI rfl ?_; refine zf fa105_1 rfl ?_; refine jM 1 z3 rfl ?_
  refine zg (fun _ => R_ssl_loN st9 rfl rfl (by omega)) ?_; refine zm (v := str _) rfl ?_; refine jD Tryz.func140 (fun w h => HasPrefix_spec _ _ w) ?_; refine yB ?_; refine c_cond rfl (fun h2 => ?_) (fun h2 => ?_)
  ·refine yA ?_; refine mP e0_1 ?_; refine zI rfl ?_; refine zf fa105_1 rfl ?_; refine jM 1 z3 rfl ?_; refine zm (v := str _) rfl ?_; refine zg (fun _ => R_slen st9 rfl (by omega)) ?_; refine ji rfl rfl (by omega) ?_; refine zI rfl ?_; refine zf fa105_1 rfl ?_; refine jv 1 z3 rfl ?_; refine yC ?_; refine aI rfl ?_; refine aB rfl ?_; refine yB ?_; refine ze ?_; refine zb (zt (zt (zb (zt (?_)))))
   have r2 := sig_found (by omega) p1_1 h2
   rw [r2]
   refine r_two (v := .int _ _) (v2 := .bool _) rfl rfl rfl rfl rfl ?_; exact fun w' hw => ⟨by rw [if_neg (by have := sig_pos k (by omega); omega), decide_eq_false (by have := sig_pos k (by omega); omega)]; rfl, hw.f0, hw.at_ 1 rfl⟩
  ·refine zi ?_; refine zO (zk ?_); refine zr ?_; refine ji e8_1 rfl (by omega) ?_; refine mI rfl ?_; refine zn ?_; exact k_again _ (by omega) ⟨k + 1, e0_1, e6_1, e7_1, rfl, rfl, rfl, by omega, sig_step (by omega) p1_1 h2, rfl⟩
 ·refine zX ?_; refine zx (zx (b_here rfl (zk ?_))); refine yA ?_; refine aI rfl ?_; refine aB rfl ?_; refine yB ?_; refine ze ?_
  have r2 := sig_none (by omega) p1_1
  rw [r2]
  refine r_two (v := .int _ _) (v2 := .bool _) rfl rfl rfl rfl rfl ?_; exact fun w' hw => ⟨rfl, hw.f0, hw.at_ 1 rfl⟩
end Go.Proofs.YtikdkendinnalaaGreatDoor
end
section
namespace Go.Proofs.YtikdkendinnalaaGreatDoor
open Go.RowKit Go.Sx
open Go.Tok Go.Num Go.Feed
theorem take_ok (p : Nat) (s so : List UInt8) (q : UInt8 → Bool) (hq : so.contains = q) (j : Nat) (w : World) (hp : w.heap[p]? = some (cel [str s, .int .i64 (j : Nat)] 178)) (hs : s.length ≤ 10000) (hj : j ≤ s.length) :
  Ret Tryz.prog 169 #[pX p, str so] w (fun v w' => v = .bool (atP q s j) ∧ Fr (fun i => i = p) w w' ∧ w'.heap[p]? = some (cel [str s, .int .i64 ((if atP q s j = true then j + 1 else j) : Nat)] 178)) := by
 refine enter (S := (fun i => i = p)) (l := [_, _]) (L := [(p, cel [str s, .int .i64 (j : Nat)] 178)]) 36 Tryz.func169 rfl rfl rfl (St.start1 w hp rfl) ?_; refine yA ?_; refine aB rfl ?_; refine yB ?_; refine zq ?_; refine zq ?_; refine c_draw mixed (by kernel_rfl) ?_; refine mP rfl ?_; refine zI rfl ?_; refine zf fa178_1 rfl ?_; refine jM 0 z3 rfl ?_; refine mP rfl ?_; refine zI rfl ?_; refine zf fa178_0 rfl ?_; refine jM 0 z9 rfl ?_; refine zg (fun _ => R_slen st9 rfl (by omega)) ?_; refine jl rfl rfl ?_; refine mB rfl ?_; refine zd (t := 15) rfl (fun h1 => ?_) (fun h1 => ?_)
 ·refine zw rfl rfl (bT h1) ?_; refine zm (v := str _) rfl ?_; refine zw rfl rfl (bT h1) ?_; refine mP rfl ?_; refine zw rfl rfl (bT h1) ?_; refine zI rfl ?_; refine zw rfl rfl (bT h1) ?_; refine zf fa178_0 rfl ?_; refine zw rfl rfl (bT h1) ?_; refine jM 0 z9 rfl ?_; refine zw rfl rfl (bT h1) ?_; refine mP rfl ?_; refine zw rfl rfl (bT h1) ?_; refine zI rfl ?_; refine zw rfl rfl (bT h1) ?_; refine zf fa178_1 rfl ?_; refine zw rfl rfl (bT h1) ?_; refine jM 0 z3 rfl ?_; refine zw rfl rfl (bT h1) ?_; refine w_sidx st9 rfl rfl (by omega) ?_; refine zw rfl rfl (bT h1) ?_; refine jD Tryz.func141 (fun w h => IndexByte_at _ _ w) ?_
  refine zw rfl rfl (bT h1) ?_; refine jh rfl rfl ?_; refine jT (bT h1) rfl ?_; refine yB ?_; refine zD rfl (fun h2 => ?_) (fun h2 => ?_)
  ·refine yA ?_; refine mP rfl ?_; refine zI rfl ?_; refine zf fa178_1 rfl ?_; refine jM 0 z3 rfl ?_; refine ji rfl rfl (by omega) ?_; refine zI rfl ?_; refine zf fa178_1 rfl ?_; refine jv 0 z3 rfl ?_; refine yC ?_; refine aB rfl ?_; refine yB ?_; refine ze ?_; refine zt (?_)
   have ha : atP q s j = true := by subst hq; rw [atP_in (by omega), ← index_contains]; exact decide_eq_true h2
   rw [ha, if_pos rfl]
   refine zo (v := .bool _) rfl rfl rfl ?_; exact fun w' hw => ⟨rfl, hw.f0, hw.at_ 0 rfl⟩
  ·refine zi ?_; refine zk ?_; refine yA ?_; refine aB rfl ?_; refine yB ?_; refine ze ?_
   have ha : atP q s j = false := by subst hq; rw [atP_in (by omega), ← index_contains]; exact decide_eq_false h2
   rw [ha, if_neg (by decide)]
   refine zo (v := .bool _) rfl rfl rfl ?_; exact fun w' hw => ⟨rfl, hw.f0, hw.at_ 0 rfl⟩
 ·refine zs rfl rfl (bF h1) ?_; refine zs rfl rfl (bF h1) ?_; refine zs rfl rfl (bF h1) ?_; refine zs rfl rfl (bF h1) ?_; refine zs rfl rfl (bF h1) ?_; refine zs rfl rfl (bF h1) ?_; refine zs rfl rfl (bF h1) ?_; refine zs rfl rfl (bF h1) ?_; refine zs rfl rfl (bF h1) ?_; refine zs rfl rfl (bF h1) ?_; refine zs rfl rfl (bF h1) ?_; refine zs rfl rfl (bF h1) ?_; refine jF (bF h1) rfl ?_; refine yB ?_; refine zG rfl ?_; refine zi ?_; refine zk ?_; refine yA ?_; refine aB rfl ?_; refine yB ?_; refine ze ?_
  have ha : atP q s j = false := atP_out (by omega)
  rw [ha, if_neg (by decide)]
  refine zo (v := .bool _) rfl rfl rfl ?_; exact fun w' hw => ⟨rfl, hw.f0, hw.at_ 0 rfl⟩
theorem take_y (p : Nat) (s so : List UInt8) (q : UInt8 → Bool) (hq : so.contains = q) (j : Nat) (w : World) (hp : w.heap[p]? = some (cel [str s, .int .i64 (j : Nat)] 178)) (hs : s.length ≤ 10000) (hj : j ≤ s.length) (ha : atP q s j = true) : Ret Tryz.prog 169 #[pX p, str so] w (fun v w' => v = .bool true ∧ Fr (fun i => i = p) w w' ∧ w'.heap[p]? = some (cel [str s, .int .i64 (j + 1 : Nat)] 178)) := by
 have := take_ok p s so q hq j w hp hs hj
 rwa [ha, if_pos rfl] at this
theorem take_n (p : Nat) (s so : List UInt8) (q : UInt8 → Bool) (hq : so.contains = q) (j : Nat) (w : World) (hp : w.heap[p]? = some (cel [str s, .int .i64 (j : Nat)] 178)) (hs : s.length ≤ 10000) (hj : j ≤ s.length) (ha : atP q s j = false) : Ret Tryz.prog 169 #[pX p, str so] w (fun v w' => v = .bool false ∧ Fr (fun i => i = p) w w' ∧ w'.heap[p]? = some (cel [str s, .int .i64 (j : Nat)] 178)) := by
 have := take_ok p s so q hq j w hp hs hj
 rwa [ha, if_neg (by decide)] at this
theorem digits_ok (p : Nat) (s : List UInt8) (j : Nat) (w : World) (hp : w.heap[p]? = some (cel [str s, .int .i64 (j : Nat)] 178)) (hs : s.length ≤ 10000) (hj : j ≤ s.length) (hlt : j < runTo digitB s j) :
  Ret Tryz.prog 168 #[.agg #[pX p]] w (fun v w' => v = .tuple #[str (cutS s j (runTo digitB s j)), .bool true] ∧ Fr (fun i => i = p) w w' ∧ w'.heap[p]? = some (cel [str s, .int .i64 (runTo digitB s j : Nat)] 178)) := by
 have hrl : runTo digitB s j ≤ s.length := runTo_le hj
 refine enter (S := (fun i => i = p)) (l := [_]) (L := [(p, cel [str s, .int .i64 (j : Nat)] 178)]) 32 Tryz.func168 rfl rfl rfl (St.start1 w hp rfl) ?_; refine yA ?_; refine w_boxA rfl (fun pb gpb upb => ?_)
 refine za (v := str _) rfl ?_; refine aB rfl ?_; refine yC ?_; refine zf fa180_0 rfl ?_; refine jM 0 z176 rfl ?_; refine zI rfl ?_; refine zf fa178_1 rfl ?_; refine jM 1 z3 rfl ?_; refine aI rfl ?_; refine yB ?_; refine zq ?_; refine zB ?_; refine c_loop (fun m e B L => ∃ (k : Nat), e 1 = pX pb ∧ e 4 = .int .i64 (j : Nat) ∧ B = [(w, (fun i => i = p))] ∧ L = [(pb, cel [pX p] 180), (p, cel [str s, .int .i64 (k : Nat)] 178)] ∧ j ≤ k ∧ k ≤ s.length ∧ runTo digitB s k = runTo digitB s j ∧ m = s.length - k) _ ⟨j, rfl, rfl, rfl, rfl, Nat.le_refl _, hj, rfl, rfl⟩ ?_
 rintro m e B L ⟨k, e1_1, e4_1, rfl, rfl, hjk, hk, hr, rfl⟩
 refine zq ?_; refine yA ?_; refine zf fa180_0 e1_1 ?_; refine jM 0 z176 rfl ?_
 cases ht2 : atP digitB s (k)
 ·refine w_call1 1 rfl (fun w => zR Tryz.func169 rfl rfl rfl) rfl rfl (fun w h => take_n p s _ _ con_digits (k) w (h.at_ 1 rfl) hs (by omega) ht2) ?_
  have hrk : runTo digitB s j = k := by rw [← hr, runTo_stop ht2]
  refine yB ?_; refine zG rfl ?_; refine zX ?_; refine zx (zx (b_here rfl (zk ?_))); refine zq ?_; refine c_draw mixed (by kernel_rfl) ?_; refine zf fa180_0 e1_1 ?_; refine jM 0 z176 rfl ?_; refine zI rfl ?_; refine zf fa178_0 rfl ?_; refine jM 1 z9 rfl ?_; refine mI e4_1 ?_; refine zf fa180_0 e1_1 ?_; refine jM 0 z176 rfl ?_; refine zI rfl ?_; refine zf fa178_1 rfl ?_; refine jM 1 z3 rfl ?_; refine zg (fun _ => R_sslN (l := j) (h := _) st9 rfl rfl rfl (by omega) (by omega)) ?_
  refine zf fa180_0 e1_1 ?_; refine jM 0 z176 rfl ?_; refine zI rfl ?_; refine zf fa178_1 rfl ?_; refine jM 1 z3 rfl ?_; refine mI e4_1 ?_; refine jg rfl rfl ?_; refine za (v := str _) rfl ?_; refine aB rfl ?_; refine yB ?_; refine ze ?_
  rw [hrk] at hlt ⊢
  refine r_two (v := str _) (v2 := .bool _) rfl rfl rfl rfl rfl ?_; exact fun w' hw => ⟨by rw [decide_eq_true (by omega)]; rfl, hw.f0, hw.at_ 1 rfl⟩
 ·refine w_call1 1 rfl (fun w => zR Tryz.func169 rfl rfl rfl) rfl rfl (fun w h => take_y p s _ _ con_digits (k) w (h.at_ 1 rfl) hs (by omega) ht2) ?_; refine yB ?_; refine zE rfl ?_; refine zi ?_; refine zk ?_; refine zB ?_; refine zi ?_; refine zO (?_)
  have hkl := atP_lt ht2
  exact k_again _ (by omega) ⟨k + 1, e1_1, e4_1, rfl, rfl, by omega, by omega, by rw [← hr, runTo_step ht2], rfl⟩
theorem tup3 {a b : List UInt8} {x y : Int} (h1 : a = b) (h2 : x = y) : Value.tuple #[str a, .int .i64 x, .bool true] = .tuple #[str b, .int .i64 y, .bool true] := by rw [h1, h2]
theorem numeral_ok (p : Nat) (s : List UInt8) (w : World) (hp : w.heap[p]? = some (cel [str s, .int .i64 (0 : Nat)] 178)) (hs : s.length ≤ 10000) (hT : NumT s) :
  Ret Tryz.prog 144 #[.agg #[pX p]] w (fun v w' => v = .tuple #[str (digs s), .int .i64 (powr s), .bool true] ∧ Fr (fun i => i = p) w w' ∧ w'.heap[p]? = some (cel [str s, .int .i64 (s.length : Nat)] 178)) := by
 have hle := hT.le
 have hl0 := cutS_len (s := s) (i := 0) (j := i1 s) hle.1
 refine enter (S := (fun i => i = p)) (l := [_]) (L := [(p, cel [str s, .int .i64 (0 : Nat)] 178)]) 90 Tryz.func144 rfl rfl rfl (St.start1 w hp rfl) ?_; refine yA ?_; refine w_boxA rfl (fun pb gpb upb => ?_)
 refine za (v := str _) rfl ?_; refine aI rfl ?_; refine aB rfl ?_; refine yC ?_; refine jy 0 z180 rfl rfl ?_; refine w_call1 1 rfl (fun w => zR Tryz.func168 rfl rfl rfl) rfl rfl (fun w h => by have h9 := digits_ok p s (0) w (h.at_ 1 rfl) hs (by omega) hT.a; rw [show runTo digitB s 0 = i1 s from rfl] at h9; exact h9) ?_; refine zm rfl ?_; refine jx rfl rfl ?_; refine jx rfl rfl ?_; refine za (v := str _) rfl ?_; refine aB rfl ?_; refine yB ?_; refine zq ?_; refine yA ?_; refine mB rfl ?_; refine mB rfl ?_
 refine zw rfl rfl rfl ?_; refine zf fa180_0 rfl ?_; refine zw rfl rfl rfl ?_; refine jM 0 z176 rfl ?_; refine zw rfl rfl rfl ?_
 cases hdt : atP (eqB 46) s (i1 s)
 ·have hdot : dotB s = false := hdt; have hi2 := i2_no hdot
  refine w_call1 1 rfl (fun w => zR Tryz.func169 rfl rfl rfl) rfl rfl (fun w h => by have h9 := take_n p s _ _ (con_one 46) (i1 s) w (h.at_ 1 rfl) hs (by omega) hdt; rw [← hi2] at h9; exact h9) ?_; refine jT rfl rfl ?_; refine yB ?_; refine zG rfl ?_; refine zi ?_; refine zk ?_; refine zq ?_; refine yA ?_; refine mB rfl ?_; refine mB rfl ?_; refine zw rfl rfl rfl ?_; refine zf fa180_0 rfl ?_; refine zw rfl rfl rfl ?_; refine jM 0 z176 rfl ?_; refine zw rfl rfl rfl ?_
  cases hxt : atP (eqB 101) s (i2 s)
  ·have hex : exB s = false := hxt; have hend := hT.d hex
   refine w_call1 1 rfl (fun w => zR Tryz.func169 rfl rfl rfl) rfl rfl (fun w h => take_n p s _ _ (con_one 101) (i2 s) w (h.at_ 1 rfl) hs (by omega) hxt) ?_; refine jT rfl rfl ?_; refine yB ?_; refine zG rfl ?_; refine zi ?_; refine zk ?_; refine zq ?_; refine c_draw mixed (by kernel_rfl) ?_; refine zm (v := str _) rfl ?_; refine mI rfl ?_; refine mB rfl ?_; refine mB rfl ?_; refine zw rfl rfl rfl ?_; refine zf fa180_0 rfl ?_; refine zw rfl rfl rfl ?_; refine jM 0 z176 rfl ?_; refine zw rfl rfl rfl ?_; refine zI rfl ?_; refine zw rfl rfl rfl ?_; refine zf fa178_1 rfl ?_; refine zw rfl rfl rfl ?_; refine jM 1 z3 rfl ?_
   refine zw rfl rfl rfl ?_; refine zf fa180_0 rfl ?_; refine zw rfl rfl rfl ?_; refine jM 0 z176 rfl ?_; refine zw rfl rfl rfl ?_; refine zI rfl ?_; refine zw rfl rfl rfl ?_; refine zf fa178_0 rfl ?_; refine zw rfl rfl rfl ?_; refine jM 1 z9 rfl ?_; refine zw rfl rfl rfl ?_; refine zg (fun _ => R_slen st9 rfl (by omega)) ?_; refine zw rfl rfl rfl ?_; refine zg (fun _ => R_eqT rfl rfl (by omega)) ?_; refine jT rfl rfl ?_; refine za (v := str _) rfl ?_; refine aI rfl ?_; refine aB rfl ?_; refine yB ?_; refine ze ?_; refine r_fin (.inl rfl) rfl (.tmp rfl rfl (.tmp rfl rfl (.tmp rfl rfl .nil))) ?_
   exact fun w' hw => ⟨tup3 ((digs_no hdot).symm) (by rw [powr_eq]; first | (rw [hdot, hex]; rfl) | (simp only [hdot, hex, if_true, if_false, Bool.false_eq_true]; done) | (simp only [hdot, hex, if_true, if_false, Bool.false_eq_true]; omega)), hw.f0, by have h9 := hw.at_ 1 rfl; rw [hend] at h9; exact h9⟩
  ·have hex : exB s = true := hxt; have hx := hT.c hex; have hxl := hT.expo_lt hex; have hxe := hT.exp hex; have hl2 := cutS_len (s := s) (i := k0 s) (j := k1 s) (by omega); have he2 := atP_lt hxt; have hat : Lib.atoiAll (cutS s (k0 s) (k1 s)) = .ok ((expo s : Nat) : Int) := atoi_digits hxe.1 hxe.2.1 hxe.2.2
   refine w_call1 1 rfl (fun w => zR Tryz.func169 rfl rfl rfl) rfl rfl (fun w h => take_y p s _ _ (con_one 101) (i2 s) w (h.at_ 1 rfl) hs (by omega) hxt) ?_; refine jT rfl rfl ?_; refine yB ?_; refine zE rfl ?_; refine yA ?_; refine zf fa180_0 rfl ?_; refine jM 0 z176 rfl ?_
   cases hpt : atP (eqB 43) s (i2 s + 1)
   ·refine w_call1 1 rfl (fun w => zR Tryz.func169 rfl rfl rfl) rfl rfl (fun w h => take_n p s _ _ (con_one 43) (i2 s + 1) w (h.at_ 1 rfl) hs (by omega) hpt) ?_; refine jk rfl ?_; refine mB rfl ?_; refine zw rfl rfl rfl ?_; refine zf fa180_0 rfl ?_; refine zw rfl rfl rfl ?_; refine jM 0 z176 rfl ?_; refine zw rfl rfl rfl ?_
    cases hmt : atP (eqB 45) s (i2 s + 1)
    ·have hk0 := k0_no hpt hmt; have hmn : mnB s = false := hmt; have hk1 : runTo digitB s (i2 s + 1) = k1 s := by unfold k1; rw [hk0]
     refine w_call1 1 rfl (fun w => zR Tryz.func169 rfl rfl rfl) rfl rfl (fun w h => take_n p s _ _ (con_one 45) (i2 s + 1) w (h.at_ 1 rfl) hs (by omega) hmt) ?_; refine jT rfl rfl ?_; refine aB rfl ?_; refine yC ?_; refine za (v := str _) rfl ?_; refine yC ?_; refine jy 0 z180 rfl rfl ?_; refine w_call1 1 rfl (fun w => zR Tryz.func168 rfl rfl rfl) rfl rfl (fun w h => by have h9 := digits_ok p s (i2 s + 1) w (h.at_ 1 rfl) hs (by omega) (by rw [hk1, ← hk0]; exact hx.1); rw [hk1, ← hk0] at h9; exact h9) ?_; refine zm rfl ?_; refine jx rfl rfl ?_; refine jx rfl rfl ?_; refine za (v := str _) rfl ?_
     refine aB rfl ?_; refine yC ?_; refine zm (v := str _) rfl ?_; refine jD Tryz.func170 (fun w h => Atoi_yes w (by omega) hat) ?_; refine zm rfl ?_; refine jx rfl rfl ?_; refine jx rfl rfl ?_; refine aI rfl ?_; refine za rfl ?_; refine yC ?_; refine mB rfl ?_; refine mB rfl ?_; refine zw rfl rfl rfl ?_; refine zm rfl ?_; refine zw rfl rfl rfl ?_; refine zg (fun _ => R_ieq0 uni87 rfl rfl) ?_; refine jT rfl rfl ?_
     refine mB rfl ?_; refine zw rfl rfl rfl ?_; refine zm (v := str _) rfl ?_; refine zw rfl rfl rfl ?_; refine zg (fun _ => R_slen st9 rfl (by omega)) ?_; refine zw rfl rfl rfl ?_; refine zg (fun _ => R_leT rfl rfl (by omega)) ?_; refine jT rfl rfl ?_; refine aB rfl ?_; refine yB ?_; refine zq ?_; refine yA ?_; refine mB rfl ?_; refine yB ?_; refine zG rfl ?_; refine zi ?_; refine zk ?_; refine zr ?_; refine mI rfl ?_; refine mI rfl ?_; refine ji rfl rfl (by omega) ?_
     refine aI rfl ?_; refine yB ?_; refine zq ?_; refine c_draw mixed (by kernel_rfl) ?_; refine zm (v := str _) rfl ?_; refine mI rfl ?_; refine mB rfl ?_; refine mB rfl ?_; refine zw rfl rfl rfl ?_; refine zf fa180_0 rfl ?_; refine zw rfl rfl rfl ?_; refine jM 0 z176 rfl ?_; refine zw rfl rfl rfl ?_; refine zI rfl ?_; refine zw rfl rfl rfl ?_; refine zf fa178_1 rfl ?_; refine zw rfl rfl rfl ?_; refine jM 1 z3 rfl ?_; refine zw rfl rfl rfl ?_; refine zf fa180_0 rfl ?_; refine zw rfl rfl rfl ?_; refine jM 0 z176 rfl ?_; refine zw rfl rfl rfl ?_; refine zI rfl ?_; refine zw rfl rfl rfl ?_; refine zf fa178_0 rfl ?_
     refine zw rfl rfl rfl ?_; refine jM 1 z9 rfl ?_; refine zw rfl rfl rfl ?_; refine zg (fun _ => R_slen st9 rfl (by omega)) ?_; refine zw rfl rfl rfl ?_; refine zg (fun _ => R_eqT rfl rfl (by omega)) ?_; refine jT rfl rfl ?_; refine za (v := str _) rfl ?_; refine aI rfl ?_; refine aB rfl ?_; refine yB ?_; refine ze ?_; refine r_fin (.inl rfl) rfl (.tmp rfl rfl (.tmp rfl rfl (.tmp rfl rfl .nil))) ?_
     exact fun w' hw => ⟨tup3 ((digs_no hdot).symm) (by rw [powr_eq]; first | (rw [hdot, hex]; rfl) | (simp only [hdot, hex, if_true, if_false, Bool.false_eq_true, hmn, iv]; done) | (simp only [hdot, hex, if_true, if_false, Bool.false_eq_true, hmn, iv]; omega)), hw.f0, by have h9 := hw.at_ 1 rfl; rw [hx.2.2] at h9; exact h9⟩
    ·have hk0 := k0_mn hmt; have hmn : mnB s = true := hmt; have he3 := atP_lt hmt; have hk1 : runTo digitB s (i2 s + 2) = k1 s := by unfold k1; rw [hk0]
     refine w_call1 1 rfl (fun w => zR Tryz.func169 rfl rfl rfl) rfl rfl (fun w h => take_y p s _ _ (con_one 45) (i2 s + 1) w (h.at_ 1 rfl) hs (by omega) hmt) ?_; refine jT rfl rfl ?_; refine aB rfl ?_; refine yC ?_; refine za (v := str _) rfl ?_; refine yC ?_; refine jy 0 z180 rfl rfl ?_; refine w_call1 1 rfl (fun w => zR Tryz.func168 rfl rfl rfl) rfl rfl (fun w h => by have h9 := digits_ok p s (i2 s + 2) w (h.at_ 1 rfl) hs (by omega) (by rw [hk1, ← hk0]; exact hx.1); rw [hk1, ← hk0] at h9; exact h9) ?_; refine zm rfl ?_; refine jx rfl rfl ?_; refine jx rfl rfl ?_; refine za (v := str _) rfl ?_
     refine aB rfl ?_; refine yC ?_; refine zm (v := str _) rfl ?_; refine jD Tryz.func170 (fun w h => Atoi_yes w (by omega) hat) ?_; refine zm rfl ?_; refine jx rfl rfl ?_; refine jx rfl rfl ?_; refine aI rfl ?_; refine za rfl ?_; refine yC ?_; refine mB rfl ?_; refine mB rfl ?_; refine zw rfl rfl rfl ?_; refine zm rfl ?_; refine zw rfl rfl rfl ?_; refine zg (fun _ => R_ieq0 uni87 rfl rfl) ?_; refine jT rfl rfl ?_
     refine mB rfl ?_; refine zw rfl rfl rfl ?_; refine zm (v := str _) rfl ?_; refine zw rfl rfl rfl ?_; refine zg (fun _ => R_slen st9 rfl (by omega)) ?_; refine zw rfl rfl rfl ?_; refine zg (fun _ => R_leT rfl rfl (by omega)) ?_; refine jT rfl rfl ?_; refine aB rfl ?_; refine yB ?_; refine zq ?_; refine yA ?_; refine mB rfl ?_; refine yB ?_; refine zE rfl ?_; refine zr ?_; refine mI rfl ?_; refine zg (fun _ => R_neg rfl) ?_
     rw [wrap_i64 (by omega) (by omega)]
     refine aI rfl ?_; refine yB ?_; refine zr ?_; refine mI rfl ?_; refine mI rfl ?_; refine ji rfl rfl (by omega) ?_; refine aI rfl ?_; refine yB ?_; refine zq ?_; refine c_draw mixed (by kernel_rfl) ?_; refine zm (v := str _) rfl ?_; refine mI rfl ?_; refine mB rfl ?_; refine mB rfl ?_; refine zw rfl rfl rfl ?_; refine zf fa180_0 rfl ?_; refine zw rfl rfl rfl ?_; refine jM 0 z176 rfl ?_; refine zw rfl rfl rfl ?_; refine zI rfl ?_; refine zw rfl rfl rfl ?_; refine zf fa178_1 rfl ?_; refine zw rfl rfl rfl ?_; refine jM 1 z3 rfl ?_; refine zw rfl rfl rfl ?_
     refine zf fa180_0 rfl ?_; refine zw rfl rfl rfl ?_; refine jM 0 z176 rfl ?_; refine zw rfl rfl rfl ?_; refine zI rfl ?_; refine zw rfl rfl rfl ?_; refine zf fa178_0 rfl ?_; refine zw rfl rfl rfl ?_; refine jM 1 z9 rfl ?_; refine zw rfl rfl rfl ?_; refine zg (fun _ => R_slen st9 rfl (by omega)) ?_; refine zw rfl rfl rfl ?_; refine zg (fun _ => R_eqT rfl rfl (by omega)) ?_; refine jT rfl rfl ?_; refine za (v := str _) rfl ?_; refine aI rfl ?_; refine aB rfl ?_; refine yB ?_; refine ze ?_; refine r_fin (.inl rfl) rfl (.tmp rfl rfl (.tmp rfl rfl (.tmp rfl rfl .nil))) ?_
     exact fun w' hw => ⟨tup3 ((digs_no hdot).symm) (by rw [powr_eq]; first | (rw [hdot, hex]; rfl) | (simp only [hdot, hex, if_true, if_false, Bool.false_eq_true, hmn, iv]; done) | (simp only [hdot, hex, if_true, if_false, Bool.false_eq_true, hmn, iv]; omega)), hw.f0, by have h9 := hw.at_ 1 rfl; rw [hx.2.2] at h9; exact h9⟩
   ·have hk0 := (k0_pl hpt).1; have hmn := (k0_pl hpt).2; have he3 := atP_lt hpt; have hk1 : runTo digitB s (i2 s + 2) = k1 s := by unfold k1; rw [hk0]
    refine w_call1 1 rfl (fun w => zR Tryz.func169 rfl rfl rfl) rfl rfl (fun w h => take_y p s _ _ (con_one 43) (i2 s + 1) w (h.at_ 1 rfl) hs (by omega) hpt) ?_; refine jk rfl ?_; refine mB rfl ?_; (iterate 3 refine zs rfl rfl rfl ?_); refine jF rfl rfl ?_; refine aB rfl ?_; refine yC ?_; refine za (v := str _) rfl ?_; refine yC ?_; refine jy 0 z180 rfl rfl ?_; refine w_call1 1 rfl (fun w => zR Tryz.func168 rfl rfl rfl) rfl rfl (fun w h => by have h9 := digits_ok p s (i2 s + 2) w (h.at_ 1 rfl) hs (by omega) (by rw [hk1, ← hk0]; exact hx.1); rw [hk1, ← hk0] at h9; exact h9) ?_
    refine zm rfl ?_; refine jx rfl rfl ?_; refine jx rfl rfl ?_; refine za (v := str _) rfl ?_; refine aB rfl ?_; refine yC ?_; refine zm (v := str _) rfl ?_; refine jD Tryz.func170 (fun w h => Atoi_yes w (by omega) hat) ?_; refine zm rfl ?_; refine jx rfl rfl ?_; refine jx rfl rfl ?_; refine aI rfl ?_; refine za rfl ?_; refine yC ?_; refine mB rfl ?_; refine mB rfl ?_
    refine zw rfl rfl rfl ?_; refine zm rfl ?_; refine zw rfl rfl rfl ?_; refine zg (fun _ => R_ieq0 uni87 rfl rfl) ?_; refine jT rfl rfl ?_; refine mB rfl ?_; refine zw rfl rfl rfl ?_; refine zm (v := str _) rfl ?_; refine zw rfl rfl rfl ?_; refine zg (fun _ => R_slen st9 rfl (by omega)) ?_; refine zw rfl rfl rfl ?_; refine zg (fun _ => R_leT rfl rfl (by omega)) ?_; refine jT rfl rfl ?_; refine aB rfl ?_; refine yB ?_; refine zq ?_; refine yA ?_; refine mB rfl ?_; refine yB ?_; refine zG rfl ?_
    refine zi ?_; refine zk ?_; refine zr ?_; refine mI rfl ?_; refine mI rfl ?_; refine ji rfl rfl (by omega) ?_; refine aI rfl ?_; refine yB ?_; refine zq ?_; refine c_draw mixed (by kernel_rfl) ?_; refine zm (v := str _) rfl ?_; refine mI rfl ?_; refine mB rfl ?_; refine mB rfl ?_; refine zw rfl rfl rfl ?_; refine zf fa180_0 rfl ?_; refine zw rfl rfl rfl ?_; refine jM 0 z176 rfl ?_; refine zw rfl rfl rfl ?_; refine zI rfl ?_; refine zw rfl rfl rfl ?_; refine zf fa178_1 rfl ?_
    refine zw rfl rfl rfl ?_; refine jM 1 z3 rfl ?_; refine zw rfl rfl rfl ?_; refine zf fa180_0 rfl ?_; refine zw rfl rfl rfl ?_; refine jM 0 z176 rfl ?_; refine zw rfl rfl rfl ?_; refine zI rfl ?_; refine zw rfl rfl rfl ?_; refine zf fa178_0 rfl ?_; refine zw rfl rfl rfl ?_; refine jM 1 z9 rfl ?_; refine zw rfl rfl rfl ?_; refine zg (fun _ => R_slen st9 rfl (by omega)) ?_; refine zw rfl rfl rfl ?_; refine zg (fun _ => R_eqT rfl rfl (by omega)) ?_; refine jT rfl rfl ?_; refine za (v := str _) rfl ?_; refine aI rfl ?_; refine aB rfl ?_; refine yB ?_; refine ze ?_
    refine r_fin (.inl rfl) rfl (.tmp rfl rfl (.tmp rfl rfl (.tmp rfl rfl .nil))) ?_; exact fun w' hw => ⟨tup3 ((digs_no hdot).symm) (by rw [powr_eq]; first | (rw [hdot, hex]; rfl) | (simp only [hdot, hex, if_true, if_false, Bool.false_eq_true, hmn, iv]; done) | (simp only [hdot, hex, if_true, if_false, Bool.false_eq_true, hmn, iv]; omega)), hw.f0, by have h9 := hw.at_ 1 rfl; rw [hx.2.2] at h9; exact h9⟩
 ·have hdot : dotB s = true := hdt; have hb := hT.b hdot; have hl1 := cutS_len (s := s) (i := i1 s + 1) (j := i2 s) (by omega)
  refine w_call1 1 rfl (fun w => zR Tryz.func169 rfl rfl rfl) rfl rfl (fun w h => take_y p s _ _ (con_one 46) (i1 s) w (h.at_ 1 rfl) hs (by omega) hdt) ?_; refine jT rfl rfl ?_; refine yB ?_; refine zE rfl ?_; refine yA ?_; refine za (v := str _) rfl ?_; refine yC ?_; refine jy 0 z180 rfl rfl ?_; refine w_call1 1 rfl (fun w => zR Tryz.func168 rfl rfl rfl) rfl rfl (fun w h => by have h9 := digits_ok p s (i1 s + 1) w (h.at_ 1 rfl) hs (by omega) (by rw [i2_yes hdot]; exact hb); rw [(i2_yes hdot)] at h9; exact h9) ?_; refine zm rfl ?_; refine jx rfl rfl ?_; refine jx rfl rfl ?_; refine za (v := str _) rfl ?_
  refine aB rfl ?_; refine yB ?_; refine zr ?_; refine zm (v := str _) rfl ?_; refine zm (v := str _) rfl ?_; refine zg (fun _ => R_cat rfl rfl (by omega)) ?_; refine zm (v := str _) rfl ?_; refine zg (fun _ => R_slen st9 rfl (by omega)) ?_; refine zg (fun _ => R_neg rfl) ?_
  rw [wrap_i64 (by omega) (by omega)]
  refine za (v := str _) rfl ?_; refine aI rfl ?_; refine yB ?_; refine zq ?_; refine yA ?_; refine mB rfl ?_; refine mB rfl ?_; refine zw rfl rfl rfl ?_; refine zf fa180_0 rfl ?_; refine zw rfl rfl rfl ?_; refine jM 0 z176 rfl ?_; refine zw rfl rfl rfl ?_
  cases hxt : atP (eqB 101) s (i2 s)
  ·have hex : exB s = false := hxt; have hend := hT.d hex
   refine w_call1 1 rfl (fun w => zR Tryz.func169 rfl rfl rfl) rfl rfl (fun w h => take_n p s _ _ (con_one 101) (i2 s) w (h.at_ 1 rfl) hs (by omega) hxt) ?_; refine jT rfl rfl ?_; refine yB ?_; refine zG rfl ?_; refine zi ?_; refine zk ?_; refine zq ?_; refine c_draw mixed (by kernel_rfl) ?_; refine zm (v := str _) rfl ?_; refine mI rfl ?_; refine mB rfl ?_; refine mB rfl ?_; refine zw rfl rfl rfl ?_; refine zf fa180_0 rfl ?_; refine zw rfl rfl rfl ?_; refine jM 0 z176 rfl ?_; refine zw rfl rfl rfl ?_; refine zI rfl ?_; refine zw rfl rfl rfl ?_; refine zf fa178_1 rfl ?_; refine zw rfl rfl rfl ?_; refine jM 1 z3 rfl ?_
   refine zw rfl rfl rfl ?_; refine zf fa180_0 rfl ?_; refine zw rfl rfl rfl ?_; refine jM 0 z176 rfl ?_; refine zw rfl rfl rfl ?_; refine zI rfl ?_; refine zw rfl rfl rfl ?_; refine zf fa178_0 rfl ?_; refine zw rfl rfl rfl ?_; refine jM 1 z9 rfl ?_; refine zw rfl rfl rfl ?_; refine zg (fun _ => R_slen st9 rfl (by omega)) ?_; refine zw rfl rfl rfl ?_; refine zg (fun _ => R_eqT rfl rfl (by omega)) ?_; refine jT rfl rfl ?_; refine za (v := str _) rfl ?_; refine aI rfl ?_; refine aB rfl ?_; refine yB ?_; refine ze ?_; refine r_fin (.inl rfl) rfl (.tmp rfl rfl (.tmp rfl rfl (.tmp rfl rfl .nil))) ?_
   exact fun w' hw => ⟨tup3 ((digs_yes hdot).symm) (by rw [powr_eq]; first | (rw [hdot, hex]; rfl) | (simp only [hdot, hex, if_true, if_false, Bool.false_eq_true]; done) | (simp only [hdot, hex, if_true, if_false, Bool.false_eq_true]; omega)), hw.f0, by have h9 := hw.at_ 1 rfl; rw [hend] at h9; exact h9⟩
  ·have hex : exB s = true := hxt; have hx := hT.c hex; have hxl := hT.expo_lt hex; have hxe := hT.exp hex; have hl2 := cutS_len (s := s) (i := k0 s) (j := k1 s) (by omega); have he2 := atP_lt hxt; have hat : Lib.atoiAll (cutS s (k0 s) (k1 s)) = .ok ((expo s : Nat) : Int) := atoi_digits hxe.1 hxe.2.1 hxe.2.2
   refine w_call1 1 rfl (fun w => zR Tryz.func169 rfl rfl rfl) rfl rfl (fun w h => take_y p s _ _ (con_one 101) (i2 s) w (h.at_ 1 rfl) hs (by omega) hxt) ?_; refine jT rfl rfl ?_; refine yB ?_; refine zE rfl ?_; refine yA ?_; refine zf fa180_0 rfl ?_; refine jM 0 z176 rfl ?_
   cases hpt : atP (eqB 43) s (i2 s + 1)
   ·refine w_call1 1 rfl (fun w => zR Tryz.func169 rfl rfl rfl) rfl rfl (fun w h => take_n p s _ _ (con_one 43) (i2 s + 1) w (h.at_ 1 rfl) hs (by omega) hpt) ?_; refine jk rfl ?_; refine mB rfl ?_; refine zw rfl rfl rfl ?_; refine zf fa180_0 rfl ?_; refine zw rfl rfl rfl ?_; refine jM 0 z176 rfl ?_; refine zw rfl rfl rfl ?_
    cases hmt : atP (eqB 45) s (i2 s + 1)
    ·have hk0 := k0_no hpt hmt; have hmn : mnB s = false := hmt; have hk1 : runTo digitB s (i2 s + 1) = k1 s := by unfold k1; rw [hk0]
     refine w_call1 1 rfl (fun w => zR Tryz.func169 rfl rfl rfl) rfl rfl (fun w h => take_n p s _ _ (con_one 45) (i2 s + 1) w (h.at_ 1 rfl) hs (by omega) hmt) ?_; refine jT rfl rfl ?_; refine aB rfl ?_; refine yC ?_; refine za (v := str _) rfl ?_; refine yC ?_; refine jy 0 z180 rfl rfl ?_; refine w_call1 1 rfl (fun w => zR Tryz.func168 rfl rfl rfl) rfl rfl (fun w h => by have h9 := digits_ok p s (i2 s + 1) w (h.at_ 1 rfl) hs (by omega) (by rw [hk1, ← hk0]; exact hx.1); rw [hk1, ← hk0] at h9; exact h9) ?_; refine zm rfl ?_; refine jx rfl rfl ?_; refine jx rfl rfl ?_; refine za (v := str _) rfl ?_
     refine aB rfl ?_; refine yC ?_; refine zm (v := str _) rfl ?_; refine jD Tryz.func170 (fun w h => Atoi_yes w (by omega) hat) ?_; refine zm rfl ?_; refine jx rfl rfl ?_; refine jx rfl rfl ?_; refine aI rfl ?_; refine za rfl ?_; refine yC ?_; refine mB rfl ?_; refine mB rfl ?_; refine zw rfl rfl rfl ?_; refine zm rfl ?_; refine zw rfl rfl rfl ?_; refine zg (fun _ => R_ieq0 uni87 rfl rfl) ?_; refine jT rfl rfl ?_
     refine mB rfl ?_; refine zw rfl rfl rfl ?_; refine zm (v := str _) rfl ?_; refine zw rfl rfl rfl ?_; refine zg (fun _ => R_slen st9 rfl (by omega)) ?_; refine zw rfl rfl rfl ?_; refine zg (fun _ => R_leT rfl rfl (by omega)) ?_; refine jT rfl rfl ?_; refine aB rfl ?_; refine yB ?_; refine zq ?_; refine yA ?_; refine mB rfl ?_; refine yB ?_; refine zG rfl ?_; refine zi ?_; refine zk ?_; refine zr ?_; refine mI rfl ?_; refine mI rfl ?_; refine ji rfl rfl (by omega) ?_
     refine aI rfl ?_; refine yB ?_; refine zq ?_; refine c_draw mixed (by kernel_rfl) ?_; refine zm (v := str _) rfl ?_; refine mI rfl ?_; refine mB rfl ?_; refine mB rfl ?_; refine zw rfl rfl rfl ?_; refine zf fa180_0 rfl ?_; refine zw rfl rfl rfl ?_; refine jM 0 z176 rfl ?_; refine zw rfl rfl rfl ?_; refine zI rfl ?_; refine zw rfl rfl rfl ?_; refine zf fa178_1 rfl ?_; refine zw rfl rfl rfl ?_; refine jM 1 z3 rfl ?_; refine zw rfl rfl rfl ?_; refine zf fa180_0 rfl ?_; refine zw rfl rfl rfl ?_; refine jM 0 z176 rfl ?_; refine zw rfl rfl rfl ?_; refine zI rfl ?_; refine zw rfl rfl rfl ?_; refine zf fa178_0 rfl ?_
     refine zw rfl rfl rfl ?_; refine jM 1 z9 rfl ?_; refine zw rfl rfl rfl ?_; refine zg (fun _ => R_slen st9 rfl (by omega)) ?_; refine zw rfl rfl rfl ?_; refine zg (fun _ => R_eqT rfl rfl (by omega)) ?_; refine jT rfl rfl ?_; refine za (v := str _) rfl ?_; refine aI rfl ?_; refine aB rfl ?_; refine yB ?_; refine ze ?_; refine r_fin (.inl rfl) rfl (.tmp rfl rfl (.tmp rfl rfl (.tmp rfl rfl .nil))) ?_
     exact fun w' hw => ⟨tup3 ((digs_yes hdot).symm) (by rw [powr_eq]; first | (rw [hdot, hex]; rfl) | (simp only [hdot, hex, if_true, if_false, Bool.false_eq_true, hmn, iv]; done) | (simp only [hdot, hex, if_true, if_false, Bool.false_eq_true, hmn, iv]; omega)), hw.f0, by have h9 := hw.at_ 1 rfl; rw [hx.2.2] at h9; exact h9⟩
    ·have hk0 := k0_mn hmt; have hmn : mnB s = true := hmt; have he3 := atP_lt hmt; have hk1 : runTo digitB s (i2 s + 2) = k1 s := by unfold k1; rw [hk0]
     refine w_call1 1 rfl (fun w => zR Tryz.func169 rfl rfl rfl) rfl rfl (fun w h => take_y p s _ _ (con_one 45) (i2 s + 1) w (h.at_ 1 rfl) hs (by omega) hmt) ?_; refine jT rfl rfl ?_; refine aB rfl ?_; refine yC ?_; refine za (v := str _) rfl ?_; refine yC ?_; refine jy 0 z180 rfl rfl ?_; refine w_call1 1 rfl (fun w => zR Tryz.func168 rfl rfl rfl) rfl rfl (fun w h => by have h9 := digits_ok p s (i2 s + 2) w (h.at_ 1 rfl) hs (by omega) (by rw [hk1, ← hk0]; exact hx.1); rw [hk1, ← hk0] at h9; exact h9) ?_; refine zm rfl ?_; refine jx rfl rfl ?_; refine jx rfl rfl ?_; refine za (v := str _) rfl ?_
     refine aB rfl ?_; refine yC ?_; refine zm (v := str _) rfl ?_; refine jD Tryz.func170 (fun w h => Atoi_yes w (by omega) hat) ?_; refine zm rfl ?_; refine jx rfl rfl ?_; refine jx rfl rfl ?_; refine aI rfl ?_; refine za rfl ?_; refine yC ?_; refine mB rfl ?_; refine mB rfl ?_; refine zw rfl rfl rfl ?_; refine zm rfl ?_; refine zw rfl rfl rfl ?_; refine zg (fun _ => R_ieq0 uni87 rfl rfl) ?_; refine jT rfl rfl ?_
     refine mB rfl ?_; refine zw rfl rfl rfl ?_; refine zm (v := str _) rfl ?_; refine zw rfl rfl rfl ?_; refine zg (fun _ => R_slen st9 rfl (by omega)) ?_; refine zw rfl rfl rfl ?_; refine zg (fun _ => R_leT rfl rfl (by omega)) ?_; refine jT rfl rfl ?_; refine aB rfl ?_; refine yB ?_; refine zq ?_; refine yA ?_; refine mB rfl ?_; refine yB ?_; refine zE rfl ?_; refine zr ?_; refine mI rfl ?_; refine zg (fun _ => R_neg rfl) ?_
     rw [wrap_i64 (by omega) (by omega)]
     refine aI rfl ?_; refine yB ?_; refine zr ?_; refine mI rfl ?_; refine mI rfl ?_; refine ji rfl rfl (by omega) ?_; refine aI rfl ?_; refine yB ?_; refine zq ?_; refine c_draw mixed (by kernel_rfl) ?_; refine zm (v := str _) rfl ?_; refine mI rfl ?_; refine mB rfl ?_; refine mB rfl ?_; refine zw rfl rfl rfl ?_; refine zf fa180_0 rfl ?_; refine zw rfl rfl rfl ?_; refine jM 0 z176 rfl ?_; refine zw rfl rfl rfl ?_; refine zI rfl ?_; refine zw rfl rfl rfl ?_; refine zf fa178_1 rfl ?_; refine zw rfl rfl rfl ?_; refine jM 1 z3 rfl ?_; refine zw rfl rfl rfl ?_
     refine zf fa180_0 rfl ?_; refine zw rfl rfl rfl ?_; refine jM 0 z176 rfl ?_; refine zw rfl rfl rfl ?_; refine zI rfl ?_; refine zw rfl rfl rfl ?_; refine zf fa178_0 rfl ?_; refine zw rfl rfl rfl ?_; refine jM 1 z9 rfl ?_; refine zw rfl rfl rfl ?_; refine zg (fun _ => R_slen st9 rfl (by omega)) ?_; refine zw rfl rfl rfl ?_; refine zg (fun _ => R_eqT rfl rfl (by omega)) ?_; refine jT rfl rfl ?_; refine za (v := str _) rfl ?_; refine aI rfl ?_; refine aB rfl ?_; refine yB ?_; refine ze ?_; refine r_fin (.inl rfl) rfl (.tmp rfl rfl (.tmp rfl rfl (.tmp rfl rfl .nil))) ?_
     exact fun w' hw => ⟨tup3 ((digs_yes hdot).symm) (by rw [powr_eq]; first | (rw [hdot, hex]; rfl) | (simp only [hdot, hex, if_true, if_false, Bool.false_eq_true, hmn, iv]; done) | (simp only [hdot, hex, if_true, if_false, Bool.false_eq_true, hmn, iv]; omega)), hw.f0, by have h9 := hw.at_ 1 rfl; rw [hx.2.2] at h9; exact h9⟩
   ·have hk0 := (k0_pl hpt).1; have hmn := (k0_pl hpt).2; have he3 := atP_lt hpt; have hk1 : runTo digitB s (i2 s + 2) = k1 s := by unfold k1; rw [hk0]
    refine w_call1 1 rfl (fun w => zR Tryz.func169 rfl rfl rfl) rfl rfl (fun w h => take_y p s _ _ (con_one 43) (i2 s + 1) w (h.at_ 1 rfl) hs (by omega) hpt) ?_; refine jk rfl ?_; refine mB rfl ?_; (iterate 3 refine zs rfl rfl rfl ?_); refine jF rfl rfl ?_; refine aB rfl ?_; refine yC ?_; refine za (v := str _) rfl ?_; refine yC ?_; refine jy 0 z180 rfl rfl ?_; refine w_call1 1 rfl (fun w => zR Tryz.func168 rfl rfl rfl) rfl rfl (fun w h => by have h9 := digits_ok p s (i2 s + 2) w (h.at_ 1 rfl) hs (by omega) (by rw [hk1, ← hk0]; exact hx.1); rw [hk1, ← hk0] at h9; exact h9) ?_
    refine zm rfl ?_; refine jx rfl rfl ?_; refine jx rfl rfl ?_; refine za (v := str _) rfl ?_; refine aB rfl ?_; refine yC ?_; refine zm (v := str _) rfl ?_; refine jD Tryz.func170 (fun w h => Atoi_yes w (by omega) hat) ?_; refine zm rfl ?_; refine jx rfl rfl ?_; refine jx rfl rfl ?_; refine aI rfl ?_; refine za rfl ?_; refine yC ?_; refine mB rfl ?_; refine mB rfl ?_
    refine zw rfl rfl rfl ?_; refine zm rfl ?_; refine zw rfl rfl rfl ?_; refine zg (fun _ => R_ieq0 uni87 rfl rfl) ?_; refine jT rfl rfl ?_; refine mB rfl ?_; refine zw rfl rfl rfl ?_; refine zm (v := str _) rfl ?_; refine zw rfl rfl rfl ?_; refine zg (fun _ => R_slen st9 rfl (by omega)) ?_; refine zw rfl rfl rfl ?_; refine zg (fun _ => R_leT rfl rfl (by omega)) ?_; refine jT rfl rfl ?_; refine aB rfl ?_; refine yB ?_; refine zq ?_; refine yA ?_; refine mB rfl ?_; refine yB ?_; refine zG rfl ?_
    refine zi ?_; refine zk ?_; refine zr ?_; refine mI rfl ?_; refine mI rfl ?_; refine ji rfl rfl (by omega) ?_; refine aI rfl ?_; refine yB ?_; refine zq ?_; refine c_draw mixed (by kernel_rfl) ?_; refine zm (v := str _) rfl ?_; refine mI rfl ?_; refine mB rfl ?_; refine mB rfl ?_; refine zw rfl rfl rfl ?_; refine zf fa180_0 rfl ?_; refine zw rfl rfl rfl ?_; refine jM 0 z176 rfl ?_; refine zw rfl rfl rfl ?_; refine zI rfl ?_; refine zw rfl rfl rfl ?_; refine zf fa178_1 rfl ?_
    refine zw rfl rfl rfl ?_; refine jM 1 z3 rfl ?_; refine zw rfl rfl rfl ?_; refine zf fa180_0 rfl ?_; refine zw rfl rfl rfl ?_; refine jM 0 z176 rfl ?_; refine zw rfl rfl rfl ?_; refine zI rfl ?_; refine zw rfl rfl rfl ?_; refine zf fa178_0 rfl ?_; refine zw rfl rfl rfl ?_; refine jM 1 z9 rfl ?_; refine zw rfl rfl rfl ?_; refine zg (fun _ => R_slen st9 rfl (by omega)) ?_; refine zw rfl rfl rfl ?_; refine zg (fun _ => R_eqT rfl rfl (by omega)) ?_; refine jT rfl rfl ?_; refine za (v := str _) rfl ?_; refine aI rfl ?_; refine aB rfl ?_; refine yB ?_; refine ze ?_
    refine r_fin (.inl rfl) rfl (.tmp rfl rfl (.tmp rfl rfl (.tmp rfl rfl .nil))) ?_; exact fun w' hw => ⟨tup3 ((digs_yes hdot).symm) (by rw [powr_eq]; first | (rw [hdot, hex]; rfl) | (simp only [hdot, hex, if_true, if_false, Bool.false_eq_true, hmn, iv]; done) | (simp only [hdot, hex, if_true, if_false, Bool.false_eq_true, hmn, iv]; omega)), hw.f0, by have h9 := hw.at_ 1 rfl; rw [hx.2.2] at h9; exact h9⟩
end Go.Proofs.YtikdkendinnalaaGreatDoor
end
section
namespace Go.Proofs.YtikdkendinnalaaGreatDoor
open Go.RowKit Go.Sx
open Go.Num Go.Feed
theorem zParseD_ok (l : List UInt8) (w : World) (h : l.all isD = true) (h0 : l ≠ []) (hl : l.length ≤ 400) : Ret Tryz.prog 145 #[str l] w (Tel (fun a c => .tuple #[.agg #[.bool false, .slice a (sz (pv 0 l)) c], .int .i64 0]) (sz (pv 0 l)) (pv 0 l) w) := by
  have h1 := zParse_ok l w hl
  have h2 : l.head? ≠ some 45 := by
    cases l with
    | nil => simp
    | cons c l =>
      rw [List.all_cons, Bool.and_eq_true] at h
      intro he
      have hc : c = 45 := by simpa using he
      rw [hc] at h
      exact absurd h.1 (by decide)
  have h3 : npv l = some (pv 0 l) := by unfold npv; rw [if_neg (by rw [h]; simp [h0])]
  have h4 : zpv l = some ((pv 0 l : Nat) : Int) := by unfold zpv; rw [if_neg h2, h3]; rfl
  have h5 : zpe l = 0 := by unfold zpe; rw [h4]
  rw [h4, h5, Option.getD_some, Int.natAbs_natCast, show ng ((pv 0 l : Nat) : Int) = false from ng_false.2 (Int.natCast_nonneg _)] at h1
  exact h1
theorem mul_szF (n m : Nat) : sz (n * m) ≤ sz n + sz m := by
  refine sz_iff.2 ?_
  rw [Nat.pow_add]
  rcases Nat.eq_zero_or_pos m with h | h
  · subst h; rw [Nat.mul_zero]; exact Nat.mul_pos (Bpow_pos _) (Bpow_pos _)
  exact Nat.lt_of_lt_of_le (Nat.mul_lt_mul_of_pos_right (lt_sz n) h) (Nat.mul_le_mul_left _ (Nat.le_of_lt (lt_sz m)))
theorem max_abs (x : Int) : (if x < -x then -x else x) = ((x.natAbs : Nat) : Int) := by split <;> omega
theorem numeralC_ok (b1 : Nat) (s : List UInt8) (w : World) (hb : w.heap[b1]? = some (cel [str s] 9)) (hs : s.length ≤ 400) (hT : NumT s) :
    Ret Tryz.prog 143 #[pX b1] w (Tel2 (fun a c a2 c2 => .agg #[.bool (ng (numV s).1), .slice a (sz (numV s).1.natAbs) c, .slice a2 (sz (numV s).2) c2]) (sz (numV s).1.natAbs) (numV s).1.natAbs (sz (numV s).2) (numV s).2 w) := by
  have hdg := hT.dig
  have hpl := hT.pow_le hs
  have hsN : sz (pv 0 (digs s)) ≤ 400 := Nat.le_trans (sz_ten (pv_lt _ hdg.1)) (by omega)
  have hsM := sz_ten16 (powr s).natAbs
  have hM0 : (10 ^ (powr s).natAbs) ≠ 0 := Nat.pos_iff_ne_zero.1 (Nat.pow_pos (by decide))
  have hsP := mul_szF (pv 0 (digs s)) (10 ^ (powr s).natAbs)
  have hs1 : sz 1 = 1 := rfl
  have hs10 : sz 10 = 1 := rfl
  refine enter (S := No) (l := [_]) (L := []) 48 Tryz.func143 rfl rfl rfl (St.start w No) ?_; refine yA ?_; refine zA zr46 (fun r gr ur => ?_)
  refine yB ?_; refine zq ?_; refine yA ?_; refine zl (v := str s) z9 rfl (fun w h => cel_oldb hb zm0 (fun x => x) rfl h) ?_; refine zg (fun _ => R_slen st9 rfl (by omega)) ?_; refine jg rfl rfl ?_; refine yB ?_; refine zD rfl (fun h2 => ?_) (fun h2 => ?_)
  · omega
  refine zi ?_; refine zk ?_; refine yA ?_; refine zl (v := str s) z9 rfl (fun w h => cel_oldb hb zm0 (fun x => x) rfl h) ?_; refine jb bt178 rfl ?_; refine w_boxA rfl (fun p gp up => ?_)
  refine jb bt180 rfl ?_; refine w_call1 0 rfl (fun w => zR Tryz.func144 rfl rfl rfl) rfl rfl (fun w h => numeral_ok p s w (h.at_ 0 rfl) (by omega) hT) ?_; refine zm rfl ?_; refine jx rfl rfl ?_; refine jx rfl rfl ?_; refine jx rfl rfl ?_; refine za (v := str _) rfl ?_; refine aI rfl ?_; refine aB rfl ?_; refine yB ?_; refine zq ?_; refine yA ?_; refine mB rfl ?_; refine jk rfl ?_; refine yB ?_; refine zG rfl ?_; refine zi ?_; refine zk ?_; refine yA ?_; refine zm (v := str _) rfl ?_
  refine w_tel (fun w => zR Tryz.func145 rfl rfl rfl) rfl rfl (fun w h => zParseD_ok (digs s) w hdg.1 hdg.2.1 (by omega)) (fun x4 a4 c4 hK4 hN4 => ?_)
  refine jx rfl rfl ?_; refine jx rfl rfl ?_; refine jD Tryz.func87 (fun w h => mustI_ok _ _ _ _ w) ?_; refine zA zr44 (fun b5 gb5 ub5 => ?_)
  refine jv 0 z44 rfl ?_; refine yC ?_; refine w_tel (fun w => zR Tryz.func86 rfl rfl rfl) rfl rfl (fun w h => zOfS_ok 10 w (by decide)) (fun x6 a6 c6 hK6 hN6 => ?_)
  refine mI rfl ?_; refine mI rfl ?_; refine zg (fun _ => R_neg rfl) ?_
  rw [wrap_i64 (by omega) (by omega)]
  refine zg (fun _ => R_max rfl rfl) ?_
  rw [max_abs]
  refine w_tel (fun w => zR Tryz.func146 rfl rfl rfl) rfl rfl (fun w h => Pow_ok w (hK6.at_ 0 rfl h) (powr s).natAbs ⟨by omega, by omega⟩) (fun x7 a7 c7 hK7 hN7 => ?_)
  refine jx rfl rfl ?_; refine jx rfl rfl ?_; refine jD Tryz.func87 (fun w h => mustI_ok _ _ _ _ w) ?_; refine zA zr44 (fun b8 gb8 ub8 => ?_)
  refine jv 0 z44 rfl ?_; refine yB ?_; refine zq ?_; refine yA ?_; refine mI rfl ?_; refine jl rfl rfl ?_; refine yB ?_; refine zD rfl (fun h9 => ?_) (fun h9 => ?_)
  · have hpw : powr s < 0 := h9
    refine yA ?_; refine jy 1 z44 rfl rfl ?_; refine jy 0 z44 rfl rfl ?_; refine w_tel2 (fun w => zR Tryz.func116 rfl rfl rfl) rfl rfl (fun w h => ftold_ok false w (hK4.at_ 2 rfl h) (hK7.at_ 0 rfl h) ⟨by omega, by omega, by omega, by omega, hM0⟩) (fun x10 a10 c10 a10' c10' hK10 hN10 hK10' hN10' => ?_)
    refine jv 3 z46 rfl ?_; refine yB ?_; refine ze ?_; refine zt (?_)
    have hv : numV s = (mkR false (pv 0 (digs s)) (10 ^ (powr s).natAbs)) := by unfold numV; rw [if_pos hpw]
    rw [hv]
    refine r_fin (.inl rfl) rfl (.agg rfl rfl z46 (fun _ h => h.at_ 3 rfl) rfl .nil) ?_; exact fun w' hw => ⟨_, _, _, _, rfl, (hK10.at_ 0 rfl hw), (hK10'.at_ 0 rfl hw), (hN10 _ zm3), (hN10' _ zm3), hw.fr (w, No) zm4⟩
  have hpw : ¬ powr s < 0 := h9
  refine zi ?_; refine zk ?_; refine yA ?_; refine jy 1 z44 rfl rfl ?_; refine jy 0 z44 rfl rfl ?_; refine zS slt133 (by decide) rfl rfl (fun pb gpb upb => ?_)
  refine w_tel (fun w => zR Tryz.func53 rfl rfl rfl) rfl rfl (fun w h => product_ok false false w (hK4.at_ 2 rfl h) (hK7.at_ 0 rfl h) (h.at_ 0 rfl) ⟨by omega, by omega, by omega, by omega, by omega⟩) (fun x11 a11 c11 hK11 hN11 => ?_)
  refine w_tel (fun w => zR Tryz.func86 rfl rfl rfl) rfl rfl (fun w h => zOfS_ok 1 w (by decide)) (fun x12 a12 c12 hK12 hN12 => ?_)
  refine w_tel2 (fun w => zR Tryz.func116 rfl rfl rfl) rfl rfl (fun w h => ftold_ok false w (hK11.at_ 1 rfl h) (hK12.at_ 0 rfl h) ⟨by omega, by omega, by omega, by omega, by decide⟩) (fun x13 a13 c13 a13' c13' hK13 hN13 hK13' hN13' => ?_)
  refine jv 4 z46 rfl ?_; refine yB ?_; refine ze ?_
  have hv : numV s = (mkR false ((pv 0 (digs s)) * (10 ^ (powr s).natAbs)) 1) := by unfold numV; rw [if_neg hpw]
  rw [hv]
  refine r_fin (.inl rfl) rfl (.agg rfl rfl z46 (fun _ h => h.at_ 4 rfl) rfl .nil) ?_; exact fun w' hw => ⟨_, _, _, _, rfl, (hK13.at_ 0 rfl hw), (hK13'.at_ 0 rfl hw), (hN13 _ (.tail _ zm4)), (hN13' _ (.tail _ zm4)), hw.fr (w, No) (.tail _ (.tail _ zm4))⟩
theorem numeralC_no (b1 : Nat) (s : List UInt8) (w : World) (hb : w.heap[b1]? = some (cel [str s] 9)) (hs : 400 < s.length ∧ s.length ≤ 1000000) :
    RetP Tryz.prog 143 #[pX b1] w (fun _ _ => False) (fun ch w' => ch = panE 3 ∧ Ext w w') := by
  refine enterP (S := No) (l := [_]) (L := []) 48 Tryz.func143 rfl rfl rfl (St.start w No) ?_; refine yA ?_; refine zA zr46 (fun r gr ur => ?_)
  refine yB ?_; refine zq ?_; refine yA ?_; refine zl (v := str s) z9 rfl (fun w h => cel_oldb hb zm0 (fun x => x) rfl h) ?_; refine zg (fun _ => R_slen st9 rfl (by omega)) ?_; refine jg rfl rfl ?_; refine yB ?_; refine zD rfl (fun h2 => ?_) (fun h2 => ?_)
  · refine zr ?_; refine zg (fun _ => R_mkI cn25 rfl) ?_; refine w_halt (fun w => R_panic rfl) rfl ?_; exact fun w' hw => p_out rfl ⟨rfl, hw.fr (w, No) zm0⟩
  omega
theorem numeralF_ok (s : List UInt8) (w : World) (hs : s.length ≤ 400) (hT : NumT s) :
    Ret Tryz.prog 101 #[str s] w (Tel2 (fun a c a2 c2 => .tuple #[.agg #[.bool (ng (numV s).1), .slice a (sz (numV s).1.natAbs) c, .slice a2 (sz (numV s).2) c2], .int .i64 0]) (sz (numV s).1.natAbs) (numV s).1.natAbs (sz (numV s).2) (numV s).2 w) := by
  refine enter (S := No) (l := [_]) (L := []) 8 Tryz.func101 rfl rfl rfl (St.start w No) ?_; refine yA ?_; refine w_box rfl (fun b1 gb1 ub1 => ?_)
  refine zA zr46 (fun r gr ur => ?_)
  refine aI rfl ?_; refine yC ?_; refine zg (fun _ => R_makeFunc) ?_; refine w_tel2 (fun w => zR Tryz.func114 rfl rfl rfl) rfl rfl (fun w h => faceF_ok _ _ _ Tryz.func143 rfl rfl [pX b1] _ _ _ _ _ w (fun w1 hx => numeralC_ok b1 s w1 (hx.get (h.at_ 1 rfl) (fun x => x)) hs hT)) (fun x3 a3 c3 a3' c3' hK3 hN3 hK3' hN3' => ?_)
  refine jx rfl rfl ?_; refine jx rfl rfl ?_; refine jv 0 z46 rfl ?_; refine aI rfl ?_; refine yB ?_; refine ze ?_; refine r_fin (.inl rfl) rfl (.agg rfl rfl z46 (fun _ h => h.at_ 0 rfl) rfl (.tmp rfl rfl .nil)) ?_; exact fun w' hw => ⟨_, _, _, _, rfl, (hK3.at_ 0 rfl hw), (hK3'.at_ 0 rfl hw), (hN3 _ zm0), (hN3' _ zm0), hw.fr (w, No) zm1⟩
theorem numeralF_no (s : List UInt8) (w : World) (hs : 400 < s.length ∧ s.length ≤ 1000000) :
    Ret Tryz.prog 101 #[str s] w (fun v w' => v = .tuple #[.agg #[.bool false, .slice none 0 0, .slice none 0 0], .int .i64 3] ∧ Ext w w') := by
  refine enter (S := No) (l := [_]) (L := []) 8 Tryz.func101 rfl rfl rfl (St.start w No) ?_; refine yA ?_; refine w_box rfl (fun b1 gb1 ub1 => ?_)
  refine zA zr46 (fun r gr ur => ?_)
  refine aI rfl ?_; refine yC ?_; refine zg (fun _ => R_makeFunc) ?_; refine jD Tryz.func114 (fun w h => faceF_no _ _ _ Tryz.func143 rfl rfl [pX b1] 3 w (fun w1 hx => numeralC_no b1 s w1 (hx.get (h.at_ 1 rfl) (fun x => x)) hs)) ?_; refine jx rfl rfl ?_; refine jx rfl rfl ?_; refine jv 0 z46 rfl ?_; refine aI rfl ?_; refine yB ?_; refine ze ?_; refine r_fin (.inl rfl) rfl (.agg rfl rfl z46 (fun _ h => h.at_ 0 rfl) rfl (.tmp rfl rfl .nil)) ?_; exact fun w' hw => ⟨rfl, hw.fr (w, No) zm0⟩
end Go.Proofs.YtikdkendinnalaaGreatDoor
end
