/- Layer 13, ParseReads. Part 15 of 16. -/
import Derived.Test.YtaniogadknakoaaGreatDoorR14
set_option maxRecDepth 100000
set_option maxHeartbeats 16000000
section
namespace Go.Proofs.YtaniogadknakoaaGreatDoor
open Go.RowKit Go.Sx
open Go.Tok Go.Tree Go.Prs

theorem decl_r (T : List Tk) (z : Nat) (sv : Value) (u : Nat) (first : Bool) (s : R3) (rb : Nat) (w : World) (a9 : Bool × Dc) (s9 : R3) (hP : Pe w rb T z sv) (hb : w.heap[rb]? = some (Rr sv z s)) (hk : s.k ≤ T.length) (hu : u ≤ 1000000) (h0 : rDecl T z u first s = some (a9, s9)) :
  Ret Tryz.prog 28 #[.pointer (some ⟨rb, 0, none⟩), .bool first] w (QT (Rr sv z) (kl T) rb (fun (d : Bool × Dc) (b : Ad4) => .tuple #[.agg (dcE d.2 b).toArray, .bool d.1]) dcT1 a9 s9 w) := by
 have hlen := hP.len
 have hpb := place_b (k := s.k) hP
 have hG := h0
 unfold rDecl at hG
 refine enter (S := (fun j => j = rb)) (l := [_, _]) (L := [(rb, Rr sv z s)]) 95 Tryz.func28 rfl rfl rfl (St.start1 w hb rfl) (yA (zA zr46 (fun t4b gt4b ut4b => aB rfl (yC (mP rfl (zC (fun w => zR Tryz.func63 rfl rfl rfl) rfl rfl (fun w h => place_r T z sv s rb w (hP.now zm0 h) (h.at_ 1 rfl) hk) (zg (fun _ => R_build bt46 rfl) (zA zr46 (fun t6b gt6b ut6b => zV 0 rfl z46 rfl rfl rfl rfl rfl rfl rfl (yB ?_)))))))))); refine c_cut (fun e B L => ∃ (ty : Nat) (l1 : List Ex) (b1 : Ad) (s1 : R3) (x1 : Bw), e 0 = .pointer (some ⟨rb, 0, none⟩) ∧ e 1 = .bool first ∧ e 4 = .pointer (some ⟨t4b, 0, none⟩) ∧ e 6 = .pointer (some ⟨t6b, 0, none⟩) ∧ B = [x1, (w, fun j => j = rb)] ∧ L = [(t6b, cel [.int .u8 (ty : Nat), .int .i64 ((place z (T.drop s.k)) : Nat), str [], .slice b1.1 l1.length b1.2, .slice none 0 0, .slice none 0 0, .slice none 0 0] 46), (t4b, cel [.int .u8 0, .int .i64 0, str [], .slice none 0 0, .slice none 0 0, .slice none 0 0, .slice none 0 0] 46), (rb, Rr sv z s1)] ∧ rDeclT T z u first ty ((place z (T.drop s.k))) l1 s1 = some (a9, s9) ∧ Kt x1 w.heap.size exsV l1 b1 ∧ ty < 256 ∧ s1.k ≤ T.length) ?_ ?_
 ·refine yA (mP rfl ?_); refine zQ (T := T) (s := s) (s1 := wantR T z s [97, 114, 114, 97, 121]) (x := [97, 114, 114, 97, 121]) (ob := Rr sv z) 2 rfl (fun w => zR Tryz.func61 rfl rfl rfl) rfl rfl (fun w h => may_r T z sv s rb w (hP.now zm0 h) (h.at_ 2 rfl) hk [97, 114, 114, 97, 121]) (fun hi3 => ?_) (fun hi3 => ?_)
  ·have hG4 := (if_pos hi3).symm.trans hG
   try dsimp only at hG4
   simp only [rSizeD, Option.bind_assoc, Option.bind_some] at hG4
   have hlt3 := isR_lt hi3; have hkw3 : (wantR T z s [97, 114, 114, 97, 121]).k ≤ T.length := wantR_k hk
   refine yB (zE rfl (yA (mP rfl (zW (ob := Rr sv z) (s1 := (wantR T z (wantR T z s [97, 114, 114, 97, 121]) [91])) (v0 := .tuple #[]) 2 rfl (fun w => zR Tryz.func27 rfl rfl rfl) rfl rfl (fun w h => want_r T z sv (wantR T z s [97, 114, 114, 97, 121]) rb w (hP.now zm0 h) (h.at_ 2 rfl) hkw3 [91]) ?_))))
   have hk5 : (wantR T z (wantR T z s [97, 114, 114, 97, 121]) [91]).k ≤ T.length := (wantR_k hkw3)
   refine yC (mP rfl (w_rt (rb := rb) (ob := Rr sv z) (ok := kl T) (V := (fun e b => .agg (exE e b).toArray)) 2 rfl zm0 TL.ext hG4 (fun w => zR Tryz.func35 rfl rfl rfl) rfl rfl (fun a s9 hX w h => (exr_all T z sv u).2.1 (wantR T z (wantR T z s [97, 114, 114, 97, 121]) [91]) rb w a s9 (hP.now zm0 h) (h.at_ 2 rfl) hk5 (by omega) hX) (fun e6 s6 b6 w6 hX6 hG6 hk6 hK6 => ?_)))
   try dsimp only at hG6
   refine zS slt37 (by decide) rfl rfl (fun sb7 gsb7 usb7 => ?_)
   have hsb7 : w.heap.size ≤ sb7 := usb7 (w, fun j => j = rb) (by simp)
   refine w_let (fun w7 h7 hN7 => ?_)
   have hL7 : Kt (w7, inL _) w.heap.size exsV [e6] (some ⟨sb7, 0, none⟩, 1) := exsV.one (hK6.now TL.ext zm0 (h7.drop (List.sublist_cons_self _ _))) (h7.at_ 0 rfl) (hN7 _ hsb7); clear h7 hN7
   refine zf fa46_3 rfl (zV 0 rfl z37 rfl rfl rfl rfl rfl rfl rfl (yC (mP rfl (zW (ob := Rr sv z) (s1 := (wantR T z s6 [93])) (v0 := .tuple #[]) 2 rfl (fun w => zR Tryz.func27 rfl rfl rfl) rfl rfl (fun w h => want_r T z sv s6 rb w (hP.now zm2 h) (h.at_ 2 rfl) hk6 [93]) ?_))))
   have hk8 : (wantR T z s6 [93]).k ≤ T.length := (wantR_k hk6)
   refine yC (mP rfl ?_)
   have hG9 := hG6
   unfold rDeclA at hG9; try dsimp only at hG9
   refine zQ (T := T) (s := (wantR T z s6 [93])) (s1 := wantR T z (wantR T z s6 [93]) [105, 110, 116]) (x := [105, 110, 116]) (ob := Rr sv z) 2 rfl (fun w => zR Tryz.func61 rfl rfl rfl) rfl rfl (fun w h => may_r T z sv (wantR T z s6 [93]) rb w (hP.now zm2 h) (h.at_ 2 rfl) hk8 [105, 110, 116]) (fun hi10 => ?_) (fun hi10 => ?_)
   ·have hG11 := (if_pos hi10).symm.trans hG9
    try dsimp only at hG11
    have hlt10 := isR_lt hi10; have hkw10 : (wantR T z (wantR T z s6 [93]) [105, 110, 116]).k ≤ T.length := wantR_k hk8
    refine yB (zE rfl (zr (zf fa46_0 rfl (zV 0 rfl z5 rfl rfl rfl rfl rfl rfl rfl (zn (zK (B' := _) (L' := [_, _, _]) (fun w h => h) (k_base (fun w9 h9 => zK (fun w' h => h.keep2 zm2) ?_)))))))); exact k_mid ⟨4, [e6], (some ⟨sb7, 0, none⟩, 1), (wantR T z (wantR T z s6 [93]) [105, 110, 116]), _, rfl, rfl, rfl, rfl, rfl, rfl, hG11, hL7.now TL.exs zm0 h9, by decide, hkw10⟩
   ·have hG12 := (if_neg (nf hi10)).symm.trans hG9
    try dsimp only at hG12
    refine yB (zG rfl (yA (mP rfl (zW (ob := Rr sv z) (s1 := (wantR T z (wantR T z s6 [93]) [114, 101, 97, 108])) (v0 := .tuple #[]) 2 rfl (fun w => zR Tryz.func27 rfl rfl rfl) rfl rfl (fun w h => want_r T z sv (wantR T z s6 [93]) rb w (hP.now zm2 h) (h.at_ 2 rfl) hk8 [114, 101, 97, 108]) ?_))))
    have hk13 : (wantR T z (wantR T z s6 [93]) [114, 101, 97, 108]).k ≤ T.length := (wantR_k hk8)
    refine yB (zr (zf fa46_0 rfl (zV 0 rfl z5 rfl rfl rfl rfl rfl rfl rfl (zn (zK (B' := _) (L' := [_, _, _]) (fun w h => h) (k_base (fun w9 h9 => zK (fun w' h => h.keep2 zm2) ?_))))))); exact k_mid ⟨5, [e6], (some ⟨sb7, 0, none⟩, 1), (wantR T z (wantR T z s6 [93]) [114, 101, 97, 108]), _, rfl, rfl, rfl, rfl, rfl, rfl, hG12, hL7.now TL.exs zm0 h9, by decide, hk13⟩
  ·have hG14 := (if_neg (nf hi3)).symm.trans hG
   try dsimp only at hG14
   refine yB (zG rfl (yA (mP rfl ?_))); refine zQ (T := T) (s := s) (s1 := wantR T z s [105, 110, 116]) (x := [105, 110, 116]) (ob := Rr sv z) 2 rfl (fun w => zR Tryz.func61 rfl rfl rfl) rfl rfl (fun w h => may_r T z sv s rb w (hP.now zm0 h) (h.at_ 2 rfl) hk [105, 110, 116]) (fun hi15 => ?_) (fun hi15 => ?_)
   ·have hG16 := (if_pos hi15).symm.trans hG14
    try dsimp only at hG16
    have hlt15 := isR_lt hi15; have hkw15 : (wantR T z s [105, 110, 116]).k ≤ T.length := wantR_k hk
    refine yB (zE rfl (zr (zf fa46_0 rfl (zV 0 rfl z5 rfl rfl rfl rfl rfl rfl rfl (zn (zK (B' := _) (L' := [_, _, _]) (fun w h => h) (k_base (fun w9 h9 => zK (fun w' h => h.keep2 zm0) ?_)))))))); exact k_mid ⟨1, [], (none, 0), (wantR T z s [105, 110, 116]), _, rfl, rfl, rfl, rfl, rfl, rfl, hG16, exsV.nil, by decide, hkw15⟩
   ·have hG17 := (if_neg (nf hi15)).symm.trans hG14
    try dsimp only at hG17
    refine yB (zG rfl (yA (mP rfl ?_))); refine zQ (T := T) (s := s) (s1 := wantR T z s [114, 101, 97, 108]) (x := [114, 101, 97, 108]) (ob := Rr sv z) 2 rfl (fun w => zR Tryz.func61 rfl rfl rfl) rfl rfl (fun w h => may_r T z sv s rb w (hP.now zm0 h) (h.at_ 2 rfl) hk [114, 101, 97, 108]) (fun hi18 => ?_) (fun hi18 => ?_)
    ·have hG19 := (if_pos hi18).symm.trans hG17
     try dsimp only at hG19
     have hlt18 := isR_lt hi18; have hkw18 : (wantR T z s [114, 101, 97, 108]).k ≤ T.length := wantR_k hk
     refine yB (zE rfl (zr (zf fa46_0 rfl (zV 0 rfl z5 rfl rfl rfl rfl rfl rfl rfl (zn (zK (B' := _) (L' := [_, _, _]) (fun w h => h) (k_base (fun w9 h9 => zK (fun w' h => h.keep2 zm0) ?_)))))))); exact k_mid ⟨2, [], (none, 0), (wantR T z s [114, 101, 97, 108]), _, rfl, rfl, rfl, rfl, rfl, rfl, hG19, exsV.nil, by decide, hkw18⟩
    ·have hG20 := (if_neg (nf hi18)).symm.trans hG17
     try dsimp only at hG20
     refine yB (zG rfl (yA (mP rfl ?_))); refine zQ (T := T) (s := s) (s1 := wantR T z s [118, 101, 99, 116, 111, 114]) (x := [118, 101, 99, 116, 111, 114]) (ob := Rr sv z) 2 rfl (fun w => zR Tryz.func61 rfl rfl rfl) rfl rfl (fun w h => may_r T z sv s rb w (hP.now zm0 h) (h.at_ 2 rfl) hk [118, 101, 99, 116, 111, 114]) (fun hi21 => ?_) (fun hi21 => ?_)
     ·have hG22 := (if_pos hi21).symm.trans hG20
      try dsimp only at hG22
      have hlt21 := isR_lt hi21; have hkw21 : (wantR T z s [118, 101, 99, 116, 111, 114]).k ≤ T.length := wantR_k hk
      refine yB (zE rfl (zr (zf fa46_0 rfl (zV 0 rfl z5 rfl rfl rfl rfl rfl rfl rfl (zn (zK (B' := _) (L' := [_, _, _]) (fun w h => h) (k_base (fun w9 h9 => zK (fun w' h => h.keep2 zm0) ?_)))))))); exact k_mid ⟨3, [], (none, 0), (wantR T z s [118, 101, 99, 116, 111, 114]), _, rfl, rfl, rfl, rfl, rfl, rfl, hG22, exsV.nil, by decide, hkw21⟩
     ·have hG23 := (if_neg (nf hi21)).symm.trans hG20
      try dsimp only at hG23
      refine yB (zG rfl (yA (zY z46 rfl (fun _ h => h.at_ 0 rfl) rfl (zV 1 rfl z46 rfl rfl rfl rfl rfl rfl rfl (aB rfl (yB (ze (zt (?_)))))))))
      obtain ⟨rfl, rfl⟩ := injP hG23
      refine r_fin (.inl rfl) rfl (.agg rfl rfl z46 (fun _ h => h.at_ 1 rfl) rfl (.tmp rfl rfl .nil)) ?_; exact fun w' hw => ⟨((none, 0), (none, 0), (none, 0), (none, 0)), rfl, hk, ⟨exsV.nil, exsV.nil, exsV.nil, exsV.nil⟩, hw.fr _ zm0, hw.at_ 2 rfl⟩
 rintro e B L ⟨ty, l1, b1, s1, x1, e0_1, e1_1, e4_1, e6_1, rfl, rfl, hGt, hK1, hty, hk1⟩
 unfold rDeclT rBounds at hGt
 refine c_cut (fun e B L => ∃ (lo up : List Ex) (bl bu : Ad) (s2 : R3) (x2 : Bw), e 0 = .pointer (some ⟨rb, 0, none⟩) ∧ e 1 = .bool first ∧ e 4 = .pointer (some ⟨t4b, 0, none⟩) ∧ e 6 = .pointer (some ⟨t6b, 0, none⟩) ∧ B = [x2, (w, fun j => j = rb)] ∧ L = [(t6b, cel [.int .u8 (ty : Nat), .int .i64 ((place z (T.drop s.k)) : Nat), str [], .slice b1.1 l1.length b1.2, .slice bl.1 lo.length bl.2, .slice bu.1 up.length bu.2, .slice none 0 0] 46), (t4b, cel [.int .u8 0, .int .i64 0, str [], .slice none 0 0, .slice none 0 0, .slice none 0 0, .slice none 0 0] 46), (rb, Rr sv z s2)] ∧ rDeclU T z u first ty ((place z (T.drop s.k))) l1 lo up s2 = some (a9, s9) ∧ Kt x2 w.heap.size exsV l1 b1 ∧ Kt x2 w.heap.size exsV lo bl ∧ Kt x2 w.heap.size exsV up bu ∧ s2.k ≤ T.length) ?_ ?_
 ·refine yA (mP e0_1 ?_); refine zQ (T := T) (s := s1) (s1 := wantR T z s1 [60]) (x := [60]) (ob := Rr sv z) 2 rfl (fun w => zR Tryz.func61 rfl rfl rfl) rfl rfl (fun w h => may_r T z sv s1 rb w (hP.now zm1 h) (h.at_ 2 rfl) hk1 [60]) (fun hi24 => ?_) (fun hi24 => ?_)
  ·have hG25 := hGt
   rw [if_pos hi24] at hG25
   have hlt24 := isR_lt hi24; have hkw24 : (wantR T z s1 [60]).k ≤ T.length := wantR_k hk1
   refine yB (zE rfl (yA (mP e0_1 ?_))); refine zQ (T := T) (s := (wantR T z s1 [60])) (s1 := wantR T z (wantR T z s1 [60]) [108, 111, 119, 101, 114]) (x := [108, 111, 119, 101, 114]) (ob := Rr sv z) 2 rfl (fun w => zR Tryz.func61 rfl rfl rfl) rfl rfl (fun w h => may_r T z sv (wantR T z s1 [60]) rb w (hP.now zm1 h) (h.at_ 2 rfl) hkw24 [108, 111, 119, 101, 114]) (fun hi26 => ?_) (fun hi26 => ?_)
   ·have hG27 := hG25
    rw [if_pos hi26] at hG27
    simp only [rUpper, Option.bind_assoc, Option.bind_some] at hG27
    have hlt26 := isR_lt hi26; have hkw26 : (wantR T z (wantR T z s1 [60]) [108, 111, 119, 101, 114]).k ≤ T.length := wantR_k hkw24
    refine aB rfl (yB (zq (yA (mB rfl (yB (zE rfl (yA (mP e0_1 (zW (ob := Rr sv z) (s1 := (wantR T z (wantR T z (wantR T z s1 [60]) [108, 111, 119, 101, 114]) [61])) (v0 := .tuple #[]) 2 rfl (fun w => zR Tryz.func27 rfl rfl rfl) rfl rfl (fun w h => want_r T z sv (wantR T z (wantR T z s1 [60]) [108, 111, 119, 101, 114]) rb w (hP.now zm1 h) (h.at_ 2 rfl) hkw26 [61]) ?_)))))))))
    have hk28 : (wantR T z (wantR T z (wantR T z s1 [60]) [108, 111, 119, 101, 114]) [61]).k ≤ T.length := (wantR_k hkw26)
    refine yB (zr (mP e0_1 (w_rt (rb := rb) (ob := Rr sv z) (ok := kl T) (V := (fun e b => .agg (exE e b).toArray)) 2 rfl zm1 TL.ext hG27 (fun w => zR Tryz.func35 rfl rfl rfl) rfl rfl (fun a s9 hX w h => (exr_all T z sv u).2.1 (wantR T z (wantR T z (wantR T z s1 [60]) [108, 111, 119, 101, 114]) [61]) rb w a s9 (hP.now zm1 h) (h.at_ 2 rfl) hk28 (by omega) hX) (fun e29 s29 b29 w29 hX29 hG29 hk29 hK29 => ?_))))
    try dsimp only at hG29
    refine zS slt37 (by decide) rfl rfl (fun sb30 gsb30 usb30 => ?_)
    have hsb30 : w.heap.size ≤ sb30 := usb30 (w, fun j => j = rb) (by simp)
    refine w_let (fun w30 h30 hN30 => ?_)
    have hL30 : Kt (w30, inL _) w.heap.size exsV [e29] (some ⟨sb30, 0, none⟩, 1) := exsV.one (hK29.now TL.ext zm0 (h30.drop (List.sublist_cons_self _ _))) (h30.at_ 0 rfl) (hN30 _ hsb30); clear h30 hN30
    refine zf fa46_4 e6_1 (zV 0 rfl z37 rfl rfl rfl rfl rfl rfl rfl (yB (zq (yA (mB rfl (zg (fun _ => R_not rfl) (mB rfl (zw rfl rfl rfl (mP e0_1 (zw rfl rfl rfl ?_))))))))))
    have hG31 := hG29
    unfold rBoundsB at hG31; try dsimp only at hG31
    refine zQ (T := T) (s := s29) (s1 := wantR T z s29 [44]) (x := [44]) (ob := Rr sv z) 2 rfl (fun w => zR Tryz.func61 rfl rfl rfl) rfl rfl (fun w h => may_r T z sv s29 rb w (hP.now zm3 h) (h.at_ 2 rfl) hk29 [44]) (fun hi32 => ?_) (fun hi32 => ?_)
    ·have hG33 := hG31
     rw [if_pos hi32] at hG33
     simp only [rUpper, Option.bind_assoc, Option.bind_some] at hG33
     have hlt32 := isR_lt hi32; have hkw32 : (wantR T z s29 [44]).k ≤ T.length := wantR_k hk29
     refine zg (v := .bool _) (fun _ => zF rfl rfl) (yB (zE rfl (yA (mP e0_1 (zW (ob := Rr sv z) (s1 := (wantR T z (wantR T z s29 [44]) [117, 112, 112, 101, 114])) (v0 := .tuple #[]) 2 rfl (fun w => zR Tryz.func27 rfl rfl rfl) rfl rfl (fun w h => want_r T z sv (wantR T z s29 [44]) rb w (hP.now zm3 h) (h.at_ 2 rfl) hkw32 [117, 112, 112, 101, 114]) ?_)))))
     have hk34 : (wantR T z (wantR T z s29 [44]) [117, 112, 112, 101, 114]).k ≤ T.length := (wantR_k hkw32)
     refine yC (mP e0_1 (zW (ob := Rr sv z) (s1 := (wantR T z (wantR T z (wantR T z s29 [44]) [117, 112, 112, 101, 114]) [61])) (v0 := .tuple #[]) 2 rfl (fun w => zR Tryz.func27 rfl rfl rfl) rfl rfl (fun w h => want_r T z sv (wantR T z (wantR T z s29 [44]) [117, 112, 112, 101, 114]) rb w (hP.now zm3 h) (h.at_ 2 rfl) hk34 [61]) ?_))
     have hk35 : (wantR T z (wantR T z (wantR T z s29 [44]) [117, 112, 112, 101, 114]) [61]).k ≤ T.length := (wantR_k hk34)
     refine yB (zr (mP e0_1 (w_rt (rb := rb) (ob := Rr sv z) (ok := kl T) (V := (fun e b => .agg (exE e b).toArray)) 2 rfl zm3 TL.ext hG33 (fun w => zR Tryz.func35 rfl rfl rfl) rfl rfl (fun a s9 hX w h => (exr_all T z sv u).2.1 (wantR T z (wantR T z (wantR T z s29 [44]) [117, 112, 112, 101, 114]) [61]) rb w a s9 (hP.now zm3 h) (h.at_ 2 rfl) hk35 (by omega) hX) (fun e36 s36 b36 w36 hX36 hG36 hk36 hK36 => ?_))))
     try dsimp only at hG36
     refine zS slt37 (by decide) rfl rfl (fun sb37 gsb37 usb37 => ?_)
     have hsb37 : w.heap.size ≤ sb37 := usb37 (w, fun j => j = rb) (by simp)
     refine w_let (fun w37 h37 hN37 => ?_)
     have hL37 : Kt (w37, inL _) w.heap.size exsV [e36] (some ⟨sb37, 0, none⟩, 1) := exsV.one (hK36.now TL.ext zm0 (h37.drop (List.sublist_cons_self _ _))) (h37.at_ 0 rfl) (hN37 _ hsb37); clear h37 hN37
     refine zf fa46_5 e6_1 (zV 0 rfl z37 rfl rfl rfl rfl rfl rfl rfl (yB (zr (mP e0_1 (zW (ob := Rr sv z) (s1 := (wantR T z s36 [62])) (v0 := .tuple #[]) 2 rfl (fun w => zR Tryz.func27 rfl rfl rfl) rfl rfl (fun w h => want_r T z sv s36 rb w (hP.now (.tail _ zm4) h) (h.at_ 2 rfl) hk36 [62]) ?_)))))
     have hk38 : (wantR T z s36 [62]).k ≤ T.length := (wantR_k hk36)
     refine zn (zK (B' := _) (L' := [_, _, _]) (fun w h => h) (k_base (fun w9 h9 => zK (fun w' h => h.keep2 (.tail _ zm4)) ?_))); exact k_mid ⟨[e29], [e36], (some ⟨sb30, 0, none⟩, 1), (some ⟨sb37, 0, none⟩, 1), (wantR T z s36 [62]), _, e0_1, e1_1, e4_1, e6_1, rfl, rfl, hG36, hK1.now TL.exs zm4 h9, hL30.now TL.exs zm2 h9, hL37.now TL.exs zm0 h9, hk38⟩
    ·have hG39 := hG31
     rw [if_neg (nf hi32)] at hG39
     simp only [rUpper, Option.bind_assoc, Option.bind_some] at hG39
     refine zg (v := .bool _) (fun _ => zF rfl rfl) (yB (zG rfl (zi (zk (zr (mP e0_1 (zW (ob := Rr sv z) (s1 := (wantR T z s29 [62])) (v0 := .tuple #[]) 2 rfl (fun w => zR Tryz.func27 rfl rfl rfl) rfl rfl (fun w h => want_r T z sv s29 rb w (hP.now zm3 h) (h.at_ 2 rfl) hk29 [62]) ?_)))))))
     have hk40 : (wantR T z s29 [62]).k ≤ T.length := (wantR_k hk29)
     refine zn (zK (B' := _) (L' := [_, _, _]) (fun w h => h) (k_base (fun w9 h9 => zK (fun w' h => h.keep2 zm3) ?_))); exact k_mid ⟨[e29], [], (some ⟨sb30, 0, none⟩, 1), (none, 0), (wantR T z s29 [62]), _, e0_1, e1_1, e4_1, e6_1, rfl, rfl, hG39, hK1.now TL.exs zm2 h9, hL30.now TL.exs zm0 h9, exsV.nil, hk40⟩
   ·have hG41 := hG25
    rw [if_neg (nf hi26)] at hG41
    simp only [rUpper, Option.bind_assoc, Option.bind_some] at hG41
    refine aB rfl (yB (zq (yA (mB rfl (yB (zG rfl (zi (zk (zq (yA (mB rfl (zg (fun _ => R_not rfl) (mB rfl ?_))))))))))))); (iterate 2 refine zs rfl rfl rfl ?_); refine zg (v := .bool _) (fun _ => zT rfl rfl) (yB (zE rfl (yA (mP e0_1 ?_))))
    refine zW (ob := Rr sv z) (s1 := (wantR T z (wantR T z s1 [60]) [117, 112, 112, 101, 114])) (v0 := .tuple #[]) 2 rfl (fun w => zR Tryz.func27 rfl rfl rfl) rfl rfl (fun w h => want_r T z sv (wantR T z s1 [60]) rb w (hP.now zm1 h) (h.at_ 2 rfl) hkw24 [117, 112, 112, 101, 114]) ?_
    have hk42 : (wantR T z (wantR T z s1 [60]) [117, 112, 112, 101, 114]).k ≤ T.length := (wantR_k hkw24)
    refine yC (mP e0_1 (zW (ob := Rr sv z) (s1 := (wantR T z (wantR T z (wantR T z s1 [60]) [117, 112, 112, 101, 114]) [61])) (v0 := .tuple #[]) 2 rfl (fun w => zR Tryz.func27 rfl rfl rfl) rfl rfl (fun w h => want_r T z sv (wantR T z (wantR T z s1 [60]) [117, 112, 112, 101, 114]) rb w (hP.now zm1 h) (h.at_ 2 rfl) hk42 [61]) ?_))
    have hk43 : (wantR T z (wantR T z (wantR T z s1 [60]) [117, 112, 112, 101, 114]) [61]).k ≤ T.length := (wantR_k hk42)
    refine yB (zr (mP e0_1 (w_rt (rb := rb) (ob := Rr sv z) (ok := kl T) (V := (fun e b => .agg (exE e b).toArray)) 2 rfl zm1 TL.ext hG41 (fun w => zR Tryz.func35 rfl rfl rfl) rfl rfl (fun a s9 hX w h => (exr_all T z sv u).2.1 (wantR T z (wantR T z (wantR T z s1 [60]) [117, 112, 112, 101, 114]) [61]) rb w a s9 (hP.now zm1 h) (h.at_ 2 rfl) hk43 (by omega) hX) (fun e44 s44 b44 w44 hX44 hG44 hk44 hK44 => ?_))))
    try dsimp only at hG44
    refine zS slt37 (by decide) rfl rfl (fun sb45 gsb45 usb45 => ?_)
    have hsb45 : w.heap.size ≤ sb45 := usb45 (w, fun j => j = rb) (by simp)
    refine w_let (fun w45 h45 hN45 => ?_)
    have hL45 : Kt (w45, inL _) w.heap.size exsV [e44] (some ⟨sb45, 0, none⟩, 1) := exsV.one (hK44.now TL.ext zm0 (h45.drop (List.sublist_cons_self _ _))) (h45.at_ 0 rfl) (hN45 _ hsb45); clear h45 hN45
    refine zf fa46_5 e6_1 (zV 0 rfl z37 rfl rfl rfl rfl rfl rfl rfl (yB (zr (mP e0_1 (zW (ob := Rr sv z) (s1 := (wantR T z s44 [62])) (v0 := .tuple #[]) 2 rfl (fun w => zR Tryz.func27 rfl rfl rfl) rfl rfl (fun w h => want_r T z sv s44 rb w (hP.now zm3 h) (h.at_ 2 rfl) hk44 [62]) ?_)))))
    have hk46 : (wantR T z s44 [62]).k ≤ T.length := (wantR_k hk44)
    refine zn (zK (B' := _) (L' := [_, _, _]) (fun w h => h) (k_base (fun w9 h9 => zK (fun w' h => h.keep2 zm3) ?_))); exact k_mid ⟨[], [e44], (none, 0), (some ⟨sb45, 0, none⟩, 1), (wantR T z s44 [62]), _, e0_1, e1_1, e4_1, e6_1, rfl, rfl, hG44, hK1.now TL.exs zm2 h9, exsV.nil, hL45.now TL.exs zm0 h9, hk46⟩
  ·have hG47 := hGt
   rw [if_neg (nf hi24)] at hG47
   refine yB (zG rfl (zi (zK (B' := _) (L' := [_, _, _]) (fun w h => h) (k_base (fun w9 h9 => zK (fun w' h => h.keep2 zm1) ?_))))); exact k_mid ⟨[], [], (none, 0), (none, 0), s1, _, e0_1, e1_1, e4_1, e6_1, rfl, rfl, hG47, hK1.now TL.exs zm0 h9, exsV.nil, exsV.nil, hk1⟩
 rintro e B L ⟨lo, up, bl, bu, s2, x2, e0_2, e1_2, e4_2, e6_2, rfl, rfl, hGu, hK2, hKl2, hKu2, hk2⟩
 refine c_cut (fun e B L => ∃ (l2 : List Ex) (b2 : Ad) (s3 : R3) (x3 : Bw), e 0 = .pointer (some ⟨rb, 0, none⟩) ∧ e 1 = .bool first ∧ e 4 = .pointer (some ⟨t4b, 0, none⟩) ∧ e 6 = .pointer (some ⟨t6b, 0, none⟩) ∧ B = [x3, (w, fun j => j = rb)] ∧ L = [(t6b, cel [.int .u8 (ty : Nat), .int .i64 ((place z (T.drop s.k)) : Nat), str [], .slice b2.1 l2.length b2.2, .slice bl.1 lo.length bl.2, .slice bu.1 up.length bu.2, .slice none 0 0] 46), (t4b, cel [.int .u8 0, .int .i64 0, str [], .slice none 0 0, .slice none 0 0, .slice none 0 0, .slice none 0 0] 46), (rb, Rr sv z s3)] ∧ rDeclN T z u first ty ((place z (T.drop s.k))) l2 lo up s3 = some (a9, s9) ∧ Kt x3 w.heap.size exsV l2 b2 ∧ Kt x3 w.heap.size exsV lo bl ∧ Kt x3 w.heap.size exsV up bu ∧ s3.k ≤ T.length) ?_ ?_
 ·refine yA (zf fa46_0 e6_2 (zL 0 z5 rfl rfl rfl (zg (fun _ => R_eq rfl rfl) (yB ?_)))); refine zD rfl (fun h48 => ?_) (fun h48 => ?_)
  ·have hG49 := hGu
   unfold rDeclU at hG49; rw [if_pos (show ty = 3 by omega)] at hG49
   simp only [rSizeD, Option.bind_assoc, Option.bind_some] at hG49
   refine yA (mP e0_2 (zW (ob := Rr sv z) (s1 := (wantR T z s2 [91])) (v0 := .tuple #[]) 2 rfl (fun w => zR Tryz.func27 rfl rfl rfl) rfl rfl (fun w h => want_r T z sv s2 rb w (hP.now zm1 h) (h.at_ 2 rfl) hk2 [91]) ?_))
   have hk50 : (wantR T z s2 [91]).k ≤ T.length := (wantR_k hk2)
   refine yC (mP e0_2 (w_rt (rb := rb) (ob := Rr sv z) (ok := kl T) (V := (fun e b => .agg (exE e b).toArray)) 2 rfl zm1 TL.ext hG49 (fun w => zR Tryz.func35 rfl rfl rfl) rfl rfl (fun a s9 hX w h => (exr_all T z sv u).2.1 (wantR T z s2 [91]) rb w a s9 (hP.now zm1 h) (h.at_ 2 rfl) hk50 (by omega) hX) (fun e51 s51 b51 w51 hX51 hG51 hk51 hK51 => ?_)))
   try dsimp only at hG51
   refine zS slt37 (by decide) rfl rfl (fun sb52 gsb52 usb52 => ?_)
   have hsb52 : w.heap.size ≤ sb52 := usb52 (w, fun j => j = rb) (by simp)
   refine w_let (fun w52 h52 hN52 => ?_)
   have hL52 : Kt (w52, inL _) w.heap.size exsV [e51] (some ⟨sb52, 0, none⟩, 1) := exsV.one (hK51.now TL.ext zm0 (h52.drop (List.sublist_cons_self _ _))) (h52.at_ 0 rfl) (hN52 _ hsb52); clear h52 hN52
   refine zf fa46_3 e6_2 (zV 0 rfl z37 rfl rfl rfl rfl rfl rfl rfl (yB (zr (mP e0_2 (zW (ob := Rr sv z) (s1 := (wantR T z s51 [93])) (v0 := .tuple #[]) 2 rfl (fun w => zR Tryz.func27 rfl rfl rfl) rfl rfl (fun w h => want_r T z sv s51 rb w (hP.now zm3 h) (h.at_ 2 rfl) hk51 [93]) ?_)))))
   have hk53 : (wantR T z s51 [93]).k ≤ T.length := (wantR_k hk51)
   refine zn (zK (B' := _) (L' := [_, _, _]) (fun w h => h) (k_base (fun w9 h9 => zK (fun w' h => h.keep2 zm3) ?_))); exact k_mid ⟨[e51], (some ⟨sb52, 0, none⟩, 1), (wantR T z s51 [93]), _, e0_2, e1_2, e4_2, e6_2, rfl, rfl, hG51, hL52.now TL.exs zm0 h9, hKl2.now TL.exs zm2 h9, hKu2.now TL.exs zm2 h9, hk53⟩
  ·have hG54 := hGu
   unfold rDeclU at hG54; rw [if_neg (show ¬ ty = 3 by omega)] at hG54
   refine zi (zK (B' := _) (L' := [_, _, _]) (fun w h => h) (k_base (fun w9 h9 => zK (fun w' h => h.keep2 zm1) ?_))); exact k_mid ⟨l1, b1, s2, _, e0_2, e1_2, e4_2, e6_2, rfl, rfl, hG54, hK2.now TL.exs zm0 h9, hKl2.now TL.exs zm0 h9, hKu2.now TL.exs zm0 h9, hk2⟩
 rintro e B L ⟨l2, b2, s3, x3, e0_3, e1_3, e4_3, e6_3, rfl, rfl, hGn, hK3, hKl3, hKu3, hk3⟩
 unfold rDeclN at hGn
 refine yA (mP e0_3 (zW (ob := Rr sv z) (s1 := (nameR T z s3).2) (v0 := str (nameR T z s3).1) 2 rfl (fun w => zR Tryz.func64 rfl rfl rfl) rfl rfl (fun w h => name_r T z sv s3 rb w (hP.now zm1 h) (h.at_ 2 rfl) hk3) ?_))
 have hk55 : (nameR T z s3).2.k ≤ T.length := (nameR_k hk3)
 refine zf fa46_2 e6_3 (zV 0 rfl z9 rfl rfl rfl rfl rfl rfl rfl (yB ?_))
 refine c_cut (fun e B L => ∃ (l3 : List Ex) (b3 : Ad) (s4 : R3) (x4 : Bw), e 0 = .pointer (some ⟨rb, 0, none⟩) ∧ e 1 = .bool first ∧ e 4 = .pointer (some ⟨t4b, 0, none⟩) ∧ e 6 = .pointer (some ⟨t6b, 0, none⟩) ∧ B = [x4, (w, fun j => j = rb)] ∧ L = [(t6b, cel [.int .u8 (ty : Nat), .int .i64 ((place z (T.drop s.k)) : Nat), str (nameR T z s3).1, .slice b2.1 l2.length b2.2, .slice bl.1 lo.length bl.2, .slice bu.1 up.length bu.2, .slice b3.1 l3.length b3.2] 46), (t4b, cel [.int .u8 0, .int .i64 0, str [], .slice none 0 0, .slice none 0 0, .slice none 0 0, .slice none 0 0] 46), (rb, Rr sv z s4)] ∧ some ((true, (⟨ty, ((place z (T.drop s.k))), (nameR T z s3).1, l2, lo, up, l3⟩ : Dc)), wantR T z s4 [59]) = some (a9, s9) ∧ Kt x4 w.heap.size exsV l2 b2 ∧ Kt x4 w.heap.size exsV lo bl ∧ Kt x4 w.heap.size exsV up bu ∧ Kt x4 w.heap.size exsV l3 b3 ∧ s4.k ≤ T.length) ?_ ?_
 ·refine yA (mB e1_3 (mB rfl ?_)); refine zp (t := 79) rfl (fun h56 => ?_) (fun h56 => ?_)
  ·have hfT : first = true := h56
   refine zw rfl rfl (bV h56) (zf fa46_0 e6_3 (zw rfl rfl (bV h56) (zL 0 z5 rfl rfl rfl (zw rfl rfl (bV h56) (zg (fun _ => R_le rfl rfl) (zg (v := .bool _) (fun _ => zT (bV h56) rfl) (mB rfl ?_))))))); refine zd (t := 84) rfl (fun h57 => ?_) (fun h57 => ?_)
   ·have hle : ty ≤ 3 := (by omega)
    refine zw rfl rfl (bT h57) (mP e0_3 (zw rfl rfl (bT h57) ?_)); refine zQ (T := T) (s := (nameR T z s3).2) (s1 := wantR T z (nameR T z s3).2 [61]) (x := [61]) (ob := Rr sv z) 2 rfl (fun w => zR Tryz.func61 rfl rfl rfl) rfl rfl (fun w h => may_r T z sv (nameR T z s3).2 rb w (hP.now zm1 h) (h.at_ 2 rfl) hk55 [61]) (fun hi58 => ?_) (fun hi58 => ?_)
    ·have hG59 := hGn
     rw [if_pos (by rw [hfT, hi58, decide_eq_true hle]; rfl)] at hG59
     have hlt58 := isR_lt hi58; have hkw58 : (wantR T z (nameR T z s3).2 [61]).k ≤ T.length := wantR_k hk55
     refine zg (v := .bool _) (fun _ => zT (bT h57) rfl) (yB (zE rfl (zr (mP e0_3 (w_rt (rb := rb) (ob := Rr sv z) (ok := kl T) (V := (fun e b => .agg (exE e b).toArray)) 2 rfl zm1 TL.ext hG59 (fun w => zR Tryz.func35 rfl rfl rfl) rfl rfl (fun a s9 hX w h => (exr_all T z sv u).2.1 (wantR T z (nameR T z s3).2 [61]) rb w a s9 (hP.now zm1 h) (h.at_ 2 rfl) hkw58 (by omega) hX) (fun e60 s60 b60 w60 hX60 hG60 hk60 hK60 => ?_))))))
     try dsimp only at hG60
     refine zS slt37 (by decide) rfl rfl (fun sb61 gsb61 usb61 => ?_)
     have hsb61 : w.heap.size ≤ sb61 := usb61 (w, fun j => j = rb) (by simp)
     refine w_let (fun w61 h61 hN61 => ?_)
     have hL61 : Kt (w61, inL _) w.heap.size exsV [e60] (some ⟨sb61, 0, none⟩, 1) := exsV.one (hK60.now TL.ext zm0 (h61.drop (List.sublist_cons_self _ _))) (h61.at_ 0 rfl) (hN61 _ hsb61); clear h61 hN61
     refine zf fa46_6 e6_3 (zV 0 rfl z37 rfl rfl rfl rfl rfl rfl rfl (zn (zK (B' := _) (L' := [_, _, _]) (fun w h => h) (k_base (fun w9 h9 => zK (fun w' h => h.keep2 zm3) ?_))))); exact k_mid ⟨[e60], (some ⟨sb61, 0, none⟩, 1), s60, _, e0_3, e1_3, e4_3, e6_3, rfl, rfl, hG60, hK3.now TL.exs zm2 h9, hKl3.now TL.exs zm2 h9, hKu3.now TL.exs zm2 h9, hL61.now TL.exs zm0 h9, hk60⟩
    ·have hG62 := hGn
     rw [if_neg (by rw [hi58, Bool.and_false]; exact Bool.false_ne_true)] at hG62
     refine zg (v := .bool _) (fun _ => zT (bT h57) rfl) (yB (zG rfl (zi (zK (B' := _) (L' := [_, _, _]) (fun w h => h) (k_base (fun w9 h9 => zK (fun w' h => h.keep2 zm1) ?_)))))); exact k_mid ⟨[], (none, 0), (nameR T z s3).2, _, e0_3, e1_3, e4_3, e6_3, rfl, rfl, hG62, hK3.now TL.exs zm0 h9, hKl3.now TL.exs zm0 h9, hKu3.now TL.exs zm0 h9, exsV.nil, hk55⟩
   ·have hG63 := hGn
    rw [if_neg (by rw [decide_eq_false (show ¬ ty ≤ 3 by omega), Bool.and_false, Bool.false_and]; exact Bool.false_ne_true)] at hG63
    refine zs rfl rfl (bF h57) (zs rfl rfl (bF h57) (zg (v := .bool _) (fun _ => zF (bF h57) rfl) (yB (zG rfl (zi (zK (B' := _) (L' := [_, _, _]) (fun w h => h) (k_base (fun w9 h9 => zK (fun w' h => h.keep2 zm1) ?_)))))))); exact k_mid ⟨[], (none, 0), (nameR T z s3).2, _, e0_3, e1_3, e4_3, e6_3, rfl, rfl, hG63, hK3.now TL.exs zm0 h9, hKl3.now TL.exs zm0 h9, hKu3.now TL.exs zm0 h9, exsV.nil, hk55⟩
  ·have hG64 := hGn
   rw [if_neg (by rw [show first = false from h56, Bool.false_and, Bool.false_and]; exact Bool.false_ne_true)] at hG64
   refine zs rfl rfl (bV h56) (zs rfl rfl (bV h56) (zs rfl rfl (bV h56) (zg (v := .bool _) (fun _ => zF (bV h56) rfl) (mB rfl ?_)))); (iterate 2 refine zs rfl rfl rfl ?_); refine zg (v := .bool _) (fun _ => zF rfl rfl) (yB (zG rfl (zi (zK (B' := _) (L' := [_, _, _]) (fun w h => h) (k_base (fun w9 h9 => ?_))))))
   refine zK (fun w' h => h.keep2 zm1) ?_; exact k_mid ⟨[], (none, 0), (nameR T z s3).2, _, e0_3, e1_3, e4_3, e6_3, rfl, rfl, hG64, hK3.now TL.exs zm0 h9, hKl3.now TL.exs zm0 h9, hKu3.now TL.exs zm0 h9, exsV.nil, hk55⟩
 rintro e B L ⟨l3, b3, s4, x4, e0_4, e1_4, e4_4, e6_4, rfl, rfl, hGe, hK4, hKl4, hKu4, hKi4, hk4⟩
 refine yA (mP e0_4 (zW (ob := Rr sv z) (s1 := (wantR T z s4 [59])) (v0 := .tuple #[]) 2 rfl (fun w => zR Tryz.func27 rfl rfl rfl) rfl rfl (fun w h => want_r T z sv s4 rb w (hP.now zm1 h) (h.at_ 2 rfl) hk4 [59]) ?_))
 have hk65 : (wantR T z s4 [59]).k ≤ T.length := (wantR_k hk4)
 refine yC (zY z46 e6_4 (fun _ h => h.at_ 0 rfl) rfl (zV 1 rfl z46 e4_4 rfl rfl rfl rfl rfl rfl (aB rfl (yB (ze ?_)))))
 obtain ⟨rfl, rfl⟩ := injP hGe
 refine r_fin (.inl rfl) rfl (.agg rfl e4_4 z46 (fun _ h => h.at_ 1 rfl) rfl (.tmp rfl rfl .nil)) ?_; exact fun w' hw => ⟨(b2, bl, bu, b3), rfl, hk65, ⟨(hK4.fin TL.exs zm0 hw), (hKl4.fin TL.exs zm0 hw), (hKu4.fin TL.exs zm0 hw), (hKi4.fin TL.exs zm0 hw)⟩, hw.fr _ zm1, hw.at_ 2 rfl⟩

theorem head_r (T : List Tk) (z : Nat) (sv : Value) (lt : Nat) (s : R3) (rb : Nat) (w : World) (hP : Pe w rb T z sv) (hb : w.heap[rb]? = some (Rr sv z s)) (hk : s.k ≤ T.length) (hlt9 : lt ≤ 100) :
  Ret Tryz.prog 26 #[.pointer (some ⟨rb, 0, none⟩), .int .i64 ((lt : Int) - 1)] w (fun v w' => v = .tuple #[.int .i64 ((rHead T z lt s).1.1 : Nat), .bool (rHead T z lt s).1.2] ∧ Fr (fun j => j = rb) w w' ∧ w'.heap[rb]? = some (Rr sv z (rHead T z lt s).2)) := by
 have hlen := hP.len
 obtain ⟨r, hr⟩ : ∃ r, rHead T z lt s = r := ⟨_, rfl⟩
 rw [hr]
 have hG := hr
 unfold rHead at hG
 refine enter (S := (fun j => j = rb)) (l := [_, _]) (L := [(rb, Rr sv z s)]) 46 Tryz.func26 rfl rfl rfl (St.start1 w hb rfl) (yA (aI rfl (aB rfl (yB ?_)))); refine c_cut (fun e B L => e 0 = .pointer (some ⟨rb, 0, none⟩) ∧ e 1 = .int .i64 ((lt : Int) - 1) ∧ B = [(w, (fun j => j = rb))] ∧ L = [(rb, Rr sv z s)] ∧ (decide (lt < 1) && isR T s [100, 97, 116, 97]) = false) ?_ ?_
 ·refine yA (mI rfl (zg (fun _ => R_lt rfl rfl) (mB rfl ?_))); refine zd (t := 8) rfl (fun h1 => ?_) (fun h1 => ?_)
  ·refine zw rfl rfl (bT h1) (mP rfl (zw rfl rfl (bT h1) ?_)); refine zQ (T := T) (s := s) (s1 := wantR T z s [100, 97, 116, 97]) (x := [100, 97, 116, 97]) (ob := Rr sv z) 0 rfl (fun w => zR Tryz.func61 rfl rfl rfl) rfl rfl (fun w h => may_r T z sv s rb w (hP.now zm0 h) (h.at_ 0 rfl) hk [100, 97, 116, 97]) (fun hi2 => ?_) (fun hi2 => ?_)
   ·have hG3 := (if_pos (by rw [decide_eq_true (show lt < 1 by omega), hi2]; rfl)).symm.trans hG
    try dsimp only at hG3
    have hlt2 := isR_lt hi2; have hkw2 : (wantR T z s [100, 97, 116, 97]).k ≤ T.length := wantR_k hk
    refine zg (v := .bool _) (fun _ => zT (bT h1) rfl) (yB (zE rfl (yA (aI rfl (aB rfl (yB (ze (zt ((r_two (v := .int _ _) (v2 := .bool _) rfl rfl rfl rfl rfl ?_)))))))))); exact fun w' hw => by subst hG3; exact ⟨rfl, hw.fr _ zm0, hw.at_ 0 rfl⟩
   ·refine zg (v := .bool _) (fun _ => zT (bT h1) rfl) (yB (zG rfl (zi ?_))); exact k_mid ⟨rfl, rfl, rfl, rfl, (by rw [hi2, Bool.and_false])⟩
  ·refine zs rfl rfl (bF h1) (zs rfl rfl (bF h1) (zg (v := .bool _) (fun _ => zF (bF h1) rfl) (yB (zG rfl (zi ?_))))); exact k_mid ⟨rfl, rfl, rfl, rfl, (by rw [decide_eq_false (show ¬ lt < 1 by omega), Bool.false_and])⟩
 rintro e B L ⟨e0_1, e1_1, rfl, rfl, hc1⟩
 have hG4 := (if_neg (nf hc1)).symm.trans hG
 try dsimp only at hG4
 refine c_cut (fun e B L => e 0 = .pointer (some ⟨rb, 0, none⟩) ∧ e 1 = .int .i64 ((lt : Int) - 1) ∧ B = [(w, (fun j => j = rb))] ∧ L = [(rb, Rr sv z s)] ∧ (decide (lt < 4) && isR T s [116, 114, 97, 110, 115, 102, 111, 114, 109, 101, 100]) = false) ?_ ?_
 ·refine yA (mI e1_1 (zg (fun _ => R_lt rfl rfl) (mB rfl ?_))); refine zd (t := 14) rfl (fun h5 => ?_) (fun h5 => ?_)
  ·refine zw rfl rfl (bT h5) (mP e0_1 (zw rfl rfl (bT h5) ?_)); refine zQ (T := T) (s := s) (s1 := wantR T z s [116, 114, 97, 110, 115, 102, 111, 114, 109, 101, 100]) (x := [116, 114, 97, 110, 115, 102, 111, 114, 109, 101, 100]) (ob := Rr sv z) 0 rfl (fun w => zR Tryz.func61 rfl rfl rfl) rfl rfl (fun w h => may_r T z sv s rb w (hP.now zm0 h) (h.at_ 0 rfl) hk [116, 114, 97, 110, 115, 102, 111, 114, 109, 101, 100]) (fun hi6 => ?_) (fun hi6 => ?_)
   ·have hG7 := (if_pos (by rw [decide_eq_true (show lt < 4 by omega), hi6]; rfl)).symm.trans hG4
    try dsimp only at hG7
    have hlt6 := isR_lt hi6; have hkw6 : (wantR T z s [116, 114, 97, 110, 115, 102, 111, 114, 109, 101, 100]).k ≤ T.length := wantR_k hk
    refine zg (v := .bool _) (fun _ => zT (bT h5) rfl) (yB (zE rfl (zq (yA (mI e1_1 (zg (fun _ => R_lt rfl rfl) (mB rfl ?_))))))); refine zd (t := 20) rfl (fun h8 => ?_) (fun h8 => ?_)
    ·refine zw rfl rfl (bT h8) (mP e0_1 (zw rfl rfl (bT h8) ?_)); refine zQ (T := T) (s := (wantR T z s [116, 114, 97, 110, 115, 102, 111, 114, 109, 101, 100])) (s1 := wantR T z (wantR T z s [116, 114, 97, 110, 115, 102, 111, 114, 109, 101, 100]) [100, 97, 116, 97]) (x := [100, 97, 116, 97]) (ob := Rr sv z) 0 rfl (fun w => zR Tryz.func61 rfl rfl rfl) rfl rfl (fun w h => may_r T z sv (wantR T z s [116, 114, 97, 110, 115, 102, 111, 114, 109, 101, 100]) rb w (hP.now zm0 h) (h.at_ 0 rfl) hkw6 [100, 97, 116, 97]) (fun hi9 => ?_) (fun hi9 => ?_)
     ·have hG10 := (if_pos (by rw [decide_eq_true (show lt < 2 by omega), hi9]; rfl)).symm.trans hG7
      try dsimp only at hG10
      have hlt9 := isR_lt hi9; have hkw9 : (wantR T z (wantR T z s [116, 114, 97, 110, 115, 102, 111, 114, 109, 101, 100]) [100, 97, 116, 97]).k ≤ T.length := wantR_k hkw6
      refine zg (v := .bool _) (fun _ => zT (bT h8) rfl) (yB (zE rfl (yA (aI rfl (aB rfl (yB (ze (zt (zt ((r_two (v := .int _ _) (v2 := .bool _) rfl rfl rfl rfl rfl ?_))))))))))); exact fun w' hw => by subst hG10; exact ⟨rfl, hw.fr _ zm0, hw.at_ 0 rfl⟩
     ·have hG11 := (if_neg (by rw [hi9, Bool.and_false]; exact Bool.false_ne_true)).symm.trans hG7
      try dsimp only at hG11
      refine zg (v := .bool _) (fun _ => zT (bT h8) rfl) (yB (zG rfl (zi (zk (yA (mP e0_1 (zW (ob := Rr sv z) (s1 := (wantR T z (wantR T z s [116, 114, 97, 110, 115, 102, 111, 114, 109, 101, 100]) [112, 97, 114, 97, 109, 101, 116, 101, 114, 115])) (v0 := .tuple #[]) 0 rfl (fun w => zR Tryz.func27 rfl rfl rfl) rfl rfl (fun w h => want_r T z sv (wantR T z s [116, 114, 97, 110, 115, 102, 111, 114, 109, 101, 100]) rb w (hP.now zm0 h) (h.at_ 0 rfl) hkw6 [112, 97, 114, 97, 109, 101, 116, 101, 114, 115]) ?_)))))))
      have hk12 : (wantR T z (wantR T z s [116, 114, 97, 110, 115, 102, 111, 114, 109, 101, 100]) [112, 97, 114, 97, 109, 101, 116, 101, 114, 115]).k ≤ T.length := (wantR_k hkw6)
      refine yC (aI rfl (aB rfl (yB (ze (zt ((r_two (v := .int _ _) (v2 := .bool _) rfl rfl rfl rfl rfl ?_))))))); exact fun w' hw => by subst hG11; exact ⟨rfl, hw.fr _ zm0, hw.at_ 0 rfl⟩
    ·have hG13 := (if_neg (by rw [decide_eq_false (show ¬ lt < 2 by omega), Bool.false_and]; exact Bool.false_ne_true)).symm.trans hG7
     try dsimp only at hG13
     refine zs rfl rfl (bF h8) (zs rfl rfl (bF h8) (zg (v := .bool _) (fun _ => zF (bF h8) rfl) (yB (zG rfl (zi (zk (yA (mP e0_1 (zW (ob := Rr sv z) (s1 := (wantR T z (wantR T z s [116, 114, 97, 110, 115, 102, 111, 114, 109, 101, 100]) [112, 97, 114, 97, 109, 101, 116, 101, 114, 115])) (v0 := .tuple #[]) 0 rfl (fun w => zR Tryz.func27 rfl rfl rfl) rfl rfl (fun w h => want_r T z sv (wantR T z s [116, 114, 97, 110, 115, 102, 111, 114, 109, 101, 100]) rb w (hP.now zm0 h) (h.at_ 0 rfl) hkw6 [112, 97, 114, 97, 109, 101, 116, 101, 114, 115]) ?_)))))))))
     have hk14 : (wantR T z (wantR T z s [116, 114, 97, 110, 115, 102, 111, 114, 109, 101, 100]) [112, 97, 114, 97, 109, 101, 116, 101, 114, 115]).k ≤ T.length := (wantR_k hkw6)
     refine yC (aI rfl (aB rfl (yB (ze (zt ((r_two (v := .int _ _) (v2 := .bool _) rfl rfl rfl rfl rfl ?_))))))); exact fun w' hw => by subst hG13; exact ⟨rfl, hw.fr _ zm0, hw.at_ 0 rfl⟩
   ·refine zg (v := .bool _) (fun _ => zT (bT h5) rfl) (yB (zG rfl (zi ?_))); exact k_mid ⟨e0_1, e1_1, rfl, rfl, (by rw [hi6, Bool.and_false])⟩
  ·refine zs rfl rfl (bF h5) (zs rfl rfl (bF h5) (zg (v := .bool _) (fun _ => zF (bF h5) rfl) (yB (zG rfl (zi ?_))))); exact k_mid ⟨e0_1, e1_1, rfl, rfl, (by rw [decide_eq_false (show ¬ lt < 4 by omega), Bool.false_and])⟩
 rintro e B L ⟨e0_2, e1_2, rfl, rfl, hc4⟩
 have hG15 := (if_neg (nf hc4)).symm.trans hG4
 try dsimp only at hG15
 refine c_cut (fun e B L => e 0 = .pointer (some ⟨rb, 0, none⟩) ∧ e 1 = .int .i64 ((lt : Int) - 1) ∧ B = [(w, (fun j => j = rb))] ∧ L = [(rb, Rr sv z s)] ∧ (decide (lt < 3) && isR T s [112, 97, 114, 97, 109, 101, 116, 101, 114, 115]) = false) ?_ ?_
 ·refine yA (mI e1_2 (zg (fun _ => R_lt rfl rfl) (mB rfl ?_))); refine zd (t := 28) rfl (fun h16 => ?_) (fun h16 => ?_)
  ·refine zw rfl rfl (bT h16) (mP e0_2 (zw rfl rfl (bT h16) ?_)); refine zQ (T := T) (s := s) (s1 := wantR T z s [112, 97, 114, 97, 109, 101, 116, 101, 114, 115]) (x := [112, 97, 114, 97, 109, 101, 116, 101, 114, 115]) (ob := Rr sv z) 0 rfl (fun w => zR Tryz.func61 rfl rfl rfl) rfl rfl (fun w h => may_r T z sv s rb w (hP.now zm0 h) (h.at_ 0 rfl) hk [112, 97, 114, 97, 109, 101, 116, 101, 114, 115]) (fun hi17 => ?_) (fun hi17 => ?_)
   ·have hG18 := (if_pos (by rw [decide_eq_true (show lt < 3 by omega), hi17]; rfl)).symm.trans hG15
    try dsimp only at hG18
    have hlt17 := isR_lt hi17; have hkw17 : (wantR T z s [112, 97, 114, 97, 109, 101, 116, 101, 114, 115]).k ≤ T.length := wantR_k hk
    refine zg (v := .bool _) (fun _ => zT (bT h16) rfl) (yB (zE rfl (yA (aI rfl (aB rfl (yB (ze (zt ((r_two (v := .int _ _) (v2 := .bool _) rfl rfl rfl rfl rfl ?_)))))))))); exact fun w' hw => by subst hG18; exact ⟨rfl, hw.fr _ zm0, hw.at_ 0 rfl⟩
   ·refine zg (v := .bool _) (fun _ => zT (bT h16) rfl) (yB (zG rfl (zi ?_))); exact k_mid ⟨e0_2, e1_2, rfl, rfl, (by rw [hi17, Bool.and_false])⟩
  ·refine zs rfl rfl (bF h16) (zs rfl rfl (bF h16) (zg (v := .bool _) (fun _ => zF (bF h16) rfl) (yB (zG rfl (zi ?_))))); exact k_mid ⟨e0_2, e1_2, rfl, rfl, (by rw [decide_eq_false (show ¬ lt < 3 by omega), Bool.false_and])⟩
 rintro e B L ⟨e0_3, e1_3, rfl, rfl, hc3⟩
 have hG19 := (if_neg (nf hc3)).symm.trans hG15
 try dsimp only at hG19
 refine c_cut (fun e B L => e 0 = .pointer (some ⟨rb, 0, none⟩) ∧ e 1 = .int .i64 ((lt : Int) - 1) ∧ B = [(w, (fun j => j = rb))] ∧ L = [(rb, Rr sv z s)] ∧ (decide (lt < 5) && isR T s [109, 111, 100, 101, 108]) = false) ?_ ?_
 ·refine yA (mI e1_3 (zg (fun _ => R_lt rfl rfl) (mB rfl ?_))); refine zd (t := 34) rfl (fun h20 => ?_) (fun h20 => ?_)
  ·refine zw rfl rfl (bT h20) (mP e0_3 (zw rfl rfl (bT h20) ?_)); refine zQ (T := T) (s := s) (s1 := wantR T z s [109, 111, 100, 101, 108]) (x := [109, 111, 100, 101, 108]) (ob := Rr sv z) 0 rfl (fun w => zR Tryz.func61 rfl rfl rfl) rfl rfl (fun w h => may_r T z sv s rb w (hP.now zm0 h) (h.at_ 0 rfl) hk [109, 111, 100, 101, 108]) (fun hi21 => ?_) (fun hi21 => ?_)
   ·have hG22 := (if_pos (by rw [decide_eq_true (show lt < 5 by omega), hi21]; rfl)).symm.trans hG19
    try dsimp only at hG22
    have hlt21 := isR_lt hi21; have hkw21 : (wantR T z s [109, 111, 100, 101, 108]).k ≤ T.length := wantR_k hk
    refine zg (v := .bool _) (fun _ => zT (bT h20) rfl) (yB (zE rfl (yA (aI rfl (aB rfl (yB (ze (zt ((r_two (v := .int _ _) (v2 := .bool _) rfl rfl rfl rfl rfl ?_)))))))))); exact fun w' hw => by subst hG22; exact ⟨rfl, hw.fr _ zm0, hw.at_ 0 rfl⟩
   ·refine zg (v := .bool _) (fun _ => zT (bT h20) rfl) (yB (zG rfl (zi ?_))); exact k_mid ⟨e0_3, e1_3, rfl, rfl, (by rw [hi21, Bool.and_false])⟩
  ·refine zs rfl rfl (bF h20) (zs rfl rfl (bF h20) (zg (v := .bool _) (fun _ => zF (bF h20) rfl) (yB (zG rfl (zi ?_))))); exact k_mid ⟨e0_3, e1_3, rfl, rfl, (by rw [decide_eq_false (show ¬ lt < 5 by omega), Bool.false_and])⟩
 rintro e B L ⟨e0_4, e1_4, rfl, rfl, hc5⟩
 have hG23 := (if_neg (nf hc5)).symm.trans hG19
 try dsimp only at hG23
 refine c_cut (fun e B L => e 0 = .pointer (some ⟨rb, 0, none⟩) ∧ e 1 = .int .i64 ((lt : Int) - 1) ∧ B = [(w, (fun j => j = rb))] ∧ L = [(rb, Rr sv z s)] ∧ (decide (lt < 6) && isR T s [103, 101, 110, 101, 114, 97, 116, 101, 100]) = false) ?_ ?_
 ·refine yA (mI e1_4 (zg (fun _ => R_lt rfl rfl) (mB rfl ?_))); refine zd (t := 40) rfl (fun h24 => ?_) (fun h24 => ?_)
  ·refine zw rfl rfl (bT h24) (mP e0_4 (zw rfl rfl (bT h24) ?_)); refine zQ (T := T) (s := s) (s1 := wantR T z s [103, 101, 110, 101, 114, 97, 116, 101, 100]) (x := [103, 101, 110, 101, 114, 97, 116, 101, 100]) (ob := Rr sv z) 0 rfl (fun w => zR Tryz.func61 rfl rfl rfl) rfl rfl (fun w h => may_r T z sv s rb w (hP.now zm0 h) (h.at_ 0 rfl) hk [103, 101, 110, 101, 114, 97, 116, 101, 100]) (fun hi25 => ?_) (fun hi25 => ?_)
   ·have hG26 := (if_pos (by rw [decide_eq_true (show lt < 6 by omega), hi25]; rfl)).symm.trans hG23
    try dsimp only at hG26
    have hlt25 := isR_lt hi25; have hkw25 : (wantR T z s [103, 101, 110, 101, 114, 97, 116, 101, 100]).k ≤ T.length := wantR_k hk
    refine zg (v := .bool _) (fun _ => zT (bT h24) rfl) (yB (zE rfl (yA (mP e0_4 (zW (ob := Rr sv z) (s1 := (wantR T z (wantR T z s [103, 101, 110, 101, 114, 97, 116, 101, 100]) [113, 117, 97, 110, 116, 105, 116, 105, 101, 115])) (v0 := .tuple #[]) 0 rfl (fun w => zR Tryz.func27 rfl rfl rfl) rfl rfl (fun w h => want_r T z sv (wantR T z s [103, 101, 110, 101, 114, 97, 116, 101, 100]) rb w (hP.now zm0 h) (h.at_ 0 rfl) hkw25 [113, 117, 97, 110, 116, 105, 116, 105, 101, 115]) ?_)))))
    have hk27 : (wantR T z (wantR T z s [103, 101, 110, 101, 114, 97, 116, 101, 100]) [113, 117, 97, 110, 116, 105, 116, 105, 101, 115]).k ≤ T.length := (wantR_k hkw25)
    refine yC (aI rfl (aB rfl (yB (ze (zt ((r_two (v := .int _ _) (v2 := .bool _) rfl rfl rfl rfl rfl ?_))))))); exact fun w' hw => by subst hG26; exact ⟨rfl, hw.fr _ zm0, hw.at_ 0 rfl⟩
   ·refine zg (v := .bool _) (fun _ => zT (bT h24) rfl) (yB (zG rfl (zi ?_))); exact k_mid ⟨e0_4, e1_4, rfl, rfl, (by rw [hi25, Bool.and_false])⟩
  ·refine zs rfl rfl (bF h24) (zs rfl rfl (bF h24) (zg (v := .bool _) (fun _ => zF (bF h24) rfl) (yB (zG rfl (zi ?_))))); exact k_mid ⟨e0_4, e1_4, rfl, rfl, (by rw [decide_eq_false (show ¬ lt < 6 by omega), Bool.false_and])⟩
 rintro e B L ⟨e0_5, e1_5, rfl, rfl, hc6⟩
 have hG28 := (if_neg (nf hc6)).symm.trans hG23
 try dsimp only at hG28
 refine yA (aI rfl (aB rfl (yB (ze (r_two (v := .int _ _) (v2 := .bool _) rfl rfl rfl rfl rfl ?_))))); exact fun w' hw => by subst hG28; exact ⟨rfl, hw.fr _ zm0, hw.at_ 0 rfl⟩

theorem headR_k {T : List Tk} {z lt : Nat} {s : R3} (hk : s.k ≤ T.length) : (rHead T z lt s).2.k ≤ T.length := by
 unfold rHead
 repeat' split
 all_goals first | exact wantR_k hk | exact wantR_k (wantR_k hk) | exact hk
theorem headR_i {T : List Tk} {z lt : Nat} {s : R3} : (rHead T z lt s).1.1 < 6 := by
 unfold rHead
 repeat' split
 all_goals (dsimp only; omega)
end Go.Proofs.YtaniogadknakoaaGreatDoor
end

section
namespace Go.Proofs.YtaniogadknakoaaGreatDoor
open Go.RowKit Go.Sx
open Go.Tok Go.Tree Go.Prs

theorem endS_yes {T : List Tk} {z : Nat} {s : R3} (hb : badR s = false) (h : s.k < T.length) : endS T z s = failR T z s 130 := by
 unfold endS
 rw [if_pos (by rw [hb, decide_eq_true h]; rfl)]
theorem endS_no {T : List Tk} {z : Nat} {s : R3} (h : ¬ s.k < T.length) : endS T z s = s := by
 unfold endS
 rw [decide_eq_false h, Bool.and_false, if_neg Bool.false_ne_true]
theorem resR_b {α : Type} {T : List Tk} {z : Nat} {e : α} {p : α × R3} {r : α × Fl} (h : resR T z e p = r) (hb : badR (endS T z p.2) = true) : r = (e, (endS T z p.2).f) := by rw [← h, resR, if_pos hb]
theorem resR_g {α : Type} {T : List Tk} {z : Nat} {e : α} {p : α × R3} {r : α × Fl} (h : resR T z e p = r) (hb : badR (endS T z p.2) = false) : r = (p.1, (0, 0)) := by rw [← h, resR, if_neg (nf hb)]

end Go.Proofs.YtaniogadknakoaaGreatDoor
end

section
namespace Go.Proofs.YtaniogadknakoaaGreatDoor
open Go.RowKit Go.Sx
open Go.Tok Go.Tree Go.Prs
abbrev frV (src : Str) : List Value := [.int .i64 ((readP src).2.1 : Nat), .int .i64 ((readP src).2.2 : Nat)]
abbrev frZ : List Value := [.int .i64 0, .int .i64 0]
abbrev pgZ : List Value := [.bool false, .slice none 0 0, .slice none 0 0, .bool false, .slice none 0 0, .slice none 0 0, .bool false, .slice none 0 0, .slice none 0 0, .bool false, .slice none 0 0, .slice none 0 0, .bool false, .slice none 0 0, .slice none 0 0, .bool false, .slice none 0 0, .slice none 0 0]

section
variable {T : List Tk} {z q i : Nat} {f : Bool} {l : List Dc} {ls : List Sm} {s : R3} {α : Type} {F : List Dc × R3 → Option α} {F2 : List Sm × R3 → Option α} {a : α}
theorem dcl_b (h : (if i = 4 then some (l, s) else rDecls T z q f l s).bind F = some a) (hb : badR s = true) : F (l, s) = some a := by
  by_cases h4 : i = 4
  · rw [if_pos h4] at h; exact h
  · rw [if_neg h4] at h
    cases q with
    | zero => rw [rDecls] at h; cases h
    | succ q => rw [rDecls_eq, if_pos hb] at h; exact h
theorem dcl_4 (h : (if i = 4 then some (l, s) else rDecls T z q f l s).bind F = some a) (h4 : i = 4) : F (l, s) = some a := by rw [if_pos h4] at h; exact h
theorem dcl_m (h : (if i = 4 then some (l, s) else rDecls T z q f l s).bind F = some a) (h4 : i ≠ 4) (hb : badR s = false) : ∃ q', q = q' + 1 ∧ (rDecl T z q' f s).bind (fun d => (if d.1.1 = true then (if i = 4 then some (l ++ [d.1.2], d.2) else rDecls T z q' f (l ++ [d.1.2]) d.2) else some (l, d.2)).bind F) = some a := by
  rw [if_neg h4] at h
  cases q with
  | zero => rw [rDecls] at h; cases h
  | succ q =>
    rw [rDecls_eq, if_neg (nf hb), Option.bind_assoc] at h
    refine ⟨q, rfl, ?_⟩
    simp only [if_neg h4]
    exact h
theorem sml_b (h : (if f = true then some (ls, s) else rStmts T z q ls s).bind F2 = some a) (hb : badR s = true) : F2 (ls, s) = some a := by
  by_cases h4 : f = true
  · rw [if_pos h4] at h; exact h
  · rw [if_neg h4] at h
    cases q with
    | zero => rw [rStmts] at h; cases h
    | succ q => rw [rStmts_eq, if_pos hb] at h; exact h
theorem sml_g (h : (if f = true then some (ls, s) else rStmts T z q ls s).bind F2 = some a) (h4 : f = true) : F2 (ls, s) = some a := by rw [if_pos h4] at h; exact h
theorem sml_e (h : (if f = true then some (ls, s) else rStmts T z q ls s).bind F2 = some a) (h4 : f = false) (hb : badR s = false) (he : isR T s [125] = true) : F2 (ls, s) = some a := by
  rw [if_neg (nf h4)] at h
  cases q with
  | zero => rw [rStmts] at h; cases h
  | succ q => rw [rStmts_eq, if_neg (nf hb), if_pos he] at h; exact h
theorem sml_m (h : (if f = true then some (ls, s) else rStmts T z q ls s).bind F2 = some a) (h4 : f = false) (hb : badR s = false) (he : isR T s [125] = false) : ∃ q', q = q' + 1 ∧ (rStmt T z q' s).bind (fun d => (if f = true then some (ls ++ [d.1], d.2) else rStmts T z q' (ls ++ [d.1]) d.2).bind F2) = some a := by
  rw [if_neg (nf h4)] at h
  cases q with
  | zero => rw [rStmts] at h; cases h
  | succ q =>
    rw [rStmts_eq, if_neg (nf hb), if_neg (nf he), Option.bind_assoc] at h
    refine ⟨q, rfl, ?_⟩
    simp only [if_neg (nf h4)]
    exact h
end
theorem perm9 (A a b c : Heap) : (A ++ (a ++ (b ++ c))).Perm ((A ++ c) ++ (a ++ b)) := by
  rw [← List.append_assoc a b c, List.append_assoc A c]; exact List.Perm.append_left A List.perm_append_comm
theorem k_letW {Q : Exit → Act → World → Prop} {c : Cf} {e : Env} {x : Exit} {B : Base} {L W : Heap} (h : ∀ w, St B (L ++ W) w → (∀ s0, (∀ p ∈ W, s0 ≤ p.1) → ∀ p ∈ W, Nb s0 (w, inL L) p.1) → WK c Q x e ((w, inL L) :: B) L) : WK c Q x e B (L ++ W) := by
  unfold WK at *
  intro w hw
  have hn := hw.nd
  rw [List.map_append] at hn
  refine h w hw (fun s0 hs p hp => ⟨hs p hp, lt_of_blk (hw.own p (List.mem_append_right _ hp)), fun hL => ?_⟩) w (hw.drop (List.sublist_append_left _ _)).base1
  exact (List.nodup_append.1 hn).2.2 _ hL _ (List.mem_map_of_mem hp) rfl

theorem rParse_ok (src : Str) (hs : src.length ≤ 10000000) (hne : ∀ fl, parseP src = .error fl → fl.1 ≠ 0) (T : List Tk) (hTe : (readP src).1 = T) (w : World) (hW : Wd w) (hng : 4 ≤ w.heap.size) :
    Ret Tryz.prog 11 #[str src] w (fun v w' => ∃ cs, v = .tuple #[.agg cs.toArray, .agg #[.int .i64 ((resOf (List.replicate 6 noBk) (parseP src)).2.1 : Nat), .int .i64 ((resOf (List.replicate 6 noBk) (parseP src)).2.2 : Nat)]] ∧ pgM w' (Nn w w') (resOf (List.replicate 6 noBk) (parseP src)).1 cs ∧ Ext w w') := by
  refine enter (S := No) (l := [_]) (L := []) 121 Tryz.func11 rfl rfl rfl (St.start w No) (yA (zA zr29 (fun t2b gt2b ut2b => zA zr32 (fun t3b gt3b ut3b => yC (zm (v := str _) rfl (w_callW (R := fun v W => ∃ a c, v = .tuple #[.slice a T.length c, .agg #[.int .i64 ((readP src).2.1 : Nat), .int .i64 ((readP src).2.2 : Nat)]] ∧ Toks (.slice a T.length c) T W) (fun w => zR Tryz.func20 rfl rfl rfl) rfl rfl (fun w h => by subst hTe; exact rRead_spec src hs w) ?_))))))
  rintro v W0 ⟨ta, tc, rfl, hO⟩
  refine w_st (fun w h => h.perm List.perm_append_comm) (zm rfl (zg (fun _ => R_extract rfl rfl) (zg (fun _ => R_extract rfl rfl) (zA zr32 (fun t5b gt5b ut5b => za (v := .slice _ _ _) rfl (zV 0 rfl z32 rfl rfl rfl rfl rfl rfl rfl (yB (zq (yA (zf fa32_0 rfl (zL 0 z30 rfl rfl rfl (zg (fun _ => R_ne rfl rfl) (yB ?_))))))))))))); refine zD rfl (fun h4 => ?_) (fun h4 => ?_)
  · refine zq (c_held (fun w => w.heap[t5b]? = some (cel [.int .i64 ((readP src).2.1 : Nat), .int .i64 ((readP src).2.2 : Nat)] 32)) mixed (zh2 0 rfl rfl (fun w h => h.at_ 0 rfl) (fun w h => R_build bt29 rfl) (zh2 1 rfl rfl (fun w h => h.at_ 0 rfl) (fun w h => R_ldb z32 rfl h rfl) (zH2 2 (fun w h => h.at_ 0 rfl) (zJ 2 rfl rfl z29 rfl rfl rfl rfl rfl rfl rfl (zH2 3 (fun w h => h.at_ 0 rfl) (zJ 1 rfl rfl z32 rfl rfl rfl rfl rfl rfl rfl (zN2 (fun w h => h.at_ 0 rfl) (zk (ze (zt ((r_fin (.inl rfl) rfl (.agg rfl rfl z29 (fun _ h => h.at_ 2 rfl) (by rfl) (.agg rfl rfl z32 (fun _ h => h.at_ 1 rfl) rfl .nil)) ?_))))))))))))); exact fun w' hw => by rw [show parseP src = .error (readP src).2 from face_bad (by omega)]; exact ⟨_, rfl, pgM.zero, hw.fr _ zm0⟩
  · refine zi (zk (yA (mS rfl (zm (v := str _) rfl (zg (fun _ => R_slen st9 rfl (by omega)) (zg (fun _ => R_build bt69 rfl) (w_boxA rfl (fun rb grb urb => ?_))))))))
    obtain ⟨z, hz⟩ : ∃ z, z = src.length := ⟨_, rfl⟩; obtain ⟨sv, hsv⟩ : ∃ sv, sv = Value.slice ta T.length tc := ⟨_, rfl⟩
    refine w_st (B' := _) (L' := [(rb, Rr sv z (S0 0 0)), _, _, _] ++ W0) (fun w h => by rw [hz, hsv]; exact h) ?_
    have hPe : ∀ w', Wd w' → (∀ p ∈ W0, w'.heap[p.1]? = some p.2) → Pe w' rb T z sv := fun w' h1 h2 => ⟨h1, Nat.le_trans hng (urb (w, No) (by simp)), ⟨ta, tc, hsv, fun k t hk => toks_at hO h2 (fun p hp => Nat.ne_of_lt (grb p (by simp [hp]))) hk⟩, by rw [← hTe]; exact readP_len src, by omega, fun t ht => ⟨Nat.le_trans (readP_tx src t (by rw [hTe]; exact ht)) hs, Nat.le_trans ((readP_at src).1 t (by rw [hTe]; exact ht)) hs⟩⟩
    have hlen : T.length ≤ 6000 := (by rw [← hTe]; exact readP_len src)
    have hz0 : (readP src).2.1 = 0 := (by omega)
    obtain ⟨p9, hp9, hr9⟩ := parse_sim (s := src) hz0 hne (m := (4 * fuel T + 24)) (by rw [hTe]; exact Nat.le_refl _); rw [hTe, ← hz] at hp9 hr9
    have hMM : (4 * fuel T + 24) ≤ 1000000 := (by unfold fuel; omega)
    refine za (v := .pointer _) rfl (yC (zA zr29 (fun t7b gt7b ut7b => yC (aI rfl (yB ?_))))); refine c_cut (fun e B L => ∃ (out : List Bk) (cs : List Value) (s1 : R3) (xb : Bw), e 0 = str src ∧ e 2 = .pointer (some ⟨t2b, 0, none⟩) ∧ e 3 = .pointer (some ⟨t3b, 0, none⟩) ∧ e 4 = .slice ta T.length tc ∧ e 5 = .pointer (some ⟨t5b, 0, none⟩) ∧ e 6 = .pointer (some ⟨rb, 0, none⟩) ∧ e 7 = .pointer (some ⟨t7b, 0, none⟩) ∧ B = [xb, (w, No)] ∧ L = [(t7b, cel cs 29), (rb, Rr sv z s1), (t5b, cel (frV src) 32), (t3b, cel frZ 32), (t2b, cel pgZ 29)] ++ W0 ∧ p9 = (out, s1) ∧ Kt xb w.heap.size pgM out cs ∧ cs.length = 18 ∧ s1.k ≤ T.length) ?_ ?_
    · refine zB (c_base (fun w1 hw1 => c_st (B' := _) (L' := [(t7b, cel pgZ 29), (rb, Rr sv z (S0 0 0)), (t5b, cel (frV src) 32), (t3b, cel frZ 32), (t2b, cel pgZ 29)] ++ W0) (fun w' h => h) (c_loop (fun m e B L => ∃ (q lt : Nat) (out : List Bk) (cs : List Value) (s1 : R3) (xb : Bw), e 0 = str src ∧ e 2 = .pointer (some ⟨t2b, 0, none⟩) ∧ e 3 = .pointer (some ⟨t3b, 0, none⟩) ∧ e 4 = .slice ta T.length tc ∧ e 5 = .pointer (some ⟨t5b, 0, none⟩) ∧ e 6 = .pointer (some ⟨rb, 0, none⟩) ∧ e 7 = .pointer (some ⟨t7b, 0, none⟩) ∧ e 8 = .int .i64 ((lt : Int) - 1) ∧ B = [xb, (w, No)] ∧ L = [(t7b, cel cs 29), (rb, Rr sv z s1), (t5b, cel (frV src) 32), (t3b, cel frZ 32), (t2b, cel pgZ 29)] ++ W0 ∧ q ≤ (4 * fuel T + 24) ∧ rProg T z q lt out s1 = some p9 ∧ Kt xb w.heap.size pgM out cs ∧ cs.length = 18 ∧ s1.k ≤ T.length ∧ lt ≤ 6 ∧ m = q + 1) _ ⟨(4 * fuel T + 24), 0, List.replicate 6 noBk, _, (S0 0 0), _, rfl, rfl, rfl, rfl, rfl, rfl, rfl, rfl, rfl, rfl, Nat.le_refl _, hp9, pgM.zero, rfl, Nat.zero_le _, Nat.zero_le _, rfl⟩ ?_)))
      rintro m e B L ⟨q, lt, out, cs, s1, xb, e0_2, e2_2, e3_2, e4_2, e5_2, e6_2, e7_2, e8_2, rfl, rfl, hqm, hG0, hKp, hcl, hk1, hlt6, rfl⟩
      obtain ⟨q', rfl⟩ : ∃ q', q = q' + 1 := (by cases q with | zero => (rw [rProg] at hG0; cases hG0) | succ q' => exact ⟨q', rfl⟩)
      have hG6 := rProg_eq.symm.trans hG0
      try dsimp only at hG6
      refine zq (yA (mP e6_2 (zC (fun w => zR Tryz.func25 rfl rfl rfl) rfl rfl (fun w h => bad_r T z sv s1 rb w (hPe w (hW.now zm1 h) (fun p hp => h.own p (by simp [hp]))) (h.at_ 1 rfl) hk1) ?_)))
      cases hi7 : badR s1
      · have hG8 := (if_neg (nf hi7)).symm.trans hG6
        try dsimp only at hG8
        refine zg (fun _ => R_not rfl) (yB (zE rfl (zi (zk (zB (yA (mP e6_2 (mI e8_2 (zW (ob := Rr sv z) (s1 := (rHead T z lt s1).2) (v0 := .tuple #[.int .i64 ((rHead T z lt s1).1.1 : Nat), .bool (rHead T z lt s1).1.2]) 1 rfl (fun w => zR Tryz.func26 rfl rfl rfl) rfl rfl (fun w h => head_r T z sv lt s1 rb w (hPe w (hW.now zm1 h) (fun p hp => h.own p (by simp [hp]))) (h.at_ 1 rfl) hk1 (by omega)) ?_)))))))))
        have hkh : (rHead T z lt s1).2.k ≤ T.length := headR_k hk1; have hih := headR_i (T := T) (z := z) (lt := lt) (s := s1)
        refine zm (v := .tuple #[.int .i64 ((rHead T z lt s1).1.1 : Nat), .bool (rHead T z lt s1).1.2]) rfl (zg (fun _ => R_extract rfl rfl) (zg (fun _ => R_extract rfl rfl) (aI rfl (za (v := .bool (rHead T z lt s1).1.2) rfl (yB (zq (yA (zm (v := .bool (rHead T z lt s1).1.2) rfl (zg (fun _ => R_not rfl) (yB ?_)))))))))); refine c_condN rfl (fun h9 => ?_) (fun h9 => ?_)
        · have hG10 := (if_neg (by rw [h9]; exact Bool.false_ne_true)).symm.trans hG8
          try dsimp only at hG10
          refine zX (zx (b_past rfl (zx (b_here rfl (?_)))))
          exact k_mid ⟨out, cs, (rHead T z lt s1).2, _, e0_2, e2_2, e3_2, e4_2, e5_2, e6_2, e7_2, rfl, rfl, (Option.some.inj hG10).symm, hKp, hcl, hkh⟩
        · have hG11 := (if_pos h9).symm.trans hG8
          try dsimp only at hG11
          refine zi (zk (yA (mI rfl (aI rfl (yC (zg (fun _ => R_build bt26 rfl) (zA zr26 (fun t11b gt11b ut11b => zV 0 rfl z26 rfl rfl rfl rfl rfl rfl rfl (yB ?_))))))))); refine c_cut (fun e B L => ∃ (i : Nat) (sh : R3), e 0 = str src ∧ e 2 = .pointer (some ⟨t2b, 0, none⟩) ∧ e 3 = .pointer (some ⟨t3b, 0, none⟩) ∧ e 4 = .slice ta T.length tc ∧ e 5 = .pointer (some ⟨t5b, 0, none⟩) ∧ e 6 = .pointer (some ⟨rb, 0, none⟩) ∧ e 7 = .pointer (some ⟨t7b, 0, none⟩) ∧ e 8 = .int .i64 (i : Nat) ∧ e 9 = .int .i64 (i : Nat) ∧ e 11 = .pointer (some ⟨t11b, 0, none⟩) ∧ e 12 = .bool (gv i) ∧ B = [xb, (w, No)] ∧ L = [(t11b, cel [.bool true, .slice none 0 0, .slice none 0 0] 26), (t7b, cel cs 29), (rb, Rr sv z sh), (t5b, cel (frV src) 32), (t3b, cel frZ 32), (t2b, cel pgZ 29)] ++ W0 ∧ (rFill T z q' i sh).bind (fun b => rProg T z q' (i + 1) (out.set i b.1) b.2) = some p9 ∧ i < 6 ∧ sh.k ≤ T.length) ?_ ?_
          · refine zr (mI rfl (zg (fun _ => R_eq rfl rfl) (mB rfl ?_))); refine zd (t := 45) rfl (fun h13 => ?_) (fun h13 => ?_)
            · refine zs rfl rfl (bT h13) (zs rfl rfl (bT h13) (zg (v := .bool _) (fun _ => zT (bT h13) rfl) (aB rfl (zn ?_)))); exact k_mid ⟨(rHead T z lt s1).1.1, (rHead T z lt s1).2, e0_2, e2_2, e3_2, e4_2, e5_2, e6_2, e7_2, rfl, rfl, rfl, (congrArg Value.bool (by rw [show (rHead T z lt s1).1.1 = 0 by omega]; rfl)), rfl, rfl, hG11, hih, hkh⟩
            · refine zw rfl rfl (bF h13) (mI rfl (zw rfl rfl (bF h13) (zg (fun _ => R_eq rfl rfl) (zg (v := .bool _) (fun _ => zF (bF h13) rfl) (aB rfl (zn ?_)))))); exact k_mid ⟨(rHead T z lt s1).1.1, (rHead T z lt s1).2, e0_2, e2_2, e3_2, e4_2, e5_2, e6_2, e7_2, rfl, rfl, rfl, (congrArg Value.bool (by have h0 : ¬ (rHead T z lt s1).1.1 = 0 := (by omega); have h2 : ((rHead T z lt s1).1.1 : Int) = 2 ↔ (rHead T z lt s1).1.1 = 2 := (by omega); unfold gv; rw [decide_eq_false h0, Bool.false_or]; exact decide_eq_decide.2 h2)), rfl, rfl, hG11, hih, hkh⟩
          rintro e B L ⟨i, sh, e0_3, e2_3, e3_3, e4_3, e5_3, e6_3, e7_3, e8_3, e9_3, e11_3, e12_3, rfl, rfl, hGf, hi6, hksh⟩
          refine yA (mP e6_3 ?_)
          have hG14 := hGf; simp only [rFill, Option.bind_assoc, Option.bind_some] at hG14
          refine zW (ob := Rr sv z) (s1 := (wantR T z sh [123])) (v0 := .tuple #[]) 2 rfl (fun w => zR Tryz.func27 rfl rfl rfl) rfl rfl (fun w h => want_r T z sv sh rb w (hPe w (hW.now zm1 h) (fun p hp => h.own p (by simp [hp]))) (h.at_ 2 rfl) hksh [123]) ?_
          have hk15 : (wantR T z sh [123]).k ≤ T.length := (wantR_k hksh)
          refine yB ?_
          refine c_cut (fun e B L => ∃ (l2 : List Dc) (n2 : Nat) (a2 : Option Addr) (c2 : Nat) (xs2 : List Value) (W2 : Heap) (s3 : R3) (x3 : Bw), e 0 = str src ∧ e 2 = .pointer (some ⟨t2b, 0, none⟩) ∧ e 3 = .pointer (some ⟨t3b, 0, none⟩) ∧ e 4 = .slice ta T.length tc ∧ e 5 = .pointer (some ⟨t5b, 0, none⟩) ∧ e 6 = .pointer (some ⟨rb, 0, none⟩) ∧ e 7 = .pointer (some ⟨t7b, 0, none⟩) ∧ e 8 = .int .i64 (i : Nat) ∧ e 9 = .int .i64 (i : Nat) ∧ e 11 = .pointer (some ⟨t11b, 0, none⟩) ∧ e 12 = .bool (gv i) ∧ B = [x3, (w, No)] ∧ L = [(t11b, cel [.bool true, .slice a2 n2 c2, .slice none 0 0] 26), (t7b, cel cs 29), (rb, Rr sv z s3), (t5b, cel (frV src) 32), (t3b, cel frZ 32), (t2b, cel pgZ 29)] ++ (W2 ++ W0) ∧ (rFillS T z q' i s3).bind (fun y => rProg T z q' (i + 1) (out.set i (⟨true, l2, y.1⟩ : Bk)) (wantR T z y.2 [125])) = some p9 ∧ Own 46 7 (.slice a2 n2 c2) xs2 n2 W2 ∧ Kt x3 w.heap.size (Mc 7 dcM) l2 xs2 ∧ n2 = l2.length ∧ Kt x3 w.heap.size pgM out cs ∧ s3.k ≤ T.length) ?_ ?_
          · refine zB (c_base (fun wd hwd => ?_))
            have hKq := hKp.now TL.pg zm0 hwd
            refine c_st (fun w' h => h.keep2 zm1) (c_st (B' := _) (L' := [(t11b, cel [.bool true, .slice none 0 0, .slice none 0 0] 26), (t7b, cel cs 29), (rb, Rr sv z (wantR T z sh [123])), (t5b, cel (frV src) 32), (t3b, cel frZ 32), (t2b, cel pgZ 29)] ++ ([] ++ W0)) (fun w' h => h) (c_loop (fun m e B L => ∃ (qd : Nat) (l : List Dc) (s2 : R3) (n : Nat) (a : Option Addr) (c : Nat) (xs : List Value) (W : Heap) (x2 : Bw), e 0 = str src ∧ e 2 = .pointer (some ⟨t2b, 0, none⟩) ∧ e 3 = .pointer (some ⟨t3b, 0, none⟩) ∧ e 4 = .slice ta T.length tc ∧ e 5 = .pointer (some ⟨t5b, 0, none⟩) ∧ e 6 = .pointer (some ⟨rb, 0, none⟩) ∧ e 7 = .pointer (some ⟨t7b, 0, none⟩) ∧ e 8 = .int .i64 (i : Nat) ∧ e 9 = .int .i64 (i : Nat) ∧ e 11 = .pointer (some ⟨t11b, 0, none⟩) ∧ e 12 = .bool (gv i) ∧ B = [x2, (w, No)] ∧ L = [(t11b, cel [.bool true, .slice a n c, .slice none 0 0] 26), (t7b, cel cs 29), (rb, Rr sv z s2), (t5b, cel (frV src) 32), (t3b, cel frZ 32), (t2b, cel pgZ 29)] ++ (W ++ W0) ∧ qd ≤ q' ∧ (if i = 4 then some (l, s2) else rDecls T z qd (!gv i) l s2).bind (fun x => (rFillS T z q' i x.2).bind (fun y => rProg T z q' (i + 1) (out.set i (⟨true, x.1, y.1⟩ : Bk)) (wantR T z y.2 [125]))) = some p9 ∧ Own 46 7 (.slice a n c) xs n W ∧ Kt x2 w.heap.size (Mc 7 dcM) l xs ∧ n = l.length ∧ n + qd ≤ q' ∧ Kt x2 w.heap.size pgM out cs ∧ s2.k ≤ T.length ∧ m = qd + 1) _ ⟨q', [], (wantR T z sh [123]), 0, none, 0, [], [], _, e0_3, e2_3, e3_3, e4_3, e5_3, e6_3, e7_3, e8_3, e9_3, e11_3, e12_3, rfl, rfl, Nat.le_refl _, hG14, Own.nil _ _, Mc.nil, rfl, (by omega), hKq, hk15, rfl⟩ ?_))
            rintro m e B L ⟨qd, l, s2, n, a, c, xs, W, x2, e0_5, e2_5, e3_5, e4_5, e5_5, e6_5, e7_5, e8_5, e9_5, e11_5, e12_5, rfl, rfl, hqd, hG1, hO1, hKl, hnl, hnq, hKq, hk2, rfl⟩
            refine zq (yA (mP e6_5 (zC (fun w => zR Tryz.func25 rfl rfl rfl) rfl rfl (fun w h => bad_r T z sv s2 rb w (hPe w (hW.now zm1 h) (fun p hp => h.own p (by simp [hp]))) (h.at_ 2 rfl) hk2) ?_)))
            cases hi16 : badR s2
            · have hbf := hi16
              refine zg (fun _ => R_not rfl) (mB rfl (zw rfl rfl rfl (mI e9_5 (zw rfl rfl rfl (zg (fun _ => R_ne rfl rfl) (zg (v := .bool _) (fun _ => zT rfl rfl) (yB ?_))))))); refine zD rfl (fun h17 => ?_) (fun h17 => ?_)
              · obtain ⟨qe, rfl, hG18⟩ := dcl_m hG1 (show i ≠ 4 by omega) hbf
                refine zi (zk (zB (yA (mP e6_5 (mB e12_5 (zg (fun _ => R_not rfl) (w_rt (rb := rb) (ob := Rr sv z) (ok := kl T) (V := (fun (d : Bool × Dc) (b : Ad4) => .tuple #[.agg (dcE d.2 b).toArray, .bool d.1])) 2 rfl zm1 TL.dct1 hG18 (fun w => zR Tryz.func28 rfl rfl rfl) rfl rfl (fun a s9 hX w h => decl_r T z sv qe (!gv i) s2 rb w a s9 (hPe w (hW.now zm1 h) (fun p hp => h.own p (by simp [hp]))) (h.at_ 2 rfl) hk2 (by omega) hX) (fun e19 s19 b19 w19 hX19 hG19 hk19 hK19 => ?_))))))))
                try dsimp only at hG19
                refine zm rfl (zg (fun _ => R_extract rfl rfl) (zg (fun _ => R_extract rfl rfl) (zA zr46 (fun t13b gt13b ut13b => zV 0 rfl z46 rfl rfl rfl rfl rfl rfl rfl (aB rfl (yB (zq (yA (mB rfl (zg (fun _ => R_not rfl) (yB ?_))))))))))); refine c_condN rfl (fun h21 => ?_) (fun h21 => ?_)
                · have hG22 := hG19; rw [if_neg (by rw [h21]; exact Bool.false_ne_true)] at hG22
                  dsimp only [Option.bind_some] at hG22
                  refine zX (zx (b_past rfl (zx (b_here rfl ((zK (B' := _) (L' := [(t11b, cel [.bool true, .slice a n c, .slice none 0 0] 26), (t7b, cel cs 29), (rb, Rr sv z s19), (t5b, cel (frV src) 32), (t3b, cel frZ 32), (t2b, cel pgZ 29)] ++ (W ++ W0)) (fun w' h => St.pickT [_, _, _, _, _, _, _] h [1, 2, 3, 4, 5, 6] (by decide)) (k_base (fun w9 h9 => zK (fun w' h => h.keep2 zm2) ?_)))))))); exact k_mid ⟨l, n, a, c, _, W, s19, _, e0_5, e2_5, e3_5, e4_5, e5_5, e6_5, e7_5, e8_5, e9_5, e11_5, e12_5, rfl, rfl, hG22, hO1, hKl.now (TL.cells TL.dc) zm1 h9, hnl, hKq.now TL.pg zm1 h9, hk19⟩
                · have hG23 := hG19; rw [if_pos h21] at hG23
                  refine zi (zk (zr (zf fa26_1 e11_5 (zL 1 z23 rfl rfl rfl (zY z46 rfl (fun _ h => h.at_ 0 rfl) rfl (zS slt23 (by decide) rfl rfl (fun sb gsb usb => w_st (B' := _) (L' := [(sb, cel (dcE e19.2 b19) 46), (t13b, cel (dcE e19.2 b19) 46), (t11b, cel [.bool true, .slice a n c, .slice none 0 0] 26), _, _, _, _, _] ++ (W ++ W0)) (fun w h => h) (w_app (L := W0) (W := W) (news := dcE e19.2 b19) [_, _, _, _, _, _, _, _] slt23 (by decide) rfl hO1 rfl rfl (row_own 0 rfl (fun j u h => h)) rfl (by decide) (by omega) (by omega) (fun v2 W2 hO2 => ?_)))))))))
                  obtain ⟨a2, c2, rfl⟩ := hO2.slice
                  refine zf fa26_1 e11_5 (zV 2 rfl z23 rfl rfl rfl rfl rfl rfl rfl (zn (zO ((zK (B' := _) (L' := [(t11b, cel [.bool true, .slice a2 (n + 1) c2, .slice none 0 0] 26), (t7b, cel cs 29), (rb, Rr sv z s19), (t5b, cel (frV src) 32), (t3b, cel frZ 32), (t2b, cel pgZ 29)] ++ (W2 ++ W0)) (fun w' h => St.pickT [_, _, _, _, _, _, _, _] h [2, 3, 4, 5, 6, 7] (by decide)) (k_base (fun w9 h9 => zK (fun w' h => h.keep2 zm2) ?_))))))); exact k_again _ (by omega) ⟨qe, l ++ [e19.2], s19, n + 1, a2, c2, _, W2, _, e0_5, e2_5, e3_5, e4_5, e5_5, e6_5, e7_5, e8_5, e9_5, e11_5, e12_5, rfl, rfl, by omega, hG23, hO2, (hKl.now (TL.cells TL.dc) zm1 h9).snocD (hK19.now TL.dct1 zm0 h9) (by rw [← hnl]; exact hO1.1), (by rw [List.length_append, List.length_singleton]; omega), by omega, hKq.now TL.pg zm1 h9, hk19, rfl⟩
              · have hG24 := dcl_4 hG1 (show i = 4 by omega)
                try dsimp only at hG24
                refine zX (zx (zx (b_here rfl ((zK (B' := _) (L' := [(t11b, cel [.bool true, .slice a n c, .slice none 0 0] 26), (t7b, cel cs 29), (rb, Rr sv z s2), (t5b, cel (frV src) 32), (t3b, cel frZ 32), (t2b, cel pgZ 29)] ++ (W ++ W0)) (fun w' h => h) ?_))))); exact k_mid ⟨l, n, a, c, _, W, s2, _, e0_5, e2_5, e3_5, e4_5, e5_5, e6_5, e7_5, e8_5, e9_5, e11_5, e12_5, rfl, rfl, hG24, hO1, hKl, hnl, hKq, hk2⟩
            · have hG25 := dcl_b hG1 hi16
              try dsimp only at hG25
              refine zg (fun _ => R_not rfl) (mB rfl ?_); (iterate 2 refine zs rfl rfl rfl ?_); refine zg (v := .bool _) (fun _ => zF rfl rfl) (yB (zG rfl (zX (zx (zx (b_here rfl (?_)))))))
              refine zK (B' := _) (L' := [(t11b, cel [.bool true, .slice a n c, .slice none 0 0] 26), (t7b, cel cs 29), (rb, Rr sv z s2), (t5b, cel (frV src) 32), (t3b, cel frZ 32), (t2b, cel pgZ 29)] ++ (W ++ W0)) (fun w' h => h) ?_; exact k_mid ⟨l, n, a, c, _, W, s2, _, e0_5, e2_5, e3_5, e4_5, e5_5, e6_5, e7_5, e8_5, e9_5, e11_5, e12_5, rfl, rfl, hG25, hO1, hKl, hnl, hKq, hk2⟩
          rintro e B L ⟨l2, n2, a2, c2, xs2, W2, s3, x3, e0_4, e2_4, e3_4, e4_4, e5_4, e6_4, e7_4, e8_4, e9_4, e11_4, e12_4, rfl, rfl, hG18, hO2, hKl3, hnl2, hKq3, hk3⟩
          refine c_cut (fun e B L => ∃ (ls : List Sm) (n4 : Nat) (a4 : Option Addr) (c4 : Nat) (xs4 : List Value) (W4 : Heap) (s4 : R3) (x4 : Bw), e 0 = str src ∧ e 2 = .pointer (some ⟨t2b, 0, none⟩) ∧ e 3 = .pointer (some ⟨t3b, 0, none⟩) ∧ e 4 = .slice ta T.length tc ∧ e 5 = .pointer (some ⟨t5b, 0, none⟩) ∧ e 6 = .pointer (some ⟨rb, 0, none⟩) ∧ e 7 = .pointer (some ⟨t7b, 0, none⟩) ∧ e 8 = .int .i64 (i : Nat) ∧ e 9 = .int .i64 (i : Nat) ∧ e 11 = .pointer (some ⟨t11b, 0, none⟩) ∧ e 12 = .bool (gv i) ∧ B = [x4, (w, No)] ∧ L = [(t11b, cel [.bool true, .slice a2 n2 c2, .slice a4 n4 c4] 26), (t7b, cel cs 29), (rb, Rr sv z s4), (t5b, cel (frV src) 32), (t3b, cel frZ 32), (t2b, cel pgZ 29)] ++ (W4 ++ (W2 ++ W0)) ∧ rProg T z q' (i + 1) (out.set i (⟨true, l2, ls⟩ : Bk)) (wantR T z s4 [125]) = some p9 ∧ Own 76 6 (.slice a4 n4 c4) xs4 n4 W4 ∧ Kt x4 w.heap.size (Mc 6 smC) ls xs4 ∧ n4 = ls.length ∧ Kt x4 w.heap.size (Mc 7 dcM) l2 xs2 ∧ Kt x4 w.heap.size pgM out cs ∧ s4.k ≤ T.length) ?_ ?_
          · refine zB (c_st (B' := _) (L' := [(t11b, cel [.bool true, .slice a2 n2 c2, .slice none 0 0] 26), (t7b, cel cs 29), (rb, Rr sv z s3), (t5b, cel (frV src) 32), (t3b, cel frZ 32), (t2b, cel pgZ 29)] ++ ([] ++ (W2 ++ W0))) (fun w' h => h) (c_loop (fun m e B L => ∃ (qs : Nat) (ls : List Sm) (s4 : R3) (n4 : Nat) (a4 : Option Addr) (c4 : Nat) (xs4 : List Value) (W4 : Heap) (x4 : Bw), e 0 = str src ∧ e 2 = .pointer (some ⟨t2b, 0, none⟩) ∧ e 3 = .pointer (some ⟨t3b, 0, none⟩) ∧ e 4 = .slice ta T.length tc ∧ e 5 = .pointer (some ⟨t5b, 0, none⟩) ∧ e 6 = .pointer (some ⟨rb, 0, none⟩) ∧ e 7 = .pointer (some ⟨t7b, 0, none⟩) ∧ e 8 = .int .i64 (i : Nat) ∧ e 9 = .int .i64 (i : Nat) ∧ e 11 = .pointer (some ⟨t11b, 0, none⟩) ∧ e 12 = .bool (gv i) ∧ B = [x4, (w, No)] ∧ L = [(t11b, cel [.bool true, .slice a2 n2 c2, .slice a4 n4 c4] 26), (t7b, cel cs 29), (rb, Rr sv z s4), (t5b, cel (frV src) 32), (t3b, cel frZ 32), (t2b, cel pgZ 29)] ++ (W4 ++ (W2 ++ W0)) ∧ qs ≤ q' ∧ (if gv i = true then some (ls, s4) else rStmts T z qs ls s4).bind (fun y => rProg T z q' (i + 1) (out.set i (⟨true, l2, y.1⟩ : Bk)) (wantR T z y.2 [125])) = some p9 ∧ Own 76 6 (.slice a4 n4 c4) xs4 n4 W4 ∧ Kt x4 w.heap.size (Mc 6 smC) ls xs4 ∧ n4 = ls.length ∧ n4 + qs ≤ q' ∧ Kt x4 w.heap.size (Mc 7 dcM) l2 xs2 ∧ Kt x4 w.heap.size pgM out cs ∧ s4.k ≤ T.length ∧ m = qs + 1) _ ⟨q', [], s3, 0, none, 0, [], [], x3, e0_4, e2_4, e3_4, e4_4, e5_4, e6_4, e7_4, e8_4, e9_4, e11_4, e12_4, rfl, rfl, Nat.le_refl _, hG18, Own.nil _ _, Mc.nil, rfl, (by omega), hKl3, hKq3, hk3, rfl⟩ ?_))
            rintro m e B L ⟨qs, ls, s4, n4, a4, c4, xs4, W4, x4, e0_7, e2_7, e3_7, e4_7, e5_7, e6_7, e7_7, e8_7, e9_7, e11_7, e12_7, rfl, rfl, hqs, hG4, hO4, hKs, hnl4, hnq4, hKl4, hKq4, hk4, rfl⟩
            refine zq (yA (mP e6_7 (zC (fun w => zR Tryz.func25 rfl rfl rfl) rfl rfl (fun w h => bad_r T z sv s4 rb w (hPe w (hW.now zm1 h) (fun p hp => h.own p (by simp [hp]))) (h.at_ 2 rfl) hk4) ?_)))
            cases hi26 : badR s4
            · have hbf := hi26
              refine zg (fun _ => R_not rfl) (mB rfl (zw rfl rfl rfl (mB e12_7 (zw rfl rfl rfl (zg (fun _ => R_not rfl) (zg (v := .bool _) (fun _ => zT rfl rfl) (mB rfl ?_))))))); refine zp (t := 80) rfl (fun h27 => ?_) (fun h27 => ?_)
              · have hgf : gv i = false := (by simpa using h27)
                refine zw rfl rfl (bV h27) (mP e6_7 (zw rfl rfl (bV h27) (zC (fun w => zR Tryz.func29 rfl rfl rfl) rfl rfl (fun w h => is_r T z sv s4 rb w (hPe w (hW.now zm1 h) (fun p hp => h.own p (by simp [hp]))) (h.at_ 2 rfl) hk4 [125]) ?_)))
                cases hi28 : isR T s4 [125]
                · obtain ⟨qe, rfl, hG29⟩ := sml_m hG4 hgf hbf hi28
                  refine zw rfl rfl (bV h27) (zg (fun _ => R_not rfl) (zg (v := .bool _) (fun _ => zT (bV h27) rfl) (yB (zE rfl (zi (zk (zB (c_held (fun _ => True) mixed (zh2 0 rfl rfl (fun _ _ => trivial) (fun w h => R_fa fa26_2 e11_7) (zh2 2 rfl rfl (fun _ _ => trivial) (fun w h => R_move e6_7) ?_)))))))))); refine h_two 1 3 (by kernel_rfl) (fun _ _ => trivial) ?_ ?_
                  · refine o_run rfl rfl rfl (fun w h => R_ld1 z24 rfl (zc 0 rfl rfl h)) (zH2 3 (fun _ _ => trivial) (o_rt (rb := rb) (ob := Rr sv z) (ok := kl T) (V := (fun s b => .agg (smE s b).toArray)) 2 rfl rfl zm1 TL.smt hG29 (fun w => zR Tryz.func30 rfl rfl rfl) rfl rfl (fun a s9 hX w h => (smr_all T z sv qe).1 s4 rb w a s9 (hPe w (hW.now zm1 h) (fun p hp => h.own p (by simp [hp]))) (h.at_ 2 rfl) hk4 (by omega) hX) (fun e30 s30 b30 w30 hX30 hG30 hk30 hK30 => ?_)))
                    try dsimp only at hG30
                    refine zH2 4 (fun _ _ => trivial) (o_bslice rfl slt24 (by decide) rfl rfl (fun sb gsb usb => zH2 5 (fun _ _ => trivial) (o_st (B' := _) (L' := [(sb, cel (smE e30 b30) 76), _, _, _, _, _, _] ++ (W4 ++ (W2 ++ W0))) (fun w h => h) (o_app (L := W2 ++ W0) (W := W4) (news := smE e30 b30) [_, _, _, _, _, _, _] rfl slt24 (by decide) rfl hO4 rfl rfl (row_own 0 rfl (fun j u h => h)) rfl (by decide) (by omega) (by omega) (fun v5 W5 hO5 => ?_)))))
                    obtain ⟨a5, c5, rfl⟩ := hO5.slice
                    refine zh2 6 rfl rfl (fun _ _ => trivial) (fun w h => R_fa fa26_2 e11_7) (zH2 7 (fun _ _ => trivial) (zJ 1 rfl rfl z24 rfl rfl rfl rfl rfl rfl rfl (zN2 (fun _ _ => trivial) (zO ((zK (B' := _) (L' := [(t11b, cel [.bool true, .slice a2 n2 c2, .slice a5 (n4 + 1) c5] 26), (t7b, cel cs 29), (rb, Rr sv z s30), (t5b, cel (frV src) 32), (t3b, cel frZ 32), (t2b, cel pgZ 29)] ++ (W5 ++ (W2 ++ W0))) (fun w' h => St.pickT [_, _, _, _, _, _, _] h [1, 2, 3, 4, 5, 6] (by decide)) (k_base (fun w9 h9 => zK (fun w' h => h.keep2 zm2) ?_)))))))); exact k_again _ (by omega) ⟨qe, ls ++ [e30], s30, n4 + 1, a5, c5, _, W5, _, e0_7, e2_7, e3_7, e4_7, e5_7, e6_7, e7_7, e8_7, e9_7, e11_7, e12_7, rfl, rfl, by omega, hG30, hO5, (hKs.now (TL.cells TL.smc) zm1 h9).snocS (hK30.now TL.smt zm0 h9) (by rw [← hnl4]; exact hO4.1), (by rw [List.length_append, List.length_singleton]; omega), by omega, hKl4.now (TL.cells TL.dc) zm1 h9, hKq4.now TL.pg zm1 h9, hk30, rfl⟩
                  · refine o_rt (rb := rb) (ob := Rr sv z) (ok := kl T) (V := (fun s b => .agg (smE s b).toArray)) 2 rfl rfl zm1 TL.smt hG29 (fun w => zR Tryz.func30 rfl rfl rfl) rfl rfl (fun a s9 hX w h => (smr_all T z sv qe).1 s4 rb w a s9 (hPe w (hW.now zm1 h) (fun p hp => h.own p (by simp [hp]))) (h.at_ 2 rfl) hk4 (by omega) hX) (fun e31 s31 b31 w31 hX31 hG31 hk31 hK31 => ?_)
                    try dsimp only at hG31
                    refine h_two 1 4 (by kernel_rfl) (fun _ _ => trivial) ?_ ?_
                    · refine o_run rfl rfl rfl (fun w h => R_ld1 z24 rfl (zc 0 rfl rfl h)) (zH2 4 (fun _ _ => trivial) (o_bslice rfl slt24 (by decide) rfl rfl (fun sb gsb usb => zH2 5 (fun _ _ => trivial) (o_st (B' := _) (L' := [(sb, cel (smE e31 b31) 76), _, _, _, _, _, _] ++ (W4 ++ (W2 ++ W0))) (fun w h => h) (o_app (L := W2 ++ W0) (W := W4) (news := smE e31 b31) [_, _, _, _, _, _, _] rfl slt24 (by decide) rfl hO4 rfl rfl (row_own 0 rfl (fun j u h => h)) rfl (by decide) (by omega) (by omega) (fun v5 W5 hO5 => ?_))))))
                      obtain ⟨a5, c5, rfl⟩ := hO5.slice
                      refine zh2 6 rfl rfl (fun _ _ => trivial) (fun w h => R_fa fa26_2 e11_7) (zH2 7 (fun _ _ => trivial) (zJ 1 rfl rfl z24 rfl rfl rfl rfl rfl rfl rfl (zN2 (fun _ _ => trivial) (zO ((zK (B' := _) (L' := [(t11b, cel [.bool true, .slice a2 n2 c2, .slice a5 (n4 + 1) c5] 26), (t7b, cel cs 29), (rb, Rr sv z s31), (t5b, cel (frV src) 32), (t3b, cel frZ 32), (t2b, cel pgZ 29)] ++ (W5 ++ (W2 ++ W0))) (fun w' h => St.pickT [_, _, _, _, _, _, _] h [1, 2, 3, 4, 5, 6] (by decide)) (k_base (fun w9 h9 => zK (fun w' h => h.keep2 zm2) ?_)))))))); exact k_again _ (by omega) ⟨qe, ls ++ [e31], s31, n4 + 1, a5, c5, _, W5, _, e0_7, e2_7, e3_7, e4_7, e5_7, e6_7, e7_7, e8_7, e9_7, e11_7, e12_7, rfl, rfl, by omega, hG31, hO5, (hKs.now (TL.cells TL.smc) zm1 h9).snocS (hK31.now TL.smt zm0 h9) (by rw [← hnl4]; exact hO4.1), (by rw [List.length_append, List.length_singleton]; omega), by omega, hKl4.now (TL.cells TL.dc) zm1 h9, hKq4.now TL.pg zm1 h9, hk31, rfl⟩
                    · refine o_bslice rfl slt24 (by decide) rfl rfl (fun sb gsb usb => zH2 1 (fun _ _ => trivial) (o_run rfl rfl rfl (fun w h => R_ld1 z24 rfl (zc 1 rfl rfl h)) (zH2 5 (fun _ _ => trivial) (o_st (B' := _) (L' := [(sb, cel (smE e31 b31) 76), _, _, _, _, _, _] ++ (W4 ++ (W2 ++ W0))) (fun w h => h) (o_app (L := W2 ++ W0) (W := W4) (news := smE e31 b31) [_, _, _, _, _, _, _] rfl slt24 (by decide) rfl hO4 rfl rfl (row_own 0 rfl (fun j u h => h)) rfl (by decide) (by omega) (by omega) (fun v5 W5 hO5 => ?_))))))
                      obtain ⟨a5, c5, rfl⟩ := hO5.slice
                      refine zh2 6 rfl rfl (fun _ _ => trivial) (fun w h => R_fa fa26_2 e11_7) (zH2 7 (fun _ _ => trivial) (zJ 1 rfl rfl z24 rfl rfl rfl rfl rfl rfl rfl (zN2 (fun _ _ => trivial) (zO ((zK (B' := _) (L' := [(t11b, cel [.bool true, .slice a2 n2 c2, .slice a5 (n4 + 1) c5] 26), (t7b, cel cs 29), (rb, Rr sv z s31), (t5b, cel (frV src) 32), (t3b, cel frZ 32), (t2b, cel pgZ 29)] ++ (W5 ++ (W2 ++ W0))) (fun w' h => St.pickT [_, _, _, _, _, _, _] h [1, 2, 3, 4, 5, 6] (by decide)) (k_base (fun w9 h9 => zK (fun w' h => h.keep2 zm2) ?_)))))))); exact k_again _ (by omega) ⟨qe, ls ++ [e31], s31, n4 + 1, a5, c5, _, W5, _, e0_7, e2_7, e3_7, e4_7, e5_7, e6_7, e7_7, e8_7, e9_7, e11_7, e12_7, rfl, rfl, by omega, hG31, hO5, (hKs.now (TL.cells TL.smc) zm1 h9).snocS (hK31.now TL.smt zm0 h9) (by rw [← hnl4]; exact hO4.1), (by rw [List.length_append, List.length_singleton]; omega), by omega, hKl4.now (TL.cells TL.dc) zm1 h9, hKq4.now TL.pg zm1 h9, hk31, rfl⟩
                · have hG32 := sml_e hG4 hgf hbf hi28
                  try dsimp only at hG32
                  refine zw rfl rfl (bV h27) (zg (fun _ => R_not rfl) (zg (v := .bool _) (fun _ => zT (bV h27) rfl) (yB (zG rfl (zX (zx (zx (b_here rfl (?_)))))))))
                  exact k_mid ⟨ls, n4, a4, c4, _, W4, s4, x4, e0_7, e2_7, e3_7, e4_7, e5_7, e6_7, e7_7, e8_7, e9_7, e11_7, e12_7, rfl, rfl, hG32, hO4, hKs, hnl4, hKl4, hKq4, hk4⟩
              · have hG33 := sml_g hG4 (by simpa using h27)
                try dsimp only at hG33
                refine zs rfl rfl (bV h27) (zs rfl rfl (bV h27) (zs rfl rfl (bV h27) (zg (v := .bool _) (fun _ => zF (bV h27) rfl) (yB (zG rfl (zX (zx (zx (b_here rfl (?_))))))))))
                exact k_mid ⟨ls, n4, a4, c4, _, W4, s4, x4, e0_7, e2_7, e3_7, e4_7, e5_7, e6_7, e7_7, e8_7, e9_7, e11_7, e12_7, rfl, rfl, hG33, hO4, hKs, hnl4, hKl4, hKq4, hk4⟩
            · have hG34 := sml_b hG4 hi26
              try dsimp only at hG34
              refine zg (fun _ => R_not rfl) (mB rfl ?_); (iterate 2 refine zs rfl rfl rfl ?_); refine zg (v := .bool _) (fun _ => zF rfl rfl) (mB rfl ?_); (iterate 3 refine zs rfl rfl rfl ?_); refine zg (v := .bool _) (fun _ => zF rfl rfl) (yB (zG rfl (zX (zx (zx (b_here rfl (?_)))))))
              exact k_mid ⟨ls, n4, a4, c4, _, W4, s4, x4, e0_7, e2_7, e3_7, e4_7, e5_7, e6_7, e7_7, e8_7, e9_7, e11_7, e12_7, rfl, rfl, hG34, hO4, hKs, hnl4, hKl4, hKq4, hk4⟩
          rintro e B L ⟨ls, n4, a4, c4, xs4, W4, s4, x4, e0_6, e2_6, e3_6, e4_6, e5_6, e6_6, e7_6, e8_6, e9_6, e11_6, e12_6, rfl, rfl, hG20, hO4, hKs, hnl4, hKl4, hKq4, hk4⟩
          subst hnl2; subst hnl4
          refine yA (mP e6_6 (zW (ob := Rr sv z) (s1 := (wantR T z s4 [125])) (v0 := .tuple #[]) 2 rfl (fun w => zR Tryz.func27 rfl rfl rfl) rfl rfl (fun w h => want_r T z sv s4 rb w (hPe w (hW.now zm1 h) (fun p hp => h.own p (by simp [hp]))) (h.at_ 2 rfl) hk4 [125]) ?_))
          have hk35 : (wantR T z s4 [125]).k ≤ T.length := (wantR_k hk4)
          refine yB (zr (mI e9_6 (zY z26 e11_6 (fun _ h => h.at_ 0 rfl) rfl (zf fa29_0 e7_6 (zg (fun _ => R_iaA (i := i) ara27 (by decide) rfl rfl (by omega)) (zV (vs := [.bool true, .slice a2 l2.length c2, .slice a4 ls.length c4]) (cs' := putB cs i [.bool true, .slice a2 l2.length c2, .slice a4 ls.length c4]) 1 rfl z26 rfl rfl rfl rfl rfl (by rw [Nat.ble_eq, hcl]; omega) rfl (zn (zO ((zK (B' := _) (L' := (_, _) :: ([(t7b, cel (putB cs i [.bool true, .slice a2 l2.length c2, .slice a4 ls.length c4]) 29), (rb, Rr sv z (wantR T z s4 [125])), (t5b, cel (frV src) 32), (t3b, cel frZ 32), (t2b, cel pgZ 29)] ++ (W4 ++ (W2 ++ W0)))) (fun w' h => h) (zK (B' := _) (L' := ([(t7b, cel (putB cs i [.bool true, .slice a2 l2.length c2, .slice a4 ls.length c4]) 29), (rb, Rr sv z (wantR T z s4 [125])), (t5b, cel (frV src) 32), (t3b, cel frZ 32), (t2b, cel pgZ 29)] ++ W0) ++ (W4 ++ W2)) (fun w' h => (h.drop (List.sublist_cons_self _ _)).perm (perm9 _ _ _ _)) (k_letW (fun w9 h9 hN9 => ?_)))))))))))))
          have hsz9 : ∀ p ∈ W4 ++ W2, w.heap.size ≤ p.1 := fun p hp => (h9.ok p (List.mem_append_right _ hp) (w, No) zm1).resolve_left id
          have hN := hN9 _ hsz9; have h8 := h9.drop (List.sublist_append_left _ _)
          obtain ⟨⟨_, _⟩, hb9, hvd⟩ := own_dcs hO2 (fun p hp => h9.own p (List.mem_append_right _ (List.mem_append_right _ hp))) (fun p hp => hN p (List.mem_append_right _ hp)) (fun j e he => (hKl4.now (TL.cells TL.dc) zm0 h8) j e he); cases hb9
          obtain ⟨⟨_, _⟩, hb9, hvs⟩ := own_sms hO4 (fun p hp => h9.own p (List.mem_append_right _ (List.mem_append_left _ hp))) (fun p hp => hN p (List.mem_append_left _ hp)) (fun j e he => ((hKs.now (TL.cells TL.smc) zm0 h8) j e he).M); cases hb9
          have hKb : Kt (w9, inL _) w.heap.size bkU ⟨true, l2, ls⟩ ((_, _), (_, _)) := ⟨hvd, hvs⟩
          have hKn := hKq4.now TL.pg zm0 h8
          refine zK (fun w' h => h.keep2 zm1) ?_; exact k_again _ (by omega) ⟨q', i + 1, out.set i (⟨true, l2, ls⟩ : Bk), _, (wantR T z s4 [125]), _, e0_6, e2_6, e3_6, e4_6, e5_6, e6_6, e7_6, (e8_6.trans (congrArg (Value.int .i64) (show (i : Int) = ((i + 1 : Nat) : Int) - 1 by omega))), rfl, rfl, by omega, hG20, Kt.put hKn hi6 hKb, (by rw [List.length_append, List.length_append, List.length_take, List.length_drop, hcl]; show _ + 3 + _ = 18; omega), hk35, by omega, rfl⟩
      · have hG36 := (if_pos hi7).symm.trans hG6
        try dsimp only at hG36
        refine zg (fun _ => R_not rfl) (yB (zG rfl (zX (zx (zx (b_here rfl (?_)))))))
        exact k_mid ⟨out, cs, s1, _, e0_2, e2_2, e3_2, e4_2, e5_2, e6_2, e7_2, rfl, rfl, (Option.some.inj hG36).symm, hKp, hcl, hk1⟩
    rintro e B L ⟨out, cs, s1, xb, e0_1, e2_1, e3_1, e4_1, e5_1, e6_1, e7_1, rfl, rfl, hp, hKp, hcl, hk1⟩
    subst hp
    refine c_cut (fun e B L => ∃ (xe : Bw), e 0 = str src ∧ e 2 = .pointer (some ⟨t2b, 0, none⟩) ∧ e 3 = .pointer (some ⟨t3b, 0, none⟩) ∧ e 4 = .slice ta T.length tc ∧ e 5 = .pointer (some ⟨t5b, 0, none⟩) ∧ e 6 = .pointer (some ⟨rb, 0, none⟩) ∧ e 7 = .pointer (some ⟨t7b, 0, none⟩) ∧ B = [xe, (w, No)] ∧ L = [(t7b, cel cs 29), (rb, Rr sv z (endS T z s1)), (t5b, cel (frV src) 32), (t3b, cel frZ 32), (t2b, cel pgZ 29)] ++ W0 ∧ (endS T z s1).k ≤ T.length ∧ Kt xe w.heap.size pgM out cs) ?_ ?_
    · refine yA (mP e6_1 (zC (fun w => zR Tryz.func25 rfl rfl rfl) rfl rfl (fun w h => bad_r T z sv s1 rb w (hPe w (hW.now zm1 h) (fun p hp => h.own p (by simp [hp]))) (h.at_ 1 rfl) hk1) ?_))
      cases hi37 : badR s1
      · refine zg (fun _ => R_not rfl) (mB rfl (zw rfl rfl rfl (mP e6_1 (zw rfl rfl rfl (zI rfl (zw rfl rfl rfl (zf fa69_1 rfl (zw rfl rfl rfl (zL 1 z3 rfl rfl rfl (zw rfl rfl rfl (mS e4_1 (zw rfl rfl rfl (zg (fun _ => R_len sl50 rfl) (zw rfl rfl rfl (zg (fun _ => R_lt rfl rfl) (zg (v := .bool _) (fun _ => zT rfl rfl) (yB ?_))))))))))))))))); refine zD rfl (fun h38 => ?_) (fun h38 => ?_)
        · refine zr (mP e6_1 (zW (ob := Rr sv z) (s1 := (failR T z s1 130)) (v0 := .tuple #[]) 1 rfl (fun w => zR Tryz.func31 rfl rfl rfl) rfl rfl (fun w h => fail_r T z sv s1 rb w (hPe w (hW.now zm1 h) (fun p hp => h.own p (by simp [hp]))) (h.at_ 1 rfl) hk1 130) ?_))
          have hk39 : (failR T z s1 130).k ≤ T.length := (by rw [failR_k]; exact hk1)
          refine zn ?_; exact k_mid ⟨xb, e0_1, e2_1, e3_1, e4_1, e5_1, e6_1, e7_1, rfl, (by rw [endS_yes hi37 (by omega)]; rfl), (by rw [endS_yes hi37 (by omega)]; exact hk39), hKp⟩
        · refine zi ?_; exact k_mid ⟨xb, e0_1, e2_1, e3_1, e4_1, e5_1, e6_1, e7_1, rfl, (by rw [endS_no (by omega)]; done), (by rw [endS_no (by omega)]; exact hk1), hKp⟩
      · refine zg (fun _ => R_not rfl) (mB rfl ?_); (iterate 7 refine zs rfl rfl rfl ?_); refine zg (v := .bool _) (fun _ => zF rfl rfl) (yB (zG rfl (zi ?_))); exact k_mid ⟨xb, e0_1, e2_1, e3_1, e4_1, e5_1, e6_1, e7_1, rfl, (by rw [endS_bad hi37]; done), (by rw [endS_bad hi37]; exact hk1), hKp⟩
    rintro e B L ⟨xe, e0_8, e2_8, e3_8, e4_8, e5_8, e6_8, e7_8, rfl, rfl, hke, hKe⟩
    refine zq (yA (mP e6_8 (zC (fun w => zR Tryz.func25 rfl rfl rfl) rfl rfl (fun w h => bad_r T z sv (endS T z s1) rb w (hPe w (hW.now zm1 h) (fun p hp => h.own p (by simp [hp]))) (h.at_ 1 rfl) hke) ?_)))
    cases hi40 : badR (endS T z s1)
    · refine yB (zG rfl (zi (zk (yA (w_loadW z29 e7_8 (fun w h => h.at_ 0 rfl) hcl (zg (fun _ => R_build bt32 rfl) (w_storeW cs 4 rfl z29 e2_8 rfl rfl hcl (pg_one hKe) rfl (zV 3 rfl z32 e3_8 rfl rfl rfl rfl rfl rfl (yB (ze ?_)))))))))); refine r_fin (.inl rfl) rfl (.agg rfl e2_8 z29 (fun _ h => h.at_ 4 rfl) (by (rw [Nat.ble_eq, hcl]; omega)) (.agg rfl e3_8 z32 (fun _ h => h.at_ 3 rfl) rfl .nil)) ?_
      rw [show List.take 18 (List.drop 0 cs) = cs from by rw [List.drop_zero, List.take_of_length_le (by omega)]]; exact fun w' hw => by rw [resR_g hr9 hi40]; exact ⟨cs, rfl, (hKe.fin TL.pg zm0 hw), hw.fr _ zm1⟩
    · refine yB (zE rfl (zq (c_held (fun w => w.heap[rb]? = some (Rr sv z (endS T z s1))) mixed (zh2 0 rfl rfl (fun w h => h.at_ 1 rfl) (fun w h => R_build bt29 rfl) (zh2 1 rfl rfl (fun w h => h.at_ 1 rfl) (fun w h => R_move e6_8) (zh2 2 rfl rfl (fun w h => h.at_ 1 rfl) (fun w h => R_nil rfl) (zh2 3 rfl rfl (fun w h => h.at_ 1 rfl) (fun w h => R_fa fa69_4 rfl) (zh2 4 rfl rfl (fun w h => h.at_ 1 rfl) (fun w h => R_ldb z32 rfl h rfl) (zH2 5 (fun w h => h.at_ 1 rfl) (zJ 4 rfl rfl z29 e2_8 rfl rfl rfl rfl rfl rfl (zH2 6 (fun w h => h.at_ 1 rfl) (zJ 3 rfl rfl z32 e3_8 rfl rfl rfl rfl rfl rfl (zN2 (fun w h => h.at_ 1 rfl) (zk (ze (zt ((r_fin (.inl rfl) rfl (.agg rfl e2_8 z29 (fun _ h => h.at_ 4 rfl) (by rfl) (.agg rfl e3_8 z32 (fun _ h => h.at_ 3 rfl) rfl .nil)) ?_)))))))))))))))))); exact fun w' hw => by rw [resR_b hr9 hi40]; exact ⟨_, rfl, pgM.zero, hw.fr _ zm1⟩
end Go.Proofs.YtaniogadknakoaaGreatDoor
end
