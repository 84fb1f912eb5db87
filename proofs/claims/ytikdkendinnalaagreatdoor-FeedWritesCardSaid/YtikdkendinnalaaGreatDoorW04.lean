/- Layer 14, FeedWrites: that Write and Find tell what the document says, and that what is written is read as the same data again. Part 4 of 14. -/
import Derived.Test.YtikdkendinnalaaGreatDoorW03
set_option maxRecDepth 100000
set_option maxHeartbeats 16000000
section
namespace Go.Proofs.YtikdkendinnalaaGreatDoor
open Go.RowKit Go.Sx
open Go.Num
theorem bl_half {x : Nat} (h : x ≠ 0) : bl x = 1 + bl (x / 2) := by
  unfold bl
  rw [if_neg h]
  by_cases h2 : x < 2
  · obtain rfl : x = 1 := by omega
    rfl
  rw [if_neg (by omega), Nat.log2_def, if_pos (by omega)]; omega
theorem bitLenAux_bl : ∀ (f x : Nat), x < 2 ^ f → Lib.bitLenAux f x = bl x
  | 0, x, h => by
    obtain rfl : x = 0 := by simpa using h
    rfl
  | f + 1, x, h => by
    unfold Lib.bitLenAux
    split
    · rename_i h0; subst h0; rfl
    · rename_i h0
      rw [bitLenAux_bl f (x / 2) (by rw [Nat.pow_succ] at h; omega), bl_half h0]
theorem bitLen_bl {n : Nat} (h : n < Go.Num.B) : Lib.bitLen n = bl n := bitLenAux_bl 64 n h
theorem Len64_ok (x : Nat) (w : World) (h : x < Go.Num.B) : Ret Tryz.prog 183 #[.int .u64 (x : Nat)] w fun v w' => v = .int .i64 (bl x : Nat) ∧ Ext w w' :=
  Calls.mono (Tryz.bits_Len64 (x : Nat) w (by omega) (by have h5 : x < 18446744073709551616 := h; omega)) fun e w' ⟨h1, h2⟩ => ⟨_, h1, by rw [Int.toNat_natCast, bitLen_bl h], by rw [h2]; exact Fr.refl _ _⟩
theorem LZ64_ok (x : Nat) (w : World) (h : x < Go.Num.B) : Ret Tryz.prog 160 #[.int .u64 (x : Nat)] w fun v w' => v = .int .i64 ((64 - bl x : Nat) : Int) ∧ Ext w w' :=
  Calls.mono (Tryz.bits_LeadingZeros64 (x : Nat) w (by omega) (by have h5 : x < 18446744073709551616 := h; omega)) fun e w' ⟨h1, h2⟩ => ⟨_, h1, by
    have h3 : bl x ≤ 64 := bl_iff.2 (by rw [← B_two]; exact h)
    rw [Int.toNat_natCast, bitLen_bl h]; congr 1; omega, by rw [h2]; exact Fr.refl _ _⟩
theorem Mul64_ok (x y : Nat) (w : World) (hx : x < Go.Num.B) (hy : y < Go.Num.B) : Ret Tryz.prog 157 #[.int .u64 (x : Nat), .int .u64 (y : Nat)] w fun v w' => v = .tuple #[.int .u64 ((x * y / Go.Num.B : Nat) : Int), .int .u64 ((x * y % Go.Num.B : Nat) : Int)] ∧ Ext w w' :=
  Calls.mono (Tryz.bits_Mul64 x y hx hy w) fun e w' ⟨h1, h2⟩ => ⟨_, h1, rfl, by rw [h2]; exact Fr.refl _ _⟩
theorem add64 (x y c : Nat) (h : c ≤ 1) (w : World) : (callFunc 158 #[.int .u64 (x : Nat), .int .u64 (y : Nat), .int .u64 (c : Nat)]).run Tryz.prog w = .ok (.value (.tuple #[.int .u64 (((x + y + c) % Go.Num.B : Nat) : Int), .int .u64 (((x + y + c) / Go.Num.B : Nat) : Int)])) w :=
  add64_call (fn := Tryz.f158) Tryz.func158 (by kernel_rfl) (by kernel_rfl) (by kernel_rfl) (by kernel_rfl) x y c h w
theorem sub64 (x y c : Nat) (h : c ≤ 1) (w : World) : (callFunc 194 #[.int .u64 (x : Nat), .int .u64 (y : Nat), .int .u64 (c : Nat)]).run Tryz.prog w = .ok (.value (.tuple #[.int .u64 (((x + Go.Num.B - y - c) % Go.Num.B : Nat) : Int), .int .u64 ((if x < y + c then 1 else 0 : Nat) : Int)])) w :=
  sub64_call (fn := Tryz.f194) Tryz.func194 (by kernel_rfl) (by kernel_rfl) (by kernel_rfl) (by kernel_rfl) x y c h w
end Go.Proofs.YtikdkendinnalaaGreatDoor
end
section
namespace Go.Proofs.YtikdkendinnalaaGreatDoor
open Go.RowKit Go.Sx
open Go.Num
theorem Clone_ok {a : Option Addr} {k c n : Nat} (w : World) (hA : Nm w a k c n) (hk : k ≤ 4000000) :
  Ret Tryz.prog 34 #[.slice a k c] w (Tel (fun a c => .slice a k c) k n w) := by
 refine enter (S := No) (l := [_]) (L := []) 8 Tryz.func34 rfl rfl rfl (St.start w No) ?_; refine yA ?_; refine za (v := .slice _ _ _) rfl ?_; refine yB ?_; refine zq ?_; refine yA ?_; refine mS rfl ?_; refine zg (fun _ => R_isnil un42 rfl rfl) ?_; refine yB ?_; refine c_cond rfl (fun h1 => ?_) (fun h1 => ?_)
 ·obtain rfl : a = none := Option.isNone_iff_eq_none.1 h1; obtain ⟨rfl, rfl⟩ := hA.none0
  refine yA ?_; refine za (v := .slice _ _ _) rfl ?_; refine yB ?_; refine ze ?_; refine zt (?_)
  refine zo (v := .slice _ _ _) rfl rfl rfl ?_; exact fun w' hw => ⟨none, 0, rfl, Nm.nil _, Fsh.nil _ _, hw.fr (w, No) zm0⟩
 ·refine zi ?_; refine zk ?_; refine yA ?_; refine w_bslice0 slt42 (fun b2 gb2 ub2 => ?_)
  refine mS rfl ?_; refine w_st (B' := _) (L' := [] ++ ([(b2, cel [] 75)] ++ [])) (fun w h => h) ?_; refine w_appN (z := 0) (k := 0) [] slt42 rfl own_lit0 (by decide) rfl (fun w h => ((Kn.old hA).at_ 0 rfl h)) (by omega) (fun v1 W1 hO1 => ?_)
  refine za (v := v1) rfl ?_; refine yB ?_; refine ze ?_; refine zo (v := v1) rfl rfl rfl ?_; exact fun w' hw => Own.tel (k := k) (n := n) (by simpa using hO1) hA.lt [] [] zm0 hw (fun a c h => h)
theorem normal_ok {a : Option Addr} {k c n : Nat} (w : World) (hA : Nm w a k c n) (hk : k ≤ 4000000) :
  Ret Tryz.prog 92 #[.slice a k c] w (Tel (fun a c => .slice a (sz n) c) (sz n) n w) := by
 refine enter (S := No) (l := [_]) (L := []) 23 Tryz.func92 rfl rfl rfl (St.start w No) ?_; refine yA ?_; refine za (v := .slice _ _ _) rfl ?_; refine yC ?_; refine mS rfl ?_; refine jj sl42 rfl ?_; refine aI rfl ?_; refine yB ?_; refine zq ?_; refine zB ?_; refine c_loop (fun m9 e B L => ∃ (j : Nat), e 0 = .slice a k c ∧ e 3 = .int .i64 (j : Nat) ∧ B = [(w, No)] ∧ L = [] ∧ j ≤ k ∧ n < Go.Num.B ^ j ∧ m9 = j + 1) _ ⟨k, rfl, rfl, rfl, rfl, Nat.le_refl _, hA.lt, rfl⟩ ?_
 rintro m9 e B L ⟨j, e0_1, e3_1, rfl, rfl, hj, hlt, rfl⟩
 refine zq ?_; refine yA ?_; refine mI e3_1 ?_; refine zg (fun _ => R_gtN (a := j) (b := 0) rfl rfl) ?_; refine mB rfl ?_; refine zd (t := 8) rfl (fun h1 => ?_) (fun h1 => ?_)
 ·obtain ⟨i, rfl⟩ : ∃ i, j = i + 1 := ⟨j - 1, by omega⟩
  refine zw rfl rfl (bT h1) ?_; refine mS e0_1 ?_; refine zw rfl rfl (bT h1) ?_; refine mI e3_1 ?_; refine zw rfl rfl (bT h1) ?_; refine zg (fun _ => R_subN (n := (i + 1)) (b := 1) rfl rfl (by omega) (by omega)) ?_; refine zw rfl rfl (bT h1) ?_; refine zg (fun _ => R_iaK (i := ((i + 1) - 1)) sl42 rfl ((Kn.old hA).ptr (by omega)) rfl (by omega)) ?_; refine zw rfl rfl (bT h1) ?_; refine zl (v := .int .u64 ((dg Go.Num.B n ((i + 1) - 1)) : Nat)) z75 rfl (fun w h => (Kn.old hA).ca 0 rfl (by omega) h) ?_; refine zw rfl rfl (bT h1) ?_; refine zg (fun _ => R_eqN (a := (dg Go.Num.B n ((i + 1) - 1))) (b := 0) rfl rfl) ?_; refine jT (bT h1) rfl ?_; refine yB ?_; refine zD rfl (fun h2 => ?_) (fun h2 => ?_)
  ·refine zi ?_; refine zk ?_; refine zB ?_; refine zr ?_; refine mI e3_1 ?_; refine zg (fun _ => R_subN (n := (i + 1)) (b := 1) rfl rfl (by omega) (by omega)) ?_; refine aI rfl ?_; refine zn ?_; refine zO (?_)
   exact k_again _ (by omega) ⟨i, e0_1, rfl, rfl, rfl, by omega, lt_of_dg hlt h2, rfl⟩
  ·have hz := sz_of_top hlt h2
   refine zX ?_; refine zx (zx (b_here rfl (zk ?_))); refine yA ?_; refine mS e0_1 ?_; refine mI e3_1 ?_; refine mI e3_1 ?_; refine zg (fun _ => R_cutN (q := (i + 1)) sl42 rfl rfl rfl (Nat.le_trans (by omega) (Kn.old hA).kc)) ?_; refine w_tel (fun w => zR Tryz.func34 rfl rfl rfl) rfl rfl (fun w h => Clone_ok w (((Kn.old hA).cut (q := (i + 1)) (by omega) hlt _ (Nat.le_refl _)).at_ 0 rfl h) (by omega)) (fun x3 a3 c3 hK3 hN3 => ?_)
   refine za (v := .slice _ _ _) rfl ?_; refine yB ?_; refine ze ?_
   rw [hz]
   refine zo (v := .slice _ _ _) rfl rfl rfl ?_; exact fun w' hw => ⟨_, _, rfl, (hK3.at_ 0 rfl hw), (hN3 _ zm0), hw.fr (w, No) zm1⟩
 ·have hz : sz n = j := (by have hj0 : j = 0 := (by omega); subst hj0; exact sz_eq_zero.2 (by simpa using hlt))
  refine zs rfl rfl (bF h1) ?_; refine zs rfl rfl (bF h1) ?_; refine zs rfl rfl (bF h1) ?_; refine zs rfl rfl (bF h1) ?_; refine zs rfl rfl (bF h1) ?_; refine zs rfl rfl (bF h1) ?_; refine jF (bF h1) rfl ?_; refine yB ?_; refine zG rfl ?_; refine zX ?_; refine zx (zx (b_here rfl (zk ?_))); refine yA ?_; refine mS e0_1 ?_; refine mI e3_1 ?_; refine mI e3_1 ?_; refine zg (fun _ => R_cutN (q := j) sl42 rfl rfl rfl (Nat.le_trans (by omega) (Kn.old hA).kc)) ?_; refine w_tel (fun w => zR Tryz.func34 rfl rfl rfl) rfl rfl (fun w h => Clone_ok w (((Kn.old hA).cut (q := j) (by omega) hlt _ (Nat.le_refl _)).at_ 0 rfl h) (by omega)) (fun x4 a4 c4 hK4 hN4 => ?_)
  refine za (v := .slice _ _ _) rfl ?_; refine yB ?_; refine ze ?_
  rw [hz]
  refine zo (v := .slice _ _ _) rfl rfl rfl ?_; exact fun w' hw => ⟨_, _, rfl, (hK4.at_ 0 rfl hw), (hN4 _ zm0), hw.fr (w, No) zm1⟩
theorem told_ok {a : Option Addr} {k c n : Nat} (w : World) (hA : Nm w a k c n) (hs : k ≤ 4000000 ∧ sz n ≤ 2048) :
  Ret Tryz.prog 90 #[.slice a k c] w (Tel (fun a c => .tuple #[.slice a (sz n) c, .int .i64 0]) (sz n) n w) := by
 refine enter (S := No) (l := [_]) (L := []) 13 Tryz.func90 rfl rfl rfl (St.start w No) ?_; refine yA ?_; refine za (v := .slice _ _ _) rfl ?_; refine aI rfl ?_; refine yC ?_; refine mS rfl ?_; refine w_tel (fun w => zR Tryz.func92 rfl rfl rfl) rfl rfl (fun w h => normal_ok w ((Kn.old hA).at_ 0 rfl h) (by omega)) (fun x1 a1 c1 hK1 hN1 => ?_)
 refine za (v := .slice _ _ _) rfl ?_; refine yB ?_; refine zq ?_; refine yA ?_; refine mS rfl ?_; refine jj sl42 rfl ?_; refine zg (fun _ => R_gtN (a := (sz n)) (b := 2048) rfl rfl) ?_; refine yB ?_; refine zD rfl (fun h2 => ?_) (fun h2 => ?_)
 ·exact absurd h2 (by omega)
 ·refine zi ?_; refine zk ?_; refine zq ?_; refine yA ?_; refine mS rfl ?_; refine jj sl42 rfl ?_; refine zg (fun _ => R_eqN (a := (sz n)) (b := 0) rfl rfl) ?_; refine yB ?_; refine zD rfl (fun h3 => ?_) (fun h3 => ?_)
  ·obtain rfl : n = 0 := sz_eq_zero.1 h3
   refine yA ?_; refine za (v := .slice _ _ _) rfl ?_; refine aI rfl ?_; refine yB ?_; refine ze ?_; refine zt (?_)
   refine r_two (v := .slice _ _ _) (v2 := .int _ _) rfl rfl rfl rfl rfl ?_; exact fun w' hw => ⟨none, 0, rfl, Nm.nil _, Fsh.nil _ _, hw.fr (w, No) zm1⟩
  ·refine zi ?_; refine zk ?_; refine yA ?_; refine mS rfl ?_; refine za (v := .slice _ _ _) rfl ?_; refine aI rfl ?_; refine yB ?_; refine ze ?_; refine r_two (v := .slice _ _ _) (v2 := .int _ _) rfl rfl rfl rfl rfl ?_; exact fun w' hw => ⟨_, _, rfl, (hK1.at_ 0 rfl hw), (hN1 _ zm0), hw.fr (w, No) zm1⟩
theorem long1f_ok {a : Option Addr} {k c n : Nat} (w : World) (hA : Nm w a k c n) (hs : k ≤ 4000000 ∧ sz n ≤ 2048) :
  Ret Tryz.prog 135 #[.slice a k c] w (fun v w' => v = .bool false ∧ Ext w w') := by
 refine enter (S := No) (l := [_]) (L := []) 7 Tryz.func135 rfl rfl rfl (St.start w No) ?_; refine yA ?_; refine aB rfl ?_; refine yC ?_; refine mS rfl ?_; refine w_tel (fun w => zR Tryz.func92 rfl rfl rfl) rfl rfl (fun w h => normal_ok w ((Kn.old hA).at_ 0 rfl h) (by omega)) (fun x1 a1 c1 hK1 hN1 => ?_)
 refine jj sl42 rfl ?_; refine zg (fun _ => R_gtN (a := (sz n)) (b := 2048) rfl rfl) ?_; refine aB rfl ?_; refine yB ?_; refine ze ?_; refine zo (v := .bool _) rfl rfl rfl ?_; exact fun w' hw => ⟨congrArg Value.bool (decide_eq_false (by omega)), hw.fr (w, No) zm1⟩
abbrev nsV (l : List (Option Addr × Nat × Nat × Nat)) : List Value := l.map fun q => .slice q.1 q.2.1 q.2.2.1
def nsN (w : World) (l : List (Option Addr × Nat × Nat × Nat)) : Prop := ∀ q ∈ l, Nm w q.1 q.2.1 q.2.2.1 q.2.2.2 ∧ q.2.1 ≤ 4000000 ∧ sz q.2.2.2 ≤ 2048
theorem nsV_cell {w : World} {l : List (Option Addr × Nat × Nat × Nat)} {b i : Nat} {T : TypeId} {q : Option Addr × Nat × Nat × Nat} (hb : w.heap[b]? = some (cel (nsV l) T)) (hq : l[i]? = some q) : w.cell? ⟨b, 0 + i * 1, none⟩ = some (.slice q.1 q.2.1 q.2.2.1) := by
 rw [Nat.zero_add, Nat.mul_one]
 simp [World.cell?, hb, hq]
theorem nsN_ext {w w' : World} {l : List (Option Addr × Nat × Nat × Nat)} (h : nsN w l) (k : Ext w w') : nsN w' l := fun q hq => ⟨(h q hq).1.ext k, (h q hq).2⟩
theorem _root_.Go.Sx.St.oldb {B : Base} {L : Heap} {w0 w : World} {b : Nat} {o : Obj} (h : St B L w) (hx : (w0, No) ∈ B) (hc : w0.heap[b]? = some o) : w.heap[b]? = some o := (h.fr _ hx).get hc (fun x => x)
theorem longI_ok (l : List (Option Addr × Nat × Nat × Nat)) (b c : Nat) (T : TypeId) (w : World) (hb : w.heap[b]? = some (cel (nsV l) T)) (hN : nsN w l) (hl : l.length ≤ 1000) :
  Ret Tryz.prog 159 #[.slice (some ⟨b, 0, none⟩) l.length c, .func (.func 135) #[] #[]] w (fun v w' => v = .int .i64 (-1) ∧ Ext w w') := by
 refine enter (S := No) (l := [_, _]) (L := []) 19 Tryz.func159 rfl rfl rfl (St.start w No) ?_; refine yA ?_; refine aI rfl ?_; refine yB ?_; refine zq ?_; refine yA ?_; refine mS rfl ?_; refine jj sl169 rfl ?_; refine mI rfl ?_; refine yB ?_; refine zB ?_; refine c_loop (fun m9 e B L => ∃ (i : Nat), e 0 = .slice (some ⟨b, 0, none⟩) l.length c ∧ e 1 = .func (.func 135) #[] #[] ∧ e 7 = .int .i64 (l.length : Nat) ∧ e 8 = .int .i64 (i : Nat) ∧ B = [(w, No)] ∧ L = [] ∧ i ≤ l.length ∧ m9 = l.length - i) _ ⟨0, rfl, rfl, rfl, rfl, rfl, rfl, Nat.zero_le _, rfl⟩ ?_
 rintro m9 e B L ⟨i, e0_1, e1_1, e7_1, e8_1, rfl, rfl, hi, rfl⟩
 refine yA ?_; refine zg (fun _ => R_ltN (a := i) (b := (l.length)) e8_1 e7_1) ?_; refine yB ?_; refine zq ?_; refine zD rfl (fun h1 => ?_) (fun h1 => ?_)
 ·obtain ⟨q, hq⟩ : ∃ q, l[i]? = some q := ⟨_, List.getElem?_eq_getElem h1⟩; have hqN := hN q (List.mem_of_getElem? hq)
  refine zi ?_; refine zk ?_; refine zq ?_; refine zB ?_; refine yA ?_; refine mI e8_1 ?_; refine aI rfl ?_; refine yC ?_; refine zm e1_1 ?_; refine mS e0_1 ?_; refine mI rfl ?_; refine zg (fun _ => R_iaN (i := i) sl169 rfl rfl (by first | omega | decide | exact Nat.succ_pos _ | exact Nat.succ_lt_succ (Nat.succ_pos _))) ?_; refine zl (v := .slice q.1 q.2.1 q.2.2.1) z42 rfl (fun w1 h => h.oldc zm0 (nsV_cell hb hq)) ?_; refine zC (fun w => R_callv rfl Tryz.func135 rfl rfl) rfl rfl (fun w h => long1f_ok w (hqN.1.ext (h.fr (_, No) zm0)) hqN.2) ?_; refine zn ?_
  refine zk ?_; refine zG rfl ?_; refine zi ?_; refine zO (zk ?_); refine zr ?_; refine zg (fun _ => R_addN (n := i) (b := 1) e8_1 rfl (by omega)) ?_; refine mI rfl ?_; refine zn ?_; exact k_again _ (by omega) ⟨i + 1, e0_1, e1_1, e7_1, rfl, rfl, rfl, by omega, rfl⟩
 ·refine zX ?_; refine zx (zx (b_here rfl (zk ?_))); refine yA ?_; refine aI rfl ?_; refine yB ?_; refine ze ?_; refine zo (v := .int _ _) rfl rfl rfl ?_; exact fun w' hw => ⟨rfl, hw.fr (w, No) zm0⟩
theorem longC_ok (l : List (Option Addr × Nat × Nat × Nat)) (b c : Nat) (T : TypeId) (w : World) (hb : w.heap[b]? = some (cel (nsV l) T)) (hN : nsN w l) (hl : l.length ≤ 1000) :
  Ret Tryz.prog 134 #[.slice (some ⟨b, 0, none⟩) l.length c, .func (.func 135) #[] #[]] w (fun v w' => v = .bool false ∧ Ext w w') := by
 refine enter (S := No) (l := [_, _]) (L := []) 9 Tryz.func134 rfl rfl rfl (St.start w No) ?_; refine yA ?_; refine aB rfl ?_; refine yC ?_; refine mS rfl ?_; refine zm rfl ?_; refine jD Tryz.func159 (fun w h => longI_ok l b c T w (h.oldb zm0 hb) (nsN_ext hN (h.fr (_, No) zm0)) hl) ?_; refine jh rfl rfl ?_; refine aB rfl ?_; refine yB ?_; refine ze ?_; refine zo (v := .bool _) rfl rfl rfl ?_; exact fun w' hw => ⟨rfl, hw.fr (w, No) zm0⟩
theorem longL_ok (l : List (Option Addr × Nat × Nat × Nat)) (b c : Nat) (T : TypeId) (w : World) (hb : w.heap[b]? = some (cel (nsV l) T)) (hN : nsN w l) (hl : l.length ≤ 1000) :
  Ret Tryz.prog 91 #[.slice (some ⟨b, 0, none⟩) l.length c] w (fun v w' => v = .bool false ∧ Ext w w') := by
 refine enter (S := No) (l := [_]) (L := []) 5 Tryz.func91 rfl rfl rfl (St.start w No) ?_; refine yA ?_; refine aB rfl ?_; refine yC ?_; refine mS rfl ?_; refine jD Tryz.func134 (fun w h => longC_ok l b c T w (h.oldb zm0 hb) (nsN_ext hN (h.fr (_, No) zm0)) hl) ?_; refine aB rfl ?_; refine yB ?_; refine ze ?_; refine zo (v := .bool _) rfl rfl rfl ?_; exact fun w' hw => ⟨rfl, hw.fr (w, No) zm0⟩
theorem long1_ok {a : Option Addr} {k c n b c' : Nat} {T : TypeId} (w : World) (hb : w.heap[b]? = some (cel [.slice a k c] T)) (hA : Nm w a k c n) (hs : k ≤ 4000000 ∧ sz n ≤ 2048) : Ret Tryz.prog 91 #[.slice (some ⟨b, 0, none⟩) 1 c'] w fun v w' => v = .bool false ∧ Ext w w' :=
 longL_ok [(a, k, c, n)] b c' T w hb (fun q hq => by rw [List.mem_singleton.1 hq]; exact ⟨hA, hs⟩) (by simp)
theorem long2_ok {a a2 : Option Addr} {k c n k2 c2 n2 b c' : Nat} {T : TypeId} (w : World) (hb : w.heap[b]? = some (cel [.slice a k c, .slice a2 k2 c2] T)) (hA : Nm w a k c n) (hA2 : Nm w a2 k2 c2 n2) (hs : k ≤ 4000000 ∧ sz n ≤ 2048) (hs2 : k2 ≤ 4000000 ∧ sz n2 ≤ 2048) : Ret Tryz.prog 91 #[.slice (some ⟨b, 0, none⟩) 2 c'] w fun v w' => v = .bool false ∧ Ext w w' :=
 longL_ok [(a, k, c, n), (a2, k2, c2, n2)] b c' T w hb (fun q hq => by
  rcases List.mem_cons.1 hq with rfl | hq
  ·exact ⟨hA, hs⟩
  ·rw [List.mem_singleton.1 hq]; exact ⟨hA2, hs2⟩) (by simp)
theorem Of_ok {s : Nat} (w : World) (hs : s < Go.Num.B) :
  Ret Tryz.prog 56 #[.int .u64 (s : Nat)] w (Tel (fun a c => .slice a (sz s) c) (sz s) s w) := by
 have hz : sz s ≤ 1 := sz_iff.2 (by rw [Nat.pow_one]; exact hs)
 refine enter (S := No) (l := [_]) (L := []) 12 Tryz.func56 rfl rfl rfl (St.start w No) ?_; refine yA ?_; refine za (v := .slice _ _ _) rfl ?_; refine yC ?_; refine mI rfl ?_; refine zS slt42 (by decide) rfl rfl (fun b1 gb1 ub1 => ?_)
 refine w_tel (fun w => zR Tryz.func90 rfl rfl rfl) rfl rfl (fun w h => told_ok w (Nm.one (h.at_ 0 rfl) hs) ⟨by decide, by omega⟩) (fun x2 a2 c2 hK2 hN2 => ?_)
 refine zm rfl ?_; refine jx rfl rfl ?_; refine jx rfl rfl ?_; refine za (v := .slice _ _ _) rfl ?_; refine aI rfl ?_; refine yC ?_; refine mS rfl ?_; refine za (v := .slice _ _ _) rfl ?_; refine yB ?_; refine ze ?_; refine zo (v := .slice _ _ _) rfl rfl rfl ?_; exact fun w' hw => ⟨_, _, rfl, (hK2.at_ 0 rfl hw), (hN2 _ zm0), hw.fr (w, No) zm1⟩
theorem NNorm_ok {a : Option Addr} {k c n : Nat} (w : World) (hA : Nm w a k c n) (hs : k ≤ 4000000 ∧ sz n ≤ 2048) :
  Ret Tryz.prog 85 #[.slice a k c] w (Tel (fun a c => .tuple #[.slice a (sz n) c, .int .i64 0]) (sz n) n w) := by
 refine enter (S := No) (l := [_]) (L := []) 8 Tryz.func85 rfl rfl rfl (St.start w No) ?_; refine yA ?_; refine za (v := .slice _ _ _) rfl ?_; refine aI rfl ?_; refine yC ?_; refine mS rfl ?_; refine w_tel (fun w => zR Tryz.func90 rfl rfl rfl) rfl rfl (fun w h => told_ok w ((Kn.old hA).at_ 0 rfl h) ⟨by omega, by omega⟩) (fun x1 a1 c1 hK1 hN1 => ?_)
 refine jx rfl rfl ?_; refine jx rfl rfl ?_; refine za (v := .slice _ _ _) rfl ?_; refine aI rfl ?_; refine yB ?_; refine ze ?_; refine r_two (v := .slice _ _ _) (v2 := .int _ _) rfl rfl rfl rfl rfl ?_; exact fun w' hw => ⟨_, _, rfl, (hK1.at_ 0 rfl hw), (hN1 _ zm0), hw.fr (w, No) zm1⟩
theorem Bits_ok {a : Option Addr} {k c n : Nat} (w : World) (hA : Nm w a k c n) (hs : k ≤ 4000000) :
  Ret Tryz.prog 155 #[.slice a k c] w (fun v w' => v = .int .i64 (bl n : Nat) ∧ Ext w w') := by
 have hz : sz n ≤ k := sz_iff.2 hA.lt
 refine enter (S := No) (l := [_]) (L := []) 20 Tryz.func155 rfl rfl rfl (St.start w No) ?_; refine yA ?_; refine aI rfl ?_; refine yC ?_; refine mS rfl ?_; refine w_tel (fun w => zR Tryz.func92 rfl rfl rfl) rfl rfl (fun w h => normal_ok w ((Kn.old hA).at_ 0 rfl h) (by omega)) (fun x1 a1 c1 hK1 hN1 => ?_)
 refine za (v := .slice _ _ _) rfl ?_; refine yB ?_; refine zq ?_; refine yA ?_; refine mS rfl ?_; refine jj sl42 rfl ?_; refine zg (fun _ => R_eqN (a := (sz n)) (b := 0) rfl rfl) ?_; refine yB ?_; refine zD rfl (fun h2 => ?_) (fun h2 => ?_)
 ·obtain rfl : n = 0 := sz_eq_zero.1 h2
  refine yA ?_; refine aI rfl ?_; refine yB ?_; refine ze ?_; refine zt (?_)
  refine zo (v := .int _ _) rfl rfl rfl ?_; exact fun w' hw => ⟨rfl, hw.fr (w, No) zm1⟩
 ·have hn0 : n ≠ 0 := fun h => h2 (sz_eq_zero.2 h); have hb64 : bl (dg Go.Num.B n (sz n - 1)) ≤ 64 := bl_iff.2 (by rw [← B_two]; exact dg_lt B_pos _ _)
  refine zi ?_; refine zk ?_; refine yA ?_; refine mS rfl ?_; refine jj sl42 rfl ?_; refine zg (fun _ => R_subN (n := (sz n)) (b := 1) rfl rfl (by omega) (by omega)) ?_; refine zg (fun _ => R_mulN (n := 64) (b := ((sz n) - 1)) rfl rfl (by omega)) ?_; refine mS rfl ?_; refine mS rfl ?_; refine jj sl42 rfl ?_; refine zg (fun _ => R_subN (n := (sz n)) (b := 1) rfl rfl (by omega) (by omega)) ?_; refine zg (fun _ => R_iaK (i := ((sz n) - 1)) sl42 rfl (hK1.ptr (by omega)) rfl (by omega)) ?_; refine zl (v := .int .u64 ((dg Go.Num.B n ((sz n) - 1)) : Nat)) z75 rfl (fun w h => hK1.ca 0 rfl (by omega) h) ?_
  refine jD Tryz.func183 (fun w h => Len64_ok (dg Go.Num.B n ((sz n) - 1)) w (dg_lt B_pos _ _)) ?_; refine zg (fun _ => R_addN (n := (64 * ((sz n) - 1))) (b := (bl (dg Go.Num.B n ((sz n) - 1)))) rfl rfl (by omega)) ?_; refine aI rfl ?_; refine yB ?_; refine ze ?_; refine zo (v := .int _ _) rfl rfl rfl ?_; exact fun w' hw => ⟨by rw [bl_limb hn0], hw.fr (w, No) zm1⟩
end Go.Proofs.YtikdkendinnalaaGreatDoor
end
section
namespace Go.Num
section
variable {b : Nat}
theorem guess_ge {u v q p : Nat} (hp : 0 < p) (hv : 0 < v / p) (h : q * v ≤ u) : q ≤ (u / p) / (v / p) := by
  have h1 : q * (v / p) ≤ u / p := by
    rw [Nat.le_div_iff_mul_le hp, Nat.mul_assoc]
    exact Nat.le_trans (Nat.mul_le_mul_left _ (Nat.div_mul_le_self v p)) h
  exact (Nat.le_div_iff_mul_le hv).2 h1
theorem guess_mul {u v q p : Nat} (hp : 0 < p) (h : q * v ≤ u) : q * (v / p) ≤ u / p := by
  rw [Nat.le_div_iff_mul_le hp, Nat.mul_assoc]
  exact Nat.le_trans (Nat.mul_le_mul_left _ (Nat.div_mul_le_self v p)) h
theorem guess_less {u v q g p : Nat} (hp : 0 < p) (hq : q * v ≤ u) (hg : q ≤ g) (h : u / p < g * (v / p)) : q ≤ g - 1 ∧ 0 < g := by
  have h1 := guess_mul hp hq
  rcases Nat.lt_or_ge q g with h2 | h2
  · exact ⟨by omega, by omega⟩
  have : g = q := by omega
  subst this; omega
theorem digit_eq {u v g : Nat} (hv : 0 < v) (h1 : u / v ≤ g) (h2 : g * v ≤ u) : g = u / v := by
  have := (Nat.le_div_iff_mul_le hv).2 h2
  omega
theorem div_end {a v q u : Nat} (h : a = q * v + u) (hu : u < v) : q = a / v ∧ u = a % v := by
  subst h
  have hv : 0 < v := by omega
  rw [Nat.add_comm, Nat.add_mul_div_right _ _ hv, Nat.add_mul_mod_self_right, Nat.div_eq_of_lt hu, Nat.mod_eq_of_lt hu]
  exact ⟨by omega, rfl⟩
end
end Go.Num
end
section
namespace Go.Num
section
variable {b u v j : Nat}
theorem knuth_step (hb : 0 < b) (hv : 0 < v) (hU : u < v * b ^ (j + 1)) :
    u / b ^ j < v * b ∧ u / b ^ j / v < b ∧ u % b ^ j + b ^ j * (u / b ^ j % v) < v * b ^ j ∧ u = u / b ^ j / v * b ^ j * v + (u % b ^ j + b ^ j * (u / b ^ j % v)) := by
  have hp : 0 < b ^ j := Nat.pow_pos hb
  have h1 : u / b ^ j < v * b := by
    refine (Nat.div_lt_iff_lt_mul hp).2 ?_
    rw [Nat.mul_assoc, Nat.mul_comm b, ← Nat.pow_succ]; exact hU
  refine ⟨h1, (Nat.div_lt_iff_lt_mul hv).2 (by rw [Nat.mul_comm]; exact h1), ?_, ?_⟩
  · have h2 := Nat.mod_lt u hp
    have h3 : b ^ j * (u / b ^ j % v + 1) ≤ b ^ j * v := Nat.mul_le_mul_left _ (Nat.mod_lt _ hv)
    rw [Nat.mul_add] at h3
    rw [Nat.mul_comm v]; omega
  have h4 := Nat.mod_add_div u (b ^ j)
  have h5 := Nat.div_add_mod (u / b ^ j) v
  generalize u / b ^ j % v = r at *
  generalize hg : u / b ^ j / v = g at *
  generalize u % b ^ j = z at *
  rw [← h5] at h4
  rw [← h4, Nat.mul_add, Nat.mul_right_comm, Nat.mul_comm v g, Nat.mul_comm (b ^ j) (g * v)]
  omega
theorem top_two {i : Nat} (hi : 0 < i) (h : u < b ^ (i + 1)) : u / b ^ (i - 1) = dg b u i * b + dg b u (i - 1) := by
  have h1 := div_step b u (i - 1)
  have h2 := div_step b u i
  rw [Nat.div_eq_of_lt h] at h2
  rw [show i - 1 + 1 = i by omega] at h1
  rw [h1, h2, Nat.mul_zero, Nat.add_zero, Nat.mul_comm b]; omega
theorem top_three {i : Nat} (hi : 1 < i) (h : u < b ^ (i + 1)) : u / b ^ (i - 2) = (dg b u i * b + dg b u (i - 1)) * b + dg b u (i - 2) := by
  have h1 := div_step b u (i - 2)
  rw [show i - 2 + 1 = i - 1 by omega, top_two (by omega) h] at h1
  rw [h1, Nat.mul_comm b]; omega
theorem top_one {k : Nat} (hk : 0 < k) (h : v < b ^ k) : v / b ^ (k - 1) = dg b v (k - 1) := by
  have h1 := div_step b v (k - 1)
  rw [show k - 1 + 1 = k by omega, Nat.div_eq_of_lt h] at h1
  omega
theorem guess_first {i k : Nat} (hb : 0 < b) (hk : 0 < k) (hki : k ≤ i) (hv : v < b ^ k) (ht : 0 < dg b v (k - 1)) (hu : u < b ^ (i + 1)) :
    u / b ^ (i - k) / v ≤ (dg b u i * b + dg b u (i - 1)) / dg b v (k - 1) := by
  have hp : 0 < b ^ (k - 1) := Nat.pow_pos hb
  have e : u / b ^ (i - k) / b ^ (k - 1) = dg b u i * b + dg b u (i - 1) := by
    rw [Nat.div_div_eq_div_mul, ← Nat.pow_add, show i - k + (k - 1) = i - 1 by omega, top_two (by omega) hu]
  have := guess_ge (u := u / b ^ (i - k)) (v := v) (q := u / b ^ (i - k) / v) (p := b ^ (k - 1)) hp (by rw [top_one hk hv]; exact ht) (Nat.div_mul_le_self _ _)
  rw [e, top_one hk hv] at this
  exact this
theorem guess_next {i k q r : Nat} (hb : 0 < b) (hk : 1 < k) (hki : k ≤ i) (hv : v < b ^ k) (hu : u < b ^ (i + 1))
    (hq : u / b ^ (i - k) / v ≤ q) (he : q * dg b v (k - 1) + r = dg b u i * b + dg b u (i - 1)) (hc : r * b + dg b u (i - 2) < q * dg b v (k - 2)) :
    u / b ^ (i - k) / v ≤ q - 1 ∧ 0 < q ∧ (q - 1) * dg b v (k - 1) + (r + dg b v (k - 1)) = dg b u i * b + dg b u (i - 1) := by
  have hp : 0 < b ^ (k - 2) := Nat.pow_pos hb
  have e : u / b ^ (i - k) / b ^ (k - 2) = (dg b u i * b + dg b u (i - 1)) * b + dg b u (i - 2) := by
    rw [Nat.div_div_eq_div_mul, ← Nat.pow_add, show i - k + (k - 2) = i - 2 by omega, top_three (by omega) hu]
  have ev : v / b ^ (k - 2) = dg b v (k - 1) * b + dg b v (k - 2) := by
    have := top_two (b := b) (u := v) (i := k - 1) (by omega) (by rw [show k - 1 + 1 = k by omega]; exact hv)
    rw [show k - 1 - 1 = k - 2 by omega] at this; exact this
  have h1 := guess_less (u := u / b ^ (i - k)) (v := v) (q := u / b ^ (i - k) / v) (g := q) (p := b ^ (k - 2)) hp (Nat.div_mul_le_self _ _) hq (by
    rw [e, ev, ← he, Nat.add_mul, Nat.mul_add, Nat.mul_assoc]; omega)
  obtain ⟨h2, h3⟩ := h1
  refine ⟨h2, h3, ?_⟩
  obtain ⟨d, rfl⟩ : ∃ d, q = d + 1 := ⟨q - 1, by omega⟩
  rw [← he, Nat.add_sub_cancel, Nat.add_mul]; omega
theorem two_limbs {q n r c : Nat} (hb : 0 < b) (hc : c < b) : (q * n / b < r ∨ q * n / b = r ∧ q * n % b ≤ c) ↔ q * n ≤ r * b + c := by
  have h1 := Nat.div_add_mod (q * n) b
  have h2 := Nat.mod_lt (q * n) hb
  generalize q * n / b = h at *
  generalize q * n % b = l at *
  generalize q * n = x at *
  subst h1
  constructor
  · rintro (h3 | ⟨rfl, h3⟩)
    · have : b * (h + 1) ≤ b * r := Nat.mul_le_mul_left _ h3
      rw [Nat.mul_add] at this
      rw [Nat.mul_comm r]; omega
    rw [Nat.mul_comm h]; omega
  intro h3
  rcases Nat.lt_trichotomy h r with h4 | h4 | h4
  · exact .inl h4
  · subst h4; rw [Nat.mul_comm h] at h3; exact .inr ⟨rfl, by omega⟩
  have : b * (r + 1) ≤ b * h := Nat.mul_le_mul_left _ h4
  rw [Nat.mul_add] at this
  rw [Nat.mul_comm r] at h3; omega
end
end Go.Num
end
section
namespace Go.Proofs.YtikdkendinnalaaGreatDoor
open Go.RowKit Go.Sx
open Go.Num
def cmPs : Array Go.Tmp := #[11, 12]
def cmAs : Go.Code := (Go.Code.region 3 #[(Go.Oper.mk (some 7) (Go.Op.alloc 139) 0 "nat.go:87" #[] none), (Go.Oper.mk none (Go.Op.store 139 (Go.Operand.tmp 7) (Go.Operand.tmp 12)) 0 "nat.go:87" #[(Go.Edge.mk 0 Go.Ground.data), (Go.Edge.mk 0 Go.Ground.phase)] none)] false)
def cmBo : Go.Code := (Go.Code.block 1 (Go.Code.block 2 (Go.Code.seq (Go.Code.region 4 #[(Go.Oper.mk (some 14) (Go.Op.indexAddr 139 (Go.Operand.tmp 7) (Go.Operand.const (Go.Value.int Go.IntKind.i64 0))) 0 "nat.go:89" #[] none), (Go.Oper.mk (some 15) (Go.Op.load 75 (Go.Operand.tmp 14)) 75 "nat.go:89" #[(Go.Edge.mk 0 Go.Ground.data)] none), (Go.Oper.mk (some 16) (Go.Op.indexAddr 139 (Go.Operand.tmp 7) (Go.Operand.const (Go.Value.int Go.IntKind.i64 1))) 0 "nat.go:89" #[] none), (Go.Oper.mk (some 17) (Go.Op.load 75 (Go.Operand.tmp 16)) 75 "nat.go:89" #[(Go.Edge.mk 2 Go.Ground.data)] none), (Go.Oper.mk (some 18) (Go.Op.binOp Go.BinOp.lss 75 (Go.Operand.tmp 15) (Go.Operand.tmp 17) 75) 4 "nat.go:89" #[(Go.Edge.mk 1 Go.Ground.data), (Go.Edge.mk 3 Go.Ground.data)] none), (Go.Oper.mk (some 13) (Go.Op.assign (Go.Operand.tmp 18)) 4 "nat.go:89" #[(Go.Edge.mk 4 Go.Ground.data)] none)] false) (Go.Code.cond (Go.Operand.tmp 13) (Go.Code.region 5 #[(Go.Oper.mk none (Go.Op.store 3 (Go.Operand.tmp 5) (Go.Operand.const (Go.Value.int Go.IntKind.i64 (-1)))) 0 "nat.go:90" #[] none)] false) (Go.Code.seq (Go.Code.region 6 #[(Go.Oper.mk (some 20) (Go.Op.indexAddr 139 (Go.Operand.tmp 7) (Go.Operand.const (Go.Value.int Go.IntKind.i64 0))) 0 "nat.go:91" #[] none), (Go.Oper.mk (some 21) (Go.Op.load 75 (Go.Operand.tmp 20)) 75 "nat.go:91" #[(Go.Edge.mk 0 Go.Ground.data)] none), (Go.Oper.mk (some 22) (Go.Op.indexAddr 139 (Go.Operand.tmp 7) (Go.Operand.const (Go.Value.int Go.IntKind.i64 1))) 0 "nat.go:91" #[] none), (Go.Oper.mk (some 23) (Go.Op.load 75 (Go.Operand.tmp 22)) 75 "nat.go:91" #[(Go.Edge.mk 2 Go.Ground.data)] none), (Go.Oper.mk (some 24) (Go.Op.binOp Go.BinOp.gtr 75 (Go.Operand.tmp 21) (Go.Operand.tmp 23) 75) 4 "nat.go:91" #[(Go.Edge.mk 1 Go.Ground.data), (Go.Edge.mk 3 Go.Ground.data)] none), (Go.Oper.mk (some 19) (Go.Op.assign (Go.Operand.tmp 24)) 4 "nat.go:91" #[(Go.Edge.mk 4 Go.Ground.data)] none)] false) (Go.Code.cond (Go.Operand.tmp 19) (Go.Code.region 7 #[(Go.Oper.mk none (Go.Op.store 3 (Go.Operand.tmp 5) (Go.Operand.const (Go.Value.int Go.IntKind.i64 1))) 0 "nat.go:92" #[] none)] false) Go.Code.skip))))))
def adPs : Array Go.Tmp := #[19, 20]
def adAs : Go.Code := (Go.Code.region 6 #[(Go.Oper.mk (some 9) (Go.Op.alloc 139) 0 "nat.go:105" #[] none), (Go.Oper.mk none (Go.Op.store 139 (Go.Operand.tmp 9) (Go.Operand.tmp 20)) 0 "nat.go:105" #[(Go.Edge.mk 0 Go.Ground.data), (Go.Edge.mk 0 Go.Ground.phase)] none)] false)
def adBo : Go.Code := (Go.Code.block 1 (Go.Code.seq (Go.Code.region 7 #[(Go.Oper.mk (some 22) (Go.Op.indexAddr 139 (Go.Operand.tmp 9) (Go.Operand.const (Go.Value.int Go.IntKind.i64 0))) 0 "nat.go:106" #[] none), (Go.Oper.mk (some 23) (Go.Op.load 75 (Go.Operand.tmp 22)) 75 "nat.go:106" #[(Go.Edge.mk 0 Go.Ground.data)] none), (Go.Oper.mk (some 24) (Go.Op.indexAddr 139 (Go.Operand.tmp 9) (Go.Operand.const (Go.Value.int Go.IntKind.i64 1))) 0 "nat.go:106" #[] none), (Go.Oper.mk (some 25) (Go.Op.load 75 (Go.Operand.tmp 24)) 75 "nat.go:106" #[(Go.Edge.mk 2 Go.Ground.data)] none), (Go.Oper.mk (some 26) (Go.Op.load 75 (Go.Operand.tmp 7)) 75 "nat.go:106" #[] none), (Go.Oper.mk (some 27) (Go.Op.call (Go.Call.mk (Go.Callee.value (Go.Operand.func 158)) #[(Go.Operand.tmp 23), (Go.Operand.tmp 25), (Go.Operand.tmp 26)] #[75, 75, 75])) 171 "nat.go:106" #[(Go.Edge.mk 1 Go.Ground.data), (Go.Edge.mk 3 Go.Ground.data), (Go.Edge.mk 4 Go.Ground.data)] none), (Go.Oper.mk (some 21) (Go.Op.move (Go.Operand.tmp 27)) 171 "nat.go:106" #[(Go.Edge.mk 5 Go.Ground.data)] none), (Go.Oper.mk (some 28) (Go.Op.extract (Go.Operand.tmp 21) 0) 75 "nat.go:106" #[(Go.Edge.mk 6 Go.Ground.data)] none), (Go.Oper.mk (some 29) (Go.Op.extract (Go.Operand.tmp 21) 1) 75 "nat.go:106" #[(Go.Edge.mk 6 Go.Ground.data), (Go.Edge.mk 9 (Go.Ground.gcOnly Go.Departure.lateStores))] none), (Go.Oper.mk (some 10) (Go.Op.assign (Go.Operand.tmp 28)) 75 "nat.go:106" #[(Go.Edge.mk 7 Go.Ground.data), (Go.Edge.mk 5 Go.Ground.chain), (Go.Edge.mk 0 Go.Ground.phase), (Go.Edge.mk 1 Go.Ground.phase), (Go.Edge.mk 2 Go.Ground.phase), (Go.Edge.mk 3 Go.Ground.phase), (Go.Edge.mk 4 Go.Ground.phase), (Go.Edge.mk 5 Go.Ground.phase), (Go.Edge.mk 6 Go.Ground.phase), (Go.Edge.mk 7 Go.Ground.phase), (Go.Edge.mk 8 (Go.Ground.textOnly Go.Departure.lateStores))] none), (Go.Oper.mk (some 11) (Go.Op.assign (Go.Operand.tmp 29)) 75 "nat.go:106" #[(Go.Edge.mk 8 Go.Ground.data), (Go.Edge.mk 9 Go.Ground.chain), (Go.Edge.mk 0 Go.Ground.phase), (Go.Edge.mk 1 Go.Ground.phase), (Go.Edge.mk 2 Go.Ground.phase), (Go.Edge.mk 3 Go.Ground.phase), (Go.Edge.mk 4 Go.Ground.phase), (Go.Edge.mk 5 Go.Ground.phase), (Go.Edge.mk 6 Go.Ground.phase), (Go.Edge.mk 7 Go.Ground.phase), (Go.Edge.mk 8 Go.Ground.phase), (Go.Edge.mk 9 Go.Ground.phase)] none)] false) (Go.Code.region 8 #[(Go.Oper.mk (some 30) (Go.Op.load 42 (Go.Operand.tmp 6)) 42 "nat.go:107" #[] none), (Go.Oper.mk (some 31) (Go.Op.move (Go.Operand.tmp 10)) 75 "nat.go:107" #[] none), (Go.Oper.mk (some 32) (Go.Op.buildSlice 42 1 #[(0, (Go.Operand.tmp 31))]) 42 "nat.go:107" #[(Go.Edge.mk 1 Go.Ground.data)] none), (Go.Oper.mk (some 33) (Go.Op.call (Go.Call.mk (Go.Callee.builtin Go.Builtin.append) #[(Go.Operand.tmp 30), (Go.Operand.tmp 32)] #[42, 42])) 42 "nat.go:107" #[(Go.Edge.mk 0 Go.Ground.data), (Go.Edge.mk 2 Go.Ground.data)] none), (Go.Oper.mk (some 34) (Go.Op.move (Go.Operand.tmp 11)) 75 "nat.go:107" #[(Go.Edge.mk 5 (Go.Ground.gcOnly Go.Departure.lateStores))] none), (Go.Oper.mk none (Go.Op.store 42 (Go.Operand.tmp 6) (Go.Operand.tmp 33)) 0 "nat.go:107" #[(Go.Edge.mk 3 Go.Ground.data), (Go.Edge.mk 3 Go.Ground.chain), (Go.Edge.mk 0 Go.Ground.phase), (Go.Edge.mk 1 Go.Ground.phase), (Go.Edge.mk 2 Go.Ground.phase), (Go.Edge.mk 3 Go.Ground.phase), (Go.Edge.mk 4 (Go.Ground.textOnly Go.Departure.lateStores))] none), (Go.Oper.mk none (Go.Op.store 75 (Go.Operand.tmp 7) (Go.Operand.tmp 34)) 0 "nat.go:107" #[(Go.Edge.mk 4 Go.Ground.data), (Go.Edge.mk 5 Go.Ground.chain), (Go.Edge.mk 0 Go.Ground.phase), (Go.Edge.mk 1 Go.Ground.phase), (Go.Edge.mk 2 Go.Ground.phase), (Go.Edge.mk 3 Go.Ground.phase), (Go.Edge.mk 4 Go.Ground.phase), (Go.Edge.mk 5 Go.Ground.phase)] none)] false)))
def lePs : Array Go.Tmp := #[14, 15]
def leAs : Go.Code := (Go.Code.region 4 #[(Go.Oper.mk (some 8) (Go.Op.alloc 139) 0 "nat.go:116" #[] none), (Go.Oper.mk none (Go.Op.store 139 (Go.Operand.tmp 8) (Go.Operand.tmp 15)) 0 "nat.go:116" #[(Go.Edge.mk 0 Go.Ground.data), (Go.Edge.mk 0 Go.Ground.phase)] none)] false)
def leBo : Go.Code := (Go.Code.block 1 (Go.Code.seq (Go.Code.region 5 #[(Go.Oper.mk (some 17) (Go.Op.indexAddr 139 (Go.Operand.tmp 8) (Go.Operand.const (Go.Value.int Go.IntKind.i64 0))) 0 "nat.go:117" #[] none), (Go.Oper.mk (some 18) (Go.Op.load 75 (Go.Operand.tmp 17)) 75 "nat.go:117" #[(Go.Edge.mk 0 Go.Ground.data)] none), (Go.Oper.mk (some 19) (Go.Op.indexAddr 139 (Go.Operand.tmp 8) (Go.Operand.const (Go.Value.int Go.IntKind.i64 1))) 0 "nat.go:117" #[] none), (Go.Oper.mk (some 20) (Go.Op.load 75 (Go.Operand.tmp 19)) 75 "nat.go:117" #[(Go.Edge.mk 2 Go.Ground.data)] none), (Go.Oper.mk (some 21) (Go.Op.load 75 (Go.Operand.tmp 6)) 75 "nat.go:117" #[] none), (Go.Oper.mk (some 22) (Go.Op.call (Go.Call.mk (Go.Callee.value (Go.Operand.func 194)) #[(Go.Operand.tmp 18), (Go.Operand.tmp 20), (Go.Operand.tmp 21)] #[75, 75, 75])) 171 "nat.go:117" #[(Go.Edge.mk 1 Go.Ground.data), (Go.Edge.mk 3 Go.Ground.data), (Go.Edge.mk 4 Go.Ground.data)] none), (Go.Oper.mk (some 16) (Go.Op.move (Go.Operand.tmp 22)) 171 "nat.go:117" #[(Go.Edge.mk 5 Go.Ground.data)] none), (Go.Oper.mk (some 23) (Go.Op.extract (Go.Operand.tmp 16) 0) 75 "nat.go:117" #[(Go.Edge.mk 6 Go.Ground.data)] none), (Go.Oper.mk (some 24) (Go.Op.extract (Go.Operand.tmp 16) 1) 75 "nat.go:117" #[(Go.Edge.mk 6 Go.Ground.data), (Go.Edge.mk 9 (Go.Ground.gcOnly Go.Departure.lateStores))] none), (Go.Oper.mk (some 9) (Go.Op.assign (Go.Operand.tmp 23)) 75 "nat.go:117" #[(Go.Edge.mk 7 Go.Ground.data), (Go.Edge.mk 5 Go.Ground.chain), (Go.Edge.mk 0 Go.Ground.phase), (Go.Edge.mk 1 Go.Ground.phase), (Go.Edge.mk 2 Go.Ground.phase), (Go.Edge.mk 3 Go.Ground.phase), (Go.Edge.mk 4 Go.Ground.phase), (Go.Edge.mk 5 Go.Ground.phase), (Go.Edge.mk 6 Go.Ground.phase), (Go.Edge.mk 7 Go.Ground.phase), (Go.Edge.mk 8 (Go.Ground.textOnly Go.Departure.lateStores))] none), (Go.Oper.mk (some 10) (Go.Op.assign (Go.Operand.tmp 24)) 75 "nat.go:117" #[(Go.Edge.mk 8 Go.Ground.data), (Go.Edge.mk 9 Go.Ground.chain), (Go.Edge.mk 0 Go.Ground.phase), (Go.Edge.mk 1 Go.Ground.phase), (Go.Edge.mk 2 Go.Ground.phase), (Go.Edge.mk 3 Go.Ground.phase), (Go.Edge.mk 4 Go.Ground.phase), (Go.Edge.mk 5 Go.Ground.phase), (Go.Edge.mk 6 Go.Ground.phase), (Go.Edge.mk 7 Go.Ground.phase), (Go.Edge.mk 8 Go.Ground.phase), (Go.Edge.mk 9 Go.Ground.phase)] none)] false) (Go.Code.region 6 #[(Go.Oper.mk (some 25) (Go.Op.load 42 (Go.Operand.tmp 5)) 42 "nat.go:118" #[] none), (Go.Oper.mk (some 26) (Go.Op.move (Go.Operand.tmp 9)) 75 "nat.go:118" #[] none), (Go.Oper.mk (some 27) (Go.Op.buildSlice 42 1 #[(0, (Go.Operand.tmp 26))]) 42 "nat.go:118" #[(Go.Edge.mk 1 Go.Ground.data)] none), (Go.Oper.mk (some 28) (Go.Op.call (Go.Call.mk (Go.Callee.builtin Go.Builtin.append) #[(Go.Operand.tmp 25), (Go.Operand.tmp 27)] #[42, 42])) 42 "nat.go:118" #[(Go.Edge.mk 0 Go.Ground.data), (Go.Edge.mk 2 Go.Ground.data)] none), (Go.Oper.mk (some 29) (Go.Op.move (Go.Operand.tmp 10)) 75 "nat.go:118" #[(Go.Edge.mk 5 (Go.Ground.gcOnly Go.Departure.lateStores))] none), (Go.Oper.mk none (Go.Op.store 42 (Go.Operand.tmp 5) (Go.Operand.tmp 28)) 0 "nat.go:118" #[(Go.Edge.mk 3 Go.Ground.data), (Go.Edge.mk 3 Go.Ground.chain), (Go.Edge.mk 0 Go.Ground.phase), (Go.Edge.mk 1 Go.Ground.phase), (Go.Edge.mk 2 Go.Ground.phase), (Go.Edge.mk 3 Go.Ground.phase), (Go.Edge.mk 4 (Go.Ground.textOnly Go.Departure.lateStores))] none), (Go.Oper.mk none (Go.Op.store 75 (Go.Operand.tmp 6) (Go.Operand.tmp 29)) 0 "nat.go:118" #[(Go.Edge.mk 4 Go.Ground.data), (Go.Edge.mk 5 Go.Ground.chain), (Go.Edge.mk 0 Go.Ground.phase), (Go.Edge.mk 1 Go.Ground.phase), (Go.Edge.mk 2 Go.Ground.phase), (Go.Edge.mk 3 Go.Ground.phase), (Go.Edge.mk 4 Go.Ground.phase), (Go.Edge.mk 5 Go.Ground.phase)] none)] false)))
def PairY (n m K : Nat) (J : Nat → Heap → Prop) (lo : Nat) : Prop :=
 ∀ (i : Nat) (Lc Lr : Heap) (B : Base) (w : World), i < K → J i Lc → St B (Lc ++ Lr) w →
  YieldAt (fw none) 0 Tryz.prog lo #[.int .i64 (i : Nat), .agg #[.int .u64 (dg Go.Num.B n i : Nat), .int .u64 (dg Go.Num.B m i : Nat)]] w (fun en w' => ∃ v, en = .returned v ∧ ∃ Lc', v = .bool true ∧ J (i + 1) Lc' ∧ St B (Lc' ++ Lr) w')
theorem dg_beyond {n k i : Nat} (h : n < Go.Num.B ^ k) (hi : k ≤ i) : dg Go.Num.B n i = 0 := dg_out (Nat.lt_of_lt_of_le h (Nat.pow_le_pow_right B_pos hi))
theorem lt_max1 {n k : Nat} (k2 : Nat) (h : n < Go.Num.B ^ k) : n < Go.Num.B ^ max k k2 := Nat.lt_of_lt_of_le h (Nat.pow_le_pow_right B_pos (Nat.le_max_left _ _))
theorem lt_max2 {n k2 : Nat} (k : Nat) (h : n < Go.Num.B ^ k2) : n < Go.Num.B ^ max k k2 := Nat.lt_of_lt_of_le h (Nat.pow_le_pow_right B_pos (Nat.le_max_right _ _))
theorem at_ok {a : Option Addr} {k c n : Nat} (w : World) (hA : Nm w a k c n) (i : Nat) :
  Ret Tryz.prog 132 #[.slice a k c, .int .i64 (i : Nat)] w (fun v w' => v = .int .u64 (dg Go.Num.B n i : Nat) ∧ Ext w w') := by
 refine enter (S := No) (l := [_, _]) (L := []) 13 Tryz.func132 rfl rfl rfl (St.start w No) ?_; refine yA ?_; refine aI rfl ?_; refine yB ?_; refine zq ?_; refine yA ?_; refine mI rfl ?_; refine mS rfl ?_; refine jj sl42 rfl ?_; refine zg (fun _ => R_ltN (a := i) (b := k) rfl rfl) ?_; refine yB ?_; refine zD rfl (fun h1 => ?_) (fun h1 => ?_)
 ·refine yA ?_; refine mS rfl ?_; refine mI rfl ?_; refine zg (fun _ => R_iaK (i := i) sl42 rfl ((Kn.old hA).ptr (by omega)) rfl (by omega)) ?_; refine zl (v := .int .u64 ((dg Go.Num.B n i) : Nat)) z75 rfl (fun w h => (Kn.old hA).ca 0 rfl (by omega) h) ?_; refine aI rfl ?_; refine yB ?_; refine ze ?_; refine zt (?_)
  refine zo (v := .int _ _) rfl rfl rfl ?_; exact fun w' hw => ⟨rfl, hw.fr (w, No) zm0⟩
 ·refine zi ?_; refine zk ?_; refine yA ?_; refine aI rfl ?_; refine yB ?_; refine ze ?_; refine zo (v := .int _ _) rfl rfl rfl ?_; exact fun w' hw => ⟨by rw [dg_beyond hA.lt (by omega)]; rfl, hw.fr (w, No) zm0⟩
theorem pairs_ok (a a2 : Option Addr) (k c k2 c2 : Nat) (w : World) :
  Ret Tryz.prog 89 #[.slice a k c, .slice a2 k2 c2] w (fun v w' => ∃ W, (∃ p1 p2 p3, v = .func (.func 133) #[] #[pX p1, pX p2, pX p3] ∧ W = [(p3, cel [.func (.func 132) #[] #[]] 163), (p2, cel [.slice a2 k2 c2] 42), (p1, cel [.slice a k c] 42)]) ∧ New w w' W) := by
 refine enter (S := No) (l := [_, _]) (L := []) 7 Tryz.func89 rfl rfl rfl (St.start w No) ?_; refine yA ?_; refine w_box rfl (fun p1 gp1 up1 => ?_)
 refine w_box rfl (fun p2 gp2 up2 => ?_)
 refine za rfl ?_; refine yC ?_; refine zA zr163 (fun p3 gp3 up3 => ?_)
 refine jv 0 z163 rfl ?_; refine yC ?_; refine zg (fun _ => R_makeFunc) ?_; refine za rfl ?_; refine yB ?_; refine ze ?_; refine zo rfl rfl rfl ?_; exact fun w' hw => ⟨_, ⟨p1, p2, p3, rfl, rfl⟩, St.made (A := []) hw⟩
theorem pairsI_ok {a a2 : Option Addr} {k c k2 c2 n m : Nat} (x1 x2 : World × (Nat → Prop)) (hK1 : Kn x1 a k c n) (hK2 : Kn x2 a2 k2 c2 m) (hk : k ≤ 1000000) (hk2 : k2 ≤ 1000000) (lo p1 p2 p3 : Nat) (J : Nat → Heap → Prop) (hJ : PairY n m (max k k2) J lo) (Lc Lr : Heap) (hJ0 : J 0 Lc) (Bs : Base) (i1 i2 : Nat) (hx1 : Bs[i1]? = some x1) (hx2 : Bs[i2]? = some x2) (w : World) (hs : St Bs ([(p1, cel [.slice a k c] 42), (p2, cel [.slice a2 k2 c2] 42), (p3, cel [.func (.func 132) #[] #[]] 163)] ++ (Lc ++ Lr)) w) :
  Ret Tryz.prog 133 #[.func (.yield lo) #[] #[], pX p1, pX p2, pX p3] w (fun v w' => v = .tuple #[] ∧ ∃ Lc', J (max k k2) Lc' ∧ St Bs ([(p1, cel [.slice a k c] 42), (p2, cel [.slice a2 k2 c2] 42), (p3, cel [.func (.func 132) #[] #[]] 163)] ++ (Lc' ++ Lr)) w') := by
 refine enterB (l := [_, _, _, _]) 28 Tryz.func133 rfl rfl rfl (hs) ?_; refine yA ?_; refine jM 0 z42 rfl ?_; refine jj sl42 rfl ?_; refine jM 1 z42 rfl ?_; refine jj sl42 rfl ?_; refine zg (fun _ => R_maxN (a := k) (b := k2) rfl rfl) ?_; refine mI rfl ?_; refine yB ?_; refine zB ?_
 refine c_loop (fun m9 e B L => ∃ (i : Nat) (L1 : Heap), e 0 = .func (.yield lo) #[] #[] ∧ e 1 = pX p1 ∧ e 2 = pX p2 ∧ e 3 = pX p3 ∧ e 10 = .int .i64 (max k k2 : Nat) ∧ e 11 = .int .i64 (i : Nat) ∧ Bs = B ∧ L = [(p1, cel [.slice a k c] 42), (p2, cel [.slice a2 k2 c2] 42), (p3, cel [.func (.func 132) #[] #[]] 163)] ++ (L1 ++ Lr) ∧ i ≤ max k k2 ∧ J i L1 ∧ m9 = max k k2 - i) _ ⟨0, Lc, rfl, rfl, rfl, rfl, rfl, rfl, rfl, rfl, Nat.zero_le _, hJ0, rfl⟩ ?_
 rintro m9 e B L ⟨i, L1, e0_1, e1_1, e2_1, e3_1, e10_1, e11_1, rfl, rfl, hi, hJ1, rfl⟩
 refine yA ?_; refine zg (fun _ => R_ltN (a := i) (b := (max k k2)) e11_1 e10_1) ?_; refine yB ?_; refine zq ?_; refine zD rfl (fun h1 => ?_) (fun h1 => ?_)
 ·have hlt : i < max k k2 := h1
  refine zi ?_; refine zk ?_; refine zq ?_; refine zB ?_; refine yA ?_; refine mI e11_1 ?_; refine aI rfl ?_; refine yB ?_; refine zq ?_; refine a_first [(14, .func (.yield lo) #[] #[]), (15, .int .i64 (i : Nat)), (16, .func (.func 132) #[] #[]), (17, .slice a k c), (18, .int .i64 (i : Nat)), (19, .int .u64 (dg Go.Num.B n i : Nat)), (20, .func (.func 132) #[] #[]), (21, .slice a2 k2 c2), (22, .int .i64 (i : Nat)), (23, .int .u64 (dg Go.Num.B m i : Nat)), (24, .agg #[.int .u64 (dg Go.Num.B n i : Nat), .int .u64 (dg Go.Num.B m i : Nat)])] mixed rfl (by kernel_rfl) ?_ ?_
  ·rintro (_ | _ | _ | _ | _ | _ | _ | _ | _ | _ | _ | j) p hp e' h1 h2
   ·cases hp; exact ⟨_, rfl, rfl, rfl, fun w h => .inl (R_move ((h2 0 (by rfl)).trans (e0_1)))⟩
   ·cases hp; exact ⟨_, rfl, rfl, rfl, fun w h => .inl (R_move ((h2 5 (by rfl)).trans (rfl)))⟩
   ·cases hp; exact ⟨_, rfl, rfl, rfl, fun w h => .inl (R_ld1 z163 ((h2 3 (by rfl)).trans (e3_1)) (zc 2 rfl rfl h))⟩
   ·cases hp; exact ⟨_, rfl, rfl, rfl, fun w h => .inl (R_ld1 z42 ((h2 1 (by rfl)).trans (e1_1)) (zc 0 rfl rfl h))⟩
   ·cases hp; exact ⟨_, rfl, rfl, rfl, fun w h => .inl (R_move ((h2 5 (by rfl)).trans (rfl)))⟩
   ·cases hp; exact ⟨_, rfl, rfl, rfl, fun w h => .inr ⟨_, _, runE_as (R_callv (h1 2 _ (by kernel_rfl) rfl) Tryz.func132 rfl rfl) (arr2 (h1 3 _ (by kernel_rfl) rfl) (h1 4 _ (by kernel_rfl) rfl)), at_ok w (hK1.at_ i1 hx1 h) i⟩⟩
   ·cases hp; exact ⟨_, rfl, rfl, rfl, fun w h => .inl (R_ld1 z163 ((h2 3 (by rfl)).trans (e3_1)) (zc 2 rfl rfl h))⟩
   ·cases hp; exact ⟨_, rfl, rfl, rfl, fun w h => .inl (R_ld1 z42 ((h2 2 (by rfl)).trans (e2_1)) (zc 1 rfl rfl h))⟩
   ·cases hp; exact ⟨_, rfl, rfl, rfl, fun w h => .inl (R_move ((h2 5 (by rfl)).trans (rfl)))⟩
   ·cases hp; exact ⟨_, rfl, rfl, rfl, fun w h => .inr ⟨_, _, runE_as (R_callv (h1 6 _ (by kernel_rfl) rfl) Tryz.func132 rfl rfl) (arr2 (h1 7 _ (by kernel_rfl) rfl) (h1 8 _ (by kernel_rfl) rfl)), at_ok w (hK2.at_ i2 hx2 h) i⟩⟩
   ·cases hp; exact ⟨_, rfl, rfl, rfl, fun w h => .inl (R_buildA2 ar139 zr139 (h1 5 _ (by kernel_rfl) rfl) (h1 9 _ (by kernel_rfl) rfl))⟩
   ·cases hp
  refine a_yield 11 rfl (by kernel_rfl) rfl (fun w h => hJ i L1 ([(p1, cel [.slice a k c] 42), (p2, cel [.slice a2 k2 c2] 42), (p3, cel [.func (.func 132) #[] #[]] 163)] ++ Lr) Bs w hlt hJ1 (h.perm (perm_mid [(p1, cel [.slice a k c] 42), (p2, cel [.slice a2 k2 c2] 42), (p3, cel [.func (.func 132) #[] #[]] 163)] L1 Lr))) ?_
  rintro w h v w' ⟨L2, rfl, hJ2, h2⟩
  refine ⟨_, _, h2.perm (perm_mid [(p1, cel [.slice a k c] 42), (p2, cel [.slice a2 k2 c2] 42), (p3, cel [.func (.func 132) #[] #[]] 163)] L2 Lr).symm, ?_⟩
  refine a_run 12 rfl (by kernel_rfl) rfl rfl (fun w h => R_not rfl) ?_; refine a_done (by kernel_rfl) ?_; refine zk ?_; refine zG rfl ?_; refine zi ?_; refine zO (zk ?_); refine zr ?_; refine zg (fun _ => R_addN (n := i) (b := 1) e11_1 rfl (by omega)) ?_; refine mI rfl ?_; refine zn ?_; exact k_again _ (by omega) ⟨i + 1, L2, e0_1, e1_1, e2_1, e3_1, e10_1, rfl, rfl, rfl, by omega, hJ2, rfl⟩
 ·refine zX ?_; refine zx (zx (b_here rfl (?_)))
  refine r_none (.inr rfl) rfl ?_; exact fun w' hw => ⟨rfl, L1, by obtain rfl : i = max k k2 := (by omega); exact hJ1, hw⟩
def cmJ (e : Env) (fn r l ob n m : Nat) (ds : List Deferred) (i : Nat) (Lc : Heap) : Prop := Lc = [(l, lpO .ready none fn ⟨26, ds, none⟩ e cmPs cmAs cmBo r), (ob, cel [.int .i64 (cmpN (n % Go.Num.B ^ i) (m % Go.Num.B ^ i))] 3)]
theorem cm_round (e : Env) (fn r l ob n m K : Nat) (ds : List Deferred) (he5 : e 5 = pX ob) : PairY n m K (cmJ e fn r l ob n m ds) l := by
 intro i Lc Lr B w hiK hJ0 hw
 obtain rfl := hJ0
 refine yield_round 0 (L := _ :: _ :: Lr) hw rfl rfl ?_; refine zr ?_; refine zA zr139 (fun t7b gt7b ut7b => ?_)
 refine jv 0 z139 rfl ?_; refine zn ?_; refine k_begin (l' := 0) 1 rfl ?_; refine zB ?_; refine zB ?_; refine yA ?_; refine zg (fun _ => R_iaA ar139 (by decide) rfl rfl (by first | omega | decide | exact Nat.succ_pos _ | exact Nat.succ_lt_succ (Nat.succ_pos _))) ?_; refine jM 0 z75 rfl ?_; refine zg (fun _ => R_iaA (i := 1) ar139 (by decide) rfl rfl (by first | omega | decide | exact Nat.succ_pos _ | exact Nat.succ_lt_succ (Nat.succ_pos _))) ?_; refine jM 0 z75 rfl ?_; refine zg (fun _ => R_ltN (a := (dg Go.Num.B n i)) (b := (dg Go.Num.B m i)) rfl rfl) ?_; refine aB rfl ?_; refine yB ?_; refine zD rfl (fun h2 => ?_) (fun h2 => ?_)
 ·refine zr ?_; refine ju 2 z3 he5 rfl rfl ?_; refine zn ?_; refine zO (zO (?_))
  refine k_round 1 rfl ?_; exact fun w h => ⟨_, rfl, [_, _], rfl, by unfold cmJ; rw [cmp_step B_pos, if_pos h2]; (try rfl), h.d1⟩
 ·refine yA ?_; refine zg (fun _ => R_iaA ar139 (by decide) rfl rfl (by first | omega | decide | exact Nat.succ_pos _ | exact Nat.succ_lt_succ (Nat.succ_pos _))) ?_; refine jM 0 z75 rfl ?_; refine zg (fun _ => R_iaA (i := 1) ar139 (by decide) rfl rfl (by first | omega | decide | exact Nat.succ_pos _ | exact Nat.succ_lt_succ (Nat.succ_pos _))) ?_; refine jM 0 z75 rfl ?_; refine zg (fun _ => R_gtN (a := (dg Go.Num.B n i)) (b := (dg Go.Num.B m i)) rfl rfl) ?_; refine aB rfl ?_; refine yB ?_; refine zD rfl (fun h3 => ?_) (fun h3 => ?_)
  ·refine zr ?_; refine ju 2 z3 he5 rfl rfl ?_; refine zn ?_; refine zO (zO (?_))
   refine k_round 1 rfl ?_; exact fun w h => ⟨_, rfl, [_, _], rfl, by unfold cmJ; rw [cmp_step B_pos, if_neg h2, if_pos h3]; (try rfl), h.d1⟩
  ·refine zi ?_; refine zO (zO (?_))
   refine k_round 1 rfl ?_; exact fun w h => ⟨_, rfl, [_, _], rfl, by unfold cmJ; rw [cmp_step B_pos, if_neg h2, if_neg h3]; (try rfl), h.d1⟩
theorem Cmp_ok {a a2 : Option Addr} {k c k2 c2 n m : Nat} (w : World) (hA : Nm w a k c n) (hB : Nm w a2 k2 c2 m) (hs : k ≤ 1000000 ∧ k2 ≤ 1000000) :
  Ret Tryz.prog 55 #[.slice a k c, .slice a2 k2 c2] w (fun v w' => v = .int .i64 (cmpN n m) ∧ Ext w w') := by
 refine enterM (S := No) (l := [_, _]) (L := []) 26 Tryz.func55 rfl rfl rfl (St.start w No) ?_; refine yA ?_; refine aI rfl ?_; refine yC ?_; refine zA zr3 (fun ob gob uob => ?_)
 refine jv 0 z3 rfl ?_; refine yB ?_; refine zq ?_; refine yA ?_; refine mS rfl ?_; refine mS rfl ?_; refine w_callW (fun w => zR Tryz.func89 rfl rfl rfl) rfl rfl (fun w _ => pairs_ok _ _ _ _ _ _ w) ?_
 rintro u W0 ⟨p1, p2, p3, rfl, rfl⟩
 refine yB ?_; refine zB ?_; refine c_gen fun e he => ?_
 have he5 : e 5 = pX ob := congrFun he 5
 have heg : e 10 = .func (.func 133) #[] #[pX p1, pX p2, pX p3] := congrFun he 10
 refine c_range (f := 133) (fi := []) (ca := [pX p1, pX p2, pX p3]) heg rfl rfl rfl (fun r l fn w' => ∃ Lc', cmJ e fn r l ob n m [] (max k k2) Lc' ∧ St [(w, No)] ([(p1, cel [.slice a k c] 42), (p2, cel [.slice a2 k2 c2] 42), (p3, cel [.func (.func 132) #[] #[]] 163)] ++ (Lc' ++ [(r, .deferred (some []))])) w') ?_ ?_
 ·intro fn r l hr1 hr2 hl w1 hw1
  refine (pairsI_ok _ _ (Kn.old hA) (Kn.old hB) (by omega) (by omega) l p1 p2 p3 _ (cm_round e fn r l ob n m _ [] he5) _ [(r, .deferred (some []))] (by unfold cmJ; rw [Nat.pow_zero, Nat.mod_one, Nat.mod_one]) [(w, No)] 0 0 rfl rfl w1 (hw1.pick [4, 3, 2, 0, 5, 1] (by decide))).mono ?_
  rintro v w2 ⟨rfl, h3⟩; exact h3
 ·rintro fn r l hr1 hr2 hl w1 ⟨Lc', hJ, hs⟩
  obtain rfl := hJ
  refine ⟨_, _, .ready, none, (fun h => by cases h), hs.pick [3, 4, 5] (by decide), ?_⟩
  refine zO (zk ?_); refine yA ?_; refine zL 1 z3 he5 rfl rfl ?_; refine aI rfl ?_; refine yB ?_; refine ze ?_; refine r_finM1 2 rfl (.inl rfl) rfl (.tmp rfl rfl .nil) ?_; exact fun w' hw => ⟨by rw [cmp_end (lt_max1 k2 hA.lt) (lt_max2 k hB.lt)]; rfl, hw.f0⟩
def adJ (e : Env) (fn r l ob cb n m : Nat) (ds : List Deferred) (i : Nat) (Lc : Heap) : Prop := ∃ v W z c, Lc = [(l, lpO .ready none fn ⟨42, ds, none⟩ e adPs adAs adBo r), (ob, cel [v] 42), (cb, cel [.int .u64 (c : Nat)] 75)] ++ W ∧ Own 75 1 v (lmV z i) i W ∧ z < Go.Num.B ^ i ∧ c ≤ 1 ∧ z + Go.Num.B ^ i * c = n % Go.Num.B ^ i + m % Go.Num.B ^ i
def leJ (e : Env) (fn r l ob cb n m : Nat) (ds : List Deferred) (i : Nat) (Lc : Heap) : Prop := ∃ v W z c, Lc = [(l, lpO .ready none fn ⟨32, ds, none⟩ e lePs leAs leBo r), (ob, cel [v] 42), (cb, cel [.int .u64 (c : Nat)] 75)] ++ W ∧ Own 75 1 v (lmV z i) i W ∧ z < Go.Num.B ^ i ∧ c ≤ 1 ∧ z + m % Go.Num.B ^ i = n % Go.Num.B ^ i + Go.Num.B ^ i * c
theorem ad_round (e : Env) (fn r l ob cb n m K : Nat) (ds : List Deferred) (hK : K ≤ 1000000) (he6 : e 6 = pX ob) (he7 : e 7 = pX cb) : PairY n m K (adJ e fn r l ob cb n m ds) l := by
 intro i Lc Lr B w hiK hJ0 hw
 obtain ⟨v, W, z, c, rfl, hO, hz, hc, hE⟩ := hJ0
 have hw2 : St B (_ :: _ :: _ :: (W ++ Lr)) w := hw
 refine yield_round 0 (L := _ :: _ :: _ :: (W ++ Lr)) hw2 rfl rfl ?_; refine zr ?_; refine zA zr139 (fun t9b gt9b ut9b => ?_)
 refine jv 0 z139 rfl ?_; refine zn ?_; refine k_begin (l' := 0) 1 rfl ?_; refine zB ?_; refine yA ?_; refine zg (fun _ => R_iaA ar139 (by decide) rfl rfl (by first | omega | decide | exact Nat.succ_pos _ | exact Nat.succ_lt_succ (Nat.succ_pos _))) ?_; refine jM 0 z75 rfl ?_; refine zg (fun _ => R_iaA (i := 1) ar139 (by decide) rfl rfl (by first | omega | decide | exact Nat.succ_pos _ | exact Nat.succ_lt_succ (Nat.succ_pos _))) ?_; refine jM 0 z75 rfl ?_; refine zL 3 z75 he7 rfl rfl ?_; refine zg (fun _ => R_callX rfl (add64 (dg Go.Num.B n i) (dg Go.Num.B m i) c (by omega) _)) ?_
 refine zm rfl ?_; refine jx rfl rfl ?_; refine jx rfl rfl ?_; refine aI rfl ?_; refine aI rfl ?_; refine yB ?_; refine zr ?_; refine zL 2 z42 he6 rfl rfl ?_; refine mI rfl ?_; refine zS slt42 (by decide) rfl rfl (fun t32b gt32b ut32b => ?_)
 refine w_st (B' := _) (L' := [_, _, _, _, _] ++ (W ++ Lr)) (fun w h => h) ?_; refine w_appN [_, _, _, _, _] slt42 rfl hO hz rfl (fun w h => Nm.one (h.at_ 0 rfl) (Nat.mod_lt _ B_pos)) (by omega) (fun v1 W1 hO1 => ?_)
 obtain ⟨a1, c1, rfl⟩ := hO1.slice
 refine mI rfl ?_; refine ju 3 z42 he6 rfl rfl ?_; refine ju 4 z75 he7 rfl rfl ?_; refine zn ?_; refine zO (?_)
 refine k_round 2 rfl ?_; exact fun w h => ⟨_, rfl, [_, _, _] ++ W1, rfl, ⟨_, W1, _, _, rfl, hO1, lt_snoc hz (Nat.mod_lt _ B_pos), add_carry B_pos hc, add_step hE⟩, h.drop (.cons _ (.cons _ (List.Sublist.refl _)))⟩
theorem le_round (e : Env) (fn r l ob cb n m K : Nat) (ds : List Deferred) (hK : K ≤ 1000000) (he5 : e 5 = pX ob) (he6 : e 6 = pX cb) : PairY n m K (leJ e fn r l ob cb n m ds) l := by
 intro i Lc Lr B w hiK hJ0 hw
 obtain ⟨v, W, z, c, rfl, hO, hz, hc, hE⟩ := hJ0
 have hw2 : St B (_ :: _ :: _ :: (W ++ Lr)) w := hw
 refine yield_round 0 (L := _ :: _ :: _ :: (W ++ Lr)) hw2 rfl rfl ?_; refine zr ?_; refine zA zr139 (fun t8b gt8b ut8b => ?_)
 refine jv 0 z139 rfl ?_; refine zn ?_; refine k_begin (l' := 0) 1 rfl ?_; refine zB ?_; refine yA ?_; refine zg (fun _ => R_iaA ar139 (by decide) rfl rfl (by first | omega | decide | exact Nat.succ_pos _ | exact Nat.succ_lt_succ (Nat.succ_pos _))) ?_; refine jM 0 z75 rfl ?_; refine zg (fun _ => R_iaA (i := 1) ar139 (by decide) rfl rfl (by first | omega | decide | exact Nat.succ_pos _ | exact Nat.succ_lt_succ (Nat.succ_pos _))) ?_; refine jM 0 z75 rfl ?_; refine zL 3 z75 he6 rfl rfl ?_; refine zg (fun _ => R_callX rfl (sub64 (dg Go.Num.B n i) (dg Go.Num.B m i) c (by omega) _)) ?_
 refine zm rfl ?_; refine jx rfl rfl ?_; refine jx rfl rfl ?_; refine aI rfl ?_; refine aI rfl ?_; refine yB ?_; refine zr ?_; refine zL 2 z42 he5 rfl rfl ?_; refine mI rfl ?_; refine zS slt42 (by decide) rfl rfl (fun t27b gt27b ut27b => ?_)
 refine w_st (B' := _) (L' := [_, _, _, _, _] ++ (W ++ Lr)) (fun w h => h) ?_; refine w_appN [_, _, _, _, _] slt42 rfl hO hz rfl (fun w h => Nm.one (h.at_ 0 rfl) (Nat.mod_lt _ B_pos)) (by omega) (fun v1 W1 hO1 => ?_)
 obtain ⟨a1, c1, rfl⟩ := hO1.slice
 refine mI rfl ?_; refine ju 3 z42 he5 rfl rfl ?_; refine ju 4 z75 he6 rfl rfl ?_; refine zn ?_; refine zO (?_)
 refine k_round 2 rfl ?_; exact fun w h => ⟨_, rfl, [_, _, _] ++ W1, rfl, ⟨_, W1, _, _, rfl, hO1, lt_snoc hz (Nat.mod_lt _ B_pos), by split <;> omega, sub_step hE (sub_digit (dg_lt B_pos _ _) (dg_lt B_pos _ _) hc)⟩, h.drop (.cons _ (.cons _ (List.Sublist.refl _)))⟩
theorem St.rows {B : Base} {p1 p2 p3 l o c r : Nat × Obj} {W : Heap} {w : World} (h : St B ([p1, p2, p3] ++ (([l, o, c] ++ W) ++ [r])) w) : St B (l :: o :: c :: r :: (W ++ [])) w := by
 refine (h.drop (L' := [l, o, c] ++ W ++ [r]) (.cons _ (.cons _ (.cons _ (List.Sublist.refl _))))).perm ?_
 rw [List.append_nil]
 exact .cons _ (.cons _ (.cons _ List.perm_append_comm))
theorem sz_mono {n m : Nat} (h : n ≤ m) : sz n ≤ sz m := sz_iff.2 (Nat.lt_of_le_of_lt h (lt_sz m))
theorem cmpN_lt {n m : Nat} : cmpN n m < 0 ↔ n < m := by unfold cmpN; split <;> (try split) <;> omega
theorem cmpN_le {n m : Nat} : cmpN n m ≤ 0 ↔ n ≤ m := by unfold cmpN; split <;> (try split) <;> omega
theorem cmpN_eq {n m : Nat} : cmpN n m = 0 ↔ n = m := by unfold cmpN; split <;> (try split) <;> omega
theorem max_le6 {k k2 : Nat} (h : k ≤ 1000000) (h2 : k2 ≤ 1000000) : max k k2 ≤ 1000000 := Nat.max_le.2 ⟨h, h2⟩
theorem Add_ok {a a2 : Option Addr} {k c k2 c2 n m : Nat} (w : World) (hA : Nm w a k c n) (hB : Nm w a2 k2 c2 m) (hs : k ≤ 1000000 ∧ k2 ≤ 1000000 ∧ sz (n + m) ≤ 2048) :
  Ret Tryz.prog 192 #[.slice a k c, .slice a2 k2 c2] w (Tel (fun a c => .tuple #[.slice a (sz (n + m)) c, .int .i64 0]) (sz (n + m)) (n + m) w) := by
 have hn := sz_mono (Nat.le_add_right n m); have hm := sz_mono (Nat.le_add_left m n)
 refine enterM (S := No) (l := [_, _]) (L := []) 42 Tryz.func192 rfl rfl rfl (St.start w No) ?_; refine yA ?_; refine za (v := .slice _ _ _) rfl ?_; refine aI rfl ?_; refine yB ?_; refine zq ?_; refine yA ?_; refine mS rfl ?_; refine mS rfl ?_; refine zS slt169 (by decide) rfl rfl (fun b1 gb1 ub1 => ?_)
 refine jD Tryz.func91 (fun w h => long2_ok w (h.at_ 0 rfl) ((Kn.old hA).at_ 0 rfl h) ((Kn.old hB).at_ 0 rfl h) ⟨by omega, by omega⟩ ⟨by omega, by omega⟩) ?_; refine yB ?_; refine zG rfl ?_; refine zi ?_; refine zk ?_; refine yA ?_; refine zA zr42 (fun ob gob uob => ?_)
 refine yC ?_; refine zA zr75 (fun cb gcb ucb => ?_)
 refine jv 0 z75 rfl ?_; refine yB ?_; refine zq ?_; refine yA ?_; refine mS rfl ?_; refine mS rfl ?_; refine w_callW (fun w => zR Tryz.func89 rfl rfl rfl) rfl rfl (fun w _ => pairs_ok _ _ _ _ _ _ w) ?_
 rintro u W0 ⟨p1, p2, p3, rfl, rfl⟩
 refine yB ?_; refine zB ?_; refine c_gen fun e he => ?_
 have he6 : e 6 = pX ob := congrFun he 6
 have he7 : e 7 = pX cb := congrFun he 7
 have heg : e 18 = .func (.func 133) #[] #[pX p1, pX p2, pX p3] := congrFun he 18
 refine c_range (f := 133) (fi := []) (ca := [pX p1, pX p2, pX p3]) heg rfl rfl rfl (fun r l fn w' => ∃ Lc', adJ e fn r l ob cb n m [] (max k k2) Lc' ∧ St [(w, No)] ([(p1, cel [.slice a k c] 42), (p2, cel [.slice a2 k2 c2] 42), (p3, cel [.func (.func 132) #[] #[]] 163)] ++ (Lc' ++ [(r, .deferred (some []))])) w') ?_ ?_
 ·intro fn r l hr1 hr2 hl w1 hw1
  refine (pairsI_ok _ _ (Kn.old hA) (Kn.old hB) (by omega) (by omega) l p1 p2 p3 _ (ad_round e fn r l ob cb n m _ [] (max_le6 (by omega) (by omega)) he6 he7) _ [(r, .deferred (some []))] ⟨_, [], 0, 0, rfl, Own.nil _ _, by decide, by decide, by simp [Nat.mod_one]⟩ [(w, No)] 0 0 rfl rfl w1 (hw1.pick [4, 3, 2, 0, 6, 5, 1] (by decide))).mono ?_
  rintro v w2 ⟨rfl, h3⟩; exact h3
 ·rintro fn r l hr1 hr2 hl w1 ⟨Lc', hJ, hs⟩
  obtain ⟨v, W0, z, cy, rfl, hO, hz, hcy, hE⟩ := hJ
  have hK6 := max_le6 (k := k) (k2 := k2) (by omega) (by omega)
  have hE2 : z + Go.Num.B ^ max k k2 * cy = n + m := by rw [hE, Nat.mod_eq_of_lt (lt_max1 k2 hA.lt), Nat.mod_eq_of_lt (lt_max2 k hB.lt)]
  have hlt := lt_snoc (b := Go.Num.B) hz (show cy < Go.Num.B by unfold Go.Num.B; omega)
  rw [hE2] at hlt
  refine ⟨_, _, .ready, none, (fun h => by cases h), St.rows hs, ?_⟩
  refine zO (zk ?_); refine yA ?_; refine zL 1 z42 he6 rfl rfl ?_; refine zL 2 z75 he7 rfl rfl ?_; refine zS slt42 (by decide) rfl rfl (fun b4 gb4 ub4 => ?_)
  refine w_st (B' := _) (L' := [_, _, _, _, _] ++ (W0 ++ [])) (fun w h => h) ?_; refine w_appN [_, _, _, _, _] slt42 rfl hO hz rfl (fun w h => Nm.one (h.at_ 0 rfl) (by unfold Go.Num.B; omega)) (by omega) (fun v1 W1 hO1 => ?_)
  rw [hE2] at hO1; obtain ⟨a1, c1, rfl, hM1, _⟩ := hO1.nm hlt
  refine w_tel (fun w => zR Tryz.func90 rfl rfl rfl) rfl rfl (fun w h => told_ok w (hM1 _ (fun p hp => h.own p (List.mem_append_right _ (List.mem_append_left _ hp)))) ⟨by omega, by omega⟩) (fun x5 a5 c5 hK5 hN5 => ?_)
  refine jx rfl rfl ?_; refine jx rfl rfl ?_; refine za (v := .slice _ _ _) rfl ?_; refine aI rfl ?_; refine yB ?_; refine ze ?_; refine r_finM1 4 rfl (.inl rfl) rfl (.tmp rfl rfl (.tmp rfl rfl .nil)) ?_; exact fun w' hw => ⟨_, _, rfl, (hK5.at_ 0 rfl hw), (hN5 _ zm0), hw.fr (w, No) zm1⟩
theorem less_ok {a a2 : Option Addr} {k c k2 c2 n m : Nat} (w : World) (hA : Nm w a k c n) (hB : Nm w a2 k2 c2 m) (hs : k ≤ 1000000 ∧ k2 ≤ 1000000) (hmn : m ≤ n) :
  Ret Tryz.prog 181 #[.slice a k c, .slice a2 k2 c2] w (Tel (fun a c => .slice a (sz (n - m)) c) (sz (n - m)) (n - m) w) := by
 refine enterM (S := No) (l := [_, _]) (L := []) 32 Tryz.func181 rfl rfl rfl (St.start w No) ?_; refine yA ?_; refine za (v := .slice _ _ _) rfl ?_; refine yC ?_; refine zA zr42 (fun ob gob uob => ?_)
 refine yC ?_; refine zA zr75 (fun cb gcb ucb => ?_)
 refine jv 0 z75 rfl ?_; refine yB ?_; refine zq ?_; refine yA ?_; refine mS rfl ?_; refine mS rfl ?_; refine w_callW (fun w => zR Tryz.func89 rfl rfl rfl) rfl rfl (fun w _ => pairs_ok _ _ _ _ _ _ w) ?_
 rintro u W0 ⟨p1, p2, p3, rfl, rfl⟩
 refine yB ?_; refine zB ?_; refine c_gen fun e he => ?_
 have he5 : e 5 = pX ob := congrFun he 5
 have he6 : e 6 = pX cb := congrFun he 6
 have heg : e 13 = .func (.func 133) #[] #[pX p1, pX p2, pX p3] := congrFun he 13
 refine c_range (f := 133) (fi := []) (ca := [pX p1, pX p2, pX p3]) heg rfl rfl rfl (fun r l fn w' => ∃ Lc', leJ e fn r l ob cb n m [] (max k k2) Lc' ∧ St [(w, No)] ([(p1, cel [.slice a k c] 42), (p2, cel [.slice a2 k2 c2] 42), (p3, cel [.func (.func 132) #[] #[]] 163)] ++ (Lc' ++ [(r, .deferred (some []))])) w') ?_ ?_
 ·intro fn r l hr1 hr2 hl w1 hw1
  refine (pairsI_ok _ _ (Kn.old hA) (Kn.old hB) (by omega) (by omega) l p1 p2 p3 _ (le_round e fn r l ob cb n m _ [] (max_le6 (by omega) (by omega)) he5 he6) _ [(r, .deferred (some []))] ⟨_, [], 0, 0, rfl, Own.nil _ _, by decide, by decide, by simp [Nat.mod_one]⟩ [(w, No)] 0 0 rfl rfl w1 (hw1.pick [4, 3, 2, 0, 6, 5, 1] (by decide))).mono ?_
  rintro v w2 ⟨rfl, h3⟩; exact h3
 ·rintro fn r l hr1 hr2 hl w1 ⟨Lc', hJ, hs⟩
  obtain ⟨v, W0, z, cy, rfl, hO, hz, hcy, hE⟩ := hJ
  have hK6 := max_le6 (k := k) (k2 := k2) (by omega) (by omega)
  obtain ⟨rfl, rfl⟩ := sub_end hE (lt_max1 k2 hA.lt) hmn hz
  obtain ⟨a1, c1, rfl, hM1, _⟩ := hO.nm hz
  refine ⟨_, _, .ready, none, (fun h => by cases h), St.rows hs, ?_⟩
  refine zO (zk ?_); refine yA ?_; refine zL 1 z42 he5 rfl rfl ?_; refine w_tel (fun w => zR Tryz.func92 rfl rfl rfl) rfl rfl (fun w h => normal_ok w (hM1 _ (fun p hp => h.own p (List.mem_cons_of_mem _ (List.mem_cons_of_mem _ (List.mem_cons_of_mem _ (List.mem_cons_of_mem _ (List.mem_append_left _ hp))))))) (by omega)) (fun x3 a3 c3 hK3 hN3 => ?_)
  refine za (v := .slice _ _ _) rfl ?_; refine yB ?_; refine ze ?_; refine r_finM1 3 rfl (.inl rfl) rfl (.tmp rfl rfl .nil) ?_; exact fun w' hw => ⟨_, _, rfl, (hK3.at_ 0 rfl hw), (hN3 _ zm0), hw.fr (w, No) zm1⟩
end Go.Proofs.YtikdkendinnalaaGreatDoor
end
section
namespace Go.Num
section
variable {h u w y s t q r : Nat}
theorem half_init (hb : 0 < h) (hs : h ≤ 2 * s) (ht : t < h) (hu : u < s * h + t) (hw : w < h) :
    (u * h + w) / (s * h + t) ≤ u / s ∧ u / s ≤ h + 1 ∧ u / s * s + u % s = u ∧ u % s < s := by
  have hs0 : 0 < s := by omega
  have hy : 0 < s * h + t := by have := Nat.mul_pos hs0 hb; omega
  refine ⟨?_, ?_, ?_, Nat.mod_lt _ hs0⟩
  · rw [Nat.le_div_iff_mul_le hs0]
    generalize hQ : (u * h + w) / (s * h + t) = Q
    have h1 : Q * (s * h + t) ≤ u * h + w := by rw [← hQ]; exact Nat.div_mul_le_self _ _
    rw [Nat.mul_add, ← Nat.mul_assoc] at h1
    have h2 : Q * s * h < (u + 1) * h := by rw [Nat.add_mul, Nat.one_mul]; omega
    have := Nat.lt_of_mul_lt_mul_right h2
    omega
  · have h2 : u / s < h + 2 := by
      refine (Nat.div_lt_iff_lt_mul hs0).2 ?_
      rw [Nat.add_mul, Nat.mul_comm h]
      omega
    omega
  rw [Nat.mul_comm]; exact Nat.div_add_mod u s
theorem half_lt (hu : u < y) (hw : w < h) : (u * h + w) / y < h := by
  refine (Nat.div_lt_iff_lt_mul (by omega)).2 ?_
  have h1 : (u + 1) * h ≤ y * h := Nat.mul_le_mul_right _ hu
  rw [Nat.add_mul] at h1
  rw [Nat.mul_comm h]
  omega
theorem half_step (hu : u < s * h + t) (hw : w < h) (hq : (u * h + w) / (s * h + t) ≤ q) (he : q * s + r = u)
    (hc : h ≤ q ∨ h * r + w < q * t) : (u * h + w) / (s * h + t) ≤ q - 1 ∧ 0 < q ∧ (q - 1) * s + (r + s) = u := by
  have hQ : (u * h + w) / (s * h + t) < q := by
    rcases hc with hc | hc
    · exact Nat.lt_of_lt_of_le (half_lt hu hw) hc
    refine (Nat.div_lt_iff_lt_mul (Nat.lt_of_le_of_lt (Nat.zero_le _) hu)).2 ?_
    have e1 : u * h = q * s * h + h * r := by rw [← he, Nat.add_mul, Nat.mul_comm r]
    have e2 : q * (s * h + t) = q * s * h + q * t := by rw [Nat.mul_add, ← Nat.mul_assoc]
    rw [e1, e2]
    omega
  have hq0 : 0 < q := Nat.lt_of_le_of_lt (Nat.zero_le _) hQ
  obtain ⟨d, rfl⟩ : ∃ d, q = d + 1 := ⟨q - 1, by omega⟩
  refine ⟨by omega, by omega, ?_⟩
  rw [← he, Nat.add_sub_cancel, Nat.add_mul]; omega
theorem half_end (hy : 0 < s * h + t) (hq : (u * h + w) / (s * h + t) ≤ q) (he : q * s + r = u) (hc : q * t ≤ h * r + w) :
    q = (u * h + w) / (s * h + t) := by
  refine digit_eq hy hq ?_
  have e1 : u * h = q * s * h + h * r := by rw [← he, Nat.add_mul, Nat.mul_comm r]
  have e2 : q * (s * h + t) = q * s * h + q * t := by rw [Nat.mul_add, ← Nat.mul_assoc]
  rw [e1, e2]
  omega
theorem half_brk (hy : 0 < s * h + t) (ht : t < h) (hq : (u * h + w) / (s * h + t) ≤ q) (he : q * s + r = u) (hq2 : q ≤ h) (hr : h ≤ r) :
    q = (u * h + w) / (s * h + t) := by
  refine half_end hy hq he ?_
  have h1 : q * t ≤ h * t := Nat.mul_le_mul_right _ hq2
  have h2 : h * t ≤ h * r := Nat.mul_le_mul_left _ (by omega)
  omega
theorem half_rest {B : Nat} (hy : y < B) (hy0 : 0 < y) :
    ((u * h % B + w) % B + B - (u * h + w) / y * y % B) % B = (u * h + w) % y := by
  generalize hX : u * h + w = X
  have h1 := Nat.div_add_mod X y
  have h2 := Nat.mod_lt X hy0
  rw [Nat.mod_add_mod, hX]
  rw [Nat.mul_comm y] at h1
  generalize X / y * y = Z at *
  generalize X % y = R at *
  subst h1
  have hB : 0 < B := by omega
  have h3 := Nat.mod_lt Z hB
  rw [← Nat.mod_add_mod Z B R]
  generalize Z % B = z at *
  rcases Nat.lt_or_ge (z + R) B with h4 | h4
  · rw [Nat.mod_eq_of_lt h4, show z + R + B - z = R + B by omega, Nat.add_mod_right, Nat.mod_eq_of_lt (by omega)]
  rw [Nat.mod_eq_sub_mod h4, Nat.mod_eq_of_lt (a := z + R - B) (by omega), show z + R - B + B - z = R by omega, Nat.mod_eq_of_lt (by omega)]
theorem halves (hy : 0 < y) (n u1 u0 : Nat) :
    let R := (n * h + u1) % y
    (n * h + u1) / y * h + (R * h + u0) / y = ((n * h + u1) * h + u0) / y ∧ (R * h + u0) % y = ((n * h + u1) * h + u0) % y := by
  intro R
  have h1 := Nat.div_add_mod (n * h + u1) y
  have h2 := Nat.div_add_mod (R * h + u0) y
  have h3 := Nat.mod_lt (R * h + u0) hy
  refine div_end ?_ h3
  generalize (R * h + u0) / y = q0 at *
  generalize (R * h + u0) % y = r0 at *
  have hR : R = (n * h + u1) % y := rfl
  rw [← hR] at h1
  clear_value R
  generalize (n * h + u1) / y = q1 at *
  generalize n * h + u1 = m at *
  have e1 : m * h = y * q1 * h + R * h := by rw [← h1, Nat.add_mul]
  have e2 : (q1 * h + q0) * y = y * q1 * h + y * q0 := by rw [Nat.add_mul, Nat.mul_comm q0, Nat.mul_right_comm, Nat.mul_comm q1]
  rw [e1, e2]
  omega
theorem shl_div (a y s : Nat) : a * 2 ^ s / (y * 2 ^ s) = a / y ∧ a * 2 ^ s % (y * 2 ^ s) / 2 ^ s = a % y := by
  have hp : 0 < 2 ^ s := Nat.pow_pos (by decide)
  refine ⟨Nat.mul_div_mul_right _ _ hp, ?_⟩
  rw [Nat.mul_mod_mul_right, Nat.mul_div_cancel _ hp]
end
end Go.Num
end
section
namespace Go.Proofs.YtikdkendinnalaaGreatDoor
open Go.RowKit Go.Sx
open Go.Num
structure D64 (hi lo y s Y s1 t u w1 w0 : Nat) : Prop where
 s63 : s ≤ 63
 Ye : Y = y * 2 ^ s
 YB : Y < Go.Num.B
 Yh : Y = s1 * 4294967296 + t
 th : t < 4294967296
 sh : s1 < 4294967296
 s2 : 4294967296 ≤ 2 * s1
 uY : u < Y
 w1h : w1 < 4294967296
 w0h : w0 < 4294967296
 X : (hi * Go.Num.B + lo) * 2 ^ s = (u * 4294967296 + w1) * 4294967296 + w0
theorem d64_norm {hi lo y : Nat} (hy : hi < y) (hyB : y < Go.Num.B) (hlo : lo < Go.Num.B) :
  D64 hi lo y (64 - bl y) (y * 2 ^ (64 - bl y) % Go.Num.B) (y * 2 ^ (64 - bl y) % Go.Num.B / 2 ^ 32) (y * 2 ^ (64 - bl y) % Go.Num.B % 4294967296) (hi * 2 ^ (64 - bl y) % Go.Num.B ||| lo / 2 ^ (64 - (64 - bl y))) (lo * 2 ^ (64 - bl y) % Go.Num.B / 2 ^ 32) (lo * 2 ^ (64 - bl y) % Go.Num.B % 4294967296) := by
 have hy0 : y ≠ 0 := by omega
 have hbp : 0 < bl y := bl_pos hy0
 have hb64 : bl y ≤ 64 := bl_iff.2 (by rw [← B_two]; exact hyB)
 obtain ⟨s, hs⟩ : ∃ s, s = 64 - bl y := ⟨_, rfl⟩
 rw [← hs]
 have hs64 : s < 64 := by omega
 have hps : 0 < 2 ^ s := Nat.pow_pos (by decide)
 have hB : Go.Num.B = 2 ^ bl y * 2 ^ s := by rw [B_two, ← Nat.pow_add]; congr 1; omega
 have hyS : y * 2 ^ s < Go.Num.B := by rw [hB]; exact Nat.mul_lt_mul_of_pos_right (lt_bl y) hps
 have hhS : hi * 2 ^ s < Go.Num.B := Nat.lt_of_le_of_lt (Nat.mul_le_mul_right _ (Nat.le_of_lt hy)) hyS
 obtain ⟨p1, p2, _⟩ := shl_parts lo hs64
 have hq : lo / 2 ^ (64 - s) < 2 ^ s := by
  rw [Nat.div_lt_iff_lt_mul (Nat.pow_pos (by decide)), ← Nat.pow_add, show s + (64 - s) = 64 by omega, ← B_two]; exact hlo
 have hor : hi * 2 ^ s % Go.Num.B ||| lo / 2 ^ (64 - s) = hi * 2 ^ s + lo / 2 ^ (64 - s) := by
  rw [Nat.mod_eq_of_lt hhS, Nat.or_comm, Nat.mul_comm hi, or_add hq]; omega
 rw [hor, Nat.mod_eq_of_lt hyS]
 have htop : 2 ^ 63 ≤ y * 2 ^ s := by
  have h1 := bl_ge hy0
  have h2 : 2 ^ (bl y - 1) * 2 ^ s ≤ y * 2 ^ s := Nat.mul_le_mul_right _ h1
  rwa [← Nat.pow_add, show bl y - 1 + s = 63 by omega] at h2
 have hz : lo * 2 ^ s % Go.Num.B < Go.Num.B := Nat.mod_lt _ B_pos
 have hX : (hi * Go.Num.B + lo) * 2 ^ s = (hi * 2 ^ s + lo / 2 ^ (64 - s)) * Go.Num.B + lo * 2 ^ s % Go.Num.B := by
  rw [p2, Nat.add_mul, p1, Nat.add_mul]
  have e1 : hi * Go.Num.B * 2 ^ s = hi * 2 ^ s * Go.Num.B := by rw [Nat.mul_assoc, Nat.mul_comm Go.Num.B, ← Nat.mul_assoc]
  rw [e1, Nat.mul_comm Go.Num.B (lo / 2 ^ (64 - s))]; omega
 have hXlt : (hi * 2 ^ s + lo / 2 ^ (64 - s)) * Go.Num.B < y * 2 ^ s * Go.Num.B := by
  have h1 : (hi * Go.Num.B + lo) * 2 ^ s < y * Go.Num.B * 2 ^ s := Nat.mul_lt_mul_of_pos_right (by
   have : (hi + 1) * Go.Num.B ≤ y * Go.Num.B := Nat.mul_le_mul_right _ hy
   rw [Nat.add_mul] at this; omega) hps
  have e2 : y * Go.Num.B * 2 ^ s = y * 2 ^ s * Go.Num.B := by rw [Nat.mul_assoc, Nat.mul_comm Go.Num.B, ← Nat.mul_assoc]
  omega
 generalize hi * 2 ^ s + lo / 2 ^ (64 - s) = u at *
 generalize lo * 2 ^ s % Go.Num.B = z at *
 generalize hYe : y * 2 ^ s = Y at *
 have hBv : Go.Num.B = 18446744073709551616 := rfl
 have h32 : (2 : Nat) ^ 32 = 4294967296 := rfl
 have h63 : (2 : Nat) ^ 63 = 9223372036854775808 := rfl
 rw [h32]
 refine ⟨by omega, hYe.symm, hyS, ?_, Nat.mod_lt _ (by decide), ?_, ?_, Nat.lt_of_mul_lt_mul_right hXlt, ?_, Nat.mod_lt _ (by decide), ?_⟩
 ·omega
 ·omega
 ·omega
 ·omega
 ·rw [hX, hBv]
  omega
section
variable {hi lo y s Y s1 t u w1 w0 U w q r : Nat}
theorem D64.init (hD : D64 hi lo y s Y s1 t u w1 w0) (hU : U < Y) (hw : w < 4294967296) : (U * 4294967296 + w) / Y ≤ U / s1 ∧ U / s1 ≤ 4294967296 + 1 ∧ U / s1 * s1 + U % s1 = U ∧ U % s1 < s1 := by
 have h := half_init (h := 4294967296) (by decide) hD.s2 hD.th (hD.Yh ▸ hU) hw
 rwa [← hD.Yh] at h
theorem D64.step (hD : D64 hi lo y s Y s1 t u w1 w0) (hU : U < Y) (hw : w < 4294967296) (hq : (U * 4294967296 + w) / Y ≤ q) (he : q * s1 + r = U) (hc : 4294967296 ≤ q ∨ 4294967296 * r + w < q * t) : (U * 4294967296 + w) / Y ≤ q - 1 ∧ 0 < q ∧ (q - 1) * s1 + (r + s1) = U := by
 have h := half_step (h := 4294967296) (s := s1) (t := t) (w := w) (u := U) (by rw [← hD.Yh]; exact hU) hw (by rw [← hD.Yh]; exact hq) he hc
 rwa [← hD.Yh] at h
theorem D64.end_ (hD : D64 hi lo y s Y s1 t u w1 w0) (hY : 0 < Y) (hq : (U * 4294967296 + w) / Y ≤ q) (he : q * s1 + r = U) (hc : q * t ≤ 4294967296 * r + w) : q = (U * 4294967296 + w) / Y := by
 have h := half_end (h := 4294967296) (s := s1) (t := t) (w := w) (u := U) (by rw [← hD.Yh]; exact hY) (by rw [← hD.Yh]; exact hq) he hc
 rwa [← hD.Yh] at h
theorem D64.brk (hD : D64 hi lo y s Y s1 t u w1 w0) (hY : 0 < Y) (hq : (U * 4294967296 + w) / Y ≤ q) (he : q * s1 + r = U) (hq2 : q ≤ 4294967296) (hr : 4294967296 ≤ r) : q = (U * 4294967296 + w) / Y := by
 have h := half_brk (h := 4294967296) (s := s1) (t := t) (w := w) (u := U) (by rw [← hD.Yh]; exact hY) hD.th (by rw [← hD.Yh]; exact hq) he hq2 hr
 rwa [← hD.Yh] at h
end
theorem D64.fin {hi lo y s Y s1 t u w1 w0 : Nat} (h : D64 hi lo y s Y s1 t u w1 w0) (hy : 0 < y) :
  (u * 4294967296 + w1) / Y * 4294967296 + ((u * 4294967296 + w1) % Y * 4294967296 + w0) / Y = (hi * Go.Num.B + lo) / y ∧ ((u * 4294967296 + w1) % Y * 4294967296 + w0) % Y / 2 ^ s = (hi * Go.Num.B + lo) % y := by
 have hY : 0 < Y := by rw [h.Ye]; exact Nat.mul_pos hy (Nat.pow_pos (by decide))
 have h1 := halves (h := 4294967296) hY u w1 w0
 simp only at h1
 rw [h1.1, h1.2, ← h.X, h.Ye]
 exact shl_div _ _ _
theorem q_lt {q : Nat} (h : q < 4294967296) {t : Nat} (ht : t < 4294967296) : q * t < Go.Num.B := by
 have h1 : q * t ≤ 4294967295 * 4294967295 := Nat.mul_le_mul (by omega) (by omega)
 have hBv : Go.Num.B = 18446744073709551616 := rfl
 omega
theorem Div64_ok {hi lo y : Nat} (w : World) (hy : hi < y) (hyB : y < Go.Num.B) (hlo : lo < Go.Num.B) :
  Ret Tryz.prog 136 #[.int .u64 (hi : Nat), .int .u64 (lo : Nat), .int .u64 (y : Nat)] w (fun v w' => v = .tuple #[.int .u64 ((hi * Go.Num.B + lo) / y : Nat), .int .u64 ((hi * Go.Num.B + lo) % y : Nat)] ∧ Ext w w') := by
 have hbp : 0 < bl y := bl_pos (by omega)
 have hb64 : bl y ≤ 64 := bl_iff.2 (by rw [← B_two]; exact hyB)
 refine enter (S := No) (l := [_, _, _]) (L := []) 135 Tryz.func136 rfl rfl rfl (St.start w No) ?_; refine yA ?_; refine aI rfl ?_; refine aI rfl ?_; refine yB ?_; refine zq ?_; refine yA ?_; refine mI rfl ?_; refine zg (fun _ => R_eqN (a := y) (b := 0) rfl rfl) ?_; refine yB ?_; refine zD rfl (fun h1 => ?_) (fun h1 => ?_)
 ·omega
 ·refine zi ?_; refine zk ?_; refine zq ?_; refine yA ?_; refine mI rfl ?_; refine mI rfl ?_; refine zg (fun _ => R_leN (a := y) (b := hi) rfl rfl) ?_; refine yB ?_; refine zD rfl (fun h2 => ?_) (fun h2 => ?_)
  ·omega
  ·refine zi ?_; refine zk ?_; refine zq ?_; refine yA ?_; refine mI rfl ?_; refine zg (fun _ => R_eqN (a := hi) (b := 0) rfl rfl) ?_; refine yB ?_; refine zD rfl (fun h3 => ?_) (fun h3 => ?_)
   ·subst h3
    refine zq ?_; refine c_draw mixed (by kernel_rfl) ?_; refine mI rfl ?_; refine mI rfl ?_; refine zg (fun _ => R_quoU (a := lo) (b := y) rfl rfl (by first | exact Nat.mod_lt _ B_pos | (have hBv : Go.Num.B = 18446744073709551616 := rfl; omega)) (by first | exact Nat.mod_lt _ B_pos | (have hBv : Go.Num.B = 18446744073709551616 := rfl; omega))) ?_; refine mI rfl ?_; refine mI rfl ?_; refine zg (fun _ => R_remU (a := lo) (b := y) rfl rfl (by first | exact Nat.mod_lt _ B_pos | (have hBv : Go.Num.B = 18446744073709551616 := rfl; omega))) ?_; refine aI rfl ?_; refine aI rfl ?_; refine yB ?_; refine ze ?_; refine zt (?_)
    refine r_two (v := .int _ _) (v2 := .int _ _) rfl rfl rfl rfl rfl ?_; exact fun w' hw => ⟨by rw [Nat.zero_mul, Nat.zero_add], hw.f0⟩
   ·refine zi ?_; refine zk ?_; refine yA ?_; refine mI rfl ?_; refine jD Tryz.func160 (fun w h => LZ64_ok y w hyB) ?_; refine zg (fun _ => R_convK (n := (64 - bl y)) un3 un191 rfl (wrap_u (by first | exact Nat.mod_lt _ B_pos | (have hBv : Go.Num.B = 18446744073709551616 := rfl; omega)))) ?_; refine aI rfl ?_; refine yC ?_; refine mI rfl ?_; refine mI rfl ?_; refine zg (fun _ => R_shlU (a := y) (n := (64 - bl y)) rfl rfl (by first | exact Nat.mod_lt _ B_pos | (have hBv : Go.Num.B = 18446744073709551616 := rfl; omega))) ?_
    refine aI rfl ?_; refine yC ?_; refine mI rfl ?_; refine zg (fun _ => R_shrU (a := (y * 2 ^ (64 - bl y) % Go.Num.B)) (n := 32) rfl rfl (by first | exact Nat.mod_lt _ B_pos | (have hBv : Go.Num.B = 18446744073709551616 := rfl; omega))) ?_; refine aI rfl ?_; refine yC ?_; refine mI rfl ?_; refine zg (fun _ => R_andM (a := (y * 2 ^ (64 - bl y) % Go.Num.B)) rfl rfl (by first | exact Nat.mod_lt _ B_pos | (have hBv : Go.Num.B = 18446744073709551616 := rfl; omega))) ?_; refine aI rfl ?_; refine yC ?_; refine mI rfl ?_; refine mI rfl ?_
    refine zg (fun _ => R_shlU (a := hi) (n := (64 - bl y)) rfl rfl (by first | exact Nat.mod_lt _ B_pos | (have hBv : Go.Num.B = 18446744073709551616 := rfl; omega))) ?_; refine mI rfl ?_; refine mI rfl ?_; refine zg (fun _ => R_subU (a := 64) (b := (64 - bl y)) rfl rfl (by first | exact Nat.mod_lt _ B_pos | (have hBv : Go.Num.B = 18446744073709551616 := rfl; omega)) (by first | exact Nat.mod_lt _ B_pos | (have hBv : Go.Num.B = 18446744073709551616 := rfl; omega))) ?_; refine zg (fun _ => R_shrU (a := lo) (n := (64 - (64 - bl y))) rfl rfl (by first | exact Nat.mod_lt _ B_pos | (have hBv : Go.Num.B = 18446744073709551616 := rfl; omega))) ?_
    refine zg (fun _ => R_orU (a := (hi * 2 ^ (64 - bl y) % Go.Num.B)) (b := (lo / 2 ^ (64 - (64 - bl y)))) rfl rfl (by first | exact Nat.mod_lt _ B_pos | (have hBv : Go.Num.B = 18446744073709551616 := rfl; omega)) (by exact Nat.lt_of_le_of_lt (Nat.div_le_self _ _) hlo)) ?_; refine aI rfl ?_; refine yC ?_; refine mI rfl ?_; refine mI rfl ?_; refine zg (fun _ => R_shlU (a := lo) (n := (64 - bl y)) rfl rfl (by first | exact Nat.mod_lt _ B_pos | (have hBv : Go.Num.B = 18446744073709551616 := rfl; omega))) ?_
    refine aI rfl ?_; refine yC ?_; refine mI rfl ?_; refine zg (fun _ => R_shrU (a := (lo * 2 ^ (64 - bl y) % Go.Num.B)) (n := 32) rfl rfl (by first | exact Nat.mod_lt _ B_pos | (have hBv : Go.Num.B = 18446744073709551616 := rfl; omega))) ?_; refine aI rfl ?_; refine yB ?_; refine c_cut (fun e B L => ∃ (s Y s1 t u w1 w0 : Nat), e 0 = .int .u64 (hi : Nat) ∧ e 1 = .int .u64 (lo : Nat) ∧ e 2 = .int .u64 (Y : Nat) ∧ e 8 = .int .u64 (s : Nat) ∧ e 9 = .int .u64 (s1 : Nat) ∧ e 10 = .int .u64 (t : Nat) ∧ e 11 = .int .u64 (u : Nat) ∧ e 13 = .int .u64 (w1 : Nat) ∧ e 14 = .int .u64 (w0 : Nat) ∧ B = [(w, No)] ∧ L = [] ∧ D64 hi lo y s Y s1 t u w1 w0) ?_ ?_
    ·refine zr ?_; refine mI rfl ?_; refine zg (fun _ => R_andM (a := (lo * 2 ^ (64 - bl y) % Go.Num.B)) rfl rfl (by first | exact Nat.mod_lt _ B_pos | (have hBv : Go.Num.B = 18446744073709551616 := rfl; omega))) ?_; refine aI rfl ?_; refine zn ?_; exact k_mid ⟨(64 - bl y), (y * 2 ^ (64 - bl y) % Go.Num.B), ((y * 2 ^ (64 - bl y) % Go.Num.B) / 2 ^ 32), ((y * 2 ^ (64 - bl y) % Go.Num.B) % 4294967296), ((hi * 2 ^ (64 - bl y) % Go.Num.B) ||| (lo / 2 ^ (64 - (64 - bl y)))), ((lo * 2 ^ (64 - bl y) % Go.Num.B) / 2 ^ 32), ((lo * 2 ^ (64 - bl y) % Go.Num.B) % 4294967296), rfl, rfl, rfl, rfl, rfl, rfl, rfl, rfl, rfl, rfl, rfl, d64_norm hy hyB hlo⟩
    rintro e B L ⟨s, Y, s1, t, u, w1, w0, e0_1, e1_1, e2_1, e8_1, e9_1, e10_1, e11_1, e13_1, e14_1, rfl, rfl, hD⟩
    have hi0 := hD.init hD.uY hD.w1h
    have hu := hD.uY; have hYB := hD.YB; have hs2 := hD.s2; have hsh := hD.sh; have hth := hD.th; have hw1 := hD.w1h; have hw0 := hD.w0h; have hs63 := hD.s63; have hY0 : 0 < Y := (by omega); have hBv : Go.Num.B = 18446744073709551616 := rfl
    refine yA ?_; refine mI e11_1 ?_; refine mI e9_1 ?_; refine zg (fun _ => R_quoU (a := u) (b := s1) rfl rfl (by first | exact Nat.mod_lt _ B_pos | (have hBv : Go.Num.B = 18446744073709551616 := rfl; omega)) (by first | exact Nat.mod_lt _ B_pos | (have hBv : Go.Num.B = 18446744073709551616 := rfl; omega))) ?_; refine aI rfl ?_; refine yC ?_; refine mI e11_1 ?_; refine mI rfl ?_; refine mI e9_1 ?_; refine zg (fun _ => R_mulU (a := (u / s1)) (b := s1) rfl rfl (by first | exact Nat.mod_lt _ B_pos | (have hBv : Go.Num.B = 18446744073709551616 := rfl; omega))) ?_
    refine zg (fun _ => R_subU (a := u) (b := ((u / s1) * s1)) rfl rfl (by first | exact Nat.mod_lt _ B_pos | (have hBv : Go.Num.B = 18446744073709551616 := rfl; omega)) (by first | exact Nat.mod_lt _ B_pos | (have hBv : Go.Num.B = 18446744073709551616 := rfl; omega))) ?_; refine aI rfl ?_; refine yB ?_; refine c_cut (fun e B L => e 0 = .int .u64 (hi : Nat) ∧ e 1 = .int .u64 (lo : Nat) ∧ e 2 = .int .u64 (Y : Nat) ∧ e 8 = .int .u64 (s : Nat) ∧ e 9 = .int .u64 (s1 : Nat) ∧ e 10 = .int .u64 (t : Nat) ∧ e 11 = .int .u64 (u : Nat) ∧ e 13 = .int .u64 (w1 : Nat) ∧ e 14 = .int .u64 (w0 : Nat) ∧ e 15 = .int .u64 (((u * 4294967296 + w1) / Y) : Nat) ∧ B = [(w, No)] ∧ L = []) ?_ ?_
    ·refine zB ?_; refine c_loop (fun m9 e B L => ∃ (q r : Nat), e 0 = .int .u64 (hi : Nat) ∧ e 1 = .int .u64 (lo : Nat) ∧ e 2 = .int .u64 (Y : Nat) ∧ e 8 = .int .u64 (s : Nat) ∧ e 9 = .int .u64 (s1 : Nat) ∧ e 10 = .int .u64 (t : Nat) ∧ e 11 = .int .u64 (u : Nat) ∧ e 13 = .int .u64 (w1 : Nat) ∧ e 14 = .int .u64 (w0 : Nat) ∧ e 15 = .int .u64 (q : Nat) ∧ e 16 = .int .u64 (r : Nat) ∧ B = [(w, No)] ∧ L = [] ∧ (u * 4294967296 + w1) / Y ≤ q ∧ q * s1 + r = u ∧ q ≤ 4294967296 + 1 ∧ r < 4294967296 ∧ m9 = q + 1) _ ⟨_, _, e0_1, e1_1, e2_1, e8_1, e9_1, e10_1, e11_1, e13_1, e14_1, rfl, rfl, rfl, rfl, hi0.1, by omega, hi0.2.1, by omega, rfl⟩ ?_
     rintro m9 e B L ⟨q, r, e0_3, e1_3, e2_3, e8_3, e9_3, e10_3, e11_3, e13_3, e14_3, e15_3, e16_3, rfl, rfl, hq, he, hqh, hr, rfl⟩
     refine zq ?_; refine yA ?_; refine mI e15_3 ?_; refine zg (fun _ => R_geN (a := q) (b := 4294967296) rfl rfl) ?_; refine mB rfl ?_; refine zd (t := 69) rfl (fun h4 => ?_) (fun h4 => ?_)
     ·have hst := hD.step hD.uY hw1 hq he (.inl h4)
      refine zs rfl rfl (bT h4) ?_; refine zs rfl rfl (bT h4) ?_; refine zs rfl rfl (bT h4) ?_; refine zs rfl rfl (bT h4) ?_; refine zs rfl rfl (bT h4) ?_; refine zs rfl rfl (bT h4) ?_; refine zs rfl rfl (bT h4) ?_; refine zs rfl rfl (bT h4) ?_; refine jT (bT h4) rfl ?_; refine yB ?_; refine zE rfl ?_; refine zi ?_; refine zk ?_; refine zB ?_; refine yA ?_; refine mI e15_3 ?_; refine zg (fun _ => R_subU (a := q) (b := 1) rfl rfl (by first | exact Nat.mod_lt _ B_pos | (have hBv : Go.Num.B = 18446744073709551616 := rfl; omega)) (by first | exact Nat.mod_lt _ B_pos | (have hBv : Go.Num.B = 18446744073709551616 := rfl; omega))) ?_
      refine aI rfl ?_; refine yC ?_; refine mI e16_3 ?_; refine mI e9_3 ?_; refine zg (fun _ => R_addU (a := r) (b := s1) rfl rfl (by first | exact Nat.mod_lt _ B_pos | (have hBv : Go.Num.B = 18446744073709551616 := rfl; omega))) ?_; refine aI rfl ?_; refine yC ?_; refine mI rfl ?_; refine zg (fun _ => R_geN (a := (r + s1)) (b := 4294967296) rfl rfl) ?_; refine yB ?_; refine zD rfl (fun h5 => ?_) (fun h5 => ?_)
      ·have hfin := hD.brk hY0 hst.1 hst.2.2 (by omega) h5
       refine zX ?_; refine b_past rfl (zx (b_here rfl (?_)))
       exact k_mid ⟨e0_3, e1_3, e2_3, e8_3, e9_3, e10_3, e11_3, e13_3, e14_3, (by rw [← hfin]; (try rfl)), rfl, rfl⟩
      ·refine zi ?_; refine zO (?_)
       exact k_again _ (by omega) ⟨(q - 1), (r + s1), e0_3, e1_3, e2_3, e8_3, e9_3, e10_3, e11_3, e13_3, e14_3, rfl, rfl, rfl, rfl, hst.1, hst.2.2, by omega, by omega, rfl⟩
     ·have hqt := q_lt (q := q) (by omega) hth
      refine zw rfl rfl (bF h4) ?_; refine mI e15_3 ?_; refine zw rfl rfl (bF h4) ?_; refine mI e10_3 ?_; refine zw rfl rfl (bF h4) ?_; refine zg (fun _ => R_mulU (a := q) (b := t) rfl rfl (by first | exact Nat.mod_lt _ B_pos | (have hBv : Go.Num.B = 18446744073709551616 := rfl; omega))) ?_; refine zw rfl rfl (bF h4) ?_; refine mI e16_3 ?_; refine zw rfl rfl (bF h4) ?_; refine zg (fun _ => R_mulU (a := 4294967296) (b := r) rfl rfl (by first | exact Nat.mod_lt _ B_pos | (have hBv : Go.Num.B = 18446744073709551616 := rfl; omega))) ?_; refine zw rfl rfl (bF h4) ?_; refine mI e13_3 ?_; refine zw rfl rfl (bF h4) ?_
      refine zg (fun _ => R_addU (a := (4294967296 * r)) (b := w1) rfl rfl (by first | exact Nat.mod_lt _ B_pos | (have hBv : Go.Num.B = 18446744073709551616 := rfl; omega))) ?_; refine zw rfl rfl (bF h4) ?_; refine zg (fun _ => R_gtN (a := (q * t)) (b := ((4294967296 * r) + w1)) rfl rfl) ?_; refine jF (bF h4) rfl ?_; refine yB ?_; refine zD rfl (fun h6 => ?_) (fun h6 => ?_)
      ·have hst := hD.step hD.uY hw1 hq he (.inr h6)
       refine zi ?_; refine zk ?_; refine zB ?_; refine yA ?_; refine mI e15_3 ?_; refine zg (fun _ => R_subU (a := q) (b := 1) rfl rfl (by first | exact Nat.mod_lt _ B_pos | (have hBv : Go.Num.B = 18446744073709551616 := rfl; omega)) (by first | exact Nat.mod_lt _ B_pos | (have hBv : Go.Num.B = 18446744073709551616 := rfl; omega))) ?_; refine aI rfl ?_; refine yC ?_; refine mI e16_3 ?_; refine mI e9_3 ?_; refine zg (fun _ => R_addU (a := r) (b := s1) rfl rfl (by first | exact Nat.mod_lt _ B_pos | (have hBv : Go.Num.B = 18446744073709551616 := rfl; omega))) ?_
       refine aI rfl ?_; refine yC ?_; refine mI rfl ?_; refine zg (fun _ => R_geN (a := (r + s1)) (b := 4294967296) rfl rfl) ?_; refine yB ?_; refine zD rfl (fun h7 => ?_) (fun h7 => ?_)
       ·have hfin := hD.brk hY0 hst.1 hst.2.2 (by omega) h7
        refine zX ?_; refine b_past rfl (zx (b_here rfl (?_)))
        exact k_mid ⟨e0_3, e1_3, e2_3, e8_3, e9_3, e10_3, e11_3, e13_3, e14_3, (by rw [← hfin]; (try rfl)), rfl, rfl⟩
       ·refine zi ?_; refine zO (?_)
        exact k_again _ (by omega) ⟨(q - 1), (r + s1), e0_3, e1_3, e2_3, e8_3, e9_3, e10_3, e11_3, e13_3, e14_3, rfl, rfl, rfl, rfl, hst.1, hst.2.2, by omega, by omega, rfl⟩
      ·have hfin := hD.end_ hY0 hq he (by omega)
       refine zX ?_; refine zx (zx (b_here rfl (?_)))
       exact k_mid ⟨e0_3, e1_3, e2_3, e8_3, e9_3, e10_3, e11_3, e13_3, e14_3, (by rw [← hfin]; exact e15_3), rfl, rfl⟩
    rintro e B L ⟨e0_2, e1_2, e2_2, e8_2, e9_2, e10_2, e11_2, e13_2, e14_2, e15_2, rfl, rfl⟩
    refine c_cut (fun e B L => e 0 = .int .u64 (hi : Nat) ∧ e 1 = .int .u64 (lo : Nat) ∧ e 2 = .int .u64 (Y : Nat) ∧ e 8 = .int .u64 (s : Nat) ∧ e 9 = .int .u64 (s1 : Nat) ∧ e 10 = .int .u64 (t : Nat) ∧ e 11 = .int .u64 (u : Nat) ∧ e 13 = .int .u64 (w1 : Nat) ∧ e 14 = .int .u64 (w0 : Nat) ∧ e 15 = .int .u64 (((u * 4294967296 + w1) / Y) : Nat) ∧ e 17 = .int .u64 (((u * 4294967296 + w1) % Y) : Nat) ∧ B = [(w, No)] ∧ L = []) ?_ ?_
    ·refine zr ?_; refine mI e11_2 ?_; refine zg (fun _ => R_mulM (a := u) (b := 4294967296) rfl rfl) ?_; refine mI e13_2 ?_; refine zg (fun _ => R_addM (a := (u * 4294967296 % Go.Num.B)) (b := w1) rfl rfl) ?_; refine mI e15_2 ?_; refine mI e2_2 ?_; refine zg (fun _ => R_mulM (a := (((u * 4294967296 + w1) / Y))) (b := Y) rfl rfl) ?_; refine zg (fun _ => R_subM (a := (((u * 4294967296 % Go.Num.B) + w1) % Go.Num.B)) (b := ((((u * 4294967296 + w1) / Y)) * Y % Go.Num.B)) rfl rfl (by exact Nat.le_of_lt (Nat.mod_lt _ B_pos))) ?_; refine aI rfl ?_; refine zn ?_; exact k_mid ⟨e0_2, e1_2, e2_2, e8_2, e9_2, e10_2, e11_2, e13_2, e14_2, e15_2, congrArg (fun z : Nat => Value.int .u64 (z : Int)) (half_rest hD.YB hY0), rfl, rfl⟩
    rintro e B L ⟨e0_4, e1_4, e2_4, e8_4, e9_4, e10_4, e11_4, e13_4, e14_4, e15_4, e17_4, rfl, rfl⟩
    have hR := Nat.mod_lt (u * 4294967296 + w1) hY0
    have hi0 := hD.init hR hD.w0h
    refine yA ?_; refine mI e17_4 ?_; refine mI e9_4 ?_; refine zg (fun _ => R_quoU (a := (((u * 4294967296 + w1) % Y))) (b := s1) rfl rfl (by first | exact Nat.mod_lt _ B_pos | (have hBv : Go.Num.B = 18446744073709551616 := rfl; omega)) (by first | exact Nat.mod_lt _ B_pos | (have hBv : Go.Num.B = 18446744073709551616 := rfl; omega))) ?_; refine aI rfl ?_; refine yC ?_; refine mI e17_4 ?_; refine mI rfl ?_; refine mI e9_4 ?_; refine zg (fun _ => R_mulU (a := ((((u * 4294967296 + w1) % Y)) / s1)) (b := s1) rfl rfl (by first | exact Nat.mod_lt _ B_pos | (have hBv : Go.Num.B = 18446744073709551616 := rfl; omega))) ?_
    refine zg (fun _ => R_subU (a := (((u * 4294967296 + w1) % Y))) (b := (((((u * 4294967296 + w1) % Y)) / s1) * s1)) rfl rfl (by first | exact Nat.mod_lt _ B_pos | (have hBv : Go.Num.B = 18446744073709551616 := rfl; omega)) (by first | exact Nat.mod_lt _ B_pos | (have hBv : Go.Num.B = 18446744073709551616 := rfl; omega))) ?_; refine aI rfl ?_; refine yB ?_
    refine c_cut (fun e B L => e 0 = .int .u64 (hi : Nat) ∧ e 1 = .int .u64 (lo : Nat) ∧ e 2 = .int .u64 (Y : Nat) ∧ e 8 = .int .u64 (s : Nat) ∧ e 9 = .int .u64 (s1 : Nat) ∧ e 10 = .int .u64 (t : Nat) ∧ e 11 = .int .u64 (u : Nat) ∧ e 13 = .int .u64 (w1 : Nat) ∧ e 14 = .int .u64 (w0 : Nat) ∧ e 15 = .int .u64 (((u * 4294967296 + w1) / Y) : Nat) ∧ e 17 = .int .u64 (((u * 4294967296 + w1) % Y) : Nat) ∧ e 18 = .int .u64 (((((u * 4294967296 + w1) % Y) * 4294967296 + w0) / Y) : Nat) ∧ B = [(w, No)] ∧ L = []) ?_ ?_
    ·refine zB ?_; refine c_loop (fun m9 e B L => ∃ (q r : Nat), e 0 = .int .u64 (hi : Nat) ∧ e 1 = .int .u64 (lo : Nat) ∧ e 2 = .int .u64 (Y : Nat) ∧ e 8 = .int .u64 (s : Nat) ∧ e 9 = .int .u64 (s1 : Nat) ∧ e 10 = .int .u64 (t : Nat) ∧ e 11 = .int .u64 (u : Nat) ∧ e 13 = .int .u64 (w1 : Nat) ∧ e 14 = .int .u64 (w0 : Nat) ∧ e 15 = .int .u64 (((u * 4294967296 + w1) / Y) : Nat) ∧ e 17 = .int .u64 (((u * 4294967296 + w1) % Y) : Nat) ∧ e 18 = .int .u64 (q : Nat) ∧ e 16 = .int .u64 (r : Nat) ∧ B = [(w, No)] ∧ L = [] ∧ (((u * 4294967296 + w1) % Y) * 4294967296 + w0) / Y ≤ q ∧ q * s1 + r = ((u * 4294967296 + w1) % Y) ∧ q ≤ 4294967296 + 1 ∧ r < 4294967296 ∧ m9 = q + 1) _ ⟨_, _, e0_4, e1_4, e2_4, e8_4, e9_4, e10_4, e11_4, e13_4, e14_4, e15_4, e17_4, rfl, rfl, rfl, rfl, hi0.1, by omega, hi0.2.1, by omega, rfl⟩ ?_
     rintro m9 e B L ⟨q, r, e0_6, e1_6, e2_6, e8_6, e9_6, e10_6, e11_6, e13_6, e14_6, e15_6, e17_6, e18_6, e16_6, rfl, rfl, hq, he, hqh, hr, rfl⟩
     refine zq ?_; refine yA ?_; refine mI e18_6 ?_; refine zg (fun _ => R_geN (a := q) (b := 4294967296) rfl rfl) ?_; refine mB rfl ?_; refine zd (t := 104) rfl (fun h8 => ?_) (fun h8 => ?_)
     ·have hst := hD.step hR hw0 hq he (.inl h8)
      refine zs rfl rfl (bT h8) ?_; refine zs rfl rfl (bT h8) ?_; refine zs rfl rfl (bT h8) ?_; refine zs rfl rfl (bT h8) ?_; refine zs rfl rfl (bT h8) ?_; refine zs rfl rfl (bT h8) ?_; refine zs rfl rfl (bT h8) ?_; refine zs rfl rfl (bT h8) ?_; refine jT (bT h8) rfl ?_; refine yB ?_; refine zE rfl ?_; refine zi ?_; refine zk ?_; refine zB ?_; refine yA ?_; refine mI e18_6 ?_; refine zg (fun _ => R_subU (a := q) (b := 1) rfl rfl (by first | exact Nat.mod_lt _ B_pos | (have hBv : Go.Num.B = 18446744073709551616 := rfl; omega)) (by first | exact Nat.mod_lt _ B_pos | (have hBv : Go.Num.B = 18446744073709551616 := rfl; omega))) ?_
      refine aI rfl ?_; refine yC ?_; refine mI e16_6 ?_; refine mI e9_6 ?_; refine zg (fun _ => R_addU (a := r) (b := s1) rfl rfl (by first | exact Nat.mod_lt _ B_pos | (have hBv : Go.Num.B = 18446744073709551616 := rfl; omega))) ?_; refine aI rfl ?_; refine yC ?_; refine mI rfl ?_; refine zg (fun _ => R_geN (a := (r + s1)) (b := 4294967296) rfl rfl) ?_; refine yB ?_; refine zD rfl (fun h9 => ?_) (fun h9 => ?_)
      ·have hfin := hD.brk hY0 hst.1 hst.2.2 (by omega) h9
       refine zX ?_; refine b_past rfl (zx (b_here rfl (?_)))
       exact k_mid ⟨e0_6, e1_6, e2_6, e8_6, e9_6, e10_6, e11_6, e13_6, e14_6, e15_6, e17_6, (by rw [← hfin]; (try rfl)), rfl, rfl⟩
      ·refine zi ?_; refine zO (?_)
       exact k_again _ (by omega) ⟨(q - 1), (r + s1), e0_6, e1_6, e2_6, e8_6, e9_6, e10_6, e11_6, e13_6, e14_6, e15_6, e17_6, rfl, rfl, rfl, rfl, hst.1, hst.2.2, by omega, by omega, rfl⟩
     ·have hqt := q_lt (q := q) (by omega) hth
      refine zw rfl rfl (bF h8) ?_; refine mI e18_6 ?_; refine zw rfl rfl (bF h8) ?_; refine mI e10_6 ?_; refine zw rfl rfl (bF h8) ?_; refine zg (fun _ => R_mulU (a := q) (b := t) rfl rfl (by first | exact Nat.mod_lt _ B_pos | (have hBv : Go.Num.B = 18446744073709551616 := rfl; omega))) ?_; refine zw rfl rfl (bF h8) ?_; refine mI e16_6 ?_; refine zw rfl rfl (bF h8) ?_; refine zg (fun _ => R_mulU (a := 4294967296) (b := r) rfl rfl (by first | exact Nat.mod_lt _ B_pos | (have hBv : Go.Num.B = 18446744073709551616 := rfl; omega))) ?_; refine zw rfl rfl (bF h8) ?_; refine mI e14_6 ?_; refine zw rfl rfl (bF h8) ?_
      refine zg (fun _ => R_addU (a := (4294967296 * r)) (b := w0) rfl rfl (by first | exact Nat.mod_lt _ B_pos | (have hBv : Go.Num.B = 18446744073709551616 := rfl; omega))) ?_; refine zw rfl rfl (bF h8) ?_; refine zg (fun _ => R_gtN (a := (q * t)) (b := ((4294967296 * r) + w0)) rfl rfl) ?_; refine jF (bF h8) rfl ?_; refine yB ?_; refine zD rfl (fun h10 => ?_) (fun h10 => ?_)
      ·have hst := hD.step hR hw0 hq he (.inr h10)
       refine zi ?_; refine zk ?_; refine zB ?_; refine yA ?_; refine mI e18_6 ?_; refine zg (fun _ => R_subU (a := q) (b := 1) rfl rfl (by first | exact Nat.mod_lt _ B_pos | (have hBv : Go.Num.B = 18446744073709551616 := rfl; omega)) (by first | exact Nat.mod_lt _ B_pos | (have hBv : Go.Num.B = 18446744073709551616 := rfl; omega))) ?_; refine aI rfl ?_; refine yC ?_; refine mI e16_6 ?_; refine mI e9_6 ?_; refine zg (fun _ => R_addU (a := r) (b := s1) rfl rfl (by first | exact Nat.mod_lt _ B_pos | (have hBv : Go.Num.B = 18446744073709551616 := rfl; omega))) ?_
       refine aI rfl ?_; refine yC ?_; refine mI rfl ?_; refine zg (fun _ => R_geN (a := (r + s1)) (b := 4294967296) rfl rfl) ?_; refine yB ?_; refine zD rfl (fun h11 => ?_) (fun h11 => ?_)
       ·have hfin := hD.brk hY0 hst.1 hst.2.2 (by omega) h11
        refine zX ?_; refine b_past rfl (zx (b_here rfl (?_)))
        exact k_mid ⟨e0_6, e1_6, e2_6, e8_6, e9_6, e10_6, e11_6, e13_6, e14_6, e15_6, e17_6, (by rw [← hfin]; (try rfl)), rfl, rfl⟩
       ·refine zi ?_; refine zO (?_)
        exact k_again _ (by omega) ⟨(q - 1), (r + s1), e0_6, e1_6, e2_6, e8_6, e9_6, e10_6, e11_6, e13_6, e14_6, e15_6, e17_6, rfl, rfl, rfl, rfl, hst.1, hst.2.2, by omega, by omega, rfl⟩
      ·have hfin := hD.end_ hY0 hq he (by omega)
       refine zX ?_; refine zx (zx (b_here rfl (?_)))
       exact k_mid ⟨e0_6, e1_6, e2_6, e8_6, e9_6, e10_6, e11_6, e13_6, e14_6, e15_6, e17_6, (by rw [← hfin]; exact e18_6), rfl, rfl⟩
    rintro e B L ⟨e0_5, e1_5, e2_5, e8_5, e9_5, e10_5, e11_5, e13_5, e14_5, e15_5, e17_5, e18_5, rfl, rfl⟩
    have hQ1 := half_lt hD.uY hD.w1h; have hQ0 := half_lt hR hD.w0h
    refine yA ?_; refine mI e15_5 ?_; refine zg (fun _ => R_mulU (a := (((u * 4294967296 + w1) / Y))) (b := 4294967296) rfl rfl (by first | exact Nat.mod_lt _ B_pos | (have hBv : Go.Num.B = 18446744073709551616 := rfl; omega))) ?_; refine mI e18_5 ?_; refine zg (fun _ => R_addU (a := ((((u * 4294967296 + w1) / Y)) * 4294967296)) (b := (((((u * 4294967296 + w1) % Y) * 4294967296 + w0) / Y))) rfl rfl (by first | exact Nat.mod_lt _ B_pos | (have hBv : Go.Num.B = 18446744073709551616 := rfl; omega))) ?_; refine mI e17_5 ?_; refine zg (fun _ => R_mulM (a := (((u * 4294967296 + w1) % Y))) (b := 4294967296) rfl rfl) ?_; refine mI e14_5 ?_
    refine zg (fun _ => R_addM (a := ((((u * 4294967296 + w1) % Y)) * 4294967296 % Go.Num.B)) (b := w0) rfl rfl) ?_; refine mI e18_5 ?_; refine mI e2_5 ?_; refine zg (fun _ => R_mulM (a := (((((u * 4294967296 + w1) % Y) * 4294967296 + w0) / Y))) (b := Y) rfl rfl) ?_; refine zg (fun _ => R_subM (a := ((((((u * 4294967296 + w1) % Y)) * 4294967296 % Go.Num.B) + w0) % Go.Num.B)) (b := ((((((u * 4294967296 + w1) % Y) * 4294967296 + w0) / Y)) * Y % Go.Num.B)) rfl rfl (by exact Nat.le_of_lt (Nat.mod_lt _ B_pos))) ?_
    refine mI e8_5 ?_; refine zg (fun _ => R_shrU (a := ((((((((u * 4294967296 + w1) % Y)) * 4294967296 % Go.Num.B) + w0) % Go.Num.B) + Go.Num.B - ((((((u * 4294967296 + w1) % Y) * 4294967296 + w0) / Y)) * Y % Go.Num.B)) % Go.Num.B)) (n := s) rfl rfl (by first | exact Nat.mod_lt _ B_pos | (have hBv : Go.Num.B = 18446744073709551616 := rfl; omega))) ?_; refine aI rfl ?_; refine aI rfl ?_; refine yB ?_; refine ze ?_; refine r_two (v := .int _ _) (v2 := .int _ _) rfl rfl rfl rfl rfl ?_; exact fun w' hw => ⟨by rw [half_rest hD.YB hY0, (hD.fin (by omega)).1, (hD.fin (by omega)).2], hw.f0⟩
end Go.Proofs.YtikdkendinnalaaGreatDoor
end
section
namespace Go.Proofs.YtikdkendinnalaaGreatDoor
open Go.RowKit Go.Sx
open Go.Num
theorem limb_sum {x y o c : Nat} (hx : x < Go.Num.B) (hy : y < Go.Num.B) (ho : o < Go.Num.B) (hc : c < Go.Num.B) :
  ((x * y % Go.Num.B + o + 0) % Go.Num.B + c + 0) % Go.Num.B = (x * y + o + c) % Go.Num.B ∧ x * y / Go.Num.B + (x * y % Go.Num.B + o + 0) / Go.Num.B + ((x * y % Go.Num.B + o + 0) % Go.Num.B + c + 0) / Go.Num.B = (x * y + o + c) / Go.Num.B ∧ (x * y + o + c) / Go.Num.B < Go.Num.B ∧ x * y / Go.Num.B + (x * y % Go.Num.B + o + 0) / Go.Num.B < Go.Num.B := by
 have h1 := mul_digit hx hy ho hc
 have h2 : ((x * y % Go.Num.B + o + 0) % Go.Num.B + c + 0) % Go.Num.B = (x * y + o + c) % Go.Num.B ∧ x * y / Go.Num.B + (x * y % Go.Num.B + o + 0) / Go.Num.B + ((x * y % Go.Num.B + o + 0) % Go.Num.B + c + 0) / Go.Num.B = (x * y + o + c) / Go.Num.B := by
  generalize x * y = p
  have hB : Go.Num.B = 18446744073709551616 := rfl
  rw [hB]
  constructor <;> omega
 refine ⟨h2.1, h2.2, h1, ?_⟩
 rw [← h2.2] at h1
 exact Nat.lt_of_le_of_lt (Nat.le_add_right _ _) h1
theorem limb_sum2 {x y c : Nat} (hx : x < Go.Num.B) (hy : y < Go.Num.B) (hc : c < Go.Num.B) :
  (x * y % Go.Num.B + c + 0) % Go.Num.B = (x * y + c) % Go.Num.B ∧ x * y / Go.Num.B + (x * y % Go.Num.B + c + 0) / Go.Num.B = (x * y + c) / Go.Num.B ∧ (x * y + c) / Go.Num.B < Go.Num.B := by
 have h1 := mul_digit (o := 0) hx hy B_pos hc
 rw [Nat.add_zero] at h1
 have h2 : (x * y % Go.Num.B + c + 0) % Go.Num.B = (x * y + c) % Go.Num.B ∧ x * y / Go.Num.B + (x * y % Go.Num.B + c + 0) / Go.Num.B = (x * y + c) / Go.Num.B := by
  generalize x * y = p
  have hB : Go.Num.B = 18446744073709551616 := rfl
  rw [hB]
  constructor <;> omega
 exact ⟨h2.1, h2.2, h1⟩
theorem row_start (n m i : Nat) (k : Nat) (hm : m < Go.Num.B ^ k) : n % Go.Num.B ^ i * m < Go.Num.B ^ (i + k) := by
 rw [Nat.pow_add]
 rcases Nat.eq_zero_or_pos m with h | h
 ·subst h; rw [Nat.mul_zero]; exact Nat.mul_pos (Bpow_pos i) (Bpow_pos k)
 ·exact Nat.lt_of_lt_of_le (Nat.mul_lt_mul_of_pos_right (Nat.mod_lt _ (Bpow_pos i)) h) (Nat.mul_le_mul_left _ (Nat.le_of_lt hm))
theorem row_end {n m i k z c : Nat} (hm : m < Go.Num.B ^ k) (h : z % Go.Num.B ^ (i + k) + Go.Num.B ^ (i + k) * c = n % Go.Num.B ^ i * m % Go.Num.B ^ (i + k) + dg Go.Num.B n i * (m % Go.Num.B ^ k) * Go.Num.B ^ i) (hz : z / Go.Num.B ^ (i + k) = n % Go.Num.B ^ i * m / Go.Num.B ^ (i + k)) :
  setd Go.Num.B z (i + k) c = n % Go.Num.B ^ (i + 1) * m := by
 have h0 := row_start n m i k hm
 rw [Nat.div_eq_of_lt h0] at hz
 have hz2 : z < Go.Num.B ^ (i + k) := by
  rcases Nat.lt_or_ge z (Go.Num.B ^ (i + k)) with h5 | h5
  ·exact h5
  ·have := Nat.div_pos h5 (Bpow_pos (i + k)); omega
 rw [setd_zero (dg_out hz2)]
 rw [Nat.mod_eq_of_lt hz2, Nat.mod_eq_of_lt h0, Nat.mod_eq_of_lt hm] at h
 rw [h, mod_step, Nat.add_mul, Nat.mul_comm (Go.Num.B ^ i), Nat.mul_right_comm (dg Go.Num.B n i)]
theorem div_next {z z0 j : Nat} (h : z / Go.Num.B ^ j = z0 / Go.Num.B ^ j) : dg Go.Num.B z j = dg Go.Num.B z0 j ∧ z / Go.Num.B ^ (j + 1) = z0 / Go.Num.B ^ (j + 1) := by
 refine ⟨?_, ?_⟩
 ·unfold dg; rw [h]
 ·rw [Nat.pow_succ, ← Nat.div_div_eq_div_mul, h, Nat.div_div_eq_div_mul]
theorem Mul_ok {a a2 : Option Addr} {k c k2 c2 n m : Nat} (w : World) (hA : Nm w a k c n) (hB : Nm w a2 k2 c2 m) (hs : k ≤ 4000000 ∧ k2 ≤ 4000000 ∧ sz n ≤ 2048 ∧ sz m ≤ 2048 ∧ sz (n * m) ≤ 2048) :
  Ret Tryz.prog 131 #[.slice a k c, .slice a2 k2 c2] w (Tel (fun a c => .tuple #[.slice a (sz (n * m)) c, .int .i64 0]) (sz (n * m)) (n * m) w) := by
 refine enter (S := No) (l := [_, _]) (L := []) 91 Tryz.func131 rfl rfl rfl (St.start w No) ?_; refine yA ?_; refine za (v := .slice _ _ _) rfl ?_; refine aI rfl ?_; refine yC ?_; refine mS rfl ?_; refine w_tel (fun w => zR Tryz.func92 rfl rfl rfl) rfl rfl (fun w h => normal_ok w ((Kn.old hA).at_ 0 rfl h) (by omega)) (fun x1 a1 c1 hK1 hN1 => ?_)
 refine mS rfl ?_; refine w_tel (fun w => zR Tryz.func92 rfl rfl rfl) rfl rfl (fun w h => normal_ok w ((Kn.old hB).at_ 1 rfl h) (by omega)) (fun x2 a2 c2 hK2 hN2 => ?_)
 refine za (v := .slice _ _ _) rfl ?_; refine za (v := .slice _ _ _) rfl ?_; refine yB ?_; refine zq ?_; refine yA ?_; refine mS rfl ?_; refine mS rfl ?_; refine zS slt169 (by decide) rfl rfl (fun lb glb ulb => ?_)
 refine jD Tryz.func91 (fun w h => long2_ok w (h.at_ 0 rfl) (hK1.at_ 1 rfl h) (hK2.at_ 0 rfl h) ⟨by omega, by omega⟩ ⟨by omega, by omega⟩) ?_; refine yB ?_; refine zG rfl ?_; refine zi ?_; refine zk ?_; refine yA ?_; refine mS rfl ?_; refine jj sl42 rfl ?_; refine mS rfl ?_; refine jj sl42 rfl ?_; refine zg (fun _ => R_addN (n := (sz n)) (b := (sz m)) rfl rfl (by omega)) ?_; refine w_makeU (n := ((sz n) + (sz m))) slt42 rfl rfl (by omega) (by omega) (fun ob gob uob => ?_)
 refine za (v := .slice _ _ _) rfl ?_; refine yB ?_; refine zq ?_; refine yA ?_; refine mS rfl ?_; refine jj sl42 rfl ?_; refine mI rfl ?_; refine yB ?_; refine zB ?_; refine c_st (B' := _) (L' := [(ob, cel (lmV (n % Go.Num.B ^ 0 * m) (sz n + sz m)) 75)]) (fun w h => by rw [Nat.pow_zero, Nat.mod_one, Nat.zero_mul]; exact h.drop (.cons_cons _ (List.nil_sublist _))) ?_
 refine c_loop (fun m9 e B L => ∃ (i : Nat), e 0 = .slice a1 (sz n) c1 ∧ e 1 = .slice a2 (sz m) c2 ∧ e 6 = .slice (some ⟨ob, 0, none⟩) (sz n + sz m) (sz n + sz m) ∧ e 29 = .slice a1 (sz n) c1 ∧ e 30 = .int .i64 (sz n : Nat) ∧ e 31 = .int .i64 (i : Nat) ∧ B = [x2, x1, (w, No)] ∧ L = [(ob, cel (lmV (n % Go.Num.B ^ i * m) (sz n + sz m)) 75)] ∧ i ≤ sz n ∧ m9 = sz n + 1 - i) _ ⟨0, rfl, rfl, rfl, rfl, rfl, rfl, rfl, rfl, Nat.zero_le _, rfl⟩ ?_
 rintro m9 e B L ⟨i, e0_1, e1_1, e6_1, e29_1, e30_1, e31_1, rfl, rfl, hi, rfl⟩
 refine yA ?_; refine zg (fun _ => R_ltN (a := i) (b := (sz n)) e31_1 e30_1) ?_; refine yB ?_; refine zq ?_; refine zD rfl (fun h3 => ?_) (fun h3 => ?_)
 ·refine zi ?_; refine zk ?_; refine zq ?_; refine zB ?_; refine yA ?_; refine mI e31_1 ?_; refine zg (fun _ => R_iaK (i := i) sl42 e29_1 (hK1.ptr (by omega)) e31_1 (by omega)) ?_; refine zl (v := .int .u64 ((dg Go.Num.B n i) : Nat)) z75 rfl (fun w h => hK1.ca 1 rfl (by omega) h) ?_; refine aI rfl ?_; refine aI rfl ?_; refine yC ?_; refine aI rfl ?_; refine yB ?_; refine zq ?_; refine yA ?_; refine mS e1_1 ?_; refine jj sl42 rfl ?_; refine mI rfl ?_; refine yB ?_; refine zB ?_
  refine c_loop (fun m9 e B L => ∃ (z cy q : Nat), e 0 = .slice a1 (sz n) c1 ∧ e 1 = .slice a2 (sz m) c2 ∧ e 6 = .slice (some ⟨ob, 0, none⟩) (sz n + sz m) (sz n + sz m) ∧ e 29 = .slice a1 (sz n) c1 ∧ e 30 = .int .i64 (sz n : Nat) ∧ e 31 = .int .i64 (i : Nat) ∧ e 7 = .int .i64 (i : Nat) ∧ e 8 = .int .u64 (dg Go.Num.B n i : Nat) ∧ e 9 = .int .u64 (cy : Nat) ∧ e 36 = .slice a2 (sz m) c2 ∧ e 37 = .int .i64 (sz m : Nat) ∧ e 38 = .int .i64 (q : Nat) ∧ B = [x2, x1, (w, No)] ∧ L = [(ob, cel (lmV z (sz n + sz m)) 75)] ∧ q ≤ sz m ∧ z % Go.Num.B ^ (i + q) + Go.Num.B ^ (i + q) * cy = (n % Go.Num.B ^ i * m) % Go.Num.B ^ (i + q) + dg Go.Num.B n i * (m % Go.Num.B ^ q) * Go.Num.B ^ i ∧ z / Go.Num.B ^ (i + q) = (n % Go.Num.B ^ i * m) / Go.Num.B ^ (i + q) ∧ cy < Go.Num.B ∧ m9 = sz m + 1 - q) _ ⟨(n % Go.Num.B ^ i * m), 0, 0, e0_1, e1_1, e6_1, e29_1, e30_1, e31_1, rfl, rfl, rfl, rfl, rfl, rfl, rfl, rfl, Nat.zero_le _, by simp [Nat.mod_one], rfl, by decide, rfl⟩ ?_
  rintro m9 e B L ⟨z, cy, q, e0_2, e1_2, e6_2, e29_2, e30_2, e31_2, e7_2, e8_2, e9_2, e36_2, e37_2, e38_2, rfl, rfl, hq, hE, hD, hcy, rfl⟩
  refine yA ?_; refine zg (fun _ => R_ltN (a := q) (b := (sz m)) e38_2 e37_2) ?_; refine yB ?_; refine zq ?_; refine zD rfl (fun h4 => ?_) (fun h4 => ?_)
  ·have hls := limb_sum (dg_lt B_pos n i) (dg_lt B_pos m q) (dg_lt B_pos z (i + q)) hcy
   refine zi ?_; refine zk ?_; refine zq ?_; refine zB ?_; refine yA ?_; refine mI e38_2 ?_; refine zg (fun _ => R_iaK (i := q) sl42 e36_2 (hK2.ptr (by omega)) e38_2 (by omega)) ?_; refine zl (v := .int .u64 ((dg Go.Num.B m q) : Nat)) z75 rfl (fun w h => hK2.ca 0 rfl (by omega) h) ?_; refine aI rfl ?_; refine aI rfl ?_; refine yC ?_; refine mI e8_2 ?_; refine mI rfl ?_; refine jD Tryz.func157 (fun w h => Mul64_ok (dg Go.Num.B n i) (dg Go.Num.B m q) w (dg_lt B_pos _ _) (dg_lt B_pos _ _)) ?_
   refine zm rfl ?_; refine jx rfl rfl ?_; refine jx rfl rfl ?_; refine aI rfl ?_; refine aI rfl ?_; refine yC ?_; refine mI rfl ?_; refine mS e6_2 ?_; refine mI e7_2 ?_; refine mI rfl ?_; refine zg (fun _ => R_addN (n := i) (b := q) rfl rfl (by omega)) ?_; refine zg (fun _ => R_iaN (i := (i + q)) sl42 rfl rfl (by omega)) ?_; refine zl (v := .int .u64 ((dg Go.Num.B z (i + q)) : Nat)) z75 rfl (fun w h => cel_lm 0 rfl (by omega) h) ?_; refine zg (fun _ => R_callX rfl (add64 ((dg Go.Num.B n i) * (dg Go.Num.B m q) % Go.Num.B) (dg Go.Num.B z (i + q)) 0 (by omega) _)) ?_; refine zm rfl ?_
   refine jx rfl rfl ?_; refine jx rfl rfl ?_; refine aI rfl ?_; refine aI rfl ?_; refine yC ?_; refine mI rfl ?_; refine mI rfl ?_; refine zg (fun _ => R_addU (a := ((dg Go.Num.B n i) * (dg Go.Num.B m q) / Go.Num.B)) (b := ((((dg Go.Num.B n i) * (dg Go.Num.B m q) % Go.Num.B) + (dg Go.Num.B z (i + q)) + 0) / Go.Num.B)) rfl rfl (by exact hls.2.2.2)) ?_; refine aI rfl ?_; refine yC ?_; refine mI rfl ?_; refine mI e9_2 ?_
   refine zg (fun _ => R_callX rfl (add64 ((((dg Go.Num.B n i) * (dg Go.Num.B m q) % Go.Num.B) + (dg Go.Num.B z (i + q)) + 0) % Go.Num.B) cy 0 (by omega) _)) ?_; refine zm rfl ?_; refine jx rfl rfl ?_; refine jx rfl rfl ?_; refine aI rfl ?_; refine aI rfl ?_; refine yB ?_; refine zr ?_; refine mS e6_2 ?_; refine mI e7_2 ?_; refine mI rfl ?_; refine zg (fun _ => R_addN (n := i) (b := q) rfl rfl (by omega)) ?_; refine mI rfl ?_; refine mI rfl ?_
   refine mI rfl ?_; refine zg (fun _ => R_addU (a := (((dg Go.Num.B n i) * (dg Go.Num.B m q) / Go.Num.B) + ((((dg Go.Num.B n i) * (dg Go.Num.B m q) % Go.Num.B) + (dg Go.Num.B z (i + q)) + 0) / Go.Num.B))) (b := ((((((dg Go.Num.B n i) * (dg Go.Num.B m q) % Go.Num.B) + (dg Go.Num.B z (i + q)) + 0) % Go.Num.B) + cy + 0) / Go.Num.B)) rfl rfl (by rw [hls.2.1]; exact hls.2.2.1)) ?_; refine zg (fun _ => R_iaN (i := (i + q)) sl42 rfl rfl (by omega)) ?_; refine w_putU (dv := ((((((dg Go.Num.B n i) * (dg Go.Num.B m q) % Go.Num.B) + (dg Go.Num.B z (i + q)) + 0) % Go.Num.B) + cy + 0) % Go.Num.B)) (z' := (setd Go.Num.B z (i + q) ((dg Go.Num.B n i * dg Go.Num.B m q + dg Go.Num.B z (i + q) + cy) % Go.Num.B))) (j := (i + q)) 0 rfl z75 rfl rfl (by exact Nat.mod_lt _ B_pos) (by omega) (by rw [hls.1]) ?_
   refine aI rfl ?_; refine zn ?_; refine zO (zk ?_); refine zr ?_; refine zg (fun _ => R_addN (n := q) (b := 1) e38_2 rfl (by omega)) ?_; refine mI rfl ?_; refine zn ?_
   have hdn := div_next hD
   exact k_again _ (by omega) ⟨(setd Go.Num.B z (i + q) ((dg Go.Num.B n i * dg Go.Num.B m q + dg Go.Num.B z (i + q) + cy) % Go.Num.B)), ((dg Go.Num.B n i * dg Go.Num.B m q + dg Go.Num.B z (i + q) + cy) / Go.Num.B), q + 1, e0_2, e1_2, e6_2, e29_2, e30_2, e31_2, e7_2, e8_2, by rw [← hls.2.1]; rfl, e36_2, e37_2, rfl, rfl, rfl, by omega, mul_step B_pos hE hdn.1, (setd_div B_pos (Nat.mod_lt _ B_pos)).trans hdn.2, hls.2.2.1, rfl⟩
  ·obtain rfl : q = sz m := (by omega)
   refine zX ?_; refine zx (zx (b_here rfl (zk ?_))); refine zr ?_; refine mS e6_2 ?_; refine mI e7_2 ?_; refine mS e1_2 ?_; refine jj sl42 rfl ?_; refine zg (fun _ => R_addN (n := i) (b := (sz m)) rfl rfl (by omega)) ?_; refine mI e9_2 ?_; refine zg (fun _ => R_iaN (i := (i + (sz m))) sl42 rfl rfl (by omega)) ?_; refine w_putU (dv := cy) (z' := (n % Go.Num.B ^ (i + 1) * m)) (j := (i + (sz m))) 0 rfl z75 rfl rfl (by exact hcy) (by omega) (row_end (lt_sz m) hE hD) ?_; refine zn ?_; refine zO (zk ?_); refine zr ?_; refine zg (fun _ => R_addN (n := i) (b := 1) e31_2 rfl (by omega)) ?_; refine mI rfl ?_; refine zn ?_
   exact k_again _ (by omega) ⟨i + 1, e0_2, e1_2, e6_2, e29_2, e30_2, rfl, rfl, rfl, by omega, rfl⟩
 ·have hfin : n % Go.Num.B ^ i * m = n * m := (by obtain rfl : i = sz n := (by omega); rw [Nat.mod_eq_of_lt (lt_sz n)]); rw [hfin]; have hfl : n * m < Go.Num.B ^ (sz n + sz m) := (by rw [← hfin]; exact Nat.lt_of_lt_of_le (row_start n m i (sz m) (lt_sz m)) (Nat.pow_le_pow_right B_pos (by omega)))
  refine zX ?_; refine zx (zx (b_here rfl (zk ?_))); refine yA ?_; refine mS e6_1 ?_; refine w_tel (fun w => zR Tryz.func90 rfl rfl rfl) rfl rfl (fun w h => told_ok w (Nm.own 0 rfl hfl (Nat.le_refl _) h) ⟨by omega, by omega⟩) (fun x5 a5 c5 hK5 hN5 => ?_)
  refine jx rfl rfl ?_; refine jx rfl rfl ?_; refine za (v := .slice _ _ _) rfl ?_; refine aI rfl ?_; refine yB ?_; refine ze ?_; refine r_two (v := .slice _ _ _) (v2 := .int _ _) rfl rfl rfl rfl rfl ?_; exact fun w' hw => ⟨_, _, rfl, (hK5.at_ 0 rfl hw), (hN5 _ zm2), hw.fr (w, No) zm3⟩
end Go.Proofs.YtikdkendinnalaaGreatDoor
end
section
namespace Go.Proofs.YtikdkendinnalaaGreatDoor
open Go.RowKit Go.Sx
open Go.Num
theorem dgs_inj {n m k : Nat} (hn : n < Go.Num.B ^ k) (hm : m < Go.Num.B ^ k) (h : dgs Go.Num.B n k = dgs Go.Num.B m k) : n = m := by
 have := congrArg (vlb Go.Num.B) h
 rwa [vlb_dgs, vlb_dgs, Nat.mod_eq_of_lt hn, Nat.mod_eq_of_lt hm] at this
theorem shift_lt {a i s k : Nat} (hs : s < 64) (hk : i < k) : a % Go.Num.B ^ i * 2 ^ s < Go.Num.B ^ k := by
 have h1 : a % Go.Num.B ^ i * 2 ^ s < Go.Num.B ^ i * 2 ^ s := Nat.mul_lt_mul_of_pos_right (Nat.mod_lt _ (Bpow_pos i)) (Nat.pow_pos (by decide))
 have h2 : Go.Num.B ^ i * 2 ^ s ≤ Go.Num.B ^ i * Go.Num.B := Nat.mul_le_mul_left _ (by rw [B_two]; exact Nat.pow_le_pow_right (by decide) (by omega))
 rw [← Nat.pow_succ] at h2
 exact Nat.lt_of_lt_of_le (Nat.lt_of_lt_of_le h1 h2) (Nat.pow_le_pow_right B_pos hk)
theorem shift_setd {a i s k : Nat} (hs : s < 64) (hk : i + 1 < k) :
  dg Go.Num.B (a % Go.Num.B ^ i * 2 ^ s) i ||| dg Go.Num.B a i * 2 ^ s % Go.Num.B < Go.Num.B ∧ dg Go.Num.B a i / 2 ^ 1 / 2 ^ (63 - s) < Go.Num.B ∧
  setd Go.Num.B (setd Go.Num.B (a % Go.Num.B ^ i * 2 ^ s) i (dg Go.Num.B (a % Go.Num.B ^ i * 2 ^ s) i ||| dg Go.Num.B a i * 2 ^ s % Go.Num.B)) (i + 1) (dg Go.Num.B a i / 2 ^ 1 / 2 ^ (63 - s)) = a % Go.Num.B ^ (i + 1) * 2 ^ s := by
 obtain ⟨h1, h2, h3, h4⟩ := shift_step (a := a) (i := i) (n := s) (k := k) hs hk rfl rfl
 refine ⟨h2, h3, ?_⟩
 rw [dgs_set B_pos h2 (by omega), dgs_set B_pos h3 hk] at h4
 exact dgs_inj (setd_lt B_pos h3 (setd_lt B_pos h2 (shift_lt hs (by omega)) (by omega)) hk) (shift_lt hs hk) h4
theorem shift_ok {a : Option Addr} {k c n s : Nat} (w : World) (hA : Nm w a k c n) (hs : s < 64) (hk : k ≤ 4000000) :
  Ret Tryz.prog 178 #[.slice a k c, .int .i64 (s : Nat)] w (fun v w' => ∃ W, (∃ b, v = .slice (some ⟨b, 0, none⟩) (k + 1) (k + 1) ∧ W = [(b, cel (lmV (n * 2 ^ s) (k + 1)) 75)]) ∧ New w w' W) := by
 refine enter (S := No) (l := [_, _]) (L := []) 39 Tryz.func178 rfl rfl rfl (St.start w No) ?_; refine yA ?_; refine za (v := .slice _ _ _) rfl ?_; refine yC ?_; refine mS rfl ?_; refine jj sl42 rfl ?_; refine zg (fun _ => R_addN (n := k) (b := 1) rfl rfl (by omega)) ?_; refine w_makeU (n := (k + 1)) slt42 rfl rfl (by omega) (by omega) (fun ob gob uob => ?_)
 refine za (v := .slice _ _ _) rfl ?_; refine yB ?_; refine zq ?_; refine yA ?_; refine mS rfl ?_; refine jj sl42 rfl ?_; refine mI rfl ?_; refine yB ?_; refine zB ?_; refine c_st (B' := _) (L' := [(ob, cel (lmV (n % Go.Num.B ^ 0 * 2 ^ s) (k + 1)) 75)]) (fun w h => by rw [Nat.pow_zero, Nat.mod_one, Nat.zero_mul]; exact h) ?_; refine c_loop (fun m9 e B L => ∃ (i : Nat), e 0 = .slice a k c ∧ e 1 = .int .i64 (s : Nat) ∧ e 5 = .slice (some ⟨ob, 0, none⟩) (k + 1) (k + 1) ∧ e 12 = .slice a k c ∧ e 13 = .int .i64 (k : Nat) ∧ e 14 = .int .i64 (i : Nat) ∧ B = [(w, No)] ∧ L = [(ob, cel (lmV (n % Go.Num.B ^ i * 2 ^ s) (k + 1)) 75)] ∧ i ≤ k ∧ m9 = k + 1 - i) _ ⟨0, rfl, rfl, rfl, rfl, rfl, rfl, rfl, rfl, Nat.zero_le _, rfl⟩ ?_
 rintro m9 e B L ⟨i, e0_1, e1_1, e5_1, e12_1, e13_1, e14_1, rfl, rfl, hi, rfl⟩
 refine yA ?_; refine zg (fun _ => R_ltN (a := i) (b := k) e14_1 e13_1) ?_; refine yB ?_; refine zq ?_; refine zD rfl (fun h1 => ?_) (fun h1 => ?_)
 ·have hst := shift_setd (a := n) (i := i) (k := k + 1) hs (by omega)
  refine zi ?_; refine zk ?_; refine zq ?_; refine zB ?_; refine yA ?_; refine mI e14_1 ?_; refine zg (fun _ => R_iaK (i := i) sl42 e12_1 ((Kn.old hA).ptr (by omega)) e14_1 (by omega)) ?_; refine zl (v := .int .u64 ((dg Go.Num.B n i) : Nat)) z75 rfl (fun w h => (Kn.old hA).ca 0 rfl (by omega) h) ?_; refine aI rfl ?_; refine aI rfl ?_; refine yB ?_; refine zq ?_; refine c_tail 9 mixed (by kernel_rfl) ?_; refine mS e5_1 ?_; refine mI rfl ?_; refine zg (fun _ => R_iaN (i := i) sl42 rfl rfl (by omega)) ?_; refine zl (v := .int .u64 ((dg Go.Num.B (n % Go.Num.B ^ i * 2 ^ s) i) : Nat)) z75 rfl (fun w h => cel_lm 0 rfl (by omega) h) ?_
  refine mI rfl ?_; refine mI e1_1 ?_; refine zg (fun _ => R_shlU (a := (dg Go.Num.B n i)) (n := s) rfl rfl (by omega)) ?_; refine zg (fun _ => R_orU (a := (dg Go.Num.B (n % Go.Num.B ^ i * 2 ^ s) i)) (b := ((dg Go.Num.B n i) * 2 ^ s % Go.Num.B)) rfl rfl (by first | omega | exact dg_lt B_pos _ _) (by exact Nat.mod_lt _ B_pos)) ?_; refine zg (fun _ => R_iaN (i := i) sl42 rfl rfl (by omega)) ?_; refine w_tailU (dv := ((dg Go.Num.B (n % Go.Num.B ^ i * 2 ^ s) i) ||| ((dg Go.Num.B n i) * 2 ^ s % Go.Num.B))) (z' := (setd Go.Num.B (n % Go.Num.B ^ i * 2 ^ s) i ((dg Go.Num.B (n % Go.Num.B ^ i * 2 ^ s) i) ||| ((dg Go.Num.B n i) * 2 ^ s % Go.Num.B)))) (j := i) 0 rfl z75 rfl rfl (by exact hst.1) (by omega) (rfl) ?_
  refine zk ?_; refine zr ?_; refine mS e5_1 ?_; refine mI rfl ?_; refine zg (fun _ => R_addN (n := i) (b := 1) rfl rfl (by omega)) ?_; refine mI rfl ?_; refine zg (fun _ => R_shrU (a := (dg Go.Num.B n i)) (n := 1) rfl rfl (by omega)) ?_; refine mI e1_1 ?_; refine zg (fun _ => R_subN (n := 63) (b := s) rfl rfl (by omega) (by omega)) ?_; refine zg (fun _ => R_shrU (a := ((dg Go.Num.B n i) / 2 ^ 1)) (n := (63 - s)) rfl rfl (by omega)) ?_; refine zg (fun _ => R_iaN (i := (i + 1)) sl42 rfl rfl (by omega)) ?_; refine w_putU (dv := (((dg Go.Num.B n i) / 2 ^ 1) / 2 ^ (63 - s))) (z' := (n % Go.Num.B ^ (i + 1) * 2 ^ s)) (j := (i + 1)) 0 rfl z75 rfl rfl (by exact hst.2.1) (by omega) (hst.2.2) ?_
  refine zn ?_; refine zO (zk ?_); refine zr ?_; refine zg (fun _ => R_addN (n := i) (b := 1) e14_1 rfl (by omega)) ?_; refine mI rfl ?_; refine zn ?_; exact k_again _ (by omega) ⟨i + 1, e0_1, e1_1, e5_1, e12_1, e13_1, rfl, rfl, rfl, by omega, rfl⟩
 ·have hfin : n % Go.Num.B ^ i = n := (by obtain rfl : i = k := (by omega); exact Nat.mod_eq_of_lt hA.lt); rw [hfin]
  refine zX ?_; refine zx (zx (b_here rfl (zk ?_))); refine yA ?_; refine mS e5_1 ?_; refine za (v := .slice _ _ _) rfl ?_; refine yB ?_; refine ze ?_; refine zo (v := .slice _ _ _) rfl rfl rfl ?_; exact fun w' hw => ⟨_, ⟨ob, rfl, rfl⟩, St.made (A := []) hw⟩
theorem small_ok {a : Option Addr} {k c n d : Nat} (w : World) (hA : Nm w a k c n) (hd : 0 < d ∧ d < Go.Num.B) (hk : k ≤ 4000000) :
  Ret Tryz.prog 93 #[.slice a k c, .int .u64 (d : Nat)] w (Tel (fun a c => .tuple #[.slice a (sz (n / d)) c, .int .u64 (n % d : Nat)]) (sz (n / d)) (n / d) w) := by
 have hnd : n / d < Go.Num.B ^ k := Nat.lt_of_le_of_lt (Nat.div_le_self _ _) hA.lt
 refine enter (S := No) (l := [_, _]) (L := []) 35 Tryz.func93 rfl rfl rfl (St.start w No) ?_; refine yA ?_; refine za (v := .slice _ _ _) rfl ?_; refine aI rfl ?_; refine yC ?_; refine mS rfl ?_; refine jj sl42 rfl ?_; refine w_makeU (n := k) slt42 rfl rfl (by omega) (by omega) (fun ob gob uob => ?_)
 refine za (v := .slice _ _ _) rfl ?_; refine yC ?_; refine aI rfl ?_; refine yB ?_; refine zq ?_; refine yA ?_; refine mS rfl ?_; refine jj sl42 rfl ?_; refine zg (fun _ => R_subi rfl rfl (by omega)) ?_; refine aI rfl ?_; refine yB ?_; refine zB ?_; refine c_st (B' := _) (L' := [(ob, cel (lmV (n / d / Go.Num.B ^ k * Go.Num.B ^ k) k) 75)]) (fun w h => by rw [Nat.div_eq_of_lt hnd, Nat.zero_mul]; exact h) ?_
 refine c_loop (fun m9 e B L => ∃ (j : Nat), e 0 = .slice a k c ∧ e 1 = .int .u64 (d : Nat) ∧ e 6 = .slice (some ⟨ob, 0, none⟩) k k ∧ e 7 = .int .u64 (n / Go.Num.B ^ j % d : Nat) ∧ e 8 = .int .i64 ((j : Nat) - 1) ∧ B = [(w, No)] ∧ L = [(ob, cel (lmV (n / d / Go.Num.B ^ j * Go.Num.B ^ j) k) 75)] ∧ j ≤ k ∧ m9 = j + 1) _ ⟨k, rfl, rfl, rfl, by rw [Nat.div_eq_of_lt hA.lt, Nat.zero_mod]; rfl, rfl, rfl, rfl, Nat.le_refl _, rfl⟩ ?_
 rintro m9 e B L ⟨j, e0_1, e1_1, e6_1, e7_1, e8_1, rfl, rfl, hj, rfl⟩
 refine zq ?_; refine yA ?_; refine mI e8_1 ?_; refine jh rfl rfl ?_; refine yB ?_; refine zD rfl (fun h1 => ?_) (fun h1 => ?_)
 ·obtain ⟨i, rfl⟩ : ∃ i, j = i + 1 := ⟨j - 1, by omega⟩; have ejq : e 8 = .int .i64 ((i : Nat) : Int) := e8_1.trans (congrArg (Value.int .i64) (by omega)); have hst := small_digit B_pos hd.1 n i
  refine zi ?_; refine zk ?_; refine zq ?_; refine zB ?_; refine zr ?_; refine mS e6_1 ?_; refine mI ejq ?_; refine mI e7_1 ?_; refine mS e0_1 ?_; refine mI ejq ?_; refine zg (fun _ => R_iaK (i := i) sl42 rfl ((Kn.old hA).ptr (by omega)) rfl (by omega)) ?_; refine zl (v := .int .u64 ((dg Go.Num.B n i) : Nat)) z75 rfl (fun w h => (Kn.old hA).ca 0 rfl (by omega) h) ?_; refine mI e1_1 ?_; refine jD Tryz.func136 (fun w h => Div64_ok w (Nat.mod_lt _ hd.1) hd.2 (dg_lt B_pos _ _)) ?_; refine zm rfl ?_; refine jx rfl rfl ?_; refine jx rfl rfl ?_; refine zg (fun _ => R_iaN (i := i) sl42 rfl rfl (by omega)) ?_
  refine w_putU (dv := ((n / Go.Num.B ^ (i + 1) % d * Go.Num.B + dg Go.Num.B n i) / d)) (z' := (n / d / Go.Num.B ^ i * Go.Num.B ^ i)) (j := i) 0 rfl z75 rfl rfl (by exact hst.1) (by omega) (by rw [setd_zero (high_dg B_pos _ _), ← hst.2, ← high_step]) ?_; refine aI rfl ?_; refine zn ?_; refine zO (zk ?_); refine zr ?_; refine mI ejq ?_; refine zg (fun _ => R_subi rfl rfl (by omega)) ?_; refine aI rfl ?_; refine zn ?_; exact k_again _ (by omega) ⟨i, e0_1, e1_1, e6_1, by rw [(small_step B_pos hd.1 n i).2]; rfl, rfl, rfl, rfl, by omega, rfl⟩
 ·obtain rfl : j = 0 := (by omega); rw [Nat.pow_zero, Nat.div_one, Nat.mul_one]; rw [Nat.pow_zero, Nat.div_one] at e7_1
  refine zX ?_; refine zx (zx (b_here rfl (zk ?_))); refine yA ?_; refine mS e6_1 ?_; refine w_tel (fun w => zR Tryz.func92 rfl rfl rfl) rfl rfl (fun w h => normal_ok w (Nm.own 0 rfl hnd (Nat.le_refl _) h) (by omega)) (fun x2 a2 c2 hK2 hN2 => ?_)
  refine mI e7_1 ?_; refine za (v := .slice _ _ _) rfl ?_; refine aI rfl ?_; refine yB ?_; refine ze ?_; refine r_two (v := .slice _ _ _) (v2 := .int _ _) rfl rfl rfl rfl rfl ?_; exact fun w' hw => ⟨_, _, rfl, (hK2.at_ 0 rfl hw), (hN2 _ zm0), hw.fr (w, No) zm1⟩
end Go.Proofs.YtikdkendinnalaaGreatDoor
end
