/- TreeApart: what is written of two right programs is the same just when they are. Part 5 of 12. -/
import Derived.Test.YtcmcdgkjipnfnaaDoorA02
import Derived.Test.YtcmcdgkjipnfnaaDoorA04
section
namespace Go.Proofs.YtcmcdgkjipnfnaaDoor
open Go.RowKit Go.Sx
open Go.Tok Go.Tree

set_option maxRecDepth 100000 in
set_option maxHeartbeats 400000 in
theorem compares_spec (op : Nat) (w : World) :
    Ret Tryd.prog 73 #[.int .u8 (op : Nat)] w (fun v w' => v = .bool (cmpOp op) ∧ Ext w w') := by
  refine enter (S := No) (l := [_]) (L := []) 9 Tryd.func73 rfl rfl rfl (St.start w No) ?_; refine yA ?_; refine aB rfl ?_; refine yC ?_; refine mI rfl ?_; refine w_r (fun _ => R_ge rfl rfl) rfl rfl ?_; refine mB rfl ?_; refine zd (t := 5) rfl (fun h1 => ?_) (fun h1 => ?_)
  · (try (have qh1 := h1; norm_cast at qh1))
    refine zw rfl rfl (bT h1) ?_; refine mI rfl ?_; refine zw rfl rfl (bT h1) ?_; refine w_r (fun _ => R_le rfl rfl) rfl rfl ?_; refine w_r (v := .bool _) (fun _ => zT (bT h1) rfl) rfl rfl ?_; refine aB rfl ?_; refine yB ?_; refine ze ?_; refine zo (v := .bool _) rfl rfl rfl ?_; exact fun w' hw => ⟨by rw [cmp_int, decide_eq_true h1]; rfl, hw.fr _ (.head _)⟩
  · (try (have qh1 := h1; norm_cast at qh1))
    refine zs rfl rfl (bF h1) ?_; refine zs rfl rfl (bF h1) ?_; refine w_r (v := .bool _) (fun _ => zF (bF h1) rfl) rfl rfl ?_; refine aB rfl ?_; refine yB ?_; refine ze ?_; refine zo (v := .bool _) rfl rfl rfl ?_; exact fun w' hw => ⟨by rw [cmp_int, decide_eq_false h1]; rfl, hw.fr _ (.head _)⟩

set_option maxRecDepth 100000 in
set_option maxHeartbeats 400000 in
theorem compare_spec (x : Ex) (cs : List Value) (N : Nat → Prop) (w : World) (hx : exW x < 10000000) (hm : exM w N x cs) (hW : Wd w) :
    Ret Tryd.prog 106 #[.agg cs.toArray] w (fun v w' => v = .bool (cmpOk x) ∧ Ext w w') := by
  obtain ⟨op, at_, nm, ks⟩ := x
  have hm2 := hm
  unfold exM at hm2
  obtain ⟨ka, kc, rfl, hkc, hks⟩ := hm2
  have hx2 := hx
  unfold exW at hx2
  refine enter (S := No) (l := [_]) (L := []) 22 Tryd.func106 rfl rfl rfl (St.start w No) ?_; refine yA ?_; refine w_boxA rfl (fun t1b gt1b ut1b => ?_)
  refine aB rfl ?_; refine yC ?_; refine zf fa49_0 rfl ?_; refine zl z5 rfl (fun _ h => zc 0 rfl rfl h) ?_; refine zC (fun w => zR Tryd.func73 rfl rfl rfl) rfl rfl (fun w h => compares_spec _ w) ?_; refine mB rfl ?_; refine zp (t := 6) rfl (fun h2 => ?_) (fun h2 => ?_)
  · (try (have qh2 := h2; norm_cast at qh2))
    refine zw rfl rfl (bV h2) ?_; refine zf fa49_2 rfl ?_; refine zw rfl rfl (bV h2) ?_; refine zl z9 rfl (fun _ h => zc 0 rfl rfl h) ?_; refine zw rfl rfl (bV h2) ?_; refine w_r (fun _ => R_seq rfl rfl) rfl rfl ?_; refine w_r (v := .bool _) (fun _ => zT (bV h2) rfl) rfl rfl ?_; refine mB rfl ?_; refine zd (t := 11) rfl (fun h3 => ?_) (fun h3 => ?_)
    · (try (have qh3 := h3; norm_cast at qh3))
      refine zw rfl rfl (bT h3) ?_; refine zf fa49_3 rfl ?_; refine zw rfl rfl (bT h3) ?_; refine zl z36 rfl (fun _ h => zc 0 rfl rfl h) ?_; refine zw rfl rfl (bT h3) ?_; refine w_r (fun _ => R_len sl36 rfl) rfl rfl ?_; refine zw rfl rfl (bT h3) ?_; refine w_r (fun _ => R_eq rfl rfl) rfl rfl ?_; refine w_r (v := .bool _) (fun _ => zT (bT h3) rfl) rfl rfl ?_; refine mB rfl ?_; refine zd (t := 17) rfl (fun h4 => ?_) (fun h4 => ?_)
      · (try (have qh4 := h4; norm_cast at qh4))
        refine zw rfl rfl (bT h4) ?_; refine zf fa49_3 rfl ?_; refine zw rfl rfl (bT h4) ?_; refine zl z36 rfl (fun _ h => zc 0 rfl rfl h) ?_; refine zw rfl rfl (bT h4) ?_; refine zC (fun w => zR Tryd.func70 rfl rfl rfl) rfl rfl (fun w h => exprs_ok ks ka kc N w (by omega) (by omega) (hks.now (fun _ _ hh => hh) (.head _) h) (hW.now (.head _) h)) ?_; refine w_r (v := .bool _) (fun _ => zT (bT h4) rfl) rfl rfl ?_; refine aB rfl ?_; refine yB ?_; refine ze ?_; refine zo (v := .bool _) rfl rfl rfl ?_; exact fun w' hw => ⟨by simp_all [cmpOk, Ex.op, Ex.nm, Ex.kids], hw.fr _ (.head _)⟩
      · (try (have qh4 := h4; norm_cast at qh4))
        refine zs rfl rfl (bF h4) ?_; refine zs rfl rfl (bF h4) ?_; refine zs rfl rfl (bF h4) ?_; refine w_r (v := .bool _) (fun _ => zF (bF h4) rfl) rfl rfl ?_; refine aB rfl ?_; refine yB ?_; refine ze ?_; refine zo (v := .bool _) rfl rfl rfl ?_; exact fun w' hw => ⟨by simp_all [cmpOk, Ex.op, Ex.nm, Ex.kids], hw.fr _ (.head _)⟩
    · (try (have qh3 := h3; norm_cast at qh3))
      refine zs rfl rfl (bF h3) ?_; refine zs rfl rfl (bF h3) ?_; refine zs rfl rfl (bF h3) ?_; refine zs rfl rfl (bF h3) ?_; refine w_r (v := .bool _) (fun _ => zF (bF h3) rfl) rfl rfl ?_; refine mB rfl ?_; refine zs rfl rfl rfl ?_; refine zs rfl rfl rfl ?_; refine zs rfl rfl rfl ?_; refine w_r (v := .bool _) (fun _ => zF rfl rfl) rfl rfl ?_; refine aB rfl ?_; refine yB ?_; refine ze ?_; refine zo (v := .bool _) rfl rfl rfl ?_; exact fun w' hw => ⟨by simp_all [cmpOk, Ex.op, Ex.nm, Ex.kids], hw.fr _ (.head _)⟩
  · (try (have qh2 := h2; norm_cast at qh2))
    refine zs rfl rfl (bV h2) ?_; refine zs rfl rfl (bV h2) ?_; refine zs rfl rfl (bV h2) ?_; refine w_r (v := .bool _) (fun _ => zF (bV h2) rfl) rfl rfl ?_; refine mB rfl ?_; refine zs rfl rfl rfl ?_; refine zs rfl rfl rfl ?_; refine zs rfl rfl rfl ?_; refine zs rfl rfl rfl ?_; refine w_r (v := .bool _) (fun _ => zF rfl rfl) rfl rfl ?_; refine mB rfl ?_; refine zs rfl rfl rfl ?_; refine zs rfl rfl rfl ?_; refine zs rfl rfl rfl ?_; refine w_r (v := .bool _) (fun _ => zF rfl rfl) rfl rfl ?_; refine aB rfl ?_; refine yB ?_; refine ze ?_; refine zo (v := .bool _) rfl rfl rfl ?_; exact fun w' hw => ⟨by simp_all [cmpOk, Ex.op, Ex.nm, Ex.kids], hw.fr _ (.head _)⟩

set_option maxRecDepth 100000 in
set_option maxHeartbeats 400000 in
theorem stmt1_spec (w : World) (hW : Wd w) (p3 : Nat) (op : Nat) (at_ : Int) (nm : Str) (v4 v5 v6 : Value) (hq3 : w.heap[p3]? = some (cel [.int .u8 (op : Nat), .int .i64 at_, str nm, v4, v5, v6] 38)) (hs : nm.length ≤ 10000000) (p2 : Nat) (n : Nat) (hq2 : w.heap[p2]? = some (cel [.int .i64 (n : Nat)] 3)) :
    Ret Tryd.prog 101 #[.pointer (some ⟨p3, 0, none⟩), .pointer (some ⟨p2, 0, none⟩)] w (fun v w' => v = .bool (nameOk nm && (decide (n = 1) || decide (n = 2))) ∧ Ext w w') := by
  refine enter (S := No) (l := [_, _]) (L := []) 14 Tryd.func101 rfl rfl rfl (St.start w No) ?_; refine yA ?_; refine aB rfl ?_; refine yC ?_; refine zf fa38_2 rfl ?_; refine zl z9 rfl (fun _ h => cel_oldb hq3 (.head _) id rfl h) ?_; refine zC (fun w => zR Tryd.func7 rfl rfl rfl) rfl rfl (fun w h => Name_spec _ (by omega) w (hW.now (.head _) h)) ?_; refine mB rfl ?_; refine zp (t := 6) rfl (fun h1 => ?_) (fun h1 => ?_)
  · (try (have qh1 := h1; norm_cast at qh1))
    refine zw rfl rfl (bV h1) ?_; refine zl z3 rfl (fun _ h => cel_oldb hq2 (.head _) id rfl h) ?_; refine zw rfl rfl (bV h1) ?_; refine w_r (fun _ => R_eq rfl rfl) rfl rfl ?_; refine zw rfl rfl (bV h1) ?_; refine mB rfl ?_; refine zd (t := 9) rfl (fun h2 => ?_) (fun h2 => ?_)
    · (try (have qh2 := h2; norm_cast at qh2))
      refine zs rfl rfl (bT h2) ?_; refine zs rfl rfl (bT h2) ?_; refine zw rfl rfl (bV h1) ?_; refine w_r (v := .bool _) (fun _ => zT (bT h2) rfl) rfl rfl ?_; refine w_r (v := .bool _) (fun _ => zT (bV h1) rfl) rfl rfl ?_; refine aB rfl ?_; refine yB ?_; refine ze ?_; refine zo (v := .bool _) rfl rfl rfl ?_; exact fun w' hw => ⟨by simp_all <;> omega, hw.fr _ (.head _)⟩
    · (try (have qh2 := h2; norm_cast at qh2))
      refine zw rfl rfl (bF h2) ?_; refine zl z3 rfl (fun _ h => cel_oldb hq2 (.head _) id rfl h) ?_; refine zw rfl rfl (bF h2) ?_; refine w_r (fun _ => R_eq rfl rfl) rfl rfl ?_; refine zw rfl rfl (bV h1) ?_; refine w_r (v := .bool _) (fun _ => zF (bF h2) rfl) rfl rfl ?_; refine w_r (v := .bool _) (fun _ => zT (bV h1) rfl) rfl rfl ?_; refine aB rfl ?_; refine yB ?_; refine ze ?_; refine zo (v := .bool _) rfl rfl rfl ?_; exact fun w' hw => ⟨by simp_all <;> omega, hw.fr _ (.head _)⟩
  · (try (have qh1 := h1; norm_cast at qh1))
    refine zs rfl rfl (bV h1) ?_; refine zs rfl rfl (bV h1) ?_; refine zs rfl rfl (bV h1) ?_; refine zU rfl rfl rfl ?_; refine zU rfl rfl rfl ?_; refine zs rfl rfl (bV h1) ?_; refine w_r (v := .bool _) (fun _ => zF (bV h1) rfl) rfl rfl ?_; refine aB rfl ?_; refine yB ?_; refine ze ?_; refine zo (v := .bool _) rfl rfl rfl ?_; exact fun w' hw => ⟨by simp_all <;> omega, hw.fr _ (.head _)⟩

set_option maxRecDepth 100000 in
set_option maxHeartbeats 400000 in
theorem stmt2_spec (w : World) (hW : Wd w) (p1 : Nat) (bare : Bool) (hq1 : w.heap[p1]? = some (cel [.bool bare] 4)) (p2 : Nat) (n : Nat) (hq2 : w.heap[p2]? = some (cel [.int .i64 (n : Nat)] 3)) :
    Ret Tryd.prog 102 #[.pointer (some ⟨p1, 0, none⟩), .pointer (some ⟨p2, 0, none⟩)] w (fun v w' => v = .bool (bare && decide (n = 1)) ∧ Ext w w') := by
  refine enter (S := No) (l := [_, _]) (L := []) 8 Tryd.func102 rfl rfl rfl (St.start w No) ?_; refine yA ?_; refine aB rfl ?_; refine yC ?_; refine zl z4 rfl (fun _ h => cel_oldb hq1 (.head _) id rfl h) ?_; refine mB rfl ?_; refine zp (t := 4) rfl (fun h1 => ?_) (fun h1 => ?_)
  · (try (have qh1 := h1; norm_cast at qh1))
    refine zw rfl rfl (bV h1) ?_; refine zl z3 rfl (fun _ h => cel_oldb hq2 (.head _) id rfl h) ?_; refine zw rfl rfl (bV h1) ?_; refine w_r (fun _ => R_eq rfl rfl) rfl rfl ?_; refine w_r (v := .bool _) (fun _ => zT (bV h1) rfl) rfl rfl ?_; refine aB rfl ?_; refine yB ?_; refine ze ?_; refine zo (v := .bool _) rfl rfl rfl ?_; exact fun w' hw => ⟨by simp_all <;> omega, hw.fr _ (.head _)⟩
  · (try (have qh1 := h1; norm_cast at qh1))
    refine zs rfl rfl (bV h1) ?_; refine zs rfl rfl (bV h1) ?_; refine w_r (v := .bool _) (fun _ => zF (bV h1) rfl) rfl rfl ?_; refine aB rfl ?_; refine yB ?_; refine ze ?_; refine zo (v := .bool _) rfl rfl rfl ?_; exact fun w' hw => ⟨by simp_all <;> omega, hw.fr _ (.head _)⟩

set_option maxRecDepth 100000 in
set_option maxHeartbeats 400000 in
theorem stmt3_spec (w : World) (hW : Wd w) (p3 : Nat) (op : Nat) (at_ : Int) (nm : Str) (v4 v5 v6 : Value) (hq3 : w.heap[p3]? = some (cel [.int .u8 (op : Nat), .int .i64 at_, str nm, v4, v5, v6] 38)) (hs : nm.length ≤ 10000000) (p2 : Nat) (n : Nat) (hq2 : w.heap[p2]? = some (cel [.int .i64 (n : Nat)] 3)) :
    Ret Tryd.prog 103 #[.pointer (some ⟨p3, 0, none⟩), .pointer (some ⟨p2, 0, none⟩)] w (fun v w' => v = .bool (nameOk nm && decide (1 ≤ n)) ∧ Ext w w') := by
  refine enter (S := No) (l := [_, _]) (L := []) 10 Tryd.func103 rfl rfl rfl (St.start w No) ?_; refine yA ?_; refine aB rfl ?_; refine yC ?_; refine zf fa38_2 rfl ?_; refine zl z9 rfl (fun _ h => cel_oldb hq3 (.head _) id rfl h) ?_; refine zC (fun w => zR Tryd.func7 rfl rfl rfl) rfl rfl (fun w h => Name_spec _ (by omega) w (hW.now (.head _) h)) ?_; refine mB rfl ?_; refine zp (t := 6) rfl (fun h1 => ?_) (fun h1 => ?_)
  · (try (have qh1 := h1; norm_cast at qh1))
    refine zw rfl rfl (bV h1) ?_; refine zl z3 rfl (fun _ h => cel_oldb hq2 (.head _) id rfl h) ?_; refine zw rfl rfl (bV h1) ?_; refine w_r (fun _ => R_ge rfl rfl) rfl rfl ?_; refine w_r (v := .bool _) (fun _ => zT (bV h1) rfl) rfl rfl ?_; refine aB rfl ?_; refine yB ?_; refine ze ?_; refine zo (v := .bool _) rfl rfl rfl ?_; exact fun w' hw => ⟨by simp_all <;> omega, hw.fr _ (.head _)⟩
  · (try (have qh1 := h1; norm_cast at qh1))
    refine zs rfl rfl (bV h1) ?_; refine zs rfl rfl (bV h1) ?_; refine w_r (v := .bool _) (fun _ => zF (bV h1) rfl) rfl rfl ?_; refine aB rfl ?_; refine yB ?_; refine ze ?_; refine zo (v := .bool _) rfl rfl rfl ?_; exact fun w' hw => ⟨by simp_all <;> omega, hw.fr _ (.head _)⟩

set_option maxRecDepth 100000 in
set_option maxHeartbeats 400000 in
theorem stmt4_spec (w : World) (hW : Wd w) (p3 : Nat) (op : Nat) (at_ : Int) (nm : Str) (v4 v5 v6 : Value) (hq3 : w.heap[p3]? = some (cel [.int .u8 (op : Nat), .int .i64 at_, str nm, v4, v5, v6] 38)) (hs : nm.length ≤ 10000000) (p2 : Nat) (n : Nat) (hq2 : w.heap[p2]? = some (cel [.int .i64 (n : Nat)] 3)) :
    Ret Tryd.prog 104 #[.pointer (some ⟨p3, 0, none⟩), .pointer (some ⟨p2, 0, none⟩)] w (fun v w' => v = .bool (nameOk nm && decide (n = 2)) ∧ Ext w w') := by
  refine enter (S := No) (l := [_, _]) (L := []) 10 Tryd.func104 rfl rfl rfl (St.start w No) ?_; refine yA ?_; refine aB rfl ?_; refine yC ?_; refine zf fa38_2 rfl ?_; refine zl z9 rfl (fun _ h => cel_oldb hq3 (.head _) id rfl h) ?_; refine zC (fun w => zR Tryd.func7 rfl rfl rfl) rfl rfl (fun w h => Name_spec _ (by omega) w (hW.now (.head _) h)) ?_; refine mB rfl ?_; refine zp (t := 6) rfl (fun h1 => ?_) (fun h1 => ?_)
  · (try (have qh1 := h1; norm_cast at qh1))
    refine zw rfl rfl (bV h1) ?_; refine zl z3 rfl (fun _ h => cel_oldb hq2 (.head _) id rfl h) ?_; refine zw rfl rfl (bV h1) ?_; refine w_r (fun _ => R_eq rfl rfl) rfl rfl ?_; refine w_r (v := .bool _) (fun _ => zT (bV h1) rfl) rfl rfl ?_; refine aB rfl ?_; refine yB ?_; refine ze ?_; refine zo (v := .bool _) rfl rfl rfl ?_; exact fun w' hw => ⟨by simp_all <;> omega, hw.fr _ (.head _)⟩
  · (try (have qh1 := h1; norm_cast at qh1))
    refine zs rfl rfl (bV h1) ?_; refine zs rfl rfl (bV h1) ?_; refine w_r (v := .bool _) (fun _ => zF (bV h1) rfl) rfl rfl ?_; refine aB rfl ?_; refine yB ?_; refine ze ?_; refine zo (v := .bool _) rfl rfl rfl ?_; exact fun w' hw => ⟨by simp_all <;> omega, hw.fr _ (.head _)⟩

set_option maxRecDepth 100000 in
set_option maxHeartbeats 400000 in
theorem stmt5_spec (w : World) (hW : Wd w) (ks : List Ex) (ka : Option Addr) (kc : Nat) (N : Nat → Prop) (hkw : exsW ks < 10000000) (hks : exsM w N ks ka 0) (p1 : Nat) (bare : Bool) (hq1 : w.heap[p1]? = some (cel [.bool bare] 4)) (p2 : Nat) (n : Nat) (hq2 : w.heap[p2]? = some (cel [.int .i64 (n : Nat)] 3)) (p3 : Nat) (op : Nat) (at_ : Int) (nm : Str) (v5 v6 : Value) (hq3 : w.heap[p3]? = some (cel [.int .u8 (op : Nat), .int .i64 at_, str nm, .slice ka ks.length kc, v5, v6] 38)) (hs : nm.length ≤ 10000000) (hnk : n = ks.length) :
    Ret Tryd.prog 105 #[.pointer (some ⟨p1, 0, none⟩), .pointer (some ⟨p2, 0, none⟩), .pointer (some ⟨p3, 0, none⟩)] w (fun v w' => v = .bool (bare && (decide (n = 1) && headOk ks)) ∧ Ext w w') := by
  refine enter (S := No) (l := [_, _, _]) (L := []) 16 Tryd.func105 rfl rfl rfl (St.start w No) ?_; refine yA ?_; refine aB rfl ?_; refine yC ?_; refine zl z4 rfl (fun _ h => cel_oldb hq1 (.head _) id rfl h) ?_; refine mB rfl ?_; refine zp (t := 5) rfl (fun h1 => ?_) (fun h1 => ?_)
  · (try (have qh1 := h1; norm_cast at qh1))
    refine zw rfl rfl (bV h1) ?_; refine zl z3 rfl (fun _ h => cel_oldb hq2 (.head _) id rfl h) ?_; refine zw rfl rfl (bV h1) ?_; refine w_r (fun _ => R_eq rfl rfl) rfl rfl ?_; refine w_r (v := .bool _) (fun _ => zT (bV h1) rfl) rfl rfl ?_; refine mB rfl ?_; refine zd (t := 9) rfl (fun h2 => ?_) (fun h2 => ?_)
    · (try (have qh2 := h2; norm_cast at qh2))
      obtain ⟨y2, hky2⟩ : ∃ x, ks[0]? = some x := ⟨_, List.getElem?_eq_getElem (by omega)⟩; have hyw2 := exsW_mem (List.mem_of_getElem? hky2); obtain ⟨cs2, hA, hE⟩ := hks.get0 hky2; obtain ⟨b1, o1, rfl⟩ := hA.ptr; obtain ⟨op2, at2, nm2, ks2⟩ := y2; have hE2 := hE; unfold exM at hE2; obtain ⟨ka2, kc2, rfl, hkc2, hks2⟩ := hE2
      refine zw rfl rfl (bT h2) ?_; refine zf fa38_3 rfl ?_; refine zw rfl rfl (bT h2) ?_; refine zl z36 rfl (fun _ h => cel_oldb hq3 (.head _) id rfl h) ?_; refine zw rfl rfl (bT h2) ?_; refine w_r (fun _ => R_iaN (i := 0) sl36 rfl rfl (by first | omega | decide)) rfl rfl ?_; refine zw rfl rfl (bT h2) ?_; refine w_loadC (l := [.int .u8 (op2 : Nat), .int .i64 at2, str nm2, .slice ka2 ks2.length kc2]) z49 rfl rfl (fun w h j v hj => hA.cell (fun _ _ hh => hh) (.head _) h j v hj) ?_; refine zw rfl rfl (bT h2) ?_; refine zC (fun w => zR Tryd.func106 rfl rfl rfl) rfl rfl (fun w h => compare_spec _ _ N w (by omega) (hE.now (fun _ _ hh => hh) (.head _) h) (hW.now (.head _) h)) ?_; refine w_r (v := .bool _) (fun _ => zT (bT h2) rfl) rfl rfl ?_; refine aB rfl ?_; refine yB ?_; refine ze ?_
      refine zo (v := .bool _) rfl rfl rfl ?_; exact fun w' hw => ⟨by cases ks with | nil => simp_all [headOk] | cons z l => simp_all [headOk], hw.fr _ (.head _)⟩
    · (try (have qh2 := h2; norm_cast at qh2))
      refine zs rfl rfl (bF h2) ?_; refine zs rfl rfl (bF h2) ?_; refine zs rfl rfl (bF h2) ?_; refine zs rfl rfl (bF h2) ?_; refine zs rfl rfl (bF h2) ?_; refine w_r (v := .bool _) (fun _ => zF (bF h2) rfl) rfl rfl ?_; refine aB rfl ?_; refine yB ?_; refine ze ?_; refine zo (v := .bool _) rfl rfl rfl ?_; exact fun w' hw => ⟨by cases ks with | nil => simp_all [headOk] | cons z l => simp_all [headOk], hw.fr _ (.head _)⟩
  · (try (have qh1 := h1; norm_cast at qh1))
    refine zs rfl rfl (bV h1) ?_; refine zs rfl rfl (bV h1) ?_; refine w_r (v := .bool _) (fun _ => zF (bV h1) rfl) rfl rfl ?_; refine mB rfl ?_; refine zs rfl rfl rfl ?_; refine zs rfl rfl rfl ?_; refine zs rfl rfl rfl ?_; refine zs rfl rfl rfl ?_; refine zs rfl rfl rfl ?_; refine w_r (v := .bool _) (fun _ => zF rfl rfl) rfl rfl ?_; refine aB rfl ?_; refine yB ?_; refine ze ?_; refine zo (v := .bool _) rfl rfl rfl ?_; exact fun w' hw => ⟨by cases ks with | nil => simp_all [headOk] | cons z l => simp_all [headOk], hw.fr _ (.head _)⟩

set_option maxRecDepth 100000 in
set_option maxHeartbeats 400000 in
theorem stmt6_spec (w : World) (hW : Wd w) (p1 : Nat) (bare : Bool) (hq1 : w.heap[p1]? = some (cel [.bool bare] 4)) (p2 : Nat) (n : Nat) (hq2 : w.heap[p2]? = some (cel [.int .i64 (n : Nat)] 3)) :
    Ret Tryd.prog 107 #[.pointer (some ⟨p1, 0, none⟩), .pointer (some ⟨p2, 0, none⟩)] w (fun v w' => v = .bool (bare && decide (n = 0)) ∧ Ext w w') := by
  refine enter (S := No) (l := [_, _]) (L := []) 8 Tryd.func107 rfl rfl rfl (St.start w No) ?_; refine yA ?_; refine aB rfl ?_; refine yC ?_; refine zl z4 rfl (fun _ h => cel_oldb hq1 (.head _) id rfl h) ?_; refine mB rfl ?_; refine zp (t := 4) rfl (fun h1 => ?_) (fun h1 => ?_)
  · (try (have qh1 := h1; norm_cast at qh1))
    refine zw rfl rfl (bV h1) ?_; refine zl z3 rfl (fun _ h => cel_oldb hq2 (.head _) id rfl h) ?_; refine zw rfl rfl (bV h1) ?_; refine w_r (fun _ => R_eq rfl rfl) rfl rfl ?_; refine w_r (v := .bool _) (fun _ => zT (bV h1) rfl) rfl rfl ?_; refine aB rfl ?_; refine yB ?_; refine ze ?_; refine zo (v := .bool _) rfl rfl rfl ?_; exact fun w' hw => ⟨by simp_all <;> omega, hw.fr _ (.head _)⟩
  · (try (have qh1 := h1; norm_cast at qh1))
    refine zs rfl rfl (bV h1) ?_; refine zs rfl rfl (bV h1) ?_; refine w_r (v := .bool _) (fun _ => zF (bV h1) rfl) rfl rfl ?_; refine aB rfl ?_; refine yB ?_; refine ze ?_; refine zo (v := .bool _) rfl rfl rfl ?_; exact fun w' hw => ⟨by simp_all <;> omega, hw.fr _ (.head _)⟩


def StmtH (n : Nat) : Prop := ∀ (x : Sm) (cs : List Value) (N : Nat → Prop) (w : World), smW x < n → smM w N x cs → Wd w → Ret Tryd.prog 83 #[.agg cs.toArray] w fun v w' => v = .bool (smOk x) ∧ Ext w w'

set_option maxRecDepth 100000 in
set_option maxHeartbeats 400000 in
theorem stmtsC_spec (n : Nat) (ih : StmtH n) (hn : n ≤ 10000000) (x : Sm) (cs : List Value) (N : Nat → Prop) (w : World) (hx : smW x < n) (hm : smM w N x cs) (hW : Wd w) :
    Ret Tryd.prog 82 #[.agg cs.toArray] w (fun v w' => v = .bool (!smOk x) ∧ Ext w w') := by
  obtain ⟨op, at_, nm, ks, bo, el⟩ := x
  have hm2 := hm
  unfold smM at hm2
  obtain ⟨ka, kc, ba, bc, ea, ec, rfl, hkc, hks, hbo, hel⟩ := hm2
  have hx2 := hx
  unfold smW at hx2
  refine enter (S := No) (l := [_]) (L := []) 6 Tryd.func82 rfl rfl rfl (St.start w No) ?_; refine yA ?_; refine w_boxA rfl (fun b1 gb1 ub1 => ?_)
  refine aB rfl ?_; refine yC ?_; refine w_loadA z38 rfl (fun _ h => h.at_ 0 rfl) rfl ?_; refine zC (fun w => zR Tryd.func83 rfl rfl rfl) rfl rfl (fun w h => ih _ _ N w hx (hm.now (fun _ _ hh => hh) (.head _) h) (hW.now (.head _) h)) ?_; refine w_r (fun _ => R_not rfl) rfl rfl ?_; refine aB rfl ?_; refine yB ?_; refine ze ?_; refine zo (v := .bool _) rfl rfl rfl ?_; exact fun w' hw => ⟨rfl, hw.fr _ (.head _)⟩

set_option maxRecDepth 100000 in
set_option maxHeartbeats 400000 in
theorem idxS_spec (n : Nat) (ih : StmtH n) (hn : n ≤ 10000000) (l : List Sm) (a : Option Addr) (c : Nat) (N : Nat → Prop) (w : World) (hl : ∀ x ∈ l, smW x < n) (hll : l.length ≤ 10000000) (hm : smsM w N l a 0) (hW : Wd w) :
    Ret Tryd.prog 100 #[.slice a l.length c, .func (.func 82) #[] #[]] w (fun v w' => v = .int .i64 (firstI (fun x => !smOk x) l) ∧ Ext w w') := by
  refine enter (S := No) (l := [_, _]) (L := []) 19 Tryd.func100 rfl rfl rfl (St.start w No) ?_; refine yA ?_; refine aI rfl ?_; refine yB ?_; refine zq ?_; refine yA ?_; refine mS rfl ?_; refine w_r (fun _ => R_len sl25 rfl) rfl rfl ?_; refine mI rfl ?_; refine yB ?_; refine zB ?_; refine c_loop (fun m e B L => ∃ (k : Nat), e 0 = .slice a l.length c ∧ e 1 = .func (.func 82) #[] #[] ∧ e 7 = .int .i64 (l.length : Nat) ∧ e 8 = .int .i64 (k : Nat) ∧ B = [(w, No)] ∧ L = [] ∧ k ≤ l.length ∧ (∀ y ∈ l.take k, (!smOk y) = false) ∧ m = l.length - k) _ ⟨0, rfl, rfl, rfl, rfl, rfl, rfl, Nat.zero_le _, (by simp), rfl⟩ ?_
  rintro m e B L ⟨k, e0_1, e1_1, e7_1, e8_1, rfl, rfl, hk, hy, rfl⟩
  refine yA ?_; refine w_r (fun _ => R_lt e8_1 e7_1) rfl rfl ?_; refine yB ?_; refine zq ?_; refine zD rfl (fun h1 => ?_) (fun h1 => ?_)
  · have hlt : k < l.length := (by omega); obtain ⟨x, hxk⟩ : ∃ x, l[k]? = some x := ⟨_, List.getElem?_eq_getElem hlt⟩; obtain ⟨cs, hA, hE⟩ := hm.get0 hxk; have hxn := hl x (List.mem_of_getElem? hxk); obtain ⟨b1, o1, rfl⟩ := hA.ptr; obtain ⟨op, at_, nm, ks, bo, el⟩ := x; have hE2 := hE; unfold smM at hE2; obtain ⟨ka, kc, ba, bc, ea, ec, rfl, hkc, hks, hbo, hel⟩ := hE2
    refine zi ?_; refine zk ?_; refine zq ?_; refine zB ?_; refine yA ?_; refine mI e8_1 ?_; refine aI rfl ?_; refine yC ?_; refine zm e1_1 ?_; refine mS e0_1 ?_; refine mI rfl ?_; refine w_r (fun _ => R_iaN (i := k) sl25 rfl rfl (by first | omega | decide)) rfl rfl ?_; refine w_loadC (l := [.int .u8 (op : Nat), .int .i64 at_, str nm, .slice ka ks.length kc, .slice ba bo.length bc, .slice ea el.length ec]) z38 rfl rfl (fun w h j v hj => hA.cell (fun _ _ hh => hh) (.head _) h j v hj) ?_; refine zC (fun w => R_callv rfl Tryd.func82 rfl rfl) rfl rfl (fun w h => stmtsC_spec n ih hn _ _ N w hxn (hE.now (fun _ _ hh => hh) (.head _) h) (hW.now (.head _) h)) ?_; refine yB ?_
    refine c_cond rfl (fun h2 => ?_) (fun h2 => ?_)
    · refine yA ?_; refine mI rfl ?_; refine aI rfl ?_; refine yB ?_; refine ze ?_; refine zb (zt (zt (zb (zt (?_)))))
      refine zo (v := .int _ _) rfl rfl rfl ?_; exact fun w' hw => ⟨by rw [firstI_at hy hxk h2], hw.fr _ (.head _)⟩
    · refine zi ?_; refine b_on (zk ?_); refine zr ?_; refine w_r (fun _ => R_addi e8_1 rfl (by omega)) rfl rfl ?_; refine mI rfl ?_; refine zn ?_; exact k_again _ (by omega) ⟨k + 1, e0_1, e1_1, e7_1, rfl, rfl, rfl, by omega, take_all hy hxk h2, rfl⟩
  · refine c_exit ?_; refine zx (zx (b_here rfl (zk ?_))); refine yA ?_; refine aI rfl ?_; refine yB ?_; refine ze ?_
    obtain rfl : k = l.length := by omega
    rw [List.take_length] at hy
    refine zo (v := .int _ _) rfl rfl rfl ?_; exact fun w' hw => ⟨by rw [firstI_no hy], hw.fr _ (.head _)⟩

set_option maxRecDepth 100000 in
set_option maxHeartbeats 400000 in
theorem hasS_spec (n : Nat) (ih : StmtH n) (hn : n ≤ 10000000) (l : List Sm) (a : Option Addr) (c : Nat) (N : Nat → Prop) (w : World) (hl : ∀ x ∈ l, smW x < n) (hll : l.length ≤ 10000000) (hm : smsM w N l a 0) (hW : Wd w) :
    Ret Tryd.prog 81 #[.slice a l.length c, .func (.func 82) #[] #[]] w (fun v w' => v = .bool (l.any fun x => !smOk x) ∧ Ext w w') := by
  refine enter (S := No) (l := [_, _]) (L := []) 9 Tryd.func81 rfl rfl rfl (St.start w No) ?_; refine yA ?_; refine aB rfl ?_; refine yC ?_; refine mS rfl ?_; refine zm rfl ?_; refine zC (fun w => zR Tryd.func100 rfl rfl rfl) rfl rfl (fun w h => idxS_spec n ih hn l a c N w hl hll (hm.now (fun _ _ hh => hh) (.head _) h) (hW.now (.head _) h)) ?_; refine w_r (fun _ => R_ge rfl rfl) rfl rfl ?_; refine aB rfl ?_; refine yB ?_; refine ze ?_; refine zo (v := .bool _) rfl rfl rfl ?_; exact fun w' hw => ⟨by rw [← firstI_ge], hw.fr _ (.head _)⟩

set_option maxRecDepth 100000 in
set_option maxHeartbeats 400000 in
theorem stmts_spec (n : Nat) (ih : StmtH n) (hn : n ≤ 10000000) (l : List Sm) (a : Option Addr) (c : Nat) (N : Nat → Prop) (w : World) (hl : ∀ x ∈ l, smW x < n) (hll : l.length ≤ 10000000) (hm : smsM w N l a 0) (hW : Wd w) :
    Ret Tryd.prog 44 #[.slice a l.length c] w (fun v w' => v = .bool (smsOk l) ∧ Ext w w') := by
  refine enter (S := No) (l := [_]) (L := []) 6 Tryd.func44 rfl rfl rfl (St.start w No) ?_; refine yA ?_; refine aB rfl ?_; refine yC ?_; refine mS rfl ?_; refine zC (fun w => zR Tryd.func81 rfl rfl rfl) rfl rfl (fun w h => hasS_spec n ih hn l a c N w hl hll (hm.now (fun _ _ hh => hh) (.head _) h) (hW.now (.head _) h)) ?_; refine w_r (fun _ => R_not rfl) rfl rfl ?_; refine aB rfl ?_; refine yB ?_; refine ze ?_; refine zo (v := .bool _) rfl rfl rfl ?_; exact fun w' hw => ⟨by rw [any_not, smsOk_all], hw.fr _ (.head _)⟩

set_option maxRecDepth 100000 in
set_option maxHeartbeats 8000000 in
theorem stmt_step (n : Nat) (ih : StmtH n) (hn : n ≤ 10000000) (x : Sm) (cs : List Value) (N : Nat → Prop) (w : World) (hx : smW x < n + 1) (hm : smM w N x cs) (hW : Wd w) :
    Ret Tryd.prog 83 #[.agg cs.toArray] w (fun v w' => v = .bool (smOk x) ∧ Ext w w') := by
  obtain ⟨op, at_, nm, ks, bo, el⟩ := x
  have hm2 := hm
  unfold smM at hm2
  obtain ⟨ka, kc, ba, bc, ea, ec, rfl, hkc, hks, hbo, hel⟩ := hm2
  have hx2 := hx
  unfold smW at hx2
  have hbl : ∀ x ∈ bo, smW x < n := fun x hx => by have := smsW_mem hx; omega
  have hll2 : ∀ x ∈ el, smW x < n := fun x hx => by have := smsW_mem hx; omega
  refine enter (S := No) (l := [_]) (L := []) 71 Tryd.func83 rfl rfl rfl (St.start w No) ?_; refine yA ?_; refine w_boxA rfl (fun t1b gt1b ut1b => ?_)
  refine aB rfl ?_; refine yC ?_; refine zf fa38_3 rfl ?_; refine zl z36 rfl (fun _ h => zc 0 rfl rfl h) ?_; refine w_r (fun _ => R_len sl36 rfl) rfl rfl ?_; refine w_alloc zr3 (fun t3b gt3b ut3b => ?_)
  refine w_store 0 rfl z3 rfl rfl rfl rfl rfl rfl rfl ?_; refine yC ?_; refine zf fa38_2 rfl ?_; refine zl z9 rfl (fun _ h => zc 1 rfl rfl h) ?_; refine w_r (fun _ => R_seq rfl rfl) rfl rfl ?_; refine w_alloc zr4 (fun t4b gt4b ut4b => ?_)
  refine w_store 0 rfl z4 rfl rfl rfl rfl rfl rfl rfl ?_; refine yC ?_; refine w_makeMap (k := .u8) (fun mb gmb umb => ?_)
  refine w_r (fun _ => R_makeFunc) rfl rfl ?_; refine w_insI 0 rfl unm113 unk5 rfl rfl rfl rfl ?_; refine w_r (fun _ => R_makeFunc) rfl rfl ?_; refine w_insI 0 rfl unm113 unk5 rfl rfl rfl rfl ?_; refine w_r (fun _ => R_makeFunc) rfl rfl ?_; refine w_insI 0 rfl unm113 unk5 rfl rfl rfl rfl ?_; refine w_r (fun _ => R_makeFunc) rfl rfl ?_; refine w_insI 0 rfl unm113 unk5 rfl rfl rfl rfl ?_; refine w_r (fun _ => R_makeFunc) rfl rfl ?_; refine w_insI 0 rfl unm113 unk5 rfl rfl rfl rfl ?_; refine w_r (fun _ => R_makeFunc) rfl rfl ?_; refine w_insI 0 rfl unm113 unk5 rfl rfl rfl rfl ?_; refine zm rfl ?_; refine za rfl ?_; refine yC ?_; refine zm rfl ?_; refine zf fa38_0 rfl ?_
  rcases op_cases6 op with rfl | rfl | rfl | rfl | rfl | rfl | hop
  · (try (have qcase0 := case0; norm_cast at qcase0))
    refine zl z5 rfl (fun _ h => zc 3 rfl rfl h) ?_; refine w_lookI 0 (v := .func (.func 101) _ _) rfl unm113 unk5 zr22 rfl rfl rfl ?_; refine za rfl ?_; refine yB ?_; refine zq ?_; refine yA ?_; refine zm rfl ?_; refine w_r (fun _ => R_feq unf22 rfl rfl) rfl rfl ?_; refine mB rfl ?_; refine zw rfl rfl rfl ?_; refine zm rfl ?_; refine zw rfl rfl rfl ?_; refine zC (fun w => R_callv rfl Tryd.func101 rfl rfl) rfl rfl (fun w h => stmt1_spec w (hW.now (.head _) h) t1b _ _ _ _ _ _ (h.at_ 3 rfl) (by omega) t3b _ (h.at_ 2 rfl)) ?_; refine zw rfl rfl rfl ?_; refine w_r (fun _ => R_not rfl) rfl rfl ?_; refine w_r (v := .bool _) (fun _ => zF rfl rfl) rfl rfl ?_; refine mB rfl ?_; refine zp (t := 32) rfl (fun h4 => ?_) (fun h4 => ?_)
    · (try (have qh4 := h4; norm_cast at qh4))
      refine zs rfl rfl (bV h4) ?_; refine zs rfl rfl (bV h4) ?_; refine zs rfl rfl (bV h4) ?_; refine zs rfl rfl (bV h4) ?_; refine zU rfl rfl rfl ?_; refine zU rfl rfl rfl ?_; refine zU rfl rfl rfl ?_; refine zU rfl rfl rfl ?_; refine zs rfl rfl (bV h4) ?_; refine w_r (v := .bool _) (fun _ => zT (bV h4) rfl) rfl rfl ?_; refine yB ?_; refine zE rfl ?_; refine yA ?_; refine aB rfl ?_; refine yB ?_; refine ze ?_; refine zt (?_)
      refine zo (v := .bool _) rfl rfl rfl ?_; exact fun w' hw => ⟨by first | (simp_all [smOk, sruleOk]; done) | (unfold smOk; rw [srule_miss hop]; rfl) | (clear hw; clear hm hx gmb umb; simp only [smOk, sruleOk]; grind), hw.fr _ (.head _)⟩
    · (try (have qh4 := h4; norm_cast at qh4))
      refine zw rfl rfl (bV h4) ?_; refine zf fa38_0 rfl ?_; refine zw rfl rfl (bV h4) ?_; refine zl z5 rfl (fun _ h => zc 3 rfl rfl h) ?_; refine zw rfl rfl (bV h4) ?_; refine w_r (fun _ => R_ne rfl rfl) rfl rfl ?_; refine zw rfl rfl (bV h4) ?_; refine mB rfl ?_; refine zw rfl rfl (congrArg Value.bool (decide_eq_true (by decide))) ?_; refine zf fa38_3 rfl ?_; refine zw rfl rfl (congrArg Value.bool (decide_eq_true (by decide))) ?_; refine zl z36 rfl (fun _ h => zc 3 rfl rfl h) ?_; refine zw rfl rfl (congrArg Value.bool (decide_eq_true (by decide))) ?_; refine zC (fun w => zR Tryd.func70 rfl rfl rfl) rfl rfl (fun w h => exprs_ok ks ka kc N w (by omega) (by omega) (hks.now (fun _ _ hh => hh) (.head _) h) (hW.now (.head _) h)) ?_
      refine zw rfl rfl (congrArg Value.bool (decide_eq_true (by decide))) ?_; refine w_r (fun _ => R_not rfl) rfl rfl ?_; refine zw rfl rfl (bV h4) ?_; refine w_r (v := .bool _) (fun _ => zT (congrArg Value.bool (decide_eq_true (by decide))) rfl) rfl rfl ?_; refine w_r (v := .bool _) (fun _ => zF (bV h4) rfl) rfl rfl ?_; refine yB ?_; refine c_condN rfl (fun h5 => ?_) (fun h5 => ?_)
      · (try (have qh5 := h5; norm_cast at qh5))
        refine yA ?_; refine aB rfl ?_; refine yB ?_; refine ze ?_; refine zt (?_)
        refine zo (v := .bool _) rfl rfl rfl ?_; exact fun w' hw => ⟨by first | (simp_all [smOk, sruleOk]; done) | (unfold smOk; rw [srule_miss hop]; rfl) | (clear hw; clear hm hx gmb umb; simp only [smOk, sruleOk]; grind), hw.fr _ (.head _)⟩
      · (try (have qh5 := h5; norm_cast at qh5))
        refine zi ?_; refine zk ?_; refine zq ?_; refine yA ?_; refine zf fa38_0 rfl ?_; refine zl z5 rfl (fun _ h => zc 3 rfl rfl h) ?_; refine w_r (fun _ => R_lt rfl rfl) rfl rfl ?_; refine mB rfl ?_; refine zw rfl rfl (congrArg Value.bool (decide_eq_true (by decide))) ?_; refine zf fa38_4 rfl ?_; refine zw rfl rfl (congrArg Value.bool (decide_eq_true (by decide))) ?_; refine zl z25 rfl (fun _ h => zc 3 rfl rfl h) ?_; refine zw rfl rfl (congrArg Value.bool (decide_eq_true (by decide))) ?_; refine w_r (fun _ => R_len sl25 rfl) rfl rfl ?_; refine zw rfl rfl (congrArg Value.bool (decide_eq_true (by decide))) ?_; refine w_r (fun _ => R_gt rfl rfl) rfl rfl ?_; refine w_r (v := .bool _) (fun _ => zT (congrArg Value.bool (decide_eq_true (by decide))) rfl) rfl rfl ?_
        refine mB rfl ?_; refine zd (t := 52) rfl (fun h6 => ?_) (fun h6 => ?_)
        · (try (have qh6 := h6; norm_cast at qh6))
          refine zs rfl rfl (bT h6) ?_; refine zs rfl rfl (bT h6) ?_; refine zs rfl rfl (bT h6) ?_; refine zs rfl rfl (bT h6) ?_; refine zU rfl rfl rfl ?_; refine zU rfl rfl rfl ?_; refine zU rfl rfl rfl ?_; refine zU rfl rfl rfl ?_; refine zs rfl rfl (bT h6) ?_; refine w_r (v := .bool _) (fun _ => zT (bT h6) rfl) rfl rfl ?_; refine yB ?_; refine zE rfl ?_; refine yA ?_; refine aB rfl ?_; refine yB ?_; refine ze ?_; refine zt (?_)
          refine zo (v := .bool _) rfl rfl rfl ?_; exact fun w' hw => ⟨by first | (simp_all [smOk, sruleOk]; done) | (unfold smOk; rw [srule_miss hop]; rfl) | (clear hw; clear hm hx gmb umb; simp only [smOk, sruleOk]; grind), hw.fr _ (.head _)⟩
        · (try (have qh6 := h6; norm_cast at qh6))
          refine zw rfl rfl (bF h6) ?_; refine zf fa38_0 rfl ?_; refine zw rfl rfl (bF h6) ?_; refine zl z5 rfl (fun _ h => zc 3 rfl rfl h) ?_; refine zw rfl rfl (bF h6) ?_; refine w_r (fun _ => R_ne rfl rfl) rfl rfl ?_; refine zw rfl rfl (bF h6) ?_; refine mB rfl ?_; refine zw rfl rfl (congrArg Value.bool (decide_eq_true (by decide))) ?_; refine zf fa38_5 rfl ?_; refine zw rfl rfl (congrArg Value.bool (decide_eq_true (by decide))) ?_; refine zl z25 rfl (fun _ h => zc 3 rfl rfl h) ?_; refine zw rfl rfl (congrArg Value.bool (decide_eq_true (by decide))) ?_; refine w_r (fun _ => R_len sl25 rfl) rfl rfl ?_; refine zw rfl rfl (congrArg Value.bool (decide_eq_true (by decide))) ?_
          refine w_r (fun _ => R_gt rfl rfl) rfl rfl ?_; refine zw rfl rfl (bF h6) ?_; refine w_r (v := .bool _) (fun _ => zT (congrArg Value.bool (decide_eq_true (by decide))) rfl) rfl rfl ?_; refine w_r (v := .bool _) (fun _ => zF (bF h6) rfl) rfl rfl ?_; refine yB ?_; refine zD rfl (fun h7 => ?_) (fun h7 => ?_)
          · (try (have qh7 := h7; norm_cast at qh7))
            refine yA ?_; refine aB rfl ?_; refine yB ?_; refine ze ?_; refine zt (?_)
            refine zo (v := .bool _) rfl rfl rfl ?_; exact fun w' hw => ⟨by first | (simp_all [smOk, sruleOk]; done) | (unfold smOk; rw [srule_miss hop]; rfl) | (clear hw; clear hm hx gmb umb; simp only [smOk, sruleOk]; grind), hw.fr _ (.head _)⟩
          · (try (have qh7 := h7; norm_cast at qh7))
            refine zi ?_; refine zk ?_; refine yA ?_; refine zf fa38_4 rfl ?_; refine zl z25 rfl (fun _ h => zc 3 rfl rfl h) ?_; refine zC (fun w => zR Tryd.func44 rfl rfl rfl) rfl rfl (fun w h => stmts_spec n ih hn bo ba bc N w hbl (by omega) (hbo.now (fun _ _ hh => hh) (.head _) h) (hW.now (.head _) h)) ?_; refine mB rfl ?_; refine zp (t := 66) rfl (fun h8 => ?_) (fun h8 => ?_)
            · (try (have qh8 := h8; norm_cast at qh8))
              refine zw rfl rfl (bV h8) ?_; refine zf fa38_5 rfl ?_; refine zw rfl rfl (bV h8) ?_; refine zl z25 rfl (fun _ h => zc 3 rfl rfl h) ?_; refine zw rfl rfl (bV h8) ?_; refine zC (fun w => zR Tryd.func44 rfl rfl rfl) rfl rfl (fun w h => stmts_spec n ih hn el ea ec N w hll2 (by omega) (hel.now (fun _ _ hh => hh) (.head _) h) (hW.now (.head _) h)) ?_; refine w_r (v := .bool _) (fun _ => zT (bV h8) rfl) rfl rfl ?_; refine aB rfl ?_; refine yB ?_; refine ze ?_; refine zo (v := .bool _) rfl rfl rfl ?_; exact fun w' hw => ⟨by first | (simp_all [smOk, sruleOk]; done) | (unfold smOk; rw [srule_miss hop]; rfl) | (clear hw; clear hm hx gmb umb; simp only [smOk, sruleOk]; grind), hw.fr _ (.head _)⟩
            · (try (have qh8 := h8; norm_cast at qh8))
              refine zs rfl rfl (bV h8) ?_; refine zs rfl rfl (bV h8) ?_; refine zs rfl rfl (bV h8) ?_; refine w_r (v := .bool _) (fun _ => zF (bV h8) rfl) rfl rfl ?_; refine aB rfl ?_; refine yB ?_; refine ze ?_; refine zo (v := .bool _) rfl rfl rfl ?_; exact fun w' hw => ⟨by first | (simp_all [smOk, sruleOk]; done) | (unfold smOk; rw [srule_miss hop]; rfl) | (clear hw; clear hm hx gmb umb; simp only [smOk, sruleOk]; grind), hw.fr _ (.head _)⟩
  · (try (have qcase1 := case1; norm_cast at qcase1))
    refine zl z5 rfl (fun _ h => zc 3 rfl rfl h) ?_; refine w_lookI 0 (v := .func (.func 102) _ _) rfl unm113 unk5 zr22 rfl rfl rfl ?_; refine za rfl ?_; refine yB ?_; refine zq ?_; refine yA ?_; refine zm rfl ?_; refine w_r (fun _ => R_feq unf22 rfl rfl) rfl rfl ?_; refine mB rfl ?_; refine zw rfl rfl rfl ?_; refine zm rfl ?_; refine zw rfl rfl rfl ?_; refine zC (fun w => R_callv rfl Tryd.func102 rfl rfl) rfl rfl (fun w h => stmt2_spec w (hW.now (.head _) h) t4b _ (h.at_ 1 rfl) t3b _ (h.at_ 2 rfl)) ?_; refine zw rfl rfl rfl ?_; refine w_r (fun _ => R_not rfl) rfl rfl ?_; refine w_r (v := .bool _) (fun _ => zF rfl rfl) rfl rfl ?_; refine mB rfl ?_; refine zp (t := 32) rfl (fun h9 => ?_) (fun h9 => ?_)
    · (try (have qh9 := h9; norm_cast at qh9))
      refine zs rfl rfl (bV h9) ?_; refine zs rfl rfl (bV h9) ?_; refine zs rfl rfl (bV h9) ?_; refine zs rfl rfl (bV h9) ?_; refine zU rfl rfl rfl ?_; refine zU rfl rfl rfl ?_; refine zU rfl rfl rfl ?_; refine zU rfl rfl rfl ?_; refine zs rfl rfl (bV h9) ?_; refine w_r (v := .bool _) (fun _ => zT (bV h9) rfl) rfl rfl ?_; refine yB ?_; refine zE rfl ?_; refine yA ?_; refine aB rfl ?_; refine yB ?_; refine ze ?_; refine zt (?_)
      refine zo (v := .bool _) rfl rfl rfl ?_; exact fun w' hw => ⟨by first | (simp_all [smOk, sruleOk]; done) | (unfold smOk; rw [srule_miss hop]; rfl) | (clear hw; clear hm hx gmb umb; simp only [smOk, sruleOk]; grind), hw.fr _ (.head _)⟩
    · (try (have qh9 := h9; norm_cast at qh9))
      refine zw rfl rfl (bV h9) ?_; refine zf fa38_0 rfl ?_; refine zw rfl rfl (bV h9) ?_; refine zl z5 rfl (fun _ h => zc 3 rfl rfl h) ?_; refine zw rfl rfl (bV h9) ?_; refine w_r (fun _ => R_ne rfl rfl) rfl rfl ?_; refine zw rfl rfl (bV h9) ?_; refine mB rfl ?_; refine zw rfl rfl (congrArg Value.bool (decide_eq_true (by decide))) ?_; refine zf fa38_3 rfl ?_; refine zw rfl rfl (congrArg Value.bool (decide_eq_true (by decide))) ?_; refine zl z36 rfl (fun _ h => zc 3 rfl rfl h) ?_; refine zw rfl rfl (congrArg Value.bool (decide_eq_true (by decide))) ?_; refine zC (fun w => zR Tryd.func70 rfl rfl rfl) rfl rfl (fun w h => exprs_ok ks ka kc N w (by omega) (by omega) (hks.now (fun _ _ hh => hh) (.head _) h) (hW.now (.head _) h)) ?_
      refine zw rfl rfl (congrArg Value.bool (decide_eq_true (by decide))) ?_; refine w_r (fun _ => R_not rfl) rfl rfl ?_; refine zw rfl rfl (bV h9) ?_; refine w_r (v := .bool _) (fun _ => zT (congrArg Value.bool (decide_eq_true (by decide))) rfl) rfl rfl ?_; refine w_r (v := .bool _) (fun _ => zF (bV h9) rfl) rfl rfl ?_; refine yB ?_; refine c_condN rfl (fun h10 => ?_) (fun h10 => ?_)
      · (try (have qh10 := h10; norm_cast at qh10))
        refine yA ?_; refine aB rfl ?_; refine yB ?_; refine ze ?_; refine zt (?_)
        refine zo (v := .bool _) rfl rfl rfl ?_; exact fun w' hw => ⟨by first | (simp_all [smOk, sruleOk]; done) | (unfold smOk; rw [srule_miss hop]; rfl) | (clear hw; clear hm hx gmb umb; simp only [smOk, sruleOk]; grind), hw.fr _ (.head _)⟩
      · (try (have qh10 := h10; norm_cast at qh10))
        refine zi ?_; refine zk ?_; refine zq ?_; refine yA ?_; refine zf fa38_0 rfl ?_; refine zl z5 rfl (fun _ h => zc 3 rfl rfl h) ?_; refine w_r (fun _ => R_lt rfl rfl) rfl rfl ?_; refine mB rfl ?_; refine zw rfl rfl (congrArg Value.bool (decide_eq_true (by decide))) ?_; refine zf fa38_4 rfl ?_; refine zw rfl rfl (congrArg Value.bool (decide_eq_true (by decide))) ?_; refine zl z25 rfl (fun _ h => zc 3 rfl rfl h) ?_; refine zw rfl rfl (congrArg Value.bool (decide_eq_true (by decide))) ?_; refine w_r (fun _ => R_len sl25 rfl) rfl rfl ?_; refine zw rfl rfl (congrArg Value.bool (decide_eq_true (by decide))) ?_; refine w_r (fun _ => R_gt rfl rfl) rfl rfl ?_; refine w_r (v := .bool _) (fun _ => zT (congrArg Value.bool (decide_eq_true (by decide))) rfl) rfl rfl ?_
        refine mB rfl ?_; refine zd (t := 52) rfl (fun h11 => ?_) (fun h11 => ?_)
        · (try (have qh11 := h11; norm_cast at qh11))
          refine zs rfl rfl (bT h11) ?_; refine zs rfl rfl (bT h11) ?_; refine zs rfl rfl (bT h11) ?_; refine zs rfl rfl (bT h11) ?_; refine zU rfl rfl rfl ?_; refine zU rfl rfl rfl ?_; refine zU rfl rfl rfl ?_; refine zU rfl rfl rfl ?_; refine zs rfl rfl (bT h11) ?_; refine w_r (v := .bool _) (fun _ => zT (bT h11) rfl) rfl rfl ?_; refine yB ?_; refine zE rfl ?_; refine yA ?_; refine aB rfl ?_; refine yB ?_; refine ze ?_; refine zt (?_)
          refine zo (v := .bool _) rfl rfl rfl ?_; exact fun w' hw => ⟨by first | (simp_all [smOk, sruleOk]; done) | (unfold smOk; rw [srule_miss hop]; rfl) | (clear hw; clear hm hx gmb umb; simp only [smOk, sruleOk]; grind), hw.fr _ (.head _)⟩
        · (try (have qh11 := h11; norm_cast at qh11))
          refine zw rfl rfl (bF h11) ?_; refine zf fa38_0 rfl ?_; refine zw rfl rfl (bF h11) ?_; refine zl z5 rfl (fun _ h => zc 3 rfl rfl h) ?_; refine zw rfl rfl (bF h11) ?_; refine w_r (fun _ => R_ne rfl rfl) rfl rfl ?_; refine zw rfl rfl (bF h11) ?_; refine mB rfl ?_; refine zw rfl rfl (congrArg Value.bool (decide_eq_true (by decide))) ?_; refine zf fa38_5 rfl ?_; refine zw rfl rfl (congrArg Value.bool (decide_eq_true (by decide))) ?_; refine zl z25 rfl (fun _ h => zc 3 rfl rfl h) ?_; refine zw rfl rfl (congrArg Value.bool (decide_eq_true (by decide))) ?_; refine w_r (fun _ => R_len sl25 rfl) rfl rfl ?_; refine zw rfl rfl (congrArg Value.bool (decide_eq_true (by decide))) ?_
          refine w_r (fun _ => R_gt rfl rfl) rfl rfl ?_; refine zw rfl rfl (bF h11) ?_; refine w_r (v := .bool _) (fun _ => zT (congrArg Value.bool (decide_eq_true (by decide))) rfl) rfl rfl ?_; refine w_r (v := .bool _) (fun _ => zF (bF h11) rfl) rfl rfl ?_; refine yB ?_; refine zD rfl (fun h12 => ?_) (fun h12 => ?_)
          · (try (have qh12 := h12; norm_cast at qh12))
            refine yA ?_; refine aB rfl ?_; refine yB ?_; refine ze ?_; refine zt (?_)
            refine zo (v := .bool _) rfl rfl rfl ?_; exact fun w' hw => ⟨by first | (simp_all [smOk, sruleOk]; done) | (unfold smOk; rw [srule_miss hop]; rfl) | (clear hw; clear hm hx gmb umb; simp only [smOk, sruleOk]; grind), hw.fr _ (.head _)⟩
          · (try (have qh12 := h12; norm_cast at qh12))
            refine zi ?_; refine zk ?_; refine yA ?_; refine zf fa38_4 rfl ?_; refine zl z25 rfl (fun _ h => zc 3 rfl rfl h) ?_; refine zC (fun w => zR Tryd.func44 rfl rfl rfl) rfl rfl (fun w h => stmts_spec n ih hn bo ba bc N w hbl (by omega) (hbo.now (fun _ _ hh => hh) (.head _) h) (hW.now (.head _) h)) ?_; refine mB rfl ?_; refine zp (t := 66) rfl (fun h13 => ?_) (fun h13 => ?_)
            · (try (have qh13 := h13; norm_cast at qh13))
              refine zw rfl rfl (bV h13) ?_; refine zf fa38_5 rfl ?_; refine zw rfl rfl (bV h13) ?_; refine zl z25 rfl (fun _ h => zc 3 rfl rfl h) ?_; refine zw rfl rfl (bV h13) ?_; refine zC (fun w => zR Tryd.func44 rfl rfl rfl) rfl rfl (fun w h => stmts_spec n ih hn el ea ec N w hll2 (by omega) (hel.now (fun _ _ hh => hh) (.head _) h) (hW.now (.head _) h)) ?_; refine w_r (v := .bool _) (fun _ => zT (bV h13) rfl) rfl rfl ?_; refine aB rfl ?_; refine yB ?_; refine ze ?_; refine zo (v := .bool _) rfl rfl rfl ?_; exact fun w' hw => ⟨by first | (simp_all [smOk, sruleOk]; done) | (unfold smOk; rw [srule_miss hop]; rfl) | (clear hw; clear hm hx gmb umb; simp only [smOk, sruleOk]; grind), hw.fr _ (.head _)⟩
            · (try (have qh13 := h13; norm_cast at qh13))
              refine zs rfl rfl (bV h13) ?_; refine zs rfl rfl (bV h13) ?_; refine zs rfl rfl (bV h13) ?_; refine w_r (v := .bool _) (fun _ => zF (bV h13) rfl) rfl rfl ?_; refine aB rfl ?_; refine yB ?_; refine ze ?_; refine zo (v := .bool _) rfl rfl rfl ?_; exact fun w' hw => ⟨by first | (simp_all [smOk, sruleOk]; done) | (unfold smOk; rw [srule_miss hop]; rfl) | (clear hw; clear hm hx gmb umb; simp only [smOk, sruleOk]; grind), hw.fr _ (.head _)⟩
  · (try (have qcase2 := case2; norm_cast at qcase2))
    refine zl z5 rfl (fun _ h => zc 3 rfl rfl h) ?_; refine w_lookI 0 (v := .func (.func 103) _ _) rfl unm113 unk5 zr22 rfl rfl rfl ?_; refine za rfl ?_; refine yB ?_; refine zq ?_; refine yA ?_; refine zm rfl ?_; refine w_r (fun _ => R_feq unf22 rfl rfl) rfl rfl ?_; refine mB rfl ?_; refine zw rfl rfl rfl ?_; refine zm rfl ?_; refine zw rfl rfl rfl ?_; refine zC (fun w => R_callv rfl Tryd.func103 rfl rfl) rfl rfl (fun w h => stmt3_spec w (hW.now (.head _) h) t1b _ _ _ _ _ _ (h.at_ 3 rfl) (by omega) t3b _ (h.at_ 2 rfl)) ?_; refine zw rfl rfl rfl ?_; refine w_r (fun _ => R_not rfl) rfl rfl ?_; refine w_r (v := .bool _) (fun _ => zF rfl rfl) rfl rfl ?_; refine mB rfl ?_; refine zp (t := 32) rfl (fun h14 => ?_) (fun h14 => ?_)
    · (try (have qh14 := h14; norm_cast at qh14))
      refine zs rfl rfl (bV h14) ?_; refine zs rfl rfl (bV h14) ?_; refine zs rfl rfl (bV h14) ?_; refine zs rfl rfl (bV h14) ?_; refine zU rfl rfl rfl ?_; refine zU rfl rfl rfl ?_; refine zU rfl rfl rfl ?_; refine zU rfl rfl rfl ?_; refine zs rfl rfl (bV h14) ?_; refine w_r (v := .bool _) (fun _ => zT (bV h14) rfl) rfl rfl ?_; refine yB ?_; refine zE rfl ?_; refine yA ?_; refine aB rfl ?_; refine yB ?_; refine ze ?_; refine zt (?_)
      refine zo (v := .bool _) rfl rfl rfl ?_; exact fun w' hw => ⟨by first | (simp_all [smOk, sruleOk]; done) | (unfold smOk; rw [srule_miss hop]; rfl) | (clear hw; clear hm hx gmb umb; simp only [smOk, sruleOk]; grind), hw.fr _ (.head _)⟩
    · (try (have qh14 := h14; norm_cast at qh14))
      refine zw rfl rfl (bV h14) ?_; refine zf fa38_0 rfl ?_; refine zw rfl rfl (bV h14) ?_; refine zl z5 rfl (fun _ h => zc 3 rfl rfl h) ?_; refine zw rfl rfl (bV h14) ?_; refine w_r (fun _ => R_ne rfl rfl) rfl rfl ?_; refine zw rfl rfl (bV h14) ?_; refine mB rfl ?_; refine zw rfl rfl (congrArg Value.bool (decide_eq_true (by decide))) ?_; refine zf fa38_3 rfl ?_; refine zw rfl rfl (congrArg Value.bool (decide_eq_true (by decide))) ?_; refine zl z36 rfl (fun _ h => zc 3 rfl rfl h) ?_; refine zw rfl rfl (congrArg Value.bool (decide_eq_true (by decide))) ?_; refine zC (fun w => zR Tryd.func70 rfl rfl rfl) rfl rfl (fun w h => exprs_ok ks ka kc N w (by omega) (by omega) (hks.now (fun _ _ hh => hh) (.head _) h) (hW.now (.head _) h)) ?_
      refine zw rfl rfl (congrArg Value.bool (decide_eq_true (by decide))) ?_; refine w_r (fun _ => R_not rfl) rfl rfl ?_; refine zw rfl rfl (bV h14) ?_; refine w_r (v := .bool _) (fun _ => zT (congrArg Value.bool (decide_eq_true (by decide))) rfl) rfl rfl ?_; refine w_r (v := .bool _) (fun _ => zF (bV h14) rfl) rfl rfl ?_; refine yB ?_; refine c_condN rfl (fun h15 => ?_) (fun h15 => ?_)
      · (try (have qh15 := h15; norm_cast at qh15))
        refine yA ?_; refine aB rfl ?_; refine yB ?_; refine ze ?_; refine zt (?_)
        refine zo (v := .bool _) rfl rfl rfl ?_; exact fun w' hw => ⟨by first | (simp_all [smOk, sruleOk]; done) | (unfold smOk; rw [srule_miss hop]; rfl) | (clear hw; clear hm hx gmb umb; simp only [smOk, sruleOk]; grind), hw.fr _ (.head _)⟩
      · (try (have qh15 := h15; norm_cast at qh15))
        refine zi ?_; refine zk ?_; refine zq ?_; refine yA ?_; refine zf fa38_0 rfl ?_; refine zl z5 rfl (fun _ h => zc 3 rfl rfl h) ?_; refine w_r (fun _ => R_lt rfl rfl) rfl rfl ?_; refine mB rfl ?_; refine zw rfl rfl (congrArg Value.bool (decide_eq_true (by decide))) ?_; refine zf fa38_4 rfl ?_; refine zw rfl rfl (congrArg Value.bool (decide_eq_true (by decide))) ?_; refine zl z25 rfl (fun _ h => zc 3 rfl rfl h) ?_; refine zw rfl rfl (congrArg Value.bool (decide_eq_true (by decide))) ?_; refine w_r (fun _ => R_len sl25 rfl) rfl rfl ?_; refine zw rfl rfl (congrArg Value.bool (decide_eq_true (by decide))) ?_; refine w_r (fun _ => R_gt rfl rfl) rfl rfl ?_; refine w_r (v := .bool _) (fun _ => zT (congrArg Value.bool (decide_eq_true (by decide))) rfl) rfl rfl ?_
        refine mB rfl ?_; refine zd (t := 52) rfl (fun h16 => ?_) (fun h16 => ?_)
        · (try (have qh16 := h16; norm_cast at qh16))
          refine zs rfl rfl (bT h16) ?_; refine zs rfl rfl (bT h16) ?_; refine zs rfl rfl (bT h16) ?_; refine zs rfl rfl (bT h16) ?_; refine zU rfl rfl rfl ?_; refine zU rfl rfl rfl ?_; refine zU rfl rfl rfl ?_; refine zU rfl rfl rfl ?_; refine zs rfl rfl (bT h16) ?_; refine w_r (v := .bool _) (fun _ => zT (bT h16) rfl) rfl rfl ?_; refine yB ?_; refine zE rfl ?_; refine yA ?_; refine aB rfl ?_; refine yB ?_; refine ze ?_; refine zt (?_)
          refine zo (v := .bool _) rfl rfl rfl ?_; exact fun w' hw => ⟨by first | (simp_all [smOk, sruleOk]; done) | (unfold smOk; rw [srule_miss hop]; rfl) | (clear hw; clear hm hx gmb umb; simp only [smOk, sruleOk]; grind), hw.fr _ (.head _)⟩
        · (try (have qh16 := h16; norm_cast at qh16))
          refine zw rfl rfl (bF h16) ?_; refine zf fa38_0 rfl ?_; refine zw rfl rfl (bF h16) ?_; refine zl z5 rfl (fun _ h => zc 3 rfl rfl h) ?_; refine zw rfl rfl (bF h16) ?_; refine w_r (fun _ => R_ne rfl rfl) rfl rfl ?_; refine zw rfl rfl (bF h16) ?_; refine mB rfl ?_; refine zw rfl rfl (congrArg Value.bool (decide_eq_true (by decide))) ?_; refine zf fa38_5 rfl ?_; refine zw rfl rfl (congrArg Value.bool (decide_eq_true (by decide))) ?_; refine zl z25 rfl (fun _ h => zc 3 rfl rfl h) ?_; refine zw rfl rfl (congrArg Value.bool (decide_eq_true (by decide))) ?_; refine w_r (fun _ => R_len sl25 rfl) rfl rfl ?_; refine zw rfl rfl (congrArg Value.bool (decide_eq_true (by decide))) ?_
          refine w_r (fun _ => R_gt rfl rfl) rfl rfl ?_; refine zw rfl rfl (bF h16) ?_; refine w_r (v := .bool _) (fun _ => zT (congrArg Value.bool (decide_eq_true (by decide))) rfl) rfl rfl ?_; refine w_r (v := .bool _) (fun _ => zF (bF h16) rfl) rfl rfl ?_; refine yB ?_; refine zD rfl (fun h17 => ?_) (fun h17 => ?_)
          · (try (have qh17 := h17; norm_cast at qh17))
            refine yA ?_; refine aB rfl ?_; refine yB ?_; refine ze ?_; refine zt (?_)
            refine zo (v := .bool _) rfl rfl rfl ?_; exact fun w' hw => ⟨by first | (simp_all [smOk, sruleOk]; done) | (unfold smOk; rw [srule_miss hop]; rfl) | (clear hw; clear hm hx gmb umb; simp only [smOk, sruleOk]; grind), hw.fr _ (.head _)⟩
          · (try (have qh17 := h17; norm_cast at qh17))
            refine zi ?_; refine zk ?_; refine yA ?_; refine zf fa38_4 rfl ?_; refine zl z25 rfl (fun _ h => zc 3 rfl rfl h) ?_; refine zC (fun w => zR Tryd.func44 rfl rfl rfl) rfl rfl (fun w h => stmts_spec n ih hn bo ba bc N w hbl (by omega) (hbo.now (fun _ _ hh => hh) (.head _) h) (hW.now (.head _) h)) ?_; refine mB rfl ?_; refine zp (t := 66) rfl (fun h18 => ?_) (fun h18 => ?_)
            · (try (have qh18 := h18; norm_cast at qh18))
              refine zw rfl rfl (bV h18) ?_; refine zf fa38_5 rfl ?_; refine zw rfl rfl (bV h18) ?_; refine zl z25 rfl (fun _ h => zc 3 rfl rfl h) ?_; refine zw rfl rfl (bV h18) ?_; refine zC (fun w => zR Tryd.func44 rfl rfl rfl) rfl rfl (fun w h => stmts_spec n ih hn el ea ec N w hll2 (by omega) (hel.now (fun _ _ hh => hh) (.head _) h) (hW.now (.head _) h)) ?_; refine w_r (v := .bool _) (fun _ => zT (bV h18) rfl) rfl rfl ?_; refine aB rfl ?_; refine yB ?_; refine ze ?_; refine zo (v := .bool _) rfl rfl rfl ?_; exact fun w' hw => ⟨by first | (simp_all [smOk, sruleOk]; done) | (unfold smOk; rw [srule_miss hop]; rfl) | (clear hw; clear hm hx gmb umb; simp only [smOk, sruleOk]; grind), hw.fr _ (.head _)⟩
            · (try (have qh18 := h18; norm_cast at qh18))
              refine zs rfl rfl (bV h18) ?_; refine zs rfl rfl (bV h18) ?_; refine zs rfl rfl (bV h18) ?_; refine w_r (v := .bool _) (fun _ => zF (bV h18) rfl) rfl rfl ?_; refine aB rfl ?_; refine yB ?_; refine ze ?_; refine zo (v := .bool _) rfl rfl rfl ?_; exact fun w' hw => ⟨by first | (simp_all [smOk, sruleOk]; done) | (unfold smOk; rw [srule_miss hop]; rfl) | (clear hw; clear hm hx gmb umb; simp only [smOk, sruleOk]; grind), hw.fr _ (.head _)⟩
  · (try (have qcase3 := case3; norm_cast at qcase3))
    refine zl z5 rfl (fun _ h => zc 3 rfl rfl h) ?_; refine w_lookI 0 (v := .func (.func 104) _ _) rfl unm113 unk5 zr22 rfl rfl rfl ?_; refine za rfl ?_; refine yB ?_; refine zq ?_; refine yA ?_; refine zm rfl ?_; refine w_r (fun _ => R_feq unf22 rfl rfl) rfl rfl ?_; refine mB rfl ?_; refine zw rfl rfl rfl ?_; refine zm rfl ?_; refine zw rfl rfl rfl ?_; refine zC (fun w => R_callv rfl Tryd.func104 rfl rfl) rfl rfl (fun w h => stmt4_spec w (hW.now (.head _) h) t1b _ _ _ _ _ _ (h.at_ 3 rfl) (by omega) t3b _ (h.at_ 2 rfl)) ?_; refine zw rfl rfl rfl ?_; refine w_r (fun _ => R_not rfl) rfl rfl ?_; refine w_r (v := .bool _) (fun _ => zF rfl rfl) rfl rfl ?_; refine mB rfl ?_; refine zp (t := 32) rfl (fun h19 => ?_) (fun h19 => ?_)
    · (try (have qh19 := h19; norm_cast at qh19))
      refine zs rfl rfl (bV h19) ?_; refine zs rfl rfl (bV h19) ?_; refine zs rfl rfl (bV h19) ?_; refine zs rfl rfl (bV h19) ?_; refine zU rfl rfl rfl ?_; refine zU rfl rfl rfl ?_; refine zU rfl rfl rfl ?_; refine zU rfl rfl rfl ?_; refine zs rfl rfl (bV h19) ?_; refine w_r (v := .bool _) (fun _ => zT (bV h19) rfl) rfl rfl ?_; refine yB ?_; refine zE rfl ?_; refine yA ?_; refine aB rfl ?_; refine yB ?_; refine ze ?_; refine zt (?_)
      refine zo (v := .bool _) rfl rfl rfl ?_; exact fun w' hw => ⟨by first | (simp_all [smOk, sruleOk]; done) | (unfold smOk; rw [srule_miss hop]; rfl) | (clear hw; clear hm hx gmb umb; simp only [smOk, sruleOk]; grind), hw.fr _ (.head _)⟩
    · (try (have qh19 := h19; norm_cast at qh19))
      refine zw rfl rfl (bV h19) ?_; refine zf fa38_0 rfl ?_; refine zw rfl rfl (bV h19) ?_; refine zl z5 rfl (fun _ h => zc 3 rfl rfl h) ?_; refine zw rfl rfl (bV h19) ?_; refine w_r (fun _ => R_ne rfl rfl) rfl rfl ?_; refine zw rfl rfl (bV h19) ?_; refine mB rfl ?_; refine zw rfl rfl (congrArg Value.bool (decide_eq_true (by decide))) ?_; refine zf fa38_3 rfl ?_; refine zw rfl rfl (congrArg Value.bool (decide_eq_true (by decide))) ?_; refine zl z36 rfl (fun _ h => zc 3 rfl rfl h) ?_; refine zw rfl rfl (congrArg Value.bool (decide_eq_true (by decide))) ?_; refine zC (fun w => zR Tryd.func70 rfl rfl rfl) rfl rfl (fun w h => exprs_ok ks ka kc N w (by omega) (by omega) (hks.now (fun _ _ hh => hh) (.head _) h) (hW.now (.head _) h)) ?_
      refine zw rfl rfl (congrArg Value.bool (decide_eq_true (by decide))) ?_; refine w_r (fun _ => R_not rfl) rfl rfl ?_; refine zw rfl rfl (bV h19) ?_; refine w_r (v := .bool _) (fun _ => zT (congrArg Value.bool (decide_eq_true (by decide))) rfl) rfl rfl ?_; refine w_r (v := .bool _) (fun _ => zF (bV h19) rfl) rfl rfl ?_; refine yB ?_; refine c_condN rfl (fun h20 => ?_) (fun h20 => ?_)
      · (try (have qh20 := h20; norm_cast at qh20))
        refine yA ?_; refine aB rfl ?_; refine yB ?_; refine ze ?_; refine zt (?_)
        refine zo (v := .bool _) rfl rfl rfl ?_; exact fun w' hw => ⟨by first | (simp_all [smOk, sruleOk]; done) | (unfold smOk; rw [srule_miss hop]; rfl) | (clear hw; clear hm hx gmb umb; simp only [smOk, sruleOk]; grind), hw.fr _ (.head _)⟩
      · (try (have qh20 := h20; norm_cast at qh20))
        refine zi ?_; refine zk ?_; refine zq ?_; refine yA ?_; refine zf fa38_0 rfl ?_; refine zl z5 rfl (fun _ h => zc 3 rfl rfl h) ?_; refine w_r (fun _ => R_lt rfl rfl) rfl rfl ?_; refine mB rfl ?_; refine zs rfl rfl (congrArg Value.bool (decide_eq_false (by decide))) ?_; refine zs rfl rfl (congrArg Value.bool (decide_eq_false (by decide))) ?_; refine zs rfl rfl (congrArg Value.bool (decide_eq_false (by decide))) ?_; refine zs rfl rfl (congrArg Value.bool (decide_eq_false (by decide))) ?_; refine w_r (v := .bool _) (fun _ => zF (congrArg Value.bool (decide_eq_false (by decide))) rfl) rfl rfl ?_; refine mB rfl ?_; refine zw rfl rfl rfl ?_; refine zf fa38_0 rfl ?_; refine zw rfl rfl rfl ?_; refine zl z5 rfl (fun _ h => zc 3 rfl rfl h) ?_
        refine zw rfl rfl rfl ?_; refine w_r (fun _ => R_ne rfl rfl) rfl rfl ?_; refine zw rfl rfl rfl ?_; refine mB rfl ?_; refine zw rfl rfl (congrArg Value.bool (decide_eq_true (by decide))) ?_; refine zf fa38_5 rfl ?_; refine zw rfl rfl (congrArg Value.bool (decide_eq_true (by decide))) ?_; refine zl z25 rfl (fun _ h => zc 3 rfl rfl h) ?_; refine zw rfl rfl (congrArg Value.bool (decide_eq_true (by decide))) ?_; refine w_r (fun _ => R_len sl25 rfl) rfl rfl ?_; refine zw rfl rfl (congrArg Value.bool (decide_eq_true (by decide))) ?_; refine w_r (fun _ => R_gt rfl rfl) rfl rfl ?_; refine zw rfl rfl rfl ?_; refine w_r (v := .bool _) (fun _ => zT (congrArg Value.bool (decide_eq_true (by decide))) rfl) rfl rfl ?_; refine w_r (v := .bool _) (fun _ => zF rfl rfl) rfl rfl ?_; refine yB ?_
        refine zD rfl (fun h21 => ?_) (fun h21 => ?_)
        · (try (have qh21 := h21; norm_cast at qh21))
          refine yA ?_; refine aB rfl ?_; refine yB ?_; refine ze ?_; refine zt (?_)
          refine zo (v := .bool _) rfl rfl rfl ?_; exact fun w' hw => ⟨by first | (simp_all [smOk, sruleOk]; done) | (unfold smOk; rw [srule_miss hop]; rfl) | (clear hw; clear hm hx gmb umb; simp only [smOk, sruleOk]; grind), hw.fr _ (.head _)⟩
        · (try (have qh21 := h21; norm_cast at qh21))
          refine zi ?_; refine zk ?_; refine yA ?_; refine zf fa38_4 rfl ?_; refine zl z25 rfl (fun _ h => zc 3 rfl rfl h) ?_; refine zC (fun w => zR Tryd.func44 rfl rfl rfl) rfl rfl (fun w h => stmts_spec n ih hn bo ba bc N w hbl (by omega) (hbo.now (fun _ _ hh => hh) (.head _) h) (hW.now (.head _) h)) ?_; refine mB rfl ?_; refine zp (t := 66) rfl (fun h22 => ?_) (fun h22 => ?_)
          · (try (have qh22 := h22; norm_cast at qh22))
            refine zw rfl rfl (bV h22) ?_; refine zf fa38_5 rfl ?_; refine zw rfl rfl (bV h22) ?_; refine zl z25 rfl (fun _ h => zc 3 rfl rfl h) ?_; refine zw rfl rfl (bV h22) ?_; refine zC (fun w => zR Tryd.func44 rfl rfl rfl) rfl rfl (fun w h => stmts_spec n ih hn el ea ec N w hll2 (by omega) (hel.now (fun _ _ hh => hh) (.head _) h) (hW.now (.head _) h)) ?_; refine w_r (v := .bool _) (fun _ => zT (bV h22) rfl) rfl rfl ?_; refine aB rfl ?_; refine yB ?_; refine ze ?_; refine zo (v := .bool _) rfl rfl rfl ?_; exact fun w' hw => ⟨by first | (simp_all [smOk, sruleOk]; done) | (unfold smOk; rw [srule_miss hop]; rfl) | (clear hw; clear hm hx gmb umb; simp only [smOk, sruleOk]; grind), hw.fr _ (.head _)⟩
          · (try (have qh22 := h22; norm_cast at qh22))
            refine zs rfl rfl (bV h22) ?_; refine zs rfl rfl (bV h22) ?_; refine zs rfl rfl (bV h22) ?_; refine w_r (v := .bool _) (fun _ => zF (bV h22) rfl) rfl rfl ?_; refine aB rfl ?_; refine yB ?_; refine ze ?_; refine zo (v := .bool _) rfl rfl rfl ?_; exact fun w' hw => ⟨by first | (simp_all [smOk, sruleOk]; done) | (unfold smOk; rw [srule_miss hop]; rfl) | (clear hw; clear hm hx gmb umb; simp only [smOk, sruleOk]; grind), hw.fr _ (.head _)⟩
  · (try (have qcase4 := case4; norm_cast at qcase4))
    refine zl z5 rfl (fun _ h => zc 3 rfl rfl h) ?_; refine w_lookI 0 (v := .func (.func 105) _ _) rfl unm113 unk5 zr22 rfl rfl rfl ?_; refine za rfl ?_; refine yB ?_; refine zq ?_; refine yA ?_; refine zm rfl ?_; refine w_r (fun _ => R_feq unf22 rfl rfl) rfl rfl ?_; refine mB rfl ?_; refine zw rfl rfl rfl ?_; refine zm rfl ?_; refine zw rfl rfl rfl ?_; refine zC (fun w => R_callv rfl Tryd.func105 rfl rfl) rfl rfl (fun w h => stmt5_spec w (hW.now (.head _) h) ks ka kc N (by omega) (hks.now (fun _ _ hh => hh) (.head _) h) t4b _ (h.at_ 1 rfl) t3b _ (h.at_ 2 rfl) t1b _ _ _ _ _ (h.at_ 3 rfl) (by omega) rfl) ?_; refine zw rfl rfl rfl ?_; refine w_r (fun _ => R_not rfl) rfl rfl ?_; refine w_r (v := .bool _) (fun _ => zF rfl rfl) rfl rfl ?_; refine mB rfl ?_
    refine zp (t := 32) rfl (fun h23 => ?_) (fun h23 => ?_)
    · (try (have qh23 := h23; norm_cast at qh23))
      refine zs rfl rfl (bV h23) ?_; refine zs rfl rfl (bV h23) ?_; refine zs rfl rfl (bV h23) ?_; refine zs rfl rfl (bV h23) ?_; refine zU rfl rfl rfl ?_; refine zU rfl rfl rfl ?_; refine zU rfl rfl rfl ?_; refine zU rfl rfl rfl ?_; refine zs rfl rfl (bV h23) ?_; refine w_r (v := .bool _) (fun _ => zT (bV h23) rfl) rfl rfl ?_; refine yB ?_; refine zE rfl ?_; refine yA ?_; refine aB rfl ?_; refine yB ?_; refine ze ?_; refine zt (?_)
      refine zo (v := .bool _) rfl rfl rfl ?_; exact fun w' hw => ⟨by first | (simp_all [smOk, sruleOk]; done) | (unfold smOk; rw [srule_miss hop]; rfl) | (clear hw; clear hm hx gmb umb; simp only [smOk, sruleOk]; grind), hw.fr _ (.head _)⟩
    · (try (have qh23 := h23; norm_cast at qh23))
      refine zw rfl rfl (bV h23) ?_; refine zf fa38_0 rfl ?_; refine zw rfl rfl (bV h23) ?_; refine zl z5 rfl (fun _ h => zc 3 rfl rfl h) ?_; refine zw rfl rfl (bV h23) ?_; refine w_r (fun _ => R_ne rfl rfl) rfl rfl ?_; refine zw rfl rfl (bV h23) ?_; refine mB rfl ?_; refine zs rfl rfl (congrArg Value.bool (decide_eq_false (by decide))) ?_; refine zs rfl rfl (congrArg Value.bool (decide_eq_false (by decide))) ?_; refine zs rfl rfl (congrArg Value.bool (decide_eq_false (by decide))) ?_; refine zs rfl rfl (congrArg Value.bool (decide_eq_false (by decide))) ?_; refine zw rfl rfl (bV h23) ?_; refine w_r (v := .bool _) (fun _ => zF (congrArg Value.bool (decide_eq_false (by decide))) rfl) rfl rfl ?_
      refine w_r (v := .bool _) (fun _ => zF (bV h23) rfl) rfl rfl ?_; refine yB ?_; refine c_condF rfl ?_; refine zi ?_; refine zk ?_; refine zq ?_; refine yA ?_; refine zf fa38_0 rfl ?_; refine zl z5 rfl (fun _ h => zc 3 rfl rfl h) ?_; refine w_r (fun _ => R_lt rfl rfl) rfl rfl ?_; refine mB rfl ?_; refine zs rfl rfl (congrArg Value.bool (decide_eq_false (by decide))) ?_; refine zs rfl rfl (congrArg Value.bool (decide_eq_false (by decide))) ?_; refine zs rfl rfl (congrArg Value.bool (decide_eq_false (by decide))) ?_; refine zs rfl rfl (congrArg Value.bool (decide_eq_false (by decide))) ?_; refine w_r (v := .bool _) (fun _ => zF (congrArg Value.bool (decide_eq_false (by decide))) rfl) rfl rfl ?_; refine mB rfl ?_; refine zw rfl rfl rfl ?_
      refine zf fa38_0 rfl ?_; refine zw rfl rfl rfl ?_; refine zl z5 rfl (fun _ h => zc 3 rfl rfl h) ?_; refine zw rfl rfl rfl ?_; refine w_r (fun _ => R_ne rfl rfl) rfl rfl ?_; refine zw rfl rfl rfl ?_; refine mB rfl ?_; refine zs rfl rfl (congrArg Value.bool (decide_eq_false (by decide))) ?_; refine zs rfl rfl (congrArg Value.bool (decide_eq_false (by decide))) ?_; refine zs rfl rfl (congrArg Value.bool (decide_eq_false (by decide))) ?_; refine zs rfl rfl (congrArg Value.bool (decide_eq_false (by decide))) ?_; refine zw rfl rfl rfl ?_; refine w_r (v := .bool _) (fun _ => zF (congrArg Value.bool (decide_eq_false (by decide))) rfl) rfl rfl ?_; refine w_r (v := .bool _) (fun _ => zF rfl rfl) rfl rfl ?_
      refine yB ?_; refine c_condF rfl ?_; refine zi ?_; refine zk ?_; refine yA ?_; refine zf fa38_4 rfl ?_; refine zl z25 rfl (fun _ h => zc 3 rfl rfl h) ?_; refine zC (fun w => zR Tryd.func44 rfl rfl rfl) rfl rfl (fun w h => stmts_spec n ih hn bo ba bc N w hbl (by omega) (hbo.now (fun _ _ hh => hh) (.head _) h) (hW.now (.head _) h)) ?_; refine mB rfl ?_; refine zp (t := 66) rfl (fun h24 => ?_) (fun h24 => ?_)
      · (try (have qh24 := h24; norm_cast at qh24))
        refine zw rfl rfl (bV h24) ?_; refine zf fa38_5 rfl ?_; refine zw rfl rfl (bV h24) ?_; refine zl z25 rfl (fun _ h => zc 3 rfl rfl h) ?_; refine zw rfl rfl (bV h24) ?_; refine zC (fun w => zR Tryd.func44 rfl rfl rfl) rfl rfl (fun w h => stmts_spec n ih hn el ea ec N w hll2 (by omega) (hel.now (fun _ _ hh => hh) (.head _) h) (hW.now (.head _) h)) ?_; refine w_r (v := .bool _) (fun _ => zT (bV h24) rfl) rfl rfl ?_; refine aB rfl ?_; refine yB ?_; refine ze ?_; refine zo (v := .bool _) rfl rfl rfl ?_; exact fun w' hw => ⟨by first | (simp_all [smOk, sruleOk]; done) | (unfold smOk; rw [srule_miss hop]; rfl) | (clear hw; clear hm hx gmb umb; simp only [smOk, sruleOk]; grind), hw.fr _ (.head _)⟩
      · (try (have qh24 := h24; norm_cast at qh24))
        refine zs rfl rfl (bV h24) ?_; refine zs rfl rfl (bV h24) ?_; refine zs rfl rfl (bV h24) ?_; refine w_r (v := .bool _) (fun _ => zF (bV h24) rfl) rfl rfl ?_; refine aB rfl ?_; refine yB ?_; refine ze ?_; refine zo (v := .bool _) rfl rfl rfl ?_; exact fun w' hw => ⟨by first | (simp_all [smOk, sruleOk]; done) | (unfold smOk; rw [srule_miss hop]; rfl) | (clear hw; clear hm hx gmb umb; simp only [smOk, sruleOk]; grind), hw.fr _ (.head _)⟩
  · (try (have qcase5 := case5; norm_cast at qcase5))
    refine zl z5 rfl (fun _ h => zc 3 rfl rfl h) ?_; refine w_lookI 0 (v := .func (.func 107) _ _) rfl unm113 unk5 zr22 rfl rfl rfl ?_; refine za rfl ?_; refine yB ?_; refine zq ?_; refine yA ?_; refine zm rfl ?_; refine w_r (fun _ => R_feq unf22 rfl rfl) rfl rfl ?_; refine mB rfl ?_; refine zw rfl rfl rfl ?_; refine zm rfl ?_; refine zw rfl rfl rfl ?_; refine zC (fun w => R_callv rfl Tryd.func107 rfl rfl) rfl rfl (fun w h => stmt6_spec w (hW.now (.head _) h) t4b _ (h.at_ 1 rfl) t3b _ (h.at_ 2 rfl)) ?_; refine zw rfl rfl rfl ?_; refine w_r (fun _ => R_not rfl) rfl rfl ?_; refine w_r (v := .bool _) (fun _ => zF rfl rfl) rfl rfl ?_; refine mB rfl ?_; refine zp (t := 32) rfl (fun h25 => ?_) (fun h25 => ?_)
    · (try (have qh25 := h25; norm_cast at qh25))
      refine zs rfl rfl (bV h25) ?_; refine zs rfl rfl (bV h25) ?_; refine zs rfl rfl (bV h25) ?_; refine zs rfl rfl (bV h25) ?_; refine zU rfl rfl rfl ?_; refine zU rfl rfl rfl ?_; refine zU rfl rfl rfl ?_; refine zU rfl rfl rfl ?_; refine zs rfl rfl (bV h25) ?_; refine w_r (v := .bool _) (fun _ => zT (bV h25) rfl) rfl rfl ?_; refine yB ?_; refine zE rfl ?_; refine yA ?_; refine aB rfl ?_; refine yB ?_; refine ze ?_; refine zt (?_)
      refine zo (v := .bool _) rfl rfl rfl ?_; exact fun w' hw => ⟨by first | (simp_all [smOk, sruleOk]; done) | (unfold smOk; rw [srule_miss hop]; rfl) | (clear hw; clear hm hx gmb umb; simp only [smOk, sruleOk]; grind), hw.fr _ (.head _)⟩
    · (try (have qh25 := h25; norm_cast at qh25))
      refine zw rfl rfl (bV h25) ?_; refine zf fa38_0 rfl ?_; refine zw rfl rfl (bV h25) ?_; refine zl z5 rfl (fun _ h => zc 3 rfl rfl h) ?_; refine zw rfl rfl (bV h25) ?_; refine w_r (fun _ => R_ne rfl rfl) rfl rfl ?_; refine zw rfl rfl (bV h25) ?_; refine mB rfl ?_; refine zw rfl rfl (congrArg Value.bool (decide_eq_true (by decide))) ?_; refine zf fa38_3 rfl ?_; refine zw rfl rfl (congrArg Value.bool (decide_eq_true (by decide))) ?_; refine zl z36 rfl (fun _ h => zc 3 rfl rfl h) ?_; refine zw rfl rfl (congrArg Value.bool (decide_eq_true (by decide))) ?_; refine zC (fun w => zR Tryd.func70 rfl rfl rfl) rfl rfl (fun w h => exprs_ok ks ka kc N w (by omega) (by omega) (hks.now (fun _ _ hh => hh) (.head _) h) (hW.now (.head _) h)) ?_
      refine zw rfl rfl (congrArg Value.bool (decide_eq_true (by decide))) ?_; refine w_r (fun _ => R_not rfl) rfl rfl ?_; refine zw rfl rfl (bV h25) ?_; refine w_r (v := .bool _) (fun _ => zT (congrArg Value.bool (decide_eq_true (by decide))) rfl) rfl rfl ?_; refine w_r (v := .bool _) (fun _ => zF (bV h25) rfl) rfl rfl ?_; refine yB ?_; refine c_condN rfl (fun h26 => ?_) (fun h26 => ?_)
      · (try (have qh26 := h26; norm_cast at qh26))
        refine yA ?_; refine aB rfl ?_; refine yB ?_; refine ze ?_; refine zt (?_)
        refine zo (v := .bool _) rfl rfl rfl ?_; exact fun w' hw => ⟨by first | (simp_all [smOk, sruleOk]; done) | (unfold smOk; rw [srule_miss hop]; rfl) | (clear hw; clear hm hx gmb umb; simp only [smOk, sruleOk]; grind), hw.fr _ (.head _)⟩
      · (try (have qh26 := h26; norm_cast at qh26))
        refine zi ?_; refine zk ?_; refine zq ?_; refine yA ?_; refine zf fa38_0 rfl ?_; refine zl z5 rfl (fun _ h => zc 3 rfl rfl h) ?_; refine w_r (fun _ => R_lt rfl rfl) rfl rfl ?_; refine mB rfl ?_; refine zs rfl rfl (congrArg Value.bool (decide_eq_false (by decide))) ?_; refine zs rfl rfl (congrArg Value.bool (decide_eq_false (by decide))) ?_; refine zs rfl rfl (congrArg Value.bool (decide_eq_false (by decide))) ?_; refine zs rfl rfl (congrArg Value.bool (decide_eq_false (by decide))) ?_; refine w_r (v := .bool _) (fun _ => zF (congrArg Value.bool (decide_eq_false (by decide))) rfl) rfl rfl ?_; refine mB rfl ?_; refine zw rfl rfl rfl ?_; refine zf fa38_0 rfl ?_; refine zw rfl rfl rfl ?_; refine zl z5 rfl (fun _ h => zc 3 rfl rfl h) ?_
        refine zw rfl rfl rfl ?_; refine w_r (fun _ => R_ne rfl rfl) rfl rfl ?_; refine zw rfl rfl rfl ?_; refine mB rfl ?_; refine zw rfl rfl (congrArg Value.bool (decide_eq_true (by decide))) ?_; refine zf fa38_5 rfl ?_; refine zw rfl rfl (congrArg Value.bool (decide_eq_true (by decide))) ?_; refine zl z25 rfl (fun _ h => zc 3 rfl rfl h) ?_; refine zw rfl rfl (congrArg Value.bool (decide_eq_true (by decide))) ?_; refine w_r (fun _ => R_len sl25 rfl) rfl rfl ?_; refine zw rfl rfl (congrArg Value.bool (decide_eq_true (by decide))) ?_; refine w_r (fun _ => R_gt rfl rfl) rfl rfl ?_; refine zw rfl rfl rfl ?_; refine w_r (v := .bool _) (fun _ => zT (congrArg Value.bool (decide_eq_true (by decide))) rfl) rfl rfl ?_; refine w_r (v := .bool _) (fun _ => zF rfl rfl) rfl rfl ?_; refine yB ?_
        refine zD rfl (fun h27 => ?_) (fun h27 => ?_)
        · (try (have qh27 := h27; norm_cast at qh27))
          refine yA ?_; refine aB rfl ?_; refine yB ?_; refine ze ?_; refine zt (?_)
          refine zo (v := .bool _) rfl rfl rfl ?_; exact fun w' hw => ⟨by first | (simp_all [smOk, sruleOk]; done) | (unfold smOk; rw [srule_miss hop]; rfl) | (clear hw; clear hm hx gmb umb; simp only [smOk, sruleOk]; grind), hw.fr _ (.head _)⟩
        · (try (have qh27 := h27; norm_cast at qh27))
          refine zi ?_; refine zk ?_; refine yA ?_; refine zf fa38_4 rfl ?_; refine zl z25 rfl (fun _ h => zc 3 rfl rfl h) ?_; refine zC (fun w => zR Tryd.func44 rfl rfl rfl) rfl rfl (fun w h => stmts_spec n ih hn bo ba bc N w hbl (by omega) (hbo.now (fun _ _ hh => hh) (.head _) h) (hW.now (.head _) h)) ?_; refine mB rfl ?_; refine zp (t := 66) rfl (fun h28 => ?_) (fun h28 => ?_)
          · (try (have qh28 := h28; norm_cast at qh28))
            refine zw rfl rfl (bV h28) ?_; refine zf fa38_5 rfl ?_; refine zw rfl rfl (bV h28) ?_; refine zl z25 rfl (fun _ h => zc 3 rfl rfl h) ?_; refine zw rfl rfl (bV h28) ?_; refine zC (fun w => zR Tryd.func44 rfl rfl rfl) rfl rfl (fun w h => stmts_spec n ih hn el ea ec N w hll2 (by omega) (hel.now (fun _ _ hh => hh) (.head _) h) (hW.now (.head _) h)) ?_; refine w_r (v := .bool _) (fun _ => zT (bV h28) rfl) rfl rfl ?_; refine aB rfl ?_; refine yB ?_; refine ze ?_; refine zo (v := .bool _) rfl rfl rfl ?_; exact fun w' hw => ⟨by first | (simp_all [smOk, sruleOk]; done) | (unfold smOk; rw [srule_miss hop]; rfl) | (clear hw; clear hm hx gmb umb; simp only [smOk, sruleOk]; grind), hw.fr _ (.head _)⟩
          · (try (have qh28 := h28; norm_cast at qh28))
            refine zs rfl rfl (bV h28) ?_; refine zs rfl rfl (bV h28) ?_; refine zs rfl rfl (bV h28) ?_; refine w_r (v := .bool _) (fun _ => zF (bV h28) rfl) rfl rfl ?_; refine aB rfl ?_; refine yB ?_; refine ze ?_; refine zo (v := .bool _) rfl rfl rfl ?_; exact fun w' hw => ⟨by first | (simp_all [smOk, sruleOk]; done) | (unfold smOk; rw [srule_miss hop]; rfl) | (clear hw; clear hm hx gmb umb; simp only [smOk, sruleOk]; grind), hw.fr _ (.head _)⟩
  · (try (have qcase6 := case6; norm_cast at qcase6))
    refine zl z5 rfl (fun _ h => zc 3 rfl rfl h) ?_; refine w_lookI 0 (v := .nilFunc) rfl unm113 unk5 zr22 rfl rfl (look_none _ _ _ (by simp; omega)) ?_; refine za rfl ?_; refine yB ?_; refine zq ?_; refine yA ?_; refine zm rfl ?_; refine w_r (fun _ => R_neq unf22 rfl rfl) rfl rfl ?_; refine mB rfl ?_; refine zs rfl rfl rfl ?_; refine zs rfl rfl rfl ?_; refine zs rfl rfl rfl ?_; refine w_r (v := .bool _) (fun _ => zT rfl rfl) rfl rfl ?_; refine mB rfl ?_; refine zs rfl rfl rfl ?_; refine zs rfl rfl rfl ?_; refine zs rfl rfl rfl ?_; refine zs rfl rfl rfl ?_; refine zU rfl rfl rfl ?_
    refine zU rfl rfl rfl ?_; refine zU rfl rfl rfl ?_; refine zU rfl rfl rfl ?_; refine zs rfl rfl rfl ?_; refine w_r (v := .bool _) (fun _ => zT rfl rfl) rfl rfl ?_; refine yB ?_; refine zE rfl ?_; refine yA ?_; refine aB rfl ?_; refine yB ?_; refine ze ?_; refine zt (?_)
    refine zo (v := .bool _) rfl rfl rfl ?_; exact fun w' hw => ⟨by first | (simp_all [smOk, sruleOk]; done) | (unfold smOk; rw [srule_miss hop]; rfl) | (clear hw; clear hm hx gmb umb; simp only [smOk, sruleOk]; grind), hw.fr _ (.head _)⟩


theorem stmt_all : ∀ n : Nat, n ≤ 10000000 → StmtH n
  | 0, _ => fun _ _ _ _ h _ _ => absurd h (Nat.not_lt_zero _)
  | n + 1, hn => fun x cs N w hx hm hW => stmt_step n (stmt_all n (by omega)) (by omega) x cs N w hx hm hW
theorem stmts_ok (l : List Sm) (a : Option Addr) (c : Nat) (N : Nat → Prop) (w : World) (hl : smsW l < 10000000) (hll : l.length ≤ 10000000) (hm : smsM w N l a 0) (hW : Wd w) : Ret Tryd.prog 44 #[.slice a l.length c] w fun v w' => v = .bool (smsOk l) ∧ Ext w w' :=
  stmts_spec _ (stmt_all _ (Nat.le_refl _)) (Nat.le_refl _) l a c N w (fun _ hx => Nat.lt_of_le_of_lt (smsW_mem hx) hl) hll hm hW
end Go.Proofs.YtcmcdgkjipnfnaaDoor
end

section
/- Programs in memory; whole structs out of blocks. -/
namespace Go.Sx
open Go.RowKit Go.Tree
/-- a declaration in memory -/
def dcM (W : World) (N : Nat → Prop) (d : Dc) (cs : List Value) : Prop := ∃ sa sc la lc ua uc ia ic, cs = [.int .u8 (d.ty : Nat), .int .i64 d.at_, str d.nm, .slice sa d.size.length sc, .slice la d.lower.length lc, .slice ua d.upper.length uc, .slice ia d.init.length ic] ∧ exsM W N d.size sa 0 ∧ exsM W N d.lower la 0 ∧ exsM W N d.upper ua 0 ∧ exsM W N d.init ia 0
theorem dcM.fr {W W' : World} {S N : Nat → Prop} {d : Dc} {cs : List Value} (h : dcM W N d cs) (hf : Fr S W W') (hn : ∀ b, N b → ¬ S b) : dcM W' N d cs := by
 obtain ⟨sa, sc, la, lc, ua, uc, ia, ic, h1, h2, h3, h4, h5⟩ := h
 exact ⟨sa, sc, la, lc, ua, uc, ia, ic, h1, exsM.fr hf hn _ _ _ h2, exsM.fr hf hn _ _ _ h3, exsM.fr hf hn _ _ _ h4, exsM.fr hf hn _ _ _ h5⟩
theorem dcM.now {x : World × (Nat → Prop)} {N : Nat → Prop} {d : Dc} {cs : List Value} {B : Base} {L : Heap} {w : World} (h : dcM x.1 N d cs) (hn : Apart x N) (hx : x ∈ B) (hw : St B L w) : dcM w N d cs := h.fr (hw.fr x hx) hn
def dcsM (W : World) (N : Nat → Prop) (l : List Dc) (a : Option Addr) : Prop := ∀ k d, l[k]? = some d → ∃ cs, At W N a (k * 7) cs ∧ dcM W N d cs
theorem dcsM.fr {W W' : World} {S N : Nat → Prop} {l : List Dc} {a : Option Addr} (h : dcsM W N l a) (hf : Fr S W W') (hn : ∀ b, N b → ¬ S b) : dcsM W' N l a := fun k d hk => by
 obtain ⟨cs, h1, h2⟩ := h k d hk
 exact ⟨cs, h1.fr hf hn, h2.fr hf hn⟩
theorem dcsM.now {x : World × (Nat → Prop)} {N : Nat → Prop} {l : List Dc} {a : Option Addr} {B : Base} {L : Heap} {w : World} (h : dcsM x.1 N l a) (hn : Apart x N) (hx : x ∈ B) (hw : St B L w) : dcsM w N l a := h.fr (hw.fr x hx) hn
def bkM (W : World) (N : Nat → Prop) (b : Bk) (cs : List Value) : Prop := ∃ da dc sa sc, cs = [.bool b.is, .slice da b.decls.length dc, .slice sa b.stmts.length sc] ∧ dcsM W N b.decls da ∧ smsM W N b.stmts sa 0
theorem bkM.fr {W W' : World} {S N : Nat → Prop} {b : Bk} {cs : List Value} (h : bkM W N b cs) (hf : Fr S W W') (hn : ∀ b, N b → ¬ S b) : bkM W' N b cs := by
 obtain ⟨da, dc, sa, sc, h1, h2, h3⟩ := h
 exact ⟨da, dc, sa, sc, h1, h2.fr hf hn, smsM.fr hf hn _ _ _ h3⟩
/-- a program: six blocks of three cells -/
structure pgM (W : World) (N : Nat → Prop) (p : List Bk) (cs : List Value) : Prop where
 six : p.length = 6
 len : cs.length = 18
 one : ∀ i b, p[i]? = some b → bkM W N b ((cs.drop (i * 3)).take 3)
theorem pgM.fr {W W' : World} {S N : Nat → Prop} {p : List Bk} {cs : List Value} (h : pgM W N p cs) (hf : Fr S W W') (hn : ∀ b, N b → ¬ S b) : pgM W' N p cs := ⟨h.six, h.len, fun i b hb => (h.one i b hb).fr hf hn⟩
theorem pgM.now {x : World × (Nat → Prop)} {N : Nat → Prop} {p : List Bk} {cs : List Value} {B : Base} {L : Heap} {w : World} (h : pgM x.1 N p cs) (hn : Apart x N) (hx : x ∈ B) (hw : St B L w) : pgM w N p cs := h.fr (hw.fr x hx) hn
section
variable {P : Program} {ops : Array Oper} {Q : Exit → Act → World → Prop} {c : Cf} {e : Env} {B : Base} {L : Heap} {rest : List Oper} {o : Oper} {v : Value} {d : Nat} {q : Md} {w : World} {ρ : Operand → Value} {x y z : Operand} {ty T : TypeId} {pos p : String} {aft a : Array Edge} {D : Option Tmp} {g : Option (Nat × Bool)}
theorem w_loadW {t : TypeId} {b k : Nat} {cs : List Value} {Tb : TypeId} (hz : szB P t k true = true) (hx : ev c.n e x = .pointer (some ⟨b, 0, none⟩)) (hc : ∀ w, St B L w → w.heap[b]? = some (cel cs Tb)) (hn : cs.length = k) (h : WX q P ops c Q rest (upd e d (.agg cs.toArray)) B L) : WX q P ops c Q (⟨some d, .load t x, ty, p, a, none⟩ :: rest) e B L := by
 refine w_loadA hz hx hc (by rw [Nat.zero_add, hn]; exact Nat.ble_eq_true_of_le (Nat.le_refl _)) ?_
 rw [List.drop_zero, ← hn, List.take_length]; exact h
theorem R_aidxA {t m i k : Nat} {kk : IntKind} {l vs : List Value} (hu : arB P t m k true = true) (hx : ρ x = .agg l.toArray) (hy : ρ y = .int kk (i : Nat)) (h1 : i < m) (hv : (l.drop (i * k)).take k = vs) : Run P ⟨D, .index t x y, ty, pos, aft, g⟩ ρ w (.agg vs.toArray) w := by
 unfold arB at hu
 split at hu
 ·rename_i m' e he
  simp only [Bool.and_eq_true] at hu
  obtain ⟨hm, hz⟩ := hu
  have hm := Nat.eq_of_beq_eq_true hm
  subst hm
  have hp : (part e l.toArray (i * k)).run P w = .ok (.agg vs.toArray) w := by
   unfold part
   rw [Sem.run_bind, run_isAgg hz, Result.andThen_ok]
   simp only [if_true, Sem.run_bind, run_sizeOf hz, Result.andThen_ok]
   rw [← hv]; simp [go_sem, List.extract_toArray, List.extract_eq_take_drop]
  unfold Run
  simp only [execOp, hx, hy, Instr.index, asIntOf, Sem.run_bind, pure_run, Result.andThen_ok, run_underlying he]
  rw [if_pos (by omega)]
  simp only [Sem.run_bind, run_sizeOf hz, Result.andThen_ok, Int.toNat_natCast, hp]
 ·cases hu
end
end Go.Sx
end
