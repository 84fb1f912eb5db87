/- Layer 13, ParseReads. Part 12 of 16. -/
import Derived.Test.YtaniogadknakoaaGreatDoorR11
set_option maxRecDepth 100000
set_option maxHeartbeats 16000000
section
namespace Go.Proofs.YtaniogadknakoaaGreatDoor
open Go.RowKit Go.Sx
open Go.Tok Go.Tree
mutual
theorem exM.any {w : World} {N : Nat → Prop} : ∀ (e : Ex) (cs : List Value), exM w N e cs → exM w (fun _ => True) e cs
  | .mk op at_ nm ks, cs, h => by
    unfold exM at h ⊢
    obtain ⟨a, c, h1, h2, h3⟩ := h
    exact ⟨a, c, h1, h2, exsM.any ks a 0 h3⟩
theorem exsM.any {w : World} {N : Nat → Prop} : ∀ (l : List Ex) (a : Option Addr) (i : Nat), exsM w N l a i → exsM w (fun _ => True) l a i
  | [], _, _, _ => by unfold exsM; trivial
  | e :: l, a, i, h => by
    unfold exsM at h ⊢
    obtain ⟨⟨cs, ⟨b, o, ha, hb, hc⟩, h2⟩, h3⟩ := h
    exact ⟨⟨cs, ⟨b, o, ha, trivial, hc⟩, exM.any e cs h2⟩, exsM.any l a (i + 4) h3⟩
end

end Go.Proofs.YtaniogadknakoaaGreatDoor
end

section
namespace Go.Proofs.YtaniogadknakoaaGreatDoor
open Go.RowKit Go.Sx
open Go.Tok Go.Tree


def SameH (f : FuncId) (n : Nat) : Prop := ∀ (x z : Ex) (cs ds : List Value) (N : Nat → Prop) (w : World), exW x < n → exM w N x cs → exM w N z ds → Ret Tryz.prog f #[.agg cs.toArray, .agg ds.toArray] w fun v w' => v = .bool (exSame x z) ∧ Ext w w'

theorem eqE_spec (n : Nat) (ih : SameH 91 n) (l r : List Ex) (a b : Option Addr) (c d : Nat) (N : Nat → Prop) (w : World) (hl : ∀ x ∈ l, exW x < n) (hll : l.length ≤ 10000000) (hm : exsM w N l a 0) (hm2 : exsM w N r b 0) :
    Ret Tryz.prog 90 #[.slice a l.length c, .slice b r.length d, .func (.func 91) #[] #[]] w (fun v w' => v = .bool (pairOk exSame l r) ∧ Ext w w') := by
  refine enter (S := No) (l := [_, _, _]) (L := []) 32 Tryz.func90 rfl rfl rfl (St.start w No) (yA (aB rfl (yB (zq (yA (mS rfl (zg (fun _ => R_len sl37 rfl) (mS rfl (zg (fun _ => R_len sl37 rfl) (zg (fun _ => R_ne rfl rfl) (yB ?_))))))))))); refine zD rfl (fun h1 => ?_) (fun h1 => ?_)
  · refine yA (aB rfl (yB (ze (zt ((zo (v := .bool _) rfl rfl rfl ?_)))))); exact fun w' hw => ⟨by rw [pairOk_len (by omega)], hw.fr _ zm0⟩
  · have hlen : l.length = r.length := (by omega)
    refine zi (zk (zq (yA (mS rfl (zg (fun _ => R_len sl37 rfl) (mI rfl (yB (zB (c_loop (fun m e B L => ∃ (k : Nat), e 1 = .slice b r.length d ∧ e 2 = .func (.func 91) #[] #[] ∧ e 15 = .slice a l.length c ∧ e 16 = .int .i64 (l.length : Nat) ∧ e 17 = .int .i64 (k : Nat) ∧ B = [(w, No)] ∧ L = [] ∧ k ≤ l.length ∧ (∀ p ∈ (l.zip r).take k, (!exSame p.1 p.2) = false) ∧ m = l.length - k) _ ⟨0, rfl, rfl, rfl, rfl, rfl, rfl, rfl, Nat.zero_le _, (by simp), rfl⟩ ?_)))))))))
    rintro m e B L ⟨k, e1_1, e2_1, e15_1, e16_1, e17_1, rfl, rfl, hk, hy, rfl⟩
    refine yA (zg (fun _ => R_lt e17_1 e16_1) (yB (zq ?_))); refine zD rfl (fun h2 => ?_) (fun h2 => ?_)
    · have hlt : k < l.length := (by omega); obtain ⟨x, hxk⟩ : ∃ x, l[k]? = some x := ⟨_, List.getElem?_eq_getElem hlt⟩; obtain ⟨z, hzk⟩ : ∃ z, r[k]? = some z := ⟨_, List.getElem?_eq_getElem (by omega)⟩; obtain ⟨cs, hA, hE⟩ := hm.get0 hxk; obtain ⟨ds, hA2, hE2⟩ := hm2.get0 hzk; have hxn := hl x (List.mem_of_getElem? hxk); obtain ⟨b1, o1, rfl⟩ := hA.ptr; obtain ⟨b2, o2, rfl⟩ := hA2.ptr; have hxe := hxk; have hze := hzk; have hEx := hE; have hEz := hE2; obtain ⟨op, at_, nm, ks⟩ := x; obtain ⟨op2, at2, nm2, ks2⟩ := z; unfold exM at hEx hEz; obtain ⟨ka, kc, rfl, hkc, hks⟩ := hEx; obtain ⟨ka2, kc2, rfl, hkc2, hks2⟩ := hEz
      refine zi (zk (zq (zB (yA (mI e17_1 (zg (fun _ => R_iaN (i := k) sl37 e15_1 e17_1 (by omega)) (w_loadC (l := [.int .u8 (op : Nat), .int .i64 at_, str nm, .slice ka ks.length kc]) z39 rfl rfl (fun w h j v hj => hA.cell (fun _ _ hh => hh) zm0 h j v hj) (zA zr39 (fun t8b gt8b ut8b => aI rfl (zV 0 rfl z39 rfl rfl rfl rfl rfl rfl rfl (yC (mS e1_1 (mI rfl (zg (fun _ => R_iaN (i := k) sl37 rfl rfl (by omega)) (w_loadC (l := [.int .u8 (op2 : Nat), .int .i64 at2, str nm2, .slice ka2 ks2.length kc2]) z39 rfl rfl (fun w h j v hj => hA2.cell (fun _ _ hh => hh) zm0 h j v hj) (zA zr39 (fun t9b gt9b ut9b => zV 0 rfl z39 rfl rfl rfl rfl rfl rfl rfl (yC (zm e2_1 (zY z39 rfl (fun _ h => h.at_ 1 rfl) rfl (zY z39 rfl (fun _ h => h.at_ 0 rfl) rfl (zC (fun w => R_callv rfl Tryz.func91 rfl rfl) rfl rfl (fun w h => ih _ _ _ _ N w hxn (hE.now (fun _ _ hh => hh) zm0 h) (hE2.now (fun _ _ hh => hh) zm0 h)) (zg (fun _ => R_not rfl) (yB ?_)))))))))))))))))))))))); refine c_condN rfl (fun h5 => ?_) (fun h5 => ?_)
      · refine yA (aB rfl (yB (ze (zb (zt (zt (zb (zt ((zo (v := .bool _) rfl rfl rfl ?_)))))))))); exact fun w' hw => ⟨by (rw [pairOk_no hxk hzk h5]; done), hw.fr _ zm0⟩
      · refine zi (zO (zk (zr (zg (fun _ => R_addi e17_1 rfl (by omega)) (mI rfl (zn (zK (B' := [(w, No)]) (L' := []) (fun w h => h.drop (List.nil_sublist _)) ?_))))))); exact k_again _ (by omega) ⟨k + 1, e1_1, e2_1, e15_1, e16_1, rfl, rfl, rfl, by omega, pair_next hy hxk hzk h5, rfl⟩
    · refine zX (zx (zx (b_here rfl (zk (yA (aB rfl (yB (ze (zo (v := .bool _) rfl rfl rfl ?_))))))))); exact fun w' hw => ⟨by (rw [pairOk_yes hlen hy (by omega)]; done), hw.fr _ zm0⟩

theorem same_step (n : Nat) (ih : SameH 91 n) (hN : n ≤ 10000000) (x z : Ex) (cs ds : List Value) (N : Nat → Prop) (w : World) (hx : exW x < n + 1) (hm : exM w N x cs) (hm2 : exM w N z ds) :
    Ret Tryz.prog 91 #[.agg cs.toArray, .agg ds.toArray] w (fun v w' => v = .bool (exSame x z) ∧ Ext w w') := by
  obtain ⟨op, at_, nm, ks⟩ := x
  have hmx := hm
  unfold exM at hmx
  obtain ⟨ka, kc, rfl, hkc, hks⟩ := hmx
  obtain ⟨op2, at2, nm2, ks2⟩ := z
  have hmz := hm2
  unfold exM at hmz
  obtain ⟨ka2, kc2, rfl, hkc2, hks2⟩ := hmz
  have hx2 := hx
  unfold exW at hx2
  refine enter (S := No) (l := [_, _]) (L := []) 24 Tryz.func91 rfl rfl rfl (St.start w No) (yA (w_boxA rfl (fun t2b gt2b ut2b => w_boxA rfl (fun t3b gt3b ut3b => aB rfl (yC (zf fa39_0 rfl (zL 1 z5 rfl rfl rfl (zf fa39_0 rfl (zL 0 z5 rfl rfl rfl (zg (fun _ => R_eq rfl rfl) (mB rfl ?_))))))))))); refine zd (t := 10) rfl (fun h3 => ?_) (fun h3 => ?_)
  · have hop : op = op2 := (by omega)
    refine zw rfl rfl (bT h3) (zf fa39_2 rfl (zw rfl rfl (bT h3) (zL 1 z9 rfl rfl rfl (zw rfl rfl (bT h3) (zf fa39_2 rfl (zw rfl rfl (bT h3) (zL 0 z9 rfl rfl rfl (zw rfl rfl (bT h3) (zg (fun _ => R_seq rfl rfl) (zg (v := .bool _) (fun _ => zT (bT h3) rfl) (mB rfl ?_))))))))))); refine zd (t := 17) rfl (fun h4 => ?_) (fun h4 => ?_)
    · refine zw rfl rfl (bT h4) (zf fa39_3 rfl (zw rfl rfl (bT h4) (zL 1 z37 rfl rfl rfl (zw rfl rfl (bT h4) (zf fa39_3 rfl (zw rfl rfl (bT h4) (zL 0 z37 rfl rfl rfl (zw rfl rfl (bT h4) (zC (fun w => zR Tryz.func90 rfl rfl rfl) rfl rfl (fun w h => eqE_spec n ih ks ks2 ka ka2 kc kc2 N w (fun x hx => by have := exsW_mem hx; omega) (by omega) (hks.now (fun _ _ hh => hh) zm0 h) (hks2.now (fun _ _ hh => hh) zm0 h)) (zg (v := .bool _) (fun _ => zT (bT h4) rfl) (aB rfl (yB (ze (zo (v := .bool _) rfl rfl rfl ?_))))))))))))))
      exact fun w' hw => ⟨by (try clear hm hm2 hks hks2 hw ih hx hx2 gt2b gt3b ut2b ut3b); simp only [exSame, exsSame_eq, Ex.op, Ex.nm, Ex.kids]; simp_all, hw.fr _ zm0⟩
    · refine zs rfl rfl (bF h4) (zs rfl rfl (bF h4) (zs rfl rfl (bF h4) (zs rfl rfl (bF h4) (zs rfl rfl (bF h4) (zg (v := .bool _) (fun _ => zF (bF h4) rfl) (aB rfl (yB (ze (zo (v := .bool _) rfl rfl rfl ?_))))))))); exact fun w' hw => ⟨by (try clear hm hm2 hks hks2 hw ih hx hx2 gt2b gt3b ut2b ut3b); simp only [exSame, exsSame_eq, Ex.op, Ex.nm, Ex.kids]; simp_all, hw.fr _ zm0⟩
  · have hop : ¬ op = op2 := (by omega)
    refine zs rfl rfl (bF h3) (zs rfl rfl (bF h3) (zs rfl rfl (bF h3) (zs rfl rfl (bF h3) (zs rfl rfl (bF h3) (zg (v := .bool _) (fun _ => zF (bF h3) rfl) (mB rfl ?_)))))); (iterate 5 refine zs rfl rfl rfl ?_); refine zg (v := .bool _) (fun _ => zF rfl rfl) (aB rfl (yB (ze (zo (v := .bool _) rfl rfl rfl ?_)))); exact fun w' hw => ⟨by (try clear hm hm2 hks hks2 hw ih hx hx2 gt2b gt3b ut2b ut3b); simp only [exSame, exsSame_eq, Ex.op, Ex.nm, Ex.kids]; simp_all, hw.fr _ zm0⟩


theorem same_all : ∀ n : Nat, n ≤ 10000000 → SameH 91 n
  | 0, _ => fun _ _ _ _ _ _ h => absurd h (Nat.not_lt_zero _)
  | n + 1, h => same_step n (same_all n (by omega)) (by omega)
theorem same_ok : SameH 91 10000000 := same_all _ (Nat.le_refl _)


def SameS (n : Nat) : Prop := ∀ (x z : Sm) (cs ds : List Value) (N : Nat → Prop) (w : World), smW x < n → smM w N x cs → smM w N z ds → Ret Tryz.prog 53 #[.agg cs.toArray, .agg ds.toArray] w fun v w' => v = .bool (smSame x z) ∧ Ext w w'

theorem eqS_spec (n : Nat) (ih : SameS n) (l r : List Sm) (a b : Option Addr) (c d : Nat) (N : Nat → Prop) (w : World) (hl : ∀ x ∈ l, smW x < n) (hll : l.length ≤ 10000000) (hm : smsM w N l a 0) (hm2 : smsM w N r b 0) :
    Ret Tryz.prog 52 #[.slice a l.length c, .slice b r.length d, .func (.func 53) #[] #[]] w (fun v w' => v = .bool (pairOk smSame l r) ∧ Ext w w') := by
  refine enter (S := No) (l := [_, _, _]) (L := []) 32 Tryz.func52 rfl rfl rfl (St.start w No) (yA (aB rfl (yB (zq (yA (mS rfl (zg (fun _ => R_len sl24 rfl) (mS rfl (zg (fun _ => R_len sl24 rfl) (zg (fun _ => R_ne rfl rfl) (yB ?_))))))))))); refine zD rfl (fun h1 => ?_) (fun h1 => ?_)
  · refine yA (aB rfl (yB (ze (zt ((zo (v := .bool _) rfl rfl rfl ?_)))))); exact fun w' hw => ⟨by rw [pairOk_len (by omega)], hw.fr _ zm0⟩
  · have hlen : l.length = r.length := (by omega)
    refine zi (zk (zq (yA (mS rfl (zg (fun _ => R_len sl24 rfl) (mI rfl (yB (zB (c_loop (fun m e B L => ∃ (k : Nat), e 1 = .slice b r.length d ∧ e 2 = .func (.func 53) #[] #[] ∧ e 15 = .slice a l.length c ∧ e 16 = .int .i64 (l.length : Nat) ∧ e 17 = .int .i64 (k : Nat) ∧ B = [(w, No)] ∧ L = [] ∧ k ≤ l.length ∧ (∀ p ∈ (l.zip r).take k, (!smSame p.1 p.2) = false) ∧ m = l.length - k) _ ⟨0, rfl, rfl, rfl, rfl, rfl, rfl, rfl, Nat.zero_le _, (by simp), rfl⟩ ?_)))))))))
    rintro m e B L ⟨k, e1_1, e2_1, e15_1, e16_1, e17_1, rfl, rfl, hk, hy, rfl⟩
    refine yA (zg (fun _ => R_lt e17_1 e16_1) (yB (zq ?_))); refine zD rfl (fun h2 => ?_) (fun h2 => ?_)
    · have hlt : k < l.length := (by omega); obtain ⟨x, hxk⟩ : ∃ x, l[k]? = some x := ⟨_, List.getElem?_eq_getElem hlt⟩; obtain ⟨z, hzk⟩ : ∃ z, r[k]? = some z := ⟨_, List.getElem?_eq_getElem (by omega)⟩; obtain ⟨cs, hA, hE⟩ := hm.get0 hxk; obtain ⟨ds, hA2, hE2⟩ := hm2.get0 hzk; have hxn := hl x (List.mem_of_getElem? hxk); obtain ⟨b1, o1, rfl⟩ := hA.ptr; obtain ⟨b2, o2, rfl⟩ := hA2.ptr; have hxe := hxk; have hze := hzk; have hEx := hE; have hEz := hE2; obtain ⟨op, at_, nm, ks, bo, el⟩ := x; obtain ⟨op2, at2, nm2, ks2, bo2, el2⟩ := z; unfold smM at hEx hEz; obtain ⟨ka, kc, ba, bc, ea, ec, rfl, hkc, hks, hbo, hel⟩ := hEx; obtain ⟨ka2, kc2, ba2, bc2, ea2, ec2, rfl, hkc2, hks2, hbo2, hel2⟩ := hEz
      refine zi (zk (zq (zB (yA (mI e17_1 (zg (fun _ => R_iaN (i := k) sl24 e15_1 e17_1 (by omega)) (w_loadC (l := [.int .u8 (op : Nat), .int .i64 at_, str nm, .slice ka ks.length kc, .slice ba bo.length bc, .slice ea el.length ec]) z76 rfl rfl (fun w h j v hj => hA.cell (fun _ _ hh => hh) zm0 h j v hj) (zA zr76 (fun t8b gt8b ut8b => aI rfl (zV 0 rfl z76 rfl rfl rfl rfl rfl rfl rfl (yC (mS e1_1 (mI rfl (zg (fun _ => R_iaN (i := k) sl24 rfl rfl (by omega)) (w_loadC (l := [.int .u8 (op2 : Nat), .int .i64 at2, str nm2, .slice ka2 ks2.length kc2, .slice ba2 bo2.length bc2, .slice ea2 el2.length ec2]) z76 rfl rfl (fun w h j v hj => hA2.cell (fun _ _ hh => hh) zm0 h j v hj) (zA zr76 (fun t9b gt9b ut9b => zV 0 rfl z76 rfl rfl rfl rfl rfl rfl rfl (yC (zm e2_1 (zY z76 rfl (fun _ h => h.at_ 1 rfl) rfl (zY z76 rfl (fun _ h => h.at_ 0 rfl) rfl (zC (fun w => R_callv rfl Tryz.func53 rfl rfl) rfl rfl (fun w h => ih _ _ _ _ N w hxn (hE.now (fun _ _ hh => hh) zm0 h) (hE2.now (fun _ _ hh => hh) zm0 h)) (zg (fun _ => R_not rfl) (yB ?_)))))))))))))))))))))))); refine c_condN rfl (fun h5 => ?_) (fun h5 => ?_)
      · refine yA (aB rfl (yB (ze (zb (zt (zt (zb (zt ((zo (v := .bool _) rfl rfl rfl ?_)))))))))); exact fun w' hw => ⟨by (rw [pairOk_no hxk hzk h5]; done), hw.fr _ zm0⟩
      · refine zi (zO (zk (zr (zg (fun _ => R_addi e17_1 rfl (by omega)) (mI rfl (zn (zK (B' := [(w, No)]) (L' := []) (fun w h => h.drop (List.nil_sublist _)) ?_))))))); exact k_again _ (by omega) ⟨k + 1, e1_1, e2_1, e15_1, e16_1, rfl, rfl, rfl, by omega, pair_next hy hxk hzk h5, rfl⟩
    · refine zX (zx (zx (b_here rfl (zk (yA (aB rfl (yB (ze (zo (v := .bool _) rfl rfl rfl ?_))))))))); exact fun w' hw => ⟨by (rw [pairOk_yes hlen hy (by omega)]; done), hw.fr _ zm0⟩

theorem sameS_step (n : Nat) (ih : SameS n) (hN : n ≤ 10000000) (x z : Sm) (cs ds : List Value) (N : Nat → Prop) (w : World) (hx : smW x < n + 1) (hm : smM w N x cs) (hm2 : smM w N z ds) :
    Ret Tryz.prog 53 #[.agg cs.toArray, .agg ds.toArray] w (fun v w' => v = .bool (smSame x z) ∧ Ext w w') := by
  have hEx := hm; have hEz := hm2; obtain ⟨op, at_, nm, ks, bo, el⟩ := x; obtain ⟨op2, at2, nm2, ks2, bo2, el2⟩ := z; unfold smM at hEx hEz; obtain ⟨ka, kc, ba, bc, ea, ec, rfl, hkc, hks, hbo, hel⟩ := hEx; obtain ⟨ka2, kc2, ba2, bc2, ea2, ec2, rfl, hkc2, hks2, hbo2, hel2⟩ := hEz
  have hx2 := hx
  unfold smW at hx2
  refine enter (S := No) (l := [_, _]) (L := []) 38 Tryz.func53 rfl rfl rfl (St.start w No) (yA (w_boxA rfl (fun t2b gt2b ut2b => w_boxA rfl (fun t3b gt3b ut3b => aB rfl (yC (zf fa76_0 rfl (zL 1 z5 rfl rfl rfl (zf fa76_0 rfl (zL 0 z5 rfl rfl rfl (zg (fun _ => R_eq rfl rfl) (mB rfl ?_))))))))))); refine zd (t := 10) rfl (fun h3 => ?_) (fun h3 => ?_)
  · have hop : op = op2 := (by omega)
    refine zw rfl rfl (bT h3) (zf fa76_2 rfl (zw rfl rfl (bT h3) (zL 1 z9 rfl rfl rfl (zw rfl rfl (bT h3) (zf fa76_2 rfl (zw rfl rfl (bT h3) (zL 0 z9 rfl rfl rfl (zw rfl rfl (bT h3) (zg (fun _ => R_seq rfl rfl) (zg (v := .bool _) (fun _ => zT (bT h3) rfl) (mB rfl ?_))))))))))); refine zd (t := 17) rfl (fun h4 => ?_) (fun h4 => ?_)
    · refine zw rfl rfl (bT h4) (zf fa76_3 rfl (zw rfl rfl (bT h4) (zL 1 z37 rfl rfl rfl (zw rfl rfl (bT h4) (zf fa76_3 rfl (zw rfl rfl (bT h4) (zL 0 z37 rfl rfl rfl (zw rfl rfl (bT h4) (zC (fun w => zR Tryz.func90 rfl rfl rfl) rfl rfl (fun w h => eqE_spec _ same_ok ks ks2 ka ka2 kc kc2 N w (fun x hx => by have := exsW_mem hx; omega) (by omega) (hks.now (fun _ _ hh => hh) zm0 h) (hks2.now (fun _ _ hh => hh) zm0 h)) (zg (v := .bool _) (fun _ => zT (bT h4) rfl) (mB rfl ?_))))))))))); refine zp (t := 24) rfl (fun h5 => ?_) (fun h5 => ?_)
      · refine zw rfl rfl (bV h5) (zf fa76_4 rfl (zw rfl rfl (bV h5) (zL 1 z24 rfl rfl rfl (zw rfl rfl (bV h5) (zf fa76_4 rfl (zw rfl rfl (bV h5) (zL 0 z24 rfl rfl rfl (zw rfl rfl (bV h5) (zC (fun w => zR Tryz.func52 rfl rfl rfl) rfl rfl (fun w h => eqS_spec n ih bo bo2 ba ba2 bc bc2 N w (fun x hx => by have := smsW_mem hx; omega) (by omega) (hbo.now (fun _ _ hh => hh) zm0 h) (hbo2.now (fun _ _ hh => hh) zm0 h)) (zg (v := .bool _) (fun _ => zT (bV h5) rfl) (mB rfl ?_))))))))))); refine zp (t := 31) rfl (fun h6 => ?_) (fun h6 => ?_)
        · refine zw rfl rfl (bV h6) (zf fa76_5 rfl (zw rfl rfl (bV h6) (zL 1 z24 rfl rfl rfl (zw rfl rfl (bV h6) (zf fa76_5 rfl (zw rfl rfl (bV h6) (zL 0 z24 rfl rfl rfl (zw rfl rfl (bV h6) (zC (fun w => zR Tryz.func52 rfl rfl rfl) rfl rfl (fun w h => eqS_spec n ih el el2 ea ea2 ec ec2 N w (fun x hx => by have := smsW_mem hx; omega) (by omega) (hel.now (fun _ _ hh => hh) zm0 h) (hel2.now (fun _ _ hh => hh) zm0 h)) (zg (v := .bool _) (fun _ => zT (bV h6) rfl) (aB rfl (yB (ze (zo (v := .bool _) rfl rfl rfl ?_))))))))))))))
          exact fun w' hw => ⟨by (try clear hm hm2 hks hks2 hbo hbo2 hel hel2 hw ih hx hx2 gt2b gt3b ut2b ut3b); simp only [smSame, exsSame_eq, smsSame_eq, Sm.op, Sm.nm, Sm.kids, Sm.body, Sm.els]; simp_all, hw.fr _ zm0⟩
        · refine zs rfl rfl (bV h6) (zs rfl rfl (bV h6) (zs rfl rfl (bV h6) (zs rfl rfl (bV h6) (zs rfl rfl (bV h6) (zg (v := .bool _) (fun _ => zF (bV h6) rfl) (aB rfl (yB (ze (zo (v := .bool _) rfl rfl rfl ?_))))))))); exact fun w' hw => ⟨by (try clear hm hm2 hks hks2 hbo hbo2 hel hel2 hw ih hx hx2 gt2b gt3b ut2b ut3b); simp only [smSame, exsSame_eq, smsSame_eq, Sm.op, Sm.nm, Sm.kids, Sm.body, Sm.els]; simp_all, hw.fr _ zm0⟩
      · refine zs rfl rfl (bV h5) (zs rfl rfl (bV h5) (zs rfl rfl (bV h5) (zs rfl rfl (bV h5) (zs rfl rfl (bV h5) (zg (v := .bool _) (fun _ => zF (bV h5) rfl) (mB rfl ?_)))))); (iterate 5 refine zs rfl rfl rfl ?_); refine zg (v := .bool _) (fun _ => zF rfl rfl) (aB rfl (yB (ze (zo (v := .bool _) rfl rfl rfl ?_)))); exact fun w' hw => ⟨by (try clear hm hm2 hks hks2 hbo hbo2 hel hel2 hw ih hx hx2 gt2b gt3b ut2b ut3b); simp only [smSame, exsSame_eq, smsSame_eq, Sm.op, Sm.nm, Sm.kids, Sm.body, Sm.els]; simp_all, hw.fr _ zm0⟩
    · refine zs rfl rfl (bF h4) (zs rfl rfl (bF h4) (zs rfl rfl (bF h4) (zs rfl rfl (bF h4) (zs rfl rfl (bF h4) (zg (v := .bool _) (fun _ => zF (bF h4) rfl) (mB rfl ?_)))))); (iterate 5 refine zs rfl rfl rfl ?_); refine zg (v := .bool _) (fun _ => zF rfl rfl) (mB rfl ?_); (iterate 5 refine zs rfl rfl rfl ?_); refine zg (v := .bool _) (fun _ => zF rfl rfl) (aB rfl (yB (ze (zo (v := .bool _) rfl rfl rfl ?_))))
      exact fun w' hw => ⟨by (try clear hm hm2 hks hks2 hbo hbo2 hel hel2 hw ih hx hx2 gt2b gt3b ut2b ut3b); simp only [smSame, exsSame_eq, smsSame_eq, Sm.op, Sm.nm, Sm.kids, Sm.body, Sm.els]; simp_all, hw.fr _ zm0⟩
  · have hop : ¬ op = op2 := (by omega)
    refine zs rfl rfl (bF h3) (zs rfl rfl (bF h3) (zs rfl rfl (bF h3) (zs rfl rfl (bF h3) (zs rfl rfl (bF h3) (zg (v := .bool _) (fun _ => zF (bF h3) rfl) (mB rfl ?_)))))); (iterate 5 refine zs rfl rfl rfl ?_); refine zg (v := .bool _) (fun _ => zF rfl rfl) (mB rfl ?_); (iterate 5 refine zs rfl rfl rfl ?_); refine zg (v := .bool _) (fun _ => zF rfl rfl) (mB rfl ?_)
    (iterate 5 refine zs rfl rfl rfl ?_); refine zg (v := .bool _) (fun _ => zF rfl rfl) (aB rfl (yB (ze (zo (v := .bool _) rfl rfl rfl ?_)))); exact fun w' hw => ⟨by (try clear hm hm2 hks hks2 hbo hbo2 hel hel2 hw ih hx hx2 gt2b gt3b ut2b ut3b); simp only [smSame, exsSame_eq, smsSame_eq, Sm.op, Sm.nm, Sm.kids, Sm.body, Sm.els]; simp_all, hw.fr _ zm0⟩


theorem sameS_all : ∀ n : Nat, n ≤ 10000000 → SameS n
  | 0, _ => fun _ _ _ _ _ _ h => absurd h (Nat.not_lt_zero _)
  | n + 1, h => sameS_step n (sameS_all n (by omega)) (by omega)
theorem sameS_ok : SameS 10000000 := sameS_all _ (Nat.le_refl _)

theorem sameD1_spec (l r : List Ex) (a b : Option Addr) (c d : Nat) (N : Nat → Prop) (w : World) (hl : ∀ x ∈ l, exW x < 10000000) (hll : l.length ≤ 10000000) (hm : exsM w N l a 0) (hm2 : exsM w N r b 0) :
    Ret Tryz.prog 89 #[.slice a l.length c, .slice b r.length d] w (fun v w' => v = .bool (pairOk exSame l r) ∧ Ext w w') := by
  refine enter (S := No) (l := [_, _]) (L := []) 8 Tryz.func89 rfl rfl rfl (St.start w No) (yA (aB rfl (yC (mS rfl (mS rfl (zC (fun w => zR Tryz.func90 rfl rfl rfl) rfl rfl (fun w h => eqE_spec _ same_ok l r a b c d N w hl hll (hm.now (fun _ _ hh => hh) zm0 h) (hm2.now (fun _ _ hh => hh) zm0 h)) (aB rfl (yB (ze (zo (v := .bool _) rfl rfl rfl ?_)))))))))); exact fun w' hw => ⟨rfl, hw.fr _ zm0⟩

theorem sameDecl_spec (x z : Dc) (cs ds : List Value) (N : Nat → Prop) (w : World) (hx : dcW x < 10000000) (hm : dcM w N x cs) (hm2 : dcM w N z ds) :
    Ret Tryz.prog 51 #[.agg cs.toArray, .agg ds.toArray] w (fun v w' => v = .bool (dcSame x z) ∧ Ext w w') := by
  have hEx := hm; have hEz := hm2; obtain ⟨ty, at_, nm, sz, lo, up, ini⟩ := x; obtain ⟨ty2, at2, nm2, sz2, lo2, up2, ini2⟩ := z; unfold dcM at hEx hEz; obtain ⟨xa, xc, la, lc, ua, uc, ia, ic, hcs, hsz, hlo, hup, hini⟩ := hEx; obtain ⟨xa2, xc2, la2, lc2, ua2, uc2, ia2, ic2, hds, hsz2, hlo2, hup2, hini2⟩ := hEz; simp only [] at hcs hds; subst hcs; subst hds
  have hx2 := hx
  unfold dcW at hx2
  simp only [] at hx2
  refine enter (S := No) (l := [_, _]) (L := []) 50 Tryz.func51 rfl rfl rfl (St.start w No) (yA (w_boxA rfl (fun t2b gt2b ut2b => w_boxA rfl (fun t3b gt3b ut3b => aB rfl (yC (za rfl (yC (zf fa46_0 rfl (zL 1 z5 rfl rfl rfl (zf fa46_0 rfl (zL 0 z5 rfl rfl rfl (zg (fun _ => R_eq rfl rfl) (mB rfl ?_))))))))))))); refine zd (t := 11) rfl (fun h3 => ?_) (fun h3 => ?_)
  · have hop : ty = ty2 := (by omega)
    refine zw rfl rfl (bT h3) (zf fa46_2 rfl (zw rfl rfl (bT h3) (zL 1 z9 rfl rfl rfl (zw rfl rfl (bT h3) (zf fa46_2 rfl (zw rfl rfl (bT h3) (zL 0 z9 rfl rfl rfl (zw rfl rfl (bT h3) (zg (fun _ => R_seq rfl rfl) (zg (v := .bool _) (fun _ => zT (bT h3) rfl) (mB rfl ?_))))))))))); refine zd (t := 18) rfl (fun h4 => ?_) (fun h4 => ?_)
    · refine zw rfl rfl (bT h4) (zm rfl (zw rfl rfl (bT h4) (zf fa46_3 rfl (zw rfl rfl (bT h4) (zL 1 z37 rfl rfl rfl (zw rfl rfl (bT h4) (zf fa46_3 rfl (zw rfl rfl (bT h4) (zL 0 z37 rfl rfl rfl (zw rfl rfl (bT h4) (zC (fun w => R_callv rfl Tryz.func89 rfl rfl) rfl rfl (fun w h => sameD1_spec sz sz2 xa xa2 xc xc2 N w (fun x hx => by have := exsW_mem hx; omega) (by omega) (hsz.now (fun _ _ hh => hh) zm0 h) (hsz2.now (fun _ _ hh => hh) zm0 h)) (zg (v := .bool _) (fun _ => zT (bT h4) rfl) (mB rfl ?_))))))))))))); refine zp (t := 26) rfl (fun h5 => ?_) (fun h5 => ?_)
      · refine zw rfl rfl (bV h5) (zm rfl (zw rfl rfl (bV h5) (zf fa46_4 rfl (zw rfl rfl (bV h5) (zL 1 z37 rfl rfl rfl (zw rfl rfl (bV h5) (zf fa46_4 rfl (zw rfl rfl (bV h5) (zL 0 z37 rfl rfl rfl (zw rfl rfl (bV h5) (zC (fun w => R_callv rfl Tryz.func89 rfl rfl) rfl rfl (fun w h => sameD1_spec lo lo2 la la2 lc lc2 N w (fun x hx => by have := exsW_mem hx; omega) (by omega) (hlo.now (fun _ _ hh => hh) zm0 h) (hlo2.now (fun _ _ hh => hh) zm0 h)) (zg (v := .bool _) (fun _ => zT (bV h5) rfl) (mB rfl ?_))))))))))))); refine zp (t := 34) rfl (fun h6 => ?_) (fun h6 => ?_)
        · refine zw rfl rfl (bV h6) (zm rfl (zw rfl rfl (bV h6) (zf fa46_5 rfl (zw rfl rfl (bV h6) (zL 1 z37 rfl rfl rfl (zw rfl rfl (bV h6) (zf fa46_5 rfl (zw rfl rfl (bV h6) (zL 0 z37 rfl rfl rfl (zw rfl rfl (bV h6) (zC (fun w => R_callv rfl Tryz.func89 rfl rfl) rfl rfl (fun w h => sameD1_spec up up2 ua ua2 uc uc2 N w (fun x hx => by have := exsW_mem hx; omega) (by omega) (hup.now (fun _ _ hh => hh) zm0 h) (hup2.now (fun _ _ hh => hh) zm0 h)) (zg (v := .bool _) (fun _ => zT (bV h6) rfl) (mB rfl ?_))))))))))))); refine zp (t := 42) rfl (fun h7 => ?_) (fun h7 => ?_)
          · refine zw rfl rfl (bV h7) (zm rfl (zw rfl rfl (bV h7) (zf fa46_6 rfl (zw rfl rfl (bV h7) (zL 1 z37 rfl rfl rfl (zw rfl rfl (bV h7) (zf fa46_6 rfl (zw rfl rfl (bV h7) (zL 0 z37 rfl rfl rfl (zw rfl rfl (bV h7) (zC (fun w => R_callv rfl Tryz.func89 rfl rfl) rfl rfl (fun w h => sameD1_spec ini ini2 ia ia2 ic ic2 N w (fun x hx => by have := exsW_mem hx; omega) (by omega) (hini.now (fun _ _ hh => hh) zm0 h) (hini2.now (fun _ _ hh => hh) zm0 h)) (zg (v := .bool _) (fun _ => zT (bV h7) rfl) (aB rfl (yB (ze (zo (v := .bool _) rfl rfl rfl ?_))))))))))))))))
            exact fun w' hw => ⟨by (try clear hm hm2 hw hsz hlo hup hini hsz2 hlo2 hup2 hini2 hx hx2 gt2b gt3b ut2b ut3b); simp only [dcSame, exsSame_eq]; simp_all, hw.fr _ zm0⟩
          · refine zs rfl rfl (bV h7) (zs rfl rfl (bV h7) (zs rfl rfl (bV h7) (zs rfl rfl (bV h7) (zs rfl rfl (bV h7) (zs rfl rfl (bV h7) (zg (v := .bool _) (fun _ => zF (bV h7) rfl) (aB rfl (yB (ze (zo (v := .bool _) rfl rfl rfl ?_)))))))))); exact fun w' hw => ⟨by (try clear hm hm2 hw hsz hlo hup hini hsz2 hlo2 hup2 hini2 hx hx2 gt2b gt3b ut2b ut3b); simp only [dcSame, exsSame_eq]; simp_all, hw.fr _ zm0⟩
        · refine zs rfl rfl (bV h6) (zs rfl rfl (bV h6) (zs rfl rfl (bV h6) (zs rfl rfl (bV h6) (zs rfl rfl (bV h6) (zs rfl rfl (bV h6) (zg (v := .bool _) (fun _ => zF (bV h6) rfl) (mB rfl ?_))))))); (iterate 6 refine zs rfl rfl rfl ?_); refine zg (v := .bool _) (fun _ => zF rfl rfl) (aB rfl (yB (ze (zo (v := .bool _) rfl rfl rfl ?_)))); exact fun w' hw => ⟨by (try clear hm hm2 hw hsz hlo hup hini hsz2 hlo2 hup2 hini2 hx hx2 gt2b gt3b ut2b ut3b); simp only [dcSame, exsSame_eq]; simp_all, hw.fr _ zm0⟩
      · refine zs rfl rfl (bV h5) (zs rfl rfl (bV h5) (zs rfl rfl (bV h5) (zs rfl rfl (bV h5) (zs rfl rfl (bV h5) (zs rfl rfl (bV h5) (zg (v := .bool _) (fun _ => zF (bV h5) rfl) (mB rfl ?_))))))); (iterate 6 refine zs rfl rfl rfl ?_); refine zg (v := .bool _) (fun _ => zF rfl rfl) (mB rfl ?_); (iterate 6 refine zs rfl rfl rfl ?_); refine zg (v := .bool _) (fun _ => zF rfl rfl) ?_
        refine aB rfl (yB (ze (zo (v := .bool _) rfl rfl rfl ?_))); exact fun w' hw => ⟨by (try clear hm hm2 hw hsz hlo hup hini hsz2 hlo2 hup2 hini2 hx hx2 gt2b gt3b ut2b ut3b); simp only [dcSame, exsSame_eq]; simp_all, hw.fr _ zm0⟩
    · refine zs rfl rfl (bF h4) (zs rfl rfl (bF h4) (zs rfl rfl (bF h4) (zs rfl rfl (bF h4) (zs rfl rfl (bF h4) (zs rfl rfl (bF h4) (zg (v := .bool _) (fun _ => zF (bF h4) rfl) (mB rfl ?_))))))); (iterate 6 refine zs rfl rfl rfl ?_); refine zg (v := .bool _) (fun _ => zF rfl rfl) (mB rfl ?_); (iterate 4 refine zs rfl rfl rfl ?_); refine zs rfl rfl rfl ?_
      refine zs rfl rfl rfl (zg (v := .bool _) (fun _ => zF rfl rfl) (mB rfl ?_)); (iterate 6 refine zs rfl rfl rfl ?_); refine zg (v := .bool _) (fun _ => zF rfl rfl) (aB rfl (yB (ze (zo (v := .bool _) rfl rfl rfl ?_)))); exact fun w' hw => ⟨by (try clear hm hm2 hw hsz hlo hup hini hsz2 hlo2 hup2 hini2 hx hx2 gt2b gt3b ut2b ut3b); simp only [dcSame, exsSame_eq]; simp_all, hw.fr _ zm0⟩
  · have hop : ¬ ty = ty2 := (by omega)
    refine zs rfl rfl (bF h3) (zs rfl rfl (bF h3) (zs rfl rfl (bF h3) (zs rfl rfl (bF h3) (zs rfl rfl (bF h3) (zg (v := .bool _) (fun _ => zF (bF h3) rfl) (mB rfl ?_)))))); (iterate 6 refine zs rfl rfl rfl ?_); refine zg (v := .bool _) (fun _ => zF rfl rfl) (mB rfl ?_); (iterate 6 refine zs rfl rfl rfl ?_); refine zg (v := .bool _) (fun _ => zF rfl rfl) ?_
    refine mB rfl ?_; (iterate 6 refine zs rfl rfl rfl ?_); refine zg (v := .bool _) (fun _ => zF rfl rfl) (mB rfl ?_); (iterate 6 refine zs rfl rfl rfl ?_); refine zg (v := .bool _) (fun _ => zF rfl rfl) (aB rfl (yB (ze (zo (v := .bool _) rfl rfl rfl ?_)))); exact fun w' hw => ⟨by (try clear hm hm2 hw hsz hlo hup hini hsz2 hlo2 hup2 hini2 hx hx2 gt2b gt3b ut2b ut3b); simp only [dcSame, exsSame_eq]; simp_all, hw.fr _ zm0⟩

theorem eqD_spec  (l r : List Dc) (a b : Option Addr) (c d : Nat) (N : Nat → Prop) (w : World) (hl : ∀ x ∈ l, dcW x < 10000000) (hll : l.length ≤ 10000000) (hm : dcsM w N l a) (hm2 : dcsM w N r b) :
    Ret Tryz.prog 50 #[.slice a l.length c, .slice b r.length d, .func (.func 51) #[] #[]] w (fun v w' => v = .bool (pairOk dcSame l r) ∧ Ext w w') := by
  refine enter (S := No) (l := [_, _, _]) (L := []) 32 Tryz.func50 rfl rfl rfl (St.start w No) (yA (aB rfl (yB (zq (yA (mS rfl (zg (fun _ => R_len sl23 rfl) (mS rfl (zg (fun _ => R_len sl23 rfl) (zg (fun _ => R_ne rfl rfl) (yB ?_))))))))))); refine zD rfl (fun h1 => ?_) (fun h1 => ?_)
  · refine yA (aB rfl (yB (ze (zt ((zo (v := .bool _) rfl rfl rfl ?_)))))); exact fun w' hw => ⟨by rw [pairOk_len (by omega)], hw.fr _ zm0⟩
  · have hlen : l.length = r.length := (by omega)
    refine zi (zk (zq (yA (mS rfl (zg (fun _ => R_len sl23 rfl) (mI rfl (yB (zB (c_loop (fun m e B L => ∃ (k : Nat), e 1 = .slice b r.length d ∧ e 2 = .func (.func 51) #[] #[] ∧ e 15 = .slice a l.length c ∧ e 16 = .int .i64 (l.length : Nat) ∧ e 17 = .int .i64 (k : Nat) ∧ B = [(w, No)] ∧ L = [] ∧ k ≤ l.length ∧ (∀ p ∈ (l.zip r).take k, (!dcSame p.1 p.2) = false) ∧ m = l.length - k) _ ⟨0, rfl, rfl, rfl, rfl, rfl, rfl, rfl, Nat.zero_le _, (by simp), rfl⟩ ?_)))))))))
    rintro m e B L ⟨k, e1_1, e2_1, e15_1, e16_1, e17_1, rfl, rfl, hk, hy, rfl⟩
    refine yA (zg (fun _ => R_lt e17_1 e16_1) (yB (zq ?_))); refine zD rfl (fun h2 => ?_) (fun h2 => ?_)
    · have hlt : k < l.length := (by omega); obtain ⟨x, hxk⟩ : ∃ x, l[k]? = some x := ⟨_, List.getElem?_eq_getElem hlt⟩; obtain ⟨z, hzk⟩ : ∃ z, r[k]? = some z := ⟨_, List.getElem?_eq_getElem (by omega)⟩; obtain ⟨cs, hA, hE⟩ := hm k x hxk; obtain ⟨ds, hA2, hE2⟩ := hm2 k z hzk; have hxn := hl x (List.mem_of_getElem? hxk); obtain ⟨b1, o1, rfl⟩ := hA.ptr; obtain ⟨b2, o2, rfl⟩ := hA2.ptr; have hxe := hxk; have hze := hzk; have hEx := hE; have hEz := hE2; obtain ⟨ty, at_, nm, sz, lo, up, ini⟩ := x; obtain ⟨ty2, at2, nm2, sz2, lo2, up2, ini2⟩ := z; unfold dcM at hEx hEz; obtain ⟨xa, xc, la, lc, ua, uc, ia, ic, hcs, hsz, hlo, hup, hini⟩ := hEx; obtain ⟨xa2, xc2, la2, lc2, ua2, uc2, ia2, ic2, hds, hsz2, hlo2, hup2, hini2⟩ := hEz; simp only [] at hcs hds; subst hcs; subst hds
      refine zi (zk (zq (zB (yA (mI e17_1 (zg (fun _ => R_iaN (i := k) sl23 e15_1 e17_1 (by omega)) (w_loadC (l := [.int .u8 (ty : Nat), .int .i64 at_, str nm, .slice xa sz.length xc, .slice la lo.length lc, .slice ua up.length uc, .slice ia ini.length ic]) z46 rfl rfl (fun w h j v hj => hA.cell (fun _ _ hh => hh) zm0 h j v hj) (zA zr46 (fun t8b gt8b ut8b => aI rfl (zV 0 rfl z46 rfl rfl rfl rfl rfl rfl rfl (yC (mS e1_1 (mI rfl (zg (fun _ => R_iaN (i := k) sl23 rfl rfl (by omega)) (w_loadC (l := [.int .u8 (ty2 : Nat), .int .i64 at2, str nm2, .slice xa2 sz2.length xc2, .slice la2 lo2.length lc2, .slice ua2 up2.length uc2, .slice ia2 ini2.length ic2]) z46 rfl rfl (fun w h j v hj => hA2.cell (fun _ _ hh => hh) zm0 h j v hj) (zA zr46 (fun t9b gt9b ut9b => zV 0 rfl z46 rfl rfl rfl rfl rfl rfl rfl (yC (zm e2_1 (zY z46 rfl (fun _ h => h.at_ 1 rfl) rfl (zY z46 rfl (fun _ h => h.at_ 0 rfl) rfl (zC (fun w => R_callv rfl Tryz.func51 rfl rfl) rfl rfl (fun w h => sameDecl_spec _ _ _ _ N w hxn (hE.now (fun _ _ hh => hh) zm0 h) (hE2.now (fun _ _ hh => hh) zm0 h)) (zg (fun _ => R_not rfl) (yB ?_)))))))))))))))))))))))); refine c_condN rfl (fun h5 => ?_) (fun h5 => ?_)
      · refine yA (aB rfl (yB (ze (zb (zt (zt (zb (zt ((zo (v := .bool _) rfl rfl rfl ?_)))))))))); exact fun w' hw => ⟨by (rw [pairOk_no hxk hzk h5]; done), hw.fr _ zm0⟩
      · refine zi (zO (zk (zr (zg (fun _ => R_addi e17_1 rfl (by omega)) (mI rfl (zn (zK (B' := [(w, No)]) (L' := []) (fun w h => h.drop (List.nil_sublist _)) ?_))))))); exact k_again _ (by omega) ⟨k + 1, e1_1, e2_1, e15_1, e16_1, rfl, rfl, rfl, by omega, pair_next hy hxk hzk h5, rfl⟩
    · refine zX (zx (zx (b_here rfl (zk (yA (aB rfl (yB (ze (zo (v := .bool _) rfl rfl rfl ?_))))))))); exact fun w' hw => ⟨by (rw [pairOk_yes hlen hy (by omega)]; done), hw.fr _ zm0⟩

theorem Same_spec (pg qg : List Bk) (cs ds : List Value) (N : Nat → Prop) (w : World) (hp : ∀ b ∈ pg, bkW b < 10000000) (hm : pgM w N pg cs) (hm2 : pgM w N qg ds) :
    Ret Tryz.prog 21 #[.agg cs.toArray, .agg ds.toArray] w (fun v w' => v = .bool (pgSame pg qg) ∧ Ext w w') := by
  refine enter (S := No) (l := [_, _]) (L := []) 40 Tryz.func21 rfl rfl rfl (St.start w No) (yA (w_boxA rfl (fun t2b gt2b ut2b => w_boxA rfl (fun t3b gt3b ut3b => aB rfl (yB (zq (yA (zf fa29_0 rfl (w_loadW z27 rfl (fun _ h => h.at_ 1 rfl) hm.len (mI rfl (yB (zB (c_loop (fun m e B L => ∃ (i : Nat), e 3 = .pointer (some ⟨t3b, 0, none⟩) ∧ e 9 = .agg cs.toArray ∧ e 10 = .int .i64 (i : Nat) ∧ B = [(w, No)] ∧ L = [(t3b, cel ds 29), (t2b, cel cs 29)] ∧ i ≤ 6 ∧ (∀ p ∈ (pg.zip qg).take i, (!bkSame p.1 p.2) = false) ∧ m = 6 - i) _ ⟨0, rfl, rfl, rfl, rfl, rfl, Nat.zero_le _, (by simp), rfl⟩ ?_)))))))))))))
  rintro m e B L ⟨i, e3_1, e9_1, e10_1, rfl, rfl, hi, hy, rfl⟩
  refine yA (zg (fun _ => R_lt e10_1 rfl) (yB (zq ?_))); refine zD rfl (fun h3 => ?_) (fun h3 => ?_)
  · have hi6 : i < 6 := (by omega); obtain ⟨b, hb⟩ : ∃ b, pg[i]? = some b := ⟨_, List.getElem?_eq_getElem (by rw [hm.six]; exact hi6)⟩; have hbw := hp b (List.mem_of_getElem? hb); unfold bkW at hbw; obtain ⟨da, dc, sa, sc, hcb, hds, hss⟩ := hm.one i b hb; obtain ⟨b2, hb2⟩ : ∃ b, qg[i]? = some b := ⟨_, List.getElem?_eq_getElem (by rw [hm2.six]; exact hi6)⟩; obtain ⟨da2, dc2, sa2, sc2, hcb2, hds2, hss2⟩ := hm2.one i b2 hb2
    refine zi (zk (zq (zB (yA (mI e10_1 (w_r (v := .agg (List.toArray [.bool b.is, .slice da b.decls.length dc, .slice sa b.stmts.length sc])) (fun _ => R_aidxA (i := i) ara27 e9_1 e10_1 (by omega) hcb) rfl rfl (zA zr26 (fun t6b gt6b ut6b => aI rfl (zV 0 rfl z26 rfl rfl rfl rfl rfl rfl rfl (yC (mI rfl (zf fa29_0 e3_1 (zg (fun _ => R_iaA (i := i) ara27 (by decide) rfl rfl (by omega)) (w_loadC (l := [.bool b2.is, .slice da2 b2.decls.length dc2, .slice sa2 b2.stmts.length sc2]) z26 rfl rfl (fun w h j v hj => zc 1 rfl (sub_get hcb2 hj) h) (zA zr26 (fun t7b gt7b ut7b => zV 0 rfl z26 rfl rfl rfl rfl rfl rfl rfl (yC (zf fa26_0 rfl (zL 1 z4 rfl rfl rfl (zf fa26_0 rfl (zL 0 z4 rfl rfl rfl (zg (fun _ => R_bne unb4 rfl rfl) (mB rfl ?_))))))))))))))))))))))); refine zp (t := 23) rfl (fun h6 => ?_) (fun h6 => ?_)
    · refine zs rfl rfl (bV h6) (zs rfl rfl (bV h6) (zs rfl rfl (bV h6) (zs rfl rfl (bV h6) (zs rfl rfl (bV h6) (zs rfl rfl (bV h6) (zg (v := .bool _) (fun _ => zT (bV h6) rfl) (mB rfl ?_))))))); (iterate 6 refine zs rfl rfl rfl ?_); refine zg (v := .bool _) (fun _ => zT rfl rfl) (yB (zE rfl (yA (aB rfl (yB (ze (zb (zt (zt (zb (zt (?_))))))))))))
      refine zo (v := .bool _) rfl rfl rfl ?_; exact fun w' hw => ⟨by unfold pgSame; (rw [pairOk_no hb hb2 (by (try clear hm hm2 hw hp hcb hds hss hcb2 hds2 hss2 hbw hy e10_1 e3_1 e9_1 gt2b gt3b gt6b gt7b ut2b ut3b ut6b ut7b); simp only [bkSame, smsSame_eq]; simp_all)]; done), hw.fr _ zm0⟩
    · refine zw rfl rfl (bV h6) (zf fa26_1 rfl (zw rfl rfl (bV h6) (zL 1 z23 rfl rfl rfl (zw rfl rfl (bV h6) (zf fa26_1 rfl (zw rfl rfl (bV h6) (zL 0 z23 rfl rfl rfl (zw rfl rfl (bV h6) (zC (fun w => zR Tryz.func50 rfl rfl rfl) rfl rfl (fun w h => eqD_spec b.decls b2.decls da da2 dc dc2 N w (fun x hx => by have := dcsW_mem hx; omega) (by omega) (hds.now (fun _ _ hh => hh) zm0 h) (hds2.now (fun _ _ hh => hh) zm0 h)) (zw rfl rfl (bV h6) (zg (fun _ => R_not rfl) (zg (v := .bool _) (fun _ => zF (bV h6) rfl) (mB rfl ?_))))))))))))); refine zp (t := 31) rfl (fun h7 => ?_) (fun h7 => ?_)
      · refine zs rfl rfl (bV h7) (zs rfl rfl (bV h7) (zs rfl rfl (bV h7) (zs rfl rfl (bV h7) (zs rfl rfl (bV h7) (zs rfl rfl (bV h7) (zg (v := .bool _) (fun _ => zT (bV h7) rfl) (yB (zE rfl (yA (aB rfl (yB (ze (zb (zt (zt (zb (zt ((zo (v := .bool _) rfl rfl rfl ?_))))))))))))))))))); exact fun w' hw => ⟨by unfold pgSame; (rw [pairOk_no hb hb2 (by (try clear hm hm2 hw hp hcb hds hss hcb2 hds2 hss2 hbw hy e10_1 e3_1 e9_1 gt2b gt3b gt6b gt7b ut2b ut3b ut6b ut7b); simp only [bkSame, smsSame_eq]; simp_all)]; done), hw.fr _ zm0⟩
      · refine zw rfl rfl (bV h7) (zf fa26_2 rfl (zw rfl rfl (bV h7) (zL 1 z24 rfl rfl rfl (zw rfl rfl (bV h7) (zf fa26_2 rfl (zw rfl rfl (bV h7) (zL 0 z24 rfl rfl rfl (zw rfl rfl (bV h7) (zC (fun w => zR Tryz.func52 rfl rfl rfl) rfl rfl (fun w h => eqS_spec _ sameS_ok b.stmts b2.stmts sa sa2 sc sc2 N w (fun x hx => by have := smsW_mem hx; omega) (by omega) (hss.now (fun _ _ hh => hh) zm0 h) (hss2.now (fun _ _ hh => hh) zm0 h)) (zw rfl rfl (bV h7) (zg (fun _ => R_not rfl) (zg (v := .bool _) (fun _ => zF (bV h7) rfl) (yB ?_))))))))))))); refine c_condN rfl (fun h8 => ?_) (fun h8 => ?_)
        · refine yA (aB rfl (yB (ze (zb (zt (zt (zb (zt ((zo (v := .bool _) rfl rfl rfl ?_)))))))))); exact fun w' hw => ⟨by unfold pgSame; (rw [pairOk_no hb hb2 (by (try clear hm hm2 hw hp hcb hds hss hcb2 hds2 hss2 hbw hy e10_1 e3_1 e9_1 gt2b gt3b gt6b gt7b ut2b ut3b ut6b ut7b); simp only [bkSame, smsSame_eq]; simp_all)]; done), hw.fr _ zm0⟩
        · refine zi (zO (zk (zr (zg (fun _ => R_addi e10_1 rfl (by omega)) (mI rfl (zn (zK (B' := [(w, No)]) (L' := _) (fun w h => h.drop (List.sublist_append_right [_, _] _)) ?_))))))); exact k_again _ (by omega) ⟨i + 1, e3_1, e9_1, rfl, rfl, rfl, by omega, pair_next hy hb hb2 (by (try clear hm hm2 hp hcb hds hss hcb2 hds2 hss2 hbw hy e10_1 e3_1 e9_1 gt2b gt3b gt6b gt7b ut2b ut3b ut6b ut7b); simp only [bkSame, smsSame_eq]; simp_all), rfl⟩
  · refine zX (zx (zx (b_here rfl (zk (yA (aB rfl (yB (ze (zo (v := .bool _) rfl rfl rfl ?_))))))))); exact fun w' hw => ⟨by unfold pgSame; (rw [pairOk_yes (hm.six.trans hm2.six.symm) hy (by have := hm.six; omega)]; done), hw.fr _ zm0⟩
end Go.Proofs.YtaniogadknakoaaGreatDoor
end

section
namespace Go.Proofs.YtaniogadknakoaaGreatDoor
open Go.RowKit Go.Sx
open Go.Tok Go.Tree Go.Prs

theorem Parse_at (s : Str) (hs : s.length ≤ 10000000) {p : List Bk} {fl : Fl} (h : resOf (List.replicate 6 noBk) (parseP s) = (p, fl)) (w : World) (hW : Wd w) (hng : 4 ≤ w.heap.size) :
  Ret Tryz.prog 10 #[str s] w fun v w' => ∃ cs, v = .tuple #[.agg cs.toArray, .agg #[.int .i64 (fl.1 : Nat), .int .i64 (fl.2 : Nat)]] ∧ pgM w' (Nn w w') p cs ∧ Ext w w' :=
 (Parse_ok s hs w hW hng).mono fun v w' ⟨cs, h1, h2, _, h4⟩ => ⟨cs, by rw [h1, h], by rw [h] at h2; exact h2, h4⟩
theorem Expr_at (s : Str) (hs : s.length ≤ 10000000) {p : Ex} {fl : Fl} (h : resOf noEx (exprP s) = (p, fl)) (w : World) (hW : Wd w) (hng : 4 ≤ w.heap.size) :
  Ret Tryz.prog 13 #[str s] w fun v w' => ∃ b, v = .tuple #[.agg (exE p b).toArray, .agg #[.int .i64 (fl.1 : Nat), .int .i64 (fl.2 : Nat)]] ∧ exT w' (Nn w w') p b ∧ Ext w w' :=
 (Expr_ok s hs w hW hng).mono fun v w' ⟨b, h1, h2, _, h4⟩ => ⟨b, by rw [h1, h], by rw [h] at h2; exact h2, h4⟩


def hP1 : List Bk := (resOf (List.replicate 6 noBk) (parseP [109, 111, 100, 101, 108, 32, 123, 32, 116, 97, 114, 103, 101, 116, 32, 43, 61, 32, 45, 40, 97, 32, 45, 32, 49, 41, 32, 42, 32, 50, 32, 59, 32, 125])).1
theorem parse1 (w : World) (hW : Wd w) (hng : 4 ≤ w.heap.size) : Ret Tryz.prog 10 #[str [109, 111, 100, 101, 108, 32, 123, 32, 116, 97, 114, 103, 101, 116, 32, 43, 61, 32, 45, 40, 97, 32, 45, 32, 49, 41, 32, 42, 32, 50, 32, 59, 32, 125]] w fun v w' => ∃ cs, v = .tuple #[.agg cs.toArray, .agg #[.int .i64 0, .int .i64 0]] ∧ pgM w' (Nn w w') hP1 cs ∧ Ext w w' :=
 Parse_at _ (by decide) (fl := (0, 0)) (Prod.ext rfl (by kernel_rfl)) w hW hng

def hP3 : List Bk := (resOf (List.replicate 6 noBk) (parseP [109, 111, 100, 101, 108, 32, 123, 32, 125, 32, 100, 97, 116, 97, 32, 123, 32, 125])).1
theorem parse3 (w : World) (hW : Wd w) (hng : 4 ≤ w.heap.size) : Ret Tryz.prog 10 #[str [109, 111, 100, 101, 108, 32, 123, 32, 125, 32, 100, 97, 116, 97, 32, 123, 32, 125]] w fun v w' => ∃ cs, v = .tuple #[.agg cs.toArray, .agg #[.int .i64 130, .int .i64 10]] ∧ pgM w' (Nn w w') hP3 cs ∧ Ext w w' :=
 Parse_at _ (by decide) (fl := (130, 10)) (Prod.ext rfl (by kernel_rfl)) w hW hng

def hP4 : List Bk := (resOf (List.replicate 6 noBk) (parseP [109, 111, 100, 101, 108, 32, 123, 32, 40, 97, 41, 32, 61, 32, 49, 59, 32, 125])).1
theorem parse4 (w : World) (hW : Wd w) (hng : 4 ≤ w.heap.size) : Ret Tryz.prog 10 #[str [109, 111, 100, 101, 108, 32, 123, 32, 40, 97, 41, 32, 61, 32, 49, 59, 32, 125]] w fun v w' => ∃ cs, v = .tuple #[.agg cs.toArray, .agg #[.int .i64 130, .int .i64 12]] ∧ pgM w' (Nn w w') hP4 cs ∧ Ext w w' :=
 Parse_at _ (by decide) (fl := (130, 12)) (Prod.ext rfl (by kernel_rfl)) w hW hng

def hP5 : List Bk := (resOf (List.replicate 6 noBk) (parseP [])).1
theorem parse5 (w : World) (hW : Wd w) (hng : 4 ≤ w.heap.size) : Ret Tryz.prog 10 #[str []] w fun v w' => ∃ cs, v = .tuple #[.agg cs.toArray, .agg #[.int .i64 0, .int .i64 0]] ∧ pgM w' (Nn w w') hP5 cs ∧ Ext w w' :=
 Parse_at _ (by decide) (fl := (0, 0)) (Prod.ext rfl (by kernel_rfl)) w hW hng

def hX6 : Ex := (resOf noEx (exprP [97, 43, 98, 42, 45, 99])).1
theorem expr6 (w : World) (hW : Wd w) (hng : 4 ≤ w.heap.size) : Ret Tryz.prog 13 #[str [97, 43, 98, 42, 45, 99]] w fun v w' => ∃ b, v = .tuple #[.agg (exE hX6 b).toArray, .agg #[.int .i64 0, .int .i64 0]] ∧ exT w' (Nn w w') hX6 b ∧ Ext w w' :=
 Expr_at _ (by decide) (fl := (0, 0)) (Prod.ext rfl (by kernel_rfl)) w hW hng
theorem write1 {cs : List Value} {N : Nat → Prop} {w : World} (hm : pgM w N hP1 cs) (hW : Wd w) : Ret Tryz.prog 19 #[.agg cs.toArray] w fun v w' => v = .tuple #[str [109, 111, 100, 101, 108, 32, 123, 10, 116, 97, 114, 103, 101, 116, 32, 43, 61, 32, 45, 32, 40, 32, 97, 32, 45, 32, 49, 32, 41, 32, 42, 32, 50, 32, 59, 10, 125, 10], .int .i64 0] ∧ Ext w w' := by
 have h1 : pgOk hP1 = true := by decide +kernel
 have h2 : textT (pgT hP1) = [109, 111, 100, 101, 108, 32, 123, 10, 116, 97, 114, 103, 101, 116, 32, 43, 61, 32, 45, 32, 40, 32, 97, 32, 45, 32, 49, 32, 41, 32, 42, 32, 50, 32, 59, 10, 125, 10] := by kernel_rfl
 have h3 : (pgT hP1).length ≤ 1000000000 := by decide +kernel
 have h := Write_spec hP1 cs N w (by decide +kernel) hm hW h3 (by rw [h2]; decide)
 rw [h1, h2] at h
 exact h
theorem writeX {b : Option Addr × Nat} {N : Nat → Prop} {w : World} (hm : exT w N hX6 b) (hW : Wd w) : Ret Tryz.prog 22 #[.agg (exE hX6 b).toArray] w fun v w' => v = .tuple #[str [97, 32, 43, 32, 98, 32, 42, 32, 45, 32, 99], .int .i64 0] ∧ Ext w w' := by
 have h1 : exOk hX6 = true := by decide +kernel
 have h2 : textT (exT hX6) = [97, 32, 43, 32, 98, 32, 42, 32, 45, 32, 99] := by kernel_rfl
 have h3 : (_root_.Go.Tree.exT hX6).length ≤ 1000000000 := by decide +kernel
 have h := WriteExpr_spec hX6 _ N w (by decide +kernel) hm.M hW h3 (by rw [h2]; decide)
 rw [h1, h2] at h
 exact h
theorem same0 {cs : List Value} {N : Nat → Prop} {w : World} (hm : pgM w N hP5 cs) : Ret Tryz.prog 21 #[.agg cs.toArray, .agg [.bool false, .slice none 0 0, .slice none 0 0, .bool false, .slice none 0 0, .slice none 0 0, .bool false, .slice none 0 0, .slice none 0 0, .bool false, .slice none 0 0, .slice none 0 0, .bool false, .slice none 0 0, .slice none 0 0, .bool false, .slice none 0 0, .slice none 0 0].toArray] w fun v w' => v = .bool true ∧ Ext w w' := by
 have h1 : pgSame hP5 (List.replicate 6 noBk) = true := by decide +kernel
 have h := Same_spec hP5 (List.replicate 6 noBk) cs _ N w (by decide +kernel) hm pgM.zero
 rw [h1] at h
 exact h


theorem head13_ok (w : World) (hW : Wd w) (hng : 4 ≤ w.heap.size) :
  Ret Tryz.prog 9 #[] w (fun v w' => v = .bool true ∧ Ext w w') := by
 refine enter (S := No) (l := []) (L := []) 89 Tryz.func9 rfl rfl rfl (St.start w No) (yA (aB rfl (yC (zP (fun w => zR Tryz.func10 rfl rfl rfl) rfl rfl (fun w h => parse1 w (hW.now zm0 h) (Nat.le_trans hng (h.fr _ zm0).size)) ?_))))
 rintro wa hwa v x1 ⟨cs1, rfl, hM, hx⟩
 refine ⟨_, _, (hwa.ext hx).base1, ?_⟩
 have hK1 : Kt (x1, inL _) w.heap.size pgM _ cs1 := Kt.new hM TL.pg hwa (hwa.fr _ zm0).size; clear hM hx hwa
 have hcl1 : cs1.length = 18 := hK1.len
 refine zm rfl (zg (fun _ => R_extract rfl rfl) (zg (fun _ => R_extract rfl rfl) (zA zr29 (fun p1b gp1b up1b => zA zr32 (fun f1b gf1b uf1b => w_storeW cs1 1 rfl z29 rfl rfl rfl hcl1 (pg_one hK1) rfl (zV 0 rfl z32 rfl rfl rfl rfl rfl rfl rfl (yC (w_loadW z29 rfl (fun w h => h.at_ 1 rfl) hcl1 (zC (fun w => zR Tryz.func19 rfl rfl rfl) rfl rfl (fun w h => write1 (hK1.now TL.pg zm0 h) (hW.now zm1 h)) (zm rfl (zg (fun _ => R_extract rfl rfl) (zg (fun _ => R_extract rfl rfl) (za (v := str _) rfl (aI rfl (yC (zP (fun w => zR Tryz.func10 rfl rfl rfl) rfl rfl (fun w h => parse3 w (hW.now zm1 h) (Nat.le_trans hng (h.fr _ zm1).size)) ?_))))))))))))))))
 rintro wa hwa v x3 ⟨cs3, rfl, hM, hx⟩
 refine ⟨_, _, (hwa.ext hx).base1, ?_⟩
 have hK3 : Kt (x3, inL _) w.heap.size pgM _ cs3 := Kt.new hM TL.pg hwa (hwa.fr _ zm1).size; clear hM hx hwa
 have hcl3 : cs3.length = 18 := hK3.len
 refine zm rfl (zg (fun _ => R_extract rfl rfl) (zg (fun _ => R_extract rfl rfl) (zA zr29 (fun p3b gp3b up3b => zA zr32 (fun f3b gf3b uf3b => w_storeW cs3 1 rfl z29 rfl rfl rfl hcl3 (pg_one hK3) rfl (zV 0 rfl z32 rfl rfl rfl rfl rfl rfl rfl (yC (zP (fun w => zR Tryz.func10 rfl rfl rfl) rfl rfl (fun w h => parse4 w (hW.now zm2 h) (Nat.le_trans hng (h.fr _ zm2).size)) ?_))))))))
 rintro wa hwa v x4 ⟨cs4, rfl, hM, hx⟩
 refine ⟨_, _, (hwa.ext hx).base1, ?_⟩
 have hK4 : Kt (x4, inL _) w.heap.size pgM _ cs4 := Kt.new hM TL.pg hwa (hwa.fr _ zm2).size; clear hM hx hwa
 have hcl4 : cs4.length = 18 := hK4.len
 refine zm rfl (zg (fun _ => R_extract rfl rfl) (zg (fun _ => R_extract rfl rfl) (zA zr29 (fun p4b gp4b up4b => zA zr32 (fun f4b gf4b uf4b => w_storeW cs4 1 rfl z29 rfl rfl rfl hcl4 (pg_one hK4) rfl (zV 0 rfl z32 rfl rfl rfl rfl rfl rfl rfl (yC (zP (fun w => zR Tryz.func10 rfl rfl rfl) rfl rfl (fun w h => parse5 w (hW.now zm3 h) (Nat.le_trans hng (h.fr _ zm3).size)) ?_))))))))
 rintro wa hwa v x5 ⟨cs5, rfl, hM, hx⟩
 refine ⟨_, _, (hwa.ext hx).base1, ?_⟩
 have hK5 : Kt (x5, inL _) w.heap.size pgM _ cs5 := Kt.new hM TL.pg hwa (hwa.fr _ zm3).size; clear hM hx hwa
 have hcl5 : cs5.length = 18 := hK5.len
 refine zm rfl (zg (fun _ => R_extract rfl rfl) (zg (fun _ => R_extract rfl rfl) (zA zr29 (fun p5b gp5b up5b => zA zr32 (fun f5b gf5b uf5b => w_storeW cs5 1 rfl z29 rfl rfl rfl hcl5 (pg_one hK5) rfl (zV 0 rfl z32 rfl rfl rfl rfl rfl rfl rfl (yC (zP (fun w => zR Tryz.func13 rfl rfl rfl) rfl rfl (fun w h => expr6 w (hW.now zm4 h) (Nat.le_trans hng (h.fr _ zm4).size)) ?_))))))))
 rintro wa hwa v x6 ⟨cs6, rfl, hM, hx⟩
 refine ⟨_, _, (hwa.ext hx).base1, ?_⟩
 have hK6 : Kt (x6, inL _) w.heap.size exT _ cs6 := Kt.new hM TL.ext hwa (hwa.fr _ zm4).size; clear hM hx hwa
 refine zm rfl (zg (fun _ => R_extract rfl rfl) (zg (fun _ => R_extract rfl rfl) (zA zr39 (fun e6b ge6b ue6b => zA zr32 (fun f6b gf6b uf6b => zV 1 rfl z39 rfl rfl rfl rfl rfl rfl rfl (zV 0 rfl z32 rfl rfl rfl rfl rfl rfl rfl (yC (zY z39 rfl (fun _ h => h.at_ 1 rfl) rfl (zC (fun w => zR Tryz.func22 rfl rfl rfl) rfl rfl (fun w h => writeX (hK6.now TL.ext zm0 h) (hW.now (.tail _ zm4) h)) (zm rfl (zg (fun _ => R_extract rfl rfl) (zg (fun _ => R_extract rfl rfl) (za (v := str _) rfl (aI rfl (yC (zf fa32_0 rfl (zL 8 z30 rfl rfl rfl (zg (fun _ => R_eq rfl rfl) (mB rfl ?_)))))))))))))))))))
 refine zd (t := 48) rfl (fun h11 => ?_) (fun h11 => ?_)
 ·refine zw rfl rfl (bT h11) (mI rfl (zw rfl rfl (bT h11) (zg (fun _ => R_eq rfl rfl) (zg (v := .bool _) (fun _ => zT (bT h11) rfl) (mB rfl ?_))))); refine zd (t := 52) rfl (fun h12 => ?_) (fun h12 => ?_)
  ·refine zw rfl rfl (bT h12) (zm (v := str _) rfl (zw rfl rfl (bT h12) (zg (fun _ => R_seq rfl rfl) (zg (v := .bool _) (fun _ => zT (bT h12) rfl) (mB rfl ?_))))); refine zd (t := 56) rfl (fun h13 => ?_) (fun h13 => ?_)
   ·refine zw rfl rfl (bT h13) (zY z32 rfl (fun _ h => h.at_ 6 rfl) rfl (zw rfl rfl (bT h13) (zg (fun _ => R_build bt32 rfl) (zw rfl rfl (bT h13) (zg (fun _ => R_eqS fl32 rfl rfl (eq2_run (n := 9998) fl32 z30 z3 un30 un3)) (zg (v := .bool _) (fun _ => zT (bT h13) rfl) (mB rfl ?_))))))); refine zp (t := 61) rfl (fun h14 => ?_) (fun h14 => ?_)
    ·refine zw rfl rfl (bV h14) (zY z32 rfl (fun _ h => h.at_ 4 rfl) rfl (zw rfl rfl (bV h14) (zg (fun _ => R_build bt32 rfl) (zw rfl rfl (bV h14) (zg (fun _ => R_eqS fl32 rfl rfl (eq2_run (n := 9998) fl32 z30 z3 un30 un3)) (zg (v := .bool _) (fun _ => zT (bV h14) rfl) (mB rfl ?_))))))); refine zp (t := 66) rfl (fun h15 => ?_) (fun h15 => ?_)
     ·refine zw rfl rfl (bV h15) (zf fa32_0 rfl (zw rfl rfl (bV h15) (zL 2 z30 rfl rfl rfl (zw rfl rfl (bV h15) (zg (fun _ => R_eq rfl rfl) (zg (v := .bool _) (fun _ => zT (bV h15) rfl) (mB rfl ?_))))))); refine zd (t := 71) rfl (fun h16 => ?_) (fun h16 => ?_)
      ·refine zw rfl rfl (bT h16) (w_loadW z29 rfl (fun w h => h.at_ 3 rfl) hcl5 (zw rfl rfl (bT h16) (zg (fun _ => R_build bt29 rfl) (zw rfl rfl (bT h16) (zC (fun w => zR Tryz.func21 rfl rfl rfl) rfl rfl (fun w h => same0 (hK5.now TL.pg zm1 h)) (zg (v := .bool _) (fun _ => zT (bT h16) rfl) (mB rfl (zw rfl rfl rfl (zf fa32_0 rfl (zw rfl rfl rfl (zL 0 z30 rfl rfl rfl (zw rfl rfl rfl (zg (fun _ => R_eq rfl rfl) (zg (v := .bool _) (fun _ => zT rfl rfl) (mB rfl ?_))))))))))))))); refine zd (t := 81) rfl (fun h17 => ?_) (fun h17 => ?_)
       ·refine zw rfl rfl (bT h17) (mI rfl (zw rfl rfl (bT h17) (zg (fun _ => R_eq rfl rfl) (zg (v := .bool _) (fun _ => zT (bT h17) rfl) (mB rfl ?_))))); refine zd (t := 85) rfl (fun h18 => ?_) (fun h18 => ?_)
        ·refine zw rfl rfl (bT h18) (zm (v := str _) rfl (zw rfl rfl (bT h18) (zg (fun _ => R_seq rfl rfl) (zg (v := .bool _) (fun _ => zT (bT h18) rfl) (aB rfl (yB (ze (zo (v := .bool _) rfl rfl rfl ?_)))))))); exact fun w' hw => ⟨rfl, hw.fr _ (.tail _ zm4)⟩
        ·exact absurd (by rfl) h18
       ·exact absurd (by rfl) h17
      ·exact absurd (by rfl) h16
     ·exact absurd h15 (by decide)
    ·exact absurd h14 (by decide)
   ·exact absurd (by rfl) h13
  ·exact absurd (by rfl) h12
 ·exact absurd (by rfl) h11
end Go.Proofs.YtaniogadknakoaaGreatDoor
end

section
namespace Go.Tree
def tb (ts : List Str) : Nat := (ts.map fun s => s.length + 1).sum
def pgW (p : List Bk) : Nat := (p.map bkW).sum
def sp (s : Str) : Str := s ++ (if brk s then [10] else [32])
def setIs (p : List Bk) (i : Nat) (b : Bk) : List Bk := p.set i { b with is := true }
end Go.Tree
end

section
namespace Go.Tree
open Go.Tok
mutual
def exZ : Ex → Ex
  | .mk o _ n k => .mk o 0 n (exsZ k)
def exsZ : List Ex → List Ex
  | [] => []
  | e :: l => exZ e :: exsZ l
end
abbrev PR := Option (Ex × List Str)
mutual
def pSum : Nat → List Str → PR
  | 0, _ => none
  | f + 1, ts => match pProd f ts with | some (e, r) => sumL f e r | none => none
def sumL : Nat → Ex → List Str → PR
  | 0, _, _ => none
  | f + 1, e, ts =>
    if ts.head? = some [43] then (match pProd f ts.tail with | some (k, r) => sumL f (.mk 6 0 [] [e, k]) r | none => none)
    else if ts.head? = some [45] then (match pProd f ts.tail with | some (k, r) => sumL f (.mk 7 0 [] [e, k]) r | none => none)
    else some (e, ts)
def pProd : Nat → List Str → PR
  | 0, _ => none
  | f + 1, ts => match pSign f ts with | some (e, r) => prodL f e r | none => none
def prodL : Nat → Ex → List Str → PR
  | 0, _, _ => none
  | f + 1, e, ts =>
    if ts.head? = some [42] then (match pSign f ts.tail with | some (k, r) => prodL f (.mk 8 0 [] [e, k]) r | none => none)
    else if ts.head? = some [47] then (match pSign f ts.tail with | some (k, r) => prodL f (.mk 9 0 [] [e, k]) r | none => none)
    else some (e, ts)
def pSign : Nat → List Str → PR
  | 0, _ => none
  | f + 1, ts => match ts with
    | [] => none
    | t :: r =>
      if t = [45] then (match pSign f r with | some (k, r) => some (.mk 5 0 [] [k], r) | none => none)
      else if t = [40] then (match pSum f r with | some (e, r) => if r.head? = some [41] then some (e, r.tail) else none | none => none)
      else if oneB 2 t then some (.mk 1 0 t [], r)
      else if r.head? = some [91] then (match pSum f r.tail with | some (e, r) => if r.head? = some [93] then some (.mk 3 0 t [e], r.tail) else none | none => none)
      else if r.head? = some [40] then (if r.tail.head? = some [41] then some (.mk 4 0 t [], r.tail.tail) else match pSum f r.tail with | some (e, r) => argL f t [e] r | none => none)
      else some (.mk 2 0 t [], r)
def argL : Nat → Str → List Ex → List Str → PR
  | 0, _, _, _ => none
  | f + 1, t, l, ts =>
    if ts.head? = some [44] then (match pSum f ts.tail with | some (e, r) => argL f t (l ++ [e]) r | none => none)
    else if ts.head? = some [41] then some (.mk 4 0 t l, ts.tail)
    else none
end
def nb (r : List Str) : Prop := r.head? ≠ some [91] ∧ r.head? ≠ some [40]
def nm8 (r : List Str) : Prop := nb r ∧ r.head? ≠ some [42] ∧ r.head? ≠ some [47]
def nm6 (r : List Str) : Prop := nm8 r ∧ r.head? ≠ some [43] ∧ r.head? ≠ some [45]
def K (e : Ex) : Nat := 8 * exW e
def SgP (e : Ex) : Prop := ∀ f r, K e ≤ f + 4 → nb r → pSign f (exT e ++ r) = some (exZ e, r)
def PdP (e : Ex) : Prop := ∀ f r, K e ≤ f + 2 → nb r → ∃ g, f + 4 ≤ g + K e ∧ pProd f (exT e ++ r) = prodL g (exZ e) r
def SuP (e : Ex) : Prop := ∀ f r, K e ≤ f → nm8 r → ∃ g, f + 2 ≤ g + K e ∧ pSum f (exT e ++ r) = sumL g (exZ e) r
end Go.Tree
namespace Go.Tree
open Go.Tok
end Go.Tree
end

section
namespace Go.Prs
open Go.Tok Go.Tree
mutual
def smZ : Sm → Sm
  | .mk o _ n k b e => .mk o 0 n (exsZ k) (smsZ b) (smsZ e)
def smsZ : List Sm → List Sm
  | [] => []
  | s :: l => smZ s :: smsZ l
end
def dcZ (d : Dc) : Dc := ⟨d.ty, 0, d.nm, exsZ d.size, exsZ d.lower, exsZ d.upper, exsZ d.init⟩
def bkZ (b : Bk) : Bk := ⟨b.is, b.decls.map dcZ, smsZ b.stmts⟩
def tsZ (l : List Tk) : List Tk := l.map fun t => (t.1, t.2.1, 0)
def mapZ {β : Type} (h : β → β) : Except Fl β → Except Fl β
  | .ok b => .ok (h b)
  | .error e => .error (e.1, 0)
def rZ {α : Type} (g : α → α) : α × List Tk → α × List Tk := fun x => (g x.1, tsZ x.2)
section
variable {α β : Type} {h : β → β} {z o : Nat} {x : Str} {ts : List Tk}
end
section
variable {z n o : Nat}
variable {body body' : List Tk → Rs (List Sm)}
end
section
variable {z n o ty a : Nat} {first : Bool}
def twZ (p : List Ex × List Ex) : List Ex × List Ex := (exsZ p.1, exsZ p.2)
def bdZ (p : Bool × Dc) : Bool × Dc := (p.1, dcZ p.2)
variable {nm : Str} {size lo up init : List Ex}
end
end Go.Prs
end

section
namespace Go.Prs
open Go.Tok Go.Tree
def tw : List Tk → Nat
  | [] => 0
  | t :: r => 2 + t.2.1.length + tw r
theorem tw_snoc (t : Tk) : ∀ l : List Tk, tw (l ++ [t]) = tw l + 2 + t.2.1.length
  | [] => by simp [tw]
  | u :: l => by rw [List.cons_append, tw, tw, tw_snoc t l]; omega
theorem tw_tail (ts : List Tk) : tw ts.tail ≤ tw ts := by cases ts <;> simp [tw]
theorem tw_pos {ts : List Tk} (h : ts ≠ []) : tw ts.tail + 2 + (txt ts).length ≤ tw ts := by
  cases ts with
  | nil => exact absurd rfl h
  | cons t l => simp [tw, txt]; omega
theorem isW_tw {x : Str} {ts : List Tk} (h : isW x ts = true) : tw ts.tail + 2 ≤ tw ts := by
  have := tw_pos (ts := ts) (by rintro rfl; cases h); omega
theorem named_tw {ts : List Tk} (h : named ts = true) : tw ts.tail + 2 + (txt ts).length ≤ tw ts := tw_pos (by rintro rfl; cases h)
theorem cmpU_tw {ts : List Tk} : ∀ {i : Nat}, cmpU i ts ≠ 0 → tw ts.tail + 2 ≤ tw ts
  | 0, h => absurd rfl h
  | i + 1, h => by
    rw [cmpU] at h
    split at h
    · split at h
      · rename_i hw; exact isW_tw hw
      · exact absurd rfl h
    · exact cmpU_tw h
def Al {β : Type} (P : β → Prop) (X : Except Fl β) : Prop := ∀ b, X = .ok b → P b
section
variable {α β : Type} {P Q : β → Prop} {z o : Nat} {x : Str} {ts : List Tk}
theorem Al.ok {b : β} (h : P b) : Al P (.ok b) := fun c hc => by cases hc; exact h
theorem Al.er {e : Fl} : Al P (.error e) := fun c hc => by cases hc
theorem Al.mono {X : Except Fl β} (h : Al P X) (hq : ∀ b, P b → Q b) : Al Q X := fun b hb => hq b (h b hb)
theorem Al.andR {X : Rs α} {F : α → List Tk → Except Fl β} {A : α × List Tk → Prop} (hX : Al A X) (hF : ∀ a r, A (a, r) → Al P (F a r)) : Al P (andR X F) := by
  intro b hb
  cases X with
  | ok p => obtain ⟨a, r⟩ := p; exact hF a r (hX _ rfl) b hb
  | error e => cases hb
theorem Al.want {f : List Tk → Except Fl β} (h : tw ts.tail + 2 ≤ tw ts → Al P (f ts.tail)) : Al P (want z x ts f) := by
  unfold Prs.want
  split
  · rename_i hw; exact h (isW_tw hw)
  · exact .er
theorem Al.opn {f : List Tk → Except Fl β} (h : tw ts.tail + 2 ≤ tw ts → Al P (f ts.tail)) : Al P (opn z o x ts f) := by
  unfold Prs.opn
  split
  · rename_i hw
    split
    · exact h (isW_tw hw)
    · exact .er
  · exact .er
theorem Al.ifW {a b : Except Fl β} (ha : tw ts.tail + 2 ≤ tw ts → Al P a) (hb : Al P b) : Al P (if isW x ts = true then a else b) := by
  split
  · rename_i hw; exact ha (isW_tw hw)
  · exact hb
theorem Al.nameX : Al (fun p : Str × List Tk => tw p.2 + 2 + p.1.length ≤ tw ts) (nameX z ts) := by
  unfold Prs.nameX
  split
  · rename_i h; exact .ok (named_tw h)
  · exact .er
end
theorem exW_pair (op : Nat) (a b : Ex) : exW (pair op a b) = exW a + exW b + 3 := by simp [pair, exW, exsW]; omega
theorem exW_setAt (e : Ex) (a : Int) : exW (setAt e a) = exW e := by cases e; simp [setAt, exW, Ex.op, Ex.nm, Ex.kids]
theorem exW_op (e : Ex) : exW e = 1 + e.nm.length + e.kids.length + exsW e.kids := by cases e; rw [exW]; rfl
theorem exsW_snoc (e : Ex) : ∀ l : List Ex, exsW (l ++ [e]) = exsW l + exW e
  | [] => by simp [exsW]
  | u :: l => by rw [List.cons_append, exsW, exsW, exsW_snoc e l]; omega
theorem smsW_snoc (e : Sm) : ∀ l : List Sm, smsW (l ++ [e]) = smsW l + smW e
  | [] => by simp [smsW]
  | u :: l => by rw [List.cons_append, smsW, smsW, smsW_snoc e l]; omega
theorem smW_setS (s : Sm) (a : Int) : smW (setS s a) = smW s := by cases s; simp [setS, smW]
theorem exW_mk (op : Nat) (a : Int) (nm : Str) (l : List Ex) : exW (.mk op a nm l) = 1 + nm.length + l.length + exsW l := by rw [exW]
theorem smW_mk (op : Nat) (a : Int) (nm : Str) (l : List Ex) (b e : List Sm) : smW (.mk op a nm l b e) = 1 + nm.length + l.length + b.length + e.length + exsW l + smsW b + smsW e := by rw [smW]
theorem exsW_nil : exsW [] = 0 := by rw [exsW]
theorem exsW_one1 (e : Ex) : exsW [e] = exW e := by rw [exsW, exsW]; omega
theorem exsW_cons (e : Ex) (l : List Ex) : exsW (e :: l) = exW e + exsW l := by rw [exsW]
theorem smsW_nil : smsW [] = 0 := by rw [smsW]
abbrev lw (l : List Ex) : Nat := l.length + exsW l
abbrev SW (ts : List Tk) : Sm × List Tk → Prop := fun p => smW p.1 + 1 + tw p.2 ≤ tw ts
theorem wtF : (∀ (ts : List Tk) (p : Sm × List Tk), SW ts p = (smW p.1 + 1 + tw p.2 ≤ tw ts)) ∧ (∀ l : List Ex, lw l = l.length + exsW l) ∧ (∀ (op : Nat) (a b : Ex), exW (pair op a b) = exW a + exW b + 3) ∧ (∀ (e : Ex) (a : Int), exW (setAt e a) = exW e) ∧
    (∀ (op : Nat) (a : Int) (nm : Str) (l : List Ex), exW (.mk op a nm l) = 1 + nm.length + l.length + exsW l) ∧ (∀ e : Ex, exsW [e] = exW e) ∧ exsW [] = 0 ∧ (∀ (e : Ex) (l : List Ex), exsW (e :: l) = exW e + exsW l) ∧ (∀ (e : Ex) (l : List Ex), exsW (l ++ [e]) = exsW l + exW e) ∧
    (∀ (op : Nat) (a : Int) (nm : Str) (l : List Ex) (b e : List Sm), smW (.mk op a nm l b e) = 1 + nm.length + l.length + b.length + e.length + exsW l + smsW b + smsW e) ∧ (∀ (s : Sm) (a : Int), smW (setS s a) = smW s) ∧ smsW [] = 0 ∧ (∀ (e : Sm) (l : List Sm), smsW (l ++ [e]) = smsW l + smW e) ∧
    (∀ (l r : List Ex), (l ++ r).length = l.length + r.length) ∧ (∀ (l r : List Sm), (l ++ r).length = l.length + r.length) ∧ (∀ (e : Ex) (l : List Ex), (e :: l).length = l.length + 1) ∧ (∀ (e : Sm) (l : List Sm), (e :: l).length = l.length + 1) ∧ ([] : List Ex).length = 0 ∧ ([] : List Sm).length = 0 ∧ ([] : Str).length = 0 :=
  ⟨fun _ _ => rfl, fun _ => rfl, exW_pair, exW_setAt, exW_mk, exsW_one1, exsW_nil, exsW_cons, exsW_snoc, smW_mk, smW_setS, smsW_nil, smsW_snoc, fun _ _ => List.length_append, fun _ _ => List.length_append, fun _ _ => rfl, fun _ _ => rfl, rfl, rfl, rfl⟩
theorem ex_W (z : Nat) : ∀ n : Nat, (∀ ts o, Al (fun p : Ex × List Tk => exW p.1 + 1 + tw p.2 ≤ tw ts) (pSum z n ts o)) ∧ (∀ e ts o, Al (fun p : Ex × List Tk => exW p.1 + tw p.2 ≤ exW e + tw ts) (pSumL z n e ts o)) ∧
    (∀ ts o, Al (fun p : Ex × List Tk => exW p.1 + 1 + tw p.2 ≤ tw ts) (pProd z n ts o)) ∧ (∀ e ts o, Al (fun p : Ex × List Tk => exW p.1 + tw p.2 ≤ exW e + tw ts) (pProdL z n e ts o)) ∧ (∀ ts o, Al (fun p : Ex × List Tk => exW p.1 + 1 + tw p.2 ≤ tw ts) (pSign z n ts o)) ∧
    (∀ ts o, Al (fun p : List Ex × List Tk => p.1.length + exsW p.1 + tw p.2 ≤ tw ts) (pSums z n ts o)) ∧ (∀ l ts o, Al (fun p : List Ex × List Tk => p.1.length + exsW p.1 + tw p.2 ≤ l.length + exsW l + tw ts) (pSumsL z n l ts o)) := by
  intro n
  induction n with
  | zero => refine ⟨?_, ?_, ?_, ?_, ?_, ?_, ?_⟩ <;> intros <;> (first | rw [pSum] | rw [pSumL] | rw [pProd] | rw [pProdL] | rw [pSign] | rw [pSums] | rw [pSumsL]) <;> exact .er
  | succ n ih =>
    obtain ⟨h1, h2, h3, h4, h5, h6, h7⟩ := ih
    refine ⟨?_, ?_, ?_, ?_, ?_, ?_, ?_⟩
    · intro ts o
      rw [pSum_eq]
      exact .andR (h3 ts o) fun a r ha => (h2 a r o).mono fun p hp => by ((try simp only [wtF] at *); omega)
    · intro e ts o
      rw [pSumL_eq]
      exact .ifW (fun ht => .andR (h3 _ o) fun k r hk => (h2 _ r o).mono fun p hp => by ((try simp only [wtF] at *); omega)) (.ifW (fun ht => .andR (h3 _ o) fun k r hk => (h2 _ r o).mono fun p hp => by ((try simp only [wtF] at *); omega)) (.ok (Nat.le_refl _)))
    · intro ts o
      rw [pProd_eq]
      exact .andR (h5 ts o) fun a r ha => (h4 a r o).mono fun p hp => by ((try simp only [wtF] at *); omega)
    · intro e ts o
      rw [pProdL_eq]
      exact .ifW (fun ht => .andR (h5 _ o) fun k r hk => (h4 _ r o).mono fun p hp => by ((try simp only [wtF] at *); omega)) (.ifW (fun ht => .andR (h5 _ o) fun k r hk => (h4 _ r o).mono fun p hp => by ((try simp only [wtF] at *); omega)) (.ok (Nat.le_refl _)))
    · intro ts o
      rw [pSign_eq]
      refine .ifW (fun ht => .opn fun _ => .andR (h5 _ _) fun k r hk => .ok (by ((try simp only [wtF] at *); omega))) (.ifW (fun ht => .opn fun _ => .andR (h1 _ _) fun e r he => .want fun hr => .ok (by ((try simp only [wtF] at *); omega))) ?_)
      split
      · rename_i hk
        have hne : ts ≠ [] := by rintro rfl; cases hk
        have := tw_pos hne
        rw [txt_now z hne] at this
        split
        · exact .er
        · exact .ok (by ((try simp only [wtF] at *); omega))
      · refine .andR .nameX fun nm r hr => ?_
        unfold pTail
        exact .ifW (fun ht => .opn fun _ => .andR (h1 _ _) fun k r' hk => .want fun hw => .ok (by ((try simp only [wtF] at *); omega))) (.ifW (fun ht => .opn fun _ => .andR (h6 _ _) fun l r' hl => .want fun hw => .ok (by ((try simp only [wtF] at *); omega))) (.ok (by ((try simp only [wtF] at *); omega))))
    · intro ts o
      rw [pSums_eq]
      exact .ifW (fun ht => .ok (by ((try simp only [wtF] at *); omega))) (.andR (h1 ts o) fun e r he => (h7 [e] r o).mono fun p hp => by ((try simp only [wtF] at *); omega))
    · intro l ts o
      rw [pSumsL_eq]
      exact .ifW (fun ht => .andR (h1 _ o) fun e r he => (h7 _ r o).mono fun p hp => by ((try simp only [wtF] at *); omega)) (.ok (Nat.le_refl _))
section
variable {z n o : Nat}
theorem sum_W (ts : List Tk) (o : Nat) : Al (fun p : Ex × List Tk => exW p.1 + 1 + tw p.2 ≤ tw ts) (pSum z n ts o) := (ex_W z n).1 ts o
theorem sums_W (ts : List Tk) (o : Nat) : Al (fun p : List Ex × List Tk => p.1.length + exsW p.1 + tw p.2 ≤ tw ts) (pSums z n ts o) := (ex_W z n).2.2.2.2.2.1 ts o
variable {body : List Tk → Rs (List Sm)} (hb : ∀ ts, Al (fun p : List Sm × List Tk => p.1.length + smsW p.1 + 2 + tw p.2 ≤ tw ts) (body ts)) (ts : List Tk)
theorem add_W : Al (SW ts) (pAdd z n ts o) := .want fun h1 => .want fun h2 => .andR (sum_W _ _) fun e r he => .want fun h3 => .ok (by ((try simp only [wtF] at *); omega))
include hb in
theorem loop_W : Al (SW ts) (pLoop body z n ts o) := .want fun h1 => .opn fun h2 => .andR .nameX fun nm r hn => .want fun h3 => .andR (sum_W _ _) fun x r1 hx => .want fun h4 => .andR (sum_W _ _) fun y r2 hy => .want fun h5 => .andR (hb _) fun b r3 hb => .ok (by ((try simp only [wtF] at *); omega))
include hb in
theorem choice_W : Al (SW ts) (pChoice body z n ts o) := .want fun h1 => .opn fun h2 => .andR (sum_W _ _) fun x r hx => by
  unfold pChoiceA
  split
  · exact .er
  · rename_i hc
    have := cmpU_tw hc
    exact .andR (sum_W _ _) fun y r2 hy => .want fun h5 => .andR (hb _) fun b r3 hb1 => .ifW (fun h6 => .andR (hb _) fun e r4 he => .ok (by ((try simp only [wtF] at *); omega))) (.ok (by ((try simp only [wtF] at *); omega)))
theorem plain_W : Al (SW ts) (pPlain z n ts o) := .andR (sum_W _ _) fun e r he => by
  unfold pPlainB
  split
  · rename_i hc
    have := isW_tw ((Bool.and_eq_true _ _).mp hc).2
    have h9 := exW_op e
    exact .andR (sum_W _ _) fun k r2 hk => .want fun h3 => .ok (by ((try simp only [wtF] at *); omega))
  · exact .want fun h1 => .andR .nameX fun nm r2 hn => .opn fun h2 => .andR (sums_W _ _) fun l r3 hl => .want fun h3 => .want fun h4 => .ok (by ((try simp only [wtF] at *); omega))
end
theorem sm_W (z : Nat) : ∀ n : Nat, (∀ ts o, Al (SW ts) (pStmt z n ts o)) ∧ (∀ ts o, Al (fun p : List Sm × List Tk => p.1.length + smsW p.1 + 2 + tw p.2 ≤ tw ts) (pBody z n ts o)) ∧ (∀ l ts o, Al (fun p : List Sm × List Tk => p.1.length + smsW p.1 + tw p.2 ≤ l.length + smsW l + tw ts) (pStmts z n l ts o)) := by
  intro n
  induction n with
  | zero => refine ⟨?_, ?_, ?_⟩ <;> intros <;> (first | rw [pStmt] | rw [pBody] | rw [pStmts]) <;> exact .er
  | succ n ih =>
    obtain ⟨h1, h2, h3⟩ := ih
    refine ⟨?_, ?_, ?_⟩
    · intro ts o
      rw [pStmt_eq]
      refine .andR (A := SW ts) ?_ fun s r hs => .ok (by ((try simp only [wtF] at *); omega))
      refine .ifW (fun _ => add_W ts) (.ifW (fun _ => loop_W (fun t => h2 t o) ts) (.ifW (fun _ => choice_W (fun t => h2 t o) ts) (.ifW (fun h => .andR (h2 ts o) fun b r hb => .ok (by ((try simp only [wtF] at *); omega))) (plain_W ts))))
    · intro ts o
      rw [pBody_eq]
      exact .opn fun h => .andR (h3 [] _ _) fun l r hl => .want fun h4 => .ok (by ((try simp only [wtF] at *); omega))
    · intro l ts o
      rw [pStmts_eq]
      exact .ifW (fun _ => .ok (Nat.le_refl _)) (.andR (h1 ts o) fun s r hs => (h3 _ r o).mono fun p hp => by ((try simp only [wtF] at *); omega))
theorem stmts_W {z n : Nat} (l : List Sm) (ts : List Tk) (o : Nat) : Al (fun p : List Sm × List Tk => p.1.length + smsW p.1 + tw p.2 ≤ l.length + smsW l + tw ts) (pStmts z n l ts o) := (sm_W z n).2.2 l ts o
section
variable {z n o ty a : Nat} {first : Bool} {size lo up init : List Ex} {nm : Str}
theorem size_W (ts : List Tk) : Al (fun p : List Ex × List Tk => lw p.1 + tw p.2 ≤ tw ts) (pSize z n ts o) := .opn fun h1 => .andR (sum_W _ _) fun e r he => .want fun h2 => .ok (by ((try simp only [wtF] at *); omega))
theorem upper_W (ts : List Tk) : Al (fun p : (List Ex × List Ex) × List Tk => lw p.1.1 + lw p.1.2 + tw p.2 ≤ lw lo + tw ts) (pUpper z n lo ts o) := .want fun h1 => .want fun h2 => .andR (sum_W _ _) fun e r he => .want fun h3 => .ok (by ((try simp only [wtF] at *); omega))
theorem bounds_W (ts : List Tk) : Al (fun p : (List Ex × List Ex) × List Tk => lw p.1.1 + lw p.1.2 + tw p.2 ≤ tw ts) (pBounds z n ts o) := by
  refine .ifW (fun h1 => .ifW (fun h2 => .want fun h3 => .andR (sum_W _ _) fun e r he => ?_) ?_) (.ok (by simp [lw, exsW_nil]))
  · unfold pBoundsB
    exact .ifW (fun h4 => (upper_W (lo := [e]) _).mono fun p hp => by ((try simp only [wtF] at *); omega)) (.want fun h4 => .ok (by ((try simp only [wtF] at *); omega)))
  · exact (upper_W (lo := []) _).mono fun p hp => by ((try simp only [wtF] at *); omega)
theorem declE_W (ts : List Tk) : Al (fun p : (Bool × Dc) × List Tk => dcW p.1.2 + tw p.2 ≤ 1 + nm.length + lw size + lw lo + lw up + lw init + tw ts) (pDeclE z ty a nm size lo up init ts) := .want fun h => .ok (by simp only [dcW, lw]; omega)
theorem declN_W (ts : List Tk) : Al (fun p : (Bool × Dc) × List Tk => dcW p.1.2 + tw p.2 ≤ 1 + nm.length + lw size + lw lo + lw up + tw ts) (pDeclN z n first ty a o size lo up nm ts) := by
  unfold pDeclN
  split
  · rename_i hc
    have := isW_tw ((Bool.and_eq_true _ _).mp hc).2
    exact .andR (sum_W _ _) fun e r he => (declE_W r).mono fun p hp => by ((try simp only [wtF] at *); omega)
  · exact (declE_W ts).mono fun p hp => by ((try simp only [wtF] at *); omega)
theorem declV_W (ts : List Tk) : Al (fun p : (Bool × Dc) × List Tk => dcW p.1.2 + 1 + tw p.2 ≤ lw size + lw lo + lw up + tw ts) (pDeclV z n first ty a o size lo up ts) := .andR .nameX fun nm r hr => (declN_W r).mono fun p hp => by ((try simp only [wtF] at *); omega)
theorem declT_W (ts : List Tk) : Al (fun p : (Bool × Dc) × List Tk => dcW p.1.2 + 1 + tw p.2 ≤ lw size + tw ts) (pDeclT z n first ty a o size ts) := .andR (bounds_W ts) fun b r hb => by
  unfold pDeclU
  split
  · exact .andR (size_W r) fun s r2 hs => (declV_W r2).mono fun p hp => by ((try simp only [wtF] at *); omega)
  · exact (declV_W r).mono fun p hp => by ((try simp only [wtF] at *); omega)
theorem decl_W (ts : List Tk) : Al (fun p : (Bool × Dc) × List Tk => (p.1.1 = true → dcW p.1.2 + 1 + tw p.2 ≤ tw ts) ∧ tw p.2 ≤ tw ts) (pDecl z n first ts o) := by
  have go : ∀ {X : Rs (Bool × Dc)} {m : Nat}, m ≤ tw ts → Al (fun p : (Bool × Dc) × List Tk => dcW p.1.2 + 1 + tw p.2 ≤ m) X → Al (fun p : (Bool × Dc) × List Tk => (p.1.1 = true → dcW p.1.2 + 1 + tw p.2 ≤ tw ts) ∧ tw p.2 ≤ tw ts) X := fun hm h => h.mono fun p hp => ⟨fun _ => by omega, by omega⟩
  have e0 : lw [] = 0 := by simp [lw, exsW_nil]
  refine .ifW (fun h => go (by rw [e0]; omega) (declT_W _)) (.ifW (fun h => go (by rw [e0]; omega) (declT_W _)) (.ifW (fun h => go (by rw [e0]; omega) (declT_W _)) (.ifW (fun h => .andR (size_W _) fun s r hs => ?_) (.ok ⟨fun h => by (cases h), Nat.le_refl _⟩))))
  dsimp only at hs
  exact .ifW (fun h2 => go (by omega) (declT_W _)) (.want fun h2 => go (by omega) (declT_W _))
end
def dsW : List Dc → Nat
  | [] => 0
  | d :: l => dcW d + dsW l
theorem dsW_snoc (d : Dc) : ∀ l : List Dc, dsW (l ++ [d]) = dsW l + dcW d
  | [] => by simp [dsW]
  | u :: l => by rw [List.cons_append, dsW, dsW, dsW_snoc d l]; omega
theorem decls_W {z o : Nat} {first : Bool} : ∀ (n : Nat) (l : List Dc) (ts : List Tk), Al (fun p : List Dc × List Tk => p.1.length + dsW p.1 + tw p.2 ≤ l.length + dsW l + tw ts) (pDecls z n first l ts o)
  | 0, _, _ => by rw [pDecls]; exact .er
  | n + 1, l, ts => by
    rw [pDecls_eq]
    refine .andR (decl_W ts) fun d r hd => ?_
    dsimp only at hd
    split
    · rename_i h
      have := hd.1 h
      exact (decls_W n _ r).mono fun p hp => by rw [dsW_snoc, List.length_append, List.length_singleton] at hp; omega
    · exact .ok (by have := hd.2; dsimp only; omega)
theorem dsW_eq (l : List Dc) : dcsW l = dsW l := by
  induction l with
  | nil => rfl
  | cons d l ih => rw [dcsW, dsW, ih]
theorem fill_W {z n o i : Nat} (ts : List Tk) : Al (fun p : Bk × List Tk => bkW p.1 + tw p.2 ≤ tw ts) (pFill z n i ts o) := by
  refine .opn fun h => ?_
  unfold pFillD
  refine .andR (A := fun p : List Dc × List Tk => p.1.length + dsW p.1 + tw p.2 ≤ tw ts.tail) ?_ fun ds r hd => ?_
  · split
    · exact .ok (by simp [dsW])
    · exact (decls_W _ _ _).mono fun p hp => by simpa [dsW] using hp
  · dsimp only at hd
    unfold pFillS
    split
    · exact .want fun h2 => .ok (by simp only [bkW, dsW_eq, List.length_nil, smsW_nil]; omega)
    · exact .andR (stmts_W [] r _) fun ss r2 hs => .want fun h2 => .ok (by simp only [bkW, dsW_eq, List.length_nil, smsW_nil] at *; omega)
theorem head_W {z last : Nat} (ts : List Tk) : Al (fun p : (Nat × Bool) × List Tk => tw p.2 ≤ tw ts) (pHead z last ts) := by
  have h1 := tw_tail ts
  have h2 := tw_tail ts.tail
  unfold pHead
  repeat' split
  all_goals first
    | exact .ok (by dsimp only; omega)
    | exact .want fun h => .ok (by dsimp only; omega)
theorem prog_W {z M : Nat} (hM : 1 ≤ M) : ∀ (n last : Nat) (out : List Bk) (ts : List Tk), (∀ b ∈ out, bkW b ≤ M) → tw ts ≤ M → Al (fun p : List Bk × List Tk => ∀ b ∈ p.1, bkW b ≤ M) (pProg z n last out ts)
  | 0, _, _, _, _, _ => by rw [pProg]; exact .er
  | n + 1, last, out, ts, ho, ht => by
    rw [pProg_eq]
    refine .andR (head_W ts) fun i r hi => ?_
    dsimp only at hi
    split
    · refine .andR (fill_W r) fun b r2 hb => ?_
      dsimp only at hb
      refine prog_W hM n _ _ r2 (fun c hc => ?_) (by omega)
      rcases List.mem_or_eq_of_mem_set hc with hc | rfl
      · exact ho c hc
      · omega
    · exact .ok ho
end Go.Prs
end

section
namespace Go.Tok
end Go.Tok
end

section
namespace Go.Tok
inductive Chain (s : List UInt8) : Nat → List Tk → Prop
  | nil (i : Nat) : Chain s i []
  | cons {i e kd : Nat} {ts : List Tk} : i ≤ s.length → skipTo s i < s.length → tokAt s (skipTo s i) = (kd, e, true) → Chain s e ts → Chain s i ((kd, tokTx s (skipTo s i), skipTo s i) :: ts)
def Bl (R : List UInt8) : Prop := R = [] ∨ ∃ r, R = 32 :: r
end Go.Tok
end

section
namespace Go.Tok
end Go.Tok
end

section
namespace Go.Tok
end Go.Tok
end

section
namespace Go.Tok
def Jn (ts : List Tk) : List UInt8 := ts.flatMap fun t => 32 :: t.2.1
def kt (t : Tk) : Nat × List UInt8 := (t.1, t.2.1)
def Good (t : Tk) : Prop := ∃ s k e, k ≤ s.length ∧ tokAt s k = (t.1, e, true) ∧ t.2.1 = (s.drop k).take (e - k)
end Go.Tok
end

section
namespace Go.Tok.B
open Go.Tok
def Bl (R : List UInt8) : Prop := R = [] ∨ ∃ c r, (c = 32 ∨ c = 10 ∨ c = 9) ∧ R = c :: r
end Go.Tok.B
end

section
namespace Go.Tok.B
open Go.Tok
def bls : List (List UInt8) := [[32], [10], [9, 47, 47, 32, 120, 10], [32, 32]]
def Jb (xs : List (List UInt8 × Tk)) : List UInt8 := xs.flatMap fun x => x.1 ++ x.2.2.1
end Go.Tok.B
end

section
namespace Go.Tok.W
open Go.Tok
def Bl (R : List UInt8) : Prop := R = [] ∨ ∃ c r, (c = 32 ∨ c = 10) ∧ R = c :: r
def Sp (xs : List (Tk × UInt8)) : List UInt8 := xs.flatMap fun t => t.1.2.1 ++ [t.2]
def isSp (c : UInt8) : Prop := c = 32 ∨ c = 10
end Go.Tok.W
end

section
namespace Go.Tree
open Go.Tok Go.Tok.W
def Tk1 (s : Str) : Prop := ∃ kd, Go.Tok.Good (kd, s, 0)
def Tks (l : List Str) : Prop := ∀ s ∈ l, Tk1 s
end Go.Tree
end

section
namespace Go.Tok
end Go.Tok
namespace Go.Tok
end Go.Tok
end

section
namespace Go.Tree
open Go.Prs
end Go.Tree
namespace Go.Tok
open Go.Prs
theorem lex_tw {s : List UInt8} : ∀ (m i : Nat) (x : Rd), m = s.length - i → i ≤ s.length → tw (lexS readN s i x).1 + 3 * i ≤ tw x.1 + 3 * s.length := by
  intro m
  induction m using Nat.strongRecOn with
  | _ m ih =>
    intro i x hm hi
    rcases Nat.lt_or_ge i s.length with hl | hl
    · cases hgo : (readN x (tokAt s i).1 (tokTx s i) i (tokAt s i).2.2).2 with
      | true =>
        have hN := readN_go hgo
        have h1 := tok_le hi
        have h2 := h1.2.2 hN.1
        have h3 := skipTo_le h1.2.1
        rw [lexS_go readN readN_no hl hgo]
        have := ih _ (by omega) _ (readN x (tokAt s i).1 (tokTx s i) i (tokAt s i).2.2).1 rfl h3.1
        rw [hN.2] at this ⊢
        rw [tw_snoc] at this
        have hx : (tokTx s i).length = (tokAt s i).2.1 - i := by unfold tokTx; simp only [List.length_take, List.length_drop]; omega
        dsimp only at this ⊢
        rw [hx] at this
        omega
      | false =>
        rw [lexS_end readN hl hgo]
        unfold readN
        split
        · dsimp only; omega
        · split
          · dsimp only; omega
          · rename_i hb h6; unfold readN at hgo; rw [if_neg hb, if_neg h6] at hgo; cases hgo
    · rw [lexS_stop readN (by omega)]; omega
theorem readP_tw (s : List UInt8) : tw (readP s).1 ≤ 3 * s.length := by
  have h1 := skipTo_le (s := s) (Nat.zero_le _)
  have h2 := lex_tw (s := s) _ _ ([], 0, 0) rfl h1.1
  unfold readP
  split
  · simp [tw]
  · split
    · unfold readS; dsimp only at h2 ⊢; rw [show tw ([] : List Tk) = 0 from rfl] at h2; omega
    · simp [tw]
end Go.Tok
namespace Go.Prs
open Go.Tok Go.Tree
theorem bkW_noBk : ∀ b ∈ List.replicate 6 noBk, bkW b ≤ 1 := fun b hb => by
  rw [(List.mem_replicate.1 hb).2]; simp [noBk, bkW, dcsW, smsW]
theorem res_W {s : Str} {M : Nat} (h1 : 1 ≤ M) (h : tw (readP s).1 ≤ M) : ∀ b ∈ (resOf (List.replicate 6 noBk) (parseP s)).1, bkW b ≤ M := by
  by_cases hz : (readP s).2.1 = 0
  · have e1 : parseP s = andR (pProg s.length (fuel (readP s).1) 0 (List.replicate 6 noBk) (readP s).1) endR := face_go hz
    rw [e1]
    have hp := prog_W (z := s.length) h1 (fuel (readP s).1) 0 (List.replicate 6 noBk) (readP s).1 (fun b hb => Nat.le_trans (bkW_noBk b hb) h1) h
    cases hx : pProg s.length (fuel (readP s).1) 0 (List.replicate 6 noBk) (readP s).1 with
    | error e => exact fun b hb => Nat.le_trans (bkW_noBk b hb) h1
    | ok p =>
      obtain ⟨a, r⟩ := p
      cases r with
      | nil => exact hp _ hx
      | cons t r => exact fun b hb => Nat.le_trans (bkW_noBk b hb) h1
  · rw [show parseP s = .error (readP s).2 from face_bad hz]
    exact fun b hb => Nat.le_trans (bkW_noBk b hb) h1
def sepAt (us : List Nat) (i : Nat) : Str := Go.Tok.B.bls.getD (us.getD i 0 % 4) []
def xsF (us : List Nat) (T : List Tk) (i : Nat) : List (Str × Tk) := (List.range i).filterMap fun j => (T[j]?).map fun t => (sepAt us j, t)
end Go.Prs
end

section
namespace Go.Proofs.YtaniogadknakoaaGreatDoor
open Go.RowKit Go.Sx
open Go.Tok Go.Tree Go.Prs

end Go.Proofs.YtaniogadknakoaaGreatDoor
end

section
namespace Go.Prs
open Go.Tok Go.Tree
structure R3 where
  k : Nat
  o : Int
  f : Fl
def badR (s : R3) : Bool := decide (s.f.1 ≠ 0)
section
variable (T : List Tk) (z : Nat)
def isR (s : R3) (x : Str) : Bool := !badR s && isW x (T.drop s.k)
def failR (s : R3) (e : Nat) : R3 := if badR s = true then s else { s with f := (e, place z (T.drop s.k)) }
def incR (s : R3) : R3 := { s with o := IntKind.i64.wrap (s.o + 1) }
def decR (s : R3) : R3 := { s with o := IntKind.i64.wrap (s.o - 1) }
def nxtR (s : R3) : R3 := { s with k := s.k + 1 }
def moreR (s : R3) : R3 := incR (if s.o = 64 then failR T z s 131 else s)
def wantR (s : R3) (x : Str) : R3 := if isR T s x = true then nxtR (if closeB x = true then decR (if openB x = true then moreR T z s else s) else (if openB x = true then moreR T z s else s)) else failR T z s 130
def isNameR (s : R3) : Bool := !badR s && named (T.drop s.k)
def nameR (s : R3) : Str × R3 := if isNameR T s = true then (txt (T.drop s.k), nxtR s) else ([], failR T z s 130)
def opR (s : R3) (x y : Str) (a b : Nat) : Nat × R3 := if isR T s x = true then (a, wantR T z s x) else if isR T s y = true then (b, wantR T z s y) else (0, s)
def opL (lev : Nat) (s : R3) : Nat × R3 := if lev = 2 then opR T z s [42] [47] 8 9 else opR T z s [43] [45] 6 7
def isNumR (s : R3) : Bool := !badR s && decide ((nowT z (T.drop s.k)).1 = 2)
mutual
def rLev : Nat → Nat → R3 → Option (Ex × R3)
  | 0, _, _ => none
  | n + 1, lev, s => if lev = 3 then rSign n s else (rLev n (lev + 1) s).bind fun p => rLevL n lev p.1 p.2
def rLevL : Nat → Nat → Ex → R3 → Option (Ex × R3)
  | 0, _, _, _ => none
  | n + 1, lev, e, s => if badR s = true then some (e, s) else if (opL T z lev s).1 = 0 then some (e, (opL T z lev s).2) else (rLev n (lev + 1) (opL T z lev s).2).bind fun p => rLevL n lev (pair (opL T z lev s).1 e p.1) p.2
def rSign : Nat → R3 → Option (Ex × R3)
  | 0, _ => none
  | n + 1, s =>
    if badR s = true then some (noEx, s)
    else if isR T s [45] = true then (rSign n (nxtR (moreR T z s))).bind fun p => some (.mk 5 (place z (T.drop s.k)) [] [p.1], decR p.2)
    else if isR T s [40] = true then (rSum n (wantR T z s [40])).bind fun p => some (setAt p.1 (place z (T.drop s.k)), wantR T z p.2 [41])
    else if isNumR T z s = true then some (.mk 1 (place z (T.drop s.k)) (txt (T.drop s.k)) [], nxtR (if 400 < (txt (T.drop s.k)).length then failR T z s 3 else s))
    else if isR T (nameR T z s).2 [91] = true then (rSum n (wantR T z (nameR T z s).2 [91])).bind fun p => some (.mk 3 (place z (T.drop s.k)) (nameR T z s).1 [p.1], wantR T z p.2 [93])
    else if isR T (nameR T z s).2 [40] = true then (rSums n (wantR T z (nameR T z s).2 [40])).bind fun p => some (.mk 4 (place z (T.drop s.k)) (nameR T z s).1 p.1, wantR T z p.2 [41])
    else some (.mk 2 (place z (T.drop s.k)) (nameR T z s).1 [], (nameR T z s).2)
def rSum : Nat → R3 → Option (Ex × R3)
  | 0, _ => none
  | n + 1, s => rLev n 1 s
def rSums : Nat → R3 → Option (List Ex × R3)
  | 0, _ => none
  | n + 1, s => if isR T s [41] = true then some ([], s) else (rSum n s).bind fun p => rSumsL n [p.1] p.2
def rSumsL : Nat → List Ex → R3 → Option (List Ex × R3)
  | 0, _, _ => none
  | n + 1, l, s => if isR T s [44] = true then (rSum n (wantR T z s [44])).bind fun p => rSumsL n (l ++ [p.1]) p.2 else some (l, s)
end
end
section
variable {T : List Tk} {z n lev : Nat} {s : R3} {e : Ex} {l : List Ex}
theorem rLev_eq : rLev T z (n + 1) lev s = if lev = 3 then rSign T z n s else (rLev T z n (lev + 1) s).bind fun p => rLevL T z n lev p.1 p.2 := by rw [rLev]
theorem rLevL_eq : rLevL T z (n + 1) lev e s = if badR s = true then some (e, s) else if (opL T z lev s).1 = 0 then some (e, (opL T z lev s).2) else (rLev T z n (lev + 1) (opL T z lev s).2).bind fun p => rLevL T z n lev (pair (opL T z lev s).1 e p.1) p.2 := by rw [rLevL]
theorem rSum_eq : rSum T z (n + 1) s = rLev T z n 1 s := by rw [rSum]
theorem rSums_eq : rSums T z (n + 1) s = if isR T s [41] = true then some ([], s) else (rSum T z n s).bind fun p => rSumsL T z n [p.1] p.2 := by rw [rSums]
theorem rSumsL_eq : rSumsL T z (n + 1) l s = if isR T s [44] = true then (rSum T z n (wantR T z s [44])).bind fun p => rSumsL T z n (l ++ [p.1]) p.2 else some (l, s) := by rw [rSumsL]
theorem rSign_eq : rSign T z (n + 1) s = if badR s = true then some (noEx, s)
    else if isR T s [45] = true then (rSign T z n (nxtR (moreR T z s))).bind fun p => some (.mk 5 (place z (T.drop s.k)) [] [p.1], decR p.2)
    else if isR T s [40] = true then (rSum T z n (wantR T z s [40])).bind fun p => some (setAt p.1 (place z (T.drop s.k)), wantR T z p.2 [41])
    else if isNumR T z s = true then some (.mk 1 (place z (T.drop s.k)) (txt (T.drop s.k)) [], nxtR (if 400 < (txt (T.drop s.k)).length then failR T z s 3 else s))
    else if isR T (nameR T z s).2 [91] = true then (rSum T z n (wantR T z (nameR T z s).2 [91])).bind fun p => some (.mk 3 (place z (T.drop s.k)) (nameR T z s).1 [p.1], wantR T z p.2 [93])
    else if isR T (nameR T z s).2 [40] = true then (rSums T z n (wantR T z (nameR T z s).2 [40])).bind fun p => some (.mk 4 (place z (T.drop s.k)) (nameR T z s).1 p.1, wantR T z p.2 [41])
    else some (.mk 2 (place z (T.drop s.k)) (nameR T z s).1 [], (nameR T z s).2) := by rw [rSign]
end
end Go.Prs
end

section
namespace Go.Prs
open Go.Tok Go.Tree
section
variable (T : List Tk) (z : Nat)
def opC (s : R3) (i : Nat) : Nat := if badR s = true then 0 else cmpU i (T.drop s.k)
def stC (s : R3) (op : Nat) : R3 := if op = 0 then s else wantR T z s (cmpS.getD (op - 10) [])
def cmpR (s : R3) : R3 := if opC T s 6 = 0 then failR T z s 130 else stC T z s (opC T s 6)
def rAdd (n : Nat) (s : R3) (a : Int) : Option (Sm × R3) := (rSum T z n (wantR T z (wantR T z s [116, 97, 114, 103, 101, 116]) [43, 61])).bind fun p => some (.mk 2 a [] [p.1] [] [], wantR T z p.2 [59])
def rLoopA (s : R3) : Str × R3 := nameR T z (wantR T z (wantR T z s [102, 111, 114]) [40])
def rLoop (body : R3 → Option (List Sm × R3)) (n : Nat) (s : R3) (a : Int) : Option (Sm × R3) :=
  (rSum T z n (wantR T z (rLoopA T z s).2 [105, 110])).bind fun x => (rSum T z n (wantR T z x.2 [58])).bind fun y => (body (wantR T z y.2 [41])).bind fun b => some (.mk 4 a (rLoopA T z s).1 [x.1, y.1] b.1 [], b.2)
def rChoiceB (body : R3 → Option (List Sm × R3)) (a : Int) (x : Ex) (b : List Sm × R3) : Option (Sm × R3) :=
  if isR T b.2 [101, 108, 115, 101] = true then (body (wantR T z b.2 [101, 108, 115, 101])).bind fun e => some (.mk 5 a [] [x] b.1 e.1, e.2) else some (.mk 5 a [] [x] b.1 [], b.2)
def rChoice (body : R3 → Option (List Sm × R3)) (n : Nat) (s : R3) (a : Int) : Option (Sm × R3) :=
  (rSum T z n (wantR T z (wantR T z s [105, 102]) [40])).bind fun x => (rSum T z n (cmpR T z x.2)).bind fun y => (body (wantR T z y.2 [41])).bind fun b => rChoiceB T z body a (pair (opC T x.2 6) x.1 y.1) b
def rPlainB (n : Nat) (a : Int) (e : Ex) (s : R3) : Option (Sm × R3) :=
  (rSums T z n (wantR T z (nameR T z (wantR T z s [126])).2 [40])).bind fun l => some (.mk 3 a (nameR T z (wantR T z s [126])).1 (e :: l.1) [] [], wantR T z (wantR T z l.2 [41]) [59])
def rPlain (n : Nat) (s : R3) (a : Int) : Option (Sm × R3) :=
  (rSum T z n s).bind fun e => if ((isNameR T s && (decide (e.1.op = 2) || decide (e.1.op = 3))) && isR T e.2 [61]) = true then (rSum T z n (wantR T z e.2 [61])).bind fun k => some (.mk 1 a e.1.nm (e.1.kids ++ [k.1]) [] [], wantR T z k.2 [59])
    else rPlainB T z n a e.1 e.2
mutual
def rStmt : Nat → R3 → Option (Sm × R3)
  | 0, _ => none
  | n + 1, s =>
    if isR T s [116, 97, 114, 103, 101, 116] = true then rAdd T z n s (place z (T.drop s.k))
    else if isR T s [102, 111, 114] = true then rLoop T z (fun s => rBody n s) n s (place z (T.drop s.k))
    else if isR T s [105, 102] = true then rChoice T z (fun s => rBody n s) n s (place z (T.drop s.k))
    else if isR T s [123] = true then (rBody n s).bind fun b => some (.mk 6 (place z (T.drop s.k)) [] [] b.1 [], b.2)
    else rPlain T z n s (place z (T.drop s.k))
def rBody : Nat → R3 → Option (List Sm × R3)
  | 0, _ => none
  | n + 1, s => (rStmts n [] (wantR T z s [123])).bind fun p => some (p.1, wantR T z p.2 [125])
def rStmts : Nat → List Sm → R3 → Option (List Sm × R3)
  | 0, _, _ => none
  | n + 1, l, s => if badR s = true then some (l, s) else if isR T s [125] = true then some (l, s) else (rStmt n s).bind fun p => rStmts n (l ++ [p.1]) p.2
end
def rSizeD (n : Nat) (s : R3) : Option (List Ex × R3) := (rSum T z n (wantR T z s [91])).bind fun e => some ([e.1], wantR T z e.2 [93])
def rUpper (n : Nat) (lo : List Ex) (s : R3) : Option ((List Ex × List Ex) × R3) := (rSum T z n (wantR T z (wantR T z s [117, 112, 112, 101, 114]) [61])).bind fun e => some ((lo, [e.1]), wantR T z e.2 [62])
def rBoundsB (n : Nat) (e : Ex × R3) : Option ((List Ex × List Ex) × R3) := if isR T e.2 [44] = true then rUpper T z n [e.1] (wantR T z e.2 [44]) else some (([e.1], []), wantR T z e.2 [62])
def rBounds (n : Nat) (s : R3) : Option ((List Ex × List Ex) × R3) :=
  if isR T s [60] = true then
    (if isR T (wantR T z s [60]) [108, 111, 119, 101, 114] = true then (rSum T z n (wantR T z (wantR T z (wantR T z s [60]) [108, 111, 119, 101, 114]) [61])).bind fun e => rBoundsB T z n e
    else rUpper T z n [] (wantR T z s [60]))
  else some (([], []), s)
def rDeclN (n : Nat) (first : Bool) (ty a : Nat) (size lo up : List Ex) (s : R3) : Option ((Bool × Dc) × R3) :=
  if ((first && decide (ty ≤ 3)) && isR T (nameR T z s).2 [61]) = true then (rSum T z n (wantR T z (nameR T z s).2 [61])).bind fun e => some ((true, ⟨ty, a, (nameR T z s).1, size, lo, up, [e.1]⟩), wantR T z e.2 [59])
  else some ((true, ⟨ty, a, (nameR T z s).1, size, lo, up, []⟩), wantR T z (nameR T z s).2 [59])
def rDeclU (n : Nat) (first : Bool) (ty a : Nat) (size lo up : List Ex) (s : R3) : Option ((Bool × Dc) × R3) :=
  if ty = 3 then (rSizeD T z n s).bind fun p => rDeclN T z n first ty a p.1 lo up p.2 else rDeclN T z n first ty a size lo up s
def rDeclT (n : Nat) (first : Bool) (ty a : Nat) (size : List Ex) (s : R3) : Option ((Bool × Dc) × R3) := (rBounds T z n s).bind fun b => rDeclU T z n first ty a size b.1.1 b.1.2 b.2
def rDeclA (n : Nat) (first : Bool) (a : Nat) (p : List Ex × R3) : Option ((Bool × Dc) × R3) :=
  if isR T p.2 [105, 110, 116] = true then rDeclT T z n first 4 a p.1 (wantR T z p.2 [105, 110, 116]) else rDeclT T z n first 5 a p.1 (wantR T z p.2 [114, 101, 97, 108])
def rDecl (n : Nat) (first : Bool) (s : R3) : Option ((Bool × Dc) × R3) :=
  if isR T s [97, 114, 114, 97, 121] = true then (rSizeD T z n (wantR T z s [97, 114, 114, 97, 121])).bind fun p => rDeclA T z n first (place z (T.drop s.k)) p
  else if isR T s [105, 110, 116] = true then rDeclT T z n first 1 (place z (T.drop s.k)) [] (wantR T z s [105, 110, 116])
  else if isR T s [114, 101, 97, 108] = true then rDeclT T z n first 2 (place z (T.drop s.k)) [] (wantR T z s [114, 101, 97, 108])
  else if isR T s [118, 101, 99, 116, 111, 114] = true then rDeclT T z n first 3 (place z (T.drop s.k)) [] (wantR T z s [118, 101, 99, 116, 111, 114])
  else some ((false, ⟨0, place z (T.drop s.k), [], [], [], [], []⟩), s)
def rDecls : Nat → Bool → List Dc → R3 → Option (List Dc × R3)
  | 0, _, _, _ => none
  | n + 1, first, l, s => if badR s = true then some (l, s) else (rDecl T z n first s).bind fun d => if d.1.1 = true then rDecls n first (l ++ [d.1.2]) d.2 else some (l, d.2)
def rHead (last : Nat) (s : R3) : (Nat × Bool) × R3 :=
  if (decide (last < 1) && isR T s [100, 97, 116, 97]) = true then ((0, true), wantR T z s [100, 97, 116, 97])
  else if (decide (last < 4) && isR T s [116, 114, 97, 110, 115, 102, 111, 114, 109, 101, 100]) = true then
    (if (decide (last < 2) && isR T (wantR T z s [116, 114, 97, 110, 115, 102, 111, 114, 109, 101, 100]) [100, 97, 116, 97]) = true then ((1, true), wantR T z (wantR T z s [116, 114, 97, 110, 115, 102, 111, 114, 109, 101, 100]) [100, 97, 116, 97])
    else ((3, true), wantR T z (wantR T z s [116, 114, 97, 110, 115, 102, 111, 114, 109, 101, 100]) [112, 97, 114, 97, 109, 101, 116, 101, 114, 115]))
  else if (decide (last < 3) && isR T s [112, 97, 114, 97, 109, 101, 116, 101, 114, 115]) = true then ((2, true), wantR T z s [112, 97, 114, 97, 109, 101, 116, 101, 114, 115])
  else if (decide (last < 5) && isR T s [109, 111, 100, 101, 108]) = true then ((4, true), wantR T z s [109, 111, 100, 101, 108])
  else if (decide (last < 6) && isR T s [103, 101, 110, 101, 114, 97, 116, 101, 100]) = true then ((5, true), wantR T z (wantR T z s [103, 101, 110, 101, 114, 97, 116, 101, 100]) [113, 117, 97, 110, 116, 105, 116, 105, 101, 115])
  else ((0, false), s)
def rFillD (n i : Nat) (s : R3) : Option (List Dc × R3) := if i = 4 then some ([], s) else rDecls T z n (!gv i) [] s
def rFillS (n i : Nat) (s : R3) : Option (List Sm × R3) := if gv i = true then some ([], s) else rStmts T z n [] s
def rFill (n i : Nat) (s : R3) : Option (Bk × R3) := (rFillD T z n i (wantR T z s [123])).bind fun ds => (rFillS T z n i ds.2).bind fun ss => some (⟨true, ds.1, ss.1⟩, wantR T z ss.2 [125])
def rProg : Nat → Nat → List Bk → R3 → Option (List Bk × R3)
  | 0, _, _, _ => none
  | n + 1, last, out, s => if badR s = true then some (out, s) else if (rHead T z last s).1.2 = true then (rFill T z n (rHead T z last s).1.1 (rHead T z last s).2).bind fun b => rProg n ((rHead T z last s).1.1 + 1) (out.set (rHead T z last s).1.1 b.1) b.2 else some (out, (rHead T z last s).2)
def endS (s : R3) : R3 := if (!badR s && decide (s.k < T.length)) = true then failR T z s 130 else s
end
section
variable {T : List Tk} {z n : Nat} {s : R3}
theorem rStmt_eq : rStmt T z (n + 1) s = if isR T s [116, 97, 114, 103, 101, 116] = true then rAdd T z n s (place z (T.drop s.k))
    else if isR T s [102, 111, 114] = true then rLoop T z (fun s => rBody T z n s) n s (place z (T.drop s.k))
    else if isR T s [105, 102] = true then rChoice T z (fun s => rBody T z n s) n s (place z (T.drop s.k))
    else if isR T s [123] = true then (rBody T z n s).bind fun b => some (.mk 6 (place z (T.drop s.k)) [] [] b.1 [], b.2)
    else rPlain T z n s (place z (T.drop s.k)) := by rw [rStmt]
theorem rBody_eq : rBody T z (n + 1) s = (rStmts T z n [] (wantR T z s [123])).bind fun p => some (p.1, wantR T z p.2 [125]) := by rw [rBody]
theorem rStmts_eq {l : List Sm} : rStmts T z (n + 1) l s = if badR s = true then some (l, s) else if isR T s [125] = true then some (l, s) else (rStmt T z n s).bind fun p => rStmts T z n (l ++ [p.1]) p.2 := by rw [rStmts]
theorem rDecls_eq {first : Bool} {l : List Dc} : rDecls T z (n + 1) first l s = if badR s = true then some (l, s) else (rDecl T z n first s).bind fun d => if d.1.1 = true then rDecls T z n first (l ++ [d.1.2]) d.2 else some (l, d.2) := by rw [rDecls]
theorem rProg_eq {last : Nat} {out : List Bk} : rProg T z (n + 1) last out s = if badR s = true then some (out, s) else if (rHead T z last s).1.2 = true then (rFill T z n (rHead T z last s).1.1 (rHead T z last s).2).bind fun b => rProg T z n ((rHead T z last s).1.1 + 1) (out.set (rHead T z last s).1.1 b.1) b.2 else some (out, (rHead T z last s).2) := by rw [rProg]
end
end Go.Prs
end
