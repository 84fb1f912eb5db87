/- Layer 15, KindOf: Of of kind tells the kind, or the fault, of the document, for expressions of at most 400 nodes, names of at most 200 bytes and at most 20 variables; in the Upto form. Part 17 of 17. -/
import Derived.Test.YtoehjlmdnajibaaGreatDoorH16
import Derived.ChangeArms
import Derived.OpenShut
import Derived.Test.YtoehjlmdnajibaaGreatDoorRows
import Derived.Deep.DeepHandedRow
import Derived.ProofKit
import Derived.LaidMore
import Derived.Shelf.Vars
import Derived.Carry
import Derived.JoinedCond
import Derived.Deep.DeepWitnessRowRef
import Derived.Stop.Joined
import Derived.Test.YtoehjlmdnajibaaGreatDoorTie
import Derived.Test.YtoehjlmdnajibaaGreatDoorCards
import Derived.SevenTiedAt
set_option maxRecDepth 100000
set_option maxHeartbeats 16000000
section
namespace Go.Proofs.YtoehjlmdnajibaaGreatDoor
open Go.RowKit Go.Sx
open Go.Tok Go.Tree Go.Knd Go.Prs

theorem rOf_ok (x : Ex) (cs : List Value) (vs : List Vr) (va : Option Addr) (vc : Nat) (w : World) (hx : exW x < 10000000) (hm : exM w (fun _ => True) x cs) (hv : vrsV w (fun _ => True) vs (va, vc)) (hvl : vs.length ≤ 90000000) :
  Ret Tryz.prog 21 #[.agg cs.toArray, .slice va vs.length vc] w (fun v w' => v = (.tuple #[kdV (outK (kindOf x vs)).1, .agg (ftC (outK (kindOf x vs)).2).toArray]) ∧ Ext w w') := by
 have hcl : cs.length = 4 := exM_len hm
 refine enter (S := No) (l := [_, _]) (L := []) 16 Tryz.func21 rfl rfl rfl (St.start w No) (yA (w_boxA rfl (fun t2b gt2b ut2b => zA zr58 (fun t4b gt4b ut4b => zA zr37 (fun t5b gt5b ut5b => yB (zq (yA (w_loadW z52 rfl (fun w h => h.at_ 2 rfl) hcl ?_))))))))
 rcases hok : exOk x with _ | _
 ·refine zC (v := .bool false) (fun w => zR Tryz.func42 rfl rfl rfl) rfl rfl (fun w h => by have := rexpr_ok x cs _ w hx (hm.nowT zm0 h); rw [hok] at this; exact this) ?_; refine zg (fun _ => R_not rfl) (yB (zE rfl (yA (zg (fun _ => R_build bt58 rfl) (zg (fun _ => R_build bt37 rfl) (zV 1 rfl z58 rfl rfl rfl rfl rfl rfl rfl (zV 0 rfl z37 rfl rfl rfl rfl rfl rfl rfl (yB (ze (zt (?_)))))))))))
  refine r_fin (.inl rfl) rfl (.agg rfl rfl z58 (fun _ h => h.at_ 1 rfl) rfl (.agg rfl rfl z37 (fun _ h => h.at_ 0 rfl) rfl .nil)) ?_; exact fun w' hw => ⟨by unfold kindOf; rw [hok]; rfl, hw.fr _ zm0⟩
 ·refine zC (v := .bool true) (fun w => zR Tryz.func42 rfl rfl rfl) rfl rfl (fun w h => by have := rexpr_ok x cs _ w hx (hm.nowT zm0 h); rw [hok] at this; exact this) ?_; refine zg (fun _ => R_not rfl) (yB (zG rfl (zi (zk (yA (w_loadW z52 rfl (fun w h => h.at_ 2 rfl) hcl (mS rfl (zC (fun w => zR Tryz.func43 rfl rfl rfl) rfl rfl (fun w h => rof_ok x cs vs va vc w hx hok (hm.nowT zm0 h) (hv.nowT zm0 h) hvl) (zg (fun _ => R_extract rfl rfl) (zg (fun _ => R_extract rfl rfl) (zV 1 rfl z58 rfl rfl rfl rfl rfl rfl rfl (zV 0 rfl z37 rfl rfl rfl rfl rfl rfl rfl (yB (ze ?_))))))))))))))
  refine r_fin (.inl rfl) rfl (.agg rfl rfl z58 (fun _ h => h.at_ 1 rfl) rfl (.agg rfl rfl z37 (fun _ h => h.at_ 0 rfl) rfl .nil)) ?_; exact fun w' hw => ⟨by unfold kindOf; rw [hok]; rfl, hw.fr _ zm0⟩

theorem rOf_at (x : Ex) (cs : List Value) (vs : List Vr) (va : Option Addr) (vc : Nat) (w : World) (hx : exW x < 10000000) (hm : exM w (fun _ => True) x cs) (hv : vrsV w (fun _ => True) vs (va, vc)) (hvl : vs.length ≤ 90000000) {k : Nat × Bool} {f : Nat} {a : Int} (ho : outK (kindOf x vs) = (k, (f, a))) : Ret Tryz.prog 21 #[.agg cs.toArray, .slice va vs.length vc] w fun v w' => v = .tuple #[.agg #[.int .u8 (k.1 : Nat), .bool k.2], .agg #[.int .i64 (f : Nat), .int .i64 a]] ∧ Ext w w' := by
 have h := rOf_ok x cs vs va vc w hx hm hv hvl
 rw [ho] at h; exact h
theorem KOf_at2 (x : Ex) (cs : List Value) (vs : List Vr) (va : Option Addr) (vc : Nat) (w : World) (hx : exW x < 10000000) (hm : exM w (fun _ => True) x cs) (hv : vrsV w (fun _ => True) vs (va, vc)) (hvl : vs.length ≤ 90000000) (hW : Wd w) {k : Nat × Bool} {f : Nat} {a : Int} (ho : outK (kindOf x vs) = (k, (f, a))) : Ret Tryz.prog 20 #[.agg cs.toArray, .slice va vs.length vc] w fun v w' => v = .tuple #[.agg #[.int .u8 (k.1 : Nat), .bool k.2], .agg #[.int .i64 (f : Nat), .int .i64 a]] ∧ Ext w w' := by
 have h := KOf_ok x cs vs va vc w hx hm hv hvl hW
 rw [ho] at h; exact h

theorem kindof_walk (x : Ex) (cs : List Value) (vs : List Vr) (va : Option Addr) (vc : Nat) (w : World) (hW : Wd w) (hng : 4 ≤ w.heap.size) (hx : exW x ≤ 1048576) (hm : exM w (fun _ => True) x cs) (hv : vrsV w (fun _ => True) vs (va, vc)) (hvl : vs.length ≤ 1048576) (hvn : ∀ v ∈ vs, v.nm.length ≤ 9223372036854775807) :
  Ret Tryz.prog 7 #[.agg cs.toArray, .slice va vs.length vc] w (fun v w' => v = .bool true ∧ Ext w w') := by
 have hcl : cs.length = 4 := exM_len hm
 refine enter (S := No) (l := [_, _]) (L := []) 72 Tryz.func7 rfl rfl rfl (St.start w No) (yA (w_boxA rfl (fun t2b gt2b ut2b => aB rfl (yB (zq (yA (w_loadW z52 rfl (fun w h => h.at_ 0 rfl) hcl (zC (fun w => zR Tryz.func19 rfl rfl rfl) rfl rfl (fun w h => SmallExpr_spec x cs (fun _ => True) w (by omega) (hm.nowT zm0 h)) (zg (fun _ => R_not rfl) (mB rfl ?_)))))))))); refine zp (t := 13) rfl (fun h2 => ?_) (fun h2 => ?_)
 ·refine zs rfl rfl (bV h2) (zs rfl rfl (bV h2) (zs rfl rfl (bV h2) (zg (v := .bool _) (fun _ => zT (bV h2) rfl) (yB (zE rfl (yA (zC (v := .bool true) (fun w => zR Tryz.func9 rfl rfl rfl) rfl rfl (fun w h => head15_ok w (hW.now zm0 h) (Nat.le_trans hng (h.fr _ zm0).size)) (aB rfl (yB (ze (zt ((zo (v := .bool _) rfl rfl rfl ?_))))))))))))); exact fun w' hw => ⟨rfl, hw.fr _ zm0⟩
 ·refine zw rfl rfl (bV h2) (mS rfl (zw rfl rfl (bV h2) (zg (fun _ => R_len sl34 rfl) (zw rfl rfl (bV h2) (zg (fun _ => R_gt rfl rfl) (zg (v := .bool _) (fun _ => zF (bV h2) rfl) (yB ?_))))))); refine zD rfl (fun h3 => ?_) (fun h3 => ?_)
  ·refine yA (zC (v := .bool true) (fun w => zR Tryz.func9 rfl rfl rfl) rfl rfl (fun w h => head15_ok w (hW.now zm0 h) (Nat.le_trans hng (h.fr _ zm0).size)) (aB rfl (yB (ze (zt ((zo (v := .bool _) rfl rfl rfl ?_))))))); exact fun w' hw => ⟨rfl, hw.fr _ zm0⟩
  ·refine zi (zk (zq (yA (aI rfl (yB (zB (c_loop (fun m e B L => ∃ (i : Nat), e 1 = .slice va vs.length vc ∧ e 2 = .pointer (some ⟨t2b, 0, none⟩) ∧ e 5 = .int .i64 (i : Nat) ∧ B = [(w, No)] ∧ L = [(t2b, cel cs 52)] ∧ i ≤ vs.length ∧ m = vs.length - i) _ ⟨0, rfl, rfl, rfl, rfl, rfl, Nat.zero_le _, rfl⟩ ?_)))))))
   rintro m e B L ⟨i, e1_1, e2_1, e5_1, rfl, rfl, hi, rfl⟩
   refine zq (yA (mI e5_1 (mS e1_1 (zg (fun _ => R_len sl34 rfl) (zg (fun _ => R_lt rfl rfl) (yB ?_)))))); refine zD rfl (fun h4 => ?_) (fun h4 => ?_)
   ·have hlt : i < vs.length := (by omega); obtain ⟨v, hxk⟩ : ∃ x, vs[i]? = some x := ⟨_, List.getElem?_eq_getElem hlt⟩; have hA := hv.2 i v hxk; have hvm := hvn v (List.mem_of_getElem? hxk); have hA1 : ∃ b1 o1, va = some ⟨b1, o1, none⟩ := hA.ptr; obtain ⟨b1, o1, rfl⟩ := hA1
    refine zi (zk (zq (zB (yA (mS e1_1 (mI e5_1 (zg (fun _ => R_iaN (i := i) sl34 rfl rfl (by omega)) (zf fa54_0 rfl (zl (v := str v.nm) z9 rfl (fun w h => hA.cell (x := (_, No)) (fun _ _ h => h) zm0 h 0 _ rfl) (zg (fun _ => R_slen st9 rfl (by omega)) (zg (fun _ => R_gt rfl rfl) (mB rfl ?_)))))))))))); refine zd (t := 32) rfl (fun h5 => ?_) (fun h5 => ?_)
    ·refine zs rfl rfl (bT h5) (zs rfl rfl (bT h5) (zs rfl rfl (bT h5) (zs rfl rfl (bT h5) (zs rfl rfl (bT h5) (zs rfl rfl (bT h5) (zg (v := .bool _) (fun _ => zT (bT h5) rfl) (mB rfl ?_))))))); (iterate 6 refine zs rfl rfl rfl ?_); refine zg (v := .bool _) (fun _ => zT rfl rfl) (yB (zE rfl (yA (zC (v := .bool true) (fun w => zR Tryz.func9 rfl rfl rfl) rfl rfl (fun w h => head15_ok w (hW.now zm0 h) (Nat.le_trans hng (h.fr _ zm0).size)) ?_))))
     refine aB rfl (yB (ze (zb (zt (zt (zb (zt ((zo (v := .bool _) rfl rfl rfl ?_))))))))); exact fun w' hw => ⟨rfl, hw.fr _ zm0⟩
    ·refine zw rfl rfl (bF h5) (mS e1_1 (zw rfl rfl (bF h5) (mI e5_1 (zw rfl rfl (bF h5) (zg (fun _ => R_iaN (i := i) sl34 rfl rfl (by omega)) (zw rfl rfl (bF h5) (zf fa54_1 rfl (zw rfl rfl (bF h5) (zl (v := .int .u8 (v.ty : Nat)) z5 rfl (fun w h => hA.cell (x := (_, No)) (fun _ _ h => h) zm0 h 1 _ rfl) (zw rfl rfl (bF h5) (zg (fun _ => R_lt rfl rfl) (zg (v := .bool _) (fun _ => zF (bF h5) rfl) (mB rfl ?_))))))))))))); refine zd (t := 40) rfl (fun h6 => ?_) (fun h6 => ?_)
     ·refine zs rfl rfl (bT h6) (zs rfl rfl (bT h6) (zs rfl rfl (bT h6) (zs rfl rfl (bT h6) (zs rfl rfl (bT h6) (zs rfl rfl (bT h6) (zg (v := .bool _) (fun _ => zT (bT h6) rfl) (yB (zE rfl (yA (zC (v := .bool true) (fun w => zR Tryz.func9 rfl rfl rfl) rfl rfl (fun w h => head15_ok w (hW.now zm0 h) (Nat.le_trans hng (h.fr _ zm0).size)) (aB rfl (yB (ze (zb (zt (zt (zb (zt ((zo (v := .bool _) rfl rfl rfl ?_)))))))))))))))))))); exact fun w' hw => ⟨rfl, hw.fr _ zm0⟩
     ·refine zw rfl rfl (bF h6) (mS e1_1 (zw rfl rfl (bF h6) (mI e5_1 (zw rfl rfl (bF h6) (zg (fun _ => R_iaN (i := i) sl34 rfl rfl (by omega)) (zw rfl rfl (bF h6) (zf fa54_1 rfl (zw rfl rfl (bF h6) (zl (v := .int .u8 (v.ty : Nat)) z5 rfl (fun w h => hA.cell (x := (_, No)) (fun _ _ h => h) zm0 h 1 _ rfl) (zw rfl rfl (bF h6) (zg (fun _ => R_gt rfl rfl) (zg (v := .bool _) (fun _ => zF (bF h6) rfl) (yB ?_))))))))))))); refine zD rfl (fun h7 => ?_) (fun h7 => ?_)
      ·refine yA (zC (v := .bool true) (fun w => zR Tryz.func9 rfl rfl rfl) rfl rfl (fun w h => head15_ok w (hW.now zm0 h) (Nat.le_trans hng (h.fr _ zm0).size)) (aB rfl (yB (ze (zb (zt (zt (zb (zt ((zo (v := .bool _) rfl rfl rfl ?_))))))))))); exact fun w' hw => ⟨rfl, hw.fr _ zm0⟩
      ·refine zi (zO (zk (zr (mI e5_1 (zg (fun _ => R_addi rfl rfl (by omega)) (aI rfl (zn ?_))))))); exact k_again _ (by omega) ⟨i + 1, e1_1, e2_1, rfl, rfl, rfl, by omega, rfl⟩
   ·refine zX (zx (zx (b_here rfl (zk (yA (w_loadW z52 e2_1 (fun w h => h.at_ 0 rfl) hcl (mS e1_1 ?_)))))))
    obtain ⟨⟨k0, f0, a0⟩, ho1⟩ : ∃ r, outK (kindOf x vs) = r := ⟨_, rfl⟩; refine zC (fun w => zR Tryz.func20 rfl rfl rfl) rfl rfl (fun w h => KOf_at2 x cs vs va vc w (by omega) (hm.nowT zm0 h) (hv.nowT zm0 h) (by omega) (hW.now zm0 h) ho1) ?_
    refine zm rfl (zg (fun _ => R_extract rfl rfl) (zg (fun _ => R_extract rfl rfl) (zA zr58 (fun t6b gt6b ut6b => zA zr37 (fun t7b gt7b ut7b => zV 1 rfl z58 rfl rfl rfl rfl rfl rfl rfl (zV 0 rfl z37 rfl rfl rfl rfl rfl rfl rfl (yC (w_loadW z52 e2_1 (fun w h => h.at_ 2 rfl) hcl (mS e1_1 (zC (fun w => zR Tryz.func21 rfl rfl rfl) rfl rfl (fun w h => rOf_at x cs vs va vc w (by omega) (hm.nowT zm0 h) (hv.nowT zm0 h) (by omega) ho1) (zm rfl (zg (fun _ => R_extract rfl rfl) (zg (fun _ => R_extract rfl rfl) (zA zr58 (fun t8b gt8b ut8b => zA zr37 (fun t9b gt9b ut9b => zV 1 rfl z58 rfl rfl rfl rfl rfl rfl rfl (zV 0 rfl z37 rfl rfl rfl rfl rfl rfl rfl (yC (zY z58 rfl (fun _ h => h.at_ 3 rfl) rfl (zY z58 rfl (fun _ h => h.at_ 1 rfl) rfl (zg (fun _ => R_eqS fl58 rfl rfl (eqK_run (n := 9998) fl58 z5 z4 un5 unb4)) (mB rfl (zw rfl rfl (congrArg Value.bool (by simp)) (zY z37 rfl (fun _ h => h.at_ 2 rfl) rfl (zw rfl rfl (congrArg Value.bool (by simp)) (zY z37 rfl (fun _ h => h.at_ 0 rfl) rfl (zw rfl rfl (congrArg Value.bool (by simp)) (zg (fun _ => R_eqS fl37 rfl rfl (eq2_run (n := 9998) fl37 z35 z3 un35 un3)) (zg (v := .bool _) (fun _ => zT (congrArg Value.bool (by simp)) rfl) (mB rfl (zw rfl rfl (congrArg Value.bool (by simp)) (zC (v := .bool true) (fun w => zR Tryz.func9 rfl rfl rfl) rfl rfl (fun w h => head15_ok w (hW.now zm0 h) (Nat.le_trans hng (h.fr _ zm0).size)) (zg (v := .bool _) (fun _ => zT (congrArg Value.bool (by simp)) rfl) (aB rfl (yB (ze (zo (v := .bool _) rfl rfl rfl ?_))))))))))))))))))))))))))))))))))))); exact fun w' hw => ⟨rfl, hw.fr _ zm0⟩

end Go.Proofs.YtoehjlmdnajibaaGreatDoor
end

section
namespace Go.Sx
open Go.RowKit Go.Tree
theorem at_of {w : World} {base b o n k : Nat} {cs : List Value} (h : w.cells? base ((⟨b, o, none⟩ : Addr).add n) k = some cs) : At w (fun _ => True) (some ⟨b, o, none⟩) n cs := by
  obtain ⟨_, hl, hc⟩ := World.cells?_some h
  refine ⟨b, o, rfl, trivial, fun j v hj => ?_⟩
  have hj2 := (List.getElem?_eq_some_iff.1 hj).1
  have := hc j (by omega)
  rw [hj] at this
  rw [← this]
  congr 1
  unfold Addr.add
  by_cases h1 : n = 0 <;> by_cases h2 : j = 0 <;> simp [h1, h2, Nat.add_assoc]
theorem spot_of {w : World} {base k : Nat} {a : Addr} {cs : List Value} (hk : 0 < k) (h : w.cells? base (a.add 0) k = some cs) : a.spot = none := by
  obtain ⟨_, hl, hc⟩ := World.cells?_some h
  have h0 := hc 0 hk
  rw [List.getElem?_eq_getElem (by omega)] at h0
  simpa [Addr.add] using World.cell?_spot h0
theorem list_of {α : Type} {Q : Nat → α → Prop} : ∀ {n : Nat}, (∀ i, i < n → ∃ z, Q i z) → ∃ l : List α, l.length = n ∧ ∀ i z, l[i]? = some z → Q i z
  | 0, _ => ⟨[], rfl, fun i z h => by simp at h⟩
  | n + 1, h => by
    obtain ⟨l, hl, hq⟩ := list_of (n := n) (fun i hi => h i (by omega))
    obtain ⟨z, hz⟩ := h n (by omega)
    refine ⟨l ++ [z], by simp [hl], fun i y hy => ?_⟩
    by_cases hi : i < l.length
    · rw [List.getElem?_append_left hi] at hy
      exact hq i y hy
    · rw [List.getElem?_append_right (by omega)] at hy
      have h1 := (List.getElem?_eq_some_iff.1 hy).1
      have h2 : i = n := by simp at h1; omega
      subst h2
      rw [hl, Nat.sub_self] at hy
      obtain rfl : z = y := by simpa using hy
      exact hz
theorem sum_le {α β : Type} {f : α → Nat} {g : β → Nat} : ∀ (l : List α) (m : List β), l.length = m.length → (∀ (i : Nat) (z : α) (y : β), l[i]? = some z → m[i]? = some y → f z + 1 ≤ g y) → l.length + (l.map f).sum ≤ (m.map g).sum
  | [], [], _, _ => Nat.zero_le _
  | [], _ :: _, h, _ => by simp at h
  | _ :: _, [], h, _ => by simp at h
  | x :: l, y :: m, h, hq => by
    have h1 := hq 0 x y rfl rfl
    have h2 := sum_le l m (by simpa using h) (fun i z u hz hu => hq (i + 1) z u (by simpa using hz) (by simpa using hu))
    simp only [List.length_cons, List.map_cons, List.sum_cons]; omega
section
variable {H : Type} {enc : TypeId × Value → H} {P : Program} {w : World} {sp : Nat → Bool} {hd : Bool}
theorem open_list {α : Type} {R : α → List Value → Prop} {wt : α → Nat} {bk : DataW H → Nat} (hbs : ∀ es rs, (es.map bk).sum ≤ bk (.slice es rs)) {t e k fuel : Nat} {cs : List Value} {x : DataW H × List MemPlace}
    (ht : P.underlying t = some (.slice e)) (hk : P.cellsOf e = k) (hk0 : 0 < k) (h : DataW.trod enc P w 0 sp hd fuel t cs = some x)
    (ih : ∀ n cs y, n < fuel → DataW.trod enc P w 0 sp hd n e cs = some y → ∃ z, R z cs ∧ wt z + 1 ≤ bk y.1) :
    ∃ (l : List α) (a : Option Addr) (c : Nat), cs = [.slice a l.length c] ∧ l.length ≤ c ∧ l.length + (l.map wt).sum ≤ bk x.1 ∧ ∀ i z, l[i]? = some z → ∃ cs', At w (fun _ => True) a (i * k) cs' ∧ R z cs' := by
  rcases DataW.trod_slice ht h with ⟨rfl, rfl⟩ | ⟨a, len, cap, elems, rest, n, rfl, rfl, rfl, hb, hl, hm, hlen, hel, _, _⟩
  · exact ⟨[], none, 0, rfl, Nat.zero_le _, by simp, fun i z hz => by simp at hz⟩
  rw [hk] at hel
  obtain ⟨l, hll, hq⟩ := list_of (n := len) (Q := fun i z => ∃ cs' y, w.cells? 0 (a.add (i * k)) k = some cs' ∧ elems[i]? = some y ∧ R z cs' ∧ wt z + 1 ≤ bk y.1) (fun i hi => by
    have h1 := hel i hi
    rw [List.getElem?_eq_getElem (by omega)] at h1
    obtain ⟨cs', h2, h3⟩ := Option.bind_eq_some_iff.1 h1
    obtain ⟨z, h4, h5⟩ := ih n cs' _ (Nat.lt_succ_self n) h3
    exact ⟨z, cs', _, h2, List.getElem?_eq_getElem (by omega), h4, h5⟩)
  refine ⟨l, some a, cap, by rw [hll], by omega, ?_, fun i z hz => ?_⟩
  · refine Nat.le_trans ?_ (hbs _ _)
    rw [List.map_map]
    refine sum_le l elems (by omega) (fun i z y hz hy => ?_)
    obtain ⟨_, y', _, h2, _, h4⟩ := hq i z hz
    rw [hy] at h2
    obtain rfl := Option.some.inj h2
    exact h4
  · have hi := (List.getElem?_eq_some_iff.1 hz).1
    have hs : a.spot = none := by
      obtain ⟨z0, hz0⟩ : ∃ z, l[0]? = some z := ⟨_, List.getElem?_eq_getElem (by omega)⟩
      obtain ⟨cs', _, h1, _⟩ := hq 0 z0 hz0
      rw [Nat.zero_mul] at h1
      exact spot_of hk0 h1
    obtain ⟨b, o, s⟩ := a
    simp only at hs
    subst hs
    obtain ⟨cs', _, h1, _, h3, _⟩ := hq i z hz
    exact ⟨cs', at_of h1, h3⟩
end
theorem len4 {α : Type} {l : List α} (h : l.length = 4) : ∃ a b c d, l = [a, b, c, d] := by
  match l, h with
  | [a, b, c, d], _ => exact ⟨a, b, c, d, rfl⟩
theorem exsM_of {w : World} {N : Nat → Prop} {a : Option Addr} : ∀ (l : List Ex) (i0 : Nat), (∀ i z, l[i]? = some z → ∃ cs, At w N a (i0 + i * 4) cs ∧ exM w N z cs) → exsM w N l a i0
  | [], _, _ => by unfold exsM; trivial
  | x :: l, i0, h => by
    unfold exsM
    refine ⟨by simpa using h 0 x rfl, exsM_of l (i0 + 4) (fun i z hz => ?_)⟩
    have := h (i + 1) z (by simpa using hz)
    rwa [show i0 + (i + 1) * 4 = i0 + 4 + i * 4 by omega] at this
theorem exsW_sum : ∀ l : List Ex, exsW l = (l.map exW).sum
  | [] => rfl
  | x :: l => by rw [exsW, exsW_sum l]; rfl
end Go.Sx
end

section
namespace Go.Proofs.YtoehjlmdnajibaaGreatDoor
open Go.RowKit Go.Sx
open Go.Tok Go.Tree

theorem cel5 : Tryz.prog.cellsOf 5 = 1 := by kernel_rfl
theorem cel3 : Tryz.prog.cellsOf 3 = 1 := by kernel_rfl
theorem cel9 : Tryz.prog.cellsOf 9 = 1 := by kernel_rfl
theorem cel4 : Tryz.prog.cellsOf 4 = 1 := by kernel_rfl
theorem cel47 : Tryz.prog.cellsOf 47 = 1 := by kernel_rfl
theorem cel52 : Tryz.prog.cellsOf 52 = 4 := by kernel_rfl
section
variable {H : Type} {enc : TypeId × Value → H} {W : World} {sp : Nat → Bool} {hd : Bool}

theorem bulkAll_sum : ∀ l : List (DataW H), Rows.uptoBulkAll l = (l.map Rows.uptoBulk).sum
  | [] => by simp [Rows.uptoBulkAll]
  | d :: l => by rw [Rows.uptoBulkAll, bulkAll_sum l]; simp
theorem bulk_slice (es rs : List (DataW H)) : (es.map Rows.uptoBulk).sum ≤ Rows.uptoBulk (.slice es rs) := by rw [Rows.uptoBulk, bulkAll_sum]; omega
theorem open_ex : ∀ (fuel : Nat) (cs : List Value) (x : DataW H × List MemPlace), DataW.trod enc Tryz.prog W 0 sp hd fuel 52 cs = some x → ∃ z : Ex, exM W (fun _ => True) z cs ∧ exW z + 1 ≤ Rows.uptoBulk x.1 := by
  intro fuel
  induction fuel using Nat.strongRecOn with | _ fuel ih => ?_
  intro cs x h
  obtain ⟨xs, n, rfl, rfl, hl, hxl, hf⟩ := DataW.trod_struct Tryz.underlying52 h
  have hl := hl.trans cel52
  obtain ⟨c0, c1, c2, c3, rfl⟩ := len4 hl
  obtain ⟨y0, y1, y2, y3, rfl⟩ := len4 (hxl.trans rfl)
  have h0 : DataW.trod enc Tryz.prog W 0 sp hd n 5 (([c0, c1, c2, c3].drop 0).take (Tryz.prog.cellsOf 5)) = some y0 := hf 0 _ rfl
  rw [cel5] at h0
  obtain ⟨n0, e0, rfl, wf0⟩ := DataW.trod_int Tryz.underlying5 h0; obtain rfl : _ = _ := (List.cons.inj e0).1
  have h1 : DataW.trod enc Tryz.prog W 0 sp hd n 3 (([_, c1, c2, c3].drop 1).take (Tryz.prog.cellsOf 3)) = some y1 := hf 1 _ rfl
  rw [cel3] at h1
  obtain ⟨n1, e1, rfl, wf1⟩ := DataW.trod_int Tryz.underlying3 h1; obtain rfl : _ = _ := (List.cons.inj e1).1
  have h2 : DataW.trod enc Tryz.prog W 0 sp hd n 9 (([_, _, c2, c3].drop 2).take (Tryz.prog.cellsOf 9)) = some y2 := hf 2 _ rfl
  rw [cel9] at h2
  obtain ⟨s2, e2, rfl, wf2⟩ := DataW.trod_string Tryz.underlying9 h2; obtain rfl : _ = _ := (List.cons.inj e2).1
  have h3 : DataW.trod enc Tryz.prog W 0 sp hd n 47 (([_, _, _, c3].drop 3).take (Tryz.prog.cellsOf 47)) = some y3 := hf 3 _ rfl
  rw [cel47] at h3
  obtain ⟨l3, a3, k3, e3, hk3, hb3, hl3⟩ := open_list (R := exM W (fun _ => True)) (wt := exW) bulk_slice Tryz.underlying47 cel52 (by decide) h3 (fun m cs y hm hy => ih m (by omega) cs y hy); obtain rfl : _ = _ := (List.cons.inj e3).1
  have w0 := bounds_u8 wf0; obtain ⟨m0, rfl⟩ : ∃ m : Nat, n0 = m := ⟨n0.toNat, by omega⟩
  refine ⟨.mk m0 n1 s2.data.toList l3, ?_, ?_⟩
  · unfold exM; exact ⟨a3, k3, by simp [str], hk3, exsM_of _ 0 (fun i z hz => by rw [Nat.zero_add]; exact hl3 i z hz)⟩
  · unfold exW; rw [exsW_sum]
    simp only [List.map_cons, List.map_nil, Rows.uptoBulk, Rows.uptoBulkAll]
    omega

end
end Go.Proofs.YtoehjlmdnajibaaGreatDoor
end

section
namespace Go.Proofs.YtoehjlmdnajibaaGreatDoor
open Go.RowKit Go.Sx
open Go.Tok Go.Tree Go.Knd

theorem cel54 : Tryz.prog.cellsOf 54 = 4 := by kernel_rfl
def vrMC (_ : World) (_ : Nat → Prop) (v : Vr) (cs : List Value) : Prop := cs = vrC v ∧ v.nm.length ≤ 9223372036854775807
def vrW (_ : Vr) : Nat := 0
section
variable {H : Type} {enc : TypeId × Value → H} {W : World} {sp : Nat → Bool} {hd : Bool}

theorem open_var : ∀ (fuel : Nat) (cs : List Value) (x : DataW H × List MemPlace), DataW.trod enc Tryz.prog W 0 sp hd fuel 54 cs = some x → ∃ z : Vr, vrMC W (fun _ => True) z cs ∧ vrW z + 1 ≤ Rows.uptoBulk x.1 := by
 intro fuel
 induction fuel using Nat.strongRecOn with | _ fuel ih => ?_
 intro cs x h
 obtain ⟨xs, n, rfl, rfl, hl, hxl, hf⟩ := DataW.trod_struct Tryz.underlying54 h
 have hl := hl.trans cel54
 obtain ⟨c0, c1, c2, c3, rfl⟩ := len4 hl
 obtain ⟨y0, y1, y2, y3, rfl⟩ := len4 (hxl.trans rfl)
 have h0 : DataW.trod enc Tryz.prog W 0 sp hd n 9 (([c0, c1, c2, c3].drop 0).take (Tryz.prog.cellsOf 9)) = some y0 := hf 0 _ rfl
 rw [cel9] at h0
 obtain ⟨s0, e0, rfl, wf0⟩ := DataW.trod_string Tryz.underlying9 h0; obtain rfl : _ = _ := (List.cons.inj e0).1
 have h1 : DataW.trod enc Tryz.prog W 0 sp hd n 5 (([_, c1, c2, c3].drop 1).take (Tryz.prog.cellsOf 5)) = some y1 := hf 1 _ rfl
 rw [cel5] at h1
 obtain ⟨n1, e1, rfl, wf1⟩ := DataW.trod_int Tryz.underlying5 h1; obtain rfl : _ = _ := (List.cons.inj e1).1
 have h2 : DataW.trod enc Tryz.prog W 0 sp hd n 3 (([_, _, c2, c3].drop 2).take (Tryz.prog.cellsOf 3)) = some y2 := hf 2 _ rfl
 rw [cel3] at h2
 obtain ⟨n2, e2, rfl, wf2⟩ := DataW.trod_int Tryz.underlying3 h2; obtain rfl : _ = _ := (List.cons.inj e2).1
 have h3 : DataW.trod enc Tryz.prog W 0 sp hd n 4 (([_, _, _, c3].drop 3).take (Tryz.prog.cellsOf 4)) = some y3 := hf 3 _ rfl
 rw [cel4] at h3
 obtain ⟨q3, e3, rfl⟩ := DataW.trod_bool Tryz.underlying4 h3; obtain rfl : _ = _ := (List.cons.inj e3).1
 have w1 := bounds_u8 wf1; obtain ⟨m1, rfl⟩ : ∃ m : Nat, n1 = m := ⟨n1.toNat, by omega⟩
 refine ⟨⟨s0.data.toList, m1, n2, q3⟩, ?_, ?_⟩
 ·exact ⟨by simp [str], by have := wf0; unfold maxLen at this; simp; omega⟩
 ·unfold vrW
  simp only [List.map_cons, List.map_nil, Rows.uptoBulk, Rows.uptoBulkAll]
  omega

theorem open_vrs (fuel : Nat) {cs : List Value} {x : DataW H × List MemPlace} (h : DataW.trod enc Tryz.prog W 0 sp hd fuel 34 cs = some x) : ∃ (l : List Vr) (a : Option Addr) (c : Nat), cs = [.slice a l.length c] ∧ l.length ≤ c ∧ l.length + (l.map vrW).sum ≤ Rows.uptoBulk x.1 ∧ ∀ i z, l[i]? = some z → ∃ cs', At W (fun _ => True) a (i * 4) cs' ∧ vrMC W (fun _ => True) z cs' :=
 open_list bulk_slice Tryz.underlying34 cel54 (by decide) h (fun m cs y _ hy => open_var m cs y hy)

end
end Go.Proofs.YtoehjlmdnajibaaGreatDoor
end

section
namespace Go.Proofs.YtoehjlmdnajibaaGreatDoor
open Go.ChangeShapes Go.WideShapes Go.ChangeAt Go.RowKit Go.Sx
open Go.ChangeMaps (open_string)
theorem own : ownKnob Tryz.prog.godebug = none := by kernel_rfl
theorem below_ext {w w' : World} (h : Ext w w') : Below w.heap.size w w' := ⟨h.os, h.tape, h.output, h.size, fun k hk => h.blk k hk (fun x => x)⟩
section
variable {H : Type} {enc : TypeId × Value → H} {P : Program}
theorem post_ext2 {f : Func} {s : ChangeSpec} {apart fresh handsOn : Bool} {W W' : World} {args : Array Value} {v : Value} {ds gs : List (DataW H)} {before pa pv : List MemPlace}
    (hW : DataW.Whole enc P f.params.toList s.vars apart W args.toList ds gs before)
    (hres : ∀ (b : Nat) (sp : Nat → Bool) (hd : Bool), DataW.TrodAll enc P W' b sp hd f.resultTypes.toList (v.resultList f.resultTypes.size) (s.fn H (ds ++ gs)).results [])
    (hargs : DataW.TrodAll enc P W' 0 (fun b => decide (b < W.heap.size)) true f.params.toList args.toList (s.fn H (ds ++ gs)).args pa)
    (hvars : ∀ sp : Nat → Bool, (∀ p ∈ before, sp p.block = true) → DataW.TrodVars enc P W' sp s.vars (s.fn H (ds ++ gs)).vars pv)
    (hps : before = pa ++ pv) (hb : Below W.heap.size W W') : s.post enc P f apart fresh handsOn false W args v W' := by
  have hold : ∀ p ∈ before, (fun b => decide (b < W.heap.size)) p.block = true := fun p hp => by simpa using hW.lt p hp
  exact ⟨ds, gs, before, [], pa, pv, hW, hres _ _ _, hargs, hvars _ hold, hb.frame _, fun h => by cases h⟩
end
theorem agg_of {v : Value} {n : Nat} (h : v.cells.toList.length = n + 2) : v = .agg v.cells.toList.toArray := by
  cases v <;> first | rfl | (simp [Value.cells] at h)
theorem laidB : laidOutB Tryz.prog = true := by kernel_rfl
theorem door_met (os : Os) (args : Array Value) : laidMetH Tryz.prog Rows.kindOfUptoRow.laid ((World.doorLaid Tryz.prog 400 os).forCall (fun _ _ => 0) ⟨#[], args, []⟩).memory :=
  laidMetH_of_parts3 (fuel := 8) (laidMet_of_run' 8 (by kernel_rfl) (by kernel_rfl)) (by kernel_rfl) (by kernel_rfl)
theorem tb_of_laid {W : World} (h : laidMetH Tryz.prog Rows.kindOfUptoRow.laid W) : Tb W := by
  rw [MakeChecks.laidMetH_plain _ _ _ (by kernel_rfl)] at h
  obtain ⟨ps, ⟨g0, t0, cs0, f0, p0, q0, hg0, ht0, hv0, hd0, ⟨g1, t1, cs1, f1, p1, q1, hg1, ht1, hv1, hd1, hr1, hq0⟩, hps⟩, hn, hm⟩ := h
  refine Tb.of (Lib.tabIs_of_head (g := 1) (t := 195) (e := 5) (n := 256) (rest := []) (by kernel_rfl) (by kernel_rfl) Tryz.underlying195 Tryz.underlying5 (by kernel_rfl) (by kernel_rfl) (W := W) ⟨q0, ⟨g1, t1, cs1, f1, p1, q1, hg1, ht1, hv1, hd1, hr1, hq0⟩, ?_, ?_⟩)
  · rw [hps] at hn; exact (List.nodup_append.1 hn).2.1
  · exact fun b off hx => hm b off (by rw [hps]; exact List.mem_append.2 (.inr hx))
theorem size_of_shaped {P : Program} {w : World} {g : Nat} (h : w.ShapedOpen P) (hg : g < P.globals.size) (h0 : (((begin P (fun _ _ => 0) default).world.heap[g]?).bind Obj.row?).isSome = true) : g < w.heap.size := by
  obtain ⟨⟨zero, t⟩, h1⟩ := Option.isSome_iff_exists.1 h0
  obtain ⟨cs, hh, _⟩ := h.1 g zero t hg h1
  exact (Array.getElem?_eq_some_iff.1 hh).1

theorem kindOf_reads (os : Os) {H : Type} (enc : TypeId × Value → H) : DataW.whole enc Tryz.prog ((World.doorLaid Tryz.prog 400 os).forCall (fun _ _ => 0) ⟨#[], #[(.agg #[.int .u8 0, .int .i64 0, .string ⟨#[]⟩, .slice none 0 0]), .slice none 0 0], []⟩).memory Tryz.f7.params.toList Rows.kindOfSpec.vars false #[(.agg #[.int .u8 0, .int .i64 0, .string ⟨#[]⟩, .slice none 0 0]), .slice none 0 0].toList 8 = some ([.agg [.lit (.int .u8 0), .lit (.int .i64 0), .lit (.string []), .nil], .nil], [], []) := by kernel_rfl
theorem kindOf_lifted (os : Os) (started : os.Started) (H : Type) (enc : TypeId × Value → H) (F : Stop.Interp) :
    ReturnsInHanded {} Tryz.checked os 7 .any ((Rows.OpenSpec.upto Rows.kindOfSpec).preRow enc Tryz.prog Tryz.f7 Rows.kindOfUptoRow.domain false Rows.kindOfUptoRow.laid) (((Rows.OpenSpec.upto Rows.kindOfSpec).at F).post enc Tryz.prog Tryz.f7 false true false false) := by
  refine returnsInHanded_of_row (C := Tryz.checked) (s := Rows.OpenSpec.upto Rows.kindOfSpec) own started (by kernel_rfl) Tryz.func7
    (witness_row_atRef (enc := enc) (C := Tryz.checked) false (World.doorLaid Tryz.prog 400 os) #[(.agg #[.int .u8 0, .int .i64 0, .string ⟨#[]⟩, .slice none 0 0]), .slice none 0 0] rfl (by kernel_rfl) (by kernel_rfl) (by kernel_rfl)
      (OpenSpec.preRow_of_cond 8 (kindOf_reads os enc) (by rfl) (fun k hkk => by cases hkk; kernel_rfl) (by kernel_rfl) (door_met os _))) ?_
  intro W base args ds gs before hval0 hW _ hcond _ hL hsh _
  have hval : ∀ (j : Nat) t v, Tryz.f7.params[j]? = some t → args[j]? = some v → Value.okWide Tryz.prog W .any base t v := hval0
  have hW' := hW
  have hlt : ∀ y ∈ before, y.block < W.heap.size := fun y hy => by simpa using hW'.lt y hy
  obtain ⟨p, q, hA0, hV, rfl, _, _⟩ := hW
  have hA : DataW.TrodAll enc Tryz.prog W 0 (fun _ => true) true Tryz.f7.params.toList args.toList ds p := hA0
  rw [Tryz.params7] at hA hval
  obtain ⟨v0, v1, d0, d1, p0, p1, rfl, rfl, rfl, h0, h1⟩ := trodAll_two hA
  obtain ⟨rfl, rfl⟩ := trodVars_none hV
  have hk0 := h0
  obtain ⟨f0, ht0⟩ := h0
  obtain ⟨x0, hm0, hb0⟩ := open_ex f0 _ _ ht0
  have ha0 := agg_of (n := 2) (exM_len hm0)
  obtain ⟨cs0, hcs0⟩ : ∃ cs, cs = v0.cells.toList := ⟨_, rfl⟩
  rw [← hcs0] at ha0 hm0
  dsimp only at hb0
  have hk1 := h1
  obtain ⟨f1, ht1⟩ := h1
  obtain ⟨x1, a1, c1, e1, hc1, hb1, hl1⟩ := open_vrs f1 ht1
  obtain ⟨va1, vn1, vm1, ha1⟩ := Go.WideShapes.okWide_slice Tryz.underlying34 (hval 1 34 v1 rfl rfl)
  have ev1 : v1 = .slice a1 x1.length c1 := by rw [ha1] at e1 ⊢; simpa [Value.cells] using e1
  clear ha1
  dsimp only at hb1
  have hv1 : vrsV W (fun _ => True) x1 (a1, c1) := ⟨hc1, fun k v hk => by obtain ⟨cs', hA, rfl, _⟩ := hl1 k v hk; exact hA⟩
  have hn1 : ∀ v ∈ x1, v.nm.length ≤ 9223372036854775807 := fun v hv => by obtain ⟨k, hk⟩ := List.getElem?_of_mem hv; obtain ⟨_, _, _, h⟩ := hl1 k v hk; exact h
  have hbk := of_decide_eq_true (hcond _ rfl)
  simp only [Rows.uptoBulkAll, List.cons_append, List.nil_append] at hbk
  have ht := tb_of_laid hL
  have hml := cell_of_shapedOpen_int hsh (zero := #[.int .i64 0]) (g := 0) (t := 3) (by decide) (by kernel_rfl) rfl (by kernel_rfl) (by kernel_rfl) Tryz.underlying3
  clear hA0 hval0
  simp only [List.append_nil] at hW' hlt
  subst ha0; subst ev1
  refine Calls.mono (kindof_walk x0 cs0 x1 a1 c1 W ⟨ht, ht.lt, hml⟩ (size_of_shaped hsh (g := 3) (by decide) (by kernel_rfl)) (by omega) hm0 hv1 (by omega) hn1) fun e W' ⟨v, he, hv, hx⟩ => ?_
  subst he; subst hv
  exact ⟨_, rfl, post_ext2 (pv := []) hW' (fun _ _ _ => trodAll_mk1 (shut_bool Tryz.underlying4 _)) (trodAll_mk2 (Below.trod laidB (by kernel_rfl) (of_decide_eq_true (by kernel_rfl)) hk0 (below_ext hx) (fun y hy => hlt y (by simp [hy]))) (Below.trod laidB (by kernel_rfl) (of_decide_eq_true (by kernel_rfl)) hk1 (below_ext hx) (fun y hy => hlt y (by simp [hy])))) (fun _ _ => rfl) (by simp) (below_ext hx)⟩
theorem kindOfUpto_holds : Rows.KindOfUptoSaid :=
  OpenClaim.holds_of_cond 7 Tryz.f7 rfl rfl rfl rfl rfl rfl rfl ⟨rfl, rfl, rfl, rfl, rfl⟩ rfl rfl rfl rfl rfl (by kernel_rfl) Tryz.func7 (by kernel_rfl)
    (of_decide_eq_true (by kernel_rfl)) (by unfold Func.isWrapper; first | (rw [if_pos (by decide +kernel)]; kernel_rfl) | (rw [if_neg (by decide +kernel)]; exact ⟨rfl, rfl⟩))
    (fun os started H enc _ F => by rw [OpenClaim.pre_eq_preRow]; exact kindOf_lifted os started H enc F)
end Go.Proofs.YtoehjlmdnajibaaGreatDoor
end

section
namespace Go.Proofs.YtoehjlmdnajibaaGreatDoor
open Go
theorem kindOfUpto_card : Rows.KindOfUptoCardSaid :=
  Claim7.holds_tied_plain_at .later [] [.listed, .data] true (true, "65e2bdec9cfab438602a072c417bd6688cb10ffb3f463ce8d6a4e5789ff575b6") true
    kindOfUpto_holds (fun _ h => by cases h) (by kernel_rfl) (fun _ h => by cases h) kindOfUpto_row_tie rfl ⟨rfl, rfl⟩ (by kernel_rfl) rfl
    (fun f fn hf hfn => by
      obtain rfl : f = 7 := Option.some.inj ((show Tryz.prog.funcNamed "stepstone/stepstonelaw15.KindOf" = some 7 by kernel_rfl).symm.trans hf) |>.symm
      obtain rfl : fn = Tryz.f7 := (Option.some.inj (Tryz.func7.symm.trans hfn)).symm
      exact ⟨by kernel_rfl, fun j t ht => by
        rw [Tryz.params7] at ht
        rcases j with _ | _ | j
        · obtain rfl : t = 52 := by simpa using ht.symm
          exact (show Tryz.prog.wantsStandIn 52 = false by kernel_rfl)
        · obtain rfl : t = 34 := by simpa using ht.symm
          exact (show Tryz.prog.wantsStandIn 34 = false by kernel_rfl)
        · simp at ht⟩)
    (by kernel_rfl)
end Go.Proofs.YtoehjlmdnajibaaGreatDoor
end
