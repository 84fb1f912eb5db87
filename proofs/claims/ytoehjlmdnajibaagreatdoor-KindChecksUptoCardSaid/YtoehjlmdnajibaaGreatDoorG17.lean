/- Layer 15, KindChecks: Check and Vars of kind tell the fault, and the variables, of the document, for programs of at most 600 nodes and names of at most 200 bytes; in the Upto form. Part 17 of 17. -/
import Derived.Test.YtoehjlmdnajibaaGreatDoorG16
import Derived.ChangeArms
import Derived.OpenShut
import Derived.Test.YtoehjlmdnajibaaGreatDoorRows
import Derived.Deep.DeepHandedRow
import Derived.ProofKit
import Derived.LaidMore
import Derived.Shelf.Vars
import Derived.Carry
import Derived.JoinedCond
import Derived.Deep.DeepWitnessRowRef
import Derived.Stop.Joined
import Derived.Test.YtoehjlmdnajibaaGreatDoorTie
import Derived.Test.YtoehjlmdnajibaaGreatDoorCards
import Derived.SevenTiedAt
set_option maxRecDepth 100000
set_option maxHeartbeats 16000000
section
namespace Go.Proofs.YtoehjlmdnajibaaGreatDoor
open Go.RowKit Go.Sx
open Go.Tok Go.Tree Go.Knd Go.Prs
theorem rCheck_at (p : List Bk) (cs : List Value) (w : World) (hp : ∀ b ∈ p, bkW b ≤ 1048576) (hm : pgM w (fun _ => True) p cs) {l0 : List Vr} {f0 : Nat} {a0 : Int} (ho : outV (allK p) = (l0, (f0, a0))) : Ret Tryz.prog 13 #[.agg cs.toArray] w fun v w' => ∃ b : Option Addr × Nat, v = .tuple #[vsV l0 b, .agg #[.int .i64 (f0 : Nat), .int .i64 a0]] ∧ vrsV w' (Nn w w') l0 b ∧ Ext w w' := by
  have h := rCheck15_ok p cs w hp hm
  rw [ho] at h; exact h
theorem kVars_at2 (p : List Bk) (cs : List Value) (w : World) (hp : ∀ b ∈ p, bkW b < 10000000) (hm : pgM w (fun _ => True) p cs) (hW : Wd w) {l0 : List Vr} {f0 : Nat} {a0 : Int} (ho : outV (allK p) = (l0, (f0, a0))) : Ret Tryz.prog 16 #[.agg cs.toArray] w fun v w' => ∃ b : Option Addr × Nat, v = vsV l0 b ∧ vrsW w' (Nn w w') l0 b ∧ Ext w w' := by
  have h := kVars_ok p cs w hp hm hW
  rw [ho] at h; exact h
theorem kCheck_at2 (p : List Bk) (cs : List Value) (w : World) (hp : ∀ b ∈ p, bkW b < 10000000) (hm : pgM w (fun _ => True) p cs) (hW : Wd w) {l0 : List Vr} {f0 : Nat} {a0 : Int} (ho : outV (allK p) = (l0, (f0, a0))) : Ret Tryz.prog 14 #[.agg cs.toArray] w fun v w' => v = .agg #[.int .i64 (f0 : Nat), .int .i64 a0] ∧ Ext w w' := by
  have h := kCheck_ok p cs w hp hm hW
  rw [ho] at h; exact h
theorem out_len {p : List Bk} (h6 : p.length = 6) (hp : ∀ b ∈ p, bkW b ≤ 1048576) {l0 : List Vr} {f0 : Nat} {a0 : Int} (ho : outV (allK p) = (l0, (f0, a0))) : l0.length ≤ 90000000 := by
  cases hX : allK p with
  | error f => rw [hX] at ho; cases ho; exact Nat.zero_le _
  | ok l =>
    rw [hX] at ho; cases ho
    have := allK_len (m := 1048576) h6 (fun b hb => by have := hp b hb; unfold bkW at this; omega) hX
    omega
theorem kindchecks_walk (p : List Bk) (cs : List Value) (w : World) (hW : Wd w) (hng : 4 ≤ w.heap.size) (hp : ∀ b ∈ p, bkW b ≤ 1048576) (hm : pgM w (fun _ => True) p cs) :
    Ret Tryz.prog 4 #[.agg cs.toArray] w (fun v w' => v = .bool true ∧ Ext w w') := by
  refine enter (S := No) (l := [_]) (L := []) 27 Tryz.func4 rfl rfl rfl (St.start w No) (yA (w_boxA rfl (fun t1b gt1b ut1b => aB rfl (yB (zq (yA (w_loadW z32 rfl (fun w h => h.at_ 0 rfl) hm.len (jD Tryz.func12 (fun w h => Small_spec p cs (fun _ => True) w (fun b hb => Nat.lt_of_le_of_lt (hp b hb) (by decide)) (hm.now (x := (_, No)) (fun _ _ h => h) zm0 h)) (jk rfl (yB ?_)))))))))); refine c_condN rfl (fun h2 => ?_) (fun h2 => ?_)
  · refine yA (jD (v := .bool true) Tryz.func9 (fun w h => head15_ok w (hW.now zm0 h) (Nat.le_trans hng (h.fr _ zm0).size)) (aB rfl (yB (ze (zt ((zo (v := .bool _) rfl rfl rfl ?_))))))); exact fun w' hw => ⟨rfl, hw.f0⟩
  refine zi (zk (yA (w_loadW z32 rfl (fun w h => h.at_ 0 rfl) hm.len ?_)))
  obtain ⟨⟨l0, f0, a0⟩, ho⟩ : ∃ r, outV (allK p) = r := ⟨_, rfl⟩; have hl0 := out_len hm.six hp ho; refine zP (fun w => zR Tryz.func13 rfl rfl rfl) rfl rfl (fun w h => rCheck_at p cs w hp (hm.now (x := (_, No)) (fun _ _ h => h) zm0 h) ho) ?_
  rintro w1 hw1 v w2 ⟨⟨a2, c2⟩, rfl, hM, hxx⟩; refine ⟨_, _, (hw1.ext hxx).base1, ?_⟩; have hK : Kt (w2, inL [_]) w.heap.size vrsV l0 (a2, c2) := Kt.new hM TL.vrs hw1 (hw1.fr _ zm0).size; clear hM
  refine zm rfl (jx rfl rfl (jx rfl rfl (zA zr37 (fun t4b gt4b ut4b => za (v := .slice _ _ _) rfl (jv 0 z37 rfl (yB (zq (c_heldS mixed (zh (v := .agg cs.toArray) 0 rfl (by kernel_rfl) rfl rfl (fun w h => h) (fun w h => R_ldA z32 rfl hm.len (fun j v hj => by rw [Nat.zero_add]; exact zc 1 rfl hj h)) (h_loadA 2 rfl (by kernel_rfl) (fun w h => h) z37 rfl (fun _ h => h.at_ 0 rfl) rfl (zH2 1 (fun w h => h) (o_pureW rfl (wn_none rfl) rfl (fun w => zR Tryz.func14 rfl rfl rfl) (fun w h => kCheck_at2 p cs w (fun b hb => Nat.lt_of_le_of_lt (hp b hb) (by decide)) (hm.now (x := (_, No)) (fun _ _ h => h) zm1 h) (hW.now zm1 h) ho) (zh2 3 rfl rfl (fun w h => h) (fun w h => R_eqS fl37 rfl rfl (eq2_run (n := 9998) fl37 z35 z3 un35 un3)) (zh (v := .bool _) 4 rfl (by kernel_rfl) rfl rfl (fun w h => h) (fun w h => R_move rfl) (h_takeG (v := .agg cs.toArray) 5 rfl (by kernel_rfl) rfl rfl rfl (congrArg Value.bool (by simp)) rfl (fun w h => h) (fun w h => R_ldA z32 rfl hm.len (fun j v hj => by rw [Nat.zero_add]; exact zc 1 rfl hj h)) (h_takeG (v := .slice _ _ _) 7 rfl (by kernel_rfl) rfl rfl rfl (congrArg Value.bool (by simp)) rfl (fun w h => h) (fun w h => R_move rfl) (zH2 6 (fun w h => h) ?_)))))))))))))))))
  refine o_callV (R := fun w v w' => ∃ b : Option Addr × Nat, v = vsV l0 b ∧ vrsW w' (Nn w w') l0 b ∧ Ext w w') (E := fun _ _ _ => False) rfl (wn_yes rfl rfl rfl (congrArg Value.bool (by simp))) rfl (fun w => zR Tryz.func16 rfl rfl rfl) (fun w h => (kVars_at2 p cs w (fun b hb => Nat.lt_of_le_of_lt (hp b hb) (by decide)) (hm.now (x := (_, No)) (fun _ _ h => h) zm1 h) (hW.now zm1 h) ho).toP) ?_ (fun _ _ _ _ h => h.elim)
  rintro w3 hw3 v w4 ⟨⟨a3, c3⟩, rfl, hM3, hxx3⟩; refine ⟨_, _, (hw3.ext hxx3).base1, ?_⟩; have hK3 : Kt (w4, inL _) w.heap.size vrsW l0 (a3, c3) := Kt.new hM3 TL.vrw hw3 (hw3.fr _ zm1).size; clear hM3
  refine zH2 8 (fun w h => h.unbase (fun x hx => .tail _ (hx))) (o_pureW rfl (wn_yes rfl rfl rfl (congrArg Value.bool (by simp))) rfl (fun w => zR Tryz.func15 rfl rfl rfl) (fun w h => same_ok l0 a3 a2 c3 c2 w (hK3.T TL.vrw zm0 h).1 (hK.T TL.vrs zm1 h) hl0) (zh (v := .bool _) 9 rfl (by kernel_rfl) rfl rfl (fun w h => h.unbase (fun x hx => .tail _ (hx))) (fun w h => zT (congrArg Value.bool (by simp)) rfl) (zh (v := .bool _) 10 rfl (by kernel_rfl) rfl rfl (fun w h => h.unbase (fun x hx => .tail _ (hx))) (fun w h => R_move rfl) (zH2 11 (fun w h => h.unbase (fun x hx => .tail _ (hx))) (o_pureW rfl (wn_yes rfl rfl rfl rfl) rfl (fun w => zR Tryz.func9 rfl rfl rfl) (fun w h => head15_ok w (hW.now zm2 h) (Nat.le_trans hng (h.fr _ zm2).size)) (zh (v := .bool _) 12 rfl (by kernel_rfl) rfl rfl (fun w h => h.unbase (fun x hx => .tail _ (hx))) (fun w h => zT rfl rfl) (zh (v := .bool _) 13 rfl (by kernel_rfl) rfl rfl (fun w h => h.unbase (fun x hx => .tail _ (hx))) (fun w h => R_assign rfl) (zN2 (fun w h => h.unbase (fun x hx => .tail _ (hx))) (zk (ze (zo (v := .bool _) rfl rfl rfl ?_))))))))))); exact fun w' hw => ⟨rfl, hw.fr _ zm2⟩
end Go.Proofs.YtoehjlmdnajibaaGreatDoor
end
section
namespace Go.Sx
open Go.RowKit Go.Tree
theorem at_of {w : World} {base b o n k : Nat} {cs : List Value} (h : w.cells? base ((⟨b, o, none⟩ : Addr).add n) k = some cs) : At w (fun _ => True) (some ⟨b, o, none⟩) n cs := by
  obtain ⟨_, hl, hc⟩ := World.cells?_some h
  refine ⟨b, o, rfl, trivial, fun j v hj => ?_⟩
  have hj2 := (List.getElem?_eq_some_iff.1 hj).1
  have := hc j (by omega)
  rw [hj] at this
  rw [← this]
  congr 1
  unfold Addr.add
  by_cases h1 : n = 0 <;> by_cases h2 : j = 0 <;> simp [h1, h2, Nat.add_assoc]
theorem spot_of {w : World} {base k : Nat} {a : Addr} {cs : List Value} (hk : 0 < k) (h : w.cells? base (a.add 0) k = some cs) : a.spot = none := by
  obtain ⟨_, hl, hc⟩ := World.cells?_some h
  have h0 := hc 0 hk
  rw [List.getElem?_eq_getElem (by omega)] at h0
  simpa [Addr.add] using World.cell?_spot h0
theorem list_of {α : Type} {Q : Nat → α → Prop} : ∀ {n : Nat}, (∀ i, i < n → ∃ z, Q i z) → ∃ l : List α, l.length = n ∧ ∀ i z, l[i]? = some z → Q i z
  | 0, _ => ⟨[], rfl, fun i z h => by simp at h⟩
  | n + 1, h => by
    obtain ⟨l, hl, hq⟩ := list_of (n := n) (fun i hi => h i (by omega))
    obtain ⟨z, hz⟩ := h n (by omega)
    refine ⟨l ++ [z], by simp [hl], fun i y hy => ?_⟩
    by_cases hi : i < l.length
    · rw [List.getElem?_append_left hi] at hy
      exact hq i y hy
    · rw [List.getElem?_append_right (by omega)] at hy
      have h1 := (List.getElem?_eq_some_iff.1 hy).1
      have h2 : i = n := by simp at h1; omega
      subst h2
      rw [hl, Nat.sub_self] at hy
      obtain rfl : z = y := by simpa using hy
      exact hz
theorem sum_le {α β : Type} {f : α → Nat} {g : β → Nat} : ∀ (l : List α) (m : List β), l.length = m.length → (∀ (i : Nat) (z : α) (y : β), l[i]? = some z → m[i]? = some y → f z + 1 ≤ g y) → l.length + (l.map f).sum ≤ (m.map g).sum
  | [], [], _, _ => Nat.zero_le _
  | [], _ :: _, h, _ => by simp at h
  | _ :: _, [], h, _ => by simp at h
  | x :: l, y :: m, h, hq => by
    have h1 := hq 0 x y rfl rfl
    have h2 := sum_le l m (by simpa using h) (fun i z u hz hu => hq (i + 1) z u (by simpa using hz) (by simpa using hu))
    simp only [List.length_cons, List.map_cons, List.sum_cons]; omega
section
variable {H : Type} {enc : TypeId × Value → H} {P : Program} {w : World} {sp : Nat → Bool} {hd : Bool}
theorem open_list {α : Type} {R : α → List Value → Prop} {wt : α → Nat} {bk : DataW H → Nat} (hbs : ∀ es rs, (es.map bk).sum ≤ bk (.slice es rs)) {t e k fuel : Nat} {cs : List Value} {x : DataW H × List MemPlace}
    (ht : P.underlying t = some (.slice e)) (hk : P.cellsOf e = k) (hk0 : 0 < k) (h : DataW.trod enc P w 0 sp hd fuel t cs = some x)
    (ih : ∀ n cs y, n < fuel → DataW.trod enc P w 0 sp hd n e cs = some y → ∃ z, R z cs ∧ wt z + 1 ≤ bk y.1) :
    ∃ (l : List α) (a : Option Addr) (c : Nat), cs = [.slice a l.length c] ∧ l.length ≤ c ∧ l.length + (l.map wt).sum ≤ bk x.1 ∧ ∀ i z, l[i]? = some z → ∃ cs', At w (fun _ => True) a (i * k) cs' ∧ R z cs' := by
  rcases DataW.trod_slice ht h with ⟨rfl, rfl⟩ | ⟨a, len, cap, elems, rest, n, rfl, rfl, rfl, hb, hl, hm, hlen, hel, _, _⟩
  · exact ⟨[], none, 0, rfl, Nat.zero_le _, by simp, fun i z hz => by simp at hz⟩
  rw [hk] at hel
  obtain ⟨l, hll, hq⟩ := list_of (n := len) (Q := fun i z => ∃ cs' y, w.cells? 0 (a.add (i * k)) k = some cs' ∧ elems[i]? = some y ∧ R z cs' ∧ wt z + 1 ≤ bk y.1) (fun i hi => by
    have h1 := hel i hi
    rw [List.getElem?_eq_getElem (by omega)] at h1
    obtain ⟨cs', h2, h3⟩ := Option.bind_eq_some_iff.1 h1
    obtain ⟨z, h4, h5⟩ := ih n cs' _ (Nat.lt_succ_self n) h3
    exact ⟨z, cs', _, h2, List.getElem?_eq_getElem (by omega), h4, h5⟩)
  refine ⟨l, some a, cap, by rw [hll], by omega, ?_, fun i z hz => ?_⟩
  · refine Nat.le_trans ?_ (hbs _ _)
    rw [List.map_map]
    refine sum_le l elems (by omega) (fun i z y hz hy => ?_)
    obtain ⟨_, y', _, h2, _, h4⟩ := hq i z hz
    rw [hy] at h2
    obtain rfl := Option.some.inj h2
    exact h4
  have hi := (List.getElem?_eq_some_iff.1 hz).1
  have hs : a.spot = none := by
    obtain ⟨z0, hz0⟩ : ∃ z, l[0]? = some z := ⟨_, List.getElem?_eq_getElem (by omega)⟩
    obtain ⟨cs', _, h1, _⟩ := hq 0 z0 hz0
    rw [Nat.zero_mul] at h1
    exact spot_of hk0 h1
  obtain ⟨b, o, s⟩ := a
  simp only at hs
  subst hs
  obtain ⟨cs', _, h1, _, h3, _⟩ := hq i z hz
  exact ⟨cs', at_of h1, h3⟩
end
theorem len3 {α : Type} {l : List α} (h : l.length = 3) : ∃ a b c, l = [a, b, c] := by
  match l, h with
  | [a, b, c], _ => exact ⟨a, b, c, rfl⟩
theorem len4 {α : Type} {l : List α} (h : l.length = 4) : ∃ a b c d, l = [a, b, c, d] := by
  match l, h with
  | [a, b, c, d], _ => exact ⟨a, b, c, d, rfl⟩
theorem len6 {α : Type} {l : List α} (h : l.length = 6) : ∃ a b c d e f, l = [a, b, c, d, e, f] := by
  match l, h with
  | [a, b, c, d, e, f], _ => exact ⟨a, b, c, d, e, f, rfl⟩
theorem len7 {α : Type} {l : List α} (h : l.length = 7) : ∃ a b c d e f g, l = [a, b, c, d, e, f, g] := by
  match l, h with
  | [a, b, c, d, e, f, g], _ => exact ⟨a, b, c, d, e, f, g, rfl⟩
theorem exsM_of {w : World} {N : Nat → Prop} {a : Option Addr} : ∀ (l : List Ex) (i0 : Nat), (∀ i z, l[i]? = some z → ∃ cs, At w N a (i0 + i * 4) cs ∧ exM w N z cs) → exsM w N l a i0
  | [], _, _ => by unfold exsM; trivial
  | x :: l, i0, h => by
    unfold exsM
    refine ⟨by simpa using h 0 x rfl, exsM_of l (i0 + 4) (fun i z hz => ?_)⟩
    have := h (i + 1) z (by simpa using hz)
    rwa [show i0 + (i + 1) * 4 = i0 + 4 + i * 4 by omega] at this
theorem smsM_of {w : World} {N : Nat → Prop} {a : Option Addr} : ∀ (l : List Sm) (i0 : Nat), (∀ i z, l[i]? = some z → ∃ cs, At w N a (i0 + i * 6) cs ∧ smM w N z cs) → smsM w N l a i0
  | [], _, _ => by unfold smsM; trivial
  | x :: l, i0, h => by
    unfold smsM
    refine ⟨by simpa using h 0 x rfl, smsM_of l (i0 + 6) (fun i z hz => ?_)⟩
    have := h (i + 1) z (by simpa using hz)
    rwa [show i0 + (i + 1) * 6 = i0 + 6 + i * 6 by omega] at this
theorem exsW_sum : ∀ l : List Ex, exsW l = (l.map exW).sum
  | [] => rfl
  | x :: l => by rw [exsW, exsW_sum l]; rfl
theorem smsW_sum : ∀ l : List Sm, smsW l = (l.map smW).sum
  | [] => rfl
  | x :: l => by rw [smsW, smsW_sum l]; rfl
theorem dcsW_sum : ∀ l : List Dc, dcsW l = (l.map dcW).sum
  | [] => rfl
  | x :: l => by rw [dcsW, dcsW_sum l]; rfl
end Go.Sx
end
section
namespace Go.Proofs.YtoehjlmdnajibaaGreatDoor
open Go.RowKit Go.Sx
open Go.Tok Go.Tree
theorem cel5 : Tryz.prog.cellsOf 5 = 1 := by kernel_rfl
theorem cel3 : Tryz.prog.cellsOf 3 = 1 := by kernel_rfl
theorem cel9 : Tryz.prog.cellsOf 9 = 1 := by kernel_rfl
theorem cel4 : Tryz.prog.cellsOf 4 = 1 := by kernel_rfl
theorem cel47 : Tryz.prog.cellsOf 47 = 1 := by kernel_rfl
theorem cel27 : Tryz.prog.cellsOf 27 = 1 := by kernel_rfl
theorem cel26 : Tryz.prog.cellsOf 26 = 1 := by kernel_rfl
theorem cel52 : Tryz.prog.cellsOf 52 = 4 := by kernel_rfl
theorem cel79 : Tryz.prog.cellsOf 79 = 6 := by kernel_rfl
theorem cel49 : Tryz.prog.cellsOf 49 = 7 := by kernel_rfl
theorem cel29 : Tryz.prog.cellsOf 29 = 3 := by kernel_rfl
theorem cel30 : Tryz.prog.cellsOf 30 = 18 := by kernel_rfl
theorem cel32 : Tryz.prog.cellsOf 32 = 18 := by kernel_rfl
section
variable {H : Type} {enc : TypeId × Value → H} {W : World} {sp : Nat → Bool} {hd : Bool}
theorem le_sum_mem {a : Nat} : ∀ {l : List Nat}, a ∈ l → a ≤ l.sum
  | x :: l, h => by
    rw [List.sum_cons]
    rcases List.mem_cons.1 h with rfl | h
    · omega
    · have := le_sum_mem h; omega
theorem bulkAll_sum : ∀ l : List (DataW H), Rows.uptoBulkAll l = (l.map Rows.uptoBulk).sum
  | [] => by simp [Rows.uptoBulkAll]
  | d :: l => by rw [Rows.uptoBulkAll, bulkAll_sum l]; simp
theorem bulk_slice (es rs : List (DataW H)) : (es.map Rows.uptoBulk).sum ≤ Rows.uptoBulk (.slice es rs) := by rw [Rows.uptoBulk, bulkAll_sum]; omega
theorem open_ex : ∀ (fuel : Nat) (cs : List Value) (x : DataW H × List MemPlace), DataW.trod enc Tryz.prog W 0 sp hd fuel 52 cs = some x → ∃ z : Ex, exM W (fun _ => True) z cs ∧ exW z + 1 ≤ Rows.uptoBulk x.1 := by
  intro fuel
  induction fuel using Nat.strongRecOn with | _ fuel ih => ?_
  intro cs x h
  obtain ⟨xs, n, rfl, rfl, hl, hxl, hf⟩ := DataW.trod_struct Tryz.underlying52 h
  have hl := hl.trans cel52
  obtain ⟨c0, c1, c2, c3, rfl⟩ := len4 hl
  obtain ⟨y0, y1, y2, y3, rfl⟩ := len4 (hxl.trans rfl)
  have h0 : DataW.trod enc Tryz.prog W 0 sp hd n 5 (([c0, c1, c2, c3].drop 0).take (Tryz.prog.cellsOf 5)) = some y0 := hf 0 _ rfl
  rw [cel5] at h0
  obtain ⟨n0, e0, rfl, wf0⟩ := DataW.trod_int Tryz.underlying5 h0; obtain rfl : _ = _ := (List.cons.inj e0).1
  have h1 : DataW.trod enc Tryz.prog W 0 sp hd n 3 (([_, c1, c2, c3].drop 1).take (Tryz.prog.cellsOf 3)) = some y1 := hf 1 _ rfl
  rw [cel3] at h1
  obtain ⟨n1, e1, rfl, wf1⟩ := DataW.trod_int Tryz.underlying3 h1; obtain rfl : _ = _ := (List.cons.inj e1).1
  have h2 : DataW.trod enc Tryz.prog W 0 sp hd n 9 (([_, _, c2, c3].drop 2).take (Tryz.prog.cellsOf 9)) = some y2 := hf 2 _ rfl
  rw [cel9] at h2
  obtain ⟨s2, e2, rfl, wf2⟩ := DataW.trod_string Tryz.underlying9 h2; obtain rfl : _ = _ := (List.cons.inj e2).1
  have h3 : DataW.trod enc Tryz.prog W 0 sp hd n 47 (([_, _, _, c3].drop 3).take (Tryz.prog.cellsOf 47)) = some y3 := hf 3 _ rfl
  rw [cel47] at h3
  obtain ⟨l3, a3, k3, e3, hk3, hb3, hl3⟩ := open_list (R := exM W (fun _ => True)) (wt := exW) bulk_slice Tryz.underlying47 cel52 (by decide) h3 (fun m cs y hm hy => ih m (by omega) cs y hy); obtain rfl : _ = _ := (List.cons.inj e3).1
  have w0 := bounds_u8 wf0; obtain ⟨m0, rfl⟩ : ∃ m : Nat, n0 = m := ⟨n0.toNat, by omega⟩
  refine ⟨.mk m0 n1 s2.data.toList l3, ?_, ?_⟩
  · unfold exM; exact ⟨a3, k3, by simp [str], hk3, exsM_of _ 0 (fun i z hz => by rw [Nat.zero_add]; exact hl3 i z hz)⟩
  unfold exW; rw [exsW_sum]
  simp only [List.map_cons, List.map_nil, Rows.uptoBulk, Rows.uptoBulkAll]
  omega
theorem open_exs (fuel : Nat) {cs : List Value} {x : DataW H × List MemPlace} (h : DataW.trod enc Tryz.prog W 0 sp hd fuel 47 cs = some x) : ∃ (l : List Ex) (a : Option Addr) (c : Nat), cs = [.slice a l.length c] ∧ l.length ≤ c ∧ l.length + (l.map exW).sum ≤ Rows.uptoBulk x.1 ∧ ∀ i z, l[i]? = some z → ∃ cs', At W (fun _ => True) a (i * 4) cs' ∧ exM W (fun _ => True) z cs' :=
  open_list bulk_slice Tryz.underlying47 cel52 (by decide) h (fun m cs y _ hy => open_ex m cs y hy)
theorem open_sm : ∀ (fuel : Nat) (cs : List Value) (x : DataW H × List MemPlace), DataW.trod enc Tryz.prog W 0 sp hd fuel 79 cs = some x → ∃ z : Sm, smM W (fun _ => True) z cs ∧ smW z + 1 ≤ Rows.uptoBulk x.1 := by
  intro fuel
  induction fuel using Nat.strongRecOn with | _ fuel ih => ?_
  intro cs x h
  obtain ⟨xs, n, rfl, rfl, hl, hxl, hf⟩ := DataW.trod_struct Tryz.underlying79 h
  have hl := hl.trans cel79
  obtain ⟨c0, c1, c2, c3, c4, c5, rfl⟩ := len6 hl
  obtain ⟨y0, y1, y2, y3, y4, y5, rfl⟩ := len6 (hxl.trans rfl)
  have h0 : DataW.trod enc Tryz.prog W 0 sp hd n 5 (([c0, c1, c2, c3, c4, c5].drop 0).take (Tryz.prog.cellsOf 5)) = some y0 := hf 0 _ rfl
  rw [cel5] at h0
  obtain ⟨n0, e0, rfl, wf0⟩ := DataW.trod_int Tryz.underlying5 h0; obtain rfl : _ = _ := (List.cons.inj e0).1
  have h1 : DataW.trod enc Tryz.prog W 0 sp hd n 3 (([_, c1, c2, c3, c4, c5].drop 1).take (Tryz.prog.cellsOf 3)) = some y1 := hf 1 _ rfl
  rw [cel3] at h1
  obtain ⟨n1, e1, rfl, wf1⟩ := DataW.trod_int Tryz.underlying3 h1; obtain rfl : _ = _ := (List.cons.inj e1).1
  have h2 : DataW.trod enc Tryz.prog W 0 sp hd n 9 (([_, _, c2, c3, c4, c5].drop 2).take (Tryz.prog.cellsOf 9)) = some y2 := hf 2 _ rfl
  rw [cel9] at h2
  obtain ⟨s2, e2, rfl, wf2⟩ := DataW.trod_string Tryz.underlying9 h2; obtain rfl : _ = _ := (List.cons.inj e2).1
  have h3 : DataW.trod enc Tryz.prog W 0 sp hd n 47 (([_, _, _, c3, c4, c5].drop 3).take (Tryz.prog.cellsOf 47)) = some y3 := hf 3 _ rfl
  rw [cel47] at h3
  obtain ⟨l3, a3, k3, e3, hk3, hb3, hl3⟩ := open_exs n h3; obtain rfl : _ = _ := (List.cons.inj e3).1
  have h4 : DataW.trod enc Tryz.prog W 0 sp hd n 27 (([_, _, _, _, c4, c5].drop 4).take (Tryz.prog.cellsOf 27)) = some y4 := hf 4 _ rfl
  rw [cel27] at h4
  obtain ⟨l4, a4, k4, e4, hk4, hb4, hl4⟩ := open_list (R := smM W (fun _ => True)) (wt := smW) bulk_slice Tryz.underlying27 cel79 (by decide) h4 (fun m cs y hm hy => ih m (by omega) cs y hy); obtain rfl : _ = _ := (List.cons.inj e4).1
  have h5 : DataW.trod enc Tryz.prog W 0 sp hd n 27 (([_, _, _, _, _, c5].drop 5).take (Tryz.prog.cellsOf 27)) = some y5 := hf 5 _ rfl
  rw [cel27] at h5
  obtain ⟨l5, a5, k5, e5, hk5, hb5, hl5⟩ := open_list (R := smM W (fun _ => True)) (wt := smW) bulk_slice Tryz.underlying27 cel79 (by decide) h5 (fun m cs y hm hy => ih m (by omega) cs y hy); obtain rfl : _ = _ := (List.cons.inj e5).1
  have w0 := bounds_u8 wf0; obtain ⟨m0, rfl⟩ : ∃ m : Nat, n0 = m := ⟨n0.toNat, by omega⟩
  refine ⟨.mk m0 n1 s2.data.toList l3 l4 l5, ?_, ?_⟩
  · unfold smM; exact ⟨a3, k3, a4, k4, a5, k5, by simp [str], hk3, exsM_of _ 0 (fun i z hz => by rw [Nat.zero_add]; exact hl3 i z hz), smsM_of _ 0 (fun i z hz => by rw [Nat.zero_add]; exact hl4 i z hz), smsM_of _ 0 (fun i z hz => by rw [Nat.zero_add]; exact hl5 i z hz)⟩
  unfold smW; rw [exsW_sum, smsW_sum, smsW_sum]
  simp only [List.map_cons, List.map_nil, Rows.uptoBulk, Rows.uptoBulkAll]
  omega
theorem open_sms (fuel : Nat) {cs : List Value} {x : DataW H × List MemPlace} (h : DataW.trod enc Tryz.prog W 0 sp hd fuel 27 cs = some x) : ∃ (l : List Sm) (a : Option Addr) (c : Nat), cs = [.slice a l.length c] ∧ l.length ≤ c ∧ l.length + (l.map smW).sum ≤ Rows.uptoBulk x.1 ∧ ∀ i z, l[i]? = some z → ∃ cs', At W (fun _ => True) a (i * 6) cs' ∧ smM W (fun _ => True) z cs' :=
  open_list bulk_slice Tryz.underlying27 cel79 (by decide) h (fun m cs y _ hy => open_sm m cs y hy)
theorem open_dc : ∀ (fuel : Nat) (cs : List Value) (x : DataW H × List MemPlace), DataW.trod enc Tryz.prog W 0 sp hd fuel 49 cs = some x → ∃ z : Dc, dcM W (fun _ => True) z cs ∧ dcW z + 1 ≤ Rows.uptoBulk x.1 := by
  intro fuel
  induction fuel using Nat.strongRecOn with | _ fuel ih => ?_
  intro cs x h
  obtain ⟨xs, n, rfl, rfl, hl, hxl, hf⟩ := DataW.trod_struct Tryz.underlying49 h
  have hl := hl.trans cel49
  obtain ⟨c0, c1, c2, c3, c4, c5, c6, rfl⟩ := len7 hl
  obtain ⟨y0, y1, y2, y3, y4, y5, y6, rfl⟩ := len7 (hxl.trans rfl)
  have h0 : DataW.trod enc Tryz.prog W 0 sp hd n 5 (([c0, c1, c2, c3, c4, c5, c6].drop 0).take (Tryz.prog.cellsOf 5)) = some y0 := hf 0 _ rfl
  rw [cel5] at h0
  obtain ⟨n0, e0, rfl, wf0⟩ := DataW.trod_int Tryz.underlying5 h0; obtain rfl : _ = _ := (List.cons.inj e0).1
  have h1 : DataW.trod enc Tryz.prog W 0 sp hd n 3 (([_, c1, c2, c3, c4, c5, c6].drop 1).take (Tryz.prog.cellsOf 3)) = some y1 := hf 1 _ rfl
  rw [cel3] at h1
  obtain ⟨n1, e1, rfl, wf1⟩ := DataW.trod_int Tryz.underlying3 h1; obtain rfl : _ = _ := (List.cons.inj e1).1
  have h2 : DataW.trod enc Tryz.prog W 0 sp hd n 9 (([_, _, c2, c3, c4, c5, c6].drop 2).take (Tryz.prog.cellsOf 9)) = some y2 := hf 2 _ rfl
  rw [cel9] at h2
  obtain ⟨s2, e2, rfl, wf2⟩ := DataW.trod_string Tryz.underlying9 h2; obtain rfl : _ = _ := (List.cons.inj e2).1
  have h3 : DataW.trod enc Tryz.prog W 0 sp hd n 47 (([_, _, _, c3, c4, c5, c6].drop 3).take (Tryz.prog.cellsOf 47)) = some y3 := hf 3 _ rfl
  rw [cel47] at h3
  obtain ⟨l3, a3, k3, e3, hk3, hb3, hl3⟩ := open_exs n h3; obtain rfl : _ = _ := (List.cons.inj e3).1
  have h4 : DataW.trod enc Tryz.prog W 0 sp hd n 47 (([_, _, _, _, c4, c5, c6].drop 4).take (Tryz.prog.cellsOf 47)) = some y4 := hf 4 _ rfl
  rw [cel47] at h4
  obtain ⟨l4, a4, k4, e4, hk4, hb4, hl4⟩ := open_exs n h4; obtain rfl : _ = _ := (List.cons.inj e4).1
  have h5 : DataW.trod enc Tryz.prog W 0 sp hd n 47 (([_, _, _, _, _, c5, c6].drop 5).take (Tryz.prog.cellsOf 47)) = some y5 := hf 5 _ rfl
  rw [cel47] at h5
  obtain ⟨l5, a5, k5, e5, hk5, hb5, hl5⟩ := open_exs n h5; obtain rfl : _ = _ := (List.cons.inj e5).1
  have h6 : DataW.trod enc Tryz.prog W 0 sp hd n 47 (([_, _, _, _, _, _, c6].drop 6).take (Tryz.prog.cellsOf 47)) = some y6 := hf 6 _ rfl
  rw [cel47] at h6
  obtain ⟨l6, a6, k6, e6, hk6, hb6, hl6⟩ := open_exs n h6; obtain rfl : _ = _ := (List.cons.inj e6).1
  have w0 := bounds_u8 wf0; obtain ⟨m0, rfl⟩ : ∃ m : Nat, n0 = m := ⟨n0.toNat, by omega⟩
  refine ⟨⟨m0, n1, s2.data.toList, l3, l4, l5, l6⟩, ?_, ?_⟩
  · unfold dcM; exact ⟨a3, k3, a4, k4, a5, k5, a6, k6, by simp [str], exsM_of _ 0 (fun i z hz => by rw [Nat.zero_add]; exact hl3 i z hz), exsM_of _ 0 (fun i z hz => by rw [Nat.zero_add]; exact hl4 i z hz), exsM_of _ 0 (fun i z hz => by rw [Nat.zero_add]; exact hl5 i z hz), exsM_of _ 0 (fun i z hz => by rw [Nat.zero_add]; exact hl6 i z hz)⟩
  unfold dcW; rw [exsW_sum, exsW_sum, exsW_sum, exsW_sum]
  simp only [List.map_cons, List.map_nil, Rows.uptoBulk, Rows.uptoBulkAll]
  omega
theorem open_dcs (fuel : Nat) {cs : List Value} {x : DataW H × List MemPlace} (h : DataW.trod enc Tryz.prog W 0 sp hd fuel 26 cs = some x) : ∃ (l : List Dc) (a : Option Addr) (c : Nat), cs = [.slice a l.length c] ∧ l.length ≤ c ∧ l.length + (l.map dcW).sum ≤ Rows.uptoBulk x.1 ∧ ∀ i z, l[i]? = some z → ∃ cs', At W (fun _ => True) a (i * 7) cs' ∧ dcM W (fun _ => True) z cs' :=
  open_list bulk_slice Tryz.underlying26 cel49 (by decide) h (fun m cs y _ hy => open_dc m cs y hy)
theorem open_bk : ∀ (fuel : Nat) (cs : List Value) (x : DataW H × List MemPlace), DataW.trod enc Tryz.prog W 0 sp hd fuel 29 cs = some x → ∃ z : Bk, bkM W (fun _ => True) z cs ∧ bkW z + 1 ≤ Rows.uptoBulk x.1 := by
  intro fuel
  induction fuel using Nat.strongRecOn with | _ fuel ih => ?_
  intro cs x h
  obtain ⟨xs, n, rfl, rfl, hl, hxl, hf⟩ := DataW.trod_struct Tryz.underlying29 h
  have hl := hl.trans cel29
  obtain ⟨c0, c1, c2, rfl⟩ := len3 hl
  obtain ⟨y0, y1, y2, rfl⟩ := len3 (hxl.trans rfl)
  have h0 : DataW.trod enc Tryz.prog W 0 sp hd n 4 (([c0, c1, c2].drop 0).take (Tryz.prog.cellsOf 4)) = some y0 := hf 0 _ rfl
  rw [cel4] at h0
  obtain ⟨q0, e0, rfl⟩ := DataW.trod_bool Tryz.underlying4 h0; obtain rfl : _ = _ := (List.cons.inj e0).1
  have h1 : DataW.trod enc Tryz.prog W 0 sp hd n 26 (([_, c1, c2].drop 1).take (Tryz.prog.cellsOf 26)) = some y1 := hf 1 _ rfl
  rw [cel26] at h1
  obtain ⟨l1, a1, k1, e1, hk1, hb1, hl1⟩ := open_dcs n h1; obtain rfl : _ = _ := (List.cons.inj e1).1
  have h2 : DataW.trod enc Tryz.prog W 0 sp hd n 27 (([_, _, c2].drop 2).take (Tryz.prog.cellsOf 27)) = some y2 := hf 2 _ rfl
  rw [cel27] at h2
  obtain ⟨l2, a2, k2, e2, hk2, hb2, hl2⟩ := open_sms n h2; obtain rfl : _ = _ := (List.cons.inj e2).1
  skip
  refine ⟨⟨q0, l1, l2⟩, ?_, ?_⟩
  · unfold bkM; exact ⟨a1, k1, a2, k2, rfl, hl1, smsM_of _ 0 (fun i z hz => by rw [Nat.zero_add]; exact hl2 i z hz)⟩
  unfold bkW; rw [dcsW_sum, smsW_sum]
  simp only [List.map_cons, List.map_nil, Rows.uptoBulk, Rows.uptoBulkAll]
  omega
theorem open_pg (fuel : Nat) (cs : List Value) (x : DataW H × List MemPlace) (h : DataW.trod enc Tryz.prog W 0 sp hd fuel 32 cs = some x) : ∃ p : List Bk, pgM W (fun _ => True) p cs ∧ ∀ b ∈ p, bkW b ≤ Rows.uptoBulk x.1 := by
  obtain ⟨xs, n, rfl, rfl, hl, hxl, hf⟩ := DataW.trod_struct Tryz.underlying32 h
  have hl := hl.trans cel32
  obtain ⟨y, rfl⟩ := List.length_eq_one_iff.1 (hxl.trans rfl)
  have h0 : DataW.trod enc Tryz.prog W 0 sp hd n 30 ((cs.drop 0).take (Tryz.prog.cellsOf 30)) = some y := hf 0 _ rfl
  rw [cel30, List.drop_zero] at h0
  rw [show cs.take 18 = cs from List.take_of_length_le (by omega)] at h0
  obtain ⟨zs, m, rfl, hy, hl2, hzl, hg⟩ := DataW.trod_array Tryz.underlying30 h0
  obtain rfl : y = _ := hy
  obtain ⟨l, hll, hq⟩ := list_of (n := 6) (Q := fun i z => bkM W (fun _ => True) z ((cs.drop (i * 3)).take 3) ∧ ∃ y, zs[i]? = some y ∧ bkW z + 1 ≤ Rows.uptoBulk y.1) (fun i hi => by
    have h1 := hg i hi
    rw [cel29] at h1
    rw [List.getElem?_eq_getElem (by omega)] at h1
    obtain ⟨z, h4, h5⟩ := open_bk m _ _ h1
    exact ⟨z, h4, _, List.getElem?_eq_getElem (by omega), h5⟩)
  refine ⟨l, ⟨hll, hl, fun i b hb => (hq i b hb).1⟩, fun b hb => ?_⟩
  obtain ⟨i, hi⟩ := List.getElem?_of_mem hb
  obtain ⟨_, y, h1, h2⟩ := hq i b hi
  have h3 : Rows.uptoBulk y.1 ≤ ((zs.map (·.1)).map Rows.uptoBulk).sum := le_sum_mem (List.mem_map_of_mem (List.mem_map_of_mem (List.mem_of_getElem? h1)))
  simp only [List.map_cons, List.map_nil, Rows.uptoBulk, Rows.uptoBulkAll, bulkAll_sum, List.sum_cons, List.sum_nil]
  omega
end
end Go.Proofs.YtoehjlmdnajibaaGreatDoor
end
section
namespace Go.Proofs.YtoehjlmdnajibaaGreatDoor
open Go.ChangeShapes Go.WideShapes Go.ChangeAt Go.RowKit Go.Sx
open Go.ChangeMaps (open_string)
theorem own : ownKnob Tryz.prog.godebug = none := by kernel_rfl
theorem below_ext {w w' : World} (h : Ext w w') : Below w.heap.size w w' := ⟨h.os, h.tape, h.output, h.size, fun k hk => h.blk k hk (fun x => x)⟩
section
variable {H : Type} {enc : TypeId × Value → H} {P : Program}
theorem post_ext2 {f : Func} {s : ChangeSpec} {apart fresh handsOn : Bool} {W W' : World} {args : Array Value} {v : Value} {ds gs : List (DataW H)} {before pa pv : List MemPlace}
    (hW : DataW.Whole enc P f.params.toList s.vars apart W args.toList ds gs before)
    (hres : ∀ (b : Nat) (sp : Nat → Bool) (hd : Bool), DataW.TrodAll enc P W' b sp hd f.resultTypes.toList (v.resultList f.resultTypes.size) (s.fn H (ds ++ gs)).results [])
    (hargs : DataW.TrodAll enc P W' 0 (fun b => decide (b < W.heap.size)) true f.params.toList args.toList (s.fn H (ds ++ gs)).args pa)
    (hvars : ∀ sp : Nat → Bool, (∀ p ∈ before, sp p.block = true) → DataW.TrodVars enc P W' sp s.vars (s.fn H (ds ++ gs)).vars pv)
    (hps : before = pa ++ pv) (hb : Below W.heap.size W W') : s.post enc P f apart fresh handsOn false W args v W' := by
  have hold : ∀ p ∈ before, (fun b => decide (b < W.heap.size)) p.block = true := fun p hp => by simpa using hW.lt p hp
  exact ⟨ds, gs, before, [], pa, pv, hW, hres _ _ _, hargs, hvars _ hold, hb.frame _, fun h => by cases h⟩
end
theorem agg_of {v : Value} {n : Nat} (h : v.cells.toList.length = n + 2) : v = .agg v.cells.toList.toArray := by
  cases v <;> first | rfl | (simp [Value.cells] at h)
theorem laidB : laidOutB Tryz.prog = true := by kernel_rfl
theorem door_met (os : Os) (args : Array Value) : laidMetH Tryz.prog Rows.kindChecksUptoRow.laid ((World.doorLaid Tryz.prog 400 os).forCall (fun _ _ => 0) ⟨#[], args, []⟩).memory :=
  laidMetH_of_parts3 (fuel := 8) (laidMet_of_run' 8 (by kernel_rfl) (by kernel_rfl)) (by kernel_rfl) (by kernel_rfl)
theorem tb_of_laid {W : World} (h : laidMetH Tryz.prog Rows.kindChecksUptoRow.laid W) : Tb W := by
  rw [MakeChecks.laidMetH_plain _ _ _ (by kernel_rfl)] at h
  obtain ⟨ps, ⟨g0, t0, cs0, f0, p0, q0, hg0, ht0, hv0, hd0, ⟨g1, t1, cs1, f1, p1, q1, hg1, ht1, hv1, hd1, hr1, hq0⟩, hps⟩, hn, hm⟩ := h
  refine Tb.of (Lib.tabIs_of_head (g := 1) (t := 195) (e := 5) (n := 256) (rest := []) (by kernel_rfl) (by kernel_rfl) Tryz.underlying195 Tryz.underlying5 (by kernel_rfl) (by kernel_rfl) (W := W) ⟨q0, ⟨g1, t1, cs1, f1, p1, q1, hg1, ht1, hv1, hd1, hr1, hq0⟩, ?_, ?_⟩)
  · rw [hps] at hn; exact (List.nodup_append.1 hn).2.1
  exact fun b off hx => hm b off (by rw [hps]; exact List.mem_append.2 (.inr hx))
theorem size_of_shaped {P : Program} {w : World} {g : Nat} (h : w.ShapedOpen P) (hg : g < P.globals.size) (h0 : (((begin P (fun _ _ => 0) default).world.heap[g]?).bind Obj.row?).isSome = true) : g < w.heap.size := by
  obtain ⟨⟨zero, t⟩, h1⟩ := Option.isSome_iff_exists.1 h0
  obtain ⟨cs, hh, _⟩ := h.1 g zero t hg h1
  exact (Array.getElem?_eq_some_iff.1 hh).1
theorem kindChecks_reads (os : Os) {H : Type} (enc : TypeId × Value → H) : DataW.whole enc Tryz.prog ((World.doorLaid Tryz.prog 400 os).forCall (fun _ _ => 0) ⟨#[], #[(.agg #[.bool false, .slice none 0 0, .slice none 0 0, .bool false, .slice none 0 0, .slice none 0 0, .bool false, .slice none 0 0, .slice none 0 0, .bool false, .slice none 0 0, .slice none 0 0, .bool false, .slice none 0 0, .slice none 0 0, .bool false, .slice none 0 0, .slice none 0 0])], []⟩).memory Tryz.f4.params.toList Rows.kindChecksSpec.vars false #[(.agg #[.bool false, .slice none 0 0, .slice none 0 0, .bool false, .slice none 0 0, .slice none 0 0, .bool false, .slice none 0 0, .slice none 0 0, .bool false, .slice none 0 0, .slice none 0 0, .bool false, .slice none 0 0, .slice none 0 0, .bool false, .slice none 0 0, .slice none 0 0])].toList 8 = some ([.agg [.agg [.agg [.lit (.bool false), .nil, .nil], .agg [.lit (.bool false), .nil, .nil], .agg [.lit (.bool false), .nil, .nil], .agg [.lit (.bool false), .nil, .nil], .agg [.lit (.bool false), .nil, .nil], .agg [.lit (.bool false), .nil, .nil]]]], [], []) := by kernel_rfl
theorem kindChecks_lifted (os : Os) (started : os.Started) (H : Type) (enc : TypeId × Value → H) (F : Stop.Interp) :
    ReturnsInHanded {} Tryz.checked os 4 .any ((Rows.OpenSpec.upto Rows.kindChecksSpec).preRow enc Tryz.prog Tryz.f4 Rows.kindChecksUptoRow.domain false Rows.kindChecksUptoRow.laid) (((Rows.OpenSpec.upto Rows.kindChecksSpec).at F).post enc Tryz.prog Tryz.f4 false true false false) := by
  refine returnsInHanded_of_row (C := Tryz.checked) (s := Rows.OpenSpec.upto Rows.kindChecksSpec) own started (by kernel_rfl) Tryz.func4
    (witness_row_atRef (enc := enc) (C := Tryz.checked) false (World.doorLaid Tryz.prog 400 os) #[(.agg #[.bool false, .slice none 0 0, .slice none 0 0, .bool false, .slice none 0 0, .slice none 0 0, .bool false, .slice none 0 0, .slice none 0 0, .bool false, .slice none 0 0, .slice none 0 0, .bool false, .slice none 0 0, .slice none 0 0, .bool false, .slice none 0 0, .slice none 0 0])] rfl (by kernel_rfl) (by kernel_rfl) (by kernel_rfl)
      (OpenSpec.preRow_of_cond 8 (kindChecks_reads os enc) (by rfl) (fun k hkk => by cases hkk; kernel_rfl) (by kernel_rfl) (door_met os _))) ?_
  intro W base args ds gs before hval0 hW _ hcond _ hL hsh _
  have hval : ∀ (j : Nat) t v, Tryz.f4.params[j]? = some t → args[j]? = some v → Value.okWide Tryz.prog W .any base t v := hval0
  have hW' := hW
  have hlt : ∀ y ∈ before, y.block < W.heap.size := fun y hy => by simpa using hW'.lt y hy
  obtain ⟨p, q, hA0, hV, rfl, _, _⟩ := hW
  have hA : DataW.TrodAll enc Tryz.prog W 0 (fun _ => true) true Tryz.f4.params.toList args.toList ds p := hA0
  rw [Tryz.params4] at hA hval
  obtain ⟨v0, d0, rfl, rfl, h0⟩ := trodAll_one hA
  obtain ⟨rfl, rfl⟩ := trodVars_none hV
  have hk0 := h0
  obtain ⟨f0, ht0⟩ := h0
  obtain ⟨x0, hm0, hb0⟩ := open_pg f0 _ _ ht0
  have ha0 := agg_of (n := 16) (hm0.len)
  obtain ⟨cs0, hcs0⟩ : ∃ cs, cs = v0.cells.toList := ⟨_, rfl⟩
  rw [← hcs0] at ha0 hm0
  dsimp only at hb0
  have hbk := of_decide_eq_true (hcond _ rfl)
  simp only [Rows.uptoBulkAll, List.cons_append, List.nil_append] at hbk
  have ht := tb_of_laid hL
  have hml := cell_of_shapedOpen_int hsh (zero := #[.int .i64 0]) (g := 0) (t := 3) (by decide) (by kernel_rfl) rfl (by kernel_rfl) (by kernel_rfl) Tryz.underlying3
  clear hA0 hval0
  simp only [List.append_nil] at hW' hlt
  subst ha0
  refine Calls.mono (kindchecks_walk x0 cs0 W ⟨ht, ht.lt, hml⟩ (size_of_shaped hsh (g := 3) (by decide) (by kernel_rfl)) (fun b hb => by have := hb0 b hb; omega) hm0) fun e W' ⟨v, he, hv, hx⟩ => ?_
  subst he; subst hv
  exact ⟨_, rfl, post_ext2 (pv := []) hW' (fun _ _ _ => trodAll_mk1 (shut_bool Tryz.underlying4 _)) (trodAll_mk1 (Below.trod laidB (by kernel_rfl) (of_decide_eq_true (by kernel_rfl)) hk0 (below_ext hx) (fun y hy => hlt y (by simp [hy])))) (fun _ _ => rfl) (by simp) (below_ext hx)⟩
theorem kindChecksUpto_holds : Rows.KindChecksUptoSaid :=
  OpenClaim.holds_of_cond 4 Tryz.f4 rfl rfl rfl rfl rfl rfl rfl ⟨rfl, rfl, rfl, rfl, rfl⟩ rfl rfl rfl rfl rfl (by kernel_rfl) Tryz.func4 (by kernel_rfl)
    (of_decide_eq_true (by kernel_rfl)) (by unfold Func.isWrapper; (rw [if_neg (by decide +kernel)]; exact ⟨rfl, rfl⟩))
    (fun os started H enc _ F => by rw [OpenClaim.pre_eq_preRow]; exact kindChecks_lifted os started H enc F)
end Go.Proofs.YtoehjlmdnajibaaGreatDoor
end
section
namespace Go.Proofs.YtoehjlmdnajibaaGreatDoor
open Go
theorem kindChecksUpto_card : Rows.KindChecksUptoCardSaid :=
  Claim7.holds_tied_plain_at .later [] [.listed, .data] true (true, "65e2bdec9cfab438602a072c417bd6688cb10ffb3f463ce8d6a4e5789ff575b6") true
    kindChecksUpto_holds (fun _ h => by cases h) (by kernel_rfl) (fun _ h => by cases h) kindChecksUpto_row_tie rfl ⟨rfl, rfl⟩ (by kernel_rfl) rfl
    (fun f fn hf hfn => by
      obtain rfl : f = 4 := Option.some.inj ((show Tryz.prog.funcNamed "stepstone/stepstonelaw15.KindChecks" = some 4 by kernel_rfl).symm.trans hf) |>.symm
      obtain rfl : fn = Tryz.f4 := (Option.some.inj (Tryz.func4.symm.trans hfn)).symm
      exact ⟨by kernel_rfl, fun j t ht => by
        rw [Tryz.params4] at ht
        have ht3 : t = 32 := by
          rcases j with _ | j
          · simpa using ht.symm
          simp at ht
        subst ht3
        exact (show Tryz.prog.wantsStandIn 32 = false by kernel_rfl)⟩)
    (by kernel_rfl)
end Go.Proofs.YtoehjlmdnajibaaGreatDoor
end
