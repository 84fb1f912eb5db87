/- Layer 14, FeedTwice: that Find tells the datum of its name, that Write tells the same twice, and another text where one sign is turned. Part 12 of 12. -/
import Derived.Test.YtikdkendinnalaaGreatDoorT11
import Derived.ChangeArms
import Derived.OpenShut
import Derived.ChangeSlices
import Derived.Test.YtikdkendinnalaaGreatDoorRows
import Derived.HandedShaped
import Derived.Handed
import Derived.Deep.DeepHandedRow
import Derived.ProofKit
import Derived.LaidMore
import Derived.Stop.LaidErr
import Derived.Shelf.Vars
import Derived.Stop.Joined
import Derived.Test.YtikdkendinnalaaGreatDoorTie
import Derived.Test.YtikdkendinnalaaGreatDoorCards
import Derived.SevenTiedAt
section
/- Rows that are there, taken over cell by cell; an append of nothing; a row in hand whose datum is changed. -/
namespace Go.Sx
open Go.RowKit Go.Num Go.Feed
section
variable {P : Program} {ρ : Operand → Value} {w : World} {D : Option Tmp} {t ty T : TypeId} {pos : String} {ed : Array Edge} {g : Option (Nat × Bool)} {x y : Operand} {a a2 : Option Addr} {n c c2 : Nat}
theorem R_app0 {el k bytes : Nat} {z : Value} (hT : slT P t el k bytes z) (hx : ρ x = .slice a n c) (hy : ρ y = .slice a2 0 c2) (h : n ≤ c) : Run P ⟨D, .call ⟨.builtin .append, #[x, y], #[t, t]⟩, T, pos, ed, g⟩ ρ w (.slice a n c) w := by
  obtain ⟨i, ht, hi, hsz, hby, hz, hzs⟩ := slT_spec hT
  refine R_append hx hy ?_
  cases a <;> cases a2 <;> simp [Builtin.append_, go_sem, run_underlying ht, sizeOf, typeInfo, hi, Builtin.lenOf, Builtin.firstCells, loadCells, loadCellsFrom, storeCells, h]
end
/-- the cells of a row that is there -/
theorem rowM.cells {α : Type} {k : Nat} {M : World → (Nat → Prop) → α → List Value → Prop} {w : World} {N : Nat → Prop} {l : List α} {va : Option Addr} {vc : Nat} (h : rowM k M w N l (va, vc)) (hk : ∀ e cs, M w N e cs → cs.length = k ∧ cs.all Value.oneCell' = true) (h0 : 0 < l.length) :
    ∃ q o ys, va = some ⟨q, o, none⟩ ∧ N q ∧ ys.length = l.length * k ∧ ys.all Value.oneCell' = true ∧ (∀ (j : Nat) u, ys[j]? = some u → w.cell? ⟨q, o + j, none⟩ = some u) ∧ Mc k M w N l ys := by
  obtain ⟨cs0, ⟨q, o, hq, hN, _⟩, _⟩ := h.2 0 _ (List.getElem?_eq_getElem h0)
  dsimp only at hq
  subst hq
  have key : ∀ n, n ≤ l.length → ∃ ys : List Value, ys.length = n * k ∧ ys.all Value.oneCell' = true ∧ (∀ (j : Nat) u, ys[j]? = some u → w.cell? ⟨q, o + j, none⟩ = some u) ∧ Mc k M w N (l.take n) ys := by
    intro n
    induction n with
    | zero => intro _; exact ⟨[], (Nat.zero_mul k).symm, rfl, fun j u hj => by simp at hj, by rw [List.take_zero]; exact Mc.nil⟩
    | succ n ih =>
      intro hn
      obtain ⟨ys, h1, h2, h3, h4⟩ := ih (by omega)
      obtain ⟨cs, ⟨q2, o2, hq2, _, hc⟩, hM⟩ := h.2 n _ (List.getElem?_eq_getElem (by omega))
      cases hq2
      obtain ⟨h5, h6⟩ := hk _ _ hM
      refine ⟨ys ++ cs, by rw [List.length_append, h1, h5, Nat.succ_mul], by rw [List.all_append, h2, h6]; rfl, fun j u hj => ?_, ?_⟩
      · rcases Nat.lt_or_ge j (n * k) with hlt | hge
        · rw [List.getElem?_append_left (by omega)] at hj; exact h3 j u hj
        · rw [List.getElem?_append_right (by omega), h1] at hj
          have := hc _ u hj
          rwa [show o + n * k + (j - n * k) = o + j by omega] at this
      · rw [List.take_succ_eq_append_getElem (by omega)]
        exact h4.snoc (by rw [h1, List.length_take, Nat.min_eq_left (by omega)]) h5 hM
  obtain ⟨ys, h1, h2, h3, h4⟩ := key l.length (Nat.le_refl _)
  rw [List.take_length] at h4
  exact ⟨q, o, ys, rfl, hN, h1, h2, h3, h4⟩
theorem diC_cells {w : World} {N : Nat → Prop} (e : Di) (cs : List Value) (h : diC w N e cs) : cs.length = 5 ∧ cs.all Value.oneCell' = true := by
  obtain ⟨b, rfl, _⟩ := h
  exact ⟨rfl, rfl⟩
theorem rwC_cells {w : World} {N : Nat → Prop} (e : Rw) (cs : List Value) (h : rwC w N e cs) : cs.length = 3 ∧ cs.all Value.oneCell' = true := by
  obtain ⟨b, rfl, _⟩ := h
  exact ⟨rfl, rfl⟩
theorem Mc.cons3 {w : World} {N : Nat → Prop} {x y : Rw} {xs : List Rw} {zs cs : List Value} (h : Mc 3 rwC w N (x :: xs) zs) (hy : rwC w N y cs) : Mc 3 rwC w N (y :: xs) (cs ++ zs.drop 3) := by
  have hc := (rwC_cells y cs hy).1
  intro j e he
  cases j with
  | zero =>
    simp only [List.getElem?_cons_zero, Option.some.injEq] at he
    subst he
    rw [Nat.zero_mul, List.drop_zero, List.take_append_of_le_length (by omega), List.take_of_length_le (by omega)]
    exact hy
  | succ j =>
    rw [List.getElem?_cons_succ] at he
    have h1 := h (j + 1) e (by rw [List.getElem?_cons_succ]; exact he)
    rw [List.drop_append, List.drop_eq_nil_of_le (by omega), List.nil_append, List.drop_drop, hc, show 3 + ((j + 1) * 3 - 3) = (j + 1) * 3 by omega]
    exact h1
theorem Mc.set5 {w : World} {N : Nat → Prop} {l : List Di} {ys : List Value} {i : Nat} {d : Di} {ns : List Rw} {b : Option Addr × Nat} (h : Mc 5 diC w N l ys) (hd : l[i]? = some d) (hb : diT w N { d with nums := ns } b) : Mc 5 diC w N (l.set i { d with nums := ns }) (ys.set (i * 5 + 4) (.slice b.1 ns.length b.2)) := by
  intro j e he
  have hi := (List.getElem?_eq_some_iff.1 hd).1
  by_cases hj : j = i
  · subst hj
    rw [List.getElem?_set_self hi, Option.some.injEq] at he
    subst he
    obtain ⟨b0, h1, _⟩ := h j d hd
    refine ⟨b, ?_, hb⟩
    rw [List.drop_set, if_neg (by omega), show j * 5 + 4 - j * 5 = 4 by omega, List.take_set, h1]
    rfl
  · rw [List.getElem?_set_ne (fun h => hj h.symm)] at he
    have h1 := h j e he
    rw [List.drop_set]
    split
    · exact h1
    · rename_i hlt
      rw [List.take_set, List.set_eq_of_length_le (by rw [List.length_take]; have : i < j ∨ j < i := by omega
                                                      omega)]
      exact h1
theorem set_take {l : List Value} {o : Nat} (v : Value) (h : o < l.length) : l.take o ++ [v] ++ l.drop (o + 1) = l.set o v := by
  rw [List.set_eq_take_append_cons_drop, if_pos h, List.append_assoc]; rfl
/-- a row in hand, one cell of it changed -/
theorem Own.one {T : TypeId} {k : Nat} {a : Option Addr} {n c : Nat} {ys : List Value} {W : Heap} (h : Own T k (.slice a n c) ys n W) (hn : 0 < n) : ∃ q sp, a = some ⟨q, 0, none⟩ ∧ W = [(q, cel (ys ++ sp) T)] ∧ ∀ (o : Nat) (v : Value), o < ys.length → Own T k (.slice (some ⟨q, 0, none⟩) n c) (ys.set o v) n [(q, cel ((ys ++ sp).set o v) T)] := by
  rcases h.2 with ⟨_, h2, _⟩ | ⟨q, c', sp, h1, h2, h3, rfl⟩
  · omega
  · simp only [Value.slice.injEq] at h1
    obtain ⟨rfl, _, rfl⟩ := h1
    refine ⟨q, sp, rfl, rfl, fun o v ho => ⟨by rw [List.length_set]; exact h.1, .inr ⟨q, c, sp, rfl, h2, h3, ?_⟩⟩⟩
    rw [List.set_append_left _ _ ho]
end Go.Sx
end
section
namespace Go.Proofs.YtikdkendinnalaaGreatDoor
open Go.RowKit Go.Sx
open Go.Tok Go.Tree Go.Prs Go.Feed Go.Num
/-- data that a statement looks at, and their numbers -/
structure FB (l : List Di) : Prop where
  sm : SmB l
  lt : ∀ d ∈ l, ∀ x ∈ d.nums, x.n < Go.Num.B ^ 3 ∧ x.d < Go.Num.B ^ 3
theorem FB.dis {l : List Di} (h : FB l) : DisB l := ⟨Nat.le_trans h.sm.1 (by decide), fun d hd => ⟨Nat.le_trans (h.sm.2 d hd).2.1 (by decide), Nat.le_trans (h.sm.2 d hd).1 (by decide), fun x hx => ⟨Nat.le_trans ((h.sm.2 d hd).2.2 x hx).1 (by decide), Nat.le_trans ((h.sm.2 d hd).2.2 x hx).2 (by decide)⟩⟩⟩
theorem FB.sz {l : List Di} (h : FB l) : ∀ d ∈ l, ∀ x ∈ d.nums, sz x.n ≤ 2000 ∧ sz x.d ≤ 2000 := fun d hd x hx => ⟨Nat.le_trans (sz_iff.2 (h.lt d hd x hx).1) (by decide), Nat.le_trans (sz_iff.2 (h.lt d hd x hx).2) (by decide)⟩
theorem FB.small {l : List Di} (h : FB l) : smallD l := ⟨h.sm.1, fun d hd => ⟨(h.sm.2 d hd).1, (h.sm.2 d hd).2.1, fun x hx => (h.lt d hd x hx).1⟩⟩
theorem FB.len {l : List Di} (h : FB l) : (dataT l).length ≤ 1000000000 := by
  have h1 := flat_len datT 1405 l (fun d hd => (dat_small (h.small.2 d hd)).1)
  have h2 := h.sm.1
  have h3 : l.length * 1405 ≤ 12 * 1405 := Nat.mul_le_mul_right _ h2
  unfold dataT; omega
theorem FB.of {l : List Di} {w : World} {N : Nat → Prop} {b : Option Addr × Nat} (hD : disV w N l b) (h : SmB l) : FB l := ⟨h, fun d hd x hx => by
  obtain ⟨i, hi⟩ := List.getElem?_of_mem hd
  obtain ⟨cs, _, b7, rfl, hT⟩ := hD.2 i d hi
  obtain ⟨j, hj⟩ := List.getElem?_of_mem hx
  obtain ⟨cs2, _, b8, rfl, hr⟩ := hT.2 j x hj
  have h1 := (h.2 d hd).2.2 x hx
  have hB : 0 < Go.Num.B := B_pos
  exact ⟨Nat.lt_of_lt_of_le hr.n.nm.lt (Nat.pow_le_pow_right hB h1.1), Nat.lt_of_lt_of_le hr.d.nm.lt (Nat.pow_le_pow_right hB h1.2)⟩⟩
theorem FB.set {l : List Di} (h : FB l) {i : Nat} {d : Di} {x y : Rw} {xs : List Rw} (hd : l[i]? = some d) (hx : d.nums = x :: xs) (hp : y.p ≤ 3 ∧ y.q ≤ 3) (hy : y.n < Go.Num.B ^ 3 ∧ y.d < Go.Num.B ^ 3) : FB (l.set i { d with nums := y :: xs }) := by
  have hm := List.mem_of_getElem? hd
  have key : ∀ e ∈ l.set i { d with nums := y :: xs }, e ∈ l ∨ e = { d with nums := y :: xs } := fun e he => (List.mem_or_eq_of_mem_set he)
  have hxs : ∀ z ∈ xs, z ∈ d.nums := fun z hz => by rw [hx]; exact .tail _ hz
  refine ⟨⟨by rw [List.length_set]; exact h.sm.1, fun e he => ?_⟩, fun e he => ?_⟩
  · rcases key e he with he | rfl
    · exact h.sm.2 e he
    · have h1 := h.sm.2 d hm
      refine ⟨h1.1, by have h2 := h1.2.1; rw [hx] at h2; exact h2, fun z hz => ?_⟩
      rcases List.mem_cons.1 hz with rfl | hz
      · exact hp
      · exact h1.2.2 z (hxs z hz)
  · rcases key e he with he | rfl
    · exact h.lt e he
    · intro z hz
      rcases List.mem_cons.1 hz with rfl | hz
      · exact hy
      · exact h.lt d hm z (hxs z hz)
theorem ok_of {l : List Di} (h : (writeP l).2 = 0) : okW [] l = true := by
  unfold writeP at h
  cases h2 : okW [] l with
  | true => rfl
  | false => rw [h2] at h; cases h
theorem neg_ok {x : Rw} (hx : x.ok = true) (hs : ¬ (iv x.s x.n).sign = 0) : (rwR (mkR (!x.s) x.n x.d)).ok = true ∧ ng x.r.1 ≠ ng (rwR (mkR (!x.s) x.n x.d)).r.1 := by
  unfold Rw.ok at hx
  simp only [Bool.and_eq_true, decide_eq_true_eq] at hx
  obtain ⟨hd, h1⟩ := hx
  have hn : x.n ≠ 0 := fun h0 => hs (by rw [iv_sign, if_pos h0])
  have hg : Nat.gcd x.n x.d ≠ 0 := fun h => hd (Nat.eq_zero_of_gcd_eq_zero_right h)
  have hq : x.n / Nat.gcd x.n x.d ≠ 0 := by
    have := Nat.div_pos (Nat.le_of_dvd (Nat.pos_of_ne_zero hn) (Nat.gcd_dvd_left x.n x.d)) (Nat.pos_of_ne_zero hg)
    omega
  have e1 : x.r.1 = iv x.s (x.n / Nat.gcd x.n x.d) := rfl
  have e2 : x.d / Nat.gcd x.n x.d = 1 := h1
  have e3 : (rwR (mkR (!x.s) x.n x.d)).r = (iv (!x.s) (x.n / Nat.gcd x.n x.d), 1) := by
    show mkR (ng (iv (!x.s) (x.n / Nat.gcd x.n x.d))) (iv (!x.s) (x.n / Nat.gcd x.n x.d)).natAbs (x.d / Nat.gcd x.n x.d) = _
    rw [e2, iv_abs, ng_iv, decide_eq_true hq, Bool.and_true]
    unfold mkR
    rw [Nat.gcd_one_right, Nat.div_one, Nat.div_one]
  refine ⟨?_, ?_⟩
  · unfold Rw.ok
    rw [e3]
    simp only [Bool.and_eq_true, decide_eq_true_eq]
    exact ⟨(show ¬ x.d / Nat.gcd x.n x.d = 0 from by rw [e2]; decide), trivial⟩
  · rw [e3, e1]
    show ng (iv x.s _) ≠ ng (iv (!x.s) _)
    rw [ng_iv, ng_iv, decide_eq_true hq, Bool.and_true, Bool.and_true]
    cases x.s <;> decide
theorem neg_sz {x : Rw} (hn : x.n < Go.Num.B ^ 3) (hd : x.d < Go.Num.B ^ 3) : ((rwR (mkR (!x.s) x.n x.d)).p ≤ 3 ∧ (rwR (mkR (!x.s) x.n x.d)).q ≤ 3) ∧ (rwR (mkR (!x.s) x.n x.d)).n < Go.Num.B ^ 3 ∧ (rwR (mkR (!x.s) x.n x.d)).d < Go.Num.B ^ 3 := by
  have h1 := mkR_sz (!x.s) x.n x.d
  have h2 := sz_iff.2 hn
  have h3 := sz_iff.2 hd
  have h4 : sz (mkR (!x.s) x.n x.d).1.natAbs ≤ 3 := Nat.le_trans h1.1 h2
  have h5 : sz (mkR (!x.s) x.n x.d).2 ≤ 3 := Nat.le_trans h1.2 h3
  exact ⟨⟨h4, h5⟩, sz_iff.1 h4, sz_iff.1 h5⟩
theorem hd_cells {w : World} {q o : Nat} {x : Rw} {b : A2} {zs : List Value} (hzc : ∀ (j : Nat) u, zs[j]? = some u → w.cell? ⟨q, o + j, none⟩ = some u) (hbr : (zs.drop (0 * 3)).take 3 = rwE x b) : ∀ (j : Nat) v, (rwE x b)[j]? = some v → w.cell? ⟨q, o + 0 * 3 + j, none⟩ = some v := fun j v hj => by
  rw [← hbr, List.getElem?_take] at hj
  split at hj
  · rw [Nat.zero_mul, List.drop_zero] at hj
    rw [Nat.zero_mul, Nat.add_zero]; exact hzc j v hj
  · cases hj
theorem run_to {P : Program} {o : Oper} {ρ : Operand → Value} {w w' : World} {v v' : Value} (h : Run P o ρ w v w') (e : v = v') : Run P o ρ w v' w' := e ▸ h
theorem new_row {w w9 : World} {l : List Di} {i : Nat} {d7 : Di} {xr yr : Rw} {xs7 : List Rw} {ys zs sp : List Value} {qm cm c3 : Nat} {a3 : Option Addr} {W3 : Heap} {TD TF : TypeId} {b : A2}
    (hMy : Mc 5 diC w (fun _ => True) l ys) (hf : Fr No w w9) (hyl : ys.length = l.length * 5) (hd7 : l[i]? = some d7) (hcn : d7.nums = xr :: xs7) (hMz : Mc 3 rwC w9 (fun _ => True) (xr :: xs7) zs) (hy : rwT w9 (fun _ => True) yr b)
    (hO3 : Own TF 3 (.slice a3 d7.nums.length c3) (rwE yr b ++ zs.drop 3) d7.nums.length W3) (hW3 : ∀ p ∈ W3, w9.heap[p.1]? = some p.2)
    (hset : ∀ (o : Nat) (v : Value), o < ys.length → Own TD 5 (.slice (some ⟨qm, 0, none⟩) l.length cm) (ys.set o v) l.length [(qm, cel ((ys ++ sp).set o v) TD)])
    (hq : w9.heap[qm]? = some (cel ((ys ++ sp).set (0 + i * 5 + 4) (.slice a3 d7.nums.length c3)) TD)) : disV w9 (fun _ => True) (l.set i { d7 with nums := yr :: xs7 }) (some ⟨qm, 0, none⟩, cm) := by
  have hi := (List.getElem?_eq_some_iff.1 hd7).1
  have hn : (yr :: xs7).length = d7.nums.length := by rw [hcn]; rfl
  obtain ⟨b3, hb3, hr3⟩ := _root_.Go.Sx.own_row (l := yr :: xs7) (by rw [hn]; exact hO3) hW3 (N := fun _ => True) (fun _ _ => trivial) (M := rwC) (hMz.cons3 ⟨b, rfl, hy⟩)
  simp only [Value.slice.injEq] at hb3
  obtain ⟨e1, _, e2⟩ := hb3
  have hM := Mc.set5 (b := b3) ((TL.cells TL.dic).fr hMy hf (fun _ _ h => h)) hd7 hr3
  rw [Nat.zero_add] at hq
  rw [e1, e2, ← hn] at hq
  have hO := hset (i * 5 + 4) (.slice b3.1 (yr :: xs7).length b3.2) (by rw [hyl]; omega)
  obtain ⟨b4, hb4, hr4⟩ := _root_.Go.Sx.own_row (l := l.set i { d7 with nums := yr :: xs7 }) (by rw [List.length_set]; exact hO) (fun p hp => by rw [List.mem_singleton.1 hp]; exact hq) (N := fun _ => True) (fun _ _ => trivial) (M := diC) hM
  simp only [Value.slice.injEq] at hb4
  obtain ⟨e3, _, e4⟩ := hb4
  have : b4 = (some ⟨qm, 0, none⟩, cm) := Prod.ext e3.symm e4.symm
  rw [this] at hr4
  exact hr4
set_option maxRecDepth 100000 in
set_option maxHeartbeats 4000000 in
theorem twice_walk (l : List Di) (va : Option Addr) (vc wh : Nat) (hwh : wh < 256) (w : World) (hD : disV w (fun _ => True) l (va, vc)) (hl : l.length ≤ 9223372036854775807) (hnl : ∀ d ∈ l, d.nums.length ≤ 9223372036854775807 ∧ d.nm.length ≤ 9223372036854775807) (hW : Wd w) (hng : 11 ≤ w.heap.size) :
    Ret Tryz.prog 5 #[.slice va l.length vc, .int .u8 (wh : Nat)] w (fun v w' => v = .bool true ∧ Ext w w') := by
  refine enter (S := No) (l := [_, _]) (L := []) 140 Tryz.func5 rfl rfl rfl (St.start w No) ?_; refine yA ?_; refine aB rfl ?_; refine yB ?_; refine zq ?_; refine yA ?_; refine mS rfl ?_; refine w_callV (fun b : {b : Bool // b = false → SmB l} => .bool b.1) (fun w => zR Tryz.func13 rfl rfl rfl) rfl rfl (fun w9 h => Calls.mono (great_ok l va vc w9 ((TL.row TL.dic).fr hD (h.fr _ (.head _)) (fun _ _ hx => hx)) hl hnl) fun e w' ⟨v, hv, ⟨b, hb, hs⟩, hx⟩ => ⟨v, hv, ⟨⟨b, hs⟩, hb⟩, hx⟩) (fun b => ?_)
  obtain ⟨b, hb⟩ := b; cases b
  · have hFB := FB.of hD (hb rfl); have hl12 := hFB.sm.1
    refine yB ?_; refine c_condF rfl ?_; refine zi ?_; refine zk ?_; refine yA ?_; refine mS rfl ?_; refine zC (v := .tuple #[str (writeP l).1, .int .i64 ((writeP l).2 : Nat)]) (fun w => zR Tryz.func14 rfl rfl rfl) rfl rfl (fun w9 h => Write_ok l _ vc w9 ((TL.row TL.dic).fr hD (h.fr _ (.head _)) (fun _ _ hx => hx)) hFB.dis hFB.sz hFB.len (hW.now (.head _) h) (Nat.le_trans hng (h.fr _ (.head _)).size)) ?_; refine zm rfl ?_; refine w_r (fun _ => R_extract rfl rfl) rfl rfl ?_; refine w_r (fun _ => R_extract rfl rfl) rfl rfl ?_; refine za (v := str _) rfl ?_; refine aI rfl ?_; refine yC ?_; refine mS rfl ?_
    refine zC (v := .tuple #[str (writeP l).1, .int .i64 ((writeP l).2 : Nat)]) (fun w => zR Tryz.func14 rfl rfl rfl) rfl rfl (fun w9 h => Write_ok l _ vc w9 ((TL.row TL.dic).fr hD (h.fr _ (.head _)) (fun _ _ hx => hx)) hFB.dis hFB.sz hFB.len (hW.now (.head _) h) (Nat.le_trans hng (h.fr _ (.head _)).size)) ?_; refine zm rfl ?_; refine w_r (fun _ => R_extract rfl rfl) rfl rfl ?_; refine w_r (fun _ => R_extract rfl rfl) rfl rfl ?_; refine za (v := str _) rfl ?_; refine aI rfl ?_; refine yB ?_; refine zq ?_; refine yA ?_; refine zm (v := str _) rfl ?_; refine zm (v := str _) rfl ?_; refine w_r (fun _ => R_sne rfl rfl) rfl rfl ?_; refine mB rfl ?_; refine zw rfl rfl (congrArg Value.bool (decide_eq_false (fun h => h rfl))) ?_
    refine mI rfl ?_; refine zw rfl rfl (congrArg Value.bool (decide_eq_false (fun h => h rfl))) ?_; refine mI rfl ?_
    refine zw rfl rfl (congrArg Value.bool (decide_eq_false (fun h => h rfl))) ?_; refine w_r (fun _ => R_neN (a := (writeP l).2) (b := (writeP l).2) rfl rfl) rfl rfl ?_; refine w_r (v := .bool _) (fun _ => zF (congrArg Value.bool (decide_eq_false (fun h => h rfl))) rfl) rfl rfl ?_; refine mB rfl ?_; refine zw rfl rfl (congrArg Value.bool (decide_eq_false (fun h => h rfl))) ?_; refine mI rfl ?_; refine zw rfl rfl (congrArg Value.bool (decide_eq_false (fun h => h rfl))) ?_
    refine w_r (fun _ => R_neN (a := ((writeP l).2)) (b := 0) rfl rfl) rfl rfl ?_; refine w_r (v := .bool _) (fun _ => zF (congrArg Value.bool (decide_eq_false (fun h => h rfl))) rfl) rfl rfl ?_
    refine mB rfl ?_; refine zd (t := 40) rfl (fun h1 => ?_) (fun h1 => ?_)
    · refine zs rfl rfl (bT h1) ?_; refine zs rfl rfl (bT h1) ?_; refine zs rfl rfl (bT h1) ?_; refine w_r (v := .bool _) (fun _ => zT (bT h1) rfl) rfl rfl ?_; refine yB ?_; refine zE rfl ?_; refine yA ?_; refine zm (v := str _) rfl ?_; refine zm (v := str _) rfl ?_; refine w_r (fun _ => R_seq rfl rfl) rfl rfl ?_; refine mB rfl ?_; refine zw rfl rfl (congrArg Value.bool (decide_eq_true rfl)) ?_; refine mI rfl ?_; refine zw rfl rfl (congrArg Value.bool (decide_eq_true rfl)) ?_; refine mI rfl ?_; refine zw rfl rfl (congrArg Value.bool (decide_eq_true rfl)) ?_; refine w_r (fun _ => R_eqN (a := (writeP l).2) (b := (writeP l).2) rfl rfl) rfl rfl ?_
      refine w_r (v := .bool _) (fun _ => zT (congrArg Value.bool (decide_eq_true rfl)) rfl) rfl rfl ?_; refine mB rfl ?_; refine zw rfl rfl (congrArg Value.bool (decide_eq_true rfl)) ?_; refine zC (fun w => zR Tryz.func8 rfl rfl rfl) rfl rfl (fun w h => head_ok w (hW.now (.head _) h) (Nat.le_trans hng (h.fr _ (.head _)).size)) ?_; refine w_r (v := .bool _) (fun _ => zT (congrArg Value.bool (decide_eq_true rfl)) rfl) rfl rfl ?_; refine aB rfl ?_; refine yB ?_; refine ze ?_; refine zt (?_)
      refine zo (v := .bool _) rfl rfl rfl ?_; exact fun w' hw => ⟨rfl, hw.fr (w, No) (.head _)⟩
    · have hz : (writeP l).2 = 0 := (by omega)
      refine zw rfl rfl (bF h1) ?_; refine mS rfl ?_; refine zw rfl rfl (bF h1) ?_; refine w_r (fun _ => R_len sl24 rfl) rfl rfl ?_; refine zw rfl rfl (bF h1) ?_; refine w_r (fun _ => R_eqN (a := (l.length)) (b := 0) rfl rfl) rfl rfl ?_; refine w_r (v := .bool _) (fun _ => zF (bF h1) rfl) rfl rfl ?_; refine yB ?_; refine zD rfl (fun h2 => ?_) (fun h2 => ?_)
      · refine yA ?_; refine zm (v := str _) rfl ?_; refine zm (v := str _) rfl ?_; refine w_r (fun _ => R_seq rfl rfl) rfl rfl ?_; refine mB rfl ?_; refine zw rfl rfl (congrArg Value.bool (decide_eq_true rfl)) ?_; refine mI rfl ?_; refine zw rfl rfl (congrArg Value.bool (decide_eq_true rfl)) ?_; refine mI rfl ?_; refine zw rfl rfl (congrArg Value.bool (decide_eq_true rfl)) ?_; refine w_r (fun _ => R_eqN (a := (writeP l).2) (b := (writeP l).2) rfl rfl) rfl rfl ?_; refine w_r (v := .bool _) (fun _ => zT (congrArg Value.bool (decide_eq_true rfl)) rfl) rfl rfl ?_; refine mB rfl ?_; refine zw rfl rfl (congrArg Value.bool (decide_eq_true rfl)) ?_
        refine zC (fun w => zR Tryz.func8 rfl rfl rfl) rfl rfl (fun w h => head_ok w (hW.now (.head _) h) (Nat.le_trans hng (h.fr _ (.head _)).size)) ?_; refine w_r (v := .bool _) (fun _ => zT (congrArg Value.bool (decide_eq_true rfl)) rfl) rfl rfl ?_; refine aB rfl ?_; refine yB ?_; refine ze ?_; refine zt (?_)
        refine zo (v := .bool _) rfl rfl rfl ?_; exact fun w' hw => ⟨rfl, hw.fr (w, No) (.head _)⟩
      · refine zi ?_; refine zk ?_; refine yA ?_; refine mI rfl ?_; refine w_r (fun _ => R_convK (n := wh) un5 un3 rfl (wrap_i (by omega))) rfl rfl ?_; refine mS rfl ?_; refine w_r (fun _ => R_len sl24 rfl) rfl rfl ?_; refine w_r (fun _ => R_remU (a := wh) (b := l.length) rfl rfl (by omega)) rfl rfl ?_
        generalize hie : wh % l.length = i; have hi2 : i < l.length := hie ▸ Nat.mod_lt _ (by omega)
        obtain ⟨d7, hd7⟩ : ∃ d, l[i]? = some d := ⟨_, List.getElem?_eq_getElem hi2⟩; obtain ⟨cs7, hA7, ⟨an7, cn7⟩, rfl, hT7⟩ := hD.2 i d7 hd7; obtain ⟨q7, o7, hq7, hne7, hc7⟩ := hA7; dsimp only at hq7; subst hq7; have hm7 := List.mem_of_getElem? hd7; have hs7 := hFB.sm.2 d7 hm7; have hok := ok_of hz; have hfd : findD l d7.nm = some d7 := find_nodup (okW_mem l [] hok).2 hd7
        refine aI rfl ?_; refine yC ?_; refine mS rfl ?_; refine mS rfl ?_; refine mI rfl ?_; refine w_r (fun _ => R_iaN (i := i) sl24 rfl rfl (by first | omega | decide | exact Nat.succ_pos _ | exact Nat.succ_lt_succ (Nat.succ_pos _))) rfl rfl ?_; refine zf fa33_0 rfl ?_; refine zl (v := str d7.nm) z9 rfl (fun w h => cel_old (.head _) (hc7 0 _ rfl) (fun x => x) h) ?_; refine w_telK TL.dit d7 (fun b => .tuple #[.agg (diE d7 b).toArray, .bool true]) (s0 := w.heap.size) (fun w => zR Tryz.func12 rfl rfl rfl) rfl rfl (fun w1 h => (h.fr _ (.head _)).size) (fun w1 h => by have h9 := Find_ok l d7.nm _ vc w1 ((TL.row TL.dic).fr hD (h.fr _ (.head _)) (fun _ _ hx => hx)) hFB.dis; rw [hfd] at h9; exact h9) (fun xf bf hKf => ?_)
        obtain ⟨af, cf⟩ := bf; have hRf : rowM 3 rwC xf.1 (Nb w.heap.size xf) d7.nums (af, cf) := hKf
        refine zm rfl ?_; refine w_r (fun _ => R_extract rfl rfl) rfl rfl ?_; refine w_r (fun _ => R_extract rfl rfl) rfl rfl ?_; refine w_alloc zr33 (fun b3 gb3 ub3 => ?_)
        refine w_store 0 rfl z33 rfl rfl rfl rfl rfl rfl rfl ?_; refine aB rfl ?_; refine yB ?_; refine zq ?_; refine zq ?_; refine c_heldS mixed ?_; refine zh (v := .bool _) 0 rfl (by kernel_rfl) rfl rfl (fun w h => h) (fun w h => R_move rfl) ?_; refine zh 1 rfl (by kernel_rfl) rfl rfl (fun w h => h) (fun w h => R_not rfl) ?_; refine zh (v := .bool _) 2 rfl (by kernel_rfl) rfl rfl (fun w h => h) (fun w h => R_move rfl) ?_; refine h_takeG 3 rfl (by kernel_rfl) rfl rfl rfl rfl rfl (fun w h => h) (fun w h => R_fa fa33_0 rfl) ?_; refine h_takeG (v := str _) 4 rfl (by kernel_rfl) rfl rfl rfl rfl rfl (fun w h => h) (fun w h => R_ld1 z9 rfl (zc 0 rfl rfl h)) ?_; refine h_takeG (v := .slice _ _ _) 5 rfl (by kernel_rfl) rfl rfl rfl rfl rfl (fun w h => h) (fun w h => R_move rfl) ?_
        refine h_takeG (v := .int _ _) 6 rfl (by kernel_rfl) rfl rfl rfl rfl rfl (fun w h => h) (fun w h => R_move rfl) ?_; refine h_takeG 7 rfl (by kernel_rfl) rfl rfl rfl rfl rfl (fun w h => h) (fun w h => R_iaN (i := i) sl24 rfl rfl (by first | omega | decide | exact Nat.succ_pos _ | exact Nat.succ_lt_succ (Nat.succ_pos _))) ?_; refine h_takeG 8 rfl (by kernel_rfl) rfl rfl rfl rfl rfl (fun w h => h) (fun w h => R_fa fa33_0 rfl) ?_; refine h_takeG (v := str _) 9 rfl (by kernel_rfl) rfl rfl rfl rfl rfl (fun w h => h) (fun w h => R_ld1 z9 rfl (by first | exact zc 0 rfl rfl h | exact cel_old (.tail _ (.head _)) (hc7 0 _ rfl) (fun x => x) h | exact cel_old (.tail _ (.head _)) (hc7 4 _ rfl) (fun x => x) h)) ?_; refine h_takeG 10 rfl (by kernel_rfl) rfl rfl rfl rfl rfl (fun w h => h) (fun w h => R_sne rfl rfl) ?_
        refine zh (v := .bool _) 11 rfl (by kernel_rfl) rfl rfl (fun w h => h) (fun w h => zF rfl rfl) ?_; refine zh (v := .bool _) 12 rfl (by kernel_rfl) rfl rfl (fun w h => h) (fun w h => R_move rfl) ?_; refine h_takeG 13 rfl (by kernel_rfl) rfl rfl rfl (congrArg Value.bool (decide_eq_false (fun h => h rfl))) rfl (fun w h => h) (fun w h => R_fa fa33_4 rfl) ?_; refine h_takeG (v := .slice _ _ _) 14 rfl (by kernel_rfl) rfl rfl rfl (congrArg Value.bool (decide_eq_false (fun h => h rfl))) rfl (fun w h => h) (fun w h => R_ld1 z31 rfl (zc 0 rfl rfl h)) ?_; refine h_takeG 15 rfl (by kernel_rfl) rfl rfl rfl (congrArg Value.bool (decide_eq_false (fun h => h rfl))) rfl (fun w h => h) (fun w h => R_len sl31 rfl) ?_
        refine h_takeG (v := .slice _ _ _) 16 rfl (by kernel_rfl) rfl rfl rfl (congrArg Value.bool (decide_eq_false (fun h => h rfl))) rfl (fun w h => h) (fun w h => R_move rfl) ?_; refine h_takeG (v := .int _ _) 17 rfl (by kernel_rfl) rfl rfl rfl (congrArg Value.bool (decide_eq_false (fun h => h rfl))) rfl (fun w h => h) (fun w h => R_move rfl) ?_; refine h_takeG 18 rfl (by kernel_rfl) rfl rfl rfl (congrArg Value.bool (decide_eq_false (fun h => h rfl))) rfl (fun w h => h) (fun w h => R_iaN (i := i) sl24 rfl rfl (by first | omega | decide | exact Nat.succ_pos _ | exact Nat.succ_lt_succ (Nat.succ_pos _))) ?_; refine h_takeG 19 rfl (by kernel_rfl) rfl rfl rfl (congrArg Value.bool (decide_eq_false (fun h => h rfl))) rfl (fun w h => h) (fun w h => R_fa fa33_4 rfl) ?_
        refine h_takeG (v := .slice _ _ _) 20 rfl (by kernel_rfl) rfl rfl rfl (congrArg Value.bool (decide_eq_false (fun h => h rfl))) rfl (fun w h => h) (fun w h => R_ld1 z31 rfl (by first | exact zc 0 rfl rfl h | exact cel_old (.tail _ (.head _)) (hc7 0 _ rfl) (fun x => x) h | exact cel_old (.tail _ (.head _)) (hc7 4 _ rfl) (fun x => x) h)) ?_; refine h_takeG 21 rfl (by kernel_rfl) rfl rfl rfl (congrArg Value.bool (decide_eq_false (fun h => h rfl))) rfl (fun w h => h) (fun w h => R_len sl31 rfl) ?_; refine h_takeG 22 rfl (by kernel_rfl) rfl rfl rfl (congrArg Value.bool (decide_eq_false (fun h => h rfl))) rfl (fun w h => h) (fun w h => R_ne rfl rfl) ?_; refine zh (v := .bool _) 23 rfl (by kernel_rfl) rfl rfl (fun w h => h) (fun w h => zF (congrArg Value.bool (decide_eq_false (fun h => h rfl))) rfl) ?_
        refine h_done (by kernel_rfl) (fun w h => h) ?_; refine zk ?_; refine c_condF (congrArg Value.bool (decide_eq_false (fun h => h rfl))) ?_; refine zi ?_; refine zk ?_; refine zq ?_; refine yA ?_; refine zf fa33_4 rfl ?_; refine zl z31 rfl (fun _ h => zc 0 rfl rfl h) ?_; refine w_r (fun _ => R_len sl31 rfl) rfl rfl ?_; refine w_r (fun _ => R_eqN (a := (d7.nums.length)) (b := 0) rfl rfl) rfl rfl ?_; refine mB rfl ?_; refine zd (t := 99) rfl (fun h4 => ?_) (fun h4 => ?_)
        · refine zs rfl rfl (bT h4) ?_; refine zs rfl rfl (bT h4) ?_; refine zs rfl rfl (bT h4) ?_; refine zs rfl rfl (bT h4) ?_; refine zs rfl rfl (bT h4) ?_; refine zs rfl rfl (bT h4) ?_; refine w_r (v := .bool _) (fun _ => zT (bT h4) rfl) rfl rfl ?_; refine yB ?_; refine zE rfl ?_; refine yA ?_; refine zC (fun w => zR Tryz.func8 rfl rfl rfl) rfl rfl (fun w h => head_ok w (hW.now (.tail _ (.head _)) h) (Nat.le_trans hng (h.fr _ (.tail _ (.head _))).size)) ?_; refine aB rfl ?_; refine yB ?_; refine ze ?_; refine zt (?_)
          refine zo (v := .bool _) rfl rfl rfl ?_; exact fun w' hw => ⟨rfl, hw.fr (w, No) (.tail _ (.head _))⟩
        · have hn0 : 0 < d7.nums.length := (by omega); obtain ⟨xr, xs7, hcn⟩ : ∃ x xs, d7.nums = x :: xs := (by cases hh : d7.nums with | nil => (rw [hh] at hn0; exact absurd hn0 (by decide)) | cons x xs => exact ⟨x, xs, rfl⟩); obtain ⟨qF, oF, zs, hqF, hNF, hzl, hza, hzc, hMz⟩ := hRf.cells rwC_cells hn0; subst hqF; rw [hcn] at hMz; have hxm : xr ∈ d7.nums := (by rw [hcn]; exact .head _); have hxp := hs7.2.2 xr hxm; have hxl := hFB.lt d7 hm7 xr hxm; have hxd := okN_mem hok hm7 hxm; obtain ⟨br, hbr, hTx⟩ := hMz 0 xr rfl;have hz3 := hd_cells hzc hbr
          refine zw rfl rfl (bF h4) ?_; refine zf fa33_4 rfl ?_; refine zw rfl rfl (bF h4) ?_; refine zl z31 rfl (fun _ h => zc 0 rfl rfl h) ?_; refine zw rfl rfl (bF h4) ?_; refine w_r (fun _ => R_iaN (i := 0) sl31 rfl rfl (by first | omega | decide | exact Nat.succ_pos _ | exact Nat.succ_lt_succ (Nat.succ_pos _))) rfl rfl ?_; refine zw rfl rfl (bF h4) ?_; refine w_loadC (l := rwE xr br) z46 rfl rfl (fun w h j v hj => cel_old (.head _) (hz3 j v hj) hNF.2.2 h) ?_; refine zw rfl rfl (bF h4) ?_; refine zC (fun w => zR Tryz.func15 rfl rfl rfl) rfl rfl (fun w h => jSign6_ok xr.s w ((hTx.n.kn (fun j hj => hj.2.2)).at_ 0 rfl h) ((hTx.d.kn (fun j hj => hj.2.2)).at_ 0 rfl h) (by omega)) ?_; refine zw rfl rfl (bF h4) ?_; refine w_r (fun _ => R_eq rfl rfl) rfl rfl ?_; refine w_r (v := .bool _) (fun _ => zF (bF h4) rfl) rfl rfl ?_
          refine yB ?_; refine zD rfl (fun h5 => ?_) (fun h5 => ?_)
          · refine yA ?_; refine zC (fun w => zR Tryz.func8 rfl rfl rfl) rfl rfl (fun w h => head_ok w (hW.now (.tail _ (.head _)) h) (Nat.le_trans hng (h.fr _ (.tail _ (.head _))).size)) ?_; refine aB rfl ?_; refine yB ?_; refine ze ?_; refine zt (?_)
            refine zo (v := .bool _) rfl rfl rfl ?_; exact fun w' hw => ⟨rfl, hw.fr (w, No) (.tail _ (.head _))⟩
          · have hsg : ¬ (iv xr.s xr.n).sign = 0 := h5
            refine zi ?_; refine zk ?_; refine yA ?_; refine w_bslice0 slt24 (fun lb glb ulb => ?_)
            refine mS rfl ?_
            obtain ⟨q9, o9, ys, hq9, hN9, hyl, hya, hyc, hMy⟩ := hD.cells diC_cells (show 0 < l.length by omega); cases hq9
            refine w_st (B' := _) (L' := [_] ++ ([(lb, cel [] 33)] ++ [])) (fun w h => h.perm (by simp only [List.append_nil]; exact List.perm_append_comm (l₁ := [_]))) ?_; refine w_app (L := []) (W := [(lb, cel [] 33)]) (news := ys) [_] slt24 (by decide) rfl (xs := []) (n := 0) (v := .slice (some ⟨lb, 0, none⟩) 0 0) ⟨rfl, .inr ⟨lb, 0, [], rfl, Nat.le_refl _, rfl, rfl⟩⟩ rfl hyl (fun w9 h j u hj => cel_old (.tail _ (.head _)) (hyc j u hj) (fun x => x) h) hya (by omega) (by omega) (by omega) (fun v2 W2 hO2 => ?_)
            rw [List.nil_append, Nat.zero_add] at hO2; obtain ⟨am, cm, rfl⟩ := hO2.slice; obtain ⟨qm, sp, rfl, rfl, hset⟩ := hO2.one (by omega)
            refine w_st (B' := _) (L' := [_, (qm, cel (ys ++ sp) 33)]) (fun w h => by rw [List.append_nil] at h; exact h) ?_; refine za (v := .slice (some ⟨qm, 0, none⟩) l.length cm) rfl ?_; refine yB ?_; refine zq ?_; refine c_heldI [0] mixed ?_; refine zh (v := .slice (some ⟨qm, 0, none⟩) l.length cm) 0 rfl (by kernel_rfl) rfl rfl (fun w h => (h).pick [0] (by decide)) (fun w h => R_move rfl) ?_; refine zh (v := .int _ _) 1 rfl (by kernel_rfl) rfl rfl (fun w h => (h).pick [0] (by decide)) (fun w h => R_move rfl) ?_; refine zh 2 rfl (by kernel_rfl) rfl rfl (fun w h => (h).pick [0] (by decide)) (fun w h => R_fa fa33_4 rfl) ?_; refine zh (v := .slice _ _ _) 3 rfl (by kernel_rfl) rfl rfl (fun w h => (h).pick [0] (by decide)) (fun w h => R_ld1 z31 rfl (zc 0 rfl rfl h)) ?_
            refine zh 4 rfl (by kernel_rfl) rfl rfl (fun w h => (h).pick [0] (by decide)) (fun w h => R_iaN (i := 0) sl31 rfl rfl (by first | omega | decide | exact Nat.succ_pos _ | exact Nat.succ_lt_succ (Nat.succ_pos _))) ?_; refine zh 5 rfl (by kernel_rfl) rfl rfl (fun w h => (h).pick [0] (by decide)) (fun w h => R_ldA (l := rwE xr br) z46 rfl rfl (fun j v hj => cel_old (.head _) (hz3 j v hj) hNF.2.2 h)) ?_; refine zh 8 rfl (by kernel_rfl) rfl rfl (fun w h => (h).pick [0] (by decide)) (fun w h => R_fa fa33_4 rfl) ?_; refine zh (v := .slice _ _ _) 9 rfl (by kernel_rfl) rfl rfl (fun w h => (h).pick [0] (by decide)) (fun w h => R_ld1 z31 rfl (zc 0 rfl rfl h)) ?_
            refine zh 10 rfl (by kernel_rfl) rfl rfl (fun w h => (h).pick [0] (by decide)) (fun w h => R_low3 (a := some ⟨qF, oF, none⟩) (c := cf) (n := d7.nums.length) (k := 0) sl31 (rfl.trans (congrArg (fun z => Value.slice z d7.nums.length cf) (aK_zero _ _).symm)) rfl hn0 hRf.1) ?_; refine h_one 6 (by kernel_rfl) (fun w h => (h).pick [0] (by decide)) ?_; refine o_tel2 rfl (wn_none rfl) rfl (fun w => zR Tryz.func16 rfl rfl rfl) (fun w h => jNeg6_ok xr.s w ((hTx.n.kn (fun j hj => hj.2.2)).at_ 0 rfl h) ((hTx.d.kn (fun j hj => hj.2.2)).at_ 0 rfl h) ⟨by omega, by omega, hxd⟩) (fun x6 a6 c6 a6' c6' hK6 hN6 hK6' hN6' => ?_)
            refine h_one 7 (by kernel_rfl) (fun w h => (h.unbase (fun x hx => .tail _ (hx))).pick [0] (by decide)) ?_; refine o_bsliceV rfl (wn_none rfl) slt31 (by decide) rfl rfl (fun sb gsb usb => ?_)
            refine h_one 11 (by kernel_rfl) (fun w h => (h.unbase (fun x hx => .tail _ (hx))).pick [1] (by decide)) ?_
            rcases Nat.lt_or_ge 1 d7.nums.length with hn1 | hn1
            · refine o_st (B' := _) (L' := [_, _] ++ ([(sb, cel (rwE (rwR (mkR (!xr.s) xr.n xr.d)) ((a6, c6), (a6', c6')) ++ []) 46)] ++ [])) (fun w h => (St.pickT [_, _, _] (by rw [List.append_nil]; exact h) [1, 2, 0] (by decide))) ?_
              refine o_app (L := []) (W := [(sb, cel (rwE (rwR (mkR (!xr.s) xr.n xr.d)) ((a6, c6), (a6', c6')) ++ []) 46)]) (news := zs.drop 3) (xs := rwE (rwR (mkR (!xr.s) xr.n xr.d)) ((a6, c6), (a6', c6'))) (n := 1) (m := d7.nums.length - 1) (b2 := qF) (o2 := oF + 3) (c2 := cf - 1) (v := .slice (some ⟨sb, 0, none⟩) 1 1) [_, _] rfl slt31 (by decide) rfl ⟨rfl, .inr ⟨sb, 1, [], rfl, Nat.le_refl _, rfl, rfl⟩⟩ (rfl.trans (congrArg (fun z => Value.slice z _ _) (aK_some (k := 0 + 1) hn1 hRf.1))) (by rw [List.length_drop, hzl]; omega) (fun w9 h j u hj => by rw [List.getElem?_drop] at hj; have h9 := cel_old (.tail _ (.head _)) (hzc _ u hj) hNF.2.2 h; rwa [show oF + 3 + j = oF + (3 + j) by omega]) (List.all_eq_true.2 fun z hz => List.all_eq_true.1 hza z (List.mem_of_mem_drop hz)) (by omega) (by omega) (by omega) (fun v3 W3 hO3 => ?_)
              rw [show 1 + (d7.nums.length - 1) = d7.nums.length by omega] at hO3; obtain ⟨a3, c3, rfl⟩ := hO3.slice
              refine zh 12 rfl (by kernel_rfl) rfl rfl (fun w h => (h.unbase (fun x hx => .tail _ (hx))).pick [0] (by decide)) (fun w h => R_iaN (i := i) sl24 rfl rfl (by first | omega | decide | exact Nat.succ_pos _ | exact Nat.succ_lt_succ (Nat.succ_pos _))) ?_; refine zh 13 rfl (by kernel_rfl) rfl rfl (fun w h => (h.unbase (fun x hx => .tail _ (hx))).pick [0] (by decide)) (fun w h => R_fa fa33_4 rfl) ?_; refine h_one 14 (by kernel_rfl) (fun w h => (h.unbase (fun x hx => .tail _ (hx))).pick [0] (by decide)) ?_; refine o_store (off := 0 + i * 5 + 4) (cs := ys ++ sp) (vs := [.slice a3 d7.nums.length c3]) 1 rfl rfl z31 rfl rfl rfl rfl rfl (by rw [Nat.ble_eq, List.length_append, hyl]; omega) (set_take _ (by rw [List.length_append, hyl]; omega)) ?_; refine h_done (by kernel_rfl) (fun w h => (h.unbase (fun x hx => .tail _ (hx))).pick [0] (by decide)) ?_
              refine zk ?_; refine yA ?_; refine zm (v := .slice (some ⟨qm, 0, none⟩) l.length cm) rfl ?_; refine w_st (B' := _) (L' := [_, _] ++ (W3 ++ [])) (fun w h => h) ?_
              have hnk := neg_ok (x := xr) (List.all_eq_true.1 ((okW_mem l [] hok).1 d7 hm7).2.1 xr hxm) hsg; have hnz := neg_sz (x := xr) hxl.1 hxl.2; have ht := turn_law hz hd7 hcn hnk.1 hnk.2; have hFN := hFB.set hd7 hcn hnz.1 hnz.2
              have hWr : ∀ w9, disV w9 (fun _ => True) (l.set i { d7 with nums := (rwR (mkR (!xr.s) xr.n xr.d)) :: xs7 }) (some ⟨qm, 0, none⟩, cm) → Wd w9 → 11 ≤ w9.heap.size → Ret Tryz.prog 14 #[.slice (some ⟨qm, 0, none⟩) l.length cm] w9 (fun v w' => v = .tuple #[str (writeP (l.set i { d7 with nums := (rwR (mkR (!xr.s) xr.n xr.d)) :: xs7 })).1, .int .i64 0] ∧ Ext w9 w') := fun w9 hd hw hg => by have h9 := Write_ok (l.set i { d7 with nums := (rwR (mkR (!xr.s) xr.n xr.d)) :: xs7 }) _ cm w9 hd hFN.dis hFN.sz hFN.len hw hg; rw [ht.1, List.length_set] at h9; exact h9
              refine zC (v := .tuple #[str (writeP (l.set i { d7 with nums := (rwR (mkR (!xr.s) xr.n xr.d)) :: xs7 })).1, .int .i64 0]) (fun w => zR Tryz.func14 rfl rfl rfl) rfl rfl (fun w9 h => hWr w9 (new_row (b := ((a6, c6), (a6', c6'))) (yr := (rwR (mkR (!xr.s) xr.n xr.d))) hMy (h.fr (w, No) (.tail _ (.tail _ (.head _)))) hyl hd7 hcn ((TL.cells TL.rwc).mono ((show Kt xf w.heap.size (Mc 3 rwC) (xr :: xs7) zs from hMz).at (TL.cells TL.rwc) (.tail _ (.head _)) h) (fun _ _ => trivial)) ⟨⟨(hK6.at_ 0 rfl h), fun _ _ _ _ _ => trivial⟩, ⟨(hK6'.at_ 0 rfl h), fun _ _ _ _ _ => trivial⟩⟩ hO3 (fun p hp => h.own p (List.mem_append_right _ (List.mem_append_left _ hp))) hset (h.at_ 1 rfl)) (hW.now (.tail _ (.tail _ (.head _))) h) (Nat.le_trans hng (h.fr _ (.tail _ (.tail _ (.head _)))).size)) ?_
              refine zm rfl ?_; refine w_r (fun _ => R_extract rfl rfl) rfl rfl ?_; refine w_r (fun _ => R_extract rfl rfl) rfl rfl ?_; refine za (v := str _) rfl ?_; refine aI rfl ?_; refine yC ?_; refine mI rfl ?_; refine w_r (fun _ => R_eq rfl rfl) rfl rfl ?_; refine mB rfl ?_; refine zw rfl rfl (congrArg Value.bool (decide_eq_true (by decide))) ?_; refine zm (v := str _) rfl ?_; refine zw rfl rfl (congrArg Value.bool (decide_eq_true (by decide))) ?_; refine zm (v := str _) rfl ?_; refine zw rfl rfl (congrArg Value.bool (decide_eq_true (by decide))) ?_; refine w_r (fun _ => R_sne rfl rfl) rfl rfl ?_
              refine w_r (v := .bool _) (fun _ => zT (congrArg Value.bool (decide_eq_true (by decide))) rfl) rfl rfl ?_; refine mB rfl ?_; refine zw rfl rfl (congrArg Value.bool (decide_eq_true ht.2)) ?_; refine zC (fun w => zR Tryz.func8 rfl rfl rfl) rfl rfl (fun w h => head_ok w (hW.now (.tail _ (.tail _ (.head _))) h) (Nat.le_trans hng (h.fr _ (.tail _ (.tail _ (.head _)))).size)) ?_; refine w_r (v := .bool _) (fun _ => zT (congrArg Value.bool (decide_eq_true ht.2)) rfl) rfl rfl ?_; refine aB rfl ?_; refine yB ?_; refine ze ?_; refine zo (v := .bool _) rfl rfl rfl ?_; exact fun w' hw => ⟨rfl, hw.fr (w, No) (.tail _ (.tail _ (.head _)))⟩
            · have e1 : d7.nums.length = 1 := by omega
              refine o_run (v := .slice (some ⟨sb, 0, none⟩) d7.nums.length 1) rfl rfl rfl (fun w h => run_to (R_app0 (n := 1) (c := 1) slt31 rfl (rfl.trans (congrArg (fun z => Value.slice _ z _) (show d7.nums.length - (0 + 1) = 0 by omega))) (Nat.le_refl _)) (congrArg (fun z => Value.slice (some ⟨sb, 0, none⟩) z 1) e1.symm)) ?_
              have hO3 : Own 46 3 (.slice (some ⟨sb, 0, none⟩) d7.nums.length 1) (rwE (rwR (mkR (!xr.s) xr.n xr.d)) ((a6, c6), (a6', c6')) ++ zs.drop 3) d7.nums.length [(sb, cel (rwE (rwR (mkR (!xr.s) xr.n xr.d)) ((a6, c6), (a6', c6'))) 46)] := by rw [e1, List.drop_eq_nil_of_le (by rw [hzl]; omega)]; exact ⟨rfl, .inr ⟨sb, 1, [], rfl, Nat.le_refl _, rfl, rfl⟩⟩
              refine zh 12 rfl (by kernel_rfl) rfl rfl (fun w h => (h.unbase (fun x hx => .tail _ (hx))).pick [1] (by decide)) (fun w h => R_iaN (i := i) sl24 rfl rfl (by first | omega | decide | exact Nat.succ_pos _ | exact Nat.succ_lt_succ (Nat.succ_pos _))) ?_; refine zh 13 rfl (by kernel_rfl) rfl rfl (fun w h => (h.unbase (fun x hx => .tail _ (hx))).pick [1] (by decide)) (fun w h => R_fa fa33_4 rfl) ?_; refine h_one 14 (by kernel_rfl) (fun w h => (h.unbase (fun x hx => .tail _ (hx))).pick [1] (by decide)) ?_; refine o_store (off := 0 + i * 5 + 4) (cs := ys ++ sp) (vs := [.slice (some ⟨sb, 0, none⟩) d7.nums.length 1]) 2 rfl rfl z31 rfl rfl rfl rfl rfl (by rw [Nat.ble_eq, List.length_append, hyl]; omega) (set_take _ (by rw [List.length_append, hyl]; omega)) ?_; refine h_done (by kernel_rfl) (fun w h => (h.unbase (fun x hx => .tail _ (hx))).pick [1] (by decide)) ?_
              refine zk ?_; refine yA ?_; refine zm (v := .slice (some ⟨qm, 0, none⟩) l.length cm) rfl ?_; refine w_st (B' := _) (L' := [_, _, _]) (fun w h => h) ?_
              have hnk := neg_ok (x := xr) (List.all_eq_true.1 ((okW_mem l [] hok).1 d7 hm7).2.1 xr hxm) hsg; have hnz := neg_sz (x := xr) hxl.1 hxl.2; have ht := turn_law hz hd7 hcn hnk.1 hnk.2; have hFN := hFB.set hd7 hcn hnz.1 hnz.2
              have hWr : ∀ w9, disV w9 (fun _ => True) (l.set i { d7 with nums := (rwR (mkR (!xr.s) xr.n xr.d)) :: xs7 }) (some ⟨qm, 0, none⟩, cm) → Wd w9 → 11 ≤ w9.heap.size → Ret Tryz.prog 14 #[.slice (some ⟨qm, 0, none⟩) l.length cm] w9 (fun v w' => v = .tuple #[str (writeP (l.set i { d7 with nums := (rwR (mkR (!xr.s) xr.n xr.d)) :: xs7 })).1, .int .i64 0] ∧ Ext w9 w') := fun w9 hd hw hg => by have h9 := Write_ok (l.set i { d7 with nums := (rwR (mkR (!xr.s) xr.n xr.d)) :: xs7 }) _ cm w9 hd hFN.dis hFN.sz hFN.len hw hg; rw [ht.1, List.length_set] at h9; exact h9
              refine zC (v := .tuple #[str (writeP (l.set i { d7 with nums := (rwR (mkR (!xr.s) xr.n xr.d)) :: xs7 })).1, .int .i64 0]) (fun w => zR Tryz.func14 rfl rfl rfl) rfl rfl (fun w9 h => hWr w9 (new_row (b := ((a6, c6), (a6', c6'))) (yr := (rwR (mkR (!xr.s) xr.n xr.d))) hMy (h.fr (w, No) (.tail _ (.tail _ (.head _)))) hyl hd7 hcn ((TL.cells TL.rwc).mono ((show Kt xf w.heap.size (Mc 3 rwC) (xr :: xs7) zs from hMz).at (TL.cells TL.rwc) (.tail _ (.head _)) h) (fun _ _ => trivial)) ⟨⟨(hK6.at_ 0 rfl h), fun _ _ _ _ _ => trivial⟩, ⟨(hK6'.at_ 0 rfl h), fun _ _ _ _ _ => trivial⟩⟩ hO3 (fun p hp => by rw [List.mem_singleton.1 hp]; exact h.at_ 0 rfl) hset (h.at_ 2 rfl)) (hW.now (.tail _ (.tail _ (.head _))) h) (Nat.le_trans hng (h.fr _ (.tail _ (.tail _ (.head _)))).size)) ?_
              refine zm rfl ?_; refine w_r (fun _ => R_extract rfl rfl) rfl rfl ?_; refine w_r (fun _ => R_extract rfl rfl) rfl rfl ?_; refine za (v := str _) rfl ?_; refine aI rfl ?_; refine yC ?_; refine mI rfl ?_; refine w_r (fun _ => R_eq rfl rfl) rfl rfl ?_; refine mB rfl ?_; refine zw rfl rfl (congrArg Value.bool (decide_eq_true (by decide))) ?_; refine zm (v := str _) rfl ?_; refine zw rfl rfl (congrArg Value.bool (decide_eq_true (by decide))) ?_; refine zm (v := str _) rfl ?_; refine zw rfl rfl (congrArg Value.bool (decide_eq_true (by decide))) ?_; refine w_r (fun _ => R_sne rfl rfl) rfl rfl ?_
              refine w_r (v := .bool _) (fun _ => zT (congrArg Value.bool (decide_eq_true (by decide))) rfl) rfl rfl ?_; refine mB rfl ?_; refine zw rfl rfl (congrArg Value.bool (decide_eq_true ht.2)) ?_; refine zC (fun w => zR Tryz.func8 rfl rfl rfl) rfl rfl (fun w h => head_ok w (hW.now (.tail _ (.tail _ (.head _))) h) (Nat.le_trans hng (h.fr _ (.tail _ (.tail _ (.head _)))).size)) ?_; refine w_r (v := .bool _) (fun _ => zT (congrArg Value.bool (decide_eq_true ht.2)) rfl) rfl rfl ?_; refine aB rfl ?_; refine yB ?_; refine ze ?_; refine zo (v := .bool _) rfl rfl rfl ?_; exact fun w' hw => ⟨rfl, hw.fr (w, No) (.tail _ (.tail _ (.head _)))⟩
  · refine yB ?_; refine zE rfl ?_; refine yA ?_; refine zC (fun w => zR Tryz.func8 rfl rfl rfl) rfl rfl (fun w h => head_ok w (hW.now (.head _) h) (Nat.le_trans hng (h.fr _ (.head _)).size)) ?_; refine aB rfl ?_; refine yB ?_; refine ze ?_; refine zt (?_)
    refine zo (v := .bool _) rfl rfl rfl ?_; exact fun w' hw => ⟨rfl, hw.fr (w, No) (.head _)⟩
end Go.Proofs.YtikdkendinnalaaGreatDoor
end
section
/- Trees that are handed in: a reading of an argument opened into a tree in memory. -/
namespace Go.Sx
open Go.RowKit Go.Tree
theorem at_of {w : World} {base b o n k : Nat} {cs : List Value} (h : w.cells? base ((⟨b, o, none⟩ : Addr).add n) k = some cs) : At w (fun _ => True) (some ⟨b, o, none⟩) n cs := by
  obtain ⟨_, hl, hc⟩ := World.cells?_some h
  refine ⟨b, o, rfl, trivial, fun j v hj => ?_⟩
  have hj2 := (List.getElem?_eq_some_iff.1 hj).1
  have := hc j (by omega)
  rw [hj] at this
  rw [← this]
  congr 1
  unfold Addr.add
  by_cases h1 : n = 0 <;> by_cases h2 : j = 0 <;> simp [h1, h2, Nat.add_assoc]
theorem spot_of {w : World} {base k : Nat} {a : Addr} {cs : List Value} (hk : 0 < k) (h : w.cells? base (a.add 0) k = some cs) : a.spot = none := by
  obtain ⟨_, hl, hc⟩ := World.cells?_some h
  have h0 := hc 0 hk
  rw [List.getElem?_eq_getElem (by omega)] at h0
  simpa [Addr.add] using World.cell?_spot h0
theorem list_of {α : Type} {Q : Nat → α → Prop} : ∀ {n : Nat}, (∀ i, i < n → ∃ z, Q i z) → ∃ l : List α, l.length = n ∧ ∀ i z, l[i]? = some z → Q i z
  | 0, _ => ⟨[], rfl, fun i z h => by simp at h⟩
  | n + 1, h => by
    obtain ⟨l, hl, hq⟩ := list_of (n := n) (fun i hi => h i (by omega))
    obtain ⟨z, hz⟩ := h n (by omega)
    refine ⟨l ++ [z], by simp [hl], fun i y hy => ?_⟩
    by_cases hi : i < l.length
    · rw [List.getElem?_append_left hi] at hy
      exact hq i y hy
    · rw [List.getElem?_append_right (by omega)] at hy
      have h1 := (List.getElem?_eq_some_iff.1 hy).1
      have h2 : i = n := by simp at h1; omega
      subst h2
      rw [hl, Nat.sub_self] at hy
      obtain rfl : z = y := by simpa using hy
      exact hz
theorem len3 {α : Type} {l : List α} (h : l.length = 3) : ∃ a b c, l = [a, b, c] := by
  match l, h with
  | [a, b, c], _ => exact ⟨a, b, c, rfl⟩
end Go.Sx
end
section
/- Data that are handed in: a reading of an argument opened into data in memory. -/
namespace Go.Sx
open Go.RowKit Go.Num Go.Feed
open Go.ChangeShapes
section
variable {H : Type} {enc : TypeId × Value → H} {P : Program} {w : World} {sp : Nat → Bool} {hd : Bool}
theorem open_rows {α : Type} {R : α → List Value → Prop} {t e k fuel : Nat} {cs : List Value} {x : DataW H × List MemPlace}
    (ht : P.underlying t = some (.slice e)) (hk : P.cellsOf e = k) (hk0 : 0 < k) (h : DataW.trod enc P w 0 sp hd fuel t cs = some x)
    (ih : ∀ n cs y, DataW.trod enc P w 0 sp hd n e cs = some y → ∃ z, R z cs) :
    ∃ (l : List α) (a : Option Addr) (c : Nat), cs = [.slice a l.length c] ∧ l.length ≤ c ∧ c ≤ maxLen ∧ ∀ (i : Nat) z, l[i]? = some z → ∃ cs', At w (fun _ => True) a (i * k) cs' ∧ R z cs' := by
  rcases DataW.trod_slice ht h with ⟨rfl, rfl⟩ | ⟨a, len, cap, elems, rest, n, rfl, rfl, rfl, hb, hl, hm, hlen, hel, _, _⟩
  · exact ⟨[], none, 0, rfl, Nat.zero_le _, Nat.zero_le _, fun i z hz => by simp at hz⟩
  rw [hk] at hel
  obtain ⟨l, hll, hq⟩ := list_of (n := len) (Q := fun i z => ∃ cs', w.cells? 0 (a.add (i * k)) k = some cs' ∧ R z cs') (fun i hi => by
    have h1 := hel i hi
    rw [List.getElem?_eq_getElem (by omega)] at h1
    obtain ⟨cs', h2, h3⟩ := Option.bind_eq_some_iff.1 h1
    obtain ⟨z, h4⟩ := ih n cs' _ h3
    exact ⟨z, cs', h2, h4⟩)
  refine ⟨l, some a, cap, by rw [hll], by omega, hm, fun i z hz => ?_⟩
  have hi := (List.getElem?_eq_some_iff.1 hz).1
  have hs : a.spot = none := by
    obtain ⟨z0, hz0⟩ : ∃ z, l[0]? = some z := ⟨_, List.getElem?_eq_getElem (by omega)⟩
    obtain ⟨cs', h1, _⟩ := hq 0 z0 hz0
    rw [Nat.zero_mul] at h1
    exact spot_of hk0 h1
  obtain ⟨b, o, s⟩ := a
  simp only at hs
  subst hs
  obtain ⟨cs', h1, h3⟩ := hq i z hz
  exact ⟨cs', at_of h1, h3⟩
theorem open_rowM {α : Type} {M : World → (Nat → Prop) → α → List Value → Prop} {Q : α → Prop} {t e k fuel : Nat} {cs : List Value} {x : DataW H × List MemPlace}
    (ht : P.underlying t = some (.slice e)) (hk : P.cellsOf e = k) (hk0 : 0 < k) (h : DataW.trod enc P w 0 sp hd fuel t cs = some x)
    (ih : ∀ n cs y, DataW.trod enc P w 0 sp hd n e cs = some y → ∃ z, M w (fun _ => True) z cs ∧ Q z) :
    ∃ (l : List α) (a : Option Addr) (c : Nat), cs = [.slice a l.length c] ∧ l.length ≤ maxLen ∧ rowM k M w (fun _ => True) l (a, c) ∧ ∀ z ∈ l, Q z := by
  obtain ⟨l, a, c, h1, h2, h3, h4⟩ := open_rows (R := fun z cs => M w (fun _ => True) z cs ∧ Q z) ht hk hk0 h ih
  refine ⟨l, a, c, h1, Nat.le_trans h2 h3, ⟨h2, fun j e he => ?_⟩, fun z hz => ?_⟩
  · obtain ⟨cs', h5, h6⟩ := h4 j e he
    exact ⟨cs', h5, h6.1⟩
  · obtain ⟨j, hj⟩ := List.getElem?_of_mem hz
    obtain ⟨_, _, h6⟩ := h4 j z hj
    exact h6.2
/-- a row of limbs that is handed in -/
theorem open_lmb {t e fuel : Nat} {cs : List Value} {x : DataW H × List MemPlace} (ht : P.underlying t = some (.slice e)) (he : P.underlying e = some (.int .u64)) (hc : P.cellsOf e = 1) (h : DataW.trod enc P w 0 sp hd fuel t cs = some x) : ∃ (a : Option Addr) (k c n : Nat), cs = [.slice a k c] ∧ Nm w a k c n := by
  rcases open_ints ht he hc h with ⟨rfl, _⟩ | ⟨a, len, cap, zs, rfl, hb, hl, hm, hz, _, hcell, hw⟩
  · exact ⟨none, 0, 0, 0, rfl, Nm.nil _⟩
  · have hlz : len ≤ zs.length := by rw [hz]; split <;> omega
    rcases Nat.eq_zero_or_pos len with h0 | h0
    · subst h0
      exact ⟨some a, 0, cap, 0, rfl, by exact ⟨Nat.one_pos, Nat.zero_le _, .inr (.inr rfl), fun j hj => by omega⟩⟩
    have hsp : a.spot = none := by simpa [Addr.add] using World.cell?_spot (hcell 0 (by omega))
    obtain ⟨b, o, s⟩ := a
    simp only at hsp
    subst hsp
    have hdg : Dig Go.Num.B ((zs.take len).map Int.toNat) := fun y hy => by
      obtain ⟨z, hz1, rfl⟩ := List.mem_map.1 hy
      have hwf := hw z (List.mem_of_mem_take hz1)
      simp only [Lit.wf, Bool.and_eq_true, decide_eq_true_eq] at hwf
      have e1 : IntKind.u64.min = 0 := by decide
      have e2 : IntKind.u64.max = 18446744073709551615 := by decide
      have hBv : Go.Num.B = 18446744073709551616 := rfl
      omega
    have hlen : ((zs.take len).map Int.toNat).length = len := by rw [List.length_map, List.length_take, Nat.min_eq_left hlz]
    refine ⟨some ⟨b, o, none⟩, len, cap, vl ((zs.take len).map Int.toNat), rfl, ?_, hl, .inr (.inl ⟨b, o, rfl⟩), fun j hj => ⟨b, o, rfl, ?_⟩⟩
    · have := vlb_lt hdg
      rwa [hlen] at this
    · have hzj : zs[j]? = some zs[j] := List.getElem?_eq_getElem (by omega)
      have hg : ((zs.take len).map Int.toNat)[j]? = some zs[j].toNat := by rw [List.getElem?_map, List.getElem?_take, if_pos hj, hzj]; rfl
      have hwf := hw zs[j] (List.getElem_mem _)
      simp only [Lit.wf, Bool.and_eq_true, decide_eq_true_eq] at hwf
      have e1 : IntKind.u64.min = 0 := by decide
      have hc2 := hcell j (by omega)
      rw [List.getD_eq_getElem?_getD, hzj] at hc2
      have e3 : (⟨b, o, none⟩ : Addr).add j = ⟨b, o + j, none⟩ := by unfold Addr.add; split <;> simp_all
      rw [← e3, hc2, dg_vlb B_pos hdg hg, Int.toNat_of_nonneg (by omega)]; rfl
theorem Nm.toT {a : Option Addr} {k c n : Nat} (h : Nm w a k c n) : NmN w (fun _ => True) a k c n := ⟨h, fun _ _ _ _ _ => trivial⟩
end
theorem len2D {α : Type} {l : List α} (h : l.length = 2) : ∃ a b, l = [a, b] := by
  match l, h with
  | [a, b], _ => exact ⟨a, b, rfl⟩
theorem len5 {α : Type} {l : List α} (h : l.length = 5) : ∃ a b c d e, l = [a, b, c, d, e] := by
  match l, h with
  | [a, b, c, d, e], _ => exact ⟨a, b, c, d, e, rfl⟩
end Go.Sx
end
section
namespace Go.Proofs.YtikdkendinnalaaGreatDoor
open Go.RowKit Go.Sx
open Go.Tok Go.Tree Go.Prs Go.Feed Go.Num Go.ChangeShapes
theorem cel46 : Tryz.prog.cellsOf 46 = 3 := by kernel_rfl
theorem cel44 : Tryz.prog.cellsOf 44 = 2 := by kernel_rfl
theorem cel42 : Tryz.prog.cellsOf 42 = 1 := by kernel_rfl
theorem cel75 : Tryz.prog.cellsOf 75 = 1 := by kernel_rfl
theorem cel4 : Tryz.prog.cellsOf 4 = 1 := by kernel_rfl
theorem cel9 : Tryz.prog.cellsOf 9 = 1 := by kernel_rfl
theorem cel3 : Tryz.prog.cellsOf 3 = 1 := by kernel_rfl
theorem cel33 : Tryz.prog.cellsOf 33 = 5 := by kernel_rfl
theorem cel31 : Tryz.prog.cellsOf 31 = 1 := by kernel_rfl
section
variable {H : Type} {enc : TypeId × Value → H} {W : World} {sp : Nat → Bool} {hd : Bool}
theorem open_fr {fuel : Nat} {cs : List Value} {x : DataW H × List MemPlace} (h : DataW.trod enc Tryz.prog W 0 sp hd fuel 46 cs = some x) : ∃ z : Rw, rwC W (fun _ => True) z cs := by
 obtain ⟨xs, n, rfl, rfl, hl, hxl, hf⟩ := DataW.trod_struct Tryz.underlying46 h
 obtain ⟨c0, c1, c2, rfl⟩ := len3 (hl.trans cel46)
 obtain ⟨y0, y1, rfl⟩ := len2D (hxl.trans rfl)
 have h0 : DataW.trod enc Tryz.prog W 0 sp hd n 44 (([c0, c1, c2].drop 0).take (Tryz.prog.cellsOf 44)) = some y0 := hf 0 _ rfl
 have h1 : DataW.trod enc Tryz.prog W 0 sp hd n 42 (([c0, c1, c2].drop 2).take (Tryz.prog.cellsOf 42)) = some y1 := hf 1 _ rfl
 rw [cel44] at h0
 rw [cel42] at h1
 obtain ⟨a2, k2, r2, n2, e1, hN2⟩ := open_lmb Tryz.underlying42 Tryz.underlying75 cel75 h1
 obtain rfl : _ = _ := (List.cons.inj e1).1
 obtain ⟨zs, n3, e0, _, hl2, hxl2, hf2⟩ := DataW.trod_struct Tryz.underlying44 h0
 subst e0
 obtain ⟨u0, u1, rfl⟩ := len2D (hxl2.trans rfl)
 have k0 : DataW.trod enc Tryz.prog W 0 sp hd n3 4 (([c0, c1].drop 0).take (Tryz.prog.cellsOf 4)) = some u0 := hf2 0 _ rfl
 have k1 : DataW.trod enc Tryz.prog W 0 sp hd n3 42 (([c0, c1].drop 1).take (Tryz.prog.cellsOf 42)) = some u1 := hf2 1 _ rfl
 rw [cel4] at k0
 rw [cel42] at k1
 obtain ⟨s, e2, _⟩ := DataW.trod_bool Tryz.underlying4 k0
 obtain rfl : _ = _ := (List.cons.inj e2).1
 obtain ⟨a, k, r, m, e3, hN⟩ := open_lmb Tryz.underlying42 Tryz.underlying75 cel75 k1
 obtain rfl : _ = _ := (List.cons.inj e3).1
 exact ⟨⟨s, m, n2, k, k2⟩, ((a, r), (a2, r2)), rfl, hN.toT, hN2.toT⟩
theorem open_di {fuel : Nat} {cs : List Value} {x : DataW H × List MemPlace} (h : DataW.trod enc Tryz.prog W 0 sp hd fuel 33 cs = some x) : ∃ z : Di, diC W (fun _ => True) z cs ∧ (z.nums.length ≤ 9223372036854775807 ∧ z.nm.length ≤ 9223372036854775807) := by
 obtain ⟨xs, n, rfl, rfl, hl, hxl, hf⟩ := DataW.trod_struct Tryz.underlying33 h
 obtain ⟨c0, c1, c2, c3, c4, rfl⟩ := len5 (hl.trans cel33)
 obtain ⟨y0, y1, y2, y3, y4, rfl⟩ := len5 (hxl.trans rfl)
 have h0 : DataW.trod enc Tryz.prog W 0 sp hd n 9 (([c0, c1, c2, c3, c4].drop 0).take (Tryz.prog.cellsOf 9)) = some y0 := hf 0 _ rfl
 have h1 : DataW.trod enc Tryz.prog W 0 sp hd n 3 (([c0, c1, c2, c3, c4].drop 1).take (Tryz.prog.cellsOf 3)) = some y1 := hf 1 _ rfl
 have h2 : DataW.trod enc Tryz.prog W 0 sp hd n 4 (([c0, c1, c2, c3, c4].drop 2).take (Tryz.prog.cellsOf 4)) = some y2 := hf 2 _ rfl
 have h3 : DataW.trod enc Tryz.prog W 0 sp hd n 4 (([c0, c1, c2, c3, c4].drop 3).take (Tryz.prog.cellsOf 4)) = some y3 := hf 3 _ rfl
 have h4 : DataW.trod enc Tryz.prog W 0 sp hd n 31 (([c0, c1, c2, c3, c4].drop 4).take (Tryz.prog.cellsOf 31)) = some y4 := hf 4 _ rfl
 rw [cel9] at h0; rw [cel3] at h1; rw [cel4] at h2 h3; rw [cel31] at h4
 obtain ⟨s0, e0, _, w0⟩ := DataW.trod_string Tryz.underlying9 h0
 obtain rfl : _ = _ := (List.cons.inj e0).1
 obtain ⟨m, e1, _, _⟩ := DataW.trod_int Tryz.underlying3 h1
 obtain rfl : _ = _ := (List.cons.inj e1).1
 obtain ⟨q2, e2, _⟩ := DataW.trod_bool Tryz.underlying4 h2
 obtain rfl : _ = _ := (List.cons.inj e2).1
 obtain ⟨q3, e3, _⟩ := DataW.trod_bool Tryz.underlying4 h3
 obtain rfl : _ = _ := (List.cons.inj e3).1
 obtain ⟨l, a, r, e4, hll, hR, _⟩ := open_rowM (M := rwC) (Q := fun _ => True) Tryz.underlying31 cel46 (by decide) h4 (fun n cs y hy => by obtain ⟨z, hz⟩ := open_fr hy; exact ⟨z, hz, trivial⟩)
 obtain rfl : _ = _ := (List.cons.inj e4).1
 refine ⟨⟨s0.data.toList, m, q2, q3, l⟩, ⟨(a, r), by simp [diE, str], hR⟩, hll, ?_⟩
 have := w0; unfold maxLen at this; simp; omega
/-- a row of data that is handed in -/
theorem open_dis {fuel : Nat} {cs : List Value} {x : DataW H × List MemPlace} (h : DataW.trod enc Tryz.prog W 0 sp hd fuel 24 cs = some x) : ∃ (l : List Di) (a : Option Addr) (c : Nat), cs = [.slice a l.length c] ∧ l.length ≤ 9223372036854775807 ∧ disV W (fun _ => True) l (a, c) ∧ ∀ d ∈ l, d.nums.length ≤ 9223372036854775807 ∧ d.nm.length ≤ 9223372036854775807 :=
 open_rowM (M := diC) Tryz.underlying24 cel33 (by decide) h (fun _ _ _ hy => open_di hy)
end
end Go.Proofs.YtikdkendinnalaaGreatDoor
end
section
/- A row's lifting with what is laid and the world's shape. -/
namespace Go.Sx
theorem handed_and_shaped {H : Type} {enc : TypeId × Value → H} {a : Assume} {C : Checked} {os : Os} {f : FuncId} {fn : Func} {s : ChangeSpec} {conds : List PathCond} {apart fresh handsOn again : Bool} {X : World → Array Value → Prop}
    (hX : ∀ (w w' : World) (args : Array Value), w.heap = w'.heap → X w args → X w' args)
    (own : ownKnob C.prog.godebug = none) (started : os.Started) (noInit : C.prog.inits.idxOf? f = none) (hfn : C.prog.funcs[f]? = some fn)
    (witness : ∃ (w : World) (tape : Tape) (i : Input), w.os = os ∧ (w.forCall tape i).Shaped C.prog ∧ i.vars = [] ∧ Input.okWide C.prog (w.forCall tape i) .any w.heap.size f i ∧
      ((s.pre enc C.prog fn conds apart (w.forCall tape i).memory i.args ∧ X (w.forCall tape i).memory i.args) ∧ sizedMet enc C.prog fn (OpenSpec.ofChange s) apart (w.forCall tape i).memory i.args) ∧ a.holds C.prog (lone (Frame.enter C.prog f i.args .normal) [] (w.forCall tape i)))
    (contract : ∀ (W : World) (base : Nat) (args : Array Value) (ds gs : List (DataW H)) (before : List MemPlace),
      (∀ (j : Nat) t v, fn.params[j]? = some t → args[j]? = some v → Value.okWide C.prog W .any base t v) →
      DataW.Whole enc C.prog fn.params.toList s.vars apart W args.toList ds gs before →
      X W args → W.ShapedOpen C.prog →
      Calls C.prog f args W fun e W' => ∃ v, e = .returned v ∧ s.post enc C.prog fn apart fresh handsOn again W args v W') :
    ReturnsInHanded a C os f .any (fun w args => (s.pre enc C.prog fn conds apart w args ∧ X w args) ∧ sizedMet enc C.prog fn (OpenSpec.ofChange s) apart w args) (s.post enc C.prog fn apart fresh handsOn again) := by
  refine returnsInHanded_of_calls own started noInit witness ?_
  intro w tape i _ hsh _ hok hpre hholds
  obtain ⟨_, _, _, fn', hfn', _, _, _, _, hval⟩ := hok
  have e : fn' = fn := Option.some.inj (hfn'.symm.trans hfn)
  subst e
  obtain ⟨⟨⟨ds, gs, before, hw, hc⟩, hx⟩, hz⟩ := hpre
  have hw' := DataW.Whole.of_heap (w' := w.forCall tape i) (by rfl) hw
  refine (contract (w.forCall tape i) w.heap.size i.args ds gs before hval hw' (hX _ _ _ (by rfl) hx) hsh).mono fun e W' ⟨v, he, hp⟩ => ?_
  subst he
  exact ChangeSpec.post_blind hp
end Go.Sx
end
section
namespace Go.Proofs.YtikdkendinnalaaGreatDoor
open Go.ChangeShapes Go.WideShapes Go.ChangeAt Go.RowKit Go.Sx
open Go.ChangeMaps (open_string)
theorem own : ownKnob Tryz.prog.godebug = none := by kernel_rfl
theorem below_ext {w w' : World} (h : Ext w w') : Below w.heap.size w w' := ⟨h.os, h.tape, h.output, h.size, fun k hk => h.blk k hk (fun x => x)⟩
section
variable {H : Type} {enc : TypeId × Value → H} {P : Program}
theorem post_ext2 {f : Func} {s : ChangeSpec} {apart fresh handsOn : Bool} {W W' : World} {args : Array Value} {v : Value} {ds gs : List (DataW H)} {before pa pv : List MemPlace}
    (hW : DataW.Whole enc P f.params.toList s.vars apart W args.toList ds gs before)
    (hres : ∀ (b : Nat) (sp : Nat → Bool) (hd : Bool), DataW.TrodAll enc P W' b sp hd f.resultTypes.toList (v.resultList f.resultTypes.size) (s.fn H (ds ++ gs)).results [])
    (hargs : DataW.TrodAll enc P W' 0 (fun b => decide (b < W.heap.size)) true f.params.toList args.toList (s.fn H (ds ++ gs)).args pa)
    (hvars : ∀ sp : Nat → Bool, (∀ p ∈ before, sp p.block = true) → DataW.TrodVars enc P W' sp s.vars (s.fn H (ds ++ gs)).vars pv)
    (hps : before = pa ++ pv) (hb : Below W.heap.size W W') : s.post enc P f apart fresh handsOn false W args v W' := by
  have hold : ∀ p ∈ before, (fun b => decide (b < W.heap.size)) p.block = true := fun p hp => by simpa using hW.lt p hp
  exact ⟨ds, gs, before, [], pa, pv, hW, hres _ _ _, hargs, hvars _ hold, hb.frame _, fun h => by cases h⟩
end
theorem laidB : laidOutB Tryz.prog = true := by kernel_rfl
theorem door_met (os : Os) (args : Array Value) : laidMetH Tryz.prog Rows.feedTwiceRow.laid ((World.doorLaid Tryz.prog 400 os).forCall (fun _ _ => 0) ⟨#[], args, []⟩).memory :=
  laidMetH_of_parts3 (fuel := 8) (laidMet_of_run' 8 (by kernel_rfl) (by kernel_rfl)) (by kernel_rfl) (by kernel_rfl)
set_option maxRecDepth 100000 in
theorem tb_of_laid {W : World} (h : laidMetH Tryz.prog Rows.feedTwiceRow.laid W) : Tb W := by
  rw [MakeChecks.laidMetH_plain _ _ _ (by kernel_rfl)] at h
  exact Tb.of (Lib.tabIs_of_head (g := 2) (t := 195) (e := 5) (n := 256) (rest := []) (by kernel_rfl) (by kernel_rfl) Tryz.underlying195 Tryz.underlying5 (by kernel_rfl) (by kernel_rfl) h.tail.tail.tail.tail.tail.tail)
theorem size_of_shaped {P : Program} {w : World} {g : Nat} (h : w.ShapedOpen P) (hg : g < P.globals.size) (h0 : (((begin P (fun _ _ => 0) default).world.heap[g]?).bind Obj.row?).isSome = true) : g < w.heap.size := by
  obtain ⟨⟨zero, t⟩, h1⟩ := Option.isSome_iff_exists.1 h0
  obtain ⟨cs, hh, _⟩ := h.1 g zero t hg h1
  exact (Array.getElem?_eq_some_iff.1 hh).1
set_option maxRecDepth 100000 in
theorem feedTwice_lifted (os : Os) (started : os.Started) (H : Type) (enc : TypeId × Value → H) :
    ReturnsInHanded {} Tryz.checked os 5 .any (fun w args => (Rows.feedTwiceSpec.pre enc Tryz.prog Tryz.f5 [] false w args ∧ laidMetH Tryz.prog Rows.feedTwiceRow.laid w) ∧ sizedMet enc Tryz.prog Tryz.f5 (OpenSpec.ofChange Rows.feedTwiceSpec) false w args)
      (Rows.feedTwiceSpec.post enc Tryz.prog Tryz.f5 false true false false) := by
  refine handed_and_shaped (C := Tryz.checked) (X := fun w _ => laidMetH Tryz.prog Rows.feedTwiceRow.laid w) (fun _ _ _ hh h => h.of_heap hh) own started (by kernel_rfl) Tryz.func5
    (ChangeSpec.witness_shaped (enc := enc) (C := Tryz.checked) (os := os) (X := fun w _ => laidMetH Tryz.prog Rows.feedTwiceRow.laid w) false (World.doorLaid Tryz.prog 400 os) #[.slice none 0 0, .int .u8 0] 8 rfl (World.shaped_of_RefB (by kernel_rfl) (by kernel_rfl)) (by kernel_rfl) (by kernel_rfl) (by kernel_rfl) (door_met os _)) ?_
  intro W base args ds gs before hval0 hW hL hsh
  have hval : ∀ (j : Nat) t v, Tryz.f5.params[j]? = some t → args[j]? = some v → Value.okWide Tryz.prog W .any base t v := hval0
  have hW' := hW
  have hlt : ∀ y ∈ before, y.block < W.heap.size := fun y hy => by simpa using hW'.lt y hy
  obtain ⟨p, q, hA0, hV, rfl, _, _⟩ := hW
  have hA : DataW.TrodAll enc Tryz.prog W 0 (fun _ => true) true Tryz.f5.params.toList args.toList ds p := hA0
  rw [Tryz.params5] at hA hval
  obtain ⟨v0, v1, d0, d1, p0, p1, rfl, rfl, rfl, h0, h1⟩ := trodAll_two hA
  obtain ⟨rfl, rfl⟩ := trodVars_none hV
  have hk0 := h0
  obtain ⟨f0, ht0⟩ := h0
  obtain ⟨x0, a0, c0, e0, hl0, hD0, hn0⟩ := open_dis ht0
  obtain ⟨va0, vn0, vm0, ha0⟩ := Go.WideShapes.okWide_slice Tryz.underlying24 (hval 0 24 v0 rfl rfl)
  have ev0 : v0 = .slice a0 x0.length c0 := by rw [ha0] at e0 ⊢; simpa [Value.cells] using e0
  clear ha0
  subst ev0
  obtain ⟨x1, rfl, rfl, rfl, wx1⟩ := open_int Tryz.underlying5 (hval 1 5 v1 rfl rfl) h1
  have hu1 := bounds_u8 wx1
  obtain ⟨u1, rfl⟩ : ∃ m : Nat, x1 = m := ⟨x1.toNat, by omega⟩
  have ht := tb_of_laid hL
  clear hA0 hval0
  simp only [List.append_nil] at hW' hlt
  refine Calls.mono (twice_walk x0 a0 c0 u1 (by omega) W hD0 hl0 hn0 ⟨ht, ht.lt, cell_of_shapedOpen_int hsh (zero := #[.int .i64 0]) (g := 3) (t := 3) (by decide) (by kernel_rfl) rfl (by kernel_rfl) (by kernel_rfl) Tryz.underlying3⟩ (size_of_shaped hsh (g := 10) (by decide) (by kernel_rfl))) fun e W' ⟨v, he, hv, hx⟩ => ?_
  subst he; subst hv
  exact ⟨_, rfl, post_ext2 (pv := []) hW' (fun _ _ _ => trodAll_mk1 (shut_bool Tryz.underlying4 _)) (trodAll_mk2 (Below.trod laidB (by kernel_rfl) (of_decide_eq_true (by kernel_rfl)) hk0 (below_ext hx) (fun y hy => hlt y (by simp [hy]))) (shut_int Tryz.underlying5 wx1)) (fun _ _ => rfl) (by simp) (below_ext hx)⟩
theorem feedTwice_holds : Rows.FeedTwiceSaid :=
  OpenClaim.holds_of_wide 5 Tryz.f5 rfl rfl rfl rfl rfl rfl rfl ⟨rfl, rfl, rfl, rfl, rfl⟩ rfl rfl rfl rfl rfl (by kernel_rfl) Tryz.func5 (by kernel_rfl)
    (of_decide_eq_true (by kernel_rfl)) (by unfold Func.isWrapper; first | (rw [if_pos (by decide +kernel)]; kernel_rfl) | (rw [if_neg (by decide +kernel)]; exact ⟨rfl, rfl⟩))
    (fun os started H enc _ => feedTwice_lifted os started H enc)
end Go.Proofs.YtikdkendinnalaaGreatDoor
end
section
namespace Go.Proofs.YtikdkendinnalaaGreatDoor
open Go
theorem feedTwice_card : Rows.FeedTwiceCardSaid :=
  Claim7.holds_tied_plain_at .later [] [.data, .data, .data, .sentinel, .sentinel, .listed, .data] true (true, "842466c98ea963c4a55eba32da679b0dc1f92c4c9876d2b292df2662035746fb") true
    feedTwice_holds (fun _ h => by cases h) (by kernel_rfl) (fun _ h => by cases h) feedTwice_row_tie rfl ⟨rfl, rfl⟩ (by kernel_rfl) rfl
    (fun f fn hf hfn => by
      obtain rfl : f = 5 := Option.some.inj ((show Tryz.prog.funcNamed "stepstone/stepstonelaw14.FeedTwice" = some 5 by kernel_rfl).symm.trans hf) |>.symm
      obtain rfl : fn = Tryz.f5 := (Option.some.inj (Tryz.func5.symm.trans hfn)).symm
      exact ⟨by kernel_rfl, fun j t ht => by
        rw [Tryz.params5] at ht
        rcases j with _ | _ | j
        · obtain rfl : t = 24 := by simpa using ht.symm
          exact (show Tryz.prog.wantsStandIn 24 = false by kernel_rfl)
        · obtain rfl : t = 5 := by simpa using ht.symm
          exact (show Tryz.prog.wantsStandIn 5 = false by kernel_rfl)
        · simp at ht⟩)
    (by kernel_rfl)
end Go.Proofs.YtikdkendinnalaaGreatDoor
end
