/- Layer 15, KindDiscrete: Discrete tells what the document says of each name of at most 100 bytes, for every text: no condition. Part 14 of 14. -/
import Derived.Test.YtoehjlmdnajibaaGreatDoorD03
import Derived.Test.YtoehjlmdnajibaaGreatDoorD13
import Derived.Test.YtoehjlmdnajibaaGreatDoorD07
import Derived.HandedShaped
import Derived.Handed
import Derived.Test.YtoehjlmdnajibaaGreatDoorRows
import Derived.Deep.DeepHandedRow
import Derived.ProofKit
import Derived.LaidMore
import Derived.OpenShut
import Derived.Shelf.Vars
import Derived.Stop.Joined
import Derived.Test.YtoehjlmdnajibaaGreatDoorTie
import Derived.Test.YtoehjlmdnajibaaGreatDoorCards
import Derived.SevenTiedAt
section
namespace Go.Proofs.YtoehjlmdnajibaaGreatDoor
open Go.RowKit Go.Sx
open Go.Tok Go.Tree Go.Knd Go.Prs

def refD (o : Option (Nat × Nat × Bool)) : Value := .tuple #[.int .i64 ((o.map fun d => ((d.1 : Nat) : Int)).getD (-1)), .int .i64 ((o.map (·.2.1)).getD 0 : Nat), .bool ((o.map (·.2.2)).getD false)]
theorem distK_none {s : Str} (h : ¬ s = [110, 111, 114, 109, 97, 108] ∧ ¬ s = [99, 97, 117, 99, 104, 121] ∧ ¬ s = [117, 110, 105, 102, 111, 114, 109] ∧ ¬ s = [108, 111, 103, 110, 111, 114, 109, 97, 108] ∧ ¬ s = [103, 97, 109, 109, 97] ∧ ¬ s = [98, 101, 116, 97] ∧ ¬ s = [101, 120, 112, 111, 110, 101, 110, 116, 105, 97, 108] ∧ ¬ s = [98, 101, 114, 110, 111, 117, 108, 108, 105] ∧ ¬ s = [98, 101, 114, 110, 111, 117, 108, 108, 105, 95, 108, 111, 103, 105, 116] ∧ ¬ s = [112, 111, 105, 115, 115, 111, 110] ∧ ¬ s = [112, 111, 105, 115, 115, 111, 110, 95, 108, 111, 103]) : distK s = none := by
 obtain ⟨h0, h1, h2, h3, h4, h5, h6, h7, h8, h9, h10⟩ := h
 unfold distK; simp only [List.mem_cons, List.not_mem_nil, or_false]; rw [if_neg (by grind), if_neg (by assumption), if_neg (by assumption), if_neg (by assumption), if_neg (by grind)]

set_option maxRecDepth 100000 in
set_option maxHeartbeats 4000000 in
theorem rdist_ok (s : Str) (w : World) :
  Ret Tryz.prog 26 #[str s] w (fun v w' => v = refD (distK s) ∧ Ext w w') := by
 refine enter (S := No) (l := [_]) (L := []) 22 Tryz.func26 rfl rfl rfl (St.start w No) ?_; refine yA ?_; refine aI rfl ?_; refine aI rfl ?_; refine aB rfl ?_; refine yB ?_; refine zq ?_; refine yA ?_; refine zm (v := str _) rfl ?_; refine yB ?_; refine zB ?_; refine zq ?_; refine yA ?_; refine w_r (fun _ => R_seq rfl rfl) rfl rfl ?_; refine aB rfl ?_; refine yB ?_; refine zD rfl (fun h1 => ?_) (fun h1 => ?_)
 ·refine zi ?_; refine zk ?_; refine zE (bT h1) ?_; refine yA ?_; refine aI rfl ?_; refine aI rfl ?_; refine aB rfl ?_; refine yB ?_; refine ze ?_; refine zb (zt (?_))
  refine r_fin (.inl rfl) rfl (.tmp rfl rfl (.tmp rfl rfl (.tmp rfl rfl .nil))) ?_; exact fun w' hw => ⟨by first | (subst_vars; rfl) | (rw [distK_none (by refine ⟨?_, ?_, ?_, ?_, ?_, ?_, ?_, ?_, ?_, ?_, ?_⟩ <;> assumption)]; rfl), hw.fr _ (.head _)⟩
 ·refine yA ?_; refine w_r (fun _ => R_seq rfl rfl) rfl rfl ?_; refine aB rfl ?_; refine yB ?_; refine zD rfl (fun h2 => ?_) (fun h2 => ?_)
  ·refine zi ?_; refine zk ?_; refine zE (bT h2) ?_; refine yA ?_; refine aI rfl ?_; refine aI rfl ?_; refine aB rfl ?_; refine yB ?_; refine ze ?_; refine zb (zt (?_))
   refine r_fin (.inl rfl) rfl (.tmp rfl rfl (.tmp rfl rfl (.tmp rfl rfl .nil))) ?_; exact fun w' hw => ⟨by first | (subst_vars; rfl) | (rw [distK_none (by refine ⟨?_, ?_, ?_, ?_, ?_, ?_, ?_, ?_, ?_, ?_, ?_⟩ <;> assumption)]; rfl), hw.fr _ (.head _)⟩
  ·refine yA ?_; refine w_r (fun _ => R_seq rfl rfl) rfl rfl ?_; refine aB rfl ?_; refine yB ?_; refine zD rfl (fun h3 => ?_) (fun h3 => ?_)
   ·refine zi ?_; refine zk ?_; refine zE (bT h3) ?_; refine yA ?_; refine aI rfl ?_; refine aI rfl ?_; refine aB rfl ?_; refine yB ?_; refine ze ?_; refine zb (zt (?_))
    refine r_fin (.inl rfl) rfl (.tmp rfl rfl (.tmp rfl rfl (.tmp rfl rfl .nil))) ?_; exact fun w' hw => ⟨by first | (subst_vars; rfl) | (rw [distK_none (by refine ⟨?_, ?_, ?_, ?_, ?_, ?_, ?_, ?_, ?_, ?_, ?_⟩ <;> assumption)]; rfl), hw.fr _ (.head _)⟩
   ·refine zr ?_; refine w_r (fun _ => R_seq rfl rfl) rfl rfl ?_; refine aB rfl ?_; refine yB ?_; refine zD rfl (fun h4 => ?_) (fun h4 => ?_)
    ·refine yA ?_; refine aI rfl ?_; refine aI rfl ?_; refine aB rfl ?_; refine yB ?_; refine ze ?_; refine zb (zt (?_))
     refine r_fin (.inl rfl) rfl (.tmp rfl rfl (.tmp rfl rfl (.tmp rfl rfl .nil))) ?_; exact fun w' hw => ⟨by first | (subst_vars; rfl) | (rw [distK_none (by refine ⟨?_, ?_, ?_, ?_, ?_, ?_, ?_, ?_, ?_, ?_, ?_⟩ <;> assumption)]; rfl), hw.fr _ (.head _)⟩
    ·refine yA ?_; refine w_r (fun _ => R_seq rfl rfl) rfl rfl ?_; refine aB rfl ?_; refine yB ?_; refine zD rfl (fun h5 => ?_) (fun h5 => ?_)
     ·refine yA ?_; refine aI rfl ?_; refine aI rfl ?_; refine aB rfl ?_; refine yB ?_; refine ze ?_; refine zb (zt (?_))
      refine r_fin (.inl rfl) rfl (.tmp rfl rfl (.tmp rfl rfl (.tmp rfl rfl .nil))) ?_; exact fun w' hw => ⟨by first | (subst_vars; rfl) | (rw [distK_none (by refine ⟨?_, ?_, ?_, ?_, ?_, ?_, ?_, ?_, ?_, ?_, ?_⟩ <;> assumption)]; rfl), hw.fr _ (.head _)⟩
     ·refine yA ?_; refine w_r (fun _ => R_seq rfl rfl) rfl rfl ?_; refine aB rfl ?_; refine yB ?_; refine zD rfl (fun h6 => ?_) (fun h6 => ?_)
      ·refine yA ?_; refine aI rfl ?_; refine aI rfl ?_; refine aB rfl ?_; refine yB ?_; refine ze ?_; refine zb (zt (?_))
       refine r_fin (.inl rfl) rfl (.tmp rfl rfl (.tmp rfl rfl (.tmp rfl rfl .nil))) ?_; exact fun w' hw => ⟨by first | (subst_vars; rfl) | (rw [distK_none (by refine ⟨?_, ?_, ?_, ?_, ?_, ?_, ?_, ?_, ?_, ?_, ?_⟩ <;> assumption)]; rfl), hw.fr _ (.head _)⟩
      ·refine yA ?_; refine w_r (fun _ => R_seq rfl rfl) rfl rfl ?_; refine aB rfl ?_; refine yB ?_; refine zD rfl (fun h7 => ?_) (fun h7 => ?_)
       ·refine yA ?_; refine aI rfl ?_; refine aI rfl ?_; refine aB rfl ?_; refine yB ?_; refine ze ?_; refine zb (zt (?_))
        refine r_fin (.inl rfl) rfl (.tmp rfl rfl (.tmp rfl rfl (.tmp rfl rfl .nil))) ?_; exact fun w' hw => ⟨by first | (subst_vars; rfl) | (rw [distK_none (by refine ⟨?_, ?_, ?_, ?_, ?_, ?_, ?_, ?_, ?_, ?_, ?_⟩ <;> assumption)]; rfl), hw.fr _ (.head _)⟩
       ·refine zq ?_; refine yA ?_; refine w_r (fun _ => R_seq rfl rfl) rfl rfl ?_; refine aB rfl ?_; refine yB ?_; refine zD rfl (fun h8 => ?_) (fun h8 => ?_)
        ·refine zi ?_; refine zk ?_; refine zE (bT h8) ?_; refine yA ?_; refine aI rfl ?_; refine aI rfl ?_; refine aB rfl ?_; refine yB ?_; refine ze ?_; refine zb (zt (?_))
         refine r_fin (.inl rfl) rfl (.tmp rfl rfl (.tmp rfl rfl (.tmp rfl rfl .nil))) ?_; exact fun w' hw => ⟨by first | (subst_vars; rfl) | (rw [distK_none (by refine ⟨?_, ?_, ?_, ?_, ?_, ?_, ?_, ?_, ?_, ?_, ?_⟩ <;> assumption)]; rfl), hw.fr _ (.head _)⟩
        ·refine yA ?_; refine w_r (fun _ => R_seq rfl rfl) rfl rfl ?_; refine aB rfl ?_; refine yB ?_; refine zD rfl (fun h9 => ?_) (fun h9 => ?_)
         ·refine zi ?_; refine zk ?_; refine zE (bT h9) ?_; refine yA ?_; refine aI rfl ?_; refine aI rfl ?_; refine aB rfl ?_; refine yB ?_; refine ze ?_; refine zb (zt (?_))
          refine r_fin (.inl rfl) rfl (.tmp rfl rfl (.tmp rfl rfl (.tmp rfl rfl .nil))) ?_; exact fun w' hw => ⟨by first | (subst_vars; rfl) | (rw [distK_none (by refine ⟨?_, ?_, ?_, ?_, ?_, ?_, ?_, ?_, ?_, ?_, ?_⟩ <;> assumption)]; rfl), hw.fr _ (.head _)⟩
         ·refine yA ?_; refine w_r (fun _ => R_seq rfl rfl) rfl rfl ?_; refine aB rfl ?_; refine yB ?_; refine zD rfl (fun h10 => ?_) (fun h10 => ?_)
          ·refine zi ?_; refine zk ?_; refine zE (bT h10) ?_; refine yA ?_; refine aI rfl ?_; refine aI rfl ?_; refine aB rfl ?_; refine yB ?_; refine ze ?_; refine zb (zt (?_))
           refine r_fin (.inl rfl) rfl (.tmp rfl rfl (.tmp rfl rfl (.tmp rfl rfl .nil))) ?_; exact fun w' hw => ⟨by first | (subst_vars; rfl) | (rw [distK_none (by refine ⟨?_, ?_, ?_, ?_, ?_, ?_, ?_, ?_, ?_, ?_, ?_⟩ <;> assumption)]; rfl), hw.fr _ (.head _)⟩
          ·refine zr ?_; refine w_r (fun _ => R_seq rfl rfl) rfl rfl ?_; refine aB rfl ?_; refine yB ?_; refine zD rfl (fun h11 => ?_) (fun h11 => ?_)
           ·refine yA ?_; refine aI rfl ?_; refine aI rfl ?_; refine aB rfl ?_; refine yB ?_; refine ze ?_; refine zb (zt (?_))
            refine r_fin (.inl rfl) rfl (.tmp rfl rfl (.tmp rfl rfl (.tmp rfl rfl .nil))) ?_; exact fun w' hw => ⟨by first | (subst_vars; rfl) | (rw [distK_none (by refine ⟨?_, ?_, ?_, ?_, ?_, ?_, ?_, ?_, ?_, ?_, ?_⟩ <;> assumption)]; rfl), hw.fr _ (.head _)⟩
           ·refine zi ?_; refine b_on (zk ?_); refine yA ?_; refine aI rfl ?_; refine aI rfl ?_; refine aB rfl ?_; refine yB ?_; refine ze ?_; refine r_fin (.inl rfl) rfl (.tmp rfl rfl (.tmp rfl rfl (.tmp rfl rfl .nil))) ?_; exact fun w' hw => ⟨by first | (subst_vars; rfl) | (rw [distK_none (by refine ⟨?_, ?_, ?_, ?_, ?_, ?_, ?_, ?_, ?_, ?_, ?_⟩ <;> assumption)]; rfl), hw.fr _ (.head _)⟩

set_option maxRecDepth 100000 in
set_option maxHeartbeats 1000000 in
theorem rDiscrete_ok (s : Str) (w : World) :
  Ret Tryz.prog 11 #[str s] w (fun v w' => v = .tuple #[.int .i64 (((distK s).map (·.1)).getD 0 : Nat), .bool (((distK s).map (·.2.2)).getD false), .bool (distK s).isSome] ∧ Ext w w') := by
 refine enter (S := No) (l := [_]) (L := []) 18 Tryz.func11 rfl rfl rfl (St.start w No) ?_; refine yA ?_; refine aI rfl ?_; refine aB rfl ?_; refine aB rfl ?_; refine yC ?_; refine zm (v := str _) rfl ?_
 rcases hd : distK s with _ | ⟨dn, dm, dd⟩
 ·refine zC (v := .tuple #[.int .i64 (-1), .int .i64 0, .bool false]) (fun w => zR Tryz.func26 rfl rfl rfl) rfl rfl (fun w h => by have := rdist_ok s w; rw [hd] at this; exact this) ?_; refine zm rfl ?_; refine w_r (fun _ => R_extract rfl rfl) rfl rfl ?_; refine w_r (fun _ => R_extract rfl rfl) rfl rfl ?_; refine w_r (fun _ => R_extract rfl rfl) rfl rfl ?_; refine aI rfl ?_; refine aI rfl ?_; refine aB rfl ?_; refine yB ?_; refine zq ?_; refine yA ?_; refine mI rfl ?_; refine w_r (fun _ => R_lt rfl rfl) rfl rfl ?_; refine yB ?_; refine zD rfl (fun h1 => ?_) (fun h1 => ?_)
  ·refine yA ?_; refine aI rfl ?_; refine aB rfl ?_; refine aB rfl ?_; refine yB ?_; refine ze ?_; refine zt (?_)
   refine r_fin (.inl rfl) rfl (.tmp rfl rfl (.tmp rfl rfl (.tmp rfl rfl .nil))) ?_; exact fun w' hw => ⟨by first | rfl | (rw [hd]; rfl) | (exfalso; omega), hw.fr _ (.head _)⟩
  ·refine zi ?_; refine zk ?_; refine yA ?_; refine mI rfl ?_; refine mB rfl ?_; refine aI rfl ?_; refine aB rfl ?_; refine aB rfl ?_; refine yB ?_; refine ze ?_; refine r_fin (.inl rfl) rfl (.tmp rfl rfl (.tmp rfl rfl (.tmp rfl rfl .nil))) ?_; exact fun w' hw => ⟨by first | rfl | (rw [hd]; rfl) | (exfalso; omega), hw.fr _ (.head _)⟩
 ·refine zC (v := .tuple #[.int .i64 (dn : Nat), .int .i64 (dm : Nat), .bool dd]) (fun w => zR Tryz.func26 rfl rfl rfl) rfl rfl (fun w h => by have := rdist_ok s w; rw [hd] at this; exact this) ?_; refine zm rfl ?_; refine w_r (fun _ => R_extract rfl rfl) rfl rfl ?_; refine w_r (fun _ => R_extract rfl rfl) rfl rfl ?_; refine w_r (fun _ => R_extract rfl rfl) rfl rfl ?_; refine aI rfl ?_; refine aI rfl ?_; refine aB rfl ?_; refine yB ?_; refine zq ?_; refine yA ?_; refine mI rfl ?_; refine w_r (fun _ => R_lt rfl rfl) rfl rfl ?_; refine yB ?_; refine zD rfl (fun h2 => ?_) (fun h2 => ?_)
  ·refine yA ?_; refine aI rfl ?_; refine aB rfl ?_; refine aB rfl ?_; refine yB ?_; refine ze ?_; refine zt (?_)
   refine r_fin (.inl rfl) rfl (.tmp rfl rfl (.tmp rfl rfl (.tmp rfl rfl .nil))) ?_; exact fun w' hw => ⟨by first | rfl | (rw [hd]; rfl) | (exfalso; omega), hw.fr _ (.head _)⟩
  ·refine zi ?_; refine zk ?_; refine yA ?_; refine mI rfl ?_; refine mB rfl ?_; refine aI rfl ?_; refine aB rfl ?_; refine aB rfl ?_; refine yB ?_; refine ze ?_; refine r_fin (.inl rfl) rfl (.tmp rfl rfl (.tmp rfl rfl (.tmp rfl rfl .nil))) ?_; exact fun w' hw => ⟨by first | rfl | (rw [hd]; rfl) | (exfalso; omega), hw.fr _ (.head _)⟩

abbrev srcP (s : Str) : List Bk := (resOf (List.replicate 6 noBk) (parseP s)).1
abbrev srcF (s : Str) : Fl := (resOf (List.replicate 6 noBk) (parseP s)).2
def faultS (s : Str) : Ft := if (srcF s).1 = 0 then (outV (allK (srcP s))).2 else ((srcF s).1, ((srcF s).2 : Int))

set_option maxRecDepth 100000 in
set_option maxHeartbeats 2000000 in
theorem fault_ok (s : Str) (hs : s.length ≤ 10000000) (hp : ∀ b ∈ srcP s, bkW b < 10000000) (w : World) (hW : Wd w) (hng : 4 ≤ w.heap.size) :
  Ret Tryz.prog 24 #[str s] w (fun v w' => v = .agg (ftC (faultS s)).toArray ∧ Ext w w') := by
 refine enter (S := No) (l := [_]) (L := []) 16 Tryz.func24 rfl rfl rfl (St.start w No) ?_; refine yA ?_; refine w_alloc zr37 (fun t2b gt2b ut2b => ?_)
 refine yC ?_; refine zm (v := str _) rfl ?_; refine w_callR (fun w => zR Tryz.func44 rfl rfl rfl) rfl rfl (fun w h => Parse_ok s hs w (hW.now (.head _) h) (Nat.le_trans hng (h.fr _ (.head _)).size)) ?_
 rintro w1 hw1 v w2 ⟨cs, rfl, hM, hne, hxx⟩; refine ⟨_, _, (hw1.ext hxx).base1, ?_⟩; have hK : Kt (w2, inL [_]) w.heap.size pgM (srcP s) cs := Kt.new hM TL.pg hw1 (hw1.fr _ (.head _)).size; have hcl : cs.length = 18 := hK.len; clear hM hne
 refine zm rfl ?_; refine w_r (fun _ => R_extract rfl rfl) rfl rfl ?_; refine w_r (fun _ => R_extract rfl rfl) rfl rfl ?_; refine w_alloc zr32 (fun t3b gt3b ut3b => ?_)
 refine w_alloc zr37 (fun t4b gt4b ut4b => ?_)
 refine w_storeW cs 1 rfl z32 rfl rfl rfl hcl (pg_one hK) rfl ?_; refine w_store 0 rfl z37 rfl rfl rfl rfl rfl rfl rfl ?_; refine yB ?_; refine zq ?_; refine yA ?_; refine zf fa37_0 rfl ?_; refine zl z35 rfl (fun _ h => zc 0 rfl rfl h) ?_; refine w_r (fun _ => R_ne rfl rfl) rfl rfl ?_; refine yB ?_; refine zD rfl (fun h4 => ?_) (fun h4 => ?_)
 ·refine yA ?_; refine w_loadA z37 rfl (fun _ h => h.at_ 0 rfl) rfl ?_; refine w_store 2 rfl z37 rfl rfl rfl rfl rfl rfl rfl ?_; refine yB ?_; refine ze ?_; refine zt (?_)
  refine r_fin (.inl rfl) rfl (.agg rfl rfl z37 (fun _ h => h.at_ 2 rfl) rfl .nil) ?_; exact fun w' hw => ⟨by unfold faultS; rw [if_neg (show ¬ (srcF s).1 = 0 by show ¬ (resOf (List.replicate 6 noBk) (parseP s)).2.1 = 0; omega)]; rfl, hw.fr _ (.tail _ (.head _))⟩
 ·refine zi ?_; refine zk ?_; refine yA ?_; refine w_loadW z32 rfl (fun w h => h.at_ 1 rfl) hcl ?_; refine zC (fun w => zR Tryz.func14 rfl rfl rfl) rfl rfl (fun w h => kCheck_ok (srcP s) cs w hp (hK.T TL.pg (.head _) h) (hW.now (.tail _ (.head _)) h)) ?_; refine w_store 2 rfl z37 rfl rfl rfl rfl rfl rfl rfl ?_; refine yB ?_; refine ze ?_; refine r_fin (.inl rfl) rfl (.agg rfl rfl z37 (fun _ h => h.at_ 2 rfl) rfl .nil) ?_; exact fun w' hw => ⟨by unfold faultS; rw [if_pos (show (srcF s).1 = 0 by show (resOf (List.replicate 6 noBk) (parseP s)).2.1 = 0; omega)]; rfl, hw.fr _ (.tail _ (.head _))⟩

theorem fault0 (w : World) (hW : Wd w) (hng : 4 ≤ w.heap.size) : Ret Tryz.prog 24 #[str [112, 97, 114, 97, 109, 101, 116, 101, 114, 115, 32, 123, 32, 114, 101, 97, 108, 32, 120, 59, 32, 125, 32, 109, 111, 100, 101, 108, 32, 123, 32, 105, 102, 32, 40, 120, 32, 61, 61, 32, 49, 41, 32, 123, 32, 125, 32, 125]] w fun v w' => v = .agg #[.int .i64 152, .int .i64 35] ∧ Ext w w' := by
 have h := fault_ok [112, 97, 114, 97, 109, 101, 116, 101, 114, 115, 32, 123, 32, 114, 101, 97, 108, 32, 120, 59, 32, 125, 32, 109, 111, 100, 101, 108, 32, 123, 32, 105, 102, 32, 40, 120, 32, 61, 61, 32, 49, 41, 32, 123, 32, 125, 32, 125] (by decide) (by decide +kernel) w hW hng
 rw [show faultS [112, 97, 114, 97, 109, 101, 116, 101, 114, 115, 32, 123, 32, 114, 101, 97, 108, 32, 120, 59, 32, 125, 32, 109, 111, 100, 101, 108, 32, 123, 32, 105, 102, 32, 40, 120, 32, 61, 61, 32, 49, 41, 32, 123, 32, 125, 32, 125] = (152, 35) by kernel_rfl] at h
 exact h

theorem fault1 (w : World) (hW : Wd w) (hng : 4 ≤ w.heap.size) : Ret Tryz.prog 24 #[str [112, 97, 114, 97, 109, 101, 116, 101, 114, 115, 32, 123, 32, 114, 101, 97, 108, 32, 120, 59, 32, 125, 32, 109, 111, 100, 101, 108, 32, 123, 32, 120, 32, 126, 32, 110, 111, 114, 109, 97, 108, 40, 48, 44, 32, 121, 41, 59, 32, 125]] w fun v w' => v = .agg #[.int .i64 150, .int .i64 45] ∧ Ext w w' := by
 have h := fault_ok [112, 97, 114, 97, 109, 101, 116, 101, 114, 115, 32, 123, 32, 114, 101, 97, 108, 32, 120, 59, 32, 125, 32, 109, 111, 100, 101, 108, 32, 123, 32, 120, 32, 126, 32, 110, 111, 114, 109, 97, 108, 40, 48, 44, 32, 121, 41, 59, 32, 125] (by decide) (by decide +kernel) w hW hng
 rw [show faultS [112, 97, 114, 97, 109, 101, 116, 101, 114, 115, 32, 123, 32, 114, 101, 97, 108, 32, 120, 59, 32, 125, 32, 109, 111, 100, 101, 108, 32, 123, 32, 120, 32, 126, 32, 110, 111, 114, 109, 97, 108, 40, 48, 44, 32, 121, 41, 59, 32, 125] = (150, 45) by kernel_rfl] at h
 exact h

theorem fault2 (w : World) (hW : Wd w) (hng : 4 ≤ w.heap.size) : Ret Tryz.prog 24 #[str [100, 97, 116, 97, 32, 123, 32, 105, 110, 116, 32, 110, 59, 32, 114, 101, 97, 108, 32, 110, 59, 32, 125]] w fun v w' => v = .agg #[.int .i64 151, .int .i64 14] ∧ Ext w w' := by
 have h := fault_ok [100, 97, 116, 97, 32, 123, 32, 105, 110, 116, 32, 110, 59, 32, 114, 101, 97, 108, 32, 110, 59, 32, 125] (by decide) (by decide +kernel) w hW hng
 rw [show faultS [100, 97, 116, 97, 32, 123, 32, 105, 110, 116, 32, 110, 59, 32, 114, 101, 97, 108, 32, 110, 59, 32, 125] = (151, 14) by kernel_rfl] at h
 exact h

theorem fault3 (w : World) (hW : Wd w) (hng : 4 ≤ w.heap.size) : Ret Tryz.prog 24 #[str [112, 97, 114, 97, 109, 101, 116, 101, 114, 115, 32, 123, 32, 118, 101, 99, 116, 111, 114, 91, 50, 93, 32, 120, 59, 32, 125, 32, 109, 111, 100, 101, 108, 32, 123, 32, 116, 97, 114, 103, 101, 116, 32, 43, 61, 32, 120, 59, 32, 125]] w fun v w' => v = .agg #[.int .i64 152, .int .i64 46] ∧ Ext w w' := by
 have h := fault_ok [112, 97, 114, 97, 109, 101, 116, 101, 114, 115, 32, 123, 32, 118, 101, 99, 116, 111, 114, 91, 50, 93, 32, 120, 59, 32, 125, 32, 109, 111, 100, 101, 108, 32, 123, 32, 116, 97, 114, 103, 101, 116, 32, 43, 61, 32, 120, 59, 32, 125] (by decide) (by decide +kernel) w hW hng
 rw [show faultS [112, 97, 114, 97, 109, 101, 116, 101, 114, 115, 32, 123, 32, 118, 101, 99, 116, 111, 114, 91, 50, 93, 32, 120, 59, 32, 125, 32, 109, 111, 100, 101, 108, 32, 123, 32, 116, 97, 114, 103, 101, 116, 32, 43, 61, 32, 120, 59, 32, 125] = (152, 46) by kernel_rfl] at h
 exact h

theorem fault4 (w : World) (hW : Wd w) (hng : 4 ≤ w.heap.size) : Ret Tryz.prog 24 #[str [112, 97, 114, 97, 109, 101, 116, 101, 114, 115, 32, 123, 32, 114, 101, 97, 108, 32, 120, 59, 32, 125, 32, 109, 111, 100, 101, 108, 32, 123, 32, 120, 32, 126, 32, 110, 111, 114, 109, 97, 108, 40, 48, 44, 32, 49, 41, 59, 32, 125]] w fun v w' => v = .agg #[.int .i64 0, .int .i64 0] ∧ Ext w w' := by
 have h := fault_ok [112, 97, 114, 97, 109, 101, 116, 101, 114, 115, 32, 123, 32, 114, 101, 97, 108, 32, 120, 59, 32, 125, 32, 109, 111, 100, 101, 108, 32, 123, 32, 120, 32, 126, 32, 110, 111, 114, 109, 97, 108, 40, 48, 44, 32, 49, 41, 59, 32, 125] (by decide) (by decide +kernel) w hW hng
 rw [show faultS [112, 97, 114, 97, 109, 101, 116, 101, 114, 115, 32, 123, 32, 114, 101, 97, 108, 32, 120, 59, 32, 125, 32, 109, 111, 100, 101, 108, 32, 123, 32, 120, 32, 126, 32, 110, 111, 114, 109, 97, 108, 40, 48, 44, 32, 49, 41, 59, 32, 125] = (0, 0) by kernel_rfl] at h
 exact h

theorem disc_p (w : World) : Ret Tryz.prog 10 #[str [112, 111, 105, 115, 115, 111, 110]] w fun v w' => v = .tuple #[.int .i64 1, .bool true, .bool true] ∧ Ext w w' := Discrete_ok [112, 111, 105, 115, 115, 111, 110] w
theorem disc_x (w : World) : Ret Tryz.prog 10 #[str [120]] w fun v w' => v = .tuple #[.int .i64 0, .bool false, .bool false] ∧ Ext w w' := Discrete_ok [120] w

set_option maxRecDepth 100000 in
set_option maxHeartbeats 4000000 in
theorem head15_ok (w : World) (hW : Wd w) (hng : 4 ≤ w.heap.size) :
  Ret Tryz.prog 9 #[] w (fun v w' => v = .bool true ∧ Ext w w') := by
 refine enter (S := No) (l := []) (L := []) 54 Tryz.func9 rfl rfl rfl (St.start w No) ?_; refine yA ?_; refine aB rfl ?_; refine yC ?_; refine zC (fun w => zR Tryz.func10 rfl rfl rfl) rfl rfl (fun w h => disc_p w) ?_; refine zm rfl ?_; refine w_r (fun _ => R_extract rfl rfl) rfl rfl ?_; refine w_r (fun _ => R_extract rfl rfl) rfl rfl ?_; refine w_r (fun _ => R_extract rfl rfl) rfl rfl ?_; refine aI rfl ?_; refine aB rfl ?_; refine aB rfl ?_; refine yC ?_; refine zC (fun w => zR Tryz.func10 rfl rfl rfl) rfl rfl (fun w h => disc_x w) ?_; refine zm rfl ?_; refine w_r (fun _ => R_extract rfl rfl) rfl rfl ?_
 refine w_r (fun _ => R_extract rfl rfl) rfl rfl ?_; refine w_r (fun _ => R_extract rfl rfl) rfl rfl ?_; refine aI rfl ?_; refine aB rfl ?_; refine aB rfl ?_; refine yC ?_; refine zC (fun w => zR Tryz.func24 rfl rfl rfl) rfl rfl (fun w h => fault0 w (hW.now (.head _) h) (Nat.le_trans hng (h.fr _ (.head _)).size)) ?_; refine w_r (fun _ => R_build bt37 rfl) rfl rfl ?_; refine w_r (fun _ => R_eqS fl37 rfl rfl (eq2_run (n := 9998) fl37 z35 z3 un35 un3)) rfl rfl ?_; refine mB rfl ?_; refine zp (t := 20) rfl (fun h1 => ?_) (fun h1 => ?_)
 ·refine zw rfl rfl (bV h1) ?_; refine zC (fun w => zR Tryz.func24 rfl rfl rfl) rfl rfl (fun w h => fault1 w (hW.now (.head _) h) (Nat.le_trans hng (h.fr _ (.head _)).size)) ?_; refine zw rfl rfl (bV h1) ?_; refine w_r (fun _ => R_build bt37 rfl) rfl rfl ?_; refine zw rfl rfl (bV h1) ?_; refine w_r (fun _ => R_eqS fl37 rfl rfl (eq2_run (n := 9998) fl37 z35 z3 un35 un3)) rfl rfl ?_; refine w_r (v := .bool _) (fun _ => zT (bV h1) rfl) rfl rfl ?_; refine mB rfl ?_; refine zp (t := 25) rfl (fun h2 => ?_) (fun h2 => ?_)
  ·refine zw rfl rfl (bV h2) ?_; refine zC (fun w => zR Tryz.func24 rfl rfl rfl) rfl rfl (fun w h => fault2 w (hW.now (.head _) h) (Nat.le_trans hng (h.fr _ (.head _)).size)) ?_; refine zw rfl rfl (bV h2) ?_; refine w_r (fun _ => R_build bt37 rfl) rfl rfl ?_; refine zw rfl rfl (bV h2) ?_; refine w_r (fun _ => R_eqS fl37 rfl rfl (eq2_run (n := 9998) fl37 z35 z3 un35 un3)) rfl rfl ?_; refine w_r (v := .bool _) (fun _ => zT (bV h2) rfl) rfl rfl ?_; refine mB rfl ?_; refine zp (t := 30) rfl (fun h3 => ?_) (fun h3 => ?_)
   ·refine zw rfl rfl (bV h3) ?_; refine zC (fun w => zR Tryz.func24 rfl rfl rfl) rfl rfl (fun w h => fault3 w (hW.now (.head _) h) (Nat.le_trans hng (h.fr _ (.head _)).size)) ?_; refine zw rfl rfl (bV h3) ?_; refine w_r (fun _ => R_build bt37 rfl) rfl rfl ?_; refine zw rfl rfl (bV h3) ?_; refine w_r (fun _ => R_eqS fl37 rfl rfl (eq2_run (n := 9998) fl37 z35 z3 un35 un3)) rfl rfl ?_; refine w_r (v := .bool _) (fun _ => zT (bV h3) rfl) rfl rfl ?_; refine mB rfl ?_; refine zp (t := 35) rfl (fun h4 => ?_) (fun h4 => ?_)
    ·refine zw rfl rfl (bV h4) ?_; refine zC (fun w => zR Tryz.func24 rfl rfl rfl) rfl rfl (fun w h => fault4 w (hW.now (.head _) h) (Nat.le_trans hng (h.fr _ (.head _)).size)) ?_; refine zw rfl rfl (bV h4) ?_; refine w_r (fun _ => R_build bt37 rfl) rfl rfl ?_; refine zw rfl rfl (bV h4) ?_; refine w_r (fun _ => R_eqS fl37 rfl rfl (eq2_run (n := 9998) fl37 z35 z3 un35 un3)) rfl rfl ?_; refine w_r (v := .bool _) (fun _ => zT (bV h4) rfl) rfl rfl ?_; refine mB rfl ?_; refine zp (t := 40) rfl (fun h5 => ?_) (fun h5 => ?_)
     ·refine zw rfl rfl (bV h5) ?_; refine mI rfl ?_; refine zw rfl rfl (bV h5) ?_; refine w_r (fun _ => R_eq rfl rfl) rfl rfl ?_; refine w_r (v := .bool _) (fun _ => zT (bV h5) rfl) rfl rfl ?_; refine mB rfl ?_; refine zd (t := 44) rfl (fun h6 => ?_) (fun h6 => ?_)
      ·refine zw rfl rfl (bT h6) ?_; refine mB rfl ?_; refine w_r (v := .bool _) (fun _ => zT (bT h6) rfl) rfl rfl ?_; refine mB rfl ?_; refine zp (t := 47) rfl (fun h7 => ?_) (fun h7 => ?_)
       ·refine zw rfl rfl (bV h7) ?_; refine mB rfl ?_; refine w_r (v := .bool _) (fun _ => zT (bV h7) rfl) rfl rfl ?_; refine mB rfl ?_; refine zp (t := 50) rfl (fun h8 => ?_) (fun h8 => ?_)
        ·refine zw rfl rfl (bV h8) ?_; refine mB rfl ?_; refine zw rfl rfl (bV h8) ?_; refine w_r (fun _ => R_not rfl) rfl rfl ?_; refine w_r (v := .bool _) (fun _ => zT (bV h8) rfl) rfl rfl ?_; refine aB rfl ?_; refine yB ?_; refine ze ?_; refine zo (v := .bool _) rfl rfl rfl ?_; exact fun w' hw => ⟨rfl, hw.fr _ (.head _)⟩
        ·first | exact absurd (by first | rfl | decide) h8 | exact absurd h8 (by decide) | (simp at h8)
       ·first | exact absurd (by first | rfl | decide) h7 | exact absurd h7 (by decide) | (simp at h7)
      ·first | exact absurd (by first | rfl | decide) h6 | exact absurd h6 (by decide) | (simp at h6)
     ·first | exact absurd (by first | rfl | decide) h5 | exact absurd h5 (by decide) | (simp at h5)
    ·first | exact absurd (by first | rfl | decide) h4 | exact absurd h4 (by decide) | (simp at h4)
   ·first | exact absurd (by first | rfl | decide) h3 | exact absurd h3 (by decide) | (simp at h3)
  ·first | exact absurd (by first | rfl | decide) h2 | exact absurd h2 (by decide) | (simp at h2)
 ·first | exact absurd (by first | rfl | decide) h1 | exact absurd h1 (by decide) | (simp at h1)

set_option maxRecDepth 100000 in
set_option maxHeartbeats 2000000 in
theorem disc_law (s : Str) (hs : s.length ≤ 9223372036854775807) (w : World) (hW : Wd w) (hng : 4 ≤ w.heap.size) :
  Ret Tryz.prog 3 #[str s] w (fun v w' => v = .bool true ∧ Ext w w') := by
 refine enter (S := No) (l := [_]) (L := []) 41 Tryz.func3 rfl rfl rfl (St.start w No) ?_; refine yA ?_; refine aB rfl ?_; refine yB ?_; refine zq ?_; refine yA ?_; refine zm (v := str _) rfl ?_; refine w_r (fun _ => R_slen st9 rfl (by omega)) rfl rfl ?_; refine w_r (fun _ => R_gt rfl rfl) rfl rfl ?_; refine yB ?_; refine zD rfl (fun h1 => ?_) (fun h1 => ?_)
 ·refine yA ?_; refine zC (fun w => zR Tryz.func9 rfl rfl rfl) rfl rfl (fun w h => head15_ok w (hW.now (.head _) h) (Nat.le_trans hng (h.fr _ (.head _)).size)) ?_; refine aB rfl ?_; refine yB ?_; refine ze ?_; refine zt (?_)
  refine zo (v := .bool _) rfl rfl rfl ?_; exact fun w' hw => ⟨rfl, hw.fr _ (.head _)⟩
 ·refine zi ?_; refine zk ?_; refine yA ?_; refine zm (v := str _) rfl ?_; refine zC (fun w => zR Tryz.func10 rfl rfl rfl) rfl rfl (fun w h => Discrete_ok s w) ?_; refine zm rfl ?_; refine w_r (fun _ => R_extract rfl rfl) rfl rfl ?_; refine w_r (fun _ => R_extract rfl rfl) rfl rfl ?_; refine w_r (fun _ => R_extract rfl rfl) rfl rfl ?_; refine aI rfl ?_; refine aB rfl ?_; refine aB rfl ?_; refine yC ?_; refine zm (v := str _) rfl ?_; refine zC (fun w => zR Tryz.func11 rfl rfl rfl) rfl rfl (fun w h => rDiscrete_ok s w) ?_; refine zm rfl ?_; refine w_r (fun _ => R_extract rfl rfl) rfl rfl ?_
  refine w_r (fun _ => R_extract rfl rfl) rfl rfl ?_; refine w_r (fun _ => R_extract rfl rfl) rfl rfl ?_; refine aI rfl ?_; refine aB rfl ?_; refine aB rfl ?_; refine yC ?_; refine mI rfl ?_; refine mI rfl ?_; refine w_r (fun _ => R_eq rfl rfl) rfl rfl ?_; refine mB rfl ?_; refine zd (t := 28) rfl (fun h2 => ?_) (fun h2 => ?_)
  ·refine zw rfl rfl (bT h2) ?_; refine mB rfl ?_; refine zw rfl rfl (bT h2) ?_; refine mB rfl ?_; refine zw rfl rfl (bT h2) ?_; refine w_r (fun _ => R_beq unb4 rfl rfl) rfl rfl ?_; refine w_r (v := .bool _) (fun _ => zT (bT h2) rfl) rfl rfl ?_; refine mB rfl ?_; refine zp (t := 33) rfl (fun h3 => ?_) (fun h3 => ?_)
   ·refine zw rfl rfl (bV h3) ?_; refine mB rfl ?_; refine zw rfl rfl (bV h3) ?_; refine mB rfl ?_; refine zw rfl rfl (bV h3) ?_; refine w_r (fun _ => R_beq unb4 rfl rfl) rfl rfl ?_; refine w_r (v := .bool _) (fun _ => zT (bV h3) rfl) rfl rfl ?_; refine mB rfl ?_; refine zp (t := 38) rfl (fun h4 => ?_) (fun h4 => ?_)
    ·refine zw rfl rfl (bV h4) ?_; refine zC (fun w => zR Tryz.func9 rfl rfl rfl) rfl rfl (fun w h => head15_ok w (hW.now (.head _) h) (Nat.le_trans hng (h.fr _ (.head _)).size)) ?_; refine w_r (v := .bool _) (fun _ => zT (bV h4) rfl) rfl rfl ?_; refine aB rfl ?_; refine yB ?_; refine ze ?_; refine zo (v := .bool _) rfl rfl rfl ?_; exact fun w' hw => ⟨rfl, hw.fr _ (.head _)⟩
    ·first | exact absurd rfl h4 | exact absurd h4 (by simp) | (simp at h4)
   ·first | exact absurd rfl h3 | exact absurd h3 (by simp) | (simp at h3)
  ·first | exact absurd rfl h2 | exact absurd h2 (by simp) | (simp at h2)
end Go.Proofs.YtoehjlmdnajibaaGreatDoor
end

section
/- A row's lifting with what is laid and the world's shape. -/
namespace Go.Sx
theorem handed_and_shaped {H : Type} {enc : TypeId × Value → H} {a : Assume} {C : Checked} {os : Os} {f : FuncId} {fn : Func} {s : ChangeSpec} {conds : List PathCond} {apart fresh handsOn again : Bool} {X : World → Array Value → Prop}
    (hX : ∀ (w w' : World) (args : Array Value), w.heap = w'.heap → X w args → X w' args)
    (own : ownKnob C.prog.godebug = none) (started : os.Started) (noInit : C.prog.inits.idxOf? f = none) (hfn : C.prog.funcs[f]? = some fn)
    (witness : ∃ (w : World) (tape : Tape) (i : Input), w.os = os ∧ (w.forCall tape i).Shaped C.prog ∧ i.vars = [] ∧ Input.okWide C.prog (w.forCall tape i) .any w.heap.size f i ∧
      ((s.pre enc C.prog fn conds apart (w.forCall tape i).memory i.args ∧ X (w.forCall tape i).memory i.args) ∧ sizedMet enc C.prog fn (OpenSpec.ofChange s) apart (w.forCall tape i).memory i.args) ∧ a.holds C.prog (lone (Frame.enter C.prog f i.args .normal) [] (w.forCall tape i)))
    (contract : ∀ (W : World) (base : Nat) (args : Array Value) (ds gs : List (DataW H)) (before : List MemPlace),
      (∀ (j : Nat) t v, fn.params[j]? = some t → args[j]? = some v → Value.okWide C.prog W .any base t v) →
      DataW.Whole enc C.prog fn.params.toList s.vars apart W args.toList ds gs before →
      X W args → W.ShapedOpen C.prog →
      Calls C.prog f args W fun e W' => ∃ v, e = .returned v ∧ s.post enc C.prog fn apart fresh handsOn again W args v W') :
    ReturnsInHanded a C os f .any (fun w args => (s.pre enc C.prog fn conds apart w args ∧ X w args) ∧ sizedMet enc C.prog fn (OpenSpec.ofChange s) apart w args) (s.post enc C.prog fn apart fresh handsOn again) := by
  refine returnsInHanded_of_calls own started noInit witness ?_
  intro w tape i _ hsh _ hok hpre hholds
  obtain ⟨_, _, _, fn', hfn', _, _, _, _, hval⟩ := hok
  have e : fn' = fn := Option.some.inj (hfn'.symm.trans hfn)
  subst e
  obtain ⟨⟨⟨ds, gs, before, hw, hc⟩, hx⟩, hz⟩ := hpre
  have hw' := DataW.Whole.of_heap (w' := w.forCall tape i) (by rfl) hw
  refine (contract (w.forCall tape i) w.heap.size i.args ds gs before hval hw' (hX _ _ _ (by rfl) hx) hsh).mono fun e W' ⟨v, he, hp⟩ => ?_
  subst he
  exact ChangeSpec.post_blind hp
end Go.Sx
end

section
namespace Go.Proofs.YtoehjlmdnajibaaGreatDoor
open Go.ChangeShapes Go.WideShapes Go.ChangeAt Go.RowKit Go.Sx
open Go.ChangeMaps (open_string)
theorem own : ownKnob Tryz.prog.godebug = none := by kernel_rfl
theorem below_ext {w w' : World} (h : Ext w w') : Below w.heap.size w w' := ⟨h.os, h.tape, h.output, h.size, fun k hk => h.blk k hk (fun x => x)⟩
section
variable {H : Type} {enc : TypeId × Value → H} {P : Program}
theorem post_ext {f : Func} {s : ChangeSpec} {apart fresh handsOn : Bool} {W W' : World} {args : Array Value} {v : Value} {ds gs : List (DataW H)} {before pa pv : List MemPlace}
    (hW : DataW.Whole enc P f.params.toList s.vars apart W args.toList ds gs before)
    (hres : ∀ (b : Nat) (sp : Nat → Bool) (hd : Bool), DataW.TrodAll enc P W' b sp hd f.resultTypes.toList (v.resultList f.resultTypes.size) (s.fn H (ds ++ gs)).results [])
    (hargs : ∀ sp : Nat → Bool, (∀ p ∈ before, sp p.block = true) → DataW.TrodAll enc P W' 0 sp true f.params.toList args.toList (s.fn H (ds ++ gs)).args pa)
    (hvars : ∀ sp : Nat → Bool, (∀ p ∈ before, sp p.block = true) → DataW.TrodVars enc P W' sp s.vars (s.fn H (ds ++ gs)).vars pv)
    (hps : before = pa ++ pv) (hb : Below W.heap.size W W') : s.post enc P f apart fresh handsOn false W args v W' := by
  have hold : ∀ p ∈ before, (fun b => decide (b < W.heap.size)) p.block = true := fun p hp => by simpa using hW.lt p hp
  exact ⟨ds, gs, before, [], pa, pv, hW, hres _ _ _, hargs _ hold, hvars _ hold, hb.frame _, fun h => by cases h⟩
end
theorem door_met (os : Os) (args : Array Value) : laidMetH Tryz.prog Rows.kindDiscreteRow.laid ((World.doorLaid Tryz.prog 400 os).forCall (fun _ _ => 0) ⟨#[], args, []⟩).memory :=
  laidMetH_of_parts3 (fuel := 8) (laidMet_of_run' 8 (by kernel_rfl) (by kernel_rfl)) (by kernel_rfl) (by kernel_rfl)
set_option maxRecDepth 100000 in
theorem tb_of_laid {W : World} (h : laidMetH Tryz.prog Rows.kindDiscreteRow.laid W) : Tb W := by
  rw [MakeChecks.laidMetH_plain _ _ _ (by kernel_rfl)] at h
  obtain ⟨ps, ⟨g0, t0, cs0, f0, p0, q0, hg0, ht0, hv0, hd0, ⟨g1, t1, cs1, f1, p1, q1, hg1, ht1, hv1, hd1, hr1, hq0⟩, hps⟩, hn, hm⟩ := h
  refine Tb.of (Lib.tabIs_of_head (g := 1) (t := 195) (e := 5) (n := 256) (rest := []) (by kernel_rfl) (by kernel_rfl) Tryz.underlying195 Tryz.underlying5 (by kernel_rfl) (by kernel_rfl) (W := W) ⟨q0, ⟨g1, t1, cs1, f1, p1, q1, hg1, ht1, hv1, hd1, hr1, hq0⟩, ?_, ?_⟩)
  · rw [hps] at hn; exact (List.nodup_append.1 hn).2.1
  · exact fun b off hx => hm b off (by rw [hps]; exact List.mem_append.2 (.inr hx))
theorem size_of_shaped {P : Program} {w : World} {g : Nat} (h : w.ShapedOpen P) (hg : g < P.globals.size) (h0 : (((begin P (fun _ _ => 0) default).world.heap[g]?).bind Obj.row?).isSome = true) : g < w.heap.size := by
  obtain ⟨⟨zero, t⟩, h1⟩ := Option.isSome_iff_exists.1 h0
  obtain ⟨cs, hh, _⟩ := h.1 g zero t hg h1
  exact (Array.getElem?_eq_some_iff.1 hh).1

set_option maxRecDepth 100000 in
theorem kindDiscrete_lifted (os : Os) (started : os.Started) (H : Type) (enc : TypeId × Value → H) :
    ReturnsInHanded {} Tryz.checked os 3 .any (fun w args => (Rows.kindDiscreteSpec.pre enc Tryz.prog Tryz.f3 [] false w args ∧ laidMetH Tryz.prog Rows.kindDiscreteRow.laid w) ∧ sizedMet enc Tryz.prog Tryz.f3 (OpenSpec.ofChange Rows.kindDiscreteSpec) false w args)
      (Rows.kindDiscreteSpec.post enc Tryz.prog Tryz.f3 false true false false) := by
  refine handed_and_shaped (C := Tryz.checked) (X := fun w _ => laidMetH Tryz.prog Rows.kindDiscreteRow.laid w) (fun _ _ _ hh h => h.of_heap hh) own started (by kernel_rfl) Tryz.func3
    (ChangeSpec.witness_shaped (enc := enc) (C := Tryz.checked) (os := os) (X := fun w _ => laidMetH Tryz.prog Rows.kindDiscreteRow.laid w) false (World.doorLaid Tryz.prog 400 os) #[.string ⟨#[]⟩] 8 rfl (World.shaped_of_RefB (by kernel_rfl) (by kernel_rfl)) (by kernel_rfl) (by kernel_rfl) (by kernel_rfl) (door_met os _)) ?_
  intro W base args ds gs before hval0 hW hL hsh
  have hval : ∀ (j : Nat) t v, Tryz.f3.params[j]? = some t → args[j]? = some v → Value.okWide Tryz.prog W .any base t v := hval0
  have hW' := hW
  obtain ⟨p, q, hA0, hV, rfl, _, _⟩ := hW
  have hA : DataW.TrodAll enc Tryz.prog W 0 (fun _ => true) true Tryz.f3.params.toList args.toList ds p := hA0
  rw [Tryz.params3] at hA hval
  obtain ⟨v0, d0, rfl, rfl, h0⟩ := trodAll_one hA
  obtain ⟨rfl, rfl⟩ := trodVars_none hV
  obtain ⟨x0, rfl, rfl, rfl, wx0⟩ := open_string Tryz.underlying9 (hval 0 9 v0 rfl rfl) h0
  have ht := tb_of_laid hL
  clear hA0 hval0
  simp only [List.append_nil] at hW'
  refine Calls.mono (disc_law x0.data.toList (by have := wx0; unfold maxLen at this; simp; omega) W ⟨ht, ht.lt, cell_of_shapedOpen_int hsh (zero := #[.int .i64 0]) (g := 0) (t := 3) (by decide) (by kernel_rfl) rfl (by kernel_rfl) (by kernel_rfl) Tryz.underlying3⟩ (size_of_shaped hsh (g := 3) (by decide) (by kernel_rfl))) fun e W' ⟨v, he, hv, hx⟩ => ?_
  subst he; subst hv
  exact ⟨_, rfl, post_ext (pa := []) (pv := []) hW' (fun _ _ _ => trodAll_mk1 (shut_bool Tryz.underlying4 _)) (fun sp _ => trodAll_mk1 (ChangeMaps.shut_string Tryz.underlying9 wx0)) (fun _ _ => rfl) rfl (below_ext hx)⟩
theorem kindDiscrete_holds : Rows.KindDiscreteSaid :=
  OpenClaim.holds_of_wide 3 Tryz.f3 rfl rfl rfl rfl rfl rfl rfl ⟨rfl, rfl, rfl, rfl, rfl⟩ rfl rfl rfl rfl rfl (by kernel_rfl) Tryz.func3 (by kernel_rfl)
    (of_decide_eq_true (by kernel_rfl)) (by unfold Func.isWrapper; first | (rw [if_pos (by decide +kernel)]; kernel_rfl) | (rw [if_neg (by decide +kernel)]; exact ⟨rfl, rfl⟩))
    (fun os started H enc _ => kindDiscrete_lifted os started H enc)
end Go.Proofs.YtoehjlmdnajibaaGreatDoor
end

section
namespace Go.Proofs.YtoehjlmdnajibaaGreatDoor
open Go
theorem kindDiscrete_card : Rows.KindDiscreteCardSaid :=
  Claim7.holds_tied_plain_at .later [] [.listed, .data] true (true, "65e2bdec9cfab438602a072c417bd6688cb10ffb3f463ce8d6a4e5789ff575b6") true
    kindDiscrete_holds (fun _ h => by cases h) (by kernel_rfl) (fun _ h => by cases h) kindDiscrete_row_tie rfl ⟨rfl, rfl⟩ (by kernel_rfl) rfl
    (fun f fn hf hfn => by
      obtain rfl : f = 3 := Option.some.inj ((show Tryz.prog.funcNamed "stepstone/stepstonelaw15.KindDiscrete" = some 3 by kernel_rfl).symm.trans hf) |>.symm
      obtain rfl : fn = Tryz.f3 := (Option.some.inj (Tryz.func3.symm.trans hfn)).symm
      exact ⟨by kernel_rfl, fun j t ht => by
        rw [Tryz.params3] at ht
        have ht3 : t = 9 := by
          rcases j with _ | j
          · simpa using ht.symm
          · simp at ht
        subst ht3
        exact (show Tryz.prog.wantsStandIn 9 = false by kernel_rfl)⟩)
    (by kernel_rfl)
end Go.Proofs.YtoehjlmdnajibaaGreatDoor
end
