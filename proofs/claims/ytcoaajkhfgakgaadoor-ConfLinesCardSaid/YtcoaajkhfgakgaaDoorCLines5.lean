/- Part 5 of the proof of Lines: what the program's functions compute, and that it is so. Conditions: as each theorem states. (Packed out of our texts: PF17, XSame, XAlk, XTok, PE0, XRead, XAnchor.) -/
import Derived.Test.YtcoaajkhfgakgaaDoorCLines4
section
namespace Go.Proofs.YtcoaajkhfgakgaaDoor.Pr
open Go.RowKit Go.Proofs.YtcoaajkhfgakgaaDoorW.PrintWords Go.Proofs.YtcoaajkhfgakgaaDoorW.PrintLast Go.Proofs.YtcoaajkhfgakgaaDoorW.PrintMore
attribute [local go_sem] max2_int min2_int max_two min_two max_three min_three max_four min_four   -- for this text's walks alone
set_option linter.unusedVariables false
set_option linter.unusedSimpArgs false
def pantryref09_Same.l0 : Nat → Int → List (S38) → List (S38) → Option (Bool)
  | 0, _, _, _ => none
  | k + 1, x5, x205000, x206000 => if x5 < (x205000.length : Int) then (if 0 ≤ x5 then (if x5 < (x206000.length : Int) then ((pantryref09_Alike.f k ((rd_T38 x205000 x5).f0) ((rd_T38 x205000 x5).f1) ((rd_T38 x205000 x5).f2) ((rd_T38 x205000 x5).f3) ((rd_T38 x205000 x5).f4) ((rd_T38 x205000 x5).f5) ((rd_T38 x205000 x5).f6) ((rd_T38 x206000 x5).f0) ((rd_T38 x206000 x5).f1) ((rd_T38 x206000 x5).f2) ((rd_T38 x206000 x5).f3) ((rd_T38 x206000 x5).f4) ((rd_T38 x206000 x5).f5) ((rd_T38 x206000 x5).f6)).bind fun t208 => (if t208 = true then (pantryref09_Same.l0 k (wrap64 (x5 + 1)) x205000 x206000) else (some false))) else (none)) else (none)) else (some true)
def pantryref09_Same.f (k : Nat) (l0_0 : List (S38)) (l1_0 : List (S38)) : Option (Bool) := if (l0_0.length : Int) = (l1_0.length : Int) then (pantryref09_Same.l0 k 0 l0_0 l1_0) else (some false)
theorem pantryref09_Same.mono_l : ∀ k, (∀ y0 y1 y2, LeO (pantryref09_Same.l0 k y0 y1 y2) (pantryref09_Same.l0 (k + 1) y0 y1 y2))
  | 0 => fun _ _ _ r h => by simp [pantryref09_Same.l0] at h
  | k + 1 => by
    have ih0 := pantryref09_Same.mono_l k
    · intro y0 y1 y2
      unfold pantryref09_Same.l0
      repeat' first
      | (with_reducible exact ih0 _ _ _)
      | (with_reducible exact pantryref09_Alike.mono _ _ _ _ _ _ _ _ _ _ _ _ _ _ _)
      | (with_reducible exact LeO.refl _)
      | (with_reducible exact LeO.none _)
      | (with_reducible refine LeO.ite ?_ ?_)
      | (with_reducible refine LeO.bind ?_ (fun _ => ?_))
      | exact ih0 _ _ _
      | exact pantryref09_Alike.mono _ _ _ _ _ _ _ _ _ _ _ _ _ _ _
      | exact LeO.none _
      | refine LeO.ite ?_ ?_
      | refine LeO.bind ?_ (fun _ => ?_)
theorem pantryref09_Same.mono : ∀ a0 a1 k, LeO (pantryref09_Same.f k a0 a1) (pantryref09_Same.f (k + 1) a0 a1) := by
  intro a0 a1 k
  have ih0 := pantryref09_Same.mono_l k
  unfold pantryref09_Same.f
  repeat' first
      | (with_reducible exact ih0 _ _ _)
      | (with_reducible exact pantryref09_Alike.mono _ _ _ _ _ _ _ _ _ _ _ _ _ _ _)
      | (with_reducible exact LeO.refl _)
      | (with_reducible exact LeO.none _)
      | (with_reducible refine LeO.ite ?_ ?_)
      | (with_reducible refine LeO.bind ?_ (fun _ => ?_))
      | exact ih0 _ _ _
      | exact pantryref09_Alike.mono _ _ _ _ _ _ _ _ _ _ _ _ _ _ _
      | exact LeO.none _
      | refine LeO.ite ?_ ?_
      | refine LeO.bind ?_ (fun _ => ?_)
def pantryref09_Same.T6 : Bool × List (List Nat × List Nat) := (true, [([], []), ([0], [0]), ([], []), ([1, 2], [1, 2]), ([3], [3]), ([], []), ([5], [5]), ([], []), ([6, 7], [6, 7]), ([8], [8]), ([4, 9], [4, 9]), ([10], [10])])
def pantryref09_Same.B6 : List Nat := [0, 1, 0, 7, 15, 0, 32, 0, 224, 480, 1023, 2047]
theorem pantryref09_Same.tab6 : rtab .any (opsOf Tryd.f17 6) = pantryref09_Same.T6 := by kernel_rfl
theorem pantryref09_Same.bits6 : waitsOk pantryref09_Same.T6.2 pantryref09_Same.B6 = true := by kernel_rfl
set_option maxHeartbeats 8000000 in
set_option maxRecDepth 100000 in
theorem pantryref09_Same.calls (k : Nat) (A0_0 : Option Addr) (c0_0 : Nat) (l0_0 : List (S38)) (A1_0 : Option Addr) (c1_0 : Nat) (l1_0 : List (S38)) (r : Bool) (w : World) (hr0_0 : Kd.C k38 w A0_0 l0_0.length l0_0) (hc0_0 : l0_0.length ≤ c0_0) (hr1_0 : Kd.C k38 w A1_0 l1_0.length l1_0) (hc1_0 : l1_0.length ≤ c1_0) (h : pantryref09_Same.f k l0_0 l1_0 = some r) :
    Calls Tryd.prog 17 #[.agg #[.slice A0_0 l0_0.length c0_0], .agg #[.slice A1_0 l1_0.length c1_0]] w fun e w' => e = .returned (.bool r) ∧ Below w.heap.size w w' := by
  have hu34 := Tryd.underlying34
  have hu38 := Tryd.underlying38
  have HR0_0 := Aside0.mk hr0_0
  have HC0_0 := Aside0.mk hc0_0
  clear hr0_0 hc0_0
  have HR1_0 := Aside0.mk hr1_0
  have HC1_0 := Aside0.mk hc1_0
  clear hr1_0 hc1_0
  have HB := Aside0.mk (Below.refl w.heap.size w)
  have H : (if (l0_0.length : Int) = (l1_0.length : Int) then (pantryref09_Same.l0 k 0 l0_0 l1_0) else (some false)) = some r := h
  clear h
  by_cases c3 : (l0_0.length : Int) = (l1_0.length : Int)
  · rw [if_pos c3] at H
    have c3b0 : ((l0_0.length : Int) == (l1_0.length : Int)) = true := beq_iff_eq.mpr c3
    have c3b1 : ((l0_0.length : Int) != (l1_0.length : Int)) = false := bne_eq_false_iff_eq.mpr c3
    have c3b2 : (l0_0.length == l1_0.length) = true := by first | simpa using c3 | (simp at c3 ⊢; omega)
    clear c3
    have H' := Aside0.mk H
    clear H
    go_enter Tryd.func17, Tryd.ntmps17
    go_wp2_with (first | ((with_reducible refine gate_dst (N := 2) rfl ?_); refine box_event ?hg (N := 2) ?hd (cs := #[.slice A0_0 l0_0.length c0_0]) (t := 34) ?hr ?_; (case hd => rfl); (case hg => rfl); (case hr => first | (go_simp; done) | (go_simp; rfl)); intro gb204 hg w4 hbox hb; have n0_ := Aside0.mk (below_step (by repeat (first | (with_reducible first | exact HB.out | apply below_alloc | apply pw_below_drewN | apply below_drew1) | exact HB.out)) hb); have n1_ := Aside0.mk (hbox); have n2_ := Aside0.mk ((by rw [hg]; exact (below_size (by repeat (first | (with_reducible first | exact HB.out | apply below_alloc | apply pw_below_drewN | apply below_drew1) | exact HB.out))) : w.heap.size ≤ gb204)); have n3_ := Aside0.mk ((by rw [hg]; exact (below_size (by repeat (first | (with_reducible first | exact HB.out | apply below_alloc | apply pw_below_drewN | apply below_drew1) | exact HB.out))) : w.heap.size ≤ gb204)); clear HB; have HB := n0_; have BK204 := n1_; have GW204 := n2_; have GE204 := n3_; clear n0_ n1_ n2_ n3_; clear hb hbox hg) | ((with_reducible refine gate_dst (N := 3) rfl ?_); refine box_event ?hg (N := 3) ?hd (cs := #[.slice A1_0 l1_0.length c1_0]) (t := 34) ?hr ?_; (case hd => rfl); (case hg => rfl); (case hr => first | (go_simp; done) | (go_simp; rfl)); intro gb205 hg w5 hbox hb; have n0_ := Aside0.mk (blk_below (g := gb204) (o := .cells #[.slice A0_0 l0_0.length c0_0] 34 (0, 0)) (by (with_reducible repeat (first | refine blk_drewN ?_ _ | refine blk_drew ?_ | refine blk_alloc ?_ _)); exact BK204.out) hb); have n1_ := Aside0.mk (below_step (by repeat (first | (with_reducible first | exact HB.out | apply below_alloc | apply pw_below_drewN | apply below_drew1 | refine below_set ?_ GE204.out) | exact HB.out)) hb); have n2_ := Aside0.mk (hbox); have n3_ := Aside0.mk ((by rw [hg]; exact (below_size (by repeat (first | (with_reducible first | exact HB.out | apply below_alloc | apply pw_below_drewN | apply below_drew1 | refine below_set ?_ GE204.out) | exact HB.out))) : w.heap.size ≤ gb205)); have n4_ := Aside0.mk ((by rw [hg]; exact (below_size (by repeat (first | (with_reducible first | exact HB.out | apply below_alloc | apply pw_below_drewN | apply below_drew1 | refine below_set ?_ GE204.out) | exact HB.out))) : w.heap.size ≤ gb205)); have n5_ := Aside0.mk ((by rw [hg]; exact Nat.ne_of_lt (blk_lt (g := gb204) (o := .cells #[.slice A0_0 l0_0.length c0_0] 34 (0, 0)) (by (with_reducible repeat (first | refine blk_drewN ?_ _ | refine blk_drew ?_ | refine blk_alloc ?_ _)); exact BK204.out)) : gb204 ≠ gb205)); have n6_ := Aside0.mk ((by rw [hg]; exact Nat.ne_of_gt (blk_lt (g := gb204) (o := .cells #[.slice A0_0 l0_0.length c0_0] 34 (0, 0)) (by (with_reducible repeat (first | refine blk_drewN ?_ _ | refine blk_drew ?_ | refine blk_alloc ?_ _)); exact BK204.out)) : gb205 ≠ gb204)); clear BK204; clear HB; have BK204 := n0_; have HB := n1_; have BK205 := n2_; have GW205 := n3_; have GE205 := n4_; have NB204_205 := n5_; have NB205_204 := n6_; clear n0_ n1_ n2_ n3_ n4_ n5_ n6_; clear hb hbox hg; have hnb6 := NB204_205.out; have hnc6 := NB205_204.out; have hcz7_0 : w5.cell? ⟨gb204, 0, none⟩ = some (.slice A0_0 l0_0.length c0_0) := (blk_cell BK204.out 0).trans rfl; have hfz7_0 := blk_frozen BK204.out 0; have hcz8_0 : w5.cell? ⟨gb205, 0, none⟩ = some (.slice A1_0 l1_0.length c1_0) := (blk_cell BK205.out 0).trans rfl; have hfz8_0 := blk_frozen BK205.out 0))
    go_loopg [5] k (fun kq v5 w' => ∃ (x5_1 : Int), v5 = .int .i64 x5_1 ∧ Aside0 (pantryref09_Same.l0 kq x5_1 l0_0 l1_0 = some r) ∧ Aside0 (kq ≤ k) ∧ Aside0 (w'.heap[gb204]? = some (.cells #[(.slice A0_0 l0_0.length c0_0)] 34 (0, 0))) ∧ Aside0 (w'.heap[gb205]? = some (.cells #[(.slice A1_0 l1_0.length c1_0)] 34 (0, 0))) ∧ Aside0 (Below w.heap.size w w'))
    case atStart => exact ⟨(0), (by first | rfl | (simp; done) | (simp [*]; done)), H', ⟨Nat.le_refl _⟩, ⟨by (with_reducible repeat (first | refine blk_drewN ?_ _ | refine blk_drew ?_ | refine blk_alloc ?_ _)); exact BK204.out⟩, ⟨by (with_reducible repeat (first | refine blk_drewN ?_ _ | refine blk_drew ?_ | refine blk_alloc ?_ _)); exact BK205.out⟩, ⟨by repeat (first | (with_reducible first | exact HB.out | apply below_alloc | apply pw_below_drewN | apply below_drew1 | refine below_set ?_ GE204.out | refine below_set ?_ GE205.out) | exact HB.out)⟩⟩
    case round =>
      clear H'
      try clear c1
      try clear p2
      try clear c3
      try clear c3b0
      try clear c3b1
      try clear c3b2
      try clear c6
      try clear hcz7_0
      try clear hcz8_0
      try clear hfz7_0
      try clear hfz8_0
      obtain ⟨x5_1, rfl, HA, HK1, BK204, BK205, HB⟩ := hrel
      cases gk with
      | zero => exact absurd HA.out (by simp [pantryref09_Same.l0])
      | succ k1 =>
        have H := HA.out
        clear HA
        simp only [pantryref09_Same.l0] at H
        by_cases c9 : x5_1 < (l0_0.length : Int)
        · rw [if_pos c9] at H
          have c9b0 : decide (x5_1 < (l0_0.length : Int)) = true := decide_eq_true c9
          clear c9
          by_cases c10 : 0 ≤ x5_1
          · rw [if_pos c10] at H
            have c10b0 : decide (0 ≤ x5_1) = true := decide_eq_true c10
            clear c10
            by_cases c11 : x5_1 < (l1_0.length : Int)
            · rw [if_pos c11] at H
              have c11b0 : decide (x5_1 < (l1_0.length : Int)) = true := decide_eq_true c11
              clear c11
              replace H := Option.bind_eq_some_iff.mp H
              obtain ⟨t208, A120, H⟩ := H
              replace H : (if t208 = true then (pantryref09_Same.l0 k1 (wrap64 (x5_1 + 1)) l0_0 l1_0) else (some false)) = some r := H
              have A12 := Aside0.mk A120
              clear A120
              by_cases c13 : t208 = true
              · subst c13
                have H1 : (pantryref09_Same.l0 k1 (wrap64 (x5_1 + 1)) l0_0 l1_0) = some r := by rw [if_pos rfl] at H; exact H
                clear H
                have H := H1
                clear H1
                have H' := Aside0.mk H
                clear H
                have hnb14 := NB204_205.out
                have hnc14 := NB205_204.out
                have hcz15_0 : wr.cell? ⟨gb204, 0, none⟩ = some (.slice A0_0 l0_0.length c0_0) := (blk_cell BK204.out 0).trans rfl
                have hfz15_0 := blk_frozen BK204.out 0
                try go_wp2
                have n0_ := Aside0.mk (blk_drew BK204.out)
                have n1_ := Aside0.mk (blk_drew BK205.out)
                have n2_ := Aside0.mk (below_drew1 HB.out)
                clear BK204
                clear BK205
                clear HB
                have BK204 := n0_
                have BK205 := n1_
                have HB := n2_
                clear n0_ n1_ n2_
                have p206 : 0 ≤ (x5_1 : Int) := of_decide_eq_true (by first | (with_reducible assumption) | assumption)
                have q206 : x5_1 < (l0_0.length : Int) := of_decide_eq_true (by first | (with_reducible assumption) | assumption)
                obtain ⟨ad206, A206_6, c206_6, e206, hx206_0, hx206_1, hx206_2, hx206_3, hx206_4, hx206_5, hx206_6, hl206_6, hi206_6⟩ := at_T38 HR0_0.out x5_1 p206 q206
                have hw206_6 := hx206_6
                have hw206_5 := hx206_5
                have hw206_4 := hx206_4
                have hw206_3 := hx206_3
                have hw206_2 := hx206_2
                have hw206_1 := hx206_1
                have hw206_0 := hx206_0
                cases e206
                replace hx206_0 := (HB.out.cell (World.block_lt_of_cell? w _ hx206_0)).trans hx206_0
                replace hx206_1 := (HB.out.cell (World.block_lt_of_cell? w _ hx206_1)).trans hx206_1
                replace hx206_2 := (HB.out.cell (World.block_lt_of_cell? w _ hx206_2)).trans hx206_2
                replace hx206_3 := (HB.out.cell (World.block_lt_of_cell? w _ hx206_3)).trans hx206_3
                replace hx206_4 := (HB.out.cell (World.block_lt_of_cell? w _ hx206_4)).trans hx206_4
                replace hx206_5 := (HB.out.cell (World.block_lt_of_cell? w _ hx206_5)).trans hx206_5
                replace hx206_6 := (HB.out.cell (World.block_lt_of_cell? w _ hx206_6)).trans hx206_6
                have HR206_6 := Aside0.mk hi206_6
                have HC206_6 := Aside0.mk hl206_6
                clear hi206_6 hl206_6
                replace p206 := eq_true p206
                replace q206 := eq_true q206
                have p207 : 0 ≤ (x5_1 : Int) := of_decide_eq_true (by first | (with_reducible assumption) | assumption)
                have q207 : x5_1 < (l1_0.length : Int) := of_decide_eq_true (by first | (with_reducible assumption) | assumption)
                obtain ⟨ad207, A207_6, c207_6, e207, hx207_0, hx207_1, hx207_2, hx207_3, hx207_4, hx207_5, hx207_6, hl207_6, hi207_6⟩ := at_T38 HR1_0.out x5_1 p207 q207
                have hw207_6 := hx207_6
                have hw207_5 := hx207_5
                have hw207_4 := hx207_4
                have hw207_3 := hx207_3
                have hw207_2 := hx207_2
                have hw207_1 := hx207_1
                have hw207_0 := hx207_0
                cases e207
                replace hx207_0 := (HB.out.cell (World.block_lt_of_cell? w _ hx207_0)).trans hx207_0
                replace hx207_1 := (HB.out.cell (World.block_lt_of_cell? w _ hx207_1)).trans hx207_1
                replace hx207_2 := (HB.out.cell (World.block_lt_of_cell? w _ hx207_2)).trans hx207_2
                replace hx207_3 := (HB.out.cell (World.block_lt_of_cell? w _ hx207_3)).trans hx207_3
                replace hx207_4 := (HB.out.cell (World.block_lt_of_cell? w _ hx207_4)).trans hx207_4
                replace hx207_5 := (HB.out.cell (World.block_lt_of_cell? w _ hx207_5)).trans hx207_5
                replace hx207_6 := (HB.out.cell (World.block_lt_of_cell? w _ hx207_6)).trans hx207_6
                have HR207_6 := Aside0.mk hi207_6
                have HC207_6 := Aside0.mk hl207_6
                clear hi207_6 hl207_6
                replace p207 := eq_true p207
                replace q207 := eq_true q207
                refine start_ (n := 12) (S := fun w' => w'.cell? ⟨gb204, 0, none⟩ = some (.slice (some ad206) l0_0.length c0_0) ∧ w'.cell? ⟨gb205, 0, none⟩ = some (.slice (some ad207) l1_0.length c1_0) ∧ w'.cell? (ad206.add ((x5_1).toNat * 7)) = some (.string ((rd_T38 l0_0 x5_1).f0)) ∧ w'.cell? ⟨(ad206.add ((x5_1).toNat * 7)).block, (ad206.add ((x5_1).toNat * 7)).off + 1, none⟩ = some (.int .i64 ((rd_T38 l0_0 x5_1).f1)) ∧ w'.cell? ⟨(ad206.add ((x5_1).toNat * 7)).block, (ad206.add ((x5_1).toNat * 7)).off + 2, none⟩ = some (.int .i64 ((rd_T38 l0_0 x5_1).f2)) ∧ w'.cell? ⟨(ad206.add ((x5_1).toNat * 7)).block, (ad206.add ((x5_1).toNat * 7)).off + 3, none⟩ = some (.int .i64 ((rd_T38 l0_0 x5_1).f3)) ∧ w'.cell? ⟨(ad206.add ((x5_1).toNat * 7)).block, (ad206.add ((x5_1).toNat * 7)).off + 4, none⟩ = some (.bool ((rd_T38 l0_0 x5_1).f4)) ∧ w'.cell? ⟨(ad206.add ((x5_1).toNat * 7)).block, (ad206.add ((x5_1).toNat * 7)).off + 5, none⟩ = some (.bool ((rd_T38 l0_0 x5_1).f5)) ∧ w'.cell? ⟨(ad206.add ((x5_1).toNat * 7)).block, (ad206.add ((x5_1).toNat * 7)).off + 6, none⟩ = some (.slice A206_6 ((rd_T38 l0_0 x5_1).f6).length c206_6) ∧ w'.cell? (ad207.add ((x5_1).toNat * 7)) = some (.string ((rd_T38 l1_0 x5_1).f0)) ∧ w'.cell? ⟨(ad207.add ((x5_1).toNat * 7)).block, (ad207.add ((x5_1).toNat * 7)).off + 1, none⟩ = some (.int .i64 ((rd_T38 l1_0 x5_1).f1)) ∧ w'.cell? ⟨(ad207.add ((x5_1).toNat * 7)).block, (ad207.add ((x5_1).toNat * 7)).off + 2, none⟩ = some (.int .i64 ((rd_T38 l1_0 x5_1).f2)) ∧ w'.cell? ⟨(ad207.add ((x5_1).toNat * 7)).block, (ad207.add ((x5_1).toNat * 7)).off + 3, none⟩ = some (.int .i64 ((rd_T38 l1_0 x5_1).f3)) ∧ w'.cell? ⟨(ad207.add ((x5_1).toNat * 7)).block, (ad207.add ((x5_1).toNat * 7)).off + 4, none⟩ = some (.bool ((rd_T38 l1_0 x5_1).f4)) ∧ w'.cell? ⟨(ad207.add ((x5_1).toNat * 7)).block, (ad207.add ((x5_1).toNat * 7)).off + 5, none⟩ = some (.bool ((rd_T38 l1_0 x5_1).f5)) ∧ w'.cell? ⟨(ad207.add ((x5_1).toNat * 7)).block, (ad207.add ((x5_1).toNat * 7)).off + 6, none⟩ = some (.slice A207_6 ((rd_T38 l1_0 x5_1).f6).length c207_6)) (ds := []) #[false, false, false, false, false, false, false, false, false, false, false, false] (by kernel_rfl) rfl rfl ⟨(blk_cell BK204.out 0).trans rfl, (blk_cell BK205.out 0).trans rfl, ((HB.out.cell (World.block_lt_of_cell? w _ hw206_0)).trans hw206_0), ((HB.out.cell (World.block_lt_of_cell? w _ hw206_1)).trans hw206_1), ((HB.out.cell (World.block_lt_of_cell? w _ hw206_2)).trans hw206_2), ((HB.out.cell (World.block_lt_of_cell? w _ hw206_3)).trans hw206_3), ((HB.out.cell (World.block_lt_of_cell? w _ hw206_4)).trans hw206_4), ((HB.out.cell (World.block_lt_of_cell? w _ hw206_5)).trans hw206_5), ((HB.out.cell (World.block_lt_of_cell? w _ hw206_6)).trans hw206_6), ((HB.out.cell (World.block_lt_of_cell? w _ hw207_0)).trans hw207_0), ((HB.out.cell (World.block_lt_of_cell? w _ hw207_1)).trans hw207_1), ((HB.out.cell (World.block_lt_of_cell? w _ hw207_2)).trans hw207_2), ((HB.out.cell (World.block_lt_of_cell? w _ hw207_3)).trans hw207_3), ((HB.out.cell (World.block_lt_of_cell? w _ hw207_4)).trans hw207_4), ((HB.out.cell (World.block_lt_of_cell? w _ hw207_5)).trans hw207_5), ((HB.out.cell (World.block_lt_of_cell? w _ hw207_6)).trans hw207_6)⟩ (fun hHeld => ?_); refine with_tabW pantryref09_Same.tab6 pantryref09_Same.bits6 (fun HT_ HW_ => ?_)
                generalize wr.drew = w16 at BK204 BK205 HB HR206_6 HR207_6 hx206_0 hx206_1 hx206_2 hx206_3 hx206_4 hx206_5 hx206_6 hx207_0 hx207_1 hx207_2 hx207_3 hx207_4 hx207_5 hx207_6 hHeld ⊢
                refine pure_ (i := 0) (N := some 20) (v := ?_) (a' := ?_) #[true, false, false, false, false, false, false, false, false, false, false, false] rfl rfl (any_of HT_.out (by kernel_rfl)) (fun _ _ _ h => h) (Or.inl ⟨by rfl, ?_⟩) ?_ ?_
                rotate_left
                · intro w'
                  go_simp
                  with_reducible rfl
                rotate_left
                · simp only [Act.put, List.setIfInBounds_toArray, List.set_cons_zero, List.set_cons_succ, i64_w, i32_w]
                  rfl
                refine pure_ (i := 2) (N := some 22) (v := ?_) (a' := ?_) #[true, false, true, false, false, false, false, false, false, false, false, false] rfl rfl (any_of HT_.out (by kernel_rfl)) (fun _ _ _ h => h) (Or.inl ⟨by rfl, ?_⟩) ?_ ?_
                rotate_left
                · intro w'
                  go_simp
                  with_reducible rfl
                rotate_left
                · simp only [Act.put, List.setIfInBounds_toArray, List.set_cons_zero, List.set_cons_succ, i64_w, i32_w]
                  rfl
                refine pure_ (i := 5) (N := some 25) (v := ?_) (a' := ?_) #[true, false, true, false, false, true, false, false, false, false, false, false] rfl rfl (any_of HT_.out (by kernel_rfl)) (fun _ _ _ h => h) (Or.inl ⟨by rfl, ?_⟩) ?_ ?_
                rotate_left
                · intro w'
                  go_simp
                  with_reducible rfl
                rotate_left
                · simp only [Act.put, List.setIfInBounds_toArray, List.set_cons_zero, List.set_cons_succ, i64_w, i32_w]
                  rfl
                refine pure_ (i := 7) (N := some 27) (v := ?_) (a' := ?_) #[true, false, true, false, false, true, false, true, false, false, false, false] rfl rfl (any_of HT_.out (by kernel_rfl)) (fun _ _ _ h => h) (Or.inl ⟨by rfl, ?_⟩) ?_ ?_
                rotate_left
                · intro w'
                  go_simp
                  with_reducible rfl
                rotate_left
                · simp only [Act.put, List.setIfInBounds_toArray, List.set_cons_zero, List.set_cons_succ, i64_w, i32_w]
                  rfl
                refine take_ (i := 1) (N := some 21) (v := ?_) (a' := ?_) #[true, true, true, false, false, true, false, true, false, false, false, false] rfl rfl (take_ofW HT_.out HW_.out (by kernel_rfl)) (fun _ _ _ h => h) (Or.inl ⟨by rfl, ?_⟩) hHeld ?_ ?_
                rotate_left
                · rintro w' ⟨s0, s1, s2, s3, s4, s5, s6, s7, s8, s9, s10, s11, s12, s13, s14, s15⟩
                  go_simp
                  with_reducible rfl
                rotate_left
                · simp only [Act.put, List.setIfInBounds_toArray, List.set_cons_zero, List.set_cons_succ, i64_w, i32_w]
                  rfl
                refine pure_ (i := 3) (N := some 23) (v := ?_) (a' := ?_) #[true, true, true, true, false, true, false, true, false, false, false, false] rfl rfl (any_of HT_.out (by kernel_rfl)) (fun _ _ _ h => h) (Or.inl ⟨by rfl, ?_⟩) ?_ ?_
                rotate_left
                · intro w'
                  go_simp
                  with_reducible rfl
                rotate_left
                · simp only [Act.put, List.setIfInBounds_toArray, List.set_cons_zero, List.set_cons_succ, i64_w, i32_w]
                  rfl
                refine take_ (i := 4) (N := some 24) (v := ?_) (a' := ?_) #[true, true, true, true, true, true, false, true, false, false, false, false] rfl rfl (take_ofW HT_.out HW_.out (by kernel_rfl)) (fun _ _ _ h => h) (Or.inl ⟨by rfl, ?_⟩) hHeld ?_ ?_
                rotate_left
                · rintro w' ⟨s0, s1, s2, s3, s4, s5, s6, s7, s8, s9, s10, s11, s12, s13, s14, s15⟩
                  go_simp
                  with_reducible rfl
                rotate_left
                · simp only [Act.put, List.setIfInBounds_toArray, List.set_cons_zero, List.set_cons_succ, i64_w, i32_w]
                  rfl
                refine take_ (i := 6) (N := some 26) (v := ?_) (a' := ?_) #[true, true, true, true, true, true, true, true, false, false, false, false] rfl rfl (take_ofW HT_.out HW_.out (by kernel_rfl)) (fun _ _ _ h => h) (Or.inl ⟨by rfl, ?_⟩) hHeld ?_ ?_
                rotate_left
                · rintro w' ⟨s0, s1, s2, s3, s4, s5, s6, s7, s8, s9, s10, s11, s12, s13, s14, s15⟩
                  go_simp
                  with_reducible rfl
                rotate_left
                · simp only [Act.put, List.setIfInBounds_toArray, List.set_cons_zero, List.set_cons_succ, i64_w, i32_w]
                  rfl
                refine pure_ (i := 8) (N := some 28) (v := ?_) (a' := ?_) #[true, true, true, true, true, true, true, true, true, false, false, false] rfl rfl (any_of HT_.out (by kernel_rfl)) (fun _ _ _ h => h) (Or.inl ⟨by rfl, ?_⟩) ?_ ?_
                rotate_left
                · intro w'
                  go_simp
                  with_reducible rfl
                rotate_left
                · simp only [Act.put, List.setIfInBounds_toArray, List.set_cons_zero, List.set_cons_succ, i64_w, i32_w]
                  rfl
                refine take_ (i := 9) (N := some 29) (v := ?_) (a' := ?_) #[true, true, true, true, true, true, true, true, true, true, false, false] rfl rfl (take_ofW HT_.out HW_.out (by kernel_rfl)) (fun _ _ _ h => h) (Or.inl ⟨by rfl, ?_⟩) hHeld ?_ ?_
                rotate_left
                · rintro w' ⟨s0, s1, s2, s3, s4, s5, s6, s7, s8, s9, s10, s11, s12, s13, s14, s15⟩
                  go_simp
                  with_reducible rfl
                rotate_left
                · simp only [Act.put, List.setIfInBounds_toArray, List.set_cons_zero, List.set_cons_succ, i64_w, i32_w]
                  rfl
                refine one_ (i := 10) (N := some 30) #[true, true, true, true, true, true, true, true, true, true, true, false] rfl rfl (one_of HT_.out (by kernel_rfl)) (by decide) (fun K hK => ?_)
                refine goes_ Tryd.func13 (by kernel_rfl) rfl #[.agg #[.string ((rd_T38 l0_0 x5_1).f0), .int .i64 ((rd_T38 l0_0 x5_1).f1), .int .i64 ((rd_T38 l0_0 x5_1).f2), .int .i64 ((rd_T38 l0_0 x5_1).f3), .bool ((rd_T38 l0_0 x5_1).f4), .bool ((rd_T38 l0_0 x5_1).f5), .slice A206_6 ((rd_T38 l0_0 x5_1).f6).length c206_6], .agg #[.string ((rd_T38 l1_0 x5_1).f0), .int .i64 ((rd_T38 l1_0 x5_1).f1), .int .i64 ((rd_T38 l1_0 x5_1).f2), .int .i64 ((rd_T38 l1_0 x5_1).f3), .bool ((rd_T38 l1_0 x5_1).f4), .bool ((rd_T38 l1_0 x5_1).f5), .slice A207_6 ((rd_T38 l1_0 x5_1).f6).length c207_6]] (by rfl) rfl rfl (by (try simp only [List.map_toArray, List.map_cons, List.map_nil]); first | done | rfl | (simp only [List.length_drop, List.length_take]; rfl)) ?_
                with_reducible refine (pantryref09_Alike.calls k1 ((rd_T38 l0_0 x5_1).f0) ((rd_T38 l0_0 x5_1).f1) ((rd_T38 l0_0 x5_1).f2) ((rd_T38 l0_0 x5_1).f3) ((rd_T38 l0_0 x5_1).f4) ((rd_T38 l0_0 x5_1).f5) _ _ ((rd_T38 l0_0 x5_1).f6) ((rd_T38 l1_0 x5_1).f0) ((rd_T38 l1_0 x5_1).f1) ((rd_T38 l1_0 x5_1).f2) ((rd_T38 l1_0 x5_1).f3) ((rd_T38 l1_0 x5_1).f4) ((rd_T38 l1_0 x5_1).f5) _ _ ((rd_T38 l1_0 x5_1).f6) true _ ?side1 ?side2 ?side3 ?side4 A12.out).mono ?_
                (case side1 => repeat (first | exact (Kd.C_below HR206_6.out HB.out) | (with_reducible refine Kd.C_alloc ?_ _) | (with_reducible refine Kd.C_drewN ?_ _) | (with_reducible refine Kd.C_drew ?_)))
                (case side2 => exact HC206_6.out)
                (case side3 => repeat (first | exact (Kd.C_below HR207_6.out HB.out) | (with_reducible refine Kd.C_alloc ?_ _) | (with_reducible refine Kd.C_drewN ?_ _) | (with_reducible refine Kd.C_drew ?_)))
                (case side4 => exact HC207_6.out)
                rintro e w17 ⟨rfl, hb⟩
                refine ⟨_, rfl, ?_⟩
                have n0_ := Aside0.mk (blk_below (g := gb204) (o := .cells #[.slice (some ad206) l0_0.length c0_0] 34 (0, 0)) (by (with_reducible repeat (first | refine blk_drewN ?_ _ | refine blk_drew ?_ | refine blk_alloc ?_ _)); exact BK204.out) hb)
                have n1_ := Aside0.mk (blk_below (g := gb205) (o := .cells #[.slice (some ad207) l1_0.length c1_0] 34 (0, 0)) (by (with_reducible repeat (first | refine blk_drewN ?_ _ | refine blk_drew ?_ | refine blk_alloc ?_ _)); exact BK205.out) hb)
                have n2_ := Aside0.mk (below_step (by repeat (first | (with_reducible first | exact HB.out | apply below_alloc | apply pw_below_drewN | apply below_drew1 | refine below_set ?_ GE204.out | refine below_set ?_ GE205.out) | exact HB.out)) hb)
                clear BK204
                clear BK205
                clear HB
                have BK204 := n0_
                have BK205 := n1_
                have HB := n2_
                clear n0_ n1_ n2_
                (try clear hb)
                (try clear hb2)
                (try clear hk)
                (try clear hi)
                refine hK.out _ _ ⟨(blk_cell BK204.out 0).trans rfl, (blk_cell BK205.out 0).trans rfl, ((HB.out.cell (World.block_lt_of_cell? w _ hw206_0)).trans hw206_0), ((HB.out.cell (World.block_lt_of_cell? w _ hw206_1)).trans hw206_1), ((HB.out.cell (World.block_lt_of_cell? w _ hw206_2)).trans hw206_2), ((HB.out.cell (World.block_lt_of_cell? w _ hw206_3)).trans hw206_3), ((HB.out.cell (World.block_lt_of_cell? w _ hw206_4)).trans hw206_4), ((HB.out.cell (World.block_lt_of_cell? w _ hw206_5)).trans hw206_5), ((HB.out.cell (World.block_lt_of_cell? w _ hw206_6)).trans hw206_6), ((HB.out.cell (World.block_lt_of_cell? w _ hw207_0)).trans hw207_0), ((HB.out.cell (World.block_lt_of_cell? w _ hw207_1)).trans hw207_1), ((HB.out.cell (World.block_lt_of_cell? w _ hw207_2)).trans hw207_2), ((HB.out.cell (World.block_lt_of_cell? w _ hw207_3)).trans hw207_3), ((HB.out.cell (World.block_lt_of_cell? w _ hw207_4)).trans hw207_4), ((HB.out.cell (World.block_lt_of_cell? w _ hw207_5)).trans hw207_5), ((HB.out.cell (World.block_lt_of_cell? w _ hw207_6)).trans hw207_6)⟩ (fun hHeld => ?_)
                clear hK K
                refine norm_ (a' := ?_) ?_ ?_
                rotate_left
                · show Act.put _ (some 30) _ = _
                  simp only [Act.put, List.setIfInBounds_toArray, List.set_cons_zero, List.set_cons_succ, i64_w, i32_w]
                  rfl
                refine pure_ (i := 11) (N := some 31) (v := ?_) (a' := ?_) #[true, true, true, true, true, true, true, true, true, true, true, true] rfl rfl (any_of HT_.out (by kernel_rfl)) (fun _ _ _ h => h) (Or.inl ⟨by rfl, ?_⟩) ?_ ?_
                rotate_left
                · intro w'
                  go_simp
                  with_reducible rfl
                rotate_left
                · simp only [Act.put, List.setIfInBounds_toArray, List.set_cons_zero, List.set_cons_succ, i64_w, i32_w]
                  rfl
                refine done_ (done_of HT_.out (by kernel_rfl)) ?_
                try go_wp2
                go_roundg k1
                case measure => have := HK1.out; omega
                case rel => exact ⟨(wrap64 (x5_1 + 1)), (by first | rfl | (simp; done) | (simp [*]; done)), H', ⟨by have := HK1.out; omega⟩, ⟨by (with_reducible repeat (first | refine blk_drewN ?_ _ | refine blk_drew ?_ | refine blk_alloc ?_ _)); exact BK204.out⟩, ⟨by (with_reducible repeat (first | refine blk_drewN ?_ _ | refine blk_drew ?_ | refine blk_alloc ?_ _)); exact BK205.out⟩, ⟨by repeat (first | (with_reducible first | exact HB.out | apply below_alloc | apply pw_below_drewN | apply below_drew1 | refine below_set ?_ GE204.out | refine below_set ?_ GE205.out) | exact HB.out)⟩⟩
              · replace c13 := Bool.eq_false_iff.mpr c13
                subst c13
                have H1 : (some false) = some r := by rw [if_neg (show ¬ (false = true) by decide)] at H; exact H
                clear H
                have H := H1
                clear H1
                obtain rfl := Option.some.inj H
                have hnb18 := NB204_205.out
                have hnc18 := NB205_204.out
                have hcz19_0 : wr.cell? ⟨gb204, 0, none⟩ = some (.slice A0_0 l0_0.length c0_0) := (blk_cell BK204.out 0).trans rfl
                have hfz19_0 := blk_frozen BK204.out 0
                try go_wp2
                have n0_ := Aside0.mk (blk_drew BK204.out)
                have n1_ := Aside0.mk (blk_drew BK205.out)
                have n2_ := Aside0.mk (below_drew1 HB.out)
                clear BK204
                clear BK205
                clear HB
                have BK204 := n0_
                have BK205 := n1_
                have HB := n2_
                clear n0_ n1_ n2_
                have p206 : 0 ≤ (x5_1 : Int) := of_decide_eq_true (by first | (with_reducible assumption) | assumption)
                have q206 : x5_1 < (l0_0.length : Int) := of_decide_eq_true (by first | (with_reducible assumption) | assumption)
                obtain ⟨ad206, A206_6, c206_6, e206, hx206_0, hx206_1, hx206_2, hx206_3, hx206_4, hx206_5, hx206_6, hl206_6, hi206_6⟩ := at_T38 HR0_0.out x5_1 p206 q206
                have hw206_6 := hx206_6
                have hw206_5 := hx206_5
                have hw206_4 := hx206_4
                have hw206_3 := hx206_3
                have hw206_2 := hx206_2
                have hw206_1 := hx206_1
                have hw206_0 := hx206_0
                cases e206
                replace hx206_0 := (HB.out.cell (World.block_lt_of_cell? w _ hx206_0)).trans hx206_0
                replace hx206_1 := (HB.out.cell (World.block_lt_of_cell? w _ hx206_1)).trans hx206_1
                replace hx206_2 := (HB.out.cell (World.block_lt_of_cell? w _ hx206_2)).trans hx206_2
                replace hx206_3 := (HB.out.cell (World.block_lt_of_cell? w _ hx206_3)).trans hx206_3
                replace hx206_4 := (HB.out.cell (World.block_lt_of_cell? w _ hx206_4)).trans hx206_4
                replace hx206_5 := (HB.out.cell (World.block_lt_of_cell? w _ hx206_5)).trans hx206_5
                replace hx206_6 := (HB.out.cell (World.block_lt_of_cell? w _ hx206_6)).trans hx206_6
                have HR206_6 := Aside0.mk hi206_6
                have HC206_6 := Aside0.mk hl206_6
                clear hi206_6 hl206_6
                replace p206 := eq_true p206
                replace q206 := eq_true q206
                have p207 : 0 ≤ (x5_1 : Int) := of_decide_eq_true (by first | (with_reducible assumption) | assumption)
                have q207 : x5_1 < (l1_0.length : Int) := of_decide_eq_true (by first | (with_reducible assumption) | assumption)
                obtain ⟨ad207, A207_6, c207_6, e207, hx207_0, hx207_1, hx207_2, hx207_3, hx207_4, hx207_5, hx207_6, hl207_6, hi207_6⟩ := at_T38 HR1_0.out x5_1 p207 q207
                have hw207_6 := hx207_6
                have hw207_5 := hx207_5
                have hw207_4 := hx207_4
                have hw207_3 := hx207_3
                have hw207_2 := hx207_2
                have hw207_1 := hx207_1
                have hw207_0 := hx207_0
                cases e207
                replace hx207_0 := (HB.out.cell (World.block_lt_of_cell? w _ hx207_0)).trans hx207_0
                replace hx207_1 := (HB.out.cell (World.block_lt_of_cell? w _ hx207_1)).trans hx207_1
                replace hx207_2 := (HB.out.cell (World.block_lt_of_cell? w _ hx207_2)).trans hx207_2
                replace hx207_3 := (HB.out.cell (World.block_lt_of_cell? w _ hx207_3)).trans hx207_3
                replace hx207_4 := (HB.out.cell (World.block_lt_of_cell? w _ hx207_4)).trans hx207_4
                replace hx207_5 := (HB.out.cell (World.block_lt_of_cell? w _ hx207_5)).trans hx207_5
                replace hx207_6 := (HB.out.cell (World.block_lt_of_cell? w _ hx207_6)).trans hx207_6
                have HR207_6 := Aside0.mk hi207_6
                have HC207_6 := Aside0.mk hl207_6
                clear hi207_6 hl207_6
                replace p207 := eq_true p207
                replace q207 := eq_true q207
                refine start_ (n := 12) (S := fun w' => w'.cell? ⟨gb204, 0, none⟩ = some (.slice (some ad206) l0_0.length c0_0) ∧ w'.cell? ⟨gb205, 0, none⟩ = some (.slice (some ad207) l1_0.length c1_0) ∧ w'.cell? (ad206.add ((x5_1).toNat * 7)) = some (.string ((rd_T38 l0_0 x5_1).f0)) ∧ w'.cell? ⟨(ad206.add ((x5_1).toNat * 7)).block, (ad206.add ((x5_1).toNat * 7)).off + 1, none⟩ = some (.int .i64 ((rd_T38 l0_0 x5_1).f1)) ∧ w'.cell? ⟨(ad206.add ((x5_1).toNat * 7)).block, (ad206.add ((x5_1).toNat * 7)).off + 2, none⟩ = some (.int .i64 ((rd_T38 l0_0 x5_1).f2)) ∧ w'.cell? ⟨(ad206.add ((x5_1).toNat * 7)).block, (ad206.add ((x5_1).toNat * 7)).off + 3, none⟩ = some (.int .i64 ((rd_T38 l0_0 x5_1).f3)) ∧ w'.cell? ⟨(ad206.add ((x5_1).toNat * 7)).block, (ad206.add ((x5_1).toNat * 7)).off + 4, none⟩ = some (.bool ((rd_T38 l0_0 x5_1).f4)) ∧ w'.cell? ⟨(ad206.add ((x5_1).toNat * 7)).block, (ad206.add ((x5_1).toNat * 7)).off + 5, none⟩ = some (.bool ((rd_T38 l0_0 x5_1).f5)) ∧ w'.cell? ⟨(ad206.add ((x5_1).toNat * 7)).block, (ad206.add ((x5_1).toNat * 7)).off + 6, none⟩ = some (.slice A206_6 ((rd_T38 l0_0 x5_1).f6).length c206_6) ∧ w'.cell? (ad207.add ((x5_1).toNat * 7)) = some (.string ((rd_T38 l1_0 x5_1).f0)) ∧ w'.cell? ⟨(ad207.add ((x5_1).toNat * 7)).block, (ad207.add ((x5_1).toNat * 7)).off + 1, none⟩ = some (.int .i64 ((rd_T38 l1_0 x5_1).f1)) ∧ w'.cell? ⟨(ad207.add ((x5_1).toNat * 7)).block, (ad207.add ((x5_1).toNat * 7)).off + 2, none⟩ = some (.int .i64 ((rd_T38 l1_0 x5_1).f2)) ∧ w'.cell? ⟨(ad207.add ((x5_1).toNat * 7)).block, (ad207.add ((x5_1).toNat * 7)).off + 3, none⟩ = some (.int .i64 ((rd_T38 l1_0 x5_1).f3)) ∧ w'.cell? ⟨(ad207.add ((x5_1).toNat * 7)).block, (ad207.add ((x5_1).toNat * 7)).off + 4, none⟩ = some (.bool ((rd_T38 l1_0 x5_1).f4)) ∧ w'.cell? ⟨(ad207.add ((x5_1).toNat * 7)).block, (ad207.add ((x5_1).toNat * 7)).off + 5, none⟩ = some (.bool ((rd_T38 l1_0 x5_1).f5)) ∧ w'.cell? ⟨(ad207.add ((x5_1).toNat * 7)).block, (ad207.add ((x5_1).toNat * 7)).off + 6, none⟩ = some (.slice A207_6 ((rd_T38 l1_0 x5_1).f6).length c207_6)) (ds := []) #[false, false, false, false, false, false, false, false, false, false, false, false] (by kernel_rfl) rfl rfl ⟨(blk_cell BK204.out 0).trans rfl, (blk_cell BK205.out 0).trans rfl, ((HB.out.cell (World.block_lt_of_cell? w _ hw206_0)).trans hw206_0), ((HB.out.cell (World.block_lt_of_cell? w _ hw206_1)).trans hw206_1), ((HB.out.cell (World.block_lt_of_cell? w _ hw206_2)).trans hw206_2), ((HB.out.cell (World.block_lt_of_cell? w _ hw206_3)).trans hw206_3), ((HB.out.cell (World.block_lt_of_cell? w _ hw206_4)).trans hw206_4), ((HB.out.cell (World.block_lt_of_cell? w _ hw206_5)).trans hw206_5), ((HB.out.cell (World.block_lt_of_cell? w _ hw206_6)).trans hw206_6), ((HB.out.cell (World.block_lt_of_cell? w _ hw207_0)).trans hw207_0), ((HB.out.cell (World.block_lt_of_cell? w _ hw207_1)).trans hw207_1), ((HB.out.cell (World.block_lt_of_cell? w _ hw207_2)).trans hw207_2), ((HB.out.cell (World.block_lt_of_cell? w _ hw207_3)).trans hw207_3), ((HB.out.cell (World.block_lt_of_cell? w _ hw207_4)).trans hw207_4), ((HB.out.cell (World.block_lt_of_cell? w _ hw207_5)).trans hw207_5), ((HB.out.cell (World.block_lt_of_cell? w _ hw207_6)).trans hw207_6)⟩ (fun hHeld => ?_); refine with_tabW pantryref09_Same.tab6 pantryref09_Same.bits6 (fun HT_ HW_ => ?_)
                generalize wr.drew = w20 at BK204 BK205 HB HR206_6 HR207_6 hx206_0 hx206_1 hx206_2 hx206_3 hx206_4 hx206_5 hx206_6 hx207_0 hx207_1 hx207_2 hx207_3 hx207_4 hx207_5 hx207_6 hHeld ⊢
                refine pure_ (i := 0) (N := some 20) (v := ?_) (a' := ?_) #[true, false, false, false, false, false, false, false, false, false, false, false] rfl rfl (any_of HT_.out (by kernel_rfl)) (fun _ _ _ h => h) (Or.inl ⟨by rfl, ?_⟩) ?_ ?_
                rotate_left
                · intro w'
                  go_simp
                  with_reducible rfl
                rotate_left
                · simp only [Act.put, List.setIfInBounds_toArray, List.set_cons_zero, List.set_cons_succ, i64_w, i32_w]
                  rfl
                refine pure_ (i := 2) (N := some 22) (v := ?_) (a' := ?_) #[true, false, true, false, false, false, false, false, false, false, false, false] rfl rfl (any_of HT_.out (by kernel_rfl)) (fun _ _ _ h => h) (Or.inl ⟨by rfl, ?_⟩) ?_ ?_
                rotate_left
                · intro w'
                  go_simp
                  with_reducible rfl
                rotate_left
                · simp only [Act.put, List.setIfInBounds_toArray, List.set_cons_zero, List.set_cons_succ, i64_w, i32_w]
                  rfl
                refine pure_ (i := 5) (N := some 25) (v := ?_) (a' := ?_) #[true, false, true, false, false, true, false, false, false, false, false, false] rfl rfl (any_of HT_.out (by kernel_rfl)) (fun _ _ _ h => h) (Or.inl ⟨by rfl, ?_⟩) ?_ ?_
                rotate_left
                · intro w'
                  go_simp
                  with_reducible rfl
                rotate_left
                · simp only [Act.put, List.setIfInBounds_toArray, List.set_cons_zero, List.set_cons_succ, i64_w, i32_w]
                  rfl
                refine pure_ (i := 7) (N := some 27) (v := ?_) (a' := ?_) #[true, false, true, false, false, true, false, true, false, false, false, false] rfl rfl (any_of HT_.out (by kernel_rfl)) (fun _ _ _ h => h) (Or.inl ⟨by rfl, ?_⟩) ?_ ?_
                rotate_left
                · intro w'
                  go_simp
                  with_reducible rfl
                rotate_left
                · simp only [Act.put, List.setIfInBounds_toArray, List.set_cons_zero, List.set_cons_succ, i64_w, i32_w]
                  rfl
                refine take_ (i := 1) (N := some 21) (v := ?_) (a' := ?_) #[true, true, true, false, false, true, false, true, false, false, false, false] rfl rfl (take_ofW HT_.out HW_.out (by kernel_rfl)) (fun _ _ _ h => h) (Or.inl ⟨by rfl, ?_⟩) hHeld ?_ ?_
                rotate_left
                · rintro w' ⟨s0, s1, s2, s3, s4, s5, s6, s7, s8, s9, s10, s11, s12, s13, s14, s15⟩
                  go_simp
                  with_reducible rfl
                rotate_left
                · simp only [Act.put, List.setIfInBounds_toArray, List.set_cons_zero, List.set_cons_succ, i64_w, i32_w]
                  rfl
                refine pure_ (i := 3) (N := some 23) (v := ?_) (a' := ?_) #[true, true, true, true, false, true, false, true, false, false, false, false] rfl rfl (any_of HT_.out (by kernel_rfl)) (fun _ _ _ h => h) (Or.inl ⟨by rfl, ?_⟩) ?_ ?_
                rotate_left
                · intro w'
                  go_simp
                  with_reducible rfl
                rotate_left
                · simp only [Act.put, List.setIfInBounds_toArray, List.set_cons_zero, List.set_cons_succ, i64_w, i32_w]
                  rfl
                refine take_ (i := 4) (N := some 24) (v := ?_) (a' := ?_) #[true, true, true, true, true, true, false, true, false, false, false, false] rfl rfl (take_ofW HT_.out HW_.out (by kernel_rfl)) (fun _ _ _ h => h) (Or.inl ⟨by rfl, ?_⟩) hHeld ?_ ?_
                rotate_left
                · rintro w' ⟨s0, s1, s2, s3, s4, s5, s6, s7, s8, s9, s10, s11, s12, s13, s14, s15⟩
                  go_simp
                  with_reducible rfl
                rotate_left
                · simp only [Act.put, List.setIfInBounds_toArray, List.set_cons_zero, List.set_cons_succ, i64_w, i32_w]
                  rfl
                refine take_ (i := 6) (N := some 26) (v := ?_) (a' := ?_) #[true, true, true, true, true, true, true, true, false, false, false, false] rfl rfl (take_ofW HT_.out HW_.out (by kernel_rfl)) (fun _ _ _ h => h) (Or.inl ⟨by rfl, ?_⟩) hHeld ?_ ?_
                rotate_left
                · rintro w' ⟨s0, s1, s2, s3, s4, s5, s6, s7, s8, s9, s10, s11, s12, s13, s14, s15⟩
                  go_simp
                  with_reducible rfl
                rotate_left
                · simp only [Act.put, List.setIfInBounds_toArray, List.set_cons_zero, List.set_cons_succ, i64_w, i32_w]
                  rfl
                refine pure_ (i := 8) (N := some 28) (v := ?_) (a' := ?_) #[true, true, true, true, true, true, true, true, true, false, false, false] rfl rfl (any_of HT_.out (by kernel_rfl)) (fun _ _ _ h => h) (Or.inl ⟨by rfl, ?_⟩) ?_ ?_
                rotate_left
                · intro w'
                  go_simp
                  with_reducible rfl
                rotate_left
                · simp only [Act.put, List.setIfInBounds_toArray, List.set_cons_zero, List.set_cons_succ, i64_w, i32_w]
                  rfl
                refine take_ (i := 9) (N := some 29) (v := ?_) (a' := ?_) #[true, true, true, true, true, true, true, true, true, true, false, false] rfl rfl (take_ofW HT_.out HW_.out (by kernel_rfl)) (fun _ _ _ h => h) (Or.inl ⟨by rfl, ?_⟩) hHeld ?_ ?_
                rotate_left
                · rintro w' ⟨s0, s1, s2, s3, s4, s5, s6, s7, s8, s9, s10, s11, s12, s13, s14, s15⟩
                  go_simp
                  with_reducible rfl
                rotate_left
                · simp only [Act.put, List.setIfInBounds_toArray, List.set_cons_zero, List.set_cons_succ, i64_w, i32_w]
                  rfl
                refine one_ (i := 10) (N := some 30) #[true, true, true, true, true, true, true, true, true, true, true, false] rfl rfl (one_of HT_.out (by kernel_rfl)) (by decide) (fun K hK => ?_)
                refine goes_ Tryd.func13 (by kernel_rfl) rfl #[.agg #[.string ((rd_T38 l0_0 x5_1).f0), .int .i64 ((rd_T38 l0_0 x5_1).f1), .int .i64 ((rd_T38 l0_0 x5_1).f2), .int .i64 ((rd_T38 l0_0 x5_1).f3), .bool ((rd_T38 l0_0 x5_1).f4), .bool ((rd_T38 l0_0 x5_1).f5), .slice A206_6 ((rd_T38 l0_0 x5_1).f6).length c206_6], .agg #[.string ((rd_T38 l1_0 x5_1).f0), .int .i64 ((rd_T38 l1_0 x5_1).f1), .int .i64 ((rd_T38 l1_0 x5_1).f2), .int .i64 ((rd_T38 l1_0 x5_1).f3), .bool ((rd_T38 l1_0 x5_1).f4), .bool ((rd_T38 l1_0 x5_1).f5), .slice A207_6 ((rd_T38 l1_0 x5_1).f6).length c207_6]] (by rfl) rfl rfl (by (try simp only [List.map_toArray, List.map_cons, List.map_nil]); first | done | rfl | (simp only [List.length_drop, List.length_take]; rfl)) ?_
                with_reducible refine (pantryref09_Alike.calls k1 ((rd_T38 l0_0 x5_1).f0) ((rd_T38 l0_0 x5_1).f1) ((rd_T38 l0_0 x5_1).f2) ((rd_T38 l0_0 x5_1).f3) ((rd_T38 l0_0 x5_1).f4) ((rd_T38 l0_0 x5_1).f5) _ _ ((rd_T38 l0_0 x5_1).f6) ((rd_T38 l1_0 x5_1).f0) ((rd_T38 l1_0 x5_1).f1) ((rd_T38 l1_0 x5_1).f2) ((rd_T38 l1_0 x5_1).f3) ((rd_T38 l1_0 x5_1).f4) ((rd_T38 l1_0 x5_1).f5) _ _ ((rd_T38 l1_0 x5_1).f6) false _ ?side1 ?side2 ?side3 ?side4 A12.out).mono ?_
                (case side1 => repeat (first | exact (Kd.C_below HR206_6.out HB.out) | (with_reducible refine Kd.C_alloc ?_ _) | (with_reducible refine Kd.C_drewN ?_ _) | (with_reducible refine Kd.C_drew ?_)))
                (case side2 => exact HC206_6.out)
                (case side3 => repeat (first | exact (Kd.C_below HR207_6.out HB.out) | (with_reducible refine Kd.C_alloc ?_ _) | (with_reducible refine Kd.C_drewN ?_ _) | (with_reducible refine Kd.C_drew ?_)))
                (case side4 => exact HC207_6.out)
                rintro e w21 ⟨rfl, hb⟩
                refine ⟨_, rfl, ?_⟩
                have n0_ := Aside0.mk (blk_below (g := gb204) (o := .cells #[.slice (some ad206) l0_0.length c0_0] 34 (0, 0)) (by (with_reducible repeat (first | refine blk_drewN ?_ _ | refine blk_drew ?_ | refine blk_alloc ?_ _)); exact BK204.out) hb)
                have n1_ := Aside0.mk (blk_below (g := gb205) (o := .cells #[.slice (some ad207) l1_0.length c1_0] 34 (0, 0)) (by (with_reducible repeat (first | refine blk_drewN ?_ _ | refine blk_drew ?_ | refine blk_alloc ?_ _)); exact BK205.out) hb)
                have n2_ := Aside0.mk (below_step (by repeat (first | (with_reducible first | exact HB.out | apply below_alloc | apply pw_below_drewN | apply below_drew1 | refine below_set ?_ GE204.out | refine below_set ?_ GE205.out) | exact HB.out)) hb)
                clear BK204
                clear BK205
                clear HB
                have BK204 := n0_
                have BK205 := n1_
                have HB := n2_
                clear n0_ n1_ n2_
                (try clear hb)
                (try clear hb2)
                (try clear hk)
                (try clear hi)
                refine hK.out _ _ ⟨(blk_cell BK204.out 0).trans rfl, (blk_cell BK205.out 0).trans rfl, ((HB.out.cell (World.block_lt_of_cell? w _ hw206_0)).trans hw206_0), ((HB.out.cell (World.block_lt_of_cell? w _ hw206_1)).trans hw206_1), ((HB.out.cell (World.block_lt_of_cell? w _ hw206_2)).trans hw206_2), ((HB.out.cell (World.block_lt_of_cell? w _ hw206_3)).trans hw206_3), ((HB.out.cell (World.block_lt_of_cell? w _ hw206_4)).trans hw206_4), ((HB.out.cell (World.block_lt_of_cell? w _ hw206_5)).trans hw206_5), ((HB.out.cell (World.block_lt_of_cell? w _ hw206_6)).trans hw206_6), ((HB.out.cell (World.block_lt_of_cell? w _ hw207_0)).trans hw207_0), ((HB.out.cell (World.block_lt_of_cell? w _ hw207_1)).trans hw207_1), ((HB.out.cell (World.block_lt_of_cell? w _ hw207_2)).trans hw207_2), ((HB.out.cell (World.block_lt_of_cell? w _ hw207_3)).trans hw207_3), ((HB.out.cell (World.block_lt_of_cell? w _ hw207_4)).trans hw207_4), ((HB.out.cell (World.block_lt_of_cell? w _ hw207_5)).trans hw207_5), ((HB.out.cell (World.block_lt_of_cell? w _ hw207_6)).trans hw207_6)⟩ (fun hHeld => ?_)
                clear hK K
                refine norm_ (a' := ?_) ?_ ?_
                rotate_left
                · show Act.put _ (some 30) _ = _
                  simp only [Act.put, List.setIfInBounds_toArray, List.set_cons_zero, List.set_cons_succ, i64_w, i32_w]
                  rfl
                refine pure_ (i := 11) (N := some 31) (v := ?_) (a' := ?_) #[true, true, true, true, true, true, true, true, true, true, true, true] rfl rfl (any_of HT_.out (by kernel_rfl)) (fun _ _ _ h => h) (Or.inl ⟨by rfl, ?_⟩) ?_ ?_
                rotate_left
                · intro w'
                  go_simp
                  with_reducible rfl
                rotate_left
                · simp only [Act.put, List.setIfInBounds_toArray, List.set_cons_zero, List.set_cons_succ, i64_w, i32_w]
                  rfl
                refine done_ (done_of HT_.out (by kernel_rfl)) ?_
                try go_wp2
                go_ret
                exact ⟨by first | rfl | (simp [errW_none, errW_some] <;> rfl) | (simp [*, errW_none, errW_some] <;> rfl) | (simp only [ne_nil_bool]; rfl), by repeat (first | (with_reducible first | exact HB.out | apply below_alloc | apply pw_below_drewN | apply below_drew1 | refine below_set ?_ GE204.out | refine below_set ?_ GE205.out) | exact HB.out)⟩
            · rw [if_neg c11] at H
              exact absurd H (by simp)
          · rw [if_neg c10] at H
            exact absurd H (by simp)
        · rw [if_neg c9] at H
          have c9b0 : decide (x5_1 < (l0_0.length : Int)) = false := decide_eq_false c9
          clear c9
          obtain rfl := Option.some.inj H
          have hnb22 := NB204_205.out
          have hnc22 := NB205_204.out
          have hcz23_0 : wr.cell? ⟨gb204, 0, none⟩ = some (.slice A0_0 l0_0.length c0_0) := (blk_cell BK204.out 0).trans rfl
          have hfz23_0 := blk_frozen BK204.out 0
          go_wp2
          go_ret
          exact ⟨by first | rfl | (simp [errW_none, errW_some] <;> rfl) | (simp [*, errW_none, errW_some] <;> rfl) | (simp only [ne_nil_bool]; rfl), by repeat (first | (with_reducible first | exact HB.out | apply below_alloc | apply pw_below_drewN | apply below_drew1 | refine below_set ?_ GE204.out | refine below_set ?_ GE205.out) | exact HB.out)⟩
  · rw [if_neg c3] at H
    have c3b0 : ((l0_0.length : Int) == (l1_0.length : Int)) = false := beq_eq_false_iff_ne.mpr c3
    have c3b1 : ((l0_0.length : Int) != (l1_0.length : Int)) = true := bne_iff_ne.mpr c3
    have c3b2 : (l0_0.length == l1_0.length) = false := by first | simpa using c3 | (simp at c3 ⊢; omega)
    obtain rfl := Option.some.inj H
    go_enter Tryd.func17, Tryd.ntmps17
    go_wp2_with (first | ((with_reducible refine gate_dst (N := 2) rfl ?_); refine box_event ?hg (N := 2) ?hd (cs := #[.slice A0_0 l0_0.length c0_0]) (t := 34) ?hr ?_; (case hd => rfl); (case hg => rfl); (case hr => first | (go_simp; done) | (go_simp; rfl)); intro gb204 hg w24 hbox hb; have n0_ := Aside0.mk (below_step (by repeat (first | (with_reducible first | exact HB.out | apply below_alloc | apply pw_below_drewN | apply below_drew1) | exact HB.out)) hb); have n1_ := Aside0.mk (hbox); have n2_ := Aside0.mk ((by rw [hg]; exact (below_size (by repeat (first | (with_reducible first | exact HB.out | apply below_alloc | apply pw_below_drewN | apply below_drew1) | exact HB.out))) : w.heap.size ≤ gb204)); have n3_ := Aside0.mk ((by rw [hg]; exact (below_size (by repeat (first | (with_reducible first | exact HB.out | apply below_alloc | apply pw_below_drewN | apply below_drew1) | exact HB.out))) : w.heap.size ≤ gb204)); clear HB; have HB := n0_; have BK204 := n1_; have GW204 := n2_; have GE204 := n3_; clear n0_ n1_ n2_ n3_; clear hb hbox hg) | ((with_reducible refine gate_dst (N := 3) rfl ?_); refine box_event ?hg (N := 3) ?hd (cs := #[.slice A1_0 l1_0.length c1_0]) (t := 34) ?hr ?_; (case hd => rfl); (case hg => rfl); (case hr => first | (go_simp; done) | (go_simp; rfl)); intro gb205 hg w25 hbox hb; have n0_ := Aside0.mk (blk_below (g := gb204) (o := .cells #[.slice A0_0 l0_0.length c0_0] 34 (0, 0)) (by (with_reducible repeat (first | refine blk_drewN ?_ _ | refine blk_drew ?_ | refine blk_alloc ?_ _)); exact BK204.out) hb); have n1_ := Aside0.mk (below_step (by repeat (first | (with_reducible first | exact HB.out | apply below_alloc | apply pw_below_drewN | apply below_drew1 | refine below_set ?_ GE204.out) | exact HB.out)) hb); have n2_ := Aside0.mk (hbox); have n3_ := Aside0.mk ((by rw [hg]; exact (below_size (by repeat (first | (with_reducible first | exact HB.out | apply below_alloc | apply pw_below_drewN | apply below_drew1 | refine below_set ?_ GE204.out) | exact HB.out))) : w.heap.size ≤ gb205)); have n4_ := Aside0.mk ((by rw [hg]; exact (below_size (by repeat (first | (with_reducible first | exact HB.out | apply below_alloc | apply pw_below_drewN | apply below_drew1 | refine below_set ?_ GE204.out) | exact HB.out))) : w.heap.size ≤ gb205)); have n5_ := Aside0.mk ((by rw [hg]; exact Nat.ne_of_lt (blk_lt (g := gb204) (o := .cells #[.slice A0_0 l0_0.length c0_0] 34 (0, 0)) (by (with_reducible repeat (first | refine blk_drewN ?_ _ | refine blk_drew ?_ | refine blk_alloc ?_ _)); exact BK204.out)) : gb204 ≠ gb205)); have n6_ := Aside0.mk ((by rw [hg]; exact Nat.ne_of_gt (blk_lt (g := gb204) (o := .cells #[.slice A0_0 l0_0.length c0_0] 34 (0, 0)) (by (with_reducible repeat (first | refine blk_drewN ?_ _ | refine blk_drew ?_ | refine blk_alloc ?_ _)); exact BK204.out)) : gb205 ≠ gb204)); clear BK204; clear HB; have BK204 := n0_; have HB := n1_; have BK205 := n2_; have GW205 := n3_; have GE205 := n4_; have NB204_205 := n5_; have NB205_204 := n6_; clear n0_ n1_ n2_ n3_ n4_ n5_ n6_; clear hb hbox hg; have hnb26 := NB204_205.out; have hnc26 := NB205_204.out; have hcz27_0 : w25.cell? ⟨gb204, 0, none⟩ = some (.slice A0_0 l0_0.length c0_0) := (blk_cell BK204.out 0).trans rfl; have hfz27_0 := blk_frozen BK204.out 0; have hcz28_0 : w25.cell? ⟨gb205, 0, none⟩ = some (.slice A1_0 l1_0.length c1_0) := (blk_cell BK205.out 0).trans rfl; have hfz28_0 := blk_frozen BK205.out 0))
    go_ret
    exact ⟨by first | rfl | (simp [errW_none, errW_some] <;> rfl) | (simp [*, errW_none, errW_some] <;> rfl) | (simp only [ne_nil_bool]; rfl), by repeat (first | (with_reducible first | exact HB.out | apply below_alloc | apply pw_below_drewN | apply below_drew1 | refine below_set ?_ GE204.out | refine below_set ?_ GE205.out) | exact HB.out)⟩
end Go.Proofs.YtcoaajkhfgakgaaDoor.Pr
end

section
namespace Go.Proofs.YtcoaajkhfgakgaaDoor.Pr
open Go.RowKit Go.Proofs.YtcoaajkhfgakgaaDoorW.PrintWords Go.Proofs.YtcoaajkhfgakgaaDoorW.PrintLast Go.Proofs.YtcoaajkhfgakgaaDoorW.PrintMore
set_option linter.unusedVariables false
set_option linter.unusedSimpArgs false
theorem keyF_four : ∀ (f : Nat) (st : St) (q : Bool) (hs : List ByteArray) (r : St × Bool × List ByteArray), keyF f st q hs = some r → hs.length ≤ 4 → r.2.2.length ≤ 4
  | 0, _, _, _, _, h, _ => by cases h
  | f + 1, st, q, hs, r, h, h4 => by
    unfold keyF at h
    split at h
    · split at h
      · injection h with h; subst h; exact h4
      · split at h
        · exact keyF_four f _ _ _ r h h4
        · split at h
          · split at h
            · split at h
              · exact keyF_four f _ _ _ r h h4
              · exact keyF_four f _ _ _ r h (by simp; omega)
            · exact keyF_four f _ _ _ r h h4
          · exact keyF_four f _ _ _ r h h4
    · injection h with h; subst h; exact h4
theorem rulesF_four : ∀ (f : Nat) (st : St) (s : Sv) (seen : List ByteArray) (r : St × Sv), rulesF f st s seen = some r → s.hs.length ≤ 4 → r.2.hs.length ≤ 4
  | 0, _, _, _, _, h, _ => by cases h
  | f + 1, st, s, seen, r, h, h4 => by
    unfold rulesF at h
    split at h
    · split at h
      · injection h with h; subst h; exact h4
      · cases hk : ruleF f st s seen with
        | none => rw [hk] at h; cases h
        | some z =>
          rw [hk, Option.bind_some] at h
          refine rulesF_four f _ _ _ _ h ?_
          unfold ruleF bodyF at hk
          split at hk
          · injection hk with hk; subst hk; exact h4
          · split at hk
            · injection hk with hk; subst hk; exact h4
            · split at hk
              · cases h3 : keyF f (mustS (nameS st seen) ⟨#[112, 97, 116, 104]⟩) false [] with
                | none => rw [h3] at hk; cases hk
                | some y => rw [h3] at hk; injection hk with hk; subst hk; exact keyF_four _ _ _ _ _ h3 (by simp)
              · split at hk
                · injection hk with hk; subst hk; exact h4
                · injection hk with hk; subst hk; exact h4
    · injection h with h; subst h; exact h4
theorem siteF_four {f : Nat} {st : St} {sites : List S29} {r : St × List S29} (h : siteF f st sites = some r) (h4 : ∀ x ∈ sites, x.f6.length ≤ 4) : ∀ x ∈ r.2, x.f6.length ≤ 4 := by
  unfold siteF at h
  cases hk : rulesF f (mustS (takeS (hostS (headS st sites) sites)) ⟨#[123]⟩) ⟨nextS (headS st sites), 1, 0, 3600, true, true, []⟩ [] with
  | none => rw [hk] at h; cases h
  | some z =>
    rw [hk] at h
    injection h with h; subst h
    intro x hx
    rcases List.mem_append.1 hx with hx | hx
    · exact h4 x hx
    · rw [List.mem_singleton.1 hx]
      exact rulesF_four _ _ _ _ _ hk (by simp)
theorem sitesF_four : ∀ (f : Nat) (st : St) (sites : List S29) (r : St × List S29), sitesF f st sites = some r → (∀ x ∈ sites, x.f6.length ≤ 4) → ∀ x ∈ r.2, x.f6.length ≤ 4
  | 0, _, _, _, h, _ => by cases h
  | f + 1, st, sites, r, h, h4 => by
    unfold sitesF at h
    split at h
    · cases hk : siteF f st sites with
      | none => rw [hk] at h; cases h
      | some z =>
        rw [hk, Option.bind_some] at h
        exact sitesF_four f _ _ _ h (siteF_four hk h4)
    · injection h with h; subst h; exact h4
theorem sitesF_eight : ∀ (f : Nat) (st : St) (sites : List S29) (r : St × List S29), sitesF f st sites = some r → r.1.code = 0 → sites.length ≤ 8 → r.2.length ≤ 8
  | 0, _, _, _, h, _, _ => by cases h
  | f + 1, st, sites, r, h, hr, h8 => by
    unfold sitesF at h
    split at h
    · cases hk : siteF f st sites with
      | none => rw [hk] at h; cases h
      | some z =>
        rw [hk, Option.bind_some] at h
        obtain ⟨y, _, _, hz, _, _, hne, _⟩ := site_ok hk (sites_ok h hr)
        refine sitesF_eight f _ _ _ h hr ?_
        rw [hz]
        simp
        omega
    · injection h with h; subst h; exact h8
theorem read_len {s : ByteArray} {c : List S29} {code line : Int} (h : conf_Read.f s = some (c, code, line)) : c.length ≤ 8 ∧ ∀ x ∈ c, x.f6.length ≤ 4 := by
  have h0 : ([] : List S29).length ≤ 8 ∧ ∀ x ∈ ([] : List S29), x.f6.length ≤ 4 := ⟨by simp, by simp⟩
  unfold conf_Read.f at h
  split at h
  · injection h with h
    simp only [Prod.mk.injEq] at h
    rw [← h.1]; exact h0
  · cases hk : sitesF (8 * s.size + 64) ⟨wordsS s, 0, 0⟩ [] with
    | none => rw [hk] at h; cases h
    | some r =>
      rw [hk, Option.map_some] at h
      injection h with h
      split at h
      · rename_i hc
        simp only [Prod.mk.injEq] at h
        rw [← h.1]
        exact ⟨sitesF_eight _ _ _ _ hk hc.1 (by simp), sitesF_four _ _ _ _ hk (by simp)⟩
      · simp only [Prod.mk.injEq] at h
        rw [← h.1]; exact h0
theorem same_l0 (l : List S29) (hl : l.length ≤ 8796093022208) (hh : ∀ x ∈ l, x.f6.length ≤ 8796093022208) (B : Nat) (hB : ∀ x ∈ l, x.f6.length ≤ B) : ∀ (d i k : Nat), l.length - i = d → i ≤ l.length → d + B + 2 < k →
    pantryref09_Same.l0 k (i : Int) (l.map refSite) (l.map refSite) = some true
  | _, _, 0, _, _, hk => by omega
  | 0, i, k + 1, hd, hi, hk => by
    unfold pantryref09_Same.l0
    rw [if_neg (by simp; omega)]
  | d + 1, i, k + 1, hd, hi, hk => by
    have hlt : i < l.length := by omega
    unfold pantryref09_Same.l0
    have hr : rd_T38 (l.map refSite) (i : Int) = refSite l[i] := by
      unfold rd_T38
      rw [show ((i : Int)).toNat = i from by simp, List.getD_eq_getElem?_getD, List.getElem?_map, List.getElem?_eq_getElem hlt]
      rfl
    rw [if_pos (by simp; omega), if_pos (by omega), if_pos (by simp; omega), hr]
    have h1 := hh l[i] (List.getElem_mem hlt)
    have h2 := hB l[i] (List.getElem_mem hlt)
    have hw : wrap64 ((i : Int) + 1) = ((i + 1 : Nat) : Int) := by unfold wrap64; omega
    rw [alike_refl _ _ _ _ _ _ _ (show (refSite l[i]).f6.length ≤ 8796093022208 from h1) _ (show (refSite l[i]).f6.length + 1 < k from by show l[i].f6.length + 1 < k; omega), Option.bind_some, if_pos rfl, hw]
    exact same_l0 l hl hh B hB d (i + 1) k (by omega) (by omega) (by omega)
theorem same_refl (l : List S29) (hl : l.length ≤ 8) (hh : ∀ x ∈ l, x.f6.length ≤ 4) (k : Nat) (hk : 20 < k) : pantryref09_Same.f k (l.map refSite) (l.map refSite) = some true := by
  unfold pantryref09_Same.f
  rw [if_pos rfl]
  exact same_l0 l (by omega) (fun x hx => by have := hh x hx; omega) 4 hh l.length 0 k rfl (Nat.zero_le _) (by omega)
end Go.Proofs.YtcoaajkhfgakgaaDoor.Pr
end

section
namespace Go.Proofs.YtcoaajkhfgakgaaDoor.Pr
open Go.RowKit Go.Proofs.YtcoaajkhfgakgaaDoorW.PrintWords Go.Proofs.YtcoaajkhfgakgaaDoorW.PrintLast Go.Proofs.YtcoaajkhfgakgaaDoorW.PrintMore
set_option linter.unusedVariables false
set_option linter.unusedSimpArgs false
def Fa (R : Int → Int → Prop) : List Wd → List Wd → Prop
  | [], [] => True
  | x :: l, y :: m => x.s = y.s ∧ R x.line y.line ∧ Fa R l m
  | _, _ => False
theorem Fa.len {R : Int → Int → Prop} : ∀ {l m : List Wd}, Fa R l m → l.length = m.length
  | [], [], _ => rfl
  | _ :: _, _ :: _, h => by rw [List.length_cons, List.length_cons, Fa.len h.2.2]
  | [], _ :: _, h => h.elim
  | _ :: _, [], h => h.elim
theorem Fa.tail {R : Int → Int → Prop} {l m : List Wd} (h : Fa R l m) (h1 : 1 < l.length) : Fa R l.tail m.tail := by
  match l, m, h with
  | _ :: _, _ :: _, h => exact h.2.2
theorem Fa.hd {R : Int → Int → Prop} {l m : List Wd} (h : Fa R l m) (h0 : 0 < l.length) : (hdW l).s = (hdW m).s ∧ R (hdW l).line (hdW m).line := by
  match l, m, h with
  | _ :: _, _ :: _, h => exact ⟨h.1, h.2.1⟩
structure Alk (R : Int → Int → Prop) (a b : St) : Prop where
  code : a.code = b.code
  words : a.code = 0 → Fa R a.l b.l
  pos : 0 < a.l.length
  line : a.code ≠ 0 → R a.line b.line
  zero : a.code = 0 → a.line = 0 ∧ b.line = 0
section
variable {R : Int → Int → Prop} {a b : St}
theorem Alk.next (h : Alk R a b) : nextS a = nextS b := by
  unfold nextS
  by_cases hc : a.code = 0
  · rw [if_pos hc, if_pos (h.code ▸ hc)]
    exact ((h.words hc).hd h.pos).1
  · rw [if_neg hc, if_neg (h.code ▸ hc)]
theorem Alk.fail (h : Alk R a b) {e : Int} (he : e ≠ 0) : Alk R (failS a e) (failS b e) := by
  by_cases hc : a.code = 0
  · have hc' : b.code = 0 := h.code ▸ hc
    unfold failS
    rw [if_pos hc, if_pos hc']
    exact ⟨rfl, fun h' => absurd h' he, h.pos, fun _ => ((h.words hc).hd h.pos).2, fun h' => absurd h' he⟩
  · have hc' : ¬ b.code = 0 := h.code ▸ hc
    unfold failS
    rw [if_neg hc, if_neg hc']
    exact h
theorem Alk.take (h : Alk R a b) : Alk R (takeS a) (takeS b) := by
  by_cases hc : a.code = 0
  · have hc' : b.code = 0 := h.code ▸ hc
    have hl := (h.words hc).len
    unfold takeS
    by_cases h1 : 1 < a.l.length
    · rw [if_pos ⟨hc, h1⟩, if_pos ⟨hc', hl ▸ h1⟩]
      exact ⟨h.code, fun _ => (h.words hc).tail h1, by simp; omega, h.line, h.zero⟩
    · rw [if_neg (fun z => h1 z.2), if_neg (fun z => h1 (hl ▸ z.2))]
      exact h
  · have hc' : ¬ b.code = 0 := h.code ▸ hc
    unfold takeS
    rw [if_neg (fun z => hc z.1), if_neg (fun z => hc' z.1)]
    exact h
theorem Alk.ite {p : Prop} [Decidable p] {a' b' : St} (h : Alk R a b) (h' : Alk R a' b') : Alk R (if p then a else a') (if p then b else b') := by split <;> assumption
theorem Alk.must (h : Alk R a b) (s : ByteArray) : Alk R (mustS a s) (mustS b s) := by
  unfold mustS
  rw [← h.next]
  exact (h.ite (h.fail (by decide))).take
theorem Alk.number (h : Alk R a b) (lo hi : Int) : Alk R (numberS a lo hi) (numberS b lo hi) := by
  unfold numberS
  rw [← h.next]
  split
  · exact h.take
  · rename_i hne
    exact (h.fail hne).take
theorem Alk.name (h : Alk R a b) (seen : List ByteArray) : Alk R (nameS a seen) (nameS b seen) := by
  unfold nameS
  rw [← h.next]
  have h1 : Alk R (if nextS a = sOrigin ∨ nextS a = sTtl ∨ nextS a = sKey ∨ nextS a = sKeep then a else failS a 30) (if nextS a = sOrigin ∨ nextS a = sTtl ∨ nextS a = sKey ∨ nextS a = sKeep then b else failS b 30) := h.ite (h.fail (by decide))
  exact ((h1.fail (by decide)).ite h1).take
theorem Alk.keep (h : Alk R a b) : Alk R (keepS a) (keepS b) := by
  unfold keepS
  rw [← h.next]
  exact (h.ite (h.fail (by decide))).take
end
theorem keyF_alk {R : Int → Int → Prop} : ∀ (f : Nat) (a b : St) (q : Bool) (hs : List ByteArray) (r : St × Bool × List ByteArray), Alk R a b → keyF f a q hs = some r → ∃ b', keyF f b q hs = some (b', r.2) ∧ Alk R r.1 b'
  | 0, _, _, _, _, _, _, h => by cases h
  | f + 1, a, b, q, hs, r, ha, h => by
    unfold keyF at h ⊢
    have hn := ha.next
    have hm := ha.must ⟨#[104, 101, 97, 100, 101, 114]⟩
    rw [← hn, ← ha.code]
    generalize mustS a ⟨#[104, 101, 97, 100, 101, 114]⟩ = a1 at hm h
    generalize mustS b ⟨#[104, 101, 97, 100, 101, 114]⟩ = b1 at hm ⊢
    rw [← hm.next, ← hm.code]
    split at h
    · rename_i hc
      rw [if_pos hc]
      split at h
      · rename_i h1; rw [if_pos h1]; injection h with h; subst h; exact ⟨_, rfl, ha⟩
      · rename_i h1
        rw [if_neg h1]
        split at h
        · rename_i h2; rw [if_pos h2]; exact keyF_alk f _ _ _ _ r ha.take h
        · rename_i h2
          rw [if_neg h2]
          split at h
          · rename_i h3
            rw [if_pos h3]
            split at h
            · rename_i h4
              rw [if_pos h4]
              split at h
              · rename_i h5; rw [if_pos h5]; exact keyF_alk f _ _ _ _ r (hm.fail (by decide)).take h
              · rename_i h5; rw [if_neg h5]; exact keyF_alk f _ _ _ _ r hm.take h
            · rename_i h4; rw [if_neg h4]; exact keyF_alk f _ _ _ _ r (hm.fail (by decide)).take h
          · rename_i h3; rw [if_neg h3]; exact keyF_alk f _ _ _ _ r hm.take h
    · rename_i hc; rw [if_neg hc]; injection h with h; subst h; exact ⟨_, rfl, ha⟩
theorem bodyF_alk {R : Int → Int → Prop} {f : Nat} {name : ByteArray} {a b : St} {s : Sv} {r : St × Sv} (ha : Alk R a b) (h : bodyF f name a s = some r) : ∃ b', bodyF f name b s = some (b', r.2) ∧ Alk R r.1 b' := by
  unfold bodyF at h ⊢
  split at h
  · rename_i h1
    injection h with h; subst h
    rw [if_pos h1, ← ha.next]; exact ⟨_, rfl, ha.number _ _⟩
  · rename_i h1
    rw [if_neg h1]
    split at h
    · rename_i h2
      injection h with h; subst h
      rw [if_pos h2, ← ha.next, ← (ha.number 0 2147483648).next]; exact ⟨_, rfl, (ha.number _ _).number _ _⟩
    · rename_i h2
      rw [if_neg h2]
      split at h
      · rename_i h3
        rw [if_pos h3]
        cases hk : keyF f (mustS a ⟨#[112, 97, 116, 104]⟩) false [] with
        | none => rw [hk] at h; cases h
        | some z =>
          rw [hk] at h
          injection h with h; subst h
          obtain ⟨b', h4, h5⟩ := keyF_alk _ _ _ _ _ _ (ha.must _) hk
          rw [h4]
          exact ⟨_, rfl, h5⟩
      · rename_i h3
        rw [if_neg h3]
        split at h
        · rename_i h4
          injection h with h; subst h
          rw [if_pos h4, ← ha.next]; exact ⟨_, rfl, ha.keep⟩
        · rename_i h4
          injection h with h; subst h
          rw [if_neg h4]; exact ⟨_, rfl, ha⟩
theorem ruleF_alk {R : Int → Int → Prop} {f : Nat} {a b : St} {s : Sv} {seen : List ByteArray} {r : St × Sv × List ByteArray} (ha : Alk R a b) (h : ruleF f a s seen = some r) : ∃ b', ruleF f b s seen = some (b', r.2) ∧ Alk R r.1 b' := by
  unfold ruleF at h ⊢
  cases hk : bodyF f (nextS a) (nameS a seen) s with
  | none => rw [hk] at h; cases h
  | some z =>
    rw [hk] at h
    injection h with h; subst h
    obtain ⟨b', h4, h5⟩ := bodyF_alk (ha.name seen) hk
    rw [← ha.next, h4]
    exact ⟨_, rfl, h5.must _⟩
theorem rulesF_alk {R : Int → Int → Prop} : ∀ (f : Nat) (a b : St) (s : Sv) (seen : List ByteArray) (r : St × Sv), Alk R a b → rulesF f a s seen = some r → ∃ b', rulesF f b s seen = some (b', r.2) ∧ Alk R r.1 b'
  | 0, _, _, _, _, _, _, h => by cases h
  | f + 1, a, b, s, seen, r, ha, h => by
    unfold rulesF at h ⊢
    rw [← ha.code, ← ha.next]
    split at h
    · rename_i hc
      rw [if_pos hc]
      split at h
      · rename_i h1; rw [if_pos h1]; injection h with h; subst h; exact ⟨_, rfl, ha⟩
      · rename_i h1
        rw [if_neg h1]
        cases hk : ruleF f a s seen with
        | none => rw [hk] at h; cases h
        | some z =>
          rw [hk, Option.bind_some] at h
          obtain ⟨b', h4, h5⟩ := ruleF_alk ha hk
          rw [h4, Option.bind_some]
          exact rulesF_alk f _ _ _ _ _ h5 h
    · rename_i hc; rw [if_neg hc]; injection h with h; subst h; exact ⟨_, rfl, ha⟩
theorem Alk.head {R : Int → Int → Prop} {a b : St} {sa sb : List S29} (h : Alk R a b) (h8 : nextS a = ⟨#[115, 105, 116, 101]⟩ → (sa.length = 8 ↔ sb.length = 8)) : Alk R (headS a sa) (headS b sb) := by
  unfold headS
  rw [← h.next]
  by_cases h1 : nextS a = ⟨#[115, 105, 116, 101]⟩ ∧ sa.length = 8
  · rw [if_pos h1, if_pos ⟨h1.1, (h8 h1.1).1 h1.2⟩]
    exact (h.fail (by decide)).must _
  · rw [if_neg h1, if_neg (fun z => h1 ⟨z.1, (h8 z.1).2 z.2⟩)]
    exact h.must _
theorem Alk.host {R : Int → Int → Prop} {a b : St} {sa sb : List S29} (h : Alk R a b) (hf : (findS (nextS a) sa).2 = (findS (nextS a) sb).2) : Alk R (hostS a sa) (hostS b sb) := by
  unfold hostS
  rw [← h.next, ← h.code, ← hf]
  have h1 : Alk R (if a.code = 0 ∧ ¬ ((hostV (nextS a)).2 = 0 ∧ (hostV (nextS a)).1 = nextS a) then failS a 30 else a) (if a.code = 0 ∧ ¬ ((hostV (nextS a)).2 = 0 ∧ (hostV (nextS a)).1 = nextS a) then failS b 30 else b) := (h.fail (by decide)).ite h
  exact (h1.fail (by decide)).ite h1
theorem siteF_alk {R : Int → Int → Prop} {f : Nat} {a b : St} {sa sb : List S29} {r : St × List S29} (ha : Alk R a b) (h8 : nextS a = ⟨#[115, 105, 116, 101]⟩ → (sa.length = 8 ↔ sb.length = 8))
    (hf : (findS (nextS (headS a sa)) sa).2 = (findS (nextS (headS a sa)) sb).2) (h : siteF f a sa = some r) : ∃ b' s, r = (r.1, sa ++ [s]) ∧ siteF f b sb = some (b', sb ++ [s]) ∧ Alk R r.1 b' := by
  unfold siteF at h ⊢
  have h1 := ha.head h8
  have h2 := ((h1.host hf).take).must ⟨#[123]⟩
  cases hk : rulesF f (mustS (takeS (hostS (headS a sa) sa)) ⟨#[123]⟩) ⟨nextS (headS a sa), 1, 0, 3600, true, true, []⟩ [] with
  | none => rw [hk] at h; cases h
  | some z =>
    rw [hk] at h
    injection h with h; subst h
    obtain ⟨b', h4, h5⟩ := rulesF_alk _ _ _ _ _ _ h2 hk
    rw [← h1.next, h4]
    exact ⟨_, _, rfl, rfl, h5.must _⟩
theorem sitesF_alk {R : Int → Int → Prop} : ∀ (f : Nat) (a b : St) (sites : List S29) (r : St × List S29), Alk R a b → sitesF f a sites = some r → ∃ b', sitesF f b sites = some (b', r.2) ∧ Alk R r.1 b'
  | 0, _, _, _, _, _, h => by cases h
  | f + 1, a, b, sites, r, ha, h => by
    unfold sitesF at h ⊢
    by_cases hc : a.code = 0 ∧ 1 < a.l.length
    · have hl := (ha.words hc.1).len
      rw [if_pos hc] at h
      rw [if_pos ⟨ha.code ▸ hc.1, hl ▸ hc.2⟩]
      cases hk : siteF f a sites with
      | none => rw [hk] at h; cases h
      | some z =>
        rw [hk, Option.bind_some] at h
        obtain ⟨b', s, h3, h4, h5⟩ := siteF_alk ha (fun _ => Iff.rfl) rfl hk
        rw [h4, Option.bind_some]
        rw [h3] at h
        exact sitesF_alk f _ _ _ _ h5 h
    · rw [if_neg hc] at h
      injection h with h; subst h
      by_cases hc0 : a.code = 0
      · have hl := (ha.words hc0).len
        rw [if_neg (fun z => hc ⟨hc0, hl ▸ z.2⟩)]
        exact ⟨_, rfl, ha⟩
      · rw [if_neg (fun z => hc0 (ha.code ▸ z.1))]
        exact ⟨_, rfl, ha⟩
theorem alk_start {R : Int → Int → Prop} {l m : List Wd} (h : Fa R l m) (h0 : 0 < l.length) : Alk R ⟨l, 0, 0⟩ ⟨m, 0, 0⟩ := ⟨rfl, fun _ => h, h0, fun h => absurd rfl h, fun _ => ⟨rfl, rfl⟩⟩
theorem read_alk {R : Int → Int → Prop} (s t : ByteArray) (hs : s.size ≤ 4096) (ht : t.size ≤ 4096) (h : Fa R (wordsS s) (wordsS t)) :
    ∃ sites code la lb, conf_Read.f s = some (sites, code, la) ∧ conf_Read.f t = some (sites, code, lb) ∧ (code = 0 → la = 0 ∧ lb = 0) ∧ (code ≠ 0 → sites = [] ∧ R la lb) := by
  obtain ⟨r, hr⟩ := sites_of s
  obtain ⟨r', hr'⟩ := sites_of t
  obtain ⟨b', h1, h2⟩ := sitesF_alk (8 * s.size + 8 * t.size + 64) _ _ [] r (alk_start h (words_pos s)) (hr _ (by omega))
  rw [hr' _ (by omega)] at h1
  injection h1 with h1
  subst h1
  unfold conf_Read.f
  rw [if_neg (by omega), if_neg (by omega), hr _ (by omega), hr' _ (by omega)]
  simp only [Option.map_some]
  by_cases hc : r.1.code = 0
  · obtain ⟨z1, z2⟩ := h2.zero hc
    exact ⟨r.2, 0, 0, 0, by rw [if_pos ⟨hc, z1⟩], by rw [if_pos ⟨h2.code ▸ hc, z2⟩], fun _ => ⟨rfl, rfl⟩, fun h => absurd rfl h⟩
  · exact ⟨[], r.1.code, r.1.line, b'.line, by rw [if_neg (fun z => hc z.1)], by rw [if_neg (fun z => hc (h2.code ▸ z.1)), ← h2.code], fun h => absurd h hc, fun _ => ⟨rfl, h2.line hc⟩⟩
end Go.Proofs.YtcoaajkhfgakgaaDoor.Pr
end

section
namespace Go.Proofs.YtcoaajkhfgakgaaDoor.Pr
open Go.RowKit Go.Proofs.YtcoaajkhfgakgaaDoorW.PrintWords Go.Proofs.YtcoaajkhfgakgaaDoorW.PrintLast Go.Proofs.YtcoaajkhfgakgaaDoorW.PrintMore
set_option linter.unusedVariables false
set_option linter.unusedSimpArgs false
theorem bt_right (p s : ByteArray) (k : Nat) : bt (p ++ s) ((p.size + k : Nat) : Int) = bt s (k : Nat) := by
  unfold bt
  simp only [Int.toNat_natCast]
  by_cases h : k < s.size
  · rw [dif_pos (by rw [ByteArray.size_append]; omega), dif_pos h]
    congr 2
    rw [ByteArray.getElem_append_right (by omega)]
    congr 1
    omega
  · rw [dif_neg (by rw [ByteArray.size_append]; omega), dif_neg h]
theorem bt_left (p s : ByteArray) (k : Nat) (h : k < p.size) : bt (p ++ s) (k : Nat) = bt p (k : Nat) := by
  unfold bt
  simp only [Int.toNat_natCast]
  rw [dif_pos (by rw [ByteArray.size_append]; omega), dif_pos h]
  congr 2
  exact ByteArray.getElem_append_left h
theorem extract_right (p s : ByteArray) (a b : Nat) : (p ++ s).extract (p.size + a) (p.size + b) = s.extract a b := by
  apply ByteArray.ext
  simp [ByteArray.data_extract, ByteArray.data_append, Array.extract_append, ← ByteArray.size_data]
def shiftW (d : Int) (x : Wd) : Wd := ⟨x.s, x.line + d⟩
def shF (p : Nat) (frm : Int) : Int := if frm < 0 then frm else p + frm
theorem skipC_fuel (s : ByteArray) : ∀ (n m k : Nat), s.size ≤ k + n → s.size ≤ k + m → skipC s n k = skipC s m k
  | 0, 0, k, _, _ => rfl
  | 0, m + 1, k, h, _ => by unfold skipC; rw [if_neg (fun z => by omega)]
  | n + 1, 0, k, _, h => by unfold skipC; rw [if_neg (fun z => by omega)]
  | n + 1, m + 1, k, h1, h2 => by
    unfold skipC
    split
    · exact skipC_fuel s n m (k + 1) (by omega) (by omega)
    · rfl
theorem skipC_right (p s : ByteArray) : ∀ (n k : Nat), skipC (p ++ s) n (p.size + k) = p.size + skipC s n k
  | 0, k => rfl
  | n + 1, k => by
    unfold skipC
    rw [show p.size + k + 1 = p.size + (k + 1) from by omega, bt_right p s (k + 1), ByteArray.size_append]
    by_cases h : k + 1 < s.size ∧ bt s ((k + 1 : Nat) : Int) ≠ 10
    · rw [if_pos h, if_pos ⟨by omega, h.2⟩]
      exact skipC_right p s n (k + 1)
    · rw [if_neg h, if_neg (fun z => h ⟨by omega, z.2⟩)]
theorem endW_right (p s : ByteArray) (k : Nat) (line frm d : Int) (pre ws : List Wd) : endW (p ++ s) (p.size + k) (line + d) (shF p.size frm) (pre ++ ws.map (shiftW d)) = pre ++ (endW s k line frm ws).map (shiftW d) := by
  by_cases h : 0 ≤ frm
  · obtain ⟨f, rfl⟩ := Int.eq_ofNat_of_zero_le h
    have e : shF p.size (f : Int) = ((p.size + f : Nat) : Int) := by unfold shF; rw [if_neg (by omega)]; omega
    unfold endW
    rw [e, if_pos (by omega), if_pos h, Int.toNat_natCast, extract_right, Int.toNat_natCast]
    simp [shiftW]
  · have e : shF p.size frm = frm := by unfold shF; rw [if_pos (by omega)]
    unfold endW
    rw [e, if_neg h, if_neg h]
theorem stepW_right (p s : ByteArray) (k : Nat) (line frm d : Int) (pre ws : List Wd) (hk : k < s.size) :
    stepW (p ++ s) (p.size + k) (line + d) (shF p.size frm) (pre ++ ws.map (shiftW d)) =
      (p.size + (stepW s k line frm ws).1, (stepW s k line frm ws).2.1 + d, shF p.size (stepW s k line frm ws).2.2.1, pre ++ (stepW s k line frm ws).2.2.2.map (shiftW d)) := by
  unfold stepW
  rw [bt_right, show p.size + k + 1 = p.size + (k + 1) from by omega, bt_right p s (k + 1), endW_right, ByteArray.size_append, extract_right]
  have hsk : skipC (p ++ s) (p.size + s.size) (p.size + k) = p.size + skipC s s.size k := by
    rw [skipC_fuel (p ++ s) (p.size + s.size) s.size _ (by rw [ByteArray.size_append]; omega) (by rw [ByteArray.size_append]; omega)]
    exact skipC_right p s s.size k
  by_cases h1 : bt s k = 47 ∧ k + 1 < s.size ∧ bt s ((k + 1 : Nat) : Int) = 47
  · rw [if_pos h1, if_pos ⟨h1.1, by omega, h1.2.2⟩, hsk]
    simp only [shF]
    simp; omega
  · rw [if_neg h1, if_neg (fun z => h1 ⟨z.1, by omega, z.2.2⟩)]
    by_cases h2 : bt s k = 32 ∨ bt s k = 9 ∨ bt s k = 10
    · rw [if_pos h2, if_pos h2]
      simp only [shF]
      by_cases h3 : bt s k = 10
      · simp [h3]; omega
      · simp [h3]
    · rw [if_neg h2, if_neg h2]
      by_cases h3 : bt s k = 123 ∨ bt s k = 125 ∨ bt s k = 59
      · rw [if_pos h3, if_pos h3]
        simp [shF, shiftW]
      · rw [if_neg h3, if_neg h3]
        by_cases h4 : frm < 0
        · have e1 : shF p.size frm = frm := by unfold shF; rw [if_pos h4]
          have e2 : shF p.size (k : Int) = ((p.size + k : Nat) : Int) := by unfold shF; rw [if_neg (by omega)]; omega
          rw [e1]
          simp only [if_pos h4, e2]
        · have e1 : shF p.size frm = p.size + frm := by unfold shF; rw [if_neg h4]
          have e3 : ¬ ((p.size : Int) + frm < 0) := by omega
          rw [e1]
          simp only [if_neg h4, if_neg e3, e1]
theorem tkF_right (p s : ByteArray) (d : Int) (pre : List Wd) : ∀ (n k : Nat) (line frm : Int) (ws : List Wd), s.size - k < n → tkF (p ++ s) n (p.size + k) (line + d) (shF p.size frm) (pre ++ ws.map (shiftW d)) = pre ++ (tkF s n k line frm ws).map (shiftW d)
  | 0, k, line, frm, ws, h => by omega
  | n + 1, k, line, frm, ws, h => by
    unfold tkF
    by_cases hk : k < s.size
    · have h2 := (stepW_count s k line frm ws).2
      rw [if_pos hk, if_pos (by rw [ByteArray.size_append]; omega), stepW_right p s k line frm d pre ws hk]
      exact tkF_right p s d pre n _ _ _ _ (by omega)
    · rw [if_neg hk, if_neg (by rw [ByteArray.size_append]; omega), ByteArray.size_append, endW_right]
      simp [shiftW]
theorem words_nl (s : ByteArray) : wordsS ((⟨#[10]⟩ : ByteArray) ++ s) = (wordsS s).map (shiftW 1) := by
  have hb : bt ((⟨#[10]⟩ : ByteArray) ++ s) ((0 : Nat) : Int) = 10 := (bt_left _ s 0 (by decide)).trans (by decide)
  have hz : ((⟨#[10]⟩ : ByteArray) ++ s).size = s.size + 1 := by rw [ByteArray.size_append]; show 1 + s.size = _; omega
  unfold wordsS
  rw [hz]
  conv => lhs; unfold tkF
  rw [if_pos (by omega)]
  have hst : stepW ((⟨#[10]⟩ : ByteArray) ++ s) 0 1 (-1) [] = (1, 2, -1, []) := by
    unfold stepW
    rw [hb, if_neg (fun z => absurd z.1 (by decide)), if_pos (by decide)]
    rfl
  rw [hst]
  have h := tkF_right (⟨#[10]⟩ : ByteArray) s 1 [] (s.size + 1) 0 1 (-1) [] (by omega)
  simp only [List.map_nil, List.append_nil, List.nil_append] at h
  exact h
end Go.Proofs.YtcoaajkhfgakgaaDoor.Pr
end

section
namespace Go.Proofs.YtcoaajkhfgakgaaDoor.Pr
open Go.RowKit Go.Proofs.YtcoaajkhfgakgaaDoorW.PrintWords Go.Proofs.YtcoaajkhfgakgaaDoorW.PrintLast Go.Proofs.YtcoaajkhfgakgaaDoorW.PrintMore
attribute [local go_sem] max2_int min2_int max_two min_two max_three min_three max_four min_four   -- for this text's walks alone
set_option linter.unusedVariables false
set_option linter.unusedSimpArgs false
theorem eqA48 (d : Nat) (w : World) (x0 y0 : Int) (x1 y1 : Int) :
    (Op.equalIn (d + 2) 48 (.agg #[.int .i64 x0, .int .i64 x1]) (.agg #[.int .i64 y0, .int .i64 y1])).run Tryd.prog w = .ok (x0 == y0 && (x1 == y1)) w := by
  refine eqA_of Tryd.underlying48 (by kernel_rfl) ?_
  refine eqf_cons (by rfl) (by go_simp; rfl) (by go_simp; rfl) (by go_simp) ?_
  exact eqf_last (by rfl) (by go_simp; rfl) (by go_simp; rfl) (by go_simp)
end Go.Proofs.YtcoaajkhfgakgaaDoor.Pr
end

section
namespace Go.Proofs.YtcoaajkhfgakgaaDoor.Pr
open Go.RowKit Go.Proofs.YtcoaajkhfgakgaaDoorW.PrintWords Go.Proofs.YtcoaajkhfgakgaaDoorW.PrintLast Go.Proofs.YtcoaajkhfgakgaaDoorW.PrintMore
set_option linter.unusedVariables false
set_option linter.unusedSimpArgs false
theorem siteF_len {k : Nat} {st st' : St} {sites sites' : List S29} (h : siteF k st sites = some (st', sites')) : sites'.length = sites.length + 1 := by
  unfold siteF at h
  cases hr : rulesF k (mustS (takeS (hostS (headS st sites) sites)) ⟨#[123]⟩) ⟨nextS (headS st sites), 1, 0, 3600, true, true, []⟩ [] with
  | none => rw [hr] at h; simp at h
  | some r =>
    rw [hr] at h
    simp only [Option.map_some, Option.some.injEq, Prod.mk.injEq] at h
    rw [← h.2]
    simp
set_option maxRecDepth 100000 in
set_option maxHeartbeats 8000000 in
theorem conf_Read.calls (a0 : ByteArray) (r1 : List (S29)) (r2 : Int) (r3 : Int) (w : World) (hG : GL w) (h : conf_Read.f a0 = some (r1, r2, r3)) :
    Calls Tryd.prog 16 #[.string a0] w fun e w' => ∃ v0_ : Value, e = .returned (.tuple #[.agg #[v0_], .agg #[.int .i64 r2, .int .i64 r3]]) ∧ Kd.V k29 29 w' w.heap.size (fun k_ => (w.heap.size ≤ k_)) v0_ r1 ∧ Below w.heap.size w w' := by
  have hu := Tryd.underlying64
  have hu2 := Tryd.underlying48
  have hu4 := Tryd.underlying24
  have HG := Aside0.mk hG
  clear hG
  by_cases t0 : 4096 < a0.size
  · unfold conf_Read.f at h
    rw [if_pos t0] at h
    simp only [Option.some.injEq, Prod.mk.injEq] at h
    obtain ⟨rfl, rfl, rfl⟩ := h
    have t0' : (a0.size : Int) > 4096 := by omega
    clear t0
    go_enter Tryd.func16, Tryd.ntmps16
    go_wp2
    have hb2 : Below w.heap.size w ((w.alloc (.cells #[.slice none 0 0] 24)).alloc (.cells #[.int .i64 32, .int .i64 1] 48)) := below_alloc (below_alloc (Below.refl _ _) _) _
    have h1 : ((w.alloc (.cells #[.slice none 0 0] 24)).alloc (.cells #[.int .i64 32, .int .i64 1] 48)).heap[w.heap.size]? = some (.cells #[.slice none 0 0] 24 (0, 0)) := ((below_alloc (Below.refl (w.alloc (.cells #[.slice none 0 0] 24)).heap.size _) (.cells #[.int .i64 32, .int .i64 1] 48)).block w.heap.size (by simp)).trans (heap_alloc_new w _)
    have h2 : ((w.alloc (.cells #[.slice none 0 0] 24)).alloc (.cells #[.int .i64 32, .int .i64 1] 48)).heap[w.heap.size + 1]? = some (.cells #[.int .i64 32, .int .i64 1] 48 (0, 0)) := by
      have := heap_alloc_new (w.alloc (.cells #[.slice none 0 0] 24)) (.cells #[.int .i64 32, .int .i64 1] 48)
      simpa using this
    refine bodyPost_ret (results_cc rfl _ _ w.heap.size (w.heap.size + 1) 24 48 #[.slice none 0 0] #[.int .i64 32, .int .i64 1] (0, 0) (0, 0) _ _ rfl h1 Tryd.underlying24 rfl (by kernel_rfl) rfl h2 Tryd.underlying48 rfl (by kernel_rfl)) rfl ?_
    exact ⟨_, rfl, Kd.R_V (Kd.R_nil _ _ _ w.heap.size _), hb2⟩
  · unfold conf_Read.f at h
    rw [if_neg t0] at h
    have t0' : ¬ (a0.size : Int) > 4096 := by omega
    cases hs : sitesF (8 * a0.size + 64) ⟨wordsS a0, 0, 0⟩ [] with
    | none => rw [hs] at h; simp at h
    | some r =>
    rw [hs] at h
    obtain ⟨stf, sf⟩ := r
    simp only [Option.map_some, Option.some.injEq] at h
    have HW := Aside0.mk (fun W => conf_words_calls a0 W (by omega))
    have HSM := Aside0.mk (words_small a0)
    have HPO := Aside0.mk (words_pos a0)
    have HRE := Aside0.mk h
    have HSF := Aside0.mk hs
    have HT0 := Aside0.mk t0
    clear h hs t0
    go_enter Tryd.func16, Tryd.ntmps16
    go_wp2_with fail
    refine (HW.out _).mono ?_
    rintro e w0 ⟨vw, rfl, hown, hbw, hlw⟩
    obtain ⟨AW, cW, hvw, hrdW⟩ := own_reads_row (R := fun (x : Wd) cs => cs = [.string x.s, .int .i64 x.line]) hown (reps_words (wordsS a0)) rfl
    have hcW : (wordsS a0).length ≤ cW := by
      rcases hown.2 with ⟨h1, h2⟩ | ⟨g, cap, cur, h1, h2, h3, h4, h5⟩
      · omega
      · rw [h1] at hvw
        injection hvw with _ _ hc
        omega
    subst hvw
    have hb2 : Below w.heap.size w ((w.alloc (.cells #[.slice none 0 0] 24)).alloc (.cells #[.int .i64 0, .int .i64 0] 48)) := below_alloc (below_alloc (Below.refl _ _) _) _
    have hsz2 : ((w.alloc (.cells #[.slice none 0 0] 24)).alloc (.cells #[.int .i64 0, .int .i64 0] 48)).heap.size = w.heap.size + 2 := by simp
    have h1 : w0.heap[w.heap.size]? = some (.cells #[.slice none 0 0] 24 (0, 0)) := (hbw.block _ (by simp; omega)).trans (((below_alloc (Below.refl (w.alloc (.cells #[.slice none 0 0] 24)).heap.size _) (.cells #[.int .i64 0, .int .i64 0] 48)).block w.heap.size (by simp)).trans (heap_alloc_new w _))
    have h2 : w0.heap[w.heap.size + 1]? = some (.cells #[.int .i64 0, .int .i64 0] 48 (0, 0)) := (hbw.block _ (by simp)).trans (by
      have := heap_alloc_new (w.alloc (.cells #[.slice none 0 0] 24)) (.cells #[.int .i64 0, .int .i64 0] 48)
      simpa using this)
    have hw0 : w.heap.size + 2 ≤ w0.heap.size := by rw [← hsz2]; exact hbw.size
    have hB0 : Below w.heap.size w w0 := below_then hb2 (by omega) hbw
    have HB0 := Aside0.mk hB0
    have HG0 := Aside0.mk (HG.out.below hB0)
    have H1 := Aside0.mk h1
    have H2 := Aside0.mk h2
    have HSI : Aside0 (SI w0 ((w0.alloc (.cells #[.slice AW (wordsS a0).length cW, .int .i64 0, .int .i64 0] 64)).alloc (.cells #[.slice none 0 0] 24)) w0.heap.size (w0.heap.size + 1) ⟨wordsS a0, 0, 0⟩ [] (.slice none 0 0)) := ⟨by
      have hba := below_alloc (Below.refl (w0.alloc (.cells #[.slice AW (wordsS a0).length cW, .int .i64 0, .int .i64 0] 64)).heap.size _) (.cells #[.slice none 0 0] 24)
      refine ⟨⟨AW, cW, (hba.block w0.heap.size (by simp)).trans (heap_alloc_new w0 _), hcW, Nat.le_refl _, hrdW, HPO.out⟩, below_alloc (below_alloc (Below.refl _ _) _) _, ?_, Kd.R_nil _ _ _ _ _, fun x hx => ?_, by simp⟩
      · have := heap_alloc_new (w0.alloc (.cells #[.slice AW (wordsS a0).length cW, .int .i64 0, .int .i64 0] 64)) (.cells #[.slice none 0 0] 24)
        simpa using this
      · have := HSM.out x hx
        omega⟩
    clear hown hbw hrdW hb2 hsz2 h1 h2 hB0 HW
    go_wp2
    go_loopg [30] (8 * a0.size + 64) (fun kq v30 wr => ∃ (s1 : St) (l1 : List S29) (v1 : Value), Aside0 (sitesF kq s1 l1 = some (stf, sf)) ∧ Aside0 (SI w0 wr w0.heap.size (w0.heap.size + 1) s1 l1 v1) ∧ Aside0 (l1.length + kq ≤ 8 * a0.size + 64))
    case atStart => exact ⟨_, [], _, HSF, HSI, ⟨by simp⟩⟩
    case round =>
      clear HSF HSI
      obtain ⟨s1, l1, v1, HF, HS, HL⟩ := hrel
      cases gk with
      | zero => exact absurd HF.out (by simp [sitesF])
      | succ k1 =>
        have hrd := HS.out.rd
        obtain ⟨AR, cR, hbR, hlcR, _, _, _⟩ := hrd
        have c1 : wr.cell? ⟨w0.heap.size, 1, none⟩ = some (.int .i64 s1.code) := (blk_cell hbR 1).trans rfl
        have c0 : wr.cell? ⟨w0.heap.size, 0, none⟩ = some (.slice AR s1.l.length cR) := (blk_cell hbR 0).trans rfl
        have c2 : wr.cell? ⟨w0.heap.size, 2, none⟩ = some (.int .i64 s1.line) := (blk_cell hbR 2).trans rfl
        clear hbR
        go_upto_region 5 with fail
        go_cut [28] from 15 to 30 (fun v28 W => ∃ b, v28 = .bool b ∧ Aside0 (b = (decide (s1.code = 0) && decide (1 < s1.l.length))) ∧ W = wr)
        case first =>
          by_cases t1 : s1.code = 0
          · have E : Aside0 (decide ((1 : Int) < (s1.l.length : Int)) = (decide (s1.code = 0) && decide (1 < s1.l.length))) := ⟨by rw [decide_eq_true t1, Bool.true_and]; exact decide_eq_decide.2 (by omega)⟩
            rw [t1] at c1
            clear t1
            go_wp2
            go_meet
            case rel => exact ⟨_, rfl, E, rfl⟩
          · have E : Aside0 (false = (decide (s1.code = 0) && decide (1 < s1.l.length))) := ⟨by rw [decide_eq_false t1]; rfl⟩
            have q1 : (s1.code == 0) = false := beq_eq_false_iff_ne.2 t1
            clear t1
            go_wp2
            go_meet
            case rel => exact ⟨_, rfl, E, rfl⟩
        case rest =>
        obtain ⟨b, rfl, HB, hW⟩ := hcut
        obtain rfl : wr = wc := hW.symm
        clear hW
        have HT := HF.out
        unfold sitesF at HT
        cases b with
        | true =>
          have hb := HB.out.symm
          simp only [Bool.and_eq_true, decide_eq_true_eq] at hb
          rw [if_pos hb] at HT
          cases hrr : siteF k1 s1 l1 with
          | none => rw [hrr] at HT; simp at HT
          | some rr =>
          rw [hrr] at HT
          obtain ⟨sa, sb⟩ := rr
          have HTN : Aside0 (sitesF k1 sa sb = some (stf, sf)) := ⟨HT⟩
          have HLN := Aside0.mk (siteF_len hrr)
          have HRU := Aside0.mk (reader_site_calls k1 w0 _ w0.heap.size (w0.heap.size + 1) s1 l1 v1 sa sb HS.out (by omega) (Nat.le_refl _) (by omega) HG0.out (by have := HL.out; have := HT0.out; omega) (by have := HL.out; have := HT0.out; omega) hrr)
          clear HT hrr hb HB HF c0 c1 c2
          go_wp2_with fail
          refine HRU.out.mono ?_
          rintro e w6 ⟨rfl, v6, hr6⟩
          have HR6 := Aside0.mk hr6
          clear hr6 HRU
          go_wp2
          go_roundg k1
          case measure => omega
          case rel => exact ⟨_, _, _, HTN, HR6, ⟨by rw [HLN.out]; have := HL.out; omega⟩⟩
        | false =>
          have HE : Aside0 (s1 = stf ∧ l1 = sf) := ⟨by
            rw [if_neg (fun hh => by have := HB.out; rw [decide_eq_true hh.1, decide_eq_true hh.2] at this; simp at this)] at HT
            simpa using HT⟩
          obtain ⟨e1, e2⟩ := HE.out
          subst e1 e2
          clear HE HB HF HT
          have b2 : wr.heap[w.heap.size]? = some (.cells #[.slice none 0 0] 24 (0, 0)) := (HS.out.bel.block _ (by omega)).trans H1.out
          have b3 : wr.heap[w.heap.size + 1]? = some (.cells #[.int .i64 0, .int .i64 0] 48 (0, 0)) := (HS.out.bel.block _ (by omega)).trans H2.out
          have k2 : wr.cell? ⟨w.heap.size, 0, none⟩ = some (.slice none 0 0) := (blk_cell b2 0).trans rfl
          have k30 : wr.cell? ⟨w.heap.size + 1, 0, none⟩ = some (.int .i64 0) := (blk_cell b3 0).trans rfl
          have k31 : wr.cell? ⟨w.heap.size + 1, 1, none⟩ = some (.int .i64 0) := (blk_cell b3 1).trans rfl
          have z2 : wr.frozen? ⟨w.heap.size, 0, none⟩ = false := blk_frozen b2 0
          have z30 : wr.frozen? ⟨w.heap.size + 1, 0, none⟩ = false := blk_frozen b3 0
          have z31 : wr.frozen? ⟨w.heap.size + 1, 1, none⟩ = false := blk_frozen b3 1
          have HB2 := Aside0.mk b2
          have HB3 := Aside0.mk b3
          obtain ⟨A1, n1, hv1⟩ := Kd.R_slice HS.out.own
          subst hv1
          have kg : wr.cell? ⟨w0.heap.size + 1, 0, none⟩ = some (.slice A1 l1.length n1) := (blk_cell HS.out.box 0).trans rfl
          have HR := HRE.out
          clear b2 b3 HRE
          by_cases t1 : s1.code = 0 ∧ s1.line = 0
          · rw [if_pos t1] at HR
            simp only [Prod.mk.injEq] at HR
            obtain ⟨rfl, rfl, rfl⟩ := HR
            rw [t1.1] at c1
            rw [t1.2] at c2
            clear t1
            go_wp2
            have g2 : (((wr.setCell ⟨w.heap.size, 0, none⟩ (.slice A1 l1.length n1)).setCell ⟨w.heap.size + 1, 0, none⟩ (.int .i64 0)).setCell ⟨w.heap.size + 1, 1, none⟩ (.int .i64 0)).heap[w.heap.size]? = some (.cells #[.slice A1 l1.length n1] 24 (0, 0)) := (Below.heap_setCell _ _ _ _ (by simp)).trans ((Below.heap_setCell _ _ _ _ (by simp)).trans (blk_put HB2.out 0 _ rfl))
            have g3 : (((wr.setCell ⟨w.heap.size, 0, none⟩ (.slice A1 l1.length n1)).setCell ⟨w.heap.size + 1, 0, none⟩ (.int .i64 0)).setCell ⟨w.heap.size + 1, 1, none⟩ (.int .i64 0)).heap[w.heap.size + 1]? = some (.cells #[.int .i64 0, .int .i64 0] 48 (0, 0)) := blk_put (blk_put ((Below.heap_setCell _ _ _ _ (by simp)).trans HB3.out) 0 _ rfl) 1 _ rfl
            have gb : Below w.heap.size w (((wr.setCell ⟨w.heap.size, 0, none⟩ (.slice A1 l1.length n1)).setCell ⟨w.heap.size + 1, 0, none⟩ (.int .i64 0)).setCell ⟨w.heap.size + 1, 1, none⟩ (.int .i64 0)) := below_set (below_set (below_set (below_then HB0.out HB0.out.size HS.out.bel) (by simp)) (by simp)) (by simp)
            refine bodyPost_ret (results_cc rfl _ _ w.heap.size (w.heap.size + 1) 24 48 #[.slice A1 l1.length n1] #[.int .i64 0, .int .i64 0] (0, 0) (0, 0) _ _ rfl g2 Tryd.underlying24 rfl (by kernel_rfl) rfl g3 Tryd.underlying48 rfl (by kernel_rfl)) rfl ?_
            have hR0 := Kd.R_mono (ok' := fun k => w0.heap.size ≤ k) (Kd.R_bound HS.out.own) (fun k hk => hk.2.1)
            have hR1 := Kd.R_far (Kd.R_far (Kd.R_far hR0 (p := ⟨w.heap.size, 0, none⟩) (fun k hk => by simp only; omega) (.slice A1 l1.length n1)) (p := ⟨w.heap.size + 1, 0, none⟩) (fun k hk => by simp only; omega) (.int .i64 0)) (p := ⟨w.heap.size + 1, 1, none⟩) (fun k hk => by simp only; omega) (.int .i64 0)
            exact ⟨_, rfl, Kd.R_V (Kd.R_mono hR1 (fun k hk => by omega)), gb⟩
          · rw [if_neg t1] at HR
            simp only [Prod.mk.injEq] at HR
            obtain ⟨rfl, rfl, rfl⟩ := HR
            have n1 : w0.heap.size ≠ w.heap.size := by omega
            have n2 : w.heap.size ≠ w0.heap.size := by omega
            by_cases t2 : s1.code = 0
            · have q2 : (s1.line == 0) = false := beq_eq_false_iff_ne.2 (fun h => t1 ⟨t2, h⟩)
              have T2 := Aside0.mk t2
              rw [t2] at c1
              clear t1 t2
              go_upto_region 8 with fail
              go_region
              all_goals
                go_wp2
                have g2 : ((((wr.setCell ⟨w.heap.size, 0, none⟩ (.slice none 0 0)).setCell ⟨w.heap.size + 1, 0, none⟩ (.int .i64 0)).setCell ⟨w.heap.size + 1, 1, none⟩ (.int .i64 s1.line)).drew).heap[w.heap.size]? = some (.cells #[.slice none 0 0] 24 (0, 0)) := blk_drew ((Below.heap_setCell _ _ _ _ (by simp)).trans ((Below.heap_setCell _ _ _ _ (by simp)).trans (blk_put HB2.out 0 _ rfl)))
                have g3 : ((((wr.setCell ⟨w.heap.size, 0, none⟩ (.slice none 0 0)).setCell ⟨w.heap.size + 1, 0, none⟩ (.int .i64 0)).setCell ⟨w.heap.size + 1, 1, none⟩ (.int .i64 s1.line)).drew).heap[w.heap.size + 1]? = some (.cells #[.int .i64 0, .int .i64 s1.line] 48 (0, 0)) := blk_drew (blk_put (blk_put ((Below.heap_setCell _ _ _ _ (by simp)).trans HB3.out) 0 _ rfl) 1 _ rfl)
                have gb : Below w.heap.size w ((((wr.setCell ⟨w.heap.size, 0, none⟩ (.slice none 0 0)).setCell ⟨w.heap.size + 1, 0, none⟩ (.int .i64 0)).setCell ⟨w.heap.size + 1, 1, none⟩ (.int .i64 s1.line)).drew) := below_drew (below_set (below_set (below_set (below_then HB0.out HB0.out.size HS.out.bel) (by simp)) (by simp)) (by simp))
                refine bodyPost_ret (results_cc rfl _ _ w.heap.size (w.heap.size + 1) 24 48 #[.slice none 0 0] #[.int .i64 0, .int .i64 s1.line] (0, 0) (0, 0) _ _ rfl g2 Tryd.underlying24 rfl (by kernel_rfl) rfl g3 Tryd.underlying48 rfl (by kernel_rfl)) rfl ?_
                exact ⟨_, by rw [T2.out], Kd.R_V (Kd.R_nil _ _ _ w.heap.size _), gb⟩
            · have q2 : (s1.code == 0) = false := beq_eq_false_iff_ne.2 t2
              clear t1 t2
              go_upto_region 8 with fail
              go_region
              all_goals
                go_wp2
                have g2 : ((((wr.setCell ⟨w.heap.size, 0, none⟩ (.slice none 0 0)).setCell ⟨w.heap.size + 1, 0, none⟩ (.int .i64 s1.code)).setCell ⟨w.heap.size + 1, 1, none⟩ (.int .i64 s1.line)).drew).heap[w.heap.size]? = some (.cells #[.slice none 0 0] 24 (0, 0)) := blk_drew ((Below.heap_setCell _ _ _ _ (by simp)).trans ((Below.heap_setCell _ _ _ _ (by simp)).trans (blk_put HB2.out 0 _ rfl)))
                have g3 : ((((wr.setCell ⟨w.heap.size, 0, none⟩ (.slice none 0 0)).setCell ⟨w.heap.size + 1, 0, none⟩ (.int .i64 s1.code)).setCell ⟨w.heap.size + 1, 1, none⟩ (.int .i64 s1.line)).drew).heap[w.heap.size + 1]? = some (.cells #[.int .i64 s1.code, .int .i64 s1.line] 48 (0, 0)) := blk_drew (blk_put (blk_put ((Below.heap_setCell _ _ _ _ (by simp)).trans HB3.out) 0 _ rfl) 1 _ rfl)
                have gb : Below w.heap.size w ((((wr.setCell ⟨w.heap.size, 0, none⟩ (.slice none 0 0)).setCell ⟨w.heap.size + 1, 0, none⟩ (.int .i64 s1.code)).setCell ⟨w.heap.size + 1, 1, none⟩ (.int .i64 s1.line)).drew) := below_drew (below_set (below_set (below_set (below_then HB0.out HB0.out.size HS.out.bel) (by simp)) (by simp)) (by simp))
                refine bodyPost_ret (results_cc rfl _ _ w.heap.size (w.heap.size + 1) 24 48 #[.slice none 0 0] #[.int .i64 s1.code, .int .i64 s1.line] (0, 0) (0, 0) _ _ rfl g2 Tryd.underlying24 rfl (by kernel_rfl) rfl g3 Tryd.underlying48 rfl (by kernel_rfl)) rfl ?_
                exact ⟨_, rfl, Kd.R_V (Kd.R_nil _ _ _ w.heap.size _), gb⟩
end Go.Proofs.YtcoaajkhfgakgaaDoor.Pr
end

section
namespace Go.Proofs.YtcoaajkhfgakgaaDoor.Pr
open Go.RowKit Go.Proofs.YtcoaajkhfgakgaaDoorW.PrintWords Go.Proofs.YtcoaajkhfgakgaaDoorW.PrintLast Go.Proofs.YtcoaajkhfgakgaaDoorW.PrintMore
attribute [local go_sem] max2_int min2_int max_two min_two max_three min_three max_four min_four   -- for this text's walks alone
set_option linter.unusedVariables false
set_option linter.unusedSimpArgs false
attribute [local go_sem high] eqA48
def pantrylaw09_anchor.f  : Option (Bool) := (conf_Read.f (⟨#[115, 105, 116, 101, 32, 97, 46, 98, 32, 123, 32, 116, 116, 108, 32, 53, 32, 54, 48, 59, 32, 107, 101, 121, 32, 112, 97, 116, 104, 32, 104, 101, 97, 100, 101, 114, 32, 97, 99, 99, 101, 112, 116, 59, 32, 125]⟩ : ByteArray)).bind fun bt101 => ((conf_Read.f (⟨#[115, 105, 116, 101, 32, 97, 32, 123, 10, 32, 111, 114, 105, 103, 105, 110, 32, 48, 59, 32, 125]⟩ : ByteArray)).bind fun bt108 => (if (bt101.2.1 == 0 && (bt101.2.2 == 0)) = true then (if (bt101.1.length : Int) = 1 then (if 0 < (bt101.1.length : Int) then (if ((rd_T29 bt101.1 0).f1) = 1 then (if ((rd_T29 bt101.1 0).f2) = 5 then (if ((rd_T29 bt101.1 0).f3) = 60 then (if ((rd_T29 bt101.1 0).f4 = true) then (some false) else (if (rd_T29 bt101.1 0).f5 = true then (some (bt108.2.1 == 11 && (bt108.2.2 == 2))) else (some false))) else (some false)) else (some false)) else (some false)) else (none)) else (some false)) else (some false)))
set_option maxHeartbeats 8000000 in
set_option maxRecDepth 100000 in
theorem pantrylaw09_anchor.callsT  (r : Bool) (hT : Aside0 (r = true)) (w : World) (hG : GL w) (h : pantrylaw09_anchor.f  = some r) :
    Calls Tryd.prog 8 #[] w fun e w' => e = .returned (.bool r) ∧ Below w.heap.size w w' := by
 have hu24 := Tryd.underlying24
 have hu48 := Tryd.underlying48
 have HB := Aside0.mk (Below.refl w.heap.size w)
 have H : ((conf_Read.f (⟨#[115, 105, 116, 101, 32, 97, 46, 98, 32, 123, 32, 116, 116, 108, 32, 53, 32, 54, 48, 59, 32, 107, 101, 121, 32, 112, 97, 116, 104, 32, 104, 101, 97, 100, 101, 114, 32, 97, 99, 99, 101, 112, 116, 59, 32, 125]⟩ : ByteArray)).bind fun bt101 => ((conf_Read.f (⟨#[115, 105, 116, 101, 32, 97, 32, 123, 10, 32, 111, 114, 105, 103, 105, 110, 32, 48, 59, 32, 125]⟩ : ByteArray)).bind fun bt108 => (if (bt101.2.1 == 0 && (bt101.2.2 == 0)) = true then (if (bt101.1.length : Int) = 1 then (if 0 < (bt101.1.length : Int) then (if ((rd_T29 bt101.1 0).f1) = 1 then (if ((rd_T29 bt101.1 0).f2) = 5 then (if ((rd_T29 bt101.1 0).f3) = 60 then (if ((rd_T29 bt101.1 0).f4 = true) then (some false) else (if (rd_T29 bt101.1 0).f5 = true then (some (bt108.2.1 == 11 && (bt108.2.2 == 2))) else (some false))) else (some false)) else (some false)) else (some false)) else (none)) else (some false)) else (some false)))) = some r := h
 clear h
 replace H := Option.bind_eq_some_iff.mp H
 obtain ⟨⟨t101, t104, t105⟩, A10, H⟩ := H
 replace H : ((conf_Read.f (⟨#[115, 105, 116, 101, 32, 97, 32, 123, 10, 32, 111, 114, 105, 103, 105, 110, 32, 48, 59, 32, 125]⟩ : ByteArray)).bind fun bt108 => (if (t104 == 0 && (t105 == 0)) = true then (if (t101.length : Int) = 1 then (if 0 < (t101.length : Int) then (if ((rd_T29 t101 0).f1) = 1 then (if ((rd_T29 t101 0).f2) = 5 then (if ((rd_T29 t101 0).f3) = 60 then (if ((rd_T29 t101 0).f4 = true) then (some false) else (if (rd_T29 t101 0).f5 = true then (some (bt108.2.1 == 11 && (bt108.2.2 == 2))) else (some false))) else (some false)) else (some false)) else (some false)) else (none)) else (some false)) else (some false))) = some r := H
 have A1 := Aside0.mk A10
 clear A10
 replace H := Option.bind_eq_some_iff.mp H
 obtain ⟨⟨t108, t111, t112⟩, A20, H⟩ := H
 replace H : (if (t104 == 0 && (t105 == 0)) = true then (if (t101.length : Int) = 1 then (if 0 < (t101.length : Int) then (if ((rd_T29 t101 0).f1) = 1 then (if ((rd_T29 t101 0).f2) = 5 then (if ((rd_T29 t101 0).f3) = 60 then (if ((rd_T29 t101 0).f4 = true) then (some false) else (if (rd_T29 t101 0).f5 = true then (some (t111 == 11 && (t112 == 2))) else (some false))) else (some false)) else (some false)) else (some false)) else (none)) else (some false)) else (some false)) = some r := H
 have A2 := Aside0.mk A20
 clear A20
 by_cases c3 : (t104 == 0 && (t105 == 0)) = true
 ·
  rw [if_pos c3] at H
  have c3b0 : (t104 == 0 && (t105 == 0)) = true := c3
  (try (have c3b1 : decide (t104 = 0 && (t105 == 0)) = true := by simpa using c3))
  (try (have c3b2 : (t104 == 0 && (t105 == 0)) = true := by simpa using c3))
  clear c3
  by_cases c4 : (t101.length : Int) = 1
  ·
   rw [if_pos c4] at H
   have c4b0 : ((t101.length : Int) == 1) = true := beq_iff_eq.mpr c4
   have c4b1 : ((t101.length : Int) != 1) = false := bne_eq_false_iff_eq.mpr c4
   clear c4
   by_cases c5 : 0 < (t101.length : Int)
   ·
    rw [if_pos c5] at H
    have c5b0 : decide (0 < (t101.length : Int)) = true := decide_eq_true c5
    have c5b1 : decide (0 < t101.length) = true := decide_eq_true (by omega)
    clear c5
    by_cases c6 : ((rd_T29 t101 0).f1) = 1
    ·
     rw [if_pos c6] at H
     have c6b0 : (((rd_T29 t101 0).f1) == 1) = true := beq_iff_eq.mpr c6
     have c6b1 : (((rd_T29 t101 0).f1) != 1) = false := bne_eq_false_iff_eq.mpr c6
     clear c6
     by_cases c7 : ((rd_T29 t101 0).f2) = 5
     ·
      rw [if_pos c7] at H
      have c7b0 : (((rd_T29 t101 0).f2) == 5) = true := beq_iff_eq.mpr c7
      have c7b1 : (((rd_T29 t101 0).f2) != 5) = false := bne_eq_false_iff_eq.mpr c7
      clear c7
      by_cases c8 : ((rd_T29 t101 0).f3) = 60
      ·
       rw [if_pos c8] at H
       have c8b0 : (((rd_T29 t101 0).f3) == 60) = true := beq_iff_eq.mpr c8
       have c8b1 : (((rd_T29 t101 0).f3) != 60) = false := bne_eq_false_iff_eq.mpr c8
       clear c8
       obtain ⟨bq9, hbq9⟩ : ∃ b_ : Bool, b_ = ((rd_T29 t101 0).f4) := ⟨_, rfl⟩
       replace H : (if (bq9 = true) then (some false) else (if (rd_T29 t101 0).f5 = true then (some (t111 == 11 && (t112 == 2))) else (some false))) = some r := by rw [← hbq9] at H; exact H
       have Nbq9 := Aside0.mk hbq9
       clear hbq9
       by_cases c10 : (bq9 = true)
       ·
        subst c10
        have H1 : (some false) = some r := by rw [if_pos rfl] at H; exact H
        exact absurd (Option.some.inj H1) (by rw [hT.out]; decide)
       ·
        replace c10 := Bool.eq_false_iff.mpr c10
        subst c10
        have H1 : (if (rd_T29 t101 0).f5 = true then (some (t111 == 11 && (t112 == 2))) else (some false)) = some r := by rw [if_neg (show ¬ (false = true) by decide)] at H; exact H
        clear H
        have H := H1
        clear H1
        obtain ⟨bq33, hbq33⟩ : ∃ b_ : Bool, b_ = ((rd_T29 t101 0).f5) := ⟨_, rfl⟩
        replace H : (if bq33 = true then (some (t111 == 11 && (t112 == 2))) else (some false)) = some r := by rw [← hbq33] at H; exact H
        have Nbq33 := Aside0.mk hbq33
        clear hbq33
        by_cases c34 : bq33 = true
        ·
         subst c34
         have H1 : (some (t111 == 11 && (t112 == 2))) = some r := by rw [if_pos rfl] at H; exact H
         clear H
         have H := H1
         clear H1
         obtain rfl := Option.some.inj H
         go_enter Tryd.func8, Tryd.ntmps8
         go_wp2_with (first | ((with_reducible refine gate_callee (f := 16) rfl ?_); refine goesL_ (some 6) rfl rfl Tryd.func16 (by kernel_rfl) rfl #[.string (⟨#[115, 105, 116, 101, 32, 97, 46, 98, 32, 123, 32, 116, 116, 108, 32, 53, 32, 54, 48, 59, 32, 107, 101, 121, 32, 112, 97, 116, 104, 32, 104, 101, 97, 100, 101, 114, 32, 97, 99, 99, 101, 112, 116, 59, 32, 125]⟩ : ByteArray)] rfl (by (try simp only [List.map_toArray, List.map_cons, List.map_nil]); first | done | rfl | (simp only [List.length_drop, List.length_take]; rfl)) ?_; (with_reducible refine (conf_Read.calls (⟨#[115, 105, 116, 101, 32, 97, 46, 98, 32, 123, 32, 116, 116, 108, 32, 53, 32, 54, 48, 59, 32, 107, 101, 121, 32, 112, 97, 116, 104, 32, 104, 101, 97, 100, 101, 114, 32, 97, 99, 99, 101, 112, 116, 59, 32, 125]⟩ : ByteArray) t101 t104 t105 _ ?side1 A1.out).mono ?_); (case side1 => exact GL.below hG (by repeat (first | (with_reducible first | exact HB.out | apply below_alloc | apply pw_below_drewN | apply below_drew1) | exact HB.out))); rintro e w35 ⟨v102, rfl, ho0, hb⟩; refine ⟨_, rfl, ?_⟩; have n0_ := Aside0.mk (Kd.V_lower (Kd.V_mono (ok' := fun k_ => True) ho0 (fun k_ hk_ => trivial)) (below_size (by repeat (first | (with_reducible first | exact HB.out | apply below_alloc | apply pw_below_drewN | apply below_drew1) | exact HB.out)))); have n1_ := Aside0.mk (below_step (by repeat (first | (with_reducible first | exact HB.out | apply below_alloc | apply pw_below_drewN | apply below_drew1) | exact HB.out)) hb); clear HB; have HO103 := n0_; have HB := n1_; clear n0_ n1_; (try clear hb); (try clear hb2); (try clear hk); (try clear hi); (try clear ho0)) | ((with_reducible refine gate_dst (N := 1) rfl ?_); (try (refine gate_guard (by rfl) ?_; dsimp only)); refine box_event ?hg (N := 1) ?hd (cs := #[.slice none 0 0]) (t := 24) ?hr ?_; (case hd => rfl); (case hg => rfl); (case hr => first | (go_simp; done) | (go_simp; rfl)); intro gb106 hg w36 hbox hb; have n0_ := Aside0.mk (Kd.V_below (Kd.V_elderB (by (with_reducible repeat (first | apply Kd.V_alloc | apply Kd.V_drewN | apply Kd.V_drew)); exact HO103.out) gb106 (Nat.le_of_eq hg.symm)) hb); have n1_ := Aside0.mk (below_step (by repeat (first | (with_reducible first | exact HB.out | apply below_alloc | apply pw_below_drewN | apply below_drew1) | exact HB.out)) hb); have n2_ := Aside0.mk (hbox); have n3_ := Aside0.mk ((by rw [hg]; exact (below_size (by repeat (first | (with_reducible first | exact HB.out | apply below_alloc | apply pw_below_drewN | apply below_drew1) | exact HB.out))) : w.heap.size ≤ gb106)); have n4_ := Aside0.mk ((by rw [hg]; exact (below_size (by repeat (first | (with_reducible first | exact HB.out | apply below_alloc | apply pw_below_drewN | apply below_drew1) | exact HB.out))) : w.heap.size ≤ gb106)); clear HO103; clear HB; have HO103 := n0_; have HB := n1_; have BK106 := n2_; have GW106 := n3_; have GE106 := n4_; clear n0_ n1_ n2_ n3_ n4_; clear hb hbox hg) | ((with_reducible refine gate_dst (N := 2) rfl ?_); (try (refine gate_guard (by rfl) ?_; dsimp only)); refine box_event ?hg (N := 2) ?hd (cs := #[.int .i64 0, .int .i64 0]) (t := 48) ?hr ?_; (case hd => rfl); (case hg => rfl); (case hr => first | (go_simp; done) | (go_simp; rfl)); intro gb107 hg w37 hbox hb; have n0_ := Aside0.mk (Kd.V_below (Kd.V_elderB (by (with_reducible repeat (first | apply Kd.V_alloc | apply Kd.V_drewN | apply Kd.V_drew)); exact HO103.out) gb107 (Nat.le_of_eq hg.symm)) hb); have n1_ := Aside0.mk (blk_below (g := gb106) (o := .cells #[.slice none 0 0] 24 (0, 0)) (by (with_reducible repeat (first | refine blk_drewN ?_ _ | refine blk_drew ?_ | refine blk_alloc ?_ _)); exact BK106.out) hb); have n2_ := Aside0.mk (below_step (by repeat (first | (with_reducible first | exact HB.out | apply below_alloc | apply pw_below_drewN | apply below_drew1 | refine below_set ?_ GE106.out) | exact HB.out)) hb); have n3_ := Aside0.mk (hbox); have n4_ := Aside0.mk ((by rw [hg]; exact (below_size (by repeat (first | (with_reducible first | exact HB.out | apply below_alloc | apply pw_below_drewN | apply below_drew1 | refine below_set ?_ GE106.out) | exact HB.out))) : w.heap.size ≤ gb107)); have n5_ := Aside0.mk ((by rw [hg]; exact (below_size (by repeat (first | (with_reducible first | exact HB.out | apply below_alloc | apply pw_below_drewN | apply below_drew1 | refine below_set ?_ GE106.out) | exact HB.out))) : w.heap.size ≤ gb107)); have n6_ := Aside0.mk ((by rw [hg]; exact Nat.ne_of_lt (blk_lt (g := gb106) (o := .cells #[.slice none 0 0] 24 (0, 0)) (by (with_reducible repeat (first | refine blk_drewN ?_ _ | refine blk_drew ?_ | refine blk_alloc ?_ _)); exact BK106.out)) : gb106 ≠ gb107)); have n7_ := Aside0.mk ((by rw [hg]; exact Nat.ne_of_gt (blk_lt (g := gb106) (o := .cells #[.slice none 0 0] 24 (0, 0)) (by (with_reducible repeat (first | refine blk_drewN ?_ _ | refine blk_drew ?_ | refine blk_alloc ?_ _)); exact BK106.out)) : gb107 ≠ gb106)); clear HO103; clear BK106; clear HB; have HO103 := n0_; have BK106 := n1_; have HB := n2_; have BK107 := n3_; have GW107 := n4_; have GE107 := n5_; have NB106_107 := n6_; have NB107_106 := n7_; clear n0_ n1_ n2_ n3_ n4_ n5_ n6_ n7_; clear hb hbox hg; obtain ⟨Ao38, co38, eo38⟩ := Kd.V_slice HO103.out; subst eo38; have hnb39 := NB106_107.out; have hnc39 := NB107_106.out; have hcz40_0 : w37.cell? ⟨gb106, 0, none⟩ = some (.slice none 0 0) := (blk_cell BK106.out 0).trans rfl; have hfz40_0 := blk_frozen BK106.out 0; have hcz41_0 : w37.cell? ⟨gb107, 0, none⟩ = some (.int .i64 0) := (blk_cell BK107.out 0).trans rfl; have hcz41_1 : w37.cell? ⟨gb107, 1, none⟩ = some (.int .i64 0) := (blk_cell BK107.out 1).trans rfl; have hfz41_0 := blk_frozen BK107.out 0; have hfz41_1 := blk_frozen BK107.out 1) | ((with_reducible refine gate_callee (f := 16) rfl ?_); refine goesL_ (some 10) rfl rfl Tryd.func16 (by kernel_rfl) rfl #[.string (⟨#[115, 105, 116, 101, 32, 97, 32, 123, 10, 32, 111, 114, 105, 103, 105, 110, 32, 48, 59, 32, 125]⟩ : ByteArray)] rfl (by (try simp only [List.map_toArray, List.map_cons, List.map_nil]); first | done | rfl | (simp only [List.length_drop, List.length_take]; rfl)) ?_; (with_reducible refine (conf_Read.calls (⟨#[115, 105, 116, 101, 32, 97, 32, 123, 10, 32, 111, 114, 105, 103, 105, 110, 32, 48, 59, 32, 125]⟩ : ByteArray) t108 t111 t112 _ ?side1 A2.out).mono ?_); (case side1 => exact GL.below hG (by repeat (first | (with_reducible first | exact HB.out | apply below_alloc | apply pw_below_drewN | apply below_drew1 | refine below_set ?_ GE106.out | refine below_set ?_ GE107.out) | exact HB.out))); rintro e w42 ⟨v109, rfl, ho0, hb⟩; refine ⟨_, rfl, ?_⟩; have n0_ := Aside0.mk (Kd.V_below (by (with_reducible repeat (first | apply Kd.V_alloc | apply Kd.V_drewN | apply Kd.V_drew)); exact (Kd.V_mono (Kd.V_mono (Kd.V_far (p := ⟨gb107, 1, none⟩) (Kd.V_far (p := ⟨gb107, 0, none⟩) (Kd.V_far (p := ⟨gb106, 0, none⟩) (Kd.V_mono (Kd.V_mono HO103.out (fun k_ hk => (⟨hk, hk.1.2⟩ : _ ∧ k_ ≠ gb106))) (fun k_ hk => (⟨hk, hk.1.2⟩ : _ ∧ k_ ≠ gb107))) (fun _ hk => hk.1.2) (.slice Ao38 t101.length co38)) (fun _ hk => hk.2) (.int .i64 t104)) (fun _ hk => hk.2) (.int .i64 t105)) (fun _ h_ => h_.1)) (fun _ h_ => h_.1))) hb); have n1_ := Aside0.mk (Kd.V_lower (Kd.V_mono (ok' := fun k_ => k_ ≠ gb106 ∧ k_ ≠ gb107) ho0 (fun k_ hk_ => ⟨(Kd.freshB (g := gb106) (o := .cells #[.slice Ao38 t101.length co38] 24 (0, 0)) (by (with_reducible repeat (first | refine blk_drewN ?_ _ | refine blk_drew ?_ | refine blk_alloc ?_ _)); refine blk_far ?_ NB106_107.out _; (with_reducible repeat (first | refine blk_drewN ?_ _ | refine blk_drew ?_ | refine blk_alloc ?_ _)); refine blk_far ?_ NB106_107.out _; (with_reducible repeat (first | refine blk_drewN ?_ _ | refine blk_drew ?_ | refine blk_alloc ?_ _)); refine blk_put (cs := #[.slice none 0 0]) ?_ 0 _ rfl; (with_reducible repeat (first | refine blk_drewN ?_ _ | refine blk_drew ?_ | refine blk_alloc ?_ _)); exact BK106.out) k_ hk_), (Kd.freshB (g := gb107) (o := .cells #[.int .i64 t104, .int .i64 t105] 48 (0, 0)) (by (with_reducible repeat (first | refine blk_drewN ?_ _ | refine blk_drew ?_ | refine blk_alloc ?_ _)); refine blk_put (cs := #[.int .i64 t104, .int .i64 0]) ?_ 1 _ rfl; (with_reducible repeat (first | refine blk_drewN ?_ _ | refine blk_drew ?_ | refine blk_alloc ?_ _)); refine blk_put (cs := #[.int .i64 0, .int .i64 0]) ?_ 0 _ rfl; (with_reducible repeat (first | refine blk_drewN ?_ _ | refine blk_drew ?_ | refine blk_alloc ?_ _)); refine blk_far ?_ NB107_106.out _; (with_reducible repeat (first | refine blk_drewN ?_ _ | refine blk_drew ?_ | refine blk_alloc ?_ _)); exact BK107.out) k_ hk_)⟩)) (below_size (by repeat (first | (with_reducible first | exact HB.out | apply below_alloc | apply pw_below_drewN | apply below_drew1 | refine below_set ?_ GE106.out | refine below_set ?_ GE107.out) | exact HB.out)))); have n2_ := Aside0.mk (blk_below (g := gb106) (o := .cells #[.slice Ao38 t101.length co38] 24 (0, 0)) (by (with_reducible repeat (first | refine blk_drewN ?_ _ | refine blk_drew ?_ | refine blk_alloc ?_ _)); refine blk_far ?_ NB106_107.out _; (with_reducible repeat (first | refine blk_drewN ?_ _ | refine blk_drew ?_ | refine blk_alloc ?_ _)); refine blk_far ?_ NB106_107.out _; (with_reducible repeat (first | refine blk_drewN ?_ _ | refine blk_drew ?_ | refine blk_alloc ?_ _)); refine blk_put (cs := #[.slice none 0 0]) ?_ 0 _ rfl; (with_reducible repeat (first | refine blk_drewN ?_ _ | refine blk_drew ?_ | refine blk_alloc ?_ _)); exact BK106.out) hb); have n3_ := Aside0.mk (blk_below (g := gb107) (o := .cells #[.int .i64 t104, .int .i64 t105] 48 (0, 0)) (by (with_reducible repeat (first | refine blk_drewN ?_ _ | refine blk_drew ?_ | refine blk_alloc ?_ _)); refine blk_put (cs := #[.int .i64 t104, .int .i64 0]) ?_ 1 _ rfl; (with_reducible repeat (first | refine blk_drewN ?_ _ | refine blk_drew ?_ | refine blk_alloc ?_ _)); refine blk_put (cs := #[.int .i64 0, .int .i64 0]) ?_ 0 _ rfl; (with_reducible repeat (first | refine blk_drewN ?_ _ | refine blk_drew ?_ | refine blk_alloc ?_ _)); refine blk_far ?_ NB107_106.out _; (with_reducible repeat (first | refine blk_drewN ?_ _ | refine blk_drew ?_ | refine blk_alloc ?_ _)); exact BK107.out) hb); have n4_ := Aside0.mk (below_step (by repeat (first | (with_reducible first | exact HB.out | apply below_alloc | apply pw_below_drewN | apply below_drew1 | refine below_set ?_ GE106.out | refine below_set ?_ GE107.out) | exact HB.out)) hb); clear HO103; clear BK106; clear BK107; clear HB; have HO103 := n0_; have HO110 := n1_; have BK106 := n2_; have BK107 := n3_; have HB := n4_; clear n0_ n1_ n2_ n3_ n4_; (try clear hb); (try clear hb2); (try clear hk); (try clear hi); (try clear ho0)) | ((with_reducible refine gate_dst (N := 3) rfl ?_); (try (refine gate_guard (by rfl) ?_; dsimp only)); refine box_event ?hg (N := 3) ?hd (cs := #[.slice none 0 0]) (t := 24) ?hr ?_; (case hd => rfl); (case hg => rfl); (case hr => first | (go_simp; done) | (go_simp; rfl)); intro gb113 hg w43 hbox hb; have n0_ := Aside0.mk (Kd.V_below (Kd.V_elderB (by (with_reducible repeat (first | apply Kd.V_alloc | apply Kd.V_drewN | apply Kd.V_drew)); exact HO103.out) gb113 (Nat.le_of_eq hg.symm)) hb); have n1_ := Aside0.mk (Kd.V_below (Kd.V_elderB (by (with_reducible repeat (first | apply Kd.V_alloc | apply Kd.V_drewN | apply Kd.V_drew)); exact HO110.out) gb113 (Nat.le_of_eq hg.symm)) hb); have n2_ := Aside0.mk (blk_below (g := gb106) (o := .cells #[.slice Ao38 t101.length co38] 24 (0, 0)) (by (with_reducible repeat (first | refine blk_drewN ?_ _ | refine blk_drew ?_ | refine blk_alloc ?_ _)); exact BK106.out) hb); have n3_ := Aside0.mk (blk_below (g := gb107) (o := .cells #[.int .i64 t104, .int .i64 t105] 48 (0, 0)) (by (with_reducible repeat (first | refine blk_drewN ?_ _ | refine blk_drew ?_ | refine blk_alloc ?_ _)); exact BK107.out) hb); have n4_ := Aside0.mk (below_step (by repeat (first | (with_reducible first | exact HB.out | apply below_alloc | apply pw_below_drewN | apply below_drew1 | refine below_set ?_ GE106.out | refine below_set ?_ GE107.out) | exact HB.out)) hb); have n5_ := Aside0.mk (hbox); have n6_ := Aside0.mk ((by rw [hg]; exact (below_size (by repeat (first | (with_reducible first | exact HB.out | apply below_alloc | apply pw_below_drewN | apply below_drew1 | refine below_set ?_ GE106.out | refine below_set ?_ GE107.out) | exact HB.out))) : w.heap.size ≤ gb113)); have n7_ := Aside0.mk ((by rw [hg]; exact (below_size (by repeat (first | (with_reducible first | exact HB.out | apply below_alloc | apply pw_below_drewN | apply below_drew1 | refine below_set ?_ GE106.out | refine below_set ?_ GE107.out) | exact HB.out))) : w.heap.size ≤ gb113)); have n8_ := Aside0.mk ((by rw [hg]; exact Nat.ne_of_lt (blk_lt (g := gb106) (o := .cells #[.slice Ao38 t101.length co38] 24 (0, 0)) (by (with_reducible repeat (first | refine blk_drewN ?_ _ | refine blk_drew ?_ | refine blk_alloc ?_ _)); exact BK106.out)) : gb106 ≠ gb113)); have n9_ := Aside0.mk ((by rw [hg]; exact Nat.ne_of_gt (blk_lt (g := gb106) (o := .cells #[.slice Ao38 t101.length co38] 24 (0, 0)) (by (with_reducible repeat (first | refine blk_drewN ?_ _ | refine blk_drew ?_ | refine blk_alloc ?_ _)); exact BK106.out)) : gb113 ≠ gb106)); have n10_ := Aside0.mk ((by rw [hg]; exact Nat.ne_of_lt (blk_lt (g := gb107) (o := .cells #[.int .i64 t104, .int .i64 t105] 48 (0, 0)) (by (with_reducible repeat (first | refine blk_drewN ?_ _ | refine blk_drew ?_ | refine blk_alloc ?_ _)); exact BK107.out)) : gb107 ≠ gb113)); have n11_ := Aside0.mk ((by rw [hg]; exact Nat.ne_of_gt (blk_lt (g := gb107) (o := .cells #[.int .i64 t104, .int .i64 t105] 48 (0, 0)) (by (with_reducible repeat (first | refine blk_drewN ?_ _ | refine blk_drew ?_ | refine blk_alloc ?_ _)); exact BK107.out)) : gb113 ≠ gb107)); clear HO103; clear HO110; clear BK106; clear BK107; clear HB; have HO103 := n0_; have HO110 := n1_; have BK106 := n2_; have BK107 := n3_; have HB := n4_; have BK113 := n5_; have GW113 := n6_; have GE113 := n7_; have NB106_113 := n8_; have NB113_106 := n9_; have NB107_113 := n10_; have NB113_107 := n11_; clear n0_ n1_ n2_ n3_ n4_ n5_ n6_ n7_ n8_ n9_ n10_ n11_; clear hb hbox hg) | ((with_reducible refine gate_dst (N := 4) rfl ?_); (try (refine gate_guard (by rfl) ?_; dsimp only)); refine box_event ?hg (N := 4) ?hd (cs := #[.int .i64 0, .int .i64 0]) (t := 48) ?hr ?_; (case hd => rfl); (case hg => rfl); (case hr => first | (go_simp; done) | (go_simp; rfl)); intro gb114 hg w44 hbox hb; have n0_ := Aside0.mk (Kd.V_below (Kd.V_elderB (by (with_reducible repeat (first | apply Kd.V_alloc | apply Kd.V_drewN | apply Kd.V_drew)); exact HO103.out) gb114 (Nat.le_of_eq hg.symm)) hb); have n1_ := Aside0.mk (Kd.V_below (Kd.V_elderB (by (with_reducible repeat (first | apply Kd.V_alloc | apply Kd.V_drewN | apply Kd.V_drew)); exact HO110.out) gb114 (Nat.le_of_eq hg.symm)) hb); have n2_ := Aside0.mk (blk_below (g := gb106) (o := .cells #[.slice Ao38 t101.length co38] 24 (0, 0)) (by (with_reducible repeat (first | refine blk_drewN ?_ _ | refine blk_drew ?_ | refine blk_alloc ?_ _)); exact BK106.out) hb); have n3_ := Aside0.mk (blk_below (g := gb107) (o := .cells #[.int .i64 t104, .int .i64 t105] 48 (0, 0)) (by (with_reducible repeat (first | refine blk_drewN ?_ _ | refine blk_drew ?_ | refine blk_alloc ?_ _)); exact BK107.out) hb); have n4_ := Aside0.mk (blk_below (g := gb113) (o := .cells #[.slice none 0 0] 24 (0, 0)) (by (with_reducible repeat (first | refine blk_drewN ?_ _ | refine blk_drew ?_ | refine blk_alloc ?_ _)); exact BK113.out) hb); have n5_ := Aside0.mk (below_step (by repeat (first | (with_reducible first | exact HB.out | apply below_alloc | apply pw_below_drewN | apply below_drew1 | refine below_set ?_ GE106.out | refine below_set ?_ GE107.out | refine below_set ?_ GE113.out) | exact HB.out)) hb); have n6_ := Aside0.mk (hbox); have n7_ := Aside0.mk ((by rw [hg]; exact (below_size (by repeat (first | (with_reducible first | exact HB.out | apply below_alloc | apply pw_below_drewN | apply below_drew1 | refine below_set ?_ GE106.out | refine below_set ?_ GE107.out | refine below_set ?_ GE113.out) | exact HB.out))) : w.heap.size ≤ gb114)); have n8_ := Aside0.mk ((by rw [hg]; exact (below_size (by repeat (first | (with_reducible first | exact HB.out | apply below_alloc | apply pw_below_drewN | apply below_drew1 | refine below_set ?_ GE106.out | refine below_set ?_ GE107.out | refine below_set ?_ GE113.out) | exact HB.out))) : w.heap.size ≤ gb114)); have n9_ := Aside0.mk ((by rw [hg]; exact Nat.ne_of_lt (blk_lt (g := gb106) (o := .cells #[.slice Ao38 t101.length co38] 24 (0, 0)) (by (with_reducible repeat (first | refine blk_drewN ?_ _ | refine blk_drew ?_ | refine blk_alloc ?_ _)); exact BK106.out)) : gb106 ≠ gb114)); have n10_ := Aside0.mk ((by rw [hg]; exact Nat.ne_of_gt (blk_lt (g := gb106) (o := .cells #[.slice Ao38 t101.length co38] 24 (0, 0)) (by (with_reducible repeat (first | refine blk_drewN ?_ _ | refine blk_drew ?_ | refine blk_alloc ?_ _)); exact BK106.out)) : gb114 ≠ gb106)); have n11_ := Aside0.mk ((by rw [hg]; exact Nat.ne_of_lt (blk_lt (g := gb107) (o := .cells #[.int .i64 t104, .int .i64 t105] 48 (0, 0)) (by (with_reducible repeat (first | refine blk_drewN ?_ _ | refine blk_drew ?_ | refine blk_alloc ?_ _)); exact BK107.out)) : gb107 ≠ gb114)); have n12_ := Aside0.mk ((by rw [hg]; exact Nat.ne_of_gt (blk_lt (g := gb107) (o := .cells #[.int .i64 t104, .int .i64 t105] 48 (0, 0)) (by (with_reducible repeat (first | refine blk_drewN ?_ _ | refine blk_drew ?_ | refine blk_alloc ?_ _)); exact BK107.out)) : gb114 ≠ gb107)); have n13_ := Aside0.mk ((by rw [hg]; exact Nat.ne_of_lt (blk_lt (g := gb113) (o := .cells #[.slice none 0 0] 24 (0, 0)) (by (with_reducible repeat (first | refine blk_drewN ?_ _ | refine blk_drew ?_ | refine blk_alloc ?_ _)); exact BK113.out)) : gb113 ≠ gb114)); have n14_ := Aside0.mk ((by rw [hg]; exact Nat.ne_of_gt (blk_lt (g := gb113) (o := .cells #[.slice none 0 0] 24 (0, 0)) (by (with_reducible repeat (first | refine blk_drewN ?_ _ | refine blk_drew ?_ | refine blk_alloc ?_ _)); exact BK113.out)) : gb114 ≠ gb113)); clear HO103; clear HO110; clear BK106; clear BK107; clear BK113; clear HB; have HO103 := n0_; have HO110 := n1_; have BK106 := n2_; have BK107 := n3_; have BK113 := n4_; have HB := n5_; have BK114 := n6_; have GW114 := n7_; have GE114 := n8_; have NB106_114 := n9_; have NB114_106 := n10_; have NB107_114 := n11_; have NB114_107 := n12_; have NB113_114 := n13_; have NB114_113 := n14_; clear n0_ n1_ n2_ n3_ n4_ n5_ n6_ n7_ n8_ n9_ n10_ n11_ n12_ n13_ n14_; clear hb hbox hg; obtain ⟨Ao45, co45, eo45⟩ := Kd.V_slice HO110.out; subst eo45; have hnb46 := NB113_106.out; have hnc46 := NB106_113.out; have hnb47 := NB113_107.out; have hnc47 := NB107_113.out; have hnb48 := NB113_114.out; have hnc48 := NB114_113.out; have hcz49_0 : w44.cell? ⟨gb113, 0, none⟩ = some (.slice none 0 0) := (blk_cell BK113.out 0).trans rfl; have hfz49_0 := blk_frozen BK113.out 0) | ((with_reducible refine gate_store (t := 24) (p := 3) rfl ?_); refine store_event (t := 24) (p := 3) (v := ?vo_w50) (w1 := (w44.setCell ⟨gb113, 0, none⟩ (.slice Ao45 t108.length co45))) ?hg ?ho ?hn ?hr ?_; (case ho => rfl); (case hg => rfl); (case hn => rfl); (case hr => first | (go_simp; done) | (go_simp; rfl)); intro w50 hw; have n0_ : Aside0 (Kd.V k29 29 w50 w.heap.size (fun k_ => k_ ≠ gb106 ∧ k_ ≠ gb107 ∧ k_ ≠ gb113 ∧ k_ ≠ gb114) (.slice Ao38 t101.length co38) t101) := ⟨(by rw [hw]; exact (by (with_reducible repeat (first | apply Kd.V_alloc | apply Kd.V_drewN | apply Kd.V_drew)); exact Kd.V_mono (Kd.V_far (p := ⟨gb113, 0, none⟩) (Kd.V_mono HO103.out (fun k_ hk => (⟨hk, hk.1.2⟩ : _ ∧ k_ ≠ gb113))) (fun _ hk => hk.2) (.slice Ao45 t108.length co45)) (fun _ hk => ⟨hk.1.1.1.1.2, ⟨hk.1.1.1.2, ⟨hk.1.1.2, hk.1.2⟩⟩⟩)))⟩; have n1_ : Aside0 (Kd.V k29 29 w50 w.heap.size (fun k_ => k_ ≠ gb106 ∧ k_ ≠ gb107 ∧ k_ ≠ gb113 ∧ k_ ≠ gb114) (.slice Ao45 t108.length co45) t108) := ⟨(by rw [hw]; exact (by (with_reducible repeat (first | apply Kd.V_alloc | apply Kd.V_drewN | apply Kd.V_drew)); exact Kd.V_mono (Kd.V_far (p := ⟨gb113, 0, none⟩) (Kd.V_mono HO110.out (fun k_ hk => (⟨hk, hk.1.2⟩ : _ ∧ k_ ≠ gb113))) (fun _ hk => hk.2) (.slice Ao45 t108.length co45)) (fun _ hk => ⟨hk.1.1.1.1, ⟨hk.1.1.1.2, ⟨hk.1.1.2, hk.1.2⟩⟩⟩)))⟩; have n2_ : Aside0 (w50.heap[gb106]? = some (.cells #[.slice Ao38 t101.length co38] 24 (0, 0))) := ⟨(by rw [hw]; exact (by (with_reducible repeat (first | refine blk_drewN ?_ _ | refine blk_drew ?_ | refine blk_alloc ?_ _)); refine blk_far ?_ NB106_113.out _; (with_reducible repeat (first | refine blk_drewN ?_ _ | refine blk_drew ?_ | refine blk_alloc ?_ _)); exact BK106.out))⟩; have n3_ : Aside0 (w50.heap[gb107]? = some (.cells #[.int .i64 t104, .int .i64 t105] 48 (0, 0))) := ⟨(by rw [hw]; exact (by (with_reducible repeat (first | refine blk_drewN ?_ _ | refine blk_drew ?_ | refine blk_alloc ?_ _)); refine blk_far ?_ NB107_113.out _; (with_reducible repeat (first | refine blk_drewN ?_ _ | refine blk_drew ?_ | refine blk_alloc ?_ _)); exact BK107.out))⟩; have n4_ : Aside0 (w50.heap[gb113]? = some (.cells #[.slice Ao45 t108.length co45] 24 (0, 0))) := ⟨(by rw [hw]; exact (by (with_reducible repeat (first | refine blk_drewN ?_ _ | refine blk_drew ?_ | refine blk_alloc ?_ _)); refine blk_put (cs := #[.slice none 0 0]) ?_ 0 _ rfl; (with_reducible repeat (first | refine blk_drewN ?_ _ | refine blk_drew ?_ | refine blk_alloc ?_ _)); exact BK113.out))⟩; have n5_ : Aside0 (w50.heap[gb114]? = some (.cells #[.int .i64 0, .int .i64 0] 48 (0, 0))) := ⟨(by rw [hw]; exact (by (with_reducible repeat (first | refine blk_drewN ?_ _ | refine blk_drew ?_ | refine blk_alloc ?_ _)); refine blk_far ?_ NB114_113.out _; (with_reducible repeat (first | refine blk_drewN ?_ _ | refine blk_drew ?_ | refine blk_alloc ?_ _)); exact BK114.out))⟩; have n6_ : Aside0 (Below w.heap.size w w50) := ⟨(by rw [hw]; exact (by repeat (first | (with_reducible first | exact HB.out | apply below_alloc | apply pw_below_drewN | apply below_drew1 | refine below_set ?_ GE106.out | refine below_set ?_ GE107.out | refine below_set ?_ GE113.out | refine below_set ?_ GE114.out) | exact HB.out)))⟩; clear hw; clear HO103; clear HO110; clear BK106; clear BK107; clear BK113; clear BK114; clear HB; have HO103 := n0_; have HO110 := n1_; have BK106 := n2_; have BK107 := n3_; have BK113 := n4_; have BK114 := n5_; have HB := n6_; clear n0_ n1_ n2_ n3_ n4_ n5_ n6_; have hnb51 := NB114_106.out; have hnc51 := NB106_114.out; have hnb52 := NB114_107.out; have hnc52 := NB107_114.out; have hcz53_0 : w50.cell? ⟨gb114, 0, none⟩ = some (.int .i64 0) := (blk_cell BK114.out 0).trans rfl; have hcz53_1 : w50.cell? ⟨gb114, 1, none⟩ = some (.int .i64 0) := (blk_cell BK114.out 1).trans rfl; have hfz53_0 := blk_frozen BK114.out 0; have hfz53_1 := blk_frozen BK114.out 1) | ((with_reducible refine gate_store (t := 48) (p := 4) rfl ?_); refine store_event (t := 48) (p := 4) (v := ?vo_w54) (w1 := ((w50.setCell ⟨gb114, 0, none⟩ (.int .i64 t111)).setCell ⟨gb114, 1, none⟩ (.int .i64 t112))) ?hg ?ho ?hn ?hr ?_; (case ho => rfl); (case hg => rfl); (case hn => rfl); (case hr => first | (go_simp; done) | (go_simp; rfl)); intro w54 hw; have n0_ : Aside0 (Kd.V k29 29 w54 w.heap.size (fun k_ => k_ ≠ gb106 ∧ k_ ≠ gb107 ∧ k_ ≠ gb113 ∧ k_ ≠ gb114) (.slice Ao38 t101.length co38) t101) := ⟨(by rw [hw]; exact (by (with_reducible repeat (first | apply Kd.V_alloc | apply Kd.V_drewN | apply Kd.V_drew)); exact Kd.V_mono (Kd.V_far (p := ⟨gb114, 1, none⟩) (Kd.V_far (p := ⟨gb114, 0, none⟩) (Kd.V_mono HO103.out (fun k_ hk => (⟨hk, hk.2.2.2⟩ : _ ∧ k_ ≠ gb114))) (fun _ hk => hk.2) (.int .i64 t111)) (fun _ hk => hk.2) (.int .i64 t112)) (fun _ hk => ⟨hk.1.1, ⟨hk.1.2.1, ⟨hk.1.2.2.1, hk.1.2.2.2⟩⟩⟩)))⟩; have n1_ : Aside0 (Kd.V k29 29 w54 w.heap.size (fun k_ => k_ ≠ gb106 ∧ k_ ≠ gb107 ∧ k_ ≠ gb113 ∧ k_ ≠ gb114) (.slice Ao45 t108.length co45) t108) := ⟨(by rw [hw]; exact (by (with_reducible repeat (first | apply Kd.V_alloc | apply Kd.V_drewN | apply Kd.V_drew)); exact Kd.V_mono (Kd.V_far (p := ⟨gb114, 1, none⟩) (Kd.V_far (p := ⟨gb114, 0, none⟩) (Kd.V_mono HO110.out (fun k_ hk => (⟨hk, hk.2.2.2⟩ : _ ∧ k_ ≠ gb114))) (fun _ hk => hk.2) (.int .i64 t111)) (fun _ hk => hk.2) (.int .i64 t112)) (fun _ hk => ⟨hk.1.1, ⟨hk.1.2.1, ⟨hk.1.2.2.1, hk.1.2.2.2⟩⟩⟩)))⟩; have n2_ : Aside0 (w54.heap[gb106]? = some (.cells #[.slice Ao38 t101.length co38] 24 (0, 0))) := ⟨(by rw [hw]; exact (by (with_reducible repeat (first | refine blk_drewN ?_ _ | refine blk_drew ?_ | refine blk_alloc ?_ _)); refine blk_far ?_ NB106_114.out _; (with_reducible repeat (first | refine blk_drewN ?_ _ | refine blk_drew ?_ | refine blk_alloc ?_ _)); refine blk_far ?_ NB106_114.out _; (with_reducible repeat (first | refine blk_drewN ?_ _ | refine blk_drew ?_ | refine blk_alloc ?_ _)); exact BK106.out))⟩; have n3_ : Aside0 (w54.heap[gb107]? = some (.cells #[.int .i64 t104, .int .i64 t105] 48 (0, 0))) := ⟨(by rw [hw]; exact (by (with_reducible repeat (first | refine blk_drewN ?_ _ | refine blk_drew ?_ | refine blk_alloc ?_ _)); refine blk_far ?_ NB107_114.out _; (with_reducible repeat (first | refine blk_drewN ?_ _ | refine blk_drew ?_ | refine blk_alloc ?_ _)); refine blk_far ?_ NB107_114.out _; (with_reducible repeat (first | refine blk_drewN ?_ _ | refine blk_drew ?_ | refine blk_alloc ?_ _)); exact BK107.out))⟩; have n4_ : Aside0 (w54.heap[gb113]? = some (.cells #[.slice Ao45 t108.length co45] 24 (0, 0))) := ⟨(by rw [hw]; exact (by (with_reducible repeat (first | refine blk_drewN ?_ _ | refine blk_drew ?_ | refine blk_alloc ?_ _)); refine blk_far ?_ NB113_114.out _; (with_reducible repeat (first | refine blk_drewN ?_ _ | refine blk_drew ?_ | refine blk_alloc ?_ _)); refine blk_far ?_ NB113_114.out _; (with_reducible repeat (first | refine blk_drewN ?_ _ | refine blk_drew ?_ | refine blk_alloc ?_ _)); exact BK113.out))⟩; have n5_ : Aside0 (w54.heap[gb114]? = some (.cells #[.int .i64 t111, .int .i64 t112] 48 (0, 0))) := ⟨(by rw [hw]; exact (by (with_reducible repeat (first | refine blk_drewN ?_ _ | refine blk_drew ?_ | refine blk_alloc ?_ _)); refine blk_put (cs := #[.int .i64 t111, .int .i64 0]) ?_ 1 _ rfl; (with_reducible repeat (first | refine blk_drewN ?_ _ | refine blk_drew ?_ | refine blk_alloc ?_ _)); refine blk_put (cs := #[.int .i64 0, .int .i64 0]) ?_ 0 _ rfl; (with_reducible repeat (first | refine blk_drewN ?_ _ | refine blk_drew ?_ | refine blk_alloc ?_ _)); exact BK114.out))⟩; have n6_ : Aside0 (Below w.heap.size w w54) := ⟨(by rw [hw]; exact (by repeat (first | (with_reducible first | exact HB.out | apply below_alloc | apply pw_below_drewN | apply below_drew1 | refine below_set ?_ GE106.out | refine below_set ?_ GE107.out | refine below_set ?_ GE113.out | refine below_set ?_ GE114.out) | exact HB.out)))⟩; clear hw; clear HO103; clear HO110; clear BK106; clear BK107; clear BK113; clear BK114; clear HB; have HO103 := n0_; have HO110 := n1_; have BK106 := n2_; have BK107 := n3_; have BK113 := n4_; have BK114 := n5_; have HB := n6_; clear n0_ n1_ n2_ n3_ n4_ n5_ n6_; have hcz55_0 : w54.cell? ⟨gb107, 0, none⟩ = some (.int .i64 t104) := (blk_cell BK107.out 0).trans rfl; have hcz55_1 : w54.cell? ⟨gb107, 1, none⟩ = some (.int .i64 t105) := (blk_cell BK107.out 1).trans rfl; have hfz55_0 := blk_frozen BK107.out 0; have hfz55_1 := blk_frozen BK107.out 1; have hcz56_0 : w54.cell? ⟨gb106, 0, none⟩ = some (.slice Ao38 t101.length co38) := (blk_cell BK106.out 0).trans rfl; have hfz56_0 := blk_frozen BK106.out 0; have p115 : 0 ≤ (0 : Int) := (by omega); have q115 : 0 < (t101.length : Int) := of_decide_eq_true (by first | (with_reducible assumption) | assumption); obtain ⟨ad115, A115_6, c115_6, e115, hx115_0, hx115_1, hx115_2, hx115_3, hx115_4, hx115_5, hx115_6, hl115_6, hi115_6⟩ := at_T29 (Kd.V_reads' HO103.out).2.2 0 p115 q115; (try rw [← Nbq9.out] at hx115_4); (try rw [← Nbq33.out] at hx115_4); (try rw [← Nbq9.out] at hx115_5); (try rw [← Nbq33.out] at hx115_5); cases e115; obtain ⟨ce115, hce115, hMe115, hcc115⟩ := Kd.V_get HO103.out z29 0 p115 (by first | exact q115 | exact of_decide_eq_true (by first | (with_reducible assumption) | assumption) | (have e_ := (Kd.V_reads' HO103.out).1; omega)); obtain ⟨ua115_6, uc115_6, rfl, ul115_6, ge115_6⟩ := k29_openF hMe115; have hv115_6 := hcc115 6 _ rfl; rw [add_field _ _ 6 (by omega)] at hv115_6; replace hv115_6 := Option.some.inj (hv115_6.symm.trans hx115_6); injection hv115_6 with hva_ hvn_ hvc_; rw [hva_] at ge115_6; rw [hvc_] at ul115_6; have HL115_6 := Aside0.mk (show Kd.V Kd.string 9 _ w.heap.size _ _ ((rd_T29 t101 0).f6) from Kd.V_mk ul115_6 ge115_6); clear hva_ hvn_ hvc_ ge115_6 ul115_6; clear hcc115 hce115; have qi115 : (0 < t101.length) = True := eq_true (by omega); (try rw [show ((0 : Int)).toNat = 0 from rfl] at hx115_0); (try rw [show 0 * 7 = 0 from rfl] at hx115_0); (try rw [Addr.add_zero'] at hx115_0); (try rw [show ((0 : Int)).toNat = 0 from rfl] at hx115_1); (try rw [show 0 * 7 = 0 from rfl] at hx115_1); (try rw [Addr.add_zero'] at hx115_1); (try rw [show ((0 : Int)).toNat = 0 from rfl] at hx115_2); (try rw [show 0 * 7 = 0 from rfl] at hx115_2); (try rw [Addr.add_zero'] at hx115_2); (try rw [show ((0 : Int)).toNat = 0 from rfl] at hx115_3); (try rw [show 0 * 7 = 0 from rfl] at hx115_3); (try rw [Addr.add_zero'] at hx115_3); (try rw [show ((0 : Int)).toNat = 0 from rfl] at hx115_4); (try rw [show 0 * 7 = 0 from rfl] at hx115_4); (try rw [Addr.add_zero'] at hx115_4); (try rw [show ((0 : Int)).toNat = 0 from rfl] at hx115_5); (try rw [show 0 * 7 = 0 from rfl] at hx115_5); (try rw [Addr.add_zero'] at hx115_5); (try rw [show ((0 : Int)).toNat = 0 from rfl] at hx115_6); (try rw [show 0 * 7 = 0 from rfl] at hx115_6); (try rw [Addr.add_zero'] at hx115_6); have HR115_6 := Aside0.mk hi115_6; have HC115_6 := Aside0.mk hl115_6; clear hi115_6 hl115_6; replace p115 := eq_true p115; replace q115 := eq_true q115; have p116 : 0 ≤ (0 : Int) := (by omega); have q116 : 0 < (t101.length : Int) := of_decide_eq_true (by first | (with_reducible assumption) | assumption); obtain ⟨ad116, A116_6, c116_6, e116, hx116_0, hx116_1, hx116_2, hx116_3, hx116_4, hx116_5, hx116_6, hl116_6, hi116_6⟩ := at_T29 (Kd.V_reads' HO103.out).2.2 0 p116 q116; (try rw [← Nbq9.out] at hx116_4); (try rw [← Nbq33.out] at hx116_4); (try rw [← Nbq9.out] at hx116_5); (try rw [← Nbq33.out] at hx116_5); obtain rfl : ad115 = ad116 := (by injection e116); obtain ⟨ce116, hce116, hMe116, hcc116⟩ := Kd.V_get HO103.out z29 0 p116 (by first | exact q116 | exact of_decide_eq_true (by first | (with_reducible assumption) | assumption) | (have e_ := (Kd.V_reads' HO103.out).1; omega)); obtain ⟨ua116_6, uc116_6, rfl, ul116_6, ge116_6⟩ := k29_openF hMe116; have hv116_6 := hcc116 6 _ rfl; rw [add_field _ _ 6 (by omega)] at hv116_6; replace hv116_6 := Option.some.inj (hv116_6.symm.trans hx116_6); injection hv116_6 with hva_ hvn_ hvc_; rw [hva_] at ge116_6; rw [hvc_] at ul116_6; have HL116_6 := Aside0.mk (show Kd.V Kd.string 9 _ w.heap.size _ _ ((rd_T29 t101 0).f6) from Kd.V_mk ul116_6 ge116_6); clear hva_ hvn_ hvc_ ge116_6 ul116_6; clear hcc116 hce116; have qi116 : (0 < t101.length) = True := eq_true (by omega); (try rw [show ((0 : Int)).toNat = 0 from rfl] at hx116_0); (try rw [show 0 * 7 = 0 from rfl] at hx116_0); (try rw [Addr.add_zero'] at hx116_0); (try rw [show ((0 : Int)).toNat = 0 from rfl] at hx116_1); (try rw [show 0 * 7 = 0 from rfl] at hx116_1); (try rw [Addr.add_zero'] at hx116_1); (try rw [show ((0 : Int)).toNat = 0 from rfl] at hx116_2); (try rw [show 0 * 7 = 0 from rfl] at hx116_2); (try rw [Addr.add_zero'] at hx116_2); (try rw [show ((0 : Int)).toNat = 0 from rfl] at hx116_3); (try rw [show 0 * 7 = 0 from rfl] at hx116_3); (try rw [Addr.add_zero'] at hx116_3); (try rw [show ((0 : Int)).toNat = 0 from rfl] at hx116_4); (try rw [show 0 * 7 = 0 from rfl] at hx116_4); (try rw [Addr.add_zero'] at hx116_4); (try rw [show ((0 : Int)).toNat = 0 from rfl] at hx116_5); (try rw [show 0 * 7 = 0 from rfl] at hx116_5); (try rw [Addr.add_zero'] at hx116_5); (try rw [show ((0 : Int)).toNat = 0 from rfl] at hx116_6); (try rw [show 0 * 7 = 0 from rfl] at hx116_6); (try rw [Addr.add_zero'] at hx116_6); have HR116_6 := Aside0.mk hi116_6; have HC116_6 := Aside0.mk hl116_6; clear hi116_6 hl116_6; replace p116 := eq_true p116; replace q116 := eq_true q116; have ea_ := Option.some.inj (hx115_6.symm.trans hx116_6); injection ea_ with ea_ en_ ec_; subst ea_; subst ec_; clear en_; have p117 : 0 ≤ (0 : Int) := (by omega); have q117 : 0 < (t101.length : Int) := of_decide_eq_true (by first | (with_reducible assumption) | assumption); obtain ⟨ad117, A117_6, c117_6, e117, hx117_0, hx117_1, hx117_2, hx117_3, hx117_4, hx117_5, hx117_6, hl117_6, hi117_6⟩ := at_T29 (Kd.V_reads' HO103.out).2.2 0 p117 q117; (try rw [← Nbq9.out] at hx117_4); (try rw [← Nbq33.out] at hx117_4); (try rw [← Nbq9.out] at hx117_5); (try rw [← Nbq33.out] at hx117_5); obtain rfl : ad115 = ad117 := (by injection e117); obtain ⟨ce117, hce117, hMe117, hcc117⟩ := Kd.V_get HO103.out z29 0 p117 (by first | exact q117 | exact of_decide_eq_true (by first | (with_reducible assumption) | assumption) | (have e_ := (Kd.V_reads' HO103.out).1; omega)); obtain ⟨ua117_6, uc117_6, rfl, ul117_6, ge117_6⟩ := k29_openF hMe117; have hv117_6 := hcc117 6 _ rfl; rw [add_field _ _ 6 (by omega)] at hv117_6; replace hv117_6 := Option.some.inj (hv117_6.symm.trans hx117_6); injection hv117_6 with hva_ hvn_ hvc_; rw [hva_] at ge117_6; rw [hvc_] at ul117_6; have HL117_6 := Aside0.mk (show Kd.V Kd.string 9 _ w.heap.size _ _ ((rd_T29 t101 0).f6) from Kd.V_mk ul117_6 ge117_6); clear hva_ hvn_ hvc_ ge117_6 ul117_6; clear hcc117 hce117; have qi117 : (0 < t101.length) = True := eq_true (by omega); (try rw [show ((0 : Int)).toNat = 0 from rfl] at hx117_0); (try rw [show 0 * 7 = 0 from rfl] at hx117_0); (try rw [Addr.add_zero'] at hx117_0); (try rw [show ((0 : Int)).toNat = 0 from rfl] at hx117_1); (try rw [show 0 * 7 = 0 from rfl] at hx117_1); (try rw [Addr.add_zero'] at hx117_1); (try rw [show ((0 : Int)).toNat = 0 from rfl] at hx117_2); (try rw [show 0 * 7 = 0 from rfl] at hx117_2); (try rw [Addr.add_zero'] at hx117_2); (try rw [show ((0 : Int)).toNat = 0 from rfl] at hx117_3); (try rw [show 0 * 7 = 0 from rfl] at hx117_3); (try rw [Addr.add_zero'] at hx117_3); (try rw [show ((0 : Int)).toNat = 0 from rfl] at hx117_4); (try rw [show 0 * 7 = 0 from rfl] at hx117_4); (try rw [Addr.add_zero'] at hx117_4); (try rw [show ((0 : Int)).toNat = 0 from rfl] at hx117_5); (try rw [show 0 * 7 = 0 from rfl] at hx117_5); (try rw [Addr.add_zero'] at hx117_5); (try rw [show ((0 : Int)).toNat = 0 from rfl] at hx117_6); (try rw [show 0 * 7 = 0 from rfl] at hx117_6); (try rw [Addr.add_zero'] at hx117_6); have HR117_6 := Aside0.mk hi117_6; have HC117_6 := Aside0.mk hl117_6; clear hi117_6 hl117_6; replace p117 := eq_true p117; replace q117 := eq_true q117; have ea_ := Option.some.inj (hx115_6.symm.trans hx117_6); injection ea_ with ea_ en_ ec_; subst ea_; subst ec_; clear en_; have p118 : 0 ≤ (0 : Int) := (by omega); have q118 : 0 < (t101.length : Int) := of_decide_eq_true (by first | (with_reducible assumption) | assumption); obtain ⟨ad118, A118_6, c118_6, e118, hx118_0, hx118_1, hx118_2, hx118_3, hx118_4, hx118_5, hx118_6, hl118_6, hi118_6⟩ := at_T29 (Kd.V_reads' HO103.out).2.2 0 p118 q118; (try rw [← Nbq9.out] at hx118_4); (try rw [← Nbq33.out] at hx118_4); (try rw [← Nbq9.out] at hx118_5); (try rw [← Nbq33.out] at hx118_5); obtain rfl : ad115 = ad118 := (by injection e118); obtain ⟨ce118, hce118, hMe118, hcc118⟩ := Kd.V_get HO103.out z29 0 p118 (by first | exact q118 | exact of_decide_eq_true (by first | (with_reducible assumption) | assumption) | (have e_ := (Kd.V_reads' HO103.out).1; omega)); obtain ⟨ua118_6, uc118_6, rfl, ul118_6, ge118_6⟩ := k29_openF hMe118; have hv118_6 := hcc118 6 _ rfl; rw [add_field _ _ 6 (by omega)] at hv118_6; replace hv118_6 := Option.some.inj (hv118_6.symm.trans hx118_6); injection hv118_6 with hva_ hvn_ hvc_; rw [hva_] at ge118_6; rw [hvc_] at ul118_6; have HL118_6 := Aside0.mk (show Kd.V Kd.string 9 _ w.heap.size _ _ ((rd_T29 t101 0).f6) from Kd.V_mk ul118_6 ge118_6); clear hva_ hvn_ hvc_ ge118_6 ul118_6; clear hcc118 hce118; have qi118 : (0 < t101.length) = True := eq_true (by omega); (try rw [show ((0 : Int)).toNat = 0 from rfl] at hx118_0); (try rw [show 0 * 7 = 0 from rfl] at hx118_0); (try rw [Addr.add_zero'] at hx118_0); (try rw [show ((0 : Int)).toNat = 0 from rfl] at hx118_1); (try rw [show 0 * 7 = 0 from rfl] at hx118_1); (try rw [Addr.add_zero'] at hx118_1); (try rw [show ((0 : Int)).toNat = 0 from rfl] at hx118_2); (try rw [show 0 * 7 = 0 from rfl] at hx118_2); (try rw [Addr.add_zero'] at hx118_2); (try rw [show ((0 : Int)).toNat = 0 from rfl] at hx118_3); (try rw [show 0 * 7 = 0 from rfl] at hx118_3); (try rw [Addr.add_zero'] at hx118_3); (try rw [show ((0 : Int)).toNat = 0 from rfl] at hx118_4); (try rw [show 0 * 7 = 0 from rfl] at hx118_4); (try rw [Addr.add_zero'] at hx118_4); (try rw [show ((0 : Int)).toNat = 0 from rfl] at hx118_5); (try rw [show 0 * 7 = 0 from rfl] at hx118_5); (try rw [Addr.add_zero'] at hx118_5); (try rw [show ((0 : Int)).toNat = 0 from rfl] at hx118_6); (try rw [show 0 * 7 = 0 from rfl] at hx118_6); (try rw [Addr.add_zero'] at hx118_6); have HR118_6 := Aside0.mk hi118_6; have HC118_6 := Aside0.mk hl118_6; clear hi118_6 hl118_6; replace p118 := eq_true p118; replace q118 := eq_true q118; have ea_ := Option.some.inj (hx115_6.symm.trans hx118_6); injection ea_ with ea_ en_ ec_; subst ea_; subst ec_; clear en_; have p119 : 0 ≤ (0 : Int) := (by omega); have q119 : 0 < (t101.length : Int) := of_decide_eq_true (by first | (with_reducible assumption) | assumption); obtain ⟨ad119, A119_6, c119_6, e119, hx119_0, hx119_1, hx119_2, hx119_3, hx119_4, hx119_5, hx119_6, hl119_6, hi119_6⟩ := at_T29 (Kd.V_reads' HO103.out).2.2 0 p119 q119; (try rw [← Nbq9.out] at hx119_4); (try rw [← Nbq33.out] at hx119_4); (try rw [← Nbq9.out] at hx119_5); (try rw [← Nbq33.out] at hx119_5); obtain rfl : ad115 = ad119 := (by injection e119); obtain ⟨ce119, hce119, hMe119, hcc119⟩ := Kd.V_get HO103.out z29 0 p119 (by first | exact q119 | exact of_decide_eq_true (by first | (with_reducible assumption) | assumption) | (have e_ := (Kd.V_reads' HO103.out).1; omega)); obtain ⟨ua119_6, uc119_6, rfl, ul119_6, ge119_6⟩ := k29_openF hMe119; have hv119_6 := hcc119 6 _ rfl; rw [add_field _ _ 6 (by omega)] at hv119_6; replace hv119_6 := Option.some.inj (hv119_6.symm.trans hx119_6); injection hv119_6 with hva_ hvn_ hvc_; rw [hva_] at ge119_6; rw [hvc_] at ul119_6; have HL119_6 := Aside0.mk (show Kd.V Kd.string 9 _ w.heap.size _ _ ((rd_T29 t101 0).f6) from Kd.V_mk ul119_6 ge119_6); clear hva_ hvn_ hvc_ ge119_6 ul119_6; clear hcc119 hce119; have qi119 : (0 < t101.length) = True := eq_true (by omega); (try rw [show ((0 : Int)).toNat = 0 from rfl] at hx119_0); (try rw [show 0 * 7 = 0 from rfl] at hx119_0); (try rw [Addr.add_zero'] at hx119_0); (try rw [show ((0 : Int)).toNat = 0 from rfl] at hx119_1); (try rw [show 0 * 7 = 0 from rfl] at hx119_1); (try rw [Addr.add_zero'] at hx119_1); (try rw [show ((0 : Int)).toNat = 0 from rfl] at hx119_2); (try rw [show 0 * 7 = 0 from rfl] at hx119_2); (try rw [Addr.add_zero'] at hx119_2); (try rw [show ((0 : Int)).toNat = 0 from rfl] at hx119_3); (try rw [show 0 * 7 = 0 from rfl] at hx119_3); (try rw [Addr.add_zero'] at hx119_3); (try rw [show ((0 : Int)).toNat = 0 from rfl] at hx119_4); (try rw [show 0 * 7 = 0 from rfl] at hx119_4); (try rw [Addr.add_zero'] at hx119_4); (try rw [show ((0 : Int)).toNat = 0 from rfl] at hx119_5); (try rw [show 0 * 7 = 0 from rfl] at hx119_5); (try rw [Addr.add_zero'] at hx119_5); (try rw [show ((0 : Int)).toNat = 0 from rfl] at hx119_6); (try rw [show 0 * 7 = 0 from rfl] at hx119_6); (try rw [Addr.add_zero'] at hx119_6); have HR119_6 := Aside0.mk hi119_6; have HC119_6 := Aside0.mk hl119_6; clear hi119_6 hl119_6; replace p119 := eq_true p119; replace q119 := eq_true q119; have ea_ := Option.some.inj (hx115_6.symm.trans hx119_6); injection ea_ with ea_ en_ ec_; subst ea_; subst ec_; clear en_; have hcz57_0 : w54.cell? ⟨gb114, 0, none⟩ = some (.int .i64 t111) := (blk_cell BK114.out 0).trans rfl; have hcz57_1 : w54.cell? ⟨gb114, 1, none⟩ = some (.int .i64 t112) := (blk_cell BK114.out 1).trans rfl; have hfz57_0 := blk_frozen BK114.out 0; have hfz57_1 := blk_frozen BK114.out 1))
         go_ret
         exact ⟨by first | rfl | (simp [errW_none, errW_some] <;> rfl) | (simp [*, errW_none, errW_some] <;> rfl) | (simp only [ne_nil_bool]; rfl), by repeat (first | (with_reducible first | exact HB.out | apply below_alloc | apply pw_below_drewN | apply below_drew1 | refine below_set ?_ GE106.out | refine below_set ?_ GE107.out | refine below_set ?_ GE113.out | refine below_set ?_ GE114.out) | exact HB.out)⟩
        ·
         replace c34 := Bool.eq_false_iff.mpr c34
         subst c34
         have H1 : (some false) = some r := by rw [if_neg (show ¬ (false = true) by decide)] at H; exact H
         exact absurd (Option.some.inj H1) (by rw [hT.out]; decide)
      ·
       rw [if_neg c8] at H
       exact absurd (Option.some.inj H) (by rw [hT.out]; decide)
     ·
      rw [if_neg c7] at H
      exact absurd (Option.some.inj H) (by rw [hT.out]; decide)
    ·
     rw [if_neg c6] at H
     exact absurd (Option.some.inj H) (by rw [hT.out]; decide)
   ·
    rw [if_neg c5] at H
    exact absurd H (by simp)
  ·
   rw [if_neg c4] at H
   exact absurd (Option.some.inj H) (by rw [hT.out]; decide)
 ·
  rw [if_neg c3] at H
  exact absurd (Option.some.inj H) (by rw [hT.out]; decide)
theorem pantrylaw09_anchor.yes : pantrylaw09_anchor.f = some true := by kernel_rfl
theorem pantrylaw09_anchor.calls (r : Bool) (w : World) (hG : GL w) (h : pantrylaw09_anchor.f = some r) :
    Calls Tryd.prog 8 #[] w fun e w' => e = .returned (.bool r) ∧ Below w.heap.size w w' :=
  pantrylaw09_anchor.callsT r ⟨Option.some.inj (h.symm.trans pantrylaw09_anchor.yes)⟩ w hG h
end Go.Proofs.YtcoaajkhfgakgaaDoor.Pr
end
