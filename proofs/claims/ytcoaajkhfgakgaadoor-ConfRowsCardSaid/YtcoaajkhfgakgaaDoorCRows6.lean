/- Part 6 of the proof of Rows: what the program's functions compute, and that it is so. Conditions: as each theorem states. (Packed out of our texts: PF17, XSame, XAlk, XPre, XTok, XCat, XSuf, XRowsLaw, PE0, XRead.) -/
import Derived.Test.YtcoaajkhfgakgaaDoorCRows5
section
namespace Go.Proofs.YtcoaajkhfgakgaaDoor.Pr
open Go.RowKit Go.Proofs.YtcoaajkhfgakgaaDoorW.PrintWords Go.Proofs.YtcoaajkhfgakgaaDoorW.PrintLast Go.Proofs.YtcoaajkhfgakgaaDoorW.PrintMore
attribute [local go_sem] max2_int min2_int max_two min_two max_three min_three max_four min_four   -- for this text's walks alone
set_option linter.unusedVariables false
set_option linter.unusedSimpArgs false
def pantryref09_Same.l0 : Nat → Int → List (S38) → List (S38) → Option (Bool)
  | 0, _, _, _ => none
  | k + 1, x5, x205000, x206000 => if x5 < (x205000.length : Int) then (if 0 ≤ x5 then (if x5 < (x206000.length : Int) then ((pantryref09_Alike.f k ((rd_T38 x205000 x5).f0) ((rd_T38 x205000 x5).f1) ((rd_T38 x205000 x5).f2) ((rd_T38 x205000 x5).f3) ((rd_T38 x205000 x5).f4) ((rd_T38 x205000 x5).f5) ((rd_T38 x205000 x5).f6) ((rd_T38 x206000 x5).f0) ((rd_T38 x206000 x5).f1) ((rd_T38 x206000 x5).f2) ((rd_T38 x206000 x5).f3) ((rd_T38 x206000 x5).f4) ((rd_T38 x206000 x5).f5) ((rd_T38 x206000 x5).f6)).bind fun t208 => (if t208 = true then (pantryref09_Same.l0 k (wrap64 (x5 + 1)) x205000 x206000) else (some false))) else (none)) else (none)) else (some true)
def pantryref09_Same.f (k : Nat) (l0_0 : List (S38)) (l1_0 : List (S38)) : Option (Bool) := if (l0_0.length : Int) = (l1_0.length : Int) then (pantryref09_Same.l0 k 0 l0_0 l1_0) else (some false)
theorem pantryref09_Same.mono_l : ∀ k, (∀ y0 y1 y2, LeO (pantryref09_Same.l0 k y0 y1 y2) (pantryref09_Same.l0 (k + 1) y0 y1 y2))
  | 0 => fun _ _ _ r h => by simp [pantryref09_Same.l0] at h
  | k + 1 => by
    have ih0 := pantryref09_Same.mono_l k
    · intro y0 y1 y2
      unfold pantryref09_Same.l0
      repeat' first
      | (with_reducible exact ih0 _ _ _)
      | (with_reducible exact pantryref09_Alike.mono _ _ _ _ _ _ _ _ _ _ _ _ _ _ _)
      | (with_reducible exact LeO.refl _)
      | (with_reducible exact LeO.none _)
      | (with_reducible refine LeO.ite ?_ ?_)
      | (with_reducible refine LeO.bind ?_ (fun _ => ?_))
      | exact ih0 _ _ _
      | exact pantryref09_Alike.mono _ _ _ _ _ _ _ _ _ _ _ _ _ _ _
      | exact LeO.none _
      | refine LeO.ite ?_ ?_
      | refine LeO.bind ?_ (fun _ => ?_)
theorem pantryref09_Same.mono : ∀ a0 a1 k, LeO (pantryref09_Same.f k a0 a1) (pantryref09_Same.f (k + 1) a0 a1) := by
  intro a0 a1 k
  have ih0 := pantryref09_Same.mono_l k
  unfold pantryref09_Same.f
  repeat' first
      | (with_reducible exact ih0 _ _ _)
      | (with_reducible exact pantryref09_Alike.mono _ _ _ _ _ _ _ _ _ _ _ _ _ _ _)
      | (with_reducible exact LeO.refl _)
      | (with_reducible exact LeO.none _)
      | (with_reducible refine LeO.ite ?_ ?_)
      | (with_reducible refine LeO.bind ?_ (fun _ => ?_))
      | exact ih0 _ _ _
      | exact pantryref09_Alike.mono _ _ _ _ _ _ _ _ _ _ _ _ _ _ _
      | exact LeO.none _
      | refine LeO.ite ?_ ?_
      | refine LeO.bind ?_ (fun _ => ?_)
def pantryref09_Same.T6 : Bool × List (List Nat × List Nat) := (true, [([], []), ([0], [0]), ([], []), ([1, 2], [1, 2]), ([3], [3]), ([], []), ([5], [5]), ([], []), ([6, 7], [6, 7]), ([8], [8]), ([4, 9], [4, 9]), ([10], [10])])
def pantryref09_Same.B6 : List Nat := [0, 1, 0, 7, 15, 0, 32, 0, 224, 480, 1023, 2047]
theorem pantryref09_Same.tab6 : rtab .any (opsOf Tryd.f17 6) = pantryref09_Same.T6 := by kernel_rfl
theorem pantryref09_Same.bits6 : waitsOk pantryref09_Same.T6.2 pantryref09_Same.B6 = true := by kernel_rfl
set_option maxHeartbeats 8000000 in
set_option maxRecDepth 100000 in
theorem pantryref09_Same.calls (k : Nat) (A0_0 : Option Addr) (c0_0 : Nat) (l0_0 : List (S38)) (A1_0 : Option Addr) (c1_0 : Nat) (l1_0 : List (S38)) (r : Bool) (w : World) (hr0_0 : Kd.C k38 w A0_0 l0_0.length l0_0) (hc0_0 : l0_0.length ≤ c0_0) (hr1_0 : Kd.C k38 w A1_0 l1_0.length l1_0) (hc1_0 : l1_0.length ≤ c1_0) (h : pantryref09_Same.f k l0_0 l1_0 = some r) :
    Calls Tryd.prog 17 #[.agg #[.slice A0_0 l0_0.length c0_0], .agg #[.slice A1_0 l1_0.length c1_0]] w fun e w' => e = .returned (.bool r) ∧ Below w.heap.size w w' := by
  have hu34 := Tryd.underlying34
  have hu38 := Tryd.underlying38
  have HR0_0 := Aside0.mk hr0_0
  have HC0_0 := Aside0.mk hc0_0
  clear hr0_0 hc0_0
  have HR1_0 := Aside0.mk hr1_0
  have HC1_0 := Aside0.mk hc1_0
  clear hr1_0 hc1_0
  have HB := Aside0.mk (Below.refl w.heap.size w)
  have H : (if (l0_0.length : Int) = (l1_0.length : Int) then (pantryref09_Same.l0 k 0 l0_0 l1_0) else (some false)) = some r := h
  clear h
  by_cases c3 : (l0_0.length : Int) = (l1_0.length : Int)
  · rw [if_pos c3] at H
    have c3b0 : ((l0_0.length : Int) == (l1_0.length : Int)) = true := beq_iff_eq.mpr c3
    have c3b1 : ((l0_0.length : Int) != (l1_0.length : Int)) = false := bne_eq_false_iff_eq.mpr c3
    have c3b2 : (l0_0.length == l1_0.length) = true := by first | simpa using c3 | (simp at c3 ⊢; omega)
    clear c3
    have H' := Aside0.mk H
    clear H
    go_enter Tryd.func17, Tryd.ntmps17
    go_wp2_with (first | ((with_reducible refine gate_dst (N := 2) rfl ?_); refine box_event ?hg (N := 2) ?hd (cs := #[.slice A0_0 l0_0.length c0_0]) (t := 34) ?hr ?_; (case hd => rfl); (case hg => rfl); (case hr => first | (go_simp; done) | (go_simp; rfl)); intro gb204 hg w4 hbox hb; have n0_ := Aside0.mk (below_step (by repeat (first | (with_reducible first | exact HB.out | apply below_alloc | apply pw_below_drewN | apply below_drew1) | exact HB.out)) hb); have n1_ := Aside0.mk (hbox); have n2_ := Aside0.mk ((by rw [hg]; exact (below_size (by repeat (first | (with_reducible first | exact HB.out | apply below_alloc | apply pw_below_drewN | apply below_drew1) | exact HB.out))) : w.heap.size ≤ gb204)); have n3_ := Aside0.mk ((by rw [hg]; exact (below_size (by repeat (first | (with_reducible first | exact HB.out | apply below_alloc | apply pw_below_drewN | apply below_drew1) | exact HB.out))) : w.heap.size ≤ gb204)); clear HB; have HB := n0_; have BK204 := n1_; have GW204 := n2_; have GE204 := n3_; clear n0_ n1_ n2_ n3_; clear hb hbox hg) | ((with_reducible refine gate_dst (N := 3) rfl ?_); refine box_event ?hg (N := 3) ?hd (cs := #[.slice A1_0 l1_0.length c1_0]) (t := 34) ?hr ?_; (case hd => rfl); (case hg => rfl); (case hr => first | (go_simp; done) | (go_simp; rfl)); intro gb205 hg w5 hbox hb; have n0_ := Aside0.mk (blk_below (g := gb204) (o := .cells #[.slice A0_0 l0_0.length c0_0] 34 (0, 0)) (by (with_reducible repeat (first | refine blk_drewN ?_ _ | refine blk_drew ?_ | refine blk_alloc ?_ _)); exact BK204.out) hb); have n1_ := Aside0.mk (below_step (by repeat (first | (with_reducible first | exact HB.out | apply below_alloc | apply pw_below_drewN | apply below_drew1 | refine below_set ?_ GE204.out) | exact HB.out)) hb); have n2_ := Aside0.mk (hbox); have n3_ := Aside0.mk ((by rw [hg]; exact (below_size (by repeat (first | (with_reducible first | exact HB.out | apply below_alloc | apply pw_below_drewN | apply below_drew1 | refine below_set ?_ GE204.out) | exact HB.out))) : w.heap.size ≤ gb205)); have n4_ := Aside0.mk ((by rw [hg]; exact (below_size (by repeat (first | (with_reducible first | exact HB.out | apply below_alloc | apply pw_below_drewN | apply below_drew1 | refine below_set ?_ GE204.out) | exact HB.out))) : w.heap.size ≤ gb205)); have n5_ := Aside0.mk ((by rw [hg]; exact Nat.ne_of_lt (blk_lt (g := gb204) (o := .cells #[.slice A0_0 l0_0.length c0_0] 34 (0, 0)) (by (with_reducible repeat (first | refine blk_drewN ?_ _ | refine blk_drew ?_ | refine blk_alloc ?_ _)); exact BK204.out)) : gb204 ≠ gb205)); have n6_ := Aside0.mk ((by rw [hg]; exact Nat.ne_of_gt (blk_lt (g := gb204) (o := .cells #[.slice A0_0 l0_0.length c0_0] 34 (0, 0)) (by (with_reducible repeat (first | refine blk_drewN ?_ _ | refine blk_drew ?_ | refine blk_alloc ?_ _)); exact BK204.out)) : gb205 ≠ gb204)); clear BK204; clear HB; have BK204 := n0_; have HB := n1_; have BK205 := n2_; have GW205 := n3_; have GE205 := n4_; have NB204_205 := n5_; have NB205_204 := n6_; clear n0_ n1_ n2_ n3_ n4_ n5_ n6_; clear hb hbox hg; have hnb6 := NB204_205.out; have hnc6 := NB205_204.out; have hcz7_0 : w5.cell? ⟨gb204, 0, none⟩ = some (.slice A0_0 l0_0.length c0_0) := (blk_cell BK204.out 0).trans rfl; have hfz7_0 := blk_frozen BK204.out 0; have hcz8_0 : w5.cell? ⟨gb205, 0, none⟩ = some (.slice A1_0 l1_0.length c1_0) := (blk_cell BK205.out 0).trans rfl; have hfz8_0 := blk_frozen BK205.out 0))
    go_loopg [5] k (fun kq v5 w' => ∃ (x5_1 : Int), v5 = .int .i64 x5_1 ∧ Aside0 (pantryref09_Same.l0 kq x5_1 l0_0 l1_0 = some r) ∧ Aside0 (kq ≤ k) ∧ Aside0 (w'.heap[gb204]? = some (.cells #[(.slice A0_0 l0_0.length c0_0)] 34 (0, 0))) ∧ Aside0 (w'.heap[gb205]? = some (.cells #[(.slice A1_0 l1_0.length c1_0)] 34 (0, 0))) ∧ Aside0 (Below w.heap.size w w'))
    case atStart => exact ⟨(0), (by first | rfl | (simp; done) | (simp [*]; done)), H', ⟨Nat.le_refl _⟩, ⟨by (with_reducible repeat (first | refine blk_drewN ?_ _ | refine blk_drew ?_ | refine blk_alloc ?_ _)); exact BK204.out⟩, ⟨by (with_reducible repeat (first | refine blk_drewN ?_ _ | refine blk_drew ?_ | refine blk_alloc ?_ _)); exact BK205.out⟩, ⟨by repeat (first | (with_reducible first | exact HB.out | apply below_alloc | apply pw_below_drewN | apply below_drew1 | refine below_set ?_ GE204.out | refine below_set ?_ GE205.out) | exact HB.out)⟩⟩
    case round =>
      clear H'
      try clear c1
      try clear p2
      try clear c3
      try clear c3b0
      try clear c3b1
      try clear c3b2
      try clear c6
      try clear hcz7_0
      try clear hcz8_0
      try clear hfz7_0
      try clear hfz8_0
      obtain ⟨x5_1, rfl, HA, HK1, BK204, BK205, HB⟩ := hrel
      cases gk with
      | zero => exact absurd HA.out (by simp [pantryref09_Same.l0])
      | succ k1 =>
        have H := HA.out
        clear HA
        simp only [pantryref09_Same.l0] at H
        by_cases c9 : x5_1 < (l0_0.length : Int)
        · rw [if_pos c9] at H
          have c9b0 : decide (x5_1 < (l0_0.length : Int)) = true := decide_eq_true c9
          clear c9
          by_cases c10 : 0 ≤ x5_1
          · rw [if_pos c10] at H
            have c10b0 : decide (0 ≤ x5_1) = true := decide_eq_true c10
            clear c10
            by_cases c11 : x5_1 < (l1_0.length : Int)
            · rw [if_pos c11] at H
              have c11b0 : decide (x5_1 < (l1_0.length : Int)) = true := decide_eq_true c11
              clear c11
              replace H := Option.bind_eq_some_iff.mp H
              obtain ⟨t208, A120, H⟩ := H
              replace H : (if t208 = true then (pantryref09_Same.l0 k1 (wrap64 (x5_1 + 1)) l0_0 l1_0) else (some false)) = some r := H
              have A12 := Aside0.mk A120
              clear A120
              by_cases c13 : t208 = true
              · subst c13
                have H1 : (pantryref09_Same.l0 k1 (wrap64 (x5_1 + 1)) l0_0 l1_0) = some r := by rw [if_pos rfl] at H; exact H
                clear H
                have H := H1
                clear H1
                have H' := Aside0.mk H
                clear H
                have hnb14 := NB204_205.out
                have hnc14 := NB205_204.out
                have hcz15_0 : wr.cell? ⟨gb204, 0, none⟩ = some (.slice A0_0 l0_0.length c0_0) := (blk_cell BK204.out 0).trans rfl
                have hfz15_0 := blk_frozen BK204.out 0
                try go_wp2
                have n0_ := Aside0.mk (blk_drew BK204.out)
                have n1_ := Aside0.mk (blk_drew BK205.out)
                have n2_ := Aside0.mk (below_drew1 HB.out)
                clear BK204
                clear BK205
                clear HB
                have BK204 := n0_
                have BK205 := n1_
                have HB := n2_
                clear n0_ n1_ n2_
                have p206 : 0 ≤ (x5_1 : Int) := of_decide_eq_true (by first | (with_reducible assumption) | assumption)
                have q206 : x5_1 < (l0_0.length : Int) := of_decide_eq_true (by first | (with_reducible assumption) | assumption)
                obtain ⟨ad206, A206_6, c206_6, e206, hx206_0, hx206_1, hx206_2, hx206_3, hx206_4, hx206_5, hx206_6, hl206_6, hi206_6⟩ := at_T38 HR0_0.out x5_1 p206 q206
                have hw206_6 := hx206_6
                have hw206_5 := hx206_5
                have hw206_4 := hx206_4
                have hw206_3 := hx206_3
                have hw206_2 := hx206_2
                have hw206_1 := hx206_1
                have hw206_0 := hx206_0
                cases e206
                replace hx206_0 := (HB.out.cell (World.block_lt_of_cell? w _ hx206_0)).trans hx206_0
                replace hx206_1 := (HB.out.cell (World.block_lt_of_cell? w _ hx206_1)).trans hx206_1
                replace hx206_2 := (HB.out.cell (World.block_lt_of_cell? w _ hx206_2)).trans hx206_2
                replace hx206_3 := (HB.out.cell (World.block_lt_of_cell? w _ hx206_3)).trans hx206_3
                replace hx206_4 := (HB.out.cell (World.block_lt_of_cell? w _ hx206_4)).trans hx206_4
                replace hx206_5 := (HB.out.cell (World.block_lt_of_cell? w _ hx206_5)).trans hx206_5
                replace hx206_6 := (HB.out.cell (World.block_lt_of_cell? w _ hx206_6)).trans hx206_6
                have HR206_6 := Aside0.mk hi206_6
                have HC206_6 := Aside0.mk hl206_6
                clear hi206_6 hl206_6
                replace p206 := eq_true p206
                replace q206 := eq_true q206
                have p207 : 0 ≤ (x5_1 : Int) := of_decide_eq_true (by first | (with_reducible assumption) | assumption)
                have q207 : x5_1 < (l1_0.length : Int) := of_decide_eq_true (by first | (with_reducible assumption) | assumption)
                obtain ⟨ad207, A207_6, c207_6, e207, hx207_0, hx207_1, hx207_2, hx207_3, hx207_4, hx207_5, hx207_6, hl207_6, hi207_6⟩ := at_T38 HR1_0.out x5_1 p207 q207
                have hw207_6 := hx207_6
                have hw207_5 := hx207_5
                have hw207_4 := hx207_4
                have hw207_3 := hx207_3
                have hw207_2 := hx207_2
                have hw207_1 := hx207_1
                have hw207_0 := hx207_0
                cases e207
                replace hx207_0 := (HB.out.cell (World.block_lt_of_cell? w _ hx207_0)).trans hx207_0
                replace hx207_1 := (HB.out.cell (World.block_lt_of_cell? w _ hx207_1)).trans hx207_1
                replace hx207_2 := (HB.out.cell (World.block_lt_of_cell? w _ hx207_2)).trans hx207_2
                replace hx207_3 := (HB.out.cell (World.block_lt_of_cell? w _ hx207_3)).trans hx207_3
                replace hx207_4 := (HB.out.cell (World.block_lt_of_cell? w _ hx207_4)).trans hx207_4
                replace hx207_5 := (HB.out.cell (World.block_lt_of_cell? w _ hx207_5)).trans hx207_5
                replace hx207_6 := (HB.out.cell (World.block_lt_of_cell? w _ hx207_6)).trans hx207_6
                have HR207_6 := Aside0.mk hi207_6
                have HC207_6 := Aside0.mk hl207_6
                clear hi207_6 hl207_6
                replace p207 := eq_true p207
                replace q207 := eq_true q207
                refine start_ (n := 12) (S := fun w' => w'.cell? ⟨gb204, 0, none⟩ = some (.slice (some ad206) l0_0.length c0_0) ∧ w'.cell? ⟨gb205, 0, none⟩ = some (.slice (some ad207) l1_0.length c1_0) ∧ w'.cell? (ad206.add ((x5_1).toNat * 7)) = some (.string ((rd_T38 l0_0 x5_1).f0)) ∧ w'.cell? ⟨(ad206.add ((x5_1).toNat * 7)).block, (ad206.add ((x5_1).toNat * 7)).off + 1, none⟩ = some (.int .i64 ((rd_T38 l0_0 x5_1).f1)) ∧ w'.cell? ⟨(ad206.add ((x5_1).toNat * 7)).block, (ad206.add ((x5_1).toNat * 7)).off + 2, none⟩ = some (.int .i64 ((rd_T38 l0_0 x5_1).f2)) ∧ w'.cell? ⟨(ad206.add ((x5_1).toNat * 7)).block, (ad206.add ((x5_1).toNat * 7)).off + 3, none⟩ = some (.int .i64 ((rd_T38 l0_0 x5_1).f3)) ∧ w'.cell? ⟨(ad206.add ((x5_1).toNat * 7)).block, (ad206.add ((x5_1).toNat * 7)).off + 4, none⟩ = some (.bool ((rd_T38 l0_0 x5_1).f4)) ∧ w'.cell? ⟨(ad206.add ((x5_1).toNat * 7)).block, (ad206.add ((x5_1).toNat * 7)).off + 5, none⟩ = some (.bool ((rd_T38 l0_0 x5_1).f5)) ∧ w'.cell? ⟨(ad206.add ((x5_1).toNat * 7)).block, (ad206.add ((x5_1).toNat * 7)).off + 6, none⟩ = some (.slice A206_6 ((rd_T38 l0_0 x5_1).f6).length c206_6) ∧ w'.cell? (ad207.add ((x5_1).toNat * 7)) = some (.string ((rd_T38 l1_0 x5_1).f0)) ∧ w'.cell? ⟨(ad207.add ((x5_1).toNat * 7)).block, (ad207.add ((x5_1).toNat * 7)).off + 1, none⟩ = some (.int .i64 ((rd_T38 l1_0 x5_1).f1)) ∧ w'.cell? ⟨(ad207.add ((x5_1).toNat * 7)).block, (ad207.add ((x5_1).toNat * 7)).off + 2, none⟩ = some (.int .i64 ((rd_T38 l1_0 x5_1).f2)) ∧ w'.cell? ⟨(ad207.add ((x5_1).toNat * 7)).block, (ad207.add ((x5_1).toNat * 7)).off + 3, none⟩ = some (.int .i64 ((rd_T38 l1_0 x5_1).f3)) ∧ w'.cell? ⟨(ad207.add ((x5_1).toNat * 7)).block, (ad207.add ((x5_1).toNat * 7)).off + 4, none⟩ = some (.bool ((rd_T38 l1_0 x5_1).f4)) ∧ w'.cell? ⟨(ad207.add ((x5_1).toNat * 7)).block, (ad207.add ((x5_1).toNat * 7)).off + 5, none⟩ = some (.bool ((rd_T38 l1_0 x5_1).f5)) ∧ w'.cell? ⟨(ad207.add ((x5_1).toNat * 7)).block, (ad207.add ((x5_1).toNat * 7)).off + 6, none⟩ = some (.slice A207_6 ((rd_T38 l1_0 x5_1).f6).length c207_6)) (ds := []) #[false, false, false, false, false, false, false, false, false, false, false, false] (by kernel_rfl) rfl rfl ⟨(blk_cell BK204.out 0).trans rfl, (blk_cell BK205.out 0).trans rfl, ((HB.out.cell (World.block_lt_of_cell? w _ hw206_0)).trans hw206_0), ((HB.out.cell (World.block_lt_of_cell? w _ hw206_1)).trans hw206_1), ((HB.out.cell (World.block_lt_of_cell? w _ hw206_2)).trans hw206_2), ((HB.out.cell (World.block_lt_of_cell? w _ hw206_3)).trans hw206_3), ((HB.out.cell (World.block_lt_of_cell? w _ hw206_4)).trans hw206_4), ((HB.out.cell (World.block_lt_of_cell? w _ hw206_5)).trans hw206_5), ((HB.out.cell (World.block_lt_of_cell? w _ hw206_6)).trans hw206_6), ((HB.out.cell (World.block_lt_of_cell? w _ hw207_0)).trans hw207_0), ((HB.out.cell (World.block_lt_of_cell? w _ hw207_1)).trans hw207_1), ((HB.out.cell (World.block_lt_of_cell? w _ hw207_2)).trans hw207_2), ((HB.out.cell (World.block_lt_of_cell? w _ hw207_3)).trans hw207_3), ((HB.out.cell (World.block_lt_of_cell? w _ hw207_4)).trans hw207_4), ((HB.out.cell (World.block_lt_of_cell? w _ hw207_5)).trans hw207_5), ((HB.out.cell (World.block_lt_of_cell? w _ hw207_6)).trans hw207_6)⟩ (fun hHeld => ?_); refine with_tabW pantryref09_Same.tab6 pantryref09_Same.bits6 (fun HT_ HW_ => ?_)
                generalize wr.drew = w16 at BK204 BK205 HB HR206_6 HR207_6 hx206_0 hx206_1 hx206_2 hx206_3 hx206_4 hx206_5 hx206_6 hx207_0 hx207_1 hx207_2 hx207_3 hx207_4 hx207_5 hx207_6 hHeld ⊢
                refine pure_ (i := 0) (N := some 20) (v := ?_) (a' := ?_) #[true, false, false, false, false, false, false, false, false, false, false, false] rfl rfl (any_of HT_.out (by kernel_rfl)) (fun _ _ _ h => h) (Or.inl ⟨by rfl, ?_⟩) ?_ ?_
                rotate_left
                · intro w'
                  go_simp
                  with_reducible rfl
                rotate_left
                · simp only [Act.put, List.setIfInBounds_toArray, List.set_cons_zero, List.set_cons_succ, i64_w, i32_w]
                  rfl
                refine pure_ (i := 2) (N := some 22) (v := ?_) (a' := ?_) #[true, false, true, false, false, false, false, false, false, false, false, false] rfl rfl (any_of HT_.out (by kernel_rfl)) (fun _ _ _ h => h) (Or.inl ⟨by rfl, ?_⟩) ?_ ?_
                rotate_left
                · intro w'
                  go_simp
                  with_reducible rfl
                rotate_left
                · simp only [Act.put, List.setIfInBounds_toArray, List.set_cons_zero, List.set_cons_succ, i64_w, i32_w]
                  rfl
                refine pure_ (i := 5) (N := some 25) (v := ?_) (a' := ?_) #[true, false, true, false, false, true, false, false, false, false, false, false] rfl rfl (any_of HT_.out (by kernel_rfl)) (fun _ _ _ h => h) (Or.inl ⟨by rfl, ?_⟩) ?_ ?_
                rotate_left
                · intro w'
                  go_simp
                  with_reducible rfl
                rotate_left
                · simp only [Act.put, List.setIfInBounds_toArray, List.set_cons_zero, List.set_cons_succ, i64_w, i32_w]
                  rfl
                refine pure_ (i := 7) (N := some 27) (v := ?_) (a' := ?_) #[true, false, true, false, false, true, false, true, false, false, false, false] rfl rfl (any_of HT_.out (by kernel_rfl)) (fun _ _ _ h => h) (Or.inl ⟨by rfl, ?_⟩) ?_ ?_
                rotate_left
                · intro w'
                  go_simp
                  with_reducible rfl
                rotate_left
                · simp only [Act.put, List.setIfInBounds_toArray, List.set_cons_zero, List.set_cons_succ, i64_w, i32_w]
                  rfl
                refine take_ (i := 1) (N := some 21) (v := ?_) (a' := ?_) #[true, true, true, false, false, true, false, true, false, false, false, false] rfl rfl (take_ofW HT_.out HW_.out (by kernel_rfl)) (fun _ _ _ h => h) (Or.inl ⟨by rfl, ?_⟩) hHeld ?_ ?_
                rotate_left
                · rintro w' ⟨s0, s1, s2, s3, s4, s5, s6, s7, s8, s9, s10, s11, s12, s13, s14, s15⟩
                  go_simp
                  with_reducible rfl
                rotate_left
                · simp only [Act.put, List.setIfInBounds_toArray, List.set_cons_zero, List.set_cons_succ, i64_w, i32_w]
                  rfl
                refine pure_ (i := 3) (N := some 23) (v := ?_) (a' := ?_) #[true, true, true, true, false, true, false, true, false, false, false, false] rfl rfl (any_of HT_.out (by kernel_rfl)) (fun _ _ _ h => h) (Or.inl ⟨by rfl, ?_⟩) ?_ ?_
                rotate_left
                · intro w'
                  go_simp
                  with_reducible rfl
                rotate_left
                · simp only [Act.put, List.setIfInBounds_toArray, List.set_cons_zero, List.set_cons_succ, i64_w, i32_w]
                  rfl
                refine take_ (i := 4) (N := some 24) (v := ?_) (a' := ?_) #[true, true, true, true, true, true, false, true, false, false, false, false] rfl rfl (take_ofW HT_.out HW_.out (by kernel_rfl)) (fun _ _ _ h => h) (Or.inl ⟨by rfl, ?_⟩) hHeld ?_ ?_
                rotate_left
                · rintro w' ⟨s0, s1, s2, s3, s4, s5, s6, s7, s8, s9, s10, s11, s12, s13, s14, s15⟩
                  go_simp
                  with_reducible rfl
                rotate_left
                · simp only [Act.put, List.setIfInBounds_toArray, List.set_cons_zero, List.set_cons_succ, i64_w, i32_w]
                  rfl
                refine take_ (i := 6) (N := some 26) (v := ?_) (a' := ?_) #[true, true, true, true, true, true, true, true, false, false, false, false] rfl rfl (take_ofW HT_.out HW_.out (by kernel_rfl)) (fun _ _ _ h => h) (Or.inl ⟨by rfl, ?_⟩) hHeld ?_ ?_
                rotate_left
                · rintro w' ⟨s0, s1, s2, s3, s4, s5, s6, s7, s8, s9, s10, s11, s12, s13, s14, s15⟩
                  go_simp
                  with_reducible rfl
                rotate_left
                · simp only [Act.put, List.setIfInBounds_toArray, List.set_cons_zero, List.set_cons_succ, i64_w, i32_w]
                  rfl
                refine pure_ (i := 8) (N := some 28) (v := ?_) (a' := ?_) #[true, true, true, true, true, true, true, true, true, false, false, false] rfl rfl (any_of HT_.out (by kernel_rfl)) (fun _ _ _ h => h) (Or.inl ⟨by rfl, ?_⟩) ?_ ?_
                rotate_left
                · intro w'
                  go_simp
                  with_reducible rfl
                rotate_left
                · simp only [Act.put, List.setIfInBounds_toArray, List.set_cons_zero, List.set_cons_succ, i64_w, i32_w]
                  rfl
                refine take_ (i := 9) (N := some 29) (v := ?_) (a' := ?_) #[true, true, true, true, true, true, true, true, true, true, false, false] rfl rfl (take_ofW HT_.out HW_.out (by kernel_rfl)) (fun _ _ _ h => h) (Or.inl ⟨by rfl, ?_⟩) hHeld ?_ ?_
                rotate_left
                · rintro w' ⟨s0, s1, s2, s3, s4, s5, s6, s7, s8, s9, s10, s11, s12, s13, s14, s15⟩
                  go_simp
                  with_reducible rfl
                rotate_left
                · simp only [Act.put, List.setIfInBounds_toArray, List.set_cons_zero, List.set_cons_succ, i64_w, i32_w]
                  rfl
                refine one_ (i := 10) (N := some 30) #[true, true, true, true, true, true, true, true, true, true, true, false] rfl rfl (one_of HT_.out (by kernel_rfl)) (by decide) (fun K hK => ?_)
                refine goes_ Tryd.func13 (by kernel_rfl) rfl #[.agg #[.string ((rd_T38 l0_0 x5_1).f0), .int .i64 ((rd_T38 l0_0 x5_1).f1), .int .i64 ((rd_T38 l0_0 x5_1).f2), .int .i64 ((rd_T38 l0_0 x5_1).f3), .bool ((rd_T38 l0_0 x5_1).f4), .bool ((rd_T38 l0_0 x5_1).f5), .slice A206_6 ((rd_T38 l0_0 x5_1).f6).length c206_6], .agg #[.string ((rd_T38 l1_0 x5_1).f0), .int .i64 ((rd_T38 l1_0 x5_1).f1), .int .i64 ((rd_T38 l1_0 x5_1).f2), .int .i64 ((rd_T38 l1_0 x5_1).f3), .bool ((rd_T38 l1_0 x5_1).f4), .bool ((rd_T38 l1_0 x5_1).f5), .slice A207_6 ((rd_T38 l1_0 x5_1).f6).length c207_6]] (by rfl) rfl rfl (by (try simp only [List.map_toArray, List.map_cons, List.map_nil]); first | done | rfl | (simp only [List.length_drop, List.length_take]; rfl)) ?_
                with_reducible refine (pantryref09_Alike.calls k1 ((rd_T38 l0_0 x5_1).f0) ((rd_T38 l0_0 x5_1).f1) ((rd_T38 l0_0 x5_1).f2) ((rd_T38 l0_0 x5_1).f3) ((rd_T38 l0_0 x5_1).f4) ((rd_T38 l0_0 x5_1).f5) _ _ ((rd_T38 l0_0 x5_1).f6) ((rd_T38 l1_0 x5_1).f0) ((rd_T38 l1_0 x5_1).f1) ((rd_T38 l1_0 x5_1).f2) ((rd_T38 l1_0 x5_1).f3) ((rd_T38 l1_0 x5_1).f4) ((rd_T38 l1_0 x5_1).f5) _ _ ((rd_T38 l1_0 x5_1).f6) true _ ?side1 ?side2 ?side3 ?side4 A12.out).mono ?_
                (case side1 => repeat (first | exact (Kd.C_below HR206_6.out HB.out) | (with_reducible refine Kd.C_alloc ?_ _) | (with_reducible refine Kd.C_drewN ?_ _) | (with_reducible refine Kd.C_drew ?_)))
                (case side2 => exact HC206_6.out)
                (case side3 => repeat (first | exact (Kd.C_below HR207_6.out HB.out) | (with_reducible refine Kd.C_alloc ?_ _) | (with_reducible refine Kd.C_drewN ?_ _) | (with_reducible refine Kd.C_drew ?_)))
                (case side4 => exact HC207_6.out)
                rintro e w17 ⟨rfl, hb⟩
                refine ⟨_, rfl, ?_⟩
                have n0_ := Aside0.mk (blk_below (g := gb204) (o := .cells #[.slice (some ad206) l0_0.length c0_0] 34 (0, 0)) (by (with_reducible repeat (first | refine blk_drewN ?_ _ | refine blk_drew ?_ | refine blk_alloc ?_ _)); exact BK204.out) hb)
                have n1_ := Aside0.mk (blk_below (g := gb205) (o := .cells #[.slice (some ad207) l1_0.length c1_0] 34 (0, 0)) (by (with_reducible repeat (first | refine blk_drewN ?_ _ | refine blk_drew ?_ | refine blk_alloc ?_ _)); exact BK205.out) hb)
                have n2_ := Aside0.mk (below_step (by repeat (first | (with_reducible first | exact HB.out | apply below_alloc | apply pw_below_drewN | apply below_drew1 | refine below_set ?_ GE204.out | refine below_set ?_ GE205.out) | exact HB.out)) hb)
                clear BK204
                clear BK205
                clear HB
                have BK204 := n0_
                have BK205 := n1_
                have HB := n2_
                clear n0_ n1_ n2_
                (try clear hb)
                (try clear hb2)
                (try clear hk)
                (try clear hi)
                refine hK.out _ _ ⟨(blk_cell BK204.out 0).trans rfl, (blk_cell BK205.out 0).trans rfl, ((HB.out.cell (World.block_lt_of_cell? w _ hw206_0)).trans hw206_0), ((HB.out.cell (World.block_lt_of_cell? w _ hw206_1)).trans hw206_1), ((HB.out.cell (World.block_lt_of_cell? w _ hw206_2)).trans hw206_2), ((HB.out.cell (World.block_lt_of_cell? w _ hw206_3)).trans hw206_3), ((HB.out.cell (World.block_lt_of_cell? w _ hw206_4)).trans hw206_4), ((HB.out.cell (World.block_lt_of_cell? w _ hw206_5)).trans hw206_5), ((HB.out.cell (World.block_lt_of_cell? w _ hw206_6)).trans hw206_6), ((HB.out.cell (World.block_lt_of_cell? w _ hw207_0)).trans hw207_0), ((HB.out.cell (World.block_lt_of_cell? w _ hw207_1)).trans hw207_1), ((HB.out.cell (World.block_lt_of_cell? w _ hw207_2)).trans hw207_2), ((HB.out.cell (World.block_lt_of_cell? w _ hw207_3)).trans hw207_3), ((HB.out.cell (World.block_lt_of_cell? w _ hw207_4)).trans hw207_4), ((HB.out.cell (World.block_lt_of_cell? w _ hw207_5)).trans hw207_5), ((HB.out.cell (World.block_lt_of_cell? w _ hw207_6)).trans hw207_6)⟩ (fun hHeld => ?_)
                clear hK K
                refine norm_ (a' := ?_) ?_ ?_
                rotate_left
                · show Act.put _ (some 30) _ = _
                  simp only [Act.put, List.setIfInBounds_toArray, List.set_cons_zero, List.set_cons_succ, i64_w, i32_w]
                  rfl
                refine pure_ (i := 11) (N := some 31) (v := ?_) (a' := ?_) #[true, true, true, true, true, true, true, true, true, true, true, true] rfl rfl (any_of HT_.out (by kernel_rfl)) (fun _ _ _ h => h) (Or.inl ⟨by rfl, ?_⟩) ?_ ?_
                rotate_left
                · intro w'
                  go_simp
                  with_reducible rfl
                rotate_left
                · simp only [Act.put, List.setIfInBounds_toArray, List.set_cons_zero, List.set_cons_succ, i64_w, i32_w]
                  rfl
                refine done_ (done_of HT_.out (by kernel_rfl)) ?_
                try go_wp2
                go_roundg k1
                case measure => have := HK1.out; omega
                case rel => exact ⟨(wrap64 (x5_1 + 1)), (by first | rfl | (simp; done) | (simp [*]; done)), H', ⟨by have := HK1.out; omega⟩, ⟨by (with_reducible repeat (first | refine blk_drewN ?_ _ | refine blk_drew ?_ | refine blk_alloc ?_ _)); exact BK204.out⟩, ⟨by (with_reducible repeat (first | refine blk_drewN ?_ _ | refine blk_drew ?_ | refine blk_alloc ?_ _)); exact BK205.out⟩, ⟨by repeat (first | (with_reducible first | exact HB.out | apply below_alloc | apply pw_below_drewN | apply below_drew1 | refine below_set ?_ GE204.out | refine below_set ?_ GE205.out) | exact HB.out)⟩⟩
              · replace c13 := Bool.eq_false_iff.mpr c13
                subst c13
                have H1 : (some false) = some r := by rw [if_neg (show ¬ (false = true) by decide)] at H; exact H
                clear H
                have H := H1
                clear H1
                obtain rfl := Option.some.inj H
                have hnb18 := NB204_205.out
                have hnc18 := NB205_204.out
                have hcz19_0 : wr.cell? ⟨gb204, 0, none⟩ = some (.slice A0_0 l0_0.length c0_0) := (blk_cell BK204.out 0).trans rfl
                have hfz19_0 := blk_frozen BK204.out 0
                try go_wp2
                have n0_ := Aside0.mk (blk_drew BK204.out)
                have n1_ := Aside0.mk (blk_drew BK205.out)
                have n2_ := Aside0.mk (below_drew1 HB.out)
                clear BK204
                clear BK205
                clear HB
                have BK204 := n0_
                have BK205 := n1_
                have HB := n2_
                clear n0_ n1_ n2_
                have p206 : 0 ≤ (x5_1 : Int) := of_decide_eq_true (by first | (with_reducible assumption) | assumption)
                have q206 : x5_1 < (l0_0.length : Int) := of_decide_eq_true (by first | (with_reducible assumption) | assumption)
                obtain ⟨ad206, A206_6, c206_6, e206, hx206_0, hx206_1, hx206_2, hx206_3, hx206_4, hx206_5, hx206_6, hl206_6, hi206_6⟩ := at_T38 HR0_0.out x5_1 p206 q206
                have hw206_6 := hx206_6
                have hw206_5 := hx206_5
                have hw206_4 := hx206_4
                have hw206_3 := hx206_3
                have hw206_2 := hx206_2
                have hw206_1 := hx206_1
                have hw206_0 := hx206_0
                cases e206
                replace hx206_0 := (HB.out.cell (World.block_lt_of_cell? w _ hx206_0)).trans hx206_0
                replace hx206_1 := (HB.out.cell (World.block_lt_of_cell? w _ hx206_1)).trans hx206_1
                replace hx206_2 := (HB.out.cell (World.block_lt_of_cell? w _ hx206_2)).trans hx206_2
                replace hx206_3 := (HB.out.cell (World.block_lt_of_cell? w _ hx206_3)).trans hx206_3
                replace hx206_4 := (HB.out.cell (World.block_lt_of_cell? w _ hx206_4)).trans hx206_4
                replace hx206_5 := (HB.out.cell (World.block_lt_of_cell? w _ hx206_5)).trans hx206_5
                replace hx206_6 := (HB.out.cell (World.block_lt_of_cell? w _ hx206_6)).trans hx206_6
                have HR206_6 := Aside0.mk hi206_6
                have HC206_6 := Aside0.mk hl206_6
                clear hi206_6 hl206_6
                replace p206 := eq_true p206
                replace q206 := eq_true q206
                have p207 : 0 ≤ (x5_1 : Int) := of_decide_eq_true (by first | (with_reducible assumption) | assumption)
                have q207 : x5_1 < (l1_0.length : Int) := of_decide_eq_true (by first | (with_reducible assumption) | assumption)
                obtain ⟨ad207, A207_6, c207_6, e207, hx207_0, hx207_1, hx207_2, hx207_3, hx207_4, hx207_5, hx207_6, hl207_6, hi207_6⟩ := at_T38 HR1_0.out x5_1 p207 q207
                have hw207_6 := hx207_6
                have hw207_5 := hx207_5
                have hw207_4 := hx207_4
                have hw207_3 := hx207_3
                have hw207_2 := hx207_2
                have hw207_1 := hx207_1
                have hw207_0 := hx207_0
                cases e207
                replace hx207_0 := (HB.out.cell (World.block_lt_of_cell? w _ hx207_0)).trans hx207_0
                replace hx207_1 := (HB.out.cell (World.block_lt_of_cell? w _ hx207_1)).trans hx207_1
                replace hx207_2 := (HB.out.cell (World.block_lt_of_cell? w _ hx207_2)).trans hx207_2
                replace hx207_3 := (HB.out.cell (World.block_lt_of_cell? w _ hx207_3)).trans hx207_3
                replace hx207_4 := (HB.out.cell (World.block_lt_of_cell? w _ hx207_4)).trans hx207_4
                replace hx207_5 := (HB.out.cell (World.block_lt_of_cell? w _ hx207_5)).trans hx207_5
                replace hx207_6 := (HB.out.cell (World.block_lt_of_cell? w _ hx207_6)).trans hx207_6
                have HR207_6 := Aside0.mk hi207_6
                have HC207_6 := Aside0.mk hl207_6
                clear hi207_6 hl207_6
                replace p207 := eq_true p207
                replace q207 := eq_true q207
                refine start_ (n := 12) (S := fun w' => w'.cell? ⟨gb204, 0, none⟩ = some (.slice (some ad206) l0_0.length c0_0) ∧ w'.cell? ⟨gb205, 0, none⟩ = some (.slice (some ad207) l1_0.length c1_0) ∧ w'.cell? (ad206.add ((x5_1).toNat * 7)) = some (.string ((rd_T38 l0_0 x5_1).f0)) ∧ w'.cell? ⟨(ad206.add ((x5_1).toNat * 7)).block, (ad206.add ((x5_1).toNat * 7)).off + 1, none⟩ = some (.int .i64 ((rd_T38 l0_0 x5_1).f1)) ∧ w'.cell? ⟨(ad206.add ((x5_1).toNat * 7)).block, (ad206.add ((x5_1).toNat * 7)).off + 2, none⟩ = some (.int .i64 ((rd_T38 l0_0 x5_1).f2)) ∧ w'.cell? ⟨(ad206.add ((x5_1).toNat * 7)).block, (ad206.add ((x5_1).toNat * 7)).off + 3, none⟩ = some (.int .i64 ((rd_T38 l0_0 x5_1).f3)) ∧ w'.cell? ⟨(ad206.add ((x5_1).toNat * 7)).block, (ad206.add ((x5_1).toNat * 7)).off + 4, none⟩ = some (.bool ((rd_T38 l0_0 x5_1).f4)) ∧ w'.cell? ⟨(ad206.add ((x5_1).toNat * 7)).block, (ad206.add ((x5_1).toNat * 7)).off + 5, none⟩ = some (.bool ((rd_T38 l0_0 x5_1).f5)) ∧ w'.cell? ⟨(ad206.add ((x5_1).toNat * 7)).block, (ad206.add ((x5_1).toNat * 7)).off + 6, none⟩ = some (.slice A206_6 ((rd_T38 l0_0 x5_1).f6).length c206_6) ∧ w'.cell? (ad207.add ((x5_1).toNat * 7)) = some (.string ((rd_T38 l1_0 x5_1).f0)) ∧ w'.cell? ⟨(ad207.add ((x5_1).toNat * 7)).block, (ad207.add ((x5_1).toNat * 7)).off + 1, none⟩ = some (.int .i64 ((rd_T38 l1_0 x5_1).f1)) ∧ w'.cell? ⟨(ad207.add ((x5_1).toNat * 7)).block, (ad207.add ((x5_1).toNat * 7)).off + 2, none⟩ = some (.int .i64 ((rd_T38 l1_0 x5_1).f2)) ∧ w'.cell? ⟨(ad207.add ((x5_1).toNat * 7)).block, (ad207.add ((x5_1).toNat * 7)).off + 3, none⟩ = some (.int .i64 ((rd_T38 l1_0 x5_1).f3)) ∧ w'.cell? ⟨(ad207.add ((x5_1).toNat * 7)).block, (ad207.add ((x5_1).toNat * 7)).off + 4, none⟩ = some (.bool ((rd_T38 l1_0 x5_1).f4)) ∧ w'.cell? ⟨(ad207.add ((x5_1).toNat * 7)).block, (ad207.add ((x5_1).toNat * 7)).off + 5, none⟩ = some (.bool ((rd_T38 l1_0 x5_1).f5)) ∧ w'.cell? ⟨(ad207.add ((x5_1).toNat * 7)).block, (ad207.add ((x5_1).toNat * 7)).off + 6, none⟩ = some (.slice A207_6 ((rd_T38 l1_0 x5_1).f6).length c207_6)) (ds := []) #[false, false, false, false, false, false, false, false, false, false, false, false] (by kernel_rfl) rfl rfl ⟨(blk_cell BK204.out 0).trans rfl, (blk_cell BK205.out 0).trans rfl, ((HB.out.cell (World.block_lt_of_cell? w _ hw206_0)).trans hw206_0), ((HB.out.cell (World.block_lt_of_cell? w _ hw206_1)).trans hw206_1), ((HB.out.cell (World.block_lt_of_cell? w _ hw206_2)).trans hw206_2), ((HB.out.cell (World.block_lt_of_cell? w _ hw206_3)).trans hw206_3), ((HB.out.cell (World.block_lt_of_cell? w _ hw206_4)).trans hw206_4), ((HB.out.cell (World.block_lt_of_cell? w _ hw206_5)).trans hw206_5), ((HB.out.cell (World.block_lt_of_cell? w _ hw206_6)).trans hw206_6), ((HB.out.cell (World.block_lt_of_cell? w _ hw207_0)).trans hw207_0), ((HB.out.cell (World.block_lt_of_cell? w _ hw207_1)).trans hw207_1), ((HB.out.cell (World.block_lt_of_cell? w _ hw207_2)).trans hw207_2), ((HB.out.cell (World.block_lt_of_cell? w _ hw207_3)).trans hw207_3), ((HB.out.cell (World.block_lt_of_cell? w _ hw207_4)).trans hw207_4), ((HB.out.cell (World.block_lt_of_cell? w _ hw207_5)).trans hw207_5), ((HB.out.cell (World.block_lt_of_cell? w _ hw207_6)).trans hw207_6)⟩ (fun hHeld => ?_); refine with_tabW pantryref09_Same.tab6 pantryref09_Same.bits6 (fun HT_ HW_ => ?_)
                generalize wr.drew = w20 at BK204 BK205 HB HR206_6 HR207_6 hx206_0 hx206_1 hx206_2 hx206_3 hx206_4 hx206_5 hx206_6 hx207_0 hx207_1 hx207_2 hx207_3 hx207_4 hx207_5 hx207_6 hHeld ⊢
                refine pure_ (i := 0) (N := some 20) (v := ?_) (a' := ?_) #[true, false, false, false, false, false, false, false, false, false, false, false] rfl rfl (any_of HT_.out (by kernel_rfl)) (fun _ _ _ h => h) (Or.inl ⟨by rfl, ?_⟩) ?_ ?_
                rotate_left
                · intro w'
                  go_simp
                  with_reducible rfl
                rotate_left
                · simp only [Act.put, List.setIfInBounds_toArray, List.set_cons_zero, List.set_cons_succ, i64_w, i32_w]
                  rfl
                refine pure_ (i := 2) (N := some 22) (v := ?_) (a' := ?_) #[true, false, true, false, false, false, false, false, false, false, false, false] rfl rfl (any_of HT_.out (by kernel_rfl)) (fun _ _ _ h => h) (Or.inl ⟨by rfl, ?_⟩) ?_ ?_
                rotate_left
                · intro w'
                  go_simp
                  with_reducible rfl
                rotate_left
                · simp only [Act.put, List.setIfInBounds_toArray, List.set_cons_zero, List.set_cons_succ, i64_w, i32_w]
                  rfl
                refine pure_ (i := 5) (N := some 25) (v := ?_) (a' := ?_) #[true, false, true, false, false, true, false, false, false, false, false, false] rfl rfl (any_of HT_.out (by kernel_rfl)) (fun _ _ _ h => h) (Or.inl ⟨by rfl, ?_⟩) ?_ ?_
                rotate_left
                · intro w'
                  go_simp
                  with_reducible rfl
                rotate_left
                · simp only [Act.put, List.setIfInBounds_toArray, List.set_cons_zero, List.set_cons_succ, i64_w, i32_w]
                  rfl
                refine pure_ (i := 7) (N := some 27) (v := ?_) (a' := ?_) #[true, false, true, false, false, true, false, true, false, false, false, false] rfl rfl (any_of HT_.out (by kernel_rfl)) (fun _ _ _ h => h) (Or.inl ⟨by rfl, ?_⟩) ?_ ?_
                rotate_left
                · intro w'
                  go_simp
                  with_reducible rfl
                rotate_left
                · simp only [Act.put, List.setIfInBounds_toArray, List.set_cons_zero, List.set_cons_succ, i64_w, i32_w]
                  rfl
                refine take_ (i := 1) (N := some 21) (v := ?_) (a' := ?_) #[true, true, true, false, false, true, false, true, false, false, false, false] rfl rfl (take_ofW HT_.out HW_.out (by kernel_rfl)) (fun _ _ _ h => h) (Or.inl ⟨by rfl, ?_⟩) hHeld ?_ ?_
                rotate_left
                · rintro w' ⟨s0, s1, s2, s3, s4, s5, s6, s7, s8, s9, s10, s11, s12, s13, s14, s15⟩
                  go_simp
                  with_reducible rfl
                rotate_left
                · simp only [Act.put, List.setIfInBounds_toArray, List.set_cons_zero, List.set_cons_succ, i64_w, i32_w]
                  rfl
                refine pure_ (i := 3) (N := some 23) (v := ?_) (a' := ?_) #[true, true, true, true, false, true, false, true, false, false, false, false] rfl rfl (any_of HT_.out (by kernel_rfl)) (fun _ _ _ h => h) (Or.inl ⟨by rfl, ?_⟩) ?_ ?_
                rotate_left
                · intro w'
                  go_simp
                  with_reducible rfl
                rotate_left
                · simp only [Act.put, List.setIfInBounds_toArray, List.set_cons_zero, List.set_cons_succ, i64_w, i32_w]
                  rfl
                refine take_ (i := 4) (N := some 24) (v := ?_) (a' := ?_) #[true, true, true, true, true, true, false, true, false, false, false, false] rfl rfl (take_ofW HT_.out HW_.out (by kernel_rfl)) (fun _ _ _ h => h) (Or.inl ⟨by rfl, ?_⟩) hHeld ?_ ?_
                rotate_left
                · rintro w' ⟨s0, s1, s2, s3, s4, s5, s6, s7, s8, s9, s10, s11, s12, s13, s14, s15⟩
                  go_simp
                  with_reducible rfl
                rotate_left
                · simp only [Act.put, List.setIfInBounds_toArray, List.set_cons_zero, List.set_cons_succ, i64_w, i32_w]
                  rfl
                refine take_ (i := 6) (N := some 26) (v := ?_) (a' := ?_) #[true, true, true, true, true, true, true, true, false, false, false, false] rfl rfl (take_ofW HT_.out HW_.out (by kernel_rfl)) (fun _ _ _ h => h) (Or.inl ⟨by rfl, ?_⟩) hHeld ?_ ?_
                rotate_left
                · rintro w' ⟨s0, s1, s2, s3, s4, s5, s6, s7, s8, s9, s10, s11, s12, s13, s14, s15⟩
                  go_simp
                  with_reducible rfl
                rotate_left
                · simp only [Act.put, List.setIfInBounds_toArray, List.set_cons_zero, List.set_cons_succ, i64_w, i32_w]
                  rfl
                refine pure_ (i := 8) (N := some 28) (v := ?_) (a' := ?_) #[true, true, true, true, true, true, true, true, true, false, false, false] rfl rfl (any_of HT_.out (by kernel_rfl)) (fun _ _ _ h => h) (Or.inl ⟨by rfl, ?_⟩) ?_ ?_
                rotate_left
                · intro w'
                  go_simp
                  with_reducible rfl
                rotate_left
                · simp only [Act.put, List.setIfInBounds_toArray, List.set_cons_zero, List.set_cons_succ, i64_w, i32_w]
                  rfl
                refine take_ (i := 9) (N := some 29) (v := ?_) (a' := ?_) #[true, true, true, true, true, true, true, true, true, true, false, false] rfl rfl (take_ofW HT_.out HW_.out (by kernel_rfl)) (fun _ _ _ h => h) (Or.inl ⟨by rfl, ?_⟩) hHeld ?_ ?_
                rotate_left
                · rintro w' ⟨s0, s1, s2, s3, s4, s5, s6, s7, s8, s9, s10, s11, s12, s13, s14, s15⟩
                  go_simp
                  with_reducible rfl
                rotate_left
                · simp only [Act.put, List.setIfInBounds_toArray, List.set_cons_zero, List.set_cons_succ, i64_w, i32_w]
                  rfl
                refine one_ (i := 10) (N := some 30) #[true, true, true, true, true, true, true, true, true, true, true, false] rfl rfl (one_of HT_.out (by kernel_rfl)) (by decide) (fun K hK => ?_)
                refine goes_ Tryd.func13 (by kernel_rfl) rfl #[.agg #[.string ((rd_T38 l0_0 x5_1).f0), .int .i64 ((rd_T38 l0_0 x5_1).f1), .int .i64 ((rd_T38 l0_0 x5_1).f2), .int .i64 ((rd_T38 l0_0 x5_1).f3), .bool ((rd_T38 l0_0 x5_1).f4), .bool ((rd_T38 l0_0 x5_1).f5), .slice A206_6 ((rd_T38 l0_0 x5_1).f6).length c206_6], .agg #[.string ((rd_T38 l1_0 x5_1).f0), .int .i64 ((rd_T38 l1_0 x5_1).f1), .int .i64 ((rd_T38 l1_0 x5_1).f2), .int .i64 ((rd_T38 l1_0 x5_1).f3), .bool ((rd_T38 l1_0 x5_1).f4), .bool ((rd_T38 l1_0 x5_1).f5), .slice A207_6 ((rd_T38 l1_0 x5_1).f6).length c207_6]] (by rfl) rfl rfl (by (try simp only [List.map_toArray, List.map_cons, List.map_nil]); first | done | rfl | (simp only [List.length_drop, List.length_take]; rfl)) ?_
                with_reducible refine (pantryref09_Alike.calls k1 ((rd_T38 l0_0 x5_1).f0) ((rd_T38 l0_0 x5_1).f1) ((rd_T38 l0_0 x5_1).f2) ((rd_T38 l0_0 x5_1).f3) ((rd_T38 l0_0 x5_1).f4) ((rd_T38 l0_0 x5_1).f5) _ _ ((rd_T38 l0_0 x5_1).f6) ((rd_T38 l1_0 x5_1).f0) ((rd_T38 l1_0 x5_1).f1) ((rd_T38 l1_0 x5_1).f2) ((rd_T38 l1_0 x5_1).f3) ((rd_T38 l1_0 x5_1).f4) ((rd_T38 l1_0 x5_1).f5) _ _ ((rd_T38 l1_0 x5_1).f6) false _ ?side1 ?side2 ?side3 ?side4 A12.out).mono ?_
                (case side1 => repeat (first | exact (Kd.C_below HR206_6.out HB.out) | (with_reducible refine Kd.C_alloc ?_ _) | (with_reducible refine Kd.C_drewN ?_ _) | (with_reducible refine Kd.C_drew ?_)))
                (case side2 => exact HC206_6.out)
                (case side3 => repeat (first | exact (Kd.C_below HR207_6.out HB.out) | (with_reducible refine Kd.C_alloc ?_ _) | (with_reducible refine Kd.C_drewN ?_ _) | (with_reducible refine Kd.C_drew ?_)))
                (case side4 => exact HC207_6.out)
                rintro e w21 ⟨rfl, hb⟩
                refine ⟨_, rfl, ?_⟩
                have n0_ := Aside0.mk (blk_below (g := gb204) (o := .cells #[.slice (some ad206) l0_0.length c0_0] 34 (0, 0)) (by (with_reducible repeat (first | refine blk_drewN ?_ _ | refine blk_drew ?_ | refine blk_alloc ?_ _)); exact BK204.out) hb)
                have n1_ := Aside0.mk (blk_below (g := gb205) (o := .cells #[.slice (some ad207) l1_0.length c1_0] 34 (0, 0)) (by (with_reducible repeat (first | refine blk_drewN ?_ _ | refine blk_drew ?_ | refine blk_alloc ?_ _)); exact BK205.out) hb)
                have n2_ := Aside0.mk (below_step (by repeat (first | (with_reducible first | exact HB.out | apply below_alloc | apply pw_below_drewN | apply below_drew1 | refine below_set ?_ GE204.out | refine below_set ?_ GE205.out) | exact HB.out)) hb)
                clear BK204
                clear BK205
                clear HB
                have BK204 := n0_
                have BK205 := n1_
                have HB := n2_
                clear n0_ n1_ n2_
                (try clear hb)
                (try clear hb2)
                (try clear hk)
                (try clear hi)
                refine hK.out _ _ ⟨(blk_cell BK204.out 0).trans rfl, (blk_cell BK205.out 0).trans rfl, ((HB.out.cell (World.block_lt_of_cell? w _ hw206_0)).trans hw206_0), ((HB.out.cell (World.block_lt_of_cell? w _ hw206_1)).trans hw206_1), ((HB.out.cell (World.block_lt_of_cell? w _ hw206_2)).trans hw206_2), ((HB.out.cell (World.block_lt_of_cell? w _ hw206_3)).trans hw206_3), ((HB.out.cell (World.block_lt_of_cell? w _ hw206_4)).trans hw206_4), ((HB.out.cell (World.block_lt_of_cell? w _ hw206_5)).trans hw206_5), ((HB.out.cell (World.block_lt_of_cell? w _ hw206_6)).trans hw206_6), ((HB.out.cell (World.block_lt_of_cell? w _ hw207_0)).trans hw207_0), ((HB.out.cell (World.block_lt_of_cell? w _ hw207_1)).trans hw207_1), ((HB.out.cell (World.block_lt_of_cell? w _ hw207_2)).trans hw207_2), ((HB.out.cell (World.block_lt_of_cell? w _ hw207_3)).trans hw207_3), ((HB.out.cell (World.block_lt_of_cell? w _ hw207_4)).trans hw207_4), ((HB.out.cell (World.block_lt_of_cell? w _ hw207_5)).trans hw207_5), ((HB.out.cell (World.block_lt_of_cell? w _ hw207_6)).trans hw207_6)⟩ (fun hHeld => ?_)
                clear hK K
                refine norm_ (a' := ?_) ?_ ?_
                rotate_left
                · show Act.put _ (some 30) _ = _
                  simp only [Act.put, List.setIfInBounds_toArray, List.set_cons_zero, List.set_cons_succ, i64_w, i32_w]
                  rfl
                refine pure_ (i := 11) (N := some 31) (v := ?_) (a' := ?_) #[true, true, true, true, true, true, true, true, true, true, true, true] rfl rfl (any_of HT_.out (by kernel_rfl)) (fun _ _ _ h => h) (Or.inl ⟨by rfl, ?_⟩) ?_ ?_
                rotate_left
                · intro w'
                  go_simp
                  with_reducible rfl
                rotate_left
                · simp only [Act.put, List.setIfInBounds_toArray, List.set_cons_zero, List.set_cons_succ, i64_w, i32_w]
                  rfl
                refine done_ (done_of HT_.out (by kernel_rfl)) ?_
                try go_wp2
                go_ret
                exact ⟨by first | rfl | (simp [errW_none, errW_some] <;> rfl) | (simp [*, errW_none, errW_some] <;> rfl) | (simp only [ne_nil_bool]; rfl), by repeat (first | (with_reducible first | exact HB.out | apply below_alloc | apply pw_below_drewN | apply below_drew1 | refine below_set ?_ GE204.out | refine below_set ?_ GE205.out) | exact HB.out)⟩
            · rw [if_neg c11] at H
              exact absurd H (by simp)
          · rw [if_neg c10] at H
            exact absurd H (by simp)
        · rw [if_neg c9] at H
          have c9b0 : decide (x5_1 < (l0_0.length : Int)) = false := decide_eq_false c9
          clear c9
          obtain rfl := Option.some.inj H
          have hnb22 := NB204_205.out
          have hnc22 := NB205_204.out
          have hcz23_0 : wr.cell? ⟨gb204, 0, none⟩ = some (.slice A0_0 l0_0.length c0_0) := (blk_cell BK204.out 0).trans rfl
          have hfz23_0 := blk_frozen BK204.out 0
          go_wp2
          go_ret
          exact ⟨by first | rfl | (simp [errW_none, errW_some] <;> rfl) | (simp [*, errW_none, errW_some] <;> rfl) | (simp only [ne_nil_bool]; rfl), by repeat (first | (with_reducible first | exact HB.out | apply below_alloc | apply pw_below_drewN | apply below_drew1 | refine below_set ?_ GE204.out | refine below_set ?_ GE205.out) | exact HB.out)⟩
  · rw [if_neg c3] at H
    have c3b0 : ((l0_0.length : Int) == (l1_0.length : Int)) = false := beq_eq_false_iff_ne.mpr c3
    have c3b1 : ((l0_0.length : Int) != (l1_0.length : Int)) = true := bne_iff_ne.mpr c3
    have c3b2 : (l0_0.length == l1_0.length) = false := by first | simpa using c3 | (simp at c3 ⊢; omega)
    obtain rfl := Option.some.inj H
    go_enter Tryd.func17, Tryd.ntmps17
    go_wp2_with (first | ((with_reducible refine gate_dst (N := 2) rfl ?_); refine box_event ?hg (N := 2) ?hd (cs := #[.slice A0_0 l0_0.length c0_0]) (t := 34) ?hr ?_; (case hd => rfl); (case hg => rfl); (case hr => first | (go_simp; done) | (go_simp; rfl)); intro gb204 hg w24 hbox hb; have n0_ := Aside0.mk (below_step (by repeat (first | (with_reducible first | exact HB.out | apply below_alloc | apply pw_below_drewN | apply below_drew1) | exact HB.out)) hb); have n1_ := Aside0.mk (hbox); have n2_ := Aside0.mk ((by rw [hg]; exact (below_size (by repeat (first | (with_reducible first | exact HB.out | apply below_alloc | apply pw_below_drewN | apply below_drew1) | exact HB.out))) : w.heap.size ≤ gb204)); have n3_ := Aside0.mk ((by rw [hg]; exact (below_size (by repeat (first | (with_reducible first | exact HB.out | apply below_alloc | apply pw_below_drewN | apply below_drew1) | exact HB.out))) : w.heap.size ≤ gb204)); clear HB; have HB := n0_; have BK204 := n1_; have GW204 := n2_; have GE204 := n3_; clear n0_ n1_ n2_ n3_; clear hb hbox hg) | ((with_reducible refine gate_dst (N := 3) rfl ?_); refine box_event ?hg (N := 3) ?hd (cs := #[.slice A1_0 l1_0.length c1_0]) (t := 34) ?hr ?_; (case hd => rfl); (case hg => rfl); (case hr => first | (go_simp; done) | (go_simp; rfl)); intro gb205 hg w25 hbox hb; have n0_ := Aside0.mk (blk_below (g := gb204) (o := .cells #[.slice A0_0 l0_0.length c0_0] 34 (0, 0)) (by (with_reducible repeat (first | refine blk_drewN ?_ _ | refine blk_drew ?_ | refine blk_alloc ?_ _)); exact BK204.out) hb); have n1_ := Aside0.mk (below_step (by repeat (first | (with_reducible first | exact HB.out | apply below_alloc | apply pw_below_drewN | apply below_drew1 | refine below_set ?_ GE204.out) | exact HB.out)) hb); have n2_ := Aside0.mk (hbox); have n3_ := Aside0.mk ((by rw [hg]; exact (below_size (by repeat (first | (with_reducible first | exact HB.out | apply below_alloc | apply pw_below_drewN | apply below_drew1 | refine below_set ?_ GE204.out) | exact HB.out))) : w.heap.size ≤ gb205)); have n4_ := Aside0.mk ((by rw [hg]; exact (below_size (by repeat (first | (with_reducible first | exact HB.out | apply below_alloc | apply pw_below_drewN | apply below_drew1 | refine below_set ?_ GE204.out) | exact HB.out))) : w.heap.size ≤ gb205)); have n5_ := Aside0.mk ((by rw [hg]; exact Nat.ne_of_lt (blk_lt (g := gb204) (o := .cells #[.slice A0_0 l0_0.length c0_0] 34 (0, 0)) (by (with_reducible repeat (first | refine blk_drewN ?_ _ | refine blk_drew ?_ | refine blk_alloc ?_ _)); exact BK204.out)) : gb204 ≠ gb205)); have n6_ := Aside0.mk ((by rw [hg]; exact Nat.ne_of_gt (blk_lt (g := gb204) (o := .cells #[.slice A0_0 l0_0.length c0_0] 34 (0, 0)) (by (with_reducible repeat (first | refine blk_drewN ?_ _ | refine blk_drew ?_ | refine blk_alloc ?_ _)); exact BK204.out)) : gb205 ≠ gb204)); clear BK204; clear HB; have BK204 := n0_; have HB := n1_; have BK205 := n2_; have GW205 := n3_; have GE205 := n4_; have NB204_205 := n5_; have NB205_204 := n6_; clear n0_ n1_ n2_ n3_ n4_ n5_ n6_; clear hb hbox hg; have hnb26 := NB204_205.out; have hnc26 := NB205_204.out; have hcz27_0 : w25.cell? ⟨gb204, 0, none⟩ = some (.slice A0_0 l0_0.length c0_0) := (blk_cell BK204.out 0).trans rfl; have hfz27_0 := blk_frozen BK204.out 0; have hcz28_0 : w25.cell? ⟨gb205, 0, none⟩ = some (.slice A1_0 l1_0.length c1_0) := (blk_cell BK205.out 0).trans rfl; have hfz28_0 := blk_frozen BK205.out 0))
    go_ret
    exact ⟨by first | rfl | (simp [errW_none, errW_some] <;> rfl) | (simp [*, errW_none, errW_some] <;> rfl) | (simp only [ne_nil_bool]; rfl), by repeat (first | (with_reducible first | exact HB.out | apply below_alloc | apply pw_below_drewN | apply below_drew1 | refine below_set ?_ GE204.out | refine below_set ?_ GE205.out) | exact HB.out)⟩
end Go.Proofs.YtcoaajkhfgakgaaDoor.Pr
end

section
namespace Go.Proofs.YtcoaajkhfgakgaaDoor.Pr
open Go.RowKit Go.Proofs.YtcoaajkhfgakgaaDoorW.PrintWords Go.Proofs.YtcoaajkhfgakgaaDoorW.PrintLast Go.Proofs.YtcoaajkhfgakgaaDoorW.PrintMore
set_option linter.unusedVariables false
set_option linter.unusedSimpArgs false
theorem keyF_four : ∀ (f : Nat) (st : St) (q : Bool) (hs : List ByteArray) (r : St × Bool × List ByteArray), keyF f st q hs = some r → hs.length ≤ 4 → r.2.2.length ≤ 4
  | 0, _, _, _, _, h, _ => by cases h
  | f + 1, st, q, hs, r, h, h4 => by
    unfold keyF at h
    split at h
    · split at h
      · injection h with h; subst h; exact h4
      · split at h
        · exact keyF_four f _ _ _ r h h4
        · split at h
          · split at h
            · split at h
              · exact keyF_four f _ _ _ r h h4
              · exact keyF_four f _ _ _ r h (by simp; omega)
            · exact keyF_four f _ _ _ r h h4
          · exact keyF_four f _ _ _ r h h4
    · injection h with h; subst h; exact h4
theorem rulesF_four : ∀ (f : Nat) (st : St) (s : Sv) (seen : List ByteArray) (r : St × Sv), rulesF f st s seen = some r → s.hs.length ≤ 4 → r.2.hs.length ≤ 4
  | 0, _, _, _, _, h, _ => by cases h
  | f + 1, st, s, seen, r, h, h4 => by
    unfold rulesF at h
    split at h
    · split at h
      · injection h with h; subst h; exact h4
      · cases hk : ruleF f st s seen with
        | none => rw [hk] at h; cases h
        | some z =>
          rw [hk, Option.bind_some] at h
          refine rulesF_four f _ _ _ _ h ?_
          unfold ruleF bodyF at hk
          split at hk
          · injection hk with hk; subst hk; exact h4
          · split at hk
            · injection hk with hk; subst hk; exact h4
            · split at hk
              · cases h3 : keyF f (mustS (nameS st seen) ⟨#[112, 97, 116, 104]⟩) false [] with
                | none => rw [h3] at hk; cases hk
                | some y => rw [h3] at hk; injection hk with hk; subst hk; exact keyF_four _ _ _ _ _ h3 (by simp)
              · split at hk
                · injection hk with hk; subst hk; exact h4
                · injection hk with hk; subst hk; exact h4
    · injection h with h; subst h; exact h4
theorem siteF_four {f : Nat} {st : St} {sites : List S29} {r : St × List S29} (h : siteF f st sites = some r) (h4 : ∀ x ∈ sites, x.f6.length ≤ 4) : ∀ x ∈ r.2, x.f6.length ≤ 4 := by
  unfold siteF at h
  cases hk : rulesF f (mustS (takeS (hostS (headS st sites) sites)) ⟨#[123]⟩) ⟨nextS (headS st sites), 1, 0, 3600, true, true, []⟩ [] with
  | none => rw [hk] at h; cases h
  | some z =>
    rw [hk] at h
    injection h with h; subst h
    intro x hx
    rcases List.mem_append.1 hx with hx | hx
    · exact h4 x hx
    · rw [List.mem_singleton.1 hx]
      exact rulesF_four _ _ _ _ _ hk (by simp)
theorem sitesF_four : ∀ (f : Nat) (st : St) (sites : List S29) (r : St × List S29), sitesF f st sites = some r → (∀ x ∈ sites, x.f6.length ≤ 4) → ∀ x ∈ r.2, x.f6.length ≤ 4
  | 0, _, _, _, h, _ => by cases h
  | f + 1, st, sites, r, h, h4 => by
    unfold sitesF at h
    split at h
    · cases hk : siteF f st sites with
      | none => rw [hk] at h; cases h
      | some z =>
        rw [hk, Option.bind_some] at h
        exact sitesF_four f _ _ _ h (siteF_four hk h4)
    · injection h with h; subst h; exact h4
theorem sitesF_eight : ∀ (f : Nat) (st : St) (sites : List S29) (r : St × List S29), sitesF f st sites = some r → r.1.code = 0 → sites.length ≤ 8 → r.2.length ≤ 8
  | 0, _, _, _, h, _, _ => by cases h
  | f + 1, st, sites, r, h, hr, h8 => by
    unfold sitesF at h
    split at h
    · cases hk : siteF f st sites with
      | none => rw [hk] at h; cases h
      | some z =>
        rw [hk, Option.bind_some] at h
        obtain ⟨y, _, _, hz, _, _, hne, _⟩ := site_ok hk (sites_ok h hr)
        refine sitesF_eight f _ _ _ h hr ?_
        rw [hz]
        simp
        omega
    · injection h with h; subst h; exact h8
theorem read_len {s : ByteArray} {c : List S29} {code line : Int} (h : conf_Read.f s = some (c, code, line)) : c.length ≤ 8 ∧ ∀ x ∈ c, x.f6.length ≤ 4 := by
  have h0 : ([] : List S29).length ≤ 8 ∧ ∀ x ∈ ([] : List S29), x.f6.length ≤ 4 := ⟨by simp, by simp⟩
  unfold conf_Read.f at h
  split at h
  · injection h with h
    simp only [Prod.mk.injEq] at h
    rw [← h.1]; exact h0
  · cases hk : sitesF (8 * s.size + 64) ⟨wordsS s, 0, 0⟩ [] with
    | none => rw [hk] at h; cases h
    | some r =>
      rw [hk, Option.map_some] at h
      injection h with h
      split at h
      · rename_i hc
        simp only [Prod.mk.injEq] at h
        rw [← h.1]
        exact ⟨sitesF_eight _ _ _ _ hk hc.1 (by simp), sitesF_four _ _ _ _ hk (by simp)⟩
      · simp only [Prod.mk.injEq] at h
        rw [← h.1]; exact h0
theorem same_l0 (l : List S29) (hl : l.length ≤ 8796093022208) (hh : ∀ x ∈ l, x.f6.length ≤ 8796093022208) (B : Nat) (hB : ∀ x ∈ l, x.f6.length ≤ B) : ∀ (d i k : Nat), l.length - i = d → i ≤ l.length → d + B + 2 < k →
    pantryref09_Same.l0 k (i : Int) (l.map refSite) (l.map refSite) = some true
  | _, _, 0, _, _, hk => by omega
  | 0, i, k + 1, hd, hi, hk => by
    unfold pantryref09_Same.l0
    rw [if_neg (by simp; omega)]
  | d + 1, i, k + 1, hd, hi, hk => by
    have hlt : i < l.length := by omega
    unfold pantryref09_Same.l0
    have hr : rd_T38 (l.map refSite) (i : Int) = refSite l[i] := by
      unfold rd_T38
      rw [show ((i : Int)).toNat = i from by simp, List.getD_eq_getElem?_getD, List.getElem?_map, List.getElem?_eq_getElem hlt]
      rfl
    rw [if_pos (by simp; omega), if_pos (by omega), if_pos (by simp; omega), hr]
    have h1 := hh l[i] (List.getElem_mem hlt)
    have h2 := hB l[i] (List.getElem_mem hlt)
    have hw : wrap64 ((i : Int) + 1) = ((i + 1 : Nat) : Int) := by unfold wrap64; omega
    rw [alike_refl _ _ _ _ _ _ _ (show (refSite l[i]).f6.length ≤ 8796093022208 from h1) _ (show (refSite l[i]).f6.length + 1 < k from by show l[i].f6.length + 1 < k; omega), Option.bind_some, if_pos rfl, hw]
    exact same_l0 l hl hh B hB d (i + 1) k (by omega) (by omega) (by omega)
theorem same_refl (l : List S29) (hl : l.length ≤ 8) (hh : ∀ x ∈ l, x.f6.length ≤ 4) (k : Nat) (hk : 20 < k) : pantryref09_Same.f k (l.map refSite) (l.map refSite) = some true := by
  unfold pantryref09_Same.f
  rw [if_pos rfl]
  exact same_l0 l (by omega) (fun x hx => by have := hh x hx; omega) 4 hh l.length 0 k rfl (Nat.zero_le _) (by omega)
end Go.Proofs.YtcoaajkhfgakgaaDoor.Pr
end

section
namespace Go.Proofs.YtcoaajkhfgakgaaDoor.Pr
open Go.RowKit Go.Proofs.YtcoaajkhfgakgaaDoorW.PrintWords Go.Proofs.YtcoaajkhfgakgaaDoorW.PrintLast Go.Proofs.YtcoaajkhfgakgaaDoorW.PrintMore
set_option linter.unusedVariables false
set_option linter.unusedSimpArgs false
def Fa (R : Int → Int → Prop) : List Wd → List Wd → Prop
  | [], [] => True
  | x :: l, y :: m => x.s = y.s ∧ R x.line y.line ∧ Fa R l m
  | _, _ => False
theorem Fa.len {R : Int → Int → Prop} : ∀ {l m : List Wd}, Fa R l m → l.length = m.length
  | [], [], _ => rfl
  | _ :: _, _ :: _, h => by rw [List.length_cons, List.length_cons, Fa.len h.2.2]
  | [], _ :: _, h => h.elim
  | _ :: _, [], h => h.elim
theorem Fa.tail {R : Int → Int → Prop} {l m : List Wd} (h : Fa R l m) (h1 : 1 < l.length) : Fa R l.tail m.tail := by
  match l, m, h with
  | _ :: _, _ :: _, h => exact h.2.2
theorem Fa.hd {R : Int → Int → Prop} {l m : List Wd} (h : Fa R l m) (h0 : 0 < l.length) : (hdW l).s = (hdW m).s ∧ R (hdW l).line (hdW m).line := by
  match l, m, h with
  | _ :: _, _ :: _, h => exact ⟨h.1, h.2.1⟩
theorem fa_shift (R : Int → Int → Prop) (g : Wd → Wd) (hs : ∀ x, (g x).s = x.s) (hl : ∀ x, R x.line (g x).line) : ∀ l, Fa R l (l.map g)
  | [] => trivial
  | x :: l => ⟨(hs x).symm, hl x, fa_shift R g hs hl l⟩
structure Alk (R : Int → Int → Prop) (a b : St) : Prop where
  code : a.code = b.code
  words : a.code = 0 → Fa R a.l b.l
  pos : 0 < a.l.length
  line : a.code ≠ 0 → R a.line b.line
  zero : a.code = 0 → a.line = 0 ∧ b.line = 0
section
variable {R : Int → Int → Prop} {a b : St}
theorem Alk.next (h : Alk R a b) : nextS a = nextS b := by
  unfold nextS
  by_cases hc : a.code = 0
  · rw [if_pos hc, if_pos (h.code ▸ hc)]
    exact ((h.words hc).hd h.pos).1
  · rw [if_neg hc, if_neg (h.code ▸ hc)]
theorem Alk.fail (h : Alk R a b) {e : Int} (he : e ≠ 0) : Alk R (failS a e) (failS b e) := by
  by_cases hc : a.code = 0
  · have hc' : b.code = 0 := h.code ▸ hc
    unfold failS
    rw [if_pos hc, if_pos hc']
    exact ⟨rfl, fun h' => absurd h' he, h.pos, fun _ => ((h.words hc).hd h.pos).2, fun h' => absurd h' he⟩
  · have hc' : ¬ b.code = 0 := h.code ▸ hc
    unfold failS
    rw [if_neg hc, if_neg hc']
    exact h
theorem Alk.take (h : Alk R a b) : Alk R (takeS a) (takeS b) := by
  by_cases hc : a.code = 0
  · have hc' : b.code = 0 := h.code ▸ hc
    have hl := (h.words hc).len
    unfold takeS
    by_cases h1 : 1 < a.l.length
    · rw [if_pos ⟨hc, h1⟩, if_pos ⟨hc', hl ▸ h1⟩]
      exact ⟨h.code, fun _ => (h.words hc).tail h1, by simp; omega, h.line, h.zero⟩
    · rw [if_neg (fun z => h1 z.2), if_neg (fun z => h1 (hl ▸ z.2))]
      exact h
  · have hc' : ¬ b.code = 0 := h.code ▸ hc
    unfold takeS
    rw [if_neg (fun z => hc z.1), if_neg (fun z => hc' z.1)]
    exact h
theorem Alk.ite {p : Prop} [Decidable p] {a' b' : St} (h : Alk R a b) (h' : Alk R a' b') : Alk R (if p then a else a') (if p then b else b') := by split <;> assumption
theorem Alk.must (h : Alk R a b) (s : ByteArray) : Alk R (mustS a s) (mustS b s) := by
  unfold mustS
  rw [← h.next]
  exact (h.ite (h.fail (by decide))).take
theorem Alk.number (h : Alk R a b) (lo hi : Int) : Alk R (numberS a lo hi) (numberS b lo hi) := by
  unfold numberS
  rw [← h.next]
  split
  · exact h.take
  · rename_i hne
    exact (h.fail hne).take
theorem Alk.name (h : Alk R a b) (seen : List ByteArray) : Alk R (nameS a seen) (nameS b seen) := by
  unfold nameS
  rw [← h.next]
  have h1 : Alk R (if nextS a = sOrigin ∨ nextS a = sTtl ∨ nextS a = sKey ∨ nextS a = sKeep then a else failS a 30) (if nextS a = sOrigin ∨ nextS a = sTtl ∨ nextS a = sKey ∨ nextS a = sKeep then b else failS b 30) := h.ite (h.fail (by decide))
  exact ((h1.fail (by decide)).ite h1).take
theorem Alk.keep (h : Alk R a b) : Alk R (keepS a) (keepS b) := by
  unfold keepS
  rw [← h.next]
  exact (h.ite (h.fail (by decide))).take
end
theorem keyF_alk {R : Int → Int → Prop} : ∀ (f : Nat) (a b : St) (q : Bool) (hs : List ByteArray) (r : St × Bool × List ByteArray), Alk R a b → keyF f a q hs = some r → ∃ b', keyF f b q hs = some (b', r.2) ∧ Alk R r.1 b'
  | 0, _, _, _, _, _, _, h => by cases h
  | f + 1, a, b, q, hs, r, ha, h => by
    unfold keyF at h ⊢
    have hn := ha.next
    have hm := ha.must ⟨#[104, 101, 97, 100, 101, 114]⟩
    rw [← hn, ← ha.code]
    generalize mustS a ⟨#[104, 101, 97, 100, 101, 114]⟩ = a1 at hm h
    generalize mustS b ⟨#[104, 101, 97, 100, 101, 114]⟩ = b1 at hm ⊢
    rw [← hm.next, ← hm.code]
    split at h
    · rename_i hc
      rw [if_pos hc]
      split at h
      · rename_i h1; rw [if_pos h1]; injection h with h; subst h; exact ⟨_, rfl, ha⟩
      · rename_i h1
        rw [if_neg h1]
        split at h
        · rename_i h2; rw [if_pos h2]; exact keyF_alk f _ _ _ _ r ha.take h
        · rename_i h2
          rw [if_neg h2]
          split at h
          · rename_i h3
            rw [if_pos h3]
            split at h
            · rename_i h4
              rw [if_pos h4]
              split at h
              · rename_i h5; rw [if_pos h5]; exact keyF_alk f _ _ _ _ r (hm.fail (by decide)).take h
              · rename_i h5; rw [if_neg h5]; exact keyF_alk f _ _ _ _ r hm.take h
            · rename_i h4; rw [if_neg h4]; exact keyF_alk f _ _ _ _ r (hm.fail (by decide)).take h
          · rename_i h3; rw [if_neg h3]; exact keyF_alk f _ _ _ _ r hm.take h
    · rename_i hc; rw [if_neg hc]; injection h with h; subst h; exact ⟨_, rfl, ha⟩
theorem bodyF_alk {R : Int → Int → Prop} {f : Nat} {name : ByteArray} {a b : St} {s : Sv} {r : St × Sv} (ha : Alk R a b) (h : bodyF f name a s = some r) : ∃ b', bodyF f name b s = some (b', r.2) ∧ Alk R r.1 b' := by
  unfold bodyF at h ⊢
  split at h
  · rename_i h1
    injection h with h; subst h
    rw [if_pos h1, ← ha.next]; exact ⟨_, rfl, ha.number _ _⟩
  · rename_i h1
    rw [if_neg h1]
    split at h
    · rename_i h2
      injection h with h; subst h
      rw [if_pos h2, ← ha.next, ← (ha.number 0 2147483648).next]; exact ⟨_, rfl, (ha.number _ _).number _ _⟩
    · rename_i h2
      rw [if_neg h2]
      split at h
      · rename_i h3
        rw [if_pos h3]
        cases hk : keyF f (mustS a ⟨#[112, 97, 116, 104]⟩) false [] with
        | none => rw [hk] at h; cases h
        | some z =>
          rw [hk] at h
          injection h with h; subst h
          obtain ⟨b', h4, h5⟩ := keyF_alk _ _ _ _ _ _ (ha.must _) hk
          rw [h4]
          exact ⟨_, rfl, h5⟩
      · rename_i h3
        rw [if_neg h3]
        split at h
        · rename_i h4
          injection h with h; subst h
          rw [if_pos h4, ← ha.next]; exact ⟨_, rfl, ha.keep⟩
        · rename_i h4
          injection h with h; subst h
          rw [if_neg h4]; exact ⟨_, rfl, ha⟩
theorem ruleF_alk {R : Int → Int → Prop} {f : Nat} {a b : St} {s : Sv} {seen : List ByteArray} {r : St × Sv × List ByteArray} (ha : Alk R a b) (h : ruleF f a s seen = some r) : ∃ b', ruleF f b s seen = some (b', r.2) ∧ Alk R r.1 b' := by
  unfold ruleF at h ⊢
  cases hk : bodyF f (nextS a) (nameS a seen) s with
  | none => rw [hk] at h; cases h
  | some z =>
    rw [hk] at h
    injection h with h; subst h
    obtain ⟨b', h4, h5⟩ := bodyF_alk (ha.name seen) hk
    rw [← ha.next, h4]
    exact ⟨_, rfl, h5.must _⟩
theorem rulesF_alk {R : Int → Int → Prop} : ∀ (f : Nat) (a b : St) (s : Sv) (seen : List ByteArray) (r : St × Sv), Alk R a b → rulesF f a s seen = some r → ∃ b', rulesF f b s seen = some (b', r.2) ∧ Alk R r.1 b'
  | 0, _, _, _, _, _, _, h => by cases h
  | f + 1, a, b, s, seen, r, ha, h => by
    unfold rulesF at h ⊢
    rw [← ha.code, ← ha.next]
    split at h
    · rename_i hc
      rw [if_pos hc]
      split at h
      · rename_i h1; rw [if_pos h1]; injection h with h; subst h; exact ⟨_, rfl, ha⟩
      · rename_i h1
        rw [if_neg h1]
        cases hk : ruleF f a s seen with
        | none => rw [hk] at h; cases h
        | some z =>
          rw [hk, Option.bind_some] at h
          obtain ⟨b', h4, h5⟩ := ruleF_alk ha hk
          rw [h4, Option.bind_some]
          exact rulesF_alk f _ _ _ _ _ h5 h
    · rename_i hc; rw [if_neg hc]; injection h with h; subst h; exact ⟨_, rfl, ha⟩
theorem Alk.head {R : Int → Int → Prop} {a b : St} {sa sb : List S29} (h : Alk R a b) (h8 : nextS a = ⟨#[115, 105, 116, 101]⟩ → (sa.length = 8 ↔ sb.length = 8)) : Alk R (headS a sa) (headS b sb) := by
  unfold headS
  rw [← h.next]
  by_cases h1 : nextS a = ⟨#[115, 105, 116, 101]⟩ ∧ sa.length = 8
  · rw [if_pos h1, if_pos ⟨h1.1, (h8 h1.1).1 h1.2⟩]
    exact (h.fail (by decide)).must _
  · rw [if_neg h1, if_neg (fun z => h1 ⟨z.1, (h8 z.1).2 z.2⟩)]
    exact h.must _
theorem Alk.host {R : Int → Int → Prop} {a b : St} {sa sb : List S29} (h : Alk R a b) (hf : (findS (nextS a) sa).2 = (findS (nextS a) sb).2) : Alk R (hostS a sa) (hostS b sb) := by
  unfold hostS
  rw [← h.next, ← h.code, ← hf]
  have h1 : Alk R (if a.code = 0 ∧ ¬ ((hostV (nextS a)).2 = 0 ∧ (hostV (nextS a)).1 = nextS a) then failS a 30 else a) (if a.code = 0 ∧ ¬ ((hostV (nextS a)).2 = 0 ∧ (hostV (nextS a)).1 = nextS a) then failS b 30 else b) := (h.fail (by decide)).ite h
  exact (h1.fail (by decide)).ite h1
theorem siteF_alk {R : Int → Int → Prop} {f : Nat} {a b : St} {sa sb : List S29} {r : St × List S29} (ha : Alk R a b) (h8 : nextS a = ⟨#[115, 105, 116, 101]⟩ → (sa.length = 8 ↔ sb.length = 8))
    (hf : (findS (nextS (headS a sa)) sa).2 = (findS (nextS (headS a sa)) sb).2) (h : siteF f a sa = some r) : ∃ b' s, r = (r.1, sa ++ [s]) ∧ siteF f b sb = some (b', sb ++ [s]) ∧ Alk R r.1 b' := by
  unfold siteF at h ⊢
  have h1 := ha.head h8
  have h2 := ((h1.host hf).take).must ⟨#[123]⟩
  cases hk : rulesF f (mustS (takeS (hostS (headS a sa) sa)) ⟨#[123]⟩) ⟨nextS (headS a sa), 1, 0, 3600, true, true, []⟩ [] with
  | none => rw [hk] at h; cases h
  | some z =>
    rw [hk] at h
    injection h with h; subst h
    obtain ⟨b', h4, h5⟩ := rulesF_alk _ _ _ _ _ _ h2 hk
    rw [← h1.next, h4]
    exact ⟨_, _, rfl, rfl, h5.must _⟩
theorem sitesF_alk {R : Int → Int → Prop} : ∀ (f : Nat) (a b : St) (sites : List S29) (r : St × List S29), Alk R a b → sitesF f a sites = some r → ∃ b', sitesF f b sites = some (b', r.2) ∧ Alk R r.1 b'
  | 0, _, _, _, _, _, h => by cases h
  | f + 1, a, b, sites, r, ha, h => by
    unfold sitesF at h ⊢
    by_cases hc : a.code = 0 ∧ 1 < a.l.length
    · have hl := (ha.words hc.1).len
      rw [if_pos hc] at h
      rw [if_pos ⟨ha.code ▸ hc.1, hl ▸ hc.2⟩]
      cases hk : siteF f a sites with
      | none => rw [hk] at h; cases h
      | some z =>
        rw [hk, Option.bind_some] at h
        obtain ⟨b', s, h3, h4, h5⟩ := siteF_alk ha (fun _ => Iff.rfl) rfl hk
        rw [h4, Option.bind_some]
        rw [h3] at h
        exact sitesF_alk f _ _ _ _ h5 h
    · rw [if_neg hc] at h
      injection h with h; subst h
      by_cases hc0 : a.code = 0
      · have hl := (ha.words hc0).len
        rw [if_neg (fun z => hc ⟨hc0, hl ▸ z.2⟩)]
        exact ⟨_, rfl, ha⟩
      · rw [if_neg (fun z => hc0 (ha.code ▸ z.1))]
        exact ⟨_, rfl, ha⟩
theorem alk_start {R : Int → Int → Prop} {l m : List Wd} (h : Fa R l m) (h0 : 0 < l.length) : Alk R ⟨l, 0, 0⟩ ⟨m, 0, 0⟩ := ⟨rfl, fun _ => h, h0, fun h => absurd rfl h, fun _ => ⟨rfl, rfl⟩⟩
end Go.Proofs.YtcoaajkhfgakgaaDoor.Pr
end

section
namespace Go.Proofs.YtcoaajkhfgakgaaDoor.Pr
open Go.RowKit Go.Proofs.YtcoaajkhfgakgaaDoorW.PrintWords Go.Proofs.YtcoaajkhfgakgaaDoorW.PrintLast Go.Proofs.YtcoaajkhfgakgaaDoorW.PrintMore
set_option linter.unusedVariables false
set_option linter.unusedSimpArgs false
structure Pre (e : Wd) (rest : List Wd) (a b : St) : Prop where
  ca : a.code = 0
  cb : b.code = 0
  la : a.line = 0
  lb : b.line = 0
  ws : ∃ l1, a.l = l1 ++ [e] ∧ b.l = l1 ++ rest
  he : e.s = ⟨#[]⟩
  hr : 0 < rest.length
section
variable {e : Wd} {rest : List Wd} {a b : St}
theorem Pre.step (h : Pre e rest a b) (hn : nextS a ≠ ⟨#[]⟩) : nextS b = nextS a ∧ Pre e rest (takeS a) (takeS b) := by
  obtain ⟨l1, h1, h2⟩ := h.ws
  cases l1 with
  | nil =>
    exfalso
    apply hn
    unfold nextS
    rw [if_pos h.ca, h1]
    exact h.he
  | cons x l2 =>
    have hn1 : nextS b = nextS a := by
      unfold nextS
      rw [if_pos h.ca, if_pos h.cb, h1, h2]
      rfl
    have hr := h.hr
    refine ⟨hn1, ?_⟩
    unfold takeS
    rw [if_pos ⟨h.ca, by rw [h1]; simp⟩, if_pos ⟨h.cb, by rw [h2]; simp; omega⟩]
    exact ⟨h.ca, h.cb, h.la, h.lb, ⟨l2, by simp only [h1]; rfl, by simp only [h2]; rfl⟩, h.he, h.hr⟩
theorem Pre.must (h : Pre e rest a b) {s : ByteArray} (hs : s ≠ ⟨#[]⟩) (hc : (mustS a s).code = 0) : nextS b = s ∧ Pre e rest (mustS a s) (mustS b s) := by
  obtain ⟨h1, h2, h3⟩ := must_ok hc
  obtain ⟨h4, h5⟩ := h.step (by rw [h2]; exact hs)
  refine ⟨h4.trans h2, ?_⟩
  rw [h3]
  unfold mustS
  rw [if_pos (h4.trans h2)]
  exact h5
theorem Pre.number (h : Pre e rest a b) {lo hi : Int} (hc : (numberS a lo hi).code = 0) : nextS b = nextS a ∧ Pre e rest (numberS a lo hi) (numberS b lo hi) := by
  obtain ⟨h1, h2, h3⟩ := number_ok hc
  obtain ⟨h4, h5⟩ := h.step (fun z => numberC_nil lo hi (by rw [← z]; exact h2))
  refine ⟨h4, ?_⟩
  rw [h3]
  unfold numberS
  rw [h4, if_pos h2]
  exact h5
end
theorem keyF_pre {e : Wd} {rest : List Wd} : ∀ (f : Nat) (a b : St) (q : Bool) (hs : List ByteArray) (r : St × Bool × List ByteArray), Pre e rest a b → keyF f a q hs = some r → r.1.code = 0 → ∃ b', keyF f b q hs = some (b', r.2) ∧ Pre e rest r.1 b'
  | 0, _, _, _, _, _, _, h, _ => by cases h
  | f + 1, a, b, q, hs, r, ha, h, hr => by
    unfold keyF at h ⊢
    rw [if_pos ha.ca] at h
    rw [if_pos ha.cb]
    by_cases h1 : nextS a = ⟨#[59]⟩
    · rw [if_pos h1] at h
      injection h with h; subst h
      have h2 := (ha.step (by rw [h1]; decide)).1
      rw [h2, if_pos h1]
      exact ⟨_, rfl, ha⟩
    · rw [if_neg h1] at h
      by_cases h2 : nextS a = ⟨#[113, 117, 101, 114, 121]⟩ ∧ q = false
      · rw [if_pos h2] at h
        obtain ⟨h3, h4⟩ := ha.step (by rw [h2.1]; decide)
        rw [h3, if_neg h1, if_pos h2]
        exact keyF_pre f _ _ _ _ r h4 h hr
      · rw [if_neg h2] at h
        by_cases hm : (mustS a ⟨#[104, 101, 97, 100, 101, 114]⟩).code = 0
        · obtain ⟨h3, h4⟩ := ha.must (by decide) hm
          have h5 := (must_ok hm).2.1
          have h7 := h4.step
          have h6 := h4.cb
          rw [h3, ← h5, if_neg h1, if_neg h2, h5, if_pos h6]
          rw [if_pos hm] at h
          by_cases h8 : headB (nextS (mustS a ⟨#[104, 101, 97, 100, 101, 114]⟩)) = true ∧ risingS (hs ++ [nextS (mustS a ⟨#[104, 101, 97, 100, 101, 114]⟩)]) = true
          · rw [if_pos h8] at h
            obtain ⟨h9, h10⟩ := h7 (fun z => by rw [z, headB_nil] at h8; exact absurd h8.1 (by decide))
            rw [h9, if_pos h8]
            by_cases h11 : hs.length = 4
            · rw [if_pos h11] at h
              have := key_ok h hr
              rw [code_take] at this
              exact absurd this (code_fail (by decide))
            · rw [if_neg h11] at h
              rw [if_neg h11]
              exact keyF_pre f _ _ _ _ r h10 h hr
          · rw [if_neg h8] at h
            have := key_ok h hr
            rw [code_take] at this
            exact absurd this (code_fail (by decide))
        · rw [if_neg hm] at h
          have := key_ok h hr
          rw [code_take] at this
          exact absurd this hm
theorem bodyF_pre {e : Wd} {rest : List Wd} {f : Nat} {name : ByteArray} {a b : St} {s : Sv} {r : St × Sv} (ha : Pre e rest a b) (h : bodyF f name a s = some r) (hr : r.1.code = 0) : ∃ b', bodyF f name b s = some (b', r.2) ∧ Pre e rest r.1 b' := by
  unfold bodyF at h ⊢
  split at h
  · rename_i h1
    injection h with h; subst h
    obtain ⟨h2, h3⟩ := ha.number hr
    rw [if_pos h1, h2]; exact ⟨_, rfl, h3⟩
  · rename_i h1
    rw [if_neg h1]
    split at h
    · rename_i h2
      injection h with h; subst h
      obtain ⟨h3, h4⟩ := ha.number (number_ok hr).1
      obtain ⟨h5, h6⟩ := h4.number hr
      rw [if_pos h2, h3, h5]
      exact ⟨_, rfl, h6⟩
    · rename_i h2
      rw [if_neg h2]
      split at h
      · rename_i h3
        rw [if_pos h3]
        cases hk : keyF f (mustS a ⟨#[112, 97, 116, 104]⟩) false [] with
        | none => rw [hk] at h; cases h
        | some z =>
          rw [hk] at h
          injection h with h; subst h
          obtain ⟨b', h4, h5⟩ := keyF_pre _ _ _ _ _ _ (ha.must (by decide) (key_ok hk hr)).2 hk hr
          rw [h4]
          exact ⟨_, rfl, h5⟩
      · rename_i h3
        rw [if_neg h3]
        split at h
        · rename_i h4
          injection h with h; subst h
          obtain ⟨h5, h6, h7⟩ := keep_ok hr
          obtain ⟨h8, h9⟩ := ha.step (by rcases h6 with h6 | h6 <;> (rw [h6]; decide))
          rw [if_pos h4, h8]
          refine ⟨_, rfl, ?_⟩
          rw [h7]
          unfold keepS
          rw [h8, if_pos h6]
          exact h9
        · rename_i h4
          injection h with h; subst h
          rw [if_neg h4]; exact ⟨_, rfl, ha⟩
theorem ruleF_pre {e : Wd} {rest : List Wd} {f : Nat} {a b : St} {s : Sv} {seen : List ByteArray} {r : St × Sv × List ByteArray} (ha : Pre e rest a b) (h : ruleF f a s seen = some r) (hr : r.1.code = 0) : nextS b = nextS a ∧ ∃ b', ruleF f b s seen = some (b', r.2) ∧ Pre e rest r.1 b' := by
  unfold ruleF at h ⊢
  cases hk : bodyF f (nextS a) (nameS a seen) s with
  | none => rw [hk] at h; cases h
  | some z =>
    rw [hk] at h
    injection h with h; subst h
    obtain ⟨h1, h2, h3⟩ := must_ok hr
    obtain ⟨h4, h5, h6, h7⟩ := name_ok (body_ok hk h1)
    obtain ⟨h8, h9⟩ := ha.step (by rcases h5 with h5 | h5 | h5 | h5 <;> (rw [h5]; decide))
    have h10 : nameS b seen = takeS b := by
      unfold nameS
      rw [h8, if_neg (by rw [h6]; decide), if_pos h5]
    rw [h7] at hk
    obtain ⟨b', h11, h12⟩ := bodyF_pre h9 hk h1
    refine ⟨h8, ?_⟩
    rw [h8, h10, h11]
    exact ⟨_, rfl, (h12.must (by decide) hr).2⟩
theorem rulesF_pre {e : Wd} {rest : List Wd} : ∀ (f : Nat) (a b : St) (s : Sv) (seen : List ByteArray) (r : St × Sv), Pre e rest a b → rulesF f a s seen = some r → r.1.code = 0 → nextS r.1 = ⟨#[125]⟩ → ∃ b', rulesF f b s seen = some (b', r.2) ∧ Pre e rest r.1 b'
  | 0, _, _, _, _, _, _, h, _, _ => by cases h
  | f + 1, a, b, s, seen, r, ha, h, hr, hx => by
    unfold rulesF at h ⊢
    rw [if_pos ha.ca] at h
    rw [if_pos ha.cb]
    split at h
    · rename_i h1
      injection h with h; subst h
      have h2 := (ha.step (by rw [h1]; decide)).1
      rw [h2, if_pos h1]
      exact ⟨_, rfl, ha⟩
    · rename_i h1
      cases hk : ruleF f a s seen with
      | none => rw [hk] at h; cases h
      | some z =>
        rw [hk, Option.bind_some] at h
        obtain ⟨h2, b', h3, h4⟩ := ruleF_pre ha hk (rules_ok h hr)
        rw [h2, if_neg h1, h3, Option.bind_some]
        exact rulesF_pre f _ _ _ _ _ h4 h hr hx
theorem siteF_pre {e : Wd} {rest : List Wd} {f : Nat} {a b : St} {sites : List S29} {r : St × List S29} (ha : Pre e rest a b) (h : siteF f a sites = some r) (hr : r.1.code = 0) : ∃ b', siteF f b sites = some (b', r.2) ∧ Pre e rest r.1 b' := by
  obtain ⟨z, hk, hz, rfl, h1, h2, h3, h4, h5, h6, h7, h8, h9, h10, h11⟩ := site_ok h hr
  obtain ⟨p1, p2⟩ := ha.step (by rw [h2]; decide)
  obtain ⟨p3, p4⟩ := p2.step (fun e => by rw [e, hostV_nil] at h7; exact absurd h7.1 (by decide))
  have hm : (mustS (takeS (takeS a)) ⟨#[123]⟩).code = 0 := rules_ok hk hz
  obtain ⟨p5, p6⟩ := p4.must (by decide) hm
  obtain ⟨b', p7, p8⟩ := rulesF_pre _ _ _ _ _ _ p6 hk hz h10
  have q1 : headS b sites = takeS b := by
    unfold headS
    rw [p1, if_neg (fun z => h3 z.2)]
    unfold mustS
    rw [p1, if_pos h2]
  have q2 : hostS (takeS b) sites = takeS b := by
    unfold hostS
    rw [p3, if_neg (by rw [h6]; decide), if_neg (fun z => z.2 h7)]
  refine ⟨mustS b' ⟨#[125]⟩, ?_, (p8.must (by decide) hr).2⟩
  unfold siteF
  rw [q1, q2, p3, p7]
  rfl
theorem siteF_le {f g : Nat} (hle : f ≤ g) {st : St} {sites : List S29} {r : St × List S29} (h : siteF f st sites = some r) : siteF g st sites = some r := by
  obtain ⟨d, rfl⟩ := Nat.exists_eq_add_of_le hle
  clear hle
  induction d with
  | zero => exact h
  | succ d ih => exact siteF_mono ih
theorem sitesF_pre {e : Wd} {rest : List Wd} (g : Nat) : ∀ (f : Nat) (a b : St) (sites : List S29) (r : St × List S29), Pre e rest a b → sitesF f a sites = some r → r.1.code = 0 → ∃ g', g ≤ g' ∧ sitesF (f + g) b sites = sitesF g' ⟨rest, 0, 0⟩ r.2
  | 0, _, _, _, _, _, h, _ => by cases h
  | f + 1, a, b, sites, r, ha, h, hr => by
    unfold sitesF at h
    by_cases hc : a.code = 0 ∧ 1 < a.l.length
    · rw [if_pos hc] at h
      cases hk : siteF f a sites with
      | none => rw [hk] at h; cases h
      | some z =>
        rw [hk, Option.bind_some] at h
        obtain ⟨b', h1, h2⟩ := siteF_pre ha hk (sites_ok h hr)
        obtain ⟨g', h3, h4⟩ := sitesF_pre g f _ _ _ _ h2 h hr
        refine ⟨g', h3, ?_⟩
        rw [← h4, show f + 1 + g = (f + g) + 1 from by omega]
        conv => lhs; unfold sitesF
        obtain ⟨l1, h5, h6⟩ := ha.ws
        have hrest := ha.hr
        rw [if_pos ⟨ha.cb, by rw [h5] at hc; simp at hc; rw [h6]; simp; have := hc.2; omega⟩, siteF_le (show f ≤ f + g by omega) h1, Option.bind_some]
    · rw [if_neg hc] at h
      injection h with h; subst h
      obtain ⟨l1, h5, h6⟩ := ha.ws
      have h7 : l1 = [] := by
        cases l1 with
        | nil => rfl
        | cons x l2 => exact absurd ⟨ha.ca, by rw [h5]; simp⟩ hc
      subst h7
      refine ⟨f + 1 + g, by omega, ?_⟩
      have : b = ⟨rest, 0, 0⟩ := by
        obtain ⟨bl, bc, bn⟩ := b
        have e1 := ha.cb
        have e2 := ha.lb
        simp only [List.nil_append] at h6 e1 e2
        subst h6 e1 e2
        rfl
      rw [this]
end Go.Proofs.YtcoaajkhfgakgaaDoor.Pr
end

section
namespace Go.Proofs.YtcoaajkhfgakgaaDoor.Pr
open Go.RowKit Go.Proofs.YtcoaajkhfgakgaaDoorW.PrintWords Go.Proofs.YtcoaajkhfgakgaaDoorW.PrintLast Go.Proofs.YtcoaajkhfgakgaaDoorW.PrintMore
set_option linter.unusedVariables false
set_option linter.unusedSimpArgs false
theorem bt_right (p s : ByteArray) (k : Nat) : bt (p ++ s) ((p.size + k : Nat) : Int) = bt s (k : Nat) := by
  unfold bt
  simp only [Int.toNat_natCast]
  by_cases h : k < s.size
  · rw [dif_pos (by rw [ByteArray.size_append]; omega), dif_pos h]
    congr 2
    rw [ByteArray.getElem_append_right (by omega)]
    congr 1
    omega
  · rw [dif_neg (by rw [ByteArray.size_append]; omega), dif_neg h]
theorem bt_left (p s : ByteArray) (k : Nat) (h : k < p.size) : bt (p ++ s) (k : Nat) = bt p (k : Nat) := by
  unfold bt
  simp only [Int.toNat_natCast]
  rw [dif_pos (by rw [ByteArray.size_append]; omega), dif_pos h]
  congr 2
  exact ByteArray.getElem_append_left h
theorem extract_right (p s : ByteArray) (a b : Nat) : (p ++ s).extract (p.size + a) (p.size + b) = s.extract a b := by
  apply ByteArray.ext
  simp [ByteArray.data_extract, ByteArray.data_append, Array.extract_append, ← ByteArray.size_data]
theorem extract_left (p s : ByteArray) (a b : Nat) (h : b ≤ p.size) : (p ++ s).extract a b = p.extract a b := by
  apply ByteArray.ext
  have : b - p.data.size = 0 := by rw [ByteArray.size_data]; omega
  simp [ByteArray.data_extract, ByteArray.data_append, Array.extract_append, this]
  omega
def shiftW (d : Int) (x : Wd) : Wd := ⟨x.s, x.line + d⟩
def shF (p : Nat) (frm : Int) : Int := if frm < 0 then frm else p + frm
theorem skipC_fuel (s : ByteArray) : ∀ (n m k : Nat), s.size ≤ k + n → s.size ≤ k + m → skipC s n k = skipC s m k
  | 0, 0, k, _, _ => rfl
  | 0, m + 1, k, h, _ => by unfold skipC; rw [if_neg (fun z => by omega)]
  | n + 1, 0, k, _, h => by unfold skipC; rw [if_neg (fun z => by omega)]
  | n + 1, m + 1, k, h1, h2 => by
    unfold skipC
    split
    · exact skipC_fuel s n m (k + 1) (by omega) (by omega)
    · rfl
theorem skipC_right (p s : ByteArray) : ∀ (n k : Nat), skipC (p ++ s) n (p.size + k) = p.size + skipC s n k
  | 0, k => rfl
  | n + 1, k => by
    unfold skipC
    rw [show p.size + k + 1 = p.size + (k + 1) from by omega, bt_right p s (k + 1), ByteArray.size_append]
    by_cases h : k + 1 < s.size ∧ bt s ((k + 1 : Nat) : Int) ≠ 10
    · rw [if_pos h, if_pos ⟨by omega, h.2⟩]
      exact skipC_right p s n (k + 1)
    · rw [if_neg h, if_neg (fun z => h ⟨by omega, z.2⟩)]
theorem endW_right (p s : ByteArray) (k : Nat) (line frm d : Int) (pre ws : List Wd) : endW (p ++ s) (p.size + k) (line + d) (shF p.size frm) (pre ++ ws.map (shiftW d)) = pre ++ (endW s k line frm ws).map (shiftW d) := by
  by_cases h : 0 ≤ frm
  · obtain ⟨f, rfl⟩ := Int.eq_ofNat_of_zero_le h
    have e : shF p.size (f : Int) = ((p.size + f : Nat) : Int) := by unfold shF; rw [if_neg (by omega)]; omega
    unfold endW
    rw [e, if_pos (by omega), if_pos h, Int.toNat_natCast, extract_right, Int.toNat_natCast]
    simp [shiftW]
  · have e : shF p.size frm = frm := by unfold shF; rw [if_pos (by omega)]
    unfold endW
    rw [e, if_neg h, if_neg h]
theorem stepW_right (p s : ByteArray) (k : Nat) (line frm d : Int) (pre ws : List Wd) (hk : k < s.size) :
    stepW (p ++ s) (p.size + k) (line + d) (shF p.size frm) (pre ++ ws.map (shiftW d)) =
      (p.size + (stepW s k line frm ws).1, (stepW s k line frm ws).2.1 + d, shF p.size (stepW s k line frm ws).2.2.1, pre ++ (stepW s k line frm ws).2.2.2.map (shiftW d)) := by
  unfold stepW
  rw [bt_right, show p.size + k + 1 = p.size + (k + 1) from by omega, bt_right p s (k + 1), endW_right, ByteArray.size_append, extract_right]
  have hsk : skipC (p ++ s) (p.size + s.size) (p.size + k) = p.size + skipC s s.size k := by
    rw [skipC_fuel (p ++ s) (p.size + s.size) s.size _ (by rw [ByteArray.size_append]; omega) (by rw [ByteArray.size_append]; omega)]
    exact skipC_right p s s.size k
  by_cases h1 : bt s k = 47 ∧ k + 1 < s.size ∧ bt s ((k + 1 : Nat) : Int) = 47
  · rw [if_pos h1, if_pos ⟨h1.1, by omega, h1.2.2⟩, hsk]
    simp only [shF]
    simp; omega
  · rw [if_neg h1, if_neg (fun z => h1 ⟨z.1, by omega, z.2.2⟩)]
    by_cases h2 : bt s k = 32 ∨ bt s k = 9 ∨ bt s k = 10
    · rw [if_pos h2, if_pos h2]
      simp only [shF]
      by_cases h3 : bt s k = 10
      · simp [h3]; omega
      · simp [h3]
    · rw [if_neg h2, if_neg h2]
      by_cases h3 : bt s k = 123 ∨ bt s k = 125 ∨ bt s k = 59
      · rw [if_pos h3, if_pos h3]
        simp [shF, shiftW]
      · rw [if_neg h3, if_neg h3]
        by_cases h4 : frm < 0
        · have e1 : shF p.size frm = frm := by unfold shF; rw [if_pos h4]
          have e2 : shF p.size (k : Int) = ((p.size + k : Nat) : Int) := by unfold shF; rw [if_neg (by omega)]; omega
          rw [e1]
          simp only [if_pos h4, e2]
        · have e1 : shF p.size frm = p.size + frm := by unfold shF; rw [if_neg h4]
          have e3 : ¬ ((p.size : Int) + frm < 0) := by omega
          rw [e1]
          simp only [if_neg h4, if_neg e3, e1]
theorem tkF_right (p s : ByteArray) (d : Int) (pre : List Wd) : ∀ (n k : Nat) (line frm : Int) (ws : List Wd), s.size - k < n → tkF (p ++ s) n (p.size + k) (line + d) (shF p.size frm) (pre ++ ws.map (shiftW d)) = pre ++ (tkF s n k line frm ws).map (shiftW d)
  | 0, k, line, frm, ws, h => by omega
  | n + 1, k, line, frm, ws, h => by
    unfold tkF
    by_cases hk : k < s.size
    · have h2 := (stepW_count s k line frm ws).2
      rw [if_pos hk, if_pos (by rw [ByteArray.size_append]; omega), stepW_right p s k line frm d pre ws hk]
      exact tkF_right p s d pre n _ _ _ _ (by omega)
    · rw [if_neg hk, if_neg (by rw [ByteArray.size_append]; omega), ByteArray.size_append, endW_right]
      simp [shiftW]
theorem tkF_fuel (s : ByteArray) : ∀ (n m k : Nat) (line frm : Int) (ws : List Wd), s.size - k < n → s.size - k < m → tkF s n k line frm ws = tkF s m k line frm ws
  | 0, _, _, _, _, _, h, _ => by omega
  | _ + 1, 0, _, _, _, _, _, h => by omega
  | n + 1, m + 1, k, line, frm, ws, h1, h2 => by
    unfold tkF
    split
    · have h3 := (stepW_count s k line frm ws).2
      exact tkF_fuel s n m _ _ _ _ (by omega) (by omega)
    · rfl
end Go.Proofs.YtcoaajkhfgakgaaDoor.Pr
end

section
namespace Go.Proofs.YtcoaajkhfgakgaaDoor.Pr
open Go.RowKit Go.Proofs.YtcoaajkhfgakgaaDoorW.PrintWords Go.Proofs.YtcoaajkhfgakgaaDoorW.PrintLast Go.Proofs.YtcoaajkhfgakgaaDoorW.PrintMore
set_option linter.unusedVariables false
set_option linter.unusedSimpArgs false
def EndsNl (p : ByteArray) : Prop := 0 < p.size ∧ bt p ((p.size - 1 : Nat) : Int) = 10
theorem skipC_left (p b : ByteArray) (hp : EndsNl p) : ∀ (n m k : Nat), k + 1 < p.size → p.size ≤ k + n → p.size ≤ k + m → skipC (p ++ b) n k = skipC p m k ∧ skipC p m k + 1 < p.size
  | 0, _, k, h, h1, _ => by omega
  | _ + 1, 0, k, h, _, h2 => by omega
  | n + 1, m + 1, k, h, h1, h2 => by
    unfold skipC
    rw [bt_left p b (k + 1) h, ByteArray.size_append]
    by_cases h3 : bt p ((k + 1 : Nat) : Int) = 10
    · rw [if_neg (fun z => z.2 h3), if_neg (fun z => z.2 h3)]
      exact ⟨rfl, h⟩
    · have h4 : k + 1 ≠ p.size - 1 := fun e => h3 (by rw [e]; exact hp.2)
      rw [if_pos ⟨by omega, h3⟩, if_pos ⟨h, h3⟩]
      exact skipC_left p b hp n m (k + 1) (by omega) (by omega) (by omega)
theorem endW_left (p b : ByteArray) (k : Nat) (hk : k ≤ p.size) (line frm : Int) (ws : List Wd) : endW (p ++ b) k line frm ws = endW p k line frm ws := by
  unfold endW
  rw [extract_left p b _ k hk]
theorem stepW_left (p b : ByteArray) (hp : EndsNl p) (k : Nat) (hk : k < p.size) (line frm : Int) (ws : List Wd) :
    stepW (p ++ b) k line frm ws = stepW p k line frm ws ∧ ((stepW p k line frm ws).1 = p.size → (stepW p k line frm ws).2.2.1 = -1) := by
  have hlast : bt p (k : Nat) ≠ 10 → k + 1 < p.size := fun h => by
    have : k ≠ p.size - 1 := fun e => h (by rw [e]; exact hp.2)
    omega
  unfold stepW
  rw [bt_left p b k hk, endW_left p b k (by omega), ByteArray.size_append, extract_left p b k (k + 1) (by omega)]
  by_cases h1 : bt p k = 47
  · have hk1 := hlast (by rw [h1]; decide)
    rw [bt_left p b (k + 1) hk1]
    by_cases h2 : bt p ((k + 1 : Nat) : Int) = 47
    · rw [if_pos ⟨h1, by omega, h2⟩, if_pos ⟨h1, by omega, h2⟩, (skipC_left p b hp (p.size + b.size) p.size k hk1 (by omega) (by omega)).1]
      exact ⟨rfl, fun _ => rfl⟩
    · have n1 : ¬ (bt p k = 47 ∧ k + 1 < p.size + b.size ∧ bt p ((k + 1 : Nat) : Int) = 47) := fun z => h2 z.2.2
      have n2 : ¬ (bt p k = 47 ∧ k + 1 < p.size ∧ bt p ((k + 1 : Nat) : Int) = 47) := fun z => h2 z.2.2
      have n3 : ¬ (bt p k = 32 ∨ bt p k = 9 ∨ bt p k = 10) := by omega
      have n4 : ¬ (bt p k = 123 ∨ bt p k = 125 ∨ bt p k = 59) := by omega
      rw [if_neg n1, if_neg n2, if_neg n3, if_neg n4]
      exact ⟨rfl, fun e => by simp only at e; omega⟩
  · have n1 : ¬ (bt p k = 47 ∧ k + 1 < p.size + b.size ∧ bt (p ++ b) ((k + 1 : Nat) : Int) = 47) := fun z => h1 z.1
    have n2 : ¬ (bt p k = 47 ∧ k + 1 < p.size ∧ bt p ((k + 1 : Nat) : Int) = 47) := fun z => h1 z.1
    rw [if_neg n1, if_neg n2]
    refine ⟨rfl, ?_⟩
    by_cases h2 : bt p k = 32 ∨ bt p k = 9 ∨ bt p k = 10
    · rw [if_pos h2]; exact fun _ => rfl
    · rw [if_neg h2]
      by_cases h3 : bt p k = 123 ∨ bt p k = 125 ∨ bt p k = 59
      · rw [if_pos h3]; exact fun _ => rfl
      · rw [if_neg h3]
        have := hlast (fun e => h2 (.inr (.inr e)))
        intro e
        simp only at e
        omega
theorem tkF_go (s : ByteArray) (n k : Nat) (line frm : Int) (ws : List Wd) (h : k < s.size) : tkF s (n + 1) k line frm ws = tkF s n (stepW s k line frm ws).1 (stepW s k line frm ws).2.1 (stepW s k line frm ws).2.2.1 (stepW s k line frm ws).2.2.2 := by
  conv => lhs; unfold tkF
  rw [if_pos h]
theorem tkF_stop (s : ByteArray) (n k : Nat) (line frm : Int) (ws : List Wd) (h : ¬ k < s.size) : tkF s (n + 1) k line frm ws = endW s s.size line frm ws ++ [⟨⟨#[]⟩, line⟩] := by
  unfold tkF
  rw [if_neg h]
theorem tkF_left (p b : ByteArray) (hp : EndsNl p) : ∀ (n k : Nat) (line frm : Int) (ws : List Wd), k ≤ p.size → p.size - k < n → (k = p.size → frm = -1) →
    ∃ W1 l', tkF p n k line frm ws = W1 ++ [⟨⟨#[]⟩, l'⟩] ∧ ∀ m, (p ++ b).size - k < m → ∃ m', (p ++ b).size - p.size < m' ∧ tkF (p ++ b) m k line frm ws = tkF (p ++ b) m' p.size l' (-1) W1
  | 0, k, line, frm, ws, _, h, _ => by omega
  | n + 1, k, line, frm, ws, hk, hn, hf => by
    by_cases hlt : k < p.size
    · obtain ⟨e1, e2⟩ := stepW_left p b hp k hlt line frm ws
      have h1 := stepW_at p k line frm ws hlt
      rw [tkF_go p n k line frm ws hlt]
      obtain ⟨W1, l', h2, h3⟩ := tkF_left p b hp n (stepW p k line frm ws).1 (stepW p k line frm ws).2.1 (stepW p k line frm ws).2.2.1 (stepW p k line frm ws).2.2.2 h1.2 (by omega) e2
      refine ⟨W1, l', h2, fun m hm => ?_⟩
      obtain ⟨m, rfl⟩ : ∃ m', m = m' + 1 := ⟨m - 1, by omega⟩
      have h6 := (stepW_count p k line frm ws).2
      have hz := ByteArray.size_append (a := p) (b := b)
      obtain ⟨m', h4, h5⟩ := h3 m (by omega)
      refine ⟨m', h4, ?_⟩
      rw [tkF_go _ _ _ _ _ _ (show k < (p ++ b).size by omega), e1]
      exact h5
    · have hkp : k = p.size := by omega
      have hfr := hf hkp
      subst hkp hfr
      rw [tkF_stop p n p.size line (-1) ws hlt]
      exact ⟨ws, line, by unfold endW; rw [if_neg (by decide)], fun m hm => ⟨m, hm, rfl⟩⟩
theorem words_cat (p b : ByteArray) (hp : EndsNl p) : ∃ W1 d, wordsS p = W1 ++ [⟨⟨#[]⟩, 1 + d⟩] ∧ wordsS (p ++ b) = W1 ++ (wordsS b).map (shiftW d) := by
  obtain ⟨W1, l', h1, h2⟩ := tkF_left p b hp (p.size + 1) 0 1 (-1) [] (Nat.zero_le _) (by omega) (fun _ => rfl)
  refine ⟨W1, l' - 1, by rw [show 1 + (l' - 1) = l' from by omega]; exact h1, ?_⟩
  obtain ⟨m', h3, h4⟩ := h2 ((p ++ b).size + 1) (by omega)
  have h5 := tkF_right p b (l' - 1) W1 m' 0 1 (-1) [] (by rw [ByteArray.size_append] at h3; omega)
  rw [show (1 : Int) + (l' - 1) = l' from by omega] at h5
  simp only [List.map_nil, List.append_nil, Nat.add_zero] at h5
  unfold wordsS
  rw [h4]
  have h6 : shF p.size (-1) = -1 := rfl
  rw [h6] at h5
  rw [h5, tkF_fuel b m' (b.size + 1) 0 1 (-1) [] (by rw [ByteArray.size_append] at h3; omega) (by omega)]
theorem endsNl_snoc (a : ByteArray) : EndsNl (a ++ (⟨#[10]⟩ : ByteArray)) := by
  have hz : (a ++ (⟨#[10]⟩ : ByteArray)).size = a.size + 1 := by rw [ByteArray.size_append]; rfl
  refine ⟨by omega, ?_⟩
  rw [hz, show a.size + 1 - 1 = a.size + 0 from by omega, bt_right a ⟨#[10]⟩ 0]
  decide
end Go.Proofs.YtcoaajkhfgakgaaDoor.Pr
end

section
namespace Go.Proofs.YtcoaajkhfgakgaaDoor.Pr
open Go.RowKit Go.Proofs.YtcoaajkhfgakgaaDoorW.PrintWords Go.Proofs.YtcoaajkhfgakgaaDoorW.PrintLast Go.Proofs.YtcoaajkhfgakgaaDoorW.PrintMore
set_option linter.unusedVariables false
set_option linter.unusedSimpArgs false
theorem findS_cat (x : ByteArray) : ∀ c ds : List S29, (findS x (c ++ ds)).2 = ((findS x c).2 || (findS x ds).2)
  | [], ds => by simp [findS]
  | y :: c, ds => by
    have ih := findS_cat x c ds
    unfold findS at ih ⊢
    by_cases h : y.f0 = x
    · rw [List.cons_append, List.find?_cons_of_pos (by simp [h]), List.find?_cons_of_pos (by simp [h])]
      rfl
    · rw [List.cons_append, List.find?_cons_of_neg (by simp [h]), List.find?_cons_of_neg (by simp [h])]
      exact ih
theorem must_keep {st : St} (h : st.code ≠ 0) (s : ByteArray) : (mustS st s).code = st.code := by
  unfold mustS
  rw [code_take]
  split
  · rfl
  · unfold failS; rw [if_neg h]
theorem sites_bad {f : Nat} {st : St} {sites : List S29} (h : st.code ≠ 0) : sitesF (f + 1) st sites = some (st, sites) := by
  unfold sitesF; rw [if_neg (fun z => h z.1)]
theorem rules_bad {f : Nat} {st : St} {s : Sv} {seen : List ByteArray} (h : st.code ≠ 0) : rulesF (f + 1) st s seen = some (st, s) := by
  unfold rulesF; rw [if_neg h]
theorem sitesF_more : ∀ (f : Nat) (st : St) (ds : List S29) (r : St × List S29), sitesF f st ds = some r → ∃ more, r.2 = ds ++ more
  | 0, _, _, _, h => by cases h
  | f + 1, st, ds, r, h => by
    unfold sitesF at h
    split at h
    · cases hk : siteF f st ds with
      | none => rw [hk] at h; cases h
      | some z =>
        rw [hk, Option.bind_some] at h
        obtain ⟨more, h1⟩ := sitesF_more f _ _ _ h
        unfold siteF at hk
        cases hq : rulesF f (mustS (takeS (hostS (headS st ds) ds)) ⟨#[123]⟩) ⟨nextS (headS st ds), 1, 0, 3600, true, true, []⟩ [] with
        | none => rw [hq] at hk; cases hk
        | some y =>
          rw [hq] at hk
          injection hk with hk
          subst hk
          exact ⟨_, by rw [h1, List.append_assoc]⟩
    · injection h with h; subst h; exact ⟨[], by simp⟩
theorem siteF_twice {R : Int → Int → Prop} {f : Nat} {a b : St} {sa sb : List S29} {r : St × List S29} (ha : Alk R a b) (h8 : sb.length ≠ 8) (h : siteF f a sa = some r) (hr : r.1.code = 0) (hf : (findS (nextS (takeS a)) sb).2 = true) :
    ∃ q, siteF f b sb = some q ∧ q.1.code = 31 := by
  obtain ⟨z, hk, hz, rfl, h1, h2, h3, h4, h5, h6, h7, h8', h9, h10, h11⟩ := site_ok h hr
  have a1 : Alk R (headS a sa) (headS b sb) := ha.head (fun _ => ⟨fun e => absurd e h3, fun e => absurd e h8⟩)
  rw [h4] at a1
  have e1 : (headS b sb).code = 0 := by rw [← a1.code, code_take]; exact h1
  have e2 : (hostS (headS b sb) sb).code = 31 := by
    unfold hostS
    rw [← a1.next, if_pos hf, if_neg (fun z => z.2 h7)]
    unfold failS
    rw [if_pos e1]
  obtain ⟨g, rfl⟩ : ∃ g, f = g + 1 := by
    cases f with
    | zero => cases hk
    | succ g => exact ⟨g, rfl⟩
  have e3 : (mustS (takeS (hostS (headS b sb) sb)) ⟨#[123]⟩).code = 31 := by
    rw [must_keep (by rw [code_take, e2]; decide), code_take, e2]
  unfold siteF
  rw [rules_bad (by rw [e3]; decide)]
  refine ⟨_, rfl, ?_⟩
  show (mustS (mustS (takeS (hostS (headS b sb) sb)) ⟨#[123]⟩) ⟨#[125]⟩).code = 31
  rw [must_keep (by rw [e3]; decide), e3]
theorem sitesF_suf {R : Int → Int → Prop} (c : List S29) : ∀ (f : Nat) (a b : St) (ds : List S29) (r : St × List S29), Alk R a b → sitesF f a ds = some r → r.1.code = 0 → c.length + r.2.length ≤ 8 → (∀ x ∈ ds, (findS x.f0 c).2 = false) →
    ((∀ x ∈ r.2, (findS x.f0 c).2 = false) → ∃ b', sitesF f b (c ++ ds) = some (b', c ++ r.2) ∧ Alk R r.1 b') ∧
    ((∃ x ∈ r.2, (findS x.f0 c).2 = true) → ∃ q, sitesF f b (c ++ ds) = some q ∧ q.1.code = 31)
  | 0, _, _, _, _, _, h, _, _, _ => by cases h
  | f + 1, a, b, ds, r, ha, h, hr, hlen, hds => by
    unfold sitesF at h
    by_cases hc : a.code = 0 ∧ 1 < a.l.length
    · rw [if_pos hc] at h
      have hl := (ha.words hc.1).len
      have hcb : b.code = 0 ∧ 1 < b.l.length := ⟨ha.code ▸ hc.1, hl ▸ hc.2⟩
      cases hk : siteF f a ds with
      | none => rw [hk] at h; cases h
      | some z =>
        rw [hk, Option.bind_some] at h
        obtain ⟨more, hm⟩ := sitesF_more _ _ _ _ h
        have hzc := sites_ok h hr
        obtain ⟨y, hy, hyc, hz, h1, h2, h3, h4, h5, h6, h7, h8, h9, h10, h11⟩ := site_ok hk hzc
        have hz2 : z.2 = ds ++ [mkSite y.2] := by rw [hz]
        have hhost : (mkSite y.2).f0 = nextS (takeS a) := rulesF_host _ _ _ _ _ hy
        rw [hz2] at hm
        have hlt : ds.length + c.length < 8 := by
          rw [hm] at hlen
          simp only [List.length_append, List.length_singleton] at hlen
          omega
        have hmem : mkSite y.2 ∈ r.2 := by rw [hm]; simp
        by_cases hfc : (findS (nextS (takeS a)) c).2 = true
        · refine ⟨fun hall => ?_, fun _ => ?_⟩
          · have := hall _ hmem
            rw [hhost, hfc] at this
            cases this
          · obtain ⟨q, hq1, hq2⟩ := siteF_twice ha (sb := c ++ ds) (by simp; omega) hk hzc (by rw [findS_cat, hfc]; rfl)
            obtain ⟨g, rfl⟩ : ∃ g, f = g + 1 := by
              cases f with
              | zero => cases h
              | succ g => exact ⟨g, rfl⟩
            refine ⟨q, ?_, hq2⟩
            conv => lhs; unfold sitesF
            rw [if_pos hcb, hq1, Option.bind_some]
            exact sites_bad (by rw [hq2]; decide)
        · have hfc' : (findS (nextS (takeS a)) c).2 = false := by simpa using hfc
          obtain ⟨b', s, e1, e2, e3⟩ := siteF_alk (sb := c ++ ds) ha (fun _ => ⟨fun e => absurd e h3, fun e => by simp only [List.length_append] at e; omega⟩) (by rw [h4, findS_cat, hfc']; rfl) hk
          have hs : s = mkSite y.2 := by
            rw [e1] at hz2
            simpa using hz2
          subst hs
          have ih := sitesF_suf c f z.1 b' (ds ++ [mkSite y.2]) r e3 (by rw [← hz2]; exact h) hr hlen (fun x hx => by
            rcases List.mem_append.1 hx with hx | hx
            · exact hds x hx
            · rw [List.mem_singleton.1 hx, hhost]; exact hfc')
          rw [← List.append_assoc] at ih
          conv => lhs; rhs; rhs; ext; lhs; lhs; unfold sitesF
          conv => rhs; rhs; rhs; ext; lhs; lhs; unfold sitesF
          rw [if_pos hcb, e2, Option.bind_some]
          exact ih
    · rw [if_neg hc] at h
      injection h with h
      subst h
      have hcb : ¬ (b.code = 0 ∧ 1 < b.l.length) := fun z => hc ⟨ha.code.trans z.1, (ha.words (ha.code.trans z.1)).len ▸ z.2⟩
      refine ⟨fun _ => ⟨b, ?_, ha⟩, fun ⟨x, hx, hx1⟩ => ?_⟩
      · unfold sitesF; rw [if_neg hcb]
      · rw [hds x hx] at hx1; cases hx1
theorem fa_refl : ∀ l : List Wd, Fa (fun x y => x = y) l l
  | [] => trivial
  | x :: l => ⟨rfl, rfl, fa_refl l⟩
theorem read_eq (s : ByteArray) (hs : s.size ≤ 4096) : ∃ r, (∀ f, 2 * s.size + 3 ≤ f → sitesF f ⟨wordsS s, 0, 0⟩ [] = some r) ∧ (r.1.code = 0 → r.1.line = 0) ∧
    conf_Read.f s = some (if r.1.code = 0 then (r.2, 0, 0) else ([], r.1.code, r.1.line)) := by
  obtain ⟨r, hr⟩ := sites_of s
  obtain ⟨b', _, h2⟩ := sitesF_alk _ _ _ [] r (alk_start (fa_refl _) (words_pos s)) (hr _ (Nat.le_refl _))
  have h3 : r.1.code = 0 → r.1.line = 0 := fun h => (h2.zero h).1
  refine ⟨r, hr, h3, ?_⟩
  unfold conf_Read.f
  rw [if_neg (by omega), hr _ (by omega), Option.map_some]
  by_cases hc : r.1.code = 0
  · rw [if_pos ⟨hc, h3 hc⟩, if_pos hc]
  · rw [if_neg (fun z => hc z.1), if_neg hc]
theorem read_cat (p b : ByteArray) (hp : EndsNl p) (hz : (p ++ b).size ≤ 4096) {c d : List S29} {l1 l2 : Int} (hc : conf_Read.f p = some (c, 0, l1)) (hd : conf_Read.f b = some (d, 0, l2)) (h8 : c.length + d.length ≤ 8) :
    ((∀ x ∈ d, (findS x.f0 c).2 = false) → conf_Read.f (p ++ b) = some (c ++ d, 0, 0)) ∧
    ((∃ x ∈ d, (findS x.f0 c).2 = true) → ∃ l, conf_Read.f (p ++ b) = some ([], 31, l)) := by
  have hz' := hz
  rw [ByteArray.size_append] at hz'
  obtain ⟨rp, hp1, hp2, hp3⟩ := read_eq p (by omega)
  obtain ⟨rb, hb1, hb2, hb3⟩ := read_eq b (by omega)
  have cp : rp.1.code = 0 := by
    by_cases h : rp.1.code = 0
    · exact h
    · rw [hc, if_neg h] at hp3
      injection hp3 with hp3
      simp only [Prod.mk.injEq] at hp3
      exact absurd hp3.2.1.symm h
  have cb : rb.1.code = 0 := by
    by_cases h : rb.1.code = 0
    · exact h
    · rw [hd, if_neg h] at hb3
      injection hb3 with hb3
      simp only [Prod.mk.injEq] at hb3
      exact absurd hb3.2.1.symm h
  rw [hc, if_pos cp] at hp3
  rw [hd, if_pos cb] at hb3
  simp only [Option.some.injEq, Prod.mk.injEq] at hp3 hb3
  obtain ⟨ec, _, _⟩ := hp3
  obtain ⟨ed, _, _⟩ := hb3
  obtain ⟨W1, dl, hw1, hw2⟩ := words_cat p b hp
  have hpre : Pre ⟨⟨#[]⟩, 1 + dl⟩ ((wordsS b).map (shiftW dl)) ⟨wordsS p, 0, 0⟩ ⟨wordsS (p ++ b), 0, 0⟩ := ⟨rfl, rfl, rfl, rfl, ⟨W1, hw1, hw2⟩, rfl, by rw [List.length_map]; exact words_pos b⟩
  obtain ⟨g', hg1, hg2⟩ := sitesF_pre (2 * (p ++ b).size + 3) _ _ _ _ _ hpre (hp1 (2 * p.size + 3) (Nat.le_refl _)) cp
  obtain ⟨r, hr1, hr2, hr3⟩ := read_eq (p ++ b) hz
  rw [hr1 _ (by omega), ← ec] at hg2
  have hal : Alk (fun _ _ => True) ⟨wordsS b, 0, 0⟩ ⟨(wordsS b).map (shiftW dl), 0, 0⟩ := alk_start (fa_shift _ (shiftW dl) (fun _ => rfl) (fun _ => trivial) _) (words_pos b)
  have hsuf := sitesF_suf c g' _ _ [] rb hal (hb1 _ (by rw [ByteArray.size_append] at hg1; omega)) cb (by rw [← ed]; exact h8) (fun x hx => by cases hx)
  rw [List.append_nil, ← hg2, ← ed] at hsuf
  refine ⟨fun h => ?_, fun h => ?_⟩
  · obtain ⟨b', e1, e2⟩ := hsuf.1 h
    injection e1 with e1
    rw [hr3, e1, if_pos (e2.code ▸ cb)]
  · obtain ⟨q, e1, e2⟩ := hsuf.2 h
    injection e1 with e1
    rw [hr3, e1, if_neg (by rw [e2]; decide), e2]
    exact ⟨_, rfl⟩
end Go.Proofs.YtcoaajkhfgakgaaDoor.Pr
end

section
namespace Go.Proofs.YtcoaajkhfgakgaaDoor.Pr
open Go.RowKit Go.Proofs.YtcoaajkhfgakgaaDoorW.PrintWords Go.Proofs.YtcoaajkhfgakgaaDoorW.PrintLast Go.Proofs.YtcoaajkhfgakgaaDoorW.PrintMore
set_option linter.unusedVariables false
set_option linter.unusedSimpArgs false
theorem findS_mem {x : ByteArray} {l : List S29} : (findS x l).2 = true ↔ ∃ y ∈ l, y.f0 = x := by
  unfold findS
  cases h : l.find? (fun y => decide (y.f0 = x)) with
  | none =>
    simp only [Bool.false_eq_true, false_iff]
    rintro ⟨y, hy, he⟩
    have := List.find?_eq_none.1 h y hy
    simp [he] at this
  | some y =>
    simp only [true_iff]
    exact ⟨y, List.mem_of_find?_eq_some h, by simpa using List.find?_some h⟩
theorem rows_two (a b : ByteArray) (ha : a.size ≤ 1500) (hb : b.size ≤ 1500) {c d : List S29} {l1 l2 : Int} (hc : conf_Read.f (a ++ (⟨#[10]⟩ : ByteArray)) = some (c, 0, l1)) (hd : conf_Read.f b = some (d, 0, l2)) (h8 : c.length + d.length ≤ 8) :
    ((∀ x ∈ c, (findS x.f0 d).2 = false) → conf_Read.f ((a ++ (⟨#[10]⟩ : ByteArray)) ++ b) = some (c ++ d, 0, 0)) ∧
    ((∃ x ∈ c, (findS x.f0 d).2 = true) → ∃ l, conf_Read.f ((a ++ (⟨#[10]⟩ : ByteArray)) ++ b) = some ([], 31, l)) := by
  have hz : (a ++ (⟨#[10]⟩ : ByteArray)).size = a.size + 1 := by rw [ByteArray.size_append]; rfl
  obtain ⟨h1, h2⟩ := read_cat (a ++ (⟨#[10]⟩ : ByteArray)) b (endsNl_snoc a) (by rw [ByteArray.size_append, hz]; omega) hc hd h8
  refine ⟨fun h => h1 (fun x hx => ?_), fun ⟨x, hx, hf⟩ => h2 ?_⟩
  · cases hf : (findS x.f0 c).2 with
    | false => rfl
    | true =>
      obtain ⟨y, hy, he⟩ := findS_mem.1 hf
      have := h y hy
      have h3 : (findS y.f0 d).2 = true := findS_mem.2 ⟨x, hx, he.symm⟩
      rw [h3] at this
      cases this
  · obtain ⟨y, hy, he⟩ := findS_mem.1 hf
    exact ⟨y, hy, findS_mem.2 ⟨x, hx, he.symm⟩⟩
end Go.Proofs.YtcoaajkhfgakgaaDoor.Pr
end

section
namespace Go.Proofs.YtcoaajkhfgakgaaDoor.Pr
open Go.RowKit Go.Proofs.YtcoaajkhfgakgaaDoorW.PrintWords Go.Proofs.YtcoaajkhfgakgaaDoorW.PrintLast Go.Proofs.YtcoaajkhfgakgaaDoorW.PrintMore
attribute [local go_sem] max2_int min2_int max_two min_two max_three min_three max_four min_four   -- for this text's walks alone
set_option linter.unusedVariables false
set_option linter.unusedSimpArgs false
theorem eqA48 (d : Nat) (w : World) (x0 y0 : Int) (x1 y1 : Int) :
    (Op.equalIn (d + 2) 48 (.agg #[.int .i64 x0, .int .i64 x1]) (.agg #[.int .i64 y0, .int .i64 y1])).run Tryd.prog w = .ok (x0 == y0 && (x1 == y1)) w := by
  refine eqA_of Tryd.underlying48 (by kernel_rfl) ?_
  refine eqf_cons (by rfl) (by go_simp; rfl) (by go_simp; rfl) (by go_simp) ?_
  exact eqf_last (by rfl) (by go_simp; rfl) (by go_simp; rfl) (by go_simp)
end Go.Proofs.YtcoaajkhfgakgaaDoor.Pr
end

section
namespace Go.Proofs.YtcoaajkhfgakgaaDoor.Pr
open Go.RowKit Go.Proofs.YtcoaajkhfgakgaaDoorW.PrintWords Go.Proofs.YtcoaajkhfgakgaaDoorW.PrintLast Go.Proofs.YtcoaajkhfgakgaaDoorW.PrintMore
set_option linter.unusedVariables false
set_option linter.unusedSimpArgs false
theorem siteF_len {k : Nat} {st st' : St} {sites sites' : List S29} (h : siteF k st sites = some (st', sites')) : sites'.length = sites.length + 1 := by
  unfold siteF at h
  cases hr : rulesF k (mustS (takeS (hostS (headS st sites) sites)) ⟨#[123]⟩) ⟨nextS (headS st sites), 1, 0, 3600, true, true, []⟩ [] with
  | none => rw [hr] at h; simp at h
  | some r =>
    rw [hr] at h
    simp only [Option.map_some, Option.some.injEq, Prod.mk.injEq] at h
    rw [← h.2]
    simp
set_option maxRecDepth 100000 in
set_option maxHeartbeats 8000000 in
theorem conf_Read.calls (a0 : ByteArray) (r1 : List (S29)) (r2 : Int) (r3 : Int) (w : World) (hG : GL w) (h : conf_Read.f a0 = some (r1, r2, r3)) :
    Calls Tryd.prog 16 #[.string a0] w fun e w' => ∃ v0_ : Value, e = .returned (.tuple #[.agg #[v0_], .agg #[.int .i64 r2, .int .i64 r3]]) ∧ Kd.V k29 29 w' w.heap.size (fun k_ => (w.heap.size ≤ k_)) v0_ r1 ∧ Below w.heap.size w w' := by
  have hu := Tryd.underlying64
  have hu2 := Tryd.underlying48
  have hu4 := Tryd.underlying24
  have HG := Aside0.mk hG
  clear hG
  by_cases t0 : 4096 < a0.size
  · unfold conf_Read.f at h
    rw [if_pos t0] at h
    simp only [Option.some.injEq, Prod.mk.injEq] at h
    obtain ⟨rfl, rfl, rfl⟩ := h
    have t0' : (a0.size : Int) > 4096 := by omega
    clear t0
    go_enter Tryd.func16, Tryd.ntmps16
    go_wp2
    have hb2 : Below w.heap.size w ((w.alloc (.cells #[.slice none 0 0] 24)).alloc (.cells #[.int .i64 32, .int .i64 1] 48)) := below_alloc (below_alloc (Below.refl _ _) _) _
    have h1 : ((w.alloc (.cells #[.slice none 0 0] 24)).alloc (.cells #[.int .i64 32, .int .i64 1] 48)).heap[w.heap.size]? = some (.cells #[.slice none 0 0] 24 (0, 0)) := ((below_alloc (Below.refl (w.alloc (.cells #[.slice none 0 0] 24)).heap.size _) (.cells #[.int .i64 32, .int .i64 1] 48)).block w.heap.size (by simp)).trans (heap_alloc_new w _)
    have h2 : ((w.alloc (.cells #[.slice none 0 0] 24)).alloc (.cells #[.int .i64 32, .int .i64 1] 48)).heap[w.heap.size + 1]? = some (.cells #[.int .i64 32, .int .i64 1] 48 (0, 0)) := by
      have := heap_alloc_new (w.alloc (.cells #[.slice none 0 0] 24)) (.cells #[.int .i64 32, .int .i64 1] 48)
      simpa using this
    refine bodyPost_ret (results_cc rfl _ _ w.heap.size (w.heap.size + 1) 24 48 #[.slice none 0 0] #[.int .i64 32, .int .i64 1] (0, 0) (0, 0) _ _ rfl h1 Tryd.underlying24 rfl (by kernel_rfl) rfl h2 Tryd.underlying48 rfl (by kernel_rfl)) rfl ?_
    exact ⟨_, rfl, Kd.R_V (Kd.R_nil _ _ _ w.heap.size _), hb2⟩
  · unfold conf_Read.f at h
    rw [if_neg t0] at h
    have t0' : ¬ (a0.size : Int) > 4096 := by omega
    cases hs : sitesF (8 * a0.size + 64) ⟨wordsS a0, 0, 0⟩ [] with
    | none => rw [hs] at h; simp at h
    | some r =>
    rw [hs] at h
    obtain ⟨stf, sf⟩ := r
    simp only [Option.map_some, Option.some.injEq] at h
    have HW := Aside0.mk (fun W => conf_words_calls a0 W (by omega))
    have HSM := Aside0.mk (words_small a0)
    have HPO := Aside0.mk (words_pos a0)
    have HRE := Aside0.mk h
    have HSF := Aside0.mk hs
    have HT0 := Aside0.mk t0
    clear h hs t0
    go_enter Tryd.func16, Tryd.ntmps16
    go_wp2_with fail
    refine (HW.out _).mono ?_
    rintro e w0 ⟨vw, rfl, hown, hbw, hlw⟩
    obtain ⟨AW, cW, hvw, hrdW⟩ := own_reads_row (R := fun (x : Wd) cs => cs = [.string x.s, .int .i64 x.line]) hown (reps_words (wordsS a0)) rfl
    have hcW : (wordsS a0).length ≤ cW := by
      rcases hown.2 with ⟨h1, h2⟩ | ⟨g, cap, cur, h1, h2, h3, h4, h5⟩
      · omega
      · rw [h1] at hvw
        injection hvw with _ _ hc
        omega
    subst hvw
    have hb2 : Below w.heap.size w ((w.alloc (.cells #[.slice none 0 0] 24)).alloc (.cells #[.int .i64 0, .int .i64 0] 48)) := below_alloc (below_alloc (Below.refl _ _) _) _
    have hsz2 : ((w.alloc (.cells #[.slice none 0 0] 24)).alloc (.cells #[.int .i64 0, .int .i64 0] 48)).heap.size = w.heap.size + 2 := by simp
    have h1 : w0.heap[w.heap.size]? = some (.cells #[.slice none 0 0] 24 (0, 0)) := (hbw.block _ (by simp; omega)).trans (((below_alloc (Below.refl (w.alloc (.cells #[.slice none 0 0] 24)).heap.size _) (.cells #[.int .i64 0, .int .i64 0] 48)).block w.heap.size (by simp)).trans (heap_alloc_new w _))
    have h2 : w0.heap[w.heap.size + 1]? = some (.cells #[.int .i64 0, .int .i64 0] 48 (0, 0)) := (hbw.block _ (by simp)).trans (by
      have := heap_alloc_new (w.alloc (.cells #[.slice none 0 0] 24)) (.cells #[.int .i64 0, .int .i64 0] 48)
      simpa using this)
    have hw0 : w.heap.size + 2 ≤ w0.heap.size := by rw [← hsz2]; exact hbw.size
    have hB0 : Below w.heap.size w w0 := below_then hb2 (by omega) hbw
    have HB0 := Aside0.mk hB0
    have HG0 := Aside0.mk (HG.out.below hB0)
    have H1 := Aside0.mk h1
    have H2 := Aside0.mk h2
    have HSI : Aside0 (SI w0 ((w0.alloc (.cells #[.slice AW (wordsS a0).length cW, .int .i64 0, .int .i64 0] 64)).alloc (.cells #[.slice none 0 0] 24)) w0.heap.size (w0.heap.size + 1) ⟨wordsS a0, 0, 0⟩ [] (.slice none 0 0)) := ⟨by
      have hba := below_alloc (Below.refl (w0.alloc (.cells #[.slice AW (wordsS a0).length cW, .int .i64 0, .int .i64 0] 64)).heap.size _) (.cells #[.slice none 0 0] 24)
      refine ⟨⟨AW, cW, (hba.block w0.heap.size (by simp)).trans (heap_alloc_new w0 _), hcW, Nat.le_refl _, hrdW, HPO.out⟩, below_alloc (below_alloc (Below.refl _ _) _) _, ?_, Kd.R_nil _ _ _ _ _, fun x hx => ?_, by simp⟩
      · have := heap_alloc_new (w0.alloc (.cells #[.slice AW (wordsS a0).length cW, .int .i64 0, .int .i64 0] 64)) (.cells #[.slice none 0 0] 24)
        simpa using this
      · have := HSM.out x hx
        omega⟩
    clear hown hbw hrdW hb2 hsz2 h1 h2 hB0 HW
    go_wp2
    go_loopg [30] (8 * a0.size + 64) (fun kq v30 wr => ∃ (s1 : St) (l1 : List S29) (v1 : Value), Aside0 (sitesF kq s1 l1 = some (stf, sf)) ∧ Aside0 (SI w0 wr w0.heap.size (w0.heap.size + 1) s1 l1 v1) ∧ Aside0 (l1.length + kq ≤ 8 * a0.size + 64))
    case atStart => exact ⟨_, [], _, HSF, HSI, ⟨by simp⟩⟩
    case round =>
      clear HSF HSI
      obtain ⟨s1, l1, v1, HF, HS, HL⟩ := hrel
      cases gk with
      | zero => exact absurd HF.out (by simp [sitesF])
      | succ k1 =>
        have hrd := HS.out.rd
        obtain ⟨AR, cR, hbR, hlcR, _, _, _⟩ := hrd
        have c1 : wr.cell? ⟨w0.heap.size, 1, none⟩ = some (.int .i64 s1.code) := (blk_cell hbR 1).trans rfl
        have c0 : wr.cell? ⟨w0.heap.size, 0, none⟩ = some (.slice AR s1.l.length cR) := (blk_cell hbR 0).trans rfl
        have c2 : wr.cell? ⟨w0.heap.size, 2, none⟩ = some (.int .i64 s1.line) := (blk_cell hbR 2).trans rfl
        clear hbR
        go_upto_region 5 with fail
        go_cut [28] from 15 to 30 (fun v28 W => ∃ b, v28 = .bool b ∧ Aside0 (b = (decide (s1.code = 0) && decide (1 < s1.l.length))) ∧ W = wr)
        case first =>
          by_cases t1 : s1.code = 0
          · have E : Aside0 (decide ((1 : Int) < (s1.l.length : Int)) = (decide (s1.code = 0) && decide (1 < s1.l.length))) := ⟨by rw [decide_eq_true t1, Bool.true_and]; exact decide_eq_decide.2 (by omega)⟩
            rw [t1] at c1
            clear t1
            go_wp2
            go_meet
            case rel => exact ⟨_, rfl, E, rfl⟩
          · have E : Aside0 (false = (decide (s1.code = 0) && decide (1 < s1.l.length))) := ⟨by rw [decide_eq_false t1]; rfl⟩
            have q1 : (s1.code == 0) = false := beq_eq_false_iff_ne.2 t1
            clear t1
            go_wp2
            go_meet
            case rel => exact ⟨_, rfl, E, rfl⟩
        case rest =>
        obtain ⟨b, rfl, HB, hW⟩ := hcut
        obtain rfl : wr = wc := hW.symm
        clear hW
        have HT := HF.out
        unfold sitesF at HT
        cases b with
        | true =>
          have hb := HB.out.symm
          simp only [Bool.and_eq_true, decide_eq_true_eq] at hb
          rw [if_pos hb] at HT
          cases hrr : siteF k1 s1 l1 with
          | none => rw [hrr] at HT; simp at HT
          | some rr =>
          rw [hrr] at HT
          obtain ⟨sa, sb⟩ := rr
          have HTN : Aside0 (sitesF k1 sa sb = some (stf, sf)) := ⟨HT⟩
          have HLN := Aside0.mk (siteF_len hrr)
          have HRU := Aside0.mk (reader_site_calls k1 w0 _ w0.heap.size (w0.heap.size + 1) s1 l1 v1 sa sb HS.out (by omega) (Nat.le_refl _) (by omega) HG0.out (by have := HL.out; have := HT0.out; omega) (by have := HL.out; have := HT0.out; omega) hrr)
          clear HT hrr hb HB HF c0 c1 c2
          go_wp2_with fail
          refine HRU.out.mono ?_
          rintro e w6 ⟨rfl, v6, hr6⟩
          have HR6 := Aside0.mk hr6
          clear hr6 HRU
          go_wp2
          go_roundg k1
          case measure => omega
          case rel => exact ⟨_, _, _, HTN, HR6, ⟨by rw [HLN.out]; have := HL.out; omega⟩⟩
        | false =>
          have HE : Aside0 (s1 = stf ∧ l1 = sf) := ⟨by
            rw [if_neg (fun hh => by have := HB.out; rw [decide_eq_true hh.1, decide_eq_true hh.2] at this; simp at this)] at HT
            simpa using HT⟩
          obtain ⟨e1, e2⟩ := HE.out
          subst e1 e2
          clear HE HB HF HT
          have b2 : wr.heap[w.heap.size]? = some (.cells #[.slice none 0 0] 24 (0, 0)) := (HS.out.bel.block _ (by omega)).trans H1.out
          have b3 : wr.heap[w.heap.size + 1]? = some (.cells #[.int .i64 0, .int .i64 0] 48 (0, 0)) := (HS.out.bel.block _ (by omega)).trans H2.out
          have k2 : wr.cell? ⟨w.heap.size, 0, none⟩ = some (.slice none 0 0) := (blk_cell b2 0).trans rfl
          have k30 : wr.cell? ⟨w.heap.size + 1, 0, none⟩ = some (.int .i64 0) := (blk_cell b3 0).trans rfl
          have k31 : wr.cell? ⟨w.heap.size + 1, 1, none⟩ = some (.int .i64 0) := (blk_cell b3 1).trans rfl
          have z2 : wr.frozen? ⟨w.heap.size, 0, none⟩ = false := blk_frozen b2 0
          have z30 : wr.frozen? ⟨w.heap.size + 1, 0, none⟩ = false := blk_frozen b3 0
          have z31 : wr.frozen? ⟨w.heap.size + 1, 1, none⟩ = false := blk_frozen b3 1
          have HB2 := Aside0.mk b2
          have HB3 := Aside0.mk b3
          obtain ⟨A1, n1, hv1⟩ := Kd.R_slice HS.out.own
          subst hv1
          have kg : wr.cell? ⟨w0.heap.size + 1, 0, none⟩ = some (.slice A1 l1.length n1) := (blk_cell HS.out.box 0).trans rfl
          have HR := HRE.out
          clear b2 b3 HRE
          by_cases t1 : s1.code = 0 ∧ s1.line = 0
          · rw [if_pos t1] at HR
            simp only [Prod.mk.injEq] at HR
            obtain ⟨rfl, rfl, rfl⟩ := HR
            rw [t1.1] at c1
            rw [t1.2] at c2
            clear t1
            go_wp2
            have g2 : (((wr.setCell ⟨w.heap.size, 0, none⟩ (.slice A1 l1.length n1)).setCell ⟨w.heap.size + 1, 0, none⟩ (.int .i64 0)).setCell ⟨w.heap.size + 1, 1, none⟩ (.int .i64 0)).heap[w.heap.size]? = some (.cells #[.slice A1 l1.length n1] 24 (0, 0)) := (Below.heap_setCell _ _ _ _ (by simp)).trans ((Below.heap_setCell _ _ _ _ (by simp)).trans (blk_put HB2.out 0 _ rfl))
            have g3 : (((wr.setCell ⟨w.heap.size, 0, none⟩ (.slice A1 l1.length n1)).setCell ⟨w.heap.size + 1, 0, none⟩ (.int .i64 0)).setCell ⟨w.heap.size + 1, 1, none⟩ (.int .i64 0)).heap[w.heap.size + 1]? = some (.cells #[.int .i64 0, .int .i64 0] 48 (0, 0)) := blk_put (blk_put ((Below.heap_setCell _ _ _ _ (by simp)).trans HB3.out) 0 _ rfl) 1 _ rfl
            have gb : Below w.heap.size w (((wr.setCell ⟨w.heap.size, 0, none⟩ (.slice A1 l1.length n1)).setCell ⟨w.heap.size + 1, 0, none⟩ (.int .i64 0)).setCell ⟨w.heap.size + 1, 1, none⟩ (.int .i64 0)) := below_set (below_set (below_set (below_then HB0.out HB0.out.size HS.out.bel) (by simp)) (by simp)) (by simp)
            refine bodyPost_ret (results_cc rfl _ _ w.heap.size (w.heap.size + 1) 24 48 #[.slice A1 l1.length n1] #[.int .i64 0, .int .i64 0] (0, 0) (0, 0) _ _ rfl g2 Tryd.underlying24 rfl (by kernel_rfl) rfl g3 Tryd.underlying48 rfl (by kernel_rfl)) rfl ?_
            have hR0 := Kd.R_mono (ok' := fun k => w0.heap.size ≤ k) (Kd.R_bound HS.out.own) (fun k hk => hk.2.1)
            have hR1 := Kd.R_far (Kd.R_far (Kd.R_far hR0 (p := ⟨w.heap.size, 0, none⟩) (fun k hk => by simp only; omega) (.slice A1 l1.length n1)) (p := ⟨w.heap.size + 1, 0, none⟩) (fun k hk => by simp only; omega) (.int .i64 0)) (p := ⟨w.heap.size + 1, 1, none⟩) (fun k hk => by simp only; omega) (.int .i64 0)
            exact ⟨_, rfl, Kd.R_V (Kd.R_mono hR1 (fun k hk => by omega)), gb⟩
          · rw [if_neg t1] at HR
            simp only [Prod.mk.injEq] at HR
            obtain ⟨rfl, rfl, rfl⟩ := HR
            have n1 : w0.heap.size ≠ w.heap.size := by omega
            have n2 : w.heap.size ≠ w0.heap.size := by omega
            by_cases t2 : s1.code = 0
            · have q2 : (s1.line == 0) = false := beq_eq_false_iff_ne.2 (fun h => t1 ⟨t2, h⟩)
              have T2 := Aside0.mk t2
              rw [t2] at c1
              clear t1 t2
              go_upto_region 8 with fail
              go_region
              all_goals
                go_wp2
                have g2 : ((((wr.setCell ⟨w.heap.size, 0, none⟩ (.slice none 0 0)).setCell ⟨w.heap.size + 1, 0, none⟩ (.int .i64 0)).setCell ⟨w.heap.size + 1, 1, none⟩ (.int .i64 s1.line)).drew).heap[w.heap.size]? = some (.cells #[.slice none 0 0] 24 (0, 0)) := blk_drew ((Below.heap_setCell _ _ _ _ (by simp)).trans ((Below.heap_setCell _ _ _ _ (by simp)).trans (blk_put HB2.out 0 _ rfl)))
                have g3 : ((((wr.setCell ⟨w.heap.size, 0, none⟩ (.slice none 0 0)).setCell ⟨w.heap.size + 1, 0, none⟩ (.int .i64 0)).setCell ⟨w.heap.size + 1, 1, none⟩ (.int .i64 s1.line)).drew).heap[w.heap.size + 1]? = some (.cells #[.int .i64 0, .int .i64 s1.line] 48 (0, 0)) := blk_drew (blk_put (blk_put ((Below.heap_setCell _ _ _ _ (by simp)).trans HB3.out) 0 _ rfl) 1 _ rfl)
                have gb : Below w.heap.size w ((((wr.setCell ⟨w.heap.size, 0, none⟩ (.slice none 0 0)).setCell ⟨w.heap.size + 1, 0, none⟩ (.int .i64 0)).setCell ⟨w.heap.size + 1, 1, none⟩ (.int .i64 s1.line)).drew) := below_drew (below_set (below_set (below_set (below_then HB0.out HB0.out.size HS.out.bel) (by simp)) (by simp)) (by simp))
                refine bodyPost_ret (results_cc rfl _ _ w.heap.size (w.heap.size + 1) 24 48 #[.slice none 0 0] #[.int .i64 0, .int .i64 s1.line] (0, 0) (0, 0) _ _ rfl g2 Tryd.underlying24 rfl (by kernel_rfl) rfl g3 Tryd.underlying48 rfl (by kernel_rfl)) rfl ?_
                exact ⟨_, by rw [T2.out], Kd.R_V (Kd.R_nil _ _ _ w.heap.size _), gb⟩
            · have q2 : (s1.code == 0) = false := beq_eq_false_iff_ne.2 t2
              clear t1 t2
              go_upto_region 8 with fail
              go_region
              all_goals
                go_wp2
                have g2 : ((((wr.setCell ⟨w.heap.size, 0, none⟩ (.slice none 0 0)).setCell ⟨w.heap.size + 1, 0, none⟩ (.int .i64 s1.code)).setCell ⟨w.heap.size + 1, 1, none⟩ (.int .i64 s1.line)).drew).heap[w.heap.size]? = some (.cells #[.slice none 0 0] 24 (0, 0)) := blk_drew ((Below.heap_setCell _ _ _ _ (by simp)).trans ((Below.heap_setCell _ _ _ _ (by simp)).trans (blk_put HB2.out 0 _ rfl)))
                have g3 : ((((wr.setCell ⟨w.heap.size, 0, none⟩ (.slice none 0 0)).setCell ⟨w.heap.size + 1, 0, none⟩ (.int .i64 s1.code)).setCell ⟨w.heap.size + 1, 1, none⟩ (.int .i64 s1.line)).drew).heap[w.heap.size + 1]? = some (.cells #[.int .i64 s1.code, .int .i64 s1.line] 48 (0, 0)) := blk_drew (blk_put (blk_put ((Below.heap_setCell _ _ _ _ (by simp)).trans HB3.out) 0 _ rfl) 1 _ rfl)
                have gb : Below w.heap.size w ((((wr.setCell ⟨w.heap.size, 0, none⟩ (.slice none 0 0)).setCell ⟨w.heap.size + 1, 0, none⟩ (.int .i64 s1.code)).setCell ⟨w.heap.size + 1, 1, none⟩ (.int .i64 s1.line)).drew) := below_drew (below_set (below_set (below_set (below_then HB0.out HB0.out.size HS.out.bel) (by simp)) (by simp)) (by simp))
                refine bodyPost_ret (results_cc rfl _ _ w.heap.size (w.heap.size + 1) 24 48 #[.slice none 0 0] #[.int .i64 s1.code, .int .i64 s1.line] (0, 0) (0, 0) _ _ rfl g2 Tryd.underlying24 rfl (by kernel_rfl) rfl g3 Tryd.underlying48 rfl (by kernel_rfl)) rfl ?_
                exact ⟨_, rfl, Kd.R_V (Kd.R_nil _ _ _ w.heap.size _), gb⟩
end Go.Proofs.YtcoaajkhfgakgaaDoor.Pr
end
