/- Part 8 of the proof of Turns: what the program's functions compute, and that it is so. Conditions: as each theorem states. (Packed out of our texts: PF12, XTurns0, XTurnsLaw.) -/
import Derived.Test.YtcoaajkhfgakgaaGreatDoorCTurns7
section
namespace Go.Proofs.YtcoaajkhfgakgaaGreatDoor.Pr
open Go.RowKit Go.Proofs.YtcoaajkhfgakgaaGreatDoorW.PrintWords Go.Proofs.YtcoaajkhfgakgaaGreatDoorW.PrintLast Go.Proofs.YtcoaajkhfgakgaaGreatDoorW.PrintMore
attribute [local go_sem] max2_int min2_int max_two min_two max_three min_three max_four min_four   -- for this text's walks alone
set_option linter.unusedVariables false
set_option linter.unusedSimpArgs false
def plan_Diff.f (l0_0 : List (S52)) (l1_0 : List (S52)) : Option ((List (S40)) × Int) := (conf_Config_Right.f l0_0).bind fun t211 => (if t211 = true then ((conf_Config_Right.f l1_0).bind fun t212 => (if t212 = true then ((plan_diff.f l0_0 l1_0).bind fun t213 => (some (t213, 0))) else (some (([] : List (S40)), 10)))) else (some (([] : List (S40)), 10)))
set_option maxHeartbeats 8000000 in
set_option maxRecDepth 100000 in
theorem plan_Diff.calls (A0_0 : Option Addr) (c0_0 : Nat) (l0_0 : List (S52)) (A1_0 : Option Addr) (c1_0 : Nat) (l1_0 : List (S52)) (r1 : List (S40)) (r2 : Int) (w : World) (hr0_0 : Kd.C k52 w A0_0 l0_0.length l0_0) (hc0_0 : l0_0.length ≤ c0_0) (hr1_0 : Kd.C k52 w A1_0 l1_0.length l1_0) (hc1_0 : l1_0.length ≤ c1_0) (h : plan_Diff.f l0_0 l1_0 = some (r1, r2)) :
  Calls Tryz.prog 12 #[.agg #[.slice A0_0 l0_0.length c0_0], .agg #[.slice A1_0 l1_0.length c1_0]] w fun e w' => ∃ v0_ : Value, e = .returned (.tuple #[v0_, .int .i64 r2]) ∧ Kd.R k40 40 w' w.heap.size (fun _ => True) v0_ r1 ∧ Below w.heap.size w w' := by
 have hu24 := Tryz.underlying24
 have HR0_0 := Aside0.mk hr0_0
 have HC0_0 := Aside0.mk hc0_0
 clear hr0_0 hc0_0
 have HR1_0 := Aside0.mk hr1_0
 have HC1_0 := Aside0.mk hc1_0
 clear hr1_0 hc1_0
 have HB := Aside0.mk (Below.refl w.heap.size w)
 have H : ((conf_Config_Right.f l0_0).bind fun t211 => (if t211 = true then ((conf_Config_Right.f l1_0).bind fun t212 => (if t212 = true then ((plan_diff.f l0_0 l1_0).bind fun t213 => (some (t213, 0))) else (some (([] : List (S40)), 10)))) else (some (([] : List (S40)), 10)))) = some (r1, r2) := h
 clear h
 replace H := Option.bind_eq_some_iff.mp H
 obtain ⟨t211, A30, H⟩ := H
 replace H : (if t211 = true then ((conf_Config_Right.f l1_0).bind fun t212 => (if t212 = true then ((plan_diff.f l0_0 l1_0).bind fun t213 => (some (t213, 0))) else (some (([] : List (S40)), 10)))) else (some (([] : List (S40)), 10))) = some (r1, r2) := H
 have A3 := Aside0.mk A30
 clear A30
 by_cases c4 : t211 = true
 ·
  subst c4
  have H1 : ((conf_Config_Right.f l1_0).bind fun t212 => (if t212 = true then ((plan_diff.f l0_0 l1_0).bind fun t213 => (some (t213, 0))) else (some (([] : List (S40)), 10)))) = some (r1, r2) := by rw [if_pos rfl] at H; exact H
  clear H
  have H := H1
  clear H1
  replace H := Option.bind_eq_some_iff.mp H
  obtain ⟨t212, A50, H⟩ := H
  replace H : (if t212 = true then ((plan_diff.f l0_0 l1_0).bind fun t213 => (some (t213, 0))) else (some (([] : List (S40)), 10))) = some (r1, r2) := H
  have A5 := Aside0.mk A50
  clear A50
  by_cases c6 : t212 = true
  ·
   subst c6
   have H1 : ((plan_diff.f l0_0 l1_0).bind fun t213 => (some (t213, 0))) = some (r1, r2) := by rw [if_pos rfl] at H; exact H
   clear H
   have H := H1
   clear H1
   replace H := Option.bind_eq_some_iff.mp H
   obtain ⟨t213, A70, H⟩ := H
   replace H : (some (t213, 0)) = some (r1, r2) := H
   have A7 := Aside0.mk A70
   clear A70
   simp only [Option.some.injEq, Prod.mk.injEq] at H
   obtain ⟨rfl, rfl⟩ := H
   go_enter Tryz.func12, Tryz.ntmps12
   go_wp2_with (first | ((with_reducible refine gate_dst (N := 2) rfl ?_); refine box_event ?hg (N := 2) ?hd (cs := #[.slice A0_0 l0_0.length c0_0]) (t := 24) ?hr ?_; (case hd => rfl); (case hg => rfl); (case hr => first | (go_simp; done) | (go_simp; rfl)); intro gb209 hg w8 hbox hb; have n0_ := Aside0.mk (below_step (by repeat (first | (with_reducible first | exact HB.out | apply below_alloc | apply pw_below_drewN | apply below_drew1) | exact HB.out)) hb); have n1_ := Aside0.mk (hbox); have n2_ := Aside0.mk ((by rw [hg]; exact (below_size (by repeat (first | (with_reducible first | exact HB.out | apply below_alloc | apply pw_below_drewN | apply below_drew1) | exact HB.out))) : w.heap.size ≤ gb209)); have n3_ := Aside0.mk ((by rw [hg]; exact (below_size (by repeat (first | (with_reducible first | exact HB.out | apply below_alloc | apply pw_below_drewN | apply below_drew1) | exact HB.out))) : w.heap.size ≤ gb209)); clear HB; have HB := n0_; have BK209 := n1_; have GW209 := n2_; have GE209 := n3_; clear n0_ n1_ n2_ n3_; clear hb hbox hg) | ((with_reducible refine gate_dst (N := 3) rfl ?_); refine box_event ?hg (N := 3) ?hd (cs := #[.slice A1_0 l1_0.length c1_0]) (t := 24) ?hr ?_; (case hd => rfl); (case hg => rfl); (case hr => first | (go_simp; done) | (go_simp; rfl)); intro gb210 hg w9 hbox hb; have n0_ := Aside0.mk (blk_below (g := gb209) (o := .cells #[.slice A0_0 l0_0.length c0_0] 24 (0, 0)) (by (with_reducible repeat (first | refine zN ?_ _ | refine zD ?_ | refine zA ?_ _)); exact BK209.out) hb); have n1_ := Aside0.mk (below_step (by repeat (first | (with_reducible first | exact HB.out | apply below_alloc | apply pw_below_drewN | apply below_drew1 | refine below_set ?_ GE209.out) | exact HB.out)) hb); have n2_ := Aside0.mk (hbox); have n3_ := Aside0.mk ((by rw [hg]; exact (below_size (by repeat (first | (with_reducible first | exact HB.out | apply below_alloc | apply pw_below_drewN | apply below_drew1 | refine below_set ?_ GE209.out) | exact HB.out))) : w.heap.size ≤ gb210)); have n4_ := Aside0.mk ((by rw [hg]; exact (below_size (by repeat (first | (with_reducible first | exact HB.out | apply below_alloc | apply pw_below_drewN | apply below_drew1 | refine below_set ?_ GE209.out) | exact HB.out))) : w.heap.size ≤ gb210)); have n5_ := Aside0.mk ((by rw [hg]; exact Nat.ne_of_lt (blk_lt (g := gb209) (o := .cells #[.slice A0_0 l0_0.length c0_0] 24 (0, 0)) (by (with_reducible repeat (first | refine zN ?_ _ | refine zD ?_ | refine zA ?_ _)); exact BK209.out)) : gb209 ≠ gb210)); have n6_ := Aside0.mk ((by rw [hg]; exact Nat.ne_of_gt (blk_lt (g := gb209) (o := .cells #[.slice A0_0 l0_0.length c0_0] 24 (0, 0)) (by (with_reducible repeat (first | refine zN ?_ _ | refine zD ?_ | refine zA ?_ _)); exact BK209.out)) : gb210 ≠ gb209)); clear BK209; clear HB; have BK209 := n0_; have HB := n1_; have BK210 := n2_; have GW210 := n3_; have GE210 := n4_; have NB209_210 := n5_; have NB210_209 := n6_; clear n0_ n1_ n2_ n3_ n4_ n5_ n6_; clear hb hbox hg; have hnb10 := NB209_210.out; have hnc10 := NB210_209.out; have hcz11_0 : w9.cell? ⟨gb209, 0, none⟩ = some (.slice A0_0 l0_0.length c0_0) := (blk_cell BK209.out 0).trans rfl; have hfz11_0 := blk_frozen BK209.out 0) | ((with_reducible refine gate_callee (f := 17) rfl ?_); refine goesL_ (some 7) rfl rfl Tryz.func17 (by kernel_rfl) rfl #[.agg #[.slice A0_0 l0_0.length c0_0]] rfl (by (try simp only [List.map_toArray, List.map_cons, List.map_nil]); first | done | rfl | (simp only [List.length_drop, List.length_take]; rfl)) ?_; (with_reducible refine (conf_Config_Right.calls _ _ l0_0 true _ ?side1 ?side2 A3.out).mono ?_); (case side1 => repeat (first | exact (Kd.C_below HR0_0.out HB.out) | (with_reducible refine Kd.C_alloc ?_ _) | (with_reducible refine Kd.C_drewN ?_ _) | (with_reducible refine Kd.C_drew ?_))); (case side2 => exact HC0_0.out); rintro e w12 ⟨rfl, hb⟩; refine ⟨_, rfl, ?_⟩; have n0_ := Aside0.mk (blk_below (g := gb209) (o := .cells #[.slice A0_0 l0_0.length c0_0] 24 (0, 0)) (by (with_reducible repeat (first | refine zN ?_ _ | refine zD ?_ | refine zA ?_ _)); exact BK209.out) hb); have n1_ := Aside0.mk (blk_below (g := gb210) (o := .cells #[.slice A1_0 l1_0.length c1_0] 24 (0, 0)) (by (with_reducible repeat (first | refine zN ?_ _ | refine zD ?_ | refine zA ?_ _)); exact BK210.out) hb); have n2_ := Aside0.mk (below_step (by repeat (first | (with_reducible first | exact HB.out | apply below_alloc | apply pw_below_drewN | apply below_drew1 | refine below_set ?_ GE209.out | refine below_set ?_ GE210.out) | exact HB.out)) hb); clear BK209; clear BK210; clear HB; have BK209 := n0_; have BK210 := n1_; have HB := n2_; clear n0_ n1_ n2_; (try clear hb); (try clear hb2); (try clear hk); (try clear hi); have hcz13_0 : w12.cell? ⟨gb210, 0, none⟩ = some (.slice A1_0 l1_0.length c1_0) := (blk_cell BK210.out 0).trans rfl; have hfz13_0 := blk_frozen BK210.out 0) | (go_at_call 17; (with_reducible refine (conf_Config_Right.calls _ _ l1_0 true _ ?side1 ?side2 A5.out).mono ?_); (case side1 => repeat (first | exact (Kd.C_below HR1_0.out HB.out) | (with_reducible refine Kd.C_alloc ?_ _) | (with_reducible refine Kd.C_drewN ?_ _) | (with_reducible refine Kd.C_drew ?_))); (case side2 => exact HC1_0.out); rintro e w14 ⟨rfl, hb⟩; have n0_ := Aside0.mk (blk_below (g := gb209) (o := .cells #[.slice A0_0 l0_0.length c0_0] 24 (0, 0)) (by (with_reducible repeat (first | refine zN ?_ _ | refine zD ?_ | refine zA ?_ _)); exact BK209.out) hb); have n1_ := Aside0.mk (blk_below (g := gb210) (o := .cells #[.slice A1_0 l1_0.length c1_0] 24 (0, 0)) (by (with_reducible repeat (first | refine zN ?_ _ | refine zD ?_ | refine zA ?_ _)); exact BK210.out) hb); have n2_ := Aside0.mk (below_step (by repeat (first | (with_reducible first | exact HB.out | apply below_alloc | apply pw_below_drewN | apply below_drew1 | refine below_set ?_ GE209.out | refine below_set ?_ GE210.out) | exact HB.out)) hb); clear BK209; clear BK210; clear HB; have BK209 := n0_; have BK210 := n1_; have HB := n2_; clear n0_ n1_ n2_; (try clear hb); (try clear hb2); (try clear hk); (try clear hi); have hcz15_0 : w14.cell? ⟨gb209, 0, none⟩ = some (.slice A0_0 l0_0.length c0_0) := (blk_cell BK209.out 0).trans rfl; have hfz15_0 := blk_frozen BK209.out 0; have hcz16_0 : w14.cell? ⟨gb210, 0, none⟩ = some (.slice A1_0 l1_0.length c1_0) := (blk_cell BK210.out 0).trans rfl; have hfz16_0 := blk_frozen BK210.out 0) | ((with_reducible refine gate_callee (f := 42) rfl ?_); refine goesL_ (some 16) rfl rfl Tryz.func42 (by kernel_rfl) rfl #[.agg #[.slice A0_0 l0_0.length c0_0], .agg #[.slice A1_0 l1_0.length c1_0]] rfl (by (try simp only [List.map_toArray, List.map_cons, List.map_nil]); first | done | rfl | (simp only [List.length_drop, List.length_take]; rfl)) ?_; (with_reducible refine (plan_diff.calls _ _ l0_0 _ _ l1_0 t213 _ ?side1 ?side2 ?side3 ?side4 A7.out).mono ?_); (case side1 => repeat (first | exact (Kd.C_below HR0_0.out HB.out) | (with_reducible refine Kd.C_alloc ?_ _) | (with_reducible refine Kd.C_drewN ?_ _) | (with_reducible refine Kd.C_drew ?_))); (case side2 => exact HC0_0.out); (case side3 => repeat (first | exact (Kd.C_below HR1_0.out HB.out) | (with_reducible refine Kd.C_alloc ?_ _) | (with_reducible refine Kd.C_drewN ?_ _) | (with_reducible refine Kd.C_drew ?_))); (case side4 => exact HC1_0.out); rintro e w17 ⟨v214, rfl, ho0, hb⟩; refine ⟨_, rfl, ?_⟩; have n0_ := Aside0.mk (Kd.R_lower ho0 (below_size (by repeat (first | (with_reducible first | exact HB.out | apply below_alloc | apply pw_below_drewN | apply below_drew1 | refine below_set ?_ GE209.out | refine below_set ?_ GE210.out) | exact HB.out)))); have n1_ := Aside0.mk (blk_below (g := gb209) (o := .cells #[.slice A0_0 l0_0.length c0_0] 24 (0, 0)) (by (with_reducible repeat (first | refine zN ?_ _ | refine zD ?_ | refine zA ?_ _)); exact BK209.out) hb); have n2_ := Aside0.mk (blk_below (g := gb210) (o := .cells #[.slice A1_0 l1_0.length c1_0] 24 (0, 0)) (by (with_reducible repeat (first | refine zN ?_ _ | refine zD ?_ | refine zA ?_ _)); exact BK210.out) hb); have n3_ := Aside0.mk (below_step (by repeat (first | (with_reducible first | exact HB.out | apply below_alloc | apply pw_below_drewN | apply below_drew1 | refine below_set ?_ GE209.out | refine below_set ?_ GE210.out) | exact HB.out)) hb); clear BK209; clear BK210; clear HB; have HO215 := n0_; have BK209 := n1_; have BK210 := n2_; have HB := n3_; clear n0_ n1_ n2_ n3_; (try clear hb); (try clear hb2); (try clear hk); (try clear hi); (try clear ho0)))
   go_ret2
   exact ⟨_, by first | rfl | (simp [errW_none, errW_some] <;> rfl) | (simp [*, errW_none, errW_some] <;> rfl), by (with_reducible repeat (first | apply Kd.R_alloc | apply Kd.R_drewN | apply Kd.R_drew)); exact HO215.out, by repeat (first | (with_reducible first | exact HB.out | apply below_alloc | apply pw_below_drewN | apply below_drew1 | refine below_set ?_ GE209.out | refine below_set ?_ GE210.out) | exact HB.out)⟩
  ·
   replace c6 := Bool.eq_false_iff.mpr c6
   subst c6
   have H1 : (some (([] : List (S40)), 10)) = some (r1, r2) := by rw [if_neg (show ¬ (false = true) by decide)] at H; exact H
   clear H
   have H := H1
   clear H1
   simp only [Option.some.injEq, Prod.mk.injEq] at H
   obtain ⟨rfl, rfl⟩ := H
   go_enter Tryz.func12, Tryz.ntmps12
   go_wp2_with (first | ((with_reducible refine gate_dst (N := 2) rfl ?_); refine box_event ?hg (N := 2) ?hd (cs := #[.slice A0_0 l0_0.length c0_0]) (t := 24) ?hr ?_; (case hd => rfl); (case hg => rfl); (case hr => first | (go_simp; done) | (go_simp; rfl)); intro gb209 hg w18 hbox hb; have n0_ := Aside0.mk (below_step (by repeat (first | (with_reducible first | exact HB.out | apply below_alloc | apply pw_below_drewN | apply below_drew1) | exact HB.out)) hb); have n1_ := Aside0.mk (hbox); have n2_ := Aside0.mk ((by rw [hg]; exact (below_size (by repeat (first | (with_reducible first | exact HB.out | apply below_alloc | apply pw_below_drewN | apply below_drew1) | exact HB.out))) : w.heap.size ≤ gb209)); have n3_ := Aside0.mk ((by rw [hg]; exact (below_size (by repeat (first | (with_reducible first | exact HB.out | apply below_alloc | apply pw_below_drewN | apply below_drew1) | exact HB.out))) : w.heap.size ≤ gb209)); clear HB; have HB := n0_; have BK209 := n1_; have GW209 := n2_; have GE209 := n3_; clear n0_ n1_ n2_ n3_; clear hb hbox hg) | ((with_reducible refine gate_dst (N := 3) rfl ?_); refine box_event ?hg (N := 3) ?hd (cs := #[.slice A1_0 l1_0.length c1_0]) (t := 24) ?hr ?_; (case hd => rfl); (case hg => rfl); (case hr => first | (go_simp; done) | (go_simp; rfl)); intro gb210 hg w19 hbox hb; have n0_ := Aside0.mk (blk_below (g := gb209) (o := .cells #[.slice A0_0 l0_0.length c0_0] 24 (0, 0)) (by (with_reducible repeat (first | refine zN ?_ _ | refine zD ?_ | refine zA ?_ _)); exact BK209.out) hb); have n1_ := Aside0.mk (below_step (by repeat (first | (with_reducible first | exact HB.out | apply below_alloc | apply pw_below_drewN | apply below_drew1 | refine below_set ?_ GE209.out) | exact HB.out)) hb); have n2_ := Aside0.mk (hbox); have n3_ := Aside0.mk ((by rw [hg]; exact (below_size (by repeat (first | (with_reducible first | exact HB.out | apply below_alloc | apply pw_below_drewN | apply below_drew1 | refine below_set ?_ GE209.out) | exact HB.out))) : w.heap.size ≤ gb210)); have n4_ := Aside0.mk ((by rw [hg]; exact (below_size (by repeat (first | (with_reducible first | exact HB.out | apply below_alloc | apply pw_below_drewN | apply below_drew1 | refine below_set ?_ GE209.out) | exact HB.out))) : w.heap.size ≤ gb210)); have n5_ := Aside0.mk ((by rw [hg]; exact Nat.ne_of_lt (blk_lt (g := gb209) (o := .cells #[.slice A0_0 l0_0.length c0_0] 24 (0, 0)) (by (with_reducible repeat (first | refine zN ?_ _ | refine zD ?_ | refine zA ?_ _)); exact BK209.out)) : gb209 ≠ gb210)); have n6_ := Aside0.mk ((by rw [hg]; exact Nat.ne_of_gt (blk_lt (g := gb209) (o := .cells #[.slice A0_0 l0_0.length c0_0] 24 (0, 0)) (by (with_reducible repeat (first | refine zN ?_ _ | refine zD ?_ | refine zA ?_ _)); exact BK209.out)) : gb210 ≠ gb209)); clear BK209; clear HB; have BK209 := n0_; have HB := n1_; have BK210 := n2_; have GW210 := n3_; have GE210 := n4_; have NB209_210 := n5_; have NB210_209 := n6_; clear n0_ n1_ n2_ n3_ n4_ n5_ n6_; clear hb hbox hg; have hnb20 := NB209_210.out; have hnc20 := NB210_209.out; have hcz21_0 : w19.cell? ⟨gb209, 0, none⟩ = some (.slice A0_0 l0_0.length c0_0) := (blk_cell BK209.out 0).trans rfl; have hfz21_0 := blk_frozen BK209.out 0) | ((with_reducible refine gate_callee (f := 17) rfl ?_); refine goesL_ (some 7) rfl rfl Tryz.func17 (by kernel_rfl) rfl #[.agg #[.slice A0_0 l0_0.length c0_0]] rfl (by (try simp only [List.map_toArray, List.map_cons, List.map_nil]); first | done | rfl | (simp only [List.length_drop, List.length_take]; rfl)) ?_; (with_reducible refine (conf_Config_Right.calls _ _ l0_0 true _ ?side1 ?side2 A3.out).mono ?_); (case side1 => repeat (first | exact (Kd.C_below HR0_0.out HB.out) | (with_reducible refine Kd.C_alloc ?_ _) | (with_reducible refine Kd.C_drewN ?_ _) | (with_reducible refine Kd.C_drew ?_))); (case side2 => exact HC0_0.out); rintro e w22 ⟨rfl, hb⟩; refine ⟨_, rfl, ?_⟩; have n0_ := Aside0.mk (blk_below (g := gb209) (o := .cells #[.slice A0_0 l0_0.length c0_0] 24 (0, 0)) (by (with_reducible repeat (first | refine zN ?_ _ | refine zD ?_ | refine zA ?_ _)); exact BK209.out) hb); have n1_ := Aside0.mk (blk_below (g := gb210) (o := .cells #[.slice A1_0 l1_0.length c1_0] 24 (0, 0)) (by (with_reducible repeat (first | refine zN ?_ _ | refine zD ?_ | refine zA ?_ _)); exact BK210.out) hb); have n2_ := Aside0.mk (below_step (by repeat (first | (with_reducible first | exact HB.out | apply below_alloc | apply pw_below_drewN | apply below_drew1 | refine below_set ?_ GE209.out | refine below_set ?_ GE210.out) | exact HB.out)) hb); clear BK209; clear BK210; clear HB; have BK209 := n0_; have BK210 := n1_; have HB := n2_; clear n0_ n1_ n2_; (try clear hb); (try clear hb2); (try clear hk); (try clear hi); have hcz23_0 : w22.cell? ⟨gb210, 0, none⟩ = some (.slice A1_0 l1_0.length c1_0) := (blk_cell BK210.out 0).trans rfl; have hfz23_0 := blk_frozen BK210.out 0) | (go_at_call 17; (with_reducible refine (conf_Config_Right.calls _ _ l1_0 false _ ?side1 ?side2 A5.out).mono ?_); (case side1 => repeat (first | exact (Kd.C_below HR1_0.out HB.out) | (with_reducible refine Kd.C_alloc ?_ _) | (with_reducible refine Kd.C_drewN ?_ _) | (with_reducible refine Kd.C_drew ?_))); (case side2 => exact HC1_0.out); rintro e w24 ⟨rfl, hb⟩; have n0_ := Aside0.mk (blk_below (g := gb209) (o := .cells #[.slice A0_0 l0_0.length c0_0] 24 (0, 0)) (by (with_reducible repeat (first | refine zN ?_ _ | refine zD ?_ | refine zA ?_ _)); exact BK209.out) hb); have n1_ := Aside0.mk (blk_below (g := gb210) (o := .cells #[.slice A1_0 l1_0.length c1_0] 24 (0, 0)) (by (with_reducible repeat (first | refine zN ?_ _ | refine zD ?_ | refine zA ?_ _)); exact BK210.out) hb); have n2_ := Aside0.mk (below_step (by repeat (first | (with_reducible first | exact HB.out | apply below_alloc | apply pw_below_drewN | apply below_drew1 | refine below_set ?_ GE209.out | refine below_set ?_ GE210.out) | exact HB.out)) hb); clear BK209; clear BK210; clear HB; have BK209 := n0_; have BK210 := n1_; have HB := n2_; clear n0_ n1_ n2_; (try clear hb); (try clear hb2); (try clear hk); (try clear hi)))
   go_ret2
   exact ⟨_, by first | rfl | (simp [errW_none, errW_some] <;> rfl) | (simp [*, errW_none, errW_some] <;> rfl), by first | exact Kd.R_nil _ _ _ _ _ | exact Kd.N_nil _ _ _ _ _ | exact Kd.V_nil _ _ _ _ _ | exact Kd.Q_nil _ _ _ _ _ | exact Kd.S_nil _ _ _ _ _, by repeat (first | (with_reducible first | exact HB.out | apply below_alloc | apply pw_below_drewN | apply below_drew1 | refine below_set ?_ GE209.out | refine below_set ?_ GE210.out) | exact HB.out)⟩
 ·
  replace c4 := Bool.eq_false_iff.mpr c4
  subst c4
  have H1 : (some (([] : List (S40)), 10)) = some (r1, r2) := by rw [if_neg (show ¬ (false = true) by decide)] at H; exact H
  clear H
  have H := H1
  clear H1
  simp only [Option.some.injEq, Prod.mk.injEq] at H
  obtain ⟨rfl, rfl⟩ := H
  go_enter Tryz.func12, Tryz.ntmps12
  go_wp2_with (first | ((with_reducible refine gate_dst (N := 2) rfl ?_); refine box_event ?hg (N := 2) ?hd (cs := #[.slice A0_0 l0_0.length c0_0]) (t := 24) ?hr ?_; (case hd => rfl); (case hg => rfl); (case hr => first | (go_simp; done) | (go_simp; rfl)); intro gb209 hg w25 hbox hb; have n0_ := Aside0.mk (below_step (by repeat (first | (with_reducible first | exact HB.out | apply below_alloc | apply pw_below_drewN | apply below_drew1) | exact HB.out)) hb); have n1_ := Aside0.mk (hbox); have n2_ := Aside0.mk ((by rw [hg]; exact (below_size (by repeat (first | (with_reducible first | exact HB.out | apply below_alloc | apply pw_below_drewN | apply below_drew1) | exact HB.out))) : w.heap.size ≤ gb209)); have n3_ := Aside0.mk ((by rw [hg]; exact (below_size (by repeat (first | (with_reducible first | exact HB.out | apply below_alloc | apply pw_below_drewN | apply below_drew1) | exact HB.out))) : w.heap.size ≤ gb209)); clear HB; have HB := n0_; have BK209 := n1_; have GW209 := n2_; have GE209 := n3_; clear n0_ n1_ n2_ n3_; clear hb hbox hg) | ((with_reducible refine gate_dst (N := 3) rfl ?_); refine box_event ?hg (N := 3) ?hd (cs := #[.slice A1_0 l1_0.length c1_0]) (t := 24) ?hr ?_; (case hd => rfl); (case hg => rfl); (case hr => first | (go_simp; done) | (go_simp; rfl)); intro gb210 hg w26 hbox hb; have n0_ := Aside0.mk (blk_below (g := gb209) (o := .cells #[.slice A0_0 l0_0.length c0_0] 24 (0, 0)) (by (with_reducible repeat (first | refine zN ?_ _ | refine zD ?_ | refine zA ?_ _)); exact BK209.out) hb); have n1_ := Aside0.mk (below_step (by repeat (first | (with_reducible first | exact HB.out | apply below_alloc | apply pw_below_drewN | apply below_drew1 | refine below_set ?_ GE209.out) | exact HB.out)) hb); have n2_ := Aside0.mk (hbox); have n3_ := Aside0.mk ((by rw [hg]; exact (below_size (by repeat (first | (with_reducible first | exact HB.out | apply below_alloc | apply pw_below_drewN | apply below_drew1 | refine below_set ?_ GE209.out) | exact HB.out))) : w.heap.size ≤ gb210)); have n4_ := Aside0.mk ((by rw [hg]; exact (below_size (by repeat (first | (with_reducible first | exact HB.out | apply below_alloc | apply pw_below_drewN | apply below_drew1 | refine below_set ?_ GE209.out) | exact HB.out))) : w.heap.size ≤ gb210)); have n5_ := Aside0.mk ((by rw [hg]; exact Nat.ne_of_lt (blk_lt (g := gb209) (o := .cells #[.slice A0_0 l0_0.length c0_0] 24 (0, 0)) (by (with_reducible repeat (first | refine zN ?_ _ | refine zD ?_ | refine zA ?_ _)); exact BK209.out)) : gb209 ≠ gb210)); have n6_ := Aside0.mk ((by rw [hg]; exact Nat.ne_of_gt (blk_lt (g := gb209) (o := .cells #[.slice A0_0 l0_0.length c0_0] 24 (0, 0)) (by (with_reducible repeat (first | refine zN ?_ _ | refine zD ?_ | refine zA ?_ _)); exact BK209.out)) : gb210 ≠ gb209)); clear BK209; clear HB; have BK209 := n0_; have HB := n1_; have BK210 := n2_; have GW210 := n3_; have GE210 := n4_; have NB209_210 := n5_; have NB210_209 := n6_; clear n0_ n1_ n2_ n3_ n4_ n5_ n6_; clear hb hbox hg; have hnb27 := NB209_210.out; have hnc27 := NB210_209.out; have hcz28_0 : w26.cell? ⟨gb209, 0, none⟩ = some (.slice A0_0 l0_0.length c0_0) := (blk_cell BK209.out 0).trans rfl; have hfz28_0 := blk_frozen BK209.out 0) | ((with_reducible refine gate_callee (f := 17) rfl ?_); refine goesL_ (some 7) rfl rfl Tryz.func17 (by kernel_rfl) rfl #[.agg #[.slice A0_0 l0_0.length c0_0]] rfl (by (try simp only [List.map_toArray, List.map_cons, List.map_nil]); first | done | rfl | (simp only [List.length_drop, List.length_take]; rfl)) ?_; (with_reducible refine (conf_Config_Right.calls _ _ l0_0 false _ ?side1 ?side2 A3.out).mono ?_); (case side1 => repeat (first | exact (Kd.C_below HR0_0.out HB.out) | (with_reducible refine Kd.C_alloc ?_ _) | (with_reducible refine Kd.C_drewN ?_ _) | (with_reducible refine Kd.C_drew ?_))); (case side2 => exact HC0_0.out); rintro e w29 ⟨rfl, hb⟩; refine ⟨_, rfl, ?_⟩; have n0_ := Aside0.mk (blk_below (g := gb209) (o := .cells #[.slice A0_0 l0_0.length c0_0] 24 (0, 0)) (by (with_reducible repeat (first | refine zN ?_ _ | refine zD ?_ | refine zA ?_ _)); exact BK209.out) hb); have n1_ := Aside0.mk (blk_below (g := gb210) (o := .cells #[.slice A1_0 l1_0.length c1_0] 24 (0, 0)) (by (with_reducible repeat (first | refine zN ?_ _ | refine zD ?_ | refine zA ?_ _)); exact BK210.out) hb); have n2_ := Aside0.mk (below_step (by repeat (first | (with_reducible first | exact HB.out | apply below_alloc | apply pw_below_drewN | apply below_drew1 | refine below_set ?_ GE209.out | refine below_set ?_ GE210.out) | exact HB.out)) hb); clear BK209; clear BK210; clear HB; have BK209 := n0_; have BK210 := n1_; have HB := n2_; clear n0_ n1_ n2_; (try clear hb); (try clear hb2); (try clear hk); (try clear hi)))
  go_ret2
  exact ⟨_, by first | rfl | (simp [errW_none, errW_some] <;> rfl) | (simp [*, errW_none, errW_some] <;> rfl), by first | exact Kd.R_nil _ _ _ _ _ | exact Kd.N_nil _ _ _ _ _ | exact Kd.V_nil _ _ _ _ _ | exact Kd.Q_nil _ _ _ _ _ | exact Kd.S_nil _ _ _ _ _, by repeat (first | (with_reducible first | exact HB.out | apply below_alloc | apply pw_below_drewN | apply below_drew1 | refine below_set ?_ GE209.out | refine below_set ?_ GE210.out) | exact HB.out)⟩
end Go.Proofs.YtcoaajkhfgakgaaGreatDoor.Pr
end

section
namespace Go.Proofs.YtcoaajkhfgakgaaGreatDoor.Pr
open Go.RowKit Go.Proofs.YtcoaajkhfgakgaaGreatDoorW.PrintWords Go.Proofs.YtcoaajkhfgakgaaGreatDoorW.PrintLast Go.Proofs.YtcoaajkhfgakgaaGreatDoorW.PrintMore
attribute [local go_sem] max2_int min2_int max_two min_two max_three min_three max_four min_four   -- for this text's walks alone
set_option linter.unusedVariables false
set_option linter.unusedSimpArgs false
mutual
def pantrylaw10_PlanTurns.j0 : Nat → Bool → List (S52) → List (S52) → Option (Bool)
  | 0, _, _, _ => none
  | k + 1, x35, x353000, x354000 => if x35 = true then (some true) else ((plan_Diff.f x353000 x353000).bind fun bt359 => ((plan_Diff.f x353000 x354000).bind fun bt363 => ((plan_Diff.f x354000 x353000).bind fun bt367 => (if (bt359.1.length : Int) = (x353000.length : Int) then (pantrylaw10_PlanTurns.j1 k bt359.1 bt363.1 bt367.1 ((bt363.1.length : Int) != (bt367.1.length : Int))) else (pantrylaw10_PlanTurns.j1 k bt359.1 bt363.1 bt367.1 true)))))
def pantrylaw10_PlanTurns.j1 : Nat → List (S40) → List (S40) → List (S40) → Bool → Option (Bool)
  | 0, _, _, _, _ => none
  | k + 1, x5, x7, x9, x66 => if x66 = true then (some false) else (pantrylaw10_PlanTurns.l0 k x7 x9 x5 (x5.length : Int) 0)
def pantrylaw10_PlanTurns.l0 : Nat → List (S40) → List (S40) → List (S40) → Int → Int → Option (Bool)
  | 0, _, _, _, _, _ => none
  | k + 1, x7, x9, x67, x68, x69 => if x69 < x68 then (if 0 ≤ x69 then (if x69 < (x67.length : Int) then (if ((rd_T40 x67 x69).f0) = 0 then (pantrylaw10_PlanTurns.l0 k x7 x9 x67 x68 (wrap64 (x69 + 1))) else (some false)) else (none)) else (none)) else (pantrylaw10_PlanTurns.l1 k x7 x9 x7 (x7.length : Int) 0)
def pantrylaw10_PlanTurns.l1 : Nat → List (S40) → List (S40) → List (S40) → Int → Int → Option (Bool)
  | 0, _, _, _, _, _ => none
  | k + 1, x7, x9, x77, x78, x79 => if x79 < x78 then (if 0 ≤ x79 then (if x79 < (x77.length : Int) then ((some (([0, 1, 3, 2] : List Int) : List Int)).bind fun y375 => (if 0 ≤ ((rd_T40 x77 x79).f0) then (if ((rd_T40 x77 x79).f0) < (y375.length : Int) then (if x79 < (x9.length : Int) then (if ((rd_T40 x9 x79).f1).toList = ((rd_T40 x77 x79).f1).toList then (if ((rd_T40 x9 x79).f0) = (rd y375 ((rd_T40 x77 x79).f0)) then (if x79 > 0 then (if 0 ≤ (wrap64 (x79 - 1)) then (if (wrap64 (x79 - 1)) < (x7.length : Int) then (if ((Op.bytesLess (((rd_T40 x7 (wrap64 (x79 - 1))).f1).toList) (((rd_T40 x77 x79).f1).toList)) = true) then (pantrylaw10_PlanTurns.l1 k x7 x9 x77 x78 (wrap64 (x79 + 1))) else (some false)) else (none)) else (none)) else (pantrylaw10_PlanTurns.l1 k x7 x9 x77 x78 (wrap64 (x79 + 1)))) else (some false)) else (some false)) else (none)) else (none)) else (none))) else (none)) else (none)) else (some true)
end
def pantrylaw10_PlanTurns.f (k : Nat) (l0_0 : List (S52)) (l1_0 : List (S52)) : Option (Bool) := (pantrylaw10_anchor.f k).bind fun t354 => (if t354 = true then ((pantrymade_SmallSites.f k l0_0).bind fun t355 => (if t355 = true then ((pantrymade_SmallSites.f k l1_0).bind fun t356 => (if t356 = true then ((conf_Config_Right.f l0_0).bind fun t357 => (if t357 = true then ((conf_Config_Right.f l1_0).bind fun t358 => (pantrylaw10_PlanTurns.j0 k (!t358) l0_0 l1_0)) else (pantrylaw10_PlanTurns.j0 k true l0_0 l1_0))) else (pantrylaw10_PlanTurns.j0 k true l0_0 l1_0))) else (pantrylaw10_PlanTurns.j0 k true l0_0 l1_0))) else (some false))
theorem pantrylaw10_PlanTurns.mono_l : ∀ k, (∀ y0 y1 y2, LeO (pantrylaw10_PlanTurns.j0 k y0 y1 y2) (pantrylaw10_PlanTurns.j0 (k + 1) y0 y1 y2)) ∧ (∀ y0 y1 y2 y3, LeO (pantrylaw10_PlanTurns.j1 k y0 y1 y2 y3) (pantrylaw10_PlanTurns.j1 (k + 1) y0 y1 y2 y3)) ∧ (∀ y0 y1 y2 y3 y4, LeO (pantrylaw10_PlanTurns.l0 k y0 y1 y2 y3 y4) (pantrylaw10_PlanTurns.l0 (k + 1) y0 y1 y2 y3 y4)) ∧ (∀ y0 y1 y2 y3 y4, LeO (pantrylaw10_PlanTurns.l1 k y0 y1 y2 y3 y4) (pantrylaw10_PlanTurns.l1 (k + 1) y0 y1 y2 y3 y4))
  | 0 => ⟨fun _ _ _ r h => by simp [pantrylaw10_PlanTurns.j0] at h, fun _ _ _ _ r h => by simp [pantrylaw10_PlanTurns.j1] at h, fun _ _ _ _ _ r h => by simp [pantrylaw10_PlanTurns.l0] at h, fun _ _ _ _ _ r h => by simp [pantrylaw10_PlanTurns.l1] at h⟩
  | k + 1 => by
    obtain ⟨ih0, ih1, ih2, ih3⟩ := pantrylaw10_PlanTurns.mono_l k
    refine ⟨?_, ?_, ?_, ?_⟩
    · intro y0 y1 y2
      unfold pantrylaw10_PlanTurns.j0
      repeat' first
      | (with_reducible exact ih0 _ _ _)
      | (with_reducible exact ih1 _ _ _ _)
      | (with_reducible exact ih2 _ _ _ _ _)
      | (with_reducible exact ih3 _ _ _ _ _)
      | (with_reducible exact pantrylaw10_anchor.mono _)
      | (with_reducible exact pantrymade_SmallSites.mono _ _)
      | (with_reducible exact LeO.refl _)
      | (with_reducible exact LeO.none _)
      | (with_reducible refine LeO.ite ?_ ?_)
      | (with_reducible refine LeO.bind ?_ (fun _ => ?_))
      | exact ih0 _ _ _
      | exact ih1 _ _ _ _
      | exact ih2 _ _ _ _ _
      | exact ih3 _ _ _ _ _
      | exact pantrylaw10_anchor.mono _
      | exact pantrymade_SmallSites.mono _ _
      | exact LeO.none _
      | refine LeO.ite ?_ ?_
      | refine LeO.bind ?_ (fun _ => ?_)
    · intro y0 y1 y2 y3
      unfold pantrylaw10_PlanTurns.j1
      repeat' first
      | (with_reducible exact ih0 _ _ _)
      | (with_reducible exact ih1 _ _ _ _)
      | (with_reducible exact ih2 _ _ _ _ _)
      | (with_reducible exact ih3 _ _ _ _ _)
      | (with_reducible exact pantrylaw10_anchor.mono _)
      | (with_reducible exact pantrymade_SmallSites.mono _ _)
      | (with_reducible exact LeO.refl _)
      | (with_reducible exact LeO.none _)
      | (with_reducible refine LeO.ite ?_ ?_)
      | (with_reducible refine LeO.bind ?_ (fun _ => ?_))
      | exact ih0 _ _ _
      | exact ih1 _ _ _ _
      | exact ih2 _ _ _ _ _
      | exact ih3 _ _ _ _ _
      | exact pantrylaw10_anchor.mono _
      | exact pantrymade_SmallSites.mono _ _
      | exact LeO.none _
      | refine LeO.ite ?_ ?_
      | refine LeO.bind ?_ (fun _ => ?_)
    · intro y0 y1 y2 y3 y4
      unfold pantrylaw10_PlanTurns.l0
      repeat' first
      | (with_reducible exact ih0 _ _ _)
      | (with_reducible exact ih1 _ _ _ _)
      | (with_reducible exact ih2 _ _ _ _ _)
      | (with_reducible exact ih3 _ _ _ _ _)
      | (with_reducible exact pantrylaw10_anchor.mono _)
      | (with_reducible exact pantrymade_SmallSites.mono _ _)
      | (with_reducible exact LeO.refl _)
      | (with_reducible exact LeO.none _)
      | (with_reducible refine LeO.ite ?_ ?_)
      | (with_reducible refine LeO.bind ?_ (fun _ => ?_))
      | exact ih0 _ _ _
      | exact ih1 _ _ _ _
      | exact ih2 _ _ _ _ _
      | exact ih3 _ _ _ _ _
      | exact pantrylaw10_anchor.mono _
      | exact pantrymade_SmallSites.mono _ _
      | exact LeO.none _
      | refine LeO.ite ?_ ?_
      | refine LeO.bind ?_ (fun _ => ?_)
    · intro y0 y1 y2 y3 y4
      unfold pantrylaw10_PlanTurns.l1
      repeat' first
      | (with_reducible exact ih0 _ _ _)
      | (with_reducible exact ih1 _ _ _ _)
      | (with_reducible exact ih2 _ _ _ _ _)
      | (with_reducible exact ih3 _ _ _ _ _)
      | (with_reducible exact pantrylaw10_anchor.mono _)
      | (with_reducible exact pantrymade_SmallSites.mono _ _)
      | (with_reducible exact LeO.refl _)
      | (with_reducible exact LeO.none _)
      | (with_reducible refine LeO.ite ?_ ?_)
      | (with_reducible refine LeO.bind ?_ (fun _ => ?_))
      | exact ih0 _ _ _
      | exact ih1 _ _ _ _
      | exact ih2 _ _ _ _ _
      | exact ih3 _ _ _ _ _
      | exact pantrylaw10_anchor.mono _
      | exact pantrymade_SmallSites.mono _ _
      | exact LeO.none _
      | refine LeO.ite ?_ ?_
      | refine LeO.bind ?_ (fun _ => ?_)
theorem pantrylaw10_PlanTurns.mono : ∀ a0 a1 k, LeO (pantrylaw10_PlanTurns.f k a0 a1) (pantrylaw10_PlanTurns.f (k + 1) a0 a1) := by
  intro a0 a1 k
  obtain ⟨ih0, ih1, ih2, ih3⟩ := pantrylaw10_PlanTurns.mono_l k
  unfold pantrylaw10_PlanTurns.f
  repeat' first
      | (with_reducible exact ih0 _ _ _)
      | (with_reducible exact ih1 _ _ _ _)
      | (with_reducible exact ih2 _ _ _ _ _)
      | (with_reducible exact ih3 _ _ _ _ _)
      | (with_reducible exact pantrylaw10_anchor.mono _)
      | (with_reducible exact pantrymade_SmallSites.mono _ _)
      | (with_reducible exact LeO.refl _)
      | (with_reducible exact LeO.none _)
      | (with_reducible refine LeO.ite ?_ ?_)
      | (with_reducible refine LeO.bind ?_ (fun _ => ?_))
      | exact ih0 _ _ _
      | exact ih1 _ _ _ _
      | exact ih2 _ _ _ _ _
      | exact ih3 _ _ _ _ _
      | exact pantrylaw10_anchor.mono _
      | exact pantrymade_SmallSites.mono _ _
      | exact LeO.none _
      | refine LeO.ite ?_ ?_
      | refine LeO.bind ?_ (fun _ => ?_)
end Go.Proofs.YtcoaajkhfgakgaaGreatDoor.Pr
end

section
namespace Go.Proofs.YtcoaajkhfgakgaaGreatDoor.Pr
open Go.RowKit Go.Proofs.YtcoaajkhfgakgaaGreatDoorW.PrintWords Go.Proofs.YtcoaajkhfgakgaaGreatDoorW.PrintLast Go.Proofs.YtcoaajkhfgakgaaGreatDoorW.PrintMore
set_option linter.unusedVariables false
set_option linter.unusedSimpArgs false
theorem rd_act (l : List S40) (i : Nat) (h : i < l.length) : rd_T40 l (i : Int) = l[i] := by
  unfold rd_T40
  rw [show ((i : Int)).toNat = i from by simp, List.getD_eq_getElem?_getD, List.getElem?_eq_getElem h]
  rfl
theorem Diff_of {a b : List S52} (ha : smallB a = true) (hb : smallB b = true) : plan_Diff.f a b = some (if rightB a = true ∧ rightB b = true then (diffS a b, 0) else ([], 10)) := by
  unfold plan_Diff.f
  rw [right_of ha, Option.bind_some]
  by_cases h1 : rightB a = true
  · rw [if_pos h1, right_of hb, Option.bind_some]
    by_cases h2 : rightB b = true
    · rw [if_pos h2, diff_of ha hb, Option.bind_some, if_pos ⟨h1, h2⟩]
    · rw [if_neg h2, if_neg (fun z => h2 z.2)]
  · rw [if_neg h1, if_neg (fun z => h1 z.1)]
structure Turn (there back : List S40) : Prop where
  len : there.length = back.length
  small : there.length ≤ 1048576
  host : ∀ (i : Nat) (h : i < there.length) (h' : i < back.length), back[i].f1 = there[i].f1
  kind : ∀ (i : Nat) (h : i < there.length) (h' : i < back.length), (there[i].f0 = 0 ∧ back[i].f0 = 0) ∨ (there[i].f0 = 1 ∧ back[i].f0 = 1) ∨ (there[i].f0 = 2 ∧ back[i].f0 = 3) ∨ (there[i].f0 = 3 ∧ back[i].f0 = 2)
  rise : ∀ (i : Nat) (h : i + 1 < there.length), Op.bytesLess (there[i]'(by omega)).f1.toList (there[i + 1]'h).f1.toList = true
theorem turns_l1 (there back : List S40) (T : Turn there back) : ∀ (d i k : Nat), there.length - i = d → i ≤ there.length → d < k → pantrylaw10_PlanTurns.l1 k there back there (there.length : Int) (i : Int) = some true
  | _, _, 0, _, _, hk => by omega
  | 0, i, k + 1, hd, hi, hk => by
    unfold pantrylaw10_PlanTurns.l1
    rw [if_neg (by omega)]
  | d + 1, i, k + 1, hd, hi, hk => by
    have hlt : i < there.length := by omega
    have hlb : i < back.length := by have := T.len; omega
    have hsm := T.small
    have hw : wrap64 ((i : Int) + 1) = ((i + 1 : Nat) : Int) := by unfold wrap64; omega
    have hgo := turns_l1 there back T d (i + 1) k (by omega) (by omega) (by omega)
    have hkk : 0 ≤ there[i].f0 ∧ there[i].f0 < 4 ∧ back[i].f0 = rd [0, 1, 3, 2] there[i].f0 := by
      rcases T.kind i hlt hlb with ⟨e1, e2⟩ | ⟨e1, e2⟩ | ⟨e1, e2⟩ | ⟨e1, e2⟩ <;> (rw [e1, e2]; decide)
    unfold pantrylaw10_PlanTurns.l1
    rw [if_pos (by omega), if_pos (by omega), if_pos (by omega), rd_act there i hlt, rd_act back i hlb]
    simp only [Option.bind_some]
    rw [if_pos hkk.1, if_pos (show there[i].f0 < ((([0, 1, 3, 2] : List Int).length : Nat) : Int) from hkk.2.1), if_pos (by omega), if_pos (by rw [T.host i hlt hlb]), if_pos hkk.2.2]
    by_cases h0 : (i : Int) > 0
    · obtain ⟨j, rfl⟩ : ∃ j, i = j + 1 := ⟨i - 1, by omega⟩
      have hw2 : wrap64 (((j + 1 : Nat) : Int) - 1) = (j : Int) := by unfold wrap64; omega
      rw [if_pos h0, hw2, if_pos (by omega), if_pos (by omega), rd_act there j (by omega), if_pos (T.rise j hlt), hw]
      exact hgo
    · rw [if_neg h0, hw]
      exact hgo
theorem turns_l0 (there back own : List S40) (T : Turn there back) (ho : own.length ≤ 1048576) (hz : ∀ x ∈ own, x.f0 = 0) : ∀ (d i k : Nat), own.length - i = d → i ≤ own.length → d + there.length + 1 < k → pantrylaw10_PlanTurns.l0 k there back own (own.length : Int) (i : Int) = some true
  | _, _, 0, _, _, hk => by omega
  | 0, i, k + 1, hd, hi, hk => by
    unfold pantrylaw10_PlanTurns.l0
    rw [if_neg (by omega)]
    exact turns_l1 there back T there.length 0 k (by omega) (by omega) (by omega)
  | d + 1, i, k + 1, hd, hi, hk => by
    have hlt : i < own.length := by omega
    have hw : wrap64 ((i : Int) + 1) = ((i + 1 : Nat) : Int) := by unfold wrap64; omega
    unfold pantrylaw10_PlanTurns.l0
    rw [if_pos (by omega), if_pos (by omega), if_pos (by omega), rd_act own i hlt, if_pos (hz _ (List.getElem_mem hlt)), hw]
    exact turns_l0 there back own T ho hz d (i + 1) k (by omega) (by omega) (by omega)
theorem hosts2_length (la lb : List S52) : (hosts2 la lb).length ≤ la.length + lb.length := by
  have := sortedI_length (kB la lb lb.length)
  rw [kB_len] at this
  exact this
theorem turn_of {la lb : List S52} (ha : (la.map (·.f0)).Nodup) (hb : (lb.map (·.f0)).Nodup) (hsm : la.length + lb.length ≤ 1048576) : Turn (diffS la lb) (diffS lb la) := by
  rw [diffS_eq, diffS_eq, hosts2_turn lb la]
  have hl := hosts2_length la lb
  refine ⟨by rw [List.length_map, List.length_map], by rw [List.length_map]; omega, fun i h h' => ?_, fun i h h' => ?_, fun i h => ?_⟩
  · simp only [List.getElem_map]
  · simp only [List.getElem_map]
    rw [List.length_map] at h
    refine kind_turn hb ha ?_
    have hm := (hosts2_mem la lb _).1 (List.getElem_mem h)
    rcases hm with ⟨s, hs, he⟩ | ⟨s, hs, he⟩
    · exact .inl ⟨s, hs, bytes_inj (by rw [he]; rfl)⟩
    · exact .inr ⟨s, hs, bytes_inj (by rw [he]; rfl)⟩
  · simp only [List.getElem_map]
    rw [List.length_map] at h
    have := List.pairwise_iff_getElem.1 (hosts2_rise la lb) i (i + 1) (by omega) h (by omega)
    rw [ByteArray.toList_eq, ByteArray.toList_eq, less_iff, decide_eq_true_eq]
    exact this
theorem own_of {la : List S52} (ha : (la.map (·.f0)).Nodup) : (diffS la la).length = la.length ∧ ∀ x ∈ diffS la la, x.f0 = 0 := by
  rw [diffS_eq]
  constructor
  · rw [List.length_map]
    have hnd : (la.map (fun s => s.f0.data.toList)).Nodup := by
      have h2 : la.map (fun s => s.f0.data.toList) = (la.map (·.f0)).map (fun b => b.data.toList) := by rw [List.map_map]; rfl
      rw [h2]
      refine List.pairwise_map.2 (ha.imp (fun {a b} hne e => hne (bytes_inj e)))
    have hp : (hosts2 la la).Perm (la.map (fun s => s.f0.data.toList)) := (List.perm_ext_iff_of_nodup (hosts2_nodup la la) hnd).2 (fun x => by
      rw [hosts2_mem, List.mem_map]
      constructor
      · rintro (h | h) <;> exact h
      · exact .inl)
    rw [hp.length_eq, List.length_map]
  · intro x hx
    obtain ⟨h, hh, rfl⟩ := List.mem_map.1 hx
    have : ∃ s ∈ la, s.f0 = txt h := by
      rcases (hosts2_mem la la h).1 hh with ⟨s, hs, he⟩ | ⟨s, hs, he⟩ <;> exact ⟨s, hs, bytes_inj (by rw [he]; rfl)⟩
    obtain ⟨s, hs, he⟩ := this
    show kind2 la la (txt h) = 0
    rw [← he, kind_in ha hs]
    unfold kindOf
    rw [find_unique ha s hs]
    simp only [if_true, sameS_refl]
theorem turns_j0 (k : Nat) (a b : List S52) (x : Bool) (hx : x = true) : pantrylaw10_PlanTurns.j0 (k + 1) x a b = some true := by rw [pantrylaw10_PlanTurns.j0, if_pos hx]
theorem turns_true (a b : List S52) (ha : a.length ≤ 8796093022208) (ha6 : ∀ x ∈ a, x.f6.length ≤ 8796093022208) (hb : b.length ≤ 8796093022208) (hb6 : ∀ x ∈ b, x.f6.length ≤ 8796093022208) : ∃ k, pantrylaw10_PlanTurns.f k a b = some true := by
  obtain ⟨K, hK⟩ : ∃ K, K = 13 * a.length + 13 * b.length + 99 := ⟨_, rfl⟩
  refine ⟨K + 1 + 1, ?_⟩
  unfold pantrylaw10_PlanTurns.f
  rw [pantrylaw10_anchor.yes _ (by omega), Option.bind_some, if_pos rfl, small_of a ha ha6 _ (by omega), Option.bind_some]
  by_cases hsa : smallB a = true
  · rw [if_pos hsa, small_of b hb hb6 _ (by omega), Option.bind_some]
    by_cases hsb : smallB b = true
    · rw [if_pos hsb, right_of hsa, Option.bind_some]
      by_cases hra : rightB a = true
      · rw [if_pos hra, right_of hsb, Option.bind_some]
        by_cases hrb : rightB b = true
        · rw [hrb, pantrylaw10_PlanTurns.j0, if_neg (by decide), Diff_of hsa hsa, Diff_of hsa hsb, Diff_of hsb hsa, if_pos ⟨hra, hra⟩, if_pos ⟨hra, hrb⟩, if_pos ⟨hrb, hra⟩]
          simp only [Option.bind_some]
          have na := right_nodup hra
          have nb := right_nodup hrb
          have l1 := (small_parts hsa).1
          have l2 := (small_parts hsb).1
          have T := turn_of na nb (by omega)
          obtain ⟨o1, o2⟩ := own_of na
          have hlt := hosts2_length a b
          have hdl : (diffS a b).length ≤ a.length + b.length := by rw [diffS_eq, List.length_map]; exact hlt
          rw [if_pos (by rw [o1]), pantrylaw10_PlanTurns.j1]
          have hne : (((diffS a b).length : Int) != ((diffS b a).length : Int)) = false := by rw [T.len]; simp
          rw [hne, if_neg (by decide)]
          exact turns_l0 (diffS a b) (diffS b a) (diffS a a) T (by omega) o2 (diffS a a).length 0 K (by omega) (by omega) (by omega)
        · exact turns_j0 _ _ _ _ (by simpa using hrb)
      · rw [if_neg hra]
        exact turns_j0 _ _ _ _ rfl
    · rw [if_neg hsb]
      exact turns_j0 _ _ _ _ rfl
  · rw [if_neg hsa]
    exact turns_j0 _ _ _ _ rfl
end Go.Proofs.YtcoaajkhfgakgaaGreatDoor.Pr
end
