/- Part 4 of the proof of Rows: what the program's functions compute, and that it is so. Conditions: as each theorem states. (Packed out of our texts: PF10, XSiteSpec, XSite, XWordsLoop, XReadSpec, XTotal, XOk, PF9, PF14.) -/
import Derived.Test.YtcoaajkhfgakgaaDoorCRows3
import Derived.Deep.RegionHeld3
import Derived.Deep.RegionWith
import Derived.Deep.RegionLaw
import Derived.BigRegion
import Derived.Deep.DrawnRows
import Derived.IntWalk
section
namespace Go.Proofs.YtcoaajkhfgakgaaDoor.Pr
open Go.RowKit Go.Proofs.YtcoaajkhfgakgaaDoorW.PrintWords Go.Proofs.YtcoaajkhfgakgaaDoorW.PrintLast Go.Proofs.YtcoaajkhfgakgaaDoorW.PrintMore
attribute [local go_sem] max2_int min2_int max_two min_two max_three min_three max_four min_four   -- for this text's walks alone
set_option linter.unusedVariables false
set_option linter.unusedSimpArgs false
def conf_Config_Find.l0 : Nat → ByteArray → List (S29) → Int → Int → Option (ByteArray × Int × Int × Int × Bool × Bool × List ByteArray × Bool)
  | 0, _, _, _, _ => none
  | k + 1, x1, x9, x10, x11 => if x11 < x10 then (if 0 ≤ x11 then (if x11 < (x9.length : Int) then (if ((rd_T29 x9 x11).f0).toList = x1.toList then ((slices_Clone_string_string.f ((rd_T29 x9 x11).f6)).bind fun t128 => (some ((rd_T29 x9 x11).f0, (rd_T29 x9 x11).f1, (rd_T29 x9 x11).f2, (rd_T29 x9 x11).f3, (rd_T29 x9 x11).f4, (rd_T29 x9 x11).f5, t128, true))) else (conf_Config_Find.l0 k x1 x9 x10 (wrap64 (x11 + 1)))) else (none)) else (none)) else (some ((⟨#[]⟩ : ByteArray), 0, 0, 0, false, false, ([] : List ByteArray), false))
def conf_Config_Find.f (k : Nat) (l0_0 : List (S29)) (a1 : ByteArray) : Option (ByteArray × Int × Int × Int × Bool × Bool × List ByteArray × Bool) := conf_Config_Find.l0 k a1 l0_0 (l0_0.length : Int) 0
theorem conf_Config_Find.mono_l : ∀ k, (∀ y0 y1 y2 y3, LeO (conf_Config_Find.l0 k y0 y1 y2 y3) (conf_Config_Find.l0 (k + 1) y0 y1 y2 y3))
  | 0 => fun _ _ _ _ r h => by simp [conf_Config_Find.l0] at h
  | k + 1 => by
    have ih0 := conf_Config_Find.mono_l k
    · intro y0 y1 y2 y3
      unfold conf_Config_Find.l0
      repeat' first
      | (with_reducible exact ih0 _ _ _ _)
      | (with_reducible exact LeO.refl _)
      | (with_reducible exact LeO.none _)
      | (with_reducible refine LeO.ite ?_ ?_)
      | (with_reducible refine LeO.bind ?_ (fun _ => ?_))
      | exact ih0 _ _ _ _
      | exact LeO.none _
      | refine LeO.ite ?_ ?_
      | refine LeO.bind ?_ (fun _ => ?_)
theorem conf_Config_Find.mono : ∀ a0 a1 k, LeO (conf_Config_Find.f k a0 a1) (conf_Config_Find.f (k + 1) a0 a1) := by
  intro a0 a1 k
  have ih0 := conf_Config_Find.mono_l k
  unfold conf_Config_Find.f
  repeat' first
      | (with_reducible exact ih0 _ _ _ _)
      | (with_reducible exact LeO.refl _)
      | (with_reducible exact LeO.none _)
      | (with_reducible refine LeO.ite ?_ ?_)
      | (with_reducible refine LeO.bind ?_ (fun _ => ?_))
      | exact ih0 _ _ _ _
      | exact LeO.none _
      | refine LeO.ite ?_ ?_
      | refine LeO.bind ?_ (fun _ => ?_)
set_option maxHeartbeats 8000000 in
set_option maxRecDepth 100000 in
theorem conf_Config_Find.calls (k : Nat) (A0_0 : Option Addr) (c0_0 : Nat) (l0_0 : List (S29)) (a1 : ByteArray) (r1 : ByteArray) (r2 : Int) (r3 : Int) (r4 : Int) (r5 : Bool) (r6 : Bool) (r7 : List ByteArray) (r8 : Bool) (w : World) (hr0_0 : Kd.C k29 w A0_0 l0_0.length l0_0) (hc0_0 : l0_0.length ≤ c0_0) (h : conf_Config_Find.f k l0_0 a1 = some (r1, r2, r3, r4, r5, r6, r7, r8)) :
    Calls Tryd.prog 10 #[.agg #[.slice A0_0 l0_0.length c0_0], .string a1] w fun e w' => ∃ v6_ : Value, e = .returned (.tuple #[.agg #[.string r1, .int .i64 r2, .int .i64 r3, .int .i64 r4, .bool r5, .bool r6, v6_], .bool r8]) ∧ Kd.R Kd.string 9 w' w.heap.size (fun _ => True) v6_ r7 ∧ Below w.heap.size w w' := by
  have hu24 := Tryd.underlying24
  have hu29 := Tryd.underlying29
  have HR0_0 := Aside0.mk hr0_0
  have HC0_0 := Aside0.mk hc0_0
  clear hr0_0 hc0_0
  have HB := Aside0.mk (Below.refl w.heap.size w)
  have H : (conf_Config_Find.l0 k a1 l0_0 (l0_0.length : Int) 0) = some (r1, r2, r3, r4, r5, r6, r7, r8) := h
  clear h
  have H' := Aside0.mk H
  clear H
  go_enter Tryd.func10, Tryd.ntmps10
  go_wp2_with (first | ((with_reducible refine gate_dst (N := 2) rfl ?_); refine box_event ?hg (N := 2) ?hd (cs := #[.slice A0_0 l0_0.length c0_0]) (t := 24) ?hr ?_; (case hd => rfl); (case hg => rfl); (case hr => first | (go_simp; done) | (go_simp; rfl)); intro gb124 hg w3 hbox hb; have n0_ := Aside0.mk (below_step (by repeat (first | (with_reducible first | exact HB.out | apply below_alloc | apply pw_below_drewN | apply below_drew1) | exact HB.out)) hb); have n1_ := Aside0.mk (hbox); have n2_ := Aside0.mk ((by rw [hg]; exact (below_size (by repeat (first | (with_reducible first | exact HB.out | apply below_alloc | apply pw_below_drewN | apply below_drew1) | exact HB.out))) : w.heap.size ≤ gb124)); have n3_ := Aside0.mk ((by rw [hg]; exact (below_size (by repeat (first | (with_reducible first | exact HB.out | apply below_alloc | apply pw_below_drewN | apply below_drew1) | exact HB.out))) : w.heap.size ≤ gb124)); clear HB; have HB := n0_; have BK124 := n1_; have GW124 := n2_; have GE124 := n3_; clear n0_ n1_ n2_ n3_; clear hb hbox hg) | ((with_reducible refine gate_dst (N := 4) rfl ?_); refine box_event ?hg (N := 4) ?hd (cs := #[.string (⟨#[]⟩ : ByteArray), .int .i64 0, .int .i64 0, .int .i64 0, .bool false, .bool false, .slice none 0 0]) (t := 29) ?hr ?_; (case hd => rfl); (case hg => rfl); (case hr => first | (go_simp; done) | (go_simp; rfl)); intro gb125 hg w4 hbox hb; have n0_ := Aside0.mk (blk_below (g := gb124) (o := .cells #[.slice A0_0 l0_0.length c0_0] 24 (0, 0)) (by (with_reducible repeat (first | refine blk_drewN ?_ _ | refine blk_drew ?_ | refine blk_alloc ?_ _)); exact BK124.out) hb); have n1_ := Aside0.mk (below_step (by repeat (first | (with_reducible first | exact HB.out | apply below_alloc | apply pw_below_drewN | apply below_drew1 | refine below_set ?_ GE124.out) | exact HB.out)) hb); have n2_ := Aside0.mk (hbox); have n3_ := Aside0.mk ((by rw [hg]; exact (below_size (by repeat (first | (with_reducible first | exact HB.out | apply below_alloc | apply pw_below_drewN | apply below_drew1 | refine below_set ?_ GE124.out) | exact HB.out))) : w.heap.size ≤ gb125)); have n4_ := Aside0.mk ((by rw [hg]; exact (below_size (by repeat (first | (with_reducible first | exact HB.out | apply below_alloc | apply pw_below_drewN | apply below_drew1 | refine below_set ?_ GE124.out) | exact HB.out))) : w.heap.size ≤ gb125)); have n5_ := Aside0.mk ((by rw [hg]; exact Nat.ne_of_lt (blk_lt (g := gb124) (o := .cells #[.slice A0_0 l0_0.length c0_0] 24 (0, 0)) (by (with_reducible repeat (first | refine blk_drewN ?_ _ | refine blk_drew ?_ | refine blk_alloc ?_ _)); exact BK124.out)) : gb124 ≠ gb125)); have n6_ := Aside0.mk ((by rw [hg]; exact Nat.ne_of_gt (blk_lt (g := gb124) (o := .cells #[.slice A0_0 l0_0.length c0_0] 24 (0, 0)) (by (with_reducible repeat (first | refine blk_drewN ?_ _ | refine blk_drew ?_ | refine blk_alloc ?_ _)); exact BK124.out)) : gb125 ≠ gb124)); clear BK124; clear HB; have BK124 := n0_; have HB := n1_; have BK125 := n2_; have GW125 := n3_; have GE125 := n4_; have NB124_125 := n5_; have NB125_124 := n6_; clear n0_ n1_ n2_ n3_ n4_ n5_ n6_; clear hb hbox hg; have hnb5 := NB124_125.out; have hnc5 := NB125_124.out; have hcz6_0 : w4.cell? ⟨gb124, 0, none⟩ = some (.slice A0_0 l0_0.length c0_0) := (blk_cell BK124.out 0).trans rfl; have hfz6_0 := blk_frozen BK124.out 0))
  go_loopg [11] k (fun kq v11 w' => ∃ (x11_1 : Int) (x126000_1 : ByteArray) (x126001_1 : Int) (x126002_1 : Int) (x126003_1 : Int) (x126004_1 : Bool) (x126005_1 : Bool), v11 = .int .i64 x11_1 ∧ Aside0 (conf_Config_Find.l0 kq a1 l0_0 (l0_0.length : Int) x11_1 = some (r1, r2, r3, r4, r5, r6, r7, r8)) ∧ Aside0 (kq ≤ k) ∧ Aside0 (w'.heap[gb124]? = some (.cells #[(.slice A0_0 l0_0.length c0_0)] 24 (0, 0))) ∧ Aside0 (w'.heap[gb125]? = some (.cells #[.string x126000_1, .int .i64 x126001_1, .int .i64 x126002_1, .int .i64 x126003_1, .bool x126004_1, .bool x126005_1, (.slice none 0 0)] 29 (0, 0))) ∧ Aside0 (Below w.heap.size w w'))
  case atStart => exact ⟨(0), ((⟨#[]⟩ : ByteArray)), (0), (0), (0), (false), (false), (by first | rfl | (simp; done) | (simp [*]; done)), H', ⟨Nat.le_refl _⟩, ⟨by (with_reducible repeat (first | refine blk_drewN ?_ _ | refine blk_drew ?_ | refine blk_alloc ?_ _)); exact BK124.out⟩, ⟨by (with_reducible repeat (first | refine blk_drewN ?_ _ | refine blk_drew ?_ | refine blk_alloc ?_ _)); exact BK125.out⟩, ⟨by repeat (first | (with_reducible first | exact HB.out | apply below_alloc | apply pw_below_drewN | apply below_drew1 | refine below_set ?_ GE124.out | refine below_set ?_ GE125.out) | exact HB.out)⟩⟩
  case round =>
    clear H'
    try clear c1
    try clear p2
    try clear c5
    try clear hcz6_0
    try clear hfz6_0
    obtain ⟨x11_1, x126000_1, x126001_1, x126002_1, x126003_1, x126004_1, x126005_1, rfl, HA, HK1, BK124, BK125, HB⟩ := hrel
    cases gk with
    | zero => exact absurd HA.out (by simp [conf_Config_Find.l0])
    | succ k1 =>
      have H := HA.out
      clear HA
      simp only [conf_Config_Find.l0] at H
      by_cases c7 : x11_1 < (l0_0.length : Int)
      · rw [if_pos c7] at H
        have c7b0 : decide (x11_1 < (l0_0.length : Int)) = true := decide_eq_true c7
        clear c7
        by_cases c8 : 0 ≤ x11_1
        · rw [if_pos c8] at H
          have c8b0 : decide (0 ≤ x11_1) = true := decide_eq_true c8
          clear c8
          by_cases c9 : x11_1 < (l0_0.length : Int)
          · rw [if_pos c9] at H
            have c9b0 : decide (x11_1 < (l0_0.length : Int)) = true := decide_eq_true c9
            clear c9
            by_cases c10 : ((rd_T29 l0_0 x11_1).f0).toList = a1.toList
            · rw [if_pos c10] at H
              have c10b0 : (((rd_T29 l0_0 x11_1).f0).toList == a1.toList) = true := beq_iff_eq.mpr c10
              have c10b1 : (((rd_T29 l0_0 x11_1).f0).toList != a1.toList) = false := bne_eq_false_iff_eq.mpr c10
              clear c10
              replace H := Option.bind_eq_some_iff.mp H
              obtain ⟨t128, A110, H⟩ := H
              replace H : (some ((rd_T29 l0_0 x11_1).f0, (rd_T29 l0_0 x11_1).f1, (rd_T29 l0_0 x11_1).f2, (rd_T29 l0_0 x11_1).f3, (rd_T29 l0_0 x11_1).f4, (rd_T29 l0_0 x11_1).f5, t128, true)) = some (r1, r2, r3, r4, r5, r6, r7, r8) := H
              have A11 := Aside0.mk A110
              clear A110
              simp only [Option.some.injEq, Prod.mk.injEq] at H
              obtain ⟨rfl, rfl, rfl, rfl, rfl, rfl, rfl, rfl⟩ := H
              have p126 : 0 ≤ (x11_1 : Int) := of_decide_eq_true (by first | (with_reducible assumption) | assumption)
              have q126 : x11_1 < (l0_0.length : Int) := of_decide_eq_true (by first | (with_reducible assumption) | assumption)
              obtain ⟨ad126, A126_6, c126_6, e126, hx126_0, hx126_1, hx126_2, hx126_3, hx126_4, hx126_5, hx126_6, hl126_6, hi126_6⟩ := at_T29 HR0_0.out x11_1 p126 q126
              cases e126
              replace hx126_0 := (HB.out.cell (World.block_lt_of_cell? w _ hx126_0)).trans hx126_0
              replace hx126_1 := (HB.out.cell (World.block_lt_of_cell? w _ hx126_1)).trans hx126_1
              replace hx126_2 := (HB.out.cell (World.block_lt_of_cell? w _ hx126_2)).trans hx126_2
              replace hx126_3 := (HB.out.cell (World.block_lt_of_cell? w _ hx126_3)).trans hx126_3
              replace hx126_4 := (HB.out.cell (World.block_lt_of_cell? w _ hx126_4)).trans hx126_4
              replace hx126_5 := (HB.out.cell (World.block_lt_of_cell? w _ hx126_5)).trans hx126_5
              replace hx126_6 := (HB.out.cell (World.block_lt_of_cell? w _ hx126_6)).trans hx126_6
              have HR126_6 := Aside0.mk hi126_6
              have HC126_6 := Aside0.mk hl126_6
              clear hi126_6 hl126_6
              replace p126 := eq_true p126
              replace q126 := eq_true q126
              go_wp2_with (first | ((with_reducible refine gate_dst (N := 7) rfl ?_); refine box_event ?hg (N := 7) ?hd (cs := #[.string (⟨#[]⟩ : ByteArray), .int .i64 0, .int .i64 0, .int .i64 0, .bool false, .bool false, .slice none 0 0]) (t := 29) ?hr ?_; (case hd => rfl); (case hg => rfl); (case hr => first | (go_simp; done) | (go_simp; rfl)); intro gb127 hg w12 hbox hb; have n0_ := Aside0.mk (blk_below (g := gb124) (o := .cells #[.slice (some ad126) l0_0.length c0_0] 24 (0, 0)) (by (with_reducible repeat (first | refine blk_drewN ?_ _ | refine blk_drew ?_ | refine blk_alloc ?_ _)); exact BK124.out) hb); have n1_ := Aside0.mk (blk_below (g := gb125) (o := .cells #[.string x126000_1, .int .i64 x126001_1, .int .i64 x126002_1, .int .i64 x126003_1, .bool x126004_1, .bool x126005_1, .slice none 0 0] 29 (0, 0)) (by (with_reducible repeat (first | refine blk_drewN ?_ _ | refine blk_drew ?_ | refine blk_alloc ?_ _)); exact BK125.out) hb); have n2_ := Aside0.mk (below_step (by repeat (first | (with_reducible first | exact HB.out | apply below_alloc | apply pw_below_drewN | apply below_drew1 | refine below_set ?_ GE124.out | refine below_set ?_ GE125.out) | exact HB.out)) hb); have n3_ := Aside0.mk (hbox); have n4_ := Aside0.mk ((by rw [hg]; exact (below_size (by repeat (first | (with_reducible first | exact HB.out | apply below_alloc | apply pw_below_drewN | apply below_drew1 | refine below_set ?_ GE124.out | refine below_set ?_ GE125.out) | exact HB.out))) : w.heap.size ≤ gb127)); have n5_ := Aside0.mk ((by rw [hg]; exact (below_size (by repeat (first | (with_reducible first | exact HB.out | apply below_alloc | apply pw_below_drewN | apply below_drew1 | refine below_set ?_ GE124.out | refine below_set ?_ GE125.out) | exact HB.out))) : w.heap.size ≤ gb127)); have n6_ := Aside0.mk ((by rw [hg]; exact Nat.ne_of_lt (blk_lt (g := gb124) (o := .cells #[.slice (some ad126) l0_0.length c0_0] 24 (0, 0)) (by (with_reducible repeat (first | refine blk_drewN ?_ _ | refine blk_drew ?_ | refine blk_alloc ?_ _)); exact BK124.out)) : gb124 ≠ gb127)); have n7_ := Aside0.mk ((by rw [hg]; exact Nat.ne_of_gt (blk_lt (g := gb124) (o := .cells #[.slice (some ad126) l0_0.length c0_0] 24 (0, 0)) (by (with_reducible repeat (first | refine blk_drewN ?_ _ | refine blk_drew ?_ | refine blk_alloc ?_ _)); exact BK124.out)) : gb127 ≠ gb124)); have n8_ := Aside0.mk ((by rw [hg]; exact Nat.ne_of_lt (blk_lt (g := gb125) (o := .cells #[.string x126000_1, .int .i64 x126001_1, .int .i64 x126002_1, .int .i64 x126003_1, .bool x126004_1, .bool x126005_1, .slice none 0 0] 29 (0, 0)) (by (with_reducible repeat (first | refine blk_drewN ?_ _ | refine blk_drew ?_ | refine blk_alloc ?_ _)); exact BK125.out)) : gb125 ≠ gb127)); have n9_ := Aside0.mk ((by rw [hg]; exact Nat.ne_of_gt (blk_lt (g := gb125) (o := .cells #[.string x126000_1, .int .i64 x126001_1, .int .i64 x126002_1, .int .i64 x126003_1, .bool x126004_1, .bool x126005_1, .slice none 0 0] 29 (0, 0)) (by (with_reducible repeat (first | refine blk_drewN ?_ _ | refine blk_drew ?_ | refine blk_alloc ?_ _)); exact BK125.out)) : gb127 ≠ gb125)); clear BK124; clear BK125; clear HB; have BK124 := n0_; have BK125 := n1_; have HB := n2_; have BK127 := n3_; have GW127 := n4_; have GE127 := n5_; have NB124_127 := n6_; have NB127_124 := n7_; have NB125_127 := n8_; have NB127_125 := n9_; clear n0_ n1_ n2_ n3_ n4_ n5_ n6_ n7_ n8_ n9_; clear hb hbox hg; have hnb13 := NB127_124.out; have hnc13 := NB124_127.out; have hnb14 := NB127_125.out; have hnc14 := NB125_127.out; have hcz15_0 : w12.cell? ⟨gb127, 0, none⟩ = some (.string (⟨#[]⟩ : ByteArray)) := (blk_cell BK127.out 0).trans rfl; have hcz15_1 : w12.cell? ⟨gb127, 1, none⟩ = some (.int .i64 0) := (blk_cell BK127.out 1).trans rfl; have hcz15_2 : w12.cell? ⟨gb127, 2, none⟩ = some (.int .i64 0) := (blk_cell BK127.out 2).trans rfl; have hcz15_3 : w12.cell? ⟨gb127, 3, none⟩ = some (.int .i64 0) := (blk_cell BK127.out 3).trans rfl; have hcz15_4 : w12.cell? ⟨gb127, 4, none⟩ = some (.bool false) := (blk_cell BK127.out 4).trans rfl; have hcz15_5 : w12.cell? ⟨gb127, 5, none⟩ = some (.bool false) := (blk_cell BK127.out 5).trans rfl; have hcz15_6 : w12.cell? ⟨gb127, 6, none⟩ = some (.slice none 0 0) := (blk_cell BK127.out 6).trans rfl; have hfz15_0 := blk_frozen BK127.out 0; have hfz15_1 := blk_frozen BK127.out 1; have hfz15_2 := blk_frozen BK127.out 2; have hfz15_3 := blk_frozen BK127.out 3; have hfz15_4 := blk_frozen BK127.out 4; have hfz15_5 := blk_frozen BK127.out 5; have hfz15_6 := blk_frozen BK127.out 6) | ((with_reducible refine gate_callee (f := 19) rfl ?_); refine goesL_ (some 21) rfl rfl Tryd.func19 (by kernel_rfl) rfl #[.slice A126_6 ((rd_T29 l0_0 x11_1).f6).length c126_6] rfl (by (try simp only [List.map_toArray, List.map_cons, List.map_nil]); first | done | rfl | (simp only [List.length_drop, List.length_take]; rfl)) ?_; (with_reducible refine (slices_Clone_string_string.calls _ _ ((rd_T29 l0_0 x11_1).f6) t128 _ ?side1 ?side2 A11.out).mono ?_); (case side1 => exact Kd.C_below HR126_6.out (by repeat (first | (with_reducible first | exact HB.out | apply below_alloc | apply pw_below_drewN | apply below_drew1 | refine below_set ?_ GE124.out | refine below_set ?_ GE125.out | refine below_set ?_ GE127.out) | exact HB.out))); (case side2 => exact HC126_6.out); rintro e w16 ⟨v129, rfl, ho0, hb⟩; refine ⟨_, rfl, ?_⟩; have n0_ := Aside0.mk (Kd.R_lower ho0 (below_size (by repeat (first | (with_reducible first | exact HB.out | apply below_alloc | apply pw_below_drewN | apply below_drew1 | refine below_set ?_ GE124.out | refine below_set ?_ GE125.out | refine below_set ?_ GE127.out) | exact HB.out)))); have n1_ := Aside0.mk (blk_below (g := gb124) (o := .cells #[.slice (some ad126) l0_0.length c0_0] 24 (0, 0)) (by (with_reducible repeat (first | refine blk_drewN ?_ _ | refine blk_drew ?_ | refine blk_alloc ?_ _)); refine blk_far ?_ NB124_127.out _; (with_reducible repeat (first | refine blk_drewN ?_ _ | refine blk_drew ?_ | refine blk_alloc ?_ _)); refine blk_far ?_ NB124_127.out _; (with_reducible repeat (first | refine blk_drewN ?_ _ | refine blk_drew ?_ | refine blk_alloc ?_ _)); refine blk_far ?_ NB124_127.out _; (with_reducible repeat (first | refine blk_drewN ?_ _ | refine blk_drew ?_ | refine blk_alloc ?_ _)); refine blk_far ?_ NB124_127.out _; (with_reducible repeat (first | refine blk_drewN ?_ _ | refine blk_drew ?_ | refine blk_alloc ?_ _)); refine blk_far ?_ NB124_127.out _; (with_reducible repeat (first | refine blk_drewN ?_ _ | refine blk_drew ?_ | refine blk_alloc ?_ _)); refine blk_far ?_ NB124_127.out _; (with_reducible repeat (first | refine blk_drewN ?_ _ | refine blk_drew ?_ | refine blk_alloc ?_ _)); refine blk_far ?_ NB124_127.out _; (with_reducible repeat (first | refine blk_drewN ?_ _ | refine blk_drew ?_ | refine blk_alloc ?_ _)); exact BK124.out) hb); have n2_ := Aside0.mk (blk_below (g := gb125) (o := .cells #[.string x126000_1, .int .i64 x126001_1, .int .i64 x126002_1, .int .i64 x126003_1, .bool x126004_1, .bool x126005_1, .slice none 0 0] 29 (0, 0)) (by (with_reducible repeat (first | refine blk_drewN ?_ _ | refine blk_drew ?_ | refine blk_alloc ?_ _)); refine blk_far ?_ NB125_127.out _; (with_reducible repeat (first | refine blk_drewN ?_ _ | refine blk_drew ?_ | refine blk_alloc ?_ _)); refine blk_far ?_ NB125_127.out _; (with_reducible repeat (first | refine blk_drewN ?_ _ | refine blk_drew ?_ | refine blk_alloc ?_ _)); refine blk_far ?_ NB125_127.out _; (with_reducible repeat (first | refine blk_drewN ?_ _ | refine blk_drew ?_ | refine blk_alloc ?_ _)); refine blk_far ?_ NB125_127.out _; (with_reducible repeat (first | refine blk_drewN ?_ _ | refine blk_drew ?_ | refine blk_alloc ?_ _)); refine blk_far ?_ NB125_127.out _; (with_reducible repeat (first | refine blk_drewN ?_ _ | refine blk_drew ?_ | refine blk_alloc ?_ _)); refine blk_far ?_ NB125_127.out _; (with_reducible repeat (first | refine blk_drewN ?_ _ | refine blk_drew ?_ | refine blk_alloc ?_ _)); refine blk_far ?_ NB125_127.out _; (with_reducible repeat (first | refine blk_drewN ?_ _ | refine blk_drew ?_ | refine blk_alloc ?_ _)); exact BK125.out) hb); have n3_ := Aside0.mk (blk_below (g := gb127) (o := .cells #[.string ((rd_T29 l0_0 x11_1).f0), .int .i64 ((rd_T29 l0_0 x11_1).f1), .int .i64 ((rd_T29 l0_0 x11_1).f2), .int .i64 ((rd_T29 l0_0 x11_1).f3), .bool ((rd_T29 l0_0 x11_1).f4), .bool ((rd_T29 l0_0 x11_1).f5), .slice A126_6 ((rd_T29 l0_0 x11_1).f6).length c126_6] 29 (0, 0)) (by (with_reducible repeat (first | refine blk_drewN ?_ _ | refine blk_drew ?_ | refine blk_alloc ?_ _)); refine blk_put (cs := #[.string ((rd_T29 l0_0 x11_1).f0), .int .i64 ((rd_T29 l0_0 x11_1).f1), .int .i64 ((rd_T29 l0_0 x11_1).f2), .int .i64 ((rd_T29 l0_0 x11_1).f3), .bool ((rd_T29 l0_0 x11_1).f4), .bool ((rd_T29 l0_0 x11_1).f5), .slice none 0 0]) ?_ 6 _ rfl; (with_reducible repeat (first | refine blk_drewN ?_ _ | refine blk_drew ?_ | refine blk_alloc ?_ _)); refine blk_put (cs := #[.string ((rd_T29 l0_0 x11_1).f0), .int .i64 ((rd_T29 l0_0 x11_1).f1), .int .i64 ((rd_T29 l0_0 x11_1).f2), .int .i64 ((rd_T29 l0_0 x11_1).f3), .bool ((rd_T29 l0_0 x11_1).f4), .bool false, .slice none 0 0]) ?_ 5 _ rfl; (with_reducible repeat (first | refine blk_drewN ?_ _ | refine blk_drew ?_ | refine blk_alloc ?_ _)); refine blk_put (cs := #[.string ((rd_T29 l0_0 x11_1).f0), .int .i64 ((rd_T29 l0_0 x11_1).f1), .int .i64 ((rd_T29 l0_0 x11_1).f2), .int .i64 ((rd_T29 l0_0 x11_1).f3), .bool false, .bool false, .slice none 0 0]) ?_ 4 _ rfl; (with_reducible repeat (first | refine blk_drewN ?_ _ | refine blk_drew ?_ | refine blk_alloc ?_ _)); refine blk_put (cs := #[.string ((rd_T29 l0_0 x11_1).f0), .int .i64 ((rd_T29 l0_0 x11_1).f1), .int .i64 ((rd_T29 l0_0 x11_1).f2), .int .i64 0, .bool false, .bool false, .slice none 0 0]) ?_ 3 _ rfl; (with_reducible repeat (first | refine blk_drewN ?_ _ | refine blk_drew ?_ | refine blk_alloc ?_ _)); refine blk_put (cs := #[.string ((rd_T29 l0_0 x11_1).f0), .int .i64 ((rd_T29 l0_0 x11_1).f1), .int .i64 0, .int .i64 0, .bool false, .bool false, .slice none 0 0]) ?_ 2 _ rfl; (with_reducible repeat (first | refine blk_drewN ?_ _ | refine blk_drew ?_ | refine blk_alloc ?_ _)); refine blk_put (cs := #[.string ((rd_T29 l0_0 x11_1).f0), .int .i64 0, .int .i64 0, .int .i64 0, .bool false, .bool false, .slice none 0 0]) ?_ 1 _ rfl; (with_reducible repeat (first | refine blk_drewN ?_ _ | refine blk_drew ?_ | refine blk_alloc ?_ _)); refine blk_put (cs := #[.string (⟨#[]⟩ : ByteArray), .int .i64 0, .int .i64 0, .int .i64 0, .bool false, .bool false, .slice none 0 0]) ?_ 0 _ rfl; (with_reducible repeat (first | refine blk_drewN ?_ _ | refine blk_drew ?_ | refine blk_alloc ?_ _)); exact BK127.out) hb); have n4_ := Aside0.mk (below_step (by repeat (first | (with_reducible first | exact HB.out | apply below_alloc | apply pw_below_drewN | apply below_drew1 | refine below_set ?_ GE124.out | refine below_set ?_ GE125.out | refine below_set ?_ GE127.out) | exact HB.out)) hb); clear BK124; clear BK125; clear BK127; clear HB; have HO130 := n0_; have BK124 := n1_; have BK125 := n2_; have BK127 := n3_; have HB := n4_; clear n0_ n1_ n2_ n3_ n4_; (try clear hb); (try clear hb2); (try clear hk); (try clear hi); (try clear ho0); obtain ⟨Ao17, co17, eo17⟩ := Kd.R_slice HO130.out; subst eo17; have hcz18_0 : w16.cell? ⟨gb127, 0, none⟩ = some (.string ((rd_T29 l0_0 x11_1).f0)) := (blk_cell BK127.out 0).trans rfl; have hcz18_1 : w16.cell? ⟨gb127, 1, none⟩ = some (.int .i64 ((rd_T29 l0_0 x11_1).f1)) := (blk_cell BK127.out 1).trans rfl; have hcz18_2 : w16.cell? ⟨gb127, 2, none⟩ = some (.int .i64 ((rd_T29 l0_0 x11_1).f2)) := (blk_cell BK127.out 2).trans rfl; have hcz18_3 : w16.cell? ⟨gb127, 3, none⟩ = some (.int .i64 ((rd_T29 l0_0 x11_1).f3)) := (blk_cell BK127.out 3).trans rfl; have hcz18_4 : w16.cell? ⟨gb127, 4, none⟩ = some (.bool ((rd_T29 l0_0 x11_1).f4)) := (blk_cell BK127.out 4).trans rfl; have hcz18_5 : w16.cell? ⟨gb127, 5, none⟩ = some (.bool ((rd_T29 l0_0 x11_1).f5)) := (blk_cell BK127.out 5).trans rfl; have hcz18_6 : w16.cell? ⟨gb127, 6, none⟩ = some (.slice A126_6 ((rd_T29 l0_0 x11_1).f6).length c126_6) := (blk_cell BK127.out 6).trans rfl; have hfz18_0 := blk_frozen BK127.out 0; have hfz18_1 := blk_frozen BK127.out 1; have hfz18_2 := blk_frozen BK127.out 2; have hfz18_3 := blk_frozen BK127.out 3; have hfz18_4 := blk_frozen BK127.out 4; have hfz18_5 := blk_frozen BK127.out 5; have hfz18_6 := blk_frozen BK127.out 6; have hnb19 := NB125_124.out; have hnc19 := NB124_125.out; have hcz20_0 : w16.cell? ⟨gb125, 0, none⟩ = some (.string x126000_1) := (blk_cell BK125.out 0).trans rfl; have hcz20_1 : w16.cell? ⟨gb125, 1, none⟩ = some (.int .i64 x126001_1) := (blk_cell BK125.out 1).trans rfl; have hcz20_2 : w16.cell? ⟨gb125, 2, none⟩ = some (.int .i64 x126002_1) := (blk_cell BK125.out 2).trans rfl; have hcz20_3 : w16.cell? ⟨gb125, 3, none⟩ = some (.int .i64 x126003_1) := (blk_cell BK125.out 3).trans rfl; have hcz20_4 : w16.cell? ⟨gb125, 4, none⟩ = some (.bool x126004_1) := (blk_cell BK125.out 4).trans rfl; have hcz20_5 : w16.cell? ⟨gb125, 5, none⟩ = some (.bool x126005_1) := (blk_cell BK125.out 5).trans rfl; have hcz20_6 : w16.cell? ⟨gb125, 6, none⟩ = some (.slice none 0 0) := (blk_cell BK125.out 6).trans rfl; have hfz20_0 := blk_frozen BK125.out 0; have hfz20_1 := blk_frozen BK125.out 1; have hfz20_2 := blk_frozen BK125.out 2; have hfz20_3 := blk_frozen BK125.out 3; have hfz20_4 := blk_frozen BK125.out 4; have hfz20_5 := blk_frozen BK125.out 5; have hfz20_6 := blk_frozen BK125.out 6))
              refine bodyPost_ret (results_ct rfl _ _ gb125 29 #[.string ((rd_T29 l0_0 x11_1).f0), .int .i64 ((rd_T29 l0_0 x11_1).f1), .int .i64 ((rd_T29 l0_0 x11_1).f2), .int .i64 ((rd_T29 l0_0 x11_1).f3), .bool ((rd_T29 l0_0 x11_1).f4), .bool ((rd_T29 l0_0 x11_1).f5), .slice Ao17 t128.length co17] (0, 0) _ rfl (by (with_reducible repeat (first | refine blk_drewN ?_ _ | refine blk_drew ?_ | refine blk_alloc ?_ _)); refine blk_put (cs := #[.string ((rd_T29 l0_0 x11_1).f0), .int .i64 ((rd_T29 l0_0 x11_1).f1), .int .i64 ((rd_T29 l0_0 x11_1).f2), .int .i64 ((rd_T29 l0_0 x11_1).f3), .bool ((rd_T29 l0_0 x11_1).f4), .bool ((rd_T29 l0_0 x11_1).f5), .slice none 0 0]) ?_ 6 _ rfl; (with_reducible repeat (first | refine blk_drewN ?_ _ | refine blk_drew ?_ | refine blk_alloc ?_ _)); refine blk_put (cs := #[.string ((rd_T29 l0_0 x11_1).f0), .int .i64 ((rd_T29 l0_0 x11_1).f1), .int .i64 ((rd_T29 l0_0 x11_1).f2), .int .i64 ((rd_T29 l0_0 x11_1).f3), .bool ((rd_T29 l0_0 x11_1).f4), .bool x126005_1, .slice none 0 0]) ?_ 5 _ rfl; (with_reducible repeat (first | refine blk_drewN ?_ _ | refine blk_drew ?_ | refine blk_alloc ?_ _)); refine blk_put (cs := #[.string ((rd_T29 l0_0 x11_1).f0), .int .i64 ((rd_T29 l0_0 x11_1).f1), .int .i64 ((rd_T29 l0_0 x11_1).f2), .int .i64 ((rd_T29 l0_0 x11_1).f3), .bool x126004_1, .bool x126005_1, .slice none 0 0]) ?_ 4 _ rfl; (with_reducible repeat (first | refine blk_drewN ?_ _ | refine blk_drew ?_ | refine blk_alloc ?_ _)); refine blk_put (cs := #[.string ((rd_T29 l0_0 x11_1).f0), .int .i64 ((rd_T29 l0_0 x11_1).f1), .int .i64 ((rd_T29 l0_0 x11_1).f2), .int .i64 x126003_1, .bool x126004_1, .bool x126005_1, .slice none 0 0]) ?_ 3 _ rfl; (with_reducible repeat (first | refine blk_drewN ?_ _ | refine blk_drew ?_ | refine blk_alloc ?_ _)); refine blk_put (cs := #[.string ((rd_T29 l0_0 x11_1).f0), .int .i64 ((rd_T29 l0_0 x11_1).f1), .int .i64 x126002_1, .int .i64 x126003_1, .bool x126004_1, .bool x126005_1, .slice none 0 0]) ?_ 2 _ rfl; (with_reducible repeat (first | refine blk_drewN ?_ _ | refine blk_drew ?_ | refine blk_alloc ?_ _)); refine blk_put (cs := #[.string ((rd_T29 l0_0 x11_1).f0), .int .i64 x126001_1, .int .i64 x126002_1, .int .i64 x126003_1, .bool x126004_1, .bool x126005_1, .slice none 0 0]) ?_ 1 _ rfl; (with_reducible repeat (first | refine blk_drewN ?_ _ | refine blk_drew ?_ | refine blk_alloc ?_ _)); refine blk_put (cs := #[.string x126000_1, .int .i64 x126001_1, .int .i64 x126002_1, .int .i64 x126003_1, .bool x126004_1, .bool x126005_1, .slice none 0 0]) ?_ 0 _ rfl; (with_reducible repeat (first | refine blk_drewN ?_ _ | refine blk_drew ?_ | refine blk_alloc ?_ _)); refine blk_far ?_ NB125_127.out _; (with_reducible repeat (first | refine blk_drewN ?_ _ | refine blk_drew ?_ | refine blk_alloc ?_ _)); exact BK125.out) Tryd.underlying29 rfl (by kernel_rfl)) rfl ?_
              exact ⟨_, by first | rfl | (simp [errW_none, errW_some] <;> rfl) | (simp [*, errW_none, errW_some] <;> rfl), by (with_reducible repeat (first | apply Kd.R_alloc | apply Kd.R_drewN | apply Kd.R_drew)); exact Kd.R_mono (Kd.R_far (p := ⟨gb125, 6, none⟩) (Kd.R_far (p := ⟨gb125, 5, none⟩) (Kd.R_far (p := ⟨gb125, 4, none⟩) (Kd.R_far (p := ⟨gb125, 3, none⟩) (Kd.R_far (p := ⟨gb125, 2, none⟩) (Kd.R_far (p := ⟨gb125, 1, none⟩) (Kd.R_far (p := ⟨gb125, 0, none⟩) (Kd.R_far (p := ⟨gb127, 6, none⟩) (Kd.R_types (Kd.R_types HO130.out BK127.out (by decide)) BK125.out (by decide)) (fun _ hk => hk.1.2) (.slice Ao17 t128.length co17)) (fun _ hk => hk.2) (.string ((rd_T29 l0_0 x11_1).f0))) (fun _ hk => hk.2) (.int .i64 ((rd_T29 l0_0 x11_1).f1))) (fun _ hk => hk.2) (.int .i64 ((rd_T29 l0_0 x11_1).f2))) (fun _ hk => hk.2) (.int .i64 ((rd_T29 l0_0 x11_1).f3))) (fun _ hk => hk.2) (.bool ((rd_T29 l0_0 x11_1).f4))) (fun _ hk => hk.2) (.bool ((rd_T29 l0_0 x11_1).f5))) (fun _ hk => hk.2) (.slice Ao17 t128.length co17)) (fun _ hk => trivial), by repeat (first | (with_reducible first | exact HB.out | apply below_alloc | apply pw_below_drewN | apply below_drew1 | refine below_set ?_ GE124.out | refine below_set ?_ GE125.out | refine below_set ?_ GE127.out) | exact HB.out)⟩
            · rw [if_neg c10] at H
              have c10b0 : (((rd_T29 l0_0 x11_1).f0).toList == a1.toList) = false := beq_eq_false_iff_ne.mpr c10
              have c10b1 : (((rd_T29 l0_0 x11_1).f0).toList != a1.toList) = true := bne_iff_ne.mpr c10
              have H' := Aside0.mk H
              clear H
              have p126 : 0 ≤ (x11_1 : Int) := of_decide_eq_true (by first | (with_reducible assumption) | assumption)
              have q126 : x11_1 < (l0_0.length : Int) := of_decide_eq_true (by first | (with_reducible assumption) | assumption)
              obtain ⟨ad126, A126_6, c126_6, e126, hx126_0, hx126_1, hx126_2, hx126_3, hx126_4, hx126_5, hx126_6, hl126_6, hi126_6⟩ := at_T29 HR0_0.out x11_1 p126 q126
              cases e126
              replace hx126_0 := (HB.out.cell (World.block_lt_of_cell? w _ hx126_0)).trans hx126_0
              replace hx126_1 := (HB.out.cell (World.block_lt_of_cell? w _ hx126_1)).trans hx126_1
              replace hx126_2 := (HB.out.cell (World.block_lt_of_cell? w _ hx126_2)).trans hx126_2
              replace hx126_3 := (HB.out.cell (World.block_lt_of_cell? w _ hx126_3)).trans hx126_3
              replace hx126_4 := (HB.out.cell (World.block_lt_of_cell? w _ hx126_4)).trans hx126_4
              replace hx126_5 := (HB.out.cell (World.block_lt_of_cell? w _ hx126_5)).trans hx126_5
              replace hx126_6 := (HB.out.cell (World.block_lt_of_cell? w _ hx126_6)).trans hx126_6
              have HR126_6 := Aside0.mk hi126_6
              have HC126_6 := Aside0.mk hl126_6
              clear hi126_6 hl126_6
              replace p126 := eq_true p126
              replace q126 := eq_true q126
              go_wp2_with (first | ((with_reducible refine gate_dst (N := 7) rfl ?_); refine box_event ?hg (N := 7) ?hd (cs := #[.string (⟨#[]⟩ : ByteArray), .int .i64 0, .int .i64 0, .int .i64 0, .bool false, .bool false, .slice none 0 0]) (t := 29) ?hr ?_; (case hd => rfl); (case hg => rfl); (case hr => first | (go_simp; done) | (go_simp; rfl)); intro gb127 hg w21 hbox hb; have n0_ := Aside0.mk (blk_below (g := gb124) (o := .cells #[.slice (some ad126) l0_0.length c0_0] 24 (0, 0)) (by (with_reducible repeat (first | refine blk_drewN ?_ _ | refine blk_drew ?_ | refine blk_alloc ?_ _)); exact BK124.out) hb); have n1_ := Aside0.mk (blk_below (g := gb125) (o := .cells #[.string x126000_1, .int .i64 x126001_1, .int .i64 x126002_1, .int .i64 x126003_1, .bool x126004_1, .bool x126005_1, .slice none 0 0] 29 (0, 0)) (by (with_reducible repeat (first | refine blk_drewN ?_ _ | refine blk_drew ?_ | refine blk_alloc ?_ _)); exact BK125.out) hb); have n2_ := Aside0.mk (below_step (by repeat (first | (with_reducible first | exact HB.out | apply below_alloc | apply pw_below_drewN | apply below_drew1 | refine below_set ?_ GE124.out | refine below_set ?_ GE125.out) | exact HB.out)) hb); have n3_ := Aside0.mk (hbox); have n4_ := Aside0.mk ((by rw [hg]; exact (below_size (by repeat (first | (with_reducible first | exact HB.out | apply below_alloc | apply pw_below_drewN | apply below_drew1 | refine below_set ?_ GE124.out | refine below_set ?_ GE125.out) | exact HB.out))) : w.heap.size ≤ gb127)); have n5_ := Aside0.mk ((by rw [hg]; exact (below_size (by repeat (first | (with_reducible first | exact HB.out | apply below_alloc | apply pw_below_drewN | apply below_drew1 | refine below_set ?_ GE124.out | refine below_set ?_ GE125.out) | exact HB.out))) : w.heap.size ≤ gb127)); have n6_ := Aside0.mk ((by rw [hg]; exact Nat.ne_of_lt (blk_lt (g := gb124) (o := .cells #[.slice (some ad126) l0_0.length c0_0] 24 (0, 0)) (by (with_reducible repeat (first | refine blk_drewN ?_ _ | refine blk_drew ?_ | refine blk_alloc ?_ _)); exact BK124.out)) : gb124 ≠ gb127)); have n7_ := Aside0.mk ((by rw [hg]; exact Nat.ne_of_gt (blk_lt (g := gb124) (o := .cells #[.slice (some ad126) l0_0.length c0_0] 24 (0, 0)) (by (with_reducible repeat (first | refine blk_drewN ?_ _ | refine blk_drew ?_ | refine blk_alloc ?_ _)); exact BK124.out)) : gb127 ≠ gb124)); have n8_ := Aside0.mk ((by rw [hg]; exact Nat.ne_of_lt (blk_lt (g := gb125) (o := .cells #[.string x126000_1, .int .i64 x126001_1, .int .i64 x126002_1, .int .i64 x126003_1, .bool x126004_1, .bool x126005_1, .slice none 0 0] 29 (0, 0)) (by (with_reducible repeat (first | refine blk_drewN ?_ _ | refine blk_drew ?_ | refine blk_alloc ?_ _)); exact BK125.out)) : gb125 ≠ gb127)); have n9_ := Aside0.mk ((by rw [hg]; exact Nat.ne_of_gt (blk_lt (g := gb125) (o := .cells #[.string x126000_1, .int .i64 x126001_1, .int .i64 x126002_1, .int .i64 x126003_1, .bool x126004_1, .bool x126005_1, .slice none 0 0] 29 (0, 0)) (by (with_reducible repeat (first | refine blk_drewN ?_ _ | refine blk_drew ?_ | refine blk_alloc ?_ _)); exact BK125.out)) : gb127 ≠ gb125)); clear BK124; clear BK125; clear HB; have BK124 := n0_; have BK125 := n1_; have HB := n2_; have BK127 := n3_; have GW127 := n4_; have GE127 := n5_; have NB124_127 := n6_; have NB127_124 := n7_; have NB125_127 := n8_; have NB127_125 := n9_; clear n0_ n1_ n2_ n3_ n4_ n5_ n6_ n7_ n8_ n9_; clear hb hbox hg; have hnb22 := NB127_124.out; have hnc22 := NB124_127.out; have hnb23 := NB127_125.out; have hnc23 := NB125_127.out; have hcz24_0 : w21.cell? ⟨gb127, 0, none⟩ = some (.string (⟨#[]⟩ : ByteArray)) := (blk_cell BK127.out 0).trans rfl; have hcz24_1 : w21.cell? ⟨gb127, 1, none⟩ = some (.int .i64 0) := (blk_cell BK127.out 1).trans rfl; have hcz24_2 : w21.cell? ⟨gb127, 2, none⟩ = some (.int .i64 0) := (blk_cell BK127.out 2).trans rfl; have hcz24_3 : w21.cell? ⟨gb127, 3, none⟩ = some (.int .i64 0) := (blk_cell BK127.out 3).trans rfl; have hcz24_4 : w21.cell? ⟨gb127, 4, none⟩ = some (.bool false) := (blk_cell BK127.out 4).trans rfl; have hcz24_5 : w21.cell? ⟨gb127, 5, none⟩ = some (.bool false) := (blk_cell BK127.out 5).trans rfl; have hcz24_6 : w21.cell? ⟨gb127, 6, none⟩ = some (.slice none 0 0) := (blk_cell BK127.out 6).trans rfl; have hfz24_0 := blk_frozen BK127.out 0; have hfz24_1 := blk_frozen BK127.out 1; have hfz24_2 := blk_frozen BK127.out 2; have hfz24_3 := blk_frozen BK127.out 3; have hfz24_4 := blk_frozen BK127.out 4; have hfz24_5 := blk_frozen BK127.out 5; have hfz24_6 := blk_frozen BK127.out 6))
              go_roundg k1
              case measure => have := HK1.out; omega
              case rel => exact ⟨(wrap64 (x11_1 + 1)), (x126000_1), (x126001_1), (x126002_1), (x126003_1), (x126004_1), (x126005_1), (by first | rfl | (simp; done) | (simp [*]; done)), H', ⟨by have := HK1.out; omega⟩, ⟨by (with_reducible repeat (first | refine blk_drewN ?_ _ | refine blk_drew ?_ | refine blk_alloc ?_ _)); refine blk_far ?_ NB124_127.out _; (with_reducible repeat (first | refine blk_drewN ?_ _ | refine blk_drew ?_ | refine blk_alloc ?_ _)); refine blk_far ?_ NB124_127.out _; (with_reducible repeat (first | refine blk_drewN ?_ _ | refine blk_drew ?_ | refine blk_alloc ?_ _)); refine blk_far ?_ NB124_127.out _; (with_reducible repeat (first | refine blk_drewN ?_ _ | refine blk_drew ?_ | refine blk_alloc ?_ _)); refine blk_far ?_ NB124_127.out _; (with_reducible repeat (first | refine blk_drewN ?_ _ | refine blk_drew ?_ | refine blk_alloc ?_ _)); refine blk_far ?_ NB124_127.out _; (with_reducible repeat (first | refine blk_drewN ?_ _ | refine blk_drew ?_ | refine blk_alloc ?_ _)); refine blk_far ?_ NB124_127.out _; (with_reducible repeat (first | refine blk_drewN ?_ _ | refine blk_drew ?_ | refine blk_alloc ?_ _)); refine blk_far ?_ NB124_127.out _; (with_reducible repeat (first | refine blk_drewN ?_ _ | refine blk_drew ?_ | refine blk_alloc ?_ _)); exact BK124.out⟩, ⟨by (with_reducible repeat (first | refine blk_drewN ?_ _ | refine blk_drew ?_ | refine blk_alloc ?_ _)); refine blk_far ?_ NB125_127.out _; (with_reducible repeat (first | refine blk_drewN ?_ _ | refine blk_drew ?_ | refine blk_alloc ?_ _)); refine blk_far ?_ NB125_127.out _; (with_reducible repeat (first | refine blk_drewN ?_ _ | refine blk_drew ?_ | refine blk_alloc ?_ _)); refine blk_far ?_ NB125_127.out _; (with_reducible repeat (first | refine blk_drewN ?_ _ | refine blk_drew ?_ | refine blk_alloc ?_ _)); refine blk_far ?_ NB125_127.out _; (with_reducible repeat (first | refine blk_drewN ?_ _ | refine blk_drew ?_ | refine blk_alloc ?_ _)); refine blk_far ?_ NB125_127.out _; (with_reducible repeat (first | refine blk_drewN ?_ _ | refine blk_drew ?_ | refine blk_alloc ?_ _)); refine blk_far ?_ NB125_127.out _; (with_reducible repeat (first | refine blk_drewN ?_ _ | refine blk_drew ?_ | refine blk_alloc ?_ _)); refine blk_far ?_ NB125_127.out _; (with_reducible repeat (first | refine blk_drewN ?_ _ | refine blk_drew ?_ | refine blk_alloc ?_ _)); exact BK125.out⟩, ⟨by repeat (first | (with_reducible first | exact HB.out | apply below_alloc | apply pw_below_drewN | apply below_drew1 | refine below_set ?_ GE124.out | refine below_set ?_ GE125.out | refine below_set ?_ GE127.out) | exact HB.out)⟩⟩
          · rw [if_neg c9] at H
            exact absurd H (by simp)
        · rw [if_neg c8] at H
          exact absurd H (by simp)
      · rw [if_neg c7] at H
        have c7b0 : decide (x11_1 < (l0_0.length : Int)) = false := decide_eq_false c7
        clear c7
        simp only [Option.some.injEq, Prod.mk.injEq] at H
        obtain ⟨rfl, rfl, rfl, rfl, rfl, rfl, rfl, rfl⟩ := H
        have hnb25 := NB125_124.out
        have hnc25 := NB124_125.out
        have hcz26_0 : wr.cell? ⟨gb125, 0, none⟩ = some (.string x126000_1) := (blk_cell BK125.out 0).trans rfl
        have hcz26_1 : wr.cell? ⟨gb125, 1, none⟩ = some (.int .i64 x126001_1) := (blk_cell BK125.out 1).trans rfl
        have hcz26_2 : wr.cell? ⟨gb125, 2, none⟩ = some (.int .i64 x126002_1) := (blk_cell BK125.out 2).trans rfl
        have hcz26_3 : wr.cell? ⟨gb125, 3, none⟩ = some (.int .i64 x126003_1) := (blk_cell BK125.out 3).trans rfl
        have hcz26_4 : wr.cell? ⟨gb125, 4, none⟩ = some (.bool x126004_1) := (blk_cell BK125.out 4).trans rfl
        have hcz26_5 : wr.cell? ⟨gb125, 5, none⟩ = some (.bool x126005_1) := (blk_cell BK125.out 5).trans rfl
        have hcz26_6 : wr.cell? ⟨gb125, 6, none⟩ = some (.slice none 0 0) := (blk_cell BK125.out 6).trans rfl
        have hfz26_0 := blk_frozen BK125.out 0
        have hfz26_1 := blk_frozen BK125.out 1
        have hfz26_2 := blk_frozen BK125.out 2
        have hfz26_3 := blk_frozen BK125.out 3
        have hfz26_4 := blk_frozen BK125.out 4
        have hfz26_5 := blk_frozen BK125.out 5
        have hfz26_6 := blk_frozen BK125.out 6
        go_wp2
        refine bodyPost_ret (results_ct rfl _ _ gb125 29 #[.string (⟨#[]⟩ : ByteArray), .int .i64 0, .int .i64 0, .int .i64 0, .bool false, .bool false, .slice none 0 0] (0, 0) _ rfl (by (with_reducible repeat (first | refine blk_drewN ?_ _ | refine blk_drew ?_ | refine blk_alloc ?_ _)); refine blk_put (cs := #[.string (⟨#[]⟩ : ByteArray), .int .i64 0, .int .i64 0, .int .i64 0, .bool false, .bool false, .slice none 0 0]) ?_ 6 _ rfl; (with_reducible repeat (first | refine blk_drewN ?_ _ | refine blk_drew ?_ | refine blk_alloc ?_ _)); refine blk_put (cs := #[.string (⟨#[]⟩ : ByteArray), .int .i64 0, .int .i64 0, .int .i64 0, .bool false, .bool x126005_1, .slice none 0 0]) ?_ 5 _ rfl; (with_reducible repeat (first | refine blk_drewN ?_ _ | refine blk_drew ?_ | refine blk_alloc ?_ _)); refine blk_put (cs := #[.string (⟨#[]⟩ : ByteArray), .int .i64 0, .int .i64 0, .int .i64 0, .bool x126004_1, .bool x126005_1, .slice none 0 0]) ?_ 4 _ rfl; (with_reducible repeat (first | refine blk_drewN ?_ _ | refine blk_drew ?_ | refine blk_alloc ?_ _)); refine blk_put (cs := #[.string (⟨#[]⟩ : ByteArray), .int .i64 0, .int .i64 0, .int .i64 x126003_1, .bool x126004_1, .bool x126005_1, .slice none 0 0]) ?_ 3 _ rfl; (with_reducible repeat (first | refine blk_drewN ?_ _ | refine blk_drew ?_ | refine blk_alloc ?_ _)); refine blk_put (cs := #[.string (⟨#[]⟩ : ByteArray), .int .i64 0, .int .i64 x126002_1, .int .i64 x126003_1, .bool x126004_1, .bool x126005_1, .slice none 0 0]) ?_ 2 _ rfl; (with_reducible repeat (first | refine blk_drewN ?_ _ | refine blk_drew ?_ | refine blk_alloc ?_ _)); refine blk_put (cs := #[.string (⟨#[]⟩ : ByteArray), .int .i64 x126001_1, .int .i64 x126002_1, .int .i64 x126003_1, .bool x126004_1, .bool x126005_1, .slice none 0 0]) ?_ 1 _ rfl; (with_reducible repeat (first | refine blk_drewN ?_ _ | refine blk_drew ?_ | refine blk_alloc ?_ _)); refine blk_put (cs := #[.string x126000_1, .int .i64 x126001_1, .int .i64 x126002_1, .int .i64 x126003_1, .bool x126004_1, .bool x126005_1, .slice none 0 0]) ?_ 0 _ rfl; (with_reducible repeat (first | refine blk_drewN ?_ _ | refine blk_drew ?_ | refine blk_alloc ?_ _)); exact BK125.out) Tryd.underlying29 rfl (by kernel_rfl)) rfl ?_
        exact ⟨_, by first | rfl | (simp [errW_none, errW_some] <;> rfl) | (simp [*, errW_none, errW_some] <;> rfl), by first | exact Kd.R_nil _ _ _ _ _ | exact Kd.N_nil _ _ _ _ _ | exact Kd.V_nil _ _ _ _ _ | exact Kd.Q_nil _ _ _ _ _ | exact Kd.S_nil _ _ _ _ _, by repeat (first | (with_reducible first | exact HB.out | apply below_alloc | apply pw_below_drewN | apply below_drew1 | refine below_set ?_ GE124.out | refine below_set ?_ GE125.out) | exact HB.out)⟩
end Go.Proofs.YtcoaajkhfgakgaaDoor.Pr
end

section
namespace Go.Proofs.YtcoaajkhfgakgaaDoor.Pr
open Go.RowKit Go.Proofs.YtcoaajkhfgakgaaDoorW.PrintWords Go.Proofs.YtcoaajkhfgakgaaDoorW.PrintLast Go.Proofs.YtcoaajkhfgakgaaDoorW.PrintMore
set_option linter.unusedVariables false
set_option linter.unusedSimpArgs false
theorem infoSite : (Tryd.prog.info? 29).map (fun i => (i.zero, i.size, i.bytes)) = some (some (.agg #[(.string ⟨#[]⟩), (.int .i64 0), (.int .i64 0), (.int .i64 0), (.bool false), (.bool false), (.slice none 0 0)]), 7, 72) := by kernel_rfl
def findS (a : ByteArray) (l : List S29) : S29 × Bool :=
  match l.find? (fun x => decide (x.f0 = a)) with
  | some x => (x, true)
  | none => (z29, false)
theorem rd_at (l : List S29) (i : Nat) (h : i < l.length) : rd_T29 l (i : Int) = l[i] := by
  unfold rd_T29
  rw [show ((i : Int)).toNat = i from by simp, List.getD_eq_getElem?_getD, List.getElem?_eq_getElem h]
  rfl
theorem find_of_l (a : ByteArray) (l : List S29) (hl : l.length ≤ 274877906944) (hh : ∀ x ∈ l, x.f6.length ≤ 8796093022208) : ∀ (k i : Nat), i ≤ l.length → l.length - i < k →
    conf_Config_Find.l0 k a l (l.length : Int) (i : Int) = some ((findS a (l.drop i)).1.f0, (findS a (l.drop i)).1.f1, (findS a (l.drop i)).1.f2, (findS a (l.drop i)).1.f3, (findS a (l.drop i)).1.f4, (findS a (l.drop i)).1.f5, (findS a (l.drop i)).1.f6, (findS a (l.drop i)).2)
  | 0, i, _, h => by omega
  | k + 1, i, h1, h2 => by
    unfold conf_Config_Find.l0
    by_cases hlt : i < l.length
    · have hz : (i : Int) < (l.length : Int) := by omega
      rw [if_pos hz, if_pos (by omega), if_pos hz, rd_at l i hlt, List.drop_eq_getElem_cons hlt]
      by_cases he : l[i].f0 = a
      · have e1 : findS a (l[i] :: l.drop (i + 1)) = (l[i], true) := by
          unfold findS
          rw [List.find?_cons_of_pos (by simp [he])]
        rw [if_pos (by rw [he]), e1]
        have hx := hh l[i] (List.getElem_mem hlt)
        simp only [slices_Clone_string_string.f, hx, if_true, Option.bind_some]
      · have e1 : findS a (l[i] :: l.drop (i + 1)) = findS a (l.drop (i + 1)) := by
          unfold findS
          rw [List.find?_cons_of_neg (by simp [he])]
        rw [if_neg (fun e => he (toList_inj.1 e)), e1]
        have hw : wrap64 ((i : Int) + 1) = ((i + 1 : Nat) : Int) := by unfold wrap64; omega
        rw [hw]
        exact find_of_l a l hl hh k (i + 1) (by omega) (by omega)
    · have hz : ¬ (i : Int) < (l.length : Int) := by omega
      rw [if_neg hz, List.drop_eq_nil_of_le (by omega)]
      rfl
theorem find_of (a : ByteArray) (l : List S29) (hl : l.length ≤ 274877906944) (hh : ∀ x ∈ l, x.f6.length ≤ 8796093022208) (k : Nat) (hk : l.length < k) :
    conf_Config_Find.f k l a = some ((findS a l).1.f0, (findS a l).1.f1, (findS a l).1.f2, (findS a l).1.f3, (findS a l).1.f4, (findS a l).1.f5, (findS a l).1.f6, (findS a l).2) :=
  find_of_l a l hl hh k 0 (Nat.zero_le _) (by omega)
def rulesF : Nat → St → Sv → List ByteArray → Option (St × Sv)
  | 0, _, _, _ => none
  | f + 1, st, s, seen =>
    if st.code = 0 then
      if nextS st = ⟨#[125]⟩ then some (st, s)
      else (ruleF f st s seen).bind fun r => rulesF f r.1 r.2.1 r.2.2
    else some (st, s)
def mkSite (s : Sv) : S29 := ⟨s.host, s.origin, s.mn, s.mx, s.q, s.kp, s.hs⟩
def headS (st : St) (sites : List S29) : St := mustS (if nextS st = ⟨#[115, 105, 116, 101]⟩ ∧ sites.length = 8 then failS st 32 else st) ⟨#[115, 105, 116, 101]⟩
def hostS (st : St) (sites : List S29) : St :=
  if (findS (nextS st) sites).2 = true then failS (if st.code = 0 ∧ ¬ ((hostV (nextS st)).2 = 0 ∧ (hostV (nextS st)).1 = nextS st) then failS st 30 else st) 31
  else (if st.code = 0 ∧ ¬ ((hostV (nextS st)).2 = 0 ∧ (hostV (nextS st)).1 = nextS st) then failS st 30 else st)
def siteF (k : Nat) (st : St) (sites : List S29) : Option (St × List S29) :=
  (rulesF k (mustS (takeS (hostS (headS st sites) sites)) ⟨#[123]⟩) ⟨nextS (headS st sites), 1, 0, 3600, true, true, []⟩ []).map fun r => (mustS r.1 ⟨#[125]⟩, sites ++ [mkSite r.2])
structure SI (w0 W : World) (g gc : Nat) (st : St) (sites : List S29) (v : Value) : Prop where
  rd : IsRd w0 W g st
  bel : Below w0.heap.size w0 W
  box : W.heap[gc]? = some (.cells #[v] 24 (0, 0))
  own : Kd.R k29 29 W w0.heap.size (fun k => k ≠ g ∧ k ≠ gc) v sites
  small : ∀ x ∈ st.l, x.s.size ≤ 274877906944
  heads : ∀ x ∈ sites, x.f6.length ≤ 4
section
variable {w0 W W' : World} {g gc : Nat} {st st' : St} {sites : List S29} {v : Value}
theorem SI.reader (h : SI w0 W g gc st sites v) (hne : gc ≠ g) (h1 : IsRd w0 W' g st') (h2 : Below w0.heap.size w0 W') (h3 : KeepBut W W' g none) (h4 : ∀ x ∈ st'.l, x ∈ st.l) : SI w0 W' g gc st' sites v :=
  ⟨h1, h2, (h3.2 gc (blk_lt h.box) hne (by simp)).trans h.box, Kd.R_keep h.own h3 (fun k hk => hk.1), fun x hx => h.small x (h4 x hx), h.heads⟩
end
end Go.Proofs.YtcoaajkhfgakgaaDoor.Pr
end

section
namespace Go.Proofs.YtcoaajkhfgakgaaDoor.Pr
open Go.RowKit Go.Proofs.YtcoaajkhfgakgaaDoorW.PrintWords Go.Proofs.YtcoaajkhfgakgaaDoorW.PrintLast Go.Proofs.YtcoaajkhfgakgaaDoorW.PrintMore
set_option linter.unusedVariables false
set_option linter.unusedSimpArgs false
structure TI (w0 w1 W : World) (g gs : Nat) (st : St) (host : ByteArray) : Prop where
  rd : IsRd w0 W g st
  bel : Below w0.heap.size w0 W
  keep : KeepBut w1 W g none
  bx : W.heap[gs]? = some (.cells #[.string host, .int .i64 1, .int .i64 0, .int .i64 3600, .bool true, .bool true, .slice none 0 0] 29 (0, 0))
  small : ∀ x ∈ st.l, x.s.size ≤ 274877906944
section
variable {w0 w1 W W' : World} {g gs gc : Nat} {st st' : St} {host : ByteArray} {sites : List S29} {v : Value}
theorem TI.reader (h : TI w0 w1 W g gs st host) (hgs : gs ≠ g) (h1 : IsRd w0 W' g st') (h2 : Below w0.heap.size w0 W') (h3 : KeepBut W W' g none) (h4 : ∀ x ∈ st'.l, x ∈ st.l) : TI w0 w1 W' g gs st' host :=
  ⟨h1, h2, keep_then h.keep h3, (h3.2 gs (blk_lt h.bx) hgs (by simp)).trans h.bx, fun x hx => h.small x (h4 x hx)⟩
theorem TI.below (h : TI w0 w1 W g gs st host) (hb : Below W.heap.size W W') : TI w0 w1 W' g gs st host :=
  ⟨h.rd.below hb, below_then h.bel h.bel.size hb, keep_then h.keep (KeepBut.of_below hb g none), (hb.block gs (blk_lt h.bx)).trans h.bx, h.small⟩
theorem SI.later (h : SI w0 W g gc st sites v) (hne : gc ≠ g) (hk : KeepBut W W' g none) : W'.heap[gc]? = some (.cells #[v] 24 (0, 0)) ∧ Kd.R k29 29 W' w0.heap.size (fun k => k ≠ g ∧ k ≠ gc) v sites :=
  ⟨(hk.2 gc (blk_lt h.box) hne (by simp)).trans h.box, Kd.R_keep h.own hk (fun k hk => hk.1)⟩
theorem SI.app {w0 w1 W W' : World} {g gs gc bm : Nat} {st : St} {s : Sv} {seen : List ByteArray} {sites : List S29} {v v1 v' : Value} {inner : List Value}
    (hR : RI w0 w1 W g gs bm st s seen v1) (L : Lie w0 w1 g gs bm) (hne : gc ≠ g) (hgc : gc < w1.heap.size) (hg0 : w0.heap.size ≤ gc) (hbox : W.heap[gc]? = some (.cells #[v] 24 (0, 0)))
    (h0 : ∀ k, v.ownBlock = some k → k ≠ g ∧ k ≠ gc) (hbase : ∀ k, v.ownBlock = some k → w0.heap.size ≤ k) (hlt : ∀ k, v.ownBlock = some k → k < w1.heap.size)
    (hreps : Reps (k29.M W w0.heap.size (fun k => (k ≠ g ∧ k ≠ gc) ∧ some k ≠ v.ownBlock)) k29.sz sites inner) (hh : ∀ x ∈ sites, x.f6.length ≤ 4) (hgrow : W.grownBy W' v.ownBlock)
    (hown : W'.ownsRow w0.heap.size 29 7 v' (sites.length + 1) (inner ++ [.string s.host, .int .i64 s.origin, .int .i64 s.mn, .int .i64 s.mx, .bool s.q, .bool s.kp, v1]))
    (hat : v'.ownBlock = v.ownBlock ∨ ∃ b, v'.ownBlock = some b ∧ W.heap.size ≤ b) : SI w0 (W'.setCell ⟨gc, 0, none⟩ v') g gc st (sites ++ [mkSite s]) v' := by
  have l1 := L.hg
  have l5 := L.hw
  have l6 := hR.keep.1
  have hog : some g ≠ v.ownBlock := fun e => (h0 g e.symm).1 rfl
  have hogc : some gc ≠ v.ownBlock := fun e => (h0 gc e.symm).2 rfl
  have hp : k29.M W w0.heap.size (fun k => v1.ownBlock = some k) (mkSite s) [.string s.host, .int .i64 s.origin, .int .i64 s.mn, .int .i64 s.mx, .bool s.q, .bool s.kp, v1] :=
    k29_mkM W w0.heap.size (fun k => v1.ownBlock = some k) (mkSite s) (strs_R (own_weaken hR.own l5))
  have hokp : ∀ k, v1.ownBlock = some k → (k ≠ g ∧ k ≠ gc) ∧ some k ≠ v.ownBlock := fun k hk => by
    have hb := own_base hR.own k hk
    refine ⟨⟨by omega, by omega⟩, fun e => ?_⟩
    have := hlt k e.symm
    omega
  have hr := Kd.R_appended (ok := fun k => k ≠ g ∧ k ≠ gc) h0 hreps hp hokp (fun k hk => ⟨by omega, by omega⟩) hown hgrow hat
  refine ⟨?_, below_set (hR.bel.grown hgrow hR.bel.size hbase) hg0, blk_put ((hgrow.block gc (by omega) hogc).trans hbox) 0 _ rfl, Kd.R_far hr (p := ⟨gc, 0, none⟩) (fun k hk => hk.2) _, hR.small, fun x hx => ?_⟩
  · obtain ⟨A, c, h1, h2⟩ := hR.rd
    exact ⟨A, c, (Below.heap_setCell W' _ _ g (fun e => hne e.symm)).trans ((hgrow.block g (by omega) hog).trans h1), h2⟩
  · rcases List.mem_append.1 hx with hx | hx
    · exact hh x hx
    · rw [List.mem_singleton.1 hx]
      exact hR.len
end
set_option maxRecDepth 100000 in
set_option maxHeartbeats 16000000 in
theorem reader_site_calls (k : Nat) (w0 w : World) (g gc : Nat) (st : St) (sites : List S29) (v : Value) (st' : St) (sites' : List S29)
    (h : SI w0 w g gc st sites v) (hne : gc ≠ g) (h0 : w0.heap.size ≤ g) (hgc : w0.heap.size ≤ gc) (hG : GL w0) (hn : sites.length < 1048576) (hk : k ≤ 274877906944) (hf : siteF k st sites = some (st', sites')) :
    Calls Tryd.prog 23 #[.pointer (some ⟨g, 0, none⟩), .pointer (some ⟨gc, 0, none⟩)] w fun e w' => e = .returned (.tuple #[]) ∧ ∃ v', SI w0 w' g gc st' sites' v' := by
  have hu := Tryd.underlying64
  have hu2 := Tryd.underlying48
  have hu3 := Tryd.underlying29
  have hu4 := Tryd.underlying24
  have hmm := @run_makeMap Tryd.prog
  obtain ⟨A, c, hv, hlc, hC⟩ := Kd.R_reads h.own
  subst hv
  have HI := Aside0.mk h
  have HN := Aside0.mk (reader_next_calls w0 w g st h.rd h.bel)
  have c0 : w.cell? ⟨gc, 0, none⟩ = some (.slice A sites.length c) := (blk_cell h.box 0).trans rfl
  have HF := Aside0.mk hf
  have HGL := Aside0.mk hG
  have HST : Aside0 (headS st sites = mustS (if nextS st = ⟨#[115, 105, 116, 101]⟩ ∧ sites.length = 8 then failS st 32 else st) ⟨#[115, 105, 116, 101]⟩) := ⟨rfl⟩
  clear h hG hf hC
  go_enter Tryd.func23, Tryd.ntmps23
  go_upto_region 0 with fail
  go_cut [20] (fun v20 wc => ∃ b, v20 = .bool b ∧ Aside0 (b = (decide (nextS st = ⟨#[115, 105, 116, 101]⟩) && decide (sites.length = 8))) ∧ Aside0 (SI w0 wc g gc st sites (.slice A sites.length c)))
  case first =>
    by_cases t1 : nextS st = ⟨#[115, 105, 116, 101]⟩
    · have E : ∀ b, b = decide (sites.length = 8) → Aside0 (b = (decide (nextS st = ⟨#[115, 105, 116, 101]⟩) && decide (sites.length = 8))) := fun b hb => ⟨by rw [decide_eq_true t1, Bool.true_and, hb]⟩
      have EE := Aside0.mk E
      rw [t1] at HN
      clear t1 E
      go_wp2_with fail
      refine HN.out.mono ?_
      rintro e w2 ⟨rfl, rfl⟩
      go_wp2
      go_meet
      case rel => exact ⟨_, rfl, EE.out _ (by by_cases h8 : sites.length = 8 <;> simp [h8]; omega), HI⟩
    · have E : Aside0 (false = (decide (nextS st = ⟨#[115, 105, 116, 101]⟩) && decide (sites.length = 8))) := ⟨by rw [decide_eq_false t1, Bool.false_and]⟩
      have q1 := lit_ne t1
      clear t1
      go_wp2_with fail
      refine HN.out.mono ?_
      rintro e w2 ⟨rfl, rfl⟩
      go_wp2
      go_meet
      case rel => exact ⟨_, rfl, E, HI⟩
  case rest =>
  obtain ⟨b, rfl, HB, HI1⟩ := hcut
  clear HN HI c0
  go_upto_if 20 with fail
  go_cut [22] (fun v22 wc => Aside0 (SI w0 wc g gc (if nextS st = ⟨#[115, 105, 116, 101]⟩ ∧ sites.length = 8 then failS st 32 else st) sites (.slice A sites.length c)))
  case first =>
    cases b with
    | true =>
      have E : Aside0 ((if nextS st = ⟨#[115, 105, 116, 101]⟩ ∧ sites.length = 8 then failS st 32 else st) = failS st 32) := ⟨by
        have := HB.out.symm
        simp only [Bool.and_eq_true, decide_eq_true_eq] at this
        rw [if_pos this]⟩
      clear HB
      go_wp2_with fail
      refine (reader_fail_calls w0 _ g _ 32 HI1.out.rd HI1.out.bel).mono ?_
      rintro e w2 ⟨rfl, h1, h2, h3⟩
      have HI2 := Aside0.mk (HI1.out.reader hne h1 h2 h3 (fun x hx => by rwa [failS_l] at hx))
      clear h1 h2 h3
      go_wp2
      go_meet
      case rel => exact ⟨by rw [E.out]; exact HI2.out⟩
    | false =>
      have E : Aside0 ((if nextS st = ⟨#[115, 105, 116, 101]⟩ ∧ sites.length = 8 then failS st 32 else st) = st) := ⟨by
        have := HB.out
        rw [if_neg]
        rintro ⟨h1, h2⟩
        simp [h1, h2] at this⟩
      clear HB
      go_wp2
      go_meet
      case rel => exact ⟨by rw [E.out]; exact HI1.out⟩
  case rest =>
  have HI1 := hcut
  clear hcut HB
  generalize (if nextS st = ⟨#[115, 105, 116, 101]⟩ ∧ sites.length = 8 then failS st 32 else st) = st1 at *
  go_wp2_with fail
  refine (reader_must_calls w0 _ g _ ⟨#[115, 105, 116, 101]⟩ HI1.out.rd HI1.out.bel).mono ?_
  rintro e w1 ⟨rfl, h1, h2, h3⟩
  have HS1 : Aside0 (SI w0 w1 g gc (headS st sites) sites (.slice A sites.length c)) := ⟨by rw [HST.out]; exact HI1.out.reader hne h1 h2 h3 (mustS_mem _ _)⟩
  clear h1 h2 h3 HI1 HST
  unfold siteF at HF
  generalize headS st sites = st2 at *
  have HN := Aside0.mk (reader_next_calls w0 w1 g st2 HS1.out.rd HS1.out.bel)
  have HX := Aside0.mk (nextS_small HS1.out.small)
  have hg : g < w1.heap.size := by
    obtain ⟨A, c, hb, _⟩ := HS1.out.rd
    exact blk_lt hb
  have hgc1 : gc < w1.heap.size := blk_lt HS1.out.box
  have hw01 : w0.heap.size ≤ w1.heap.size := HS1.out.bel.size
  have hgsg : w1.heap.size ≠ g := by omega
  have hgsc : w1.heap.size ≠ gc := by omega
  have HT0 : Aside0 (TI w0 w1 (w1.alloc (.cells #[.string (nextS st2), .int .i64 1, .int .i64 0, .int .i64 3600, .bool true, .bool true, .slice none 0 0] 29)) g w1.heap.size st2 (nextS st2)) := ⟨⟨HS1.out.rd.below (below_alloc (Below.refl _ _) _), below_alloc HS1.out.bel _, KeepBut.of_below (below_alloc (Below.refl _ _) _) g none, heap_alloc_new w1 _, HS1.out.small⟩⟩
  go_wp2_with fail
  refine HN.out.mono ?_
  rintro e w2 ⟨rfl, hw2⟩
  obtain rfl : w1 = w2 := hw2.symm
  clear HN hw2
  have HH := Aside0.mk (fun W => place_Host.calls ((nextS st2).size + 3) (nextS st2) (hostV (nextS st2)).1 (hostV (nextS st2)).2 W (host_of (nextS st2) HX.out ((nextS st2).size + 3) (by omega)))
  have HHS : Aside0 (hostS st2 sites = (if (findS (nextS st2) sites).2 = true then failS (if st2.code = 0 ∧ ¬ ((hostV (nextS st2)).2 = 0 ∧ (hostV (nextS st2)).1 = nextS st2) then failS st2 30 else st2) 31
  else (if st2.code = 0 ∧ ¬ ((hostV (nextS st2)).2 = 0 ∧ (hostV (nextS st2)).1 = nextS st2) then failS st2 30 else st2))) := ⟨rfl⟩
  generalize hostS st2 sites = sth at *
  generalize (hostV (nextS st2)).1 = hv at *
  generalize (hostV (nextS st2)).2 = he at *
  generalize nextS st2 = host at *
  go_wp2_with fail
  refine (HH.out _).mono ?_
  rintro e w3 ⟨rfl, hb3⟩
  have HT1 := Aside0.mk (HT0.out.below hb3)
  clear HT0 hb3 HH
  go_upto_region 5 with fail
  go_cut [49] (fun v49 wc => ∃ b, v49 = .bool b ∧ Aside0 (b = (decide (st2.code = 0) && !(decide (he = 0) && decide (hv = host)))) ∧ Aside0 (TI w0 w1 wc g w1.heap.size st2 host))
  case first =>
    have c1 : w3.cell? ⟨g, 1, none⟩ = some (.int .i64 st2.code) := by
      obtain ⟨A, c, hb, _⟩ := HT1.out.rd
      exact (blk_cell hb 1).trans rfl
    have cs : w3.cell? ⟨w1.heap.size, 0, none⟩ = some (.string host) := (blk_cell HT1.out.bx 0).trans rfl
    by_cases t1 : st2.code = 0
    · by_cases t2 : he = 0
      · have E : Aside0 ((!(hv.toList == host.toList)) = (decide (st2.code = 0) && !(decide (he = 0) && decide (hv = host)))) := ⟨by
          rw [decide_eq_true t1, decide_eq_true t2, Bool.true_and, Bool.true_and]
          by_cases t3 : hv = host
          · rw [decide_eq_true t3, t3]; simp
          · rw [decide_eq_false t3, toList_ne t3]⟩
        rw [t1] at c1
        have q2 : (he != 0) = false := by rw [t2]; rfl
        clear t1 t2
        go_wp2
        go_meet
        case rel => exact ⟨_, rfl, E, HT1⟩
      · have E : Aside0 (true = (decide (st2.code = 0) && !(decide (he = 0) && decide (hv = host)))) := ⟨by rw [decide_eq_true t1, decide_eq_false t2]; rfl⟩
        rw [t1] at c1
        have q2 : (he != 0) = true := bne_iff_ne.2 t2
        clear t1 t2
        go_wp2
        go_meet
        case rel => exact ⟨_, rfl, E, HT1⟩
    · have E : Aside0 (false = (decide (st2.code = 0) && !(decide (he = 0) && decide (hv = host)))) := ⟨by rw [decide_eq_false t1]; rfl⟩
      have q1 : (st2.code == 0) = false := beq_eq_false_iff_ne.2 t1
      clear t1
      go_wp2
      go_meet
      case rel => exact ⟨_, rfl, E, HT1⟩
  case rest =>
  obtain ⟨b, rfl, HB, HT⟩ := hcut
  clear HT1
  go_upto_if 49 with fail
  go_cut [51] (fun v51 wc => Aside0 (TI w0 w1 wc g w1.heap.size (if st2.code = 0 ∧ ¬ (he = 0 ∧ hv = host) then failS st2 30 else st2) host))
  case first =>
    cases b with
    | true =>
      have E : Aside0 ((if st2.code = 0 ∧ ¬ (he = 0 ∧ hv = host) then failS st2 30 else st2) = failS st2 30) := ⟨by
        have := HB.out.symm
        simp only [Bool.and_eq_true, decide_eq_true_eq, Bool.not_eq_true', Bool.and_eq_false_iff, decide_eq_false_iff_not] at this
        rw [if_pos ⟨this.1, fun h => this.2.elim (fun h1 => h1 h.1) (fun h1 => h1 h.2)⟩]⟩
      clear HB
      go_wp2_with fail
      refine (reader_fail_calls w0 _ g _ 30 HT.out.rd HT.out.bel).mono ?_
      rintro e w2 ⟨rfl, h1, h2, h3⟩
      have HT2 := Aside0.mk (HT.out.reader hgsg h1 h2 h3 (fun x hx => by rwa [failS_l] at hx))
      clear h1 h2 h3
      go_wp2
      go_meet
      case rel => exact ⟨by rw [E.out]; exact HT2.out⟩
    | false =>
      have E : Aside0 ((if st2.code = 0 ∧ ¬ (he = 0 ∧ hv = host) then failS st2 30 else st2) = st2) := ⟨by
        have := HB.out
        rw [if_neg]
        rintro ⟨h1, h2⟩
        rw [decide_eq_true h1, Bool.true_and] at this
        have h3 : (decide (he = 0) && decide (hv = host)) = true := by
          cases hx : (decide (he = 0) && decide (hv = host)) with
          | true => rfl
          | false => rw [hx] at this; simp at this
        simp only [Bool.and_eq_true, decide_eq_true_eq] at h3
        exact h2 h3⟩
      clear HB
      go_wp2
      go_meet
      case rel => exact ⟨by rw [E.out]; exact HT.out⟩
  case rest =>
  have HT := hcut
  clear hcut HB
  generalize (if st2.code = 0 ∧ ¬ (he = 0 ∧ hv = host) then failS st2 30 else st2) = st3 at *
  have hlt := HT.out.keep.1
  obtain ⟨hbx, hown⟩ := HS1.out.later hne HT.out.keep
  have kc : wc.cell? ⟨gc, 0, none⟩ = some (.slice A sites.length c) := (blk_cell hbx 0).trans rfl
  have ks : wc.cell? ⟨w1.heap.size, 0, none⟩ = some (.string host) := (blk_cell HT.out.bx 0).trans rfl
  have hCc := (Kd.R_reads' hown).2.2
  have HFI := Aside0.mk (fun W (hS : W.cell? ⟨gc, 0, none⟩ = some (.slice A sites.length c) ∧ W.cell? ⟨w1.heap.size, 0, none⟩ = some (.string host) ∧ Below wc.heap.size wc W) => (conf_Config_Find.calls (sites.length + 1) A c sites host _ _ _ _ _ _ _ _ W (Kd.C_below hCc hS.2.2) hlc (find_of host sites (by omega) (fun x hx => by have := HS1.out.heads x hx; omega) _ (by omega))).mono (fun e w' hp => (show ∃ (A6 : Option Addr) (n6 c6 : Nat), e = .returned (.tuple #[.agg #[.string (findS host sites).1.f0, .int .i64 (findS host sites).1.f1, .int .i64 (findS host sites).1.f2, .int .i64 (findS host sites).1.f3, .bool (findS host sites).1.f4, .bool (findS host sites).1.f5, .slice A6 n6 c6], .bool (findS host sites).2]) ∧ Below wc.heap.size wc w' ∧ Below W.heap.size W w' from hp.elim fun v6 hq => (Kd.R_slice hq.2.1).elim fun A6 h6 => h6.elim fun c6 h7 => ⟨A6, _, c6, by rw [← h7]; exact hq.1, below_then hS.2.2 hS.2.2.size hq.2.2, hq.2.2⟩)))
  have HB3 := Aside0.mk (fun W (hS : W.cell? ⟨gc, 0, none⟩ = some (.slice A sites.length c) ∧ W.cell? ⟨w1.heap.size, 0, none⟩ = some (.string host) ∧ Below wc.heap.size wc W) => hS.2.2)
  have hkb : ∀ W, Below wc.heap.size wc W → W.cell? ⟨gc, 0, none⟩ = some (.slice A sites.length c) ∧ W.cell? ⟨w1.heap.size, 0, none⟩ = some (.string host) ∧ Below wc.heap.size wc W := fun W hb => ⟨pw_cell_below hb kc, pw_cell_below hb ks, hb⟩
  have HKB := Aside0.mk hkb
  clear hbx hown hCc hkb
  generalize (findS host sites).1 = fs at *
  generalize (findS host sites).2 = fb at *
  go_upto_region 7 with fail
  go_cut [8] (fun v8 W => v8 = .bool fb ∧ Aside0 (TI w0 w1 W g w1.heap.size st3 host))
  case first =>
    have kc1 := fun o => (HKB.out _ (below_alloc (Below.refl wc.heap.size wc) o)).1
    have ks1 := fun o => (HKB.out _ (below_alloc (Below.refl wc.heap.size wc) o)).2.1
    have kc2 := (HKB.out _ (below_drew (Below.refl wc.heap.size wc))).1
    have ks2 := (HKB.out _ (below_drew (Below.refl wc.heap.size wc))).2.1
    go_region_with (go_at_call 10; first | (refine (HFI.out wc.drew (HKB.out _ (below_drew (Below.refl _ _)))).mono ?_; rintro e w' ⟨A6, n6, c6, rfl, hb6, hb7⟩) | (refine (HFI.out (wc.drew.alloc (.cells #[.string ⟨#[]⟩, .int .i64 0, .int .i64 0, .int .i64 0, .bool false, .bool false, .slice none 0 0] 29)) (HKB.out _ (below_alloc (below_drew (Below.refl _ _)) _))).mono ?_; rintro e w' ⟨A6, n6, c6, rfl, hb6, hb7⟩; have hz : w'.heap[wc.heap.size]? = some (.cells #[.string ⟨#[]⟩, .int .i64 0, .int .i64 0, .int .i64 0, .bool false, .bool false, .slice none 0 0] 29 (0, 0)) := (hb7.block wc.heap.size (by simp)).trans (heap_alloc_new wc.drew _); have z0 : w'.cell? ⟨wc.heap.size, 0, none⟩ = some (.string ⟨#[]⟩) := (blk_cell hz 0).trans rfl; have y0 : w'.frozen? ⟨wc.heap.size, 0, none⟩ = false := blk_frozen hz 0; have z1 : w'.cell? ⟨wc.heap.size, 1, none⟩ = some (.int .i64 0) := (blk_cell hz 1).trans rfl; have y1 : w'.frozen? ⟨wc.heap.size, 1, none⟩ = false := blk_frozen hz 1; have z2 : w'.cell? ⟨wc.heap.size, 2, none⟩ = some (.int .i64 0) := (blk_cell hz 2).trans rfl; have y2 : w'.frozen? ⟨wc.heap.size, 2, none⟩ = false := blk_frozen hz 2; have z3 : w'.cell? ⟨wc.heap.size, 3, none⟩ = some (.int .i64 0) := (blk_cell hz 3).trans rfl; have y3 : w'.frozen? ⟨wc.heap.size, 3, none⟩ = false := blk_frozen hz 3; have z4 : w'.cell? ⟨wc.heap.size, 4, none⟩ = some (.bool false) := (blk_cell hz 4).trans rfl; have y4 : w'.frozen? ⟨wc.heap.size, 4, none⟩ = false := blk_frozen hz 4; have z5 : w'.cell? ⟨wc.heap.size, 5, none⟩ = some (.bool false) := (blk_cell hz 5).trans rfl; have y5 : w'.frozen? ⟨wc.heap.size, 5, none⟩ = false := blk_frozen hz 5; have z6 : w'.cell? ⟨wc.heap.size, 6, none⟩ = some (.slice none 0 0) := (blk_cell hz 6).trans rfl; have y6 : w'.frozen? ⟨wc.heap.size, 6, none⟩ = false := blk_frozen hz 6))
    all_goals
      clear kc1 ks1 kc2 ks2
      go_wp2_with fail
      go_meet
      case rel => exact ⟨rfl, ⟨HT.out.below (by repeat (first | (with_reducible exact hb6) | (with_reducible refine below_alloc ?_ _) | ((with_reducible refine below_set ?_ ?hge); case hge => first | exact Nat.le_refl _ | exact hb6.size)))⟩⟩
  case rest =>
  obtain ⟨rfl, HT3⟩ := hcut
  clear HFI HKB HB3 kc ks HT
  go_upto_if 61 with fail
  go_cut [63] (fun v63 wc => Aside0 (TI w0 w1 wc g w1.heap.size sth host))
  case first =>
    cases fb with
    | true =>
      have E : Aside0 (sth = failS st3 31) := ⟨by rw [HHS.out, if_pos rfl]⟩
      go_wp2_with fail
      refine (reader_fail_calls w0 _ g _ 31 HT3.out.rd HT3.out.bel).mono ?_
      rintro e w2 ⟨rfl, h1, h2, h3⟩
      have HT2 := Aside0.mk (HT3.out.reader hgsg h1 h2 h3 (fun x hx => by rwa [failS_l] at hx))
      clear h1 h2 h3
      go_wp2
      go_meet
      case rel => exact ⟨by rw [E.out]; exact HT2.out⟩
    | false =>
      have E : Aside0 (sth = st3) := ⟨by rw [HHS.out, if_neg (by simp)]⟩
      go_wp2
      go_meet
      case rel => exact ⟨by rw [E.out]; exact HT3.out⟩
  case rest =>
  have HT := hcut
  clear hcut HHS HT3
  go_wp2_with fail
  refine (reader_take_calls w0 _ g _ HT.out.rd HT.out.bel).mono ?_
  rintro e w2 ⟨rfl, h1, h2, h3⟩
  have HT2 := Aside0.mk (HT.out.reader hgsg h1 h2 h3 (takeS_mem _))
  clear h1 h2 h3 HT
  go_wp2_with fail
  refine (reader_must_calls w0 _ g _ ⟨#[123]⟩ HT2.out.rd HT2.out.bel).mono ?_
  rintro e w3 ⟨rfl, h1, h2, h3⟩
  have HT3 := Aside0.mk (HT2.out.reader hgsg h1 h2 h3 (mustS_mem _ _))
  clear h1 h2 h3 HT2
  have LI : Lie w0 w1 g w1.heap.size w3.heap.size := ⟨hg, Nat.le_refl _, HT3.out.keep.1, by have := blk_lt HT3.out.bx; omega, hw01⟩
  have HR0 : Aside0 (RI w0 w1 (w3.alloc (.map #[] 0)) g w1.heap.size w3.heap.size (mustS (takeS sth) ⟨#[123]⟩) ⟨host, 1, 0, 3600, true, true, []⟩ [] (.slice none 0 0)) := ⟨by
    have hb := below_alloc (Below.refl w3.heap.size w3) (.map #[] 0)
    have h3 := HT3.out.below hb
    exact ⟨h3.rd, h3.bel, h3.keep, h3.bx, own_nil _ _ _ _, fun k hk => by simp [Value.ownBlock] at hk, IsSet.made w3, h3.small, by simp⟩⟩
  have HLI := Aside0.mk LI
  clear HT3 LI
  generalize mustS (takeS sth) ⟨#[123]⟩ = str at *
  cases hrf : rulesF k str ⟨host, 1, 0, 3600, true, true, []⟩ [] with
  | none => rw [hrf] at HF; exact absurd HF.out (by simp)
  | some r7 =>
  obtain ⟨st7, s7⟩ := r7
  have HF7 := HF.out
  rw [hrf] at HF7
  simp only [Option.map_some, Option.some.injEq, Prod.mk.injEq] at HF7
  obtain ⟨hst', hsites'⟩ := HF7
  have HE1 := Aside0.mk hst'
  have HE2 := Aside0.mk hsites'
  have HRF := Aside0.mk hrf
  clear HF hst' hsites' hrf
  go_wp2
  go_loopg [82] k (fun kq v82 wr => ∃ (s1 : St) (sv : Sv) (seen : List ByteArray) (v1 : Value), Aside0 (rulesF kq s1 sv seen = some (st7, s7)) ∧ Aside0 (RI w0 w1 wr g w1.heap.size w3.heap.size s1 sv seen v1) ∧ Aside0 (seen.length + kq ≤ k))
  case atStart => exact ⟨str, _, [], _, HRF, HR0, ⟨by simp⟩⟩
  case round =>
    clear HRF HR0
    obtain ⟨s1, sv, seen, v1, HF, HR, HSL⟩ := hrel
    cases gk with
    | zero => exact absurd HF.out (by simp [rulesF])
    | succ k1 =>
      have c1 : wr.cell? ⟨g, 1, none⟩ = some (.int .i64 s1.code) := by
        obtain ⟨A, c, hb, _⟩ := HR.out.rd
        exact (blk_cell hb 1).trans rfl
      have HN := Aside0.mk (reader_next_calls w0 wr g s1 HR.out.rd HR.out.bel)
      go_upto_region 13 with fail
      go_cut [79] from 69 to 82 (fun v79 W => ∃ b, v79 = .bool b ∧ Aside0 (b = (decide (s1.code = 0) && !decide (nextS s1 = ⟨#[125]⟩))) ∧ Aside0 (RI w0 w1 W g w1.heap.size w3.heap.size s1 sv seen v1))
      case first =>
        by_cases t1 : s1.code = 0
        · by_cases t2 : nextS s1 = ⟨#[125]⟩
          · have E : Aside0 (false = (decide (s1.code = 0) && !decide (nextS s1 = ⟨#[125]⟩))) := ⟨by rw [decide_eq_true t1, decide_eq_true t2]; rfl⟩
            rw [t1] at c1
            rw [t2] at HN
            clear t1 t2
            go_wp2_with fail
            refine HN.out.mono ?_
            rintro e w5 ⟨rfl, rfl⟩
            go_wp2
            go_meet
            case rel => exact ⟨_, rfl, E, HR⟩
          · have E : Aside0 (true = (decide (s1.code = 0) && !decide (nextS s1 = ⟨#[125]⟩))) := ⟨by rw [decide_eq_true t1, decide_eq_false t2]; rfl⟩
            rw [t1] at c1
            have q2 := lit_ne t2
            clear t1 t2
            go_wp2_with fail
            refine HN.out.mono ?_
            rintro e w5 ⟨rfl, rfl⟩
            go_wp2
            go_meet
            case rel => exact ⟨_, rfl, E, HR⟩
        · have E : Aside0 (false = (decide (s1.code = 0) && !decide (nextS s1 = ⟨#[125]⟩))) := ⟨by rw [decide_eq_false t1]; rfl⟩
          have q1 : (s1.code == 0) = false := beq_eq_false_iff_ne.2 t1
          clear t1
          go_wp2
          go_meet
          case rel => exact ⟨_, rfl, E, HR⟩
      case rest =>
      obtain ⟨b, rfl, HB, HR5⟩ := hcut
      clear HR c1 HN
      have HT := HF.out
      unfold rulesF at HT
      cases b with
      | true =>
        have hb := HB.out.symm
        simp only [Bool.and_eq_true, decide_eq_true_eq, Bool.not_eq_true', decide_eq_false_iff_not] at hb
        rw [if_pos hb.1, if_neg hb.2] at HT
        clear hb HB HF
        cases hrr : ruleF k1 s1 sv seen with
        | none => rw [hrr] at HT; simp at HT
        | some rr =>
        rw [hrr] at HT
        obtain ⟨sa, sb, sc⟩ := rr
        have HTN : Aside0 (rulesF k1 sa sb sc = some (st7, s7)) := ⟨HT⟩
        have hlen : sc.length = seen.length + 1 := by
          unfold ruleF at hrr
          cases hbb : bodyF k1 (nextS s1) (nameS s1 seen) sv with
          | none => rw [hbb] at hrr; simp at hrr
          | some r => rw [hbb] at hrr; simp at hrr; rw [← hrr.2.2]; simp
        have HLN := Aside0.mk hlen
        have HRU := Aside0.mk (reader_rule_calls k1 w0 w1 _ g w1.heap.size w3.heap.size s1 sv seen v1 sa sb sc HR5.out HLI.out HGL.out (by have := HSL.out; omega) hrr)
        clear HT hrr hlen HR5
        go_wp2_with fail
        refine HRU.out.mono ?_
        rintro e w6 ⟨rfl, v6, hr6⟩
        have HR6 := Aside0.mk hr6
        clear hr6 HRU
        go_wp2
        go_roundg k1
        case measure => omega
        case rel => exact ⟨_, _, _, _, HTN, HR6, ⟨by rw [HLN.out]; have := HSL.out; omega⟩⟩
      | false =>
        have HE : Aside0 (s1 = st7 ∧ sv = s7) := ⟨by
          by_cases t1 : s1.code = 0
          · rw [if_pos t1] at HT
            by_cases t2 : nextS s1 = ⟨#[125]⟩
            · rw [if_pos t2] at HT
              simpa using HT
            · have := HB.out
              rw [decide_eq_true t1, decide_eq_false t2] at this
              simp at this
          · rw [if_neg t1] at HT
            simpa using HT⟩
        obtain ⟨e1, e2⟩ := HE.out
        subst e1 e2
        clear HE HB HF HT
        go_wp2_with fail
        refine (reader_must_calls w0 _ g _ ⟨#[125]⟩ HR5.out.rd HR5.out.bel).mono ?_
        rintro e w6 ⟨rfl, h1, h2, h3⟩
        have HR6 := Aside0.mk (HR5.out.reader HLI.out h1 h2 h3 (mustS_mem _ _))
        clear h1 h2 h3 HR5
        obtain ⟨A1, c1, hv1⟩ := own_slice HR6.out.own
        generalize hn1 : sv.hs.length = n1 at hv1
        subst hv1
        clear hn1
        obtain ⟨hbox, hRo⟩ := HS1.out.later hne HR6.out.keep
        have hlt7 := Kd.R_lt HS1.out.own
        have hbs7 := Kd.R_base HS1.out.own
        obtain ⟨h07, inner, hown7, hreps7⟩ := hRo
        have ltgs : w1.heap.size < w6.heap.size := blk_lt HR6.out.site
        have ltgc : gc < w6.heap.size := blk_lt hbox
        have hw06 : w0.heap.size ≤ w6.heap.size := HR6.out.bel.size
        have farc : (Value.slice A sites.length c).ownBlock ≠ some gc := fun e => (h07 gc e).2 rfl
        have kc6 : w6.cell? ⟨gc, 0, none⟩ = some (.slice A sites.length c) := (blk_cell hbox 0).trans rfl
        have zc6 : w6.frozen? ⟨gc, 0, none⟩ = false := blk_frozen hbox 0
        have e0 := fun o => cell_new_ (o := o) ltgc kc6
        have f0 : w6.cell? ⟨w1.heap.size, 0, none⟩ = some (.string sv.host) := (blk_cell HR6.out.site 0).trans rfl
        have f1 : w6.cell? ⟨w1.heap.size, 1, none⟩ = some (.int .i64 sv.origin) := (blk_cell HR6.out.site 1).trans rfl
        have f2 : w6.cell? ⟨w1.heap.size, 2, none⟩ = some (.int .i64 sv.mn) := (blk_cell HR6.out.site 2).trans rfl
        have f3 : w6.cell? ⟨w1.heap.size, 3, none⟩ = some (.int .i64 sv.mx) := (blk_cell HR6.out.site 3).trans rfl
        have f4 : w6.cell? ⟨w1.heap.size, 4, none⟩ = some (.bool sv.q) := (blk_cell HR6.out.site 4).trans rfl
        have f5 : w6.cell? ⟨w1.heap.size, 5, none⟩ = some (.bool sv.kp) := (blk_cell HR6.out.site 5).trans rfl
        have f6 : w6.cell? ⟨w1.heap.size, 6, none⟩ = some (.slice A1 n1 c1) := (blk_cell HR6.out.site 6).trans rfl
        obtain ⟨i0, hi0, hz0, hz1, hz2⟩ := info_parts infoSite
        have HO7 := Aside0.mk hown7
        have HBX := Aside0.mk (fun o => ((below_drew (below_alloc (Below.refl w6.heap.size w6) o)).block gc ltgc).trans hbox)
        have H07 := Aside0.mk h07
        have HRP := Aside0.mk (fun o => hreps7.imp_ (fun _ _ hp => k29.M_mono (fun k hk => hk.1) (k29.M_move (fun k hk => (below_drew (below_alloc (Below.refl w6.heap.size w6) o)).block k hk.2.2.1) (k29.M_bound hp))))
        have HLT := Aside0.mk hlt7
        have HBS := Aside0.mk hbs7
        have HRn := Aside0.mk (fun o => HR6.out.below (below_drew (below_alloc (Below.refl w6.heap.size w6) o)))
        have HFC := Aside0.mk farc
        clear hown7 hbox h07 hreps7 hlt7 hbs7 farc
        go_upto_region 16 with fail
        go_region_law ((refine step_append_lies _ (by rfl) _ _ _ (by rfl) w0.heap.size 29 i0 _ 7 72 Tryd.underlying22 hi0 hz0 hz1 hz2 rfl (by omega) (.slice A sites.length c) sites.length inner (by rfl) ((HO7.out.alloc _).drew) ⟨w6.heap.size, 0, none⟩ 1 1 [.string sv.host, .int .i64 sv.origin, .int .i64 sv.mn, .int .i64 sv.mx, .bool sv.q, .bool sv.kp, .slice A1 n1 c1] (by rfl) (by rfl) (World.news_of_block (cs := #[.string sv.host, .int .i64 sv.origin, .int .i64 sv.mn, .int .i64 sv.mx, .bool sv.q, .bool sv.kp, .slice A1 n1 c1]) (t := 29) (fr := (0, 0)) (heap_alloc_new w6 _)) (by simp [Value.oneCell']) (by omega) (by unfold maxLen; omega) (by omega) (by simp; omega) (w6.heap.size + 1) (by simp) ?_; intro gg cap w8 hown8 hgrow8 hat8 hlt8; have c8 : w8.cell? ⟨gc, 0, none⟩ = some (.slice A sites.length c) := (hgrow8.cell_far _ (by simp; omega) (Ne.symm HFC.out)).trans (cell_new_ ltgc kc6); have z8 : w8.frozen? ⟨gc, 0, none⟩ = false := (hgrow8.frozen_far _ (by simp; omega) (Ne.symm HFC.out)).trans (frz_new ltgc zc6)))
        all_goals
          have HSA := Aside0.mk (SI.app (HRn.out _) HLI.out hne hgc1 hgc (HBX.out _) H07.out HBS.out HLT.out (HRP.out _) HS1.out.heads hgrow8 hown8 (hat8.elim (fun h => .inl (show some gg = _ from h.symm)) (fun h => .inr ⟨gg, rfl, by simp; omega⟩)))
          clear hgrow8 hown8 hat8 hlt8 c8 z8
          go_wp2
          go_end0
          exact ⟨rfl, _, by rw [← HE1.out, ← HE2.out]; exact HSA.out⟩
end Go.Proofs.YtcoaajkhfgakgaaDoor.Pr
end

section
namespace Go.Proofs.YtcoaajkhfgakgaaDoor.Pr
open Go.RowKit Go.Proofs.YtcoaajkhfgakgaaDoorW.PrintWords Go.Proofs.YtcoaajkhfgakgaaDoorW.PrintLast Go.Proofs.YtcoaajkhfgakgaaDoorW.PrintMore
set_option linter.unusedVariables false
set_option linter.unusedSimpArgs false
def skipC (s : ByteArray) : Nat → Nat → Nat
  | 0, k => k
  | n + 1, k => if k + 1 < s.size ∧ bt s (k + 1 : Nat) ≠ 10 then skipC s n (k + 1) else k
def stepW (s : ByteArray) (k : Nat) (line frm : Int) (ws : List Wd) : Nat × Int × Int × List Wd :=
  if bt s k = 47 ∧ k + 1 < s.size ∧ bt s (k + 1 : Nat) = 47 then (skipC s s.size k + 1, line, -1, endW s k line frm ws)
  else if bt s k = 32 ∨ bt s k = 9 ∨ bt s k = 10 then (k + 1, (if bt s k = 10 then line + 1 else line), -1, endW s k line frm ws)
  else if bt s k = 123 ∨ bt s k = 125 ∨ bt s k = 59 then (k + 1, line, -1, endW s k line frm ws ++ [⟨s.extract k (k + 1), line⟩])
  else (k + 1, line, (if frm < 0 then (k : Int) else frm), ws)
def tkF (s : ByteArray) : Nat → Nat → Int → Int → List Wd → List Wd
  | 0, _, _, _, ws => ws
  | n + 1, k, line, frm, ws => if k < s.size then tkF s n (stepW s k line frm ws).1 (stepW s k line frm ws).2.1 (stepW s k line frm ws).2.2.1 (stepW s k line frm ws).2.2.2 else endW s s.size line frm ws ++ [⟨⟨#[]⟩, line⟩]
def wordsS (s : ByteArray) : List Wd := tkF s (s.size + 1) 0 1 (-1) []
theorem skipC_le (s : ByteArray) : ∀ n k, k < s.size → k ≤ skipC s n k ∧ skipC s n k < s.size
  | 0, k, h => ⟨Nat.le_refl _, h⟩
  | n + 1, k, h => by
    unfold skipC
    split
    · rename_i hc
      have := skipC_le s n (k + 1) hc.1
      omega
    · exact ⟨Nat.le_refl _, h⟩
theorem endW_len (s : ByteArray) (i : Nat) (line frm : Int) (ws : List Wd) : (endW s i line frm ws).length ≤ ws.length + 1 := by
  unfold endW
  split <;> simp
set_option maxRecDepth 100000 in
set_option maxHeartbeats 3200000 in
theorem conf_words_calls (a0 : ByteArray) (w : World) (hs : a0.size ≤ 274877906944) :
    Calls Tryd.prog 22 #[.string a0] w fun e w' => ∃ v, e = .returned v ∧ w'.ownsRow w.heap.size 79 2 v (wordsS a0).length (cellsW (wordsS a0)) ∧ Below w.heap.size w w' ∧ (wordsS a0).length ≤ 2 * a0.size + 2 := by
  obtain ⟨i0, hi0, hz0, hz1, hz2⟩ := info_parts infoW
  have hst0 : Aside0 (WSt w ((((w.alloc (.cells #[.string a0] 9)).alloc (.cells #[.slice none 0 0] 61)).alloc (.cells #[.int .i64 1] 3)).alloc (.cells #[.int .i64 (-1)] 3)) w.heap.size (w.heap.size + 1) (w.heap.size + 1 + 1) (w.heap.size + 1 + 1 + 1) a0 1 (-1) [] (.slice none 0 0)) := ⟨by
    refine ⟨?_, ?_, ?_, ?_, own_nil _ _ _ _, ?_, by omega, by omega⟩
    · exact (blk_alloc (blk_alloc (blk_alloc (heap_alloc_new w _) _) _) _)
    · exact (blk_alloc (blk_alloc (by simpa using heap_alloc_new (w.alloc (.cells #[.string a0] 9)) _) _) _)
    · exact (blk_alloc (by simpa using heap_alloc_new ((w.alloc (.cells #[.string a0] 9)).alloc (.cells #[.slice none 0 0] 61)) _) _)
    · simpa using heap_alloc_new (((w.alloc (.cells #[.string a0] 9)).alloc (.cells #[.slice none 0 0] 61)).alloc (.cells #[.int .i64 1] 3)) _
    · exact below_alloc (below_alloc (below_alloc (below_alloc (Below.refl _ _) _) _) _) _⟩
  go_enter Tryd.func22, Tryd.ntmps22
  go_wp2
  generalize (((w.alloc (.cells #[.string a0] 9)).alloc (.cells #[.slice none 0 0] 61)).alloc (.cells #[.int .i64 1] 3)).alloc (.cells #[.int .i64 (-1)] 3) = w1 at hst0 ⊢
  obtain ⟨b0, eb0⟩ : ∃ b, b = w.heap.size := ⟨_, rfl⟩
  obtain ⟨b1, eb1⟩ : ∃ b, b = w.heap.size + 1 := ⟨_, rfl⟩
  obtain ⟨b2, eb2⟩ : ∃ b, b = w.heap.size + 1 + 1 := ⟨_, rfl⟩
  obtain ⟨b3, eb3⟩ : ∃ b, b = w.heap.size + 1 + 1 + 1 := ⟨_, rfl⟩
  rw [← eb3, ← eb2, ← eb1, ← eb0] at hst0 ⊢
  clear eb0 eb1 eb2 eb3
  go_loopw [7] (fun i wr => ∃ (k n : Nat) (line frm : Int) (ws : List Wd) (v : Value), k ≤ a0.size ∧ i = .int .i64 k ∧ Aside0 (WSt w wr b0 b1 b2 b3 a0 line frm ws v) ∧ Aside0 (tkF a0 n k line frm ws = wordsS a0) ∧ a0.size - k < n ∧ frm ≤ k ∧ 0 < line ∧ line ≤ k + 1 ∧ ws.length ≤ 2 * k)
    (fun i _ => a0.size + 1 - (intOf i).toNat)
  case atStart => exact ⟨0, a0.size + 1, 1, -1, [], .slice none 0 0, Nat.zero_le _, rfl, hst0, ⟨rfl⟩, by omega, by omega, by omega, by omega, by simp⟩
  case round =>
    obtain ⟨k, n, line, frm, ws, v, hk, rfl, hst, htk, hn, hfr, hl0, hl1, hlen⟩ := hrel
    clear hst0
    obtain ⟨m, rfl⟩ : ∃ m, n = m + 1 := ⟨n - 1, by omega⟩
    have c0 : wr.cell? ⟨b0, 0, none⟩ = some (.string a0) := (blk_cell hst.out.text 0).trans rfl
    by_cases hlt : k < a0.size
    · have HT : Aside0 (tkF a0 m (stepW a0 k line frm ws).1 (stepW a0 k line frm ws).2.1 (stepW a0 k line frm ws).2.2.1 (stepW a0 k line frm ws).2.2.2 = wordsS a0) := ⟨by
        have := htk.out
        rw [tkF, if_pos hlt] at this
        exact this⟩
      clear htk
      have hc : ∀ h : k < a0.size, ((a0[k]'h).toNat : Int) = bt a0 k := fun h => by simp [bt, h]
      have hr := bt_range a0 k
      have hend := Aside0.mk (fun W (ww : Value) (h' : WSt w W b0 b1 b2 b3 a0 line frm ws ww) => words_end_any w W b0 b1 b2 b3 a0 line frm k ws ww h' hfr hk (by omega) (by omega))
      have hendl := endW_len a0 k line frm ws
      by_cases hA : bt a0 k = 47 ∧ k + 1 < a0.size ∧ bt a0 (k + 1 : Nat) = 47
      · rw [stepW, if_pos hA] at HT
        obtain ⟨hA1, hA2, hA3⟩ := hA
        generalize endW a0 k line frm ws = ws2 at *
        have q47 : (bt a0 k == 47) = true := beq_iff_eq.2 hA1
        have q10 : (bt a0 k == 10) = false := beq_eq_false_iff_ne.2 (by omega)
        have q1 : (bt a0 (k + 1 : Nat) == 47) = true := beq_iff_eq.2 hA3
        have hc1 : ∀ h : k + 1 < a0.size, ((a0[k + 1]'h).toNat : Int) = bt a0 (k + 1 : Nat) := fun h => by simp [bt, h]
        clear hA1 hA3
        generalize bt a0 (k + 1 : Nat) = c1 at *
        generalize bt a0 k = c at *
        go_wp2_with fail
        refine (hend.out _ _ hst.out).mono ?_
        rintro e w' ⟨rfl, v', hst'⟩
        have hset := Aside0.mk hst'
        have d0 : w'.cell? ⟨b0, 0, none⟩ = some (.string a0) := (blk_cell hst'.text 0).trans rfl
        clear hst' hst hend c0 hc1 q1
        go_wp2_with fail
        go_loop [7] (fun i => ∃ (j n' : Nat), k ≤ j ∧ j < a0.size ∧ i = .int .i64 j ∧ Aside0 (skipC a0 n' j = skipC a0 a0.size k) ∧ a0.size ≤ n' + j) (fun i => a0.size - (intOf i).toNat)
        case atStart => exact ⟨k, a0.size, Nat.le_refl _, hlt, rfl, ⟨rfl⟩, by omega⟩
        case round =>
          obtain ⟨j, n', hj1, hj2, rfl, hsk, hn'⟩ := hrel
          by_cases hj : j + 1 < a0.size
          · have hd1 : ∀ h : j + 1 < a0.size, ((a0[j + 1]'h).toNat : Int) = bt a0 (j + 1 : Nat) := fun h => by simp [bt, h]
            obtain ⟨n2, rfl⟩ : ∃ n2, n' = n2 + 1 := ⟨n' - 1, by omega⟩
            by_cases h10 : bt a0 (j + 1 : Nat) = 10
            · have p10 : (bt a0 (j + 1 : Nat) != 10) = false := by rw [h10]; rfl
              have hs1 : skipC a0 a0.size k = j := by rw [← hsk.out, skipC, if_neg (by rintro ⟨_, h⟩; exact h h10)]
              rw [hs1] at HT
              clear h10 hs1 hsk
              generalize bt a0 (j + 1 : Nat) = c2 at *
              go_wp2
              go_roundw
              case rel => exact ⟨j + 1, m, line, -1, ws2, v', by omega, by go_num, hset, HT, by omega, by omega, by omega, by omega, by omega⟩
              case measure => simp [intOf]; omega
            · have p10 : (bt a0 (j + 1 : Nat) != 10) = true := by simpa using h10
              have hs1 : Aside0 (skipC a0 n2 (j + 1) = skipC a0 a0.size k) := ⟨by
                have := hsk.out
                rw [skipC, if_pos ⟨hj, h10⟩] at this
                exact this⟩
              clear h10 hsk
              generalize bt a0 (j + 1 : Nat) = c2 at *
              go_wp2
              go_round
              case rel => exact ⟨j + 1, n2, by omega, by omega, by go_num, hs1, by omega⟩
              case measure => simp [intOf]; omega
          · have hs1 : skipC a0 a0.size k = j := by
              rw [← hsk.out]
              cases n' with
              | zero => rfl
              | succ n2 => rw [skipC, if_neg (by rintro ⟨h, _⟩; exact hj h)]
            rw [hs1] at HT
            clear hs1 hsk
            go_wp2
            go_roundw
            case rel => exact ⟨j + 1, m, line, -1, ws2, v', by omega, by go_num, hset, HT, by omega, by omega, by omega, by omega, by omega⟩
            case measure => simp [intOf]; omega
      · rw [stepW, if_neg hA] at HT
        by_cases hB : bt a0 k = 32 ∨ bt a0 k = 9 ∨ bt a0 k = 10
        · rw [if_pos hB] at HT
          generalize endW a0 k line frm ws = ws2 at *
          clear hA
          generalize bt a0 k = c at *
          have q47 : (c == 47) = false := beq_eq_false_iff_ne.2 (by rcases hB with h | h | h <;> omega)
          by_cases h10 : c = 10
          · rw [if_pos h10] at HT
            subst h10
            clear hB
            go_wp2_with (go_at_call 29; refine (hend.out _ _ hst.out).mono ?_; rintro e w' ⟨rfl, v', hst'⟩; have d2 : w'.cell? ⟨b2, 0, none⟩ = some (.int .i64 line) := (blk_cell hst'.line 0).trans rfl; have e2 : w'.frozen? ⟨b2, 0, none⟩ = false := blk_frozen hst'.line 0; have hset := Aside0.mk (hst'.setLine (line + 1)); clear hst')
            go_roundw
            case rel => exact ⟨k + 1, m, line + 1, -1, ws2, v', by omega, by go_num, hset, HT, by omega, by omega, by omega, by omega, by omega⟩
            case measure => simp [intOf]; omega
          · rw [if_neg h10] at HT
            have q10 : (c == 10) = false := beq_eq_false_iff_ne.2 h10
            rcases hB with h | h | h
            · have q32 : (c == 32) = true := beq_iff_eq.2 h
              clear h h10
              go_wp2_with (go_at_call 29; refine (hend.out _ _ hst.out).mono ?_; rintro e w' ⟨rfl, v', hst'⟩; have hset := Aside0.mk hst'; clear hst')
              go_roundw
              case rel => exact ⟨k + 1, m, line, -1, ws2, v', by omega, by go_num, hset, HT, by omega, by omega, by omega, by omega, by omega⟩
              case measure => simp [intOf]; omega
            · have q32 : (c == 32) = false := beq_eq_false_iff_ne.2 (by omega)
              have q9 : (c == 9) = true := beq_iff_eq.2 h
              clear h h10
              go_wp2_with (go_at_call 29; refine (hend.out _ _ hst.out).mono ?_; rintro e w' ⟨rfl, v', hst'⟩; have hset := Aside0.mk hst'; clear hst')
              go_roundw
              case rel => exact ⟨k + 1, m, line, -1, ws2, v', by omega, by go_num, hset, HT, by omega, by omega, by omega, by omega, by omega⟩
              case measure => simp [intOf]; omega
            · exact absurd h h10
        · rw [if_neg hB] at HT
          by_cases hC : bt a0 k = 123 ∨ bt a0 k = 125 ∨ bt a0 k = 59
          · rw [if_pos hC] at HT
            generalize endW a0 k line frm ws = ws2 at *
            clear hA
            generalize bt a0 k = c at *
            have q47 : (c == 47) = false := beq_eq_false_iff_ne.2 (by omega)
            have hc32 : (c == 32) = false := beq_eq_false_iff_ne.2 (fun e => hB (.inl e))
            have hc9 : (c == 9) = false := beq_eq_false_iff_ne.2 (fun e => hB (.inr (.inl e)))
            have hc10 : (c == 10) = false := beq_eq_false_iff_ne.2 (fun e => hB (.inr (.inr e)))
            clear hB
            have hq : ((c == 123) = true) ∨ ((c == 123) = false ∧ (c == 125) = true) ∨ ((c == 123) = false ∧ (c == 125) = false ∧ (c == 59) = true) := by
              rcases hC with h | h | h
              · exact .inl (beq_iff_eq.2 h)
              · exact .inr (.inl ⟨beq_eq_false_iff_ne.2 (by omega), beq_iff_eq.2 h⟩)
              · exact .inr (.inr ⟨beq_eq_false_iff_ne.2 (by omega), beq_eq_false_iff_ne.2 (by omega), beq_iff_eq.2 h⟩)
            clear hC
            rcases hq with q123 | ⟨q123, q125⟩ | ⟨q123, q125, q59⟩
            all_goals
              go_wp2_with fail
              refine (hend.out _ _ hst.out).mono ?_
              rintro e w' ⟨rfl, v', hst'⟩
              have H := Aside0.mk hst'
              have hown := Aside0.mk hst'.row
              have d0 : w'.cell? ⟨b0, 0, none⟩ = some (.string a0) := (blk_cell hst'.text 0).trans rfl
              have d1 : w'.cell? ⟨b1, 0, none⟩ = some v' := (blk_cell hst'.out 0).trans rfl
              have d2 : w'.cell? ⟨b2, 0, none⟩ = some (.int .i64 line) := (blk_cell hst'.line 0).trans rfl
              have lt0 : b0 < w'.heap.size := blk_lt hst'.text
              have lt1 : b1 < w'.heap.size := blk_lt hst'.out
              have lt2 : b2 < w'.heap.size := blk_lt hst'.line
              have lw : w.heap.size ≤ w'.heap.size := hst'.bel.size
              have e1 : w'.frozen? ⟨b1, 0, none⟩ = false := blk_frozen hst'.out 0
              have far1 := hst'.far_of hst'.out (by decide)
              have f0 : ∀ o, (w'.alloc o).cell? ⟨b0, 0, none⟩ = some (.string a0) := fun o => cell_new_ lt0 d0
              have f1 : ∀ o, (w'.alloc o).cell? ⟨b1, 0, none⟩ = some v' := fun o => cell_new_ lt1 d1
              have f2 : ∀ o, (w'.alloc o).cell? ⟨b2, 0, none⟩ = some (.int .i64 line) := fun o => cell_new_ lt2 d2
              clear hst' hst hend
              have g0 : (0 : Int) ≤ (k : Int) := Int.natCast_nonneg _
              have g1 : (k : Int) ≤ (k : Int) + 1 := by omega
              have g2 : (k : Int) + 1 ≤ (a0.size : Int) := by omega
              have gw : IntKind.i64.wrap ((k : Int) + 1) = (k : Int) + 1 := by rw [IntKind.wrap_i64]; omega
              have gt : ((k : Int) + 1).toNat = k + 1 := by omega
              go_wp2_with fail
              go_region_law ((refine step_append_lies _ (by rfl) _ _ _ (by rfl) w.heap.size 79 i0 _ 2 24 Tryd.underlying61 hi0 hz0 hz1 hz2 rfl (by omega) v' ws2.length (cellsW ws2) (by rfl) ((hown.out.alloc _).drew) ⟨w'.heap.size, 0, none⟩ 1 1 [.string (a0.extract k (k + 1)), .int .i64 line] (by rfl) (by rfl) (World.news_of_block (cs := #[.string (a0.extract k (k + 1)), .int .i64 line]) (t := 79) (fr := (0, 0)) (heap_alloc_new w' _)) (by simp [Value.oneCell']) (by omega) (by unfold maxLen; omega) (by omega) (by simp; omega) (w'.heap.size + 1) (by simp) ?_; intro gg cap w2 hown1 hgrow hat hlt; have c1b : w2.cell? ⟨b1, 0, none⟩ = some v' := (hgrow.cell_far _ (by simp; omega) (Ne.symm far1)).trans (cell_new_ lt1 d1); have z1b : w2.frozen? ⟨b1, 0, none⟩ = false := (hgrow.frozen_far _ (by simp; omega) (Ne.symm far1)).trans (frz_new lt1 e1)))
              all_goals
                have hty : (Value.slice (some ⟨gg, 0, none⟩) (ws2.length + 1) cap).ownBlock ≠ some b1 := by
                  rcases hat with hat | hat
                  · exact fun e => far1 (hat.trans (show some gg = _ from e))
                  · simp only [Value.ownBlock]; intro e; injection e with e; omega
                have hst2 := Aside0.mk (H.out.grow ⟨a0.extract k (k + 1), line⟩ hown1 hgrow hty)
                clear hown1 hgrow hat hlt c1b z1b hty gw gt
                generalize w2.setCell ⟨b1, 0, none⟩ (Value.slice (some ⟨gg, 0, none⟩) (ws2.length + 1) cap) = w3 at hst2 ⊢
                generalize Value.slice (some ⟨gg, 0, none⟩) (ws2.length + 1) cap = v3 at hst2
                go_wp2
                go_roundw
                case rel => exact ⟨k + 1, m, line, -1, ws2 ++ [⟨a0.extract k (k + 1), line⟩], v3, by omega, by go_num, hst2, HT, by omega, by omega, by omega, by omega, by simp; omega⟩
                case measure => simp [intOf]; omega
          · rw [if_neg hC] at HT
            clear hend hendl
            have c3 : wr.cell? ⟨b3, 0, none⟩ = some (.int .i64 frm) := (blk_cell hst.out.frm 0).trans rfl
            have z3 : wr.frozen? ⟨b3, 0, none⟩ = false := blk_frozen hst.out.frm 0
            have hset := Aside0.mk (hst.out.setFrom (k : Int))
            have hc1 : ∀ h : k + 1 < a0.size, ((a0[k + 1]'h).toNat : Int) = bt a0 (k + 1 : Nat) := fun h => by simp [bt, h]
            generalize bt a0 (k + 1 : Nat) = c1 at *
            generalize bt a0 k = c at *
            have hc32 : (c == 32) = false := beq_eq_false_iff_ne.2 (fun e => hB (.inl e))
            have hc9 : (c == 9) = false := beq_eq_false_iff_ne.2 (fun e => hB (.inr (.inl e)))
            have hc10 : (c == 10) = false := beq_eq_false_iff_ne.2 (fun e => hB (.inr (.inr e)))
            have hc123 : (c == 123) = false := beq_eq_false_iff_ne.2 (fun e => hC (.inl e))
            have hc125 : (c == 125) = false := beq_eq_false_iff_ne.2 (fun e => hC (.inr (.inl e)))
            have hc59 : (c == 59) = false := beq_eq_false_iff_ne.2 (fun e => hC (.inr (.inr e)))
            clear hB hC
            by_cases hf : frm < 0
            · rw [if_pos hf] at HT
              by_cases h47 : c = 47
              · have q47 : (c == 47) = true := beq_iff_eq.2 h47
                by_cases hk1 : k + 1 < a0.size
                · have hn47 : (c1 == 47) = false := beq_eq_false_iff_ne.2 (fun e => hA ⟨h47, hk1, e⟩)
                  clear hA h47
                  go_wp2
                  go_roundw
                  case rel => exact ⟨k + 1, m, line, k, ws, v, by omega, by go_num, hset, HT, by omega, by omega, by omega, by omega, by omega⟩
                  case measure => simp [intOf]; omega
                · clear hA h47
                  go_wp2
                  go_roundw
                  case rel => exact ⟨k + 1, m, line, k, ws, v, by omega, by go_num, hset, HT, by omega, by omega, by omega, by omega, by omega⟩
                  case measure => simp [intOf]; omega
              · have q47 : (c == 47) = false := beq_eq_false_iff_ne.2 h47
                clear hA h47
                go_wp2
                go_roundw
                case rel => exact ⟨k + 1, m, line, k, ws, v, by omega, by go_num, hset, HT, by omega, by omega, by omega, by omega, by omega⟩
                case measure => simp [intOf]; omega
            · rw [if_neg hf] at HT
              clear hset
              by_cases h47 : c = 47
              · have q47 : (c == 47) = true := beq_iff_eq.2 h47
                by_cases hk1 : k + 1 < a0.size
                · have hn47 : (c1 == 47) = false := beq_eq_false_iff_ne.2 (fun e => hA ⟨h47, hk1, e⟩)
                  clear hA h47
                  go_wp2
                  go_roundw
                  case rel => exact ⟨k + 1, m, line, frm, ws, v, by omega, by go_num, hst, HT, by omega, by omega, by omega, by omega, by omega⟩
                  case measure => simp [intOf]; omega
                · clear hA h47
                  go_wp2
                  go_roundw
                  case rel => exact ⟨k + 1, m, line, frm, ws, v, by omega, by go_num, hst, HT, by omega, by omega, by omega, by omega, by omega⟩
                  case measure => simp [intOf]; omega
              · have q47 : (c == 47) = false := beq_eq_false_iff_ne.2 h47
                clear hA h47
                go_wp2
                go_roundw
                case rel => exact ⟨k + 1, m, line, frm, ws, v, by omega, by go_num, hst, HT, by omega, by omega, by omega, by omega, by omega⟩
                case measure => simp [intOf]; omega
    · obtain rfl : k = a0.size := by omega
      have HT : Aside0 (endW a0 a0.size line frm ws ++ [⟨⟨#[]⟩, line⟩] = wordsS a0) := ⟨by
        have := htk.out
        rw [tkF, if_neg hlt] at this
        exact this⟩
      clear htk
      have hend := Aside0.mk (words_end_any w wr b0 b1 b2 b3 a0 line frm a0.size ws v hst.out hfr (Nat.le_refl _) (by omega) (by omega))
      have hendl := endW_len a0 a0.size line frm ws
      generalize endW a0 a0.size line frm ws = ws2 at *
      go_wp2_with fail
      refine hend.out.mono ?_
      rintro e w' ⟨rfl, v', hst'⟩
      have H := Aside0.mk hst'
      have hown := Aside0.mk hst'.row
      have d1 : w'.cell? ⟨b1, 0, none⟩ = some v' := (blk_cell hst'.out 0).trans rfl
      have d2 : w'.cell? ⟨b2, 0, none⟩ = some (.int .i64 line) := (blk_cell hst'.line 0).trans rfl
      have lw : w.heap.size ≤ w'.heap.size := hst'.bel.size
      clear hst' hst hend
      go_wp2_with (at_builtin; refine wpList_append_lies _ rfl _ _ _ rfl w.heap.size 79 i0 _ 2 24 Tryd.underlying61 hi0 hz0 hz1 hz2 rfl (by omega) v' ws2.length (cellsW ws2) (by rfl) (hown.out.alloc _) ⟨w'.heap.size, 0, none⟩ 1 1 [.string ⟨#[]⟩, .int .i64 line] (by rfl) (by rfl) (World.news_of_block (cs := #[.string ⟨#[]⟩, .int .i64 line]) (t := 79) (fr := (0, 0)) (heap_alloc_new w' _)) (by simp [Value.oneCell']) (by omega) (by unfold maxLen; omega) (by omega) (by simp; omega) (w'.heap.size + 1) (by simp) ?_; intro gg cap w2 hown1 hgrow hat hlt)
      go_ret
      refine ⟨_, rfl, ?_, ?_, ?_⟩
      · rw [← HT.out, List.length_append, List.length_singleton, cellsW_snoc]
        exact hown1
      · exact (below_alloc H.out.bel _).grown hgrow (by simp; omega) (fun k hk => own_base H.out.row k hk)
      · rw [← HT.out, List.length_append, List.length_singleton]; omega
end Go.Proofs.YtcoaajkhfgakgaaDoor.Pr
end

section
namespace Go.Proofs.YtcoaajkhfgakgaaDoor.Pr
open Go.RowKit Go.Proofs.YtcoaajkhfgakgaaDoorW.PrintWords Go.Proofs.YtcoaajkhfgakgaaDoorW.PrintLast Go.Proofs.YtcoaajkhfgakgaaDoorW.PrintMore
set_option linter.unusedVariables false
set_option linter.unusedSimpArgs false
theorem endW_small (s : ByteArray) (i : Nat) (line frm : Int) (ws : List Wd) (h : ∀ x ∈ ws, x.s.size ≤ s.size) : ∀ x ∈ endW s i line frm ws, x.s.size ≤ s.size := by
  intro x hx
  unfold endW at hx
  split at hx
  · rcases List.mem_append.1 hx with hx | hx
    · exact h x hx
    · rw [List.mem_singleton.1 hx]
      simp only [ByteArray.size_extract]
      omega
  · exact h x hx
theorem stepW_small (s : ByteArray) (k : Nat) (line frm : Int) (ws : List Wd) (h : ∀ x ∈ ws, x.s.size ≤ s.size) : ∀ x ∈ (stepW s k line frm ws).2.2.2, x.s.size ≤ s.size := by
  intro x hx
  unfold stepW at hx
  split at hx
  · exact endW_small s k line frm ws h x hx
  · split at hx
    · exact endW_small s k line frm ws h x hx
    · split at hx
      · rcases List.mem_append.1 hx with hx | hx
        · exact endW_small s k line frm ws h x hx
        · rw [List.mem_singleton.1 hx]
          simp only [ByteArray.size_extract]
          omega
      · exact h x hx
theorem tkF_small (s : ByteArray) : ∀ (n k : Nat) (line frm : Int) (ws : List Wd), (∀ x ∈ ws, x.s.size ≤ s.size) → ∀ x ∈ tkF s n k line frm ws, x.s.size ≤ s.size
  | 0, k, line, frm, ws, h => h
  | n + 1, k, line, frm, ws, h => by
    unfold tkF
    split
    · exact tkF_small s n _ _ _ _ (stepW_small s k line frm ws h)
    · intro x hx
      rcases List.mem_append.1 hx with hx | hx
      · exact endW_small s _ line frm ws h x hx
      · rw [List.mem_singleton.1 hx]
        exact Nat.zero_le _
theorem words_small (s : ByteArray) : ∀ x ∈ wordsS s, x.s.size ≤ s.size := tkF_small s _ _ _ _ _ (by simp)
theorem stepW_at (s : ByteArray) (k : Nat) (line frm : Int) (ws : List Wd) (h : k < s.size) : k + 1 ≤ (stepW s k line frm ws).1 ∧ (stepW s k line frm ws).1 ≤ s.size := by
  have := skipC_le s s.size k h
  unfold stepW
  split
  · simp only; omega
  · split
    · simp only; omega
    · split <;> (simp only; omega)
theorem tkF_pos (s : ByteArray) : ∀ (n k : Nat) (line frm : Int) (ws : List Wd), k ≤ s.size → s.size - k < n → 0 < (tkF s n k line frm ws).length
  | 0, k, line, frm, ws, _, h => by omega
  | n + 1, k, line, frm, ws, hk, h => by
    unfold tkF
    split
    · rename_i hlt
      have := stepW_at s k line frm ws hlt
      exact tkF_pos s n _ _ _ _ this.2 (by omega)
    · simp
theorem words_pos (s : ByteArray) : 0 < (wordsS s).length := tkF_pos s _ _ _ _ _ (Nat.zero_le _) (by omega)
theorem cellsW_cons (x : Wd) (ws : List Wd) : cellsW (x :: ws) = .string x.s :: .int .i64 x.line :: cellsW ws := by simp [cellsW]
theorem cellsW_at : ∀ (ws : List Wd) (j : Nat) (p : Wd), ws[j]? = some p → ((cellsW ws).drop (j * 2)).take 2 = [.string p.s, .int .i64 p.line]
  | [], j, p, h => by simp at h
  | x :: r, 0, p, h => by
    simp only [List.getElem?_cons_zero, Option.some.injEq] at h
    subst h
    rw [cellsW_cons]
    rfl
  | x :: r, j + 1, p, h => by
    rw [List.getElem?_cons_succ] at h
    rw [cellsW_cons, show (j + 1) * 2 = j * 2 + 1 + 1 from by omega, List.drop_succ_cons, List.drop_succ_cons]
    exact cellsW_at r j p h
theorem cellsW_len : ∀ ws : List Wd, (cellsW ws).length = ws.length * 2
  | [] => rfl
  | x :: r => by rw [cellsW_cons, List.length_cons, List.length_cons, cellsW_len r, List.length_cons]; omega
theorem reps_words (ws : List Wd) : Reps (fun (x : Wd) cs => cs = [.string x.s, .int .i64 x.line]) 2 ws (cellsW ws) := ⟨cellsW_len ws, cellsW_at ws⟩
def sitesF : Nat → St → List S29 → Option (St × List S29)
  | 0, _, _ => none
  | f + 1, st, sites => if st.code = 0 ∧ 1 < st.l.length then (siteF f st sites).bind fun r => sitesF f r.1 r.2 else some (st, sites)
def conf_Read.f (a0 : ByteArray) : Option ((List (S29)) × Int × Int) :=
  if 4096 < a0.size then some ([], 32, 1)
  else (sitesF (8 * a0.size + 64) ⟨wordsS a0, 0, 0⟩ []).map fun r => if r.1.code = 0 ∧ r.1.line = 0 then (r.2, 0, 0) else ([], r.1.code, r.1.line)
end Go.Proofs.YtcoaajkhfgakgaaDoor.Pr
end

section
namespace Go.Proofs.YtcoaajkhfgakgaaDoor.Pr
open Go.RowKit Go.Proofs.YtcoaajkhfgakgaaDoorW.PrintWords Go.Proofs.YtcoaajkhfgakgaaDoorW.PrintLast Go.Proofs.YtcoaajkhfgakgaaDoorW.PrintMore
set_option linter.unusedVariables false
set_option linter.unusedSimpArgs false
def EndE : List Wd → Prop
  | [] => False
  | [x] => x.s = ⟨#[]⟩
  | _ :: y :: r => EndE (y :: r)
theorem EndE.tail {l : List Wd} (h : EndE l) (h1 : 1 < l.length) : EndE l.tail := by
  match l, h, h1 with
  | _ :: y :: r, h, _ => exact h
theorem EndE.pos {l : List Wd} (h : EndE l) : 0 < l.length := by
  match l, h with
  | _ :: _, _ => simp
theorem EndE.one {l : List Wd} (h : EndE l) (h1 : (hdW l).s ≠ ⟨#[]⟩) : 1 < l.length := by
  match l, h, h1 with
  | [x], h, h1 => exact absurd h h1
  | _ :: y :: r, h, _ => simp
theorem endE_snoc : ∀ (l : List Wd) (x : Wd), x.s = ⟨#[]⟩ → EndE (l ++ [x])
  | [], x, h => h
  | [y], x, h => h
  | _ :: y :: r, x, h => endE_snoc (y :: r) x h
def mu (st : St) : Nat := if st.code = 0 then st.l.length else 0
theorem take_end {st : St} (h : EndE st.l) : EndE (takeS st).l := by
  unfold takeS
  split
  · rename_i hc; exact h.tail hc.2
  · exact h
theorem must_end {st : St} (h : EndE st.l) (s : ByteArray) : EndE (mustS st s).l := by
  unfold mustS
  apply take_end
  split
  · exact h
  · rwa [failS_l]
theorem mu_take_le (st : St) : mu (takeS st) ≤ mu st := by
  unfold takeS
  split
  · rename_i hc
    simp only [mu, hc.1, if_true, List.length_tail]
    omega
  · exact Nat.le_refl _
theorem code_take (st : St) : (takeS st).code = st.code := by unfold takeS; split <;> rfl
theorem code_fail {st : St} {e : Int} (he : e ≠ 0) : (failS st e).code ≠ 0 := by
  unfold failS
  split
  · exact he
  · assumption
theorem mu_bad {st : St} (h : st.code ≠ 0) : mu st = 0 := by unfold mu; rw [if_neg h]
theorem mu_fail (st : St) {e : Int} (he : e ≠ 0) : mu (failS st e) = 0 := mu_bad (code_fail he)
theorem mu_pos {st : St} (h : EndE st.l) (hc : st.code = 0) : 0 < mu st := by
  unfold mu
  rw [if_pos hc]
  exact h.pos
theorem next_bad {st : St} (h : st.code ≠ 0) : nextS st = ⟨#[]⟩ := by unfold nextS; rw [if_neg h]
theorem mu_take_lt {st : St} (h : EndE st.l) (hn : nextS st ≠ ⟨#[]⟩) : mu (takeS st) < mu st := by
  by_cases hc : st.code = 0
  · have h1 : (hdW st.l).s ≠ ⟨#[]⟩ := by unfold nextS at hn; rwa [if_pos hc] at hn
    have h2 := h.one h1
    unfold takeS
    rw [if_pos ⟨hc, h2⟩]
    simp only [mu, hc, if_true, List.length_tail]
    omega
  · exact absurd (next_bad hc) hn
theorem mu_must_le (st : St) (s : ByteArray) : mu (mustS st s) ≤ mu st := by
  unfold mustS
  refine Nat.le_trans (mu_take_le _) ?_
  split
  · exact Nat.le_refl _
  · rw [mu_fail _ (by decide)]; exact Nat.zero_le _
theorem mu_must_lt {st : St} (h : EndE st.l) (hc : st.code = 0) {s : ByteArray} (hs : s ≠ ⟨#[]⟩) : mu (mustS st s) < mu st := by
  unfold mustS
  split
  · rename_i he
    exact mu_take_lt h (by rw [he]; exact hs)
  · have := mu_take_le (failS st 30)
    rw [mu_fail _ (by decide)] at this
    have := mu_pos h hc
    omega
theorem number_end {st : St} (h : EndE st.l) (lo hi : Int) : EndE (numberS st lo hi).l := by
  unfold numberS
  apply take_end
  split
  · exact h
  · rwa [failS_l]
theorem mu_number_le (st : St) (lo hi : Int) : mu (numberS st lo hi) ≤ mu st := by
  unfold numberS
  refine Nat.le_trans (mu_take_le _) ?_
  split
  · exact Nat.le_refl _
  · rename_i hne
    rw [mu_fail _ hne]; exact Nat.zero_le _
theorem name_end {st : St} (h : EndE st.l) (seen : List ByteArray) : EndE (nameS st seen).l := by
  unfold nameS
  apply take_end
  split
  · rw [failS_l]; split
    · exact h
    · rwa [failS_l]
  · split
    · exact h
    · rwa [failS_l]
theorem mu_name_lt {st : St} (h : EndE st.l) (hc : st.code = 0) (seen : List ByteArray) : mu (nameS st seen) < mu st := by
  have hp := mu_pos h hc
  unfold nameS
  split
  · have := mu_take_le (failS (if nextS st = sOrigin ∨ nextS st = sTtl ∨ nextS st = sKey ∨ nextS st = sKeep then st else failS st 30) 31)
    rw [mu_fail _ (by decide)] at this
    omega
  · split
    · rename_i hn
      refine mu_take_lt h ?_
      rcases hn with hn | hn | hn | hn <;> (rw [hn]; decide)
    · have := mu_take_le (failS st 30)
      rw [mu_fail _ (by decide)] at this
      omega
theorem keep_end {st : St} (h : EndE st.l) : EndE (keepS st).l := by
  unfold keepS
  apply take_end
  split
  · exact h
  · rwa [failS_l]
theorem mu_keep_le (st : St) : mu (keepS st) ≤ mu st := by
  unfold keepS
  refine Nat.le_trans (mu_take_le _) ?_
  split
  · exact Nat.le_refl _
  · rw [mu_fail _ (by decide)]; exact Nat.zero_le _
theorem keyF_some : ∀ (f : Nat) (st : St) (q : Bool) (hs : List ByteArray), EndE st.l → mu st < f → ∃ r, keyF f st q hs = some r ∧ EndE r.1.l ∧ mu r.1 ≤ mu st
  | 0, _, _, _, _, h => by omega
  | f + 1, st, q, hs, he, hm => by
    unfold keyF
    by_cases hc : st.code = 0
    · rw [if_pos hc]
      have hp := mu_pos he hc
      by_cases h1 : nextS st = ⟨#[59]⟩
      · rw [if_pos h1]; exact ⟨_, rfl, he, Nat.le_refl _⟩
      · rw [if_neg h1]
        by_cases h2 : nextS st = ⟨#[113, 117, 101, 114, 121]⟩ ∧ q = false
        · rw [if_pos h2]
          have hlt := mu_take_lt he (show nextS st ≠ ⟨#[]⟩ by rw [h2.1]; decide)
          obtain ⟨r, h3, h4, h5⟩ := keyF_some f (takeS st) true hs (take_end he) (by omega)
          exact ⟨r, h3, h4, by omega⟩
        · rw [if_neg h2]
          have hlt := mu_must_lt (s := ⟨#[104, 101, 97, 100, 101, 114]⟩) he hc (by decide)
          have he1 := must_end he ⟨#[104, 101, 97, 100, 101, 114]⟩
          generalize mustS st ⟨#[104, 101, 97, 100, 101, 114]⟩ = s1 at hlt he1 ⊢
          have go : ∀ (s2 : St) q hs, EndE s2.l → mu s2 ≤ mu s1 → ∃ r, keyF f s2 q hs = some r ∧ EndE r.1.l ∧ mu r.1 ≤ mu st := fun s2 q hs h3 h4 => by
            obtain ⟨r, h5, h6, h7⟩ := keyF_some f s2 q hs h3 (by omega)
            exact ⟨r, h5, h6, by omega⟩
          have hf : ∀ e : Int, e ≠ 0 → mu (takeS (failS s1 e)) ≤ mu s1 := fun e h => by
            have := mu_take_le (failS s1 e)
            rw [mu_fail _ h] at this
            omega
          have hfe : ∀ e : Int, EndE (takeS (failS s1 e)).l := fun e => take_end (by rwa [failS_l])
          split
          · split
            · split
              · exact go _ _ _ (hfe _) (hf _ (by decide))
              · exact go _ _ _ (take_end he1) (mu_take_le _)
            · exact go _ _ _ (hfe _) (hf _ (by decide))
          · exact go _ _ _ (take_end he1) (mu_take_le _)
    · rw [if_neg hc]; exact ⟨_, rfl, he, Nat.le_refl _⟩
theorem bodyF_some (k : Nat) (name : ByteArray) (st : St) (s : Sv) (he : EndE st.l) (hm : mu st < k) : ∃ r, bodyF k name st s = some r ∧ EndE r.1.l ∧ mu r.1 ≤ mu st := by
  unfold bodyF
  split
  · exact ⟨_, rfl, number_end he _ _, mu_number_le _ _ _⟩
  · split
    · exact ⟨_, rfl, number_end (number_end he _ _) _ _, Nat.le_trans (mu_number_le _ _ _) (mu_number_le _ _ _)⟩
    · split
      · have h1 := mu_must_le st ⟨#[112, 97, 116, 104]⟩
        obtain ⟨r, h2, h3, h4⟩ := keyF_some k _ false [] (must_end he ⟨#[112, 97, 116, 104]⟩) (by omega)
        rw [h2]
        exact ⟨_, rfl, h3, by simp only; omega⟩
      · split
        · exact ⟨_, rfl, keep_end he, mu_keep_le _⟩
        · exact ⟨_, rfl, he, Nat.le_refl _⟩
theorem ruleF_some (k : Nat) (st : St) (s : Sv) (seen : List ByteArray) (he : EndE st.l) (hc : st.code = 0) (hm : mu st ≤ k) : ∃ r, ruleF k st s seen = some r ∧ EndE r.1.l ∧ mu r.1 < mu st := by
  unfold ruleF
  have h1 := mu_name_lt he hc seen
  obtain ⟨r, h2, h3, h4⟩ := bodyF_some k (nextS st) (nameS st seen) s (name_end he seen) (by omega)
  rw [h2]
  refine ⟨_, rfl, must_end h3 _, ?_⟩
  have := mu_must_le r.1 ⟨#[59]⟩
  simp only
  omega
theorem rulesF_some : ∀ (f : Nat) (st : St) (s : Sv) (seen : List ByteArray), EndE st.l → mu st < f → ∃ r, rulesF f st s seen = some r ∧ EndE r.1.l ∧ mu r.1 ≤ mu st
  | 0, _, _, _, _, h => by omega
  | f + 1, st, s, seen, he, hm => by
    unfold rulesF
    by_cases hc : st.code = 0
    · rw [if_pos hc]
      split
      · exact ⟨_, rfl, he, Nat.le_refl _⟩
      · obtain ⟨r, h1, h2, h3⟩ := ruleF_some f st s seen he hc (by omega)
        rw [h1, Option.bind_some]
        obtain ⟨r', h4, h5, h6⟩ := rulesF_some f r.1 r.2.1 r.2.2 h2 (by omega)
        exact ⟨r', h4, h5, by omega⟩
    · rw [if_neg hc]; exact ⟨_, rfl, he, Nat.le_refl _⟩
theorem head_end {st : St} (he : EndE st.l) (sites : List S29) : EndE (headS st sites).l := by
  unfold headS
  apply must_end
  split
  · rwa [failS_l]
  · exact he
theorem mu_head_lt {st : St} (he : EndE st.l) (hc : st.code = 0) (sites : List S29) : mu (headS st sites) < mu st := by
  unfold headS
  split
  · have := mu_must_le (failS st 32) ⟨#[115, 105, 116, 101]⟩
    rw [mu_fail _ (by decide)] at this
    have := mu_pos he hc
    omega
  · exact mu_must_lt he hc (by decide)
theorem host_end {st : St} (he : EndE st.l) (sites : List S29) : EndE (hostS st sites).l := by
  unfold hostS
  split <;> split <;> first | (simp only [failS_l]; exact he) | exact he
theorem mu_host_le (st : St) (sites : List S29) : mu (hostS st sites) ≤ mu st := by
  unfold hostS
  split
  · rw [mu_fail _ (by decide)]; exact Nat.zero_le _
  · split
    · rw [mu_fail _ (by decide)]; exact Nat.zero_le _
    · exact Nat.le_refl _
theorem siteF_some (k : Nat) (st : St) (sites : List S29) (he : EndE st.l) (hc : st.code = 0) (hm : mu st ≤ k) : ∃ r s, siteF k st sites = some (r, sites ++ [s]) ∧ EndE r.l ∧ mu r < mu st := by
  unfold siteF
  have h1 := mu_head_lt he hc sites
  have h2 := mu_host_le (headS st sites) sites
  have h3 := mu_take_le (hostS (headS st sites) sites)
  have h4 := mu_must_le (takeS (hostS (headS st sites) sites)) ⟨#[123]⟩
  obtain ⟨r, h5, h6, h7⟩ := rulesF_some k _ ⟨nextS (headS st sites), 1, 0, 3600, true, true, []⟩ [] (must_end (take_end (host_end (head_end he sites) sites)) ⟨#[123]⟩) (by omega)
  rw [h5]
  refine ⟨_, _, rfl, must_end h6 _, ?_⟩
  have := mu_must_le r.1 ⟨#[125]⟩
  omega
theorem sitesF_some : ∀ (f : Nat) (st : St) (sites : List S29), EndE st.l → mu st < f → ∃ r, sitesF f st sites = some r
  | 0, _, _, _, h => by omega
  | f + 1, st, sites, he, hm => by
    unfold sitesF
    split
    · rename_i hc
      obtain ⟨r, s, h1, h2, h3⟩ := siteF_some f st sites he hc.1 (by omega)
      rw [h1, Option.bind_some]
      exact sitesF_some f r _ h2 (by omega)
    · exact ⟨_, rfl⟩
theorem keyF_mono : ∀ (f : Nat) (st : St) (q : Bool) (hs : List ByteArray) (r : St × Bool × List ByteArray), keyF f st q hs = some r → keyF (f + 1) st q hs = some r
  | 0, _, _, _, _, h => by cases h
  | f + 1, st, q, hs, r, h => by
    unfold keyF at h ⊢
    split at h
    · rename_i hc
      rw [if_pos hc]
      split at h
      · rename_i h1; rw [if_pos h1]; exact h
      · rename_i h1
        rw [if_neg h1]
        split at h
        · rename_i h2; rw [if_pos h2]; exact keyF_mono f _ _ _ r h
        · rename_i h2
          rw [if_neg h2]
          split at h
          · rename_i h3
            rw [if_pos h3]
            split at h
            · rename_i h4
              rw [if_pos h4]
              split at h
              · rename_i h5; rw [if_pos h5]; exact keyF_mono f _ _ _ r h
              · rename_i h5; rw [if_neg h5]; exact keyF_mono f _ _ _ r h
            · rename_i h4; rw [if_neg h4]; exact keyF_mono f _ _ _ r h
          · rename_i h3; rw [if_neg h3]; exact keyF_mono f _ _ _ r h
    · rename_i hc; rw [if_neg hc]; exact h
theorem bodyF_mono {f : Nat} {name : ByteArray} {st : St} {s : Sv} {r : St × Sv} (h : bodyF f name st s = some r) : bodyF (f + 1) name st s = some r := by
  unfold bodyF at h ⊢
  split
  · rename_i h1; rwa [if_pos h1] at h
  · rename_i h1
    rw [if_neg h1] at h
    split
    · rename_i h2; rwa [if_pos h2] at h
    · rename_i h2
      rw [if_neg h2] at h
      split
      · rename_i h3
        rw [if_pos h3] at h
        cases hk : keyF f (mustS st ⟨#[112, 97, 116, 104]⟩) false [] with
        | none => rw [hk] at h; cases h
        | some z => rw [hk] at h; rw [keyF_mono _ _ _ _ _ hk]; exact h
      · rename_i h3; rwa [if_neg h3] at h
theorem ruleF_mono {f : Nat} {st : St} {s : Sv} {seen : List ByteArray} {r : St × Sv × List ByteArray} (h : ruleF f st s seen = some r) : ruleF (f + 1) st s seen = some r := by
  unfold ruleF at h ⊢
  cases hk : bodyF f (nextS st) (nameS st seen) s with
  | none => rw [hk] at h; cases h
  | some z => rw [hk] at h; rw [bodyF_mono hk]; exact h
theorem rulesF_mono : ∀ (f : Nat) (st : St) (s : Sv) (seen : List ByteArray) (r : St × Sv), rulesF f st s seen = some r → rulesF (f + 1) st s seen = some r
  | 0, _, _, _, _, h => by cases h
  | f + 1, st, s, seen, r, h => by
    unfold rulesF at h ⊢
    split at h
    · rename_i hc
      rw [if_pos hc]
      split at h
      · rename_i h1; rw [if_pos h1]; exact h
      · rename_i h1
        rw [if_neg h1]
        cases hk : ruleF f st s seen with
        | none => rw [hk] at h; cases h
        | some z =>
          rw [hk, Option.bind_some] at h
          rw [ruleF_mono hk, Option.bind_some]
          exact rulesF_mono f _ _ _ _ h
    · rename_i hc; rw [if_neg hc]; exact h
theorem siteF_mono {f : Nat} {st : St} {sites : List S29} {r : St × List S29} (h : siteF f st sites = some r) : siteF (f + 1) st sites = some r := by
  unfold siteF at h ⊢
  cases hk : rulesF f (mustS (takeS (hostS (headS st sites) sites)) ⟨#[123]⟩) ⟨nextS (headS st sites), 1, 0, 3600, true, true, []⟩ [] with
  | none => rw [hk] at h; cases h
  | some z => rw [hk] at h; rw [rulesF_mono _ _ _ _ _ hk]; exact h
theorem sitesF_mono : ∀ (f : Nat) (st : St) (sites : List S29) (r : St × List S29), sitesF f st sites = some r → sitesF (f + 1) st sites = some r
  | 0, _, _, _, h => by cases h
  | f + 1, st, sites, r, h => by
    unfold sitesF at h ⊢
    split at h
    · rename_i hc
      rw [if_pos hc]
      cases hk : siteF f st sites with
      | none => rw [hk] at h; cases h
      | some z =>
        rw [hk, Option.bind_some] at h
        rw [siteF_mono hk, Option.bind_some]
        exact sitesF_mono f _ _ _ h
    · rename_i hc; rw [if_neg hc]; exact h
theorem sitesF_le {f g : Nat} (hle : f ≤ g) {st : St} {sites : List S29} {r : St × List S29} (h : sitesF f st sites = some r) : sitesF g st sites = some r := by
  obtain ⟨d, rfl⟩ := Nat.exists_eq_add_of_le hle
  clear hle
  induction d with
  | zero => exact h
  | succ d ih => exact sitesF_mono _ _ _ _ ih
theorem endW_count (s : ByteArray) (i : Nat) (line frm : Int) (ws : List Wd) : (endW s i line frm ws).length ≤ ws.length + 1 := by
  unfold endW; split <;> simp
theorem stepW_count (s : ByteArray) (k : Nat) (line frm : Int) (ws : List Wd) : (stepW s k line frm ws).2.2.2.length ≤ ws.length + 2 ∧ k < (stepW s k line frm ws).1 := by
  have h0 := endW_count s k line frm ws
  have h1 : k ≤ skipC s s.size k := by
    have : ∀ n k, k ≤ skipC s n k := fun n => by
      induction n with
      | zero => intro k; exact Nat.le_refl _
      | succ n ih =>
        intro k
        unfold skipC
        split
        · have := ih (k + 1); omega
        · exact Nat.le_refl _
    exact this _ _
  unfold stepW
  split
  · simp only; omega
  · split
    · simp only; omega
    · split <;> simp <;> omega
theorem tkF_end (s : ByteArray) : ∀ (n k : Nat) (line frm : Int) (ws : List Wd), k ≤ s.size → s.size - k < n → EndE (tkF s n k line frm ws) ∧ (tkF s n k line frm ws).length ≤ ws.length + 2 * (s.size - k) + 2
  | 0, k, line, frm, ws, _, h => by omega
  | n + 1, k, line, frm, ws, hk, h => by
    unfold tkF
    split
    · rename_i hlt
      have h1 := stepW_at s k line frm ws hlt
      have h2 := stepW_count s k line frm ws
      obtain ⟨h3, h4⟩ := tkF_end s n _ (stepW s k line frm ws).2.1 (stepW s k line frm ws).2.2.1 (stepW s k line frm ws).2.2.2 h1.2 (by omega)
      exact ⟨h3, by omega⟩
    · have := endW_count s s.size line frm ws
      refine ⟨endE_snoc _ _ rfl, ?_⟩
      simp only [List.length_append, List.length_singleton]
      omega
theorem words_end_e (s : ByteArray) : EndE (wordsS s) ∧ (wordsS s).length ≤ 2 * s.size + 2 := by
  obtain ⟨h1, h2⟩ := tkF_end s (s.size + 1) 0 1 (-1) [] (Nat.zero_le _) (by omega)
  refine ⟨h1, ?_⟩
  simpa [wordsS] using h2
theorem sites_of (s : ByteArray) : ∃ r, ∀ f, 2 * s.size + 3 ≤ f → sitesF f ⟨wordsS s, 0, 0⟩ [] = some r := by
  obtain ⟨h1, h2⟩ := words_end_e s
  obtain ⟨r, hr⟩ := sitesF_some (2 * s.size + 3) ⟨wordsS s, 0, 0⟩ [] h1 (by simp only [mu, if_true]; omega)
  exact ⟨r, fun f hf => sitesF_le hf hr⟩
end Go.Proofs.YtcoaajkhfgakgaaDoor.Pr
end

section
namespace Go.Proofs.YtcoaajkhfgakgaaDoor.Pr
open Go.RowKit Go.Proofs.YtcoaajkhfgakgaaDoorW.PrintWords Go.Proofs.YtcoaajkhfgakgaaDoorW.PrintLast Go.Proofs.YtcoaajkhfgakgaaDoorW.PrintMore
set_option linter.unusedVariables false
set_option linter.unusedSimpArgs false
theorem numberC_nil (lo hi : Int) : numberC ⟨#[]⟩ lo hi ≠ 0 := by
  have h : (match Lib.atoiAll (⟨#[]⟩ : ByteArray).data.toList with | .ok _ => false | _ => true) = true := by kernel_rfl
  unfold numberC
  split
  · rename_i m hm
    rw [hm] at h
    cases h
  · decide
theorem headB_nil : headB ⟨#[]⟩ = false := by kernel_rfl
theorem hostV_nil : (hostV ⟨#[]⟩).2 = 25 := by kernel_rfl
theorem must_ok {st : St} {s : ByteArray} (h : (mustS st s).code = 0) : st.code = 0 ∧ nextS st = s ∧ mustS st s = takeS st := by
  unfold mustS at h ⊢
  rw [code_take] at h
  split at h
  · rename_i he
    exact ⟨h, he, by rw [if_pos he]⟩
  · exact absurd h (code_fail (by decide))
theorem number_ok {st : St} {lo hi : Int} (h : (numberS st lo hi).code = 0) : st.code = 0 ∧ numberC (nextS st) lo hi = 0 ∧ numberS st lo hi = takeS st := by
  unfold numberS at h ⊢
  rw [code_take] at h
  split at h
  · rename_i he
    exact ⟨h, he, by rw [if_pos he]⟩
  · rename_i he
    exact absurd h (code_fail he)
theorem name_ok {st : St} {seen : List ByteArray} (h : (nameS st seen).code = 0) : st.code = 0 ∧ (nextS st = sOrigin ∨ nextS st = sTtl ∨ nextS st = sKey ∨ nextS st = sKeep) ∧ inB (nextS st) seen = false ∧ nameS st seen = takeS st := by
  unfold nameS at h ⊢
  rw [code_take] at h
  split at h
  · exact absurd h (code_fail (by decide))
  · rename_i h1
    split at h
    · rename_i h2
      rw [if_neg h1, if_pos h2]
      exact ⟨h, h2, by simpa using h1, rfl⟩
    · exact absurd h (code_fail (by decide))
theorem keep_ok {st : St} (h : (keepS st).code = 0) : st.code = 0 ∧ (nextS st = ⟨#[111, 110]⟩ ∨ nextS st = ⟨#[111, 102, 102]⟩) ∧ keepS st = takeS st := by
  unfold keepS at h ⊢
  rw [code_take] at h
  split at h
  · rename_i he
    exact ⟨h, he, by rw [if_pos he]⟩
  · exact absurd h (code_fail (by decide))
theorem head_ok {st : St} {sites : List S29} (h : (headS st sites).code = 0) : st.code = 0 ∧ nextS st = ⟨#[115, 105, 116, 101]⟩ ∧ sites.length ≠ 8 ∧ headS st sites = takeS st := by
  unfold headS at h ⊢
  by_cases h1 : nextS st = ⟨#[115, 105, 116, 101]⟩ ∧ sites.length = 8
  · rw [if_pos h1] at h
    exact absurd (must_ok h).1 (code_fail (by decide))
  · rw [if_neg h1] at h ⊢
    obtain ⟨h2, h3, h4⟩ := must_ok h
    exact ⟨h2, h3, fun e => h1 ⟨h3, e⟩, h4⟩
theorem host_ok {st : St} {sites : List S29} (h : (hostS st sites).code = 0) : st.code = 0 ∧ (findS (nextS st) sites).2 = false ∧ ((hostV (nextS st)).2 = 0 ∧ (hostV (nextS st)).1 = nextS st) ∧ hostS st sites = st := by
  unfold hostS at h ⊢
  split at h
  · exact absurd h (code_fail (by decide))
  · rename_i h1
    rw [if_neg h1]
    split at h
    · exact absurd h (code_fail (by decide))
    · rename_i h2
      rw [if_neg h2]
      exact ⟨h, by simpa using h1, Decidable.not_not.1 (fun z => h2 ⟨h, z⟩), rfl⟩
theorem key_ok {f : Nat} {st : St} {q : Bool} {hs : List ByteArray} {r : St × Bool × List ByteArray} (h : keyF f st q hs = some r) (hr : r.1.code = 0) : st.code = 0 := by
  cases f with
  | zero => cases h
  | succ f =>
    unfold keyF at h
    by_cases hc : st.code = 0
    · exact hc
    · rw [if_neg hc] at h
      injection h with h
      subst h
      exact hr
theorem body_ok {f : Nat} {name : ByteArray} {st : St} {s : Sv} {r : St × Sv} (h : bodyF f name st s = some r) (hr : r.1.code = 0) : st.code = 0 := by
  unfold bodyF at h
  split at h
  · injection h with h; subst h; exact (number_ok hr).1
  · split at h
    · injection h with h; subst h; exact (number_ok (number_ok hr).1).1
    · split at h
      · cases hk : keyF f (mustS st ⟨#[112, 97, 116, 104]⟩) false [] with
        | none => rw [hk] at h; cases h
        | some z =>
          rw [hk] at h
          injection h with h; subst h
          exact (must_ok (key_ok hk hr)).1
      · split at h
        · injection h with h; subst h; exact (keep_ok hr).1
        · injection h with h; subst h; exact hr
theorem rules_ok {f : Nat} {st : St} {s : Sv} {seen : List ByteArray} {r : St × Sv} (h : rulesF f st s seen = some r) (hr : r.1.code = 0) : st.code = 0 := by
  cases f with
  | zero => cases h
  | succ f =>
    unfold rulesF at h
    by_cases hc : st.code = 0
    · exact hc
    · rw [if_neg hc] at h
      injection h with h
      subst h
      exact hr
theorem sites_ok {f : Nat} {st : St} {sites : List S29} {r : St × List S29} (h : sitesF f st sites = some r) (hr : r.1.code = 0) : st.code = 0 := by
  cases f with
  | zero => cases h
  | succ f =>
    unfold sitesF at h
    by_cases hc : st.code = 0 ∧ 1 < st.l.length
    · exact hc.1
    · rw [if_neg hc] at h
      injection h with h
      subst h
      exact hr
theorem site_ok {f : Nat} {st : St} {sites : List S29} {r : St × List S29} (h : siteF f st sites = some r) (hr : r.1.code = 0) :
    ∃ z, rulesF f (mustS (takeS (takeS st)) ⟨#[123]⟩) ⟨nextS (takeS st), 1, 0, 3600, true, true, []⟩ [] = some z ∧ z.1.code = 0 ∧ r = (mustS z.1 ⟨#[125]⟩, sites ++ [mkSite z.2]) ∧ st.code = 0 ∧ nextS st = ⟨#[115, 105, 116, 101]⟩ ∧ sites.length ≠ 8 ∧
      headS st sites = takeS st ∧ hostS (takeS st) sites = takeS st ∧ (findS (nextS (takeS st)) sites).2 = false ∧ ((hostV (nextS (takeS st))).2 = 0 ∧ (hostV (nextS (takeS st))).1 = nextS (takeS st)) ∧ nextS (takeS (takeS st)) = ⟨#[123]⟩ ∧ mustS (takeS (takeS st)) ⟨#[123]⟩ = takeS (takeS (takeS st)) ∧ nextS z.1 = ⟨#[125]⟩ ∧ mustS z.1 ⟨#[125]⟩ = takeS z.1 := by
  unfold siteF at h
  cases hk : rulesF f (mustS (takeS (hostS (headS st sites) sites)) ⟨#[123]⟩) ⟨nextS (headS st sites), 1, 0, 3600, true, true, []⟩ [] with
  | none => rw [hk] at h; cases h
  | some z =>
    rw [hk] at h
    injection h with h
    subst h
    obtain ⟨h1, h2, h3⟩ := must_ok hr
    obtain ⟨h4, h5, h6⟩ := must_ok (rules_ok hk h1)
    rw [code_take] at h4
    obtain ⟨h7, h8, h9, h10⟩ := host_ok h4
    obtain ⟨h11, h12, h13, h14⟩ := head_ok h7
    rw [h14] at h10 h8 h9 h5 h6 hk
    rw [h10] at h5 h6 hk
    exact ⟨z, hk, h1, rfl, h11, h12, h13, h14, h10, h8, h9, h5, h6, h2, h3⟩
theorem rulesF_host : ∀ (f : Nat) (st : St) (s : Sv) (seen : List ByteArray) (r : St × Sv), rulesF f st s seen = some r → r.2.host = s.host
  | 0, _, _, _, _, h => by cases h
  | f + 1, st, s, seen, r, h => by
    unfold rulesF at h
    split at h
    · split at h
      · injection h with h; subst h; rfl
      · cases hk : ruleF f st s seen with
        | none => rw [hk] at h; cases h
        | some z =>
          rw [hk, Option.bind_some] at h
          rw [rulesF_host f _ _ _ _ h]
          unfold ruleF bodyF at hk
          split at hk
          · injection hk with hk; subst hk; rfl
          · split at hk
            · injection hk with hk; subst hk; rfl
            · split at hk
              · cases h3 : keyF f (mustS (nameS st seen) ⟨#[112, 97, 116, 104]⟩) false [] with
                | none => rw [h3] at hk; cases hk
                | some y => rw [h3] at hk; injection hk with hk; subst hk; rfl
              · split at hk
                · injection hk with hk; subst hk; rfl
                · injection hk with hk; subst hk; rfl
    · injection h with h; subst h; rfl
end Go.Proofs.YtcoaajkhfgakgaaDoor.Pr
end

section
namespace Go.Proofs.YtcoaajkhfgakgaaDoor.Pr
open Go.RowKit Go.Proofs.YtcoaajkhfgakgaaDoorW.PrintWords Go.Proofs.YtcoaajkhfgakgaaDoorW.PrintLast Go.Proofs.YtcoaajkhfgakgaaDoorW.PrintMore
attribute [local go_sem] max2_int min2_int max_two min_two max_three min_three max_four min_four   -- for this text's walks alone
set_option linter.unusedVariables false
set_option linter.unusedSimpArgs false
mutual
def pantrymade_SmallSites.l0 : Nat → List (S29) → Int → Int → List (S29) → Option (Bool)
  | 0, _, _, _, _ => none
  | k + 1, x8, x9, x10, x121000 => if x10 < x9 then (if 0 ≤ x10 then (if x10 < (x8.length : Int) then (if (((rd_T29 x8 x10).f0).size : Int) > 100 then (pantrymade_SmallSites.j1 k x8 x9 x10 true x121000 ((rd_T29 x8 x10).f0) ((rd_T29 x8 x10).f1) ((rd_T29 x8 x10).f2) ((rd_T29 x8 x10).f3) ((rd_T29 x8 x10).f4) ((rd_T29 x8 x10).f5) ((rd_T29 x8 x10).f6)) else (pantrymade_SmallSites.j1 k x8 x9 x10 (decide ((((rd_T29 x8 x10).f6).length : Int) > 10)) x121000 ((rd_T29 x8 x10).f0) ((rd_T29 x8 x10).f1) ((rd_T29 x8 x10).f2) ((rd_T29 x8 x10).f3) ((rd_T29 x8 x10).f4) ((rd_T29 x8 x10).f5) ((rd_T29 x8 x10).f6))) else (none)) else (none)) else (some (decide ((x121000.length : Int) ≤ 12)))
def pantrymade_SmallSites.j1 : Nat → List (S29) → Int → Int → Bool → List (S29) → ByteArray → Int → Int → Int → Bool → Bool → List ByteArray → Option (Bool)
  | 0, _, _, _, _, _, _, _, _, _, _, _, _ => none
  | k + 1, x8, x9, x10, x23, x121000, x123000, x123001, x123002, x123003, x123004, x123005, x123006 => if x23 = true then (some false) else (pantrymade_SmallSites.l1 k x8 x9 x10 x123006 (x123006.length : Int) 0 x121000)
def pantrymade_SmallSites.l1 : Nat → List (S29) → Int → Int → List ByteArray → Int → Int → List (S29) → Option (Bool)
  | 0, _, _, _, _, _, _, _ => none
  | k + 1, x8, x9, x10, x25, x26, x27, x121000 => if x27 < x26 then (if 0 ≤ x27 then (if x27 < (x25.length : Int) then (if ((rdOf ByteArray.empty x25 x27).size : Int) > 100 then (some false) else (pantrymade_SmallSites.l1 k x8 x9 x10 x25 x26 (wrap64 (x27 + 1)) x121000)) else (none)) else (none)) else (pantrymade_SmallSites.l0 k x8 x9 (wrap64 (x10 + 1)) x121000)
end
def pantrymade_SmallSites.f (k : Nat) (l0_0 : List (S29)) : Option (Bool) := pantrymade_SmallSites.l0 k l0_0 (l0_0.length : Int) 0 l0_0
theorem pantrymade_SmallSites.mono_l : ∀ k, (∀ y0 y1 y2 y3, LeO (pantrymade_SmallSites.l0 k y0 y1 y2 y3) (pantrymade_SmallSites.l0 (k + 1) y0 y1 y2 y3)) ∧ (∀ y0 y1 y2 y3 y4 y5 y6 y7 y8 y9 y10 y11, LeO (pantrymade_SmallSites.j1 k y0 y1 y2 y3 y4 y5 y6 y7 y8 y9 y10 y11) (pantrymade_SmallSites.j1 (k + 1) y0 y1 y2 y3 y4 y5 y6 y7 y8 y9 y10 y11)) ∧ (∀ y0 y1 y2 y3 y4 y5 y6, LeO (pantrymade_SmallSites.l1 k y0 y1 y2 y3 y4 y5 y6) (pantrymade_SmallSites.l1 (k + 1) y0 y1 y2 y3 y4 y5 y6))
  | 0 => ⟨fun _ _ _ _ r h => by simp [pantrymade_SmallSites.l0] at h, fun _ _ _ _ _ _ _ _ _ _ _ _ r h => by simp [pantrymade_SmallSites.j1] at h, fun _ _ _ _ _ _ _ r h => by simp [pantrymade_SmallSites.l1] at h⟩
  | k + 1 => by
    obtain ⟨ih0, ih1, ih2⟩ := pantrymade_SmallSites.mono_l k
    refine ⟨?_, ?_, ?_⟩
    · intro y0 y1 y2 y3
      unfold pantrymade_SmallSites.l0
      repeat' first
      | (with_reducible exact ih0 _ _ _ _)
      | (with_reducible exact ih1 _ _ _ _ _ _ _ _ _ _ _ _)
      | (with_reducible exact ih2 _ _ _ _ _ _ _)
      | (with_reducible exact LeO.refl _)
      | (with_reducible exact LeO.none _)
      | (with_reducible refine LeO.ite ?_ ?_)
      | (with_reducible refine LeO.bind ?_ (fun _ => ?_))
      | exact ih0 _ _ _ _
      | exact ih1 _ _ _ _ _ _ _ _ _ _ _ _
      | exact ih2 _ _ _ _ _ _ _
      | exact LeO.none _
      | refine LeO.ite ?_ ?_
      | refine LeO.bind ?_ (fun _ => ?_)
    · intro y0 y1 y2 y3 y4 y5 y6 y7 y8 y9 y10 y11
      unfold pantrymade_SmallSites.j1
      repeat' first
      | (with_reducible exact ih0 _ _ _ _)
      | (with_reducible exact ih1 _ _ _ _ _ _ _ _ _ _ _ _)
      | (with_reducible exact ih2 _ _ _ _ _ _ _)
      | (with_reducible exact LeO.refl _)
      | (with_reducible exact LeO.none _)
      | (with_reducible refine LeO.ite ?_ ?_)
      | (with_reducible refine LeO.bind ?_ (fun _ => ?_))
      | exact ih0 _ _ _ _
      | exact ih1 _ _ _ _ _ _ _ _ _ _ _ _
      | exact ih2 _ _ _ _ _ _ _
      | exact LeO.none _
      | refine LeO.ite ?_ ?_
      | refine LeO.bind ?_ (fun _ => ?_)
    · intro y0 y1 y2 y3 y4 y5 y6
      unfold pantrymade_SmallSites.l1
      repeat' first
      | (with_reducible exact ih0 _ _ _ _)
      | (with_reducible exact ih1 _ _ _ _ _ _ _ _ _ _ _ _)
      | (with_reducible exact ih2 _ _ _ _ _ _ _)
      | (with_reducible exact LeO.refl _)
      | (with_reducible exact LeO.none _)
      | (with_reducible refine LeO.ite ?_ ?_)
      | (with_reducible refine LeO.bind ?_ (fun _ => ?_))
      | exact ih0 _ _ _ _
      | exact ih1 _ _ _ _ _ _ _ _ _ _ _ _
      | exact ih2 _ _ _ _ _ _ _
      | exact LeO.none _
      | refine LeO.ite ?_ ?_
      | refine LeO.bind ?_ (fun _ => ?_)
theorem pantrymade_SmallSites.mono : ∀ a0 k, LeO (pantrymade_SmallSites.f k a0) (pantrymade_SmallSites.f (k + 1) a0) := by
  intro a0 k
  obtain ⟨ih0, ih1, ih2⟩ := pantrymade_SmallSites.mono_l k
  unfold pantrymade_SmallSites.f
  repeat' first
      | (with_reducible exact ih0 _ _ _ _)
      | (with_reducible exact ih1 _ _ _ _ _ _ _ _ _ _ _ _)
      | (with_reducible exact ih2 _ _ _ _ _ _ _)
      | (with_reducible exact LeO.refl _)
      | (with_reducible exact LeO.none _)
      | (with_reducible refine LeO.ite ?_ ?_)
      | (with_reducible refine LeO.bind ?_ (fun _ => ?_))
      | exact ih0 _ _ _ _
      | exact ih1 _ _ _ _ _ _ _ _ _ _ _ _
      | exact ih2 _ _ _ _ _ _ _
      | exact LeO.none _
      | refine LeO.ite ?_ ?_
      | refine LeO.bind ?_ (fun _ => ?_)
end Go.Proofs.YtcoaajkhfgakgaaDoor.Pr
end

section
namespace Go.Proofs.YtcoaajkhfgakgaaDoor.Pr
open Go.RowKit Go.Proofs.YtcoaajkhfgakgaaDoorW.PrintWords Go.Proofs.YtcoaajkhfgakgaaDoorW.PrintLast Go.Proofs.YtcoaajkhfgakgaaDoorW.PrintMore
attribute [local go_sem] max2_int min2_int max_two min_two max_three min_three max_four min_four   -- for this text's walks alone
set_option linter.unusedVariables false
set_option linter.unusedSimpArgs false
def pantrymade_Site.f (a0_0 : ByteArray) (a0_1 : Int) (a0_2 : Int) (a0_3 : Int) (a0_4 : Bool) (a0_5 : Bool) (l0_6 : List ByteArray) : Option (ByteArray × Int × Int × Int × Bool × Bool × List ByteArray) := some (a0_0, a0_1, a0_2, a0_3, a0_4, a0_5, l0_6)
set_option maxHeartbeats 8000000 in
set_option maxRecDepth 100000 in
theorem pantrymade_Site.calls (a0_0 : ByteArray) (a0_1 : Int) (a0_2 : Int) (a0_3 : Int) (a0_4 : Bool) (a0_5 : Bool) (P0_6_ : Nat → Prop) (A0_6 : Option Addr) (c0_6 : Nat) (l0_6 : List ByteArray) (r1 : ByteArray) (r2 : Int) (r3 : Int) (r4 : Int) (r5 : Bool) (r6 : Bool) (r7 : List ByteArray) (w : World) (hs0_6 : Kd.V Kd.string 9 w w.heap.size (fun k_ => P0_6_ k_) (.slice A0_6 l0_6.length c0_6) l0_6) (h : pantrymade_Site.f a0_0 a0_1 a0_2 a0_3 a0_4 a0_5 l0_6 = some (r1, r2, r3, r4, r5, r6, r7)) :
    Calls Tryd.prog 14 #[.agg #[.string a0_0, .int .i64 a0_1, .int .i64 a0_2, .int .i64 a0_3, .bool a0_4, .bool a0_5, .slice A0_6 l0_6.length c0_6]] w fun e w' => ∃ v6_ : Value, e = .returned (.agg #[.string r1, .int .i64 r2, .int .i64 r3, .int .i64 r4, .bool r5, .bool r6, v6_]) ∧ Kd.V Kd.string 9 w' w.heap.size (fun k_ => (P0_6_ k_ ∨ w.heap.size ≤ k_)) v6_ r7 ∧ Below w.heap.size w w' := by
  have hu29 := Tryd.underlying29
  have hu38 := Tryd.underlying38
  have HO0_6 := Aside0.mk (show Kd.V Kd.string 9 w w.heap.size (fun k_ => (P0_6_ k_ ∨ w.heap.size ≤ k_)) (.slice A0_6 l0_6.length c0_6) l0_6 from Kd.V_mono hs0_6 (fun k_ hk => .inl hk))
  have HB := Aside0.mk (Below.refl w.heap.size w)
  have H : (some (a0_0, a0_1, a0_2, a0_3, a0_4, a0_5, l0_6)) = some (r1, r2, r3, r4, r5, r6, r7) := h
  clear h
  simp only [Option.some.injEq, Prod.mk.injEq] at H
  obtain ⟨rfl, rfl, rfl, rfl, rfl, rfl, rfl⟩ := H
  go_enter Tryd.func14, Tryd.ntmps14
  go_wp2_with (first | ((with_reducible refine gate_dst (N := 1) rfl ?_); refine box_event ?hg (N := 1) ?hd (cs := #[.string a0_0, .int .i64 a0_1, .int .i64 a0_2, .int .i64 a0_3, .bool a0_4, .bool a0_5, .slice A0_6 l0_6.length c0_6]) (t := 29) ?hr ?_; (case hd => rfl); (case hg => rfl); (case hr => first | (go_simp; done) | (go_simp; rfl)); intro gb131 hg w2 hbox hb; have n0_ := Aside0.mk (Kd.V_below (Kd.V_elderB (by (with_reducible repeat (first | apply Kd.V_alloc | apply Kd.V_drewN | apply Kd.V_drew)); exact HO0_6.out) gb131 (Nat.le_of_eq hg.symm)) hb); have n1_ := Aside0.mk (below_step (by repeat (first | (with_reducible first | exact HB.out | apply below_alloc | apply pw_below_drewN | apply below_drew1) | exact HB.out)) hb); have n2_ := Aside0.mk (hbox); have n3_ := Aside0.mk ((by rw [hg]; exact (below_size (by repeat (first | (with_reducible first | exact HB.out | apply below_alloc | apply pw_below_drewN | apply below_drew1) | exact HB.out))) : w.heap.size ≤ gb131)); have n4_ := Aside0.mk ((by rw [hg]; exact (below_size (by repeat (first | (with_reducible first | exact HB.out | apply below_alloc | apply pw_below_drewN | apply below_drew1) | exact HB.out))) : w.heap.size ≤ gb131)); clear HO0_6; clear HB; have HO0_6 := n0_; have HB := n1_; have BK131 := n2_; have GW131 := n3_; have GE131 := n4_; clear n0_ n1_ n2_ n3_ n4_; clear hb hbox hg) | ((with_reducible refine gate_dst (N := 2) rfl ?_); refine box_event ?hg (N := 2) ?hd (cs := #[.string (⟨#[]⟩ : ByteArray), .int .i64 0, .int .i64 0, .int .i64 0, .bool false, .bool false, .slice none 0 0]) (t := 38) ?hr ?_; (case hd => rfl); (case hg => rfl); (case hr => first | (go_simp; done) | (go_simp; rfl)); intro gb132 hg w3 hbox hb; have n0_ := Aside0.mk (Kd.V_below (Kd.V_elderB (by (with_reducible repeat (first | apply Kd.V_alloc | apply Kd.V_drewN | apply Kd.V_drew)); exact HO0_6.out) gb132 (Nat.le_of_eq hg.symm)) hb); have n1_ := Aside0.mk (blk_below (g := gb131) (o := .cells #[.string a0_0, .int .i64 a0_1, .int .i64 a0_2, .int .i64 a0_3, .bool a0_4, .bool a0_5, .slice A0_6 l0_6.length c0_6] 29 (0, 0)) (by (with_reducible repeat (first | refine blk_drewN ?_ _ | refine blk_drew ?_ | refine blk_alloc ?_ _)); exact BK131.out) hb); have n2_ := Aside0.mk (below_step (by repeat (first | (with_reducible first | exact HB.out | apply below_alloc | apply pw_below_drewN | apply below_drew1 | refine below_set ?_ GE131.out) | exact HB.out)) hb); have n3_ := Aside0.mk (hbox); have n4_ := Aside0.mk ((by rw [hg]; exact (below_size (by repeat (first | (with_reducible first | exact HB.out | apply below_alloc | apply pw_below_drewN | apply below_drew1 | refine below_set ?_ GE131.out) | exact HB.out))) : w.heap.size ≤ gb132)); have n5_ := Aside0.mk ((by rw [hg]; exact (below_size (by repeat (first | (with_reducible first | exact HB.out | apply below_alloc | apply pw_below_drewN | apply below_drew1 | refine below_set ?_ GE131.out) | exact HB.out))) : w.heap.size ≤ gb132)); have n6_ := Aside0.mk ((by rw [hg]; exact Nat.ne_of_lt (blk_lt (g := gb131) (o := .cells #[.string a0_0, .int .i64 a0_1, .int .i64 a0_2, .int .i64 a0_3, .bool a0_4, .bool a0_5, .slice A0_6 l0_6.length c0_6] 29 (0, 0)) (by (with_reducible repeat (first | refine blk_drewN ?_ _ | refine blk_drew ?_ | refine blk_alloc ?_ _)); exact BK131.out)) : gb131 ≠ gb132)); have n7_ := Aside0.mk ((by rw [hg]; exact Nat.ne_of_gt (blk_lt (g := gb131) (o := .cells #[.string a0_0, .int .i64 a0_1, .int .i64 a0_2, .int .i64 a0_3, .bool a0_4, .bool a0_5, .slice A0_6 l0_6.length c0_6] 29 (0, 0)) (by (with_reducible repeat (first | refine blk_drewN ?_ _ | refine blk_drew ?_ | refine blk_alloc ?_ _)); exact BK131.out)) : gb132 ≠ gb131)); clear HO0_6; clear BK131; clear HB; have HO0_6 := n0_; have BK131 := n1_; have HB := n2_; have BK132 := n3_; have GW132 := n4_; have GE132 := n5_; have NB131_132 := n6_; have NB132_131 := n7_; clear n0_ n1_ n2_ n3_ n4_ n5_ n6_ n7_; clear hb hbox hg; have hnb4 := NB131_132.out; have hnc4 := NB132_131.out; have hcz5_0 : w3.cell? ⟨gb131, 0, none⟩ = some (.string a0_0) := (blk_cell BK131.out 0).trans rfl; have hcz5_1 : w3.cell? ⟨gb131, 1, none⟩ = some (.int .i64 a0_1) := (blk_cell BK131.out 1).trans rfl; have hcz5_2 : w3.cell? ⟨gb131, 2, none⟩ = some (.int .i64 a0_2) := (blk_cell BK131.out 2).trans rfl; have hcz5_3 : w3.cell? ⟨gb131, 3, none⟩ = some (.int .i64 a0_3) := (blk_cell BK131.out 3).trans rfl; have hcz5_4 : w3.cell? ⟨gb131, 4, none⟩ = some (.bool a0_4) := (blk_cell BK131.out 4).trans rfl; have hcz5_5 : w3.cell? ⟨gb131, 5, none⟩ = some (.bool a0_5) := (blk_cell BK131.out 5).trans rfl; have hcz5_6 : w3.cell? ⟨gb131, 6, none⟩ = some (.slice A0_6 l0_6.length c0_6) := (blk_cell BK131.out 6).trans rfl; have hfz5_0 := blk_frozen BK131.out 0; have hfz5_1 := blk_frozen BK131.out 1; have hfz5_2 := blk_frozen BK131.out 2; have hfz5_3 := blk_frozen BK131.out 3; have hfz5_4 := blk_frozen BK131.out 4; have hfz5_5 := blk_frozen BK131.out 5; have hfz5_6 := blk_frozen BK131.out 6; have hcz6_0 : w3.cell? ⟨gb132, 0, none⟩ = some (.string (⟨#[]⟩ : ByteArray)) := (blk_cell BK132.out 0).trans rfl; have hcz6_1 : w3.cell? ⟨gb132, 1, none⟩ = some (.int .i64 0) := (blk_cell BK132.out 1).trans rfl; have hcz6_2 : w3.cell? ⟨gb132, 2, none⟩ = some (.int .i64 0) := (blk_cell BK132.out 2).trans rfl; have hcz6_3 : w3.cell? ⟨gb132, 3, none⟩ = some (.int .i64 0) := (blk_cell BK132.out 3).trans rfl; have hcz6_4 : w3.cell? ⟨gb132, 4, none⟩ = some (.bool false) := (blk_cell BK132.out 4).trans rfl; have hcz6_5 : w3.cell? ⟨gb132, 5, none⟩ = some (.bool false) := (blk_cell BK132.out 5).trans rfl; have hcz6_6 : w3.cell? ⟨gb132, 6, none⟩ = some (.slice none 0 0) := (blk_cell BK132.out 6).trans rfl; have hfz6_0 := blk_frozen BK132.out 0; have hfz6_1 := blk_frozen BK132.out 1; have hfz6_2 := blk_frozen BK132.out 2; have hfz6_3 := blk_frozen BK132.out 3; have hfz6_4 := blk_frozen BK132.out 4; have hfz6_5 := blk_frozen BK132.out 5; have hfz6_6 := blk_frozen BK132.out 6))
  refine bodyPost_ret (results_cell_row rfl _ _ gb132 38 #[.string a0_0, .int .i64 a0_1, .int .i64 a0_2, .int .i64 a0_3, .bool a0_4, .bool a0_5, .slice A0_6 l0_6.length c0_6] (0, 0) _ rfl (by (with_reducible repeat (first | refine blk_drewN ?_ _ | refine blk_drew ?_ | refine blk_alloc ?_ _)); refine blk_put (cs := #[.string a0_0, .int .i64 a0_1, .int .i64 a0_2, .int .i64 a0_3, .bool a0_4, .bool a0_5, .slice none 0 0]) ?_ 6 _ rfl; (with_reducible repeat (first | refine blk_drewN ?_ _ | refine blk_drew ?_ | refine blk_alloc ?_ _)); refine blk_put (cs := #[.string a0_0, .int .i64 a0_1, .int .i64 a0_2, .int .i64 a0_3, .bool a0_4, .bool false, .slice none 0 0]) ?_ 5 _ rfl; (with_reducible repeat (first | refine blk_drewN ?_ _ | refine blk_drew ?_ | refine blk_alloc ?_ _)); refine blk_put (cs := #[.string a0_0, .int .i64 a0_1, .int .i64 a0_2, .int .i64 a0_3, .bool false, .bool false, .slice none 0 0]) ?_ 4 _ rfl; (with_reducible repeat (first | refine blk_drewN ?_ _ | refine blk_drew ?_ | refine blk_alloc ?_ _)); refine blk_put (cs := #[.string a0_0, .int .i64 a0_1, .int .i64 a0_2, .int .i64 0, .bool false, .bool false, .slice none 0 0]) ?_ 3 _ rfl; (with_reducible repeat (first | refine blk_drewN ?_ _ | refine blk_drew ?_ | refine blk_alloc ?_ _)); refine blk_put (cs := #[.string a0_0, .int .i64 a0_1, .int .i64 0, .int .i64 0, .bool false, .bool false, .slice none 0 0]) ?_ 2 _ rfl; (with_reducible repeat (first | refine blk_drewN ?_ _ | refine blk_drew ?_ | refine blk_alloc ?_ _)); refine blk_put (cs := #[.string a0_0, .int .i64 0, .int .i64 0, .int .i64 0, .bool false, .bool false, .slice none 0 0]) ?_ 1 _ rfl; (with_reducible repeat (first | refine blk_drewN ?_ _ | refine blk_drew ?_ | refine blk_alloc ?_ _)); refine blk_put (cs := #[.string (⟨#[]⟩ : ByteArray), .int .i64 0, .int .i64 0, .int .i64 0, .bool false, .bool false, .slice none 0 0]) ?_ 0 _ rfl; (with_reducible repeat (first | refine blk_drewN ?_ _ | refine blk_drew ?_ | refine blk_alloc ?_ _)); exact BK132.out) Tryd.underlying38 rfl (by kernel_rfl)) rfl ?_
  exact ⟨_, by first | rfl | (simp [errW_none, errW_some] <;> rfl) | (simp [*, errW_none, errW_some] <;> rfl), by (with_reducible repeat (first | apply Kd.V_alloc | apply Kd.V_drewN | apply Kd.V_drew)); exact Kd.V_mono (Kd.V_far (p := ⟨gb132, 6, none⟩) (Kd.V_far (p := ⟨gb132, 5, none⟩) (Kd.V_far (p := ⟨gb132, 4, none⟩) (Kd.V_far (p := ⟨gb132, 3, none⟩) (Kd.V_far (p := ⟨gb132, 2, none⟩) (Kd.V_far (p := ⟨gb132, 1, none⟩) (Kd.V_far (p := ⟨gb132, 0, none⟩) (Kd.V_mono HO0_6.out (fun k_ hk => (⟨hk, hk.2⟩ : _ ∧ k_ ≠ gb132))) (fun _ hk => hk.2) (.string a0_0)) (fun _ hk => hk.2) (.int .i64 a0_1)) (fun _ hk => hk.2) (.int .i64 a0_2)) (fun _ hk => hk.2) (.int .i64 a0_3)) (fun _ hk => hk.2) (.bool a0_4)) (fun _ hk => hk.2) (.bool a0_5)) (fun _ hk => hk.2) (.slice A0_6 l0_6.length c0_6)) (fun _ hk => hk.1.1.1), by repeat (first | (with_reducible first | exact HB.out | apply below_alloc | apply pw_below_drewN | apply below_drew1 | refine below_set ?_ GE131.out | refine below_set ?_ GE132.out) | exact HB.out)⟩
end Go.Proofs.YtcoaajkhfgakgaaDoor.Pr
end
