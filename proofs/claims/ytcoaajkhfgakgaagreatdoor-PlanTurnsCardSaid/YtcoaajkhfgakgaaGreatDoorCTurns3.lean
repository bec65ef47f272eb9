/- Part 3 of the proof of Turns: what the program's functions compute, and that it is so. Conditions: as each theorem states. (Packed out of our texts: PF40, XSiteSpec, Iter, XDiff, XContains, XSiteRight, XConfigRight, PF11, PF36, PF13.) -/
import Derived.Test.YtcoaajkhfgakgaaGreatDoorCTurns2
import Derived.Shelf.SlIter.Nil
import Derived.Shelf.SortM.Plain
import Derived.Shelf.SortM.SortNone
import Derived.Ground.GgzProg
import Derived.Ground.SlgmProg
import Derived.Test.YtcoaajkhfgakgaaGreatDoorProg
section
namespace Go.Proofs.YtcoaajkhfgakgaaGreatDoor.Pr
open Go.RowKit Go.Proofs.YtcoaajkhfgakgaaGreatDoorW.PrintWords Go.Proofs.YtcoaajkhfgakgaaGreatDoorW.PrintLast Go.Proofs.YtcoaajkhfgakgaaGreatDoorW.PrintMore
attribute [local go_sem] max2_int min2_int max_two min_two max_three min_three max_four min_four   -- for this text's walks alone
set_option linter.unusedVariables false
set_option linter.unusedSimpArgs false
def conf_Config_Find.l0 : Nat → ByteArray → List (S52) → Int → Int → Option (ByteArray × Int × Int × Int × Bool × Bool × List ByteArray × Bool)
  | 0, _, _, _, _ => none
  | k + 1, x1, x9, x10, x11 => if x11 < x10 then (if 0 ≤ x11 then (if x11 < (x9.length : Int) then (if ((rd_T52 x9 x11).f0).toList = x1.toList then ((slices_Clone_string_string.f ((rd_T52 x9 x11).f6)).bind fun t702 => (some ((rd_T52 x9 x11).f0, (rd_T52 x9 x11).f1, (rd_T52 x9 x11).f2, (rd_T52 x9 x11).f3, (rd_T52 x9 x11).f4, (rd_T52 x9 x11).f5, t702, true))) else (conf_Config_Find.l0 k x1 x9 x10 (wrap64 (x11 + 1)))) else (none)) else (none)) else (some ((⟨#[]⟩ : ByteArray), 0, 0, 0, false, false, ([] : List ByteArray), false))
def conf_Config_Find.f (k : Nat) (l0_0 : List (S52)) (a1 : ByteArray) : Option (ByteArray × Int × Int × Int × Bool × Bool × List ByteArray × Bool) := conf_Config_Find.l0 k a1 l0_0 (l0_0.length : Int) 0
theorem conf_Config_Find.mono_l : ∀ k, (∀ y0 y1 y2 y3, LeO (conf_Config_Find.l0 k y0 y1 y2 y3) (conf_Config_Find.l0 (k + 1) y0 y1 y2 y3))
  | 0 => fun _ _ _ _ r h => by simp [conf_Config_Find.l0] at h
  | k + 1 => by
    have ih0 := conf_Config_Find.mono_l k
    · intro y0 y1 y2 y3
      unfold conf_Config_Find.l0
      repeat' first
      | (with_reducible exact ih0 _ _ _ _)
      | (with_reducible exact LeO.refl _)
      | (with_reducible exact LeO.none _)
      | (with_reducible refine LeO.ite ?_ ?_)
      | (with_reducible refine LeO.bind ?_ (fun _ => ?_))
      | exact ih0 _ _ _ _
      | exact LeO.none _
      | refine LeO.ite ?_ ?_
      | refine LeO.bind ?_ (fun _ => ?_)
theorem conf_Config_Find.mono : ∀ a0 a1 k, LeO (conf_Config_Find.f k a0 a1) (conf_Config_Find.f (k + 1) a0 a1) := by
  intro a0 a1 k
  have ih0 := conf_Config_Find.mono_l k
  unfold conf_Config_Find.f
  repeat' first
      | (with_reducible exact ih0 _ _ _ _)
      | (with_reducible exact LeO.refl _)
      | (with_reducible exact LeO.none _)
      | (with_reducible refine LeO.ite ?_ ?_)
      | (with_reducible refine LeO.bind ?_ (fun _ => ?_))
      | exact ih0 _ _ _ _
      | exact LeO.none _
      | refine LeO.ite ?_ ?_
      | refine LeO.bind ?_ (fun _ => ?_)
set_option maxHeartbeats 8000000 in
set_option maxRecDepth 100000 in
theorem conf_Config_Find.calls (k : Nat) (A0_0 : Option Addr) (c0_0 : Nat) (l0_0 : List (S52)) (a1 : ByteArray) (r1 : ByteArray) (r2 : Int) (r3 : Int) (r4 : Int) (r5 : Bool) (r6 : Bool) (r7 : List ByteArray) (r8 : Bool) (w : World) (hr0_0 : Kd.C k52 w A0_0 l0_0.length l0_0) (hc0_0 : l0_0.length ≤ c0_0) (h : conf_Config_Find.f k l0_0 a1 = some (r1, r2, r3, r4, r5, r6, r7, r8)) :
  Calls Tryz.prog 40 #[.agg #[.slice A0_0 l0_0.length c0_0], .string a1] w fun e w' => ∃ v6_ : Value, e = .returned (.tuple #[.agg #[.string r1, .int .i64 r2, .int .i64 r3, .int .i64 r4, .bool r5, .bool r6, v6_], .bool r8]) ∧ Kd.R Kd.string 9 w' w.heap.size (fun _ => True) v6_ r7 ∧ Below w.heap.size w w' := by
 have hu24 := Tryz.underlying24
 have hu52 := Tryz.underlying52
 have HR0_0 := Aside0.mk hr0_0
 have HC0_0 := Aside0.mk hc0_0
 clear hr0_0 hc0_0
 have HB := Aside0.mk (Below.refl w.heap.size w)
 have H : (conf_Config_Find.l0 k a1 l0_0 (l0_0.length : Int) 0) = some (r1, r2, r3, r4, r5, r6, r7, r8) := h
 clear h
 have H' := Aside0.mk H
 clear H
 go_enter Tryz.func40, Tryz.ntmps40
 go_wp2_with (first | ((with_reducible refine gate_dst (N := 2) rfl ?_); refine box_event ?hg (N := 2) ?hd (cs := #[.slice A0_0 l0_0.length c0_0]) (t := 24) ?hr ?_; (case hd => rfl); (case hg => rfl); (case hr => first | (go_simp; done) | (go_simp; rfl)); intro gb698 hg w3 hbox hb; have n0_ := Aside0.mk (below_step (by repeat (first | (with_reducible first | exact HB.out | apply below_alloc | apply pw_below_drewN | apply below_drew1) | exact HB.out)) hb); have n1_ := Aside0.mk (hbox); have n2_ := Aside0.mk ((by rw [hg]; exact (below_size (by repeat (first | (with_reducible first | exact HB.out | apply below_alloc | apply pw_below_drewN | apply below_drew1) | exact HB.out))) : w.heap.size ≤ gb698)); have n3_ := Aside0.mk ((by rw [hg]; exact (below_size (by repeat (first | (with_reducible first | exact HB.out | apply below_alloc | apply pw_below_drewN | apply below_drew1) | exact HB.out))) : w.heap.size ≤ gb698)); clear HB; have HB := n0_; have BK698 := n1_; have GW698 := n2_; have GE698 := n3_; clear n0_ n1_ n2_ n3_; clear hb hbox hg) | ((with_reducible refine gate_dst (N := 4) rfl ?_); refine box_event ?hg (N := 4) ?hd (cs := #[.string (⟨#[]⟩ : ByteArray), .int .i64 0, .int .i64 0, .int .i64 0, .bool false, .bool false, .slice none 0 0]) (t := 52) ?hr ?_; (case hd => rfl); (case hg => rfl); (case hr => first | (go_simp; done) | (go_simp; rfl)); intro gb699 hg w4 hbox hb; have n0_ := Aside0.mk (blk_below (g := gb698) (o := .cells #[.slice A0_0 l0_0.length c0_0] 24 (0, 0)) (by (with_reducible repeat (first | refine zN ?_ _ | refine zD ?_ | refine zA ?_ _)); exact BK698.out) hb); have n1_ := Aside0.mk (below_step (by repeat (first | (with_reducible first | exact HB.out | apply below_alloc | apply pw_below_drewN | apply below_drew1 | refine below_set ?_ GE698.out) | exact HB.out)) hb); have n2_ := Aside0.mk (hbox); have n3_ := Aside0.mk ((by rw [hg]; exact (below_size (by repeat (first | (with_reducible first | exact HB.out | apply below_alloc | apply pw_below_drewN | apply below_drew1 | refine below_set ?_ GE698.out) | exact HB.out))) : w.heap.size ≤ gb699)); have n4_ := Aside0.mk ((by rw [hg]; exact (below_size (by repeat (first | (with_reducible first | exact HB.out | apply below_alloc | apply pw_below_drewN | apply below_drew1 | refine below_set ?_ GE698.out) | exact HB.out))) : w.heap.size ≤ gb699)); have n5_ := Aside0.mk ((by rw [hg]; exact Nat.ne_of_lt (blk_lt (g := gb698) (o := .cells #[.slice A0_0 l0_0.length c0_0] 24 (0, 0)) (by (with_reducible repeat (first | refine zN ?_ _ | refine zD ?_ | refine zA ?_ _)); exact BK698.out)) : gb698 ≠ gb699)); have n6_ := Aside0.mk ((by rw [hg]; exact Nat.ne_of_gt (blk_lt (g := gb698) (o := .cells #[.slice A0_0 l0_0.length c0_0] 24 (0, 0)) (by (with_reducible repeat (first | refine zN ?_ _ | refine zD ?_ | refine zA ?_ _)); exact BK698.out)) : gb699 ≠ gb698)); clear BK698; clear HB; have BK698 := n0_; have HB := n1_; have BK699 := n2_; have GW699 := n3_; have GE699 := n4_; have NB698_699 := n5_; have NB699_698 := n6_; clear n0_ n1_ n2_ n3_ n4_ n5_ n6_; clear hb hbox hg; have hnb5 := NB698_699.out; have hnc5 := NB699_698.out; have hcz6_0 : w4.cell? ⟨gb698, 0, none⟩ = some (.slice A0_0 l0_0.length c0_0) := (blk_cell BK698.out 0).trans rfl; have hfz6_0 := blk_frozen BK698.out 0))
 go_loopg [11] k (fun kq v11 w' => ∃ (x11_1 : Int) (x700000_1 : ByteArray) (x700001_1 : Int) (x700002_1 : Int) (x700003_1 : Int) (x700004_1 : Bool) (x700005_1 : Bool), v11 = .int .i64 x11_1 ∧ Aside0 (conf_Config_Find.l0 kq a1 l0_0 (l0_0.length : Int) x11_1 = some (r1, r2, r3, r4, r5, r6, r7, r8)) ∧ Aside0 (kq ≤ k) ∧ Aside0 (w'.heap[gb698]? = some (.cells #[(.slice A0_0 l0_0.length c0_0)] 24 (0, 0))) ∧ Aside0 (w'.heap[gb699]? = some (.cells #[.string x700000_1, .int .i64 x700001_1, .int .i64 x700002_1, .int .i64 x700003_1, .bool x700004_1, .bool x700005_1, (.slice none 0 0)] 52 (0, 0))) ∧ Aside0 (Below w.heap.size w w'))
 case atStart => exact ⟨(0), ((⟨#[]⟩ : ByteArray)), (0), (0), (0), (false), (false), (by first | rfl | (simp; done) | (simp [*]; done)), H', ⟨Nat.le_refl _⟩, ⟨by (with_reducible repeat (first | refine zN ?_ _ | refine zD ?_ | refine zA ?_ _)); exact BK698.out⟩, ⟨by (with_reducible repeat (first | refine zN ?_ _ | refine zD ?_ | refine zA ?_ _)); exact BK699.out⟩, ⟨by repeat (first | (with_reducible first | exact HB.out | apply below_alloc | apply pw_below_drewN | apply below_drew1 | refine below_set ?_ GE698.out | refine below_set ?_ GE699.out) | exact HB.out)⟩⟩
 case round =>
  clear H'
  try clear p2
  try clear c4
  try clear c5
  try clear hcz6_0
  try clear hfz6_0
  obtain ⟨x11_1, x700000_1, x700001_1, x700002_1, x700003_1, x700004_1, x700005_1, rfl, HA, HK1, BK698, BK699, HB⟩ := hrel
  cases gk with
  | zero => exact absurd HA.out (by simp [conf_Config_Find.l0])
  | succ k1 =>
   have H := HA.out
   clear HA
   simp only [conf_Config_Find.l0] at H
   by_cases c7 : x11_1 < (l0_0.length : Int)
   ·
    rw [if_pos c7] at H
    have c7b0 : decide (x11_1 < (l0_0.length : Int)) = true := decide_eq_true c7
    clear c7
    by_cases c8 : 0 ≤ x11_1
    ·
     rw [if_pos c8] at H
     have c8b0 : decide (0 ≤ x11_1) = true := decide_eq_true c8
     clear c8
     by_cases c9 : x11_1 < (l0_0.length : Int)
     ·
      rw [if_pos c9] at H
      have c9b0 : decide (x11_1 < (l0_0.length : Int)) = true := decide_eq_true c9
      clear c9
      by_cases c10 : ((rd_T52 l0_0 x11_1).f0).toList = a1.toList
      ·
       rw [if_pos c10] at H
       have c10b0 : (((rd_T52 l0_0 x11_1).f0).toList == a1.toList) = true := beq_iff_eq.mpr c10
       have c10b1 : (((rd_T52 l0_0 x11_1).f0).toList != a1.toList) = false := bne_eq_false_iff_eq.mpr c10
       clear c10
       replace H := Option.bind_eq_some_iff.mp H
       obtain ⟨t702, A110, H⟩ := H
       replace H : (some ((rd_T52 l0_0 x11_1).f0, (rd_T52 l0_0 x11_1).f1, (rd_T52 l0_0 x11_1).f2, (rd_T52 l0_0 x11_1).f3, (rd_T52 l0_0 x11_1).f4, (rd_T52 l0_0 x11_1).f5, t702, true)) = some (r1, r2, r3, r4, r5, r6, r7, r8) := H
       have A11 := Aside0.mk A110
       clear A110
       simp only [Option.some.injEq, Prod.mk.injEq] at H
       obtain ⟨rfl, rfl, rfl, rfl, rfl, rfl, rfl, rfl⟩ := H
       have p700 : 0 ≤ (x11_1 : Int) := of_decide_eq_true (by first | (with_reducible assumption) | assumption)
       have q700 : x11_1 < (l0_0.length : Int) := of_decide_eq_true (by first | (with_reducible assumption) | assumption)
       obtain ⟨ad700, A700_6, c700_6, e700, hx700_0, hx700_1, hx700_2, hx700_3, hx700_4, hx700_5, hx700_6, hl700_6, hi700_6⟩ := at_T52 HR0_0.out x11_1 p700 q700
       cases e700
       replace hx700_0 := (HB.out.cell (World.block_lt_of_cell? w _ hx700_0)).trans hx700_0
       replace hx700_1 := (HB.out.cell (World.block_lt_of_cell? w _ hx700_1)).trans hx700_1
       replace hx700_2 := (HB.out.cell (World.block_lt_of_cell? w _ hx700_2)).trans hx700_2
       replace hx700_3 := (HB.out.cell (World.block_lt_of_cell? w _ hx700_3)).trans hx700_3
       replace hx700_4 := (HB.out.cell (World.block_lt_of_cell? w _ hx700_4)).trans hx700_4
       replace hx700_5 := (HB.out.cell (World.block_lt_of_cell? w _ hx700_5)).trans hx700_5
       replace hx700_6 := (HB.out.cell (World.block_lt_of_cell? w _ hx700_6)).trans hx700_6
       have HR700_6 := Aside0.mk hi700_6
       have HC700_6 := Aside0.mk hl700_6
       clear hi700_6 hl700_6
       replace p700 := eq_true p700
       replace q700 := eq_true q700
       go_wp2_with (first | ((with_reducible refine gate_dst (N := 7) rfl ?_); refine box_event ?hg (N := 7) ?hd (cs := #[.string (⟨#[]⟩ : ByteArray), .int .i64 0, .int .i64 0, .int .i64 0, .bool false, .bool false, .slice none 0 0]) (t := 52) ?hr ?_; (case hd => rfl); (case hg => rfl); (case hr => first | (go_simp; done) | (go_simp; rfl)); intro gb701 hg w12 hbox hb; have n0_ := Aside0.mk (blk_below (g := gb698) (o := .cells #[.slice (some ad700) l0_0.length c0_0] 24 (0, 0)) (by (with_reducible repeat (first | refine zN ?_ _ | refine zD ?_ | refine zA ?_ _)); exact BK698.out) hb); have n1_ := Aside0.mk (blk_below (g := gb699) (o := .cells #[.string x700000_1, .int .i64 x700001_1, .int .i64 x700002_1, .int .i64 x700003_1, .bool x700004_1, .bool x700005_1, .slice none 0 0] 52 (0, 0)) (by (with_reducible repeat (first | refine zN ?_ _ | refine zD ?_ | refine zA ?_ _)); exact BK699.out) hb); have n2_ := Aside0.mk (below_step (by repeat (first | (with_reducible first | exact HB.out | apply below_alloc | apply pw_below_drewN | apply below_drew1 | refine below_set ?_ GE698.out | refine below_set ?_ GE699.out) | exact HB.out)) hb); have n3_ := Aside0.mk (hbox); have n4_ := Aside0.mk ((by rw [hg]; exact (below_size (by repeat (first | (with_reducible first | exact HB.out | apply below_alloc | apply pw_below_drewN | apply below_drew1 | refine below_set ?_ GE698.out | refine below_set ?_ GE699.out) | exact HB.out))) : w.heap.size ≤ gb701)); have n5_ := Aside0.mk ((by rw [hg]; exact (below_size (by repeat (first | (with_reducible first | exact HB.out | apply below_alloc | apply pw_below_drewN | apply below_drew1 | refine below_set ?_ GE698.out | refine below_set ?_ GE699.out) | exact HB.out))) : w.heap.size ≤ gb701)); have n6_ := Aside0.mk ((by rw [hg]; exact Nat.ne_of_lt (blk_lt (g := gb698) (o := .cells #[.slice (some ad700) l0_0.length c0_0] 24 (0, 0)) (by (with_reducible repeat (first | refine zN ?_ _ | refine zD ?_ | refine zA ?_ _)); exact BK698.out)) : gb698 ≠ gb701)); have n7_ := Aside0.mk ((by rw [hg]; exact Nat.ne_of_gt (blk_lt (g := gb698) (o := .cells #[.slice (some ad700) l0_0.length c0_0] 24 (0, 0)) (by (with_reducible repeat (first | refine zN ?_ _ | refine zD ?_ | refine zA ?_ _)); exact BK698.out)) : gb701 ≠ gb698)); have n8_ := Aside0.mk ((by rw [hg]; exact Nat.ne_of_lt (blk_lt (g := gb699) (o := .cells #[.string x700000_1, .int .i64 x700001_1, .int .i64 x700002_1, .int .i64 x700003_1, .bool x700004_1, .bool x700005_1, .slice none 0 0] 52 (0, 0)) (by (with_reducible repeat (first | refine zN ?_ _ | refine zD ?_ | refine zA ?_ _)); exact BK699.out)) : gb699 ≠ gb701)); have n9_ := Aside0.mk ((by rw [hg]; exact Nat.ne_of_gt (blk_lt (g := gb699) (o := .cells #[.string x700000_1, .int .i64 x700001_1, .int .i64 x700002_1, .int .i64 x700003_1, .bool x700004_1, .bool x700005_1, .slice none 0 0] 52 (0, 0)) (by (with_reducible repeat (first | refine zN ?_ _ | refine zD ?_ | refine zA ?_ _)); exact BK699.out)) : gb701 ≠ gb699)); clear BK698; clear BK699; clear HB; have BK698 := n0_; have BK699 := n1_; have HB := n2_; have BK701 := n3_; have GW701 := n4_; have GE701 := n5_; have NB698_701 := n6_; have NB701_698 := n7_; have NB699_701 := n8_; have NB701_699 := n9_; clear n0_ n1_ n2_ n3_ n4_ n5_ n6_ n7_ n8_ n9_; clear hb hbox hg; have hnb13 := NB701_698.out; have hnc13 := NB698_701.out; have hnb14 := NB701_699.out; have hnc14 := NB699_701.out; have hcz15_0 : w12.cell? ⟨gb701, 0, none⟩ = some (.string (⟨#[]⟩ : ByteArray)) := (blk_cell BK701.out 0).trans rfl; have hcz15_1 : w12.cell? ⟨gb701, 1, none⟩ = some (.int .i64 0) := (blk_cell BK701.out 1).trans rfl; have hcz15_2 : w12.cell? ⟨gb701, 2, none⟩ = some (.int .i64 0) := (blk_cell BK701.out 2).trans rfl; have hcz15_3 : w12.cell? ⟨gb701, 3, none⟩ = some (.int .i64 0) := (blk_cell BK701.out 3).trans rfl; have hcz15_4 : w12.cell? ⟨gb701, 4, none⟩ = some (.bool false) := (blk_cell BK701.out 4).trans rfl; have hcz15_5 : w12.cell? ⟨gb701, 5, none⟩ = some (.bool false) := (blk_cell BK701.out 5).trans rfl; have hcz15_6 : w12.cell? ⟨gb701, 6, none⟩ = some (.slice none 0 0) := (blk_cell BK701.out 6).trans rfl; have hfz15_0 := blk_frozen BK701.out 0; have hfz15_1 := blk_frozen BK701.out 1; have hfz15_2 := blk_frozen BK701.out 2; have hfz15_3 := blk_frozen BK701.out 3; have hfz15_4 := blk_frozen BK701.out 4; have hfz15_5 := blk_frozen BK701.out 5; have hfz15_6 := blk_frozen BK701.out 6) | ((with_reducible refine gate_callee (f := 62) rfl ?_); refine goesL_ (some 21) rfl rfl Tryz.func62 (by kernel_rfl) rfl #[.slice A700_6 ((rd_T52 l0_0 x11_1).f6).length c700_6] rfl (by (try simp only [List.map_toArray, List.map_cons, List.map_nil]); first | done | rfl | (simp only [List.length_drop, List.length_take]; rfl)) ?_; (with_reducible refine (slices_Clone_string_string.calls _ _ ((rd_T52 l0_0 x11_1).f6) t702 _ ?side1 ?side2 A11.out).mono ?_); (case side1 => exact Kd.C_below HR700_6.out (by repeat (first | (with_reducible first | exact HB.out | apply below_alloc | apply pw_below_drewN | apply below_drew1 | refine below_set ?_ GE698.out | refine below_set ?_ GE699.out | refine below_set ?_ GE701.out) | exact HB.out))); (case side2 => exact HC700_6.out); rintro e w16 ⟨v703, rfl, ho0, hb⟩; refine ⟨_, rfl, ?_⟩; have n0_ := Aside0.mk (Kd.R_lower ho0 (below_size (by repeat (first | (with_reducible first | exact HB.out | apply below_alloc | apply pw_below_drewN | apply below_drew1 | refine below_set ?_ GE698.out | refine below_set ?_ GE699.out | refine below_set ?_ GE701.out) | exact HB.out)))); have n1_ := Aside0.mk (blk_below (g := gb698) (o := .cells #[.slice (some ad700) l0_0.length c0_0] 24 (0, 0)) (by (with_reducible repeat (first | refine zN ?_ _ | refine zD ?_ | refine zA ?_ _)); refine blk_far ?_ NB698_701.out _; (with_reducible repeat (first | refine zN ?_ _ | refine zD ?_ | refine zA ?_ _)); refine blk_far ?_ NB698_701.out _; (with_reducible repeat (first | refine zN ?_ _ | refine zD ?_ | refine zA ?_ _)); refine blk_far ?_ NB698_701.out _; (with_reducible repeat (first | refine zN ?_ _ | refine zD ?_ | refine zA ?_ _)); refine blk_far ?_ NB698_701.out _; (with_reducible repeat (first | refine zN ?_ _ | refine zD ?_ | refine zA ?_ _)); refine blk_far ?_ NB698_701.out _; (with_reducible repeat (first | refine zN ?_ _ | refine zD ?_ | refine zA ?_ _)); refine blk_far ?_ NB698_701.out _; (with_reducible repeat (first | refine zN ?_ _ | refine zD ?_ | refine zA ?_ _)); refine blk_far ?_ NB698_701.out _; (with_reducible repeat (first | refine zN ?_ _ | refine zD ?_ | refine zA ?_ _)); exact BK698.out) hb); have n2_ := Aside0.mk (blk_below (g := gb699) (o := .cells #[.string x700000_1, .int .i64 x700001_1, .int .i64 x700002_1, .int .i64 x700003_1, .bool x700004_1, .bool x700005_1, .slice none 0 0] 52 (0, 0)) (by (with_reducible repeat (first | refine zN ?_ _ | refine zD ?_ | refine zA ?_ _)); refine blk_far ?_ NB699_701.out _; (with_reducible repeat (first | refine zN ?_ _ | refine zD ?_ | refine zA ?_ _)); refine blk_far ?_ NB699_701.out _; (with_reducible repeat (first | refine zN ?_ _ | refine zD ?_ | refine zA ?_ _)); refine blk_far ?_ NB699_701.out _; (with_reducible repeat (first | refine zN ?_ _ | refine zD ?_ | refine zA ?_ _)); refine blk_far ?_ NB699_701.out _; (with_reducible repeat (first | refine zN ?_ _ | refine zD ?_ | refine zA ?_ _)); refine blk_far ?_ NB699_701.out _; (with_reducible repeat (first | refine zN ?_ _ | refine zD ?_ | refine zA ?_ _)); refine blk_far ?_ NB699_701.out _; (with_reducible repeat (first | refine zN ?_ _ | refine zD ?_ | refine zA ?_ _)); refine blk_far ?_ NB699_701.out _; (with_reducible repeat (first | refine zN ?_ _ | refine zD ?_ | refine zA ?_ _)); exact BK699.out) hb); have n3_ := Aside0.mk (blk_below (g := gb701) (o := .cells #[.string ((rd_T52 l0_0 x11_1).f0), .int .i64 ((rd_T52 l0_0 x11_1).f1), .int .i64 ((rd_T52 l0_0 x11_1).f2), .int .i64 ((rd_T52 l0_0 x11_1).f3), .bool ((rd_T52 l0_0 x11_1).f4), .bool ((rd_T52 l0_0 x11_1).f5), .slice A700_6 ((rd_T52 l0_0 x11_1).f6).length c700_6] 52 (0, 0)) (by (with_reducible repeat (first | refine zN ?_ _ | refine zD ?_ | refine zA ?_ _)); refine blk_put (cs := #[.string ((rd_T52 l0_0 x11_1).f0), .int .i64 ((rd_T52 l0_0 x11_1).f1), .int .i64 ((rd_T52 l0_0 x11_1).f2), .int .i64 ((rd_T52 l0_0 x11_1).f3), .bool ((rd_T52 l0_0 x11_1).f4), .bool ((rd_T52 l0_0 x11_1).f5), .slice none 0 0]) ?_ 6 _ rfl; (with_reducible repeat (first | refine zN ?_ _ | refine zD ?_ | refine zA ?_ _)); refine blk_put (cs := #[.string ((rd_T52 l0_0 x11_1).f0), .int .i64 ((rd_T52 l0_0 x11_1).f1), .int .i64 ((rd_T52 l0_0 x11_1).f2), .int .i64 ((rd_T52 l0_0 x11_1).f3), .bool ((rd_T52 l0_0 x11_1).f4), .bool false, .slice none 0 0]) ?_ 5 _ rfl; (with_reducible repeat (first | refine zN ?_ _ | refine zD ?_ | refine zA ?_ _)); refine blk_put (cs := #[.string ((rd_T52 l0_0 x11_1).f0), .int .i64 ((rd_T52 l0_0 x11_1).f1), .int .i64 ((rd_T52 l0_0 x11_1).f2), .int .i64 ((rd_T52 l0_0 x11_1).f3), .bool false, .bool false, .slice none 0 0]) ?_ 4 _ rfl; (with_reducible repeat (first | refine zN ?_ _ | refine zD ?_ | refine zA ?_ _)); refine blk_put (cs := #[.string ((rd_T52 l0_0 x11_1).f0), .int .i64 ((rd_T52 l0_0 x11_1).f1), .int .i64 ((rd_T52 l0_0 x11_1).f2), .int .i64 0, .bool false, .bool false, .slice none 0 0]) ?_ 3 _ rfl; (with_reducible repeat (first | refine zN ?_ _ | refine zD ?_ | refine zA ?_ _)); refine blk_put (cs := #[.string ((rd_T52 l0_0 x11_1).f0), .int .i64 ((rd_T52 l0_0 x11_1).f1), .int .i64 0, .int .i64 0, .bool false, .bool false, .slice none 0 0]) ?_ 2 _ rfl; (with_reducible repeat (first | refine zN ?_ _ | refine zD ?_ | refine zA ?_ _)); refine blk_put (cs := #[.string ((rd_T52 l0_0 x11_1).f0), .int .i64 0, .int .i64 0, .int .i64 0, .bool false, .bool false, .slice none 0 0]) ?_ 1 _ rfl; (with_reducible repeat (first | refine zN ?_ _ | refine zD ?_ | refine zA ?_ _)); refine blk_put (cs := #[.string (⟨#[]⟩ : ByteArray), .int .i64 0, .int .i64 0, .int .i64 0, .bool false, .bool false, .slice none 0 0]) ?_ 0 _ rfl; (with_reducible repeat (first | refine zN ?_ _ | refine zD ?_ | refine zA ?_ _)); exact BK701.out) hb); have n4_ := Aside0.mk (below_step (by repeat (first | (with_reducible first | exact HB.out | apply below_alloc | apply pw_below_drewN | apply below_drew1 | refine below_set ?_ GE698.out | refine below_set ?_ GE699.out | refine below_set ?_ GE701.out) | exact HB.out)) hb); clear BK698; clear BK699; clear BK701; clear HB; have HO704 := n0_; have BK698 := n1_; have BK699 := n2_; have BK701 := n3_; have HB := n4_; clear n0_ n1_ n2_ n3_ n4_; (try clear hb); (try clear hb2); (try clear hk); (try clear hi); (try clear ho0); obtain ⟨Ao17, co17, eo17⟩ := Kd.R_slice HO704.out; subst eo17; have hcz18_0 : w16.cell? ⟨gb701, 0, none⟩ = some (.string ((rd_T52 l0_0 x11_1).f0)) := (blk_cell BK701.out 0).trans rfl; have hcz18_1 : w16.cell? ⟨gb701, 1, none⟩ = some (.int .i64 ((rd_T52 l0_0 x11_1).f1)) := (blk_cell BK701.out 1).trans rfl; have hcz18_2 : w16.cell? ⟨gb701, 2, none⟩ = some (.int .i64 ((rd_T52 l0_0 x11_1).f2)) := (blk_cell BK701.out 2).trans rfl; have hcz18_3 : w16.cell? ⟨gb701, 3, none⟩ = some (.int .i64 ((rd_T52 l0_0 x11_1).f3)) := (blk_cell BK701.out 3).trans rfl; have hcz18_4 : w16.cell? ⟨gb701, 4, none⟩ = some (.bool ((rd_T52 l0_0 x11_1).f4)) := (blk_cell BK701.out 4).trans rfl; have hcz18_5 : w16.cell? ⟨gb701, 5, none⟩ = some (.bool ((rd_T52 l0_0 x11_1).f5)) := (blk_cell BK701.out 5).trans rfl; have hcz18_6 : w16.cell? ⟨gb701, 6, none⟩ = some (.slice A700_6 ((rd_T52 l0_0 x11_1).f6).length c700_6) := (blk_cell BK701.out 6).trans rfl; have hfz18_0 := blk_frozen BK701.out 0; have hfz18_1 := blk_frozen BK701.out 1; have hfz18_2 := blk_frozen BK701.out 2; have hfz18_3 := blk_frozen BK701.out 3; have hfz18_4 := blk_frozen BK701.out 4; have hfz18_5 := blk_frozen BK701.out 5; have hfz18_6 := blk_frozen BK701.out 6; have hnb19 := NB699_698.out; have hnc19 := NB698_699.out; have hcz20_0 : w16.cell? ⟨gb699, 0, none⟩ = some (.string x700000_1) := (blk_cell BK699.out 0).trans rfl; have hcz20_1 : w16.cell? ⟨gb699, 1, none⟩ = some (.int .i64 x700001_1) := (blk_cell BK699.out 1).trans rfl; have hcz20_2 : w16.cell? ⟨gb699, 2, none⟩ = some (.int .i64 x700002_1) := (blk_cell BK699.out 2).trans rfl; have hcz20_3 : w16.cell? ⟨gb699, 3, none⟩ = some (.int .i64 x700003_1) := (blk_cell BK699.out 3).trans rfl; have hcz20_4 : w16.cell? ⟨gb699, 4, none⟩ = some (.bool x700004_1) := (blk_cell BK699.out 4).trans rfl; have hcz20_5 : w16.cell? ⟨gb699, 5, none⟩ = some (.bool x700005_1) := (blk_cell BK699.out 5).trans rfl; have hcz20_6 : w16.cell? ⟨gb699, 6, none⟩ = some (.slice none 0 0) := (blk_cell BK699.out 6).trans rfl; have hfz20_0 := blk_frozen BK699.out 0; have hfz20_1 := blk_frozen BK699.out 1; have hfz20_2 := blk_frozen BK699.out 2; have hfz20_3 := blk_frozen BK699.out 3; have hfz20_4 := blk_frozen BK699.out 4; have hfz20_5 := blk_frozen BK699.out 5; have hfz20_6 := blk_frozen BK699.out 6))
       refine bodyPost_ret (results_ct rfl _ _ gb699 52 #[.string ((rd_T52 l0_0 x11_1).f0), .int .i64 ((rd_T52 l0_0 x11_1).f1), .int .i64 ((rd_T52 l0_0 x11_1).f2), .int .i64 ((rd_T52 l0_0 x11_1).f3), .bool ((rd_T52 l0_0 x11_1).f4), .bool ((rd_T52 l0_0 x11_1).f5), .slice Ao17 t702.length co17] (0, 0) _ rfl (by (with_reducible repeat (first | refine zN ?_ _ | refine zD ?_ | refine zA ?_ _)); refine blk_put (cs := #[.string ((rd_T52 l0_0 x11_1).f0), .int .i64 ((rd_T52 l0_0 x11_1).f1), .int .i64 ((rd_T52 l0_0 x11_1).f2), .int .i64 ((rd_T52 l0_0 x11_1).f3), .bool ((rd_T52 l0_0 x11_1).f4), .bool ((rd_T52 l0_0 x11_1).f5), .slice none 0 0]) ?_ 6 _ rfl; (with_reducible repeat (first | refine zN ?_ _ | refine zD ?_ | refine zA ?_ _)); refine blk_put (cs := #[.string ((rd_T52 l0_0 x11_1).f0), .int .i64 ((rd_T52 l0_0 x11_1).f1), .int .i64 ((rd_T52 l0_0 x11_1).f2), .int .i64 ((rd_T52 l0_0 x11_1).f3), .bool ((rd_T52 l0_0 x11_1).f4), .bool x700005_1, .slice none 0 0]) ?_ 5 _ rfl; (with_reducible repeat (first | refine zN ?_ _ | refine zD ?_ | refine zA ?_ _)); refine blk_put (cs := #[.string ((rd_T52 l0_0 x11_1).f0), .int .i64 ((rd_T52 l0_0 x11_1).f1), .int .i64 ((rd_T52 l0_0 x11_1).f2), .int .i64 ((rd_T52 l0_0 x11_1).f3), .bool x700004_1, .bool x700005_1, .slice none 0 0]) ?_ 4 _ rfl; (with_reducible repeat (first | refine zN ?_ _ | refine zD ?_ | refine zA ?_ _)); refine blk_put (cs := #[.string ((rd_T52 l0_0 x11_1).f0), .int .i64 ((rd_T52 l0_0 x11_1).f1), .int .i64 ((rd_T52 l0_0 x11_1).f2), .int .i64 x700003_1, .bool x700004_1, .bool x700005_1, .slice none 0 0]) ?_ 3 _ rfl; (with_reducible repeat (first | refine zN ?_ _ | refine zD ?_ | refine zA ?_ _)); refine blk_put (cs := #[.string ((rd_T52 l0_0 x11_1).f0), .int .i64 ((rd_T52 l0_0 x11_1).f1), .int .i64 x700002_1, .int .i64 x700003_1, .bool x700004_1, .bool x700005_1, .slice none 0 0]) ?_ 2 _ rfl; (with_reducible repeat (first | refine zN ?_ _ | refine zD ?_ | refine zA ?_ _)); refine blk_put (cs := #[.string ((rd_T52 l0_0 x11_1).f0), .int .i64 x700001_1, .int .i64 x700002_1, .int .i64 x700003_1, .bool x700004_1, .bool x700005_1, .slice none 0 0]) ?_ 1 _ rfl; (with_reducible repeat (first | refine zN ?_ _ | refine zD ?_ | refine zA ?_ _)); refine blk_put (cs := #[.string x700000_1, .int .i64 x700001_1, .int .i64 x700002_1, .int .i64 x700003_1, .bool x700004_1, .bool x700005_1, .slice none 0 0]) ?_ 0 _ rfl; (with_reducible repeat (first | refine zN ?_ _ | refine zD ?_ | refine zA ?_ _)); refine blk_far ?_ NB699_701.out _; (with_reducible repeat (first | refine zN ?_ _ | refine zD ?_ | refine zA ?_ _)); exact BK699.out) Tryz.underlying52 rfl (by kernel_rfl)) rfl ?_
       exact ⟨_, by first | rfl | (simp [errW_none, errW_some] <;> rfl) | (simp [*, errW_none, errW_some] <;> rfl), by (with_reducible repeat (first | apply Kd.R_alloc | apply Kd.R_drewN | apply Kd.R_drew)); exact Kd.R_mono (Kd.R_far (p := ⟨gb699, 6, none⟩) (Kd.R_far (p := ⟨gb699, 5, none⟩) (Kd.R_far (p := ⟨gb699, 4, none⟩) (Kd.R_far (p := ⟨gb699, 3, none⟩) (Kd.R_far (p := ⟨gb699, 2, none⟩) (Kd.R_far (p := ⟨gb699, 1, none⟩) (Kd.R_far (p := ⟨gb699, 0, none⟩) (Kd.R_far (p := ⟨gb701, 6, none⟩) (Kd.R_types (Kd.R_types HO704.out BK701.out (by decide)) BK699.out (by decide)) (fun _ hk => hk.1.2) (.slice Ao17 t702.length co17)) (fun _ hk => hk.2) (.string ((rd_T52 l0_0 x11_1).f0))) (fun _ hk => hk.2) (.int .i64 ((rd_T52 l0_0 x11_1).f1))) (fun _ hk => hk.2) (.int .i64 ((rd_T52 l0_0 x11_1).f2))) (fun _ hk => hk.2) (.int .i64 ((rd_T52 l0_0 x11_1).f3))) (fun _ hk => hk.2) (.bool ((rd_T52 l0_0 x11_1).f4))) (fun _ hk => hk.2) (.bool ((rd_T52 l0_0 x11_1).f5))) (fun _ hk => hk.2) (.slice Ao17 t702.length co17)) (fun _ hk => trivial), by repeat (first | (with_reducible first | exact HB.out | apply below_alloc | apply pw_below_drewN | apply below_drew1 | refine below_set ?_ GE698.out | refine below_set ?_ GE699.out | refine below_set ?_ GE701.out) | exact HB.out)⟩
      ·
       rw [if_neg c10] at H
       have c10b0 : (((rd_T52 l0_0 x11_1).f0).toList == a1.toList) = false := beq_eq_false_iff_ne.mpr c10
       have c10b1 : (((rd_T52 l0_0 x11_1).f0).toList != a1.toList) = true := bne_iff_ne.mpr c10
       have H' := Aside0.mk H
       clear H
       have p700 : 0 ≤ (x11_1 : Int) := of_decide_eq_true (by first | (with_reducible assumption) | assumption)
       have q700 : x11_1 < (l0_0.length : Int) := of_decide_eq_true (by first | (with_reducible assumption) | assumption)
       obtain ⟨ad700, A700_6, c700_6, e700, hx700_0, hx700_1, hx700_2, hx700_3, hx700_4, hx700_5, hx700_6, hl700_6, hi700_6⟩ := at_T52 HR0_0.out x11_1 p700 q700
       cases e700
       replace hx700_0 := (HB.out.cell (World.block_lt_of_cell? w _ hx700_0)).trans hx700_0
       replace hx700_1 := (HB.out.cell (World.block_lt_of_cell? w _ hx700_1)).trans hx700_1
       replace hx700_2 := (HB.out.cell (World.block_lt_of_cell? w _ hx700_2)).trans hx700_2
       replace hx700_3 := (HB.out.cell (World.block_lt_of_cell? w _ hx700_3)).trans hx700_3
       replace hx700_4 := (HB.out.cell (World.block_lt_of_cell? w _ hx700_4)).trans hx700_4
       replace hx700_5 := (HB.out.cell (World.block_lt_of_cell? w _ hx700_5)).trans hx700_5
       replace hx700_6 := (HB.out.cell (World.block_lt_of_cell? w _ hx700_6)).trans hx700_6
       have HR700_6 := Aside0.mk hi700_6
       have HC700_6 := Aside0.mk hl700_6
       clear hi700_6 hl700_6
       replace p700 := eq_true p700
       replace q700 := eq_true q700
       go_wp2_with (first | ((with_reducible refine gate_dst (N := 7) rfl ?_); refine box_event ?hg (N := 7) ?hd (cs := #[.string (⟨#[]⟩ : ByteArray), .int .i64 0, .int .i64 0, .int .i64 0, .bool false, .bool false, .slice none 0 0]) (t := 52) ?hr ?_; (case hd => rfl); (case hg => rfl); (case hr => first | (go_simp; done) | (go_simp; rfl)); intro gb701 hg w21 hbox hb; have n0_ := Aside0.mk (blk_below (g := gb698) (o := .cells #[.slice (some ad700) l0_0.length c0_0] 24 (0, 0)) (by (with_reducible repeat (first | refine zN ?_ _ | refine zD ?_ | refine zA ?_ _)); exact BK698.out) hb); have n1_ := Aside0.mk (blk_below (g := gb699) (o := .cells #[.string x700000_1, .int .i64 x700001_1, .int .i64 x700002_1, .int .i64 x700003_1, .bool x700004_1, .bool x700005_1, .slice none 0 0] 52 (0, 0)) (by (with_reducible repeat (first | refine zN ?_ _ | refine zD ?_ | refine zA ?_ _)); exact BK699.out) hb); have n2_ := Aside0.mk (below_step (by repeat (first | (with_reducible first | exact HB.out | apply below_alloc | apply pw_below_drewN | apply below_drew1 | refine below_set ?_ GE698.out | refine below_set ?_ GE699.out) | exact HB.out)) hb); have n3_ := Aside0.mk (hbox); have n4_ := Aside0.mk ((by rw [hg]; exact (below_size (by repeat (first | (with_reducible first | exact HB.out | apply below_alloc | apply pw_below_drewN | apply below_drew1 | refine below_set ?_ GE698.out | refine below_set ?_ GE699.out) | exact HB.out))) : w.heap.size ≤ gb701)); have n5_ := Aside0.mk ((by rw [hg]; exact (below_size (by repeat (first | (with_reducible first | exact HB.out | apply below_alloc | apply pw_below_drewN | apply below_drew1 | refine below_set ?_ GE698.out | refine below_set ?_ GE699.out) | exact HB.out))) : w.heap.size ≤ gb701)); have n6_ := Aside0.mk ((by rw [hg]; exact Nat.ne_of_lt (blk_lt (g := gb698) (o := .cells #[.slice (some ad700) l0_0.length c0_0] 24 (0, 0)) (by (with_reducible repeat (first | refine zN ?_ _ | refine zD ?_ | refine zA ?_ _)); exact BK698.out)) : gb698 ≠ gb701)); have n7_ := Aside0.mk ((by rw [hg]; exact Nat.ne_of_gt (blk_lt (g := gb698) (o := .cells #[.slice (some ad700) l0_0.length c0_0] 24 (0, 0)) (by (with_reducible repeat (first | refine zN ?_ _ | refine zD ?_ | refine zA ?_ _)); exact BK698.out)) : gb701 ≠ gb698)); have n8_ := Aside0.mk ((by rw [hg]; exact Nat.ne_of_lt (blk_lt (g := gb699) (o := .cells #[.string x700000_1, .int .i64 x700001_1, .int .i64 x700002_1, .int .i64 x700003_1, .bool x700004_1, .bool x700005_1, .slice none 0 0] 52 (0, 0)) (by (with_reducible repeat (first | refine zN ?_ _ | refine zD ?_ | refine zA ?_ _)); exact BK699.out)) : gb699 ≠ gb701)); have n9_ := Aside0.mk ((by rw [hg]; exact Nat.ne_of_gt (blk_lt (g := gb699) (o := .cells #[.string x700000_1, .int .i64 x700001_1, .int .i64 x700002_1, .int .i64 x700003_1, .bool x700004_1, .bool x700005_1, .slice none 0 0] 52 (0, 0)) (by (with_reducible repeat (first | refine zN ?_ _ | refine zD ?_ | refine zA ?_ _)); exact BK699.out)) : gb701 ≠ gb699)); clear BK698; clear BK699; clear HB; have BK698 := n0_; have BK699 := n1_; have HB := n2_; have BK701 := n3_; have GW701 := n4_; have GE701 := n5_; have NB698_701 := n6_; have NB701_698 := n7_; have NB699_701 := n8_; have NB701_699 := n9_; clear n0_ n1_ n2_ n3_ n4_ n5_ n6_ n7_ n8_ n9_; clear hb hbox hg; have hnb22 := NB701_698.out; have hnc22 := NB698_701.out; have hnb23 := NB701_699.out; have hnc23 := NB699_701.out; have hcz24_0 : w21.cell? ⟨gb701, 0, none⟩ = some (.string (⟨#[]⟩ : ByteArray)) := (blk_cell BK701.out 0).trans rfl; have hcz24_1 : w21.cell? ⟨gb701, 1, none⟩ = some (.int .i64 0) := (blk_cell BK701.out 1).trans rfl; have hcz24_2 : w21.cell? ⟨gb701, 2, none⟩ = some (.int .i64 0) := (blk_cell BK701.out 2).trans rfl; have hcz24_3 : w21.cell? ⟨gb701, 3, none⟩ = some (.int .i64 0) := (blk_cell BK701.out 3).trans rfl; have hcz24_4 : w21.cell? ⟨gb701, 4, none⟩ = some (.bool false) := (blk_cell BK701.out 4).trans rfl; have hcz24_5 : w21.cell? ⟨gb701, 5, none⟩ = some (.bool false) := (blk_cell BK701.out 5).trans rfl; have hcz24_6 : w21.cell? ⟨gb701, 6, none⟩ = some (.slice none 0 0) := (blk_cell BK701.out 6).trans rfl; have hfz24_0 := blk_frozen BK701.out 0; have hfz24_1 := blk_frozen BK701.out 1; have hfz24_2 := blk_frozen BK701.out 2; have hfz24_3 := blk_frozen BK701.out 3; have hfz24_4 := blk_frozen BK701.out 4; have hfz24_5 := blk_frozen BK701.out 5; have hfz24_6 := blk_frozen BK701.out 6))
       go_roundg k1
       case measure => have := HK1.out; omega
       case rel => exact ⟨(wrap64 (x11_1 + 1)), (x700000_1), (x700001_1), (x700002_1), (x700003_1), (x700004_1), (x700005_1), (by first | rfl | (simp; done) | (simp [*]; done)), H', ⟨by have := HK1.out; omega⟩, ⟨by (with_reducible repeat (first | refine zN ?_ _ | refine zD ?_ | refine zA ?_ _)); refine blk_far ?_ NB698_701.out _; (with_reducible repeat (first | refine zN ?_ _ | refine zD ?_ | refine zA ?_ _)); refine blk_far ?_ NB698_701.out _; (with_reducible repeat (first | refine zN ?_ _ | refine zD ?_ | refine zA ?_ _)); refine blk_far ?_ NB698_701.out _; (with_reducible repeat (first | refine zN ?_ _ | refine zD ?_ | refine zA ?_ _)); refine blk_far ?_ NB698_701.out _; (with_reducible repeat (first | refine zN ?_ _ | refine zD ?_ | refine zA ?_ _)); refine blk_far ?_ NB698_701.out _; (with_reducible repeat (first | refine zN ?_ _ | refine zD ?_ | refine zA ?_ _)); refine blk_far ?_ NB698_701.out _; (with_reducible repeat (first | refine zN ?_ _ | refine zD ?_ | refine zA ?_ _)); refine blk_far ?_ NB698_701.out _; (with_reducible repeat (first | refine zN ?_ _ | refine zD ?_ | refine zA ?_ _)); exact BK698.out⟩, ⟨by (with_reducible repeat (first | refine zN ?_ _ | refine zD ?_ | refine zA ?_ _)); refine blk_far ?_ NB699_701.out _; (with_reducible repeat (first | refine zN ?_ _ | refine zD ?_ | refine zA ?_ _)); refine blk_far ?_ NB699_701.out _; (with_reducible repeat (first | refine zN ?_ _ | refine zD ?_ | refine zA ?_ _)); refine blk_far ?_ NB699_701.out _; (with_reducible repeat (first | refine zN ?_ _ | refine zD ?_ | refine zA ?_ _)); refine blk_far ?_ NB699_701.out _; (with_reducible repeat (first | refine zN ?_ _ | refine zD ?_ | refine zA ?_ _)); refine blk_far ?_ NB699_701.out _; (with_reducible repeat (first | refine zN ?_ _ | refine zD ?_ | refine zA ?_ _)); refine blk_far ?_ NB699_701.out _; (with_reducible repeat (first | refine zN ?_ _ | refine zD ?_ | refine zA ?_ _)); refine blk_far ?_ NB699_701.out _; (with_reducible repeat (first | refine zN ?_ _ | refine zD ?_ | refine zA ?_ _)); exact BK699.out⟩, ⟨by repeat (first | (with_reducible first | exact HB.out | apply below_alloc | apply pw_below_drewN | apply below_drew1 | refine below_set ?_ GE698.out | refine below_set ?_ GE699.out | refine below_set ?_ GE701.out) | exact HB.out)⟩⟩
     ·
      rw [if_neg c9] at H
      exact absurd H (by simp)
    ·
     rw [if_neg c8] at H
     exact absurd H (by simp)
   ·
    rw [if_neg c7] at H
    have c7b0 : decide (x11_1 < (l0_0.length : Int)) = false := decide_eq_false c7
    clear c7
    simp only [Option.some.injEq, Prod.mk.injEq] at H
    obtain ⟨rfl, rfl, rfl, rfl, rfl, rfl, rfl, rfl⟩ := H
    have hnb25 := NB699_698.out
    have hnc25 := NB698_699.out
    have hcz26_0 : wr.cell? ⟨gb699, 0, none⟩ = some (.string x700000_1) := (blk_cell BK699.out 0).trans rfl
    have hcz26_1 : wr.cell? ⟨gb699, 1, none⟩ = some (.int .i64 x700001_1) := (blk_cell BK699.out 1).trans rfl
    have hcz26_2 : wr.cell? ⟨gb699, 2, none⟩ = some (.int .i64 x700002_1) := (blk_cell BK699.out 2).trans rfl
    have hcz26_3 : wr.cell? ⟨gb699, 3, none⟩ = some (.int .i64 x700003_1) := (blk_cell BK699.out 3).trans rfl
    have hcz26_4 : wr.cell? ⟨gb699, 4, none⟩ = some (.bool x700004_1) := (blk_cell BK699.out 4).trans rfl
    have hcz26_5 : wr.cell? ⟨gb699, 5, none⟩ = some (.bool x700005_1) := (blk_cell BK699.out 5).trans rfl
    have hcz26_6 : wr.cell? ⟨gb699, 6, none⟩ = some (.slice none 0 0) := (blk_cell BK699.out 6).trans rfl
    have hfz26_0 := blk_frozen BK699.out 0
    have hfz26_1 := blk_frozen BK699.out 1
    have hfz26_2 := blk_frozen BK699.out 2
    have hfz26_3 := blk_frozen BK699.out 3
    have hfz26_4 := blk_frozen BK699.out 4
    have hfz26_5 := blk_frozen BK699.out 5
    have hfz26_6 := blk_frozen BK699.out 6
    go_wp2
    refine bodyPost_ret (results_ct rfl _ _ gb699 52 #[.string (⟨#[]⟩ : ByteArray), .int .i64 0, .int .i64 0, .int .i64 0, .bool false, .bool false, .slice none 0 0] (0, 0) _ rfl (by (with_reducible repeat (first | refine zN ?_ _ | refine zD ?_ | refine zA ?_ _)); refine blk_put (cs := #[.string (⟨#[]⟩ : ByteArray), .int .i64 0, .int .i64 0, .int .i64 0, .bool false, .bool false, .slice none 0 0]) ?_ 6 _ rfl; (with_reducible repeat (first | refine zN ?_ _ | refine zD ?_ | refine zA ?_ _)); refine blk_put (cs := #[.string (⟨#[]⟩ : ByteArray), .int .i64 0, .int .i64 0, .int .i64 0, .bool false, .bool x700005_1, .slice none 0 0]) ?_ 5 _ rfl; (with_reducible repeat (first | refine zN ?_ _ | refine zD ?_ | refine zA ?_ _)); refine blk_put (cs := #[.string (⟨#[]⟩ : ByteArray), .int .i64 0, .int .i64 0, .int .i64 0, .bool x700004_1, .bool x700005_1, .slice none 0 0]) ?_ 4 _ rfl; (with_reducible repeat (first | refine zN ?_ _ | refine zD ?_ | refine zA ?_ _)); refine blk_put (cs := #[.string (⟨#[]⟩ : ByteArray), .int .i64 0, .int .i64 0, .int .i64 x700003_1, .bool x700004_1, .bool x700005_1, .slice none 0 0]) ?_ 3 _ rfl; (with_reducible repeat (first | refine zN ?_ _ | refine zD ?_ | refine zA ?_ _)); refine blk_put (cs := #[.string (⟨#[]⟩ : ByteArray), .int .i64 0, .int .i64 x700002_1, .int .i64 x700003_1, .bool x700004_1, .bool x700005_1, .slice none 0 0]) ?_ 2 _ rfl; (with_reducible repeat (first | refine zN ?_ _ | refine zD ?_ | refine zA ?_ _)); refine blk_put (cs := #[.string (⟨#[]⟩ : ByteArray), .int .i64 x700001_1, .int .i64 x700002_1, .int .i64 x700003_1, .bool x700004_1, .bool x700005_1, .slice none 0 0]) ?_ 1 _ rfl; (with_reducible repeat (first | refine zN ?_ _ | refine zD ?_ | refine zA ?_ _)); refine blk_put (cs := #[.string x700000_1, .int .i64 x700001_1, .int .i64 x700002_1, .int .i64 x700003_1, .bool x700004_1, .bool x700005_1, .slice none 0 0]) ?_ 0 _ rfl; (with_reducible repeat (first | refine zN ?_ _ | refine zD ?_ | refine zA ?_ _)); exact BK699.out) Tryz.underlying52 rfl (by kernel_rfl)) rfl ?_
    exact ⟨_, by first | rfl | (simp [errW_none, errW_some] <;> rfl) | (simp [*, errW_none, errW_some] <;> rfl), by first | exact Kd.R_nil _ _ _ _ _ | exact Kd.N_nil _ _ _ _ _ | exact Kd.V_nil _ _ _ _ _ | exact Kd.Q_nil _ _ _ _ _ | exact Kd.S_nil _ _ _ _ _, by repeat (first | (with_reducible first | exact HB.out | apply below_alloc | apply pw_below_drewN | apply below_drew1 | refine below_set ?_ GE698.out | refine below_set ?_ GE699.out) | exact HB.out)⟩
end Go.Proofs.YtcoaajkhfgakgaaGreatDoor.Pr
end

section
namespace Go.Proofs.YtcoaajkhfgakgaaGreatDoor.Pr
open Go.RowKit Go.Proofs.YtcoaajkhfgakgaaGreatDoorW.PrintWords Go.Proofs.YtcoaajkhfgakgaaGreatDoorW.PrintLast Go.Proofs.YtcoaajkhfgakgaaGreatDoorW.PrintMore
set_option linter.unusedVariables false
set_option linter.unusedSimpArgs false
theorem infoSite : (Tryz.prog.info? 52).map (fun i => (i.zero, i.size, i.bytes)) = some (some (.agg #[(.string ⟨#[]⟩), (.int .i64 0), (.int .i64 0), (.int .i64 0), (.bool false), (.bool false), (.slice none 0 0)]), 7, 72) := by kernel_rfl
def findS (a : ByteArray) (l : List S52) : S52 × Bool :=
  match l.find? (fun x => decide (x.f0 = a)) with
  | some x => (x, true)
  | none => (z52, false)
theorem rd_at (l : List S52) (i : Nat) (h : i < l.length) : rd_T52 l (i : Int) = l[i] := by
  unfold rd_T52
  rw [show ((i : Int)).toNat = i from by simp, List.getD_eq_getElem?_getD, List.getElem?_eq_getElem h]
  rfl
theorem find_of_l (a : ByteArray) (l : List S52) (hl : l.length ≤ 274877906944) (hh : ∀ x ∈ l, x.f6.length ≤ 8796093022208) : ∀ (k i : Nat), i ≤ l.length → l.length - i < k →
    conf_Config_Find.l0 k a l (l.length : Int) (i : Int) = some ((findS a (l.drop i)).1.f0, (findS a (l.drop i)).1.f1, (findS a (l.drop i)).1.f2, (findS a (l.drop i)).1.f3, (findS a (l.drop i)).1.f4, (findS a (l.drop i)).1.f5, (findS a (l.drop i)).1.f6, (findS a (l.drop i)).2)
  | 0, i, _, h => by omega
  | k + 1, i, h1, h2 => by
    unfold conf_Config_Find.l0
    by_cases hlt : i < l.length
    · have hz : (i : Int) < (l.length : Int) := by omega
      rw [if_pos hz, if_pos (by omega), if_pos hz, rd_at l i hlt, List.drop_eq_getElem_cons hlt]
      by_cases he : l[i].f0 = a
      · have e1 : findS a (l[i] :: l.drop (i + 1)) = (l[i], true) := by
          unfold findS
          rw [List.find?_cons_of_pos (by simp [he])]
        rw [if_pos (by rw [he]), e1]
        have hx := hh l[i] (List.getElem_mem hlt)
        simp only [slices_Clone_string_string.f, hx, if_true, Option.bind_some]
      · have e1 : findS a (l[i] :: l.drop (i + 1)) = findS a (l.drop (i + 1)) := by
          unfold findS
          rw [List.find?_cons_of_neg (by simp [he])]
        rw [if_neg (fun e => he (toList_inj.1 e)), e1]
        have hw : wrap64 ((i : Int) + 1) = ((i + 1 : Nat) : Int) := by unfold wrap64; omega
        rw [hw]
        exact find_of_l a l hl hh k (i + 1) (by omega) (by omega)
    · have hz : ¬ (i : Int) < (l.length : Int) := by omega
      rw [if_neg hz, List.drop_eq_nil_of_le (by omega)]
      rfl
theorem find_of (a : ByteArray) (l : List S52) (hl : l.length ≤ 274877906944) (hh : ∀ x ∈ l, x.f6.length ≤ 8796093022208) (k : Nat) (hk : l.length < k) :
    conf_Config_Find.f k l a = some ((findS a l).1.f0, (findS a l).1.f1, (findS a l).1.f2, (findS a l).1.f3, (findS a l).1.f4, (findS a l).1.f5, (findS a l).1.f6, (findS a l).2) :=
  find_of_l a l hl hh k 0 (Nat.zero_le _) (by omega)
def rulesF : Nat → St → Sv → List ByteArray → Option (St × Sv)
  | 0, _, _, _ => none
  | f + 1, st, s, seen =>
    if st.code = 0 then
      if nextS st = ⟨#[125]⟩ then some (st, s)
      else (ruleF f st s seen).bind fun r => rulesF f r.1 r.2.1 r.2.2
    else some (st, s)
def mkSite (s : Sv) : S52 := ⟨s.host, s.origin, s.mn, s.mx, s.q, s.kp, s.hs⟩
def headS (st : St) (sites : List S52) : St := mustS (if nextS st = ⟨#[115, 105, 116, 101]⟩ ∧ sites.length = 8 then failS st 32 else st) ⟨#[115, 105, 116, 101]⟩
def hostS (st : St) (sites : List S52) : St :=
  if (findS (nextS st) sites).2 = true then failS (if st.code = 0 ∧ ¬ ((hostV (nextS st)).2 = 0 ∧ (hostV (nextS st)).1 = nextS st) then failS st 30 else st) 31
  else (if st.code = 0 ∧ ¬ ((hostV (nextS st)).2 = 0 ∧ (hostV (nextS st)).1 = nextS st) then failS st 30 else st)
def siteF (k : Nat) (st : St) (sites : List S52) : Option (St × List S52) :=
  (rulesF k (mustS (takeS (hostS (headS st sites) sites)) ⟨#[123]⟩) ⟨nextS (headS st sites), 1, 0, 3600, true, true, []⟩ []).map fun r => (mustS r.1 ⟨#[125]⟩, sites ++ [mkSite r.2])
structure SI (w0 W : World) (g gc : Nat) (st : St) (sites : List S52) (v : Value) : Prop where
  rd : IsRd w0 W g st
  bel : Below w0.heap.size w0 W
  box : W.heap[gc]? = some (.cells #[v] 24 (0, 0))
  own : Kd.R k52 52 W w0.heap.size (fun k => k ≠ g ∧ k ≠ gc) v sites
  small : ∀ x ∈ st.l, x.s.size ≤ 274877906944
  heads : ∀ x ∈ sites, x.f6.length ≤ 4
section
variable {w0 W W' : World} {g gc : Nat} {st st' : St} {sites : List S52} {v : Value}
theorem SI.reader (h : SI w0 W g gc st sites v) (hne : gc ≠ g) (h1 : IsRd w0 W' g st') (h2 : Below w0.heap.size w0 W') (h3 : KeepBut W W' g none) (h4 : ∀ x ∈ st'.l, x ∈ st.l) : SI w0 W' g gc st' sites v :=
  ⟨h1, h2, (h3.2 gc (blk_lt h.box) hne (by simp)).trans h.box, Kd.R_keep h.own h3 (fun k hk => hk.1), fun x hx => h.small x (h4 x hx), h.heads⟩
theorem SI.below (h : SI w0 W g gc st sites v) (hb : Below W.heap.size W W') : SI w0 W' g gc st sites v :=
  ⟨h.rd.below hb, below_then h.bel h.bel.size hb, (hb.block gc (blk_lt h.box)).trans h.box, Kd.R_below h.own hb, h.small, h.heads⟩
end
end Go.Proofs.YtcoaajkhfgakgaaGreatDoor.Pr
end

section
namespace Go.Proofs
open Go.Shelf
def Tryz.keys66_ren : Go.Shelf.Ren := ⟨fun | 7 => 66 | 10 => 100 | n => n, fun | 23 => 124 | 26 => 9 | 3 => 3 | 28 => 127 | 0 => 0 | 27 => 126 | 33 => 49 | 4 => 4 | n => n, fun | n => n⟩
theorem Tryz.keys66 : Go.Proofs.SlLaysZ.n7 Tryz.prog Tryz.keys66_ren := {
  mixed := by kernel_rfl
  f7 := ⟨Tryz.f66.name, by decide, Tryz.func66.trans (congrArg some (by kernel_rfl))⟩
  f10 := ⟨Tryz.f100.name, by decide, Tryz.func100.trans (congrArg some (by kernel_rfl))⟩
  t0 := Tryz.underlying0
  a0 := Tryz.isAgg0
  z0 := Tryz.sizeOf0
  v0 := Tryz.zeroValue0
  t4 := Tryz.underlying4
  a4 := Tryz.isAgg4
  z4 := Tryz.sizeOf4
  v4 := Tryz.zeroValue4
  t23 := Tryz.underlying124
  a23 := Tryz.isAgg124
  z23 := Tryz.sizeOf124
  v23 := Tryz.zeroValue124
  t26 := Tryz.underlying9
  a26 := Tryz.isAgg9
  z26 := Tryz.sizeOf9
  v26 := Tryz.zeroValue9
  t27 := Tryz.underlying126
  a27 := Tryz.isAgg126
  z27 := Tryz.sizeOf126
  v27 := Tryz.zeroValue126
  t28 := Tryz.underlying127
  a28 := Tryz.isAgg127
  z28 := Tryz.sizeOf127
  v28 := Tryz.zeroValue127
  t33 := Tryz.underlying49
  a33 := Tryz.isAgg49
  z33 := Tryz.sizeOf49
  v33 := Tryz.zeroValue49 }
def Tryz.sorted65_ren : Go.Shelf.Ren := ⟨fun | 6 => 65 | 8 => 98 | 9 => 99 | 11 => 118 | 13 => 120 | 12 => 119 | 23 => 142 | 24 => 143 | 14 => 133 | 15 => 134 | 16 => 135 | 17 => 136 | 18 => 137 | 19 => 138 | 20 => 139 | 21 => 140 | 22 => 141 | 25 => 157 | 26 => 158 | 27 => 159 | 28 => 160 | 29 => 161 | 30 => 162 | 31 => 172 | n => n, fun | 26 => 9 | 28 => 127 | 24 => 50 | 0 => 0 | 3 => 3 | 37 => 170 | 48 => 190 | 50 => 176 | 4 => 4 | 40 => 183 | 39 => 182 | 45 => 142 | 5 => 5 | 9 => 9 | 51 => 198 | 55 => 202 | 57 => 217 | 58 => 218 | 33 => 49 | n => n, fun | n => n⟩
theorem Tryz.sorted65 : Go.Proofs.SlLaysZ.n6 Tryz.prog Tryz.sorted65_ren := {
  mixed := by kernel_rfl
  f6 := ⟨Tryz.f65.name, by decide, Tryz.func65.trans (congrArg some (by kernel_rfl))⟩
  f8 := ⟨Tryz.f98.name, by decide, Tryz.func98.trans (congrArg some (by kernel_rfl))⟩
  f11 := ⟨Tryz.f118.name, by decide, Tryz.func118.trans (congrArg some (by kernel_rfl))⟩
  t0 := Tryz.underlying0
  a0 := Tryz.isAgg0
  z0 := Tryz.sizeOf0
  v0 := Tryz.zeroValue0
  t24 := Tryz.underlying50
  a24 := Tryz.isAgg50
  z24 := Tryz.sizeOf50
  v24 := Tryz.zeroValue50
  t26 := Tryz.underlying9
  a26 := Tryz.isAgg9
  z26 := Tryz.sizeOf9
  v26 := Tryz.zeroValue9
  t28 := Tryz.underlying127
  a28 := Tryz.isAgg127
  z28 := Tryz.sizeOf127
  v28 := Tryz.zeroValue127
  i26 := by kernel_rfl }
def Tryz.sort99_ren : Go.Shelf.Ren := ⟨fun | 6 => 99 | 8 => 120 | 9 => 119 | 19 => 142 | 20 => 143 | 21 => 133 | 22 => 134 | 23 => 135 | 24 => 136 | 25 => 137 | 26 => 138 | 27 => 139 | 28 => 140 | 29 => 141 | 36 => 157 | 31 => 158 | 32 => 159 | 37 => 160 | 38 => 161 | 39 => 162 | 41 => 172 | n => n, fun | 27 => 50 | 29 => 9 | 3 => 3 | 32 => 170 | 26 => 50 | 0 => 0 | 44 => 190 | 46 => 176 | 4 => 4 | 36 => 183 | 35 => 182 | 41 => 142 | 5 => 5 | 9 => 9 | 53 => 198 | 57 => 202 | 63 => 217 | 64 => 218 | n => n, fun | n => n⟩
theorem Tryz.sort99 : Go.Proofs.SlLaysM.n6 Tryz.prog Tryz.sort99_ren := {
  mixed := by kernel_rfl
  f6 := ⟨Tryz.f99.name, by decide, Tryz.func99.trans (congrArg some (by kernel_rfl))⟩
  f8 := Tryz.func120.trans (congrArg some (by kernel_rfl))
  f9 := ⟨Tryz.f119.name, by decide, Tryz.func119.trans (congrArg some (by kernel_rfl))⟩
  f19 := Tryz.func142.trans (congrArg some (by kernel_rfl))
  f20 := Tryz.func143.trans (congrArg some (by kernel_rfl))
  f21 := ⟨Tryz.f133.name, by decide, Tryz.func133.trans (congrArg some (by kernel_rfl))⟩
  f22 := ⟨Tryz.f134.name, by decide, Tryz.func134.trans (congrArg some (by kernel_rfl))⟩
  f23 := ⟨Tryz.f135.name, by decide, Tryz.func135.trans (congrArg some (by kernel_rfl))⟩
  f24 := ⟨Tryz.f136.name, by decide, Tryz.func136.trans (congrArg some (by kernel_rfl))⟩
  f25 := ⟨Tryz.f137.name, by decide, Tryz.func137.trans (congrArg some (by kernel_rfl))⟩
  f26 := ⟨Tryz.f138.name, by decide, Tryz.func138.trans (congrArg some (by kernel_rfl))⟩
  f27 := ⟨Tryz.f139.name, by decide, Tryz.func139.trans (congrArg some (by kernel_rfl))⟩
  f28 := ⟨Tryz.f140.name, by decide, Tryz.func140.trans (congrArg some (by kernel_rfl))⟩
  f29 := ⟨Tryz.f141.name, by decide, Tryz.func141.trans (congrArg some (by kernel_rfl))⟩
  f31 := Tryz.func158.trans (congrArg some (by kernel_rfl))
  f32 := Tryz.func159.trans (congrArg some (by kernel_rfl))
  f36 := ⟨Tryz.f157.name, by decide, Tryz.func157.trans (congrArg some (by kernel_rfl))⟩
  f37 := ⟨Tryz.f160.name, by decide, Tryz.func160.trans (congrArg some (by kernel_rfl))⟩
  f38 := ⟨Tryz.f161.name, by decide, Tryz.func161.trans (congrArg some (by kernel_rfl))⟩
  f39 := ⟨Tryz.f162.name, by decide, Tryz.func162.trans (congrArg some (by kernel_rfl))⟩
  f41 := ⟨Tryz.f172.name, by decide, Tryz.func172.trans (congrArg some (by kernel_rfl))⟩
  t0 := Tryz.underlying0
  a0 := Tryz.isAgg0
  z0 := Tryz.sizeOf0
  v0 := Tryz.zeroValue0
  t3 := Tryz.underlying3
  a3 := Tryz.isAgg3
  z3 := Tryz.sizeOf3
  v3 := Tryz.zeroValue3
  t4 := Tryz.underlying4
  a4 := Tryz.isAgg4
  z4 := Tryz.sizeOf4
  v4 := Tryz.zeroValue4
  t5 := Tryz.underlying5
  a5 := Tryz.isAgg5
  z5 := Tryz.sizeOf5
  v5 := Tryz.zeroValue5
  t9 := Tryz.underlying9
  a9 := Tryz.isAgg9
  z9 := Tryz.sizeOf9
  v9 := Tryz.zeroValue9
  t26 := Tryz.underlying50
  a26 := Tryz.isAgg50
  z26 := Tryz.sizeOf50
  v26 := Tryz.zeroValue50
  t27 := Tryz.underlying50
  a27 := Tryz.isAgg50
  z27 := Tryz.sizeOf50
  v27 := Tryz.zeroValue50
  t29 := Tryz.underlying9
  a29 := Tryz.isAgg9
  z29 := Tryz.sizeOf9
  v29 := Tryz.zeroValue9
  t32 := Tryz.underlying170
  a32 := Tryz.isAgg170
  z32 := Tryz.sizeOf170
  v32 := Tryz.zeroValue170
  t35 := Tryz.underlying182
  a35 := Tryz.isAgg182
  z35 := Tryz.sizeOf182
  v35 := Tryz.zeroValue182
  t36 := Tryz.underlying183
  a36 := Tryz.isAgg183
  z36 := Tryz.sizeOf183
  v36 := Tryz.zeroValue183
  t41 := Tryz.underlying142
  a41 := Tryz.isAgg142
  z41 := Tryz.sizeOf142
  v41 := Tryz.zeroValue142
  t44 := Tryz.underlying190
  a44 := Tryz.isAgg190
  z44 := Tryz.sizeOf190
  v44 := Tryz.zeroValue190
  t46 := Tryz.underlying176
  a46 := Tryz.isAgg176
  z46 := Tryz.sizeOf176
  v46 := Tryz.zeroValue176
  t53 := Tryz.underlying198
  a53 := Tryz.isAgg198
  z53 := Tryz.sizeOf198
  v53 := Tryz.zeroValue198
  t57 := Tryz.underlying202
  a57 := Tryz.isAgg202
  z57 := Tryz.sizeOf202
  v57 := Tryz.zeroValue202
  t63 := Tryz.underlying217
  a63 := Tryz.isAgg217
  z63 := Tryz.sizeOf217
  v63 := Tryz.zeroValue217
  t64 := Tryz.underlying218
  a64 := Tryz.isAgg218
  z64 := Tryz.sizeOf218
  v64 := Tryz.zeroValue218 }
open Go.RowKit Go.Maps Go.Sort in
theorem Tryz.sorts65 (m : Nat) : AnyZ.SortsIn Tryz.prog Tryz.sorted65_ren Fence.wide m :=
  ⟨fun blk off cap ss W hH hblk hsz => callsIn_wide.2 (AnyM.slices_Sort_string Tryz.sort99 blk off cap ss W hH hblk hsz),
   fun p cap W => callsIn_wide.2 (AnyM.slices_Sort_string_none Tryz.sort99 p cap W)⟩
open Go.RowKit Go.Maps Go.Sort in
theorem Tryz.maps_Keys_66 (mb : Option Nat) (W : World) : CallsIn Fence.wide 5 Tryz.prog 66 #[.map mb] W fun e w' => e = .returned (.func (.func 100) #[] #[.pointer (some ⟨W.heap.size, 0, none⟩)]) ∧ w' = W.alloc (.cells #[.map mb] 124) :=
  AnyZ.keys_in Tryz.keys66 Fence.wide 5 trivial rfl mb W
open Go.RowKit Go.Maps Go.Sort in
theorem Tryz.slices_Sorted_keys_65_66 {H : Type} (b nn : Nat) (D0 : DataW H) (R : Value → Option (DataW H × List MemPlace)) (w : World) (hown : w.ownsMap Tryz.prog 9 R b nn D0) (hmax : Maps.size D0 ≤ maxLen) (hbytes : Maps.size D0 * 16 ≤ 140737488355328) :
    CallsIn Fence.wide 5 Tryz.prog 65 #[.func (.func 100) #[] #[.pointer (some ⟨w.heap.size, 0, none⟩)]] (w.alloc (.cells #[.map (some b)] 124)) fun e w' => ∃ (v : Value) (ss : List (List UInt8)), e = .returned v ∧ ss.Perm (strKeys D0) ∧
      w'.ownsRow (w.alloc (.cells #[.map (some b)] 124)).heap.size 9 1 v ss.length ((ss.mergeSort (fun x y => decide (x ≤ y))).map encStr) ∧ (v = .slice none 0 0 ↔ ss = []) ∧ Below (w.alloc (.cells #[.map (some b)] 124)).heap.size (w.alloc (.cells #[.map (some b)] 124)) w' := by
  have hbl := hown.lt
  have hseq : SeqGives Fence.wide 2 Tryz.prog 100 #[.pointer (some ⟨w.heap.size, 0, none⟩)] encStr (fun ss => ss.Perm (strKeys D0)) (Maps.size D0) (w.alloc (.cells #[.map (some b)] 124)) :=
    AnyZ.keys_gives (ρ := Tryz.keys66_ren) { Tryz.keys66 with } Fence.wide _ trivial rfl (by omega) w.heap.size b nn D0 _ (by simp) (by simp) (by
      obtain ⟨es, clock, hb, Ft, hs, hD⟩ := hown
      exact ⟨es, clock, (Below.heap_alloc _ _ b hbl).trans hb, Ft, hs, hD⟩)
  exact AnyZ.sorted_in Tryz.sorted65 Fence.wide 5 trivial trivial trivial trivial rfl (by omega) (Tryz.sorts65 _) (enters_of Tryz.func99 (by kernel_rfl) rfl) 100 #[.pointer (some ⟨w.heap.size, 0, none⟩)] trivial (enters_of Tryz.func100 (by kernel_rfl) rfl) _ _ hmax hbytes _ hseq
end Go.Proofs
end

section
namespace Go.Proofs.YtcoaajkhfgakgaaGreatDoor.Pr
open Go.RowKit Go.Proofs.YtcoaajkhfgakgaaGreatDoorW.PrintWords Go.Proofs.YtcoaajkhfgakgaaGreatDoorW.PrintLast Go.Proofs.YtcoaajkhfgakgaaGreatDoorW.PrintMore
set_option linter.unusedVariables false
set_option linter.unusedSimpArgs false
theorem rd_site (l : List S52) (i : Nat) (h : i < l.length) : rd_T52 l (i : Int) = l[i] := by
  unfold rd_T52
  rw [show ((i : Int)).toNat = i from by simp, List.getD_eq_getElem?_getD, List.getElem?_eq_getElem h]
  rfl
def sameS (a b : S52) : Bool := sameB a.f1 a.f2 a.f3 a.f4 a.f5 a.f6 b.f1 b.f2 b.f3 b.f4 b.f5 b.f6
def kindOf (la : List S52) (s : S52) : Int := if (findS s.f0 la).2 = true then (if sameS (findS s.f0 la).1 s = true then 0 else 1) else 3
def kA (la : List S52) : Nat → List (ByteArray × Int)
  | 0 => []
  | k + 1 => ((rd_T52 la (k : Int)).f0, 2) :: kA la k
def kB (la lb : List S52) : Nat → List (ByteArray × Int)
  | 0 => kA la la.length
  | k + 1 => ((rd_T52 lb (k : Int)).f0, kindOf la (rd_T52 lb (k : Int))) :: kB la lb k
theorem kA_len (la : List S52) : ∀ k, (kA la k).length = k
  | 0 => rfl
  | k + 1 => by simp [kA, kA_len la k]
theorem kB_len (la lb : List S52) : ∀ k, (kB la lb k).length = la.length + k
  | 0 => by simp [kB, kA_len]
  | k + 1 => by simp [kB, kB_len la lb k]; omega
theorem kA_small (la : List S52) (h : ∀ i, i < la.length → (rd_T52 la (i : Int)).f0.size ≤ 274877906944) : ∀ k, k ≤ la.length → ∀ p ∈ kA la k, p.1.size ≤ 274877906944
  | 0, _, p, hp => by cases hp
  | k + 1, hk, p, hp => by
    unfold kA at hp
    rcases List.mem_cons.1 hp with rfl | hp
    · exact h k (by omega)
    · exact kA_small la h k (by omega) p hp
theorem kB_small (la lb : List S52) (h : ∀ i, i < la.length → (rd_T52 la (i : Int)).f0.size ≤ 274877906944) (h' : ∀ i, i < lb.length → (rd_T52 lb (i : Int)).f0.size ≤ 274877906944) : ∀ k, k ≤ lb.length → ∀ p ∈ kB la lb k, p.1.size ≤ 274877906944
  | 0, _, p, hp => kA_small la h la.length (Nat.le_refl _) p hp
  | k + 1, hk, p, hp => by
    unfold kB at hp
    rcases List.mem_cons.1 hp with rfl | hp
    · exact h' k (by omega)
    · exact kB_small la lb h h' k (by omega) p hp
def actOf (m : List (ByteArray × Int)) (h : List UInt8) : S40 := ⟨lkI ⟨h.toArray⟩ m, ⟨h.toArray⟩⟩
def diffS (la lb : List S52) : List S40 := (sortedI (kB la lb lb.length)).map (actOf (kB la lb lb.length))
def fitS (x : S52) : Bool := decide (x.f0.size ≤ 274877906944) && decide (x.f6.length ≤ 8796093022208)
def plan_diff.f (l0_0 : List (S52)) (l1_0 : List (S52)) : Option ((List (S40))) :=
  if l0_0.length ≤ 137438953472 ∧ l1_0.length ≤ 137438953472 ∧ l0_0.all fitS = true ∧ l1_0.all fitS = true then some (diffS l0_0 l1_0) else none
def cellsA (l : List S40) : List Value := l.flatMap fun x => [.int .i64 x.f0, .string x.f1]
theorem cellsA_snoc (l : List S40) (x : S40) : cellsA (l ++ [x]) = cellsA l ++ [.int .i64 x.f0, .string x.f1] := by simp [cellsA]
theorem infoAct : (Tryz.prog.info? 40).map (fun i => (i.zero, i.size, i.bytes)) = some (some (.agg #[(.int .i64 0), (.string ⟨#[]⟩)]), 2, 24) := by kernel_rfl
theorem cellsA_len : ∀ l, (cellsA l).length = l.length * 2
  | [] => rfl
  | x :: r => by
    have : cellsA (x :: r) = .int .i64 x.f0 :: .string x.f1 :: cellsA r := by simp [cellsA]
    rw [this, List.length_cons, List.length_cons, cellsA_len r, List.length_cons]
    omega
theorem cellsA_at : ∀ (l : List S40) (j : Nat) (p : S40), l[j]? = some p → ((cellsA l).drop (j * 2)).take 2 = [.int .i64 p.f0, .string p.f1]
  | [], j, p, h => by simp at h
  | x :: r, 0, p, h => by
    simp only [List.getElem?_cons_zero, Option.some.injEq] at h
    subst h
    simp [cellsA]
  | x :: r, j + 1, p, h => by
    rw [List.getElem?_cons_succ] at h
    have : cellsA (x :: r) = .int .i64 x.f0 :: .string x.f1 :: cellsA r := by simp [cellsA]
    rw [this, show (j + 1) * 2 = j * 2 + 1 + 1 from by omega, List.drop_succ_cons, List.drop_succ_cons]
    exact cellsA_at r j p h
theorem acts_R {W : World} {base base' : Nat} {v : Value} {l : List S40} (h : W.ownsRow base' 40 2 v l.length (cellsA l)) (hb : base ≤ base') : Kd.R k40 40 W base (fun _ => True) v l :=
  ⟨fun _ _ => trivial, cellsA l, own_weaken h hb, cellsA_len l, fun j p hj => by
    have h1 := cellsA_at l j p hj
    show k40.M W base _ p (((cellsA l).drop (j * 2)).take 2)
    rw [h1]
    exact k40_mkM W base _ p⟩
def txt (h : List UInt8) : ByteArray := ⟨h.toArray⟩
theorem enc_txt (l : List (List UInt8)) : l.map encStr = pw_strs (l.map txt) := by
  unfold pw_strs
  rw [List.map_map]
  rfl
structure DI (w W : World) (A0 : Option Addr) (n0 c0 : Nat) (A1 : Option Addr) (n1 c1 : Nat) (m : List (ByteArray × Int)) : Prop where
  bel : Below w.heap.size w W
  ba : W.heap[w.heap.size]? = some (.cells #[.slice A0 n0 c0] 24 (0, 0))
  bb : W.heap[w.heap.size + 1]? = some (.cells #[.slice A1 n1 c1] 24 (0, 0))
  map : IsMapI W (w.heap.size + 1 + 1) m
section
variable {w W W' : World} {A0 : Option Addr} {n0 c0 : Nat} {A1 : Option Addr} {n1 c1 : Nat} {m : List (ByteArray × Int)}
theorem DI.below (h : DI w W A0 n0 c0 A1 n1 c1 m) (hb : Below W.heap.size W W') : DI w W' A0 n0 c0 A1 n1 c1 m :=
  ⟨below_then h.bel h.bel.size hb, (hb.block _ (blk_lt h.ba)).trans h.ba, (hb.block _ (blk_lt h.bb)).trans h.bb, h.map.block (hb.block _ h.map.lt)⟩
theorem DI.put (h : DI w W A0 n0 c0 A1 n1 c1 m) (x : ByteArray) (v : Int) (hx : x.size ≤ 274877906944) (hv : (Lit.int .i64 v).wf = true) (hn : m.length < 1099511627776) :
    ∃ w', (Instr.mapUpdate 124 (.map (some (w.heap.size + 1 + 1))) (.string x) (.int .i64 v)).run Tryz.prog W = .ok () w' ∧ DI w w' A0 n0 c0 A1 n1 c1 ((x, v) :: m) := by
  obtain ⟨w', h1, h2, h3⟩ := h.map.put x v hx hv hn
  refine ⟨w', h1, h.bel.grown h3 h.bel.size (fun k hk => by injection hk with hk; omega), (h3.block _ (blk_lt h.ba) (fun e => by injection e with e; omega)).trans h.ba, (h3.block _ (blk_lt h.bb) (fun e => by injection e with e; omega)).trans h.bb, h2⟩
end
set_option maxRecDepth 100000 in
set_option maxHeartbeats 8000000 in
theorem plan_diff.calls (A0_0 : Option Addr) (c0_0 : Nat) (l0_0 : List (S52)) (A1_0 : Option Addr) (c1_0 : Nat) (l1_0 : List (S52)) (r : List (S40)) (w : World) (hr0_0 : Kd.C k52 w A0_0 l0_0.length l0_0) (hc0_0 : l0_0.length ≤ c0_0) (hr1_0 : Kd.C k52 w A1_0 l1_0.length l1_0) (hc1_0 : l1_0.length ≤ c1_0) (h : plan_diff.f l0_0 l1_0 = some r) :
    Calls Tryz.prog 42 #[.agg #[.slice A0_0 l0_0.length c0_0], .agg #[.slice A1_0 l1_0.length c1_0]] w fun e w' => ∃ v0_ : Value, e = .returned (v0_) ∧ Kd.R k40 40 w' w.heap.size (fun _ => True) v0_ r ∧ Below w.heap.size w w' := by
  have hu24 := Tryz.underlying24
  have hu29 := Tryz.underlying52
  have hb : l0_0.length ≤ 137438953472 ∧ l1_0.length ≤ 137438953472 ∧ l0_0.all fitS = true ∧ l1_0.all fitS = true := by
    unfold plan_diff.f at h
    split at h
    · assumption
    · cases h
  have hr : diffS l0_0 l1_0 = r := by
    unfold plan_diff.f at h
    rw [if_pos hb] at h
    injection h
  clear h
  obtain ⟨hb1, hb2, hb3, hb4⟩ := hb
  have HOK0 := Aside0.mk (fun i (hi : i < l0_0.length) => by
    have := List.all_eq_true.1 hb3 _ (List.getElem_mem hi)
    rw [← rd_site l0_0 i hi] at this
    unfold fitS at this
    simpa using this)
  have HOK1 := Aside0.mk (fun i (hi : i < l1_0.length) => by
    have := List.all_eq_true.1 hb4 _ (List.getElem_mem hi)
    rw [← rd_site l1_0 i hi] at this
    unfold fitS at this
    simpa using this)
  have HH0 := Aside0.mk (fun x (hx : x ∈ l0_0) => by
    have := List.all_eq_true.1 hb3 x hx
    unfold fitS at this
    simpa using this)
  have HRES := Aside0.mk hr
  have HRD0 := Aside0.mk hr0_0
  have HRD1 := Aside0.mk hr1_0
  have HC0 := Aside0.mk hc0_0
  have HC1 := Aside0.mk hc1_0
  have HD0 : Aside0 (DI w (((w.alloc (.cells #[.slice A0_0 l0_0.length c0_0] 24)).alloc (.cells #[.slice A1_0 l1_0.length c1_0] 24)).alloc (.map #[] 0)) A0_0 l0_0.length c0_0 A1_0 l1_0.length c1_0 (kA l0_0 0)) := ⟨by
    refine ⟨below_alloc (below_alloc (below_alloc (Below.refl _ _) _) _) _, blk_alloc (blk_alloc (heap_alloc_new w _) _) _, ?_, ?_⟩
    · have := heap_alloc_new (w.alloc (.cells #[.slice A0_0 l0_0.length c0_0] 24)) (.cells #[.slice A1_0 l1_0.length c1_0] 24)
      exact blk_alloc (by simpa using this) _
    · have := IsMapI.made ((w.alloc (.cells #[.slice A0_0 l0_0.length c0_0] 24)).alloc (.cells #[.slice A1_0 l1_0.length c1_0] 24))
      simpa [kA] using this⟩
  clear hr hb3 hb4 hr0_0 hr1_0 hc0_0 hc1_0
  have hmm := @run_makeMap Tryz.prog
  go_enter Tryz.func42, Tryz.ntmps42
  go_wp2
  go_loopw [19] (fun i wr => ∃ (k : Nat), i = .int .i64 (k : Int) ∧ k ≤ l0_0.length ∧ Aside0 (DI w wr A0_0 l0_0.length c0_0 A1_0 l1_0.length c1_0 (kA l0_0 k))) (fun i _ => l0_0.length + 1 - (intOf i).toNat)
  case atStart => exact ⟨0, by simp, by omega, HD0⟩
  case round =>
    clear HD0
    obtain ⟨k, rfl, hkl, HD⟩ := hrel
    by_cases hk : k < l0_0.length
    · obtain ⟨ad, A6, c6, e1, x0, x1, x2, x3, x4, x5, x6, hl6, hi6⟩ := at_T52 HRD0.out (k : Int) (by omega) (by omega)
      cases e1
      have HX := Aside0.mk (HOK0.out k hk).1
      have HKA : Aside0 (kA l0_0 (k + 1) = ((rd_T52 l0_0 (k : Int)).f0, 2) :: kA l0_0 k) := ⟨rfl⟩
      generalize rd_T52 l0_0 (k : Int) = x at *
      have HB := Aside0.mk HD.out.bel
      replace x0 := (HB.out.cell (World.block_lt_of_cell? w _ x0)).trans x0
      replace x1 := (HB.out.cell (World.block_lt_of_cell? w _ x1)).trans x1
      replace x2 := (HB.out.cell (World.block_lt_of_cell? w _ x2)).trans x2
      replace x3 := (HB.out.cell (World.block_lt_of_cell? w _ x3)).trans x3
      replace x4 := (HB.out.cell (World.block_lt_of_cell? w _ x4)).trans x4
      replace x5 := (HB.out.cell (World.block_lt_of_cell? w _ x5)).trans x5
      replace x6 := (HB.out.cell (World.block_lt_of_cell? w _ x6)).trans x6
      simp only [Int.toNat_natCast] at x0 x1 x2 x3 x4 x5 x6
      have p1 : (0 : Int) ≤ (k : Int) := by omega
      have p2 : (k : Int) < (l0_0.length : Int) := by omega
      clear hl6 hi6
      go_upto_region 5 with fail
      have hbk := heap_alloc_new wr (.cells #[.string x.f0, .int .i64 x.f1, .int .i64 x.f2, .int .i64 x.f3, .bool x.f4, .bool x.f5, .slice A6 x.f6.length c6] 52)
      have hD1 := HD.out.below (below_alloc (Below.refl wr.heap.size wr) (.cells #[.string x.f0, .int .i64 x.f1, .int .i64 x.f2, .int .i64 x.f3, .bool x.f4, .bool x.f5, .slice A6 x.f6.length c6] 52))
      generalize wr.alloc (.cells #[.string x.f0, .int .i64 x.f1, .int .i64 x.f2, .int .i64 x.f3, .bool x.f4, .bool x.f5, .slice A6 x.f6.length c6] 52) = w1 at hbk hD1 ⊢
      clear x0 x1 x2 x3 x4 x5 x6 HB HD
      generalize wr.heap.size = gs at *
      have c0 : w1.cell? ⟨gs, 0, none⟩ = some (.string x.f0) := (blk_cell hbk 0).trans rfl
      obtain ⟨wm, hmu, hD2⟩ := hD1.put x.f0 2 HX.out (by decide) (by rw [kA_len]; omega)
      rw [← HKA.out] at hD2
      have HD2 := Aside0.mk hD2
      clear hD1 hD2 hbk HKA
      go_wp2
      go_roundw
      case rel => exact ⟨k + 1, by go_num, by omega, HD2⟩
      case measure => simp [intOf]; omega
    · have ek : k = l0_0.length := by omega
      subst ek
      have HDB : Aside0 (DI w wr A0_0 l0_0.length c0_0 A1_0 l1_0.length c1_0 (kB l0_0 l1_0 0)) := ⟨HD.out⟩
      have p2 : ¬ (l0_0.length : Int) < (l0_0.length : Int) := by omega
      have cb : wr.cell? ⟨w.heap.size + 1, 0, none⟩ = some (.slice A1_0 l1_0.length c1_0) := (blk_cell HD.out.bb 0).trans rfl
      clear HD
      go_wp2
      go_loopw [30] (fun i wr => ∃ (k : Nat), i = .int .i64 (k : Int) ∧ k ≤ l1_0.length ∧ Aside0 (DI w wr A0_0 l0_0.length c0_0 A1_0 l1_0.length c1_0 (kB l0_0 l1_0 k))) (fun i _ => l1_0.length + 1 - (intOf i).toNat)
      case atStart => exact ⟨0, by simp, by omega, HDB⟩
      case round =>
        clear HDB cb
        obtain ⟨k, rfl, hkl, HD⟩ := hrel
        by_cases hk : k < l1_0.length
        · obtain ⟨ad, A6, c6, e1, x0, x1, x2, x3, x4, x5, x6, hl6, hi6⟩ := at_T52 HRD1.out (k : Int) (by omega) (by omega)
          cases e1
          have HX := Aside0.mk (HOK1.out k hk).1
          have HKB : Aside0 (kB l0_0 l1_0 (k + 1) = ((rd_T52 l1_0 (k : Int)).f0, kindOf l0_0 (rd_T52 l1_0 (k : Int))) :: kB l0_0 l1_0 k) := ⟨rfl⟩
          generalize rd_T52 l1_0 (k : Int) = x at *
          have HB := Aside0.mk HD.out.bel
          replace x0 := (HB.out.cell (World.block_lt_of_cell? w _ x0)).trans x0
          replace x1 := (HB.out.cell (World.block_lt_of_cell? w _ x1)).trans x1
          replace x2 := (HB.out.cell (World.block_lt_of_cell? w _ x2)).trans x2
          replace x3 := (HB.out.cell (World.block_lt_of_cell? w _ x3)).trans x3
          replace x4 := (HB.out.cell (World.block_lt_of_cell? w _ x4)).trans x4
          replace x5 := (HB.out.cell (World.block_lt_of_cell? w _ x5)).trans x5
          replace x6 := (HB.out.cell (World.block_lt_of_cell? w _ x6)).trans x6
          simp only [Int.toNat_natCast] at x0 x1 x2 x3 x4 x5 x6
          have p1 : (0 : Int) ≤ (k : Int) := by omega
          have p2 : (k : Int) < (l1_0.length : Int) := by omega
          have HL6 := Aside0.mk hl6
          have HI6 := Aside0.mk hi6
          clear hl6 hi6
          go_upto_region 10 with fail
          have hbk := heap_alloc_new wr (.cells #[.string x.f0, .int .i64 x.f1, .int .i64 x.f2, .int .i64 x.f3, .bool x.f4, .bool x.f5, .slice A6 x.f6.length c6] 52)
          have hD1 := HD.out.below (below_alloc (Below.refl wr.heap.size wr) (.cells #[.string x.f0, .int .i64 x.f1, .int .i64 x.f2, .int .i64 x.f3, .bool x.f4, .bool x.f5, .slice A6 x.f6.length c6] 52))
          generalize wr.alloc (.cells #[.string x.f0, .int .i64 x.f1, .int .i64 x.f2, .int .i64 x.f3, .bool x.f4, .bool x.f5, .slice A6 x.f6.length c6] 52) = w1 at hbk hD1 ⊢
          clear x0 x1 x2 x3 x4 x5 x6 HB HD
          generalize wr.heap.size = gs at *
          have HFIND := Aside0.mk (conf_Config_Find.calls (l0_0.length + 1) A0_0 c0_0 l0_0 x.f0 _ _ _ _ _ _ _ _ w1 (Kd.C_below HRD0.out hD1.bel) HC0.out (find_of x.f0 l0_0 (by omega) (fun y hy => (HH0.out y hy).2) (l0_0.length + 1) (by omega)))
          have HKO : Aside0 (kindOf l0_0 x = if (findS x.f0 l0_0).2 = true then (if sameS (findS x.f0 l0_0).1 x = true then 0 else 1) else 3) := ⟨rfl⟩
          generalize (findS x.f0 l0_0).1 = was at *
          generalize (findS x.f0 l0_0).2 = ok at *
          have c0 : w1.cell? ⟨gs, 0, none⟩ = some (.string x.f0) := (blk_cell hbk 0).trans rfl
          have ca : w1.cell? ⟨w.heap.size, 0, none⟩ = some (.slice A0_0 l0_0.length c0_0) := (blk_cell hD1.ba 0).trans rfl
          have HBK := Aside0.mk hbk
          have HD1 := Aside0.mk hD1
          clear hbk hD1
          go_wp2_with fail
          refine HFIND.out.mono ?_
          rintro e w2 ⟨v6, rfl, hR6, hb2⟩
          obtain ⟨A', c', rfl, hlc, hC⟩ := strs_C (R_strs hR6)
          have hD2 := HD1.out.below hb2
          have hbk2 := (hb2.block _ (blk_lt HBK.out)).trans HBK.out
          clear hR6 hb2 c0 ca HFIND HBK HD1
          go_upto_region 12 with fail
          have hbw := heap_alloc_new w2 (.cells #[.string was.f0, .int .i64 was.f1, .int .i64 was.f2, .int .i64 was.f3, .bool was.f4, .bool was.f5, .slice A' was.f6.length c'] 52)
          have hba := below_alloc (Below.refl w2.heap.size w2) (.cells #[.string was.f0, .int .i64 was.f1, .int .i64 was.f2, .int .i64 was.f3, .bool was.f4, .bool was.f5, .slice A' was.f6.length c'] 52)
          have hD3 := hD2.below hba
          have hC3 := Kd.C_below hC hba
          have hbk3 := blk_alloc hbk2 (.cells #[.string was.f0, .int .i64 was.f1, .int .i64 was.f2, .int .i64 was.f3, .bool was.f4, .bool was.f5, .slice A' was.f6.length c'] 52)
          generalize w2.alloc (.cells #[.string was.f0, .int .i64 was.f1, .int .i64 was.f2, .int .i64 was.f3, .bool was.f4, .bool was.f5, .slice A' was.f6.length c'] 52) = w3 at hbw hba hD3 hC3 hbk3 ⊢
          clear hba hD2 hC hbk2
          generalize w2.heap.size = gw at *
          have c0 : w3.cell? ⟨gs, 0, none⟩ = some (.string x.f0) := (blk_cell hbk3 0).trans rfl
          cases ok with
          | false =>
            have E : Aside0 (kindOf l0_0 x = 3) := ⟨by rw [HKO.out, if_neg (by decide)]⟩
            obtain ⟨wm, hmu, hD4⟩ := hD3.put x.f0 3 HX.out (by decide) (by rw [kB_len]; omega)
            rw [← E.out, ← HKB.out] at hD4
            have HD4 := Aside0.mk hD4
            clear hD3 hD4 hbk3 hbw hC3 HKB HKO E
            go_wp2
            go_roundw
            case rel => exact ⟨k + 1, by go_num, by omega, HD4⟩
            case measure => simp [intOf]; omega
          | true =>
          have c1 : w3.cell? ⟨gs, 1, none⟩ = some (.int .i64 x.f1) := (blk_cell hbk3 1).trans rfl
          have c2 : w3.cell? ⟨gs, 2, none⟩ = some (.int .i64 x.f2) := (blk_cell hbk3 2).trans rfl
          have c3 : w3.cell? ⟨gs, 3, none⟩ = some (.int .i64 x.f3) := (blk_cell hbk3 3).trans rfl
          have c4 : w3.cell? ⟨gs, 4, none⟩ = some (.bool x.f4) := (blk_cell hbk3 4).trans rfl
          have c5 : w3.cell? ⟨gs, 5, none⟩ = some (.bool x.f5) := (blk_cell hbk3 5).trans rfl
          have c6' : w3.cell? ⟨gs, 6, none⟩ = some (.slice A6 x.f6.length c6) := (blk_cell hbk3 6).trans rfl
          have d0 : w3.cell? ⟨gw, 0, none⟩ = some (.string was.f0) := (blk_cell hbw 0).trans rfl
          have d1 : w3.cell? ⟨gw, 1, none⟩ = some (.int .i64 was.f1) := (blk_cell hbw 1).trans rfl
          have d2 : w3.cell? ⟨gw, 2, none⟩ = some (.int .i64 was.f2) := (blk_cell hbw 2).trans rfl
          have d3 : w3.cell? ⟨gw, 3, none⟩ = some (.int .i64 was.f3) := (blk_cell hbw 3).trans rfl
          have d4 : w3.cell? ⟨gw, 4, none⟩ = some (.bool was.f4) := (blk_cell hbw 4).trans rfl
          have d5 : w3.cell? ⟨gw, 5, none⟩ = some (.bool was.f5) := (blk_cell hbw 5).trans rfl
          have d6 : w3.cell? ⟨gw, 6, none⟩ = some (.slice A' was.f6.length c') := (blk_cell hbw 6).trans rfl
          have HSAME := Aside0.mk (plan_same.calls was.f0 was.f1 was.f2 was.f3 was.f4 was.f5 A' c' was.f6 x.f0 x.f1 x.f2 x.f3 x.f4 x.f5 A6 c6 x.f6 (sameS was x) w3 hC3 hlc (Kd.C_below HI6.out hD3.bel) HL6.out rfl)
          have HKO2 : Aside0 (kindOf l0_0 x = if sameS was x = true then 0 else 1) := ⟨by rw [HKO.out, if_pos rfl]⟩
          have HD3 := Aside0.mk hD3
          have HBK3 := Aside0.mk hbk3
          generalize sameS was x = sm at *
          clear hD3 hbk3 hbw hC3 HKO
          go_wp2_with fail
          refine HSAME.out.mono ?_
          rintro e w4 ⟨rfl, hb4⟩
          have hD4 := HD3.out.below hb4
          have f0 : w4.cell? ⟨gs, 0, none⟩ = some (.string x.f0) := (blk_cell ((hb4.block _ (blk_lt HBK3.out)).trans HBK3.out) 0).trans rfl
          clear c0 c1 c2 c3 c4 c5 c6' d0 d1 d2 d3 d4 d5 d6 hb4 HD3 HBK3 HSAME
          cases sm with
          | true =>
            have E : Aside0 (kindOf l0_0 x = 0) := ⟨by rw [HKO2.out, if_pos rfl]⟩
            obtain ⟨wm, hmu, hD5⟩ := hD4.put x.f0 0 HX.out (by decide) (by rw [kB_len]; omega)
            rw [← E.out, ← HKB.out] at hD5
            have HD5 := Aside0.mk hD5
            clear hD4 hD5 HKB HKO2 E
            go_wp2
            go_roundw
            case rel => exact ⟨k + 1, by go_num, by omega, HD5⟩
            case measure => simp [intOf]; omega
          | false =>
            have E : Aside0 (kindOf l0_0 x = 1) := ⟨by rw [HKO2.out, if_neg (by decide)]⟩
            obtain ⟨wm, hmu, hD5⟩ := hD4.put x.f0 1 HX.out (by decide) (by rw [kB_len]; omega)
            rw [← E.out, ← HKB.out] at hD5
            have HD5 := Aside0.mk hD5
            clear hD4 hD5 HKB HKO2 E
            go_wp2
            go_roundw
            case rel => exact ⟨k + 1, by go_num, by omega, HD5⟩
            case measure => simp [intOf]; omega
        · have ek : k = l1_0.length := by omega
          subst ek
          have p2 : ¬ (l1_0.length : Int) < (l1_0.length : Int) := by omega
          obtain ⟨m, hm⟩ : ∃ m, m = kB l0_0 l1_0 l1_0.length := ⟨_, rfl⟩
          have hml : m.length = l0_0.length + l1_0.length := by rw [hm]; exact kB_len _ _ _
          have HRM : Aside0 ((sortedI m).map (actOf m) = r) := ⟨by rw [hm]; exact HRES.out⟩
          have HKEYS : Aside0 (∀ p ∈ m, p.1.size ≤ 274877906944) := ⟨by
            rw [hm]
            exact kB_small _ _ (fun i hi => (HOK0.out i hi).1) (fun i hi => (HOK1.out i hi).1) _ (Nat.le_refl _)⟩
          rw [← hm] at HD
          have hmz := mapD_size m
          have HK1 := Aside0.mk (callsIn_wide.1 (Tryz.maps_Keys_66 (some (w.heap.size + 1 + 1)) wr))
          have HS1 := Aside0.mk (callsIn_wide.1 (Tryz.slices_Sorted_keys_65_66 (w.heap.size + 1 + 1) m.length (mapD m) _ wr HD.out.map (by unfold maxLen; omega) (by omega)))
          clear hmz hm
          go_wp2_with fail
          refine HK1.out.mono ?_
          rintro e w4 ⟨rfl, rfl⟩
          go_wp2_with fail
          refine HS1.out.mono ?_
          rintro e w5 ⟨v, ss, rfl, hperm, hrow, hnil, hb5⟩
          have hsrt : ss.mergeSort (fun x y => decide (x ≤ y)) = sortedI m := HD.out.map.sorted hperm
          have hlen : ss.length = (sortedI m).length := by rw [← hsrt, List.length_mergeSort]
          rw [hsrt, hlen, enc_txt] at hrow
          obtain ⟨A7, c7, rfl, hlc7, hC7⟩ := strs_C (hs := (sortedI m).map txt) (by rw [List.length_map]; exact hrow)
          have hsl := sortedI_length m
          have HD5 := Aside0.mk ((HD.out.below (below_alloc (Below.refl wr.heap.size wr) (.cells #[.map (some (w.heap.size + 1 + 1))] 124))).below hb5)
          have HC7 := Aside0.mk (C_cells hC7)
          have hl7 : ((sortedI m).map txt).length = (sortedI m).length := List.length_map _
          rw [hl7]
          have HOKM : Aside0 (∀ h ∈ sortedI m, (txt h).size ≤ 274877906944) := ⟨fun h hh => by
            unfold sortedI at hh
            rw [List.mem_mergeSort, keysI_mem, List.any_eq_true] at hh
            obtain ⟨p, hp, he⟩ := hh
            have he : p.1.data.toList = h := by simpa using he
            subst he
            have := HKEYS.out p hp
            unfold txt
            simpa using this⟩
          obtain ⟨srt, hs⟩ : ∃ s, s = sortedI m := ⟨_, rfl⟩
          rw [← hs] at HRM HC7 hl7 hsl HOKM ⊢
          clear hrow hperm hnil hb5 hsrt hlen hC7 HK1 HS1 HD hs
          obtain ⟨i0, hi0, hz0, hz1, hz2⟩ := info_parts infoAct
          have hOUT0 : Aside0 (w5.ownsRow w5.heap.size 40 2 (.slice none 0 0) 0 (cellsA ((srt.take 0).map (actOf m)))) := ⟨own_nil _ _ _ _⟩
          go_wp2
          go_loopw [12, 62] (fun o i wr => ∃ (k : Nat), i = .int .i64 (k : Int) ∧ k ≤ srt.length ∧ Aside0 (wr.ownsRow w5.heap.size 40 2 o k (cellsA ((srt.take k).map (actOf m)))) ∧ Aside0 (Below w5.heap.size w5 wr)) (fun _ i _ => srt.length + 1 - (intOf i).toNat)
          case atStart => exact ⟨0, by simp, by omega, hOUT0, ⟨Below.refl _ _⟩⟩
          case round =>
            clear hOUT0
            obtain ⟨k, rfl, hkl, HO, HB⟩ := hrel
            have HDW := Aside0.mk (HD5.out.below HB.out)
            by_cases hk : k < srt.length
            · obtain ⟨b7, o7, rfl, hb7, hc7⟩ := HC7.out k (by rw [hl7]; exact hk)
              have hc7 : wr.cell? ⟨b7, o7 + k, none⟩ = some (.string (((srt.map txt)).getD k ByteArray.empty)) := pw_cell_below HB.out hc7
              have hx : (srt.map txt).getD k ByteArray.empty = txt srt[k] := by
                rw [List.getD_eq_getElem?_getD, List.getElem?_map, List.getElem?_eq_getElem hk]
                rfl
              rw [hx] at hc7
              have HST : Aside0 ((srt.take (k + 1)).map (actOf m) = (srt.take k).map (actOf m) ++ [⟨lkI (txt srt[k]) m, txt srt[k]⟩]) := ⟨by
                rw [List.take_succ_eq_append_getElem hk, List.map_append]
                rfl⟩
              have hlk := HDW.out.map.look (txt srt[k]) (HOKM.out _ (List.getElem_mem hk))
              have hln : ((srt.take k).map (actOf m)).length = k := by rw [List.length_map, List.length_take]; omega
              clear hx hb7
              generalize txt srt[k] = x at *
              generalize lkI x m = kx at *
              generalize (srt.take k).map (actOf m) = out at *
              have p1 : (0 : Int) ≤ (k : Int) := by omega
              have p2 : (k : Int) < (srt.length : Int) := by omega
              go_wp2_with (at_builtin; go_loud (refine wpList_append_lies _ (by rfl) _ _ _ (by rfl) w5.heap.size 40 i0 _ 2 24 Tryz.underlying27 hi0 hz0 hz1 hz2 rfl (by omega) _ k (cellsA out) (by rfl) (HO.out.alloc _) ⟨wr.heap.size, 0, none⟩ 1 1 [.int .i64 kx, .string x] (by rfl) (by rfl) (World.news_of_block (cs := #[.int .i64 kx, .string x]) (t := 40) (fr := (0, 0)) (heap_alloc_new wr _)) (by simp [Value.oneCell']) (by omega) (by unfold maxLen; omega) (by omega) (by have := HB.out.size; simp; omega) (wr.heap.size + 1) (by simp) ?_); intro gg cap w6 hown6 hgrow6 hat6 hlt6)
              refine ⟨⟨k + 1, congrArg (Value.int .i64) (by omega), by omega, ⟨?_⟩, ⟨?_⟩⟩, by simp [intOf]; omega⟩
              · rw [HST.out, cellsA_snoc]
                exact hown6
              · exact (HB.out.alloc HB.out.size _).grown hgrow6 (by have := HB.out.size; simp; omega) (fun j hj => own_base HO.out j hj)
            · have ek : k = srt.length := by omega
              subst ek
              have p2 : ¬ (srt.length : Int) < (srt.length : Int) := by omega
              have HOR : Aside0 (cellsA ((srt.take srt.length).map (actOf m)) = cellsA r) := ⟨by rw [List.take_length, HRM.out]⟩
              have hrl : r.length = srt.length := by rw [← HRM.out, List.length_map]
              rw [HOR.out, ← hrl] at HO
              go_wp2
              go_ret
              exact ⟨_, rfl, acts_R HO.out HD5.out.bel.size, HDW.out.bel⟩
end Go.Proofs.YtcoaajkhfgakgaaGreatDoor.Pr
end

section
namespace Go.Proofs.YtcoaajkhfgakgaaGreatDoor.Pr
open Go.RowKit Go.Proofs.YtcoaajkhfgakgaaGreatDoorW.PrintWords Go.Proofs.YtcoaajkhfgakgaaGreatDoorW.PrintLast Go.Proofs.YtcoaajkhfgakgaaGreatDoorW.PrintMore
set_option linter.unusedVariables false
set_option linter.unusedSimpArgs false
def idxF (p : ByteArray → Bool) : List ByteArray → Int → Int
  | [], _ => -1
  | x :: r, i => if p x = true then i else idxF p r (i + 1)
theorem idxF_any (p : ByteArray → Bool) : ∀ (l : List ByteArray) (i : Int), 0 ≤ i → (decide (0 ≤ idxF p l i) = l.any p)
  | [], i, _ => by simp [idxF]
  | x :: r, i, h => by
    unfold idxF
    split
    · rename_i hp
      simp [hp, h]
    · rename_i hp
      rw [idxF_any p r (i + 1) (by omega)]
      simp [hp]
theorem idxF_step (p : ByteArray → Bool) (l : List ByteArray) (k : Nat) (h : k < l.length) : idxF p (l.drop k) k = if p (l.getD k ByteArray.empty) = true then (k : Int) else idxF p (l.drop (k + 1)) ((k : Int) + 1) := by
  rw [List.drop_eq_getElem_cons h, idxF, List.getD_eq_getElem?_getD, List.getElem?_eq_getElem h]
  rfl
set_option maxHeartbeats 2000000 in
theorem slices_IndexFunc_calls (p : ByteArray → Bool) (g : Nat) (lb : Array Value) (A0 : Option Addr) (c0 : Nat) (l0 : List ByteArray) (w : World) (eg : ∀ args w, (callFunc g args).run Tryz.prog w = .ok (.enter g args) w)
    (hr0 : Kd.C Kd.string w A0 l0.length l0) (hp : ∀ W x, x ∈ l0 → Below w.heap.size w W → Calls Tryz.prog g (#[.string x] ++ lb) W fun e w' => e = .returned (.bool (p x)) ∧ Below w.heap.size w w') :
    Calls Tryz.prog 86 #[.slice A0 l0.length c0, .func (.func g) #[] lb] w fun e w' => e = .returned (.int .i64 (idxF p l0 0)) ∧ Below w.heap.size w w' := by
  have Hcell := Aside0.mk (C_cells hr0)
  have hmax : l0.length ≤ 9223372036854775807 := hr0.2.1
  have HP := Aside0.mk hp
  clear hr0 hp
  go_enter Tryz.func86, Tryz.ntmps86
  go_wp2
  go_loopw [5, 8] (fun _ s8 wr => ∃ kk : Nat, kk ≤ l0.length ∧ s8 = .int .i64 kk ∧ Aside0 (Below w.heap.size w wr) ∧ Aside0 (idxF p (l0.drop kk) kk = idxF p l0 0)) (fun _ s8 _ => l0.length - (intOf s8).toNat)
  case atStart => exact ⟨0, Nat.zero_le _, rfl, ⟨Below.refl _ w⟩, ⟨rfl⟩⟩
  case round =>
    obtain ⟨kk, hkk, rfl, BW, A⟩ := hrel
    by_cases hlt : kk < l0.length
    · have hltz : (kk : Int) < (l0.length : Int) := by omega
      obtain ⟨b, o, rfl, hbl, hc⟩ := Hcell.out kk hlt
      have l2 : wr.cell? ⟨b, o + kk, none⟩ = some (.string (l0.getD kk ByteArray.empty)) := pw_cell_below BW.out hc
      have hst := idxF_step p l0 kk hlt
      have hmem : l0.getD kk ByteArray.empty ∈ l0 := by
        rw [List.getD_eq_getElem?_getD, List.getElem?_eq_getElem hlt]
        exact List.getElem_mem hlt
      have hcall := HP.out wr _ hmem BW.out
      clear hc hmem
      generalize l0.getD kk ByteArray.empty = y at *
      cases hq : p y with
      | true =>
        rw [hq] at hcall
        have HR : Aside0 (idxF p l0 0 = kk) := ⟨by rw [← A.out, hst, if_pos hq]⟩
        clear hst A hq
        go_wp2_with fail
        refine hcall.mono ?_
        rintro e w' ⟨rfl, hb'⟩
        go_wp2
        go_ret
        exact ⟨congrArg (fun z => Ending.returned (.int .i64 z)) HR.out.symm, by assumption⟩
      | false =>
        rw [hq] at hcall
        have HR : Aside0 (idxF p (l0.drop (kk + 1)) ((kk + 1 : Nat) : Int) = idxF p l0 0) := ⟨by rw [← A.out, hst, if_neg (by rw [hq]; decide)]; rfl⟩
        clear hst A hq
        go_wp2_with fail
        refine hcall.mono ?_
        rintro e w' ⟨rfl, hb'⟩
        have HB2 := Aside0.mk hb'
        clear hb'
        go_wp2
        go_roundw
        case rel => exact ⟨kk + 1, by omega, by go_num, HB2, HR⟩
        case measure => simp [intOf]; omega
    · have hltz : ¬ (kk : Int) < (l0.length : Int) := by omega
      have HR : Aside0 (idxF p l0 0 = -1) := ⟨by rw [← A.out, List.drop_eq_nil_of_le (by omega)]; rfl⟩
      clear A
      go_wp2
      go_ret
      exact ⟨congrArg (fun z => Ending.returned (.int .i64 z)) HR.out.symm, BW.out⟩
theorem slices_ContainsFunc_calls (p : ByteArray → Bool) (g : Nat) (lb : Array Value) (A0 : Option Addr) (c0 : Nat) (l0 : List ByteArray) (w : World) (eg : ∀ args w, (callFunc g args).run Tryz.prog w = .ok (.enter g args) w)
    (hr0 : Kd.C Kd.string w A0 l0.length l0) (hp : ∀ W x, x ∈ l0 → Below w.heap.size w W → Calls Tryz.prog g (#[.string x] ++ lb) W fun e w' => e = .returned (.bool (p x)) ∧ Below w.heap.size w w') :
    Calls Tryz.prog 51 #[.slice A0 l0.length c0, .func (.func g) #[] lb] w fun e w' => e = .returned (.bool (l0.any p)) ∧ Below w.heap.size w w' := by
  have HC := Aside0.mk (slices_IndexFunc_calls p g lb A0 c0 l0 w eg hr0 hp)
  have HA := Aside0.mk (idxF_any p l0 0 (Int.le_refl _))
  clear hr0 hp eg
  generalize idxF p l0 0 = ix at *
  go_enter Tryz.func51, Tryz.ntmps51
  go_wp2_with fail
  refine HC.out.mono ?_
  rintro e w' ⟨rfl, hb⟩
  go_wp2
  go_ret
  exact ⟨congrArg (fun z => Ending.returned (.bool z)) HA.out, hb⟩
end Go.Proofs.YtcoaajkhfgakgaaGreatDoor.Pr
end

section
namespace Go.Proofs.YtcoaajkhfgakgaaGreatDoor.Pr
open Go.RowKit Go.Proofs.YtcoaajkhfgakgaaGreatDoorW.PrintWords Go.Proofs.YtcoaajkhfgakgaaGreatDoorW.PrintLast Go.Proofs.YtcoaajkhfgakgaaGreatDoorW.PrintMore
set_option linter.unusedVariables false
set_option linter.unusedSimpArgs false
def siteB (host : ByteArray) (origin mn mx : Int) (heads : List ByteArray) : Bool :=
  decide ((hostV host).2 = 0) && decide ((hostV host).1 = host) && decide (1 ≤ origin) && decide (origin ≤ 9) && decide (0 ≤ mn) && decide (mn ≤ mx) && decide (mx ≤ 2147483648) && decide (heads.length ≤ 4) && risingS heads && !(heads.any fun h => !headB h)
def smallHeads (heads : List ByteArray) : Bool := decide (heads.length ≤ 1099511627776) && heads.all fun h => decide (h.size ≤ 1099511627776)
def conf_Site_Right.f (a0_0 : ByteArray) (a0_1 : Int) (a0_2 : Int) (a0_3 : Int) (a0_4 : Bool) (a0_5 : Bool) (l0_6 : List ByteArray) : Option (Bool) :=
  if a0_0.size ≤ 274877906944 ∧ smallHeads l0_6 = true then some (siteB a0_0 a0_1 a0_2 a0_3 l0_6) else none
theorem right1_calls (x : ByteArray) (hx : x.size ≤ 140737488351232) (w : World) :
    Calls Tryz.prog 52 #[.string x] w fun e w' => e = .returned (.bool (!headB x)) ∧ Below w.heap.size w w' := by
  have hh := Aside0.mk (conf_head.calls (x.size + 1) x _ w (head_of x hx (x.size + 1) (by omega)))
  generalize headB x = b at *
  go_enter Tryz.func52, Tryz.ntmps52
  go_wp2_with fail
  refine hh.out.mono ?_
  rintro e w' ⟨rfl, hb⟩
  go_wp2
  go_ret
  exact ⟨rfl, hb⟩
set_option maxRecDepth 100000 in
set_option maxHeartbeats 4000000 in
theorem conf_Site_Right.calls (a0_0 : ByteArray) (a0_1 : Int) (a0_2 : Int) (a0_3 : Int) (a0_4 : Bool) (a0_5 : Bool) (A0_6 : Option Addr) (c0_6 : Nat) (l0_6 : List ByteArray) (r : Bool) (w : World) (hr0_6 : Kd.C Kd.string w A0_6 l0_6.length l0_6) (hc0_6 : l0_6.length ≤ c0_6) (h : conf_Site_Right.f a0_0 a0_1 a0_2 a0_3 a0_4 a0_5 l0_6 = some r) :
    Calls Tryz.prog 22 #[.agg #[.string a0_0, .int .i64 a0_1, .int .i64 a0_2, .int .i64 a0_3, .bool a0_4, .bool a0_5, .slice A0_6 l0_6.length c0_6]] w fun e w' => e = .returned (.bool r) ∧ Below w.heap.size w w' := by
  have hb : a0_0.size ≤ 274877906944 ∧ smallHeads l0_6 = true := by
    unfold conf_Site_Right.f at h
    split at h
    · assumption
    · cases h
  have HR : Aside0 (siteB a0_0 a0_1 a0_2 a0_3 l0_6 = r) := ⟨by
    unfold conf_Site_Right.f at h
    rw [if_pos hb] at h
    injection h⟩
  obtain ⟨hs, hsm⟩ := hb
  simp only [smallHeads, Bool.and_eq_true, decide_eq_true_eq, List.all_eq_true] at hsm
  obtain ⟨hl40, hsm⟩ := hsm
  have HSM := Aside0.mk hsm
  clear h hsm
  have hu := Tryz.underlying52
  have hw1 : Below w.heap.size w (w.alloc (.cells #[.string a0_0, .int .i64 a0_1, .int .i64 a0_2, .int .i64 a0_3, .bool a0_4, .bool a0_5, .slice A0_6 l0_6.length c0_6] 52)) := below_alloc (Below.refl _ _) _
  have hblk := heap_alloc_new w (.cells #[.string a0_0, .int .i64 a0_1, .int .i64 a0_2, .int .i64 a0_3, .bool a0_4, .bool a0_5, .slice A0_6 l0_6.length c0_6] 52)
  have HW1 := Aside0.mk hw1
  have HBL := Aside0.mk hblk
  have HH := Aside0.mk (fun W => place_Host.calls (a0_0.size + 3) a0_0 (hostV a0_0).1 (hostV a0_0).2 W (host_of a0_0 hs (a0_0.size + 3) (by omega)))
  have HS : Aside0 (siteB a0_0 a0_1 a0_2 a0_3 l0_6 = (decide ((hostV a0_0).2 = 0) && decide ((hostV a0_0).1 = a0_0) && decide (1 ≤ a0_1) && decide (a0_1 ≤ 9) && decide (0 ≤ a0_2) && decide (a0_2 ≤ a0_3) && decide (a0_3 ≤ 2147483648) && decide (l0_6.length ≤ 4) && risingS l0_6 && !(l0_6.any fun h => !headB h))) := ⟨rfl⟩
  generalize (hostV a0_0).1 = hv at *
  generalize (hostV a0_0).2 = he at *
  generalize siteB a0_0 a0_1 a0_2 a0_3 l0_6 = res at *
  clear hw1 hblk
  go_enter Tryz.func22, Tryz.ntmps22
  go_wp2_with fail
  refine (HH.out _).mono ?_
  rintro e w' ⟨rfl, hb'⟩
  have HB : Aside0 (Below w.heap.size w w') := ⟨below_then HW1.out (by simp) hb'⟩
  have hbk : w'.heap[w.heap.size]? = some (.cells #[.string a0_0, .int .i64 a0_1, .int .i64 a0_2, .int .i64 a0_3, .bool a0_4, .bool a0_5, .slice A0_6 l0_6.length c0_6] 52 (0, 0)) := (hb'.block w.heap.size (by simp)).trans HBL.out
  clear hb'
  have k0 : w'.cell? ⟨w.heap.size, 0, none⟩ = some (.string a0_0) := (blk_cell hbk 0).trans rfl
  have k1 : w'.cell? ⟨w.heap.size, 1, none⟩ = some (.int .i64 a0_1) := (blk_cell hbk 1).trans rfl
  have k2 : w'.cell? ⟨w.heap.size, 2, none⟩ = some (.int .i64 a0_2) := (blk_cell hbk 2).trans rfl
  have k3 : w'.cell? ⟨w.heap.size, 3, none⟩ = some (.int .i64 a0_3) := (blk_cell hbk 3).trans rfl
  have k6 : w'.cell? ⟨w.heap.size, 6, none⟩ = some (.slice A0_6 l0_6.length c0_6) := (blk_cell hbk 6).trans rfl
  have HBK := Aside0.mk hbk
  have HRD := Aside0.mk (Kd.C_below hr0_6 HB.out)
  clear hbk HBL HW1 HH hr0_6
  have stop : ∀ b : Bool, res = b → Ending.returned (.bool b) = .returned (.bool r) := fun b e => by rw [← HR.out, e]
  have STOP := Aside0.mk stop
  clear stop
  by_cases t1 : he = 0
  case neg =>
    have q1 : (he == 0) = false := beq_eq_false_iff_ne.2 t1
    have E : Aside0 (res = false) := ⟨by rw [HS.out]; simp [t1]⟩
    clear t1
    go_wp2
    go_ret
    exact ⟨STOP.out _ E.out, HB.out⟩
  case pos =>
  have q1 : (he == 0) = true := beq_iff_eq.2 t1
  by_cases t2 : hv = a0_0
  case neg =>
    have q2 : (hv.toList == a0_0.toList) = false := beq_eq_false_iff_ne.2 (fun e => t2 (toList_inj.1 e))
    have E : Aside0 (res = false) := ⟨by rw [HS.out]; simp [t2]⟩
    clear t1 t2
    go_wp2
    go_ret
    exact ⟨STOP.out _ E.out, HB.out⟩
  case pos =>
  have q2 : (hv.toList == a0_0.toList) = true := beq_iff_eq.2 (toList_inj.2 t2)
  have HS2 : Aside0 (res = (decide (1 ≤ a0_1) && decide (a0_1 ≤ 9) && decide (0 ≤ a0_2) && decide (a0_2 ≤ a0_3) && decide (a0_3 ≤ 2147483648) && decide (l0_6.length ≤ 4) && risingS l0_6 && !(l0_6.any fun h => !headB h))) := ⟨by rw [HS.out]; simp [t1, t2]⟩
  clear t1 t2 HS
  by_cases t3 : 1 ≤ a0_1
  case neg =>
    have E : Aside0 (res = false) := ⟨by rw [HS2.out]; simp [t3]⟩
    have t3 : a0_1 < 1 := by omega
    go_wp2
    go_ret
    exact ⟨STOP.out _ E.out, HB.out⟩
  case pos =>
  by_cases t4 : a0_1 ≤ 9
  case neg =>
    have E : Aside0 (res = false) := ⟨by rw [HS2.out]; simp [t4]⟩
    have t4 : 9 < a0_1 := by omega
    go_wp2
    go_ret
    exact ⟨STOP.out _ E.out, HB.out⟩
  case pos =>
  by_cases t5 : 0 ≤ a0_2
  case neg =>
    have E : Aside0 (res = false) := ⟨by rw [HS2.out]; simp [t5]⟩
    have t5 : a0_2 < 0 := by omega
    go_wp2
    go_ret
    exact ⟨STOP.out _ E.out, HB.out⟩
  case pos =>
  by_cases t6 : a0_2 ≤ a0_3
  case neg =>
    have E : Aside0 (res = false) := ⟨by rw [HS2.out]; simp [t6]⟩
    have t6 : a0_3 < a0_2 := by omega
    go_wp2
    go_ret
    exact ⟨STOP.out _ E.out, HB.out⟩
  case pos =>
  by_cases t7 : a0_3 ≤ 2147483648
  case neg =>
    have E : Aside0 (res = false) := ⟨by rw [HS2.out]; simp [t7]⟩
    have t7 : 2147483648 < a0_3 := by omega
    go_wp2
    go_ret
    exact ⟨STOP.out _ E.out, HB.out⟩
  case pos =>
  by_cases t8 : l0_6.length ≤ 4
  case neg =>
    have E : Aside0 (res = false) := ⟨by rw [HS2.out]; simp [t8]⟩
    have t8 : (4 : Int) < (l0_6.length : Int) := by omega
    go_wp2
    go_ret
    exact ⟨STOP.out _ E.out, HB.out⟩
  case pos =>
  have HS3 : Aside0 (res = (risingS l0_6 && !(l0_6.any fun h => !headB h))) := ⟨by rw [HS2.out]; simp [t3, t4, t5, t6, t7, t8]⟩
  have t8' : (l0_6.length : Int) ≤ 4 := by omega
  clear HS2 t8
  have HRI := Aside0.mk (fun n => conf_rising.calls A0_6 c0_6 l0_6 _ (w'.drewN n) (Kd.C_below HRD.out (pw_below_drewN (Below.refl _ _) n)) hc0_6 (by unfold conf_rising.f; rw [if_pos hl40]))
  have HRI0 := Aside0.mk (conf_rising.calls A0_6 c0_6 l0_6 _ w' HRD.out hc0_6 (by unfold conf_rising.f; rw [if_pos hl40]))
  go_wp2_with fail
  refine HRI0.out.mono ?_
  rintro e w2 ⟨rfl, hd⟩
  have HB12 : Below w'.heap.size w' w2 := hd.below
  have hle : w.heap.size ≤ w'.heap.size := HB.out.size
  have k6' : w2.cell? ⟨w.heap.size, 6, none⟩ = some (.slice A0_6 l0_6.length c0_6) := pw_cell_below HB12 k6
  have HB2 : Aside0 (Below w.heap.size w w2) := ⟨below_then HB.out hle HB12⟩
  cases hq : risingS l0_6 with
  | false =>
    have E : Aside0 (res = false) := ⟨by rw [HS3.out]; simp [hq]⟩
    go_wp2
    go_ret
    exact ⟨STOP.out _ E.out, HB2.out⟩
  | true =>
  have E : Aside0 (res = !(l0_6.any fun h => !headB h)) := ⟨by rw [HS3.out]; simp [hq]⟩
  have HSML := fun x (hx : x ∈ l0_6) => HSM.out x hx
  have HCF := Aside0.mk (slices_ContainsFunc_calls (fun h => !headB h) 52 #[] A0_6 c0_6 l0_6 w2 (enters_ (hf := rfl) rfl rfl) (Kd.C_below HRD.out HB12) (fun W x hx hbw => (right1_calls x (by have := HSML x hx; omega) W).mono (fun e w' ⟨h1, h2⟩ => ⟨h1, below_then hbw hbw.size h2⟩)))
  clear HSM
  go_wp2_with fail
  refine HCF.out.mono ?_
  rintro e w3 ⟨rfl, hb3⟩
  have HB3 := Aside0.mk (below_then HB2.out HB2.out.size hb3)
  generalize (l0_6.any fun h => !headB h) = q at *
  clear HCF
  go_wp2
  go_ret
  exact ⟨STOP.out _ E.out, HB3.out⟩
end Go.Proofs.YtcoaajkhfgakgaaGreatDoor.Pr
end

section
namespace Go.Proofs.YtcoaajkhfgakgaaGreatDoor.Pr
open Go.RowKit Go.Proofs.YtcoaajkhfgakgaaGreatDoorW.PrintWords Go.Proofs.YtcoaajkhfgakgaaGreatDoorW.PrintLast Go.Proofs.YtcoaajkhfgakgaaGreatDoorW.PrintMore
set_option linter.unusedVariables false
set_option linter.unusedSimpArgs false
def rightF : List S52 → List ByteArray → Bool
  | [], _ => true
  | x :: l, seen => siteB x.f0 x.f1 x.f2 x.f3 x.f6 && !inB x.f0 seen && rightF l (x.f0 :: seen)
def rightB (l : List S52) : Bool := rightF l [] && decide (l.length ≤ 8)
def okSite (x : S52) : Bool := decide (x.f0.size ≤ 274877906944) && smallHeads x.f6
def conf_Config_Right.f (l0_0 : List (S52)) : Option (Bool) := if l0_0.length ≤ 274877906944 ∧ l0_0.all okSite = true then some (rightB l0_0) else none
theorem rd_T52_at (l : List S52) (i : Nat) (h : i < l.length) : rd_T52 l (i : Int) = l[i] := by
  unfold rd_T52
  rw [show ((i : Int)).toNat = i from by simp, List.getD_eq_getElem?_getD, List.getElem?_eq_getElem h]
  rfl
set_option maxRecDepth 100000 in
set_option maxHeartbeats 4000000 in
theorem conf_Config_Right.calls (A0_0 : Option Addr) (c0_0 : Nat) (l0_0 : List (S52)) (r : Bool) (w : World) (hr0_0 : Kd.C k52 w A0_0 l0_0.length l0_0) (hc0_0 : l0_0.length ≤ c0_0) (h : conf_Config_Right.f l0_0 = some r) :
    Calls Tryz.prog 17 #[.agg #[.slice A0_0 l0_0.length c0_0]] w fun e w' => e = .returned (.bool r) ∧ Below w.heap.size w w' := by
  have hu24 := Tryz.underlying24
  have hu29 := Tryz.underlying52
  have hb : l0_0.length ≤ 274877906944 ∧ l0_0.all okSite = true := by
    unfold conf_Config_Right.f at h
    split at h
    · assumption
    · cases h
  have hr : rightB l0_0 = r := by
    unfold conf_Config_Right.f at h
    rw [if_pos hb] at h
    injection h
  clear h
  obtain ⟨hb1, hb2⟩ := hb
  have HOK := Aside0.mk (fun x (hx : x ∈ l0_0) => List.all_eq_true.1 hb2 x hx)
  have HRES : Aside0 ((rightF (l0_0.drop 0) [] && decide (l0_0.length ≤ 8)) = r) := ⟨hr⟩
  have HRD := Aside0.mk hr0_0
  have HC := Aside0.mk hc0_0
  have HB0 : Aside0 (Below w.heap.size w ((w.alloc (.cells #[.slice A0_0 l0_0.length c0_0] 24)).alloc (.map #[] 0))) := ⟨below_alloc (below_alloc (Below.refl _ _) _) _⟩
  have HS0 : Aside0 (IsSet ((w.alloc (.cells #[.slice A0_0 l0_0.length c0_0] 24)).alloc (.map #[] 0)) (w.heap.size + 1) []) := ⟨by have := IsSet.made (w.alloc (.cells #[.slice A0_0 l0_0.length c0_0] 24)); simpa using this⟩
  have HK0 : Aside0 (((w.alloc (.cells #[.slice A0_0 l0_0.length c0_0] 24)).alloc (.map #[] 0)).heap[w.heap.size]? = some (.cells #[.slice A0_0 l0_0.length c0_0] 24 (0, 0))) := ⟨blk_alloc (heap_alloc_new w _) _⟩
  clear hr hb2 hr0_0 hc0_0
  have hmm := @run_makeMap Tryz.prog
  go_enter Tryz.func17, Tryz.ntmps17
  go_wp2
  go_loopw [10] (fun i wr => ∃ (k : Nat) (seen : List ByteArray), i = .int .i64 (k : Int) ∧ k ≤ l0_0.length ∧ seen.length = k ∧ Aside0 (IsSet wr (w.heap.size + 1) seen) ∧ Aside0 ((rightF (l0_0.drop k) seen && decide (l0_0.length ≤ 8)) = r) ∧ Aside0 (wr.heap[w.heap.size]? = some (.cells #[.slice A0_0 l0_0.length c0_0] 24 (0, 0))) ∧ Aside0 (Below w.heap.size w wr)) (fun i _ => l0_0.length + 1 - (intOf i).toNat)
  case atStart => exact ⟨0, [], by simp, by omega, rfl, HS0, HRES, HK0, HB0⟩
  case round =>
    clear HS0 HRES HK0 HB0
    obtain ⟨k, seen, rfl, hkl, hlen, HSET, HF, HK, HB⟩ := hrel
    by_cases hk : k < l0_0.length
    · obtain ⟨ad, A6, c6, e1, x0, x1, x2, x3, x4, x5, x6, hl6, hi6⟩ := at_T52 HRD.out (k : Int) (by omega) (by omega)
      cases e1
      have hx := List.getElem_mem hk
      rw [rd_T52_at l0_0 k hk] at x0 x1 x2 x3 x4 x5 x6 hl6 hi6
      have hfr : rightF (l0_0.drop k) seen = (siteB l0_0[k].f0 l0_0[k].f1 l0_0[k].f2 l0_0[k].f3 l0_0[k].f6 && !inB l0_0[k].f0 seen && rightF (l0_0.drop (k + 1)) (l0_0[k].f0 :: seen)) := by
        rw [List.drop_eq_getElem_cons hk]
        rfl
      have hok := HOK.out l0_0[k] hx
      have HSP := Aside0.mk hfr
      have HOX := Aside0.mk hok
      have HKC := Aside0.mk hi6
      have HL6 := Aside0.mk hl6
      have HLEN := Aside0.mk hlen
      clear hfr hok hx hi6 hl6 hlen
      generalize l0_0[k] = x at *
      replace x0 := (HB.out.cell (World.block_lt_of_cell? w _ x0)).trans x0
      replace x1 := (HB.out.cell (World.block_lt_of_cell? w _ x1)).trans x1
      replace x2 := (HB.out.cell (World.block_lt_of_cell? w _ x2)).trans x2
      replace x3 := (HB.out.cell (World.block_lt_of_cell? w _ x3)).trans x3
      replace x4 := (HB.out.cell (World.block_lt_of_cell? w _ x4)).trans x4
      replace x5 := (HB.out.cell (World.block_lt_of_cell? w _ x5)).trans x5
      replace x6 := (HB.out.cell (World.block_lt_of_cell? w _ x6)).trans x6
      simp only [Int.toNat_natCast] at x0 x1 x2 x3 x4 x5 x6
      have p1 : (0 : Int) ≤ (k : Int) := by omega
      have p2 : (k : Int) < (l0_0.length : Int) := by omega
      go_upto_region 5 with fail
      have hbk := heap_alloc_new wr (.cells #[.string x.f0, .int .i64 x.f1, .int .i64 x.f2, .int .i64 x.f3, .bool x.f4, .bool x.f5, .slice A6 x.f6.length c6] 52)
      have hB1 := below_alloc HB.out (.cells #[.string x.f0, .int .i64 x.f1, .int .i64 x.f2, .int .i64 x.f3, .bool x.f4, .bool x.f5, .slice A6 x.f6.length c6] 52)
      have hK1 := blk_alloc HK.out (.cells #[.string x.f0, .int .i64 x.f1, .int .i64 x.f2, .int .i64 x.f3, .bool x.f4, .bool x.f5, .slice A6 x.f6.length c6] 52)
      have hS1 := HSET.out.block (Below.heap_alloc wr (.cells #[.string x.f0, .int .i64 x.f1, .int .i64 x.f2, .int .i64 x.f3, .bool x.f4, .bool x.f5, .slice A6 x.f6.length c6] 52) _ HSET.out.lt)
      have hne1 : wr.heap.size ≠ w.heap.size + 1 := by have := HSET.out.lt; omega
      have hgs : w.heap.size ≤ wr.heap.size := HB.out.size
      generalize wr.alloc (.cells #[.string x.f0, .int .i64 x.f1, .int .i64 x.f2, .int .i64 x.f3, .bool x.f4, .bool x.f5, .slice A6 x.f6.length c6] 52) = w1 at hbk hB1 hK1 hS1 ⊢
      clear x0 x1 x2 x3 x4 x5 x6 HB HK HSET
      generalize wr.heap.size = gs at *
      have HOB := HOX.out
      unfold okSite at HOB
      simp only [Bool.and_eq_true, decide_eq_true_eq] at HOB
      have HX := Aside0.mk HOB.1
      have HCALL := Aside0.mk (conf_Site_Right.calls x.f0 x.f1 x.f2 x.f3 x.f4 x.f5 A6 c6 x.f6 (siteB x.f0 x.f1 x.f2 x.f3 x.f6) w1 (Kd.C_below HKC.out hB1) HL6.out (by unfold conf_Site_Right.f; rw [if_pos HOB]))
      have c0 : w1.cell? ⟨gs, 0, none⟩ = some (.string x.f0) := (blk_cell hbk 0).trans rfl
      have c1 : w1.cell? ⟨gs, 1, none⟩ = some (.int .i64 x.f1) := (blk_cell hbk 1).trans rfl
      have c2 : w1.cell? ⟨gs, 2, none⟩ = some (.int .i64 x.f2) := (blk_cell hbk 2).trans rfl
      have c3 : w1.cell? ⟨gs, 3, none⟩ = some (.int .i64 x.f3) := (blk_cell hbk 3).trans rfl
      have c4 : w1.cell? ⟨gs, 4, none⟩ = some (.bool x.f4) := (blk_cell hbk 4).trans rfl
      have c5 : w1.cell? ⟨gs, 5, none⟩ = some (.bool x.f5) := (blk_cell hbk 5).trans rfl
      have c6' : w1.cell? ⟨gs, 6, none⟩ = some (.slice A6 x.f6.length c6) := (blk_cell hbk 6).trans rfl
      have HBK := Aside0.mk hbk
      have HB1 := Aside0.mk hB1
      have HK1 := Aside0.mk hK1
      have HS1 := Aside0.mk hS1
      clear HOX HOB hbk hB1 hK1 hS1
      go_wp2_with fail
      refine HCALL.out.mono ?_
      rintro e w2 ⟨rfl, hb2⟩
      have HB2 := Aside0.mk (below_then HB1.out HB1.out.size hb2)
      have hk2 := (hb2.block _ (blk_lt HK1.out)).trans HK1.out
      have hs2 := HS1.out.block (hb2.block _ HS1.out.lt)
      have d0 : w2.cell? ⟨gs, 0, none⟩ = some (.string x.f0) := (blk_cell ((hb2.block _ (blk_lt HBK.out)).trans HBK.out) 0).trans rfl
      have HK2 := Aside0.mk hk2
      have HS2 := Aside0.mk hs2
      clear c0 c1 c2 c3 c4 c5 c6' HCALL HBK HB1 HK1 HS1 hb2 hk2 hs2
      cases hsb : siteB x.f0 x.f1 x.f2 x.f3 x.f6 with
      | false =>
        have E : Aside0 (false = r) := ⟨by rw [← HF.out, HSP.out, hsb]; rfl⟩
        clear HF HSP hsb
        go_wp2
        go_ret
        exact ⟨congrArg (fun b => Ending.returned (.bool b)) E.out, HB2.out⟩
      | true =>
      have hlk := HS2.out.look x.f0 HX.out
      cases hin : inB x.f0 seen with
      | true =>
        have E : Aside0 (false = r) := ⟨by rw [← HF.out, HSP.out, hsb, hin]; rfl⟩
        rw [hin] at hlk
        clear HF HSP hsb hin
        go_wp2
        go_ret
        exact ⟨congrArg (fun b => Ending.returned (.bool b)) E.out, HB2.out⟩
      | false =>
      have HFN : Aside0 ((rightF (l0_0.drop (k + 1)) (x.f0 :: seen) && decide (l0_0.length ≤ 8)) = r) := ⟨by rw [← HF.out, HSP.out, hsb, hin]; rfl⟩
      rw [hin] at hlk
      obtain ⟨wm, hmu, hset, hgrow⟩ := HS2.out.put x.f0 HX.out (by have := HLEN.out; omega)
      have HSM := Aside0.mk hset
      have HKM : Aside0 (wm.heap[w.heap.size]? = some (.cells #[.slice (some ad) l0_0.length c0_0] 24 (0, 0))) := ⟨(hgrow.block w.heap.size (blk_lt HK2.out) (by simp)).trans HK2.out⟩
      have HBM : Aside0 (Below w.heap.size w wm) := ⟨HB2.out.grown hgrow HB2.out.size (fun k hk => by injection hk with hk; omega)⟩
      clear HF HSP hsb hin hset hgrow
      go_wp2
      go_roundw
      case rel => exact ⟨k + 1, x.f0 :: seen, by go_num, by omega, by have := HLEN.out; simp; omega, HSM, HFN, HKM, HBM⟩
      case measure => simp [intOf]; omega
    · have E : Aside0 (decide ((l0_0.length : Int) ≤ 8) = r) := ⟨by
        have := HF.out
        rw [List.drop_eq_nil_of_le (by omega)] at this
        rw [← this]
        simp only [rightF, Bool.true_and]
        exact decide_eq_decide.2 (by omega)⟩
      have p2 : ¬ (k : Int) < (l0_0.length : Int) := by omega
      have c0 : wr.cell? ⟨w.heap.size, 0, none⟩ = some (.slice A0_0 l0_0.length c0_0) := (blk_cell HK.out 0).trans rfl
      clear HF
      go_wp2
      go_ret
      exact ⟨congrArg (fun b => Ending.returned (.bool b)) E.out, HB.out⟩
end Go.Proofs.YtcoaajkhfgakgaaGreatDoor.Pr
end

section
namespace Go.Proofs.YtcoaajkhfgakgaaGreatDoor.Pr
open Go.RowKit Go.Proofs.YtcoaajkhfgakgaaGreatDoorW.PrintWords Go.Proofs.YtcoaajkhfgakgaaGreatDoorW.PrintLast Go.Proofs.YtcoaajkhfgakgaaGreatDoorW.PrintMore
attribute [local go_sem] max2_int min2_int max_two min_two max_three min_three max_four min_four   -- for this text's walks alone
set_option linter.unusedVariables false
set_option linter.unusedSimpArgs false
mutual
def pantrymade_SmallSites.l0 : Nat → List (S52) → Int → Int → List (S52) → Option (Bool)
  | 0, _, _, _, _ => none
  | k + 1, x8, x9, x10, x206000 => if x10 < x9 then (if 0 ≤ x10 then (if x10 < (x8.length : Int) then (if (((rd_T52 x8 x10).f0).size : Int) > 100 then (pantrymade_SmallSites.j1 k x8 x9 x10 true x206000 ((rd_T52 x8 x10).f0) ((rd_T52 x8 x10).f1) ((rd_T52 x8 x10).f2) ((rd_T52 x8 x10).f3) ((rd_T52 x8 x10).f4) ((rd_T52 x8 x10).f5) ((rd_T52 x8 x10).f6)) else (pantrymade_SmallSites.j1 k x8 x9 x10 (decide ((((rd_T52 x8 x10).f6).length : Int) > 10)) x206000 ((rd_T52 x8 x10).f0) ((rd_T52 x8 x10).f1) ((rd_T52 x8 x10).f2) ((rd_T52 x8 x10).f3) ((rd_T52 x8 x10).f4) ((rd_T52 x8 x10).f5) ((rd_T52 x8 x10).f6))) else (none)) else (none)) else (some (decide ((x206000.length : Int) ≤ 12)))
def pantrymade_SmallSites.j1 : Nat → List (S52) → Int → Int → Bool → List (S52) → ByteArray → Int → Int → Int → Bool → Bool → List ByteArray → Option (Bool)
  | 0, _, _, _, _, _, _, _, _, _, _, _, _ => none
  | k + 1, x8, x9, x10, x23, x206000, x208000, x208001, x208002, x208003, x208004, x208005, x208006 => if x23 = true then (some false) else (pantrymade_SmallSites.l1 k x8 x9 x10 x208006 (x208006.length : Int) 0 x206000)
def pantrymade_SmallSites.l1 : Nat → List (S52) → Int → Int → List ByteArray → Int → Int → List (S52) → Option (Bool)
  | 0, _, _, _, _, _, _, _ => none
  | k + 1, x8, x9, x10, x25, x26, x27, x206000 => if x27 < x26 then (if 0 ≤ x27 then (if x27 < (x25.length : Int) then (if ((rdOf ByteArray.empty x25 x27).size : Int) > 100 then (some false) else (pantrymade_SmallSites.l1 k x8 x9 x10 x25 x26 (wrap64 (x27 + 1)) x206000)) else (none)) else (none)) else (pantrymade_SmallSites.l0 k x8 x9 (wrap64 (x10 + 1)) x206000)
end
def pantrymade_SmallSites.f (k : Nat) (l0_0 : List (S52)) : Option (Bool) := pantrymade_SmallSites.l0 k l0_0 (l0_0.length : Int) 0 l0_0
theorem pantrymade_SmallSites.mono_l : ∀ k, (∀ y0 y1 y2 y3, LeO (pantrymade_SmallSites.l0 k y0 y1 y2 y3) (pantrymade_SmallSites.l0 (k + 1) y0 y1 y2 y3)) ∧ (∀ y0 y1 y2 y3 y4 y5 y6 y7 y8 y9 y10 y11, LeO (pantrymade_SmallSites.j1 k y0 y1 y2 y3 y4 y5 y6 y7 y8 y9 y10 y11) (pantrymade_SmallSites.j1 (k + 1) y0 y1 y2 y3 y4 y5 y6 y7 y8 y9 y10 y11)) ∧ (∀ y0 y1 y2 y3 y4 y5 y6, LeO (pantrymade_SmallSites.l1 k y0 y1 y2 y3 y4 y5 y6) (pantrymade_SmallSites.l1 (k + 1) y0 y1 y2 y3 y4 y5 y6))
  | 0 => ⟨fun _ _ _ _ r h => by simp [pantrymade_SmallSites.l0] at h, fun _ _ _ _ _ _ _ _ _ _ _ _ r h => by simp [pantrymade_SmallSites.j1] at h, fun _ _ _ _ _ _ _ r h => by simp [pantrymade_SmallSites.l1] at h⟩
  | k + 1 => by
    obtain ⟨ih0, ih1, ih2⟩ := pantrymade_SmallSites.mono_l k
    refine ⟨?_, ?_, ?_⟩
    · intro y0 y1 y2 y3
      unfold pantrymade_SmallSites.l0
      repeat' first
      | (with_reducible exact ih0 _ _ _ _)
      | (with_reducible exact ih1 _ _ _ _ _ _ _ _ _ _ _ _)
      | (with_reducible exact ih2 _ _ _ _ _ _ _)
      | (with_reducible exact LeO.refl _)
      | (with_reducible exact LeO.none _)
      | (with_reducible refine LeO.ite ?_ ?_)
      | (with_reducible refine LeO.bind ?_ (fun _ => ?_))
      | exact ih0 _ _ _ _
      | exact ih1 _ _ _ _ _ _ _ _ _ _ _ _
      | exact ih2 _ _ _ _ _ _ _
      | exact LeO.none _
      | refine LeO.ite ?_ ?_
      | refine LeO.bind ?_ (fun _ => ?_)
    · intro y0 y1 y2 y3 y4 y5 y6 y7 y8 y9 y10 y11
      unfold pantrymade_SmallSites.j1
      repeat' first
      | (with_reducible exact ih0 _ _ _ _)
      | (with_reducible exact ih1 _ _ _ _ _ _ _ _ _ _ _ _)
      | (with_reducible exact ih2 _ _ _ _ _ _ _)
      | (with_reducible exact LeO.refl _)
      | (with_reducible exact LeO.none _)
      | (with_reducible refine LeO.ite ?_ ?_)
      | (with_reducible refine LeO.bind ?_ (fun _ => ?_))
      | exact ih0 _ _ _ _
      | exact ih1 _ _ _ _ _ _ _ _ _ _ _ _
      | exact ih2 _ _ _ _ _ _ _
      | exact LeO.none _
      | refine LeO.ite ?_ ?_
      | refine LeO.bind ?_ (fun _ => ?_)
    · intro y0 y1 y2 y3 y4 y5 y6
      unfold pantrymade_SmallSites.l1
      repeat' first
      | (with_reducible exact ih0 _ _ _ _)
      | (with_reducible exact ih1 _ _ _ _ _ _ _ _ _ _ _ _)
      | (with_reducible exact ih2 _ _ _ _ _ _ _)
      | (with_reducible exact LeO.refl _)
      | (with_reducible exact LeO.none _)
      | (with_reducible refine LeO.ite ?_ ?_)
      | (with_reducible refine LeO.bind ?_ (fun _ => ?_))
      | exact ih0 _ _ _ _
      | exact ih1 _ _ _ _ _ _ _ _ _ _ _ _
      | exact ih2 _ _ _ _ _ _ _
      | exact LeO.none _
      | refine LeO.ite ?_ ?_
      | refine LeO.bind ?_ (fun _ => ?_)
theorem pantrymade_SmallSites.mono : ∀ a0 k, LeO (pantrymade_SmallSites.f k a0) (pantrymade_SmallSites.f (k + 1) a0) := by
  intro a0 k
  obtain ⟨ih0, ih1, ih2⟩ := pantrymade_SmallSites.mono_l k
  unfold pantrymade_SmallSites.f
  repeat' first
      | (with_reducible exact ih0 _ _ _ _)
      | (with_reducible exact ih1 _ _ _ _ _ _ _ _ _ _ _ _)
      | (with_reducible exact ih2 _ _ _ _ _ _ _)
      | (with_reducible exact LeO.refl _)
      | (with_reducible exact LeO.none _)
      | (with_reducible refine LeO.ite ?_ ?_)
      | (with_reducible refine LeO.bind ?_ (fun _ => ?_))
      | exact ih0 _ _ _ _
      | exact ih1 _ _ _ _ _ _ _ _ _ _ _ _
      | exact ih2 _ _ _ _ _ _ _
      | exact LeO.none _
      | refine LeO.ite ?_ ?_
      | refine LeO.bind ?_ (fun _ => ?_)
set_option maxHeartbeats 8000000 in
set_option maxRecDepth 100000 in
theorem pantrymade_SmallSites.calls (k : Nat) (A0_0 : Option Addr) (c0_0 : Nat) (l0_0 : List (S52)) (r : Bool) (w : World) (hr0_0 : Kd.C k52 w A0_0 l0_0.length l0_0) (hc0_0 : l0_0.length ≤ c0_0) (h : pantrymade_SmallSites.f k l0_0 = some r) :
  Calls Tryz.prog 11 #[.agg #[.slice A0_0 l0_0.length c0_0]] w fun e w' => e = .returned (.bool r) ∧ Below w.heap.size w w' := by
 have hu24 := Tryz.underlying24
 have hu52 := Tryz.underlying52
 have HR0_0 := Aside0.mk hr0_0
 have HC0_0 := Aside0.mk hc0_0
 clear hr0_0 hc0_0
 have HB := Aside0.mk (Below.refl w.heap.size w)
 have H : (pantrymade_SmallSites.l0 k l0_0 (l0_0.length : Int) 0 l0_0) = some r := h
 clear h
 have H' := Aside0.mk H
 clear H
 go_enter Tryz.func11, Tryz.ntmps11
 go_wp2_with (first | ((with_reducible refine gate_dst (N := 1) rfl ?_); (try (refine gate_guard (by rfl) ?_; dsimp only)); refine box_event ?hg (N := 1) ?hd (cs := #[.slice A0_0 l0_0.length c0_0]) (t := 24) ?hr ?_; (case hd => rfl); (case hg => rfl); (case hr => first | (go_simp; done) | (go_simp; rfl)); intro gb205 hg w2 hbox hb; have n0_ := Aside0.mk (below_step (by repeat (first | (with_reducible first | exact HB.out | apply below_alloc | apply pw_below_drewN | apply below_drew1) | exact HB.out)) hb); have n1_ := Aside0.mk (hbox); have n2_ := Aside0.mk ((by rw [hg]; exact (below_size (by repeat (first | (with_reducible first | exact HB.out | apply below_alloc | apply pw_below_drewN | apply below_drew1) | exact HB.out))) : w.heap.size ≤ gb205)); have n3_ := Aside0.mk ((by rw [hg]; exact (below_size (by repeat (first | (with_reducible first | exact HB.out | apply below_alloc | apply pw_below_drewN | apply below_drew1) | exact HB.out))) : w.heap.size ≤ gb205)); clear HB; have HB := n0_; have BK205 := n1_; have GW205 := n2_; have GE205 := n3_; clear n0_ n1_ n2_ n3_; clear hb hbox hg; have hcz3_0 : w2.cell? ⟨gb205, 0, none⟩ = some (.slice A0_0 l0_0.length c0_0) := (blk_cell BK205.out 0).trans rfl; have hfz3_0 := blk_frozen BK205.out 0))
 go_loopg [10] k (fun kq v10 w' => ∃ (x10_1 : Int), v10 = .int .i64 x10_1 ∧ Aside0 (pantrymade_SmallSites.l0 kq l0_0 (l0_0.length : Int) x10_1 l0_0 = some r) ∧ Aside0 (kq ≤ k) ∧ Aside0 (w'.heap[gb205]? = some (.cells #[(.slice A0_0 l0_0.length c0_0)] 24 (0, 0))) ∧ Aside0 (Below w.heap.size w w'))
 case atStart => exact ⟨(0), (by first | rfl | (simp; done) | (simp [*]; done)), H', ⟨Nat.le_refl _⟩, ⟨by (with_reducible repeat (first | refine zN ?_ _ | refine zD ?_ | refine zA ?_ _)); exact BK205.out⟩, ⟨by repeat (first | (with_reducible first | exact HB.out | apply below_alloc | apply pw_below_drewN | apply below_drew1 | refine below_set ?_ GE205.out) | exact HB.out)⟩⟩
 case round =>
  clear H'
  try clear c1
  try clear p2
  try clear hcz3_0
  try clear hfz3_0
  obtain ⟨x10_1, rfl, HA, HK1, BK205, HB⟩ := hrel
  cases gk with
  | zero => exact absurd HA.out (by simp [pantrymade_SmallSites.l0])
  | succ k1 =>
   have H := HA.out
   clear HA
   simp only [pantrymade_SmallSites.l0] at H
   by_cases c4 : x10_1 < (l0_0.length : Int)
   ·
    rw [if_pos c4] at H
    have c4b0 : decide (x10_1 < (l0_0.length : Int)) = true := decide_eq_true c4
    clear c4
    by_cases c5 : 0 ≤ x10_1
    ·
     rw [if_pos c5] at H
     have c5b0 : decide (0 ≤ x10_1) = true := decide_eq_true c5
     clear c5
     by_cases c6 : x10_1 < (l0_0.length : Int)
     ·
      rw [if_pos c6] at H
      have c6b0 : decide (x10_1 < (l0_0.length : Int)) = true := decide_eq_true c6
      clear c6
      have HC7 := Aside0.mk H
      clear H
      have p206 : 0 ≤ (x10_1 : Int) := of_decide_eq_true (by first | (with_reducible assumption) | assumption)
      have q206 : x10_1 < (l0_0.length : Int) := of_decide_eq_true (by first | (with_reducible assumption) | assumption)
      obtain ⟨ad206, A206_6, c206_6, e206, hx206_0, hx206_1, hx206_2, hx206_3, hx206_4, hx206_5, hx206_6, hl206_6, hi206_6⟩ := at_T52 HR0_0.out x10_1 p206 q206
      cases e206
      replace hx206_0 := (HB.out.cell (World.block_lt_of_cell? w _ hx206_0)).trans hx206_0
      replace hx206_1 := (HB.out.cell (World.block_lt_of_cell? w _ hx206_1)).trans hx206_1
      replace hx206_2 := (HB.out.cell (World.block_lt_of_cell? w _ hx206_2)).trans hx206_2
      replace hx206_3 := (HB.out.cell (World.block_lt_of_cell? w _ hx206_3)).trans hx206_3
      replace hx206_4 := (HB.out.cell (World.block_lt_of_cell? w _ hx206_4)).trans hx206_4
      replace hx206_5 := (HB.out.cell (World.block_lt_of_cell? w _ hx206_5)).trans hx206_5
      replace hx206_6 := (HB.out.cell (World.block_lt_of_cell? w _ hx206_6)).trans hx206_6
      have HR206_6 := Aside0.mk hi206_6
      have HC206_6 := Aside0.mk hl206_6
      clear hi206_6 hl206_6
      replace p206 := eq_true p206
      replace q206 := eq_true q206
      go_upto_region 4 with (first | ((with_reducible refine gate_dst (N := 4) rfl ?_); (try (refine gate_guard (by rfl) ?_; dsimp only)); refine box_event ?hg (N := 4) ?hd (cs := #[.string (⟨#[]⟩ : ByteArray), .int .i64 0, .int .i64 0, .int .i64 0, .bool false, .bool false, .slice none 0 0]) (t := 52) ?hr ?_; (case hd => rfl); (case hg => rfl); (case hr => first | (go_simp; done) | (go_simp; rfl)); intro gb207 hg w8 hbox hb; have n0_ := Aside0.mk (blk_below (g := gb205) (o := .cells #[.slice (some ad206) l0_0.length c0_0] 24 (0, 0)) (by (with_reducible repeat (first | refine zN ?_ _ | refine zD ?_ | refine zA ?_ _)); exact BK205.out) hb); have n1_ := Aside0.mk (below_step (by repeat (first | (with_reducible first | exact HB.out | apply below_alloc | apply pw_below_drewN | apply below_drew1 | refine below_set ?_ GE205.out) | exact HB.out)) hb); have n2_ := Aside0.mk (hbox); have n3_ := Aside0.mk ((by rw [hg]; exact (below_size (by repeat (first | (with_reducible first | exact HB.out | apply below_alloc | apply pw_below_drewN | apply below_drew1 | refine below_set ?_ GE205.out) | exact HB.out))) : w.heap.size ≤ gb207)); have n4_ := Aside0.mk ((by rw [hg]; exact (below_size (by repeat (first | (with_reducible first | exact HB.out | apply below_alloc | apply pw_below_drewN | apply below_drew1 | refine below_set ?_ GE205.out) | exact HB.out))) : w.heap.size ≤ gb207)); have n5_ := Aside0.mk ((by rw [hg]; exact Nat.ne_of_lt (blk_lt (g := gb205) (o := .cells #[.slice (some ad206) l0_0.length c0_0] 24 (0, 0)) (by (with_reducible repeat (first | refine zN ?_ _ | refine zD ?_ | refine zA ?_ _)); exact BK205.out)) : gb205 ≠ gb207)); have n6_ := Aside0.mk ((by rw [hg]; exact Nat.ne_of_gt (blk_lt (g := gb205) (o := .cells #[.slice (some ad206) l0_0.length c0_0] 24 (0, 0)) (by (with_reducible repeat (first | refine zN ?_ _ | refine zD ?_ | refine zA ?_ _)); exact BK205.out)) : gb207 ≠ gb205)); clear BK205; clear HB; have BK205 := n0_; have HB := n1_; have BK207 := n2_; have GW207 := n3_; have GE207 := n4_; have NB205_207 := n5_; have NB207_205 := n6_; clear n0_ n1_ n2_ n3_ n4_ n5_ n6_; clear hb hbox hg; have hnb9 := NB207_205.out; have hnc9 := NB205_207.out; have hcz10_0 : w8.cell? ⟨gb207, 0, none⟩ = some (.string (⟨#[]⟩ : ByteArray)) := (blk_cell BK207.out 0).trans rfl; have hcz10_1 : w8.cell? ⟨gb207, 1, none⟩ = some (.int .i64 0) := (blk_cell BK207.out 1).trans rfl; have hcz10_2 : w8.cell? ⟨gb207, 2, none⟩ = some (.int .i64 0) := (blk_cell BK207.out 2).trans rfl; have hcz10_3 : w8.cell? ⟨gb207, 3, none⟩ = some (.int .i64 0) := (blk_cell BK207.out 3).trans rfl; have hcz10_4 : w8.cell? ⟨gb207, 4, none⟩ = some (.bool false) := (blk_cell BK207.out 4).trans rfl; have hcz10_5 : w8.cell? ⟨gb207, 5, none⟩ = some (.bool false) := (blk_cell BK207.out 5).trans rfl; have hcz10_6 : w8.cell? ⟨gb207, 6, none⟩ = some (.slice none 0 0) := (blk_cell BK207.out 6).trans rfl; have hfz10_0 := blk_frozen BK207.out 0; have hfz10_1 := blk_frozen BK207.out 1; have hfz10_2 := blk_frozen BK207.out 2; have hfz10_3 := blk_frozen BK207.out 3; have hfz10_4 := blk_frozen BK207.out 4; have hfz10_5 := blk_frozen BK207.out 5; have hfz10_6 := blk_frozen BK207.out 6))
      (try simp only [Act.put, List.setIfInBounds_toArray, List.set_cons_zero, List.set_cons_succ])
      go_cut [23] (fun v23 wc => ∃ (kq : Nat) (x23_6 : Bool), v23 = .bool x23_6 ∧ Aside0 (pantrymade_SmallSites.j1 kq l0_0 (l0_0.length : Int) x10_1 x23_6 l0_0 ((rd_T52 l0_0 x10_1).f0) ((rd_T52 l0_0 x10_1).f1) ((rd_T52 l0_0 x10_1).f2) ((rd_T52 l0_0 x10_1).f3) ((rd_T52 l0_0 x10_1).f4) ((rd_T52 l0_0 x10_1).f5) ((rd_T52 l0_0 x10_1).f6) = some r) ∧ Aside0 (kq ≤ k1) ∧ Aside0 (wc.heap[gb205]? = some (.cells #[(.slice (some ad206) l0_0.length c0_0)] 24 (0, 0))) ∧ Aside0 (wc.heap[gb207]? = some (.cells #[.string ((rd_T52 l0_0 x10_1).f0), .int .i64 ((rd_T52 l0_0 x10_1).f1), .int .i64 ((rd_T52 l0_0 x10_1).f2), .int .i64 ((rd_T52 l0_0 x10_1).f3), .bool ((rd_T52 l0_0 x10_1).f4), .bool ((rd_T52 l0_0 x10_1).f5), (.slice A206_6 ((rd_T52 l0_0 x10_1).f6).length c206_6)] 52 (0, 0))) ∧ Aside0 (Below w.heap.size w wc))
      case first =>
       have H := HC7.out
       clear HC7
       by_cases c11 : (((rd_T52 l0_0 x10_1).f0).size : Int) > 100
       ·
        rw [if_pos c11] at H
        have c11b0 : decide (100 < (((rd_T52 l0_0 x10_1).f0).size : Int)) = true := decide_eq_true c11
        have c11b1 : decide (100 < ((rd_T52 l0_0 x10_1).f0).size) = true := decide_eq_true (by omega)
        clear c11
        (first | rw [c11b0] | (simp only [i64_w, i32_w]; rw [c11b0]) | skip)
        have H' := Aside0.mk H
        clear H
        have hnb12 := NB207_205.out
        have hnc12 := NB205_207.out
        have hcz13_0 : w8.cell? ⟨gb207, 0, none⟩ = some (.string (⟨#[]⟩ : ByteArray)) := (blk_cell BK207.out 0).trans rfl
        have hcz13_1 : w8.cell? ⟨gb207, 1, none⟩ = some (.int .i64 0) := (blk_cell BK207.out 1).trans rfl
        have hcz13_2 : w8.cell? ⟨gb207, 2, none⟩ = some (.int .i64 0) := (blk_cell BK207.out 2).trans rfl
        have hcz13_3 : w8.cell? ⟨gb207, 3, none⟩ = some (.int .i64 0) := (blk_cell BK207.out 3).trans rfl
        have hcz13_4 : w8.cell? ⟨gb207, 4, none⟩ = some (.bool false) := (blk_cell BK207.out 4).trans rfl
        have hcz13_5 : w8.cell? ⟨gb207, 5, none⟩ = some (.bool false) := (blk_cell BK207.out 5).trans rfl
        have hcz13_6 : w8.cell? ⟨gb207, 6, none⟩ = some (.slice none 0 0) := (blk_cell BK207.out 6).trans rfl
        have hfz13_0 := blk_frozen BK207.out 0
        have hfz13_1 := blk_frozen BK207.out 1
        have hfz13_2 := blk_frozen BK207.out 2
        have hfz13_3 := blk_frozen BK207.out 3
        have hfz13_4 := blk_frozen BK207.out 4
        have hfz13_5 := blk_frozen BK207.out 5
        have hfz13_6 := blk_frozen BK207.out 6
        go_wp2
        go_meet
        case rel => exact ⟨_, (true), (by first | rfl | (simp; done) | (simp [*]; done)), H', ⟨by have := HK1.out; first | omega | exact Nat.le_refl _⟩, ⟨by (with_reducible repeat (first | refine zN ?_ _ | refine zD ?_ | refine zA ?_ _)); refine blk_far ?_ NB205_207.out _; (with_reducible repeat (first | refine zN ?_ _ | refine zD ?_ | refine zA ?_ _)); refine blk_far ?_ NB205_207.out _; (with_reducible repeat (first | refine zN ?_ _ | refine zD ?_ | refine zA ?_ _)); refine blk_far ?_ NB205_207.out _; (with_reducible repeat (first | refine zN ?_ _ | refine zD ?_ | refine zA ?_ _)); refine blk_far ?_ NB205_207.out _; (with_reducible repeat (first | refine zN ?_ _ | refine zD ?_ | refine zA ?_ _)); refine blk_far ?_ NB205_207.out _; (with_reducible repeat (first | refine zN ?_ _ | refine zD ?_ | refine zA ?_ _)); refine blk_far ?_ NB205_207.out _; (with_reducible repeat (first | refine zN ?_ _ | refine zD ?_ | refine zA ?_ _)); refine blk_far ?_ NB205_207.out _; (with_reducible repeat (first | refine zN ?_ _ | refine zD ?_ | refine zA ?_ _)); exact BK205.out⟩, ⟨by (with_reducible repeat (first | refine zN ?_ _ | refine zD ?_ | refine zA ?_ _)); refine blk_put (cs := #[.string ((rd_T52 l0_0 x10_1).f0), .int .i64 ((rd_T52 l0_0 x10_1).f1), .int .i64 ((rd_T52 l0_0 x10_1).f2), .int .i64 ((rd_T52 l0_0 x10_1).f3), .bool ((rd_T52 l0_0 x10_1).f4), .bool ((rd_T52 l0_0 x10_1).f5), .slice none 0 0]) ?_ 6 _ rfl; (with_reducible repeat (first | refine zN ?_ _ | refine zD ?_ | refine zA ?_ _)); refine blk_put (cs := #[.string ((rd_T52 l0_0 x10_1).f0), .int .i64 ((rd_T52 l0_0 x10_1).f1), .int .i64 ((rd_T52 l0_0 x10_1).f2), .int .i64 ((rd_T52 l0_0 x10_1).f3), .bool ((rd_T52 l0_0 x10_1).f4), .bool false, .slice none 0 0]) ?_ 5 _ rfl; (with_reducible repeat (first | refine zN ?_ _ | refine zD ?_ | refine zA ?_ _)); refine blk_put (cs := #[.string ((rd_T52 l0_0 x10_1).f0), .int .i64 ((rd_T52 l0_0 x10_1).f1), .int .i64 ((rd_T52 l0_0 x10_1).f2), .int .i64 ((rd_T52 l0_0 x10_1).f3), .bool false, .bool false, .slice none 0 0]) ?_ 4 _ rfl; (with_reducible repeat (first | refine zN ?_ _ | refine zD ?_ | refine zA ?_ _)); refine blk_put (cs := #[.string ((rd_T52 l0_0 x10_1).f0), .int .i64 ((rd_T52 l0_0 x10_1).f1), .int .i64 ((rd_T52 l0_0 x10_1).f2), .int .i64 0, .bool false, .bool false, .slice none 0 0]) ?_ 3 _ rfl; (with_reducible repeat (first | refine zN ?_ _ | refine zD ?_ | refine zA ?_ _)); refine blk_put (cs := #[.string ((rd_T52 l0_0 x10_1).f0), .int .i64 ((rd_T52 l0_0 x10_1).f1), .int .i64 0, .int .i64 0, .bool false, .bool false, .slice none 0 0]) ?_ 2 _ rfl; (with_reducible repeat (first | refine zN ?_ _ | refine zD ?_ | refine zA ?_ _)); refine blk_put (cs := #[.string ((rd_T52 l0_0 x10_1).f0), .int .i64 0, .int .i64 0, .int .i64 0, .bool false, .bool false, .slice none 0 0]) ?_ 1 _ rfl; (with_reducible repeat (first | refine zN ?_ _ | refine zD ?_ | refine zA ?_ _)); refine blk_put (cs := #[.string (⟨#[]⟩ : ByteArray), .int .i64 0, .int .i64 0, .int .i64 0, .bool false, .bool false, .slice none 0 0]) ?_ 0 _ rfl; (with_reducible repeat (first | refine zN ?_ _ | refine zD ?_ | refine zA ?_ _)); exact BK207.out⟩, ⟨by repeat (first | (with_reducible first | exact HB.out | apply below_alloc | apply pw_below_drewN | apply below_drew1 | refine below_set ?_ GE205.out | refine below_set ?_ GE207.out) | exact HB.out)⟩⟩
       ·
        rw [if_neg c11] at H
        have c11b0 : decide (100 < (((rd_T52 l0_0 x10_1).f0).size : Int)) = false := decide_eq_false c11
        have c11b1 : decide (100 < ((rd_T52 l0_0 x10_1).f0).size) = false := decide_eq_false (by omega)
        clear c11
        (first | rw [c11b0] | (simp only [i64_w, i32_w]; rw [c11b0]) | skip)
        have H' := Aside0.mk H
        clear H
        have hnb14 := NB207_205.out
        have hnc14 := NB205_207.out
        have hcz15_0 : w8.cell? ⟨gb207, 0, none⟩ = some (.string (⟨#[]⟩ : ByteArray)) := (blk_cell BK207.out 0).trans rfl
        have hcz15_1 : w8.cell? ⟨gb207, 1, none⟩ = some (.int .i64 0) := (blk_cell BK207.out 1).trans rfl
        have hcz15_2 : w8.cell? ⟨gb207, 2, none⟩ = some (.int .i64 0) := (blk_cell BK207.out 2).trans rfl
        have hcz15_3 : w8.cell? ⟨gb207, 3, none⟩ = some (.int .i64 0) := (blk_cell BK207.out 3).trans rfl
        have hcz15_4 : w8.cell? ⟨gb207, 4, none⟩ = some (.bool false) := (blk_cell BK207.out 4).trans rfl
        have hcz15_5 : w8.cell? ⟨gb207, 5, none⟩ = some (.bool false) := (blk_cell BK207.out 5).trans rfl
        have hcz15_6 : w8.cell? ⟨gb207, 6, none⟩ = some (.slice none 0 0) := (blk_cell BK207.out 6).trans rfl
        have hfz15_0 := blk_frozen BK207.out 0
        have hfz15_1 := blk_frozen BK207.out 1
        have hfz15_2 := blk_frozen BK207.out 2
        have hfz15_3 := blk_frozen BK207.out 3
        have hfz15_4 := blk_frozen BK207.out 4
        have hfz15_5 := blk_frozen BK207.out 5
        have hfz15_6 := blk_frozen BK207.out 6
        go_wp2
        go_meet
        case rel => exact ⟨_, (decide ((((rd_T52 l0_0 x10_1).f6).length : Int) > 10)), (by first | rfl | (simp; done) | (simp [*]; done)), H', ⟨by have := HK1.out; first | omega | exact Nat.le_refl _⟩, ⟨by (with_reducible repeat (first | refine zN ?_ _ | refine zD ?_ | refine zA ?_ _)); refine blk_far ?_ NB205_207.out _; (with_reducible repeat (first | refine zN ?_ _ | refine zD ?_ | refine zA ?_ _)); refine blk_far ?_ NB205_207.out _; (with_reducible repeat (first | refine zN ?_ _ | refine zD ?_ | refine zA ?_ _)); refine blk_far ?_ NB205_207.out _; (with_reducible repeat (first | refine zN ?_ _ | refine zD ?_ | refine zA ?_ _)); refine blk_far ?_ NB205_207.out _; (with_reducible repeat (first | refine zN ?_ _ | refine zD ?_ | refine zA ?_ _)); refine blk_far ?_ NB205_207.out _; (with_reducible repeat (first | refine zN ?_ _ | refine zD ?_ | refine zA ?_ _)); refine blk_far ?_ NB205_207.out _; (with_reducible repeat (first | refine zN ?_ _ | refine zD ?_ | refine zA ?_ _)); refine blk_far ?_ NB205_207.out _; (with_reducible repeat (first | refine zN ?_ _ | refine zD ?_ | refine zA ?_ _)); exact BK205.out⟩, ⟨by (with_reducible repeat (first | refine zN ?_ _ | refine zD ?_ | refine zA ?_ _)); refine blk_put (cs := #[.string ((rd_T52 l0_0 x10_1).f0), .int .i64 ((rd_T52 l0_0 x10_1).f1), .int .i64 ((rd_T52 l0_0 x10_1).f2), .int .i64 ((rd_T52 l0_0 x10_1).f3), .bool ((rd_T52 l0_0 x10_1).f4), .bool ((rd_T52 l0_0 x10_1).f5), .slice none 0 0]) ?_ 6 _ rfl; (with_reducible repeat (first | refine zN ?_ _ | refine zD ?_ | refine zA ?_ _)); refine blk_put (cs := #[.string ((rd_T52 l0_0 x10_1).f0), .int .i64 ((rd_T52 l0_0 x10_1).f1), .int .i64 ((rd_T52 l0_0 x10_1).f2), .int .i64 ((rd_T52 l0_0 x10_1).f3), .bool ((rd_T52 l0_0 x10_1).f4), .bool false, .slice none 0 0]) ?_ 5 _ rfl; (with_reducible repeat (first | refine zN ?_ _ | refine zD ?_ | refine zA ?_ _)); refine blk_put (cs := #[.string ((rd_T52 l0_0 x10_1).f0), .int .i64 ((rd_T52 l0_0 x10_1).f1), .int .i64 ((rd_T52 l0_0 x10_1).f2), .int .i64 ((rd_T52 l0_0 x10_1).f3), .bool false, .bool false, .slice none 0 0]) ?_ 4 _ rfl; (with_reducible repeat (first | refine zN ?_ _ | refine zD ?_ | refine zA ?_ _)); refine blk_put (cs := #[.string ((rd_T52 l0_0 x10_1).f0), .int .i64 ((rd_T52 l0_0 x10_1).f1), .int .i64 ((rd_T52 l0_0 x10_1).f2), .int .i64 0, .bool false, .bool false, .slice none 0 0]) ?_ 3 _ rfl; (with_reducible repeat (first | refine zN ?_ _ | refine zD ?_ | refine zA ?_ _)); refine blk_put (cs := #[.string ((rd_T52 l0_0 x10_1).f0), .int .i64 ((rd_T52 l0_0 x10_1).f1), .int .i64 0, .int .i64 0, .bool false, .bool false, .slice none 0 0]) ?_ 2 _ rfl; (with_reducible repeat (first | refine zN ?_ _ | refine zD ?_ | refine zA ?_ _)); refine blk_put (cs := #[.string ((rd_T52 l0_0 x10_1).f0), .int .i64 0, .int .i64 0, .int .i64 0, .bool false, .bool false, .slice none 0 0]) ?_ 1 _ rfl; (with_reducible repeat (first | refine zN ?_ _ | refine zD ?_ | refine zA ?_ _)); refine blk_put (cs := #[.string (⟨#[]⟩ : ByteArray), .int .i64 0, .int .i64 0, .int .i64 0, .bool false, .bool false, .slice none 0 0]) ?_ 0 _ rfl; (with_reducible repeat (first | refine zN ?_ _ | refine zD ?_ | refine zA ?_ _)); exact BK207.out⟩, ⟨by repeat (first | (with_reducible first | exact HB.out | apply below_alloc | apply pw_below_drewN | apply below_drew1 | refine below_set ?_ GE205.out | refine below_set ?_ GE207.out) | exact HB.out)⟩⟩
      case rest =>
       clear HC7
       try clear c1
       try clear c2
       try clear p2
       try clear q2
       try clear hx2
       try clear c4
       try clear c4b0
       try clear c5
       try clear c5b0
       try clear c6
       try clear c6b0
       try clear c9
       try clear c11
       try clear c11b0
       try clear c11b1
       try clear c12
       try clear c14
       try clear hcz10_0
       try clear hcz10_1
       try clear hcz10_2
       try clear hcz10_3
       try clear hcz10_4
       try clear hcz10_5
       try clear hcz10_6
       try clear hcz13_0
       try clear hcz13_1
       try clear hcz13_2
       try clear hcz13_3
       try clear hcz13_4
       try clear hcz13_5
       try clear hcz13_6
       try clear hcz15_0
       try clear hcz15_1
       try clear hcz15_2
       try clear hcz15_3
       try clear hcz15_4
       try clear hcz15_5
       try clear hcz15_6
       try clear hcz3_0
       try clear hfz10_0
       try clear hfz10_1
       try clear hfz10_2
       try clear hfz10_3
       try clear hfz10_4
       try clear hfz10_5
       try clear hfz10_6
       try clear hfz13_0
       try clear hfz13_1
       try clear hfz13_2
       try clear hfz13_3
       try clear hfz13_4
       try clear hfz13_5
       try clear hfz13_6
       try clear hfz15_0
       try clear hfz15_1
       try clear hfz15_2
       try clear hfz15_3
       try clear hfz15_4
       try clear hfz15_5
       try clear hfz15_6
       try clear hfz3_0
       try clear hx206_0
       try clear hx206_1
       try clear hx206_2
       try clear hx206_3
       try clear hx206_4
       try clear hx206_5
       try clear hx206_6
       try clear p2
       try clear p206
       try clear q206
       obtain ⟨kq, x23_6, rfl, HA, HJ6, BK205, BK207, HB⟩ := hcut
       cases kq with
       | zero => exact absurd HA.out (by simp [pantrymade_SmallSites.j1])
       | succ kj6 =>
        have H := HA.out
        clear HA
        simp only [pantrymade_SmallSites.j1] at H
        by_cases c16 : x23_6 = true
        ·
         subst c16
         have H1 : (some false) = some r := by rw [if_pos rfl] at H; exact H
         clear H
         have H := H1
         clear H1
         obtain rfl := Option.some.inj H
         go_wp2
         go_ret
         exact ⟨by first | rfl | (simp [errW_none, errW_some] <;> rfl) | (simp [*, errW_none, errW_some] <;> rfl) | (simp only [ne_nil_bool]; rfl), by repeat (first | (with_reducible first | exact HB.out | apply below_alloc | apply pw_below_drewN | apply below_drew1 | refine below_set ?_ GE205.out | refine below_set ?_ GE207.out) | exact HB.out)⟩
        ·
         replace c16 := Bool.eq_false_iff.mpr c16
         subst c16
         have H1 : (pantrymade_SmallSites.l1 kj6 l0_0 (l0_0.length : Int) x10_1 ((rd_T52 l0_0 x10_1).f6) (((rd_T52 l0_0 x10_1).f6).length : Int) 0 l0_0) = some r := by rw [if_neg (show ¬ (false = true) by decide)] at H; exact H
         clear H
         have H := H1
         clear H1
         have H' := Aside0.mk H
         clear H
         have hnb17 := NB207_205.out
         have hnc17 := NB205_207.out
         have hcz18_0 : wc.cell? ⟨gb207, 0, none⟩ = some (.string ((rd_T52 l0_0 x10_1).f0)) := (blk_cell BK207.out 0).trans rfl
         have hcz18_1 : wc.cell? ⟨gb207, 1, none⟩ = some (.int .i64 ((rd_T52 l0_0 x10_1).f1)) := (blk_cell BK207.out 1).trans rfl
         have hcz18_2 : wc.cell? ⟨gb207, 2, none⟩ = some (.int .i64 ((rd_T52 l0_0 x10_1).f2)) := (blk_cell BK207.out 2).trans rfl
         have hcz18_3 : wc.cell? ⟨gb207, 3, none⟩ = some (.int .i64 ((rd_T52 l0_0 x10_1).f3)) := (blk_cell BK207.out 3).trans rfl
         have hcz18_4 : wc.cell? ⟨gb207, 4, none⟩ = some (.bool ((rd_T52 l0_0 x10_1).f4)) := (blk_cell BK207.out 4).trans rfl
         have hcz18_5 : wc.cell? ⟨gb207, 5, none⟩ = some (.bool ((rd_T52 l0_0 x10_1).f5)) := (blk_cell BK207.out 5).trans rfl
         have hcz18_6 : wc.cell? ⟨gb207, 6, none⟩ = some (.slice A206_6 ((rd_T52 l0_0 x10_1).f6).length c206_6) := (blk_cell BK207.out 6).trans rfl
         have hfz18_0 := blk_frozen BK207.out 0
         have hfz18_1 := blk_frozen BK207.out 1
         have hfz18_2 := blk_frozen BK207.out 2
         have hfz18_3 := blk_frozen BK207.out 3
         have hfz18_4 := blk_frozen BK207.out 4
         have hfz18_5 := blk_frozen BK207.out 5
         have hfz18_6 := blk_frozen BK207.out 6
         go_wp2
         go_loopg [27] kj6 (fun kq v27 w' => ∃ (x27_3 : Int), v27 = .int .i64 x27_3 ∧ Aside0 (pantrymade_SmallSites.l1 kq l0_0 (l0_0.length : Int) x10_1 ((rd_T52 l0_0 x10_1).f6) (((rd_T52 l0_0 x10_1).f6).length : Int) x27_3 l0_0 = some r) ∧ Aside0 (kq ≤ kj6) ∧ Aside0 (w'.heap[gb205]? = some (.cells #[(.slice (some ad206) l0_0.length c0_0)] 24 (0, 0))) ∧ Aside0 (w'.heap[gb207]? = some (.cells #[.string ((rd_T52 l0_0 x10_1).f0), .int .i64 ((rd_T52 l0_0 x10_1).f1), .int .i64 ((rd_T52 l0_0 x10_1).f2), .int .i64 ((rd_T52 l0_0 x10_1).f3), .bool ((rd_T52 l0_0 x10_1).f4), .bool ((rd_T52 l0_0 x10_1).f5), (.slice A206_6 ((rd_T52 l0_0 x10_1).f6).length c206_6)] 52 (0, 0))) ∧ Aside0 (Below w.heap.size w w'))
         case atStart => exact ⟨(0), (by first | rfl | (simp; done) | (simp [*]; done)), H', ⟨Nat.le_refl _⟩, ⟨by (with_reducible repeat (first | refine zN ?_ _ | refine zD ?_ | refine zA ?_ _)); exact BK205.out⟩, ⟨by (with_reducible repeat (first | refine zN ?_ _ | refine zD ?_ | refine zA ?_ _)); exact BK207.out⟩, ⟨by repeat (first | (with_reducible first | exact HB.out | apply below_alloc | apply pw_below_drewN | apply below_drew1 | refine below_set ?_ GE205.out | refine below_set ?_ GE207.out) | exact HB.out)⟩⟩
         case round =>
          clear H'
          try clear c1
          try clear c2
          try clear p2
          try clear q2
          try clear hx2
          try clear c4
          try clear c4b0
          try clear c5
          try clear c5b0
          try clear c6
          try clear c6b0
          try clear c9
          try clear c11
          try clear c11b0
          try clear c11b1
          try clear c12
          try clear c14
          try clear c16
          try clear c17
          try clear hcz10_0
          try clear hcz10_1
          try clear hcz10_2
          try clear hcz10_3
          try clear hcz10_4
          try clear hcz10_5
          try clear hcz10_6
          try clear hcz13_0
          try clear hcz13_1
          try clear hcz13_2
          try clear hcz13_3
          try clear hcz13_4
          try clear hcz13_5
          try clear hcz13_6
          try clear hcz15_0
          try clear hcz15_1
          try clear hcz15_2
          try clear hcz15_3
          try clear hcz15_4
          try clear hcz15_5
          try clear hcz15_6
          try clear hcz18_0
          try clear hcz18_1
          try clear hcz18_2
          try clear hcz18_3
          try clear hcz18_4
          try clear hcz18_5
          try clear hcz18_6
          try clear hcz3_0
          try clear hfz10_0
          try clear hfz10_1
          try clear hfz10_2
          try clear hfz10_3
          try clear hfz10_4
          try clear hfz10_5
          try clear hfz10_6
          try clear hfz13_0
          try clear hfz13_1
          try clear hfz13_2
          try clear hfz13_3
          try clear hfz13_4
          try clear hfz13_5
          try clear hfz13_6
          try clear hfz15_0
          try clear hfz15_1
          try clear hfz15_2
          try clear hfz15_3
          try clear hfz15_4
          try clear hfz15_5
          try clear hfz15_6
          try clear hfz18_0
          try clear hfz18_1
          try clear hfz18_2
          try clear hfz18_3
          try clear hfz18_4
          try clear hfz18_5
          try clear hfz18_6
          try clear hfz3_0
          try clear hx206_0
          try clear hx206_1
          try clear hx206_2
          try clear hx206_3
          try clear hx206_4
          try clear hx206_5
          try clear hx206_6
          try clear p2
          try clear p206
          try clear q2
          try clear q206
          obtain ⟨x27_3, rfl, HA, HK3, BK205, BK207, HB⟩ := hrel
          cases gk with
          | zero => exact absurd HA.out (by simp [pantrymade_SmallSites.l1])
          | succ k3 =>
           have H := HA.out
           clear HA
           simp only [pantrymade_SmallSites.l1] at H
           by_cases c19 : x27_3 < (((rd_T52 l0_0 x10_1).f6).length : Int)
           ·
            rw [if_pos c19] at H
            have c19b0 : decide (x27_3 < (((rd_T52 l0_0 x10_1).f6).length : Int)) = true := decide_eq_true c19
            clear c19
            by_cases c20 : 0 ≤ x27_3
            ·
             rw [if_pos c20] at H
             have c20b0 : decide (0 ≤ x27_3) = true := decide_eq_true c20
             clear c20
             by_cases c21 : x27_3 < (((rd_T52 l0_0 x10_1).f6).length : Int)
             ·
              rw [if_pos c21] at H
              have c21b0 : decide (x27_3 < (((rd_T52 l0_0 x10_1).f6).length : Int)) = true := decide_eq_true c21
              clear c21
              by_cases c22 : ((rdOf ByteArray.empty ((rd_T52 l0_0 x10_1).f6) x27_3).size : Int) > 100
              ·
               rw [if_pos c22] at H
               have c22b0 : decide (100 < ((rdOf ByteArray.empty ((rd_T52 l0_0 x10_1).f6) x27_3).size : Int)) = true := decide_eq_true c22
               have c22b1 : decide (100 < (rdOf ByteArray.empty ((rd_T52 l0_0 x10_1).f6) x27_3).size) = true := decide_eq_true (by omega)
               clear c22
               obtain rfl := Option.some.inj H
               have p208 : 0 ≤ (x27_3 : Int) := of_decide_eq_true (by first | (with_reducible assumption) | assumption)
               have q208 : x27_3 < (((rd_T52 l0_0 x10_1).f6).length : Int) := of_decide_eq_true (by first | (with_reducible assumption) | assumption)
               obtain ⟨ad208, e208, hx208_0⟩ := Kd.at_string HR206_6.out x27_3 p208 q208
               cases e208
               replace hx208_0 := (HB.out.cell (World.block_lt_of_cell? w _ hx208_0)).trans hx208_0
               replace p208 := eq_true p208
               replace q208 := eq_true q208
               go_wp2
               go_ret
               exact ⟨by first | rfl | (simp [errW_none, errW_some] <;> rfl) | (simp [*, errW_none, errW_some] <;> rfl) | (simp only [ne_nil_bool]; rfl), by repeat (first | (with_reducible first | exact HB.out | apply below_alloc | apply pw_below_drewN | apply below_drew1 | refine below_set ?_ GE205.out | refine below_set ?_ GE207.out) | exact HB.out)⟩
              ·
               rw [if_neg c22] at H
               have c22b0 : decide (100 < ((rdOf ByteArray.empty ((rd_T52 l0_0 x10_1).f6) x27_3).size : Int)) = false := decide_eq_false c22
               have c22b1 : decide (100 < (rdOf ByteArray.empty ((rd_T52 l0_0 x10_1).f6) x27_3).size) = false := decide_eq_false (by omega)
               clear c22
               have H' := Aside0.mk H
               clear H
               have p208 : 0 ≤ (x27_3 : Int) := of_decide_eq_true (by first | (with_reducible assumption) | assumption)
               have q208 : x27_3 < (((rd_T52 l0_0 x10_1).f6).length : Int) := of_decide_eq_true (by first | (with_reducible assumption) | assumption)
               obtain ⟨ad208, e208, hx208_0⟩ := Kd.at_string HR206_6.out x27_3 p208 q208
               cases e208
               replace hx208_0 := (HB.out.cell (World.block_lt_of_cell? w _ hx208_0)).trans hx208_0
               replace p208 := eq_true p208
               replace q208 := eq_true q208
               go_wp2
               go_roundg k3
               case measure => have := HK1.out; have := HJ6.out; have := HK3.out; omega
               case rel => exact ⟨(wrap64 (x27_3 + 1)), (by first | rfl | (simp; done) | (simp [*]; done)), H', ⟨by have := HK1.out; have := HJ6.out; have := HK3.out; omega⟩, ⟨by (with_reducible repeat (first | refine zN ?_ _ | refine zD ?_ | refine zA ?_ _)); exact BK205.out⟩, ⟨by (with_reducible repeat (first | refine zN ?_ _ | refine zD ?_ | refine zA ?_ _)); exact BK207.out⟩, ⟨by repeat (first | (with_reducible first | exact HB.out | apply below_alloc | apply pw_below_drewN | apply below_drew1 | refine below_set ?_ GE205.out | refine below_set ?_ GE207.out) | exact HB.out)⟩⟩
             ·
              rw [if_neg c21] at H
              exact absurd H (by simp)
            ·
             rw [if_neg c20] at H
             exact absurd H (by simp)
           ·
            rw [if_neg c19] at H
            have c19b0 : decide (x27_3 < (((rd_T52 l0_0 x10_1).f6).length : Int)) = false := decide_eq_false c19
            clear c19
            have H' := Aside0.mk H
            clear H
            go_wp2
            go_roundg k3
            case measure => have := HK1.out; have := HJ6.out; have := HK3.out; omega
            case rel => exact ⟨(wrap64 (x10_1 + 1)), (by first | rfl | (simp; done) | (simp [*]; done)), H', ⟨by have := HK1.out; have := HJ6.out; have := HK3.out; omega⟩, ⟨by (with_reducible repeat (first | refine zN ?_ _ | refine zD ?_ | refine zA ?_ _)); exact BK205.out⟩, ⟨by repeat (first | (with_reducible first | exact HB.out | apply below_alloc | apply pw_below_drewN | apply below_drew1 | refine below_set ?_ GE205.out | refine below_set ?_ GE207.out) | exact HB.out)⟩⟩
     ·
      rw [if_neg c6] at H
      exact absurd H (by simp)
    ·
     rw [if_neg c5] at H
     exact absurd H (by simp)
   ·
    rw [if_neg c4] at H
    have c4b0 : decide (x10_1 < (l0_0.length : Int)) = false := decide_eq_false c4
    clear c4
    obtain rfl := Option.some.inj H
    have hcz23_0 : wr.cell? ⟨gb205, 0, none⟩ = some (.slice A0_0 l0_0.length c0_0) := (blk_cell BK205.out 0).trans rfl
    have hfz23_0 := blk_frozen BK205.out 0
    go_wp2
    go_ret
    exact ⟨by first | rfl | (simp [errW_none, errW_some] <;> rfl) | (simp [*, errW_none, errW_some] <;> rfl) | (simp only [ne_nil_bool]; rfl), by repeat (first | (with_reducible first | exact HB.out | apply below_alloc | apply pw_below_drewN | apply below_drew1 | refine below_set ?_ GE205.out) | exact HB.out)⟩
end Go.Proofs.YtcoaajkhfgakgaaGreatDoor.Pr
end

section
namespace Go.Proofs.YtcoaajkhfgakgaaGreatDoor.Pr
open Go.RowKit Go.Proofs.YtcoaajkhfgakgaaGreatDoorW.PrintWords Go.Proofs.YtcoaajkhfgakgaaGreatDoorW.PrintLast Go.Proofs.YtcoaajkhfgakgaaGreatDoorW.PrintMore
attribute [local go_sem] max2_int min2_int max_two min_two max_three min_three max_four min_four   -- for this text's walks alone
set_option linter.unusedVariables false
set_option linter.unusedSimpArgs false
def pantrymade_Site.f (a0_0 : ByteArray) (a0_1 : Int) (a0_2 : Int) (a0_3 : Int) (a0_4 : Bool) (a0_5 : Bool) (l0_6 : List ByteArray) : Option (ByteArray × Int × Int × Int × Bool × Bool × List ByteArray) := some (a0_0, a0_1, a0_2, a0_3, a0_4, a0_5, l0_6)
end Go.Proofs.YtcoaajkhfgakgaaGreatDoor.Pr
end

section
namespace Go.Proofs.YtcoaajkhfgakgaaGreatDoor.Pr
open Go.RowKit Go.Proofs.YtcoaajkhfgakgaaGreatDoorW.PrintWords Go.Proofs.YtcoaajkhfgakgaaGreatDoorW.PrintLast Go.Proofs.YtcoaajkhfgakgaaGreatDoorW.PrintMore
attribute [local go_sem] max2_int min2_int max_two min_two max_three min_three max_four min_four   -- for this text's walks alone
set_option linter.unusedVariables false
set_option linter.unusedSimpArgs false
def pantrymade_Config.l0 : Nat → List (S52) → Int → Int → List (S53) → Option ((List (S53)))
  | 0, _, _, _, _ => none
  | k + 1, x7, x8, x9, x221000 => if x9 < x8 then (if 0 ≤ x9 then (if x9 < (x7.length : Int) then ((pantrymade_Site.f ((rd_T52 x7 x9).f0) ((rd_T52 x7 x9).f1) ((rd_T52 x7 x9).f2) ((rd_T52 x7 x9).f3) ((rd_T52 x7 x9).f4) ((rd_T52 x7 x9).f5) ((rd_T52 x7 x9).f6)).bind fun bt223 => (if x221000.length < 1954687338268 then (pantrymade_Config.l0 k x7 x8 (wrap64 (x9 + 1)) (x221000 ++ [(⟨bt223.1, bt223.2.1, bt223.2.2.1, bt223.2.2.2.1, bt223.2.2.2.2.1, bt223.2.2.2.2.2.1, bt223.2.2.2.2.2.2⟩ : S53)])) else (none))) else (none)) else (none)) else (some x221000)
def pantrymade_Config.f (k : Nat) (l0_0 : List (S52)) : Option ((List (S53))) := pantrymade_Config.l0 k l0_0 (l0_0.length : Int) 0 ([] : List (S53))
theorem pantrymade_Config.mono_l : ∀ k, (∀ y0 y1 y2 y3, LeO (pantrymade_Config.l0 k y0 y1 y2 y3) (pantrymade_Config.l0 (k + 1) y0 y1 y2 y3))
  | 0 => fun _ _ _ _ r h => by simp [pantrymade_Config.l0] at h
  | k + 1 => by
    have ih0 := pantrymade_Config.mono_l k
    · intro y0 y1 y2 y3
      unfold pantrymade_Config.l0
      repeat' first
      | (with_reducible exact ih0 _ _ _ _)
      | (with_reducible exact LeO.refl _)
      | (with_reducible exact LeO.none _)
      | (with_reducible refine LeO.ite ?_ ?_)
      | (with_reducible refine LeO.bind ?_ (fun _ => ?_))
      | exact ih0 _ _ _ _
      | exact LeO.none _
      | refine LeO.ite ?_ ?_
      | refine LeO.bind ?_ (fun _ => ?_)
theorem pantrymade_Config.mono : ∀ a0 k, LeO (pantrymade_Config.f k a0) (pantrymade_Config.f (k + 1) a0) := by
  intro a0 k
  have ih0 := pantrymade_Config.mono_l k
  unfold pantrymade_Config.f
  repeat' first
      | (with_reducible exact ih0 _ _ _ _)
      | (with_reducible exact LeO.refl _)
      | (with_reducible exact LeO.none _)
      | (with_reducible refine LeO.ite ?_ ?_)
      | (with_reducible refine LeO.bind ?_ (fun _ => ?_))
      | exact ih0 _ _ _ _
      | exact LeO.none _
      | refine LeO.ite ?_ ?_
      | refine LeO.bind ?_ (fun _ => ?_)
end Go.Proofs.YtcoaajkhfgakgaaGreatDoor.Pr
end
