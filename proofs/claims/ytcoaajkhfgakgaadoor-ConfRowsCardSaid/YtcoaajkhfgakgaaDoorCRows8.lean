/- Part 8 of the proof of Rows: what the program's functions compute, and that it is so. Conditions: as each theorem states. (Packed out of our texts: XRowsA.) -/
import Derived.Test.YtcoaajkhfgakgaaDoorCRows7
section
namespace Go.Proofs.YtcoaajkhfgakgaaDoor.Pr
open Go.RowKit Go.Proofs.YtcoaajkhfgakgaaDoorW.PrintWords Go.Proofs.YtcoaajkhfgakgaaDoorW.PrintLast Go.Proofs.YtcoaajkhfgakgaaDoorW.PrintMore
attribute [local go_sem] max2_int min2_int max_two min_two max_three min_three max_four min_four   -- for this text's walks alone
set_option linter.unusedVariables false
set_option linter.unusedSimpArgs false
attribute [local go_sem high] eqA48
set_option maxHeartbeats 8000000 in
set_option maxRecDepth 100000 in
theorem cRA.calls (k : Nat) (a0 : ByteArray) (a1 : ByteArray) (r : Bool) (hT : Aside0 (r = true)) (w : World) (hG : GL w) (h : cRA.f k a0 a1 = some r) :
    Calls Tryd.prog 5 #[.string a0, .string a1] w fun e w' => e = .returned (.bool r) ∧ Below w.heap.size w w' := by
 have hu24 := Tryd.underlying24
 have hu48 := Tryd.underlying48
 have hu29 := Tryd.underlying29
 have HB := Aside0.mk (Below.refl w.heap.size w)
 have H : ((pantrylaw09_anchor.f).bind fun t239 => (if t239 = true then (if (a0.size : Int) > 1500 then (cRA.j0 k a0 a1 true) else (cRA.j0 k a0 a1 (decide ((a1.size : Int) > 1500)))) else (some false))) = some r := h
 clear h
 replace H := Option.bind_eq_some_iff.mp H
 obtain ⟨t239, A30, H⟩ := H
 replace H : (if t239 = true then (if (a0.size : Int) > 1500 then (cRA.j0 k a0 a1 true) else (cRA.j0 k a0 a1 (decide ((a1.size : Int) > 1500)))) else (some false)) = some r := H
 have A3 := Aside0.mk A30
 clear A30
 by_cases c4 : t239 = true
 ·
  subst c4
  have H1 : (if (a0.size : Int) > 1500 then (cRA.j0 k a0 a1 true) else (cRA.j0 k a0 a1 (decide ((a1.size : Int) > 1500)))) = some r := by rw [if_pos rfl] at H; exact H
  clear H
  have H := H1
  clear H1
  have HC5 := Aside0.mk H
  clear H
  go_enter Tryd.func5, Tryd.ntmps5
  go_upto_region 3 with (first | ((with_reducible refine gate_callee (f := 8) rfl ?_); refine goesL_ (some 18) rfl rfl Tryd.func8 (by kernel_rfl) rfl #[] rfl (by (try simp only [List.map_toArray, List.map_cons, List.map_nil]); first | done | rfl | (simp only [List.length_drop, List.length_take]; rfl)) ?_; (with_reducible refine (pantrylaw09_anchor.calls  true _ ?side1 A3.out).mono ?_); (case side1 => exact GL.below hG (by repeat (first | (with_reducible first | exact HB.out | apply below_alloc | apply pw_below_drewN | apply below_drew1) | exact HB.out))); rintro e w6 ⟨rfl, hb⟩; refine ⟨_, rfl, ?_⟩; have n0_ := Aside0.mk (below_step (by repeat (first | (with_reducible first | exact HB.out | apply below_alloc | apply pw_below_drewN | apply below_drew1) | exact HB.out)) hb); clear HB; have HB := n0_; clear n0_; (try clear hb); (try clear hb2); (try clear hk); (try clear hi)))
  (try simp only [Act.put, List.setIfInBounds_toArray, List.set_cons_zero, List.set_cons_succ])
  go_cut [27] (fun v27 wc => ∃ (kq : Nat) (x27_4 : Bool), v27 = .bool x27_4 ∧ Aside0 (cRA.j0 kq a0 a1 x27_4 = some r) ∧ Aside0 (kq ≤ k) ∧ Aside0 (Below w.heap.size w wc))
  case first =>
   have H := HC5.out
   clear HC5
   by_cases c7 : (a0.size : Int) > 1500
   ·
    rw [if_pos c7] at H
    have c7b0 : decide (1500 < (a0.size : Int)) = true := decide_eq_true c7
    have c7b1 : decide (1500 < a0.size) = true := decide_eq_true (by omega)
    clear c7
    (first | rw [c7b0] | (simp only [i64_w, i32_w]; rw [c7b0]) | skip)
    have H' := Aside0.mk H
    clear H
    go_wp2
    go_meet
    case rel => exact ⟨_, (true), (by first | rfl | (simp; done) | (simp [*]; done)), H', ⟨by first | omega | exact Nat.le_refl _⟩, ⟨by repeat (first | (with_reducible first | exact HB.out | apply below_alloc | apply pw_below_drewN | apply below_drew1) | exact HB.out)⟩⟩
   ·
    rw [if_neg c7] at H
    have c7b0 : decide (1500 < (a0.size : Int)) = false := decide_eq_false c7
    have c7b1 : decide (1500 < a0.size) = false := decide_eq_false (by omega)
    clear c7
    (first | rw [c7b0] | (simp only [i64_w, i32_w]; rw [c7b0]) | skip)
    have H' := Aside0.mk H
    clear H
    go_wp2
    go_meet
    case rel => exact ⟨_, (decide ((a1.size : Int) > 1500)), (by first | rfl | (simp; done) | (simp [*]; done)), H', ⟨by first | omega | exact Nat.le_refl _⟩, ⟨by repeat (first | (with_reducible first | exact HB.out | apply below_alloc | apply pw_below_drewN | apply below_drew1) | exact HB.out)⟩⟩
  case rest =>
   clear HC5
   try clear p2
   try clear c4
   try clear c5
   try clear c7
   try clear c7b0
   try clear c7b1
   obtain ⟨kq, x27_4, rfl, HA, HJ4, HB⟩ := hcut
   cases kq with
   | zero => exact absurd HA.out (by simp [cRA.j0])
   | succ kj4 =>
    have H := HA.out
    clear HA
    simp only [cRA.j0] at H
    by_cases c8 : x27_4 = true
    ·
     subst c8
     have H1 : (none) = some r := by rw [if_pos rfl] at H; exact H
     exact absurd H1 (by simp)
    ·
     replace c8 := Bool.eq_false_iff.mpr c8
     subst c8
     have H1 : (if a0.size + 1 ≤ 9223372036854775807 then ((conf_Read.f (a0 ++ (⟨#[10]⟩ : ByteArray))).bind fun bt240 => ((conf_Read.f a1).bind fun bt247 => (if bt240.2.1 = 0 then (if bt247.2.1 = 0 then (cRA.j1 kj4 a0 a1 (decide ((wrap64 ((bt240.1.length : Int) + (bt247.1.length : Int))) > 8)) bt240.1 bt247.1) else (none)) else (none)))) else (none)) = some r := by rw [if_neg (show ¬ (false = true) by decide)] at H; exact H
     clear H
     have H := H1
     clear H1
     by_cases c9 : a0.size + 1 ≤ 9223372036854775807
     ·
      rw [if_pos c9] at H
      have c9b0 := eq_true c9
      have c9b1 : decide (a0.size + 1 ≤ 9223372036854775807) = true := decide_eq_true c9
      try have c9b2 : (9223372036854775807 < a0.size + 1) = False := eq_false (Nat.not_lt.2 c9)
      replace H := Option.bind_eq_some_iff.mp H
      obtain ⟨⟨t240, t243, t244⟩, A100, H⟩ := H
      replace H : ((conf_Read.f a1).bind fun bt247 => (if t243 = 0 then (if bt247.2.1 = 0 then (cRA.j1 kj4 a0 a1 (decide ((wrap64 ((t240.length : Int) + (bt247.1.length : Int))) > 8)) t240 bt247.1) else (none)) else (none))) = some r := H
      have A10 := Aside0.mk A100
      clear A100
      replace H := Option.bind_eq_some_iff.mp H
      obtain ⟨⟨t247, t250, t251⟩, A110, H⟩ := H
      replace H : (if t243 = 0 then (if t250 = 0 then (cRA.j1 kj4 a0 a1 (decide ((wrap64 ((t240.length : Int) + (t247.length : Int))) > 8)) t240 t247) else (none)) else (none)) = some r := H
      have A11 := Aside0.mk A110
      clear A110
      have HC12 := Aside0.mk H
      clear H
      go_upto_region 7 with (first | ((with_reducible refine gate_callee (f := 16) rfl ?_); refine goesL_ (some 31) rfl rfl Tryd.func16 (by kernel_rfl) rfl #[.string (a0 ++ (⟨#[10]⟩ : ByteArray))] rfl (by (try simp only [List.map_toArray, List.map_cons, List.map_nil]); first | done | rfl | (simp only [List.length_drop, List.length_take]; rfl)) ?_; (with_reducible refine (conf_Read.calls (a0 ++ (⟨#[10]⟩ : ByteArray)) t240 t243 t244 _ ?side1 A10.out).mono ?_); (case side1 => exact GL.below hG (by repeat (first | (with_reducible first | exact HB.out | apply below_alloc | apply pw_below_drewN | apply below_drew1) | exact HB.out))); rintro e w13 ⟨v241, rfl, ho0, hb⟩; refine ⟨_, rfl, ?_⟩; have n0_ := Aside0.mk (Kd.V_lower (Kd.V_mono (ok' := fun k_ => True) ho0 (fun k_ hk_ => trivial)) (below_size (by repeat (first | (with_reducible first | exact HB.out | apply below_alloc | apply pw_below_drewN | apply below_drew1) | exact HB.out)))); have n1_ := Aside0.mk (below_step (by repeat (first | (with_reducible first | exact HB.out | apply below_alloc | apply pw_below_drewN | apply below_drew1) | exact HB.out)) hb); clear HB; have HO242 := n0_; have HB := n1_; clear n0_ n1_; (try clear hb); (try clear hb2); (try clear hk); (try clear hi); (try clear ho0)) | ((with_reducible refine gate_dst (N := 5) rfl ?_); (try (refine gate_guard (by rfl) ?_; dsimp only)); refine box_event ?hg (N := 5) ?hd (cs := #[.slice none 0 0]) (t := 24) ?hr ?_; (case hd => rfl); (case hg => rfl); (case hr => first | (go_simp; done) | (go_simp; rfl)); intro gb245 hg w14 hbox hb; have n0_ := Aside0.mk (Kd.V_below (Kd.V_elderB (by (with_reducible repeat (first | apply Kd.V_alloc | apply Kd.V_drewN | apply Kd.V_drew)); exact HO242.out) gb245 (Nat.le_of_eq hg.symm)) hb); have n1_ := Aside0.mk (below_step (by repeat (first | (with_reducible first | exact HB.out | apply below_alloc | apply pw_below_drewN | apply below_drew1) | exact HB.out)) hb); have n2_ := Aside0.mk (hbox); have n3_ := Aside0.mk ((by rw [hg]; exact (below_size (by repeat (first | (with_reducible first | exact HB.out | apply below_alloc | apply pw_below_drewN | apply below_drew1) | exact HB.out))) : w.heap.size ≤ gb245)); have n4_ := Aside0.mk ((by rw [hg]; exact (below_size (by repeat (first | (with_reducible first | exact HB.out | apply below_alloc | apply pw_below_drewN | apply below_drew1) | exact HB.out))) : w.heap.size ≤ gb245)); clear HO242; clear HB; have HO242 := n0_; have HB := n1_; have BK245 := n2_; have GW245 := n3_; have GE245 := n4_; clear n0_ n1_ n2_ n3_ n4_; clear hb hbox hg) | ((with_reducible refine gate_dst (N := 6) rfl ?_); (try (refine gate_guard (by rfl) ?_; dsimp only)); refine box_event ?hg (N := 6) ?hd (cs := #[.int .i64 0, .int .i64 0]) (t := 48) ?hr ?_; (case hd => rfl); (case hg => rfl); (case hr => first | (go_simp; done) | (go_simp; rfl)); intro gb246 hg w15 hbox hb; have n0_ := Aside0.mk (Kd.V_below (Kd.V_elderB (by (with_reducible repeat (first | apply Kd.V_alloc | apply Kd.V_drewN | apply Kd.V_drew)); exact HO242.out) gb246 (Nat.le_of_eq hg.symm)) hb); have n1_ := Aside0.mk (blk_below (g := gb245) (o := .cells #[.slice none 0 0] 24 (0, 0)) (by (with_reducible repeat (first | refine bN ?_ _ | refine bD ?_ | refine bA ?_ _)); exact BK245.out) hb); have n2_ := Aside0.mk (below_step (by repeat (first | (with_reducible first | exact HB.out | apply below_alloc | apply pw_below_drewN | apply below_drew1 | refine below_set ?_ GE245.out) | exact HB.out)) hb); have n3_ := Aside0.mk (hbox); have n4_ := Aside0.mk ((by rw [hg]; exact (below_size (by repeat (first | (with_reducible first | exact HB.out | apply below_alloc | apply pw_below_drewN | apply below_drew1 | refine below_set ?_ GE245.out) | exact HB.out))) : w.heap.size ≤ gb246)); have n5_ := Aside0.mk ((by rw [hg]; exact (below_size (by repeat (first | (with_reducible first | exact HB.out | apply below_alloc | apply pw_below_drewN | apply below_drew1 | refine below_set ?_ GE245.out) | exact HB.out))) : w.heap.size ≤ gb246)); have n6_ := Aside0.mk ((by rw [hg]; exact Nat.ne_of_lt (blk_lt (g := gb245) (o := .cells #[.slice none 0 0] 24 (0, 0)) (by (with_reducible repeat (first | refine bN ?_ _ | refine bD ?_ | refine bA ?_ _)); exact BK245.out)) : gb245 ≠ gb246)); have n7_ := Aside0.mk ((by rw [hg]; exact Nat.ne_of_gt (blk_lt (g := gb245) (o := .cells #[.slice none 0 0] 24 (0, 0)) (by (with_reducible repeat (first | refine bN ?_ _ | refine bD ?_ | refine bA ?_ _)); exact BK245.out)) : gb246 ≠ gb245)); clear HO242; clear BK245; clear HB; have HO242 := n0_; have BK245 := n1_; have HB := n2_; have BK246 := n3_; have GW246 := n4_; have GE246 := n5_; have NB245_246 := n6_; have NB246_245 := n7_; clear n0_ n1_ n2_ n3_ n4_ n5_ n6_ n7_; clear hb hbox hg; obtain ⟨Ao16, co16, eo16⟩ := Kd.V_slice HO242.out; subst eo16; have hnb17 := NB245_246.out; have hnc17 := NB246_245.out; have hcz18_0 : w15.cell? ⟨gb245, 0, none⟩ = some (.slice none 0 0) := (blk_cell BK245.out 0).trans rfl; have hfz18_0 := blk_frozen BK245.out 0; have hcz19_0 : w15.cell? ⟨gb246, 0, none⟩ = some (.int .i64 0) := (blk_cell BK246.out 0).trans rfl; have hcz19_1 : w15.cell? ⟨gb246, 1, none⟩ = some (.int .i64 0) := (blk_cell BK246.out 1).trans rfl; have hfz19_0 := blk_frozen BK246.out 0; have hfz19_1 := blk_frozen BK246.out 1) | ((with_reducible refine gate_callee (f := 16) rfl ?_); refine goesL_ (some 36) rfl rfl Tryd.func16 (by kernel_rfl) rfl #[.string a1] rfl (by (try simp only [List.map_toArray, List.map_cons, List.map_nil]); first | done | rfl | (simp only [List.length_drop, List.length_take]; rfl)) ?_; (with_reducible refine (conf_Read.calls a1 t247 t250 t251 _ ?side1 A11.out).mono ?_); (case side1 => exact GL.below hG (by repeat (first | (with_reducible first | exact HB.out | apply below_alloc | apply pw_below_drewN | apply below_drew1 | refine below_set ?_ GE245.out | refine below_set ?_ GE246.out) | exact HB.out))); rintro e w20 ⟨v248, rfl, ho0, hb⟩; refine ⟨_, rfl, ?_⟩; have n0_ := Aside0.mk (Kd.V_below (by (with_reducible repeat (first | apply Kd.V_alloc | apply Kd.V_drewN | apply Kd.V_drew)); exact (Kd.V_mono (Kd.V_mono (Kd.V_far (p := ⟨gb246, 1, none⟩) (Kd.V_far (p := ⟨gb246, 0, none⟩) (Kd.V_far (p := ⟨gb245, 0, none⟩) (Kd.V_mono (Kd.V_mono HO242.out (fun k_ hk => (⟨hk, hk.1.2⟩ : _ ∧ k_ ≠ gb245))) (fun k_ hk => (⟨hk, hk.1.2⟩ : _ ∧ k_ ≠ gb246))) (fun _ hk => hk.1.2) (.slice Ao16 t240.length co16)) (fun _ hk => hk.2) (.int .i64 t243)) (fun _ hk => hk.2) (.int .i64 t244)) (fun _ h_ => h_.1)) (fun _ h_ => h_.1))) hb); have n1_ := Aside0.mk (Kd.V_lower (Kd.V_mono (ok' := fun k_ => k_ ≠ gb245 ∧ k_ ≠ gb246) ho0 (fun k_ hk_ => ⟨(Kd.freshB (g := gb245) (o := .cells #[.slice Ao16 t240.length co16] 24 (0, 0)) (by (with_reducible repeat (first | refine bN ?_ _ | refine bD ?_ | refine bA ?_ _)); refine blk_far ?_ NB245_246.out _; (with_reducible repeat (first | refine bN ?_ _ | refine bD ?_ | refine bA ?_ _)); refine blk_far ?_ NB245_246.out _; (with_reducible repeat (first | refine bN ?_ _ | refine bD ?_ | refine bA ?_ _)); refine blk_put (cs := #[.slice none 0 0]) ?_ 0 _ rfl; (with_reducible repeat (first | refine bN ?_ _ | refine bD ?_ | refine bA ?_ _)); exact BK245.out) k_ hk_), (Kd.freshB (g := gb246) (o := .cells #[.int .i64 t243, .int .i64 t244] 48 (0, 0)) (by (with_reducible repeat (first | refine bN ?_ _ | refine bD ?_ | refine bA ?_ _)); refine blk_put (cs := #[.int .i64 t243, .int .i64 0]) ?_ 1 _ rfl; (with_reducible repeat (first | refine bN ?_ _ | refine bD ?_ | refine bA ?_ _)); refine blk_put (cs := #[.int .i64 0, .int .i64 0]) ?_ 0 _ rfl; (with_reducible repeat (first | refine bN ?_ _ | refine bD ?_ | refine bA ?_ _)); refine blk_far ?_ NB246_245.out _; (with_reducible repeat (first | refine bN ?_ _ | refine bD ?_ | refine bA ?_ _)); exact BK246.out) k_ hk_)⟩)) (below_size (by repeat (first | (with_reducible first | exact HB.out | apply below_alloc | apply pw_below_drewN | apply below_drew1 | refine below_set ?_ GE245.out | refine below_set ?_ GE246.out) | exact HB.out)))); have n2_ := Aside0.mk (blk_below (g := gb245) (o := .cells #[.slice Ao16 t240.length co16] 24 (0, 0)) (by (with_reducible repeat (first | refine bN ?_ _ | refine bD ?_ | refine bA ?_ _)); refine blk_far ?_ NB245_246.out _; (with_reducible repeat (first | refine bN ?_ _ | refine bD ?_ | refine bA ?_ _)); refine blk_far ?_ NB245_246.out _; (with_reducible repeat (first | refine bN ?_ _ | refine bD ?_ | refine bA ?_ _)); refine blk_put (cs := #[.slice none 0 0]) ?_ 0 _ rfl; (with_reducible repeat (first | refine bN ?_ _ | refine bD ?_ | refine bA ?_ _)); exact BK245.out) hb); have n3_ := Aside0.mk (blk_below (g := gb246) (o := .cells #[.int .i64 t243, .int .i64 t244] 48 (0, 0)) (by (with_reducible repeat (first | refine bN ?_ _ | refine bD ?_ | refine bA ?_ _)); refine blk_put (cs := #[.int .i64 t243, .int .i64 0]) ?_ 1 _ rfl; (with_reducible repeat (first | refine bN ?_ _ | refine bD ?_ | refine bA ?_ _)); refine blk_put (cs := #[.int .i64 0, .int .i64 0]) ?_ 0 _ rfl; (with_reducible repeat (first | refine bN ?_ _ | refine bD ?_ | refine bA ?_ _)); refine blk_far ?_ NB246_245.out _; (with_reducible repeat (first | refine bN ?_ _ | refine bD ?_ | refine bA ?_ _)); exact BK246.out) hb); have n4_ := Aside0.mk (below_step (by repeat (first | (with_reducible first | exact HB.out | apply below_alloc | apply pw_below_drewN | apply below_drew1 | refine below_set ?_ GE245.out | refine below_set ?_ GE246.out) | exact HB.out)) hb); clear HO242; clear BK245; clear BK246; clear HB; have HO242 := n0_; have HO249 := n1_; have BK245 := n2_; have BK246 := n3_; have HB := n4_; clear n0_ n1_ n2_ n3_ n4_; (try clear hb); (try clear hb2); (try clear hk); (try clear hi); (try clear ho0)) | ((with_reducible refine gate_dst (N := 7) rfl ?_); (try (refine gate_guard (by rfl) ?_; dsimp only)); refine box_event ?hg (N := 7) ?hd (cs := #[.slice none 0 0]) (t := 24) ?hr ?_; (case hd => rfl); (case hg => rfl); (case hr => first | (go_simp; done) | (go_simp; rfl)); intro gb252 hg w21 hbox hb; have n0_ := Aside0.mk (Kd.V_below (Kd.V_elderB (by (with_reducible repeat (first | apply Kd.V_alloc | apply Kd.V_drewN | apply Kd.V_drew)); exact HO242.out) gb252 (Nat.le_of_eq hg.symm)) hb); have n1_ := Aside0.mk (Kd.V_below (Kd.V_elderB (by (with_reducible repeat (first | apply Kd.V_alloc | apply Kd.V_drewN | apply Kd.V_drew)); exact HO249.out) gb252 (Nat.le_of_eq hg.symm)) hb); have n2_ := Aside0.mk (blk_below (g := gb245) (o := .cells #[.slice Ao16 t240.length co16] 24 (0, 0)) (by (with_reducible repeat (first | refine bN ?_ _ | refine bD ?_ | refine bA ?_ _)); exact BK245.out) hb); have n3_ := Aside0.mk (blk_below (g := gb246) (o := .cells #[.int .i64 t243, .int .i64 t244] 48 (0, 0)) (by (with_reducible repeat (first | refine bN ?_ _ | refine bD ?_ | refine bA ?_ _)); exact BK246.out) hb); have n4_ := Aside0.mk (below_step (by repeat (first | (with_reducible first | exact HB.out | apply below_alloc | apply pw_below_drewN | apply below_drew1 | refine below_set ?_ GE245.out | refine below_set ?_ GE246.out) | exact HB.out)) hb); have n5_ := Aside0.mk (hbox); have n6_ := Aside0.mk ((by rw [hg]; exact (below_size (by repeat (first | (with_reducible first | exact HB.out | apply below_alloc | apply pw_below_drewN | apply below_drew1 | refine below_set ?_ GE245.out | refine below_set ?_ GE246.out) | exact HB.out))) : w.heap.size ≤ gb252)); have n7_ := Aside0.mk ((by rw [hg]; exact (below_size (by repeat (first | (with_reducible first | exact HB.out | apply below_alloc | apply pw_below_drewN | apply below_drew1 | refine below_set ?_ GE245.out | refine below_set ?_ GE246.out) | exact HB.out))) : w.heap.size ≤ gb252)); have n8_ := Aside0.mk ((by rw [hg]; exact Nat.ne_of_lt (blk_lt (g := gb245) (o := .cells #[.slice Ao16 t240.length co16] 24 (0, 0)) (by (with_reducible repeat (first | refine bN ?_ _ | refine bD ?_ | refine bA ?_ _)); exact BK245.out)) : gb245 ≠ gb252)); have n9_ := Aside0.mk ((by rw [hg]; exact Nat.ne_of_gt (blk_lt (g := gb245) (o := .cells #[.slice Ao16 t240.length co16] 24 (0, 0)) (by (with_reducible repeat (first | refine bN ?_ _ | refine bD ?_ | refine bA ?_ _)); exact BK245.out)) : gb252 ≠ gb245)); have n10_ := Aside0.mk ((by rw [hg]; exact Nat.ne_of_lt (blk_lt (g := gb246) (o := .cells #[.int .i64 t243, .int .i64 t244] 48 (0, 0)) (by (with_reducible repeat (first | refine bN ?_ _ | refine bD ?_ | refine bA ?_ _)); exact BK246.out)) : gb246 ≠ gb252)); have n11_ := Aside0.mk ((by rw [hg]; exact Nat.ne_of_gt (blk_lt (g := gb246) (o := .cells #[.int .i64 t243, .int .i64 t244] 48 (0, 0)) (by (with_reducible repeat (first | refine bN ?_ _ | refine bD ?_ | refine bA ?_ _)); exact BK246.out)) : gb252 ≠ gb246)); clear HO242; clear HO249; clear BK245; clear BK246; clear HB; have HO242 := n0_; have HO249 := n1_; have BK245 := n2_; have BK246 := n3_; have HB := n4_; have BK252 := n5_; have GW252 := n6_; have GE252 := n7_; have NB245_252 := n8_; have NB252_245 := n9_; have NB246_252 := n10_; have NB252_246 := n11_; clear n0_ n1_ n2_ n3_ n4_ n5_ n6_ n7_ n8_ n9_ n10_ n11_; clear hb hbox hg) | ((with_reducible refine gate_dst (N := 8) rfl ?_); (try (refine gate_guard (by rfl) ?_; dsimp only)); refine box_event ?hg (N := 8) ?hd (cs := #[.int .i64 0, .int .i64 0]) (t := 48) ?hr ?_; (case hd => rfl); (case hg => rfl); (case hr => first | (go_simp; done) | (go_simp; rfl)); intro gb253 hg w22 hbox hb; have n0_ := Aside0.mk (Kd.V_below (Kd.V_elderB (by (with_reducible repeat (first | apply Kd.V_alloc | apply Kd.V_drewN | apply Kd.V_drew)); exact HO242.out) gb253 (Nat.le_of_eq hg.symm)) hb); have n1_ := Aside0.mk (Kd.V_below (Kd.V_elderB (by (with_reducible repeat (first | apply Kd.V_alloc | apply Kd.V_drewN | apply Kd.V_drew)); exact HO249.out) gb253 (Nat.le_of_eq hg.symm)) hb); have n2_ := Aside0.mk (blk_below (g := gb245) (o := .cells #[.slice Ao16 t240.length co16] 24 (0, 0)) (by (with_reducible repeat (first | refine bN ?_ _ | refine bD ?_ | refine bA ?_ _)); exact BK245.out) hb); have n3_ := Aside0.mk (blk_below (g := gb246) (o := .cells #[.int .i64 t243, .int .i64 t244] 48 (0, 0)) (by (with_reducible repeat (first | refine bN ?_ _ | refine bD ?_ | refine bA ?_ _)); exact BK246.out) hb); have n4_ := Aside0.mk (blk_below (g := gb252) (o := .cells #[.slice none 0 0] 24 (0, 0)) (by (with_reducible repeat (first | refine bN ?_ _ | refine bD ?_ | refine bA ?_ _)); exact BK252.out) hb); have n5_ := Aside0.mk (below_step (by repeat (first | (with_reducible first | exact HB.out | apply below_alloc | apply pw_below_drewN | apply below_drew1 | refine below_set ?_ GE245.out | refine below_set ?_ GE246.out | refine below_set ?_ GE252.out) | exact HB.out)) hb); have n6_ := Aside0.mk (hbox); have n7_ := Aside0.mk ((by rw [hg]; exact (below_size (by repeat (first | (with_reducible first | exact HB.out | apply below_alloc | apply pw_below_drewN | apply below_drew1 | refine below_set ?_ GE245.out | refine below_set ?_ GE246.out | refine below_set ?_ GE252.out) | exact HB.out))) : w.heap.size ≤ gb253)); have n8_ := Aside0.mk ((by rw [hg]; exact (below_size (by repeat (first | (with_reducible first | exact HB.out | apply below_alloc | apply pw_below_drewN | apply below_drew1 | refine below_set ?_ GE245.out | refine below_set ?_ GE246.out | refine below_set ?_ GE252.out) | exact HB.out))) : w.heap.size ≤ gb253)); have n9_ := Aside0.mk ((by rw [hg]; exact Nat.ne_of_lt (blk_lt (g := gb245) (o := .cells #[.slice Ao16 t240.length co16] 24 (0, 0)) (by (with_reducible repeat (first | refine bN ?_ _ | refine bD ?_ | refine bA ?_ _)); exact BK245.out)) : gb245 ≠ gb253)); have n10_ := Aside0.mk ((by rw [hg]; exact Nat.ne_of_gt (blk_lt (g := gb245) (o := .cells #[.slice Ao16 t240.length co16] 24 (0, 0)) (by (with_reducible repeat (first | refine bN ?_ _ | refine bD ?_ | refine bA ?_ _)); exact BK245.out)) : gb253 ≠ gb245)); have n11_ := Aside0.mk ((by rw [hg]; exact Nat.ne_of_lt (blk_lt (g := gb246) (o := .cells #[.int .i64 t243, .int .i64 t244] 48 (0, 0)) (by (with_reducible repeat (first | refine bN ?_ _ | refine bD ?_ | refine bA ?_ _)); exact BK246.out)) : gb246 ≠ gb253)); have n12_ := Aside0.mk ((by rw [hg]; exact Nat.ne_of_gt (blk_lt (g := gb246) (o := .cells #[.int .i64 t243, .int .i64 t244] 48 (0, 0)) (by (with_reducible repeat (first | refine bN ?_ _ | refine bD ?_ | refine bA ?_ _)); exact BK246.out)) : gb253 ≠ gb246)); have n13_ := Aside0.mk ((by rw [hg]; exact Nat.ne_of_lt (blk_lt (g := gb252) (o := .cells #[.slice none 0 0] 24 (0, 0)) (by (with_reducible repeat (first | refine bN ?_ _ | refine bD ?_ | refine bA ?_ _)); exact BK252.out)) : gb252 ≠ gb253)); have n14_ := Aside0.mk ((by rw [hg]; exact Nat.ne_of_gt (blk_lt (g := gb252) (o := .cells #[.slice none 0 0] 24 (0, 0)) (by (with_reducible repeat (first | refine bN ?_ _ | refine bD ?_ | refine bA ?_ _)); exact BK252.out)) : gb253 ≠ gb252)); clear HO242; clear HO249; clear BK245; clear BK246; clear BK252; clear HB; have HO242 := n0_; have HO249 := n1_; have BK245 := n2_; have BK246 := n3_; have BK252 := n4_; have HB := n5_; have BK253 := n6_; have GW253 := n7_; have GE253 := n8_; have NB245_253 := n9_; have NB253_245 := n10_; have NB246_253 := n11_; have NB253_246 := n12_; have NB252_253 := n13_; have NB253_252 := n14_; clear n0_ n1_ n2_ n3_ n4_ n5_ n6_ n7_ n8_ n9_ n10_ n11_ n12_ n13_ n14_; clear hb hbox hg; obtain ⟨Ao23, co23, eo23⟩ := Kd.V_slice HO249.out; subst eo23; have hnb24 := NB252_245.out; have hnc24 := NB245_252.out; have hnb25 := NB252_246.out; have hnc25 := NB246_252.out; have hnb26 := NB252_253.out; have hnc26 := NB253_252.out; have hcz27_0 : w22.cell? ⟨gb252, 0, none⟩ = some (.slice none 0 0) := (blk_cell BK252.out 0).trans rfl; have hfz27_0 := blk_frozen BK252.out 0; have hnb28 := NB253_245.out; have hnc28 := NB245_253.out; have hnb29 := NB253_246.out; have hnc29 := NB246_253.out; have hcz30_0 : w22.cell? ⟨gb253, 0, none⟩ = some (.int .i64 0) := (blk_cell BK253.out 0).trans rfl; have hcz30_1 : w22.cell? ⟨gb253, 1, none⟩ = some (.int .i64 0) := (blk_cell BK253.out 1).trans rfl; have hfz30_0 := blk_frozen BK253.out 0; have hfz30_1 := blk_frozen BK253.out 1))
      (try simp only [Act.put, List.setIfInBounds_toArray, List.set_cons_zero, List.set_cons_succ])
      go_cut [56] (fun v56 wc => ∃ (kq : Nat) (x56_11 : Bool), v56 = .bool x56_11 ∧ Aside0 (cRA.j1 kq a0 a1 x56_11 t240 t247 = some r) ∧ Aside0 (kq ≤ kj4) ∧ Aside0 (Kd.V k29 29 wc w.heap.size (fun k_ => k_ ≠ gb245 ∧ k_ ≠ gb246 ∧ k_ ≠ gb252 ∧ k_ ≠ gb253) (.slice Ao16 t240.length co16) t240) ∧ Aside0 (Kd.V k29 29 wc w.heap.size (fun k_ => k_ ≠ gb245 ∧ k_ ≠ gb246 ∧ k_ ≠ gb252 ∧ k_ ≠ gb253) (.slice Ao23 t247.length co23) t247) ∧ Aside0 (wc.heap[gb245]? = some (.cells #[(.slice Ao16 t240.length co16)] 24 (0, 0))) ∧ Aside0 (wc.heap[gb246]? = some (.cells #[.int .i64 t243, .int .i64 t244] 48 (0, 0))) ∧ Aside0 (wc.heap[gb252]? = some (.cells #[(.slice Ao23 t247.length co23)] 24 (0, 0))) ∧ Aside0 (wc.heap[gb253]? = some (.cells #[.int .i64 t250, .int .i64 t251] 48 (0, 0))) ∧ Aside0 (Below w.heap.size w wc))
      case first =>
       have H := HC12.out
       clear HC12
       by_cases c31 : t243 = 0
       ·
        rw [if_pos c31] at H
        have c31b0 : (t243 == 0) = true := beq_iff_eq.mpr c31
        have c31b1 : (t243 != 0) = false := bne_eq_false_iff_eq.mpr c31
        clear c31
        (first | rw [c31b0] | (simp only [i64_w, i32_w]; rw [c31b0]) | skip)
        by_cases c32 : t250 = 0
        ·
         rw [if_pos c32] at H
         have c32b0 : (t250 == 0) = true := beq_iff_eq.mpr c32
         have c32b1 : (t250 != 0) = false := bne_eq_false_iff_eq.mpr c32
         clear c32
         have H' := Aside0.mk H
         clear H
         have hnb33 := NB246_245.out
         have hnc33 := NB245_246.out
         have hnb34 := NB246_252.out
         have hnc34 := NB252_246.out
         have hnb35 := NB246_253.out
         have hnc35 := NB253_246.out
         have hcz36_0 : w22.cell? ⟨gb246, 0, none⟩ = some (.int .i64 t243) := (blk_cell BK246.out 0).trans rfl
         have hcz36_1 : w22.cell? ⟨gb246, 1, none⟩ = some (.int .i64 t244) := (blk_cell BK246.out 1).trans rfl
         have hfz36_0 := blk_frozen BK246.out 0
         have hfz36_1 := blk_frozen BK246.out 1
         have hnb37 := NB253_245.out
         have hnc37 := NB245_253.out
         have hnb38 := NB253_252.out
         have hnc38 := NB252_253.out
         have hcz39_0 : w22.cell? ⟨gb253, 0, none⟩ = some (.int .i64 0) := (blk_cell BK253.out 0).trans rfl
         have hcz39_1 : w22.cell? ⟨gb253, 1, none⟩ = some (.int .i64 0) := (blk_cell BK253.out 1).trans rfl
         have hfz39_0 := blk_frozen BK253.out 0
         have hfz39_1 := blk_frozen BK253.out 1
         have hnb40 := NB245_252.out
         have hnc40 := NB252_245.out
         have hcz41_0 : w22.cell? ⟨gb245, 0, none⟩ = some (.slice Ao16 t240.length co16) := (blk_cell BK245.out 0).trans rfl
         have hfz41_0 := blk_frozen BK245.out 0
         have hcz42_0 : w22.cell? ⟨gb252, 0, none⟩ = some (.slice none 0 0) := (blk_cell BK252.out 0).trans rfl
         have hfz42_0 := blk_frozen BK252.out 0
         go_wp2
         go_meet
         case rel => exact ⟨_, (decide ((wrap64 ((t240.length : Int) + (t247.length : Int))) > 8)), (by first | rfl | (simp; done) | (simp [*]; done)), H', ⟨by have := HJ4.out; first | omega | exact Nat.le_refl _⟩, ⟨by (with_reducible repeat (first | apply Kd.V_alloc | apply Kd.V_drewN | apply Kd.V_drew)); exact Kd.V_mono (Kd.V_far (p := ⟨gb253, 1, none⟩) (Kd.V_far (p := ⟨gb253, 0, none⟩) (Kd.V_far (p := ⟨gb252, 0, none⟩) (Kd.V_mono (Kd.V_mono HO242.out (fun k_ hk => (⟨hk, hk.1.2⟩ : _ ∧ k_ ≠ gb252))) (fun k_ hk => (⟨hk, hk.1.2⟩ : _ ∧ k_ ≠ gb253))) (fun _ hk => hk.1.2) (.slice Ao23 t247.length co23)) (fun _ hk => hk.2) (.int .i64 t250)) (fun _ hk => hk.2) (.int .i64 t251)) (fun _ hk => ⟨hk.1.1.1.1.1.2, ⟨hk.1.1.1.1.2, ⟨hk.1.1.1.2, hk.1.1.2⟩⟩⟩)⟩, ⟨by (with_reducible repeat (first | apply Kd.V_alloc | apply Kd.V_drewN | apply Kd.V_drew)); exact Kd.V_mono (Kd.V_far (p := ⟨gb253, 1, none⟩) (Kd.V_far (p := ⟨gb253, 0, none⟩) (Kd.V_far (p := ⟨gb252, 0, none⟩) (Kd.V_mono (Kd.V_mono HO249.out (fun k_ hk => (⟨hk, hk.1.2⟩ : _ ∧ k_ ≠ gb252))) (fun k_ hk => (⟨hk, hk.1.2⟩ : _ ∧ k_ ≠ gb253))) (fun _ hk => hk.1.2) (.slice Ao23 t247.length co23)) (fun _ hk => hk.2) (.int .i64 t250)) (fun _ hk => hk.2) (.int .i64 t251)) (fun _ hk => ⟨hk.1.1.1.1.1, ⟨hk.1.1.1.1.2, ⟨hk.1.1.1.2, hk.1.1.2⟩⟩⟩)⟩, ⟨by (with_reducible repeat (first | refine bN ?_ _ | refine bD ?_ | refine bA ?_ _)); refine blk_far ?_ NB245_253.out _; (with_reducible repeat (first | refine bN ?_ _ | refine bD ?_ | refine bA ?_ _)); refine blk_far ?_ NB245_253.out _; (with_reducible repeat (first | refine bN ?_ _ | refine bD ?_ | refine bA ?_ _)); refine blk_far ?_ NB245_252.out _; (with_reducible repeat (first | refine bN ?_ _ | refine bD ?_ | refine bA ?_ _)); exact BK245.out⟩, ⟨by (with_reducible repeat (first | refine bN ?_ _ | refine bD ?_ | refine bA ?_ _)); refine blk_far ?_ NB246_253.out _; (with_reducible repeat (first | refine bN ?_ _ | refine bD ?_ | refine bA ?_ _)); refine blk_far ?_ NB246_253.out _; (with_reducible repeat (first | refine bN ?_ _ | refine bD ?_ | refine bA ?_ _)); refine blk_far ?_ NB246_252.out _; (with_reducible repeat (first | refine bN ?_ _ | refine bD ?_ | refine bA ?_ _)); exact BK246.out⟩, ⟨by (with_reducible repeat (first | refine bN ?_ _ | refine bD ?_ | refine bA ?_ _)); refine blk_far ?_ NB252_253.out _; (with_reducible repeat (first | refine bN ?_ _ | refine bD ?_ | refine bA ?_ _)); refine blk_far ?_ NB252_253.out _; (with_reducible repeat (first | refine bN ?_ _ | refine bD ?_ | refine bA ?_ _)); refine blk_put (cs := #[.slice none 0 0]) ?_ 0 _ rfl; (with_reducible repeat (first | refine bN ?_ _ | refine bD ?_ | refine bA ?_ _)); exact BK252.out⟩, ⟨by (with_reducible repeat (first | refine bN ?_ _ | refine bD ?_ | refine bA ?_ _)); refine blk_put (cs := #[.int .i64 t250, .int .i64 0]) ?_ 1 _ rfl; (with_reducible repeat (first | refine bN ?_ _ | refine bD ?_ | refine bA ?_ _)); refine blk_put (cs := #[.int .i64 0, .int .i64 0]) ?_ 0 _ rfl; (with_reducible repeat (first | refine bN ?_ _ | refine bD ?_ | refine bA ?_ _)); refine blk_far ?_ NB253_252.out _; (with_reducible repeat (first | refine bN ?_ _ | refine bD ?_ | refine bA ?_ _)); exact BK253.out⟩, ⟨by repeat (first | (with_reducible first | exact HB.out | apply below_alloc | apply pw_below_drewN | apply below_drew1 | refine below_set ?_ GE245.out | refine below_set ?_ GE246.out | refine below_set ?_ GE252.out | refine below_set ?_ GE253.out) | exact HB.out)⟩⟩
        ·
         rw [if_neg c32] at H
         exact absurd H (by simp)
       ·
        rw [if_neg c31] at H
        exact absurd H (by simp)
      case rest =>
       clear HC12
       try clear c1
       try clear c2
       try clear p2
       try clear c3
       try clear c4
       try clear c5
       try clear p6
       try clear c7
       try clear c7b0
       try clear c7b1
       try clear c8
       try clear c9
       try clear c9b0
       try clear c9b1
       try clear c9b2
       try clear c16
       try clear c17
       try clear c24
       try clear c25
       try clear c26
       try clear c28
       try clear c29
       try clear c31
       try clear c31b0
       try clear c31b1
       try clear c32
       try clear c32b0
       try clear c32b1
       try clear c33
       try clear c34
       try clear c35
       try clear c37
       try clear c38
       try clear c40
       try clear c43
       try clear c44
       try clear c45
       try clear c47
       try clear c48
       try clear c50
       try clear c51
       try clear c52
       try clear hcz18_0
       try clear hcz19_0
       try clear hcz19_1
       try clear hcz27_0
       try clear hcz30_0
       try clear hcz30_1
       try clear hcz36_0
       try clear hcz36_1
       try clear hcz39_0
       try clear hcz39_1
       try clear hcz41_0
       try clear hcz42_0
       try clear hcz46_0
       try clear hcz46_1
       try clear hcz49_0
       try clear hcz49_1
       try clear hcz53_0
       try clear hcz53_1
       try clear hfz18_0
       try clear hfz19_0
       try clear hfz19_1
       try clear hfz27_0
       try clear hfz30_0
       try clear hfz30_1
       try clear hfz36_0
       try clear hfz36_1
       try clear hfz39_0
       try clear hfz39_1
       try clear hfz41_0
       try clear hfz42_0
       try clear hfz46_0
       try clear hfz46_1
       try clear hfz49_0
       try clear hfz49_1
       try clear hfz53_0
       try clear hfz53_1
       try clear p2
       obtain ⟨kq, x56_11, rfl, HA, HJ11, HO_246000, HO_253000, BK245, BK246, BK252, BK253, HB⟩ := hcut
       cases kq with
       | zero => exact absurd HA.out (by simp [cRA.j1])
       | succ kj11 =>
        have H := HA.out
        clear HA
        simp only [cRA.j1] at H
        by_cases c54 : x56_11 = true
        ·
         subst c54
         have H1 : (none) = some r := by rw [if_pos rfl] at H; exact H
         exact absurd H1 (by simp)
        ·
         replace c54 := Bool.eq_false_iff.mpr c54
         subst c54
         have H1 : (cRA.l0 kj11 a0 a1 t240 (t240.length : Int) 0 t240 t247) = some r := by rw [if_neg (show ¬ (false = true) by decide)] at H; exact H
         clear H
         have H := H1
         clear H1
         have H' := Aside0.mk H
         clear H
         have hnb55 := NB245_246.out
         have hnc55 := NB246_245.out
         have hnb56 := NB245_252.out
         have hnc56 := NB252_245.out
         have hnb57 := NB245_253.out
         have hnc57 := NB253_245.out
         have hcz58_0 : wc.cell? ⟨gb245, 0, none⟩ = some (.slice Ao16 t240.length co16) := (blk_cell BK245.out 0).trans rfl
         have hfz58_0 := blk_frozen BK245.out 0
         go_wp2
         go_loopg [60] kj11 (fun kq v60 w' => ∃ (x60_3 : Int), v60 = .int .i64 x60_3 ∧ Aside0 (cRA.l0 kq a0 a1 t240 (t240.length : Int) x60_3 t240 t247 = some r) ∧ Aside0 (kq ≤ kj11) ∧ Aside0 (Kd.V k29 29 w' w.heap.size (fun k_ => k_ ≠ gb245 ∧ k_ ≠ gb246 ∧ k_ ≠ gb252 ∧ k_ ≠ gb253) (.slice Ao16 t240.length co16) t240) ∧ Aside0 (Kd.V k29 29 w' w.heap.size (fun k_ => k_ ≠ gb245 ∧ k_ ≠ gb246 ∧ k_ ≠ gb252 ∧ k_ ≠ gb253) (.slice Ao16 t240.length co16) t240) ∧ Aside0 (Kd.V k29 29 w' w.heap.size (fun k_ => k_ ≠ gb245 ∧ k_ ≠ gb246 ∧ k_ ≠ gb252 ∧ k_ ≠ gb253) (.slice Ao23 t247.length co23) t247) ∧ Aside0 (w'.heap[gb245]? = some (.cells #[(.slice Ao16 t240.length co16)] 24 (0, 0))) ∧ Aside0 (w'.heap[gb246]? = some (.cells #[.int .i64 t243, .int .i64 t244] 48 (0, 0))) ∧ Aside0 (w'.heap[gb252]? = some (.cells #[(.slice Ao23 t247.length co23)] 24 (0, 0))) ∧ Aside0 (w'.heap[gb253]? = some (.cells #[.int .i64 t250, .int .i64 t251] 48 (0, 0))) ∧ Aside0 (Below w.heap.size w w'))
         case atStart => exact ⟨(0), (by first | rfl | (simp; done) | (simp [*]; done)), H', ⟨Nat.le_refl _⟩, ⟨by (with_reducible repeat (first | apply Kd.V_alloc | apply Kd.V_drewN | apply Kd.V_drew)); exact HO_246000.out⟩, ⟨by (with_reducible repeat (first | apply Kd.V_alloc | apply Kd.V_drewN | apply Kd.V_drew)); exact HO_246000.out⟩, ⟨by (with_reducible repeat (first | apply Kd.V_alloc | apply Kd.V_drewN | apply Kd.V_drew)); exact HO_253000.out⟩, ⟨by (with_reducible repeat (first | refine bN ?_ _ | refine bD ?_ | refine bA ?_ _)); exact BK245.out⟩, ⟨by (with_reducible repeat (first | refine bN ?_ _ | refine bD ?_ | refine bA ?_ _)); exact BK246.out⟩, ⟨by (with_reducible repeat (first | refine bN ?_ _ | refine bD ?_ | refine bA ?_ _)); exact BK252.out⟩, ⟨by (with_reducible repeat (first | refine bN ?_ _ | refine bD ?_ | refine bA ?_ _)); exact BK253.out⟩, ⟨by repeat (first | (with_reducible first | exact HB.out | apply below_alloc | apply pw_below_drewN | apply below_drew1 | refine below_set ?_ GE245.out | refine below_set ?_ GE246.out | refine below_set ?_ GE252.out | refine below_set ?_ GE253.out) | exact HB.out)⟩⟩
         case round =>
          clear H'
          try clear c1
          try clear c2
          try clear p2
          try clear c3
          try clear c4
          try clear c5
          try clear p6
          try clear c7
          try clear c7b0
          try clear c7b1
          try clear c8
          try clear c9
          try clear c9b0
          try clear c9b1
          try clear c9b2
          try clear c16
          try clear c17
          try clear c24
          try clear c25
          try clear c26
          try clear c28
          try clear c29
          try clear c31
          try clear c31b0
          try clear c31b1
          try clear c32
          try clear c32b0
          try clear c32b1
          try clear c33
          try clear c34
          try clear c35
          try clear c37
          try clear c38
          try clear c40
          try clear c43
          try clear c44
          try clear c45
          try clear c47
          try clear c48
          try clear c50
          try clear c51
          try clear c52
          try clear c54
          try clear c55
          try clear c56
          try clear c57
          try clear hcz18_0
          try clear hcz19_0
          try clear hcz19_1
          try clear hcz27_0
          try clear hcz30_0
          try clear hcz30_1
          try clear hcz36_0
          try clear hcz36_1
          try clear hcz39_0
          try clear hcz39_1
          try clear hcz41_0
          try clear hcz42_0
          try clear hcz46_0
          try clear hcz46_1
          try clear hcz49_0
          try clear hcz49_1
          try clear hcz53_0
          try clear hcz53_1
          try clear hcz58_0
          try clear hfz18_0
          try clear hfz19_0
          try clear hfz19_1
          try clear hfz27_0
          try clear hfz30_0
          try clear hfz30_1
          try clear hfz36_0
          try clear hfz36_1
          try clear hfz39_0
          try clear hfz39_1
          try clear hfz41_0
          try clear hfz42_0
          try clear hfz46_0
          try clear hfz46_1
          try clear hfz49_0
          try clear hfz49_1
          try clear hfz53_0
          try clear hfz53_1
          try clear hfz58_0
          try clear p2
          try clear p6
          obtain ⟨x60_3, rfl, HA, HK3, HO_58, HO_246000, HO_253000, BK245, BK246, BK252, BK253, HB⟩ := hrel
          cases gk with
          | zero => exact absurd HA.out (by simp [cRA.l0])
          | succ k3 =>
           have H := HA.out
           clear HA
           simp only [cRA.l0] at H
           by_cases c59 : x60_3 < (t240.length : Int)
           ·
            rw [if_pos c59] at H
            have c59b0 : decide (x60_3 < (t240.length : Int)) = true := decide_eq_true c59
            clear c59
            by_cases c60 : 0 ≤ x60_3
            ·
             rw [if_pos c60] at H
             have c60b0 : decide (0 ≤ x60_3) = true := decide_eq_true c60
             clear c60
             by_cases c61 : x60_3 < (t240.length : Int)
             ·
              rw [if_pos c61] at H
              have c61b0 : decide (x60_3 < (t240.length : Int)) = true := decide_eq_true c61
              clear c61
              replace H := Option.bind_eq_some_iff.mp H
              obtain ⟨⟨t256, t257, t258, t259, t260, t261, t262, t265⟩, A620, H⟩ := H
              replace H : (if t265 = true then (none) else (cRA.l0 k3 a0 a1 t240 (t240.length : Int) (wrap64 (x60_3 + 1)) t240 t247)) = some r := H
              have A62 := Aside0.mk A620
              clear A620
              by_cases c63 : t265 = true
              ·
               subst c63
               have H1 : (none) = some r := by rw [if_pos rfl] at H; exact H
               exact absurd H1 (by simp)
              ·
               replace c63 := Bool.eq_false_iff.mpr c63
               subst c63
               have H1 : (cRA.l0 k3 a0 a1 t240 (t240.length : Int) (wrap64 (x60_3 + 1)) t240 t247) = some r := by rw [if_neg (show ¬ (false = true) by decide)] at H; exact H
               clear H
               have H := H1
               clear H1
               have H' := Aside0.mk H
               clear H
               have p254 : 0 ≤ (x60_3 : Int) := of_decide_eq_true (by first | (with_reducible assumption) | assumption)
               have q254 : x60_3 < (t240.length : Int) := of_decide_eq_true (by first | (with_reducible assumption) | assumption)
               obtain ⟨ad254, A254_6, c254_6, e254, hx254_0, hx254_1, hx254_2, hx254_3, hx254_4, hx254_5, hx254_6, hl254_6, hi254_6⟩ := at_T29 (Kd.V_reads' HO_58.out).2.2 x60_3 p254 q254
               cases e254
               obtain ⟨ce254, hce254, hMe254, hcc254⟩ := Kd.V_get HO_58.out z29 x60_3 p254 (by first | exact q254 | exact of_decide_eq_true (by first | (with_reducible assumption) | assumption) | (have e_ := (Kd.V_reads' HO_58.out).1; omega))
               obtain ⟨ua254_6, uc254_6, rfl, ul254_6, ge254_6⟩ := k29_openF hMe254
               have hv254_6 := hcc254 6 _ rfl
               rw [add_field _ _ 6 (by omega)] at hv254_6
               replace hv254_6 := Option.some.inj (hv254_6.symm.trans hx254_6)
               injection hv254_6 with hva_ hvn_ hvc_
               rw [hva_] at ge254_6
               rw [hvc_] at ul254_6
               have HL254_6 := Aside0.mk (show Kd.V Kd.string 9 _ w.heap.size _ _ ((rd_T29 t240 x60_3).f6) from Kd.V_mk ul254_6 ge254_6)
               clear hva_ hvn_ hvc_ ge254_6 ul254_6
               clear hcc254 hce254
               have HR254_6 := Aside0.mk hi254_6
               have HC254_6 := Aside0.mk hl254_6
               clear hi254_6 hl254_6
               replace p254 := eq_true p254
               replace q254 := eq_true q254
               go_wp2_with (first | ((with_reducible refine gate_dst (N := 10) rfl ?_); (try (refine gate_guard (by rfl) ?_; dsimp only)); refine box_event ?hg (N := 10) ?hd (cs := #[.string (⟨#[]⟩ : ByteArray), .int .i64 0, .int .i64 0, .int .i64 0, .bool false, .bool false, .slice none 0 0]) (t := 29) ?hr ?_; (case hd => rfl); (case hg => rfl); (case hr => first | (go_simp; done) | (go_simp; rfl)); intro gb255 hg w105 hbox hb; have n0_ := Aside0.mk (Kd.V_below (Kd.V_elderB (by (with_reducible repeat (first | apply Kd.V_alloc | apply Kd.V_drewN | apply Kd.V_drew)); exact HO_58.out) gb255 (Nat.le_of_eq hg.symm)) hb); have n1_ := Aside0.mk (Kd.V_below (Kd.V_elderB (by (with_reducible repeat (first | apply Kd.V_alloc | apply Kd.V_drewN | apply Kd.V_drew)); exact HO_246000.out) gb255 (Nat.le_of_eq hg.symm)) hb); have n2_ := Aside0.mk (Kd.V_below (Kd.V_elderB (by (with_reducible repeat (first | apply Kd.V_alloc | apply Kd.V_drewN | apply Kd.V_drew)); exact HO_253000.out) gb255 (Nat.le_of_eq hg.symm)) hb); have n3_ := Aside0.mk (Kd.V_below (Kd.V_elderB (by (with_reducible repeat (first | apply Kd.V_alloc | apply Kd.V_drewN | apply Kd.V_drew)); exact HL254_6.out) gb255 (Nat.le_of_eq hg.symm)) hb); have n4_ := Aside0.mk (blk_below (g := gb245) (o := .cells #[.slice (some ad254) t240.length co16] 24 (0, 0)) (by (with_reducible repeat (first | refine bN ?_ _ | refine bD ?_ | refine bA ?_ _)); exact BK245.out) hb); have n5_ := Aside0.mk (blk_below (g := gb246) (o := .cells #[.int .i64 t243, .int .i64 t244] 48 (0, 0)) (by (with_reducible repeat (first | refine bN ?_ _ | refine bD ?_ | refine bA ?_ _)); exact BK246.out) hb); have n6_ := Aside0.mk (blk_below (g := gb252) (o := .cells #[.slice Ao23 t247.length co23] 24 (0, 0)) (by (with_reducible repeat (first | refine bN ?_ _ | refine bD ?_ | refine bA ?_ _)); exact BK252.out) hb); have n7_ := Aside0.mk (blk_below (g := gb253) (o := .cells #[.int .i64 t250, .int .i64 t251] 48 (0, 0)) (by (with_reducible repeat (first | refine bN ?_ _ | refine bD ?_ | refine bA ?_ _)); exact BK253.out) hb); have n8_ := Aside0.mk (Kd.C_below (by repeat (first | (with_reducible exact HR254_6.out) | (with_reducible refine Kd.C_alloc ?_ _) | (with_reducible refine Kd.C_drewN ?_ _) | (with_reducible refine Kd.C_drew ?_) | exact HR254_6.out)) hb); have n9_ := Aside0.mk (below_step (by repeat (first | (with_reducible first | exact HB.out | apply below_alloc | apply pw_below_drewN | apply below_drew1 | refine below_set ?_ GE245.out | refine below_set ?_ GE246.out | refine below_set ?_ GE252.out | refine below_set ?_ GE253.out) | exact HB.out)) hb); have n10_ := Aside0.mk (hbox); have n11_ := Aside0.mk ((by rw [hg]; exact (below_size (by repeat (first | (with_reducible first | exact HB.out | apply below_alloc | apply pw_below_drewN | apply below_drew1 | refine below_set ?_ GE245.out | refine below_set ?_ GE246.out | refine below_set ?_ GE252.out | refine below_set ?_ GE253.out) | exact HB.out))) : w.heap.size ≤ gb255)); have n12_ := Aside0.mk ((by rw [hg]; exact (below_size (by repeat (first | (with_reducible first | exact HB.out | apply below_alloc | apply pw_below_drewN | apply below_drew1 | refine below_set ?_ GE245.out | refine below_set ?_ GE246.out | refine below_set ?_ GE252.out | refine below_set ?_ GE253.out) | exact HB.out))) : w.heap.size ≤ gb255)); have n13_ := Aside0.mk ((by rw [hg]; exact Nat.ne_of_lt (blk_lt (g := gb245) (o := .cells #[.slice (some ad254) t240.length co16] 24 (0, 0)) (by (with_reducible repeat (first | refine bN ?_ _ | refine bD ?_ | refine bA ?_ _)); exact BK245.out)) : gb245 ≠ gb255)); have n14_ := Aside0.mk ((by rw [hg]; exact Nat.ne_of_gt (blk_lt (g := gb245) (o := .cells #[.slice (some ad254) t240.length co16] 24 (0, 0)) (by (with_reducible repeat (first | refine bN ?_ _ | refine bD ?_ | refine bA ?_ _)); exact BK245.out)) : gb255 ≠ gb245)); have n15_ := Aside0.mk ((by rw [hg]; exact Nat.ne_of_lt (blk_lt (g := gb246) (o := .cells #[.int .i64 t243, .int .i64 t244] 48 (0, 0)) (by (with_reducible repeat (first | refine bN ?_ _ | refine bD ?_ | refine bA ?_ _)); exact BK246.out)) : gb246 ≠ gb255)); have n16_ := Aside0.mk ((by rw [hg]; exact Nat.ne_of_gt (blk_lt (g := gb246) (o := .cells #[.int .i64 t243, .int .i64 t244] 48 (0, 0)) (by (with_reducible repeat (first | refine bN ?_ _ | refine bD ?_ | refine bA ?_ _)); exact BK246.out)) : gb255 ≠ gb246)); have n17_ := Aside0.mk ((by rw [hg]; exact Nat.ne_of_lt (blk_lt (g := gb252) (o := .cells #[.slice Ao23 t247.length co23] 24 (0, 0)) (by (with_reducible repeat (first | refine bN ?_ _ | refine bD ?_ | refine bA ?_ _)); exact BK252.out)) : gb252 ≠ gb255)); have n18_ := Aside0.mk ((by rw [hg]; exact Nat.ne_of_gt (blk_lt (g := gb252) (o := .cells #[.slice Ao23 t247.length co23] 24 (0, 0)) (by (with_reducible repeat (first | refine bN ?_ _ | refine bD ?_ | refine bA ?_ _)); exact BK252.out)) : gb255 ≠ gb252)); have n19_ := Aside0.mk ((by rw [hg]; exact Nat.ne_of_lt (blk_lt (g := gb253) (o := .cells #[.int .i64 t250, .int .i64 t251] 48 (0, 0)) (by (with_reducible repeat (first | refine bN ?_ _ | refine bD ?_ | refine bA ?_ _)); exact BK253.out)) : gb253 ≠ gb255)); have n20_ := Aside0.mk ((by rw [hg]; exact Nat.ne_of_gt (blk_lt (g := gb253) (o := .cells #[.int .i64 t250, .int .i64 t251] 48 (0, 0)) (by (with_reducible repeat (first | refine bN ?_ _ | refine bD ?_ | refine bA ?_ _)); exact BK253.out)) : gb255 ≠ gb253)); clear HO_58; clear HO_246000; clear HO_253000; clear HL254_6; clear BK245; clear BK246; clear BK252; clear BK253; clear HR254_6; clear HB; have HO_58 := n0_; have HO_246000 := n1_; have HO_253000 := n2_; have HL254_6 := n3_; have BK245 := n4_; have BK246 := n5_; have BK252 := n6_; have BK253 := n7_; have HR254_6 := n8_; have HB := n9_; have BK255 := n10_; have GW255 := n11_; have GE255 := n12_; have NB245_255 := n13_; have NB255_245 := n14_; have NB246_255 := n15_; have NB255_246 := n16_; have NB252_255 := n17_; have NB255_252 := n18_; have NB253_255 := n19_; have NB255_253 := n20_; clear n0_ n1_ n2_ n3_ n4_ n5_ n6_ n7_ n8_ n9_ n10_ n11_ n12_ n13_ n14_ n15_ n16_ n17_ n18_ n19_ n20_; clear hb hbox hg; have hnb106 := NB255_245.out; have hnc106 := NB245_255.out; have hnb107 := NB255_246.out; have hnc107 := NB246_255.out; have hnb108 := NB255_252.out; have hnc108 := NB252_255.out; have hnb109 := NB255_253.out; have hnc109 := NB253_255.out; have hcz110_0 : w105.cell? ⟨gb255, 0, none⟩ = some (.string (⟨#[]⟩ : ByteArray)) := (blk_cell BK255.out 0).trans rfl; have hcz110_1 : w105.cell? ⟨gb255, 1, none⟩ = some (.int .i64 0) := (blk_cell BK255.out 1).trans rfl; have hcz110_2 : w105.cell? ⟨gb255, 2, none⟩ = some (.int .i64 0) := (blk_cell BK255.out 2).trans rfl; have hcz110_3 : w105.cell? ⟨gb255, 3, none⟩ = some (.int .i64 0) := (blk_cell BK255.out 3).trans rfl; have hcz110_4 : w105.cell? ⟨gb255, 4, none⟩ = some (.bool false) := (blk_cell BK255.out 4).trans rfl; have hcz110_5 : w105.cell? ⟨gb255, 5, none⟩ = some (.bool false) := (blk_cell BK255.out 5).trans rfl; have hcz110_6 : w105.cell? ⟨gb255, 6, none⟩ = some (.slice none 0 0) := (blk_cell BK255.out 6).trans rfl; have hfz110_0 := blk_frozen BK255.out 0; have hfz110_1 := blk_frozen BK255.out 1; have hfz110_2 := blk_frozen BK255.out 2; have hfz110_3 := blk_frozen BK255.out 3; have hfz110_4 := blk_frozen BK255.out 4; have hfz110_5 := blk_frozen BK255.out 5; have hfz110_6 := blk_frozen BK255.out 6; have hnb111 := NB252_245.out; have hnc111 := NB245_252.out; have hnb112 := NB252_246.out; have hnc112 := NB246_252.out; have hnb113 := NB252_253.out; have hnc113 := NB253_252.out; have hcz114_0 : w105.cell? ⟨gb252, 0, none⟩ = some (.slice Ao23 t247.length co23) := (blk_cell BK252.out 0).trans rfl; have hfz114_0 := blk_frozen BK252.out 0) | ((with_reducible refine gate_callee (f := 10) rfl ?_); refine goesL_ (some 68) rfl rfl Tryd.func10 (by kernel_rfl) rfl #[.agg #[.slice Ao23 t247.length co23], .string ((rd_T29 t240 x60_3).f0)] rfl (by (try simp only [List.map_toArray, List.map_cons, List.map_nil]); first | done | rfl | (simp only [List.length_drop, List.length_take]; rfl)) ?_; (with_reducible refine (conf_Config_Find.calls k3 _ _ t247 ((rd_T29 t240 x60_3).f0) t256 t257 t258 t259 t260 t261 t262 false _ ?side1 ?side2 A62.out).mono ?_); (case side1 => refine (Kd.V_reads' (e := 29) (base := w.heap.size) (ok := fun k_ => ((k_ ≠ gb245 ∧ (k_ ≠ gb246 ∧ (k_ ≠ gb252 ∧ k_ ≠ gb253))) ∧ k_ ≠ gb255)) (n := t247.length) (c := co23) ?_).2.2; exact (by (with_reducible repeat (first | apply Kd.V_alloc | apply Kd.V_drewN | apply Kd.V_drew)); exact (Kd.V_mono (Kd.V_far (p := ⟨gb255, 6, none⟩) (Kd.V_far (p := ⟨gb255, 5, none⟩) (Kd.V_far (p := ⟨gb255, 4, none⟩) (Kd.V_far (p := ⟨gb255, 3, none⟩) (Kd.V_far (p := ⟨gb255, 2, none⟩) (Kd.V_far (p := ⟨gb255, 1, none⟩) (Kd.V_far (p := ⟨gb255, 0, none⟩) (Kd.V_mono HO_253000.out (fun k_ hk => (⟨hk, hk.2⟩ : _ ∧ k_ ≠ gb255))) (fun _ hk => hk.2) (.string ((rd_T29 t240 x60_3).f0))) (fun _ hk => hk.2) (.int .i64 ((rd_T29 t240 x60_3).f1))) (fun _ hk => hk.2) (.int .i64 ((rd_T29 t240 x60_3).f2))) (fun _ hk => hk.2) (.int .i64 ((rd_T29 t240 x60_3).f3))) (fun _ hk => hk.2) (.bool ((rd_T29 t240 x60_3).f4))) (fun _ hk => hk.2) (.bool ((rd_T29 t240 x60_3).f5))) (fun _ hk => hk.2) (.slice A254_6 ((rd_T29 t240 x60_3).f6).length c254_6)) (fun _ h_ => h_.1)))); (case side2 => exact (Kd.V_reads' HO_253000.out).2.1); rintro e w115 ⟨v263, rfl, ho0, hb⟩; refine ⟨_, rfl, ?_⟩; have n0_ := Aside0.mk (Kd.V_elder' (by (with_reducible repeat (first | apply Kd.V_alloc | apply Kd.V_drewN | apply Kd.V_drew)); exact (Kd.V_mono (Kd.V_far (p := ⟨gb255, 6, none⟩) (Kd.V_far (p := ⟨gb255, 5, none⟩) (Kd.V_far (p := ⟨gb255, 4, none⟩) (Kd.V_far (p := ⟨gb255, 3, none⟩) (Kd.V_far (p := ⟨gb255, 2, none⟩) (Kd.V_far (p := ⟨gb255, 1, none⟩) (Kd.V_far (p := ⟨gb255, 0, none⟩) (Kd.V_mono HO_58.out (fun k_ hk => (⟨hk, hk.2⟩ : _ ∧ k_ ≠ gb255))) (fun _ hk => hk.2) (.string ((rd_T29 t240 x60_3).f0))) (fun _ hk => hk.2) (.int .i64 ((rd_T29 t240 x60_3).f1))) (fun _ hk => hk.2) (.int .i64 ((rd_T29 t240 x60_3).f2))) (fun _ hk => hk.2) (.int .i64 ((rd_T29 t240 x60_3).f3))) (fun _ hk => hk.2) (.bool ((rd_T29 t240 x60_3).f4))) (fun _ hk => hk.2) (.bool ((rd_T29 t240 x60_3).f5))) (fun _ hk => hk.2) (.slice A254_6 ((rd_T29 t240 x60_3).f6).length c254_6)) (fun _ h_ => h_.1))) (Kd.R_base ho0) hb); have n1_ := Aside0.mk (Kd.V_elder' (by (with_reducible repeat (first | apply Kd.V_alloc | apply Kd.V_drewN | apply Kd.V_drew)); exact (Kd.V_mono (Kd.V_far (p := ⟨gb255, 6, none⟩) (Kd.V_far (p := ⟨gb255, 5, none⟩) (Kd.V_far (p := ⟨gb255, 4, none⟩) (Kd.V_far (p := ⟨gb255, 3, none⟩) (Kd.V_far (p := ⟨gb255, 2, none⟩) (Kd.V_far (p := ⟨gb255, 1, none⟩) (Kd.V_far (p := ⟨gb255, 0, none⟩) (Kd.V_mono HO_246000.out (fun k_ hk => (⟨hk, hk.2⟩ : _ ∧ k_ ≠ gb255))) (fun _ hk => hk.2) (.string ((rd_T29 t240 x60_3).f0))) (fun _ hk => hk.2) (.int .i64 ((rd_T29 t240 x60_3).f1))) (fun _ hk => hk.2) (.int .i64 ((rd_T29 t240 x60_3).f2))) (fun _ hk => hk.2) (.int .i64 ((rd_T29 t240 x60_3).f3))) (fun _ hk => hk.2) (.bool ((rd_T29 t240 x60_3).f4))) (fun _ hk => hk.2) (.bool ((rd_T29 t240 x60_3).f5))) (fun _ hk => hk.2) (.slice A254_6 ((rd_T29 t240 x60_3).f6).length c254_6)) (fun _ h_ => h_.1))) (Kd.R_base ho0) hb); have n2_ := Aside0.mk (Kd.V_elder' (by (with_reducible repeat (first | apply Kd.V_alloc | apply Kd.V_drewN | apply Kd.V_drew)); exact (Kd.V_mono (Kd.V_far (p := ⟨gb255, 6, none⟩) (Kd.V_far (p := ⟨gb255, 5, none⟩) (Kd.V_far (p := ⟨gb255, 4, none⟩) (Kd.V_far (p := ⟨gb255, 3, none⟩) (Kd.V_far (p := ⟨gb255, 2, none⟩) (Kd.V_far (p := ⟨gb255, 1, none⟩) (Kd.V_far (p := ⟨gb255, 0, none⟩) (Kd.V_mono HO_253000.out (fun k_ hk => (⟨hk, hk.2⟩ : _ ∧ k_ ≠ gb255))) (fun _ hk => hk.2) (.string ((rd_T29 t240 x60_3).f0))) (fun _ hk => hk.2) (.int .i64 ((rd_T29 t240 x60_3).f1))) (fun _ hk => hk.2) (.int .i64 ((rd_T29 t240 x60_3).f2))) (fun _ hk => hk.2) (.int .i64 ((rd_T29 t240 x60_3).f3))) (fun _ hk => hk.2) (.bool ((rd_T29 t240 x60_3).f4))) (fun _ hk => hk.2) (.bool ((rd_T29 t240 x60_3).f5))) (fun _ hk => hk.2) (.slice A254_6 ((rd_T29 t240 x60_3).f6).length c254_6)) (fun _ h_ => h_.1))) (Kd.R_base ho0) hb); have n3_ := Aside0.mk (Kd.V_elder' (by (with_reducible repeat (first | apply Kd.V_alloc | apply Kd.V_drewN | apply Kd.V_drew)); exact (Kd.V_mono (Kd.V_far (p := ⟨gb255, 6, none⟩) (Kd.V_far (p := ⟨gb255, 5, none⟩) (Kd.V_far (p := ⟨gb255, 4, none⟩) (Kd.V_far (p := ⟨gb255, 3, none⟩) (Kd.V_far (p := ⟨gb255, 2, none⟩) (Kd.V_far (p := ⟨gb255, 1, none⟩) (Kd.V_far (p := ⟨gb255, 0, none⟩) (Kd.V_mono HL254_6.out (fun k_ hk => (⟨hk, hk.2⟩ : _ ∧ k_ ≠ gb255))) (fun _ hk => hk.2) (.string ((rd_T29 t240 x60_3).f0))) (fun _ hk => hk.2) (.int .i64 ((rd_T29 t240 x60_3).f1))) (fun _ hk => hk.2) (.int .i64 ((rd_T29 t240 x60_3).f2))) (fun _ hk => hk.2) (.int .i64 ((rd_T29 t240 x60_3).f3))) (fun _ hk => hk.2) (.bool ((rd_T29 t240 x60_3).f4))) (fun _ hk => hk.2) (.bool ((rd_T29 t240 x60_3).f5))) (fun _ hk => hk.2) (.slice A254_6 ((rd_T29 t240 x60_3).f6).length c254_6)) (fun _ h_ => h_.1))) (Kd.R_base ho0) hb); have n4_ := Aside0.mk (Kd.R_lower ho0 (below_size (by repeat (first | (with_reducible first | exact HB.out | apply below_alloc | apply pw_below_drewN | apply below_drew1 | refine below_set ?_ GE245.out | refine below_set ?_ GE246.out | refine below_set ?_ GE252.out | refine below_set ?_ GE253.out | refine below_set ?_ GE255.out) | exact HB.out)))); have n5_ := Aside0.mk (blk_below (g := gb245) (o := .cells #[.slice (some ad254) t240.length co16] 24 (0, 0)) (by (with_reducible repeat (first | refine bN ?_ _ | refine bD ?_ | refine bA ?_ _)); refine blk_far ?_ NB245_255.out _; (with_reducible repeat (first | refine bN ?_ _ | refine bD ?_ | refine bA ?_ _)); refine blk_far ?_ NB245_255.out _; (with_reducible repeat (first | refine bN ?_ _ | refine bD ?_ | refine bA ?_ _)); refine blk_far ?_ NB245_255.out _; (with_reducible repeat (first | refine bN ?_ _ | refine bD ?_ | refine bA ?_ _)); refine blk_far ?_ NB245_255.out _; (with_reducible repeat (first | refine bN ?_ _ | refine bD ?_ | refine bA ?_ _)); refine blk_far ?_ NB245_255.out _; (with_reducible repeat (first | refine bN ?_ _ | refine bD ?_ | refine bA ?_ _)); refine blk_far ?_ NB245_255.out _; (with_reducible repeat (first | refine bN ?_ _ | refine bD ?_ | refine bA ?_ _)); refine blk_far ?_ NB245_255.out _; (with_reducible repeat (first | refine bN ?_ _ | refine bD ?_ | refine bA ?_ _)); exact BK245.out) hb); have n6_ := Aside0.mk (blk_below (g := gb246) (o := .cells #[.int .i64 t243, .int .i64 t244] 48 (0, 0)) (by (with_reducible repeat (first | refine bN ?_ _ | refine bD ?_ | refine bA ?_ _)); refine blk_far ?_ NB246_255.out _; (with_reducible repeat (first | refine bN ?_ _ | refine bD ?_ | refine bA ?_ _)); refine blk_far ?_ NB246_255.out _; (with_reducible repeat (first | refine bN ?_ _ | refine bD ?_ | refine bA ?_ _)); refine blk_far ?_ NB246_255.out _; (with_reducible repeat (first | refine bN ?_ _ | refine bD ?_ | refine bA ?_ _)); refine blk_far ?_ NB246_255.out _; (with_reducible repeat (first | refine bN ?_ _ | refine bD ?_ | refine bA ?_ _)); refine blk_far ?_ NB246_255.out _; (with_reducible repeat (first | refine bN ?_ _ | refine bD ?_ | refine bA ?_ _)); refine blk_far ?_ NB246_255.out _; (with_reducible repeat (first | refine bN ?_ _ | refine bD ?_ | refine bA ?_ _)); refine blk_far ?_ NB246_255.out _; (with_reducible repeat (first | refine bN ?_ _ | refine bD ?_ | refine bA ?_ _)); exact BK246.out) hb); have n7_ := Aside0.mk (blk_below (g := gb252) (o := .cells #[.slice Ao23 t247.length co23] 24 (0, 0)) (by (with_reducible repeat (first | refine bN ?_ _ | refine bD ?_ | refine bA ?_ _)); refine blk_far ?_ NB252_255.out _; (with_reducible repeat (first | refine bN ?_ _ | refine bD ?_ | refine bA ?_ _)); refine blk_far ?_ NB252_255.out _; (with_reducible repeat (first | refine bN ?_ _ | refine bD ?_ | refine bA ?_ _)); refine blk_far ?_ NB252_255.out _; (with_reducible repeat (first | refine bN ?_ _ | refine bD ?_ | refine bA ?_ _)); refine blk_far ?_ NB252_255.out _; (with_reducible repeat (first | refine bN ?_ _ | refine bD ?_ | refine bA ?_ _)); refine blk_far ?_ NB252_255.out _; (with_reducible repeat (first | refine bN ?_ _ | refine bD ?_ | refine bA ?_ _)); refine blk_far ?_ NB252_255.out _; (with_reducible repeat (first | refine bN ?_ _ | refine bD ?_ | refine bA ?_ _)); refine blk_far ?_ NB252_255.out _; (with_reducible repeat (first | refine bN ?_ _ | refine bD ?_ | refine bA ?_ _)); exact BK252.out) hb); have n8_ := Aside0.mk (blk_below (g := gb253) (o := .cells #[.int .i64 t250, .int .i64 t251] 48 (0, 0)) (by (with_reducible repeat (first | refine bN ?_ _ | refine bD ?_ | refine bA ?_ _)); refine blk_far ?_ NB253_255.out _; (with_reducible repeat (first | refine bN ?_ _ | refine bD ?_ | refine bA ?_ _)); refine blk_far ?_ NB253_255.out _; (with_reducible repeat (first | refine bN ?_ _ | refine bD ?_ | refine bA ?_ _)); refine blk_far ?_ NB253_255.out _; (with_reducible repeat (first | refine bN ?_ _ | refine bD ?_ | refine bA ?_ _)); refine blk_far ?_ NB253_255.out _; (with_reducible repeat (first | refine bN ?_ _ | refine bD ?_ | refine bA ?_ _)); refine blk_far ?_ NB253_255.out _; (with_reducible repeat (first | refine bN ?_ _ | refine bD ?_ | refine bA ?_ _)); refine blk_far ?_ NB253_255.out _; (with_reducible repeat (first | refine bN ?_ _ | refine bD ?_ | refine bA ?_ _)); refine blk_far ?_ NB253_255.out _; (with_reducible repeat (first | refine bN ?_ _ | refine bD ?_ | refine bA ?_ _)); exact BK253.out) hb); have n9_ := Aside0.mk (Kd.C_below ((Kd.V_reads' (by (with_reducible repeat (first | apply Kd.V_alloc | apply Kd.V_drewN | apply Kd.V_drew)); exact (Kd.V_mono (Kd.V_far (p := ⟨gb255, 6, none⟩) (Kd.V_far (p := ⟨gb255, 5, none⟩) (Kd.V_far (p := ⟨gb255, 4, none⟩) (Kd.V_far (p := ⟨gb255, 3, none⟩) (Kd.V_far (p := ⟨gb255, 2, none⟩) (Kd.V_far (p := ⟨gb255, 1, none⟩) (Kd.V_far (p := ⟨gb255, 0, none⟩) (Kd.V_mono HL254_6.out (fun k_ hk => (⟨hk, hk.2⟩ : _ ∧ k_ ≠ gb255))) (fun _ hk => hk.2) (.string ((rd_T29 t240 x60_3).f0))) (fun _ hk => hk.2) (.int .i64 ((rd_T29 t240 x60_3).f1))) (fun _ hk => hk.2) (.int .i64 ((rd_T29 t240 x60_3).f2))) (fun _ hk => hk.2) (.int .i64 ((rd_T29 t240 x60_3).f3))) (fun _ hk => hk.2) (.bool ((rd_T29 t240 x60_3).f4))) (fun _ hk => hk.2) (.bool ((rd_T29 t240 x60_3).f5))) (fun _ hk => hk.2) (.slice A254_6 ((rd_T29 t240 x60_3).f6).length c254_6)) (fun _ h_ => h_.1)))).2.2) hb); have n10_ := Aside0.mk (blk_below (g := gb255) (o := .cells #[.string ((rd_T29 t240 x60_3).f0), .int .i64 ((rd_T29 t240 x60_3).f1), .int .i64 ((rd_T29 t240 x60_3).f2), .int .i64 ((rd_T29 t240 x60_3).f3), .bool ((rd_T29 t240 x60_3).f4), .bool ((rd_T29 t240 x60_3).f5), .slice A254_6 ((rd_T29 t240 x60_3).f6).length c254_6] 29 (0, 0)) (by (with_reducible repeat (first | refine bN ?_ _ | refine bD ?_ | refine bA ?_ _)); refine blk_put (cs := #[.string ((rd_T29 t240 x60_3).f0), .int .i64 ((rd_T29 t240 x60_3).f1), .int .i64 ((rd_T29 t240 x60_3).f2), .int .i64 ((rd_T29 t240 x60_3).f3), .bool ((rd_T29 t240 x60_3).f4), .bool ((rd_T29 t240 x60_3).f5), .slice none 0 0]) ?_ 6 _ rfl; (with_reducible repeat (first | refine bN ?_ _ | refine bD ?_ | refine bA ?_ _)); refine blk_put (cs := #[.string ((rd_T29 t240 x60_3).f0), .int .i64 ((rd_T29 t240 x60_3).f1), .int .i64 ((rd_T29 t240 x60_3).f2), .int .i64 ((rd_T29 t240 x60_3).f3), .bool ((rd_T29 t240 x60_3).f4), .bool false, .slice none 0 0]) ?_ 5 _ rfl; (with_reducible repeat (first | refine bN ?_ _ | refine bD ?_ | refine bA ?_ _)); refine blk_put (cs := #[.string ((rd_T29 t240 x60_3).f0), .int .i64 ((rd_T29 t240 x60_3).f1), .int .i64 ((rd_T29 t240 x60_3).f2), .int .i64 ((rd_T29 t240 x60_3).f3), .bool false, .bool false, .slice none 0 0]) ?_ 4 _ rfl; (with_reducible repeat (first | refine bN ?_ _ | refine bD ?_ | refine bA ?_ _)); refine blk_put (cs := #[.string ((rd_T29 t240 x60_3).f0), .int .i64 ((rd_T29 t240 x60_3).f1), .int .i64 ((rd_T29 t240 x60_3).f2), .int .i64 0, .bool false, .bool false, .slice none 0 0]) ?_ 3 _ rfl; (with_reducible repeat (first | refine bN ?_ _ | refine bD ?_ | refine bA ?_ _)); refine blk_put (cs := #[.string ((rd_T29 t240 x60_3).f0), .int .i64 ((rd_T29 t240 x60_3).f1), .int .i64 0, .int .i64 0, .bool false, .bool false, .slice none 0 0]) ?_ 2 _ rfl; (with_reducible repeat (first | refine bN ?_ _ | refine bD ?_ | refine bA ?_ _)); refine blk_put (cs := #[.string ((rd_T29 t240 x60_3).f0), .int .i64 0, .int .i64 0, .int .i64 0, .bool false, .bool false, .slice none 0 0]) ?_ 1 _ rfl; (with_reducible repeat (first | refine bN ?_ _ | refine bD ?_ | refine bA ?_ _)); refine blk_put (cs := #[.string (⟨#[]⟩ : ByteArray), .int .i64 0, .int .i64 0, .int .i64 0, .bool false, .bool false, .slice none 0 0]) ?_ 0 _ rfl; (with_reducible repeat (first | refine bN ?_ _ | refine bD ?_ | refine bA ?_ _)); exact BK255.out) hb); have n11_ := Aside0.mk (below_step (by repeat (first | (with_reducible first | exact HB.out | apply below_alloc | apply pw_below_drewN | apply below_drew1 | refine below_set ?_ GE245.out | refine below_set ?_ GE246.out | refine below_set ?_ GE252.out | refine below_set ?_ GE253.out | refine below_set ?_ GE255.out) | exact HB.out)) hb); clear HO_58; clear HO_246000; clear HO_253000; clear HL254_6; clear BK245; clear BK246; clear BK252; clear BK253; clear HR254_6; clear BK255; clear HB; have HO_58 := n0_; have HO_246000 := n1_; have HO_253000 := n2_; have HL254_6 := n3_; have HO264 := n4_; have BK245 := n5_; have BK246 := n6_; have BK252 := n7_; have BK253 := n8_; have HR254_6 := n9_; have BK255 := n10_; have HB := n11_; clear n0_ n1_ n2_ n3_ n4_ n5_ n6_ n7_ n8_ n9_ n10_ n11_; (try clear hb); (try clear hb2); (try clear hk); (try clear hi); (try clear ho0)) | ((with_reducible refine gate_dst (N := 11) rfl ?_); (try (refine gate_guard (by rfl) ?_; dsimp only)); refine box_event ?hg (N := 11) ?hd (cs := #[.string (⟨#[]⟩ : ByteArray), .int .i64 0, .int .i64 0, .int .i64 0, .bool false, .bool false, .slice none 0 0]) (t := 29) ?hr ?_; (case hd => rfl); (case hg => rfl); (case hr => first | (go_simp; done) | (go_simp; rfl)); intro gb266 hg w116 hbox hb; have n0_ := Aside0.mk (Kd.V_below (Kd.V_elderB (by (with_reducible repeat (first | apply Kd.V_alloc | apply Kd.V_drewN | apply Kd.V_drew)); exact HO_58.out) gb266 (Nat.le_of_eq hg.symm)) hb); have n1_ := Aside0.mk (Kd.V_below (Kd.V_elderB (by (with_reducible repeat (first | apply Kd.V_alloc | apply Kd.V_drewN | apply Kd.V_drew)); exact HO_246000.out) gb266 (Nat.le_of_eq hg.symm)) hb); have n2_ := Aside0.mk (Kd.V_below (Kd.V_elderB (by (with_reducible repeat (first | apply Kd.V_alloc | apply Kd.V_drewN | apply Kd.V_drew)); exact HO_253000.out) gb266 (Nat.le_of_eq hg.symm)) hb); have n3_ := Aside0.mk (Kd.V_below (Kd.V_elderB (by (with_reducible repeat (first | apply Kd.V_alloc | apply Kd.V_drewN | apply Kd.V_drew)); exact HL254_6.out) gb266 (Nat.le_of_eq hg.symm)) hb); have n4_ := Aside0.mk (Kd.R_below (by (with_reducible repeat (first | apply Kd.R_alloc | apply Kd.R_drewN | apply Kd.R_drew)); exact HO264.out) hb); have n5_ := Aside0.mk (blk_below (g := gb245) (o := .cells #[.slice (some ad254) t240.length co16] 24 (0, 0)) (by (with_reducible repeat (first | refine bN ?_ _ | refine bD ?_ | refine bA ?_ _)); exact BK245.out) hb); have n6_ := Aside0.mk (blk_below (g := gb246) (o := .cells #[.int .i64 t243, .int .i64 t244] 48 (0, 0)) (by (with_reducible repeat (first | refine bN ?_ _ | refine bD ?_ | refine bA ?_ _)); exact BK246.out) hb); have n7_ := Aside0.mk (blk_below (g := gb252) (o := .cells #[.slice Ao23 t247.length co23] 24 (0, 0)) (by (with_reducible repeat (first | refine bN ?_ _ | refine bD ?_ | refine bA ?_ _)); exact BK252.out) hb); have n8_ := Aside0.mk (blk_below (g := gb253) (o := .cells #[.int .i64 t250, .int .i64 t251] 48 (0, 0)) (by (with_reducible repeat (first | refine bN ?_ _ | refine bD ?_ | refine bA ?_ _)); exact BK253.out) hb); have n9_ := Aside0.mk (Kd.C_below (by repeat (first | (with_reducible exact HR254_6.out) | (with_reducible refine Kd.C_alloc ?_ _) | (with_reducible refine Kd.C_drewN ?_ _) | (with_reducible refine Kd.C_drew ?_) | exact HR254_6.out)) hb); have n10_ := Aside0.mk (blk_below (g := gb255) (o := .cells #[.string ((rd_T29 t240 x60_3).f0), .int .i64 ((rd_T29 t240 x60_3).f1), .int .i64 ((rd_T29 t240 x60_3).f2), .int .i64 ((rd_T29 t240 x60_3).f3), .bool ((rd_T29 t240 x60_3).f4), .bool ((rd_T29 t240 x60_3).f5), .slice A254_6 ((rd_T29 t240 x60_3).f6).length c254_6] 29 (0, 0)) (by (with_reducible repeat (first | refine bN ?_ _ | refine bD ?_ | refine bA ?_ _)); exact BK255.out) hb); have n11_ := Aside0.mk (below_step (by repeat (first | (with_reducible first | exact HB.out | apply below_alloc | apply pw_below_drewN | apply below_drew1 | refine below_set ?_ GE245.out | refine below_set ?_ GE246.out | refine below_set ?_ GE252.out | refine below_set ?_ GE253.out | refine below_set ?_ GE255.out) | exact HB.out)) hb); have n12_ := Aside0.mk (hbox); have n13_ := Aside0.mk ((by rw [hg]; exact (below_size (by repeat (first | (with_reducible first | exact HB.out | apply below_alloc | apply pw_below_drewN | apply below_drew1 | refine below_set ?_ GE245.out | refine below_set ?_ GE246.out | refine below_set ?_ GE252.out | refine below_set ?_ GE253.out | refine below_set ?_ GE255.out) | exact HB.out))) : w.heap.size ≤ gb266)); have n14_ := Aside0.mk ((by rw [hg]; exact (below_size (by repeat (first | (with_reducible first | exact HB.out | apply below_alloc | apply pw_below_drewN | apply below_drew1 | refine below_set ?_ GE245.out | refine below_set ?_ GE246.out | refine below_set ?_ GE252.out | refine below_set ?_ GE253.out | refine below_set ?_ GE255.out) | exact HB.out))) : w.heap.size ≤ gb266)); have n15_ := Aside0.mk ((by rw [hg]; exact Nat.ne_of_lt (blk_lt (g := gb245) (o := .cells #[.slice (some ad254) t240.length co16] 24 (0, 0)) (by (with_reducible repeat (first | refine bN ?_ _ | refine bD ?_ | refine bA ?_ _)); exact BK245.out)) : gb245 ≠ gb266)); have n16_ := Aside0.mk ((by rw [hg]; exact Nat.ne_of_gt (blk_lt (g := gb245) (o := .cells #[.slice (some ad254) t240.length co16] 24 (0, 0)) (by (with_reducible repeat (first | refine bN ?_ _ | refine bD ?_ | refine bA ?_ _)); exact BK245.out)) : gb266 ≠ gb245)); have n17_ := Aside0.mk ((by rw [hg]; exact Nat.ne_of_lt (blk_lt (g := gb246) (o := .cells #[.int .i64 t243, .int .i64 t244] 48 (0, 0)) (by (with_reducible repeat (first | refine bN ?_ _ | refine bD ?_ | refine bA ?_ _)); exact BK246.out)) : gb246 ≠ gb266)); have n18_ := Aside0.mk ((by rw [hg]; exact Nat.ne_of_gt (blk_lt (g := gb246) (o := .cells #[.int .i64 t243, .int .i64 t244] 48 (0, 0)) (by (with_reducible repeat (first | refine bN ?_ _ | refine bD ?_ | refine bA ?_ _)); exact BK246.out)) : gb266 ≠ gb246)); have n19_ := Aside0.mk ((by rw [hg]; exact Nat.ne_of_lt (blk_lt (g := gb252) (o := .cells #[.slice Ao23 t247.length co23] 24 (0, 0)) (by (with_reducible repeat (first | refine bN ?_ _ | refine bD ?_ | refine bA ?_ _)); exact BK252.out)) : gb252 ≠ gb266)); have n20_ := Aside0.mk ((by rw [hg]; exact Nat.ne_of_gt (blk_lt (g := gb252) (o := .cells #[.slice Ao23 t247.length co23] 24 (0, 0)) (by (with_reducible repeat (first | refine bN ?_ _ | refine bD ?_ | refine bA ?_ _)); exact BK252.out)) : gb266 ≠ gb252)); have n21_ := Aside0.mk ((by rw [hg]; exact Nat.ne_of_lt (blk_lt (g := gb253) (o := .cells #[.int .i64 t250, .int .i64 t251] 48 (0, 0)) (by (with_reducible repeat (first | refine bN ?_ _ | refine bD ?_ | refine bA ?_ _)); exact BK253.out)) : gb253 ≠ gb266)); have n22_ := Aside0.mk ((by rw [hg]; exact Nat.ne_of_gt (blk_lt (g := gb253) (o := .cells #[.int .i64 t250, .int .i64 t251] 48 (0, 0)) (by (with_reducible repeat (first | refine bN ?_ _ | refine bD ?_ | refine bA ?_ _)); exact BK253.out)) : gb266 ≠ gb253)); have n23_ := Aside0.mk ((by rw [hg]; exact Nat.ne_of_lt (blk_lt (g := gb255) (o := .cells #[.string ((rd_T29 t240 x60_3).f0), .int .i64 ((rd_T29 t240 x60_3).f1), .int .i64 ((rd_T29 t240 x60_3).f2), .int .i64 ((rd_T29 t240 x60_3).f3), .bool ((rd_T29 t240 x60_3).f4), .bool ((rd_T29 t240 x60_3).f5), .slice A254_6 ((rd_T29 t240 x60_3).f6).length c254_6] 29 (0, 0)) (by (with_reducible repeat (first | refine bN ?_ _ | refine bD ?_ | refine bA ?_ _)); exact BK255.out)) : gb255 ≠ gb266)); have n24_ := Aside0.mk ((by rw [hg]; exact Nat.ne_of_gt (blk_lt (g := gb255) (o := .cells #[.string ((rd_T29 t240 x60_3).f0), .int .i64 ((rd_T29 t240 x60_3).f1), .int .i64 ((rd_T29 t240 x60_3).f2), .int .i64 ((rd_T29 t240 x60_3).f3), .bool ((rd_T29 t240 x60_3).f4), .bool ((rd_T29 t240 x60_3).f5), .slice A254_6 ((rd_T29 t240 x60_3).f6).length c254_6] 29 (0, 0)) (by (with_reducible repeat (first | refine bN ?_ _ | refine bD ?_ | refine bA ?_ _)); exact BK255.out)) : gb266 ≠ gb255)); clear HO_58; clear HO_246000; clear HO_253000; clear HL254_6; clear HO264; clear BK245; clear BK246; clear BK252; clear BK253; clear HR254_6; clear BK255; clear HB; have HO_58 := n0_; have HO_246000 := n1_; have HO_253000 := n2_; have HL254_6 := n3_; have HO264 := n4_; have BK245 := n5_; have BK246 := n6_; have BK252 := n7_; have BK253 := n8_; have HR254_6 := n9_; have BK255 := n10_; have HB := n11_; have BK266 := n12_; have GW266 := n13_; have GE266 := n14_; have NB245_266 := n15_; have NB266_245 := n16_; have NB246_266 := n17_; have NB266_246 := n18_; have NB252_266 := n19_; have NB266_252 := n20_; have NB253_266 := n21_; have NB266_253 := n22_; have NB255_266 := n23_; have NB266_255 := n24_; clear n0_ n1_ n2_ n3_ n4_ n5_ n6_ n7_ n8_ n9_ n10_ n11_ n12_ n13_ n14_ n15_ n16_ n17_ n18_ n19_ n20_ n21_ n22_ n23_ n24_; clear hb hbox hg; have hnb117 := NB266_245.out; have hnc117 := NB245_266.out; have hnb118 := NB266_246.out; have hnc118 := NB246_266.out; have hnb119 := NB266_252.out; have hnc119 := NB252_266.out; have hnb120 := NB266_253.out; have hnc120 := NB253_266.out; have hnb121 := NB266_255.out; have hnc121 := NB255_266.out; have hcz122_0 : w116.cell? ⟨gb266, 0, none⟩ = some (.string (⟨#[]⟩ : ByteArray)) := (blk_cell BK266.out 0).trans rfl; have hcz122_1 : w116.cell? ⟨gb266, 1, none⟩ = some (.int .i64 0) := (blk_cell BK266.out 1).trans rfl; have hcz122_2 : w116.cell? ⟨gb266, 2, none⟩ = some (.int .i64 0) := (blk_cell BK266.out 2).trans rfl; have hcz122_3 : w116.cell? ⟨gb266, 3, none⟩ = some (.int .i64 0) := (blk_cell BK266.out 3).trans rfl; have hcz122_4 : w116.cell? ⟨gb266, 4, none⟩ = some (.bool false) := (blk_cell BK266.out 4).trans rfl; have hcz122_5 : w116.cell? ⟨gb266, 5, none⟩ = some (.bool false) := (blk_cell BK266.out 5).trans rfl; have hcz122_6 : w116.cell? ⟨gb266, 6, none⟩ = some (.slice none 0 0) := (blk_cell BK266.out 6).trans rfl; have hfz122_0 := blk_frozen BK266.out 0; have hfz122_1 := blk_frozen BK266.out 1; have hfz122_2 := blk_frozen BK266.out 2; have hfz122_3 := blk_frozen BK266.out 3; have hfz122_4 := blk_frozen BK266.out 4; have hfz122_5 := blk_frozen BK266.out 5; have hfz122_6 := blk_frozen BK266.out 6; obtain ⟨Ao123, co123, eo123⟩ := Kd.R_slice HO264.out; subst eo123))
               go_roundg k3
               case measure => have := HJ4.out; have := HJ11.out; have := HK3.out; omega
               case rel => exact ⟨(wrap64 (x60_3 + 1)), (by first | rfl | (simp; done) | (simp [*]; done)), H', ⟨by have := HJ4.out; have := HJ11.out; have := HK3.out; omega⟩, ⟨by (with_reducible repeat (first | apply Kd.V_alloc | apply Kd.V_drewN | apply Kd.V_drew)); exact Kd.V_mono (Kd.V_far (p := ⟨gb266, 6, none⟩) (Kd.V_far (p := ⟨gb266, 5, none⟩) (Kd.V_far (p := ⟨gb266, 4, none⟩) (Kd.V_far (p := ⟨gb266, 3, none⟩) (Kd.V_far (p := ⟨gb266, 2, none⟩) (Kd.V_far (p := ⟨gb266, 1, none⟩) (Kd.V_far (p := ⟨gb266, 0, none⟩) (Kd.V_mono HO_58.out (fun k_ hk => (⟨hk, hk.2⟩ : _ ∧ k_ ≠ gb266))) (fun _ hk => hk.2) (.string t256)) (fun _ hk => hk.2) (.int .i64 t257)) (fun _ hk => hk.2) (.int .i64 t258)) (fun _ hk => hk.2) (.int .i64 t259)) (fun _ hk => hk.2) (.bool t260)) (fun _ hk => hk.2) (.bool t261)) (fun _ hk => hk.2) (.slice Ao123 t262.length co123)) (fun _ hk => ⟨hk.1.1.1.1.1, ⟨hk.1.1.1.1.2.1, ⟨hk.1.1.1.1.2.2.1, hk.1.1.1.1.2.2.2⟩⟩⟩)⟩, ⟨by (with_reducible repeat (first | apply Kd.V_alloc | apply Kd.V_drewN | apply Kd.V_drew)); exact Kd.V_mono (Kd.V_far (p := ⟨gb266, 6, none⟩) (Kd.V_far (p := ⟨gb266, 5, none⟩) (Kd.V_far (p := ⟨gb266, 4, none⟩) (Kd.V_far (p := ⟨gb266, 3, none⟩) (Kd.V_far (p := ⟨gb266, 2, none⟩) (Kd.V_far (p := ⟨gb266, 1, none⟩) (Kd.V_far (p := ⟨gb266, 0, none⟩) (Kd.V_mono HO_246000.out (fun k_ hk => (⟨hk, hk.2⟩ : _ ∧ k_ ≠ gb266))) (fun _ hk => hk.2) (.string t256)) (fun _ hk => hk.2) (.int .i64 t257)) (fun _ hk => hk.2) (.int .i64 t258)) (fun _ hk => hk.2) (.int .i64 t259)) (fun _ hk => hk.2) (.bool t260)) (fun _ hk => hk.2) (.bool t261)) (fun _ hk => hk.2) (.slice Ao123 t262.length co123)) (fun _ hk => ⟨hk.1.1.1.1.1, ⟨hk.1.1.1.1.2.1, ⟨hk.1.1.1.1.2.2.1, hk.1.1.1.1.2.2.2⟩⟩⟩)⟩, ⟨by (with_reducible repeat (first | apply Kd.V_alloc | apply Kd.V_drewN | apply Kd.V_drew)); exact Kd.V_mono (Kd.V_far (p := ⟨gb266, 6, none⟩) (Kd.V_far (p := ⟨gb266, 5, none⟩) (Kd.V_far (p := ⟨gb266, 4, none⟩) (Kd.V_far (p := ⟨gb266, 3, none⟩) (Kd.V_far (p := ⟨gb266, 2, none⟩) (Kd.V_far (p := ⟨gb266, 1, none⟩) (Kd.V_far (p := ⟨gb266, 0, none⟩) (Kd.V_mono HO_253000.out (fun k_ hk => (⟨hk, hk.2⟩ : _ ∧ k_ ≠ gb266))) (fun _ hk => hk.2) (.string t256)) (fun _ hk => hk.2) (.int .i64 t257)) (fun _ hk => hk.2) (.int .i64 t258)) (fun _ hk => hk.2) (.int .i64 t259)) (fun _ hk => hk.2) (.bool t260)) (fun _ hk => hk.2) (.bool t261)) (fun _ hk => hk.2) (.slice Ao123 t262.length co123)) (fun _ hk => ⟨hk.1.1.1.1.1, ⟨hk.1.1.1.1.2.1, ⟨hk.1.1.1.1.2.2.1, hk.1.1.1.1.2.2.2⟩⟩⟩)⟩, ⟨by (with_reducible repeat (first | refine bN ?_ _ | refine bD ?_ | refine bA ?_ _)); refine blk_far ?_ NB245_266.out _; (with_reducible repeat (first | refine bN ?_ _ | refine bD ?_ | refine bA ?_ _)); refine blk_far ?_ NB245_266.out _; (with_reducible repeat (first | refine bN ?_ _ | refine bD ?_ | refine bA ?_ _)); refine blk_far ?_ NB245_266.out _; (with_reducible repeat (first | refine bN ?_ _ | refine bD ?_ | refine bA ?_ _)); refine blk_far ?_ NB245_266.out _; (with_reducible repeat (first | refine bN ?_ _ | refine bD ?_ | refine bA ?_ _)); refine blk_far ?_ NB245_266.out _; (with_reducible repeat (first | refine bN ?_ _ | refine bD ?_ | refine bA ?_ _)); refine blk_far ?_ NB245_266.out _; (with_reducible repeat (first | refine bN ?_ _ | refine bD ?_ | refine bA ?_ _)); refine blk_far ?_ NB245_266.out _; (with_reducible repeat (first | refine bN ?_ _ | refine bD ?_ | refine bA ?_ _)); exact BK245.out⟩, ⟨by (with_reducible repeat (first | refine bN ?_ _ | refine bD ?_ | refine bA ?_ _)); refine blk_far ?_ NB246_266.out _; (with_reducible repeat (first | refine bN ?_ _ | refine bD ?_ | refine bA ?_ _)); refine blk_far ?_ NB246_266.out _; (with_reducible repeat (first | refine bN ?_ _ | refine bD ?_ | refine bA ?_ _)); refine blk_far ?_ NB246_266.out _; (with_reducible repeat (first | refine bN ?_ _ | refine bD ?_ | refine bA ?_ _)); refine blk_far ?_ NB246_266.out _; (with_reducible repeat (first | refine bN ?_ _ | refine bD ?_ | refine bA ?_ _)); refine blk_far ?_ NB246_266.out _; (with_reducible repeat (first | refine bN ?_ _ | refine bD ?_ | refine bA ?_ _)); refine blk_far ?_ NB246_266.out _; (with_reducible repeat (first | refine bN ?_ _ | refine bD ?_ | refine bA ?_ _)); refine blk_far ?_ NB246_266.out _; (with_reducible repeat (first | refine bN ?_ _ | refine bD ?_ | refine bA ?_ _)); exact BK246.out⟩, ⟨by (with_reducible repeat (first | refine bN ?_ _ | refine bD ?_ | refine bA ?_ _)); refine blk_far ?_ NB252_266.out _; (with_reducible repeat (first | refine bN ?_ _ | refine bD ?_ | refine bA ?_ _)); refine blk_far ?_ NB252_266.out _; (with_reducible repeat (first | refine bN ?_ _ | refine bD ?_ | refine bA ?_ _)); refine blk_far ?_ NB252_266.out _; (with_reducible repeat (first | refine bN ?_ _ | refine bD ?_ | refine bA ?_ _)); refine blk_far ?_ NB252_266.out _; (with_reducible repeat (first | refine bN ?_ _ | refine bD ?_ | refine bA ?_ _)); refine blk_far ?_ NB252_266.out _; (with_reducible repeat (first | refine bN ?_ _ | refine bD ?_ | refine bA ?_ _)); refine blk_far ?_ NB252_266.out _; (with_reducible repeat (first | refine bN ?_ _ | refine bD ?_ | refine bA ?_ _)); refine blk_far ?_ NB252_266.out _; (with_reducible repeat (first | refine bN ?_ _ | refine bD ?_ | refine bA ?_ _)); exact BK252.out⟩, ⟨by (with_reducible repeat (first | refine bN ?_ _ | refine bD ?_ | refine bA ?_ _)); refine blk_far ?_ NB253_266.out _; (with_reducible repeat (first | refine bN ?_ _ | refine bD ?_ | refine bA ?_ _)); refine blk_far ?_ NB253_266.out _; (with_reducible repeat (first | refine bN ?_ _ | refine bD ?_ | refine bA ?_ _)); refine blk_far ?_ NB253_266.out _; (with_reducible repeat (first | refine bN ?_ _ | refine bD ?_ | refine bA ?_ _)); refine blk_far ?_ NB253_266.out _; (with_reducible repeat (first | refine bN ?_ _ | refine bD ?_ | refine bA ?_ _)); refine blk_far ?_ NB253_266.out _; (with_reducible repeat (first | refine bN ?_ _ | refine bD ?_ | refine bA ?_ _)); refine blk_far ?_ NB253_266.out _; (with_reducible repeat (first | refine bN ?_ _ | refine bD ?_ | refine bA ?_ _)); refine blk_far ?_ NB253_266.out _; (with_reducible repeat (first | refine bN ?_ _ | refine bD ?_ | refine bA ?_ _)); exact BK253.out⟩, ⟨by repeat (first | (with_reducible first | exact HB.out | apply below_alloc | apply pw_below_drewN | apply below_drew1 | refine below_set ?_ GE245.out | refine below_set ?_ GE246.out | refine below_set ?_ GE252.out | refine below_set ?_ GE253.out | refine below_set ?_ GE255.out | refine below_set ?_ GE266.out) | exact HB.out)⟩⟩
             ·
              rw [if_neg c61] at H
              exact absurd H (by simp)
            ·
             rw [if_neg c60] at H
             exact absurd H (by simp)
           ·
            rw [if_neg c59] at H
            have c59b0 : decide (x60_3 < (t240.length : Int)) = false := decide_eq_false c59
            clear c59
            by_cases c124 : a0.size + 1 ≤ 9223372036854775807
            ·
             rw [if_pos c124] at H
             have c124b0 := eq_true c124
             have c124b1 : decide (a0.size + 1 ≤ 9223372036854775807) = true := decide_eq_true c124
             try have c124b2 : (9223372036854775807 < a0.size + 1) = False := eq_false (Nat.not_lt.2 c124)
             by_cases c125 : (a0 ++ (⟨#[10]⟩ : ByteArray)).size + a1.size ≤ 9223372036854775807
             ·
              rw [if_pos c125] at H
              have c125b0 := eq_true c125
              have c125b1 : decide ((a0 ++ (⟨#[10]⟩ : ByteArray)).size + a1.size ≤ 9223372036854775807) = true := decide_eq_true c125
              try have c125b2 : (9223372036854775807 < (a0 ++ (⟨#[10]⟩ : ByteArray)).size + a1.size) = False := eq_false (Nat.not_lt.2 c125)
              replace H := Option.bind_eq_some_iff.mp H
              obtain ⟨⟨t274, t277, t278⟩, A1260, H⟩ := H
              replace H : ((some (([] : List (S29)) : List (S29))).bind fun y281 => (if y281.length + t240.length < 1954687338268 then ((some (y281 ++ t240 : List (S29))).bind fun y284 => (if y284.length + t247.length < 1954687338268 then (if (t277 == 0 && (t278 == 0)) = true then ((pantrymade_Config.f k3 t274).bind fun t291 => ((pantrymade_Config.f k3 (y284 ++ t247)).bind fun t294 => ((pantryref09_Same.f k3 t291 t294).bind fun t297 => (some t297)))) else (some false)) else (none))) else (none))) = some r := H
              have A126 := Aside0.mk A1260
              clear A1260
              obtain ⟨y281, hy281⟩ : ∃ y_ : List (S29), y_ = (([] : List (S29))) := ⟨_, rfl⟩
              replace H : (if y281.length + t240.length < 1954687338268 then ((some (y281 ++ t240 : List (S29))).bind fun y284 => (if y284.length + t247.length < 1954687338268 then (if (t277 == 0 && (t278 == 0)) = true then ((pantrymade_Config.f k3 t274).bind fun t291 => ((pantrymade_Config.f k3 (y284 ++ t247)).bind fun t294 => ((pantryref09_Same.f k3 t291 t294).bind fun t297 => (some t297)))) else (some false)) else (none))) else (none)) = some r := by first | (rw [hy281]; with_reducible exact H) | (have H2_ := (Option.bind_some _ _).symm.trans H; rw [hy281]; with_reducible exact H2_) | (have H2_ := (Option.bind_some _ _).symm.trans H; with_reducible exact H2_) | with_reducible exact H | (rw [hy281]; exact H) | exact H
              have Ny281 := Aside0.mk hy281
              clear hy281
              by_cases c127 : y281.length + t240.length < 1954687338268
              ·
               rw [if_pos c127] at H
               have LMc127 := Aside0.mk c127
               clear c127
               obtain ⟨y284, hy284⟩ : ∃ y_ : List (S29), y_ = (y281 ++ t240) := ⟨_, rfl⟩
               replace H : (if y284.length + t247.length < 1954687338268 then (if (t277 == 0 && (t278 == 0)) = true then ((pantrymade_Config.f k3 t274).bind fun t291 => ((pantrymade_Config.f k3 (y284 ++ t247)).bind fun t294 => ((pantryref09_Same.f k3 t291 t294).bind fun t297 => (some t297)))) else (some false)) else (none)) = some r := by first | (rw [hy284]; with_reducible exact H) | (have H2_ := (Option.bind_some _ _).symm.trans H; rw [hy284]; with_reducible exact H2_) | (have H2_ := (Option.bind_some _ _).symm.trans H; with_reducible exact H2_) | with_reducible exact H | (rw [hy284]; exact H) | exact H
               have Ny284 := Aside0.mk hy284
               clear hy284
               by_cases c128 : y284.length + t247.length < 1954687338268
               ·
                rw [if_pos c128] at H
                have LMc128 := Aside0.mk c128
                clear c128
                obtain ⟨y287, hy287⟩ : ∃ y_ : List (S29), y_ = (y284 ++ t247) := ⟨_, rfl⟩
                replace H : (if (t277 == 0 && (t278 == 0)) = true then ((pantrymade_Config.f k3 t274).bind fun t291 => ((pantrymade_Config.f k3 y287).bind fun t294 => ((pantryref09_Same.f k3 t291 t294).bind fun t297 => (some t297)))) else (some false)) = some r := by first | (rw [hy287]; with_reducible exact H) | (have H2_ := (Option.bind_some _ _).symm.trans H; rw [hy287]; with_reducible exact H2_) | (have H2_ := (Option.bind_some _ _).symm.trans H; with_reducible exact H2_) | with_reducible exact H | (rw [hy287]; exact H) | exact H
                have Ny287 := Aside0.mk hy287
                clear hy287
                by_cases c129 : (t277 == 0 && (t278 == 0)) = true
                ·
                 rw [if_pos c129] at H
                 have c129b0 : (t277 == 0 && (t278 == 0)) = true := c129
                 (try (have c129b1 : decide (t277 = 0 && (t278 == 0)) = true := by simpa using c129))
                 (try (have c129b2 : (t277 == 0 && (t278 == 0)) = true := by simpa using c129))
                 clear c129
                 replace H := Option.bind_eq_some_iff.mp H
                 obtain ⟨t291, A1300, H⟩ := H
                 replace H : ((pantrymade_Config.f k3 y287).bind fun t294 => ((pantryref09_Same.f k3 t291 t294).bind fun t297 => (some t297))) = some r := H
                 have A130 := Aside0.mk A1300
                 clear A1300
                 replace H := Option.bind_eq_some_iff.mp H
                 obtain ⟨t294, A1310, H⟩ := H
                 replace H : ((pantryref09_Same.f k3 t291 t294).bind fun t297 => (some t297)) = some r := H
                 have A131 := Aside0.mk A1310
                 clear A1310
                 replace H := Option.bind_eq_some_iff.mp H
                 obtain ⟨t297, A1320, H⟩ := H
                 replace H : (some t297) = some r := H
                 have A132 := Aside0.mk A1320
                 clear A1320
                 obtain rfl := Option.some.inj H
                 try go_wp2_with (first | ((with_reducible refine gate_callee (f := 16) rfl ?_); refine goesL_ (some 89) rfl rfl Tryd.func16 (by kernel_rfl) rfl #[.string ((a0 ++ (⟨#[10]⟩ : ByteArray)) ++ a1)] rfl (by (try simp only [List.map_toArray, List.map_cons, List.map_nil]); first | done | rfl | (simp only [List.length_drop, List.length_take]; rfl)) ?_; (with_reducible refine (conf_Read.calls ((a0 ++ (⟨#[10]⟩ : ByteArray)) ++ a1) t274 t277 t278 _ ?side1 A126.out).mono ?_); (case side1 => exact GL.below hG (by repeat (first | (with_reducible first | exact HB.out | apply below_alloc | apply pw_below_drewN | apply below_drew1 | refine below_set ?_ GE245.out | refine below_set ?_ GE246.out | refine below_set ?_ GE252.out | refine below_set ?_ GE253.out) | exact HB.out))); rintro e w133 ⟨v275, rfl, ho0, hb⟩; refine ⟨_, rfl, ?_⟩; have n0_ := Aside0.mk (Kd.V_below (by (with_reducible repeat (first | apply Kd.V_alloc | apply Kd.V_drewN | apply Kd.V_drew)); exact HO_58.out) hb); have n1_ := Aside0.mk (Kd.V_below (by (with_reducible repeat (first | apply Kd.V_alloc | apply Kd.V_drewN | apply Kd.V_drew)); exact HO_246000.out) hb); have n2_ := Aside0.mk (Kd.V_below (by (with_reducible repeat (first | apply Kd.V_alloc | apply Kd.V_drewN | apply Kd.V_drew)); exact HO_253000.out) hb); have n3_ := Aside0.mk (Kd.V_lower (Kd.V_mono (ok' := fun k_ => k_ ≠ gb245 ∧ k_ ≠ gb246 ∧ k_ ≠ gb252 ∧ k_ ≠ gb253) ho0 (fun k_ hk_ => ⟨(Kd.freshB (g := gb245) (o := .cells #[.slice Ao16 t240.length co16] 24 (0, 0)) (by (with_reducible repeat (first | refine bN ?_ _ | refine bD ?_ | refine bA ?_ _)); exact BK245.out) k_ hk_), (Kd.freshB (g := gb246) (o := .cells #[.int .i64 t243, .int .i64 t244] 48 (0, 0)) (by (with_reducible repeat (first | refine bN ?_ _ | refine bD ?_ | refine bA ?_ _)); exact BK246.out) k_ hk_), (Kd.freshB (g := gb252) (o := .cells #[.slice Ao23 t247.length co23] 24 (0, 0)) (by (with_reducible repeat (first | refine bN ?_ _ | refine bD ?_ | refine bA ?_ _)); exact BK252.out) k_ hk_), (Kd.freshB (g := gb253) (o := .cells #[.int .i64 t250, .int .i64 t251] 48 (0, 0)) (by (with_reducible repeat (first | refine bN ?_ _ | refine bD ?_ | refine bA ?_ _)); exact BK253.out) k_ hk_)⟩)) (below_size (by repeat (first | (with_reducible first | exact HB.out | apply below_alloc | apply pw_below_drewN | apply below_drew1 | refine below_set ?_ GE245.out | refine below_set ?_ GE246.out | refine below_set ?_ GE252.out | refine below_set ?_ GE253.out) | exact HB.out)))); have n4_ := Aside0.mk (blk_below (g := gb245) (o := .cells #[.slice Ao16 t240.length co16] 24 (0, 0)) (by (with_reducible repeat (first | refine bN ?_ _ | refine bD ?_ | refine bA ?_ _)); exact BK245.out) hb); have n5_ := Aside0.mk (blk_below (g := gb246) (o := .cells #[.int .i64 t243, .int .i64 t244] 48 (0, 0)) (by (with_reducible repeat (first | refine bN ?_ _ | refine bD ?_ | refine bA ?_ _)); exact BK246.out) hb); have n6_ := Aside0.mk (blk_below (g := gb252) (o := .cells #[.slice Ao23 t247.length co23] 24 (0, 0)) (by (with_reducible repeat (first | refine bN ?_ _ | refine bD ?_ | refine bA ?_ _)); exact BK252.out) hb); have n7_ := Aside0.mk (blk_below (g := gb253) (o := .cells #[.int .i64 t250, .int .i64 t251] 48 (0, 0)) (by (with_reducible repeat (first | refine bN ?_ _ | refine bD ?_ | refine bA ?_ _)); exact BK253.out) hb); have n8_ := Aside0.mk (below_step (by repeat (first | (with_reducible first | exact HB.out | apply below_alloc | apply pw_below_drewN | apply below_drew1 | refine below_set ?_ GE245.out | refine below_set ?_ GE246.out | refine below_set ?_ GE252.out | refine below_set ?_ GE253.out) | exact HB.out)) hb); clear HO_58; clear HO_246000; clear HO_253000; clear BK245; clear BK246; clear BK252; clear BK253; clear HB; have HO_58 := n0_; have HO_246000 := n1_; have HO_253000 := n2_; have HO276 := n3_; have BK245 := n4_; have BK246 := n5_; have BK252 := n6_; have BK253 := n7_; have HB := n8_; clear n0_ n1_ n2_ n3_ n4_ n5_ n6_ n7_ n8_; (try clear hb); (try clear hb2); (try clear hk); (try clear hi); (try clear ho0)) | ((with_reducible refine gate_dst (N := 15) rfl ?_); (try (refine gate_guard (by rfl) ?_; dsimp only)); refine box_event ?hg (N := 15) ?hd (cs := #[.slice none 0 0]) (t := 24) ?hr ?_; (case hd => rfl); (case hg => rfl); (case hr => first | (go_simp; done) | (go_simp; rfl)); intro gb279 hg w134 hbox hb; have n0_ := Aside0.mk (Kd.V_below (Kd.V_elderB (by (with_reducible repeat (first | apply Kd.V_alloc | apply Kd.V_drewN | apply Kd.V_drew)); exact HO_58.out) gb279 (Nat.le_of_eq hg.symm)) hb); have n1_ := Aside0.mk (Kd.V_below (Kd.V_elderB (by (with_reducible repeat (first | apply Kd.V_alloc | apply Kd.V_drewN | apply Kd.V_drew)); exact HO_246000.out) gb279 (Nat.le_of_eq hg.symm)) hb); have n2_ := Aside0.mk (Kd.V_below (Kd.V_elderB (by (with_reducible repeat (first | apply Kd.V_alloc | apply Kd.V_drewN | apply Kd.V_drew)); exact HO_253000.out) gb279 (Nat.le_of_eq hg.symm)) hb); have n3_ := Aside0.mk (Kd.V_below (Kd.V_elderB (by (with_reducible repeat (first | apply Kd.V_alloc | apply Kd.V_drewN | apply Kd.V_drew)); exact HO276.out) gb279 (Nat.le_of_eq hg.symm)) hb); have n4_ := Aside0.mk (blk_below (g := gb245) (o := .cells #[.slice Ao16 t240.length co16] 24 (0, 0)) (by (with_reducible repeat (first | refine bN ?_ _ | refine bD ?_ | refine bA ?_ _)); exact BK245.out) hb); have n5_ := Aside0.mk (blk_below (g := gb246) (o := .cells #[.int .i64 t243, .int .i64 t244] 48 (0, 0)) (by (with_reducible repeat (first | refine bN ?_ _ | refine bD ?_ | refine bA ?_ _)); exact BK246.out) hb); have n6_ := Aside0.mk (blk_below (g := gb252) (o := .cells #[.slice Ao23 t247.length co23] 24 (0, 0)) (by (with_reducible repeat (first | refine bN ?_ _ | refine bD ?_ | refine bA ?_ _)); exact BK252.out) hb); have n7_ := Aside0.mk (blk_below (g := gb253) (o := .cells #[.int .i64 t250, .int .i64 t251] 48 (0, 0)) (by (with_reducible repeat (first | refine bN ?_ _ | refine bD ?_ | refine bA ?_ _)); exact BK253.out) hb); have n8_ := Aside0.mk (below_step (by repeat (first | (with_reducible first | exact HB.out | apply below_alloc | apply pw_below_drewN | apply below_drew1 | refine below_set ?_ GE245.out | refine below_set ?_ GE246.out | refine below_set ?_ GE252.out | refine below_set ?_ GE253.out) | exact HB.out)) hb); have n9_ := Aside0.mk (hbox); have n10_ := Aside0.mk ((by rw [hg]; exact (below_size (by repeat (first | (with_reducible first | exact HB.out | apply below_alloc | apply pw_below_drewN | apply below_drew1 | refine below_set ?_ GE245.out | refine below_set ?_ GE246.out | refine below_set ?_ GE252.out | refine below_set ?_ GE253.out) | exact HB.out))) : w.heap.size ≤ gb279)); have n11_ := Aside0.mk ((by rw [hg]; exact (below_size (by repeat (first | (with_reducible first | exact HB.out | apply below_alloc | apply pw_below_drewN | apply below_drew1 | refine below_set ?_ GE245.out | refine below_set ?_ GE246.out | refine below_set ?_ GE252.out | refine below_set ?_ GE253.out) | exact HB.out))) : w.heap.size ≤ gb279)); have n12_ := Aside0.mk ((by rw [hg]; exact Nat.ne_of_lt (blk_lt (g := gb245) (o := .cells #[.slice Ao16 t240.length co16] 24 (0, 0)) (by (with_reducible repeat (first | refine bN ?_ _ | refine bD ?_ | refine bA ?_ _)); exact BK245.out)) : gb245 ≠ gb279)); have n13_ := Aside0.mk ((by rw [hg]; exact Nat.ne_of_gt (blk_lt (g := gb245) (o := .cells #[.slice Ao16 t240.length co16] 24 (0, 0)) (by (with_reducible repeat (first | refine bN ?_ _ | refine bD ?_ | refine bA ?_ _)); exact BK245.out)) : gb279 ≠ gb245)); have n14_ := Aside0.mk ((by rw [hg]; exact Nat.ne_of_lt (blk_lt (g := gb246) (o := .cells #[.int .i64 t243, .int .i64 t244] 48 (0, 0)) (by (with_reducible repeat (first | refine bN ?_ _ | refine bD ?_ | refine bA ?_ _)); exact BK246.out)) : gb246 ≠ gb279)); have n15_ := Aside0.mk ((by rw [hg]; exact Nat.ne_of_gt (blk_lt (g := gb246) (o := .cells #[.int .i64 t243, .int .i64 t244] 48 (0, 0)) (by (with_reducible repeat (first | refine bN ?_ _ | refine bD ?_ | refine bA ?_ _)); exact BK246.out)) : gb279 ≠ gb246)); have n16_ := Aside0.mk ((by rw [hg]; exact Nat.ne_of_lt (blk_lt (g := gb252) (o := .cells #[.slice Ao23 t247.length co23] 24 (0, 0)) (by (with_reducible repeat (first | refine bN ?_ _ | refine bD ?_ | refine bA ?_ _)); exact BK252.out)) : gb252 ≠ gb279)); have n17_ := Aside0.mk ((by rw [hg]; exact Nat.ne_of_gt (blk_lt (g := gb252) (o := .cells #[.slice Ao23 t247.length co23] 24 (0, 0)) (by (with_reducible repeat (first | refine bN ?_ _ | refine bD ?_ | refine bA ?_ _)); exact BK252.out)) : gb279 ≠ gb252)); have n18_ := Aside0.mk ((by rw [hg]; exact Nat.ne_of_lt (blk_lt (g := gb253) (o := .cells #[.int .i64 t250, .int .i64 t251] 48 (0, 0)) (by (with_reducible repeat (first | refine bN ?_ _ | refine bD ?_ | refine bA ?_ _)); exact BK253.out)) : gb253 ≠ gb279)); have n19_ := Aside0.mk ((by rw [hg]; exact Nat.ne_of_gt (blk_lt (g := gb253) (o := .cells #[.int .i64 t250, .int .i64 t251] 48 (0, 0)) (by (with_reducible repeat (first | refine bN ?_ _ | refine bD ?_ | refine bA ?_ _)); exact BK253.out)) : gb279 ≠ gb253)); clear HO_58; clear HO_246000; clear HO_253000; clear HO276; clear BK245; clear BK246; clear BK252; clear BK253; clear HB; have HO_58 := n0_; have HO_246000 := n1_; have HO_253000 := n2_; have HO276 := n3_; have BK245 := n4_; have BK246 := n5_; have BK252 := n6_; have BK253 := n7_; have HB := n8_; have BK279 := n9_; have GW279 := n10_; have GE279 := n11_; have NB245_279 := n12_; have NB279_245 := n13_; have NB246_279 := n14_; have NB279_246 := n15_; have NB252_279 := n16_; have NB279_252 := n17_; have NB253_279 := n18_; have NB279_253 := n19_; clear n0_ n1_ n2_ n3_ n4_ n5_ n6_ n7_ n8_ n9_ n10_ n11_ n12_ n13_ n14_ n15_ n16_ n17_ n18_ n19_; clear hb hbox hg) | ((with_reducible refine gate_dst (N := 16) rfl ?_); (try (refine gate_guard (by rfl) ?_; dsimp only)); refine box_event ?hg (N := 16) ?hd (cs := #[.int .i64 0, .int .i64 0]) (t := 48) ?hr ?_; (case hd => rfl); (case hg => rfl); (case hr => first | (go_simp; done) | (go_simp; rfl)); intro gb280 hg w135 hbox hb; have n0_ := Aside0.mk (Kd.V_below (Kd.V_elderB (by (with_reducible repeat (first | apply Kd.V_alloc | apply Kd.V_drewN | apply Kd.V_drew)); exact HO_58.out) gb280 (Nat.le_of_eq hg.symm)) hb); have n1_ := Aside0.mk (Kd.V_below (Kd.V_elderB (by (with_reducible repeat (first | apply Kd.V_alloc | apply Kd.V_drewN | apply Kd.V_drew)); exact HO_246000.out) gb280 (Nat.le_of_eq hg.symm)) hb); have n2_ := Aside0.mk (Kd.V_below (Kd.V_elderB (by (with_reducible repeat (first | apply Kd.V_alloc | apply Kd.V_drewN | apply Kd.V_drew)); exact HO_253000.out) gb280 (Nat.le_of_eq hg.symm)) hb); have n3_ := Aside0.mk (Kd.V_below (Kd.V_elderB (by (with_reducible repeat (first | apply Kd.V_alloc | apply Kd.V_drewN | apply Kd.V_drew)); exact HO276.out) gb280 (Nat.le_of_eq hg.symm)) hb); have n4_ := Aside0.mk (blk_below (g := gb245) (o := .cells #[.slice Ao16 t240.length co16] 24 (0, 0)) (by (with_reducible repeat (first | refine bN ?_ _ | refine bD ?_ | refine bA ?_ _)); exact BK245.out) hb); have n5_ := Aside0.mk (blk_below (g := gb246) (o := .cells #[.int .i64 t243, .int .i64 t244] 48 (0, 0)) (by (with_reducible repeat (first | refine bN ?_ _ | refine bD ?_ | refine bA ?_ _)); exact BK246.out) hb); have n6_ := Aside0.mk (blk_below (g := gb252) (o := .cells #[.slice Ao23 t247.length co23] 24 (0, 0)) (by (with_reducible repeat (first | refine bN ?_ _ | refine bD ?_ | refine bA ?_ _)); exact BK252.out) hb); have n7_ := Aside0.mk (blk_below (g := gb253) (o := .cells #[.int .i64 t250, .int .i64 t251] 48 (0, 0)) (by (with_reducible repeat (first | refine bN ?_ _ | refine bD ?_ | refine bA ?_ _)); exact BK253.out) hb); have n8_ := Aside0.mk (blk_below (g := gb279) (o := .cells #[.slice none 0 0] 24 (0, 0)) (by (with_reducible repeat (first | refine bN ?_ _ | refine bD ?_ | refine bA ?_ _)); exact BK279.out) hb); have n9_ := Aside0.mk (below_step (by repeat (first | (with_reducible first | exact HB.out | apply below_alloc | apply pw_below_drewN | apply below_drew1 | refine below_set ?_ GE245.out | refine below_set ?_ GE246.out | refine below_set ?_ GE252.out | refine below_set ?_ GE253.out | refine below_set ?_ GE279.out) | exact HB.out)) hb); have n10_ := Aside0.mk (hbox); have n11_ := Aside0.mk ((by rw [hg]; exact (below_size (by repeat (first | (with_reducible first | exact HB.out | apply below_alloc | apply pw_below_drewN | apply below_drew1 | refine below_set ?_ GE245.out | refine below_set ?_ GE246.out | refine below_set ?_ GE252.out | refine below_set ?_ GE253.out | refine below_set ?_ GE279.out) | exact HB.out))) : w.heap.size ≤ gb280)); have n12_ := Aside0.mk ((by rw [hg]; exact (below_size (by repeat (first | (with_reducible first | exact HB.out | apply below_alloc | apply pw_below_drewN | apply below_drew1 | refine below_set ?_ GE245.out | refine below_set ?_ GE246.out | refine below_set ?_ GE252.out | refine below_set ?_ GE253.out | refine below_set ?_ GE279.out) | exact HB.out))) : w.heap.size ≤ gb280)); have n13_ := Aside0.mk ((by rw [hg]; exact Nat.ne_of_lt (blk_lt (g := gb245) (o := .cells #[.slice Ao16 t240.length co16] 24 (0, 0)) (by (with_reducible repeat (first | refine bN ?_ _ | refine bD ?_ | refine bA ?_ _)); exact BK245.out)) : gb245 ≠ gb280)); have n14_ := Aside0.mk ((by rw [hg]; exact Nat.ne_of_gt (blk_lt (g := gb245) (o := .cells #[.slice Ao16 t240.length co16] 24 (0, 0)) (by (with_reducible repeat (first | refine bN ?_ _ | refine bD ?_ | refine bA ?_ _)); exact BK245.out)) : gb280 ≠ gb245)); have n15_ := Aside0.mk ((by rw [hg]; exact Nat.ne_of_lt (blk_lt (g := gb246) (o := .cells #[.int .i64 t243, .int .i64 t244] 48 (0, 0)) (by (with_reducible repeat (first | refine bN ?_ _ | refine bD ?_ | refine bA ?_ _)); exact BK246.out)) : gb246 ≠ gb280)); have n16_ := Aside0.mk ((by rw [hg]; exact Nat.ne_of_gt (blk_lt (g := gb246) (o := .cells #[.int .i64 t243, .int .i64 t244] 48 (0, 0)) (by (with_reducible repeat (first | refine bN ?_ _ | refine bD ?_ | refine bA ?_ _)); exact BK246.out)) : gb280 ≠ gb246)); have n17_ := Aside0.mk ((by rw [hg]; exact Nat.ne_of_lt (blk_lt (g := gb252) (o := .cells #[.slice Ao23 t247.length co23] 24 (0, 0)) (by (with_reducible repeat (first | refine bN ?_ _ | refine bD ?_ | refine bA ?_ _)); exact BK252.out)) : gb252 ≠ gb280)); have n18_ := Aside0.mk ((by rw [hg]; exact Nat.ne_of_gt (blk_lt (g := gb252) (o := .cells #[.slice Ao23 t247.length co23] 24 (0, 0)) (by (with_reducible repeat (first | refine bN ?_ _ | refine bD ?_ | refine bA ?_ _)); exact BK252.out)) : gb280 ≠ gb252)); have n19_ := Aside0.mk ((by rw [hg]; exact Nat.ne_of_lt (blk_lt (g := gb253) (o := .cells #[.int .i64 t250, .int .i64 t251] 48 (0, 0)) (by (with_reducible repeat (first | refine bN ?_ _ | refine bD ?_ | refine bA ?_ _)); exact BK253.out)) : gb253 ≠ gb280)); have n20_ := Aside0.mk ((by rw [hg]; exact Nat.ne_of_gt (blk_lt (g := gb253) (o := .cells #[.int .i64 t250, .int .i64 t251] 48 (0, 0)) (by (with_reducible repeat (first | refine bN ?_ _ | refine bD ?_ | refine bA ?_ _)); exact BK253.out)) : gb280 ≠ gb253)); have n21_ := Aside0.mk ((by rw [hg]; exact Nat.ne_of_lt (blk_lt (g := gb279) (o := .cells #[.slice none 0 0] 24 (0, 0)) (by (with_reducible repeat (first | refine bN ?_ _ | refine bD ?_ | refine bA ?_ _)); exact BK279.out)) : gb279 ≠ gb280)); have n22_ := Aside0.mk ((by rw [hg]; exact Nat.ne_of_gt (blk_lt (g := gb279) (o := .cells #[.slice none 0 0] 24 (0, 0)) (by (with_reducible repeat (first | refine bN ?_ _ | refine bD ?_ | refine bA ?_ _)); exact BK279.out)) : gb280 ≠ gb279)); clear HO_58; clear HO_246000; clear HO_253000; clear HO276; clear BK245; clear BK246; clear BK252; clear BK253; clear BK279; clear HB; have HO_58 := n0_; have HO_246000 := n1_; have HO_253000 := n2_; have HO276 := n3_; have BK245 := n4_; have BK246 := n5_; have BK252 := n6_; have BK253 := n7_; have BK279 := n8_; have HB := n9_; have BK280 := n10_; have GW280 := n11_; have GE280 := n12_; have NB245_280 := n13_; have NB280_245 := n14_; have NB246_280 := n15_; have NB280_246 := n16_; have NB252_280 := n17_; have NB280_252 := n18_; have NB253_280 := n19_; have NB280_253 := n20_; have NB279_280 := n21_; have NB280_279 := n22_; clear n0_ n1_ n2_ n3_ n4_ n5_ n6_ n7_ n8_ n9_ n10_ n11_ n12_ n13_ n14_ n15_ n16_ n17_ n18_ n19_ n20_ n21_ n22_; clear hb hbox hg; obtain ⟨Ao136, co136, eo136⟩ := Kd.V_slice HO276.out; subst eo136; have hnb137 := NB279_245.out; have hnc137 := NB245_279.out; have hnb138 := NB279_246.out; have hnc138 := NB246_279.out; have hnb139 := NB279_252.out; have hnc139 := NB252_279.out; have hnb140 := NB279_253.out; have hnc140 := NB253_279.out; have hnb141 := NB279_280.out; have hnc141 := NB280_279.out; have hcz142_0 : w135.cell? ⟨gb279, 0, none⟩ = some (.slice none 0 0) := (blk_cell BK279.out 0).trans rfl; have hfz142_0 := blk_frozen BK279.out 0; have hnb143 := NB280_245.out; have hnc143 := NB245_280.out; have hnb144 := NB280_246.out; have hnc144 := NB246_280.out; have hnb145 := NB280_252.out; have hnc145 := NB252_280.out; have hnb146 := NB280_253.out; have hnc146 := NB253_280.out; have hcz147_0 : w135.cell? ⟨gb280, 0, none⟩ = some (.int .i64 0) := (blk_cell BK280.out 0).trans rfl; have hcz147_1 : w135.cell? ⟨gb280, 1, none⟩ = some (.int .i64 0) := (blk_cell BK280.out 1).trans rfl; have hfz147_0 := blk_frozen BK280.out 0; have hfz147_1 := blk_frozen BK280.out 1))
                 have n0_ : Aside0 (Kd.V k29 29 (((w135.setCell ⟨gb279, 0, none⟩ (.slice Ao136 t274.length co136)).setCell ⟨gb280, 0, none⟩ (.int .i64 t277)).setCell ⟨gb280, 1, none⟩ (.int .i64 t278)) w.heap.size (fun k_ => k_ ≠ gb245 ∧ k_ ≠ gb246 ∧ k_ ≠ gb252 ∧ k_ ≠ gb253 ∧ k_ ≠ gb279 ∧ k_ ≠ gb280) (.slice Ao16 t240.length co16) t240) := ⟨by (with_reducible repeat (first | apply Kd.V_alloc | apply Kd.V_drewN | apply Kd.V_drew)); exact Kd.V_mono (Kd.V_far (p := ⟨gb280, 1, none⟩) (Kd.V_far (p := ⟨gb280, 0, none⟩) (Kd.V_far (p := ⟨gb279, 0, none⟩) (Kd.V_mono (Kd.V_mono HO_58.out (fun k_ hk => (⟨hk, hk.1.2⟩ : _ ∧ k_ ≠ gb279))) (fun k_ hk => (⟨hk, hk.1.2⟩ : _ ∧ k_ ≠ gb280))) (fun _ hk => hk.1.2) (.slice Ao136 t274.length co136)) (fun _ hk => hk.2) (.int .i64 t277)) (fun _ hk => hk.2) (.int .i64 t278)) (fun _ hk => ⟨hk.1.1.1.1.1, ⟨hk.1.1.1.1.2.1, ⟨hk.1.1.1.1.2.2.1, ⟨hk.1.1.1.1.2.2.2, ⟨hk.1.1.1.2, hk.1.1.2⟩⟩⟩⟩⟩)⟩
                 have n1_ : Aside0 (Kd.V k29 29 (((w135.setCell ⟨gb279, 0, none⟩ (.slice Ao136 t274.length co136)).setCell ⟨gb280, 0, none⟩ (.int .i64 t277)).setCell ⟨gb280, 1, none⟩ (.int .i64 t278)) w.heap.size (fun k_ => k_ ≠ gb245 ∧ k_ ≠ gb246 ∧ k_ ≠ gb252 ∧ k_ ≠ gb253 ∧ k_ ≠ gb279 ∧ k_ ≠ gb280) (.slice Ao16 t240.length co16) t240) := ⟨by (with_reducible repeat (first | apply Kd.V_alloc | apply Kd.V_drewN | apply Kd.V_drew)); exact Kd.V_mono (Kd.V_far (p := ⟨gb280, 1, none⟩) (Kd.V_far (p := ⟨gb280, 0, none⟩) (Kd.V_far (p := ⟨gb279, 0, none⟩) (Kd.V_mono (Kd.V_mono HO_246000.out (fun k_ hk => (⟨hk, hk.1.2⟩ : _ ∧ k_ ≠ gb279))) (fun k_ hk => (⟨hk, hk.1.2⟩ : _ ∧ k_ ≠ gb280))) (fun _ hk => hk.1.2) (.slice Ao136 t274.length co136)) (fun _ hk => hk.2) (.int .i64 t277)) (fun _ hk => hk.2) (.int .i64 t278)) (fun _ hk => ⟨hk.1.1.1.1.1, ⟨hk.1.1.1.1.2.1, ⟨hk.1.1.1.1.2.2.1, ⟨hk.1.1.1.1.2.2.2, ⟨hk.1.1.1.2, hk.1.1.2⟩⟩⟩⟩⟩)⟩
                 have n2_ : Aside0 (Kd.V k29 29 (((w135.setCell ⟨gb279, 0, none⟩ (.slice Ao136 t274.length co136)).setCell ⟨gb280, 0, none⟩ (.int .i64 t277)).setCell ⟨gb280, 1, none⟩ (.int .i64 t278)) w.heap.size (fun k_ => k_ ≠ gb245 ∧ k_ ≠ gb246 ∧ k_ ≠ gb252 ∧ k_ ≠ gb253 ∧ k_ ≠ gb279 ∧ k_ ≠ gb280) (.slice Ao23 t247.length co23) t247) := ⟨by (with_reducible repeat (first | apply Kd.V_alloc | apply Kd.V_drewN | apply Kd.V_drew)); exact Kd.V_mono (Kd.V_far (p := ⟨gb280, 1, none⟩) (Kd.V_far (p := ⟨gb280, 0, none⟩) (Kd.V_far (p := ⟨gb279, 0, none⟩) (Kd.V_mono (Kd.V_mono HO_253000.out (fun k_ hk => (⟨hk, hk.1.2⟩ : _ ∧ k_ ≠ gb279))) (fun k_ hk => (⟨hk, hk.1.2⟩ : _ ∧ k_ ≠ gb280))) (fun _ hk => hk.1.2) (.slice Ao136 t274.length co136)) (fun _ hk => hk.2) (.int .i64 t277)) (fun _ hk => hk.2) (.int .i64 t278)) (fun _ hk => ⟨hk.1.1.1.1.1, ⟨hk.1.1.1.1.2.1, ⟨hk.1.1.1.1.2.2.1, ⟨hk.1.1.1.1.2.2.2, ⟨hk.1.1.1.2, hk.1.1.2⟩⟩⟩⟩⟩)⟩
                 have n3_ : Aside0 (Kd.V k29 29 (((w135.setCell ⟨gb279, 0, none⟩ (.slice Ao136 t274.length co136)).setCell ⟨gb280, 0, none⟩ (.int .i64 t277)).setCell ⟨gb280, 1, none⟩ (.int .i64 t278)) w.heap.size (fun k_ => k_ ≠ gb245 ∧ k_ ≠ gb246 ∧ k_ ≠ gb252 ∧ k_ ≠ gb253 ∧ k_ ≠ gb279 ∧ k_ ≠ gb280) (.slice Ao136 t274.length co136) t274) := ⟨by (with_reducible repeat (first | apply Kd.V_alloc | apply Kd.V_drewN | apply Kd.V_drew)); exact Kd.V_mono (Kd.V_far (p := ⟨gb280, 1, none⟩) (Kd.V_far (p := ⟨gb280, 0, none⟩) (Kd.V_far (p := ⟨gb279, 0, none⟩) (Kd.V_mono (Kd.V_mono HO276.out (fun k_ hk => (⟨hk, hk.1.2⟩ : _ ∧ k_ ≠ gb279))) (fun k_ hk => (⟨hk, hk.1.2⟩ : _ ∧ k_ ≠ gb280))) (fun _ hk => hk.1.2) (.slice Ao136 t274.length co136)) (fun _ hk => hk.2) (.int .i64 t277)) (fun _ hk => hk.2) (.int .i64 t278)) (fun _ hk => ⟨hk.1.1.1.1.1, ⟨hk.1.1.1.1.2.1, ⟨hk.1.1.1.1.2.2.1, ⟨hk.1.1.1.1.2.2.2, ⟨hk.1.1.1.2, hk.1.1.2⟩⟩⟩⟩⟩)⟩
                 have n4_ : Aside0 ((((w135.setCell ⟨gb279, 0, none⟩ (.slice Ao136 t274.length co136)).setCell ⟨gb280, 0, none⟩ (.int .i64 t277)).setCell ⟨gb280, 1, none⟩ (.int .i64 t278)).heap[gb245]? = some (.cells #[.slice Ao16 t240.length co16] 24 (0, 0))) := ⟨by (with_reducible repeat (first | refine bN ?_ _ | refine bD ?_ | refine bA ?_ _)); refine blk_far ?_ NB245_280.out _; (with_reducible repeat (first | refine bN ?_ _ | refine bD ?_ | refine bA ?_ _)); refine blk_far ?_ NB245_280.out _; (with_reducible repeat (first | refine bN ?_ _ | refine bD ?_ | refine bA ?_ _)); refine blk_far ?_ NB245_279.out _; (with_reducible repeat (first | refine bN ?_ _ | refine bD ?_ | refine bA ?_ _)); exact BK245.out⟩
                 have n5_ : Aside0 ((((w135.setCell ⟨gb279, 0, none⟩ (.slice Ao136 t274.length co136)).setCell ⟨gb280, 0, none⟩ (.int .i64 t277)).setCell ⟨gb280, 1, none⟩ (.int .i64 t278)).heap[gb246]? = some (.cells #[.int .i64 t243, .int .i64 t244] 48 (0, 0))) := ⟨by (with_reducible repeat (first | refine bN ?_ _ | refine bD ?_ | refine bA ?_ _)); refine blk_far ?_ NB246_280.out _; (with_reducible repeat (first | refine bN ?_ _ | refine bD ?_ | refine bA ?_ _)); refine blk_far ?_ NB246_280.out _; (with_reducible repeat (first | refine bN ?_ _ | refine bD ?_ | refine bA ?_ _)); refine blk_far ?_ NB246_279.out _; (with_reducible repeat (first | refine bN ?_ _ | refine bD ?_ | refine bA ?_ _)); exact BK246.out⟩
                 have n6_ : Aside0 ((((w135.setCell ⟨gb279, 0, none⟩ (.slice Ao136 t274.length co136)).setCell ⟨gb280, 0, none⟩ (.int .i64 t277)).setCell ⟨gb280, 1, none⟩ (.int .i64 t278)).heap[gb252]? = some (.cells #[.slice Ao23 t247.length co23] 24 (0, 0))) := ⟨by (with_reducible repeat (first | refine bN ?_ _ | refine bD ?_ | refine bA ?_ _)); refine blk_far ?_ NB252_280.out _; (with_reducible repeat (first | refine bN ?_ _ | refine bD ?_ | refine bA ?_ _)); refine blk_far ?_ NB252_280.out _; (with_reducible repeat (first | refine bN ?_ _ | refine bD ?_ | refine bA ?_ _)); refine blk_far ?_ NB252_279.out _; (with_reducible repeat (first | refine bN ?_ _ | refine bD ?_ | refine bA ?_ _)); exact BK252.out⟩
                 have n7_ : Aside0 ((((w135.setCell ⟨gb279, 0, none⟩ (.slice Ao136 t274.length co136)).setCell ⟨gb280, 0, none⟩ (.int .i64 t277)).setCell ⟨gb280, 1, none⟩ (.int .i64 t278)).heap[gb253]? = some (.cells #[.int .i64 t250, .int .i64 t251] 48 (0, 0))) := ⟨by (with_reducible repeat (first | refine bN ?_ _ | refine bD ?_ | refine bA ?_ _)); refine blk_far ?_ NB253_280.out _; (with_reducible repeat (first | refine bN ?_ _ | refine bD ?_ | refine bA ?_ _)); refine blk_far ?_ NB253_280.out _; (with_reducible repeat (first | refine bN ?_ _ | refine bD ?_ | refine bA ?_ _)); refine blk_far ?_ NB253_279.out _; (with_reducible repeat (first | refine bN ?_ _ | refine bD ?_ | refine bA ?_ _)); exact BK253.out⟩
                 have n8_ : Aside0 ((((w135.setCell ⟨gb279, 0, none⟩ (.slice Ao136 t274.length co136)).setCell ⟨gb280, 0, none⟩ (.int .i64 t277)).setCell ⟨gb280, 1, none⟩ (.int .i64 t278)).heap[gb279]? = some (.cells #[.slice Ao136 t274.length co136] 24 (0, 0))) := ⟨by (with_reducible repeat (first | refine bN ?_ _ | refine bD ?_ | refine bA ?_ _)); refine blk_far ?_ NB279_280.out _; (with_reducible repeat (first | refine bN ?_ _ | refine bD ?_ | refine bA ?_ _)); refine blk_far ?_ NB279_280.out _; (with_reducible repeat (first | refine bN ?_ _ | refine bD ?_ | refine bA ?_ _)); refine blk_put (cs := #[.slice none 0 0]) ?_ 0 _ rfl; (with_reducible repeat (first | refine bN ?_ _ | refine bD ?_ | refine bA ?_ _)); exact BK279.out⟩
                 have n9_ : Aside0 ((((w135.setCell ⟨gb279, 0, none⟩ (.slice Ao136 t274.length co136)).setCell ⟨gb280, 0, none⟩ (.int .i64 t277)).setCell ⟨gb280, 1, none⟩ (.int .i64 t278)).heap[gb280]? = some (.cells #[.int .i64 t277, .int .i64 t278] 48 (0, 0))) := ⟨by (with_reducible repeat (first | refine bN ?_ _ | refine bD ?_ | refine bA ?_ _)); refine blk_put (cs := #[.int .i64 t277, .int .i64 0]) ?_ 1 _ rfl; (with_reducible repeat (first | refine bN ?_ _ | refine bD ?_ | refine bA ?_ _)); refine blk_put (cs := #[.int .i64 0, .int .i64 0]) ?_ 0 _ rfl; (with_reducible repeat (first | refine bN ?_ _ | refine bD ?_ | refine bA ?_ _)); refine blk_far ?_ NB280_279.out _; (with_reducible repeat (first | refine bN ?_ _ | refine bD ?_ | refine bA ?_ _)); exact BK280.out⟩
                 have n10_ : Aside0 (Below w.heap.size w (((w135.setCell ⟨gb279, 0, none⟩ (.slice Ao136 t274.length co136)).setCell ⟨gb280, 0, none⟩ (.int .i64 t277)).setCell ⟨gb280, 1, none⟩ (.int .i64 t278))) := ⟨by repeat (first | (with_reducible first | exact HB.out | apply below_alloc | apply pw_below_drewN | apply below_drew1 | refine below_set ?_ GE245.out | refine below_set ?_ GE246.out | refine below_set ?_ GE252.out | refine below_set ?_ GE253.out | refine below_set ?_ GE279.out | refine below_set ?_ GE280.out) | exact HB.out)⟩
                 (try clear HO_58)
                 (try clear HO_246000)
                 (try clear HO_253000)
                 (try clear HO276)
                 (try clear BK245)
                 (try clear BK246)
                 (try clear BK252)
                 (try clear BK253)
                 (try clear BK279)
                 (try clear BK280)
                 (try clear HB)
                 generalize (((w135.setCell ⟨gb279, 0, none⟩ (.slice Ao136 t274.length co136)).setCell ⟨gb280, 0, none⟩ (.int .i64 t277)).setCell ⟨gb280, 1, none⟩ (.int .i64 t278)) = w148 at n0_ n1_ n2_ n3_ n4_ n5_ n6_ n7_ n8_ n9_ n10_ ⊢
                 have HO_58 := n0_
                 have HO_246000 := n1_
                 have HO_253000 := n2_
                 have HO276 := n3_
                 have BK245 := n4_
                 have BK246 := n5_
                 have BK252 := n6_
                 have BK253 := n7_
                 have BK279 := n8_
                 have BK280 := n9_
                 have HB := n10_
                 clear n0_ n1_ n2_ n3_ n4_ n5_ n6_ n7_ n8_ n9_ n10_
                 have n0_ := Aside0.mk (Kd.V_drew HO_58.out)
                 have n1_ := Aside0.mk (Kd.V_drew HO_246000.out)
                 have n2_ := Aside0.mk (Kd.V_drew HO_253000.out)
                 have n3_ := Aside0.mk (Kd.V_drew HO276.out)
                 have n4_ := Aside0.mk (bD BK245.out)
                 have n5_ := Aside0.mk (bD BK246.out)
                 have n6_ := Aside0.mk (bD BK252.out)
                 have n7_ := Aside0.mk (bD BK253.out)
                 have n8_ := Aside0.mk (bD BK279.out)
                 have n9_ := Aside0.mk (bD BK280.out)
                 have n10_ := Aside0.mk (below_drew1 HB.out)
                 clear HO_58
                 clear HO_246000
                 clear HO_253000
                 clear HO276
                 clear BK245
                 clear BK246
                 clear BK252
                 clear BK253
                 clear BK279
                 clear BK280
                 clear HB
                 have HO_58 := n0_
                 have HO_246000 := n1_
                 have HO_253000 := n2_
                 have HO276 := n3_
                 have BK245 := n4_
                 have BK246 := n5_
                 have BK252 := n6_
                 have BK253 := n7_
                 have BK279 := n8_
                 have BK280 := n9_
                 have HB := n10_
                 clear n0_ n1_ n2_ n3_ n4_ n5_ n6_ n7_ n8_ n9_ n10_
                 refine start_ (n := 10) (S := fun w' => w'.cell? ⟨gb245, 0, none⟩ = some (.slice Ao16 t240.length co16) ∧ w'.cell? ⟨gb252, 0, none⟩ = some (.slice Ao23 t247.length co23)) (ds := []) #[false, false, false, false, false, false, false, false, false, false] (by kernel_rfl) rfl rfl ⟨(blk_cell BK245.out 0).trans rfl, (blk_cell BK252.out 0).trans rfl⟩ (fun hHeld => ?_); refine with_tabW cRA.tab18 cRA.bits18 (fun HT_ HW_ => ?_)
                 generalize w148.drew = w149 at HO_58 HO_246000 HO_253000 HO276 BK245 BK246 BK252 BK253 BK279 BK280 HB hHeld ⊢
                 refine pure_ (i := 1) (N := some 93) (v := ?_) (a' := ?_) #[false, true, false, false, false, false, false, false, false, false] rfl rfl (any_of HT_.out (by kernel_rfl)) (fun _ _ _ h => h) (Or.inl ⟨by rfl, ?_⟩) ?_ ?_
                 rotate_left
                 ·
                  intro w'
                  go_simp
                  with_reducible rfl
                 rotate_left
                 ·
                  simp only [Act.put, List.setIfInBounds_toArray, List.set_cons_zero, List.set_cons_succ, i64_w, i32_w]
                  rfl
                 refine pure_ (i := 4) (N := some 96) (v := ?_) (a' := ?_) #[false, true, false, false, true, false, false, false, false, false] rfl rfl (any_of HT_.out (by kernel_rfl)) (fun _ _ _ h => h) (Or.inl ⟨by rfl, ?_⟩) ?_ ?_
                 rotate_left
                 ·
                  intro w'
                  go_simp
                  with_reducible rfl
                 rotate_left
                 ·
                  simp only [Act.put, List.setIfInBounds_toArray, List.set_cons_zero, List.set_cons_succ, i64_w, i32_w]
                  rfl
                 refine take_ (i := 2) (N := some 94) (v := ?_) (a' := ?_) #[false, true, true, false, true, false, false, false, false, false] rfl rfl (take_ofW HT_.out HW_.out (by kernel_rfl)) (fun _ _ _ h => h) (Or.inl ⟨by rfl, ?_⟩) hHeld ?_ ?_
                 rotate_left
                 ·
                  rintro w' ⟨s0, s1⟩
                  go_simp
                  with_reducible rfl
                 rotate_left
                 ·
                  simp only [Act.put, List.setIfInBounds_toArray, List.set_cons_zero, List.set_cons_succ, i64_w, i32_w]
                  rfl
                 refine take_ (i := 5) (N := some 97) (v := ?_) (a' := ?_) #[false, true, true, false, true, true, false, false, false, false] rfl rfl (take_ofW HT_.out HW_.out (by kernel_rfl)) (fun _ _ _ h => h) (Or.inl ⟨by rfl, ?_⟩) hHeld ?_ ?_
                 rotate_left
                 ·
                  rintro w' ⟨s0, s1⟩
                  go_simp
                  with_reducible rfl
                 rotate_left
                 ·
                  simp only [Act.put, List.setIfInBounds_toArray, List.set_cons_zero, List.set_cons_succ, i64_w, i32_w]
                  rfl
                 refine join_ (σ := Value × Value × Value × Nat) 1 #[true, true, true, true, true, true, true, true, true, false] (fun s_ => [(92, s_.1), (95, s_.2.1), (98, s_.2.2.1), (17, .pointer (some ⟨s_.2.2.2, 0, none⟩)), (99, .agg #[s_.2.2.1])]) (fun s_ w' => (w'.cell? ⟨gb245, 0, none⟩ = some (.slice Ao16 t240.length co16) ∧ w'.cell? ⟨gb252, 0, none⟩ = some (.slice Ao23 t247.length co23)) ∧ (Kd.V k29 29 w' w.heap.size (fun k_ => some k_ ≠ (s_.2.2.1 : Value).ownBlock ∧ k_ ≠ gb245 ∧ k_ ≠ gb246 ∧ k_ ≠ gb252 ∧ k_ ≠ gb253 ∧ k_ ≠ gb279 ∧ k_ ≠ gb280 ∧ k_ ≠ s_.2.2.2) (.slice Ao136 t274.length co136) t274) ∧ (Kd.N k29 29 w' w.heap.size (fun k_ => k_ ≠ gb245 ∧ k_ ≠ gb246 ∧ k_ ≠ gb252 ∧ k_ ≠ gb253 ∧ k_ ≠ gb279 ∧ k_ ≠ gb280 ∧ k_ ≠ s_.2.2.2) s_.2.2.1 y287) ∧ (Kd.V k29 29 w' w.heap.size (fun k_ => some k_ ≠ (s_.2.2.1 : Value).ownBlock ∧ k_ ≠ gb245 ∧ k_ ≠ gb246 ∧ k_ ≠ gb252 ∧ k_ ≠ gb253 ∧ k_ ≠ gb279 ∧ k_ ≠ gb280 ∧ k_ ≠ s_.2.2.2) (.slice Ao16 t240.length co16) t240) ∧ (Kd.V k29 29 w' w.heap.size (fun k_ => some k_ ≠ (s_.2.2.1 : Value).ownBlock ∧ k_ ≠ gb245 ∧ k_ ≠ gb246 ∧ k_ ≠ gb252 ∧ k_ ≠ gb253 ∧ k_ ≠ gb279 ∧ k_ ≠ gb280 ∧ k_ ≠ s_.2.2.2) (.slice Ao23 t247.length co23) t247) ∧ (Kd.V k29 29 w' w.heap.size (fun k_ => some k_ ≠ (s_.2.2.1 : Value).ownBlock ∧ k_ ≠ gb245 ∧ k_ ≠ gb246 ∧ k_ ≠ gb252 ∧ k_ ≠ gb253 ∧ k_ ≠ gb279 ∧ k_ ≠ gb280 ∧ k_ ≠ s_.2.2.2) (.slice Ao16 t240.length co16) t240) ∧ (w'.heap[gb245]? = some (.cells #[.slice Ao16 t240.length co16] 24 (0, 0))) ∧ (w'.heap[gb246]? = some (.cells #[.int .i64 t243, .int .i64 t244] 48 (0, 0))) ∧ (w'.heap[gb252]? = some (.cells #[.slice Ao23 t247.length co23] 24 (0, 0))) ∧ (w'.heap[gb253]? = some (.cells #[.int .i64 t250, .int .i64 t251] 48 (0, 0))) ∧ (w'.heap[gb279]? = some (.cells #[.slice Ao136 t274.length co136] 24 (0, 0))) ∧ (w'.heap[gb280]? = some (.cells #[.int .i64 t277, .int .i64 t278] 48 (0, 0))) ∧ (w'.heap[s_.2.2.2]? = some (.cells #[.slice none 0 0] 24 (0, 0))) ∧ (w.heap.size ≤ s_.2.2.2) ∧ (w.heap.size ≤ s_.2.2.2) ∧ (gb245 ≠ s_.2.2.2) ∧ (s_.2.2.2 ≠ gb245) ∧ (gb246 ≠ s_.2.2.2) ∧ (s_.2.2.2 ≠ gb246) ∧ (gb252 ≠ s_.2.2.2) ∧ (s_.2.2.2 ≠ gb252) ∧ (gb253 ≠ s_.2.2.2) ∧ (s_.2.2.2 ≠ gb253) ∧ (gb279 ≠ s_.2.2.2) ∧ (s_.2.2.2 ≠ gb279) ∧ (gb280 ≠ s_.2.2.2) ∧ (s_.2.2.2 ≠ gb280) ∧ (Below w.heap.size w w')) ?_ ?_
                 rotate_left
                 ·
                  intro hCont
                  refine two_ (i := 0) (j := 8) (Ni := some 92) (Nj := some 17) #[true, true, true, false, true, true, false, false, false, false] #[false, true, true, false, true, true, false, false, true, false] rfl rfl rfl rfl (two_of HT_.out (by kernel_rfl)) (by decide) (by decide) (fun K hK => ?_) (fun K hK => ?_)
                  ·
                   skip
                   refine Kd.N_lit_step k29 _ 29 ?hg (N' := 92) ?hd (xs := ([] : List (S29))) (inner := []) (ok := (fun k_ => k_ ≠ gb245 ∧ k_ ≠ gb246 ∧ k_ ≠ gb252 ∧ k_ ≠ gb253 ∧ k_ ≠ gb279 ∧ k_ ≠ gb280)) (okp := (fun k_ => k_ ≠ gb245 ∧ k_ ≠ gb246 ∧ k_ ≠ gb252 ∧ k_ ≠ gb253 ∧ k_ ≠ gb279 ∧ k_ ≠ gb280)) ?hr ?hp (fun _ hk => hk) ((show ∀ k_, w149.heap.size ≤ k_ → (fun k_ => k_ ≠ gb245 ∧ k_ ≠ gb246 ∧ k_ ≠ gb252 ∧ k_ ≠ gb253 ∧ k_ ≠ gb279 ∧ k_ ≠ gb280) k_ from fun k_ hk => ⟨Kd.freshB (g := gb245) (o := .cells #[.slice Ao16 t240.length co16] 24 (0, 0)) (by (with_reducible repeat (first | refine bN ?_ _ | refine bD ?_ | refine bA ?_ _)); exact BK245.out) k_ hk, Kd.freshB (g := gb246) (o := .cells #[.int .i64 t243, .int .i64 t244] 48 (0, 0)) (by (with_reducible repeat (first | refine bN ?_ _ | refine bD ?_ | refine bA ?_ _)); exact BK246.out) k_ hk, Kd.freshB (g := gb252) (o := .cells #[.slice Ao23 t247.length co23] 24 (0, 0)) (by (with_reducible repeat (first | refine bN ?_ _ | refine bD ?_ | refine bA ?_ _)); exact BK252.out) k_ hk, Kd.freshB (g := gb253) (o := .cells #[.int .i64 t250, .int .i64 t251] 48 (0, 0)) (by (with_reducible repeat (first | refine bN ?_ _ | refine bD ?_ | refine bA ?_ _)); exact BK253.out) k_ hk, Kd.freshB (g := gb279) (o := .cells #[.slice Ao136 t274.length co136] 24 (0, 0)) (by (with_reducible repeat (first | refine bN ?_ _ | refine bD ?_ | refine bA ?_ _)); exact BK279.out) k_ hk, Kd.freshB (g := gb280) (o := .cells #[.int .i64 t277, .int .i64 t278] 48 (0, 0)) (by (with_reducible repeat (first | refine bN ?_ _ | refine bD ?_ | refine bA ?_ _)); exact BK280.out) k_ hk⟩) _ (Nat.le_refl _)) (Below.refl _ _) (Nat.le_refl _) (by simp) ?_; (case hd => rfl); (case hg => rfl); (case hr => first | (go_simp; done) | (go_simp; rfl)); (case hp => exact (Reps.none _ _))
                   intro v282 w150 ho151 hb hg_ hnew_
                   clear hg_ hnew_
                   (first | rw [← Ny281.out] at ho151 | (simp only [Int.reduceToNat] at ho151; rw [← Ny281.out] at ho151))
                   have n0_ := Aside0.mk (Kd.V_elder' (by (with_reducible repeat (first | apply Kd.V_alloc | apply Kd.V_drewN | apply Kd.V_drew)); exact HO_58.out) (Kd.N_base ho151) hb)
                   have n1_ := Aside0.mk (Kd.V_elder' (by (with_reducible repeat (first | apply Kd.V_alloc | apply Kd.V_drewN | apply Kd.V_drew)); exact HO_246000.out) (Kd.N_base ho151) hb)
                   have n2_ := Aside0.mk (Kd.V_elder' (by (with_reducible repeat (first | apply Kd.V_alloc | apply Kd.V_drewN | apply Kd.V_drew)); exact HO_253000.out) (Kd.N_base ho151) hb)
                   have n3_ := Aside0.mk (Kd.V_elder' (by (with_reducible repeat (first | apply Kd.V_alloc | apply Kd.V_drewN | apply Kd.V_drew)); exact HO276.out) (Kd.N_base ho151) hb)
                   have n4_ := Aside0.mk (Kd.N_lower ho151 (below_size (by repeat (first | (with_reducible first | exact HB.out | apply below_alloc | apply pw_below_drewN | apply below_drew1 | refine below_set ?_ GE245.out | refine below_set ?_ GE246.out | refine below_set ?_ GE252.out | refine below_set ?_ GE253.out | refine below_set ?_ GE279.out | refine below_set ?_ GE280.out) | exact HB.out))))
                   have n5_ := Aside0.mk (blk_below (g := gb245) (o := .cells #[.slice Ao16 t240.length co16] 24 (0, 0)) (by (with_reducible repeat (first | refine bN ?_ _ | refine bD ?_ | refine bA ?_ _)); exact BK245.out) hb)
                   have n6_ := Aside0.mk (blk_below (g := gb246) (o := .cells #[.int .i64 t243, .int .i64 t244] 48 (0, 0)) (by (with_reducible repeat (first | refine bN ?_ _ | refine bD ?_ | refine bA ?_ _)); exact BK246.out) hb)
                   have n7_ := Aside0.mk (blk_below (g := gb252) (o := .cells #[.slice Ao23 t247.length co23] 24 (0, 0)) (by (with_reducible repeat (first | refine bN ?_ _ | refine bD ?_ | refine bA ?_ _)); exact BK252.out) hb)
                   have n8_ := Aside0.mk (blk_below (g := gb253) (o := .cells #[.int .i64 t250, .int .i64 t251] 48 (0, 0)) (by (with_reducible repeat (first | refine bN ?_ _ | refine bD ?_ | refine bA ?_ _)); exact BK253.out) hb)
                   have n9_ := Aside0.mk (blk_below (g := gb279) (o := .cells #[.slice Ao136 t274.length co136] 24 (0, 0)) (by (with_reducible repeat (first | refine bN ?_ _ | refine bD ?_ | refine bA ?_ _)); exact BK279.out) hb)
                   have n10_ := Aside0.mk (blk_below (g := gb280) (o := .cells #[.int .i64 t277, .int .i64 t278] 48 (0, 0)) (by (with_reducible repeat (first | refine bN ?_ _ | refine bD ?_ | refine bA ?_ _)); exact BK280.out) hb)
                   have n11_ := Aside0.mk (below_step (by repeat (first | (with_reducible first | exact HB.out | apply below_alloc | apply pw_below_drewN | apply below_drew1 | refine below_set ?_ GE245.out | refine below_set ?_ GE246.out | refine below_set ?_ GE252.out | refine below_set ?_ GE253.out | refine below_set ?_ GE279.out | refine below_set ?_ GE280.out) | exact HB.out)) hb)
                   clear HO_58
                   clear HO_246000
                   clear HO_253000
                   clear HO276
                   clear BK245
                   clear BK246
                   clear BK252
                   clear BK253
                   clear BK279
                   clear BK280
                   clear HB
                   have HO_58 := n0_
                   have HO_246000 := n1_
                   have HO_253000 := n2_
                   have HO276 := n3_
                   have HO283 := n4_
                   have BK245 := n5_
                   have BK246 := n6_
                   have BK252 := n7_
                   have BK253 := n8_
                   have BK279 := n9_
                   have BK280 := n10_
                   have HB := n11_
                   clear n0_ n1_ n2_ n3_ n4_ n5_ n6_ n7_ n8_ n9_ n10_ n11_
                   clear hb ho151
                   refine hK.out _ _ ⟨(blk_cell BK245.out 0).trans rfl, (blk_cell BK252.out 0).trans rfl⟩ (fun hHeld => ?_)
                   clear hK K
                   refine norm_ (a' := ?_) ?_ ?_
                   rotate_left
                   ·
                    show Act.put _ (some 92) _ = _
                    simp only [Act.put, List.setIfInBounds_toArray, List.set_cons_zero, List.set_cons_succ, i64_w, i32_w]
                    rfl
                   refine two_ (i := 3) (j := 8) (Ni := some 95) (Nj := some 17) #[true, true, true, true, true, true, false, false, false, false] #[true, true, true, false, true, true, false, false, true, false] rfl rfl rfl rfl (two_of HT_.out (by kernel_rfl)) (by decide) (by decide) (fun K hK => ?_) (fun K hK => ?_)
                   ·
                    skip
                    refine Kd.N_append_rows_step k29 (w0 := w) w.heap.size (by rfl) (.tmp 92) (.tmp 94) 22 29 (.agg #[(.string ⟨#[]⟩), (.int .i64 0), (.int .i64 0), (.int .i64 0), (.bool false), (.bool false), (.slice none 0 0)]) 72 rfl Tryd.underlying22 info29 rfl (by decide) (by omega) v282 y281 t240 _ _ _ (fun k_ => k_ ≠ gb245 ∧ k_ ≠ gb246 ∧ k_ ≠ gb252 ∧ k_ ≠ gb253 ∧ k_ ≠ gb279 ∧ k_ ≠ gb280) (fun k_ => ((fun k_ => k_ ≠ gb245 ∧ k_ ≠ gb246 ∧ k_ ≠ gb252 ∧ k_ ≠ gb253 ∧ k_ ≠ gb279 ∧ k_ ≠ gb280)) k_ ∧ some k_ ≠ (v282 : Value).ownBlock) rfl rfl ?aO ?aR (fun _ hk => hk) ?aF ?aB ?aS ?aL ?_
                    (case aR => exact (by skip; exact Kd.V_F (Kd.V_mono (ok' := (fun k_ => ((fun k_ => k_ ≠ gb245 ∧ k_ ≠ gb246 ∧ k_ ≠ gb252 ∧ k_ ≠ gb253 ∧ k_ ≠ gb279 ∧ k_ ≠ gb280)) k_ ∧ some k_ ≠ (v282 : Value).ownBlock)) (HO_246000.out) (fun k_ hk => ⟨⟨hk.1.1, ⟨hk.1.2.1, ⟨hk.1.2.2.1, ⟨hk.1.2.2.2.1, ⟨hk.1.2.2.2.2.1, hk.1.2.2.2.2.2⟩⟩⟩⟩⟩, hk.2⟩))))
                    (case aB => exact (by repeat (first | (with_reducible first | exact HB.out | apply below_alloc | apply pw_below_drewN | apply below_drew1 | refine below_set ?_ GE245.out | refine below_set ?_ GE246.out | refine below_set ?_ GE252.out | refine below_set ?_ GE253.out | refine below_set ?_ GE279.out | refine below_set ?_ GE280.out) | exact HB.out)))
                    (case aF => exact (fun k_ hk => ⟨Kd.freshB (g := gb245) (o := .cells #[.slice Ao16 t240.length co16] 24 (0, 0)) (by (with_reducible repeat (first | refine bN ?_ _ | refine bD ?_ | refine bA ?_ _)); exact BK245.out) k_ hk, Kd.freshB (g := gb246) (o := .cells #[.int .i64 t243, .int .i64 t244] 48 (0, 0)) (by (with_reducible repeat (first | refine bN ?_ _ | refine bD ?_ | refine bA ?_ _)); exact BK246.out) k_ hk, Kd.freshB (g := gb252) (o := .cells #[.slice Ao23 t247.length co23] 24 (0, 0)) (by (with_reducible repeat (first | refine bN ?_ _ | refine bD ?_ | refine bA ?_ _)); exact BK252.out) k_ hk, Kd.freshB (g := gb253) (o := .cells #[.int .i64 t250, .int .i64 t251] 48 (0, 0)) (by (with_reducible repeat (first | refine bN ?_ _ | refine bD ?_ | refine bA ?_ _)); exact BK253.out) k_ hk, Kd.freshB (g := gb279) (o := .cells #[.slice Ao136 t274.length co136] 24 (0, 0)) (by (with_reducible repeat (first | refine bN ?_ _ | refine bD ?_ | refine bA ?_ _)); exact BK279.out) k_ hk, Kd.freshB (g := gb280) (o := .cells #[.int .i64 t277, .int .i64 t278] 48 (0, 0)) (by (with_reducible repeat (first | refine bN ?_ _ | refine bD ?_ | refine bA ?_ _)); exact BK280.out) k_ hk⟩))
                    (case aO => exact (by (with_reducible repeat (first | apply Kd.N_alloc | apply Kd.N_drewN | apply Kd.N_drew)); exact HO283.out))
                    (case aS => exact (below_size (by repeat (first | (with_reducible first | exact HB.out | apply below_alloc | apply pw_below_drewN | apply below_drew1 | refine below_set ?_ GE245.out | refine below_set ?_ GE246.out | refine below_set ?_ GE252.out | refine below_set ?_ GE253.out | refine below_set ?_ GE279.out | refine below_set ?_ GE280.out) | exact HB.out))))
                    (case aL => have := LMc127.out; omega)
                    intro v285 w152 ho hb hg hat
                    rw [← Ny284.out] at ho
                    have n0_ := Aside0.mk (Kd.V_afterv (ok := (fun k_ => k_ ≠ gb245 ∧ k_ ≠ gb246 ∧ k_ ≠ gb252 ∧ k_ ≠ gb253 ∧ k_ ≠ gb279 ∧ k_ ≠ gb280)) (by (with_reducible repeat (first | apply Kd.V_alloc | apply Kd.V_drewN | apply Kd.V_drew)); exact HO_58.out) hg hat)
                    have n1_ := Aside0.mk (Kd.V_afterv (ok := (fun k_ => k_ ≠ gb245 ∧ k_ ≠ gb246 ∧ k_ ≠ gb252 ∧ k_ ≠ gb253 ∧ k_ ≠ gb279 ∧ k_ ≠ gb280)) (by (with_reducible repeat (first | apply Kd.V_alloc | apply Kd.V_drewN | apply Kd.V_drew)); exact HO_246000.out) hg hat)
                    have n2_ := Aside0.mk (Kd.V_afterv (ok := (fun k_ => k_ ≠ gb245 ∧ k_ ≠ gb246 ∧ k_ ≠ gb252 ∧ k_ ≠ gb253 ∧ k_ ≠ gb279 ∧ k_ ≠ gb280)) (by (with_reducible repeat (first | apply Kd.V_alloc | apply Kd.V_drewN | apply Kd.V_drew)); exact HO_253000.out) hg hat)
                    have n3_ := Aside0.mk (blk_grown (g := gb245) (o := .cells #[.slice Ao16 t240.length co16] 24 (0, 0)) (by (with_reducible repeat (first | refine bN ?_ _ | refine bD ?_ | refine bA ?_ _)); exact BK245.out) hg (Kd.N_ne HO283.out BK245.out (by decide)))
                    have n4_ := Aside0.mk (blk_grown (g := gb246) (o := .cells #[.int .i64 t243, .int .i64 t244] 48 (0, 0)) (by (with_reducible repeat (first | refine bN ?_ _ | refine bD ?_ | refine bA ?_ _)); exact BK246.out) hg (Kd.N_ne HO283.out BK246.out (by decide)))
                    have n5_ := Aside0.mk (blk_grown (g := gb252) (o := .cells #[.slice Ao23 t247.length co23] 24 (0, 0)) (by (with_reducible repeat (first | refine bN ?_ _ | refine bD ?_ | refine bA ?_ _)); exact BK252.out) hg (Kd.N_ne HO283.out BK252.out (by decide)))
                    have n6_ := Aside0.mk (blk_grown (g := gb253) (o := .cells #[.int .i64 t250, .int .i64 t251] 48 (0, 0)) (by (with_reducible repeat (first | refine bN ?_ _ | refine bD ?_ | refine bA ?_ _)); exact BK253.out) hg (Kd.N_ne HO283.out BK253.out (by decide)))
                    have n7_ := Aside0.mk (Kd.V_afterv (ok := (fun k_ => k_ ≠ gb245 ∧ k_ ≠ gb246 ∧ k_ ≠ gb252 ∧ k_ ≠ gb253 ∧ k_ ≠ gb279 ∧ k_ ≠ gb280)) (by (with_reducible repeat (first | apply Kd.V_alloc | apply Kd.V_drewN | apply Kd.V_drew)); exact HO276.out) hg hat)
                    have n8_ := Aside0.mk (blk_grown (g := gb279) (o := .cells #[.slice Ao136 t274.length co136] 24 (0, 0)) (by (with_reducible repeat (first | refine bN ?_ _ | refine bD ?_ | refine bA ?_ _)); exact BK279.out) hg (Kd.N_ne HO283.out BK279.out (by decide)))
                    have n9_ := Aside0.mk (blk_grown (g := gb280) (o := .cells #[.int .i64 t277, .int .i64 t278] 48 (0, 0)) (by (with_reducible repeat (first | refine bN ?_ _ | refine bD ?_ | refine bA ?_ _)); exact BK280.out) hg (Kd.N_ne HO283.out BK280.out (by decide)))
                    have n10_ := Aside0.mk (hb)
                    have n11_ := Aside0.mk (ho)
                    clear HO_58
                    clear HO_246000
                    clear HO_253000
                    clear BK245
                    clear BK246
                    clear BK252
                    clear BK253
                    clear HO276
                    clear BK279
                    clear BK280
                    clear HB
                    clear HO283
                    have HO_58 := n0_
                    have HO_246000 := n1_
                    have HO_253000 := n2_
                    have BK245 := n3_
                    have BK246 := n4_
                    have BK252 := n5_
                    have BK253 := n6_
                    have HO276 := n7_
                    have BK279 := n8_
                    have BK280 := n9_
                    have HB := n10_
                    have HO286 := n11_
                    clear n0_ n1_ n2_ n3_ n4_ n5_ n6_ n7_ n8_ n9_ n10_ n11_
                    clear ho hb hg hat
                    refine hK.out _ _ ⟨(blk_cell BK245.out 0).trans rfl, (blk_cell BK252.out 0).trans rfl⟩ (fun hHeld => ?_)
                    clear hK K
                    refine norm_ (a' := ?_) ?_ ?_
                    rotate_left
                    ·
                     show Act.put _ (some 95) _ = _
                     simp only [Act.put, List.setIfInBounds_toArray, List.set_cons_zero, List.set_cons_succ, i64_w, i32_w]
                     rfl
                    refine two_ (i := 6) (j := 8) (Ni := some 98) (Nj := some 17) #[true, true, true, true, true, true, true, false, false, false] #[true, true, true, true, true, true, false, false, true, false] rfl rfl rfl rfl (two_of HT_.out (by kernel_rfl)) (by decide) (by decide) (fun K hK => ?_) (fun K hK => ?_)
                    ·
                     skip
                     refine Kd.N_append_rows_step k29 (w0 := w) w.heap.size (by rfl) (.tmp 95) (.tmp 97) 22 29 (.agg #[(.string ⟨#[]⟩), (.int .i64 0), (.int .i64 0), (.int .i64 0), (.bool false), (.bool false), (.slice none 0 0)]) 72 rfl Tryd.underlying22 info29 rfl (by decide) (by omega) v285 y284 t247 _ _ _ (fun k_ => k_ ≠ gb245 ∧ k_ ≠ gb246 ∧ k_ ≠ gb252 ∧ k_ ≠ gb253 ∧ k_ ≠ gb279 ∧ k_ ≠ gb280) (fun k_ => ((fun k_ => k_ ≠ gb245 ∧ k_ ≠ gb246 ∧ k_ ≠ gb252 ∧ k_ ≠ gb253 ∧ k_ ≠ gb279 ∧ k_ ≠ gb280)) k_ ∧ some k_ ≠ (v285 : Value).ownBlock) rfl rfl ?aO ?aR (fun _ hk => hk) ?aF ?aB ?aS ?aL ?_
                     (case aR => exact (by skip; exact Kd.V_F (Kd.V_mono (ok' := (fun k_ => ((fun k_ => k_ ≠ gb245 ∧ k_ ≠ gb246 ∧ k_ ≠ gb252 ∧ k_ ≠ gb253 ∧ k_ ≠ gb279 ∧ k_ ≠ gb280)) k_ ∧ some k_ ≠ (v285 : Value).ownBlock)) (HO_253000.out) (fun k_ hk => ⟨⟨hk.1.1, ⟨hk.1.2.1, ⟨hk.1.2.2.1, ⟨hk.1.2.2.2.1, ⟨hk.1.2.2.2.2.1, hk.1.2.2.2.2.2⟩⟩⟩⟩⟩, hk.2⟩))))
                     (case aB => exact (by repeat (first | (with_reducible first | exact HB.out | apply below_alloc | apply pw_below_drewN | apply below_drew1 | refine below_set ?_ GE245.out | refine below_set ?_ GE246.out | refine below_set ?_ GE252.out | refine below_set ?_ GE253.out | refine below_set ?_ GE279.out | refine below_set ?_ GE280.out) | exact HB.out)))
                     (case aF => exact (fun k_ hk => ⟨Kd.freshB (g := gb245) (o := .cells #[.slice Ao16 t240.length co16] 24 (0, 0)) (by (with_reducible repeat (first | refine bN ?_ _ | refine bD ?_ | refine bA ?_ _)); exact BK245.out) k_ hk, Kd.freshB (g := gb246) (o := .cells #[.int .i64 t243, .int .i64 t244] 48 (0, 0)) (by (with_reducible repeat (first | refine bN ?_ _ | refine bD ?_ | refine bA ?_ _)); exact BK246.out) k_ hk, Kd.freshB (g := gb252) (o := .cells #[.slice Ao23 t247.length co23] 24 (0, 0)) (by (with_reducible repeat (first | refine bN ?_ _ | refine bD ?_ | refine bA ?_ _)); exact BK252.out) k_ hk, Kd.freshB (g := gb253) (o := .cells #[.int .i64 t250, .int .i64 t251] 48 (0, 0)) (by (with_reducible repeat (first | refine bN ?_ _ | refine bD ?_ | refine bA ?_ _)); exact BK253.out) k_ hk, Kd.freshB (g := gb279) (o := .cells #[.slice Ao136 t274.length co136] 24 (0, 0)) (by (with_reducible repeat (first | refine bN ?_ _ | refine bD ?_ | refine bA ?_ _)); exact BK279.out) k_ hk, Kd.freshB (g := gb280) (o := .cells #[.int .i64 t277, .int .i64 t278] 48 (0, 0)) (by (with_reducible repeat (first | refine bN ?_ _ | refine bD ?_ | refine bA ?_ _)); exact BK280.out) k_ hk⟩))
                     (case aO => exact (by (with_reducible repeat (first | apply Kd.N_alloc | apply Kd.N_drewN | apply Kd.N_drew)); exact HO286.out))
                     (case aS => exact (below_size (by repeat (first | (with_reducible first | exact HB.out | apply below_alloc | apply pw_below_drewN | apply below_drew1 | refine below_set ?_ GE245.out | refine below_set ?_ GE246.out | refine below_set ?_ GE252.out | refine below_set ?_ GE253.out | refine below_set ?_ GE279.out | refine below_set ?_ GE280.out) | exact HB.out))))
                     (case aL => have := LMc128.out; omega)
                     intro v288 w153 ho hb hg hat
                     rw [← Ny287.out] at ho
                     have n0_ := Aside0.mk (Kd.V_afterv (ok := (fun k_ => k_ ≠ gb245 ∧ k_ ≠ gb246 ∧ k_ ≠ gb252 ∧ k_ ≠ gb253 ∧ k_ ≠ gb279 ∧ k_ ≠ gb280)) (by (with_reducible repeat (first | apply Kd.V_alloc | apply Kd.V_drewN | apply Kd.V_drew)); exact HO_58.out) hg hat)
                     have n1_ := Aside0.mk (Kd.V_afterv (ok := (fun k_ => k_ ≠ gb245 ∧ k_ ≠ gb246 ∧ k_ ≠ gb252 ∧ k_ ≠ gb253 ∧ k_ ≠ gb279 ∧ k_ ≠ gb280)) (by (with_reducible repeat (first | apply Kd.V_alloc | apply Kd.V_drewN | apply Kd.V_drew)); exact HO_246000.out) hg hat)
                     have n2_ := Aside0.mk (Kd.V_afterv (ok := (fun k_ => k_ ≠ gb245 ∧ k_ ≠ gb246 ∧ k_ ≠ gb252 ∧ k_ ≠ gb253 ∧ k_ ≠ gb279 ∧ k_ ≠ gb280)) (by (with_reducible repeat (first | apply Kd.V_alloc | apply Kd.V_drewN | apply Kd.V_drew)); exact HO_253000.out) hg hat)
                     have n3_ := Aside0.mk (blk_grown (g := gb245) (o := .cells #[.slice Ao16 t240.length co16] 24 (0, 0)) (by (with_reducible repeat (first | refine bN ?_ _ | refine bD ?_ | refine bA ?_ _)); exact BK245.out) hg (Kd.N_ne HO286.out BK245.out (by decide)))
                     have n4_ := Aside0.mk (blk_grown (g := gb246) (o := .cells #[.int .i64 t243, .int .i64 t244] 48 (0, 0)) (by (with_reducible repeat (first | refine bN ?_ _ | refine bD ?_ | refine bA ?_ _)); exact BK246.out) hg (Kd.N_ne HO286.out BK246.out (by decide)))
                     have n5_ := Aside0.mk (blk_grown (g := gb252) (o := .cells #[.slice Ao23 t247.length co23] 24 (0, 0)) (by (with_reducible repeat (first | refine bN ?_ _ | refine bD ?_ | refine bA ?_ _)); exact BK252.out) hg (Kd.N_ne HO286.out BK252.out (by decide)))
                     have n6_ := Aside0.mk (blk_grown (g := gb253) (o := .cells #[.int .i64 t250, .int .i64 t251] 48 (0, 0)) (by (with_reducible repeat (first | refine bN ?_ _ | refine bD ?_ | refine bA ?_ _)); exact BK253.out) hg (Kd.N_ne HO286.out BK253.out (by decide)))
                     have n7_ := Aside0.mk (Kd.V_afterv (ok := (fun k_ => k_ ≠ gb245 ∧ k_ ≠ gb246 ∧ k_ ≠ gb252 ∧ k_ ≠ gb253 ∧ k_ ≠ gb279 ∧ k_ ≠ gb280)) (by (with_reducible repeat (first | apply Kd.V_alloc | apply Kd.V_drewN | apply Kd.V_drew)); exact HO276.out) hg hat)
                     have n8_ := Aside0.mk (blk_grown (g := gb279) (o := .cells #[.slice Ao136 t274.length co136] 24 (0, 0)) (by (with_reducible repeat (first | refine bN ?_ _ | refine bD ?_ | refine bA ?_ _)); exact BK279.out) hg (Kd.N_ne HO286.out BK279.out (by decide)))
                     have n9_ := Aside0.mk (blk_grown (g := gb280) (o := .cells #[.int .i64 t277, .int .i64 t278] 48 (0, 0)) (by (with_reducible repeat (first | refine bN ?_ _ | refine bD ?_ | refine bA ?_ _)); exact BK280.out) hg (Kd.N_ne HO286.out BK280.out (by decide)))
                     have n10_ := Aside0.mk (hb)
                     have n11_ := Aside0.mk (ho)
                     clear HO_58
                     clear HO_246000
                     clear HO_253000
                     clear BK245
                     clear BK246
                     clear BK252
                     clear BK253
                     clear HO276
                     clear BK279
                     clear BK280
                     clear HB
                     clear HO286
                     have HO_58 := n0_
                     have HO_246000 := n1_
                     have HO_253000 := n2_
                     have BK245 := n3_
                     have BK246 := n4_
                     have BK252 := n5_
                     have BK253 := n6_
                     have HO276 := n7_
                     have BK279 := n8_
                     have BK280 := n9_
                     have HB := n10_
                     have HO289 := n11_
                     clear n0_ n1_ n2_ n3_ n4_ n5_ n6_ n7_ n8_ n9_ n10_ n11_
                     clear ho hb hg hat
                     obtain ⟨Ao154, co154, eo154⟩ := Kd.N_slice HO289.out
                     (first | subst eo154 | (injection eo154 with f1_ f2_ f3_; have f4_ := f1_.symm; have f5_ := f3_.symm; clear f1_ f2_ f3_; subst f4_; subst f5_))
                     refine hK.out _ _ ⟨(blk_cell BK245.out 0).trans rfl, (blk_cell BK252.out 0).trans rfl⟩ (fun hHeld => ?_)
                     clear hK K
                     refine norm_ (a' := ?_) ?_ ?_
                     rotate_left
                     ·
                      show Act.put _ (some 98) _ = _
                      simp only [Act.put, List.setIfInBounds_toArray, List.set_cons_zero, List.set_cons_succ, i64_w, i32_w]
                      rfl
                     refine pure_ (i := 7) (N := some 99) (v := ?_) (a' := ?_) #[true, true, true, true, true, true, true, true, false, false] rfl rfl (any_of HT_.out (by kernel_rfl)) (fun _ _ _ h => h) (Or.inl ⟨by rfl, ?_⟩) ?_ ?_
                     rotate_left
                     ·
                      intro w'
                      go_simp
                      with_reducible rfl
                     rotate_left
                     ·
                      simp only [Act.put, List.setIfInBounds_toArray, List.set_cons_zero, List.set_cons_succ, i64_w, i32_w]
                      rfl
                     refine one_ (i := 8) (N := some 17) #[true, true, true, true, true, true, true, true, true, false] rfl rfl (one_of HT_.out (by kernel_rfl)) (by decide) (fun K hK => ?_)
                     refine box_step ?hg (N := 17) ?hd (cs := #[.slice none 0 0]) (t := 24) ?hr ?_; (case hd => rfl); (case hg => rfl); (case hr => first | (go_simp; done) | (go_simp; rfl))
                     intro gb290 hg w155 hbox hb
                     have n0_ := Aside0.mk (Kd.V_below (Kd.V_elderB (by (with_reducible repeat (first | apply Kd.V_alloc | apply Kd.V_drewN | apply Kd.V_drew)); exact HO_58.out) gb290 (Nat.le_of_eq hg.symm)) hb)
                     have n1_ := Aside0.mk (Kd.V_below (Kd.V_elderB (by (with_reducible repeat (first | apply Kd.V_alloc | apply Kd.V_drewN | apply Kd.V_drew)); exact HO_246000.out) gb290 (Nat.le_of_eq hg.symm)) hb)
                     have n2_ := Aside0.mk (Kd.V_below (Kd.V_elderB (by (with_reducible repeat (first | apply Kd.V_alloc | apply Kd.V_drewN | apply Kd.V_drew)); exact HO_253000.out) gb290 (Nat.le_of_eq hg.symm)) hb)
                     have n3_ := Aside0.mk (Kd.V_below (Kd.V_elderB (by (with_reducible repeat (first | apply Kd.V_alloc | apply Kd.V_drewN | apply Kd.V_drew)); exact HO276.out) gb290 (Nat.le_of_eq hg.symm)) hb)
                     have n4_ := Aside0.mk (Kd.N_below (Kd.N_elderB (by (with_reducible repeat (first | apply Kd.N_alloc | apply Kd.N_drewN | apply Kd.N_drew)); exact HO289.out) gb290 (Nat.le_of_eq hg.symm)) hb)
                     have n5_ := Aside0.mk (blk_below (g := gb245) (o := .cells #[.slice Ao16 t240.length co16] 24 (0, 0)) (by (with_reducible repeat (first | refine bN ?_ _ | refine bD ?_ | refine bA ?_ _)); exact BK245.out) hb)
                     have n6_ := Aside0.mk (blk_below (g := gb246) (o := .cells #[.int .i64 t243, .int .i64 t244] 48 (0, 0)) (by (with_reducible repeat (first | refine bN ?_ _ | refine bD ?_ | refine bA ?_ _)); exact BK246.out) hb)
                     have n7_ := Aside0.mk (blk_below (g := gb252) (o := .cells #[.slice Ao23 t247.length co23] 24 (0, 0)) (by (with_reducible repeat (first | refine bN ?_ _ | refine bD ?_ | refine bA ?_ _)); exact BK252.out) hb)
                     have n8_ := Aside0.mk (blk_below (g := gb253) (o := .cells #[.int .i64 t250, .int .i64 t251] 48 (0, 0)) (by (with_reducible repeat (first | refine bN ?_ _ | refine bD ?_ | refine bA ?_ _)); exact BK253.out) hb)
                     have n9_ := Aside0.mk (blk_below (g := gb279) (o := .cells #[.slice Ao136 t274.length co136] 24 (0, 0)) (by (with_reducible repeat (first | refine bN ?_ _ | refine bD ?_ | refine bA ?_ _)); exact BK279.out) hb)
                     have n10_ := Aside0.mk (blk_below (g := gb280) (o := .cells #[.int .i64 t277, .int .i64 t278] 48 (0, 0)) (by (with_reducible repeat (first | refine bN ?_ _ | refine bD ?_ | refine bA ?_ _)); exact BK280.out) hb)
                     have n11_ := Aside0.mk (below_step (by repeat (first | (with_reducible first | exact HB.out | apply below_alloc | apply pw_below_drewN | apply below_drew1 | refine below_set ?_ GE245.out | refine below_set ?_ GE246.out | refine below_set ?_ GE252.out | refine below_set ?_ GE253.out | refine below_set ?_ GE279.out | refine below_set ?_ GE280.out) | exact HB.out)) hb)
                     have n12_ := Aside0.mk (hbox)
                     have n13_ := Aside0.mk ((by rw [hg]; exact (below_size (by repeat (first | (with_reducible first | exact HB.out | apply below_alloc | apply pw_below_drewN | apply below_drew1 | refine below_set ?_ GE245.out | refine below_set ?_ GE246.out | refine below_set ?_ GE252.out | refine below_set ?_ GE253.out | refine below_set ?_ GE279.out | refine below_set ?_ GE280.out) | exact HB.out))) : w.heap.size ≤ gb290))
                     have n14_ := Aside0.mk ((by rw [hg]; exact (below_size (by repeat (first | (with_reducible first | exact HB.out | apply below_alloc | apply pw_below_drewN | apply below_drew1 | refine below_set ?_ GE245.out | refine below_set ?_ GE246.out | refine below_set ?_ GE252.out | refine below_set ?_ GE253.out | refine below_set ?_ GE279.out | refine below_set ?_ GE280.out) | exact HB.out))) : w.heap.size ≤ gb290))
                     have n15_ := Aside0.mk ((by rw [hg]; exact Nat.ne_of_lt (blk_lt (g := gb245) (o := .cells #[.slice Ao16 t240.length co16] 24 (0, 0)) (by (with_reducible repeat (first | refine bN ?_ _ | refine bD ?_ | refine bA ?_ _)); exact BK245.out)) : gb245 ≠ gb290))
                     have n16_ := Aside0.mk ((by rw [hg]; exact Nat.ne_of_gt (blk_lt (g := gb245) (o := .cells #[.slice Ao16 t240.length co16] 24 (0, 0)) (by (with_reducible repeat (first | refine bN ?_ _ | refine bD ?_ | refine bA ?_ _)); exact BK245.out)) : gb290 ≠ gb245))
                     have n17_ := Aside0.mk ((by rw [hg]; exact Nat.ne_of_lt (blk_lt (g := gb246) (o := .cells #[.int .i64 t243, .int .i64 t244] 48 (0, 0)) (by (with_reducible repeat (first | refine bN ?_ _ | refine bD ?_ | refine bA ?_ _)); exact BK246.out)) : gb246 ≠ gb290))
                     have n18_ := Aside0.mk ((by rw [hg]; exact Nat.ne_of_gt (blk_lt (g := gb246) (o := .cells #[.int .i64 t243, .int .i64 t244] 48 (0, 0)) (by (with_reducible repeat (first | refine bN ?_ _ | refine bD ?_ | refine bA ?_ _)); exact BK246.out)) : gb290 ≠ gb246))
                     have n19_ := Aside0.mk ((by rw [hg]; exact Nat.ne_of_lt (blk_lt (g := gb252) (o := .cells #[.slice Ao23 t247.length co23] 24 (0, 0)) (by (with_reducible repeat (first | refine bN ?_ _ | refine bD ?_ | refine bA ?_ _)); exact BK252.out)) : gb252 ≠ gb290))
                     have n20_ := Aside0.mk ((by rw [hg]; exact Nat.ne_of_gt (blk_lt (g := gb252) (o := .cells #[.slice Ao23 t247.length co23] 24 (0, 0)) (by (with_reducible repeat (first | refine bN ?_ _ | refine bD ?_ | refine bA ?_ _)); exact BK252.out)) : gb290 ≠ gb252))
                     have n21_ := Aside0.mk ((by rw [hg]; exact Nat.ne_of_lt (blk_lt (g := gb253) (o := .cells #[.int .i64 t250, .int .i64 t251] 48 (0, 0)) (by (with_reducible repeat (first | refine bN ?_ _ | refine bD ?_ | refine bA ?_ _)); exact BK253.out)) : gb253 ≠ gb290))
                     have n22_ := Aside0.mk ((by rw [hg]; exact Nat.ne_of_gt (blk_lt (g := gb253) (o := .cells #[.int .i64 t250, .int .i64 t251] 48 (0, 0)) (by (with_reducible repeat (first | refine bN ?_ _ | refine bD ?_ | refine bA ?_ _)); exact BK253.out)) : gb290 ≠ gb253))
                     have n23_ := Aside0.mk ((by rw [hg]; exact Nat.ne_of_lt (blk_lt (g := gb279) (o := .cells #[.slice Ao136 t274.length co136] 24 (0, 0)) (by (with_reducible repeat (first | refine bN ?_ _ | refine bD ?_ | refine bA ?_ _)); exact BK279.out)) : gb279 ≠ gb290))
                     have n24_ := Aside0.mk ((by rw [hg]; exact Nat.ne_of_gt (blk_lt (g := gb279) (o := .cells #[.slice Ao136 t274.length co136] 24 (0, 0)) (by (with_reducible repeat (first | refine bN ?_ _ | refine bD ?_ | refine bA ?_ _)); exact BK279.out)) : gb290 ≠ gb279))
                     have n25_ := Aside0.mk ((by rw [hg]; exact Nat.ne_of_lt (blk_lt (g := gb280) (o := .cells #[.int .i64 t277, .int .i64 t278] 48 (0, 0)) (by (with_reducible repeat (first | refine bN ?_ _ | refine bD ?_ | refine bA ?_ _)); exact BK280.out)) : gb280 ≠ gb290))
                     have n26_ := Aside0.mk ((by rw [hg]; exact Nat.ne_of_gt (blk_lt (g := gb280) (o := .cells #[.int .i64 t277, .int .i64 t278] 48 (0, 0)) (by (with_reducible repeat (first | refine bN ?_ _ | refine bD ?_ | refine bA ?_ _)); exact BK280.out)) : gb290 ≠ gb280))
                     clear HO_58
                     clear HO_246000
                     clear HO_253000
                     clear HO276
                     clear HO289
                     clear BK245
                     clear BK246
                     clear BK252
                     clear BK253
                     clear BK279
                     clear BK280
                     clear HB
                     have HO_58 := n0_
                     have HO_246000 := n1_
                     have HO_253000 := n2_
                     have HO276 := n3_
                     have HO289 := n4_
                     have BK245 := n5_
                     have BK246 := n6_
                     have BK252 := n7_
                     have BK253 := n8_
                     have BK279 := n9_
                     have BK280 := n10_
                     have HB := n11_
                     have BK290 := n12_
                     have GW290 := n13_
                     have GE290 := n14_
                     have NB245_290 := n15_
                     have NB290_245 := n16_
                     have NB246_290 := n17_
                     have NB290_246 := n18_
                     have NB252_290 := n19_
                     have NB290_252 := n20_
                     have NB253_290 := n21_
                     have NB290_253 := n22_
                     have NB279_290 := n23_
                     have NB290_279 := n24_
                     have NB280_290 := n25_
                     have NB290_280 := n26_
                     clear n0_ n1_ n2_ n3_ n4_ n5_ n6_ n7_ n8_ n9_ n10_ n11_ n12_ n13_ n14_ n15_ n16_ n17_ n18_ n19_ n20_ n21_ n22_ n23_ n24_ n25_ n26_
                     clear hb hbox hg
                     refine hK.out _ _ ⟨(blk_cell BK245.out 0).trans rfl, (blk_cell BK252.out 0).trans rfl⟩ (fun hHeld => ?_)
                     clear hK K
                     refine norm_ (a' := ?_) ?_ ?_
                     rotate_left
                     ·
                      show Act.put _ (some 17) _ = _
                      simp only [Act.put, List.setIfInBounds_toArray, List.set_cons_zero, List.set_cons_succ, i64_w, i32_w]
                      rfl
                     exact norm_ (by simp only [putAll, Act.put, List.setIfInBounds_toArray, List.set_cons_zero, List.set_cons_succ]) (hCont (v282, v285, .slice Ao154 y287.length co154, gb290) _ ⟨hHeld, (by (with_reducible repeat (first | apply Kd.V_alloc | apply Kd.V_drewN | apply Kd.V_drew)); exact Kd.V_mono HO276.out (fun _ hk => ⟨hk.1.2, ⟨hk.1.1.1, ⟨hk.1.1.2.1, ⟨hk.1.1.2.2.1, ⟨hk.1.1.2.2.2.1, ⟨hk.1.1.2.2.2.2.1, ⟨hk.1.1.2.2.2.2.2, hk.2⟩⟩⟩⟩⟩⟩⟩)), (by (with_reducible repeat (first | apply Kd.N_alloc | apply Kd.N_drewN | apply Kd.N_drew)); exact Kd.N_mono HO289.out (fun _ hk => ⟨hk.1.1, ⟨hk.1.2.1, ⟨hk.1.2.2.1, ⟨hk.1.2.2.2.1, ⟨hk.1.2.2.2.2.1, ⟨hk.1.2.2.2.2.2, hk.2⟩⟩⟩⟩⟩⟩)), (by (with_reducible repeat (first | apply Kd.V_alloc | apply Kd.V_drewN | apply Kd.V_drew)); exact Kd.V_mono HO_246000.out (fun _ hk => ⟨hk.1.2, ⟨hk.1.1.1, ⟨hk.1.1.2.1, ⟨hk.1.1.2.2.1, ⟨hk.1.1.2.2.2.1, ⟨hk.1.1.2.2.2.2.1, ⟨hk.1.1.2.2.2.2.2, hk.2⟩⟩⟩⟩⟩⟩⟩)), (by (with_reducible repeat (first | apply Kd.V_alloc | apply Kd.V_drewN | apply Kd.V_drew)); exact Kd.V_mono HO_253000.out (fun _ hk => ⟨hk.1.2, ⟨hk.1.1.1, ⟨hk.1.1.2.1, ⟨hk.1.1.2.2.1, ⟨hk.1.1.2.2.2.1, ⟨hk.1.1.2.2.2.2.1, ⟨hk.1.1.2.2.2.2.2, hk.2⟩⟩⟩⟩⟩⟩⟩)), (by (with_reducible repeat (first | apply Kd.V_alloc | apply Kd.V_drewN | apply Kd.V_drew)); exact Kd.V_mono HO_58.out (fun _ hk => ⟨hk.1.2, ⟨hk.1.1.1, ⟨hk.1.1.2.1, ⟨hk.1.1.2.2.1, ⟨hk.1.1.2.2.2.1, ⟨hk.1.1.2.2.2.2.1, ⟨hk.1.1.2.2.2.2.2, hk.2⟩⟩⟩⟩⟩⟩⟩)), (by (with_reducible repeat (first | refine bN ?_ _ | refine bD ?_ | refine bA ?_ _)); exact BK245.out), (by (with_reducible repeat (first | refine bN ?_ _ | refine bD ?_ | refine bA ?_ _)); exact BK246.out), (by (with_reducible repeat (first | refine bN ?_ _ | refine bD ?_ | refine bA ?_ _)); exact BK252.out), (by (with_reducible repeat (first | refine bN ?_ _ | refine bD ?_ | refine bA ?_ _)); exact BK253.out), (by (with_reducible repeat (first | refine bN ?_ _ | refine bD ?_ | refine bA ?_ _)); exact BK279.out), (by (with_reducible repeat (first | refine bN ?_ _ | refine bD ?_ | refine bA ?_ _)); exact BK280.out), (by (with_reducible repeat (first | refine bN ?_ _ | refine bD ?_ | refine bA ?_ _)); exact BK290.out), GW290.out, GE290.out, NB245_290.out, NB290_245.out, NB246_290.out, NB290_246.out, NB252_290.out, NB290_252.out, NB253_290.out, NB290_253.out, NB279_290.out, NB290_279.out, NB280_290.out, NB290_280.out, (by repeat (first | (with_reducible first | exact HB.out | apply below_alloc | apply pw_below_drewN | apply below_drew1 | refine below_set ?_ GE245.out | refine below_set ?_ GE246.out | refine below_set ?_ GE252.out | refine below_set ?_ GE253.out | refine below_set ?_ GE279.out | refine below_set ?_ GE280.out | refine below_set ?_ GE290.out) | exact HB.out))⟩)
                    ·
                     skip
                     refine box_step ?hg (N := 17) ?hd (cs := #[.slice none 0 0]) (t := 24) ?hr ?_; (case hd => rfl); (case hg => rfl); (case hr => first | (go_simp; done) | (go_simp; rfl))
                     intro gb290 hg w153 hbox hb
                     have n0_ := Aside0.mk (Kd.V_below (Kd.V_elderB (by (with_reducible repeat (first | apply Kd.V_alloc | apply Kd.V_drewN | apply Kd.V_drew)); exact HO_58.out) gb290 (Nat.le_of_eq hg.symm)) hb)
                     have n1_ := Aside0.mk (Kd.V_below (Kd.V_elderB (by (with_reducible repeat (first | apply Kd.V_alloc | apply Kd.V_drewN | apply Kd.V_drew)); exact HO_246000.out) gb290 (Nat.le_of_eq hg.symm)) hb)
                     have n2_ := Aside0.mk (Kd.V_below (Kd.V_elderB (by (with_reducible repeat (first | apply Kd.V_alloc | apply Kd.V_drewN | apply Kd.V_drew)); exact HO_253000.out) gb290 (Nat.le_of_eq hg.symm)) hb)
                     have n3_ := Aside0.mk (Kd.V_below (Kd.V_elderB (by (with_reducible repeat (first | apply Kd.V_alloc | apply Kd.V_drewN | apply Kd.V_drew)); exact HO276.out) gb290 (Nat.le_of_eq hg.symm)) hb)
                     have n4_ := Aside0.mk (Kd.N_below (Kd.N_elderB (by (with_reducible repeat (first | apply Kd.N_alloc | apply Kd.N_drewN | apply Kd.N_drew)); exact HO286.out) gb290 (Nat.le_of_eq hg.symm)) hb)
                     have n5_ := Aside0.mk (blk_below (g := gb245) (o := .cells #[.slice Ao16 t240.length co16] 24 (0, 0)) (by (with_reducible repeat (first | refine bN ?_ _ | refine bD ?_ | refine bA ?_ _)); exact BK245.out) hb)
                     have n6_ := Aside0.mk (blk_below (g := gb246) (o := .cells #[.int .i64 t243, .int .i64 t244] 48 (0, 0)) (by (with_reducible repeat (first | refine bN ?_ _ | refine bD ?_ | refine bA ?_ _)); exact BK246.out) hb)
                     have n7_ := Aside0.mk (blk_below (g := gb252) (o := .cells #[.slice Ao23 t247.length co23] 24 (0, 0)) (by (with_reducible repeat (first | refine bN ?_ _ | refine bD ?_ | refine bA ?_ _)); exact BK252.out) hb)
                     have n8_ := Aside0.mk (blk_below (g := gb253) (o := .cells #[.int .i64 t250, .int .i64 t251] 48 (0, 0)) (by (with_reducible repeat (first | refine bN ?_ _ | refine bD ?_ | refine bA ?_ _)); exact BK253.out) hb)
                     have n9_ := Aside0.mk (blk_below (g := gb279) (o := .cells #[.slice Ao136 t274.length co136] 24 (0, 0)) (by (with_reducible repeat (first | refine bN ?_ _ | refine bD ?_ | refine bA ?_ _)); exact BK279.out) hb)
                     have n10_ := Aside0.mk (blk_below (g := gb280) (o := .cells #[.int .i64 t277, .int .i64 t278] 48 (0, 0)) (by (with_reducible repeat (first | refine bN ?_ _ | refine bD ?_ | refine bA ?_ _)); exact BK280.out) hb)
                     have n11_ := Aside0.mk (below_step (by repeat (first | (with_reducible first | exact HB.out | apply below_alloc | apply pw_below_drewN | apply below_drew1 | refine below_set ?_ GE245.out | refine below_set ?_ GE246.out | refine below_set ?_ GE252.out | refine below_set ?_ GE253.out | refine below_set ?_ GE279.out | refine below_set ?_ GE280.out) | exact HB.out)) hb)
                     have n12_ := Aside0.mk (hbox)
                     have n13_ := Aside0.mk ((by rw [hg]; exact (below_size (by repeat (first | (with_reducible first | exact HB.out | apply below_alloc | apply pw_below_drewN | apply below_drew1 | refine below_set ?_ GE245.out | refine below_set ?_ GE246.out | refine below_set ?_ GE252.out | refine below_set ?_ GE253.out | refine below_set ?_ GE279.out | refine below_set ?_ GE280.out) | exact HB.out))) : w.heap.size ≤ gb290))
                     have n14_ := Aside0.mk ((by rw [hg]; exact (below_size (by repeat (first | (with_reducible first | exact HB.out | apply below_alloc | apply pw_below_drewN | apply below_drew1 | refine below_set ?_ GE245.out | refine below_set ?_ GE246.out | refine below_set ?_ GE252.out | refine below_set ?_ GE253.out | refine below_set ?_ GE279.out | refine below_set ?_ GE280.out) | exact HB.out))) : w.heap.size ≤ gb290))
                     have n15_ := Aside0.mk ((by rw [hg]; exact Nat.ne_of_lt (blk_lt (g := gb245) (o := .cells #[.slice Ao16 t240.length co16] 24 (0, 0)) (by (with_reducible repeat (first | refine bN ?_ _ | refine bD ?_ | refine bA ?_ _)); exact BK245.out)) : gb245 ≠ gb290))
                     have n16_ := Aside0.mk ((by rw [hg]; exact Nat.ne_of_gt (blk_lt (g := gb245) (o := .cells #[.slice Ao16 t240.length co16] 24 (0, 0)) (by (with_reducible repeat (first | refine bN ?_ _ | refine bD ?_ | refine bA ?_ _)); exact BK245.out)) : gb290 ≠ gb245))
                     have n17_ := Aside0.mk ((by rw [hg]; exact Nat.ne_of_lt (blk_lt (g := gb246) (o := .cells #[.int .i64 t243, .int .i64 t244] 48 (0, 0)) (by (with_reducible repeat (first | refine bN ?_ _ | refine bD ?_ | refine bA ?_ _)); exact BK246.out)) : gb246 ≠ gb290))
                     have n18_ := Aside0.mk ((by rw [hg]; exact Nat.ne_of_gt (blk_lt (g := gb246) (o := .cells #[.int .i64 t243, .int .i64 t244] 48 (0, 0)) (by (with_reducible repeat (first | refine bN ?_ _ | refine bD ?_ | refine bA ?_ _)); exact BK246.out)) : gb290 ≠ gb246))
                     have n19_ := Aside0.mk ((by rw [hg]; exact Nat.ne_of_lt (blk_lt (g := gb252) (o := .cells #[.slice Ao23 t247.length co23] 24 (0, 0)) (by (with_reducible repeat (first | refine bN ?_ _ | refine bD ?_ | refine bA ?_ _)); exact BK252.out)) : gb252 ≠ gb290))
                     have n20_ := Aside0.mk ((by rw [hg]; exact Nat.ne_of_gt (blk_lt (g := gb252) (o := .cells #[.slice Ao23 t247.length co23] 24 (0, 0)) (by (with_reducible repeat (first | refine bN ?_ _ | refine bD ?_ | refine bA ?_ _)); exact BK252.out)) : gb290 ≠ gb252))
                     have n21_ := Aside0.mk ((by rw [hg]; exact Nat.ne_of_lt (blk_lt (g := gb253) (o := .cells #[.int .i64 t250, .int .i64 t251] 48 (0, 0)) (by (with_reducible repeat (first | refine bN ?_ _ | refine bD ?_ | refine bA ?_ _)); exact BK253.out)) : gb253 ≠ gb290))
                     have n22_ := Aside0.mk ((by rw [hg]; exact Nat.ne_of_gt (blk_lt (g := gb253) (o := .cells #[.int .i64 t250, .int .i64 t251] 48 (0, 0)) (by (with_reducible repeat (first | refine bN ?_ _ | refine bD ?_ | refine bA ?_ _)); exact BK253.out)) : gb290 ≠ gb253))
                     have n23_ := Aside0.mk ((by rw [hg]; exact Nat.ne_of_lt (blk_lt (g := gb279) (o := .cells #[.slice Ao136 t274.length co136] 24 (0, 0)) (by (with_reducible repeat (first | refine bN ?_ _ | refine bD ?_ | refine bA ?_ _)); exact BK279.out)) : gb279 ≠ gb290))
                     have n24_ := Aside0.mk ((by rw [hg]; exact Nat.ne_of_gt (blk_lt (g := gb279) (o := .cells #[.slice Ao136 t274.length co136] 24 (0, 0)) (by (with_reducible repeat (first | refine bN ?_ _ | refine bD ?_ | refine bA ?_ _)); exact BK279.out)) : gb290 ≠ gb279))
                     have n25_ := Aside0.mk ((by rw [hg]; exact Nat.ne_of_lt (blk_lt (g := gb280) (o := .cells #[.int .i64 t277, .int .i64 t278] 48 (0, 0)) (by (with_reducible repeat (first | refine bN ?_ _ | refine bD ?_ | refine bA ?_ _)); exact BK280.out)) : gb280 ≠ gb290))
                     have n26_ := Aside0.mk ((by rw [hg]; exact Nat.ne_of_gt (blk_lt (g := gb280) (o := .cells #[.int .i64 t277, .int .i64 t278] 48 (0, 0)) (by (with_reducible repeat (first | refine bN ?_ _ | refine bD ?_ | refine bA ?_ _)); exact BK280.out)) : gb290 ≠ gb280))
                     clear HO_58
                     clear HO_246000
                     clear HO_253000
                     clear HO276
                     clear HO286
                     clear BK245
                     clear BK246
                     clear BK252
                     clear BK253
                     clear BK279
                     clear BK280
                     clear HB
                     have HO_58 := n0_
                     have HO_246000 := n1_
                     have HO_253000 := n2_
                     have HO276 := n3_
                     have HO286 := n4_
                     have BK245 := n5_
                     have BK246 := n6_
                     have BK252 := n7_
                     have BK253 := n8_
                     have BK279 := n9_
                     have BK280 := n10_
                     have HB := n11_
                     have BK290 := n12_
                     have GW290 := n13_
                     have GE290 := n14_
                     have NB245_290 := n15_
                     have NB290_245 := n16_
                     have NB246_290 := n17_
                     have NB290_246 := n18_
                     have NB252_290 := n19_
                     have NB290_252 := n20_
                     have NB253_290 := n21_
                     have NB290_253 := n22_
                     have NB279_290 := n23_
                     have NB290_279 := n24_
                     have NB280_290 := n25_
                     have NB290_280 := n26_
                     clear n0_ n1_ n2_ n3_ n4_ n5_ n6_ n7_ n8_ n9_ n10_ n11_ n12_ n13_ n14_ n15_ n16_ n17_ n18_ n19_ n20_ n21_ n22_ n23_ n24_ n25_ n26_
                     clear hb hbox hg
                     refine hK.out _ _ ⟨(blk_cell BK245.out 0).trans rfl, (blk_cell BK252.out 0).trans rfl⟩ (fun hHeld => ?_)
                     clear hK K
                     refine norm_ (a' := ?_) ?_ ?_
                     rotate_left
                     ·
                      show Act.put _ (some 17) _ = _
                      simp only [Act.put, List.setIfInBounds_toArray, List.set_cons_zero, List.set_cons_succ, i64_w, i32_w]
                      rfl
                     refine one_ (i := 6) (N := some 98) #[true, true, true, true, true, true, true, false, true, false] rfl rfl (one_of HT_.out (by kernel_rfl)) (by decide) (fun K hK => ?_)
                     refine Kd.N_append_rows_step k29 (w0 := w) w.heap.size (by rfl) (.tmp 95) (.tmp 97) 22 29 (.agg #[(.string ⟨#[]⟩), (.int .i64 0), (.int .i64 0), (.int .i64 0), (.bool false), (.bool false), (.slice none 0 0)]) 72 rfl Tryd.underlying22 info29 rfl (by decide) (by omega) v285 y284 t247 _ _ _ (fun k_ => k_ ≠ gb245 ∧ k_ ≠ gb246 ∧ k_ ≠ gb252 ∧ k_ ≠ gb253 ∧ k_ ≠ gb279 ∧ k_ ≠ gb280 ∧ k_ ≠ gb290) (fun k_ => ((fun k_ => k_ ≠ gb245 ∧ k_ ≠ gb246 ∧ k_ ≠ gb252 ∧ k_ ≠ gb253 ∧ k_ ≠ gb279 ∧ k_ ≠ gb280 ∧ k_ ≠ gb290)) k_ ∧ some k_ ≠ (v285 : Value).ownBlock) rfl rfl ?aO ?aR (fun _ hk => hk) ?aF ?aB ?aS ?aL ?_
                     (case aR => exact (by skip; exact Kd.V_F (Kd.V_mono (ok' := (fun k_ => ((fun k_ => k_ ≠ gb245 ∧ k_ ≠ gb246 ∧ k_ ≠ gb252 ∧ k_ ≠ gb253 ∧ k_ ≠ gb279 ∧ k_ ≠ gb280 ∧ k_ ≠ gb290)) k_ ∧ some k_ ≠ (v285 : Value).ownBlock)) (HO_253000.out) (fun k_ hk => ⟨⟨hk.1.1.1, ⟨hk.1.1.2.1, ⟨hk.1.1.2.2.1, ⟨hk.1.1.2.2.2.1, ⟨hk.1.1.2.2.2.2.1, ⟨hk.1.1.2.2.2.2.2, hk.2⟩⟩⟩⟩⟩⟩, hk.1.2⟩))))
                     (case aB => exact (by repeat (first | (with_reducible first | exact HB.out | apply below_alloc | apply pw_below_drewN | apply below_drew1 | refine below_set ?_ GE245.out | refine below_set ?_ GE246.out | refine below_set ?_ GE252.out | refine below_set ?_ GE253.out | refine below_set ?_ GE279.out | refine below_set ?_ GE280.out | refine below_set ?_ GE290.out) | exact HB.out)))
                     (case aF => exact (fun k_ hk => ⟨Kd.freshB (g := gb245) (o := .cells #[.slice Ao16 t240.length co16] 24 (0, 0)) (by (with_reducible repeat (first | refine bN ?_ _ | refine bD ?_ | refine bA ?_ _)); exact BK245.out) k_ hk, Kd.freshB (g := gb246) (o := .cells #[.int .i64 t243, .int .i64 t244] 48 (0, 0)) (by (with_reducible repeat (first | refine bN ?_ _ | refine bD ?_ | refine bA ?_ _)); exact BK246.out) k_ hk, Kd.freshB (g := gb252) (o := .cells #[.slice Ao23 t247.length co23] 24 (0, 0)) (by (with_reducible repeat (first | refine bN ?_ _ | refine bD ?_ | refine bA ?_ _)); exact BK252.out) k_ hk, Kd.freshB (g := gb253) (o := .cells #[.int .i64 t250, .int .i64 t251] 48 (0, 0)) (by (with_reducible repeat (first | refine bN ?_ _ | refine bD ?_ | refine bA ?_ _)); exact BK253.out) k_ hk, Kd.freshB (g := gb279) (o := .cells #[.slice Ao136 t274.length co136] 24 (0, 0)) (by (with_reducible repeat (first | refine bN ?_ _ | refine bD ?_ | refine bA ?_ _)); exact BK279.out) k_ hk, Kd.freshB (g := gb280) (o := .cells #[.int .i64 t277, .int .i64 t278] 48 (0, 0)) (by (with_reducible repeat (first | refine bN ?_ _ | refine bD ?_ | refine bA ?_ _)); exact BK280.out) k_ hk, Kd.freshB (g := gb290) (o := .cells #[.slice none 0 0] 24 (0, 0)) (by (with_reducible repeat (first | refine bN ?_ _ | refine bD ?_ | refine bA ?_ _)); exact BK290.out) k_ hk⟩))
                     (case aO => exact (by (with_reducible repeat (first | apply Kd.N_alloc | apply Kd.N_drewN | apply Kd.N_drew)); exact Kd.N_mono HO286.out (fun _ hk => ⟨hk.1.1, ⟨hk.1.2.1, ⟨hk.1.2.2.1, ⟨hk.1.2.2.2.1, ⟨hk.1.2.2.2.2.1, ⟨hk.1.2.2.2.2.2, hk.2⟩⟩⟩⟩⟩⟩)))
                     (case aS => exact (below_size (by repeat (first | (with_reducible first | exact HB.out | apply below_alloc | apply pw_below_drewN | apply below_drew1 | refine below_set ?_ GE245.out | refine below_set ?_ GE246.out | refine below_set ?_ GE252.out | refine below_set ?_ GE253.out | refine below_set ?_ GE279.out | refine below_set ?_ GE280.out | refine below_set ?_ GE290.out) | exact HB.out))))
                     (case aL => have := LMc128.out; omega)
                     intro v288 w154 ho hb hg hat
                     rw [← Ny287.out] at ho
                     have n0_ := Aside0.mk (Kd.V_afterv (ok := (fun k_ => k_ ≠ gb245 ∧ k_ ≠ gb246 ∧ k_ ≠ gb252 ∧ k_ ≠ gb253 ∧ k_ ≠ gb279 ∧ k_ ≠ gb280 ∧ k_ ≠ gb290)) (by (with_reducible repeat (first | apply Kd.V_alloc | apply Kd.V_drewN | apply Kd.V_drew)); exact Kd.V_mono HO_58.out (fun _ hk => ⟨⟨hk.1.1.1, ⟨hk.1.1.2.1, ⟨hk.1.1.2.2.1, ⟨hk.1.1.2.2.2.1, ⟨hk.1.1.2.2.2.2.1, ⟨hk.1.1.2.2.2.2.2, hk.2⟩⟩⟩⟩⟩⟩, hk.1.2⟩)) hg hat)
                     have n1_ := Aside0.mk (Kd.V_afterv (ok := (fun k_ => k_ ≠ gb245 ∧ k_ ≠ gb246 ∧ k_ ≠ gb252 ∧ k_ ≠ gb253 ∧ k_ ≠ gb279 ∧ k_ ≠ gb280 ∧ k_ ≠ gb290)) (by (with_reducible repeat (first | apply Kd.V_alloc | apply Kd.V_drewN | apply Kd.V_drew)); exact Kd.V_mono HO_246000.out (fun _ hk => ⟨⟨hk.1.1.1, ⟨hk.1.1.2.1, ⟨hk.1.1.2.2.1, ⟨hk.1.1.2.2.2.1, ⟨hk.1.1.2.2.2.2.1, ⟨hk.1.1.2.2.2.2.2, hk.2⟩⟩⟩⟩⟩⟩, hk.1.2⟩)) hg hat)
                     have n2_ := Aside0.mk (Kd.V_afterv (ok := (fun k_ => k_ ≠ gb245 ∧ k_ ≠ gb246 ∧ k_ ≠ gb252 ∧ k_ ≠ gb253 ∧ k_ ≠ gb279 ∧ k_ ≠ gb280 ∧ k_ ≠ gb290)) (by (with_reducible repeat (first | apply Kd.V_alloc | apply Kd.V_drewN | apply Kd.V_drew)); exact Kd.V_mono HO_253000.out (fun _ hk => ⟨⟨hk.1.1.1, ⟨hk.1.1.2.1, ⟨hk.1.1.2.2.1, ⟨hk.1.1.2.2.2.1, ⟨hk.1.1.2.2.2.2.1, ⟨hk.1.1.2.2.2.2.2, hk.2⟩⟩⟩⟩⟩⟩, hk.1.2⟩)) hg hat)
                     have n3_ := Aside0.mk (blk_grown (g := gb245) (o := .cells #[.slice Ao16 t240.length co16] 24 (0, 0)) (by (with_reducible repeat (first | refine bN ?_ _ | refine bD ?_ | refine bA ?_ _)); exact BK245.out) hg (Kd.N_ne HO286.out BK245.out (by decide)))
                     have n4_ := Aside0.mk (blk_grown (g := gb246) (o := .cells #[.int .i64 t243, .int .i64 t244] 48 (0, 0)) (by (with_reducible repeat (first | refine bN ?_ _ | refine bD ?_ | refine bA ?_ _)); exact BK246.out) hg (Kd.N_ne HO286.out BK246.out (by decide)))
                     have n5_ := Aside0.mk (blk_grown (g := gb252) (o := .cells #[.slice Ao23 t247.length co23] 24 (0, 0)) (by (with_reducible repeat (first | refine bN ?_ _ | refine bD ?_ | refine bA ?_ _)); exact BK252.out) hg (Kd.N_ne HO286.out BK252.out (by decide)))
                     have n6_ := Aside0.mk (blk_grown (g := gb253) (o := .cells #[.int .i64 t250, .int .i64 t251] 48 (0, 0)) (by (with_reducible repeat (first | refine bN ?_ _ | refine bD ?_ | refine bA ?_ _)); exact BK253.out) hg (Kd.N_ne HO286.out BK253.out (by decide)))
                     have n7_ := Aside0.mk (Kd.V_afterv (ok := (fun k_ => k_ ≠ gb245 ∧ k_ ≠ gb246 ∧ k_ ≠ gb252 ∧ k_ ≠ gb253 ∧ k_ ≠ gb279 ∧ k_ ≠ gb280 ∧ k_ ≠ gb290)) (by (with_reducible repeat (first | apply Kd.V_alloc | apply Kd.V_drewN | apply Kd.V_drew)); exact Kd.V_mono HO276.out (fun _ hk => ⟨⟨hk.1.1.1, ⟨hk.1.1.2.1, ⟨hk.1.1.2.2.1, ⟨hk.1.1.2.2.2.1, ⟨hk.1.1.2.2.2.2.1, ⟨hk.1.1.2.2.2.2.2, hk.2⟩⟩⟩⟩⟩⟩, hk.1.2⟩)) hg hat)
                     have n8_ := Aside0.mk (blk_grown (g := gb279) (o := .cells #[.slice Ao136 t274.length co136] 24 (0, 0)) (by (with_reducible repeat (first | refine bN ?_ _ | refine bD ?_ | refine bA ?_ _)); exact BK279.out) hg (Kd.N_ne HO286.out BK279.out (by decide)))
                     have n9_ := Aside0.mk (blk_grown (g := gb280) (o := .cells #[.int .i64 t277, .int .i64 t278] 48 (0, 0)) (by (with_reducible repeat (first | refine bN ?_ _ | refine bD ?_ | refine bA ?_ _)); exact BK280.out) hg (Kd.N_ne HO286.out BK280.out (by decide)))
                     have n10_ := Aside0.mk (blk_grown (g := gb290) (o := .cells #[.slice none 0 0] 24 (0, 0)) (by (with_reducible repeat (first | refine bN ?_ _ | refine bD ?_ | refine bA ?_ _)); exact BK290.out) hg (Kd.N_ne HO286.out BK290.out (by decide)))
                     have n11_ := Aside0.mk (hb)
                     have n12_ := Aside0.mk (ho)
                     clear HO_58
                     clear HO_246000
                     clear HO_253000
                     clear BK245
                     clear BK246
                     clear BK252
                     clear BK253
                     clear HO276
                     clear BK279
                     clear BK280
                     clear BK290
                     clear HB
                     clear HO286
                     have HO_58 := n0_
                     have HO_246000 := n1_
                     have HO_253000 := n2_
                     have BK245 := n3_
                     have BK246 := n4_
                     have BK252 := n5_
                     have BK253 := n6_
                     have HO276 := n7_
                     have BK279 := n8_
                     have BK280 := n9_
                     have BK290 := n10_
                     have HB := n11_
                     have HO289 := n12_
                     clear n0_ n1_ n2_ n3_ n4_ n5_ n6_ n7_ n8_ n9_ n10_ n11_ n12_
                     clear ho hb hg hat
                     obtain ⟨Ao155, co155, eo155⟩ := Kd.N_slice HO289.out
                     (first | subst eo155 | (injection eo155 with f1_ f2_ f3_; have f4_ := f1_.symm; have f5_ := f3_.symm; clear f1_ f2_ f3_; subst f4_; subst f5_))
                     refine hK.out _ _ ⟨(blk_cell BK245.out 0).trans rfl, (blk_cell BK252.out 0).trans rfl⟩ (fun hHeld => ?_)
                     clear hK K
                     refine norm_ (a' := ?_) ?_ ?_
                     rotate_left
                     ·
                      show Act.put _ (some 98) _ = _
                      simp only [Act.put, List.setIfInBounds_toArray, List.set_cons_zero, List.set_cons_succ, i64_w, i32_w]
                      rfl
                     refine pure_ (i := 7) (N := some 99) (v := ?_) (a' := ?_) #[true, true, true, true, true, true, true, true, true, false] rfl rfl (any_of HT_.out (by kernel_rfl)) (fun _ _ _ h => h) (Or.inl ⟨by rfl, ?_⟩) ?_ ?_
                     rotate_left
                     ·
                      intro w'
                      go_simp
                      with_reducible rfl
                     rotate_left
                     ·
                      simp only [Act.put, List.setIfInBounds_toArray, List.set_cons_zero, List.set_cons_succ, i64_w, i32_w]
                      rfl
                     exact norm_ (by simp only [putAll, Act.put, List.setIfInBounds_toArray, List.set_cons_zero, List.set_cons_succ]) (hCont (v282, v285, .slice Ao155 y287.length co155, gb290) _ ⟨hHeld, (by (with_reducible repeat (first | apply Kd.V_alloc | apply Kd.V_drewN | apply Kd.V_drew)); exact Kd.V_mono HO276.out (fun _ hk => ⟨hk.2, ⟨hk.1.1, ⟨hk.1.2.1, ⟨hk.1.2.2.1, ⟨hk.1.2.2.2.1, ⟨hk.1.2.2.2.2.1, ⟨hk.1.2.2.2.2.2.1, hk.1.2.2.2.2.2.2⟩⟩⟩⟩⟩⟩⟩)), (by (with_reducible repeat (first | apply Kd.N_alloc | apply Kd.N_drewN | apply Kd.N_drew)); exact HO289.out), (by (with_reducible repeat (first | apply Kd.V_alloc | apply Kd.V_drewN | apply Kd.V_drew)); exact Kd.V_mono HO_246000.out (fun _ hk => ⟨hk.2, ⟨hk.1.1, ⟨hk.1.2.1, ⟨hk.1.2.2.1, ⟨hk.1.2.2.2.1, ⟨hk.1.2.2.2.2.1, ⟨hk.1.2.2.2.2.2.1, hk.1.2.2.2.2.2.2⟩⟩⟩⟩⟩⟩⟩)), (by (with_reducible repeat (first | apply Kd.V_alloc | apply Kd.V_drewN | apply Kd.V_drew)); exact Kd.V_mono HO_253000.out (fun _ hk => ⟨hk.2, ⟨hk.1.1, ⟨hk.1.2.1, ⟨hk.1.2.2.1, ⟨hk.1.2.2.2.1, ⟨hk.1.2.2.2.2.1, ⟨hk.1.2.2.2.2.2.1, hk.1.2.2.2.2.2.2⟩⟩⟩⟩⟩⟩⟩)), (by (with_reducible repeat (first | apply Kd.V_alloc | apply Kd.V_drewN | apply Kd.V_drew)); exact Kd.V_mono HO_58.out (fun _ hk => ⟨hk.2, ⟨hk.1.1, ⟨hk.1.2.1, ⟨hk.1.2.2.1, ⟨hk.1.2.2.2.1, ⟨hk.1.2.2.2.2.1, ⟨hk.1.2.2.2.2.2.1, hk.1.2.2.2.2.2.2⟩⟩⟩⟩⟩⟩⟩)), (by (with_reducible repeat (first | refine bN ?_ _ | refine bD ?_ | refine bA ?_ _)); exact BK245.out), (by (with_reducible repeat (first | refine bN ?_ _ | refine bD ?_ | refine bA ?_ _)); exact BK246.out), (by (with_reducible repeat (first | refine bN ?_ _ | refine bD ?_ | refine bA ?_ _)); exact BK252.out), (by (with_reducible repeat (first | refine bN ?_ _ | refine bD ?_ | refine bA ?_ _)); exact BK253.out), (by (with_reducible repeat (first | refine bN ?_ _ | refine bD ?_ | refine bA ?_ _)); exact BK279.out), (by (with_reducible repeat (first | refine bN ?_ _ | refine bD ?_ | refine bA ?_ _)); exact BK280.out), (by (with_reducible repeat (first | refine bN ?_ _ | refine bD ?_ | refine bA ?_ _)); exact BK290.out), GW290.out, GE290.out, NB245_290.out, NB290_245.out, NB246_290.out, NB290_246.out, NB252_290.out, NB290_252.out, NB253_290.out, NB290_253.out, NB279_290.out, NB290_279.out, NB280_290.out, NB290_280.out, (by repeat (first | (with_reducible first | exact HB.out | apply below_alloc | apply pw_below_drewN | apply below_drew1 | refine below_set ?_ GE245.out | refine below_set ?_ GE246.out | refine below_set ?_ GE252.out | refine below_set ?_ GE253.out | refine below_set ?_ GE279.out | refine below_set ?_ GE280.out | refine below_set ?_ GE290.out) | exact HB.out))⟩)
                   ·
                    skip
                    refine box_step ?hg (N := 17) ?hd (cs := #[.slice none 0 0]) (t := 24) ?hr ?_; (case hd => rfl); (case hg => rfl); (case hr => first | (go_simp; done) | (go_simp; rfl))
                    intro gb290 hg w152 hbox hb
                    have n0_ := Aside0.mk (Kd.V_below (Kd.V_elderB (by (with_reducible repeat (first | apply Kd.V_alloc | apply Kd.V_drewN | apply Kd.V_drew)); exact HO_58.out) gb290 (Nat.le_of_eq hg.symm)) hb)
                    have n1_ := Aside0.mk (Kd.V_below (Kd.V_elderB (by (with_reducible repeat (first | apply Kd.V_alloc | apply Kd.V_drewN | apply Kd.V_drew)); exact HO_246000.out) gb290 (Nat.le_of_eq hg.symm)) hb)
                    have n2_ := Aside0.mk (Kd.V_below (Kd.V_elderB (by (with_reducible repeat (first | apply Kd.V_alloc | apply Kd.V_drewN | apply Kd.V_drew)); exact HO_253000.out) gb290 (Nat.le_of_eq hg.symm)) hb)
                    have n3_ := Aside0.mk (Kd.V_below (Kd.V_elderB (by (with_reducible repeat (first | apply Kd.V_alloc | apply Kd.V_drewN | apply Kd.V_drew)); exact HO276.out) gb290 (Nat.le_of_eq hg.symm)) hb)
                    have n4_ := Aside0.mk (Kd.N_below (Kd.N_elderB (by (with_reducible repeat (first | apply Kd.N_alloc | apply Kd.N_drewN | apply Kd.N_drew)); exact HO283.out) gb290 (Nat.le_of_eq hg.symm)) hb)
                    have n5_ := Aside0.mk (blk_below (g := gb245) (o := .cells #[.slice Ao16 t240.length co16] 24 (0, 0)) (by (with_reducible repeat (first | refine bN ?_ _ | refine bD ?_ | refine bA ?_ _)); exact BK245.out) hb)
                    have n6_ := Aside0.mk (blk_below (g := gb246) (o := .cells #[.int .i64 t243, .int .i64 t244] 48 (0, 0)) (by (with_reducible repeat (first | refine bN ?_ _ | refine bD ?_ | refine bA ?_ _)); exact BK246.out) hb)
                    have n7_ := Aside0.mk (blk_below (g := gb252) (o := .cells #[.slice Ao23 t247.length co23] 24 (0, 0)) (by (with_reducible repeat (first | refine bN ?_ _ | refine bD ?_ | refine bA ?_ _)); exact BK252.out) hb)
                    have n8_ := Aside0.mk (blk_below (g := gb253) (o := .cells #[.int .i64 t250, .int .i64 t251] 48 (0, 0)) (by (with_reducible repeat (first | refine bN ?_ _ | refine bD ?_ | refine bA ?_ _)); exact BK253.out) hb)
                    have n9_ := Aside0.mk (blk_below (g := gb279) (o := .cells #[.slice Ao136 t274.length co136] 24 (0, 0)) (by (with_reducible repeat (first | refine bN ?_ _ | refine bD ?_ | refine bA ?_ _)); exact BK279.out) hb)
                    have n10_ := Aside0.mk (blk_below (g := gb280) (o := .cells #[.int .i64 t277, .int .i64 t278] 48 (0, 0)) (by (with_reducible repeat (first | refine bN ?_ _ | refine bD ?_ | refine bA ?_ _)); exact BK280.out) hb)
                    have n11_ := Aside0.mk (below_step (by repeat (first | (with_reducible first | exact HB.out | apply below_alloc | apply pw_below_drewN | apply below_drew1 | refine below_set ?_ GE245.out | refine below_set ?_ GE246.out | refine below_set ?_ GE252.out | refine below_set ?_ GE253.out | refine below_set ?_ GE279.out | refine below_set ?_ GE280.out) | exact HB.out)) hb)
                    have n12_ := Aside0.mk (hbox)
                    have n13_ := Aside0.mk ((by rw [hg]; exact (below_size (by repeat (first | (with_reducible first | exact HB.out | apply below_alloc | apply pw_below_drewN | apply below_drew1 | refine below_set ?_ GE245.out | refine below_set ?_ GE246.out | refine below_set ?_ GE252.out | refine below_set ?_ GE253.out | refine below_set ?_ GE279.out | refine below_set ?_ GE280.out) | exact HB.out))) : w.heap.size ≤ gb290))
                    have n14_ := Aside0.mk ((by rw [hg]; exact (below_size (by repeat (first | (with_reducible first | exact HB.out | apply below_alloc | apply pw_below_drewN | apply below_drew1 | refine below_set ?_ GE245.out | refine below_set ?_ GE246.out | refine below_set ?_ GE252.out | refine below_set ?_ GE253.out | refine below_set ?_ GE279.out | refine below_set ?_ GE280.out) | exact HB.out))) : w.heap.size ≤ gb290))
                    have n15_ := Aside0.mk ((by rw [hg]; exact Nat.ne_of_lt (blk_lt (g := gb245) (o := .cells #[.slice Ao16 t240.length co16] 24 (0, 0)) (by (with_reducible repeat (first | refine bN ?_ _ | refine bD ?_ | refine bA ?_ _)); exact BK245.out)) : gb245 ≠ gb290))
                    have n16_ := Aside0.mk ((by rw [hg]; exact Nat.ne_of_gt (blk_lt (g := gb245) (o := .cells #[.slice Ao16 t240.length co16] 24 (0, 0)) (by (with_reducible repeat (first | refine bN ?_ _ | refine bD ?_ | refine bA ?_ _)); exact BK245.out)) : gb290 ≠ gb245))
                    have n17_ := Aside0.mk ((by rw [hg]; exact Nat.ne_of_lt (blk_lt (g := gb246) (o := .cells #[.int .i64 t243, .int .i64 t244] 48 (0, 0)) (by (with_reducible repeat (first | refine bN ?_ _ | refine bD ?_ | refine bA ?_ _)); exact BK246.out)) : gb246 ≠ gb290))
                    have n18_ := Aside0.mk ((by rw [hg]; exact Nat.ne_of_gt (blk_lt (g := gb246) (o := .cells #[.int .i64 t243, .int .i64 t244] 48 (0, 0)) (by (with_reducible repeat (first | refine bN ?_ _ | refine bD ?_ | refine bA ?_ _)); exact BK246.out)) : gb290 ≠ gb246))
                    have n19_ := Aside0.mk ((by rw [hg]; exact Nat.ne_of_lt (blk_lt (g := gb252) (o := .cells #[.slice Ao23 t247.length co23] 24 (0, 0)) (by (with_reducible repeat (first | refine bN ?_ _ | refine bD ?_ | refine bA ?_ _)); exact BK252.out)) : gb252 ≠ gb290))
                    have n20_ := Aside0.mk ((by rw [hg]; exact Nat.ne_of_gt (blk_lt (g := gb252) (o := .cells #[.slice Ao23 t247.length co23] 24 (0, 0)) (by (with_reducible repeat (first | refine bN ?_ _ | refine bD ?_ | refine bA ?_ _)); exact BK252.out)) : gb290 ≠ gb252))
                    have n21_ := Aside0.mk ((by rw [hg]; exact Nat.ne_of_lt (blk_lt (g := gb253) (o := .cells #[.int .i64 t250, .int .i64 t251] 48 (0, 0)) (by (with_reducible repeat (first | refine bN ?_ _ | refine bD ?_ | refine bA ?_ _)); exact BK253.out)) : gb253 ≠ gb290))
                    have n22_ := Aside0.mk ((by rw [hg]; exact Nat.ne_of_gt (blk_lt (g := gb253) (o := .cells #[.int .i64 t250, .int .i64 t251] 48 (0, 0)) (by (with_reducible repeat (first | refine bN ?_ _ | refine bD ?_ | refine bA ?_ _)); exact BK253.out)) : gb290 ≠ gb253))
                    have n23_ := Aside0.mk ((by rw [hg]; exact Nat.ne_of_lt (blk_lt (g := gb279) (o := .cells #[.slice Ao136 t274.length co136] 24 (0, 0)) (by (with_reducible repeat (first | refine bN ?_ _ | refine bD ?_ | refine bA ?_ _)); exact BK279.out)) : gb279 ≠ gb290))
                    have n24_ := Aside0.mk ((by rw [hg]; exact Nat.ne_of_gt (blk_lt (g := gb279) (o := .cells #[.slice Ao136 t274.length co136] 24 (0, 0)) (by (with_reducible repeat (first | refine bN ?_ _ | refine bD ?_ | refine bA ?_ _)); exact BK279.out)) : gb290 ≠ gb279))
                    have n25_ := Aside0.mk ((by rw [hg]; exact Nat.ne_of_lt (blk_lt (g := gb280) (o := .cells #[.int .i64 t277, .int .i64 t278] 48 (0, 0)) (by (with_reducible repeat (first | refine bN ?_ _ | refine bD ?_ | refine bA ?_ _)); exact BK280.out)) : gb280 ≠ gb290))
                    have n26_ := Aside0.mk ((by rw [hg]; exact Nat.ne_of_gt (blk_lt (g := gb280) (o := .cells #[.int .i64 t277, .int .i64 t278] 48 (0, 0)) (by (with_reducible repeat (first | refine bN ?_ _ | refine bD ?_ | refine bA ?_ _)); exact BK280.out)) : gb290 ≠ gb280))
                    clear HO_58
                    clear HO_246000
                    clear HO_253000
                    clear HO276
                    clear HO283
                    clear BK245
                    clear BK246
                    clear BK252
                    clear BK253
                    clear BK279
                    clear BK280
                    clear HB
                    have HO_58 := n0_
                    have HO_246000 := n1_
                    have HO_253000 := n2_
                    have HO276 := n3_
                    have HO283 := n4_
                    have BK245 := n5_
                    have BK246 := n6_
                    have BK252 := n7_
                    have BK253 := n8_
                    have BK279 := n9_
                    have BK280 := n10_
                    have HB := n11_
                    have BK290 := n12_
                    have GW290 := n13_
                    have GE290 := n14_
                    have NB245_290 := n15_
                    have NB290_245 := n16_
                    have NB246_290 := n17_
                    have NB290_246 := n18_
                    have NB252_290 := n19_
                    have NB290_252 := n20_
                    have NB253_290 := n21_
                    have NB290_253 := n22_
                    have NB279_290 := n23_
                    have NB290_279 := n24_
                    have NB280_290 := n25_
                    have NB290_280 := n26_
                    clear n0_ n1_ n2_ n3_ n4_ n5_ n6_ n7_ n8_ n9_ n10_ n11_ n12_ n13_ n14_ n15_ n16_ n17_ n18_ n19_ n20_ n21_ n22_ n23_ n24_ n25_ n26_
                    clear hb hbox hg
                    refine hK.out _ _ ⟨(blk_cell BK245.out 0).trans rfl, (blk_cell BK252.out 0).trans rfl⟩ (fun hHeld => ?_)
                    clear hK K
                    refine norm_ (a' := ?_) ?_ ?_
                    rotate_left
                    ·
                     show Act.put _ (some 17) _ = _
                     simp only [Act.put, List.setIfInBounds_toArray, List.set_cons_zero, List.set_cons_succ, i64_w, i32_w]
                     rfl
                    refine one_ (i := 3) (N := some 95) #[true, true, true, true, true, true, false, false, true, false] rfl rfl (one_of HT_.out (by kernel_rfl)) (by decide) (fun K hK => ?_)
                    refine Kd.N_append_rows_step k29 (w0 := w) w.heap.size (by rfl) (.tmp 92) (.tmp 94) 22 29 (.agg #[(.string ⟨#[]⟩), (.int .i64 0), (.int .i64 0), (.int .i64 0), (.bool false), (.bool false), (.slice none 0 0)]) 72 rfl Tryd.underlying22 info29 rfl (by decide) (by omega) v282 y281 t240 _ _ _ (fun k_ => k_ ≠ gb245 ∧ k_ ≠ gb246 ∧ k_ ≠ gb252 ∧ k_ ≠ gb253 ∧ k_ ≠ gb279 ∧ k_ ≠ gb280 ∧ k_ ≠ gb290) (fun k_ => ((fun k_ => k_ ≠ gb245 ∧ k_ ≠ gb246 ∧ k_ ≠ gb252 ∧ k_ ≠ gb253 ∧ k_ ≠ gb279 ∧ k_ ≠ gb280 ∧ k_ ≠ gb290)) k_ ∧ some k_ ≠ (v282 : Value).ownBlock) rfl rfl ?aO ?aR (fun _ hk => hk) ?aF ?aB ?aS ?aL ?_
                    (case aR => exact (by skip; exact Kd.V_F (Kd.V_mono (ok' := (fun k_ => ((fun k_ => k_ ≠ gb245 ∧ k_ ≠ gb246 ∧ k_ ≠ gb252 ∧ k_ ≠ gb253 ∧ k_ ≠ gb279 ∧ k_ ≠ gb280 ∧ k_ ≠ gb290)) k_ ∧ some k_ ≠ (v282 : Value).ownBlock)) (HO_246000.out) (fun k_ hk => ⟨⟨hk.1.1.1, ⟨hk.1.1.2.1, ⟨hk.1.1.2.2.1, ⟨hk.1.1.2.2.2.1, ⟨hk.1.1.2.2.2.2.1, ⟨hk.1.1.2.2.2.2.2, hk.2⟩⟩⟩⟩⟩⟩, hk.1.2⟩))))
                    (case aB => exact (by repeat (first | (with_reducible first | exact HB.out | apply below_alloc | apply pw_below_drewN | apply below_drew1 | refine below_set ?_ GE245.out | refine below_set ?_ GE246.out | refine below_set ?_ GE252.out | refine below_set ?_ GE253.out | refine below_set ?_ GE279.out | refine below_set ?_ GE280.out | refine below_set ?_ GE290.out) | exact HB.out)))
                    (case aF => exact (fun k_ hk => ⟨Kd.freshB (g := gb245) (o := .cells #[.slice Ao16 t240.length co16] 24 (0, 0)) (by (with_reducible repeat (first | refine bN ?_ _ | refine bD ?_ | refine bA ?_ _)); exact BK245.out) k_ hk, Kd.freshB (g := gb246) (o := .cells #[.int .i64 t243, .int .i64 t244] 48 (0, 0)) (by (with_reducible repeat (first | refine bN ?_ _ | refine bD ?_ | refine bA ?_ _)); exact BK246.out) k_ hk, Kd.freshB (g := gb252) (o := .cells #[.slice Ao23 t247.length co23] 24 (0, 0)) (by (with_reducible repeat (first | refine bN ?_ _ | refine bD ?_ | refine bA ?_ _)); exact BK252.out) k_ hk, Kd.freshB (g := gb253) (o := .cells #[.int .i64 t250, .int .i64 t251] 48 (0, 0)) (by (with_reducible repeat (first | refine bN ?_ _ | refine bD ?_ | refine bA ?_ _)); exact BK253.out) k_ hk, Kd.freshB (g := gb279) (o := .cells #[.slice Ao136 t274.length co136] 24 (0, 0)) (by (with_reducible repeat (first | refine bN ?_ _ | refine bD ?_ | refine bA ?_ _)); exact BK279.out) k_ hk, Kd.freshB (g := gb280) (o := .cells #[.int .i64 t277, .int .i64 t278] 48 (0, 0)) (by (with_reducible repeat (first | refine bN ?_ _ | refine bD ?_ | refine bA ?_ _)); exact BK280.out) k_ hk, Kd.freshB (g := gb290) (o := .cells #[.slice none 0 0] 24 (0, 0)) (by (with_reducible repeat (first | refine bN ?_ _ | refine bD ?_ | refine bA ?_ _)); exact BK290.out) k_ hk⟩))
                    (case aO => exact (by (with_reducible repeat (first | apply Kd.N_alloc | apply Kd.N_drewN | apply Kd.N_drew)); exact Kd.N_mono HO283.out (fun _ hk => ⟨hk.1.1, ⟨hk.1.2.1, ⟨hk.1.2.2.1, ⟨hk.1.2.2.2.1, ⟨hk.1.2.2.2.2.1, ⟨hk.1.2.2.2.2.2, hk.2⟩⟩⟩⟩⟩⟩)))
                    (case aS => exact (below_size (by repeat (first | (with_reducible first | exact HB.out | apply below_alloc | apply pw_below_drewN | apply below_drew1 | refine below_set ?_ GE245.out | refine below_set ?_ GE246.out | refine below_set ?_ GE252.out | refine below_set ?_ GE253.out | refine below_set ?_ GE279.out | refine below_set ?_ GE280.out | refine below_set ?_ GE290.out) | exact HB.out))))
                    (case aL => have := LMc127.out; omega)
                    intro v285 w153 ho hb hg hat
                    rw [← Ny284.out] at ho
                    have n0_ := Aside0.mk (Kd.V_afterv (ok := (fun k_ => k_ ≠ gb245 ∧ k_ ≠ gb246 ∧ k_ ≠ gb252 ∧ k_ ≠ gb253 ∧ k_ ≠ gb279 ∧ k_ ≠ gb280 ∧ k_ ≠ gb290)) (by (with_reducible repeat (first | apply Kd.V_alloc | apply Kd.V_drewN | apply Kd.V_drew)); exact Kd.V_mono HO_58.out (fun _ hk => ⟨⟨hk.1.1.1, ⟨hk.1.1.2.1, ⟨hk.1.1.2.2.1, ⟨hk.1.1.2.2.2.1, ⟨hk.1.1.2.2.2.2.1, ⟨hk.1.1.2.2.2.2.2, hk.2⟩⟩⟩⟩⟩⟩, hk.1.2⟩)) hg hat)
                    have n1_ := Aside0.mk (Kd.V_afterv (ok := (fun k_ => k_ ≠ gb245 ∧ k_ ≠ gb246 ∧ k_ ≠ gb252 ∧ k_ ≠ gb253 ∧ k_ ≠ gb279 ∧ k_ ≠ gb280 ∧ k_ ≠ gb290)) (by (with_reducible repeat (first | apply Kd.V_alloc | apply Kd.V_drewN | apply Kd.V_drew)); exact Kd.V_mono HO_246000.out (fun _ hk => ⟨⟨hk.1.1.1, ⟨hk.1.1.2.1, ⟨hk.1.1.2.2.1, ⟨hk.1.1.2.2.2.1, ⟨hk.1.1.2.2.2.2.1, ⟨hk.1.1.2.2.2.2.2, hk.2⟩⟩⟩⟩⟩⟩, hk.1.2⟩)) hg hat)
                    have n2_ := Aside0.mk (Kd.V_afterv (ok := (fun k_ => k_ ≠ gb245 ∧ k_ ≠ gb246 ∧ k_ ≠ gb252 ∧ k_ ≠ gb253 ∧ k_ ≠ gb279 ∧ k_ ≠ gb280 ∧ k_ ≠ gb290)) (by (with_reducible repeat (first | apply Kd.V_alloc | apply Kd.V_drewN | apply Kd.V_drew)); exact Kd.V_mono HO_253000.out (fun _ hk => ⟨⟨hk.1.1.1, ⟨hk.1.1.2.1, ⟨hk.1.1.2.2.1, ⟨hk.1.1.2.2.2.1, ⟨hk.1.1.2.2.2.2.1, ⟨hk.1.1.2.2.2.2.2, hk.2⟩⟩⟩⟩⟩⟩, hk.1.2⟩)) hg hat)
                    have n3_ := Aside0.mk (blk_grown (g := gb245) (o := .cells #[.slice Ao16 t240.length co16] 24 (0, 0)) (by (with_reducible repeat (first | refine bN ?_ _ | refine bD ?_ | refine bA ?_ _)); exact BK245.out) hg (Kd.N_ne HO283.out BK245.out (by decide)))
                    have n4_ := Aside0.mk (blk_grown (g := gb246) (o := .cells #[.int .i64 t243, .int .i64 t244] 48 (0, 0)) (by (with_reducible repeat (first | refine bN ?_ _ | refine bD ?_ | refine bA ?_ _)); exact BK246.out) hg (Kd.N_ne HO283.out BK246.out (by decide)))
                    have n5_ := Aside0.mk (blk_grown (g := gb252) (o := .cells #[.slice Ao23 t247.length co23] 24 (0, 0)) (by (with_reducible repeat (first | refine bN ?_ _ | refine bD ?_ | refine bA ?_ _)); exact BK252.out) hg (Kd.N_ne HO283.out BK252.out (by decide)))
                    have n6_ := Aside0.mk (blk_grown (g := gb253) (o := .cells #[.int .i64 t250, .int .i64 t251] 48 (0, 0)) (by (with_reducible repeat (first | refine bN ?_ _ | refine bD ?_ | refine bA ?_ _)); exact BK253.out) hg (Kd.N_ne HO283.out BK253.out (by decide)))
                    have n7_ := Aside0.mk (Kd.V_afterv (ok := (fun k_ => k_ ≠ gb245 ∧ k_ ≠ gb246 ∧ k_ ≠ gb252 ∧ k_ ≠ gb253 ∧ k_ ≠ gb279 ∧ k_ ≠ gb280 ∧ k_ ≠ gb290)) (by (with_reducible repeat (first | apply Kd.V_alloc | apply Kd.V_drewN | apply Kd.V_drew)); exact Kd.V_mono HO276.out (fun _ hk => ⟨⟨hk.1.1.1, ⟨hk.1.1.2.1, ⟨hk.1.1.2.2.1, ⟨hk.1.1.2.2.2.1, ⟨hk.1.1.2.2.2.2.1, ⟨hk.1.1.2.2.2.2.2, hk.2⟩⟩⟩⟩⟩⟩, hk.1.2⟩)) hg hat)
                    have n8_ := Aside0.mk (blk_grown (g := gb279) (o := .cells #[.slice Ao136 t274.length co136] 24 (0, 0)) (by (with_reducible repeat (first | refine bN ?_ _ | refine bD ?_ | refine bA ?_ _)); exact BK279.out) hg (Kd.N_ne HO283.out BK279.out (by decide)))
                    have n9_ := Aside0.mk (blk_grown (g := gb280) (o := .cells #[.int .i64 t277, .int .i64 t278] 48 (0, 0)) (by (with_reducible repeat (first | refine bN ?_ _ | refine bD ?_ | refine bA ?_ _)); exact BK280.out) hg (Kd.N_ne HO283.out BK280.out (by decide)))
                    have n10_ := Aside0.mk (blk_grown (g := gb290) (o := .cells #[.slice none 0 0] 24 (0, 0)) (by (with_reducible repeat (first | refine bN ?_ _ | refine bD ?_ | refine bA ?_ _)); exact BK290.out) hg (Kd.N_ne HO283.out BK290.out (by decide)))
                    have n11_ := Aside0.mk (hb)
                    have n12_ := Aside0.mk (ho)
                    clear HO_58
                    clear HO_246000
                    clear HO_253000
                    clear BK245
                    clear BK246
                    clear BK252
                    clear BK253
                    clear HO276
                    clear BK279
                    clear BK280
                    clear BK290
                    clear HB
                    clear HO283
                    have HO_58 := n0_
                    have HO_246000 := n1_
                    have HO_253000 := n2_
                    have BK245 := n3_
                    have BK246 := n4_
                    have BK252 := n5_
                    have BK253 := n6_
                    have HO276 := n7_
                    have BK279 := n8_
                    have BK280 := n9_
                    have BK290 := n10_
                    have HB := n11_
                    have HO286 := n12_
                    clear n0_ n1_ n2_ n3_ n4_ n5_ n6_ n7_ n8_ n9_ n10_ n11_ n12_
                    clear ho hb hg hat
                    refine hK.out _ _ ⟨(blk_cell BK245.out 0).trans rfl, (blk_cell BK252.out 0).trans rfl⟩ (fun hHeld => ?_)
                    clear hK K
                    refine norm_ (a' := ?_) ?_ ?_
                    rotate_left
                    ·
                     show Act.put _ (some 95) _ = _
                     simp only [Act.put, List.setIfInBounds_toArray, List.set_cons_zero, List.set_cons_succ, i64_w, i32_w]
                     rfl
                    refine one_ (i := 6) (N := some 98) #[true, true, true, true, true, true, true, false, true, false] rfl rfl (one_of HT_.out (by kernel_rfl)) (by decide) (fun K hK => ?_)
                    refine Kd.N_append_rows_step k29 (w0 := w) w.heap.size (by rfl) (.tmp 95) (.tmp 97) 22 29 (.agg #[(.string ⟨#[]⟩), (.int .i64 0), (.int .i64 0), (.int .i64 0), (.bool false), (.bool false), (.slice none 0 0)]) 72 rfl Tryd.underlying22 info29 rfl (by decide) (by omega) v285 y284 t247 _ _ _ (fun k_ => k_ ≠ gb245 ∧ k_ ≠ gb246 ∧ k_ ≠ gb252 ∧ k_ ≠ gb253 ∧ k_ ≠ gb279 ∧ k_ ≠ gb280 ∧ k_ ≠ gb290) (fun k_ => ((fun k_ => k_ ≠ gb245 ∧ k_ ≠ gb246 ∧ k_ ≠ gb252 ∧ k_ ≠ gb253 ∧ k_ ≠ gb279 ∧ k_ ≠ gb280 ∧ k_ ≠ gb290)) k_ ∧ some k_ ≠ (v285 : Value).ownBlock) rfl rfl ?aO ?aR (fun _ hk => hk) ?aF ?aB ?aS ?aL ?_
                    (case aR => exact (by skip; exact Kd.V_F (Kd.V_mono (ok' := (fun k_ => ((fun k_ => k_ ≠ gb245 ∧ k_ ≠ gb246 ∧ k_ ≠ gb252 ∧ k_ ≠ gb253 ∧ k_ ≠ gb279 ∧ k_ ≠ gb280 ∧ k_ ≠ gb290)) k_ ∧ some k_ ≠ (v285 : Value).ownBlock)) (HO_253000.out) (fun k_ hk => ⟨⟨hk.1.1, ⟨hk.1.2.1, ⟨hk.1.2.2.1, ⟨hk.1.2.2.2.1, ⟨hk.1.2.2.2.2.1, ⟨hk.1.2.2.2.2.2.1, hk.1.2.2.2.2.2.2⟩⟩⟩⟩⟩⟩, hk.2⟩))))
                    (case aB => exact (by repeat (first | (with_reducible first | exact HB.out | apply below_alloc | apply pw_below_drewN | apply below_drew1 | refine below_set ?_ GE245.out | refine below_set ?_ GE246.out | refine below_set ?_ GE252.out | refine below_set ?_ GE253.out | refine below_set ?_ GE279.out | refine below_set ?_ GE280.out | refine below_set ?_ GE290.out) | exact HB.out)))
                    (case aF => exact (fun k_ hk => ⟨Kd.freshB (g := gb245) (o := .cells #[.slice Ao16 t240.length co16] 24 (0, 0)) (by (with_reducible repeat (first | refine bN ?_ _ | refine bD ?_ | refine bA ?_ _)); exact BK245.out) k_ hk, Kd.freshB (g := gb246) (o := .cells #[.int .i64 t243, .int .i64 t244] 48 (0, 0)) (by (with_reducible repeat (first | refine bN ?_ _ | refine bD ?_ | refine bA ?_ _)); exact BK246.out) k_ hk, Kd.freshB (g := gb252) (o := .cells #[.slice Ao23 t247.length co23] 24 (0, 0)) (by (with_reducible repeat (first | refine bN ?_ _ | refine bD ?_ | refine bA ?_ _)); exact BK252.out) k_ hk, Kd.freshB (g := gb253) (o := .cells #[.int .i64 t250, .int .i64 t251] 48 (0, 0)) (by (with_reducible repeat (first | refine bN ?_ _ | refine bD ?_ | refine bA ?_ _)); exact BK253.out) k_ hk, Kd.freshB (g := gb279) (o := .cells #[.slice Ao136 t274.length co136] 24 (0, 0)) (by (with_reducible repeat (first | refine bN ?_ _ | refine bD ?_ | refine bA ?_ _)); exact BK279.out) k_ hk, Kd.freshB (g := gb280) (o := .cells #[.int .i64 t277, .int .i64 t278] 48 (0, 0)) (by (with_reducible repeat (first | refine bN ?_ _ | refine bD ?_ | refine bA ?_ _)); exact BK280.out) k_ hk, Kd.freshB (g := gb290) (o := .cells #[.slice none 0 0] 24 (0, 0)) (by (with_reducible repeat (first | refine bN ?_ _ | refine bD ?_ | refine bA ?_ _)); exact BK290.out) k_ hk⟩))
                    (case aO => exact (by (with_reducible repeat (first | apply Kd.N_alloc | apply Kd.N_drewN | apply Kd.N_drew)); exact HO286.out))
                    (case aS => exact (below_size (by repeat (first | (with_reducible first | exact HB.out | apply below_alloc | apply pw_below_drewN | apply below_drew1 | refine below_set ?_ GE245.out | refine below_set ?_ GE246.out | refine below_set ?_ GE252.out | refine below_set ?_ GE253.out | refine below_set ?_ GE279.out | refine below_set ?_ GE280.out | refine below_set ?_ GE290.out) | exact HB.out))))
                    (case aL => have := LMc128.out; omega)
                    intro v288 w154 ho hb hg hat
                    rw [← Ny287.out] at ho
                    have n0_ := Aside0.mk (Kd.V_afterv (ok := (fun k_ => k_ ≠ gb245 ∧ k_ ≠ gb246 ∧ k_ ≠ gb252 ∧ k_ ≠ gb253 ∧ k_ ≠ gb279 ∧ k_ ≠ gb280 ∧ k_ ≠ gb290)) (by (with_reducible repeat (first | apply Kd.V_alloc | apply Kd.V_drewN | apply Kd.V_drew)); exact HO_58.out) hg hat)
                    have n1_ := Aside0.mk (Kd.V_afterv (ok := (fun k_ => k_ ≠ gb245 ∧ k_ ≠ gb246 ∧ k_ ≠ gb252 ∧ k_ ≠ gb253 ∧ k_ ≠ gb279 ∧ k_ ≠ gb280 ∧ k_ ≠ gb290)) (by (with_reducible repeat (first | apply Kd.V_alloc | apply Kd.V_drewN | apply Kd.V_drew)); exact HO_246000.out) hg hat)
                    have n2_ := Aside0.mk (Kd.V_afterv (ok := (fun k_ => k_ ≠ gb245 ∧ k_ ≠ gb246 ∧ k_ ≠ gb252 ∧ k_ ≠ gb253 ∧ k_ ≠ gb279 ∧ k_ ≠ gb280 ∧ k_ ≠ gb290)) (by (with_reducible repeat (first | apply Kd.V_alloc | apply Kd.V_drewN | apply Kd.V_drew)); exact HO_253000.out) hg hat)
                    have n3_ := Aside0.mk (blk_grown (g := gb245) (o := .cells #[.slice Ao16 t240.length co16] 24 (0, 0)) (by (with_reducible repeat (first | refine bN ?_ _ | refine bD ?_ | refine bA ?_ _)); exact BK245.out) hg (Kd.N_ne HO286.out BK245.out (by decide)))
                    have n4_ := Aside0.mk (blk_grown (g := gb246) (o := .cells #[.int .i64 t243, .int .i64 t244] 48 (0, 0)) (by (with_reducible repeat (first | refine bN ?_ _ | refine bD ?_ | refine bA ?_ _)); exact BK246.out) hg (Kd.N_ne HO286.out BK246.out (by decide)))
                    have n5_ := Aside0.mk (blk_grown (g := gb252) (o := .cells #[.slice Ao23 t247.length co23] 24 (0, 0)) (by (with_reducible repeat (first | refine bN ?_ _ | refine bD ?_ | refine bA ?_ _)); exact BK252.out) hg (Kd.N_ne HO286.out BK252.out (by decide)))
                    have n6_ := Aside0.mk (blk_grown (g := gb253) (o := .cells #[.int .i64 t250, .int .i64 t251] 48 (0, 0)) (by (with_reducible repeat (first | refine bN ?_ _ | refine bD ?_ | refine bA ?_ _)); exact BK253.out) hg (Kd.N_ne HO286.out BK253.out (by decide)))
                    have n7_ := Aside0.mk (Kd.V_afterv (ok := (fun k_ => k_ ≠ gb245 ∧ k_ ≠ gb246 ∧ k_ ≠ gb252 ∧ k_ ≠ gb253 ∧ k_ ≠ gb279 ∧ k_ ≠ gb280 ∧ k_ ≠ gb290)) (by (with_reducible repeat (first | apply Kd.V_alloc | apply Kd.V_drewN | apply Kd.V_drew)); exact HO276.out) hg hat)
                    have n8_ := Aside0.mk (blk_grown (g := gb279) (o := .cells #[.slice Ao136 t274.length co136] 24 (0, 0)) (by (with_reducible repeat (first | refine bN ?_ _ | refine bD ?_ | refine bA ?_ _)); exact BK279.out) hg (Kd.N_ne HO286.out BK279.out (by decide)))
                    have n9_ := Aside0.mk (blk_grown (g := gb280) (o := .cells #[.int .i64 t277, .int .i64 t278] 48 (0, 0)) (by (with_reducible repeat (first | refine bN ?_ _ | refine bD ?_ | refine bA ?_ _)); exact BK280.out) hg (Kd.N_ne HO286.out BK280.out (by decide)))
                    have n10_ := Aside0.mk (blk_grown (g := gb290) (o := .cells #[.slice none 0 0] 24 (0, 0)) (by (with_reducible repeat (first | refine bN ?_ _ | refine bD ?_ | refine bA ?_ _)); exact BK290.out) hg (Kd.N_ne HO286.out BK290.out (by decide)))
                    have n11_ := Aside0.mk (hb)
                    have n12_ := Aside0.mk (ho)
                    clear HO_58
                    clear HO_246000
                    clear HO_253000
                    clear BK245
                    clear BK246
                    clear BK252
                    clear BK253
                    clear HO276
                    clear BK279
                    clear BK280
                    clear BK290
                    clear HB
                    clear HO286
                    have HO_58 := n0_
                    have HO_246000 := n1_
                    have HO_253000 := n2_
                    have BK245 := n3_
                    have BK246 := n4_
                    have BK252 := n5_
                    have BK253 := n6_
                    have HO276 := n7_
                    have BK279 := n8_
                    have BK280 := n9_
                    have BK290 := n10_
                    have HB := n11_
                    have HO289 := n12_
                    clear n0_ n1_ n2_ n3_ n4_ n5_ n6_ n7_ n8_ n9_ n10_ n11_ n12_
                    clear ho hb hg hat
                    obtain ⟨Ao155, co155, eo155⟩ := Kd.N_slice HO289.out
                    (first | subst eo155 | (injection eo155 with f1_ f2_ f3_; have f4_ := f1_.symm; have f5_ := f3_.symm; clear f1_ f2_ f3_; subst f4_; subst f5_))
                    refine hK.out _ _ ⟨(blk_cell BK245.out 0).trans rfl, (blk_cell BK252.out 0).trans rfl⟩ (fun hHeld => ?_)
                    clear hK K
                    refine norm_ (a' := ?_) ?_ ?_
                    rotate_left
                    ·
                     show Act.put _ (some 98) _ = _
                     simp only [Act.put, List.setIfInBounds_toArray, List.set_cons_zero, List.set_cons_succ, i64_w, i32_w]
                     rfl
                    refine pure_ (i := 7) (N := some 99) (v := ?_) (a' := ?_) #[true, true, true, true, true, true, true, true, true, false] rfl rfl (any_of HT_.out (by kernel_rfl)) (fun _ _ _ h => h) (Or.inl ⟨by rfl, ?_⟩) ?_ ?_
                    rotate_left
                    ·
                     intro w'
                     go_simp
                     with_reducible rfl
                    rotate_left
                    ·
                     simp only [Act.put, List.setIfInBounds_toArray, List.set_cons_zero, List.set_cons_succ, i64_w, i32_w]
                     rfl
                    exact norm_ (by simp only [putAll, Act.put, List.setIfInBounds_toArray, List.set_cons_zero, List.set_cons_succ]) (hCont (v282, v285, .slice Ao155 y287.length co155, gb290) _ ⟨hHeld, (by (with_reducible repeat (first | apply Kd.V_alloc | apply Kd.V_drewN | apply Kd.V_drew)); exact Kd.V_mono HO276.out (fun _ hk => ⟨hk.2, ⟨hk.1.1, ⟨hk.1.2.1, ⟨hk.1.2.2.1, ⟨hk.1.2.2.2.1, ⟨hk.1.2.2.2.2.1, ⟨hk.1.2.2.2.2.2.1, hk.1.2.2.2.2.2.2⟩⟩⟩⟩⟩⟩⟩)), (by (with_reducible repeat (first | apply Kd.N_alloc | apply Kd.N_drewN | apply Kd.N_drew)); exact HO289.out), (by (with_reducible repeat (first | apply Kd.V_alloc | apply Kd.V_drewN | apply Kd.V_drew)); exact Kd.V_mono HO_246000.out (fun _ hk => ⟨hk.2, ⟨hk.1.1, ⟨hk.1.2.1, ⟨hk.1.2.2.1, ⟨hk.1.2.2.2.1, ⟨hk.1.2.2.2.2.1, ⟨hk.1.2.2.2.2.2.1, hk.1.2.2.2.2.2.2⟩⟩⟩⟩⟩⟩⟩)), (by (with_reducible repeat (first | apply Kd.V_alloc | apply Kd.V_drewN | apply Kd.V_drew)); exact Kd.V_mono HO_253000.out (fun _ hk => ⟨hk.2, ⟨hk.1.1, ⟨hk.1.2.1, ⟨hk.1.2.2.1, ⟨hk.1.2.2.2.1, ⟨hk.1.2.2.2.2.1, ⟨hk.1.2.2.2.2.2.1, hk.1.2.2.2.2.2.2⟩⟩⟩⟩⟩⟩⟩)), (by (with_reducible repeat (first | apply Kd.V_alloc | apply Kd.V_drewN | apply Kd.V_drew)); exact Kd.V_mono HO_58.out (fun _ hk => ⟨hk.2, ⟨hk.1.1, ⟨hk.1.2.1, ⟨hk.1.2.2.1, ⟨hk.1.2.2.2.1, ⟨hk.1.2.2.2.2.1, ⟨hk.1.2.2.2.2.2.1, hk.1.2.2.2.2.2.2⟩⟩⟩⟩⟩⟩⟩)), (by (with_reducible repeat (first | refine bN ?_ _ | refine bD ?_ | refine bA ?_ _)); exact BK245.out), (by (with_reducible repeat (first | refine bN ?_ _ | refine bD ?_ | refine bA ?_ _)); exact BK246.out), (by (with_reducible repeat (first | refine bN ?_ _ | refine bD ?_ | refine bA ?_ _)); exact BK252.out), (by (with_reducible repeat (first | refine bN ?_ _ | refine bD ?_ | refine bA ?_ _)); exact BK253.out), (by (with_reducible repeat (first | refine bN ?_ _ | refine bD ?_ | refine bA ?_ _)); exact BK279.out), (by (with_reducible repeat (first | refine bN ?_ _ | refine bD ?_ | refine bA ?_ _)); exact BK280.out), (by (with_reducible repeat (first | refine bN ?_ _ | refine bD ?_ | refine bA ?_ _)); exact BK290.out), GW290.out, GE290.out, NB245_290.out, NB290_245.out, NB246_290.out, NB290_246.out, NB252_290.out, NB290_252.out, NB253_290.out, NB290_253.out, NB279_290.out, NB290_279.out, NB280_290.out, NB290_280.out, (by repeat (first | (with_reducible first | exact HB.out | apply below_alloc | apply pw_below_drewN | apply below_drew1 | refine below_set ?_ GE245.out | refine below_set ?_ GE246.out | refine below_set ?_ GE252.out | refine below_set ?_ GE253.out | refine below_set ?_ GE279.out | refine below_set ?_ GE280.out | refine below_set ?_ GE290.out) | exact HB.out))⟩)
                  ·
                   skip
                   refine box_step ?hg (N := 17) ?hd (cs := #[.slice none 0 0]) (t := 24) ?hr ?_; (case hd => rfl); (case hg => rfl); (case hr => first | (go_simp; done) | (go_simp; rfl))
                   intro gb290 hg w150 hbox hb
                   have n0_ := Aside0.mk (Kd.V_below (Kd.V_elderB (by (with_reducible repeat (first | apply Kd.V_alloc | apply Kd.V_drewN | apply Kd.V_drew)); exact HO_58.out) gb290 (Nat.le_of_eq hg.symm)) hb)
                   have n1_ := Aside0.mk (Kd.V_below (Kd.V_elderB (by (with_reducible repeat (first | apply Kd.V_alloc | apply Kd.V_drewN | apply Kd.V_drew)); exact HO_246000.out) gb290 (Nat.le_of_eq hg.symm)) hb)
                   have n2_ := Aside0.mk (Kd.V_below (Kd.V_elderB (by (with_reducible repeat (first | apply Kd.V_alloc | apply Kd.V_drewN | apply Kd.V_drew)); exact HO_253000.out) gb290 (Nat.le_of_eq hg.symm)) hb)
                   have n3_ := Aside0.mk (Kd.V_below (Kd.V_elderB (by (with_reducible repeat (first | apply Kd.V_alloc | apply Kd.V_drewN | apply Kd.V_drew)); exact HO276.out) gb290 (Nat.le_of_eq hg.symm)) hb)
                   have n4_ := Aside0.mk (blk_below (g := gb245) (o := .cells #[.slice Ao16 t240.length co16] 24 (0, 0)) (by (with_reducible repeat (first | refine bN ?_ _ | refine bD ?_ | refine bA ?_ _)); exact BK245.out) hb)
                   have n5_ := Aside0.mk (blk_below (g := gb246) (o := .cells #[.int .i64 t243, .int .i64 t244] 48 (0, 0)) (by (with_reducible repeat (first | refine bN ?_ _ | refine bD ?_ | refine bA ?_ _)); exact BK246.out) hb)
                   have n6_ := Aside0.mk (blk_below (g := gb252) (o := .cells #[.slice Ao23 t247.length co23] 24 (0, 0)) (by (with_reducible repeat (first | refine bN ?_ _ | refine bD ?_ | refine bA ?_ _)); exact BK252.out) hb)
                   have n7_ := Aside0.mk (blk_below (g := gb253) (o := .cells #[.int .i64 t250, .int .i64 t251] 48 (0, 0)) (by (with_reducible repeat (first | refine bN ?_ _ | refine bD ?_ | refine bA ?_ _)); exact BK253.out) hb)
                   have n8_ := Aside0.mk (blk_below (g := gb279) (o := .cells #[.slice Ao136 t274.length co136] 24 (0, 0)) (by (with_reducible repeat (first | refine bN ?_ _ | refine bD ?_ | refine bA ?_ _)); exact BK279.out) hb)
                   have n9_ := Aside0.mk (blk_below (g := gb280) (o := .cells #[.int .i64 t277, .int .i64 t278] 48 (0, 0)) (by (with_reducible repeat (first | refine bN ?_ _ | refine bD ?_ | refine bA ?_ _)); exact BK280.out) hb)
                   have n10_ := Aside0.mk (below_step (by repeat (first | (with_reducible first | exact HB.out | apply below_alloc | apply pw_below_drewN | apply below_drew1 | refine below_set ?_ GE245.out | refine below_set ?_ GE246.out | refine below_set ?_ GE252.out | refine below_set ?_ GE253.out | refine below_set ?_ GE279.out | refine below_set ?_ GE280.out) | exact HB.out)) hb)
                   have n11_ := Aside0.mk (hbox)
                   have n12_ := Aside0.mk ((by rw [hg]; exact (below_size (by repeat (first | (with_reducible first | exact HB.out | apply below_alloc | apply pw_below_drewN | apply below_drew1 | refine below_set ?_ GE245.out | refine below_set ?_ GE246.out | refine below_set ?_ GE252.out | refine below_set ?_ GE253.out | refine below_set ?_ GE279.out | refine below_set ?_ GE280.out) | exact HB.out))) : w.heap.size ≤ gb290))
                   have n13_ := Aside0.mk ((by rw [hg]; exact (below_size (by repeat (first | (with_reducible first | exact HB.out | apply below_alloc | apply pw_below_drewN | apply below_drew1 | refine below_set ?_ GE245.out | refine below_set ?_ GE246.out | refine below_set ?_ GE252.out | refine below_set ?_ GE253.out | refine below_set ?_ GE279.out | refine below_set ?_ GE280.out) | exact HB.out))) : w.heap.size ≤ gb290))
                   have n14_ := Aside0.mk ((by rw [hg]; exact Nat.ne_of_lt (blk_lt (g := gb245) (o := .cells #[.slice Ao16 t240.length co16] 24 (0, 0)) (by (with_reducible repeat (first | refine bN ?_ _ | refine bD ?_ | refine bA ?_ _)); exact BK245.out)) : gb245 ≠ gb290))
                   have n15_ := Aside0.mk ((by rw [hg]; exact Nat.ne_of_gt (blk_lt (g := gb245) (o := .cells #[.slice Ao16 t240.length co16] 24 (0, 0)) (by (with_reducible repeat (first | refine bN ?_ _ | refine bD ?_ | refine bA ?_ _)); exact BK245.out)) : gb290 ≠ gb245))
                   have n16_ := Aside0.mk ((by rw [hg]; exact Nat.ne_of_lt (blk_lt (g := gb246) (o := .cells #[.int .i64 t243, .int .i64 t244] 48 (0, 0)) (by (with_reducible repeat (first | refine bN ?_ _ | refine bD ?_ | refine bA ?_ _)); exact BK246.out)) : gb246 ≠ gb290))
                   have n17_ := Aside0.mk ((by rw [hg]; exact Nat.ne_of_gt (blk_lt (g := gb246) (o := .cells #[.int .i64 t243, .int .i64 t244] 48 (0, 0)) (by (with_reducible repeat (first | refine bN ?_ _ | refine bD ?_ | refine bA ?_ _)); exact BK246.out)) : gb290 ≠ gb246))
                   have n18_ := Aside0.mk ((by rw [hg]; exact Nat.ne_of_lt (blk_lt (g := gb252) (o := .cells #[.slice Ao23 t247.length co23] 24 (0, 0)) (by (with_reducible repeat (first | refine bN ?_ _ | refine bD ?_ | refine bA ?_ _)); exact BK252.out)) : gb252 ≠ gb290))
                   have n19_ := Aside0.mk ((by rw [hg]; exact Nat.ne_of_gt (blk_lt (g := gb252) (o := .cells #[.slice Ao23 t247.length co23] 24 (0, 0)) (by (with_reducible repeat (first | refine bN ?_ _ | refine bD ?_ | refine bA ?_ _)); exact BK252.out)) : gb290 ≠ gb252))
                   have n20_ := Aside0.mk ((by rw [hg]; exact Nat.ne_of_lt (blk_lt (g := gb253) (o := .cells #[.int .i64 t250, .int .i64 t251] 48 (0, 0)) (by (with_reducible repeat (first | refine bN ?_ _ | refine bD ?_ | refine bA ?_ _)); exact BK253.out)) : gb253 ≠ gb290))
                   have n21_ := Aside0.mk ((by rw [hg]; exact Nat.ne_of_gt (blk_lt (g := gb253) (o := .cells #[.int .i64 t250, .int .i64 t251] 48 (0, 0)) (by (with_reducible repeat (first | refine bN ?_ _ | refine bD ?_ | refine bA ?_ _)); exact BK253.out)) : gb290 ≠ gb253))
                   have n22_ := Aside0.mk ((by rw [hg]; exact Nat.ne_of_lt (blk_lt (g := gb279) (o := .cells #[.slice Ao136 t274.length co136] 24 (0, 0)) (by (with_reducible repeat (first | refine bN ?_ _ | refine bD ?_ | refine bA ?_ _)); exact BK279.out)) : gb279 ≠ gb290))
                   have n23_ := Aside0.mk ((by rw [hg]; exact Nat.ne_of_gt (blk_lt (g := gb279) (o := .cells #[.slice Ao136 t274.length co136] 24 (0, 0)) (by (with_reducible repeat (first | refine bN ?_ _ | refine bD ?_ | refine bA ?_ _)); exact BK279.out)) : gb290 ≠ gb279))
                   have n24_ := Aside0.mk ((by rw [hg]; exact Nat.ne_of_lt (blk_lt (g := gb280) (o := .cells #[.int .i64 t277, .int .i64 t278] 48 (0, 0)) (by (with_reducible repeat (first | refine bN ?_ _ | refine bD ?_ | refine bA ?_ _)); exact BK280.out)) : gb280 ≠ gb290))
                   have n25_ := Aside0.mk ((by rw [hg]; exact Nat.ne_of_gt (blk_lt (g := gb280) (o := .cells #[.int .i64 t277, .int .i64 t278] 48 (0, 0)) (by (with_reducible repeat (first | refine bN ?_ _ | refine bD ?_ | refine bA ?_ _)); exact BK280.out)) : gb290 ≠ gb280))
                   clear HO_58
                   clear HO_246000
                   clear HO_253000
                   clear HO276
                   clear BK245
                   clear BK246
                   clear BK252
                   clear BK253
                   clear BK279
                   clear BK280
                   clear HB
                   have HO_58 := n0_
                   have HO_246000 := n1_
                   have HO_253000 := n2_
                   have HO276 := n3_
                   have BK245 := n4_
                   have BK246 := n5_
                   have BK252 := n6_
                   have BK253 := n7_
                   have BK279 := n8_
                   have BK280 := n9_
                   have HB := n10_
                   have BK290 := n11_
                   have GW290 := n12_
                   have GE290 := n13_
                   have NB245_290 := n14_
                   have NB290_245 := n15_
                   have NB246_290 := n16_
                   have NB290_246 := n17_
                   have NB252_290 := n18_
                   have NB290_252 := n19_
                   have NB253_290 := n20_
                   have NB290_253 := n21_
                   have NB279_290 := n22_
                   have NB290_279 := n23_
                   have NB280_290 := n24_
                   have NB290_280 := n25_
                   clear n0_ n1_ n2_ n3_ n4_ n5_ n6_ n7_ n8_ n9_ n10_ n11_ n12_ n13_ n14_ n15_ n16_ n17_ n18_ n19_ n20_ n21_ n22_ n23_ n24_ n25_
                   clear hb hbox hg
                   refine hK.out _ _ ⟨(blk_cell BK245.out 0).trans rfl, (blk_cell BK252.out 0).trans rfl⟩ (fun hHeld => ?_)
                   clear hK K
                   refine norm_ (a' := ?_) ?_ ?_
                   rotate_left
                   ·
                    show Act.put _ (some 17) _ = _
                    simp only [Act.put, List.setIfInBounds_toArray, List.set_cons_zero, List.set_cons_succ, i64_w, i32_w]
                    rfl
                   refine one_ (i := 0) (N := some 92) #[true, true, true, false, true, true, false, false, true, false] rfl rfl (one_of HT_.out (by kernel_rfl)) (by decide) (fun K hK => ?_)
                   refine Kd.N_lit_step k29 _ 29 ?hg (N' := 92) ?hd (xs := ([] : List (S29))) (inner := []) (ok := (fun k_ => k_ ≠ gb245 ∧ k_ ≠ gb246 ∧ k_ ≠ gb252 ∧ k_ ≠ gb253 ∧ k_ ≠ gb279 ∧ k_ ≠ gb280 ∧ k_ ≠ gb290)) (okp := (fun k_ => k_ ≠ gb245 ∧ k_ ≠ gb246 ∧ k_ ≠ gb252 ∧ k_ ≠ gb253 ∧ k_ ≠ gb279 ∧ k_ ≠ gb280 ∧ k_ ≠ gb290)) ?hr ?hp (fun _ hk => hk) ((show ∀ k_, w150.heap.size ≤ k_ → (fun k_ => k_ ≠ gb245 ∧ k_ ≠ gb246 ∧ k_ ≠ gb252 ∧ k_ ≠ gb253 ∧ k_ ≠ gb279 ∧ k_ ≠ gb280 ∧ k_ ≠ gb290) k_ from fun k_ hk => ⟨Kd.freshB (g := gb245) (o := .cells #[.slice Ao16 t240.length co16] 24 (0, 0)) (by (with_reducible repeat (first | refine bN ?_ _ | refine bD ?_ | refine bA ?_ _)); exact BK245.out) k_ hk, Kd.freshB (g := gb246) (o := .cells #[.int .i64 t243, .int .i64 t244] 48 (0, 0)) (by (with_reducible repeat (first | refine bN ?_ _ | refine bD ?_ | refine bA ?_ _)); exact BK246.out) k_ hk, Kd.freshB (g := gb252) (o := .cells #[.slice Ao23 t247.length co23] 24 (0, 0)) (by (with_reducible repeat (first | refine bN ?_ _ | refine bD ?_ | refine bA ?_ _)); exact BK252.out) k_ hk, Kd.freshB (g := gb253) (o := .cells #[.int .i64 t250, .int .i64 t251] 48 (0, 0)) (by (with_reducible repeat (first | refine bN ?_ _ | refine bD ?_ | refine bA ?_ _)); exact BK253.out) k_ hk, Kd.freshB (g := gb279) (o := .cells #[.slice Ao136 t274.length co136] 24 (0, 0)) (by (with_reducible repeat (first | refine bN ?_ _ | refine bD ?_ | refine bA ?_ _)); exact BK279.out) k_ hk, Kd.freshB (g := gb280) (o := .cells #[.int .i64 t277, .int .i64 t278] 48 (0, 0)) (by (with_reducible repeat (first | refine bN ?_ _ | refine bD ?_ | refine bA ?_ _)); exact BK280.out) k_ hk, Kd.freshB (g := gb290) (o := .cells #[.slice none 0 0] 24 (0, 0)) (by (with_reducible repeat (first | refine bN ?_ _ | refine bD ?_ | refine bA ?_ _)); exact BK290.out) k_ hk⟩) _ (Nat.le_refl _)) (Below.refl _ _) (Nat.le_refl _) (by simp) ?_; (case hd => rfl); (case hg => rfl); (case hr => first | (go_simp; done) | (go_simp; rfl)); (case hp => exact (Reps.none _ _))
                   intro v282 w151 ho152 hb hg_ hnew_
                   clear hg_ hnew_
                   (first | rw [← Ny281.out] at ho152 | (simp only [Int.reduceToNat] at ho152; rw [← Ny281.out] at ho152))
                   have n0_ := Aside0.mk (Kd.V_elder' (by (with_reducible repeat (first | apply Kd.V_alloc | apply Kd.V_drewN | apply Kd.V_drew)); exact HO_58.out) (Kd.N_base ho152) hb)
                   have n1_ := Aside0.mk (Kd.V_elder' (by (with_reducible repeat (first | apply Kd.V_alloc | apply Kd.V_drewN | apply Kd.V_drew)); exact HO_246000.out) (Kd.N_base ho152) hb)
                   have n2_ := Aside0.mk (Kd.V_elder' (by (with_reducible repeat (first | apply Kd.V_alloc | apply Kd.V_drewN | apply Kd.V_drew)); exact HO_253000.out) (Kd.N_base ho152) hb)
                   have n3_ := Aside0.mk (Kd.V_elder' (by (with_reducible repeat (first | apply Kd.V_alloc | apply Kd.V_drewN | apply Kd.V_drew)); exact HO276.out) (Kd.N_base ho152) hb)
                   have n4_ := Aside0.mk (Kd.N_lower ho152 (below_size (by repeat (first | (with_reducible first | exact HB.out | apply below_alloc | apply pw_below_drewN | apply below_drew1 | refine below_set ?_ GE245.out | refine below_set ?_ GE246.out | refine below_set ?_ GE252.out | refine below_set ?_ GE253.out | refine below_set ?_ GE279.out | refine below_set ?_ GE280.out | refine below_set ?_ GE290.out) | exact HB.out))))
                   have n5_ := Aside0.mk (blk_below (g := gb245) (o := .cells #[.slice Ao16 t240.length co16] 24 (0, 0)) (by (with_reducible repeat (first | refine bN ?_ _ | refine bD ?_ | refine bA ?_ _)); exact BK245.out) hb)
                   have n6_ := Aside0.mk (blk_below (g := gb246) (o := .cells #[.int .i64 t243, .int .i64 t244] 48 (0, 0)) (by (with_reducible repeat (first | refine bN ?_ _ | refine bD ?_ | refine bA ?_ _)); exact BK246.out) hb)
                   have n7_ := Aside0.mk (blk_below (g := gb252) (o := .cells #[.slice Ao23 t247.length co23] 24 (0, 0)) (by (with_reducible repeat (first | refine bN ?_ _ | refine bD ?_ | refine bA ?_ _)); exact BK252.out) hb)
                   have n8_ := Aside0.mk (blk_below (g := gb253) (o := .cells #[.int .i64 t250, .int .i64 t251] 48 (0, 0)) (by (with_reducible repeat (first | refine bN ?_ _ | refine bD ?_ | refine bA ?_ _)); exact BK253.out) hb)
                   have n9_ := Aside0.mk (blk_below (g := gb279) (o := .cells #[.slice Ao136 t274.length co136] 24 (0, 0)) (by (with_reducible repeat (first | refine bN ?_ _ | refine bD ?_ | refine bA ?_ _)); exact BK279.out) hb)
                   have n10_ := Aside0.mk (blk_below (g := gb280) (o := .cells #[.int .i64 t277, .int .i64 t278] 48 (0, 0)) (by (with_reducible repeat (first | refine bN ?_ _ | refine bD ?_ | refine bA ?_ _)); exact BK280.out) hb)
                   have n11_ := Aside0.mk (blk_below (g := gb290) (o := .cells #[.slice none 0 0] 24 (0, 0)) (by (with_reducible repeat (first | refine bN ?_ _ | refine bD ?_ | refine bA ?_ _)); exact BK290.out) hb)
                   have n12_ := Aside0.mk (below_step (by repeat (first | (with_reducible first | exact HB.out | apply below_alloc | apply pw_below_drewN | apply below_drew1 | refine below_set ?_ GE245.out | refine below_set ?_ GE246.out | refine below_set ?_ GE252.out | refine below_set ?_ GE253.out | refine below_set ?_ GE279.out | refine below_set ?_ GE280.out | refine below_set ?_ GE290.out) | exact HB.out)) hb)
                   clear HO_58
                   clear HO_246000
                   clear HO_253000
                   clear HO276
                   clear BK245
                   clear BK246
                   clear BK252
                   clear BK253
                   clear BK279
                   clear BK280
                   clear BK290
                   clear HB
                   have HO_58 := n0_
                   have HO_246000 := n1_
                   have HO_253000 := n2_
                   have HO276 := n3_
                   have HO283 := n4_
                   have BK245 := n5_
                   have BK246 := n6_
                   have BK252 := n7_
                   have BK253 := n8_
                   have BK279 := n9_
                   have BK280 := n10_
                   have BK290 := n11_
                   have HB := n12_
                   clear n0_ n1_ n2_ n3_ n4_ n5_ n6_ n7_ n8_ n9_ n10_ n11_ n12_
                   clear hb ho152
                   refine hK.out _ _ ⟨(blk_cell BK245.out 0).trans rfl, (blk_cell BK252.out 0).trans rfl⟩ (fun hHeld => ?_)
                   clear hK K
                   refine norm_ (a' := ?_) ?_ ?_
                   rotate_left
                   ·
                    show Act.put _ (some 92) _ = _
                    simp only [Act.put, List.setIfInBounds_toArray, List.set_cons_zero, List.set_cons_succ, i64_w, i32_w]
                    rfl
                   refine one_ (i := 3) (N := some 95) #[true, true, true, true, true, true, false, false, true, false] rfl rfl (one_of HT_.out (by kernel_rfl)) (by decide) (fun K hK => ?_)
                   refine Kd.N_append_rows_step k29 (w0 := w) w.heap.size (by rfl) (.tmp 92) (.tmp 94) 22 29 (.agg #[(.string ⟨#[]⟩), (.int .i64 0), (.int .i64 0), (.int .i64 0), (.bool false), (.bool false), (.slice none 0 0)]) 72 rfl Tryd.underlying22 info29 rfl (by decide) (by omega) v282 y281 t240 _ _ _ (fun k_ => k_ ≠ gb245 ∧ k_ ≠ gb246 ∧ k_ ≠ gb252 ∧ k_ ≠ gb253 ∧ k_ ≠ gb279 ∧ k_ ≠ gb280 ∧ k_ ≠ gb290) (fun k_ => ((fun k_ => k_ ≠ gb245 ∧ k_ ≠ gb246 ∧ k_ ≠ gb252 ∧ k_ ≠ gb253 ∧ k_ ≠ gb279 ∧ k_ ≠ gb280 ∧ k_ ≠ gb290)) k_ ∧ some k_ ≠ (v282 : Value).ownBlock) rfl rfl ?aO ?aR (fun _ hk => hk) ?aF ?aB ?aS ?aL ?_
                   (case aR => exact (by skip; exact Kd.V_F (Kd.V_mono (ok' := (fun k_ => ((fun k_ => k_ ≠ gb245 ∧ k_ ≠ gb246 ∧ k_ ≠ gb252 ∧ k_ ≠ gb253 ∧ k_ ≠ gb279 ∧ k_ ≠ gb280 ∧ k_ ≠ gb290)) k_ ∧ some k_ ≠ (v282 : Value).ownBlock)) (HO_246000.out) (fun k_ hk => ⟨⟨hk.1.1.1, ⟨hk.1.1.2.1, ⟨hk.1.1.2.2.1, ⟨hk.1.1.2.2.2.1, ⟨hk.1.1.2.2.2.2.1, ⟨hk.1.1.2.2.2.2.2, hk.1.2⟩⟩⟩⟩⟩⟩, hk.2⟩))))
                   (case aB => exact (by repeat (first | (with_reducible first | exact HB.out | apply below_alloc | apply pw_below_drewN | apply below_drew1 | refine below_set ?_ GE245.out | refine below_set ?_ GE246.out | refine below_set ?_ GE252.out | refine below_set ?_ GE253.out | refine below_set ?_ GE279.out | refine below_set ?_ GE280.out | refine below_set ?_ GE290.out) | exact HB.out)))
                   (case aF => exact (fun k_ hk => ⟨Kd.freshB (g := gb245) (o := .cells #[.slice Ao16 t240.length co16] 24 (0, 0)) (by (with_reducible repeat (first | refine bN ?_ _ | refine bD ?_ | refine bA ?_ _)); exact BK245.out) k_ hk, Kd.freshB (g := gb246) (o := .cells #[.int .i64 t243, .int .i64 t244] 48 (0, 0)) (by (with_reducible repeat (first | refine bN ?_ _ | refine bD ?_ | refine bA ?_ _)); exact BK246.out) k_ hk, Kd.freshB (g := gb252) (o := .cells #[.slice Ao23 t247.length co23] 24 (0, 0)) (by (with_reducible repeat (first | refine bN ?_ _ | refine bD ?_ | refine bA ?_ _)); exact BK252.out) k_ hk, Kd.freshB (g := gb253) (o := .cells #[.int .i64 t250, .int .i64 t251] 48 (0, 0)) (by (with_reducible repeat (first | refine bN ?_ _ | refine bD ?_ | refine bA ?_ _)); exact BK253.out) k_ hk, Kd.freshB (g := gb279) (o := .cells #[.slice Ao136 t274.length co136] 24 (0, 0)) (by (with_reducible repeat (first | refine bN ?_ _ | refine bD ?_ | refine bA ?_ _)); exact BK279.out) k_ hk, Kd.freshB (g := gb280) (o := .cells #[.int .i64 t277, .int .i64 t278] 48 (0, 0)) (by (with_reducible repeat (first | refine bN ?_ _ | refine bD ?_ | refine bA ?_ _)); exact BK280.out) k_ hk, Kd.freshB (g := gb290) (o := .cells #[.slice none 0 0] 24 (0, 0)) (by (with_reducible repeat (first | refine bN ?_ _ | refine bD ?_ | refine bA ?_ _)); exact BK290.out) k_ hk⟩))
                   (case aO => exact (by (with_reducible repeat (first | apply Kd.N_alloc | apply Kd.N_drewN | apply Kd.N_drew)); exact HO283.out))
                   (case aS => exact (below_size (by repeat (first | (with_reducible first | exact HB.out | apply below_alloc | apply pw_below_drewN | apply below_drew1 | refine below_set ?_ GE245.out | refine below_set ?_ GE246.out | refine below_set ?_ GE252.out | refine below_set ?_ GE253.out | refine below_set ?_ GE279.out | refine below_set ?_ GE280.out | refine below_set ?_ GE290.out) | exact HB.out))))
                   (case aL => have := LMc127.out; omega)
                   intro v285 w153 ho hb hg hat
                   rw [← Ny284.out] at ho
                   have n0_ := Aside0.mk (Kd.V_afterv (ok := (fun k_ => k_ ≠ gb245 ∧ k_ ≠ gb246 ∧ k_ ≠ gb252 ∧ k_ ≠ gb253 ∧ k_ ≠ gb279 ∧ k_ ≠ gb280 ∧ k_ ≠ gb290)) (by (with_reducible repeat (first | apply Kd.V_alloc | apply Kd.V_drewN | apply Kd.V_drew)); exact Kd.V_mono HO_58.out (fun _ hk => ⟨⟨hk.1.1.1, ⟨hk.1.1.2.1, ⟨hk.1.1.2.2.1, ⟨hk.1.1.2.2.2.1, ⟨hk.1.1.2.2.2.2.1, ⟨hk.1.1.2.2.2.2.2, hk.1.2⟩⟩⟩⟩⟩⟩, hk.2⟩)) hg hat)
                   have n1_ := Aside0.mk (Kd.V_afterv (ok := (fun k_ => k_ ≠ gb245 ∧ k_ ≠ gb246 ∧ k_ ≠ gb252 ∧ k_ ≠ gb253 ∧ k_ ≠ gb279 ∧ k_ ≠ gb280 ∧ k_ ≠ gb290)) (by (with_reducible repeat (first | apply Kd.V_alloc | apply Kd.V_drewN | apply Kd.V_drew)); exact Kd.V_mono HO_246000.out (fun _ hk => ⟨⟨hk.1.1.1, ⟨hk.1.1.2.1, ⟨hk.1.1.2.2.1, ⟨hk.1.1.2.2.2.1, ⟨hk.1.1.2.2.2.2.1, ⟨hk.1.1.2.2.2.2.2, hk.1.2⟩⟩⟩⟩⟩⟩, hk.2⟩)) hg hat)
                   have n2_ := Aside0.mk (Kd.V_afterv (ok := (fun k_ => k_ ≠ gb245 ∧ k_ ≠ gb246 ∧ k_ ≠ gb252 ∧ k_ ≠ gb253 ∧ k_ ≠ gb279 ∧ k_ ≠ gb280 ∧ k_ ≠ gb290)) (by (with_reducible repeat (first | apply Kd.V_alloc | apply Kd.V_drewN | apply Kd.V_drew)); exact Kd.V_mono HO_253000.out (fun _ hk => ⟨⟨hk.1.1.1, ⟨hk.1.1.2.1, ⟨hk.1.1.2.2.1, ⟨hk.1.1.2.2.2.1, ⟨hk.1.1.2.2.2.2.1, ⟨hk.1.1.2.2.2.2.2, hk.1.2⟩⟩⟩⟩⟩⟩, hk.2⟩)) hg hat)
                   have n3_ := Aside0.mk (blk_grown (g := gb245) (o := .cells #[.slice Ao16 t240.length co16] 24 (0, 0)) (by (with_reducible repeat (first | refine bN ?_ _ | refine bD ?_ | refine bA ?_ _)); exact BK245.out) hg (Kd.N_ne HO283.out BK245.out (by decide)))
                   have n4_ := Aside0.mk (blk_grown (g := gb246) (o := .cells #[.int .i64 t243, .int .i64 t244] 48 (0, 0)) (by (with_reducible repeat (first | refine bN ?_ _ | refine bD ?_ | refine bA ?_ _)); exact BK246.out) hg (Kd.N_ne HO283.out BK246.out (by decide)))
                   have n5_ := Aside0.mk (blk_grown (g := gb252) (o := .cells #[.slice Ao23 t247.length co23] 24 (0, 0)) (by (with_reducible repeat (first | refine bN ?_ _ | refine bD ?_ | refine bA ?_ _)); exact BK252.out) hg (Kd.N_ne HO283.out BK252.out (by decide)))
                   have n6_ := Aside0.mk (blk_grown (g := gb253) (o := .cells #[.int .i64 t250, .int .i64 t251] 48 (0, 0)) (by (with_reducible repeat (first | refine bN ?_ _ | refine bD ?_ | refine bA ?_ _)); exact BK253.out) hg (Kd.N_ne HO283.out BK253.out (by decide)))
                   have n7_ := Aside0.mk (Kd.V_afterv (ok := (fun k_ => k_ ≠ gb245 ∧ k_ ≠ gb246 ∧ k_ ≠ gb252 ∧ k_ ≠ gb253 ∧ k_ ≠ gb279 ∧ k_ ≠ gb280 ∧ k_ ≠ gb290)) (by (with_reducible repeat (first | apply Kd.V_alloc | apply Kd.V_drewN | apply Kd.V_drew)); exact Kd.V_mono HO276.out (fun _ hk => ⟨⟨hk.1.1.1, ⟨hk.1.1.2.1, ⟨hk.1.1.2.2.1, ⟨hk.1.1.2.2.2.1, ⟨hk.1.1.2.2.2.2.1, ⟨hk.1.1.2.2.2.2.2, hk.1.2⟩⟩⟩⟩⟩⟩, hk.2⟩)) hg hat)
                   have n8_ := Aside0.mk (blk_grown (g := gb279) (o := .cells #[.slice Ao136 t274.length co136] 24 (0, 0)) (by (with_reducible repeat (first | refine bN ?_ _ | refine bD ?_ | refine bA ?_ _)); exact BK279.out) hg (Kd.N_ne HO283.out BK279.out (by decide)))
                   have n9_ := Aside0.mk (blk_grown (g := gb280) (o := .cells #[.int .i64 t277, .int .i64 t278] 48 (0, 0)) (by (with_reducible repeat (first | refine bN ?_ _ | refine bD ?_ | refine bA ?_ _)); exact BK280.out) hg (Kd.N_ne HO283.out BK280.out (by decide)))
                   have n10_ := Aside0.mk (blk_grown (g := gb290) (o := .cells #[.slice none 0 0] 24 (0, 0)) (by (with_reducible repeat (first | refine bN ?_ _ | refine bD ?_ | refine bA ?_ _)); exact BK290.out) hg (Kd.N_ne HO283.out BK290.out (by decide)))
                   have n11_ := Aside0.mk (hb)
                   have n12_ := Aside0.mk (ho)
                   clear HO_58
                   clear HO_246000
                   clear HO_253000
                   clear BK245
                   clear BK246
                   clear BK252
                   clear BK253
                   clear HO276
                   clear BK279
                   clear BK280
                   clear BK290
                   clear HB
                   clear HO283
                   have HO_58 := n0_
                   have HO_246000 := n1_
                   have HO_253000 := n2_
                   have BK245 := n3_
                   have BK246 := n4_
                   have BK252 := n5_
                   have BK253 := n6_
                   have HO276 := n7_
                   have BK279 := n8_
                   have BK280 := n9_
                   have BK290 := n10_
                   have HB := n11_
                   have HO286 := n12_
                   clear n0_ n1_ n2_ n3_ n4_ n5_ n6_ n7_ n8_ n9_ n10_ n11_ n12_
                   clear ho hb hg hat
                   refine hK.out _ _ ⟨(blk_cell BK245.out 0).trans rfl, (blk_cell BK252.out 0).trans rfl⟩ (fun hHeld => ?_)
                   clear hK K
                   refine norm_ (a' := ?_) ?_ ?_
                   rotate_left
                   ·
                    show Act.put _ (some 95) _ = _
                    simp only [Act.put, List.setIfInBounds_toArray, List.set_cons_zero, List.set_cons_succ, i64_w, i32_w]
                    rfl
                   refine one_ (i := 6) (N := some 98) #[true, true, true, true, true, true, true, false, true, false] rfl rfl (one_of HT_.out (by kernel_rfl)) (by decide) (fun K hK => ?_)
                   refine Kd.N_append_rows_step k29 (w0 := w) w.heap.size (by rfl) (.tmp 95) (.tmp 97) 22 29 (.agg #[(.string ⟨#[]⟩), (.int .i64 0), (.int .i64 0), (.int .i64 0), (.bool false), (.bool false), (.slice none 0 0)]) 72 rfl Tryd.underlying22 info29 rfl (by decide) (by omega) v285 y284 t247 _ _ _ (fun k_ => k_ ≠ gb245 ∧ k_ ≠ gb246 ∧ k_ ≠ gb252 ∧ k_ ≠ gb253 ∧ k_ ≠ gb279 ∧ k_ ≠ gb280 ∧ k_ ≠ gb290) (fun k_ => ((fun k_ => k_ ≠ gb245 ∧ k_ ≠ gb246 ∧ k_ ≠ gb252 ∧ k_ ≠ gb253 ∧ k_ ≠ gb279 ∧ k_ ≠ gb280 ∧ k_ ≠ gb290)) k_ ∧ some k_ ≠ (v285 : Value).ownBlock) rfl rfl ?aO ?aR (fun _ hk => hk) ?aF ?aB ?aS ?aL ?_
                   (case aR => exact (by skip; exact Kd.V_F (Kd.V_mono (ok' := (fun k_ => ((fun k_ => k_ ≠ gb245 ∧ k_ ≠ gb246 ∧ k_ ≠ gb252 ∧ k_ ≠ gb253 ∧ k_ ≠ gb279 ∧ k_ ≠ gb280 ∧ k_ ≠ gb290)) k_ ∧ some k_ ≠ (v285 : Value).ownBlock)) (HO_253000.out) (fun k_ hk => ⟨⟨hk.1.1, ⟨hk.1.2.1, ⟨hk.1.2.2.1, ⟨hk.1.2.2.2.1, ⟨hk.1.2.2.2.2.1, ⟨hk.1.2.2.2.2.2.1, hk.1.2.2.2.2.2.2⟩⟩⟩⟩⟩⟩, hk.2⟩))))
                   (case aB => exact (by repeat (first | (with_reducible first | exact HB.out | apply below_alloc | apply pw_below_drewN | apply below_drew1 | refine below_set ?_ GE245.out | refine below_set ?_ GE246.out | refine below_set ?_ GE252.out | refine below_set ?_ GE253.out | refine below_set ?_ GE279.out | refine below_set ?_ GE280.out | refine below_set ?_ GE290.out) | exact HB.out)))
                   (case aF => exact (fun k_ hk => ⟨Kd.freshB (g := gb245) (o := .cells #[.slice Ao16 t240.length co16] 24 (0, 0)) (by (with_reducible repeat (first | refine bN ?_ _ | refine bD ?_ | refine bA ?_ _)); exact BK245.out) k_ hk, Kd.freshB (g := gb246) (o := .cells #[.int .i64 t243, .int .i64 t244] 48 (0, 0)) (by (with_reducible repeat (first | refine bN ?_ _ | refine bD ?_ | refine bA ?_ _)); exact BK246.out) k_ hk, Kd.freshB (g := gb252) (o := .cells #[.slice Ao23 t247.length co23] 24 (0, 0)) (by (with_reducible repeat (first | refine bN ?_ _ | refine bD ?_ | refine bA ?_ _)); exact BK252.out) k_ hk, Kd.freshB (g := gb253) (o := .cells #[.int .i64 t250, .int .i64 t251] 48 (0, 0)) (by (with_reducible repeat (first | refine bN ?_ _ | refine bD ?_ | refine bA ?_ _)); exact BK253.out) k_ hk, Kd.freshB (g := gb279) (o := .cells #[.slice Ao136 t274.length co136] 24 (0, 0)) (by (with_reducible repeat (first | refine bN ?_ _ | refine bD ?_ | refine bA ?_ _)); exact BK279.out) k_ hk, Kd.freshB (g := gb280) (o := .cells #[.int .i64 t277, .int .i64 t278] 48 (0, 0)) (by (with_reducible repeat (first | refine bN ?_ _ | refine bD ?_ | refine bA ?_ _)); exact BK280.out) k_ hk, Kd.freshB (g := gb290) (o := .cells #[.slice none 0 0] 24 (0, 0)) (by (with_reducible repeat (first | refine bN ?_ _ | refine bD ?_ | refine bA ?_ _)); exact BK290.out) k_ hk⟩))
                   (case aO => exact (by (with_reducible repeat (first | apply Kd.N_alloc | apply Kd.N_drewN | apply Kd.N_drew)); exact HO286.out))
                   (case aS => exact (below_size (by repeat (first | (with_reducible first | exact HB.out | apply below_alloc | apply pw_below_drewN | apply below_drew1 | refine below_set ?_ GE245.out | refine below_set ?_ GE246.out | refine below_set ?_ GE252.out | refine below_set ?_ GE253.out | refine below_set ?_ GE279.out | refine below_set ?_ GE280.out | refine below_set ?_ GE290.out) | exact HB.out))))
                   (case aL => have := LMc128.out; omega)
                   intro v288 w154 ho hb hg hat
                   rw [← Ny287.out] at ho
                   have n0_ := Aside0.mk (Kd.V_afterv (ok := (fun k_ => k_ ≠ gb245 ∧ k_ ≠ gb246 ∧ k_ ≠ gb252 ∧ k_ ≠ gb253 ∧ k_ ≠ gb279 ∧ k_ ≠ gb280 ∧ k_ ≠ gb290)) (by (with_reducible repeat (first | apply Kd.V_alloc | apply Kd.V_drewN | apply Kd.V_drew)); exact HO_58.out) hg hat)
                   have n1_ := Aside0.mk (Kd.V_afterv (ok := (fun k_ => k_ ≠ gb245 ∧ k_ ≠ gb246 ∧ k_ ≠ gb252 ∧ k_ ≠ gb253 ∧ k_ ≠ gb279 ∧ k_ ≠ gb280 ∧ k_ ≠ gb290)) (by (with_reducible repeat (first | apply Kd.V_alloc | apply Kd.V_drewN | apply Kd.V_drew)); exact HO_246000.out) hg hat)
                   have n2_ := Aside0.mk (Kd.V_afterv (ok := (fun k_ => k_ ≠ gb245 ∧ k_ ≠ gb246 ∧ k_ ≠ gb252 ∧ k_ ≠ gb253 ∧ k_ ≠ gb279 ∧ k_ ≠ gb280 ∧ k_ ≠ gb290)) (by (with_reducible repeat (first | apply Kd.V_alloc | apply Kd.V_drewN | apply Kd.V_drew)); exact HO_253000.out) hg hat)
                   have n3_ := Aside0.mk (blk_grown (g := gb245) (o := .cells #[.slice Ao16 t240.length co16] 24 (0, 0)) (by (with_reducible repeat (first | refine bN ?_ _ | refine bD ?_ | refine bA ?_ _)); exact BK245.out) hg (Kd.N_ne HO286.out BK245.out (by decide)))
                   have n4_ := Aside0.mk (blk_grown (g := gb246) (o := .cells #[.int .i64 t243, .int .i64 t244] 48 (0, 0)) (by (with_reducible repeat (first | refine bN ?_ _ | refine bD ?_ | refine bA ?_ _)); exact BK246.out) hg (Kd.N_ne HO286.out BK246.out (by decide)))
                   have n5_ := Aside0.mk (blk_grown (g := gb252) (o := .cells #[.slice Ao23 t247.length co23] 24 (0, 0)) (by (with_reducible repeat (first | refine bN ?_ _ | refine bD ?_ | refine bA ?_ _)); exact BK252.out) hg (Kd.N_ne HO286.out BK252.out (by decide)))
                   have n6_ := Aside0.mk (blk_grown (g := gb253) (o := .cells #[.int .i64 t250, .int .i64 t251] 48 (0, 0)) (by (with_reducible repeat (first | refine bN ?_ _ | refine bD ?_ | refine bA ?_ _)); exact BK253.out) hg (Kd.N_ne HO286.out BK253.out (by decide)))
                   have n7_ := Aside0.mk (Kd.V_afterv (ok := (fun k_ => k_ ≠ gb245 ∧ k_ ≠ gb246 ∧ k_ ≠ gb252 ∧ k_ ≠ gb253 ∧ k_ ≠ gb279 ∧ k_ ≠ gb280 ∧ k_ ≠ gb290)) (by (with_reducible repeat (first | apply Kd.V_alloc | apply Kd.V_drewN | apply Kd.V_drew)); exact HO276.out) hg hat)
                   have n8_ := Aside0.mk (blk_grown (g := gb279) (o := .cells #[.slice Ao136 t274.length co136] 24 (0, 0)) (by (with_reducible repeat (first | refine bN ?_ _ | refine bD ?_ | refine bA ?_ _)); exact BK279.out) hg (Kd.N_ne HO286.out BK279.out (by decide)))
                   have n9_ := Aside0.mk (blk_grown (g := gb280) (o := .cells #[.int .i64 t277, .int .i64 t278] 48 (0, 0)) (by (with_reducible repeat (first | refine bN ?_ _ | refine bD ?_ | refine bA ?_ _)); exact BK280.out) hg (Kd.N_ne HO286.out BK280.out (by decide)))
                   have n10_ := Aside0.mk (blk_grown (g := gb290) (o := .cells #[.slice none 0 0] 24 (0, 0)) (by (with_reducible repeat (first | refine bN ?_ _ | refine bD ?_ | refine bA ?_ _)); exact BK290.out) hg (Kd.N_ne HO286.out BK290.out (by decide)))
                   have n11_ := Aside0.mk (hb)
                   have n12_ := Aside0.mk (ho)
                   clear HO_58
                   clear HO_246000
                   clear HO_253000
                   clear BK245
                   clear BK246
                   clear BK252
                   clear BK253
                   clear HO276
                   clear BK279
                   clear BK280
                   clear BK290
                   clear HB
                   clear HO286
                   have HO_58 := n0_
                   have HO_246000 := n1_
                   have HO_253000 := n2_
                   have BK245 := n3_
                   have BK246 := n4_
                   have BK252 := n5_
                   have BK253 := n6_
                   have HO276 := n7_
                   have BK279 := n8_
                   have BK280 := n9_
                   have BK290 := n10_
                   have HB := n11_
                   have HO289 := n12_
                   clear n0_ n1_ n2_ n3_ n4_ n5_ n6_ n7_ n8_ n9_ n10_ n11_ n12_
                   clear ho hb hg hat
                   obtain ⟨Ao155, co155, eo155⟩ := Kd.N_slice HO289.out
                   (first | subst eo155 | (injection eo155 with f1_ f2_ f3_; have f4_ := f1_.symm; have f5_ := f3_.symm; clear f1_ f2_ f3_; subst f4_; subst f5_))
                   refine hK.out _ _ ⟨(blk_cell BK245.out 0).trans rfl, (blk_cell BK252.out 0).trans rfl⟩ (fun hHeld => ?_)
                   clear hK K
                   refine norm_ (a' := ?_) ?_ ?_
                   rotate_left
                   ·
                    show Act.put _ (some 98) _ = _
                    simp only [Act.put, List.setIfInBounds_toArray, List.set_cons_zero, List.set_cons_succ, i64_w, i32_w]
                    rfl
                   refine pure_ (i := 7) (N := some 99) (v := ?_) (a' := ?_) #[true, true, true, true, true, true, true, true, true, false] rfl rfl (any_of HT_.out (by kernel_rfl)) (fun _ _ _ h => h) (Or.inl ⟨by rfl, ?_⟩) ?_ ?_
                   rotate_left
                   ·
                    intro w'
                    go_simp
                    with_reducible rfl
                   rotate_left
                   ·
                    simp only [Act.put, List.setIfInBounds_toArray, List.set_cons_zero, List.set_cons_succ, i64_w, i32_w]
                    rfl
                   exact norm_ (by simp only [putAll, Act.put, List.setIfInBounds_toArray, List.set_cons_zero, List.set_cons_succ]) (hCont (v282, v285, .slice Ao155 y287.length co155, gb290) _ ⟨hHeld, (by (with_reducible repeat (first | apply Kd.V_alloc | apply Kd.V_drewN | apply Kd.V_drew)); exact Kd.V_mono HO276.out (fun _ hk => ⟨hk.2, ⟨hk.1.1, ⟨hk.1.2.1, ⟨hk.1.2.2.1, ⟨hk.1.2.2.2.1, ⟨hk.1.2.2.2.2.1, ⟨hk.1.2.2.2.2.2.1, hk.1.2.2.2.2.2.2⟩⟩⟩⟩⟩⟩⟩)), (by (with_reducible repeat (first | apply Kd.N_alloc | apply Kd.N_drewN | apply Kd.N_drew)); exact HO289.out), (by (with_reducible repeat (first | apply Kd.V_alloc | apply Kd.V_drewN | apply Kd.V_drew)); exact Kd.V_mono HO_246000.out (fun _ hk => ⟨hk.2, ⟨hk.1.1, ⟨hk.1.2.1, ⟨hk.1.2.2.1, ⟨hk.1.2.2.2.1, ⟨hk.1.2.2.2.2.1, ⟨hk.1.2.2.2.2.2.1, hk.1.2.2.2.2.2.2⟩⟩⟩⟩⟩⟩⟩)), (by (with_reducible repeat (first | apply Kd.V_alloc | apply Kd.V_drewN | apply Kd.V_drew)); exact Kd.V_mono HO_253000.out (fun _ hk => ⟨hk.2, ⟨hk.1.1, ⟨hk.1.2.1, ⟨hk.1.2.2.1, ⟨hk.1.2.2.2.1, ⟨hk.1.2.2.2.2.1, ⟨hk.1.2.2.2.2.2.1, hk.1.2.2.2.2.2.2⟩⟩⟩⟩⟩⟩⟩)), (by (with_reducible repeat (first | apply Kd.V_alloc | apply Kd.V_drewN | apply Kd.V_drew)); exact Kd.V_mono HO_58.out (fun _ hk => ⟨hk.2, ⟨hk.1.1, ⟨hk.1.2.1, ⟨hk.1.2.2.1, ⟨hk.1.2.2.2.1, ⟨hk.1.2.2.2.2.1, ⟨hk.1.2.2.2.2.2.1, hk.1.2.2.2.2.2.2⟩⟩⟩⟩⟩⟩⟩)), (by (with_reducible repeat (first | refine bN ?_ _ | refine bD ?_ | refine bA ?_ _)); exact BK245.out), (by (with_reducible repeat (first | refine bN ?_ _ | refine bD ?_ | refine bA ?_ _)); exact BK246.out), (by (with_reducible repeat (first | refine bN ?_ _ | refine bD ?_ | refine bA ?_ _)); exact BK252.out), (by (with_reducible repeat (first | refine bN ?_ _ | refine bD ?_ | refine bA ?_ _)); exact BK253.out), (by (with_reducible repeat (first | refine bN ?_ _ | refine bD ?_ | refine bA ?_ _)); exact BK279.out), (by (with_reducible repeat (first | refine bN ?_ _ | refine bD ?_ | refine bA ?_ _)); exact BK280.out), (by (with_reducible repeat (first | refine bN ?_ _ | refine bD ?_ | refine bA ?_ _)); exact BK290.out), GW290.out, GE290.out, NB245_290.out, NB290_245.out, NB246_290.out, NB290_246.out, NB252_290.out, NB290_252.out, NB253_290.out, NB290_253.out, NB279_290.out, NB290_279.out, NB280_290.out, NB290_280.out, (by repeat (first | (with_reducible first | exact HB.out | apply below_alloc | apply pw_below_drewN | apply below_drew1 | refine below_set ?_ GE245.out | refine below_set ?_ GE246.out | refine below_set ?_ GE252.out | refine below_set ?_ GE253.out | refine below_set ?_ GE279.out | refine below_set ?_ GE280.out | refine below_set ?_ GE290.out) | exact HB.out))⟩)
                 rintro ⟨v282, v285, v288, gb290⟩ w156 ⟨hS_, h0_, h1_, h2_, h3_, h4_, h5_, h6_, h7_, h8_, h9_, h10_, h11_, h12_, h13_, h14_, h15_, h16_, h17_, h18_, h19_, h20_, h21_, h22_, h23_, h24_, h25_, h26_⟩
                 have n0_ : Aside0 (Kd.V k29 29 w156 w.heap.size (fun k_ => some k_ ≠ (v288 : Value).ownBlock ∧ k_ ≠ gb245 ∧ k_ ≠ gb246 ∧ k_ ≠ gb252 ∧ k_ ≠ gb253 ∧ k_ ≠ gb279 ∧ k_ ≠ gb280 ∧ k_ ≠ gb290) (.slice Ao136 t274.length co136) t274) := ⟨h0_⟩
                 have n1_ : Aside0 (Kd.N k29 29 w156 w.heap.size (fun k_ => k_ ≠ gb245 ∧ k_ ≠ gb246 ∧ k_ ≠ gb252 ∧ k_ ≠ gb253 ∧ k_ ≠ gb279 ∧ k_ ≠ gb280 ∧ k_ ≠ gb290) v288 y287) := ⟨h1_⟩
                 have n2_ : Aside0 (Kd.V k29 29 w156 w.heap.size (fun k_ => some k_ ≠ (v288 : Value).ownBlock ∧ k_ ≠ gb245 ∧ k_ ≠ gb246 ∧ k_ ≠ gb252 ∧ k_ ≠ gb253 ∧ k_ ≠ gb279 ∧ k_ ≠ gb280 ∧ k_ ≠ gb290) (.slice Ao16 t240.length co16) t240) := ⟨h2_⟩
                 have n3_ : Aside0 (Kd.V k29 29 w156 w.heap.size (fun k_ => some k_ ≠ (v288 : Value).ownBlock ∧ k_ ≠ gb245 ∧ k_ ≠ gb246 ∧ k_ ≠ gb252 ∧ k_ ≠ gb253 ∧ k_ ≠ gb279 ∧ k_ ≠ gb280 ∧ k_ ≠ gb290) (.slice Ao23 t247.length co23) t247) := ⟨h3_⟩
                 have n4_ : Aside0 (Kd.V k29 29 w156 w.heap.size (fun k_ => some k_ ≠ (v288 : Value).ownBlock ∧ k_ ≠ gb245 ∧ k_ ≠ gb246 ∧ k_ ≠ gb252 ∧ k_ ≠ gb253 ∧ k_ ≠ gb279 ∧ k_ ≠ gb280 ∧ k_ ≠ gb290) (.slice Ao16 t240.length co16) t240) := ⟨h4_⟩
                 have n5_ : Aside0 (w156.heap[gb245]? = some (.cells #[.slice Ao16 t240.length co16] 24 (0, 0))) := ⟨h5_⟩
                 have n6_ : Aside0 (w156.heap[gb246]? = some (.cells #[.int .i64 t243, .int .i64 t244] 48 (0, 0))) := ⟨h6_⟩
                 have n7_ : Aside0 (w156.heap[gb252]? = some (.cells #[.slice Ao23 t247.length co23] 24 (0, 0))) := ⟨h7_⟩
                 have n8_ : Aside0 (w156.heap[gb253]? = some (.cells #[.int .i64 t250, .int .i64 t251] 48 (0, 0))) := ⟨h8_⟩
                 have n9_ : Aside0 (w156.heap[gb279]? = some (.cells #[.slice Ao136 t274.length co136] 24 (0, 0))) := ⟨h9_⟩
                 have n10_ : Aside0 (w156.heap[gb280]? = some (.cells #[.int .i64 t277, .int .i64 t278] 48 (0, 0))) := ⟨h10_⟩
                 have n11_ : Aside0 (w156.heap[gb290]? = some (.cells #[.slice none 0 0] 24 (0, 0))) := ⟨h11_⟩
                 have n12_ : Aside0 (w.heap.size ≤ gb290) := ⟨h12_⟩
                 have n13_ : Aside0 (w.heap.size ≤ gb290) := ⟨h13_⟩
                 have n14_ : Aside0 (gb245 ≠ gb290) := ⟨h14_⟩
                 have n15_ : Aside0 (gb290 ≠ gb245) := ⟨h15_⟩
                 have n16_ : Aside0 (gb246 ≠ gb290) := ⟨h16_⟩
                 have n17_ : Aside0 (gb290 ≠ gb246) := ⟨h17_⟩
                 have n18_ : Aside0 (gb252 ≠ gb290) := ⟨h18_⟩
                 have n19_ : Aside0 (gb290 ≠ gb252) := ⟨h19_⟩
                 have n20_ : Aside0 (gb253 ≠ gb290) := ⟨h20_⟩
                 have n21_ : Aside0 (gb290 ≠ gb253) := ⟨h21_⟩
                 have n22_ : Aside0 (gb279 ≠ gb290) := ⟨h22_⟩
                 have n23_ : Aside0 (gb290 ≠ gb279) := ⟨h23_⟩
                 have n24_ : Aside0 (gb280 ≠ gb290) := ⟨h24_⟩
                 have n25_ : Aside0 (gb290 ≠ gb280) := ⟨h25_⟩
                 have n26_ : Aside0 (Below w.heap.size w w156) := ⟨h26_⟩
                 clear HO_58
                 clear HO_246000
                 clear HO_253000
                 clear HO276
                 clear BK245
                 clear BK246
                 clear BK252
                 clear BK253
                 clear BK279
                 clear BK280
                 clear HB
                 clear h0_ h1_ h2_ h3_ h4_ h5_ h6_ h7_ h8_ h9_ h10_ h11_ h12_ h13_ h14_ h15_ h16_ h17_ h18_ h19_ h20_ h21_ h22_ h23_ h24_ h25_ h26_
                 have HO276 := n0_
                 have HO289 := n1_
                 have HO_246000 := n2_
                 have HO_253000 := n3_
                 have HO_58 := n4_
                 have BK245 := n5_
                 have BK246 := n6_
                 have BK252 := n7_
                 have BK253 := n8_
                 have BK279 := n9_
                 have BK280 := n10_
                 have BK290 := n11_
                 have GW290 := n12_
                 have GE290 := n13_
                 have NB245_290 := n14_
                 have NB290_245 := n15_
                 have NB246_290 := n16_
                 have NB290_246 := n17_
                 have NB252_290 := n18_
                 have NB290_252 := n19_
                 have NB253_290 := n20_
                 have NB290_253 := n21_
                 have NB279_290 := n22_
                 have NB290_279 := n23_
                 have NB280_290 := n24_
                 have NB290_280 := n25_
                 have HB := n26_
                 clear n0_ n1_ n2_ n3_ n4_ n5_ n6_ n7_ n8_ n9_ n10_ n11_ n12_ n13_ n14_ n15_ n16_ n17_ n18_ n19_ n20_ n21_ n22_ n23_ n24_ n25_ n26_
                 have hHeld : w156.cell? ⟨gb245, 0, none⟩ = some (.slice Ao16 t240.length co16) ∧ w156.cell? ⟨gb252, 0, none⟩ = some (.slice Ao23 t247.length co23) := hS_
                 obtain ⟨Ao157, co157, eo157⟩ := Kd.N_slice HO289.out
                 (first | subst eo157 | (injection eo157 with f1_ f2_ f3_; have f4_ := f1_.symm; have f5_ := f3_.symm; clear f1_ f2_ f3_; subst f4_; subst f5_))
                 refine norm_ (a' := ?_) ?_ ?_
                 rotate_left
                 ·
                  simp only [putAll, Act.put, List.setIfInBounds_toArray, List.set_cons_zero, List.set_cons_succ]
                  rfl
                 refine one_ (i := 9) (N := none) #[true, true, true, true, true, true, true, true, true, true] rfl rfl (one_of HT_.out (by kernel_rfl)) (by decide) (fun K hK => ?_)
                 have hs158 : w156.cell? ⟨gb290, 0, none⟩ = some (.slice none 0 0) := (blk_cell BK290.out 0).trans rfl
                 have hfs158 := blk_frozen BK290.out 0
                 have hns158_0 := NB245_290.out
                 have hns158_1 := NB246_290.out
                 have hns158_2 := NB252_290.out
                 have hns158_3 := NB253_290.out
                 have hns158_4 := NB279_290.out
                 have hns158_5 := NB280_290.out
                 have hms158_0 := NB290_245.out
                 have hms158_1 := NB290_246.out
                 have hms158_2 := NB290_252.out
                 have hms158_3 := NB290_253.out
                 have hms158_4 := NB290_279.out
                 have hms158_5 := NB290_280.out
                 refine skip_ (w1 := ?_) (by rfl) rfl ?_ ?_
                 rotate_left
                 ·
                  go_simp
                  rfl
                 refine hK.out _ _ ⟨((cell_far (p := ⟨gb290, _, none⟩) NB245_290.out _).trans (hHeld.1)), ((cell_far (p := ⟨gb290, _, none⟩) NB252_290.out _).trans (hHeld.2))⟩ (fun hHeld => ?_)
                 clear hK K
                 refine done_ (done_of HT_.out (by kernel_rfl)) ?_
                 try go_wp2
                 have n0_ : Aside0 (Kd.V k29 29 (w156.setCell ⟨gb290, 0, none⟩ (.slice Ao157 y287.length co157)) w.heap.size (fun k_ => some k_ ≠ (.slice Ao157 y287.length co157 : Value).ownBlock ∧ k_ ≠ gb245 ∧ k_ ≠ gb246 ∧ k_ ≠ gb252 ∧ k_ ≠ gb253 ∧ k_ ≠ gb279 ∧ k_ ≠ gb280 ∧ k_ ≠ gb290) (.slice Ao16 t240.length co16) t240) := ⟨by (with_reducible repeat (first | apply Kd.V_alloc | apply Kd.V_drewN | apply Kd.V_drew)); exact Kd.V_mono (Kd.V_far (p := ⟨gb290, 0, none⟩) (Kd.V_mono HO_58.out (fun k_ hk => (⟨hk, hk.2.2.2.2.2.2.2⟩ : _ ∧ k_ ≠ gb290))) (fun _ hk => hk.2) (.slice Ao157 y287.length co157)) (fun _ hk => ⟨hk.1.1, ⟨hk.1.2.1, ⟨hk.1.2.2.1, ⟨hk.1.2.2.2.1, ⟨hk.1.2.2.2.2.1, ⟨hk.1.2.2.2.2.2.1, ⟨hk.1.2.2.2.2.2.2.1, hk.1.2.2.2.2.2.2.2⟩⟩⟩⟩⟩⟩⟩)⟩
                 have n1_ : Aside0 (Kd.V k29 29 (w156.setCell ⟨gb290, 0, none⟩ (.slice Ao157 y287.length co157)) w.heap.size (fun k_ => some k_ ≠ (.slice Ao157 y287.length co157 : Value).ownBlock ∧ k_ ≠ gb245 ∧ k_ ≠ gb246 ∧ k_ ≠ gb252 ∧ k_ ≠ gb253 ∧ k_ ≠ gb279 ∧ k_ ≠ gb280 ∧ k_ ≠ gb290) (.slice Ao16 t240.length co16) t240) := ⟨by (with_reducible repeat (first | apply Kd.V_alloc | apply Kd.V_drewN | apply Kd.V_drew)); exact Kd.V_mono (Kd.V_far (p := ⟨gb290, 0, none⟩) (Kd.V_mono HO_246000.out (fun k_ hk => (⟨hk, hk.2.2.2.2.2.2.2⟩ : _ ∧ k_ ≠ gb290))) (fun _ hk => hk.2) (.slice Ao157 y287.length co157)) (fun _ hk => ⟨hk.1.1, ⟨hk.1.2.1, ⟨hk.1.2.2.1, ⟨hk.1.2.2.2.1, ⟨hk.1.2.2.2.2.1, ⟨hk.1.2.2.2.2.2.1, ⟨hk.1.2.2.2.2.2.2.1, hk.1.2.2.2.2.2.2.2⟩⟩⟩⟩⟩⟩⟩)⟩
                 have n2_ : Aside0 (Kd.V k29 29 (w156.setCell ⟨gb290, 0, none⟩ (.slice Ao157 y287.length co157)) w.heap.size (fun k_ => some k_ ≠ (.slice Ao157 y287.length co157 : Value).ownBlock ∧ k_ ≠ gb245 ∧ k_ ≠ gb246 ∧ k_ ≠ gb252 ∧ k_ ≠ gb253 ∧ k_ ≠ gb279 ∧ k_ ≠ gb280 ∧ k_ ≠ gb290) (.slice Ao23 t247.length co23) t247) := ⟨by (with_reducible repeat (first | apply Kd.V_alloc | apply Kd.V_drewN | apply Kd.V_drew)); exact Kd.V_mono (Kd.V_far (p := ⟨gb290, 0, none⟩) (Kd.V_mono HO_253000.out (fun k_ hk => (⟨hk, hk.2.2.2.2.2.2.2⟩ : _ ∧ k_ ≠ gb290))) (fun _ hk => hk.2) (.slice Ao157 y287.length co157)) (fun _ hk => ⟨hk.1.1, ⟨hk.1.2.1, ⟨hk.1.2.2.1, ⟨hk.1.2.2.2.1, ⟨hk.1.2.2.2.2.1, ⟨hk.1.2.2.2.2.2.1, ⟨hk.1.2.2.2.2.2.2.1, hk.1.2.2.2.2.2.2.2⟩⟩⟩⟩⟩⟩⟩)⟩
                 have n3_ : Aside0 (Kd.V k29 29 (w156.setCell ⟨gb290, 0, none⟩ (.slice Ao157 y287.length co157)) w.heap.size (fun k_ => some k_ ≠ (.slice Ao157 y287.length co157 : Value).ownBlock ∧ k_ ≠ gb245 ∧ k_ ≠ gb246 ∧ k_ ≠ gb252 ∧ k_ ≠ gb253 ∧ k_ ≠ gb279 ∧ k_ ≠ gb280 ∧ k_ ≠ gb290) (.slice Ao136 t274.length co136) t274) := ⟨by (with_reducible repeat (first | apply Kd.V_alloc | apply Kd.V_drewN | apply Kd.V_drew)); exact Kd.V_mono (Kd.V_far (p := ⟨gb290, 0, none⟩) (Kd.V_mono HO276.out (fun k_ hk => (⟨hk, hk.2.2.2.2.2.2.2⟩ : _ ∧ k_ ≠ gb290))) (fun _ hk => hk.2) (.slice Ao157 y287.length co157)) (fun _ hk => ⟨hk.1.1, ⟨hk.1.2.1, ⟨hk.1.2.2.1, ⟨hk.1.2.2.2.1, ⟨hk.1.2.2.2.2.1, ⟨hk.1.2.2.2.2.2.1, ⟨hk.1.2.2.2.2.2.2.1, hk.1.2.2.2.2.2.2.2⟩⟩⟩⟩⟩⟩⟩)⟩
                 have n4_ : Aside0 (Kd.N k29 29 (w156.setCell ⟨gb290, 0, none⟩ (.slice Ao157 y287.length co157)) w.heap.size (fun k_ => k_ ≠ gb245 ∧ k_ ≠ gb246 ∧ k_ ≠ gb252 ∧ k_ ≠ gb253 ∧ k_ ≠ gb279 ∧ k_ ≠ gb280 ∧ k_ ≠ gb290) (.slice Ao157 y287.length co157) y287) := ⟨by (with_reducible repeat (first | apply Kd.N_alloc | apply Kd.N_drewN | apply Kd.N_drew)); exact Kd.N_mono (Kd.N_far (p := ⟨gb290, 0, none⟩) (Kd.N_mono HO289.out (fun k_ hk => (⟨hk, hk.2.2.2.2.2.2⟩ : _ ∧ k_ ≠ gb290))) (fun _ hk => hk.2) (.slice Ao157 y287.length co157)) (fun _ hk => ⟨hk.1.1, ⟨hk.1.2.1, ⟨hk.1.2.2.1, ⟨hk.1.2.2.2.1, ⟨hk.1.2.2.2.2.1, ⟨hk.1.2.2.2.2.2.1, hk.1.2.2.2.2.2.2⟩⟩⟩⟩⟩⟩)⟩
                 have n5_ : Aside0 ((w156.setCell ⟨gb290, 0, none⟩ (.slice Ao157 y287.length co157)).heap[gb245]? = some (.cells #[.slice Ao16 t240.length co16] 24 (0, 0))) := ⟨by (with_reducible repeat (first | refine bN ?_ _ | refine bD ?_ | refine bA ?_ _)); refine blk_far ?_ NB245_290.out _; (with_reducible repeat (first | refine bN ?_ _ | refine bD ?_ | refine bA ?_ _)); exact BK245.out⟩
                 have n6_ : Aside0 ((w156.setCell ⟨gb290, 0, none⟩ (.slice Ao157 y287.length co157)).heap[gb246]? = some (.cells #[.int .i64 t243, .int .i64 t244] 48 (0, 0))) := ⟨by (with_reducible repeat (first | refine bN ?_ _ | refine bD ?_ | refine bA ?_ _)); refine blk_far ?_ NB246_290.out _; (with_reducible repeat (first | refine bN ?_ _ | refine bD ?_ | refine bA ?_ _)); exact BK246.out⟩
                 have n7_ : Aside0 ((w156.setCell ⟨gb290, 0, none⟩ (.slice Ao157 y287.length co157)).heap[gb252]? = some (.cells #[.slice Ao23 t247.length co23] 24 (0, 0))) := ⟨by (with_reducible repeat (first | refine bN ?_ _ | refine bD ?_ | refine bA ?_ _)); refine blk_far ?_ NB252_290.out _; (with_reducible repeat (first | refine bN ?_ _ | refine bD ?_ | refine bA ?_ _)); exact BK252.out⟩
                 have n8_ : Aside0 ((w156.setCell ⟨gb290, 0, none⟩ (.slice Ao157 y287.length co157)).heap[gb253]? = some (.cells #[.int .i64 t250, .int .i64 t251] 48 (0, 0))) := ⟨by (with_reducible repeat (first | refine bN ?_ _ | refine bD ?_ | refine bA ?_ _)); refine blk_far ?_ NB253_290.out _; (with_reducible repeat (first | refine bN ?_ _ | refine bD ?_ | refine bA ?_ _)); exact BK253.out⟩
                 have n9_ : Aside0 ((w156.setCell ⟨gb290, 0, none⟩ (.slice Ao157 y287.length co157)).heap[gb279]? = some (.cells #[.slice Ao136 t274.length co136] 24 (0, 0))) := ⟨by (with_reducible repeat (first | refine bN ?_ _ | refine bD ?_ | refine bA ?_ _)); refine blk_far ?_ NB279_290.out _; (with_reducible repeat (first | refine bN ?_ _ | refine bD ?_ | refine bA ?_ _)); exact BK279.out⟩
                 have n10_ : Aside0 ((w156.setCell ⟨gb290, 0, none⟩ (.slice Ao157 y287.length co157)).heap[gb280]? = some (.cells #[.int .i64 t277, .int .i64 t278] 48 (0, 0))) := ⟨by (with_reducible repeat (first | refine bN ?_ _ | refine bD ?_ | refine bA ?_ _)); refine blk_far ?_ NB280_290.out _; (with_reducible repeat (first | refine bN ?_ _ | refine bD ?_ | refine bA ?_ _)); exact BK280.out⟩
                 have n11_ : Aside0 ((w156.setCell ⟨gb290, 0, none⟩ (.slice Ao157 y287.length co157)).heap[gb290]? = some (.cells #[.slice Ao157 y287.length co157] 24 (0, 0))) := ⟨by (with_reducible repeat (first | refine bN ?_ _ | refine bD ?_ | refine bA ?_ _)); refine blk_put (cs := #[.slice none 0 0]) ?_ 0 _ rfl; (with_reducible repeat (first | refine bN ?_ _ | refine bD ?_ | refine bA ?_ _)); exact BK290.out⟩
                 have n12_ : Aside0 (Below w.heap.size w (w156.setCell ⟨gb290, 0, none⟩ (.slice Ao157 y287.length co157))) := ⟨by repeat (first | (with_reducible first | exact HB.out | apply below_alloc | apply pw_below_drewN | apply below_drew1 | refine below_set ?_ GE245.out | refine below_set ?_ GE246.out | refine below_set ?_ GE252.out | refine below_set ?_ GE253.out | refine below_set ?_ GE279.out | refine below_set ?_ GE280.out | refine below_set ?_ GE290.out) | exact HB.out)⟩
                 (try clear HO_58)
                 (try clear HO_246000)
                 (try clear HO_253000)
                 (try clear HO276)
                 (try clear HO289)
                 (try clear BK245)
                 (try clear BK246)
                 (try clear BK252)
                 (try clear BK253)
                 (try clear BK279)
                 (try clear BK280)
                 (try clear BK290)
                 (try clear HB)
                 generalize (w156.setCell ⟨gb290, 0, none⟩ (.slice Ao157 y287.length co157)) = w159 at n0_ n1_ n2_ n3_ n4_ n5_ n6_ n7_ n8_ n9_ n10_ n11_ n12_ ⊢
                 have HO_58 := n0_
                 have HO_246000 := n1_
                 have HO_253000 := n2_
                 have HO276 := n3_
                 have HO289 := n4_
                 have BK245 := n5_
                 have BK246 := n6_
                 have BK252 := n7_
                 have BK253 := n8_
                 have BK279 := n9_
                 have BK280 := n10_
                 have BK290 := n11_
                 have HB := n12_
                 clear n0_ n1_ n2_ n3_ n4_ n5_ n6_ n7_ n8_ n9_ n10_ n11_ n12_
                 have n0_ := Aside0.mk (Kd.V_drew HO_58.out)
                 have n1_ := Aside0.mk (Kd.V_drew HO_246000.out)
                 have n2_ := Aside0.mk (Kd.V_drew HO_253000.out)
                 have n3_ := Aside0.mk (Kd.V_drew HO276.out)
                 have n4_ := Aside0.mk (Kd.N_drew HO289.out)
                 have n5_ := Aside0.mk (bD BK245.out)
                 have n6_ := Aside0.mk (bD BK246.out)
                 have n7_ := Aside0.mk (bD BK252.out)
                 have n8_ := Aside0.mk (bD BK253.out)
                 have n9_ := Aside0.mk (bD BK279.out)
                 have n10_ := Aside0.mk (bD BK280.out)
                 have n11_ := Aside0.mk (bD BK290.out)
                 have n12_ := Aside0.mk (below_drew1 HB.out)
                 clear HO_58
                 clear HO_246000
                 clear HO_253000
                 clear HO276
                 clear HO289
                 clear BK245
                 clear BK246
                 clear BK252
                 clear BK253
                 clear BK279
                 clear BK280
                 clear BK290
                 clear HB
                 have HO_58 := n0_
                 have HO_246000 := n1_
                 have HO_253000 := n2_
                 have HO276 := n3_
                 have HO289 := n4_
                 have BK245 := n5_
                 have BK246 := n6_
                 have BK252 := n7_
                 have BK253 := n8_
                 have BK279 := n9_
                 have BK280 := n10_
                 have BK290 := n11_
                 have HB := n12_
                 clear n0_ n1_ n2_ n3_ n4_ n5_ n6_ n7_ n8_ n9_ n10_ n11_ n12_
                 refine start_ (n := 11) (S := fun w' => w'.cell? ⟨gb280, 0, none⟩ = some (.int .i64 t277) ∧ w'.cell? ⟨gb280, 1, none⟩ = some (.int .i64 t278) ∧ w'.cell? ⟨gb279, 0, none⟩ = some (.slice Ao136 t274.length co136) ∧ w'.cell? ⟨gb290, 0, none⟩ = some (.slice Ao157 y287.length co157)) (ds := []) #[false, false, false, false, false, false, false, false, false, false, false] (by kernel_rfl) rfl rfl ⟨(blk_cell BK280.out 0).trans rfl, (blk_cell BK280.out 1).trans rfl, (blk_cell BK279.out 0).trans rfl, (blk_cell BK290.out 0).trans rfl⟩ (fun hHeld => ?_); refine with_tabW cRA.tab19 cRA.bits19 (fun HT_ HW_ => ?_)
                 generalize w159.drew = w160 at HO_58 HO_246000 HO_253000 HO276 HO289 BK245 BK246 BK252 BK253 BK279 BK280 BK290 HB hHeld ⊢
                 refine pure_ (i := 1) (N := some 101) (v := ?_) (a' := ?_) #[false, true, false, false, false, false, false, false, false, false, false] rfl rfl (any_of HT_.out (by kernel_rfl)) (fun _ _ _ h => h) (Or.inl ⟨by rfl, ?_⟩) ?_ ?_
                 rotate_left
                 ·
                  intro w'
                  go_simp
                  with_reducible rfl
                 rotate_left
                 ·
                  simp only [Act.put, List.setIfInBounds_toArray, List.set_cons_zero, List.set_cons_succ, i64_w, i32_w]
                  rfl
                 refine take_ (i := 0) (N := some 100) (v := ?_) (a' := ?_) #[true, true, false, false, false, false, false, false, false, false, false] rfl rfl (take_ofW HT_.out HW_.out (by kernel_rfl)) (fun _ _ _ h => h) (Or.inl ⟨by rfl, ?_⟩) hHeld ?_ ?_
                 rotate_left
                 ·
                  rintro w' ⟨s0, s1, s2, s3⟩
                  go_simp
                  with_reducible rfl
                 rotate_left
                 ·
                  simp only [Act.put, List.setIfInBounds_toArray, List.set_cons_zero, List.set_cons_succ, i64_w, i32_w]
                  rfl
                 refine pure_ (i := 2) (N := some 102) (v := ?_) (a' := ?_) #[true, true, true, false, false, false, false, false, false, false, false] rfl rfl (any_of HT_.out (by kernel_rfl)) (fun _ _ _ h => h) (Or.inl ⟨by rfl, ?_⟩) ?_ ?_
                 rotate_left
                 ·
                  intro w'
                  go_simp
                  with_reducible rfl
                 rotate_left
                 ·
                  simp only [Act.put, List.setIfInBounds_toArray, List.set_cons_zero, List.set_cons_succ, i64_w, i32_w]
                  rfl
                 refine pure_ (i := 3) (N := some 103) (v := ?_) (a' := ?_) #[true, true, true, true, false, false, false, false, false, false, false] rfl rfl (any_of HT_.out (by kernel_rfl)) (fun _ _ _ h => h) (Or.inl ⟨by rfl, ?_⟩) ?_ ?_
                 rotate_left
                 ·
                  intro w'
                  go_simp
                  with_reducible rfl
                 rotate_left
                 ·
                  simp only [Act.put, List.setIfInBounds_toArray, List.set_cons_zero, List.set_cons_succ, i64_w, i32_w]
                  rfl
                 refine take_ (i := 4) (N := some 104) (v := ?_) (a' := ?_) #[true, true, true, true, true, false, false, false, false, false, false] rfl rfl (take_ofW HT_.out HW_.out (by kernel_rfl)) (fun _ _ _ h => h) (Or.inl ⟨by rfl, ?_⟩) hHeld ?_ ?_
                 rotate_left
                 ·
                  rintro w' ⟨s0, s1, s2, s3⟩
                  go_simp
                  with_reducible rfl
                 rotate_left
                 ·
                  simp only [Act.put, List.setIfInBounds_toArray, List.set_cons_zero, List.set_cons_succ, i64_w, i32_w]
                  rfl
                 refine take_ (i := 6) (N := some 106) (v := ?_) (a' := ?_) #[true, true, true, true, true, false, true, false, false, false, false] rfl rfl (take_ofW HT_.out HW_.out (by kernel_rfl)) (fun _ _ _ h => h) (Or.inl ⟨by rfl, ?_⟩) hHeld ?_ ?_
                 rotate_left
                 ·
                  rintro w' ⟨s0, s1, s2, s3⟩
                  go_simp
                  with_reducible rfl
                 rotate_left
                 ·
                  simp only [Act.put, List.setIfInBounds_toArray, List.set_cons_zero, List.set_cons_succ, i64_w, i32_w]
                  rfl
                 refine one_ (i := 5) (N := some 105) #[true, true, true, true, true, true, true, false, false, false, false] rfl rfl (one_of HT_.out (by kernel_rfl)) (by decide) (fun K hK => ?_)
                 refine goes_ Tryd.func11 (by kernel_rfl) rfl #[.agg #[.slice Ao136 t274.length co136]] (by rfl) rfl rfl (by (try simp only [List.map_toArray, List.map_cons, List.map_nil]); first | done | rfl | (simp only [List.length_drop, List.length_take]; rfl)) ?_
                 with_reducible refine (pantrymade_Config.calls k3 (fun k_ => (some k_ ≠ (.slice Ao157 y287.length co157 : Value).ownBlock ∧ (k_ ≠ gb245 ∧ (k_ ≠ gb246 ∧ (k_ ≠ gb252 ∧ (k_ ≠ gb253 ∧ (k_ ≠ gb279 ∧ (k_ ≠ gb280 ∧ k_ ≠ gb290)))))))) _ _ t274 t291 _ ?side1 A130.out).mono ?_
                 (case side1 => exact HO276.out)
                 rintro e w161 ⟨v292, rfl, ho0, hb⟩
                 refine ⟨_, rfl, ?_⟩
                 have n0_ := Aside0.mk (Kd.V_elder' (by (with_reducible repeat (first | apply Kd.V_alloc | apply Kd.V_drewN | apply Kd.V_drew)); exact HO_58.out) (Kd.N_base ho0) hb)
                 have n1_ := Aside0.mk (Kd.V_elder' (by (with_reducible repeat (first | apply Kd.V_alloc | apply Kd.V_drewN | apply Kd.V_drew)); exact HO_246000.out) (Kd.N_base ho0) hb)
                 have n2_ := Aside0.mk (Kd.V_elder' (by (with_reducible repeat (first | apply Kd.V_alloc | apply Kd.V_drewN | apply Kd.V_drew)); exact HO_253000.out) (Kd.N_base ho0) hb)
                 have n3_ := Aside0.mk (Kd.V_elder' (by (with_reducible repeat (first | apply Kd.V_alloc | apply Kd.V_drewN | apply Kd.V_drew)); exact HO276.out) (Kd.N_base ho0) hb)
                 have n4_ := Aside0.mk (Kd.N_elder' (by (with_reducible repeat (first | apply Kd.N_alloc | apply Kd.N_drewN | apply Kd.N_drew)); exact HO289.out) (Kd.N_base ho0) hb)
                 have n5_ := Aside0.mk (Kd.N_lower (Kd.N_mono (ok' := fun k_ => some k_ ≠ (.slice Ao157 y287.length co157 : Value).ownBlock ∧ k_ ≠ gb245 ∧ k_ ≠ gb246 ∧ k_ ≠ gb252 ∧ k_ ≠ gb253 ∧ k_ ≠ gb279 ∧ k_ ≠ gb280 ∧ k_ ≠ gb290) ho0 (fun k_ hk_ => ⟨Or.elim hk_ (fun hs_ => hs_.1) (fun hn_ => (Kd.fresh' (Kd.N_lt (by (with_reducible repeat (first | apply Kd.N_alloc | apply Kd.N_drewN | apply Kd.N_drew)); exact HO289.out)) k_ hn_)), Or.elim hk_ (fun hs_ => hs_.2.1) (fun hn_ => (Kd.freshB (g := gb245) (o := .cells #[.slice Ao16 t240.length co16] 24 (0, 0)) (by (with_reducible repeat (first | refine bN ?_ _ | refine bD ?_ | refine bA ?_ _)); exact BK245.out) k_ hn_)), Or.elim hk_ (fun hs_ => hs_.2.2.1) (fun hn_ => (Kd.freshB (g := gb246) (o := .cells #[.int .i64 t243, .int .i64 t244] 48 (0, 0)) (by (with_reducible repeat (first | refine bN ?_ _ | refine bD ?_ | refine bA ?_ _)); exact BK246.out) k_ hn_)), Or.elim hk_ (fun hs_ => hs_.2.2.2.1) (fun hn_ => (Kd.freshB (g := gb252) (o := .cells #[.slice Ao23 t247.length co23] 24 (0, 0)) (by (with_reducible repeat (first | refine bN ?_ _ | refine bD ?_ | refine bA ?_ _)); exact BK252.out) k_ hn_)), Or.elim hk_ (fun hs_ => hs_.2.2.2.2.1) (fun hn_ => (Kd.freshB (g := gb253) (o := .cells #[.int .i64 t250, .int .i64 t251] 48 (0, 0)) (by (with_reducible repeat (first | refine bN ?_ _ | refine bD ?_ | refine bA ?_ _)); exact BK253.out) k_ hn_)), Or.elim hk_ (fun hs_ => hs_.2.2.2.2.2.1) (fun hn_ => (Kd.freshB (g := gb279) (o := .cells #[.slice Ao136 t274.length co136] 24 (0, 0)) (by (with_reducible repeat (first | refine bN ?_ _ | refine bD ?_ | refine bA ?_ _)); exact BK279.out) k_ hn_)), Or.elim hk_ (fun hs_ => hs_.2.2.2.2.2.2.1) (fun hn_ => (Kd.freshB (g := gb280) (o := .cells #[.int .i64 t277, .int .i64 t278] 48 (0, 0)) (by (with_reducible repeat (first | refine bN ?_ _ | refine bD ?_ | refine bA ?_ _)); exact BK280.out) k_ hn_)), Or.elim hk_ (fun hs_ => hs_.2.2.2.2.2.2.2) (fun hn_ => (Kd.freshB (g := gb290) (o := .cells #[.slice Ao157 y287.length co157] 24 (0, 0)) (by (with_reducible repeat (first | refine bN ?_ _ | refine bD ?_ | refine bA ?_ _)); exact BK290.out) k_ hn_))⟩)) (below_size (by repeat (first | (with_reducible first | exact HB.out | apply below_alloc | apply pw_below_drewN | apply below_drew1 | refine below_set ?_ GE245.out | refine below_set ?_ GE246.out | refine below_set ?_ GE252.out | refine below_set ?_ GE253.out | refine below_set ?_ GE279.out | refine below_set ?_ GE280.out | refine below_set ?_ GE290.out) | exact HB.out))))
                 have n6_ := Aside0.mk (blk_below (g := gb245) (o := .cells #[.slice Ao16 t240.length co16] 24 (0, 0)) (by (with_reducible repeat (first | refine bN ?_ _ | refine bD ?_ | refine bA ?_ _)); exact BK245.out) hb)
                 have n7_ := Aside0.mk (blk_below (g := gb246) (o := .cells #[.int .i64 t243, .int .i64 t244] 48 (0, 0)) (by (with_reducible repeat (first | refine bN ?_ _ | refine bD ?_ | refine bA ?_ _)); exact BK246.out) hb)
                 have n8_ := Aside0.mk (blk_below (g := gb252) (o := .cells #[.slice Ao23 t247.length co23] 24 (0, 0)) (by (with_reducible repeat (first | refine bN ?_ _ | refine bD ?_ | refine bA ?_ _)); exact BK252.out) hb)
                 have n9_ := Aside0.mk (blk_below (g := gb253) (o := .cells #[.int .i64 t250, .int .i64 t251] 48 (0, 0)) (by (with_reducible repeat (first | refine bN ?_ _ | refine bD ?_ | refine bA ?_ _)); exact BK253.out) hb)
                 have n10_ := Aside0.mk (blk_below (g := gb279) (o := .cells #[.slice Ao136 t274.length co136] 24 (0, 0)) (by (with_reducible repeat (first | refine bN ?_ _ | refine bD ?_ | refine bA ?_ _)); exact BK279.out) hb)
                 have n11_ := Aside0.mk (blk_below (g := gb280) (o := .cells #[.int .i64 t277, .int .i64 t278] 48 (0, 0)) (by (with_reducible repeat (first | refine bN ?_ _ | refine bD ?_ | refine bA ?_ _)); exact BK280.out) hb)
                 have n12_ := Aside0.mk (blk_below (g := gb290) (o := .cells #[.slice Ao157 y287.length co157] 24 (0, 0)) (by (with_reducible repeat (first | refine bN ?_ _ | refine bD ?_ | refine bA ?_ _)); exact BK290.out) hb)
                 have n13_ := Aside0.mk (below_step (by repeat (first | (with_reducible first | exact HB.out | apply below_alloc | apply pw_below_drewN | apply below_drew1 | refine below_set ?_ GE245.out | refine below_set ?_ GE246.out | refine below_set ?_ GE252.out | refine below_set ?_ GE253.out | refine below_set ?_ GE279.out | refine below_set ?_ GE280.out | refine below_set ?_ GE290.out) | exact HB.out)) hb)
                 clear HO_58
                 clear HO_246000
                 clear HO_253000
                 clear HO276
                 clear HO289
                 clear BK245
                 clear BK246
                 clear BK252
                 clear BK253
                 clear BK279
                 clear BK280
                 clear BK290
                 clear HB
                 have HO_58 := n0_
                 have HO_246000 := n1_
                 have HO_253000 := n2_
                 have HO276 := n3_
                 have HO289 := n4_
                 have HO293 := n5_
                 have BK245 := n6_
                 have BK246 := n7_
                 have BK252 := n8_
                 have BK253 := n9_
                 have BK279 := n10_
                 have BK280 := n11_
                 have BK290 := n12_
                 have HB := n13_
                 clear n0_ n1_ n2_ n3_ n4_ n5_ n6_ n7_ n8_ n9_ n10_ n11_ n12_ n13_
                 (try clear hb)
                 (try clear hb2)
                 (try clear hk)
                 (try clear hi)
                 (try clear ho0)
                 refine hK.out _ _ ⟨(blk_cell BK280.out 0).trans rfl, (blk_cell BK280.out 1).trans rfl, (blk_cell BK279.out 0).trans rfl, (blk_cell BK290.out 0).trans rfl⟩ (fun hHeld => ?_)
                 clear hK K
                 refine norm_ (a' := ?_) ?_ ?_
                 rotate_left
                 ·
                  show Act.put _ (some 105) _ = _
                  simp only [Act.put, List.setIfInBounds_toArray, List.set_cons_zero, List.set_cons_succ, i64_w, i32_w]
                  rfl
                 refine one_ (i := 7) (N := some 107) #[true, true, true, true, true, true, true, true, false, false, false] rfl rfl (one_of HT_.out (by kernel_rfl)) (by decide) (fun K hK => ?_)
                 refine goes_ Tryd.func11 (by kernel_rfl) rfl #[.agg #[.slice Ao157 y287.length co157]] (by rfl) rfl rfl (by (try simp only [List.map_toArray, List.map_cons, List.map_nil]); first | done | rfl | (simp only [List.length_drop, List.length_take]; rfl)) ?_
                 with_reducible refine (pantrymade_Config.calls k3 (fun k_ => ((k_ ≠ gb245 ∧ (k_ ≠ gb246 ∧ (k_ ≠ gb252 ∧ (k_ ≠ gb253 ∧ (k_ ≠ gb279 ∧ (k_ ≠ gb280 ∧ k_ ≠ gb290)))))) ∧ some k_ ≠ (v292 : Value).ownBlock)) _ _ y287 t294 _ ?side1 A131.out).mono ?_
                 (case side1 => exact Kd.N_V (HO289.out))
                 rintro e w162 ⟨v295, rfl, ho0, hb⟩
                 refine ⟨_, rfl, ?_⟩
                 have n0_ := Aside0.mk (Kd.V_elder' (by (with_reducible repeat (first | apply Kd.V_alloc | apply Kd.V_drewN | apply Kd.V_drew)); exact HO_58.out) (Kd.N_base ho0) hb)
                 have n1_ := Aside0.mk (Kd.V_elder' (by (with_reducible repeat (first | apply Kd.V_alloc | apply Kd.V_drewN | apply Kd.V_drew)); exact HO_246000.out) (Kd.N_base ho0) hb)
                 have n2_ := Aside0.mk (Kd.V_elder' (by (with_reducible repeat (first | apply Kd.V_alloc | apply Kd.V_drewN | apply Kd.V_drew)); exact HO_253000.out) (Kd.N_base ho0) hb)
                 have n3_ := Aside0.mk (Kd.V_elder' (by (with_reducible repeat (first | apply Kd.V_alloc | apply Kd.V_drewN | apply Kd.V_drew)); exact HO276.out) (Kd.N_base ho0) hb)
                 have n4_ := Aside0.mk (Kd.N_elder' (by (with_reducible repeat (first | apply Kd.N_alloc | apply Kd.N_drewN | apply Kd.N_drew)); exact HO289.out) (Kd.N_base ho0) hb)
                 have n5_ := Aside0.mk (Kd.N_elder' (by (with_reducible repeat (first | apply Kd.N_alloc | apply Kd.N_drewN | apply Kd.N_drew)); exact HO293.out) (Kd.N_base ho0) hb)
                 have n6_ := Aside0.mk (Kd.N_lower (Kd.N_mono (ok' := fun k_ => some k_ ≠ (v292 : Value).ownBlock ∧ k_ ≠ gb245 ∧ k_ ≠ gb246 ∧ k_ ≠ gb252 ∧ k_ ≠ gb253 ∧ k_ ≠ gb279 ∧ k_ ≠ gb280 ∧ k_ ≠ gb290) ho0 (fun k_ hk_ => ⟨Or.elim hk_ (fun hs_ => hs_.2) (fun hn_ => (Kd.fresh' (Kd.N_lt (by (with_reducible repeat (first | apply Kd.N_alloc | apply Kd.N_drewN | apply Kd.N_drew)); exact HO293.out)) k_ hn_)), Or.elim hk_ (fun hs_ => hs_.1.1) (fun hn_ => (Kd.freshB (g := gb245) (o := .cells #[.slice Ao16 t240.length co16] 24 (0, 0)) (by (with_reducible repeat (first | refine bN ?_ _ | refine bD ?_ | refine bA ?_ _)); exact BK245.out) k_ hn_)), Or.elim hk_ (fun hs_ => hs_.1.2.1) (fun hn_ => (Kd.freshB (g := gb246) (o := .cells #[.int .i64 t243, .int .i64 t244] 48 (0, 0)) (by (with_reducible repeat (first | refine bN ?_ _ | refine bD ?_ | refine bA ?_ _)); exact BK246.out) k_ hn_)), Or.elim hk_ (fun hs_ => hs_.1.2.2.1) (fun hn_ => (Kd.freshB (g := gb252) (o := .cells #[.slice Ao23 t247.length co23] 24 (0, 0)) (by (with_reducible repeat (first | refine bN ?_ _ | refine bD ?_ | refine bA ?_ _)); exact BK252.out) k_ hn_)), Or.elim hk_ (fun hs_ => hs_.1.2.2.2.1) (fun hn_ => (Kd.freshB (g := gb253) (o := .cells #[.int .i64 t250, .int .i64 t251] 48 (0, 0)) (by (with_reducible repeat (first | refine bN ?_ _ | refine bD ?_ | refine bA ?_ _)); exact BK253.out) k_ hn_)), Or.elim hk_ (fun hs_ => hs_.1.2.2.2.2.1) (fun hn_ => (Kd.freshB (g := gb279) (o := .cells #[.slice Ao136 t274.length co136] 24 (0, 0)) (by (with_reducible repeat (first | refine bN ?_ _ | refine bD ?_ | refine bA ?_ _)); exact BK279.out) k_ hn_)), Or.elim hk_ (fun hs_ => hs_.1.2.2.2.2.2.1) (fun hn_ => (Kd.freshB (g := gb280) (o := .cells #[.int .i64 t277, .int .i64 t278] 48 (0, 0)) (by (with_reducible repeat (first | refine bN ?_ _ | refine bD ?_ | refine bA ?_ _)); exact BK280.out) k_ hn_)), Or.elim hk_ (fun hs_ => hs_.1.2.2.2.2.2.2) (fun hn_ => (Kd.freshB (g := gb290) (o := .cells #[.slice Ao157 y287.length co157] 24 (0, 0)) (by (with_reducible repeat (first | refine bN ?_ _ | refine bD ?_ | refine bA ?_ _)); exact BK290.out) k_ hn_))⟩)) (below_size (by repeat (first | (with_reducible first | exact HB.out | apply below_alloc | apply pw_below_drewN | apply below_drew1 | refine below_set ?_ GE245.out | refine below_set ?_ GE246.out | refine below_set ?_ GE252.out | refine below_set ?_ GE253.out | refine below_set ?_ GE279.out | refine below_set ?_ GE280.out | refine below_set ?_ GE290.out) | exact HB.out))))
                 have n7_ := Aside0.mk (blk_below (g := gb245) (o := .cells #[.slice Ao16 t240.length co16] 24 (0, 0)) (by (with_reducible repeat (first | refine bN ?_ _ | refine bD ?_ | refine bA ?_ _)); exact BK245.out) hb)
                 have n8_ := Aside0.mk (blk_below (g := gb246) (o := .cells #[.int .i64 t243, .int .i64 t244] 48 (0, 0)) (by (with_reducible repeat (first | refine bN ?_ _ | refine bD ?_ | refine bA ?_ _)); exact BK246.out) hb)
                 have n9_ := Aside0.mk (blk_below (g := gb252) (o := .cells #[.slice Ao23 t247.length co23] 24 (0, 0)) (by (with_reducible repeat (first | refine bN ?_ _ | refine bD ?_ | refine bA ?_ _)); exact BK252.out) hb)
                 have n10_ := Aside0.mk (blk_below (g := gb253) (o := .cells #[.int .i64 t250, .int .i64 t251] 48 (0, 0)) (by (with_reducible repeat (first | refine bN ?_ _ | refine bD ?_ | refine bA ?_ _)); exact BK253.out) hb)
                 have n11_ := Aside0.mk (blk_below (g := gb279) (o := .cells #[.slice Ao136 t274.length co136] 24 (0, 0)) (by (with_reducible repeat (first | refine bN ?_ _ | refine bD ?_ | refine bA ?_ _)); exact BK279.out) hb)
                 have n12_ := Aside0.mk (blk_below (g := gb280) (o := .cells #[.int .i64 t277, .int .i64 t278] 48 (0, 0)) (by (with_reducible repeat (first | refine bN ?_ _ | refine bD ?_ | refine bA ?_ _)); exact BK280.out) hb)
                 have n13_ := Aside0.mk (blk_below (g := gb290) (o := .cells #[.slice Ao157 y287.length co157] 24 (0, 0)) (by (with_reducible repeat (first | refine bN ?_ _ | refine bD ?_ | refine bA ?_ _)); exact BK290.out) hb)
                 have n14_ := Aside0.mk (below_step (by repeat (first | (with_reducible first | exact HB.out | apply below_alloc | apply pw_below_drewN | apply below_drew1 | refine below_set ?_ GE245.out | refine below_set ?_ GE246.out | refine below_set ?_ GE252.out | refine below_set ?_ GE253.out | refine below_set ?_ GE279.out | refine below_set ?_ GE280.out | refine below_set ?_ GE290.out) | exact HB.out)) hb)
                 clear HO_58
                 clear HO_246000
                 clear HO_253000
                 clear HO276
                 clear HO289
                 clear HO293
                 clear BK245
                 clear BK246
                 clear BK252
                 clear BK253
                 clear BK279
                 clear BK280
                 clear BK290
                 clear HB
                 have HO_58 := n0_
                 have HO_246000 := n1_
                 have HO_253000 := n2_
                 have HO276 := n3_
                 have HO289 := n4_
                 have HO293 := n5_
                 have HO296 := n6_
                 have BK245 := n7_
                 have BK246 := n8_
                 have BK252 := n9_
                 have BK253 := n10_
                 have BK279 := n11_
                 have BK280 := n12_
                 have BK290 := n13_
                 have HB := n14_
                 clear n0_ n1_ n2_ n3_ n4_ n5_ n6_ n7_ n8_ n9_ n10_ n11_ n12_ n13_ n14_
                 (try clear hb)
                 (try clear hb2)
                 (try clear hk)
                 (try clear hi)
                 (try clear ho0)
                 obtain ⟨Ao163, co163, eo163⟩ := Kd.N_slice HO293.out
                 (first | subst eo163 | (injection eo163 with f1_ f2_ f3_; have f4_ := f1_.symm; have f5_ := f3_.symm; clear f1_ f2_ f3_; subst f4_; subst f5_))
                 obtain ⟨Ao164, co164, eo164⟩ := Kd.N_slice HO296.out
                 (first | subst eo164 | (injection eo164 with f1_ f2_ f3_; have f4_ := f1_.symm; have f5_ := f3_.symm; clear f1_ f2_ f3_; subst f4_; subst f5_))
                 refine hK.out _ _ ⟨(blk_cell BK280.out 0).trans rfl, (blk_cell BK280.out 1).trans rfl, (blk_cell BK279.out 0).trans rfl, (blk_cell BK290.out 0).trans rfl⟩ (fun hHeld => ?_)
                 clear hK K
                 refine norm_ (a' := ?_) ?_ ?_
                 rotate_left
                 ·
                  show Act.put _ (some 107) _ = _
                  simp only [Act.put, List.setIfInBounds_toArray, List.set_cons_zero, List.set_cons_succ, i64_w, i32_w]
                  rfl
                 refine one_ (i := 8) (N := some 108) #[true, true, true, true, true, true, true, true, true, false, false] rfl rfl (one_of HT_.out (by kernel_rfl)) (by decide) (fun K hK => ?_)
                 refine goes_ Tryd.func17 (by kernel_rfl) rfl #[.agg #[.slice Ao163 t291.length co163], .agg #[.slice Ao164 t294.length co164]] (by rfl) rfl rfl (by (try simp only [List.map_toArray, List.map_cons, List.map_nil]); first | done | rfl | (simp only [List.length_drop, List.length_take]; rfl)) ?_
                 with_reducible refine (pantryref09_Same.calls k3 _ _ t291 _ _ t294 t297 _ ?side1 ?side2 ?side3 ?side4 A132.out).mono ?_
                 (case side1 => repeat (first | exact (Kd.N_reads' HO293.out).2.2 | (with_reducible refine Kd.C_alloc ?_ _) | (with_reducible refine Kd.C_drewN ?_ _) | (with_reducible refine Kd.C_drew ?_)))
                 (case side2 => exact (Kd.N_reads' HO293.out).2.1)
                 (case side3 => repeat (first | exact (Kd.N_reads' HO296.out).2.2 | (with_reducible refine Kd.C_alloc ?_ _) | (with_reducible refine Kd.C_drewN ?_ _) | (with_reducible refine Kd.C_drew ?_)))
                 (case side4 => exact (Kd.N_reads' HO296.out).2.1)
                 rintro e w165 ⟨rfl, hb⟩
                 refine ⟨_, rfl, ?_⟩
                 have n0_ := Aside0.mk (Kd.V_below (by (with_reducible repeat (first | apply Kd.V_alloc | apply Kd.V_drewN | apply Kd.V_drew)); exact HO_58.out) hb)
                 have n1_ := Aside0.mk (Kd.V_below (by (with_reducible repeat (first | apply Kd.V_alloc | apply Kd.V_drewN | apply Kd.V_drew)); exact HO_246000.out) hb)
                 have n2_ := Aside0.mk (Kd.V_below (by (with_reducible repeat (first | apply Kd.V_alloc | apply Kd.V_drewN | apply Kd.V_drew)); exact HO_253000.out) hb)
                 have n3_ := Aside0.mk (Kd.V_below (by (with_reducible repeat (first | apply Kd.V_alloc | apply Kd.V_drewN | apply Kd.V_drew)); exact HO276.out) hb)
                 have n4_ := Aside0.mk (Kd.N_below (by (with_reducible repeat (first | apply Kd.N_alloc | apply Kd.N_drewN | apply Kd.N_drew)); exact HO289.out) hb)
                 have n5_ := Aside0.mk (Kd.N_below (by (with_reducible repeat (first | apply Kd.N_alloc | apply Kd.N_drewN | apply Kd.N_drew)); exact HO293.out) hb)
                 have n6_ := Aside0.mk (Kd.N_below (by (with_reducible repeat (first | apply Kd.N_alloc | apply Kd.N_drewN | apply Kd.N_drew)); exact HO296.out) hb)
                 have n7_ := Aside0.mk (blk_below (g := gb245) (o := .cells #[.slice Ao16 t240.length co16] 24 (0, 0)) (by (with_reducible repeat (first | refine bN ?_ _ | refine bD ?_ | refine bA ?_ _)); exact BK245.out) hb)
                 have n8_ := Aside0.mk (blk_below (g := gb246) (o := .cells #[.int .i64 t243, .int .i64 t244] 48 (0, 0)) (by (with_reducible repeat (first | refine bN ?_ _ | refine bD ?_ | refine bA ?_ _)); exact BK246.out) hb)
                 have n9_ := Aside0.mk (blk_below (g := gb252) (o := .cells #[.slice Ao23 t247.length co23] 24 (0, 0)) (by (with_reducible repeat (first | refine bN ?_ _ | refine bD ?_ | refine bA ?_ _)); exact BK252.out) hb)
                 have n10_ := Aside0.mk (blk_below (g := gb253) (o := .cells #[.int .i64 t250, .int .i64 t251] 48 (0, 0)) (by (with_reducible repeat (first | refine bN ?_ _ | refine bD ?_ | refine bA ?_ _)); exact BK253.out) hb)
                 have n11_ := Aside0.mk (blk_below (g := gb279) (o := .cells #[.slice Ao136 t274.length co136] 24 (0, 0)) (by (with_reducible repeat (first | refine bN ?_ _ | refine bD ?_ | refine bA ?_ _)); exact BK279.out) hb)
                 have n12_ := Aside0.mk (blk_below (g := gb280) (o := .cells #[.int .i64 t277, .int .i64 t278] 48 (0, 0)) (by (with_reducible repeat (first | refine bN ?_ _ | refine bD ?_ | refine bA ?_ _)); exact BK280.out) hb)
                 have n13_ := Aside0.mk (blk_below (g := gb290) (o := .cells #[.slice Ao157 y287.length co157] 24 (0, 0)) (by (with_reducible repeat (first | refine bN ?_ _ | refine bD ?_ | refine bA ?_ _)); exact BK290.out) hb)
                 have n14_ := Aside0.mk (below_step (by repeat (first | (with_reducible first | exact HB.out | apply below_alloc | apply pw_below_drewN | apply below_drew1 | refine below_set ?_ GE245.out | refine below_set ?_ GE246.out | refine below_set ?_ GE252.out | refine below_set ?_ GE253.out | refine below_set ?_ GE279.out | refine below_set ?_ GE280.out | refine below_set ?_ GE290.out) | exact HB.out)) hb)
                 clear HO_58
                 clear HO_246000
                 clear HO_253000
                 clear HO276
                 clear HO289
                 clear HO293
                 clear HO296
                 clear BK245
                 clear BK246
                 clear BK252
                 clear BK253
                 clear BK279
                 clear BK280
                 clear BK290
                 clear HB
                 have HO_58 := n0_
                 have HO_246000 := n1_
                 have HO_253000 := n2_
                 have HO276 := n3_
                 have HO289 := n4_
                 have HO293 := n5_
                 have HO296 := n6_
                 have BK245 := n7_
                 have BK246 := n8_
                 have BK252 := n9_
                 have BK253 := n10_
                 have BK279 := n11_
                 have BK280 := n12_
                 have BK290 := n13_
                 have HB := n14_
                 clear n0_ n1_ n2_ n3_ n4_ n5_ n6_ n7_ n8_ n9_ n10_ n11_ n12_ n13_ n14_
                 (try clear hb)
                 (try clear hb2)
                 (try clear hk)
                 (try clear hi)
                 refine hK.out _ _ ⟨(blk_cell BK280.out 0).trans rfl, (blk_cell BK280.out 1).trans rfl, (blk_cell BK279.out 0).trans rfl, (blk_cell BK290.out 0).trans rfl⟩ (fun hHeld => ?_)
                 clear hK K
                 refine norm_ (a' := ?_) ?_ ?_
                 rotate_left
                 ·
                  show Act.put _ (some 108) _ = _
                  simp only [Act.put, List.setIfInBounds_toArray, List.set_cons_zero, List.set_cons_succ, i64_w, i32_w]
                  rfl
                 refine pure_ (i := 9) (N := some 109) (v := ?_) (a' := ?_) #[true, true, true, true, true, true, true, true, true, true, false] rfl rfl (any_of HT_.out (by kernel_rfl)) (fun _ _ _ h => h) (Or.inl ⟨by rfl, ?_⟩) ?_ ?_
                 rotate_left
                 ·
                  intro w'
                  go_simp
                  with_reducible rfl
                 rotate_left
                 ·
                  simp only [Act.put, List.setIfInBounds_toArray, List.set_cons_zero, List.set_cons_succ, i64_w, i32_w]
                  rfl
                 refine pure_ (i := 10) (N := some 4) (v := ?_) (a' := ?_) #[true, true, true, true, true, true, true, true, true, true, true] rfl rfl (any_of HT_.out (by kernel_rfl)) (fun _ _ _ h => h) (Or.inl ⟨by rfl, ?_⟩) ?_ ?_
                 rotate_left
                 ·
                  intro w'
                  go_simp
                  with_reducible rfl
                 rotate_left
                 ·
                  simp only [Act.put, List.setIfInBounds_toArray, List.set_cons_zero, List.set_cons_succ, i64_w, i32_w]
                  rfl
                 refine done_ (done_of HT_.out (by kernel_rfl)) ?_
                 try go_wp2
                 go_ret
                 exact ⟨by first | rfl | (simp [errW_none, errW_some] <;> rfl) | (simp [*, errW_none, errW_some] <;> rfl) | (simp only [ne_nil_bool]; rfl), by repeat (first | (with_reducible first | exact HB.out | apply below_alloc | apply pw_below_drewN | apply below_drew1 | refine below_set ?_ GE245.out | refine below_set ?_ GE246.out | refine below_set ?_ GE252.out | refine below_set ?_ GE253.out | refine below_set ?_ GE279.out | refine below_set ?_ GE280.out | refine below_set ?_ GE290.out) | exact HB.out)⟩
                ·
                 rw [if_neg c129] at H
                 exact absurd (Option.some.inj H) (by rw [hT.out]; decide)
               ·
                rw [if_neg c128] at H
                exact absurd H (by simp)
              ·
               rw [if_neg c127] at H
               exact absurd H (by simp)
             ·
              rw [if_neg c125] at H
              exact absurd H (by simp)
            ·
             rw [if_neg c124] at H
             exact absurd H (by simp)
     ·
      rw [if_neg c9] at H
      exact absurd H (by simp)
 ·
  replace c4 := Bool.eq_false_iff.mpr c4
  subst c4
  have H1 : (some false) = some r := by rw [if_neg (show ¬ (false = true) by decide)] at H; exact H
  exact absurd (Option.some.inj H1) (by rw [hT.out]; decide)
end Go.Proofs.YtcoaajkhfgakgaaDoor.Pr
end
