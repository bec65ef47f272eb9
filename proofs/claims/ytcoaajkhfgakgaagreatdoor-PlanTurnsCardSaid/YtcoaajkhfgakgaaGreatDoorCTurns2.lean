/- Part 2 of the proof of Turns: what the program's functions compute, and that it is so. Conditions: as each theorem states. (Packed out of our texts: PF49, XHostSpec, XNumber, XRising, XClone, XKeySpec, XKey, XRuleSpec, XRule.) -/
import Derived.Test.YtcoaajkhfgakgaaGreatDoorCTurns1
import Derived.WalkLawsBesides
section
namespace Go.Proofs.YtcoaajkhfgakgaaGreatDoor.Pr
open Go.RowKit Go.Proofs.YtcoaajkhfgakgaaGreatDoorW.PrintWords Go.Proofs.YtcoaajkhfgakgaaGreatDoorW.PrintLast Go.Proofs.YtcoaajkhfgakgaaGreatDoorW.PrintMore
attribute [local go_sem] max2_int min2_int max_two min_two max_three min_three max_four min_four   -- for this text's walks alone
set_option linter.unusedVariables false
set_option linter.unusedSimpArgs false
mutual
def place_Host.j0 : Nat → ByteArray → ByteArray → Int → Bool → Option (ByteArray × Int)
  | 0, _, _, _, _ => none
  | k + 1, x4, x5, x7, x45 => if x45 = true then (some ((⟨#[]⟩ : ByteArray), 25)) else ((sign_Lower.f x4).bind fun t740 => (if x5.toList = ([] : List UInt8) then (place_Host.j1 k t740 x5 true) else (place_Host.j1 k t740 x5 (x7 == 80))))
def place_Host.j1 : Nat → ByteArray → ByteArray → Bool → Option (ByteArray × Int)
  | 0, _, _, _ => none
  | k + 1, x4, x5, x53 => if x53 = true then (some (x4, 0)) else ((strings_TrimLeft.f x5 (⟨#[48]⟩ : ByteArray)).bind fun t741 => (if t741.toList = ([] : List UInt8) then (if x4.size + 1 ≤ 9223372036854775807 then (if (x4 ++ (⟨#[58]⟩ : ByteArray)).size + 1 ≤ 9223372036854775807 then (some ((x4 ++ (⟨#[58]⟩ : ByteArray)) ++ (⟨#[48]⟩ : ByteArray), 0)) else (none)) else (none)) else (if x4.size + 1 ≤ 9223372036854775807 then (if (x4 ++ (⟨#[58]⟩ : ByteArray)).size + t741.size ≤ 9223372036854775807 then (some ((x4 ++ (⟨#[58]⟩ : ByteArray)) ++ t741, 0)) else (none)) else (none))))
end
def place_Host.f (k : Nat) (a0 : ByteArray) : Option (ByteArray × Int) := (strings_Cut.f a0 (⟨#[58]⟩ : ByteArray)).bind fun bt731 => ((sign_Number.f k bt731.2.1).bind fun bt734 => (if bt731.1.toList = ([] : List UInt8) then (place_Host.j0 k bt731.1 bt731.2.1 bt734.1 true) else (if (bt731.1.size : Int) > 40 then (place_Host.j0 k bt731.1 bt731.2.1 bt734.1 true) else ((place_only.f bt731.1 (([45, 46] : List Int))).bind fun t739 => (if t739 = true then (if (bt731.2.1.size : Int) > 5 then (place_Host.j0 k bt731.1 bt731.2.1 bt734.1 true) else (if bt731.2.1.toList = ([] : List UInt8) then (place_Host.j0 k bt731.1 bt731.2.1 bt734.1 false) else (place_Host.j0 k bt731.1 bt731.2.1 bt734.1 (!bt734.2)))) else (place_Host.j0 k bt731.1 bt731.2.1 bt734.1 true))))))
theorem place_Host.mono_l : ∀ k, (∀ y0 y1 y2 y3, LeO (place_Host.j0 k y0 y1 y2 y3) (place_Host.j0 (k + 1) y0 y1 y2 y3)) ∧ (∀ y0 y1 y2, LeO (place_Host.j1 k y0 y1 y2) (place_Host.j1 (k + 1) y0 y1 y2))
  | 0 => ⟨fun _ _ _ _ r h => by simp [place_Host.j0] at h, fun _ _ _ r h => by simp [place_Host.j1] at h⟩
  | k + 1 => by
    obtain ⟨ih0, ih1⟩ := place_Host.mono_l k
    refine ⟨?_, ?_⟩
    · intro y0 y1 y2 y3
      unfold place_Host.j0
      repeat' first
      | (with_reducible exact ih0 _ _ _ _)
      | (with_reducible exact ih1 _ _ _)
      | (with_reducible exact sign_Number.mono _ _)
      | (with_reducible exact LeO.refl _)
      | (with_reducible exact LeO.none _)
      | (with_reducible refine LeO.ite ?_ ?_)
      | (with_reducible refine LeO.bind ?_ (fun _ => ?_))
      | exact ih0 _ _ _ _
      | exact ih1 _ _ _
      | exact sign_Number.mono _ _
      | exact LeO.none _
      | refine LeO.ite ?_ ?_
      | refine LeO.bind ?_ (fun _ => ?_)
    · intro y0 y1 y2
      unfold place_Host.j1
      repeat' first
      | (with_reducible exact ih0 _ _ _ _)
      | (with_reducible exact ih1 _ _ _)
      | (with_reducible exact sign_Number.mono _ _)
      | (with_reducible exact LeO.refl _)
      | (with_reducible exact LeO.none _)
      | (with_reducible refine LeO.ite ?_ ?_)
      | (with_reducible refine LeO.bind ?_ (fun _ => ?_))
      | exact ih0 _ _ _ _
      | exact ih1 _ _ _
      | exact sign_Number.mono _ _
      | exact LeO.none _
      | refine LeO.ite ?_ ?_
      | refine LeO.bind ?_ (fun _ => ?_)
theorem place_Host.mono : ∀ a0 k, LeO (place_Host.f k a0) (place_Host.f (k + 1) a0) := by
  intro a0 k
  obtain ⟨ih0, ih1⟩ := place_Host.mono_l k
  unfold place_Host.f
  repeat' first
      | (with_reducible exact ih0 _ _ _ _)
      | (with_reducible exact ih1 _ _ _)
      | (with_reducible exact sign_Number.mono _ _)
      | (with_reducible exact LeO.refl _)
      | (with_reducible exact LeO.none _)
      | (with_reducible refine LeO.ite ?_ ?_)
      | (with_reducible refine LeO.bind ?_ (fun _ => ?_))
      | exact ih0 _ _ _ _
      | exact ih1 _ _ _
      | exact sign_Number.mono _ _
      | exact LeO.none _
      | refine LeO.ite ?_ ?_
      | refine LeO.bind ?_ (fun _ => ?_)
set_option maxHeartbeats 8000000 in
set_option maxRecDepth 100000 in
theorem place_Host.calls (k : Nat) (a0 : ByteArray) (r1 : ByteArray) (r2 : Int) (w : World) (h : place_Host.f k a0 = some (r1, r2)) :
  Calls Tryz.prog 49 #[.string a0] w fun e w' => e = .returned (.tuple #[.string r1, .int .i64 r2]) ∧ Below w.heap.size w w' := by
 have HB := Aside0.mk (Below.refl w.heap.size w)
 have H : ((strings_Cut.f a0 (⟨#[58]⟩ : ByteArray)).bind fun bt731 => ((sign_Number.f k bt731.2.1).bind fun bt734 => (if bt731.1.toList = ([] : List UInt8) then (place_Host.j0 k bt731.1 bt731.2.1 bt734.1 true) else (if (bt731.1.size : Int) > 40 then (place_Host.j0 k bt731.1 bt731.2.1 bt734.1 true) else ((place_only.f bt731.1 (([45, 46] : List Int))).bind fun t739 => (if t739 = true then (if (bt731.2.1.size : Int) > 5 then (place_Host.j0 k bt731.1 bt731.2.1 bt734.1 true) else (if bt731.2.1.toList = ([] : List UInt8) then (place_Host.j0 k bt731.1 bt731.2.1 bt734.1 false) else (place_Host.j0 k bt731.1 bt731.2.1 bt734.1 (!bt734.2)))) else (place_Host.j0 k bt731.1 bt731.2.1 bt734.1 true))))))) = some (r1, r2) := h
 clear h
 replace H := Option.bind_eq_some_iff.mp H
 obtain ⟨⟨t731, t732, t733⟩, A20, H⟩ := H
 replace H : ((sign_Number.f k t732).bind fun bt734 => (if t731.toList = ([] : List UInt8) then (place_Host.j0 k t731 t732 bt734.1 true) else (if (t731.size : Int) > 40 then (place_Host.j0 k t731 t732 bt734.1 true) else ((place_only.f t731 (([45, 46] : List Int))).bind fun t739 => (if t739 = true then (if (t732.size : Int) > 5 then (place_Host.j0 k t731 t732 bt734.1 true) else (if t732.toList = ([] : List UInt8) then (place_Host.j0 k t731 t732 bt734.1 false) else (place_Host.j0 k t731 t732 bt734.1 (!bt734.2)))) else (place_Host.j0 k t731 t732 bt734.1 true)))))) = some (r1, r2) := H
 have A2 := Aside0.mk A20
 clear A20
 replace H := Option.bind_eq_some_iff.mp H
 obtain ⟨⟨t734, t735⟩, A30, H⟩ := H
 replace H : (if t731.toList = ([] : List UInt8) then (place_Host.j0 k t731 t732 t734 true) else (if (t731.size : Int) > 40 then (place_Host.j0 k t731 t732 t734 true) else ((place_only.f t731 (([45, 46] : List Int))).bind fun t739 => (if t739 = true then (if (t732.size : Int) > 5 then (place_Host.j0 k t731 t732 t734 true) else (if t732.toList = ([] : List UInt8) then (place_Host.j0 k t731 t732 t734 false) else (place_Host.j0 k t731 t732 t734 (!t735)))) else (place_Host.j0 k t731 t732 t734 true))))) = some (r1, r2) := H
 have A3 := Aside0.mk A30
 clear A30
 have HC4 := Aside0.mk H
 clear H
 go_enter Tryz.func49, Tryz.ntmps49
 go_upto_region 3 with (first | ((with_reducible refine gate_callee (f := 81) rfl ?_); refine goesL_ (some 11) rfl rfl Tryz.func81 (by kernel_rfl) rfl #[.string a0, .string (⟨#[58]⟩ : ByteArray)] rfl (by (try simp only [List.map_toArray, List.map_cons, List.map_nil]); first | done | rfl | (simp only [List.length_drop, List.length_take]; rfl)) ?_; (with_reducible refine (strings_Cut.calls a0 (⟨#[58]⟩ : ByteArray) t731 t732 t733 _ A2.out).mono ?_); rintro e w' ⟨rfl, ⟨nd, rfl⟩⟩; refine ⟨_, rfl, ?_⟩) | ((with_reducible refine gate_callee (f := 82) rfl ?_); refine goesL_ (some 17) rfl rfl Tryz.func82 (by kernel_rfl) rfl #[.string t732] rfl (by (try simp only [List.map_toArray, List.map_cons, List.map_nil]); first | done | rfl | (simp only [List.length_drop, List.length_take]; rfl)) ?_; (with_reducible refine (sign_Number.calls k t732 t734 t735 _ A3.out).mono ?_); rintro e w5 ⟨rfl, hb⟩; refine ⟨_, rfl, ?_⟩; have n0_ := Aside0.mk (below_step (by repeat (first | (with_reducible first | exact HB.out | apply below_alloc | apply pw_below_drewN | apply below_drew1) | exact HB.out)) hb); clear HB; have HB := n0_; clear n0_; (try clear hb); (try clear hb2); (try clear hk); (try clear hi)))
 (try simp only [Act.put, List.setIfInBounds_toArray, List.set_cons_zero, List.set_cons_succ])
 go_cut [45] (fun v45 wc => ∃ (kq : Nat) (x45_3 : Bool), v45 = .bool x45_3 ∧ Aside0 (place_Host.j0 kq t731 t732 t734 x45_3 = some (r1, r2)) ∧ Aside0 (kq ≤ k) ∧ Aside0 (Below w.heap.size w wc))
 case first =>
  have H := HC4.out
  clear HC4
  by_cases c6 : t731.toList = ([] : List UInt8)
  ·
   rw [if_pos c6] at H
   have c6b0 : (t731.toList == ([] : List UInt8)) = true := beq_iff_eq.mpr c6
   have c6b1 : (t731.toList != ([] : List UInt8)) = false := bne_eq_false_iff_eq.mpr c6
   clear c6
   (first | rw [c6b0] | (simp only [i64_w, i32_w]; rw [c6b0]) | skip)
   have H' := Aside0.mk H
   clear H
   go_wp2
   go_meet
   case rel => exact ⟨_, (true), (by first | rfl | (simp; done) | (simp [*]; done)), H', ⟨by first | omega | exact Nat.le_refl _⟩, ⟨by repeat (first | (with_reducible first | exact HB.out | apply below_alloc | apply pw_below_drewN | apply below_drew1) | exact HB.out)⟩⟩
  ·
   rw [if_neg c6] at H
   have c6b0 : (t731.toList == ([] : List UInt8)) = false := beq_eq_false_iff_ne.mpr c6
   have c6b1 : (t731.toList != ([] : List UInt8)) = true := bne_iff_ne.mpr c6
   (first | rw [c6b0] | (simp only [i64_w, i32_w]; rw [c6b0]) | skip)
   by_cases c7 : (t731.size : Int) > 40
   ·
    rw [if_pos c7] at H
    have c7b0 : decide (40 < (t731.size : Int)) = true := decide_eq_true c7
    have c7b1 : decide (40 < t731.size) = true := decide_eq_true (by omega)
    clear c7
    have H' := Aside0.mk H
    clear H
    go_wp2
    go_meet
    case rel => exact ⟨_, (true), (by first | rfl | (simp; done) | (simp [*]; done)), H', ⟨by first | omega | exact Nat.le_refl _⟩, ⟨by repeat (first | (with_reducible first | exact HB.out | apply below_alloc | apply pw_below_drewN | apply below_drew1) | exact HB.out)⟩⟩
   ·
    rw [if_neg c7] at H
    have c7b0 : decide (40 < (t731.size : Int)) = false := decide_eq_false c7
    have c7b1 : decide (40 < t731.size) = false := decide_eq_false (by omega)
    clear c7
    obtain ⟨y736, hy736⟩ : ∃ y_ : List Int, y_ = (([45, 46] : List Int)) := ⟨_, rfl⟩
    replace H : ((place_only.f t731 y736).bind fun t739 => (if t739 = true then (if (t732.size : Int) > 5 then (place_Host.j0 k t731 t732 t734 true) else (if t732.toList = ([] : List UInt8) then (place_Host.j0 k t731 t732 t734 false) else (place_Host.j0 k t731 t732 t734 (!t735)))) else (place_Host.j0 k t731 t732 t734 true))) = some (r1, r2) := by first | (rw [hy736]; with_reducible exact H) | (have H2_ := (Option.bind_some _ _).symm.trans H; rw [hy736]; with_reducible exact H2_) | (have H2_ := (Option.bind_some _ _).symm.trans H; with_reducible exact H2_) | with_reducible exact H | (rw [hy736]; exact H) | exact H
    have Ny736 := Aside0.mk hy736
    clear hy736
    replace H := Option.bind_eq_some_iff.mp H
    obtain ⟨t739, A80, H⟩ := H
    replace H : (if t739 = true then (if (t732.size : Int) > 5 then (place_Host.j0 k t731 t732 t734 true) else (if t732.toList = ([] : List UInt8) then (place_Host.j0 k t731 t732 t734 false) else (place_Host.j0 k t731 t732 t734 (!t735)))) else (place_Host.j0 k t731 t732 t734 true)) = some (r1, r2) := H
    have A8 := Aside0.mk A80
    clear A80
    by_cases c9 : t739 = true
    ·
     subst c9
     have H1 : (if (t732.size : Int) > 5 then (place_Host.j0 k t731 t732 t734 true) else (if t732.toList = ([] : List UInt8) then (place_Host.j0 k t731 t732 t734 false) else (place_Host.j0 k t731 t732 t734 (!t735)))) = some (r1, r2) := by rw [if_pos rfl] at H; exact H
     clear H
     have H := H1
     clear H1
     by_cases c10 : (t732.size : Int) > 5
     ·
      rw [if_pos c10] at H
      have c10b0 : decide (5 < (t732.size : Int)) = true := decide_eq_true c10
      have c10b1 : decide (5 < t732.size) = true := decide_eq_true (by omega)
      clear c10
      have H' := Aside0.mk H
      clear H
      go_wp2_with (first | ((with_reducible refine gate_dst (N := 29) rfl ?_); (try (refine gate_guard (by rfl) ?_; dsimp only)); refine Kd.R_lit (Kd.int .u8) _ 5 ?hg (N := 29) ?hd (xs := ([45, 46] : List Int)) (inner := [.int .u8 45, .int .u8 46]) (ok := fun _ => True) (okp := fun _ => True) ?hr ?hp (fun _ hk => hk) trivial (Below.refl _ _) (Nat.le_refl _) (by simp) ?_; (case hd => rfl); (case hg => rfl); (case hr => first | (go_simp; done) | (go_simp; rfl)); (case hp => exact (Reps.one (show Kd.M (Kd.int .u8) _ _ _ 45 [.int .u8 45] from rfl) (Reps.one (show Kd.M (Kd.int .u8) _ _ _ 46 [.int .u8 46] from rfl) (Reps.none _ _)))); intro v737 w11 ho12 hb hg_ hnew_; clear hg_ hnew_; (first | rw [← Ny736.out] at ho12 | (simp only [Int.reduceToNat] at ho12; rw [← Ny736.out] at ho12)); have n0_ := Aside0.mk (Kd.R_lower ho12 (below_size (by repeat (first | (with_reducible first | exact HB.out | apply below_alloc | apply pw_below_drewN | apply below_drew1) | exact HB.out)))); have n1_ := Aside0.mk (below_step (by repeat (first | (with_reducible first | exact HB.out | apply below_alloc | apply pw_below_drewN | apply below_drew1) | exact HB.out)) hb); clear HB; have HO738 := n0_; have HB := n1_; clear n0_ n1_; clear hb ho12; obtain ⟨Ao13, co13, eo13⟩ := Kd.R_slice HO738.out; subst eo13) | (go_at_call 83; (with_reducible refine (place_only.calls t731 _ _ y736 true _ ?side1 ?side2 A8.out).mono ?_); (case side1 => repeat (first | exact (Kd.R_reads' HO738.out).2.2 | (with_reducible refine Kd.C_alloc ?_ _) | (with_reducible refine Kd.C_drewN ?_ _) | (with_reducible refine Kd.C_drew ?_))); (case side2 => exact (Kd.R_reads' HO738.out).2.1); rintro e w' ⟨rfl, ⟨nd, rfl⟩⟩))
      go_meet
      case rel => exact ⟨_, (true), (by first | rfl | (simp; done) | (simp [*]; done)), H', ⟨by first | omega | exact Nat.le_refl _⟩, ⟨by repeat (first | (with_reducible first | exact HB.out | apply below_alloc | apply pw_below_drewN | apply below_drew1) | exact HB.out)⟩⟩
     ·
      rw [if_neg c10] at H
      have c10b0 : decide (5 < (t732.size : Int)) = false := decide_eq_false c10
      have c10b1 : decide (5 < t732.size) = false := decide_eq_false (by omega)
      clear c10
      by_cases c14 : t732.toList = ([] : List UInt8)
      ·
       rw [if_pos c14] at H
       have c14b0 : (t732.toList == ([] : List UInt8)) = true := beq_iff_eq.mpr c14
       have c14b1 : (t732.toList != ([] : List UInt8)) = false := bne_eq_false_iff_eq.mpr c14
       clear c14
       have H' := Aside0.mk H
       clear H
       go_wp2_with (first | ((with_reducible refine gate_dst (N := 29) rfl ?_); (try (refine gate_guard (by rfl) ?_; dsimp only)); refine Kd.R_lit (Kd.int .u8) _ 5 ?hg (N := 29) ?hd (xs := ([45, 46] : List Int)) (inner := [.int .u8 45, .int .u8 46]) (ok := fun _ => True) (okp := fun _ => True) ?hr ?hp (fun _ hk => hk) trivial (Below.refl _ _) (Nat.le_refl _) (by simp) ?_; (case hd => rfl); (case hg => rfl); (case hr => first | (go_simp; done) | (go_simp; rfl)); (case hp => exact (Reps.one (show Kd.M (Kd.int .u8) _ _ _ 45 [.int .u8 45] from rfl) (Reps.one (show Kd.M (Kd.int .u8) _ _ _ 46 [.int .u8 46] from rfl) (Reps.none _ _)))); intro v737 w15 ho16 hb hg_ hnew_; clear hg_ hnew_; (first | rw [← Ny736.out] at ho16 | (simp only [Int.reduceToNat] at ho16; rw [← Ny736.out] at ho16)); have n0_ := Aside0.mk (Kd.R_lower ho16 (below_size (by repeat (first | (with_reducible first | exact HB.out | apply below_alloc | apply pw_below_drewN | apply below_drew1) | exact HB.out)))); have n1_ := Aside0.mk (below_step (by repeat (first | (with_reducible first | exact HB.out | apply below_alloc | apply pw_below_drewN | apply below_drew1) | exact HB.out)) hb); clear HB; have HO738 := n0_; have HB := n1_; clear n0_ n1_; clear hb ho16; obtain ⟨Ao17, co17, eo17⟩ := Kd.R_slice HO738.out; subst eo17) | (go_at_call 83; (with_reducible refine (place_only.calls t731 _ _ y736 true _ ?side1 ?side2 A8.out).mono ?_); (case side1 => repeat (first | exact (Kd.R_reads' HO738.out).2.2 | (with_reducible refine Kd.C_alloc ?_ _) | (with_reducible refine Kd.C_drewN ?_ _) | (with_reducible refine Kd.C_drew ?_))); (case side2 => exact (Kd.R_reads' HO738.out).2.1); rintro e w' ⟨rfl, ⟨nd, rfl⟩⟩))
       go_meet
       case rel => exact ⟨_, (false), (by first | rfl | (simp; done) | (simp [*]; done)), H', ⟨by first | omega | exact Nat.le_refl _⟩, ⟨by repeat (first | (with_reducible first | exact HB.out | apply below_alloc | apply pw_below_drewN | apply below_drew1) | exact HB.out)⟩⟩
      ·
       rw [if_neg c14] at H
       have c14b0 : (t732.toList == ([] : List UInt8)) = false := beq_eq_false_iff_ne.mpr c14
       have c14b1 : (t732.toList != ([] : List UInt8)) = true := bne_iff_ne.mpr c14
       have H' := Aside0.mk H
       clear H
       go_wp2_with (first | ((with_reducible refine gate_dst (N := 29) rfl ?_); (try (refine gate_guard (by rfl) ?_; dsimp only)); refine Kd.R_lit (Kd.int .u8) _ 5 ?hg (N := 29) ?hd (xs := ([45, 46] : List Int)) (inner := [.int .u8 45, .int .u8 46]) (ok := fun _ => True) (okp := fun _ => True) ?hr ?hp (fun _ hk => hk) trivial (Below.refl _ _) (Nat.le_refl _) (by simp) ?_; (case hd => rfl); (case hg => rfl); (case hr => first | (go_simp; done) | (go_simp; rfl)); (case hp => exact (Reps.one (show Kd.M (Kd.int .u8) _ _ _ 45 [.int .u8 45] from rfl) (Reps.one (show Kd.M (Kd.int .u8) _ _ _ 46 [.int .u8 46] from rfl) (Reps.none _ _)))); intro v737 w18 ho19 hb hg_ hnew_; clear hg_ hnew_; (first | rw [← Ny736.out] at ho19 | (simp only [Int.reduceToNat] at ho19; rw [← Ny736.out] at ho19)); have n0_ := Aside0.mk (Kd.R_lower ho19 (below_size (by repeat (first | (with_reducible first | exact HB.out | apply below_alloc | apply pw_below_drewN | apply below_drew1) | exact HB.out)))); have n1_ := Aside0.mk (below_step (by repeat (first | (with_reducible first | exact HB.out | apply below_alloc | apply pw_below_drewN | apply below_drew1) | exact HB.out)) hb); clear HB; have HO738 := n0_; have HB := n1_; clear n0_ n1_; clear hb ho19; obtain ⟨Ao20, co20, eo20⟩ := Kd.R_slice HO738.out; subst eo20) | (go_at_call 83; (with_reducible refine (place_only.calls t731 _ _ y736 true _ ?side1 ?side2 A8.out).mono ?_); (case side1 => repeat (first | exact (Kd.R_reads' HO738.out).2.2 | (with_reducible refine Kd.C_alloc ?_ _) | (with_reducible refine Kd.C_drewN ?_ _) | (with_reducible refine Kd.C_drew ?_))); (case side2 => exact (Kd.R_reads' HO738.out).2.1); rintro e w' ⟨rfl, ⟨nd, rfl⟩⟩))
       go_meet
       case rel => exact ⟨_, (!t735), (by first | rfl | (simp; done) | (simp [*]; done)), H', ⟨by first | omega | exact Nat.le_refl _⟩, ⟨by repeat (first | (with_reducible first | exact HB.out | apply below_alloc | apply pw_below_drewN | apply below_drew1) | exact HB.out)⟩⟩
    ·
     replace c9 := Bool.eq_false_iff.mpr c9
     subst c9
     have H1 : (place_Host.j0 k t731 t732 t734 true) = some (r1, r2) := by rw [if_neg (show ¬ (false = true) by decide)] at H; exact H
     clear H
     have H := H1
     clear H1
     have H' := Aside0.mk H
     clear H
     go_wp2_with (first | ((with_reducible refine gate_dst (N := 29) rfl ?_); (try (refine gate_guard (by rfl) ?_; dsimp only)); refine Kd.R_lit (Kd.int .u8) _ 5 ?hg (N := 29) ?hd (xs := ([45, 46] : List Int)) (inner := [.int .u8 45, .int .u8 46]) (ok := fun _ => True) (okp := fun _ => True) ?hr ?hp (fun _ hk => hk) trivial (Below.refl _ _) (Nat.le_refl _) (by simp) ?_; (case hd => rfl); (case hg => rfl); (case hr => first | (go_simp; done) | (go_simp; rfl)); (case hp => exact (Reps.one (show Kd.M (Kd.int .u8) _ _ _ 45 [.int .u8 45] from rfl) (Reps.one (show Kd.M (Kd.int .u8) _ _ _ 46 [.int .u8 46] from rfl) (Reps.none _ _)))); intro v737 w21 ho22 hb hg_ hnew_; clear hg_ hnew_; (first | rw [← Ny736.out] at ho22 | (simp only [Int.reduceToNat] at ho22; rw [← Ny736.out] at ho22)); have n0_ := Aside0.mk (Kd.R_lower ho22 (below_size (by repeat (first | (with_reducible first | exact HB.out | apply below_alloc | apply pw_below_drewN | apply below_drew1) | exact HB.out)))); have n1_ := Aside0.mk (below_step (by repeat (first | (with_reducible first | exact HB.out | apply below_alloc | apply pw_below_drewN | apply below_drew1) | exact HB.out)) hb); clear HB; have HO738 := n0_; have HB := n1_; clear n0_ n1_; clear hb ho22; obtain ⟨Ao23, co23, eo23⟩ := Kd.R_slice HO738.out; subst eo23) | (go_at_call 83; (with_reducible refine (place_only.calls t731 _ _ y736 false _ ?side1 ?side2 A8.out).mono ?_); (case side1 => repeat (first | exact (Kd.R_reads' HO738.out).2.2 | (with_reducible refine Kd.C_alloc ?_ _) | (with_reducible refine Kd.C_drewN ?_ _) | (with_reducible refine Kd.C_drew ?_))); (case side2 => exact (Kd.R_reads' HO738.out).2.1); rintro e w' ⟨rfl, ⟨nd, rfl⟩⟩))
     go_meet
     case rel => exact ⟨_, (true), (by first | rfl | (simp; done) | (simp [*]; done)), H', ⟨by first | omega | exact Nat.le_refl _⟩, ⟨by repeat (first | (with_reducible first | exact HB.out | apply below_alloc | apply pw_below_drewN | apply below_drew1) | exact HB.out)⟩⟩
 case rest =>
  clear HC4
  try clear c1
  try clear p2
  try clear c4
  try clear c6
  try clear c6b0
  try clear c6b1
  try clear c7
  try clear c7b0
  try clear c7b1
  try clear c8
  try clear c9
  try clear c10
  try clear c10b0
  try clear c10b1
  try clear c14
  try clear c14b0
  try clear c14b1
  obtain ⟨kq, x45_3, rfl, HA, HJ3, HB⟩ := hcut
  cases kq with
  | zero => exact absurd HA.out (by simp [place_Host.j0])
  | succ kj3 =>
   have H := HA.out
   clear HA
   simp only [place_Host.j0] at H
   by_cases c24 : x45_3 = true
   ·
    subst c24
    have H1 : (some ((⟨#[]⟩ : ByteArray), 25)) = some (r1, r2) := by rw [if_pos rfl] at H; exact H
    clear H
    have H := H1
    clear H1
    simp only [Option.some.injEq, Prod.mk.injEq] at H
    obtain ⟨rfl, rfl⟩ := H
    go_wp2
    go_ret2
    exact ⟨by first | rfl | (simp [errW_none, errW_some] <;> rfl) | (simp [*, errW_none, errW_some] <;> rfl) | (simp only [ne_nil_bool]; rfl), by repeat (first | (with_reducible first | exact HB.out | apply below_alloc | apply pw_below_drewN | apply below_drew1) | exact HB.out)⟩
   ·
    replace c24 := Bool.eq_false_iff.mpr c24
    subst c24
    have H1 : ((sign_Lower.f t731).bind fun t740 => (if t732.toList = ([] : List UInt8) then (place_Host.j1 kj3 t740 t732 true) else (place_Host.j1 kj3 t740 t732 (t734 == 80)))) = some (r1, r2) := by rw [if_neg (show ¬ (false = true) by decide)] at H; exact H
    clear H
    have H := H1
    clear H1
    replace H := Option.bind_eq_some_iff.mp H
    obtain ⟨t740, A250, H⟩ := H
    replace H : (if t732.toList = ([] : List UInt8) then (place_Host.j1 kj3 t740 t732 true) else (place_Host.j1 kj3 t740 t732 (t734 == 80))) = some (r1, r2) := H
    have A25 := Aside0.mk A250
    clear A250
    have HC26 := Aside0.mk H
    clear H
    go_upto_region 6 with (first | ((with_reducible refine gate_callee (f := 84) rfl ?_); refine goesL_ (some 47) rfl rfl Tryz.func84 (by kernel_rfl) rfl #[.string t731] rfl (by (try simp only [List.map_toArray, List.map_cons, List.map_nil]); first | done | rfl | (simp only [List.length_drop, List.length_take]; rfl)) ?_; (with_reducible refine (sign_Lower.calls t731 t740 _ A25.out).mono ?_); rintro e w27 ⟨rfl, hb⟩; refine ⟨_, rfl, ?_⟩; have n0_ := Aside0.mk (below_step (by repeat (first | (with_reducible first | exact HB.out | apply below_alloc | apply pw_below_drewN | apply below_drew1) | exact HB.out)) hb); clear HB; have HB := n0_; clear n0_; (try clear hb); (try clear hb2); (try clear hk); (try clear hi)))
    (try simp only [Act.put, List.setIfInBounds_toArray, List.set_cons_zero, List.set_cons_succ])
    go_cut [53] (fun v53 wc => ∃ (kq : Nat) (x53_25 : Bool), v53 = .bool x53_25 ∧ Aside0 (place_Host.j1 kq t740 t732 x53_25 = some (r1, r2)) ∧ Aside0 (kq ≤ kj3) ∧ Aside0 (Below w.heap.size w wc))
    case first =>
     have H := HC26.out
     clear HC26
     by_cases c28 : t732.toList = ([] : List UInt8)
     ·
      rw [if_pos c28] at H
      have c28b0 : (t732.toList == ([] : List UInt8)) = true := beq_iff_eq.mpr c28
      have c28b1 : (t732.toList != ([] : List UInt8)) = false := bne_eq_false_iff_eq.mpr c28
      clear c28
      (first | rw [c28b0] | (simp only [i64_w, i32_w]; rw [c28b0]) | skip)
      have H' := Aside0.mk H
      clear H
      go_wp2
      go_meet
      case rel => exact ⟨_, (true), (by first | rfl | (simp; done) | (simp [*]; done)), H', ⟨by have := HJ3.out; first | omega | exact Nat.le_refl _⟩, ⟨by repeat (first | (with_reducible first | exact HB.out | apply below_alloc | apply pw_below_drewN | apply below_drew1) | exact HB.out)⟩⟩
     ·
      rw [if_neg c28] at H
      have c28b0 : (t732.toList == ([] : List UInt8)) = false := beq_eq_false_iff_ne.mpr c28
      have c28b1 : (t732.toList != ([] : List UInt8)) = true := bne_iff_ne.mpr c28
      (first | rw [c28b0] | (simp only [i64_w, i32_w]; rw [c28b0]) | skip)
      have H' := Aside0.mk H
      clear H
      go_wp2
      go_meet
      case rel => exact ⟨_, ((t734 == 80)), (by first | rfl | (simp; done) | (simp [*]; done)), H', ⟨by have := HJ3.out; first | omega | exact Nat.le_refl _⟩, ⟨by repeat (first | (with_reducible first | exact HB.out | apply below_alloc | apply pw_below_drewN | apply below_drew1) | exact HB.out)⟩⟩
    case rest =>
     clear HC26
     try clear c1
     try clear c2
     try clear p2
     try clear c4
     try clear c6
     try clear c6b0
     try clear c6b1
     try clear c7
     try clear c7b0
     try clear c7b1
     try clear c8
     try clear c9
     try clear c10
     try clear c10b0
     try clear c10b1
     try clear c14
     try clear c14b0
     try clear c14b1
     try clear c24
     try clear c28
     try clear c28b0
     try clear c28b1
     try clear p2
     obtain ⟨kq, x53_25, rfl, HA, HJ25, HB⟩ := hcut
     cases kq with
     | zero => exact absurd HA.out (by simp [place_Host.j1])
     | succ kj25 =>
      have H := HA.out
      clear HA
      simp only [place_Host.j1] at H
      by_cases c29 : x53_25 = true
      ·
       subst c29
       have H1 : (some (t740, 0)) = some (r1, r2) := by rw [if_pos rfl] at H; exact H
       clear H
       have H := H1
       clear H1
       simp only [Option.some.injEq, Prod.mk.injEq] at H
       obtain ⟨rfl, rfl⟩ := H
       go_wp2
       go_ret2
       exact ⟨by first | rfl | (simp [errW_none, errW_some] <;> rfl) | (simp [*, errW_none, errW_some] <;> rfl) | (simp only [ne_nil_bool]; rfl), by repeat (first | (with_reducible first | exact HB.out | apply below_alloc | apply pw_below_drewN | apply below_drew1) | exact HB.out)⟩
      ·
       replace c29 := Bool.eq_false_iff.mpr c29
       subst c29
       have H1 : ((strings_TrimLeft.f t732 (⟨#[48]⟩ : ByteArray)).bind fun t741 => (if t741.toList = ([] : List UInt8) then (if t740.size + 1 ≤ 9223372036854775807 then (if (t740 ++ (⟨#[58]⟩ : ByteArray)).size + 1 ≤ 9223372036854775807 then (some ((t740 ++ (⟨#[58]⟩ : ByteArray)) ++ (⟨#[48]⟩ : ByteArray), 0)) else (none)) else (none)) else (if t740.size + 1 ≤ 9223372036854775807 then (if (t740 ++ (⟨#[58]⟩ : ByteArray)).size + t741.size ≤ 9223372036854775807 then (some ((t740 ++ (⟨#[58]⟩ : ByteArray)) ++ t741, 0)) else (none)) else (none)))) = some (r1, r2) := by rw [if_neg (show ¬ (false = true) by decide)] at H; exact H
       clear H
       have H := H1
       clear H1
       replace H := Option.bind_eq_some_iff.mp H
       obtain ⟨t741, A300, H⟩ := H
       replace H : (if t741.toList = ([] : List UInt8) then (if t740.size + 1 ≤ 9223372036854775807 then (if (t740 ++ (⟨#[58]⟩ : ByteArray)).size + 1 ≤ 9223372036854775807 then (some ((t740 ++ (⟨#[58]⟩ : ByteArray)) ++ (⟨#[48]⟩ : ByteArray), 0)) else (none)) else (none)) else (if t740.size + 1 ≤ 9223372036854775807 then (if (t740 ++ (⟨#[58]⟩ : ByteArray)).size + t741.size ≤ 9223372036854775807 then (some ((t740 ++ (⟨#[58]⟩ : ByteArray)) ++ t741, 0)) else (none)) else (none))) = some (r1, r2) := H
       have A30 := Aside0.mk A300
       clear A300
       by_cases c31 : t741.toList = ([] : List UInt8)
       ·
        rw [if_pos c31] at H
        have c31b0 : (t741.toList == ([] : List UInt8)) = true := beq_iff_eq.mpr c31
        have c31b1 : (t741.toList != ([] : List UInt8)) = false := bne_eq_false_iff_eq.mpr c31
        clear c31
        by_cases c32 : t740.size + 1 ≤ 9223372036854775807
        ·
         rw [if_pos c32] at H
         have c32b0 := eq_true c32
         have c32b1 : decide (t740.size + 1 ≤ 9223372036854775807) = true := decide_eq_true c32
         try have c32b2 : (9223372036854775807 < t740.size + 1) = False := eq_false (Nat.not_lt.2 c32)
         by_cases c33 : (t740 ++ (⟨#[58]⟩ : ByteArray)).size + 1 ≤ 9223372036854775807
         ·
          rw [if_pos c33] at H
          have c33b0 := eq_true c33
          have c33b1 : decide ((t740 ++ (⟨#[58]⟩ : ByteArray)).size + 1 ≤ 9223372036854775807) = true := decide_eq_true c33
          try have c33b2 : (9223372036854775807 < (t740 ++ (⟨#[58]⟩ : ByteArray)).size + 1) = False := eq_false (Nat.not_lt.2 c33)
          have c33d : (9223372036854775807 < t740.size + 1 + 1) = False := eq_false (by have hz_ := c33; rw [ByteArray.size_append] at hz_; exact Nat.not_lt.2 hz_)
          simp only [Option.some.injEq, Prod.mk.injEq] at H
          obtain ⟨rfl, rfl⟩ := H
          go_wp2_with (first | ((with_reducible refine gate_callee (f := 85) rfl ?_); refine goesL_ (some 56) rfl rfl Tryz.func85 (by kernel_rfl) rfl #[.string t732, .string (⟨#[48]⟩ : ByteArray)] rfl (by (try simp only [List.map_toArray, List.map_cons, List.map_nil]); first | done | rfl | (simp only [List.length_drop, List.length_take]; rfl)) ?_; (with_reducible refine (strings_TrimLeft.calls t732 (⟨#[48]⟩ : ByteArray) t741 _ A30.out).mono ?_); rintro e w' ⟨rfl, ⟨nd, rfl⟩⟩; refine ⟨_, rfl, ?_⟩))
          go_ret2
          exact ⟨by first | rfl | (simp [errW_none, errW_some] <;> rfl) | (simp [*, errW_none, errW_some] <;> rfl) | (simp only [ne_nil_bool]; rfl), by repeat (first | (with_reducible first | exact HB.out | apply below_alloc | apply pw_below_drewN | apply below_drew1) | exact HB.out)⟩
         ·
          rw [if_neg c33] at H
          exact absurd H (by simp)
        ·
         rw [if_neg c32] at H
         exact absurd H (by simp)
       ·
        rw [if_neg c31] at H
        have c31b0 : (t741.toList == ([] : List UInt8)) = false := beq_eq_false_iff_ne.mpr c31
        have c31b1 : (t741.toList != ([] : List UInt8)) = true := bne_iff_ne.mpr c31
        by_cases c34 : t740.size + 1 ≤ 9223372036854775807
        ·
         rw [if_pos c34] at H
         have c34b0 := eq_true c34
         have c34b1 : decide (t740.size + 1 ≤ 9223372036854775807) = true := decide_eq_true c34
         try have c34b2 : (9223372036854775807 < t740.size + 1) = False := eq_false (Nat.not_lt.2 c34)
         by_cases c35 : (t740 ++ (⟨#[58]⟩ : ByteArray)).size + t741.size ≤ 9223372036854775807
         ·
          rw [if_pos c35] at H
          have c35b0 := eq_true c35
          have c35b1 : decide ((t740 ++ (⟨#[58]⟩ : ByteArray)).size + t741.size ≤ 9223372036854775807) = true := decide_eq_true c35
          try have c35b2 : (9223372036854775807 < (t740 ++ (⟨#[58]⟩ : ByteArray)).size + t741.size) = False := eq_false (Nat.not_lt.2 c35)
          simp only [Option.some.injEq, Prod.mk.injEq] at H
          obtain ⟨rfl, rfl⟩ := H
          go_wp2_with (first | ((with_reducible refine gate_callee (f := 85) rfl ?_); refine goesL_ (some 56) rfl rfl Tryz.func85 (by kernel_rfl) rfl #[.string t732, .string (⟨#[48]⟩ : ByteArray)] rfl (by (try simp only [List.map_toArray, List.map_cons, List.map_nil]); first | done | rfl | (simp only [List.length_drop, List.length_take]; rfl)) ?_; (with_reducible refine (strings_TrimLeft.calls t732 (⟨#[48]⟩ : ByteArray) t741 _ A30.out).mono ?_); rintro e w' ⟨rfl, ⟨nd, rfl⟩⟩; refine ⟨_, rfl, ?_⟩))
          go_ret2
          exact ⟨by first | rfl | (simp [errW_none, errW_some] <;> rfl) | (simp [*, errW_none, errW_some] <;> rfl) | (simp only [ne_nil_bool]; rfl), by repeat (first | (with_reducible first | exact HB.out | apply below_alloc | apply pw_below_drewN | apply below_drew1) | exact HB.out)⟩
         ·
          rw [if_neg c35] at H
          exact absurd H (by simp)
        ·
         rw [if_neg c34] at H
         exact absurd H (by simp)
end Go.Proofs.YtcoaajkhfgakgaaGreatDoor.Pr
end

section
namespace Go.Proofs.YtcoaajkhfgakgaaGreatDoor.Pr
open Go.RowKit Go.Proofs.YtcoaajkhfgakgaaGreatDoorW.PrintWords Go.Proofs.YtcoaajkhfgakgaaGreatDoorW.PrintLast Go.Proofs.YtcoaajkhfgakgaaGreatDoorW.PrintMore
set_option linter.unusedVariables false
set_option linter.unusedSimpArgs false
def numF (s : ByteArray) : Nat → Nat → Int → Int × Bool
  | 0, _, n => (n, false)
  | f + 1, i, n => if i < s.size then (if bt s i < 48 then (0, false) else if bt s i > 57 then (0, false) else numF s f (i + 1) (mn (10 * n + (bt s i - 48)) 2147483648)) else (n, s.toList != ([] : List UInt8))
def numV (s : ByteArray) : Int × Bool := numF s (s.size + 1) 0 0
theorem numF_of (s : ByteArray) (hs : s.size ≤ 140737488351232) : ∀ (f k i : Nat) (n : Int), 0 ≤ n → n ≤ 2147483648 → i ≤ s.size → s.size - i < f → s.size - i < k → sign_Number.l0 k s n (s.size : Int) (i : Int) = some (numF s f i n)
  | 0, _, _, _, _, _, _, hf, _ => absurd hf (by omega)
  | f + 1, k, i, n, h0, h1, hi, hf, hk => by
    obtain ⟨k, rfl⟩ : ∃ m, k = m + 1 := ⟨k - 1, by omega⟩
    simp only [sign_Number.l0, numF]
    by_cases hlt : i < s.size
    · rw [if_pos (show (i : Int) < (s.size : Int) by omega), if_pos (show (0 : Int) ≤ (i : Int) by omega), if_pos (show (i : Int) < (s.size : Int) by omega), if_pos hlt]
      by_cases h48 : bt s i < 48
      · rw [if_pos h48, if_pos h48]
      · rw [if_neg h48, if_neg h48]
        by_cases h57 : bt s i > 57
        · rw [if_pos h57, if_pos h57]
        · rw [if_neg h57, if_neg h57]
          have e1 : wrap64 (wrap64 (10 * n) + (bt s i - 48) % 256) = 10 * n + (bt s i - 48) := by unfold wrap64; omega
          have e2 : wrap64 ((i : Int) + 1) = ((i + 1 : Nat) : Int) := by unfold wrap64; omega
          rw [e1, e2]
          exact numF_of s hs f k (i + 1) _ (by unfold mn; split <;> omega) (by unfold mn; split <;> omega) (by omega) (by omega) (by omega)
    · rw [if_neg (show ¬ (i : Int) < (s.size : Int) by omega), if_neg hlt]
theorem number_of (s : ByteArray) (hs : s.size ≤ 140737488351232) (k : Nat) (hk : s.size < k) : sign_Number.f k s = some (numV s) := by
  unfold sign_Number.f numV
  exact numF_of s hs (s.size + 1) k 0 0 (by omega) (by omega) (by omega) (by omega) (by omega)
def tokC (c : Int) : Bool := letterB c || decide (0 ≤ Lib.indexByte [33, 35, 36, 37, 38, 39, 42, 43, 45, 46, 94, 95, 124, 126, 96] c.toNat.toUInt8)
def tokF (s : ByteArray) : Nat → Nat → Bool
  | 0, _ => true
  | f + 1, i => if i < s.size then tokC (bt s i) && tokF s f (i + 1) else s.toList != ([] : List UInt8)
def tokenB (s : ByteArray) : Bool := tokF s (s.size + 1) 0
theorem sletter_f (c : Int) : sign_letter.f c = some (letterB c) := by
  unfold sign_letter.f letterB
  repeat' split
  all_goals (congr 1; rw [Bool.eq_iff_iff]; simp only [Bool.or_eq_true, decide_eq_true_eq, true_iff, Bool.false_eq_true, false_iff]; omega)
theorem tokF_of (s : ByteArray) (hs : s.size ≤ 140737488351232) : ∀ (f k i : Nat), i ≤ s.size → s.size - i < f → s.size - i < k → sign_Token.l0 k s (s.size : Int) (i : Int) = some (tokF s f i)
  | 0, _, _, _, hf, _ => absurd hf (by omega)
  | f + 1, k, i, hi, hf, hk => by
    obtain ⟨k, rfl⟩ : ∃ m, k = m + 1 := ⟨k - 1, by omega⟩
    simp only [sign_Token.l0, tokF]
    by_cases hlt : i < s.size
    · rw [if_pos (show (i : Int) < (s.size : Int) by omega), if_pos (show (0 : Int) ≤ (i : Int) by omega), if_pos (show (i : Int) < (s.size : Int) by omega), if_pos hlt, sletter_f]
      simp only [Option.bind_some]
      have e2 : wrap64 ((i : Int) + 1) = ((i + 1 : Nat) : Int) := by unfold wrap64; omega
      by_cases hl : letterB (bt s i) = true
      · rw [if_pos hl, e2, tokF_of s hs f k (i + 1) (by omega) (by omega) (by omega)]
        simp [tokC, hl]
      · rw [if_neg hl]
        simp only [strings_IndexByte.f, Option.bind_some]
        have hl' : letterB (bt s i) = false := by simpa using hl
        by_cases hx : Lib.indexByte [33, 35, 36, 37, 38, 39, 42, 43, 45, 46, 94, 95, 124, 126, 96] (bt s i).toNat.toUInt8 < 0
        · rw [if_pos hx]
          simp [tokC, hl', Int.not_le.2 hx]
        · rw [if_neg hx, e2, tokF_of s hs f k (i + 1) (by omega) (by omega) (by omega)]
          simp [tokC, hl', Int.not_lt.1 hx]
    · rw [if_neg (show ¬ (i : Int) < (s.size : Int) by omega), if_neg hlt]
theorem token_of (s : ByteArray) (hs : s.size ≤ 140737488351232) (k : Nat) (hk : s.size < k) : sign_Token.f k s = some (tokenB s) := by
  unfold sign_Token.f tokenB
  exact tokF_of s hs (s.size + 1) k 0 (by omega) (by omega) (by omega)
def headB (s : ByteArray) : Bool := tokenB s && decide (lowS s = s) && decide ((s.size : Int) ≤ 64)
theorem toList_inj {a b : ByteArray} : a.toList = b.toList ↔ a = b := by
  constructor
  · intro e
    rw [ByteArray.toList_eq, ByteArray.toList_eq] at e
    obtain ⟨⟨x⟩⟩ := a
    obtain ⟨⟨y⟩⟩ := b
    simp only at e
    rw [e]
  · rintro rfl; rfl
theorem head_of (s : ByteArray) (hs : s.size ≤ 140737488351232) (k : Nat) (hk : s.size < k) : conf_head.f k s = some (headB s) := by
  unfold conf_head.f headB
  rw [token_of s hs k hk]
  simp only [Option.bind_some]
  cases tokenB s with
  | false => rfl
  | true =>
    simp only [if_true, sign_Lower.f, if_pos hs, Option.bind_some, toList_inj, Bool.true_and]
    by_cases h : lowS s = s <;> simp [h]
def nameOf (s : ByteArray) : ByteArray := if 0 ≤ Lib.indexByte s.data.toList 58 then s.extract 0 (Lib.indexByte s.data.toList 58).toNat else s
def portOf (s : ByteArray) : ByteArray := if 0 ≤ Lib.indexByte s.data.toList 58 then s.extract ((Lib.indexByte s.data.toList 58).toNat + 1) s.size else ⟨#[]⟩
def badHost (name digits : ByteArray) : Bool := decide (name.toList = []) || decide (40 < (name.size : Int)) || !onlyS name [45, 46] || decide (5 < (digits.size : Int)) || (decide (digits.toList ≠ []) && !(numV digits).2)
def hostV (s : ByteArray) : ByteArray × Int :=
  if badHost (nameOf s) (portOf s) = true then (⟨#[]⟩, 25)
  else if (portOf s).toList = [] ∨ (numV (portOf s)).1 = 80 then (lowS (nameOf s), 0)
  else if Lib.trimLeftB (portOf s).data.toList 48 = [] then ((lowS (nameOf s) ++ ⟨#[58]⟩) ++ ⟨#[48]⟩, 0)
  else ((lowS (nameOf s) ++ ⟨#[58]⟩) ++ ⟨(Lib.trimLeftB (portOf s).data.toList 48).toArray⟩, 0)
theorem indexByte_lt : ∀ (l : List UInt8) (c : UInt8), Lib.indexByte l c < l.length
  | [], _ => by simp [Lib.indexByte]
  | b :: l, c => by
    have := indexByte_lt l c
    simp only [Lib.indexByte, List.length_cons]
    split
    · omega
    · split <;> omega
theorem cut_of (s : ByteArray) (hs : s.size ≤ 140737488351232) : strings_Cut.f s (⟨#[58]⟩ : ByteArray) = some (nameOf s, portOf s, decide (0 ≤ Lib.indexByte s.data.toList 58)) := by
  have hix : stringslite_Index.f s (⟨#[58]⟩ : ByteArray) = some (Lib.indexByte s.data.toList 58) := rfl
  have h1 := indexByte_lt s.data.toList 58
  rw [data_length] at h1
  unfold strings_Cut.f stringslite_Cut.f nameOf portOf
  rw [hix]
  simp only [Option.bind_some]
  have hsz : ((⟨#[58]⟩ : ByteArray).size : Int) = 1 := rfl
  rw [hsz]
  by_cases h0 : 0 ≤ Lib.indexByte s.data.toList 58
  · have e : wrap64 (Lib.indexByte s.data.toList 58 + 1) = Lib.indexByte s.data.toList 58 + 1 := by unfold wrap64; omega
    rw [if_pos h0, if_pos h0, if_pos (by omega), e, if_pos (by omega), if_pos (by omega), if_pos h0, if_pos h0]
    simp only [Option.bind_some, h0, decide_true]
    rw [show (Lib.indexByte s.data.toList 58 + 1).toNat = (Lib.indexByte s.data.toList 58).toNat + 1 from by omega]
  · rw [if_neg h0, if_neg h0, if_neg h0]
    simp only [Option.bind_some, h0, decide_false]
theorem nameOf_size (s : ByteArray) : (nameOf s).size ≤ s.size := by
  unfold nameOf
  split
  · rw [ByteArray.size_extract]; omega
  · exact Nat.le_refl _
theorem portOf_size (s : ByteArray) : (portOf s).size ≤ s.size := by
  unfold portOf
  split
  · rw [ByteArray.size_extract]; omega
  · show 0 ≤ _; omega
theorem lowS_size (s : ByteArray) : (lowS s).size = s.size := by
  unfold lowS
  rw [strOfNums_size, List.length_map, bytesOf_length]
theorem host_of (s : ByteArray) (hs : s.size ≤ 274877906944) (k : Nat) (hk : s.size + 2 < k) : place_Host.f k s = some (hostV s) := by
  obtain ⟨k, rfl⟩ : ∃ m, k = m + 2 := ⟨k - 2, by omega⟩
  have hn := nameOf_size s
  have hp := portOf_size s
  unfold place_Host.f hostV
  rw [cut_of s (by omega)]
  simp only [Option.bind_some]
  rw [number_of (portOf s) (by omega) _ (by omega)]
  simp only [Option.bind_some, place_only.f, if_pos (show (nameOf s).size ≤ 1099511627776 by omega)]
  have J0 : ∀ b : Bool, place_Host.j0 (k + 2) (nameOf s) (portOf s) (numV (portOf s)).1 b = if b = true then some (⟨#[]⟩, 25)
      else some (if (portOf s).toList = [] ∨ (numV (portOf s)).1 = 80 then (lowS (nameOf s), 0)
        else if Lib.trimLeftB (portOf s).data.toList 48 = [] then ((lowS (nameOf s) ++ ⟨#[58]⟩) ++ ⟨#[48]⟩, 0)
        else ((lowS (nameOf s) ++ ⟨#[58]⟩) ++ ⟨(Lib.trimLeftB (portOf s).data.toList 48).toArray⟩, 0)) := by
    intro b
    simp only [place_Host.j0]
    cases b with
    | true => rfl
    | false =>
      simp only [Bool.false_eq_true, if_false]
      simp only [sign_Lower.f, if_pos (show (nameOf s).size ≤ 140737488351232 by omega), Option.bind_some]
      have hl := lowS_size (nameOf s)
      have J1 : ∀ b : Bool, place_Host.j1 (k + 1) (lowS (nameOf s)) (portOf s) b = if b = true then some (lowS (nameOf s), 0) else some (if Lib.trimLeftB (portOf s).data.toList 48 = [] then ((lowS (nameOf s) ++ ⟨#[58]⟩) ++ ⟨#[48]⟩, 0)
          else ((lowS (nameOf s) ++ ⟨#[58]⟩) ++ ⟨(Lib.trimLeftB (portOf s).data.toList 48).toArray⟩, 0)) := by
        intro b
        simp only [place_Host.j1]
        cases b with
        | true => rfl
        | false =>
          simp only [Bool.false_eq_true, if_false]
          have ht : strings_TrimLeft.f (portOf s) (⟨#[48]⟩ : ByteArray) = some ⟨(Lib.trimLeftB (portOf s).data.toList 48).toArray⟩ := rfl
          rw [ht]
          simp only [Option.bind_some]
          have htl : (⟨(Lib.trimLeftB (portOf s).data.toList 48).toArray⟩ : ByteArray).toList = Lib.trimLeftB (portOf s).data.toList 48 := by rw [ByteArray.toList_eq]
          have hts : (⟨(Lib.trimLeftB (portOf s).data.toList 48).toArray⟩ : ByteArray).size ≤ (portOf s).size := by
            show (Lib.trimLeftB (portOf s).data.toList 48).toArray.size ≤ _
            rw [List.size_toArray, ← data_length (portOf s)]
            exact (List.dropWhile_sublist _).length_le
          have h58 : ((⟨#[58]⟩ : ByteArray)).size = 1 := rfl
          rw [htl]
          by_cases he : Lib.trimLeftB (portOf s).data.toList 48 = []
          · rw [if_pos he, if_pos he, if_pos (by omega), if_pos (by rw [ByteArray.size_append]; omega)]
          · rw [if_neg he, if_neg he, if_pos (by omega), if_pos (by rw [ByteArray.size_append]; omega)]
      by_cases hd : (portOf s).toList = []
      · rw [if_pos hd, J1, if_pos rfl, if_pos (.inl hd)]
      · rw [if_neg hd, J1]
        by_cases h80 : (numV (portOf s)).1 = 80
        · rw [if_pos (by simp [h80]), if_pos (.inr h80)]
        · rw [if_neg (by simp [h80]), if_neg (show ¬ ((portOf s).toList = [] ∨ (numV (portOf s)).1 = 80) from fun h => h.elim hd h80)]
  simp only [J0]
  have hbad : ∀ (x y : ByteArray × Int), (if badHost (nameOf s) (portOf s) = true then some x else some y) = some (if badHost (nameOf s) (portOf s) = true then x else y) := by intro x y; split <;> rfl
  rw [← hbad]
  unfold badHost
  by_cases h1 : (nameOf s).toList = []
  · simp [h1]
  · by_cases h2 : ((nameOf s).size : Int) > 40
    · have h2' : 40 < (nameOf s).size := by omega
      simp [h1, h2, h2']
    · have h2' : ¬ 40 < (nameOf s).size := by omega
      cases h3 : onlyS (nameOf s) [45, 46] with
      | false => simp [h1, h2, h2']
      | true =>
        by_cases h4 : ((portOf s).size : Int) > 5
        · have h4' : 5 < (portOf s).size := by omega
          simp [h1, h2, h2', h4, h4']
        · have h4' : ¬ 5 < (portOf s).size := by omega
          by_cases h5 : (portOf s).toList = []
          · simp [h1, h2, h2', h4, h4', h5]
          · generalize numV (portOf s) = q
            obtain ⟨q1, q2⟩ := q
            cases q2 <;> simp [h1, h2, h2', h4, h4', h5]
end Go.Proofs.YtcoaajkhfgakgaaGreatDoor.Pr
end

section
namespace Go.Proofs.YtcoaajkhfgakgaaGreatDoor.Pr
open Go.RowKit Go.Proofs.YtcoaajkhfgakgaaGreatDoorW.PrintWords Go.Proofs.YtcoaajkhfgakgaaGreatDoorW.PrintLast Go.Proofs.YtcoaajkhfgakgaaGreatDoorW.PrintMore
set_option linter.unusedVariables false
set_option linter.unusedSimpArgs false
def numberC (s : ByteArray) (lo hi : Int) : Int :=
  match Lib.atoiAll s.data.toList with
  | .ok m => if (numV s).2 = true ∧ (s.size : Int) ≤ 10 then (if (numV s).1 = m ∧ lo ≤ (numV s).1 ∧ (numV s).1 ≤ hi then 0 else 11) else 30
  | _ => 30
def numberS (st : St) (lo hi : Int) : St := takeS (if numberC (nextS st) lo hi = 0 then st else failS st (numberC (nextS st) lo hi))
theorem IsRd.below {w0 W W1 : World} {g : Nat} {st : St} (h : IsRd w0 W g st) (hb : Below W.heap.size W W1) : IsRd w0 W1 g st := by
  obtain ⟨A, c, h1, h2⟩ := h
  have hlt : g < W.heap.size := by
    rcases Nat.lt_or_ge g W.heap.size with h' | h'
    · exact h'
    · simp [Array.getElem?_eq_none h'] at h1
  exact ⟨A, c, (hb.block g hlt).trans h1, h2⟩
theorem IsRd.keep {w0 W W1 : World} {g k : Nat} {row : Option Nat} {st : St} (h : IsRd w0 W g st) (hb : KeepBut W W1 k row) (h1 : g ≠ k) (h2 : some g ≠ row) : IsRd w0 W1 g st := by
  obtain ⟨A, c, h3, h4⟩ := h
  have hlt : g < W.heap.size := by
    rcases Nat.lt_or_ge g W.heap.size with h' | h'
    · exact h'
    · simp [Array.getElem?_eq_none h'] at h3
  exact ⟨A, c, (hb.2 g hlt h1 h2).trans h3, h4⟩
set_option maxRecDepth 100000 in
set_option maxHeartbeats 4000000 in
theorem reader_number_calls (w0 w : World) (g : Nat) (st : St) (lo hi : Int) (h : IsRd w0 w g st) (hB : Below w0.heap.size w0 w) (hG : GL w) (hs : (nextS st).size ≤ 140737488351232) :
    Calls Tryz.prog 101 #[.pointer (some ⟨g, 0, none⟩), .int .i64 lo, .int .i64 hi] w fun e w' => e = .returned (.int .i64 (numV (nextS st)).1) ∧ IsRd w0 w' g (numberS st lo hi) ∧ Below w0.heap.size w0 w' ∧ KeepBut w w' g none := by
  have HN := Aside0.mk (fun W (h : IsRd w0 W g st) (hB : Below w0.heap.size w0 W) => reader_next_calls w0 W g st h hB)
  have HF := Aside0.mk (fun W x (h : IsRd w0 W g st) (hB : Below w0.heap.size w0 W) => reader_fail_calls w0 W g st x h hB)
  have HNO := Aside0.mk (fun W => sign_Number.calls ((nextS st).size + 1) (nextS st) (numV (nextS st)).1 (numV (nextS st)).2 W (number_of (nextS st) hs _ (by omega)))
  have HAT := Aside0.mk (fun W (hG : GL W) => strconv_Atoi_any (nextS st) hs W hG)
  have HS : Aside0 (numberS st lo hi = takeS (if numberC (nextS st) lo hi = 0 then st else failS st (numberC (nextS st) lo hi))) := ⟨rfl⟩
  have HC : Aside0 (numberC (nextS st) lo hi = match Lib.atoiAll (nextS st).data.toList with
    | .ok m => if (numV (nextS st)).2 = true ∧ ((nextS st).size : Int) ≤ 10 then (if (numV (nextS st)).1 = m ∧ lo ≤ (numV (nextS st)).1 ∧ (numV (nextS st)).1 ≤ hi then 0 else 11) else 30
    | _ => 30) := ⟨rfl⟩
  have hsz : (nextS st).size ≤ 9223372036854775807 := by omega
  have HI := Aside0.mk h
  have HB := Aside0.mk hB
  have HGL := Aside0.mk hG
  clear h hB hG hs
  generalize numberC (nextS st) lo hi = cd at *
  generalize numberS st lo hi = sr at *
  generalize (numV (nextS st)).1 = n at *
  generalize (numV (nextS st)).2 = ok at *
  generalize hsz' : (nextS st).size = sz at *
  generalize nextS st = s at *
  go_enter Tryz.func101, Tryz.ntmps101
  go_wp2_with fail
  refine (HN.out _ HI.out HB.out).mono ?_
  rintro e w' ⟨rfl, rfl⟩
  go_wp2_with fail
  refine (HNO.out _).mono ?_
  rintro e w1 ⟨rfl, hb1⟩
  have HI1 := Aside0.mk (HI.out.below hb1)
  have HB1 := Aside0.mk (below_then HB.out HB.out.size hb1)
  have HK1 := Aside0.mk (KeepBut.of_below hb1 g none)
  have HG1 := Aside0.mk (HGL.out.below hb1)
  clear hb1 HI HB HGL
  go_wp2_with fail
  refine (HN.out _ HI1.out HB1.out).mono ?_
  rintro e w2 ⟨rfl, rfl⟩
  go_wp2_with fail
  refine (HAT.out _ HG1.out).mono ?_
  rintro e w2 ⟨m, er, rfl, hb2, hcase⟩
  have HI2 := Aside0.mk (HI1.out.below hb2)
  have HB2 := Aside0.mk (below_then HB1.out HB1.out.size hb2)
  have HK2 := Aside0.mk (keep_then HK1.out (KeepBut.of_below hb2 g none))
  clear hb2 HI1 HB1 HK1 HG1
  cases ok with
  | false =>
    have E : Aside0 (cd = 30) := ⟨by rw [HC.out]; split <;> simp⟩
    clear HC hcase
    go_wp2_with fail
    refine (HF.out _ 30 HI2.out HB2.out).mono ?_
    rintro e w3 ⟨rfl, h1, h2, h3⟩
    have H1 := Aside0.mk (And.intro h1 (And.intro h2 h3))
    clear h1 h2 h3
    go_wp2_with fail
    refine (reader_take_calls w0 _ g _ H1.out.1 H1.out.2.1).mono ?_
    rintro e w4 ⟨rfl, h1, h2, h3⟩
    have H2 := Aside0.mk (And.intro h1 (And.intro h2 h3))
    clear h1 h2 h3
    go_wp2
    go_ret
    exact ⟨rfl, by rw [HS.out, E.out]; exact H2.out.1, H2.out.2.1, keep_then HK2.out (keep_then H1.out.2.2 H2.out.2.2)⟩
  | true =>
    rcases hcase with ⟨ha, rfl⟩ | ⟨ha, a, rfl⟩
    case inr =>
      have E : Aside0 (cd = 30) := ⟨by
        rw [HC.out]
        cases hv : Lib.atoiAll s.data.toList with
        | ok v => exact absurd hv (ha v)
        | _ => rfl⟩
      clear HC ha
      go_wp2_with fail
      refine (HF.out _ 30 HI2.out HB2.out).mono ?_
      rintro e w3 ⟨rfl, h1, h2, h3⟩
      have H1 := Aside0.mk (And.intro h1 (And.intro h2 h3))
      clear h1 h2 h3
      go_wp2_with fail
      refine (reader_take_calls w0 _ g _ H1.out.1 H1.out.2.1).mono ?_
      rintro e w4 ⟨rfl, h1, h2, h3⟩
      have H2 := Aside0.mk (And.intro h1 (And.intro h2 h3))
      clear h1 h2 h3
      go_wp2
      go_ret
      exact ⟨rfl, by rw [HS.out, E.out]; exact H2.out.1, H2.out.2.1, keep_then HK2.out (keep_then H1.out.2.2 H2.out.2.2)⟩
    case inl =>
      by_cases t1 : (sz : Int) ≤ 10
      case neg =>
        have E : Aside0 (cd = 30) := ⟨by rw [HC.out, ha]; simp only [t1, and_false, if_false]⟩
        have t1' : (sz : Int) > 10 := by omega
        clear HC ha t1
        go_wp2_with fail
        refine (HN.out _ HI2.out HB2.out).mono ?_
        rintro e w3 ⟨rfl, rfl⟩
        go_wp2_with fail
        refine (HF.out _ 30 HI2.out HB2.out).mono ?_
        rintro e w3 ⟨rfl, h1, h2, h3⟩
        have H1 := Aside0.mk (And.intro h1 (And.intro h2 h3))
        clear h1 h2 h3
        go_wp2_with fail
        refine (reader_take_calls w0 _ g _ H1.out.1 H1.out.2.1).mono ?_
        rintro e w4 ⟨rfl, h1, h2, h3⟩
        have H2 := Aside0.mk (And.intro h1 (And.intro h2 h3))
        clear h1 h2 h3
        go_wp2
        go_ret
        exact ⟨rfl, by rw [HS.out, E.out]; exact H2.out.1, H2.out.2.1, keep_then HK2.out (keep_then H1.out.2.2 H2.out.2.2)⟩
      case pos =>
        have HC2 : Aside0 (cd = (if n = m ∧ lo ≤ n ∧ n ≤ hi then 0 else 11)) := ⟨by rw [HC.out, ha]; simp only [t1, and_self, if_true]⟩
        clear HC ha
        go_wp2_with fail
        refine (HN.out _ HI2.out HB2.out).mono ?_
        rintro e w3 ⟨rfl, rfl⟩
        by_cases t2 : n = m
        case neg =>
          have E : Aside0 (cd = 11) := ⟨by rw [HC2.out]; simp only [t2, false_and, if_false]⟩
          have q2 : (n != m) = true := bne_iff_ne.2 t2
          go_wp2_with fail
          refine (HF.out _ 11 HI2.out HB2.out).mono ?_
          rintro e w3 ⟨rfl, h1, h2, h3⟩
          have H1 := Aside0.mk (And.intro h1 (And.intro h2 h3))
          clear h1 h2 h3
          go_wp2_with fail
          refine (reader_take_calls w0 _ g _ H1.out.1 H1.out.2.1).mono ?_
          rintro e w4 ⟨rfl, h1, h2, h3⟩
          have H2 := Aside0.mk (And.intro h1 (And.intro h2 h3))
          clear h1 h2 h3
          go_wp2
          go_ret
          exact ⟨rfl, by rw [HS.out, E.out]; exact H2.out.1, H2.out.2.1, keep_then HK2.out (keep_then H1.out.2.2 H2.out.2.2)⟩
        case pos =>
          obtain rfl : m = n := t2.symm
          clear t2
          by_cases t3 : lo ≤ m
          case neg =>
            have E : Aside0 (cd = 11) := ⟨by rw [HC2.out]; simp only [t3, false_and, and_false, if_false]⟩
            have t3 : m < lo := by omega
            have q2 : (m != m) = false := by simp
            go_wp2_with fail
            refine (HF.out _ 11 HI2.out HB2.out).mono ?_
            rintro e w3 ⟨rfl, h1, h2, h3⟩
            have H1 := Aside0.mk (And.intro h1 (And.intro h2 h3))
            clear h1 h2 h3
            go_wp2_with fail
            refine (reader_take_calls w0 _ g _ H1.out.1 H1.out.2.1).mono ?_
            rintro e w4 ⟨rfl, h1, h2, h3⟩
            have H2 := Aside0.mk (And.intro h1 (And.intro h2 h3))
            clear h1 h2 h3
            go_wp2
            go_ret
            exact ⟨rfl, by rw [HS.out, E.out]; exact H2.out.1, H2.out.2.1, keep_then HK2.out (keep_then H1.out.2.2 H2.out.2.2)⟩
          case pos =>
            by_cases t4 : m ≤ hi
            case neg =>
              have E : Aside0 (cd = 11) := ⟨by rw [HC2.out]; simp only [t4, and_false, if_false]⟩
              have t4 : m > hi := by omega
              have q2 : (m != m) = false := by simp
              go_wp2_with fail
              refine (HF.out _ 11 HI2.out HB2.out).mono ?_
              rintro e w3 ⟨rfl, h1, h2, h3⟩
              have H1 := Aside0.mk (And.intro h1 (And.intro h2 h3))
              clear h1 h2 h3
              go_wp2_with fail
              refine (reader_take_calls w0 _ g _ H1.out.1 H1.out.2.1).mono ?_
              rintro e w4 ⟨rfl, h1, h2, h3⟩
              have H2 := Aside0.mk (And.intro h1 (And.intro h2 h3))
              clear h1 h2 h3
              go_wp2
              go_ret
              exact ⟨rfl, by rw [HS.out, E.out]; exact H2.out.1, H2.out.2.1, keep_then HK2.out (keep_then H1.out.2.2 H2.out.2.2)⟩
            case pos =>
              have E : Aside0 (cd = 0) := ⟨by rw [HC2.out]; simp only [t3, t4, and_self, if_true]⟩
              have q2 : (m != m) = false := by simp
              go_wp2_with fail
              refine (reader_take_calls w0 _ g _ HI2.out HB2.out).mono ?_
              rintro e w4 ⟨rfl, h1, h2, h3⟩
              have H2 := Aside0.mk (And.intro h1 (And.intro h2 h3))
              clear h1 h2 h3
              go_wp2
              go_ret
              exact ⟨rfl, by rw [HS.out, E.out]; exact H2.out.1, H2.out.2.1, keep_then HK2.out H2.out.2.2⟩
end Go.Proofs.YtcoaajkhfgakgaaGreatDoor.Pr
end

section
namespace Go.Proofs.YtcoaajkhfgakgaaGreatDoor.Pr
open Go.RowKit Go.Proofs.YtcoaajkhfgakgaaGreatDoorW.PrintWords Go.Proofs.YtcoaajkhfgakgaaGreatDoorW.PrintLast Go.Proofs.YtcoaajkhfgakgaaGreatDoorW.PrintMore
set_option linter.unusedVariables false
set_option linter.unusedSimpArgs false
def risingS : List ByteArray → Bool
  | a :: b :: r => Op.bytesLess a.toList b.toList && risingS (b :: r)
  | _ => true
def conf_rising.f (l0 : List ByteArray) : Option Bool := if l0.length ≤ 1099511627776 then some (risingS l0) else none
theorem leq_yes : ∀ {a b : List UInt8}, Op.bytesLess b a = true → Op.bytesLess a b = false ∧ (a == b) = false
  | _, [], h => by
    rename_i a
    cases a <;> simp [Op.bytesLess] at h ⊢
  | [], _ :: _, h => by simp [Op.bytesLess] at h
  | x :: a, y :: b, h => by
    simp only [Op.bytesLess, Bool.or_eq_true, Bool.and_eq_true, decide_eq_true_eq, beq_iff_eq] at h
    rcases h with h | ⟨rfl, h⟩
    · have h1 : ¬ x < y := by simp only [UInt8.lt_iff_toNat_lt] at *; omega
      have h2 : ¬ x = y := by rintro rfl; simp only [UInt8.lt_iff_toNat_lt] at h; omega
      simp [Op.bytesLess, h1, h2]
    · obtain ⟨h1, h2⟩ := leq_yes h
      have h3 : ¬ y < y := by simp only [UInt8.lt_iff_toNat_lt]; omega
      simp only [beq_eq_false_iff_ne] at h2
      simp [Op.bytesLess, h1, h2, h3]
theorem leq_no : ∀ {a b : List UInt8}, Op.bytesLess b a = false → (Op.bytesLess a b || a == b) = true
  | a, [], h => by
    cases a
    · simp [Op.bytesLess]
    · simp [Op.bytesLess] at h
  | [], _ :: _, h => by simp [Op.bytesLess]
  | x :: a, y :: b, h => by
    simp only [Op.bytesLess, Bool.or_eq_false_iff, Bool.and_eq_false_iff, decide_eq_false_iff_not, beq_eq_false_iff_ne] at h
    obtain ⟨h1, h2⟩ := h
    by_cases hxy : x = y
    · subst hxy
      rcases h2 with h2 | h2
      · exact absurd rfl h2
      · have := leq_no h2
        simp only [Bool.or_eq_true, beq_iff_eq] at this
        rcases this with h | h <;> simp [Op.bytesLess, h]
    · have : x < y := by
        simp only [UInt8.lt_iff_toNat_lt] at *
        have : x.toNat ≠ y.toNat := fun e => hxy (UInt8.toNat_inj.1 e)
        omega
      simp [Op.bytesLess, this]
theorem risingS_step (l : List ByteArray) (i : Nat) (h : i + 1 < l.length) : risingS (l.drop i) = (Op.bytesLess (l.getD i ByteArray.empty).toList (l.getD (i + 1) ByteArray.empty).toList && risingS (l.drop (i + 1))) := by
  rw [List.drop_eq_getElem_cons (show i < l.length by omega), List.drop_eq_getElem_cons h]
  simp only [risingS, List.getD_eq_getElem?_getD, List.getElem?_eq_getElem h, List.getElem?_eq_getElem (show i < l.length by omega), Option.getD_some]
theorem risingS_end (l : List ByteArray) (i : Nat) (h : l.length ≤ i + 1) : risingS (l.drop i) = true := by
  have : (l.drop i).length ≤ 1 := by simp; omega
  match l.drop i, this with
  | [], _ => rfl
  | [_], _ => rfl
set_option maxHeartbeats 1000000 in
theorem conf_rising.calls (A0 : Option Addr) (c0 : Nat) (l0 : List ByteArray) (r : Bool) (w : World) (hr0 : Kd.C Kd.string w A0 l0.length l0) (hc0 : l0.length ≤ c0) (h : conf_rising.f l0 = some r) :
    Calls Tryz.prog 50 #[.slice A0 l0.length c0] w fun e w' => e = .returned (.bool r) ∧ Drawn0 w w' := by
  have hb : l0.length ≤ 1099511627776 := by
    unfold conf_rising.f at h
    split at h
    · assumption
    · cases h
  obtain rfl : risingS l0 = r := by
    unfold conf_rising.f at h
    rw [if_pos hb] at h
    injection h
  clear h
  have hcell : ∀ j, j < l0.length → ∃ b o, A0 = some ⟨b, o, none⟩ ∧ w.cell? ⟨b, o + j, none⟩ = some (.string (l0.getD j ByteArray.empty)) := fun j hj => by
    obtain ⟨ad, he, hc⟩ := (Kd.reads_of_C (d := ByteArray.empty) hr0).2.2 (by omega)
    have hspot : ad.spot = none := by
      have h0 := hc 0 (by omega)
      rw [addr_add_zero] at h0
      exact spot_of_cell h0
    obtain ⟨b, off, sp⟩ := ad
    simp only at hspot
    subst hspot
    have := hc j hj
    rw [add_none] at this
    exact ⟨b, off, he, this⟩
  clear hr0
  have Hcell := Aside0.mk hcell
  clear hcell
  go_enter Tryz.func50, Tryz.ntmps50
  go_wp2
  go_loopw [3] (fun i wr => ∃ (k q : Nat), i = .int .i64 ((k : Int) + 1) ∧ Aside0 (wr = w.drewN q) ∧ Aside0 (risingS (l0.drop k) = risingS l0) ∧ k ≤ l0.length) (fun i _ => l0.length + 1 - (intOf i).toNat)
  case atStart => exact ⟨0, 0, by simp, ⟨rfl⟩, ⟨rfl⟩, by omega⟩
  case round =>
    obtain ⟨k, q, rfl, hw, hris, hkl⟩ := hrel
    by_cases hk : k + 1 < l0.length
    · obtain ⟨b, o, hA, hc1⟩ := Hcell.out k (by omega)
      obtain ⟨b', o', hA', hc2⟩ := Hcell.out (k + 1) hk
      rw [hA] at hA'
      injection hA' with hA'
      injection hA' with e1 e2
      subst e1 e2
      have d1 : wr.cell? ⟨b, o + k, none⟩ = some (.string (l0.getD k ByteArray.empty)) := by rw [hw.out]; exact hc1
      have d2 : wr.cell? ⟨b, o + (k + 1), none⟩ = some (.string (l0.getD (k + 1) ByteArray.empty)) := by rw [hw.out]; exact hc2
      have hst := risingS_step l0 k hk
      clear hc1 hc2
      subst hA
      generalize l0.getD k ByteArray.empty = x at *
      generalize l0.getD (k + 1) ByteArray.empty = y at *
      have g0 : (0 : Int) ≤ (k : Int) + 1 := by omega
      have g1 : (k : Int) + 1 < (l0.length : Int) := by omega
      have g2 : (0 : Int) ≤ (k : Int) := by omega
      have g3 : (k : Int) < (l0.length : Int) := by omega
      have g4 : IntKind.i64.wrap ((k : Int) + 1 - 1) = (k : Int) := by rw [IntKind.wrap_i64]; omega
      have g5 : ((k : Int) + 1).toNat = k + 1 := by omega
      by_cases hlt : Op.bytesLess x.toList y.toList = true
      · obtain ⟨n1, n2⟩ := leq_yes hlt
        have HN : Aside0 (risingS (l0.drop (k + 1)) = risingS l0) := ⟨by rw [← hris.out, hst, hlt, Bool.true_and]⟩
        clear hst hlt hris
        go_wp2_with fail
        go_quiet (fail)
        go_wp2
        go_roundw
        case rel => exact ⟨k + 1, _, by go_num, ⟨by rw [hw.out]; exact World.drewN_drewN ..⟩, HN, by omega⟩
        case measure => simp [intOf]; omega
      · have hlt : Op.bytesLess x.toList y.toList = false := by simpa using hlt
        have n1 := leq_no hlt
        have HN : Aside0 (risingS l0 = false) := ⟨by rw [← hris.out, hst, hlt, Bool.false_and]⟩
        clear hst hlt hris
        go_wp2_with fail
        go_quiet (fail)
        go_wp2
        go_ret
        exact ⟨congrArg (fun z => Ending.returned (.bool z)) HN.out.symm, ⟨_, by rw [hw.out]; exact World.drewN_drewN ..⟩⟩
    · have HN : Aside0 (risingS l0 = true) := ⟨by rw [← hris.out, risingS_end _ _ (by omega)]⟩
      clear hris
      go_wp2
      go_ret
      exact ⟨congrArg (fun z => Ending.returned (.bool z)) HN.out.symm, ⟨_, hw.out⟩⟩
end Go.Proofs.YtcoaajkhfgakgaaGreatDoor.Pr
end

section
namespace Go.Proofs.YtcoaajkhfgakgaaGreatDoor.Pr
open Go.RowKit Go.Proofs.YtcoaajkhfgakgaaGreatDoorW.PrintWords Go.Proofs.YtcoaajkhfgakgaaGreatDoorW.PrintLast Go.Proofs.YtcoaajkhfgakgaaGreatDoorW.PrintMore
set_option linter.unusedVariables false
set_option linter.unusedSimpArgs false
def slices_Clone_string_string.f (l0 : List ByteArray) : Option (List ByteArray) := if l0.length ≤ 8796093022208 then some l0 else none
theorem slices_Clone_string_string.calls (A0 : Option Addr) (c0 : Nat) (l0 : List ByteArray) (r : List ByteArray) (w : World) (hr0 : Kd.C Kd.string w A0 l0.length l0) (hc0 : l0.length ≤ c0) (h : slices_Clone_string_string.f l0 = some r) :
    Calls Tryz.prog 62 #[.slice A0 l0.length c0] w fun e w' => ∃ v0_ : Value, e = .returned (v0_) ∧ Kd.R Kd.string 9 w' w.heap.size (fun _ => True) v0_ r ∧ Below w.heap.size w w' := by
  have hb : l0.length ≤ 8796093022208 := by
    unfold slices_Clone_string_string.f at h
    split at h
    · assumption
    · cases h
  obtain rfl : l0 = r := by
    unfold slices_Clone_string_string.f at h
    rw [if_pos hb] at h
    injection h
  clear h
  rcases A0 with _ | ad
  · have h0 : l0 = [] := by
      rcases Nat.eq_zero_or_pos l0.length with h | h
      · exact List.eq_nil_of_length_eq_zero h
      · obtain ⟨ad, he, _⟩ := hr0.2.2 h
        cases he
    subst h0
    refine (Tryz.slices_Clone_string_nil _ c0 w).mono ?_
    rintro e w' ⟨rfl, rfl⟩
    exact ⟨_, rfl, Kd.R_nil _ _ _ _ _, Below.refl _ _⟩
  · rcases Nat.eq_zero_or_pos l0.length with h | hp
    · have h0 : l0 = [] := List.eq_nil_of_length_eq_zero h
      subst h0
      refine (Tryz.slices_Clone_string_zero ad c0 w).mono ?_
      rintro e w' ⟨v', rfl, hown, _, hbel⟩
      exact ⟨_, rfl, Kd.R_of_own (enc := Value.string) hown (fun _ _ => trivial), hbel⟩
    · obtain ⟨ad', he, hcell⟩ := (Kd.reads_of_C (d := ByteArray.empty) hr0).2.2 hp
      injection he with he
      subst he
      have hspot : ad.spot = none := by
        have h0 := hcell 0 hp
        rw [addr_add_zero] at h0
        exact spot_of_cell h0
      obtain ⟨b, off, sp⟩ := ad
      simp only at hspot
      subst hspot
      refine (Tryz.slices_Clone_string b off l0.length c0 l0 w (Nat.le_refl _) (by omega) (fun j hj => ?_)).mono ?_
      · have := hcell j hj
        rwa [add_none] at this
      · rintro e w' ⟨v', rfl, hown, _, hbel⟩
        rw [List.take_length] at hown
        exact ⟨_, rfl, Kd.R_of_own (enc := Value.string) hown (fun _ _ => trivial), hbel⟩
end Go.Proofs.YtcoaajkhfgakgaaGreatDoor.Pr
end

section
namespace Go.Proofs.YtcoaajkhfgakgaaGreatDoor.Pr
open Go.RowKit Go.Proofs.YtcoaajkhfgakgaaGreatDoorW.PrintWords Go.Proofs.YtcoaajkhfgakgaaGreatDoorW.PrintLast Go.Proofs.YtcoaajkhfgakgaaGreatDoorW.PrintMore
set_option linter.unusedVariables false
set_option linter.unusedSimpArgs false
theorem infoStr : (Tryz.prog.info? 9).map (fun i => (i.zero, i.size, i.bytes)) = some (some (.string ⟨#[]⟩), 1, 16) := by kernel_rfl
theorem strs_C {W : World} {base : Nat} {t : TypeId} {v : Value} {hs : List ByteArray} (h : W.ownsRow base t 1 v hs.length (pw_strs hs)) :
    ∃ A c, v = .slice A hs.length c ∧ hs.length ≤ c ∧ Kd.C Kd.string W A hs.length hs := by
  have hR : Reps (Kd.string.K W) 1 hs (pw_strs hs) := by
    refine ⟨by simp [pw_strs], fun j p hj => ?_⟩
    have : (pw_strs hs)[j]? = some (.string p) := by simp [pw_strs, hj]
    rw [Nat.mul_one]
    obtain ⟨hl, hv⟩ := List.getElem?_eq_some_iff.1 this
    rw [List.drop_eq_getElem_cons hl, hv]
    rfl
  obtain ⟨A, c, hv, hr⟩ := own_reads_row h hR rfl
  refine ⟨A, c, hv, ?_, hr⟩
  rcases h.2 with ⟨h1, h2⟩ | ⟨g, cap, cur, h1, h2, h3, h4, h5⟩
  · omega
  · rw [h1] at hv
    injection hv with _ _ hc
    omega
theorem R_strs {W : World} {e base : Nat} {ok : Nat → Prop} {v : Value} {hs : List ByteArray} (h : Kd.string.R e W base ok v hs) : W.ownsRow base e 1 v hs.length (pw_strs hs) := by
  obtain ⟨_, inner, ho, hr⟩ := h
  have : inner = pw_strs hs := by
    apply List.ext_getElem?
    intro j
    rcases Nat.lt_or_ge j hs.length with hj | hj
    · have h1 := hr.2 j _ (List.getElem?_eq_getElem hj)
      have h2 : (inner.drop (j * 1)).take 1 = [.string hs[j]] := h1
      have h3 : (List.take 1 (inner.drop (j * 1)))[0]? = some (.string hs[j]) := by rw [h2]; rfl
      rw [List.getElem?_take_of_lt (by omega), List.getElem?_drop, Nat.mul_one, Nat.add_zero] at h3
      rw [h3]
      simp [pw_strs, hj]
    · have h1 : inner.length = hs.length * 1 := hr.1
      rw [List.getElem?_eq_none (by omega), List.getElem?_eq_none (by simp [pw_strs]; omega)]
  rw [← this]
  exact ho
theorem strs_R {W : World} {e base : Nat} {v : Value} {hs : List ByteArray} (h : W.ownsRow base e 1 v hs.length (pw_strs hs)) : Kd.string.R e W base (fun k => v.ownBlock = some k) v hs := by
  refine ⟨fun k hk => hk, pw_strs hs, h, by simp [pw_strs, Kd.string, Kd.scalar], fun j p hj => ?_⟩
  have : (pw_strs hs)[j]? = some (.string p) := by simp [pw_strs, hj]
  obtain ⟨hl, hv⟩ := List.getElem?_eq_some_iff.1 this
  show (List.take 1 (List.drop (j * 1) (pw_strs hs))) = [Value.string p]
  rw [Nat.mul_one, List.drop_eq_getElem_cons hl, hv]
  rfl
theorem strs_snoc (hs : List ByteArray) (x : ByteArray) : pw_strs (hs ++ [x]) = pw_strs hs ++ [.string x] := by simp [pw_strs]
def keyF : Nat → St → Bool → List ByteArray → Option (St × Bool × List ByteArray)
  | 0, _, _, _ => none
  | f + 1, st, q, hs =>
    if st.code = 0 then
      if nextS st = ⟨#[59]⟩ then some (st, q, hs)
      else if nextS st = ⟨#[113, 117, 101, 114, 121]⟩ ∧ q = false then keyF f (takeS st) true hs
      else if (mustS st ⟨#[104, 101, 97, 100, 101, 114]⟩).code = 0 then
        if headB (nextS (mustS st ⟨#[104, 101, 97, 100, 101, 114]⟩)) = true ∧ risingS (hs ++ [nextS (mustS st ⟨#[104, 101, 97, 100, 101, 114]⟩)]) = true then
          if hs.length = 4 then keyF f (takeS (failS (mustS st ⟨#[104, 101, 97, 100, 101, 114]⟩) 32)) q hs
          else keyF f (takeS (mustS st ⟨#[104, 101, 97, 100, 101, 114]⟩)) q (hs ++ [nextS (mustS st ⟨#[104, 101, 97, 100, 101, 114]⟩)])
        else keyF f (takeS (failS (mustS st ⟨#[104, 101, 97, 100, 101, 114]⟩) 30)) q hs
      else keyF f (takeS (mustS st ⟨#[104, 101, 97, 100, 101, 114]⟩)) q hs
    else some (st, q, hs)
theorem failS_l (st : St) (e : Int) : (failS st e).l = st.l := by unfold failS; split <;> rfl
theorem takeS_mem (st : St) : ∀ x ∈ (takeS st).l, x ∈ st.l := by
  intro x hx
  unfold takeS at hx
  split at hx
  · exact List.mem_of_mem_tail hx
  · exact hx
theorem mustS_mem (st : St) (s : ByteArray) : ∀ x ∈ (mustS st s).l, x ∈ st.l := by
  intro x hx
  unfold mustS at hx
  have := takeS_mem _ x hx
  split at this
  · exact this
  · rwa [failS_l] at this
theorem nextS_small {st : St} {n : Nat} (h : ∀ x ∈ st.l, x.s.size ≤ n) : (nextS st).size ≤ n := by
  unfold nextS
  split
  · unfold hdW
    cases hl : st.l with
    | nil => exact Nat.zero_le _
    | cons x r => exact h x (by rw [hl]; exact List.mem_cons_self)
  · exact Nat.zero_le _
theorem numberS_mem (st : St) (lo hi : Int) : ∀ x ∈ (numberS st lo hi).l, x ∈ st.l := by
  intro x hx
  unfold numberS at hx
  have := takeS_mem _ x hx
  split at this
  · exact this
  · rwa [failS_l] at this
structure KI (w0 w W : World) (g gs : Nat) (host : ByteArray) (o mn mx : Int) (kp : Bool) (st : St) (q : Bool) (hs : List ByteArray) (v : Value) : Prop where
  rd : IsRd w0 W g st
  bel : Below w0.heap.size w0 W
  keep : KeepBut w W g (some gs)
  site : W.heap[gs]? = some (.cells #[.string host, .int .i64 o, .int .i64 mn, .int .i64 mx, .bool q, .bool kp, v] 52 (0, 0))
  own : W.ownsRow w.heap.size 9 1 v hs.length (pw_strs hs)
  four : hs.length ≤ 4
  small : ∀ x ∈ st.l, x.s.size ≤ 274877906944
section
variable {w0 w W W' : World} {g gs : Nat} {host : ByteArray} {o mn mx : Int} {kp : Bool} {st st' : St} {q : Bool} {hs : List ByteArray} {v : Value}
theorem KI.far (h : KI w0 w W g gs host o mn mx kp st q hs v) {k : Nat} (hk : k < w.heap.size) : v.ownBlock ≠ some k := fun e => by
  have := own_base h.own k e
  omega
theorem KI.reader (h : KI w0 w W g gs host o mn mx kp st q hs v) (hg : g < w.heap.size) (hgs : gs ≠ g) (h1 : IsRd w0 W' g st') (h2 : Below w0.heap.size w0 W') (h3 : KeepBut W W' g none) (h4 : ∀ x ∈ st'.l, x ∈ st.l) : KI w0 w W' g gs host o mn mx kp st' q hs v :=
  ⟨h1, h2, ⟨Nat.le_trans h.keep.1 h3.1, fun i hi hn hr => (h3.2 i (Nat.lt_of_lt_of_le hi h.keep.1) hn (by simp)).trans (h.keep.2 i hi hn hr)⟩,
    (h3.2 gs (blk_lt h.site) hgs (by simp)).trans h.site, h3.own h.own (h.far hg) (by rcases hv : v.ownBlock with _ | k <;> simp), h.four, fun x hx => h.small x (h4 x hx)⟩
theorem KI.below (h : KI w0 w W g gs host o mn mx kp st q hs v) (hb : Below W.heap.size W W') : KI w0 w W' g gs host o mn mx kp st q hs v :=
  ⟨h.rd.below hb, below_then h.bel h.bel.size hb, ⟨Nat.le_trans h.keep.1 hb.size, fun i hi hn hr => (hb.block i (Nat.lt_of_lt_of_le hi h.keep.1)).trans (h.keep.2 i hi hn hr)⟩,
    (hb.block gs (blk_lt h.site)).trans h.site, pw_own_below h.own hb, h.four, h.small⟩
theorem KI.setq (h : KI w0 w W g gs host o mn mx kp st q hs v) (hgs : gs ≠ g) (hl : gs < w.heap.size) (h0 : w0.heap.size ≤ gs) (b : Bool) : KI w0 w (W.setCell ⟨gs, 4, none⟩ (.bool b)) g gs host o mn mx kp st b hs v := by
  refine ⟨?_, below_set h.bel h0, ⟨by have := h.keep.1; simpa [World.setCell] using this, fun i hi hn hr => (Below.heap_setCell W _ _ i (fun e => hr (by rw [e]))).trans (h.keep.2 i hi hn hr)⟩, blk_put h.site 4 _ rfl, own_setCell h.own (fun e => h.far hl e.symm) _, h.four, h.small⟩
  obtain ⟨A, c, h1, h2⟩ := h.rd
  exact ⟨A, c, (Below.heap_setCell W _ _ g (fun e => hgs e.symm)).trans h1, h2⟩
end
end Go.Proofs.YtcoaajkhfgakgaaGreatDoor.Pr
end

section
namespace Go.Proofs.YtcoaajkhfgakgaaGreatDoor.Pr
open Go.RowKit Go.Proofs.YtcoaajkhfgakgaaGreatDoorW.PrintWords Go.Proofs.YtcoaajkhfgakgaaGreatDoorW.PrintLast Go.Proofs.YtcoaajkhfgakgaaGreatDoorW.PrintMore
set_option linter.unusedVariables false
set_option linter.unusedSimpArgs false
section
variable {w0 w W W' : World} {g gs : Nat} {host : ByteArray} {o mn mx : Int} {kp : Bool} {st st' : St} {q : Bool} {hs : List ByteArray} {v : Value}
theorem KI.app (h : KI w0 w W g gs host o mn mx kp st q hs v) (hg : g < w.heap.size) (hgs : gs ≠ g) (hl : gs < w.heap.size) (h0 : w0.heap.size ≤ gs) (h4 : hs.length < 4) (x : ByteArray) (b c : Nat) (hgrow : W.grownBy W' v.ownBlock)
    (hown : W'.ownsRow w.heap.size 9 1 (.slice (some ⟨b, 0, none⟩) (hs.length + 1) c) (hs.length + 1) (pw_strs hs ++ [.string x])) (hw : w0.heap.size ≤ w.heap.size) :
    KI w0 w (W'.setCell ⟨gs, 6, none⟩ (.slice (some ⟨b, 0, none⟩) (hs.length + 1) c)) g gs host o mn mx kp st q (hs ++ [x]) (.slice (some ⟨b, 0, none⟩) (hs.length + 1) c) := by
  have hb : w.heap.size ≤ b := own_base hown b (by simp [Value.ownBlock])
  have hsz : w.heap.size ≤ W.heap.size := h.keep.1
  have ho : some gs ≠ v.ownBlock := fun e => h.far hl e.symm
  have ho2 : some g ≠ v.ownBlock := fun e => h.far hg e.symm
  have hWs : W'.heap[gs]? = W.heap[gs]? := hgrow.block gs (by omega) ho
  have hWg : W'.heap[g]? = W.heap[g]? := hgrow.block g (by omega) ho2
  have hB : Below w0.heap.size w0 W' := h.bel.grown hgrow (by omega) (fun k hk => by have := own_base h.own k hk; omega)
  refine ⟨?_, below_set hB h0, ⟨by have := hgrow.size; simp [World.setCell]; omega, fun i hi hn hr => ?_⟩, blk_put (hWs.trans h.site) 6 _ rfl, ?_, by simp; omega, h.small⟩
  · obtain ⟨A, c, h1, h2⟩ := h.rd
    exact ⟨A, c, (Below.heap_setCell W' _ _ g (fun e => hgs e.symm)).trans (hWg.trans h1), h2⟩
  · refine (Below.heap_setCell W' _ _ i (fun e => hr (by rw [e]))).trans ((hgrow.block i (by omega) (fun e => ?_)).trans (h.keep.2 i hi hn hr))
    have := own_base h.own i e.symm
    omega
  · rw [strs_snoc, List.length_append, List.length_singleton]
    exact own_setCell hown (by simp [Value.ownBlock]; omega) _
end
section
variable {P : Program} (w : World)
theorem wpListG_append_lies {ops : Array Oper} {rest : List Oper} {o : Oper} {a : Act} {Q : Exit → Act → World → Prop} (hgd : Region.wanted o (yielded ops a.tmps) = true) (s x : Operand) (t : TypeId)
    (ho : o.op = .call { callee := .builtin .append, args := #[s, x], argTypes := #[t, t] })
    (base : Nat) (e : TypeId) (i : TypeInfo) (z : Value) (size bytes : Nat) (ht : P.underlying t = some (.slice e)) (hi : P.info? e = some i) (hz : i.zero = some z)
    (hsize : i.size = size) (hby : i.bytes = bytes) (hzs : z.cells.size = size) (hsz : 0 < size)
    (v : Value) (n : Nat) (xs : List Value) (hs : a.eval s = v) (hown : w.ownsRow base e size v n xs)
    (ad : Addr) (m c : Nat) (news : List Value) (hx : a.eval x = .slice (some ad) m c) (hl : news.length = m * size) (hnews : ∀ j u, news[j]? = some u → w.cell? (ad.add j) = some u) (h1 : ∀ u ∈ news, u.oneCell' = true)
    (hm : 0 < m) (h63 : n + m ≤ maxLen) (hbytes : (n + m) * bytes ≤ 140737488355328) (hbase : base ≤ w.heap.size) (H : Nat) (hH : w.heap.size = H)
    (h : ∀ g cap w', w'.ownsRow base e size (.slice (some ⟨g, 0, none⟩) (n + m) cap) (n + m) (xs ++ news) → w.grownBy w' v.ownBlock → (v.ownBlock = some g ∨ g = H) → g < w'.heap.size → wpList P ops Q rest (a.put o.dst (.slice (some ⟨g, 0, none⟩) (n + m) cap)) w') : wpList P ops Q (o :: rest) a w :=
  BigFrame.wpList_want hgd fun _ hK => wp_append_lies w s x t ho base e i z size bytes ht hi hz hsize hby hzs hsz v n xs hs hown ad m c news hx hl hnews h1 hm h63 hbytes hbase H hH fun g cap w' h2 h3 h4 h5 => hK _ _ (h g cap w' h2 h3 h4 h5)
end
theorem lit_ne {x : ByteArray} {a : Array UInt8} (h : x ≠ ⟨a⟩) : (x.toList == a.toList) = false := by
  have := toList_ne h
  rwa [Lib.toList_data ⟨a⟩] at this
set_option maxRecDepth 100000 in
set_option maxHeartbeats 8000000 in
theorem reader_key_calls (k : Nat) (w0 w : World) (g gs : Nat) (host : ByteArray) (o mn mx : Int) (q0 kp : Bool) (v0 : Value) (st : St) (st' : St) (q' : Bool) (hs' : List ByteArray)
    (h : IsRd w0 w g st) (hB : Below w0.heap.size w0 w) (hS : w.heap[gs]? = some (.cells #[.string host, .int .i64 o, .int .i64 mn, .int .i64 mx, .bool q0, .bool kp, v0] 52 (0, 0))) (hgs : gs ≠ g) (h0 : w0.heap.size ≤ gs)
    (hsm : ∀ x ∈ st.l, x.s.size ≤ 274877906944) (hf : keyF k (mustS st ⟨#[112, 97, 116, 104]⟩) false [] = some (st', q', hs')) :
    Calls Tryz.prog 102 #[.pointer (some ⟨g, 0, none⟩), .pointer (some ⟨gs, 0, none⟩)] w fun e w' => e = .returned (.tuple #[]) ∧ ∃ v', KI w0 w w' g gs host o mn mx kp st' q' hs' v' := by
  have hg : g < w.heap.size := by obtain ⟨A, c, h1, _⟩ := h; exact blk_lt h1
  have hl : gs < w.heap.size := blk_lt hS
  have hw : w0.heap.size ≤ w.heap.size := hB.size
  have hu := Tryz.underlying97
  have hu2 := Tryz.underlying43
  have hu3 := Tryz.underlying52
  obtain ⟨i0, hi0, hz0, hz1, hz2⟩ := info_parts infoStr
  have c4 : w.cell? ⟨gs, 4, none⟩ = some (.bool q0) := (blk_cell hS 4).trans rfl
  have c6 : w.cell? ⟨gs, 6, none⟩ = some v0 := (blk_cell hS 6).trans rfl
  have z4 : w.frozen? ⟨gs, 4, none⟩ = false := blk_frozen hS 4
  have z6 : w.frozen? ⟨gs, 6, none⟩ = false := blk_frozen hS 6
  have HK : Aside0 (KI w0 w ((w.setCell ⟨gs, 4, none⟩ (.bool false)).setCell ⟨gs, 6, none⟩ (.slice none 0 0)) g gs host o mn mx kp st false [] (.slice none 0 0)) := ⟨by
    refine ⟨?_, below_set (below_set hB h0) h0, ⟨by simp [World.setCell], fun i hi hn hr => ?_⟩, blk_put (blk_put hS 4 _ rfl) 6 _ rfl, own_nil _ _ _ _, by simp, hsm⟩
    · obtain ⟨A, c, h1, h2⟩ := h
      exact ⟨A, c, (Below.heap_setCell _ _ _ g (fun e => hgs e.symm)).trans ((Below.heap_setCell _ _ _ g (fun e => hgs e.symm)).trans h1), h2⟩
    · exact (Below.heap_setCell _ _ _ i (fun e => hr (by rw [e]))).trans (Below.heap_setCell _ _ _ i (fun e => hr (by rw [e])))⟩
  have HF := Aside0.mk hf
  clear h hB hS hsm hf
  go_enter Tryz.func102, Tryz.ntmps102
  go_wp2_with fail
  refine (reader_must_calls w0 _ g st ⟨#[112, 97, 116, 104]⟩ HK.out.rd HK.out.bel).mono ?_
  rintro e w1 ⟨rfl, h1, h2, h3⟩
  have HK1 := Aside0.mk (HK.out.reader hg hgs h1 h2 h3 (mustS_mem st _))
  clear h1 h2 h3 HK c4 c6 z4 z6
  generalize mustS st ⟨#[112, 97, 116, 104]⟩ = st at *
  go_wp2
  go_loopg [4] k (fun kq v4 wr => ∃ (s1 : St) (q1 : Bool) (l1 : List ByteArray) (v1 : Value), Aside0 (keyF kq s1 q1 l1 = some (st', q', hs')) ∧ Aside0 (KI w0 w wr g gs host o mn mx kp s1 q1 l1 v1))
  case atStart => exact ⟨st, false, [], _, HF, HK1⟩
  case round =>
    clear HF HK1
    obtain ⟨s1, q1, l1, v1, HF, HK⟩ := hrel
    cases gk with
    | zero => exact absurd HF.out (by simp [keyF])
    | succ k1 =>
      have c1 : wr.cell? ⟨g, 1, none⟩ = some (.int .i64 s1.code) := by
        obtain ⟨A, c, hb, _⟩ := HK.out.rd
        exact (blk_cell hb 1).trans rfl
      have HN := Aside0.mk (reader_next_calls w0 wr g s1 HK.out.rd HK.out.bel)
      have HT := HF.out
      clear HF
      unfold keyF at HT
      by_cases t1 : s1.code = 0
      case neg =>
        rw [if_neg t1] at HT
        have q1' : (s1.code == 0) = false := beq_eq_false_iff_ne.2 t1
        injection HT with HT
        injection HT with e1 HT
        injection HT with e2 e3
        subst e1 e2 e3
        have HK := Aside0.mk (Exists.intro v1 HK.out)
        clear t1
        go_wp2
        go_end0
        exact ⟨rfl, HK.out⟩
      case pos =>
      rw [if_pos t1] at HT
      rw [t1] at c1
      by_cases t2 : nextS s1 = ⟨#[59]⟩
      case pos =>
        rw [if_pos t2] at HT
        rw [t2] at HN
        injection HT with HT
        injection HT with e1 HT
        injection HT with e2 e3
        subst e1 e2 e3
        have HK := Aside0.mk (Exists.intro v1 HK.out)
        clear t1 t2
        go_wp2_with fail
        refine HN.out.mono ?_
        rintro e w2 ⟨rfl, rfl⟩
        go_wp2
        go_end0
        exact ⟨rfl, HK.out⟩
      case neg =>
      rw [if_neg t2] at HT
      have q2 := lit_ne t2
      have ck : wr.cell? ⟨gs, 4, none⟩ = some (.bool q1) := (blk_cell HK.out.site 4).trans rfl
      have zk : wr.frozen? ⟨gs, 4, none⟩ = false := blk_frozen HK.out.site 4
      have HN2 := Aside0.mk (fun e2 : nextS s1 = ⟨#[113, 117, 101, 114, 121]⟩ => e2 ▸ HN.out)
      by_cases t3 : nextS s1 = ⟨#[113, 117, 101, 114, 121]⟩
      case pos =>
        cases q1 with
        | false =>
          rw [if_pos ⟨t3, rfl⟩] at HT
          rw [t3] at HN
          have HKq := Aside0.mk (HK.out.setq hgs hl h0 true)
          replace HT := Aside0.mk HT
          clear t1 t2 t3 q2 HN2
          go_wp2_with fail
          refine HN.out.mono ?_
          rintro e w2 ⟨rfl, rfl⟩
          go_wp2_with fail
          refine HN.out.mono ?_
          rintro e w2 ⟨rfl, rfl⟩
          go_wp2_with fail
          refine (reader_take_calls w0 _ g _ HKq.out.rd HKq.out.bel).mono ?_
          rintro e wt ⟨rfl, h1, h2, h3⟩
          have HKt := Aside0.mk (HKq.out.reader hg hgs h1 h2 h3 (takeS_mem _))
          clear h1 h2 h3
          go_wp2
          go_roundg k1
          case measure => omega
          case rel => exact ⟨_, _, _, _, HT, HKt⟩
        | true =>
          rw [if_neg (by simp)] at HT
          rw [t3] at HN
          clear t1 t2 t3 q2
          go_wp2_with fail
          refine HN.out.mono ?_
          rintro e w2 ⟨rfl, rfl⟩
          go_wp2_with fail
          refine HN.out.mono ?_
          rintro e w2 ⟨rfl, rfl⟩
          have HMC := Aside0.mk (reader_must_calls w0 _ g s1 ⟨#[104, 101, 97, 100, 101, 114]⟩ HK.out.rd HK.out.bel)
          have HML := Aside0.mk (mustS_mem s1 ⟨#[104, 101, 97, 100, 101, 114]⟩)
          generalize mustS s1 ⟨#[104, 101, 97, 100, 101, 114]⟩ = s2 at *
          go_wp2_with fail
          refine HMC.out.mono ?_
          rintro e w3 ⟨rfl, h1, h2, h3⟩
          have HK3 := Aside0.mk (HK.out.reader hg hgs h1 h2 h3 HML.out)
          clear h1 h2 h3 HMC HML c1 ck zk HK HN HN2
          have c1 : w3.cell? ⟨g, 1, none⟩ = some (.int .i64 s2.code) := by
            obtain ⟨A, c, hb, _⟩ := HK3.out.rd
            exact (blk_cell hb 1).trans rfl
          have HN := Aside0.mk (reader_next_calls w0 w3 g s2 HK3.out.rd HK3.out.bel)
          have hx : (nextS s2).size ≤ 274877906944 := nextS_small HK3.out.small
          have HX := Aside0.mk hx
          clear hx
          go_wp2_with fail
          refine HN.out.mono ?_
          rintro e w2 ⟨rfl, rfl⟩
          clear HN
          generalize nextS s2 = x at *
          by_cases t4 : s2.code = 0
          case neg =>
            have q4 : (s2.code == 0) = false := beq_eq_false_iff_ne.2 t4
            have q4' : (s2.code != 0) = true := bne_iff_ne.2 t4
            rw [if_neg t4] at HT
            replace HT := Aside0.mk HT
            clear t4
            go_wp2_with fail
            refine (reader_take_calls w0 _ g _ HK3.out.rd HK3.out.bel).mono ?_
            rintro e wt ⟨rfl, h1, h2, h3⟩
            have HKt := Aside0.mk (HK3.out.reader hg hgs h1 h2 h3 (takeS_mem _))
            clear h1 h2 h3
            go_wp2
            go_roundg k1
            case measure => omega
            case rel => exact ⟨_, _, _, _, HT, HKt⟩
          case pos =>
          rw [if_pos t4] at HT
          rw [t4] at c1
          clear t4
          have HH := Aside0.mk (fun W => conf_head.calls (x.size + 1) x (headB x) W (head_of x (by have := HX.out; omega) _ (by omega)))
          generalize hbx : headB x = bx at *
          clear hbx
          cases bx with
          | false =>
            rw [if_neg (by simp)] at HT
            replace HT := Aside0.mk HT
            go_wp2_with fail
            refine (HH.out _).mono ?_
            rintro e w4 ⟨rfl, hb4⟩
            have HK4 := Aside0.mk (HK3.out.below hb4)
            clear hb4 HK3 c1 HH
            go_wp2_with fail
            refine (reader_fail_calls w0 _ g _ 30 HK4.out.rd HK4.out.bel).mono ?_
            rintro e wf ⟨rfl, h1, h2, h3⟩
            have HKf := Aside0.mk (HK4.out.reader hg hgs h1 h2 h3 (fun x hx => by rwa [failS_l] at hx))
            clear h1 h2 h3
            go_wp2_with fail
            refine (reader_take_calls w0 _ g _ HKf.out.rd HKf.out.bel).mono ?_
            rintro e wt ⟨rfl, h1, h2, h3⟩
            have HKt := Aside0.mk (HKf.out.reader hg hgs h1 h2 h3 (takeS_mem _))
            clear h1 h2 h3
            go_wp2
            go_roundg k1
            case measure => omega
            case rel => exact ⟨_, _, _, _, HT, HKt⟩
          | true =>
            simp only [true_and] at HT
            go_wp2_with fail
            refine (HH.out _).mono ?_
            rintro e w4 ⟨rfl, hb4⟩
            have HK4 := Aside0.mk (HK3.out.below hb4)
            clear hb4 HK3 c1 HH
            obtain ⟨A4, ca4, hv4, hca4, hC4⟩ := strs_C HK4.out.own
            subst hv4
            have c6 : w4.cell? ⟨gs, 6, none⟩ = some (.slice A4 l1.length ca4) := (blk_cell HK4.out.site 6).trans rfl
            have HCL := Aside0.mk (slices_Clone_string_string.calls A4 ca4 l1 l1 w4 hC4 hca4 (by unfold slices_Clone_string_string.f; rw [if_pos (by have := HK4.out.four; omega)]))
            clear hC4
            go_wp2_with fail
            refine HCL.out.mono ?_
            rintro e w5 ⟨v5, rfl, hR5, hb5⟩
            have HO5 := Aside0.mk (R_strs hR5)
            have HK5 := Aside0.mk (HK4.out.below hb5)
            have HB5 := Aside0.mk hb5
            clear hR5 hb5 HCL c6
            have h4' : l1.length ≤ 4 := HK5.out.four
            go_wp2_with (at_builtin; go_loud (refine wpListG_append_lies _ (by rfl) _ _ _ (by rfl) w4.heap.size 9 i0 _ 1 16 Tryz.underlying50 hi0 hz0 hz1 hz2 rfl (by omega) v5 l1.length (pw_strs l1) (by rfl) (HO5.out.alloc _) ⟨w5.heap.size, 0, none⟩ 1 1 [.string x] (by rfl) (by rfl) (World.news_of_block (cs := #[.string x]) (t := 9) (fr := (0, 0)) (heap_alloc_new w5 _)) (by simp [Value.oneCell']) (by omega) (by unfold maxLen; omega) (by omega) (by have := HB5.out.size; simp; omega) (w5.heap.size + 1) (by simp) ?_); intro gg cap w6 hown1 hgrow hat hlt)
            have hown2 : w6.ownsRow w4.heap.size 9 1 (.slice (some ⟨gg, 0, none⟩) (l1.length + 1) cap) (l1 ++ [x]).length (pw_strs (l1 ++ [x])) := by rw [strs_snoc, List.length_append, List.length_singleton]; exact hown1
            have HK6 := Aside0.mk (HK4.out.below ((below_alloc HB5.out _).grown hgrow (by have := HB5.out.size; simp; omega) (fun k hk => own_base HO5.out k hk)))
            obtain ⟨A6, c6, hv6, hc6, hC6⟩ := strs_C hown2
            have hRI := conf_rising.calls A6 c6 (l1 ++ [x]) _ w6 hC6 hc6 (by unfold conf_rising.f; rw [if_pos (by simp; omega)])
            rw [← hv6] at hRI
            have HRI := Aside0.mk hRI
            clear hRI hv6 hc6 hC6 hown1 hown2 hgrow hat hlt HO5 HB5 HK5 HK4 HX
            refine HRI.out.mono ?_
            rintro e w7 ⟨rfl, hd⟩
            have HK7 := Aside0.mk (HK6.out.below hd.below)
            clear hd HRI HK6
            generalize risingS (l1 ++ [x]) = rb at *
            cases rb with
            | false =>
              rw [if_neg (by simp)] at HT
              replace HT := Aside0.mk HT
              go_wp2_with fail
              refine (reader_fail_calls w0 _ g _ 30 HK7.out.rd HK7.out.bel).mono ?_
              rintro e wf ⟨rfl, h1, h2, h3⟩
              have HKf := Aside0.mk (HK7.out.reader hg hgs h1 h2 h3 (fun x hx => by rwa [failS_l] at hx))
              clear h1 h2 h3
              go_wp2_with fail
              refine (reader_take_calls w0 _ g _ HKf.out.rd HKf.out.bel).mono ?_
              rintro e wt ⟨rfl, h1, h2, h3⟩
              have HKt := Aside0.mk (HKf.out.reader hg hgs h1 h2 h3 (takeS_mem _))
              clear h1 h2 h3
              go_wp2
              go_roundg k1
              case measure => omega
              case rel => exact ⟨_, _, _, _, HT, HKt⟩
            | true =>
              rw [if_pos rfl] at HT
              have c7 : w7.cell? ⟨gs, 6, none⟩ = some (.slice A4 l1.length ca4) := (blk_cell HK7.out.site 6).trans rfl
              by_cases t5 : l1.length = 4
              case pos =>
                rw [if_pos t5] at HT
                replace HT := Aside0.mk HT
                have q5 : ((l1.length : Int) == 4) = true := by rw [t5]; rfl
                clear t5
                go_wp2_with fail
                refine (reader_fail_calls w0 _ g _ 32 HK7.out.rd HK7.out.bel).mono ?_
                rintro e wf ⟨rfl, h1, h2, h3⟩
                have HKf := Aside0.mk (HK7.out.reader hg hgs h1 h2 h3 (fun x hx => by rwa [failS_l] at hx))
                clear h1 h2 h3
                go_wp2_with fail
                refine (reader_take_calls w0 _ g _ HKf.out.rd HKf.out.bel).mono ?_
                rintro e wt ⟨rfl, h1, h2, h3⟩
                have HKt := Aside0.mk (HKf.out.reader hg hgs h1 h2 h3 (takeS_mem _))
                clear h1 h2 h3
                go_wp2
                go_roundg k1
                case measure => omega
                case rel => exact ⟨_, _, _, _, HT, HKt⟩
              case neg =>
                rw [if_neg t5] at HT
                replace HT := Aside0.mk HT
                have h4n : l1.length < 4 := by omega
                have q5 : ((l1.length : Int) == 4) = false := beq_eq_false_iff_ne.2 (by omega)
                clear t5
                have z7 : w7.frozen? ⟨gs, 6, none⟩ = false := blk_frozen HK7.out.site 6
                have lt7 : gs < w7.heap.size := blk_lt HK7.out.site
                have HO7 := Aside0.mk HK7.out.own
                have far7 := HK7.out.far hl
                have HFAR := Aside0.mk far7
                have HKn := Aside0.mk (fun o' => HK7.out.below (below_alloc (Below.refl _ _) o'))
                have hsz7 : w.heap.size ≤ w7.heap.size := HK7.out.keep.1
                clear far7
                go_wp2_with (at_builtin; go_loud (refine wpList_append_lies _ (by rfl) _ _ _ (by rfl) w.heap.size 9 i0 _ 1 16 Tryz.underlying50 hi0 hz0 hz1 hz2 rfl (by omega) (.slice A4 l1.length ca4) l1.length (pw_strs l1) (by rfl) (HO7.out.alloc _) ⟨w7.heap.size, 0, none⟩ 1 1 [.string x] (by rfl) (by rfl) (World.news_of_block (cs := #[.string x]) (t := 9) (fr := (0, 0)) (heap_alloc_new w7 _)) (by simp [Value.oneCell']) (by omega) (by unfold maxLen; omega) (by omega) (by simp; omega) (w7.heap.size + 1) (by simp) ?_); intro gg2 cap2 w8 hown8 hgrow8 hat8 hlt8; have c8 : w8.cell? ⟨gs, 6, none⟩ = some (.slice A4 l1.length ca4) := (hgrow8.cell_far _ (by simp; omega) (Ne.symm HFAR.out)).trans (cell_new_ lt7 c7); have z8 : w8.frozen? ⟨gs, 6, none⟩ = false := (hgrow8.frozen_far _ (by simp; omega) (Ne.symm HFAR.out)).trans (frz_new lt7 z7))
                have HK8 := Aside0.mk ((HKn.out _).app hg hgs hl h0 h4n x gg2 cap2 hgrow8 hown8 hw)
                clear hown8 hgrow8 hat8 hlt8 c8 z8
                generalize Value.slice (some ⟨gg2, 0, none⟩) (l1.length + 1) cap2 = v8 at *
                refine (reader_take_calls w0 _ g _ HK8.out.rd HK8.out.bel).mono ?_
                rintro e wt ⟨rfl, h1, h2, h3⟩
                have HKt := Aside0.mk (HK8.out.reader hg hgs h1 h2 h3 (takeS_mem _))
                clear h1 h2 h3
                go_wp2
                go_roundg k1
                case measure => omega
                case rel => exact ⟨_, _, _, _, HT, HKt⟩
      case neg =>
        rw [if_neg (fun h => t3 h.1)] at HT
        have q3 := lit_ne t3
        clear t1 t2 t3
        generalize nextS s1 = y at *
        go_wp2_with fail
        refine HN.out.mono ?_
        rintro e w2 ⟨rfl, rfl⟩
        go_wp2_with fail
        refine HN.out.mono ?_
        rintro e w2 ⟨rfl, rfl⟩
        have HMC := Aside0.mk (reader_must_calls w0 _ g s1 ⟨#[104, 101, 97, 100, 101, 114]⟩ HK.out.rd HK.out.bel)
        have HML := Aside0.mk (mustS_mem s1 ⟨#[104, 101, 97, 100, 101, 114]⟩)
        generalize mustS s1 ⟨#[104, 101, 97, 100, 101, 114]⟩ = s2 at *
        go_wp2_with fail
        refine HMC.out.mono ?_
        rintro e w3 ⟨rfl, h1, h2, h3⟩
        have HK3 := Aside0.mk (HK.out.reader hg hgs h1 h2 h3 HML.out)
        clear h1 h2 h3 HMC HML c1 ck zk HK HN HN2
        have c1 : w3.cell? ⟨g, 1, none⟩ = some (.int .i64 s2.code) := by
          obtain ⟨A, c, hb, _⟩ := HK3.out.rd
          exact (blk_cell hb 1).trans rfl
        have HN := Aside0.mk (reader_next_calls w0 w3 g s2 HK3.out.rd HK3.out.bel)
        have hx : (nextS s2).size ≤ 274877906944 := nextS_small HK3.out.small
        have HX := Aside0.mk hx
        clear hx
        go_wp2_with fail
        refine HN.out.mono ?_
        rintro e w2 ⟨rfl, rfl⟩
        clear HN
        generalize nextS s2 = x at *
        by_cases t4 : s2.code = 0
        case neg =>
          have q4 : (s2.code == 0) = false := beq_eq_false_iff_ne.2 t4
          have q4' : (s2.code != 0) = true := bne_iff_ne.2 t4
          rw [if_neg t4] at HT
          replace HT := Aside0.mk HT
          clear t4
          go_wp2_with fail
          refine (reader_take_calls w0 _ g _ HK3.out.rd HK3.out.bel).mono ?_
          rintro e wt ⟨rfl, h1, h2, h3⟩
          have HKt := Aside0.mk (HK3.out.reader hg hgs h1 h2 h3 (takeS_mem _))
          clear h1 h2 h3
          go_wp2
          go_roundg k1
          case measure => omega
          case rel => exact ⟨_, _, _, _, HT, HKt⟩
        case pos =>
        rw [if_pos t4] at HT
        rw [t4] at c1
        clear t4
        have HH := Aside0.mk (fun W => conf_head.calls (x.size + 1) x (headB x) W (head_of x (by have := HX.out; omega) _ (by omega)))
        generalize hbx : headB x = bx at *
        clear hbx
        cases bx with
        | false =>
          rw [if_neg (by simp)] at HT
          replace HT := Aside0.mk HT
          go_wp2_with fail
          refine (HH.out _).mono ?_
          rintro e w4 ⟨rfl, hb4⟩
          have HK4 := Aside0.mk (HK3.out.below hb4)
          clear hb4 HK3 c1 HH
          go_wp2_with fail
          refine (reader_fail_calls w0 _ g _ 30 HK4.out.rd HK4.out.bel).mono ?_
          rintro e wf ⟨rfl, h1, h2, h3⟩
          have HKf := Aside0.mk (HK4.out.reader hg hgs h1 h2 h3 (fun x hx => by rwa [failS_l] at hx))
          clear h1 h2 h3
          go_wp2_with fail
          refine (reader_take_calls w0 _ g _ HKf.out.rd HKf.out.bel).mono ?_
          rintro e wt ⟨rfl, h1, h2, h3⟩
          have HKt := Aside0.mk (HKf.out.reader hg hgs h1 h2 h3 (takeS_mem _))
          clear h1 h2 h3
          go_wp2
          go_roundg k1
          case measure => omega
          case rel => exact ⟨_, _, _, _, HT, HKt⟩
        | true =>
          simp only [true_and] at HT
          go_wp2_with fail
          refine (HH.out _).mono ?_
          rintro e w4 ⟨rfl, hb4⟩
          have HK4 := Aside0.mk (HK3.out.below hb4)
          clear hb4 HK3 c1 HH
          obtain ⟨A4, ca4, hv4, hca4, hC4⟩ := strs_C HK4.out.own
          subst hv4
          have c6 : w4.cell? ⟨gs, 6, none⟩ = some (.slice A4 l1.length ca4) := (blk_cell HK4.out.site 6).trans rfl
          have HCL := Aside0.mk (slices_Clone_string_string.calls A4 ca4 l1 l1 w4 hC4 hca4 (by unfold slices_Clone_string_string.f; rw [if_pos (by have := HK4.out.four; omega)]))
          clear hC4
          go_wp2_with fail
          refine HCL.out.mono ?_
          rintro e w5 ⟨v5, rfl, hR5, hb5⟩
          have HO5 := Aside0.mk (R_strs hR5)
          have HK5 := Aside0.mk (HK4.out.below hb5)
          have HB5 := Aside0.mk hb5
          clear hR5 hb5 HCL c6
          have h4' : l1.length ≤ 4 := HK5.out.four
          go_wp2_with (at_builtin; go_loud (refine wpListG_append_lies _ (by rfl) _ _ _ (by rfl) w4.heap.size 9 i0 _ 1 16 Tryz.underlying50 hi0 hz0 hz1 hz2 rfl (by omega) v5 l1.length (pw_strs l1) (by rfl) (HO5.out.alloc _) ⟨w5.heap.size, 0, none⟩ 1 1 [.string x] (by rfl) (by rfl) (World.news_of_block (cs := #[.string x]) (t := 9) (fr := (0, 0)) (heap_alloc_new w5 _)) (by simp [Value.oneCell']) (by omega) (by unfold maxLen; omega) (by omega) (by have := HB5.out.size; simp; omega) (w5.heap.size + 1) (by simp) ?_); intro gg cap w6 hown1 hgrow hat hlt)
          have hown2 : w6.ownsRow w4.heap.size 9 1 (.slice (some ⟨gg, 0, none⟩) (l1.length + 1) cap) (l1 ++ [x]).length (pw_strs (l1 ++ [x])) := by rw [strs_snoc, List.length_append, List.length_singleton]; exact hown1
          have HK6 := Aside0.mk (HK4.out.below ((below_alloc HB5.out _).grown hgrow (by have := HB5.out.size; simp; omega) (fun k hk => own_base HO5.out k hk)))
          obtain ⟨A6, c6, hv6, hc6, hC6⟩ := strs_C hown2
          have hRI := conf_rising.calls A6 c6 (l1 ++ [x]) _ w6 hC6 hc6 (by unfold conf_rising.f; rw [if_pos (by simp; omega)])
          rw [← hv6] at hRI
          have HRI := Aside0.mk hRI
          clear hRI hv6 hc6 hC6 hown1 hown2 hgrow hat hlt HO5 HB5 HK5 HK4 HX
          refine HRI.out.mono ?_
          rintro e w7 ⟨rfl, hd⟩
          have HK7 := Aside0.mk (HK6.out.below hd.below)
          clear hd HRI HK6
          generalize risingS (l1 ++ [x]) = rb at *
          cases rb with
          | false =>
            rw [if_neg (by simp)] at HT
            replace HT := Aside0.mk HT
            go_wp2_with fail
            refine (reader_fail_calls w0 _ g _ 30 HK7.out.rd HK7.out.bel).mono ?_
            rintro e wf ⟨rfl, h1, h2, h3⟩
            have HKf := Aside0.mk (HK7.out.reader hg hgs h1 h2 h3 (fun x hx => by rwa [failS_l] at hx))
            clear h1 h2 h3
            go_wp2_with fail
            refine (reader_take_calls w0 _ g _ HKf.out.rd HKf.out.bel).mono ?_
            rintro e wt ⟨rfl, h1, h2, h3⟩
            have HKt := Aside0.mk (HKf.out.reader hg hgs h1 h2 h3 (takeS_mem _))
            clear h1 h2 h3
            go_wp2
            go_roundg k1
            case measure => omega
            case rel => exact ⟨_, _, _, _, HT, HKt⟩
          | true =>
            rw [if_pos rfl] at HT
            have c7 : w7.cell? ⟨gs, 6, none⟩ = some (.slice A4 l1.length ca4) := (blk_cell HK7.out.site 6).trans rfl
            by_cases t5 : l1.length = 4
            case pos =>
              rw [if_pos t5] at HT
              replace HT := Aside0.mk HT
              have q5 : ((l1.length : Int) == 4) = true := by rw [t5]; rfl
              clear t5
              go_wp2_with fail
              refine (reader_fail_calls w0 _ g _ 32 HK7.out.rd HK7.out.bel).mono ?_
              rintro e wf ⟨rfl, h1, h2, h3⟩
              have HKf := Aside0.mk (HK7.out.reader hg hgs h1 h2 h3 (fun x hx => by rwa [failS_l] at hx))
              clear h1 h2 h3
              go_wp2_with fail
              refine (reader_take_calls w0 _ g _ HKf.out.rd HKf.out.bel).mono ?_
              rintro e wt ⟨rfl, h1, h2, h3⟩
              have HKt := Aside0.mk (HKf.out.reader hg hgs h1 h2 h3 (takeS_mem _))
              clear h1 h2 h3
              go_wp2
              go_roundg k1
              case measure => omega
              case rel => exact ⟨_, _, _, _, HT, HKt⟩
            case neg =>
              rw [if_neg t5] at HT
              replace HT := Aside0.mk HT
              have h4n : l1.length < 4 := by omega
              have q5 : ((l1.length : Int) == 4) = false := beq_eq_false_iff_ne.2 (by omega)
              clear t5
              have z7 : w7.frozen? ⟨gs, 6, none⟩ = false := blk_frozen HK7.out.site 6
              have lt7 : gs < w7.heap.size := blk_lt HK7.out.site
              have HO7 := Aside0.mk HK7.out.own
              have far7 := HK7.out.far hl
              have HFAR := Aside0.mk far7
              have HKn := Aside0.mk (fun o' => HK7.out.below (below_alloc (Below.refl _ _) o'))
              have hsz7 : w.heap.size ≤ w7.heap.size := HK7.out.keep.1
              clear far7
              go_wp2_with (at_builtin; go_loud (refine wpList_append_lies _ (by rfl) _ _ _ (by rfl) w.heap.size 9 i0 _ 1 16 Tryz.underlying50 hi0 hz0 hz1 hz2 rfl (by omega) (.slice A4 l1.length ca4) l1.length (pw_strs l1) (by rfl) (HO7.out.alloc _) ⟨w7.heap.size, 0, none⟩ 1 1 [.string x] (by rfl) (by rfl) (World.news_of_block (cs := #[.string x]) (t := 9) (fr := (0, 0)) (heap_alloc_new w7 _)) (by simp [Value.oneCell']) (by omega) (by unfold maxLen; omega) (by omega) (by simp; omega) (w7.heap.size + 1) (by simp) ?_); intro gg2 cap2 w8 hown8 hgrow8 hat8 hlt8; have c8 : w8.cell? ⟨gs, 6, none⟩ = some (.slice A4 l1.length ca4) := (hgrow8.cell_far _ (by simp; omega) (Ne.symm HFAR.out)).trans (cell_new_ lt7 c7); have z8 : w8.frozen? ⟨gs, 6, none⟩ = false := (hgrow8.frozen_far _ (by simp; omega) (Ne.symm HFAR.out)).trans (frz_new lt7 z7))
              have HK8 := Aside0.mk ((HKn.out _).app hg hgs hl h0 h4n x gg2 cap2 hgrow8 hown8 hw)
              clear hown8 hgrow8 hat8 hlt8 c8 z8
              generalize Value.slice (some ⟨gg2, 0, none⟩) (l1.length + 1) cap2 = v8 at *
              refine (reader_take_calls w0 _ g _ HK8.out.rd HK8.out.bel).mono ?_
              rintro e wt ⟨rfl, h1, h2, h3⟩
              have HKt := Aside0.mk (HK8.out.reader hg hgs h1 h2 h3 (takeS_mem _))
              clear h1 h2 h3
              go_wp2
              go_roundg k1
              case measure => omega
              case rel => exact ⟨_, _, _, _, HT, HKt⟩
end Go.Proofs.YtcoaajkhfgakgaaGreatDoor.Pr
end

section
namespace Go.Proofs.YtcoaajkhfgakgaaGreatDoor.Pr
open Go.RowKit Go.Proofs.YtcoaajkhfgakgaaGreatDoorW.PrintWords Go.Proofs.YtcoaajkhfgakgaaGreatDoorW.PrintLast Go.Proofs.YtcoaajkhfgakgaaGreatDoorW.PrintMore
set_option linter.unusedVariables false
set_option linter.unusedSimpArgs false
structure Sv where
  host : ByteArray
  origin : Int
  mn : Int
  mx : Int
  q : Bool
  kp : Bool
  hs : List ByteArray
def sOrigin : ByteArray := ⟨#[111, 114, 105, 103, 105, 110]⟩
def sTtl : ByteArray := ⟨#[116, 116, 108]⟩
def sKey : ByteArray := ⟨#[107, 101, 121]⟩
def sKeep : ByteArray := ⟨#[107, 101, 101, 112]⟩
def nameS (st : St) (seen : List ByteArray) : St :=
  takeS (if inB (nextS st) seen = true then failS (if nextS st = sOrigin ∨ nextS st = sTtl ∨ nextS st = sKey ∨ nextS st = sKeep then st else failS st 30) 31
    else (if nextS st = sOrigin ∨ nextS st = sTtl ∨ nextS st = sKey ∨ nextS st = sKeep then st else failS st 30))
def keepS (st : St) : St := takeS (if nextS st = ⟨#[111, 110]⟩ ∨ nextS st = ⟨#[111, 102, 102]⟩ then st else failS st 30)
def bodyF (k : Nat) (name : ByteArray) (st : St) (s : Sv) : Option (St × Sv) :=
  if name = sOrigin then some (numberS st 1 9, { s with origin := (numV (nextS st)).1 })
  else if name = sTtl then some (numberS (numberS st 0 2147483648) (numV (nextS st)).1 2147483648, { s with mn := (numV (nextS st)).1, mx := (numV (nextS (numberS st 0 2147483648))).1 })
  else if name = sKey then (keyF k (mustS st ⟨#[112, 97, 116, 104]⟩) false []).map fun r => (r.1, { s with q := r.2.1, hs := r.2.2 })
  else if name = sKeep then some (keepS st, { s with kp := decide (nextS st = ⟨#[111, 110]⟩) })
  else some (st, s)
def ruleF (k : Nat) (st : St) (s : Sv) (seen : List ByteArray) : Option (St × Sv × List ByteArray) :=
  (bodyF k (nextS st) (nameS st seen) s).map fun r => (mustS r.1 ⟨#[59]⟩, r.2, nextS st :: seen)
structure RI (w0 w1 W : World) (g gs bm : Nat) (st : St) (s : Sv) (seen : List ByteArray) (v : Value) : Prop where
  rd : IsRd w0 W g st
  bel : Below w0.heap.size w0 W
  keep : KeepBut w1 W g none
  site : W.heap[gs]? = some (.cells #[.string s.host, .int .i64 s.origin, .int .i64 s.mn, .int .i64 s.mx, .bool s.q, .bool s.kp, v] 52 (0, 0))
  own : W.ownsRow w1.heap.size 9 1 v s.hs.length (pw_strs s.hs)
  far : ∀ k, v.ownBlock = some k → k ≠ gs ∧ k ≠ bm
  set : IsSet W bm seen
  small : ∀ x ∈ st.l, x.s.size ≤ 274877906944
  len : s.hs.length ≤ 4
structure Lie (w0 w1 : World) (g gs bm : Nat) : Prop where
  hg : g < w1.heap.size
  hgs : w1.heap.size ≤ gs
  hbm : w1.heap.size ≤ bm
  hne : gs ≠ bm
  hw : w0.heap.size ≤ w1.heap.size
section
variable {w0 w1 W W' : World} {g gs bm : Nat} {st st' : St} {s : Sv} {seen : List ByteArray} {v : Value}
theorem RI.reader (h : RI w0 w1 W g gs bm st s seen v) (L : Lie w0 w1 g gs bm) (h1 : IsRd w0 W' g st') (h2 : Below w0.heap.size w0 W') (h3 : KeepBut W W' g none) (h4 : ∀ x ∈ st'.l, x ∈ st.l) : RI w0 w1 W' g gs bm st' s seen v := by
  have l1 := L.hg
  have l2 := L.hgs
  have l3 := L.hbm
  refine ⟨h1, h2, keep_then h.keep h3, (h3.2 gs (blk_lt h.site) (by omega) (by simp)).trans h.site, h3.own h.own (fun e => by have := own_base h.own g e; omega) (by rcases hv : v.ownBlock with _ | k <;> simp), h.far,
    h.set.block (h3.2 bm h.set.lt (by omega) (by simp)), fun x hx => h.small x (h4 x hx), h.len⟩
theorem RI.below (h : RI w0 w1 W g gs bm st s seen v) (hb : Below W.heap.size W W') : RI w0 w1 W' g gs bm st s seen v :=
  ⟨h.rd.below hb, below_then h.bel h.bel.size hb, keep_then h.keep (KeepBut.of_below hb g none), (hb.block gs (blk_lt h.site)).trans h.site, pw_own_below h.own hb, h.far, h.set.block (hb.block bm h.set.lt), h.small, h.len⟩
theorem RI.put (h : RI w0 w1 W g gs bm st s seen v) (L : Lie w0 w1 g gs bm) (j : Nat) (u : Value) (s' : Sv) (hs : s'.hs = s.hs)
    (hc : (#[Value.string s.host, .int .i64 s.origin, .int .i64 s.mn, .int .i64 s.mx, .bool s.q, .bool s.kp, v]).setIfInBounds j u = #[Value.string s'.host, .int .i64 s'.origin, .int .i64 s'.mn, .int .i64 s'.mx, .bool s'.q, .bool s'.kp, v]) :
    RI w0 w1 (W.setCell ⟨gs, j, none⟩ u) g gs bm st s' seen v := by
  have l1 := L.hg
  have l2 := L.hgs
  have l3 := L.hbm
  have l4 := L.hne
  have l5 := L.hw
  refine ⟨?_, below_set h.bel (by omega), ?_, blk_put h.site j _ hc, ?_, h.far, h.set.block (Below.heap_setCell _ _ _ bm (Ne.symm l4)), h.small, by rw [hs]; exact h.len⟩
  · obtain ⟨A, c, h1, h2⟩ := h.rd
    exact ⟨A, c, (Below.heap_setCell W _ _ g (by simp only; omega)).trans h1, h2⟩
  · exact ⟨by have := h.keep.1; simpa [World.setCell] using this, fun i hi hn hr => (Below.heap_setCell W _ _ i (by simp only; omega)).trans (h.keep.2 i hi hn hr)⟩
  · rw [hs]
    exact own_setCell h.own (fun e => (h.far gs e.symm).1 rfl) u
theorem RI.named (h : RI w0 w1 W g gs bm st s seen v) (L : Lie w0 w1 g gs bm) (x : ByteArray) (hg : W.grownBy W' (some bm)) (hs : IsSet W' bm (x :: seen)) : RI w0 w1 W' g gs bm st s (x :: seen) v := by
  have l1 := L.hg
  have l2 := L.hgs
  have l3 := L.hbm
  have l4 := L.hne
  have l5 := L.hw
  have hb : ∀ i, i < W.heap.size → i ≠ bm → W'.heap[i]? = W.heap[i]? := fun i hi hn => hg.block i hi (fun e => hn (by injection e))
  refine ⟨?_, h.bel.grown hg h.bel.size (fun k hk => by injection hk with hk; omega), ?_, (hb gs (blk_lt h.site) l4).trans h.site, own_other h.own hg (.inr (fun e => (h.far bm e).2 rfl)), h.far, hs, h.small, h.len⟩
  · obtain ⟨A, c, h1, h2⟩ := h.rd
    exact ⟨A, c, (hb g (blk_lt h1) (by omega)).trans h1, h2⟩
  · exact ⟨Nat.le_trans h.keep.1 hg.size, fun i hi hn hr => (hb i (by have := h.keep.1; omega) (by omega)).trans (h.keep.2 i hi hn hr)⟩
theorem RI.key {q' : Bool} {hs' : List ByteArray} {v' : Value} (h : RI w0 w1 W g gs bm st s seen v) (L : Lie w0 w1 g gs bm) (k : KI w0 W W' g gs s.host s.origin s.mn s.mx s.kp st' q' hs' v') : RI w0 w1 W' g gs bm st' { s with q := q', hs := hs' } seen v' := by
  have l1 := L.hg
  have l2 := L.hgs
  have l3 := L.hbm
  have l4 := L.hne
  have l6 := h.keep.1
  refine ⟨k.rd, k.bel, ⟨Nat.le_trans h.keep.1 k.keep.1, fun i hi hn hr => (k.keep.2 i (by omega) hn (by simp; omega)).trans (h.keep.2 i hi hn hr)⟩, k.site, own_weaken k.own l6, fun b hb => ?_, h.set.block (k.keep.2 bm h.set.lt (by omega) (by simp; omega)), k.small, k.four⟩
  have h1 := own_base k.own b hb
  have h2 := blk_lt h.site
  have h3 := h.set.lt
  omega
end
end Go.Proofs.YtcoaajkhfgakgaaGreatDoor.Pr
end

section
namespace Go.Proofs.YtcoaajkhfgakgaaGreatDoor.Pr
open Go.RowKit Go.Proofs.YtcoaajkhfgakgaaGreatDoorW.PrintWords Go.Proofs.YtcoaajkhfgakgaaGreatDoorW.PrintLast Go.Proofs.YtcoaajkhfgakgaaGreatDoorW.PrintMore
set_option linter.unusedVariables false
set_option linter.unusedSimpArgs false
theorem ne_facts : (sOrigin = sTtl) = False ∧ (sOrigin = sKey) = False ∧ (sOrigin = sKeep) = False ∧ (sTtl = sOrigin) = False ∧ (sTtl = sKey) = False ∧ (sTtl = sKeep) = False ∧ (sKey = sOrigin) = False ∧ (sKey = sTtl) = False ∧ (sKey = sKeep) = False ∧ (sKeep = sOrigin) = False ∧ (sKeep = sTtl) = False ∧ (sKeep = sKey) = False := by
  refine ⟨?_, ?_, ?_, ?_, ?_, ?_, ?_, ?_, ?_, ?_, ?_, ?_⟩ <;> exact eq_false (by decide)
set_option maxRecDepth 100000 in
set_option maxHeartbeats 16000000 in
theorem reader_rule_calls (k : Nat) (w0 w1 w : World) (g gs bm : Nat) (st : St) (s : Sv) (seen : List ByteArray) (v : Value) (st' : St) (s' : Sv) (seen' : List ByteArray)
    (h : RI w0 w1 w g gs bm st s seen v) (L : Lie w0 w1 g gs bm) (hG : GL w0) (hn : seen.length < 274877906944) (hf : ruleF k st s seen = some (st', s', seen')) :
    Calls Tryz.prog 73 #[.pointer (some ⟨g, 0, none⟩), .pointer (some ⟨gs, 0, none⟩), .map (some bm)] w fun e w' => e = .returned (.tuple #[]) ∧ ∃ v', RI w0 w1 w' g gs bm st' s' seen' v' := by
  have hgg : gs ≠ g := by have := L.hg; have := L.hgs; omega
  have h00 : w0.heap.size ≤ gs := by have := L.hw; have := L.hgs; omega
  have hu3 := Tryz.underlying52
  have hx : (nextS st).size ≤ 274877906944 := nextS_small h.small
  have HX := Aside0.mk hx
  have HN := Aside0.mk (reader_next_calls w0 w g st h.rd h.bel)
  obtain ⟨sh, so, sm, sx, sq, sk, sl⟩ := s
  have HI := Aside0.mk h
  have HGL := Aside0.mk hG
  clear h hG hx
  -- what stands behind the name
  unfold ruleF at hf
  cases hb : bodyF k (nextS st) (nameS st seen) ⟨sh, so, sm, sx, sq, sk, sl⟩ with
  | none => rw [hb] at hf; simp at hf
  | some r =>
  rw [hb] at hf
  obtain ⟨str, sr⟩ := r
  simp only [Option.map_some, Option.some.injEq, Prod.mk.injEq] at hf
  obtain ⟨rfl, rfl, rfl⟩ := hf
  have HSE := Aside0.mk (rfl : nameS st seen = nameS st seen)
  unfold nameS at hb
  by_cases t1 : nextS st = sOrigin
  case pos =>
    rw [t1] at hb HN ⊢
    simp only [bodyF, ne_facts, true_or, or_true, if_true, if_false] at hb
    unfold sOrigin at *
    have hlk := HI.out.set.look ⟨#[111, 114, 105, 103, 105, 110]⟩ (by decide)
    generalize inB ⟨#[111, 114, 105, 103, 105, 110]⟩ seen = bs at *
    cases bs with
    | true =>
      simp only [if_true] at hb
      go_enter Tryz.func73, Tryz.ntmps73
      go_wp2_with fail
      refine HN.out.mono ?_
      rintro e w2 ⟨rfl, rfl⟩
      go_wp2_with fail
      refine (reader_fail_calls w0 _ g _ 31 HI.out.rd HI.out.bel).mono ?_
      rintro e wf1 ⟨rfl, h1, h2, h3⟩
      have HI1 := Aside0.mk (HI.out.reader L h1 h2 h3 (fun x hx => by rwa [failS_l] at hx))
      clear h1 h2 h3
      obtain ⟨wm, hmu, hset, hgrow⟩ := HI1.out.set.put ⟨#[111, 114, 105, 103, 105, 110]⟩ (by decide) hn
      have HM := Aside0.mk (HI1.out.named L _ hgrow hset)
      clear hset hgrow hlk
      go_wp2_with fail
      refine (reader_take_calls w0 _ g _ HM.out.rd HM.out.bel).mono ?_
      rintro e wt ⟨rfl, h1, h2, h3⟩
      have HT1 := Aside0.mk (HM.out.reader L h1 h2 h3 (takeS_mem _))
      clear h1 h2 h3
      clear hmu
      generalize takeS _ = stn at hb HT1
      simp only [Option.some.injEq, Prod.mk.injEq] at hb
      obtain ⟨rfl, rfl⟩ := hb
      have HSM := Aside0.mk (nextS_small HT1.out.small)
      have HGn := Aside0.mk (HGL.out.below HT1.out.bel)
      go_wp2_with fail
      refine (reader_number_calls w0 _ g _ 1 9 HT1.out.rd HT1.out.bel HGn.out (by have := HSM.out; omega)).mono ?_
      rintro e wb ⟨rfl, h1, h2, h3⟩
      have HB0a := Aside0.mk (HT1.out.reader L h1 h2 h3 (numberS_mem _ _ _))
      have cc : wb.cell? ⟨gs, 1, none⟩ = some (.int .i64 so) := (blk_cell HB0a.out.site 1).trans rfl
      have zz : wb.frozen? ⟨gs, 1, none⟩ = false := blk_frozen HB0a.out.site 1
      clear h1 h2 h3 HSM HGn
      have HB1 := Aside0.mk (HB0a.out.put L 1 (.int .i64 (numV (nextS stn)).1) ⟨sh, (numV (nextS stn)).1, sm, sx, sq, sk, sl⟩ rfl rfl)
      go_wp2_with fail
      refine (reader_must_calls w0 _ g _ ⟨#[59]⟩ HB1.out.rd HB1.out.bel).mono ?_
      rintro e wz ⟨rfl, h1, h2, h3⟩
      have HZ := Aside0.mk (HB1.out.reader L h1 h2 h3 (mustS_mem _ _))
      clear h1 h2 h3
      go_wp2
      go_end0
      exact ⟨rfl, _, HZ.out⟩
    | false =>
      simp only [Bool.false_eq_true, if_false] at hb
      obtain ⟨wm, hmu, hset, hgrow⟩ := HI.out.set.put ⟨#[111, 114, 105, 103, 105, 110]⟩ (by decide) hn
      have HM := Aside0.mk (HI.out.named L _ hgrow hset)
      clear hset hgrow
      go_enter Tryz.func73, Tryz.ntmps73
      go_wp2_with fail
      refine HN.out.mono ?_
      rintro e w2 ⟨rfl, rfl⟩
      go_wp2_with fail
      refine (reader_take_calls w0 _ g _ HM.out.rd HM.out.bel).mono ?_
      rintro e wt ⟨rfl, h1, h2, h3⟩
      have HT1 := Aside0.mk (HM.out.reader L h1 h2 h3 (takeS_mem _))
      clear h1 h2 h3
      clear hmu
      generalize takeS _ = stn at hb HT1
      simp only [Option.some.injEq, Prod.mk.injEq] at hb
      obtain ⟨rfl, rfl⟩ := hb
      have HSM := Aside0.mk (nextS_small HT1.out.small)
      have HGn := Aside0.mk (HGL.out.below HT1.out.bel)
      go_wp2_with fail
      refine (reader_number_calls w0 _ g _ 1 9 HT1.out.rd HT1.out.bel HGn.out (by have := HSM.out; omega)).mono ?_
      rintro e wb ⟨rfl, h1, h2, h3⟩
      have HB0a := Aside0.mk (HT1.out.reader L h1 h2 h3 (numberS_mem _ _ _))
      have cc : wb.cell? ⟨gs, 1, none⟩ = some (.int .i64 so) := (blk_cell HB0a.out.site 1).trans rfl
      have zz : wb.frozen? ⟨gs, 1, none⟩ = false := blk_frozen HB0a.out.site 1
      clear h1 h2 h3 HSM HGn
      have HB1 := Aside0.mk (HB0a.out.put L 1 (.int .i64 (numV (nextS stn)).1) ⟨sh, (numV (nextS stn)).1, sm, sx, sq, sk, sl⟩ rfl rfl)
      go_wp2_with fail
      refine (reader_must_calls w0 _ g _ ⟨#[59]⟩ HB1.out.rd HB1.out.bel).mono ?_
      rintro e wz ⟨rfl, h1, h2, h3⟩
      have HZ := Aside0.mk (HB1.out.reader L h1 h2 h3 (mustS_mem _ _))
      clear h1 h2 h3
      go_wp2
      go_end0
      exact ⟨rfl, _, HZ.out⟩
  case neg =>
  by_cases t2 : nextS st = sTtl
  case pos =>
    rw [t2] at hb HN ⊢
    simp only [bodyF, ne_facts, true_or, or_true, if_true, if_false] at hb
    unfold sTtl at *
    have hlk := HI.out.set.look ⟨#[116, 116, 108]⟩ (by decide)
    generalize inB ⟨#[116, 116, 108]⟩ seen = bs at *
    cases bs with
    | true =>
      simp only [if_true] at hb
      go_enter Tryz.func73, Tryz.ntmps73
      go_wp2_with fail
      refine HN.out.mono ?_
      rintro e w2 ⟨rfl, rfl⟩
      go_wp2_with fail
      refine (reader_fail_calls w0 _ g _ 31 HI.out.rd HI.out.bel).mono ?_
      rintro e wf1 ⟨rfl, h1, h2, h3⟩
      have HI1 := Aside0.mk (HI.out.reader L h1 h2 h3 (fun x hx => by rwa [failS_l] at hx))
      clear h1 h2 h3
      obtain ⟨wm, hmu, hset, hgrow⟩ := HI1.out.set.put ⟨#[116, 116, 108]⟩ (by decide) hn
      have HM := Aside0.mk (HI1.out.named L _ hgrow hset)
      clear hset hgrow hlk
      go_wp2_with fail
      refine (reader_take_calls w0 _ g _ HM.out.rd HM.out.bel).mono ?_
      rintro e wt ⟨rfl, h1, h2, h3⟩
      have HT1 := Aside0.mk (HM.out.reader L h1 h2 h3 (takeS_mem _))
      clear h1 h2 h3
      clear hmu
      generalize takeS _ = stn at hb HT1
      simp only [Option.some.injEq, Prod.mk.injEq] at hb
      obtain ⟨rfl, rfl⟩ := hb
      have HSM := Aside0.mk (nextS_small HT1.out.small)
      have HGn := Aside0.mk (HGL.out.below HT1.out.bel)
      go_wp2_with fail
      refine (reader_number_calls w0 _ g _ 0 2147483648 HT1.out.rd HT1.out.bel HGn.out (by have := HSM.out; omega)).mono ?_
      rintro e wb ⟨rfl, h1, h2, h3⟩
      have HB0a := Aside0.mk (HT1.out.reader L h1 h2 h3 (numberS_mem _ _ _))
      have cc : wb.cell? ⟨gs, 2, none⟩ = some (.int .i64 sm) := (blk_cell HB0a.out.site 2).trans rfl
      have zz : wb.frozen? ⟨gs, 2, none⟩ = false := blk_frozen HB0a.out.site 2
      clear h1 h2 h3 HSM HGn
      have HB1 := Aside0.mk (HB0a.out.put L 2 (.int .i64 (numV (nextS stn)).1) ⟨sh, so, (numV (nextS stn)).1, sx, sq, sk, sl⟩ rfl rfl)
      have c2 : (wb.setCell ⟨gs, 2, none⟩ (.int .i64 (numV (nextS stn)).1)).cell? ⟨gs, 2, none⟩ = some (.int .i64 (numV (nextS stn)).1) := (blk_cell HB1.out.site 2).trans rfl
      have HSM := Aside0.mk (nextS_small HB1.out.small)
      have HGn := Aside0.mk (HGL.out.below HB1.out.bel)
      go_wp2_with fail
      refine (reader_number_calls w0 _ g _ _ 2147483648 HB1.out.rd HB1.out.bel HGn.out (by have := HSM.out; omega)).mono ?_
      rintro e wb2 ⟨rfl, h1, h2, h3⟩
      have HB2 := Aside0.mk (HB1.out.reader L h1 h2 h3 (numberS_mem _ _ _))
      have cc2 : wb2.cell? ⟨gs, 3, none⟩ = some (.int .i64 sx) := (blk_cell HB2.out.site 3).trans rfl
      have zz2 : wb2.frozen? ⟨gs, 3, none⟩ = false := blk_frozen HB2.out.site 3
      clear h1 h2 h3 HSM HGn cc zz c2
      have HB3 := Aside0.mk (HB2.out.put L 3 (.int .i64 (numV (nextS (numberS stn 0 2147483648))).1) ⟨sh, so, (numV (nextS stn)).1, (numV (nextS (numberS stn 0 2147483648))).1, sq, sk, sl⟩ rfl rfl)
      go_wp2_with fail
      refine (reader_must_calls w0 _ g _ ⟨#[59]⟩ HB3.out.rd HB3.out.bel).mono ?_
      rintro e wz ⟨rfl, h1, h2, h3⟩
      have HZ := Aside0.mk (HB3.out.reader L h1 h2 h3 (mustS_mem _ _))
      clear h1 h2 h3
      go_wp2
      go_end0
      exact ⟨rfl, _, HZ.out⟩
    | false =>
      simp only [Bool.false_eq_true, if_false] at hb
      obtain ⟨wm, hmu, hset, hgrow⟩ := HI.out.set.put ⟨#[116, 116, 108]⟩ (by decide) hn
      have HM := Aside0.mk (HI.out.named L _ hgrow hset)
      clear hset hgrow
      go_enter Tryz.func73, Tryz.ntmps73
      go_wp2_with fail
      refine HN.out.mono ?_
      rintro e w2 ⟨rfl, rfl⟩
      go_wp2_with fail
      refine (reader_take_calls w0 _ g _ HM.out.rd HM.out.bel).mono ?_
      rintro e wt ⟨rfl, h1, h2, h3⟩
      have HT1 := Aside0.mk (HM.out.reader L h1 h2 h3 (takeS_mem _))
      clear h1 h2 h3
      clear hmu
      generalize takeS _ = stn at hb HT1
      simp only [Option.some.injEq, Prod.mk.injEq] at hb
      obtain ⟨rfl, rfl⟩ := hb
      have HSM := Aside0.mk (nextS_small HT1.out.small)
      have HGn := Aside0.mk (HGL.out.below HT1.out.bel)
      go_wp2_with fail
      refine (reader_number_calls w0 _ g _ 0 2147483648 HT1.out.rd HT1.out.bel HGn.out (by have := HSM.out; omega)).mono ?_
      rintro e wb ⟨rfl, h1, h2, h3⟩
      have HB0a := Aside0.mk (HT1.out.reader L h1 h2 h3 (numberS_mem _ _ _))
      have cc : wb.cell? ⟨gs, 2, none⟩ = some (.int .i64 sm) := (blk_cell HB0a.out.site 2).trans rfl
      have zz : wb.frozen? ⟨gs, 2, none⟩ = false := blk_frozen HB0a.out.site 2
      clear h1 h2 h3 HSM HGn
      have HB1 := Aside0.mk (HB0a.out.put L 2 (.int .i64 (numV (nextS stn)).1) ⟨sh, so, (numV (nextS stn)).1, sx, sq, sk, sl⟩ rfl rfl)
      have c2 : (wb.setCell ⟨gs, 2, none⟩ (.int .i64 (numV (nextS stn)).1)).cell? ⟨gs, 2, none⟩ = some (.int .i64 (numV (nextS stn)).1) := (blk_cell HB1.out.site 2).trans rfl
      have HSM := Aside0.mk (nextS_small HB1.out.small)
      have HGn := Aside0.mk (HGL.out.below HB1.out.bel)
      go_wp2_with fail
      refine (reader_number_calls w0 _ g _ _ 2147483648 HB1.out.rd HB1.out.bel HGn.out (by have := HSM.out; omega)).mono ?_
      rintro e wb2 ⟨rfl, h1, h2, h3⟩
      have HB2 := Aside0.mk (HB1.out.reader L h1 h2 h3 (numberS_mem _ _ _))
      have cc2 : wb2.cell? ⟨gs, 3, none⟩ = some (.int .i64 sx) := (blk_cell HB2.out.site 3).trans rfl
      have zz2 : wb2.frozen? ⟨gs, 3, none⟩ = false := blk_frozen HB2.out.site 3
      clear h1 h2 h3 HSM HGn cc zz c2
      have HB3 := Aside0.mk (HB2.out.put L 3 (.int .i64 (numV (nextS (numberS stn 0 2147483648))).1) ⟨sh, so, (numV (nextS stn)).1, (numV (nextS (numberS stn 0 2147483648))).1, sq, sk, sl⟩ rfl rfl)
      go_wp2_with fail
      refine (reader_must_calls w0 _ g _ ⟨#[59]⟩ HB3.out.rd HB3.out.bel).mono ?_
      rintro e wz ⟨rfl, h1, h2, h3⟩
      have HZ := Aside0.mk (HB3.out.reader L h1 h2 h3 (mustS_mem _ _))
      clear h1 h2 h3
      go_wp2
      go_end0
      exact ⟨rfl, _, HZ.out⟩
  case neg =>
  by_cases t3 : nextS st = sKey
  case pos =>
    rw [t3] at hb HN ⊢
    simp only [bodyF, ne_facts, true_or, or_true, if_true, if_false] at hb
    unfold sKey at *
    have hlk := HI.out.set.look ⟨#[107, 101, 121]⟩ (by decide)
    generalize inB ⟨#[107, 101, 121]⟩ seen = bs at *
    cases bs with
    | true =>
      simp only [if_true] at hb
      go_enter Tryz.func73, Tryz.ntmps73
      go_wp2_with fail
      refine HN.out.mono ?_
      rintro e w2 ⟨rfl, rfl⟩
      go_wp2_with fail
      refine (reader_fail_calls w0 _ g _ 31 HI.out.rd HI.out.bel).mono ?_
      rintro e wf1 ⟨rfl, h1, h2, h3⟩
      have HI1 := Aside0.mk (HI.out.reader L h1 h2 h3 (fun x hx => by rwa [failS_l] at hx))
      clear h1 h2 h3
      obtain ⟨wm, hmu, hset, hgrow⟩ := HI1.out.set.put ⟨#[107, 101, 121]⟩ (by decide) hn
      have HM := Aside0.mk (HI1.out.named L _ hgrow hset)
      clear hset hgrow hlk
      go_wp2_with fail
      refine (reader_take_calls w0 _ g _ HM.out.rd HM.out.bel).mono ?_
      rintro e wt ⟨rfl, h1, h2, h3⟩
      have HT1 := Aside0.mk (HM.out.reader L h1 h2 h3 (takeS_mem _))
      clear h1 h2 h3
      clear hmu
      generalize takeS _ = stn at hb HT1
      cases hk : keyF k (mustS stn ⟨#[112, 97, 116, 104]⟩) false [] with
      | none => rw [hk] at hb; simp at hb
      | some kr =>
      rw [hk] at hb
      obtain ⟨k1, kq, khs⟩ := kr
      simp only [Option.map_some, Option.some.injEq, Prod.mk.injEq] at hb
      obtain ⟨rfl, rfl⟩ := hb
      have HKF := Aside0.mk hk
      clear hk
      go_wp2_with fail
      refine (reader_key_calls k w0 _ g gs sh so sm sx sq sk v stn _ kq khs HT1.out.rd HT1.out.bel HT1.out.site hgg h00 HT1.out.small HKF.out).mono ?_
      rintro e wb ⟨rfl, vk, hki⟩
      have HB1 := Aside0.mk (HT1.out.key L hki)
      clear hki
      go_wp2_with fail
      refine (reader_must_calls w0 _ g _ ⟨#[59]⟩ HB1.out.rd HB1.out.bel).mono ?_
      rintro e wz ⟨rfl, h1, h2, h3⟩
      have HZ := Aside0.mk (HB1.out.reader L h1 h2 h3 (mustS_mem _ _))
      clear h1 h2 h3
      go_wp2
      go_end0
      exact ⟨rfl, _, HZ.out⟩
    | false =>
      simp only [Bool.false_eq_true, if_false] at hb
      obtain ⟨wm, hmu, hset, hgrow⟩ := HI.out.set.put ⟨#[107, 101, 121]⟩ (by decide) hn
      have HM := Aside0.mk (HI.out.named L _ hgrow hset)
      clear hset hgrow
      go_enter Tryz.func73, Tryz.ntmps73
      go_wp2_with fail
      refine HN.out.mono ?_
      rintro e w2 ⟨rfl, rfl⟩
      go_wp2_with fail
      refine (reader_take_calls w0 _ g _ HM.out.rd HM.out.bel).mono ?_
      rintro e wt ⟨rfl, h1, h2, h3⟩
      have HT1 := Aside0.mk (HM.out.reader L h1 h2 h3 (takeS_mem _))
      clear h1 h2 h3
      clear hmu
      generalize takeS _ = stn at hb HT1
      cases hk : keyF k (mustS stn ⟨#[112, 97, 116, 104]⟩) false [] with
      | none => rw [hk] at hb; simp at hb
      | some kr =>
      rw [hk] at hb
      obtain ⟨k1, kq, khs⟩ := kr
      simp only [Option.map_some, Option.some.injEq, Prod.mk.injEq] at hb
      obtain ⟨rfl, rfl⟩ := hb
      have HKF := Aside0.mk hk
      clear hk
      go_wp2_with fail
      refine (reader_key_calls k w0 _ g gs sh so sm sx sq sk v stn _ kq khs HT1.out.rd HT1.out.bel HT1.out.site hgg h00 HT1.out.small HKF.out).mono ?_
      rintro e wb ⟨rfl, vk, hki⟩
      have HB1 := Aside0.mk (HT1.out.key L hki)
      clear hki
      go_wp2_with fail
      refine (reader_must_calls w0 _ g _ ⟨#[59]⟩ HB1.out.rd HB1.out.bel).mono ?_
      rintro e wz ⟨rfl, h1, h2, h3⟩
      have HZ := Aside0.mk (HB1.out.reader L h1 h2 h3 (mustS_mem _ _))
      clear h1 h2 h3
      go_wp2
      go_end0
      exact ⟨rfl, _, HZ.out⟩
  case neg =>
  by_cases t4 : nextS st = sKeep
  case pos =>
    rw [t4] at hb HN ⊢
    simp only [bodyF, ne_facts, true_or, or_true, if_true, if_false] at hb
    unfold sKeep at *
    have hlk := HI.out.set.look ⟨#[107, 101, 101, 112]⟩ (by decide)
    generalize inB ⟨#[107, 101, 101, 112]⟩ seen = bs at *
    cases bs with
    | true =>
      simp only [if_true] at hb
      go_enter Tryz.func73, Tryz.ntmps73
      go_wp2_with fail
      refine HN.out.mono ?_
      rintro e w2 ⟨rfl, rfl⟩
      go_wp2_with fail
      refine (reader_fail_calls w0 _ g _ 31 HI.out.rd HI.out.bel).mono ?_
      rintro e wf1 ⟨rfl, h1, h2, h3⟩
      have HI1 := Aside0.mk (HI.out.reader L h1 h2 h3 (fun x hx => by rwa [failS_l] at hx))
      clear h1 h2 h3
      obtain ⟨wm, hmu, hset, hgrow⟩ := HI1.out.set.put ⟨#[107, 101, 101, 112]⟩ (by decide) hn
      have HM := Aside0.mk (HI1.out.named L _ hgrow hset)
      clear hset hgrow hlk
      go_wp2_with fail
      refine (reader_take_calls w0 _ g _ HM.out.rd HM.out.bel).mono ?_
      rintro e wt ⟨rfl, h1, h2, h3⟩
      have HT1 := Aside0.mk (HM.out.reader L h1 h2 h3 (takeS_mem _))
      clear h1 h2 h3
      clear hmu
      generalize takeS _ = stn at hb HT1
      simp only [Option.some.injEq, Prod.mk.injEq] at hb
      obtain ⟨rfl, rfl⟩ := hb
      have HNk := Aside0.mk (reader_next_calls w0 _ g stn HT1.out.rd HT1.out.bel)
      have cc := ((blk_cell HT1.out.site 5).trans rfl : _ = some (Value.bool sk))
      have zz := (blk_frozen HT1.out.site 5 : _ = false)
      have HE : Aside0 (keepS stn = takeS (if nextS stn = ⟨#[111, 110]⟩ ∨ nextS stn = ⟨#[111, 102, 102]⟩ then stn else failS stn 30)) := ⟨rfl⟩
      have HD : Aside0 (decide (nextS stn = ⟨#[111, 110]⟩) = decide (nextS stn = ⟨#[111, 110]⟩)) := ⟨rfl⟩
      by_cases y1 : nextS stn = ⟨#[111, 110]⟩
      case pos =>
        have HB1 := Aside0.mk (HT1.out.put L 5 (.bool true) ⟨sh, so, sm, sx, sq, true, sl⟩ rfl rfl)
        have c5 := ((blk_cell HB1.out.site 5).trans rfl : _ = some (Value.bool true))
        rw [y1] at HNk
        have HE2 : Aside0 (keepS stn = takeS stn) := ⟨by rw [HE.out, if_pos (.inl y1)]⟩
        have HD2 : Aside0 (decide (nextS stn = ⟨#[111, 110]⟩) = true) := ⟨decide_eq_true y1⟩
        clear y1 HE HD
        go_wp2_with fail
        refine HNk.out.mono ?_
        rintro e w2 ⟨rfl, rfl⟩
        go_wp2_with fail
        refine (reader_take_calls w0 _ g _ HB1.out.rd HB1.out.bel).mono ?_
        rintro e wt2 ⟨rfl, h1, h2, h3⟩
        have HB2 := Aside0.mk (HB1.out.reader L h1 h2 h3 (takeS_mem _))
        clear h1 h2 h3
        go_wp2_with fail
        refine (reader_must_calls w0 _ g _ ⟨#[59]⟩ HB2.out.rd HB2.out.bel).mono ?_
        rintro e wz ⟨rfl, h1, h2, h3⟩
        have HZ := Aside0.mk (HB2.out.reader L h1 h2 h3 (mustS_mem _ _))
        clear h1 h2 h3
        go_wp2
        go_end0
        exact ⟨rfl, _, by rw [HE2.out, HD2.out]; exact HZ.out⟩
      case neg =>
      have HB1 := Aside0.mk (HT1.out.put L 5 (.bool false) ⟨sh, so, sm, sx, sq, false, sl⟩ rfl rfl)
      have c5 := ((blk_cell HB1.out.site 5).trans rfl : _ = some (Value.bool false))
      have HNk2 := Aside0.mk (reader_next_calls w0 _ g stn HB1.out.rd HB1.out.bel)
      have qy := lit_ne y1
      by_cases y2 : nextS stn = ⟨#[111, 102, 102]⟩
      case pos =>
        rw [y2] at HNk HNk2
        have HE2 : Aside0 (keepS stn = takeS stn) := ⟨by rw [HE.out, if_pos (.inr y2)]⟩
        have HD2 : Aside0 (decide (nextS stn = ⟨#[111, 110]⟩) = false) := ⟨decide_eq_false y1⟩
        clear y1 y2 qy HE HD
        go_wp2_with fail
        refine HNk.out.mono ?_
        rintro e w2 ⟨rfl, rfl⟩
        go_wp2_with fail
        refine HNk2.out.mono ?_
        rintro e w2 ⟨rfl, rfl⟩
        go_wp2_with fail
        refine (reader_take_calls w0 _ g _ HB1.out.rd HB1.out.bel).mono ?_
        rintro e wt2 ⟨rfl, h1, h2, h3⟩
        have HB2 := Aside0.mk (HB1.out.reader L h1 h2 h3 (takeS_mem _))
        clear h1 h2 h3
        go_wp2_with fail
        refine (reader_must_calls w0 _ g _ ⟨#[59]⟩ HB2.out.rd HB2.out.bel).mono ?_
        rintro e wz ⟨rfl, h1, h2, h3⟩
        have HZ := Aside0.mk (HB2.out.reader L h1 h2 h3 (mustS_mem _ _))
        clear h1 h2 h3
        go_wp2
        go_end0
        exact ⟨rfl, _, by rw [HE2.out, HD2.out]; exact HZ.out⟩
      case neg =>
      have qy2 := lit_ne y2
      have HE2 : Aside0 (keepS stn = takeS (failS stn 30)) := ⟨by rw [HE.out, if_neg (fun h => h.elim y1 y2)]⟩
      have HD2 : Aside0 (decide (nextS stn = ⟨#[111, 110]⟩) = false) := ⟨decide_eq_false y1⟩
      clear y1 y2 HE HD
      go_wp2_with fail
      refine HNk.out.mono ?_
      rintro e w2 ⟨rfl, rfl⟩
      go_wp2_with fail
      refine HNk2.out.mono ?_
      rintro e w2 ⟨rfl, rfl⟩
      go_wp2_with fail
      refine (reader_fail_calls w0 _ g _ 30 HB1.out.rd HB1.out.bel).mono ?_
      rintro e wf2 ⟨rfl, h1, h2, h3⟩
      have HB2 := Aside0.mk (HB1.out.reader L h1 h2 h3 (fun x hx => by rwa [failS_l] at hx))
      clear h1 h2 h3
      go_wp2_with fail
      refine (reader_take_calls w0 _ g _ HB2.out.rd HB2.out.bel).mono ?_
      rintro e wt2 ⟨rfl, h1, h2, h3⟩
      have HB3 := Aside0.mk (HB2.out.reader L h1 h2 h3 (takeS_mem _))
      clear h1 h2 h3
      go_wp2_with fail
      refine (reader_must_calls w0 _ g _ ⟨#[59]⟩ HB3.out.rd HB3.out.bel).mono ?_
      rintro e wz ⟨rfl, h1, h2, h3⟩
      have HZ := Aside0.mk (HB3.out.reader L h1 h2 h3 (mustS_mem _ _))
      clear h1 h2 h3
      go_wp2
      go_end0
      exact ⟨rfl, _, by rw [HE2.out, HD2.out]; exact HZ.out⟩
    | false =>
      simp only [Bool.false_eq_true, if_false] at hb
      obtain ⟨wm, hmu, hset, hgrow⟩ := HI.out.set.put ⟨#[107, 101, 101, 112]⟩ (by decide) hn
      have HM := Aside0.mk (HI.out.named L _ hgrow hset)
      clear hset hgrow
      go_enter Tryz.func73, Tryz.ntmps73
      go_wp2_with fail
      refine HN.out.mono ?_
      rintro e w2 ⟨rfl, rfl⟩
      go_wp2_with fail
      refine (reader_take_calls w0 _ g _ HM.out.rd HM.out.bel).mono ?_
      rintro e wt ⟨rfl, h1, h2, h3⟩
      have HT1 := Aside0.mk (HM.out.reader L h1 h2 h3 (takeS_mem _))
      clear h1 h2 h3
      clear hmu
      generalize takeS _ = stn at hb HT1
      simp only [Option.some.injEq, Prod.mk.injEq] at hb
      obtain ⟨rfl, rfl⟩ := hb
      have HNk := Aside0.mk (reader_next_calls w0 _ g stn HT1.out.rd HT1.out.bel)
      have cc := ((blk_cell HT1.out.site 5).trans rfl : _ = some (Value.bool sk))
      have zz := (blk_frozen HT1.out.site 5 : _ = false)
      have HE : Aside0 (keepS stn = takeS (if nextS stn = ⟨#[111, 110]⟩ ∨ nextS stn = ⟨#[111, 102, 102]⟩ then stn else failS stn 30)) := ⟨rfl⟩
      have HD : Aside0 (decide (nextS stn = ⟨#[111, 110]⟩) = decide (nextS stn = ⟨#[111, 110]⟩)) := ⟨rfl⟩
      by_cases y1 : nextS stn = ⟨#[111, 110]⟩
      case pos =>
        have HB1 := Aside0.mk (HT1.out.put L 5 (.bool true) ⟨sh, so, sm, sx, sq, true, sl⟩ rfl rfl)
        have c5 := ((blk_cell HB1.out.site 5).trans rfl : _ = some (Value.bool true))
        rw [y1] at HNk
        have HE2 : Aside0 (keepS stn = takeS stn) := ⟨by rw [HE.out, if_pos (.inl y1)]⟩
        have HD2 : Aside0 (decide (nextS stn = ⟨#[111, 110]⟩) = true) := ⟨decide_eq_true y1⟩
        clear y1 HE HD
        go_wp2_with fail
        refine HNk.out.mono ?_
        rintro e w2 ⟨rfl, rfl⟩
        go_wp2_with fail
        refine (reader_take_calls w0 _ g _ HB1.out.rd HB1.out.bel).mono ?_
        rintro e wt2 ⟨rfl, h1, h2, h3⟩
        have HB2 := Aside0.mk (HB1.out.reader L h1 h2 h3 (takeS_mem _))
        clear h1 h2 h3
        go_wp2_with fail
        refine (reader_must_calls w0 _ g _ ⟨#[59]⟩ HB2.out.rd HB2.out.bel).mono ?_
        rintro e wz ⟨rfl, h1, h2, h3⟩
        have HZ := Aside0.mk (HB2.out.reader L h1 h2 h3 (mustS_mem _ _))
        clear h1 h2 h3
        go_wp2
        go_end0
        exact ⟨rfl, _, by rw [HE2.out, HD2.out]; exact HZ.out⟩
      case neg =>
      have HB1 := Aside0.mk (HT1.out.put L 5 (.bool false) ⟨sh, so, sm, sx, sq, false, sl⟩ rfl rfl)
      have c5 := ((blk_cell HB1.out.site 5).trans rfl : _ = some (Value.bool false))
      have HNk2 := Aside0.mk (reader_next_calls w0 _ g stn HB1.out.rd HB1.out.bel)
      have qy := lit_ne y1
      by_cases y2 : nextS stn = ⟨#[111, 102, 102]⟩
      case pos =>
        rw [y2] at HNk HNk2
        have HE2 : Aside0 (keepS stn = takeS stn) := ⟨by rw [HE.out, if_pos (.inr y2)]⟩
        have HD2 : Aside0 (decide (nextS stn = ⟨#[111, 110]⟩) = false) := ⟨decide_eq_false y1⟩
        clear y1 y2 qy HE HD
        go_wp2_with fail
        refine HNk.out.mono ?_
        rintro e w2 ⟨rfl, rfl⟩
        go_wp2_with fail
        refine HNk2.out.mono ?_
        rintro e w2 ⟨rfl, rfl⟩
        go_wp2_with fail
        refine (reader_take_calls w0 _ g _ HB1.out.rd HB1.out.bel).mono ?_
        rintro e wt2 ⟨rfl, h1, h2, h3⟩
        have HB2 := Aside0.mk (HB1.out.reader L h1 h2 h3 (takeS_mem _))
        clear h1 h2 h3
        go_wp2_with fail
        refine (reader_must_calls w0 _ g _ ⟨#[59]⟩ HB2.out.rd HB2.out.bel).mono ?_
        rintro e wz ⟨rfl, h1, h2, h3⟩
        have HZ := Aside0.mk (HB2.out.reader L h1 h2 h3 (mustS_mem _ _))
        clear h1 h2 h3
        go_wp2
        go_end0
        exact ⟨rfl, _, by rw [HE2.out, HD2.out]; exact HZ.out⟩
      case neg =>
      have qy2 := lit_ne y2
      have HE2 : Aside0 (keepS stn = takeS (failS stn 30)) := ⟨by rw [HE.out, if_neg (fun h => h.elim y1 y2)]⟩
      have HD2 : Aside0 (decide (nextS stn = ⟨#[111, 110]⟩) = false) := ⟨decide_eq_false y1⟩
      clear y1 y2 HE HD
      go_wp2_with fail
      refine HNk.out.mono ?_
      rintro e w2 ⟨rfl, rfl⟩
      go_wp2_with fail
      refine HNk2.out.mono ?_
      rintro e w2 ⟨rfl, rfl⟩
      go_wp2_with fail
      refine (reader_fail_calls w0 _ g _ 30 HB1.out.rd HB1.out.bel).mono ?_
      rintro e wf2 ⟨rfl, h1, h2, h3⟩
      have HB2 := Aside0.mk (HB1.out.reader L h1 h2 h3 (fun x hx => by rwa [failS_l] at hx))
      clear h1 h2 h3
      go_wp2_with fail
      refine (reader_take_calls w0 _ g _ HB2.out.rd HB2.out.bel).mono ?_
      rintro e wt2 ⟨rfl, h1, h2, h3⟩
      have HB3 := Aside0.mk (HB2.out.reader L h1 h2 h3 (takeS_mem _))
      clear h1 h2 h3
      go_wp2_with fail
      refine (reader_must_calls w0 _ g _ ⟨#[59]⟩ HB3.out.rd HB3.out.bel).mono ?_
      rintro e wz ⟨rfl, h1, h2, h3⟩
      have HZ := Aside0.mk (HB3.out.reader L h1 h2 h3 (mustS_mem _ _))
      clear h1 h2 h3
      go_wp2
      go_end0
      exact ⟨rfl, _, by rw [HE2.out, HD2.out]; exact HZ.out⟩
  case neg =>
  simp only [bodyF, t1, t2, t3, t4, or_self, if_true, if_false] at hb
  have q1 := lit_ne t1
  have q2 := lit_ne t2
  have q3 := lit_ne t3
  have q4 := lit_ne t4
  clear t1 t2 t3 t4
  generalize nextS st = x at *
  go_enter Tryz.func73, Tryz.ntmps73
  go_wp2_with fail
  refine HN.out.mono ?_
  rintro e w2 ⟨rfl, rfl⟩
  go_wp2_with fail
  refine (reader_fail_calls w0 _ g _ 30 HI.out.rd HI.out.bel).mono ?_
  rintro e wf0 ⟨rfl, h1, h2, h3⟩
  have HI0 := Aside0.mk (HI.out.reader L h1 h2 h3 (fun x hx => by rwa [failS_l] at hx))
  clear h1 h2 h3
  have hlk := HI0.out.set.look x (HX.out)
  generalize inB x seen = bs at *
  cases bs with
  | true =>
    simp only [if_true] at hb
    go_wp2_with fail
    refine (reader_fail_calls w0 _ g _ 31 HI0.out.rd HI0.out.bel).mono ?_
    rintro e wf1 ⟨rfl, h1, h2, h3⟩
    have HI1 := Aside0.mk (HI0.out.reader L h1 h2 h3 (fun x hx => by rwa [failS_l] at hx))
    clear h1 h2 h3
    obtain ⟨wm, hmu, hset, hgrow⟩ := HI1.out.set.put x (HX.out) hn
    have HM := Aside0.mk (HI1.out.named L _ hgrow hset)
    clear hset hgrow hlk
    go_wp2_with fail
    refine (reader_take_calls w0 _ g _ HM.out.rd HM.out.bel).mono ?_
    rintro e wt ⟨rfl, h1, h2, h3⟩
    have HT1 := Aside0.mk (HM.out.reader L h1 h2 h3 (takeS_mem _))
    clear h1 h2 h3
    clear hmu
    generalize takeS _ = stn at hb HT1
    simp only [Option.some.injEq, Prod.mk.injEq] at hb
    obtain ⟨rfl, rfl⟩ := hb
    go_wp2_with fail
    refine (reader_must_calls w0 _ g _ ⟨#[59]⟩ HT1.out.rd HT1.out.bel).mono ?_
    rintro e wz ⟨rfl, h1, h2, h3⟩
    have HZ := Aside0.mk (HT1.out.reader L h1 h2 h3 (mustS_mem _ _))
    clear h1 h2 h3
    go_wp2
    go_end0
    exact ⟨rfl, _, HZ.out⟩
  | false =>
    simp only [Bool.false_eq_true, if_false] at hb
    obtain ⟨wm, hmu, hset, hgrow⟩ := HI0.out.set.put x (HX.out) hn
    have HM := Aside0.mk (HI0.out.named L _ hgrow hset)
    clear hset hgrow
    go_wp2_with fail
    refine (reader_take_calls w0 _ g _ HM.out.rd HM.out.bel).mono ?_
    rintro e wt ⟨rfl, h1, h2, h3⟩
    have HT1 := Aside0.mk (HM.out.reader L h1 h2 h3 (takeS_mem _))
    clear h1 h2 h3
    clear hmu
    generalize takeS _ = stn at hb HT1
    simp only [Option.some.injEq, Prod.mk.injEq] at hb
    obtain ⟨rfl, rfl⟩ := hb
    go_wp2_with fail
    refine (reader_must_calls w0 _ g _ ⟨#[59]⟩ HT1.out.rd HT1.out.bel).mono ?_
    rintro e wz ⟨rfl, h1, h2, h3⟩
    have HZ := Aside0.mk (HT1.out.reader L h1 h2 h3 (mustS_mem _ _))
    clear h1 h2 h3
    go_wp2
    go_end0
    exact ⟨rfl, _, HZ.out⟩
end Go.Proofs.YtcoaajkhfgakgaaGreatDoor.Pr
end
