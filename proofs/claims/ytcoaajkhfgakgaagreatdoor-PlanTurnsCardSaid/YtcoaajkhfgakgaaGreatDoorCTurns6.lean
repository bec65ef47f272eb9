/- Part 6 of the proof of Turns: what the program's functions compute, and that it is so. Conditions: as each theorem states. (Packed out of our texts: PF39, XSite, XWordsLoop, XReadSpec, XRead, XAnchorQ0.) -/
import Derived.Test.YtcoaajkhfgakgaaGreatDoorCTurns5
import Derived.Deep.RegionHeld3
import Derived.Deep.RegionWith
import Derived.Deep.RegionLaw
import Derived.BigRegion
import Derived.Deep.DrawnRows
import Derived.IntWalk
section
namespace Go.Proofs.YtcoaajkhfgakgaaGreatDoor.Pr
open Go.RowKit Go.Proofs.YtcoaajkhfgakgaaGreatDoorW.PrintWords Go.Proofs.YtcoaajkhfgakgaaGreatDoorW.PrintLast Go.Proofs.YtcoaajkhfgakgaaGreatDoorW.PrintMore
attribute [local go_sem] max2_int min2_int max_two min_two max_three min_three max_four min_four   -- for this text's walks alone
set_option linter.unusedVariables false
set_option linter.unusedSimpArgs false
def plan_First.f  : Option (Int × (List (S70))) := some (0, ([] : List (S70)))
set_option maxHeartbeats 8000000 in
set_option maxRecDepth 100000 in
theorem plan_First.calls  (r1 : Int) (r2 : List (S70)) (w : World) (h : plan_First.f  = some (r1, r2)) :
    Calls Tryz.prog 39 #[] w fun e w' => ∃ v1_ : Value, e = .returned (.agg #[.int .i64 r1, v1_]) ∧ Kd.S k70 70 w' w.heap.size (fun _ => True) v1_ r2 ∧ Below w.heap.size w w' := by
  have hu59 := Tryz.underlying59
  have HB := Aside0.mk (Below.refl w.heap.size w)
  have H : (some (0, ([] : List (S70)))) = some (r1, r2) := h
  clear h
  simp only [Option.some.injEq, Prod.mk.injEq] at H
  obtain ⟨rfl, rfl⟩ := H
  go_enter Tryz.func39, Tryz.ntmps39
  go_wp2_with (first | ((with_reducible refine gate_dst (N := 0) rfl ?_); refine box_event ?hg (N := 0) ?hd (cs := #[.int .i64 0, .slice none 0 0]) (t := 59) ?hr ?_; (case hd => rfl); (case hg => rfl); (case hr => first | (go_simp; done) | (go_simp; rfl)); intro gb164 hg w1 hbox hb; have n0_ := Aside0.mk (below_step (by repeat (first | (with_reducible first | exact HB.out | apply below_alloc | apply pw_below_drewN | apply below_drew1) | exact HB.out)) hb); have n1_ := Aside0.mk (hbox); have n2_ := Aside0.mk ((by rw [hg]; exact (below_size (by repeat (first | (with_reducible first | exact HB.out | apply below_alloc | apply pw_below_drewN | apply below_drew1) | exact HB.out))) : w.heap.size ≤ gb164)); have n3_ := Aside0.mk ((by rw [hg]; exact (below_size (by repeat (first | (with_reducible first | exact HB.out | apply below_alloc | apply pw_below_drewN | apply below_drew1) | exact HB.out))) : w.heap.size ≤ gb164)); clear HB; have HB := n0_; have BK164 := n1_; have GW164 := n2_; have GE164 := n3_; clear n0_ n1_ n2_ n3_; clear hb hbox hg; have hcz2_0 : w1.cell? ⟨gb164, 0, none⟩ = some (.int .i64 0) := (blk_cell BK164.out 0).trans rfl; have hcz2_1 : w1.cell? ⟨gb164, 1, none⟩ = some (.slice none 0 0) := (blk_cell BK164.out 1).trans rfl; have hfz2_0 := blk_frozen BK164.out 0; have hfz2_1 := blk_frozen BK164.out 1))
  refine bodyPost_ret (results_cell_row rfl _ _ gb164 59 #[.int .i64 0, .slice none 0 0] (0, 0) _ rfl (by (with_reducible repeat (first | refine blk_drewN ?_ _ | refine blk_drew ?_ | refine blk_alloc ?_ _)); refine blk_put (cs := #[.int .i64 0, .slice none 0 0]) ?_ 1 _ rfl; (with_reducible repeat (first | refine blk_drewN ?_ _ | refine blk_drew ?_ | refine blk_alloc ?_ _)); refine blk_put (cs := #[.int .i64 0, .slice none 0 0]) ?_ 0 _ rfl; (with_reducible repeat (first | refine blk_drewN ?_ _ | refine blk_drew ?_ | refine blk_alloc ?_ _)); exact BK164.out) Tryz.underlying59 rfl (by kernel_rfl)) rfl ?_
  exact ⟨_, by first | rfl | (simp [errW_none, errW_some] <;> rfl) | (simp [*, errW_none, errW_some] <;> rfl), by first | exact Kd.S_nil _ _ _ _ _ | exact Kd.N_nil _ _ _ _ _ | exact Kd.V_nil _ _ _ _ _ | exact Kd.Q_nil _ _ _ _ _ | exact Kd.R_nil _ _ _ _ _, by repeat (first | (with_reducible first | exact HB.out | apply below_alloc | apply pw_below_drewN | apply below_drew1 | refine below_set ?_ GE164.out) | exact HB.out)⟩
end Go.Proofs.YtcoaajkhfgakgaaGreatDoor.Pr
end

section
namespace Go.Proofs.YtcoaajkhfgakgaaGreatDoor.Pr
open Go.RowKit Go.Proofs.YtcoaajkhfgakgaaGreatDoorW.PrintWords Go.Proofs.YtcoaajkhfgakgaaGreatDoorW.PrintLast Go.Proofs.YtcoaajkhfgakgaaGreatDoorW.PrintMore
set_option linter.unusedVariables false
set_option linter.unusedSimpArgs false
structure TI (w0 w1 W : World) (g gs : Nat) (st : St) (host : ByteArray) : Prop where
  rd : IsRd w0 W g st
  bel : Below w0.heap.size w0 W
  keep : KeepBut w1 W g none
  bx : W.heap[gs]? = some (.cells #[.string host, .int .i64 1, .int .i64 0, .int .i64 3600, .bool true, .bool true, .slice none 0 0] 52 (0, 0))
  small : ∀ x ∈ st.l, x.s.size ≤ 274877906944
section
variable {w0 w1 W W' : World} {g gs gc : Nat} {st st' : St} {host : ByteArray} {sites : List S52} {v : Value}
theorem TI.reader (h : TI w0 w1 W g gs st host) (hgs : gs ≠ g) (h1 : IsRd w0 W' g st') (h2 : Below w0.heap.size w0 W') (h3 : KeepBut W W' g none) (h4 : ∀ x ∈ st'.l, x ∈ st.l) : TI w0 w1 W' g gs st' host :=
  ⟨h1, h2, keep_then h.keep h3, (h3.2 gs (blk_lt h.bx) hgs (by simp)).trans h.bx, fun x hx => h.small x (h4 x hx)⟩
theorem TI.below (h : TI w0 w1 W g gs st host) (hb : Below W.heap.size W W') : TI w0 w1 W' g gs st host :=
  ⟨h.rd.below hb, below_then h.bel h.bel.size hb, keep_then h.keep (KeepBut.of_below hb g none), (hb.block gs (blk_lt h.bx)).trans h.bx, h.small⟩
theorem SI.later (h : SI w0 W g gc st sites v) (hne : gc ≠ g) (hk : KeepBut W W' g none) : W'.heap[gc]? = some (.cells #[v] 24 (0, 0)) ∧ Kd.R k52 52 W' w0.heap.size (fun k => k ≠ g ∧ k ≠ gc) v sites :=
  ⟨(hk.2 gc (blk_lt h.box) hne (by simp)).trans h.box, Kd.R_keep h.own hk (fun k hk => hk.1)⟩
theorem SI.app {w0 w1 W W' : World} {g gs gc bm : Nat} {st : St} {s : Sv} {seen : List ByteArray} {sites : List S52} {v v1 v' : Value} {inner : List Value}
    (hR : RI w0 w1 W g gs bm st s seen v1) (L : Lie w0 w1 g gs bm) (hne : gc ≠ g) (hgc : gc < w1.heap.size) (hg0 : w0.heap.size ≤ gc) (hbox : W.heap[gc]? = some (.cells #[v] 24 (0, 0)))
    (h0 : ∀ k, v.ownBlock = some k → k ≠ g ∧ k ≠ gc) (hbase : ∀ k, v.ownBlock = some k → w0.heap.size ≤ k) (hlt : ∀ k, v.ownBlock = some k → k < w1.heap.size)
    (hreps : Reps (k52.M W w0.heap.size (fun k => (k ≠ g ∧ k ≠ gc) ∧ some k ≠ v.ownBlock)) k52.sz sites inner) (hh : ∀ x ∈ sites, x.f6.length ≤ 4) (hgrow : W.grownBy W' v.ownBlock)
    (hown : W'.ownsRow w0.heap.size 52 7 v' (sites.length + 1) (inner ++ [.string s.host, .int .i64 s.origin, .int .i64 s.mn, .int .i64 s.mx, .bool s.q, .bool s.kp, v1]))
    (hat : v'.ownBlock = v.ownBlock ∨ ∃ b, v'.ownBlock = some b ∧ W.heap.size ≤ b) : SI w0 (W'.setCell ⟨gc, 0, none⟩ v') g gc st (sites ++ [mkSite s]) v' := by
  have l1 := L.hg
  have l5 := L.hw
  have l6 := hR.keep.1
  have hog : some g ≠ v.ownBlock := fun e => (h0 g e.symm).1 rfl
  have hogc : some gc ≠ v.ownBlock := fun e => (h0 gc e.symm).2 rfl
  have hp : k52.M W w0.heap.size (fun k => v1.ownBlock = some k) (mkSite s) [.string s.host, .int .i64 s.origin, .int .i64 s.mn, .int .i64 s.mx, .bool s.q, .bool s.kp, v1] :=
    k52_mkM W w0.heap.size (fun k => v1.ownBlock = some k) (mkSite s) (strs_R (own_weaken hR.own l5))
  have hokp : ∀ k, v1.ownBlock = some k → (k ≠ g ∧ k ≠ gc) ∧ some k ≠ v.ownBlock := fun k hk => by
    have hb := own_base hR.own k hk
    refine ⟨⟨by omega, by omega⟩, fun e => ?_⟩
    have := hlt k e.symm
    omega
  have hr := Kd.R_appended (ok := fun k => k ≠ g ∧ k ≠ gc) h0 hreps hp hokp (fun k hk => ⟨by omega, by omega⟩) hown hgrow hat
  refine ⟨?_, below_set (hR.bel.grown hgrow hR.bel.size hbase) hg0, blk_put ((hgrow.block gc (by omega) hogc).trans hbox) 0 _ rfl, Kd.R_far hr (p := ⟨gc, 0, none⟩) (fun k hk => hk.2) _, hR.small, fun x hx => ?_⟩
  · obtain ⟨A, c, h1, h2⟩ := hR.rd
    exact ⟨A, c, (Below.heap_setCell W' _ _ g (fun e => hne e.symm)).trans ((hgrow.block g (by omega) hog).trans h1), h2⟩
  · rcases List.mem_append.1 hx with hx | hx
    · exact hh x hx
    · rw [List.mem_singleton.1 hx]
      exact hR.len
end
set_option maxRecDepth 100000 in
set_option maxHeartbeats 16000000 in
theorem reader_site_calls (k : Nat) (w0 w : World) (g gc : Nat) (st : St) (sites : List S52) (v : Value) (st' : St) (sites' : List S52)
    (h : SI w0 w g gc st sites v) (hne : gc ≠ g) (h0 : w0.heap.size ≤ g) (hgc : w0.heap.size ≤ gc) (hG : GL w0) (hn : sites.length < 1048576) (hk : k ≤ 274877906944) (hf : siteF k st sites = some (st', sites')) :
    Calls Tryz.prog 46 #[.pointer (some ⟨g, 0, none⟩), .pointer (some ⟨gc, 0, none⟩)] w fun e w' => e = .returned (.tuple #[]) ∧ ∃ v', SI w0 w' g gc st' sites' v' := by
  have hu := Tryz.underlying97
  have hu2 := Tryz.underlying43
  have hu3 := Tryz.underlying52
  have hu4 := Tryz.underlying24
  have hmm := @run_makeMap Tryz.prog
  obtain ⟨A, c, hv, hlc, hC⟩ := Kd.R_reads h.own
  subst hv
  have HI := Aside0.mk h
  have HN := Aside0.mk (reader_next_calls w0 w g st h.rd h.bel)
  have c0 : w.cell? ⟨gc, 0, none⟩ = some (.slice A sites.length c) := (blk_cell h.box 0).trans rfl
  have HF := Aside0.mk hf
  have HGL := Aside0.mk hG
  have HST : Aside0 (headS st sites = mustS (if nextS st = ⟨#[115, 105, 116, 101]⟩ ∧ sites.length = 8 then failS st 32 else st) ⟨#[115, 105, 116, 101]⟩) := ⟨rfl⟩
  clear h hG hf hC
  go_enter Tryz.func46, Tryz.ntmps46
  go_upto_region 0 with fail
  go_cut [20] (fun v20 wc => ∃ b, v20 = .bool b ∧ Aside0 (b = (decide (nextS st = ⟨#[115, 105, 116, 101]⟩) && decide (sites.length = 8))) ∧ Aside0 (SI w0 wc g gc st sites (.slice A sites.length c)))
  case first =>
    by_cases t1 : nextS st = ⟨#[115, 105, 116, 101]⟩
    · have E : ∀ b, b = decide (sites.length = 8) → Aside0 (b = (decide (nextS st = ⟨#[115, 105, 116, 101]⟩) && decide (sites.length = 8))) := fun b hb => ⟨by rw [decide_eq_true t1, Bool.true_and, hb]⟩
      have EE := Aside0.mk E
      rw [t1] at HN
      clear t1 E
      go_wp2_with fail
      refine HN.out.mono ?_
      rintro e w2 ⟨rfl, rfl⟩
      go_wp2
      go_meet
      case rel => exact ⟨_, rfl, EE.out _ (by by_cases h8 : sites.length = 8 <;> simp [h8]; omega), HI⟩
    · have E : Aside0 (false = (decide (nextS st = ⟨#[115, 105, 116, 101]⟩) && decide (sites.length = 8))) := ⟨by rw [decide_eq_false t1, Bool.false_and]⟩
      have q1 := lit_ne t1
      clear t1
      go_wp2_with fail
      refine HN.out.mono ?_
      rintro e w2 ⟨rfl, rfl⟩
      go_wp2
      go_meet
      case rel => exact ⟨_, rfl, E, HI⟩
  case rest =>
  obtain ⟨b, rfl, HB, HI1⟩ := hcut
  clear HN HI c0
  go_upto_if 20 with fail
  go_cut [22] (fun v22 wc => Aside0 (SI w0 wc g gc (if nextS st = ⟨#[115, 105, 116, 101]⟩ ∧ sites.length = 8 then failS st 32 else st) sites (.slice A sites.length c)))
  case first =>
    cases b with
    | true =>
      have E : Aside0 ((if nextS st = ⟨#[115, 105, 116, 101]⟩ ∧ sites.length = 8 then failS st 32 else st) = failS st 32) := ⟨by
        have := HB.out.symm
        simp only [Bool.and_eq_true, decide_eq_true_eq] at this
        rw [if_pos this]⟩
      clear HB
      go_wp2_with fail
      refine (reader_fail_calls w0 _ g _ 32 HI1.out.rd HI1.out.bel).mono ?_
      rintro e w2 ⟨rfl, h1, h2, h3⟩
      have HI2 := Aside0.mk (HI1.out.reader hne h1 h2 h3 (fun x hx => by rwa [failS_l] at hx))
      clear h1 h2 h3
      go_wp2
      go_meet
      case rel => exact ⟨by rw [E.out]; exact HI2.out⟩
    | false =>
      have E : Aside0 ((if nextS st = ⟨#[115, 105, 116, 101]⟩ ∧ sites.length = 8 then failS st 32 else st) = st) := ⟨by
        have := HB.out
        rw [if_neg]
        rintro ⟨h1, h2⟩
        simp [h1, h2] at this⟩
      clear HB
      go_wp2
      go_meet
      case rel => exact ⟨by rw [E.out]; exact HI1.out⟩
  case rest =>
  have HI1 := hcut
  clear hcut HB
  generalize (if nextS st = ⟨#[115, 105, 116, 101]⟩ ∧ sites.length = 8 then failS st 32 else st) = st1 at *
  go_wp2_with fail
  refine (reader_must_calls w0 _ g _ ⟨#[115, 105, 116, 101]⟩ HI1.out.rd HI1.out.bel).mono ?_
  rintro e w1 ⟨rfl, h1, h2, h3⟩
  have HS1 : Aside0 (SI w0 w1 g gc (headS st sites) sites (.slice A sites.length c)) := ⟨by rw [HST.out]; exact HI1.out.reader hne h1 h2 h3 (mustS_mem _ _)⟩
  clear h1 h2 h3 HI1 HST
  unfold siteF at HF
  generalize headS st sites = st2 at *
  have HN := Aside0.mk (reader_next_calls w0 w1 g st2 HS1.out.rd HS1.out.bel)
  have HX := Aside0.mk (nextS_small HS1.out.small)
  have hg : g < w1.heap.size := by
    obtain ⟨A, c, hb, _⟩ := HS1.out.rd
    exact blk_lt hb
  have hgc1 : gc < w1.heap.size := blk_lt HS1.out.box
  have hw01 : w0.heap.size ≤ w1.heap.size := HS1.out.bel.size
  have hgsg : w1.heap.size ≠ g := by omega
  have hgsc : w1.heap.size ≠ gc := by omega
  have HT0 : Aside0 (TI w0 w1 (w1.alloc (.cells #[.string (nextS st2), .int .i64 1, .int .i64 0, .int .i64 3600, .bool true, .bool true, .slice none 0 0] 52)) g w1.heap.size st2 (nextS st2)) := ⟨⟨HS1.out.rd.below (below_alloc (Below.refl _ _) _), below_alloc HS1.out.bel _, KeepBut.of_below (below_alloc (Below.refl _ _) _) g none, heap_alloc_new w1 _, HS1.out.small⟩⟩
  go_wp2_with fail
  refine HN.out.mono ?_
  rintro e w2 ⟨rfl, hw2⟩
  obtain rfl : w1 = w2 := hw2.symm
  clear HN hw2
  have HH := Aside0.mk (fun W => place_Host.calls ((nextS st2).size + 3) (nextS st2) (hostV (nextS st2)).1 (hostV (nextS st2)).2 W (host_of (nextS st2) HX.out ((nextS st2).size + 3) (by omega)))
  have HHS : Aside0 (hostS st2 sites = (if (findS (nextS st2) sites).2 = true then failS (if st2.code = 0 ∧ ¬ ((hostV (nextS st2)).2 = 0 ∧ (hostV (nextS st2)).1 = nextS st2) then failS st2 30 else st2) 31
  else (if st2.code = 0 ∧ ¬ ((hostV (nextS st2)).2 = 0 ∧ (hostV (nextS st2)).1 = nextS st2) then failS st2 30 else st2))) := ⟨rfl⟩
  generalize hostS st2 sites = sth at *
  generalize (hostV (nextS st2)).1 = hv at *
  generalize (hostV (nextS st2)).2 = he at *
  generalize nextS st2 = host at *
  go_wp2_with fail
  refine (HH.out _).mono ?_
  rintro e w3 ⟨rfl, hb3⟩
  have HT1 := Aside0.mk (HT0.out.below hb3)
  clear HT0 hb3 HH
  go_upto_region 5 with fail
  go_cut [49] (fun v49 wc => ∃ b, v49 = .bool b ∧ Aside0 (b = (decide (st2.code = 0) && !(decide (he = 0) && decide (hv = host)))) ∧ Aside0 (TI w0 w1 wc g w1.heap.size st2 host))
  case first =>
    have c1 : w3.cell? ⟨g, 1, none⟩ = some (.int .i64 st2.code) := by
      obtain ⟨A, c, hb, _⟩ := HT1.out.rd
      exact (blk_cell hb 1).trans rfl
    have cs : w3.cell? ⟨w1.heap.size, 0, none⟩ = some (.string host) := (blk_cell HT1.out.bx 0).trans rfl
    by_cases t1 : st2.code = 0
    · by_cases t2 : he = 0
      · have E : Aside0 ((!(hv.toList == host.toList)) = (decide (st2.code = 0) && !(decide (he = 0) && decide (hv = host)))) := ⟨by
          rw [decide_eq_true t1, decide_eq_true t2, Bool.true_and, Bool.true_and]
          by_cases t3 : hv = host
          · rw [decide_eq_true t3, t3]; simp
          · rw [decide_eq_false t3, toList_ne t3]⟩
        rw [t1] at c1
        have q2 : (he != 0) = false := by rw [t2]; rfl
        clear t1 t2
        go_wp2
        go_meet
        case rel => exact ⟨_, rfl, E, HT1⟩
      · have E : Aside0 (true = (decide (st2.code = 0) && !(decide (he = 0) && decide (hv = host)))) := ⟨by rw [decide_eq_true t1, decide_eq_false t2]; rfl⟩
        rw [t1] at c1
        have q2 : (he != 0) = true := bne_iff_ne.2 t2
        clear t1 t2
        go_wp2
        go_meet
        case rel => exact ⟨_, rfl, E, HT1⟩
    · have E : Aside0 (false = (decide (st2.code = 0) && !(decide (he = 0) && decide (hv = host)))) := ⟨by rw [decide_eq_false t1]; rfl⟩
      have q1 : (st2.code == 0) = false := beq_eq_false_iff_ne.2 t1
      clear t1
      go_wp2
      go_meet
      case rel => exact ⟨_, rfl, E, HT1⟩
  case rest =>
  obtain ⟨b, rfl, HB, HT⟩ := hcut
  clear HT1
  go_upto_if 49 with fail
  go_cut [51] (fun v51 wc => Aside0 (TI w0 w1 wc g w1.heap.size (if st2.code = 0 ∧ ¬ (he = 0 ∧ hv = host) then failS st2 30 else st2) host))
  case first =>
    cases b with
    | true =>
      have E : Aside0 ((if st2.code = 0 ∧ ¬ (he = 0 ∧ hv = host) then failS st2 30 else st2) = failS st2 30) := ⟨by
        have := HB.out.symm
        simp only [Bool.and_eq_true, decide_eq_true_eq, Bool.not_eq_true', Bool.and_eq_false_iff, decide_eq_false_iff_not] at this
        rw [if_pos ⟨this.1, fun h => this.2.elim (fun h1 => h1 h.1) (fun h1 => h1 h.2)⟩]⟩
      clear HB
      go_wp2_with fail
      refine (reader_fail_calls w0 _ g _ 30 HT.out.rd HT.out.bel).mono ?_
      rintro e w2 ⟨rfl, h1, h2, h3⟩
      have HT2 := Aside0.mk (HT.out.reader hgsg h1 h2 h3 (fun x hx => by rwa [failS_l] at hx))
      clear h1 h2 h3
      go_wp2
      go_meet
      case rel => exact ⟨by rw [E.out]; exact HT2.out⟩
    | false =>
      have E : Aside0 ((if st2.code = 0 ∧ ¬ (he = 0 ∧ hv = host) then failS st2 30 else st2) = st2) := ⟨by
        have := HB.out
        rw [if_neg]
        rintro ⟨h1, h2⟩
        rw [decide_eq_true h1, Bool.true_and] at this
        have h3 : (decide (he = 0) && decide (hv = host)) = true := by
          cases hx : (decide (he = 0) && decide (hv = host)) with
          | true => rfl
          | false => rw [hx] at this; simp at this
        simp only [Bool.and_eq_true, decide_eq_true_eq] at h3
        exact h2 h3⟩
      clear HB
      go_wp2
      go_meet
      case rel => exact ⟨by rw [E.out]; exact HT.out⟩
  case rest =>
  have HT := hcut
  clear hcut HB
  generalize (if st2.code = 0 ∧ ¬ (he = 0 ∧ hv = host) then failS st2 30 else st2) = st3 at *
  have hlt := HT.out.keep.1
  obtain ⟨hbx, hown⟩ := HS1.out.later hne HT.out.keep
  have kc : wc.cell? ⟨gc, 0, none⟩ = some (.slice A sites.length c) := (blk_cell hbx 0).trans rfl
  have ks : wc.cell? ⟨w1.heap.size, 0, none⟩ = some (.string host) := (blk_cell HT.out.bx 0).trans rfl
  have hCc := (Kd.R_reads' hown).2.2
  have HFI := Aside0.mk (fun W (hS : W.cell? ⟨gc, 0, none⟩ = some (.slice A sites.length c) ∧ W.cell? ⟨w1.heap.size, 0, none⟩ = some (.string host) ∧ Below wc.heap.size wc W) => (conf_Config_Find.calls (sites.length + 1) A c sites host _ _ _ _ _ _ _ _ W (Kd.C_below hCc hS.2.2) hlc (find_of host sites (by omega) (fun x hx => by have := HS1.out.heads x hx; omega) _ (by omega))).mono (fun e w' hp => (show ∃ (A6 : Option Addr) (n6 c6 : Nat), e = .returned (.tuple #[.agg #[.string (findS host sites).1.f0, .int .i64 (findS host sites).1.f1, .int .i64 (findS host sites).1.f2, .int .i64 (findS host sites).1.f3, .bool (findS host sites).1.f4, .bool (findS host sites).1.f5, .slice A6 n6 c6], .bool (findS host sites).2]) ∧ Below wc.heap.size wc w' ∧ Below W.heap.size W w' from hp.elim fun v6 hq => (Kd.R_slice hq.2.1).elim fun A6 h6 => h6.elim fun c6 h7 => ⟨A6, _, c6, by rw [← h7]; exact hq.1, below_then hS.2.2 hS.2.2.size hq.2.2, hq.2.2⟩)))
  have HB3 := Aside0.mk (fun W (hS : W.cell? ⟨gc, 0, none⟩ = some (.slice A sites.length c) ∧ W.cell? ⟨w1.heap.size, 0, none⟩ = some (.string host) ∧ Below wc.heap.size wc W) => hS.2.2)
  have hkb : ∀ W, Below wc.heap.size wc W → W.cell? ⟨gc, 0, none⟩ = some (.slice A sites.length c) ∧ W.cell? ⟨w1.heap.size, 0, none⟩ = some (.string host) ∧ Below wc.heap.size wc W := fun W hb => ⟨pw_cell_below hb kc, pw_cell_below hb ks, hb⟩
  have HKB := Aside0.mk hkb
  clear hbx hown hCc hkb
  generalize (findS host sites).1 = fs at *
  generalize (findS host sites).2 = fb at *
  go_upto_region 7 with fail
  go_cut [8] (fun v8 W => v8 = .bool fb ∧ Aside0 (TI w0 w1 W g w1.heap.size st3 host))
  case first =>
    have kc1 := fun o => (HKB.out _ (below_alloc (Below.refl wc.heap.size wc) o)).1
    have ks1 := fun o => (HKB.out _ (below_alloc (Below.refl wc.heap.size wc) o)).2.1
    have kc2 := (HKB.out _ (below_drew (Below.refl wc.heap.size wc))).1
    have ks2 := (HKB.out _ (below_drew (Below.refl wc.heap.size wc))).2.1
    go_region_with (go_at_call 40; first | (refine (HFI.out wc.drew (HKB.out _ (below_drew (Below.refl _ _)))).mono ?_; rintro e w' ⟨A6, n6, c6, rfl, hb6, hb7⟩) | (refine (HFI.out (wc.drew.alloc (.cells #[.string ⟨#[]⟩, .int .i64 0, .int .i64 0, .int .i64 0, .bool false, .bool false, .slice none 0 0] 52)) (HKB.out _ (below_alloc (below_drew (Below.refl _ _)) _))).mono ?_; rintro e w' ⟨A6, n6, c6, rfl, hb6, hb7⟩; have hz : w'.heap[wc.heap.size]? = some (.cells #[.string ⟨#[]⟩, .int .i64 0, .int .i64 0, .int .i64 0, .bool false, .bool false, .slice none 0 0] 52 (0, 0)) := (hb7.block wc.heap.size (by simp)).trans (heap_alloc_new wc.drew _); have z0 : w'.cell? ⟨wc.heap.size, 0, none⟩ = some (.string ⟨#[]⟩) := (blk_cell hz 0).trans rfl; have y0 : w'.frozen? ⟨wc.heap.size, 0, none⟩ = false := blk_frozen hz 0; have z1 : w'.cell? ⟨wc.heap.size, 1, none⟩ = some (.int .i64 0) := (blk_cell hz 1).trans rfl; have y1 : w'.frozen? ⟨wc.heap.size, 1, none⟩ = false := blk_frozen hz 1; have z2 : w'.cell? ⟨wc.heap.size, 2, none⟩ = some (.int .i64 0) := (blk_cell hz 2).trans rfl; have y2 : w'.frozen? ⟨wc.heap.size, 2, none⟩ = false := blk_frozen hz 2; have z3 : w'.cell? ⟨wc.heap.size, 3, none⟩ = some (.int .i64 0) := (blk_cell hz 3).trans rfl; have y3 : w'.frozen? ⟨wc.heap.size, 3, none⟩ = false := blk_frozen hz 3; have z4 : w'.cell? ⟨wc.heap.size, 4, none⟩ = some (.bool false) := (blk_cell hz 4).trans rfl; have y4 : w'.frozen? ⟨wc.heap.size, 4, none⟩ = false := blk_frozen hz 4; have z5 : w'.cell? ⟨wc.heap.size, 5, none⟩ = some (.bool false) := (blk_cell hz 5).trans rfl; have y5 : w'.frozen? ⟨wc.heap.size, 5, none⟩ = false := blk_frozen hz 5; have z6 : w'.cell? ⟨wc.heap.size, 6, none⟩ = some (.slice none 0 0) := (blk_cell hz 6).trans rfl; have y6 : w'.frozen? ⟨wc.heap.size, 6, none⟩ = false := blk_frozen hz 6))
    all_goals
      clear kc1 ks1 kc2 ks2
      go_wp2_with fail
      go_meet
      case rel => exact ⟨rfl, ⟨HT.out.below (by repeat (first | (with_reducible exact hb6) | (with_reducible refine below_alloc ?_ _) | ((with_reducible refine below_set ?_ ?hge); case hge => first | exact Nat.le_refl _ | exact hb6.size)))⟩⟩
  case rest =>
  obtain ⟨rfl, HT3⟩ := hcut
  clear HFI HKB HB3 kc ks HT
  go_upto_if 61 with fail
  go_cut [63] (fun v63 wc => Aside0 (TI w0 w1 wc g w1.heap.size sth host))
  case first =>
    cases fb with
    | true =>
      have E : Aside0 (sth = failS st3 31) := ⟨by rw [HHS.out, if_pos rfl]⟩
      go_wp2_with fail
      refine (reader_fail_calls w0 _ g _ 31 HT3.out.rd HT3.out.bel).mono ?_
      rintro e w2 ⟨rfl, h1, h2, h3⟩
      have HT2 := Aside0.mk (HT3.out.reader hgsg h1 h2 h3 (fun x hx => by rwa [failS_l] at hx))
      clear h1 h2 h3
      go_wp2
      go_meet
      case rel => exact ⟨by rw [E.out]; exact HT2.out⟩
    | false =>
      have E : Aside0 (sth = st3) := ⟨by rw [HHS.out, if_neg (by simp)]⟩
      go_wp2
      go_meet
      case rel => exact ⟨by rw [E.out]; exact HT3.out⟩
  case rest =>
  have HT := hcut
  clear hcut HHS HT3
  go_wp2_with fail
  refine (reader_take_calls w0 _ g _ HT.out.rd HT.out.bel).mono ?_
  rintro e w2 ⟨rfl, h1, h2, h3⟩
  have HT2 := Aside0.mk (HT.out.reader hgsg h1 h2 h3 (takeS_mem _))
  clear h1 h2 h3 HT
  go_wp2_with fail
  refine (reader_must_calls w0 _ g _ ⟨#[123]⟩ HT2.out.rd HT2.out.bel).mono ?_
  rintro e w3 ⟨rfl, h1, h2, h3⟩
  have HT3 := Aside0.mk (HT2.out.reader hgsg h1 h2 h3 (mustS_mem _ _))
  clear h1 h2 h3 HT2
  have LI : Lie w0 w1 g w1.heap.size w3.heap.size := ⟨hg, Nat.le_refl _, HT3.out.keep.1, by have := blk_lt HT3.out.bx; omega, hw01⟩
  have HR0 : Aside0 (RI w0 w1 (w3.alloc (.map #[] 0)) g w1.heap.size w3.heap.size (mustS (takeS sth) ⟨#[123]⟩) ⟨host, 1, 0, 3600, true, true, []⟩ [] (.slice none 0 0)) := ⟨by
    have hb := below_alloc (Below.refl w3.heap.size w3) (.map #[] 0)
    have h3 := HT3.out.below hb
    exact ⟨h3.rd, h3.bel, h3.keep, h3.bx, own_nil _ _ _ _, fun k hk => by simp [Value.ownBlock] at hk, IsSet.made w3, h3.small, by simp⟩⟩
  have HLI := Aside0.mk LI
  clear HT3 LI
  generalize mustS (takeS sth) ⟨#[123]⟩ = str at *
  cases hrf : rulesF k str ⟨host, 1, 0, 3600, true, true, []⟩ [] with
  | none => rw [hrf] at HF; exact absurd HF.out (by simp)
  | some r7 =>
  obtain ⟨st7, s7⟩ := r7
  have HF7 := HF.out
  rw [hrf] at HF7
  simp only [Option.map_some, Option.some.injEq, Prod.mk.injEq] at HF7
  obtain ⟨hst', hsites'⟩ := HF7
  have HE1 := Aside0.mk hst'
  have HE2 := Aside0.mk hsites'
  have HRF := Aside0.mk hrf
  clear HF hst' hsites' hrf
  go_wp2
  go_loopg [82] k (fun kq v82 wr => ∃ (s1 : St) (sv : Sv) (seen : List ByteArray) (v1 : Value), Aside0 (rulesF kq s1 sv seen = some (st7, s7)) ∧ Aside0 (RI w0 w1 wr g w1.heap.size w3.heap.size s1 sv seen v1) ∧ Aside0 (seen.length + kq ≤ k))
  case atStart => exact ⟨str, _, [], _, HRF, HR0, ⟨by simp⟩⟩
  case round =>
    clear HRF HR0
    obtain ⟨s1, sv, seen, v1, HF, HR, HSL⟩ := hrel
    cases gk with
    | zero => exact absurd HF.out (by simp [rulesF])
    | succ k1 =>
      have c1 : wr.cell? ⟨g, 1, none⟩ = some (.int .i64 s1.code) := by
        obtain ⟨A, c, hb, _⟩ := HR.out.rd
        exact (blk_cell hb 1).trans rfl
      have HN := Aside0.mk (reader_next_calls w0 wr g s1 HR.out.rd HR.out.bel)
      go_upto_region 13 with fail
      go_cut [79] from 69 to 82 (fun v79 W => ∃ b, v79 = .bool b ∧ Aside0 (b = (decide (s1.code = 0) && !decide (nextS s1 = ⟨#[125]⟩))) ∧ Aside0 (RI w0 w1 W g w1.heap.size w3.heap.size s1 sv seen v1))
      case first =>
        by_cases t1 : s1.code = 0
        · by_cases t2 : nextS s1 = ⟨#[125]⟩
          · have E : Aside0 (false = (decide (s1.code = 0) && !decide (nextS s1 = ⟨#[125]⟩))) := ⟨by rw [decide_eq_true t1, decide_eq_true t2]; rfl⟩
            rw [t1] at c1
            rw [t2] at HN
            clear t1 t2
            go_wp2_with fail
            refine HN.out.mono ?_
            rintro e w5 ⟨rfl, rfl⟩
            go_wp2
            go_meet
            case rel => exact ⟨_, rfl, E, HR⟩
          · have E : Aside0 (true = (decide (s1.code = 0) && !decide (nextS s1 = ⟨#[125]⟩))) := ⟨by rw [decide_eq_true t1, decide_eq_false t2]; rfl⟩
            rw [t1] at c1
            have q2 := lit_ne t2
            clear t1 t2
            go_wp2_with fail
            refine HN.out.mono ?_
            rintro e w5 ⟨rfl, rfl⟩
            go_wp2
            go_meet
            case rel => exact ⟨_, rfl, E, HR⟩
        · have E : Aside0 (false = (decide (s1.code = 0) && !decide (nextS s1 = ⟨#[125]⟩))) := ⟨by rw [decide_eq_false t1]; rfl⟩
          have q1 : (s1.code == 0) = false := beq_eq_false_iff_ne.2 t1
          clear t1
          go_wp2
          go_meet
          case rel => exact ⟨_, rfl, E, HR⟩
      case rest =>
      obtain ⟨b, rfl, HB, HR5⟩ := hcut
      clear HR c1 HN
      have HT := HF.out
      unfold rulesF at HT
      cases b with
      | true =>
        have hb := HB.out.symm
        simp only [Bool.and_eq_true, decide_eq_true_eq, Bool.not_eq_true', decide_eq_false_iff_not] at hb
        rw [if_pos hb.1, if_neg hb.2] at HT
        clear hb HB HF
        cases hrr : ruleF k1 s1 sv seen with
        | none => rw [hrr] at HT; simp at HT
        | some rr =>
        rw [hrr] at HT
        obtain ⟨sa, sb, sc⟩ := rr
        have HTN : Aside0 (rulesF k1 sa sb sc = some (st7, s7)) := ⟨HT⟩
        have hlen : sc.length = seen.length + 1 := by
          unfold ruleF at hrr
          cases hbb : bodyF k1 (nextS s1) (nameS s1 seen) sv with
          | none => rw [hbb] at hrr; simp at hrr
          | some r => rw [hbb] at hrr; simp at hrr; rw [← hrr.2.2]; simp
        have HLN := Aside0.mk hlen
        have HRU := Aside0.mk (reader_rule_calls k1 w0 w1 _ g w1.heap.size w3.heap.size s1 sv seen v1 sa sb sc HR5.out HLI.out HGL.out (by have := HSL.out; omega) hrr)
        clear HT hrr hlen HR5
        go_wp2_with fail
        refine HRU.out.mono ?_
        rintro e w6 ⟨rfl, v6, hr6⟩
        have HR6 := Aside0.mk hr6
        clear hr6 HRU
        go_wp2
        go_roundg k1
        case measure => omega
        case rel => exact ⟨_, _, _, _, HTN, HR6, ⟨by rw [HLN.out]; have := HSL.out; omega⟩⟩
      | false =>
        have HE : Aside0 (s1 = st7 ∧ sv = s7) := ⟨by
          by_cases t1 : s1.code = 0
          · rw [if_pos t1] at HT
            by_cases t2 : nextS s1 = ⟨#[125]⟩
            · rw [if_pos t2] at HT
              simpa using HT
            · have := HB.out
              rw [decide_eq_true t1, decide_eq_false t2] at this
              simp at this
          · rw [if_neg t1] at HT
            simpa using HT⟩
        obtain ⟨e1, e2⟩ := HE.out
        subst e1 e2
        clear HE HB HF HT
        go_wp2_with fail
        refine (reader_must_calls w0 _ g _ ⟨#[125]⟩ HR5.out.rd HR5.out.bel).mono ?_
        rintro e w6 ⟨rfl, h1, h2, h3⟩
        have HR6 := Aside0.mk (HR5.out.reader HLI.out h1 h2 h3 (mustS_mem _ _))
        clear h1 h2 h3 HR5
        obtain ⟨A1, c1, hv1⟩ := own_slice HR6.out.own
        generalize hn1 : sv.hs.length = n1 at hv1
        subst hv1
        clear hn1
        obtain ⟨hbox, hRo⟩ := HS1.out.later hne HR6.out.keep
        have hlt7 := Kd.R_lt HS1.out.own
        have hbs7 := Kd.R_base HS1.out.own
        obtain ⟨h07, inner, hown7, hreps7⟩ := hRo
        have ltgs : w1.heap.size < w6.heap.size := blk_lt HR6.out.site
        have ltgc : gc < w6.heap.size := blk_lt hbox
        have hw06 : w0.heap.size ≤ w6.heap.size := HR6.out.bel.size
        have farc : (Value.slice A sites.length c).ownBlock ≠ some gc := fun e => (h07 gc e).2 rfl
        have kc6 : w6.cell? ⟨gc, 0, none⟩ = some (.slice A sites.length c) := (blk_cell hbox 0).trans rfl
        have zc6 : w6.frozen? ⟨gc, 0, none⟩ = false := blk_frozen hbox 0
        have e0 := fun o => cell_new_ (o := o) ltgc kc6
        have f0 : w6.cell? ⟨w1.heap.size, 0, none⟩ = some (.string sv.host) := (blk_cell HR6.out.site 0).trans rfl
        have f1 : w6.cell? ⟨w1.heap.size, 1, none⟩ = some (.int .i64 sv.origin) := (blk_cell HR6.out.site 1).trans rfl
        have f2 : w6.cell? ⟨w1.heap.size, 2, none⟩ = some (.int .i64 sv.mn) := (blk_cell HR6.out.site 2).trans rfl
        have f3 : w6.cell? ⟨w1.heap.size, 3, none⟩ = some (.int .i64 sv.mx) := (blk_cell HR6.out.site 3).trans rfl
        have f4 : w6.cell? ⟨w1.heap.size, 4, none⟩ = some (.bool sv.q) := (blk_cell HR6.out.site 4).trans rfl
        have f5 : w6.cell? ⟨w1.heap.size, 5, none⟩ = some (.bool sv.kp) := (blk_cell HR6.out.site 5).trans rfl
        have f6 : w6.cell? ⟨w1.heap.size, 6, none⟩ = some (.slice A1 n1 c1) := (blk_cell HR6.out.site 6).trans rfl
        obtain ⟨i0, hi0, hz0, hz1, hz2⟩ := info_parts infoSite
        have HO7 := Aside0.mk hown7
        have HBX := Aside0.mk (fun o => ((below_drew (below_alloc (Below.refl w6.heap.size w6) o)).block gc ltgc).trans hbox)
        have H07 := Aside0.mk h07
        have HRP := Aside0.mk (fun o => hreps7.imp_ (fun _ _ hp => k52.M_mono (fun k hk => hk.1) (k52.M_move (fun k hk => (below_drew (below_alloc (Below.refl w6.heap.size w6) o)).block k hk.2.2.1) (k52.M_bound hp))))
        have HLT := Aside0.mk hlt7
        have HBS := Aside0.mk hbs7
        have HRn := Aside0.mk (fun o => HR6.out.below (below_drew (below_alloc (Below.refl w6.heap.size w6) o)))
        have HFC := Aside0.mk farc
        clear hown7 hbox h07 hreps7 hlt7 hbs7 farc
        go_upto_region 16 with fail
        go_region_law ((refine step_append_lies _ (by rfl) _ _ _ (by rfl) w0.heap.size 52 i0 _ 7 72 Tryz.underlying22 hi0 hz0 hz1 hz2 rfl (by omega) (.slice A sites.length c) sites.length inner (by rfl) ((HO7.out.alloc _).drew) ⟨w6.heap.size, 0, none⟩ 1 1 [.string sv.host, .int .i64 sv.origin, .int .i64 sv.mn, .int .i64 sv.mx, .bool sv.q, .bool sv.kp, .slice A1 n1 c1] (by rfl) (by rfl) (World.news_of_block (cs := #[.string sv.host, .int .i64 sv.origin, .int .i64 sv.mn, .int .i64 sv.mx, .bool sv.q, .bool sv.kp, .slice A1 n1 c1]) (t := 52) (fr := (0, 0)) (heap_alloc_new w6 _)) (by simp [Value.oneCell']) (by omega) (by unfold maxLen; omega) (by omega) (by simp; omega) (w6.heap.size + 1) (by simp) ?_; intro gg cap w8 hown8 hgrow8 hat8 hlt8; have c8 : w8.cell? ⟨gc, 0, none⟩ = some (.slice A sites.length c) := (hgrow8.cell_far _ (by simp; omega) (Ne.symm HFC.out)).trans (cell_new_ ltgc kc6); have z8 : w8.frozen? ⟨gc, 0, none⟩ = false := (hgrow8.frozen_far _ (by simp; omega) (Ne.symm HFC.out)).trans (frz_new ltgc zc6)))
        all_goals
          have HSA := Aside0.mk (SI.app (HRn.out _) HLI.out hne hgc1 hgc (HBX.out _) H07.out HBS.out HLT.out (HRP.out _) HS1.out.heads hgrow8 hown8 (hat8.elim (fun h => .inl (show some gg = _ from h.symm)) (fun h => .inr ⟨gg, rfl, by simp; omega⟩)))
          clear hgrow8 hown8 hat8 hlt8 c8 z8
          go_wp2
          go_end0
          exact ⟨rfl, _, by rw [← HE1.out, ← HE2.out]; exact HSA.out⟩
end Go.Proofs.YtcoaajkhfgakgaaGreatDoor.Pr
end

section
namespace Go.Proofs.YtcoaajkhfgakgaaGreatDoor.Pr
open Go.RowKit Go.Proofs.YtcoaajkhfgakgaaGreatDoorW.PrintWords Go.Proofs.YtcoaajkhfgakgaaGreatDoorW.PrintLast Go.Proofs.YtcoaajkhfgakgaaGreatDoorW.PrintMore
set_option linter.unusedVariables false
set_option linter.unusedSimpArgs false
def skipC (s : ByteArray) : Nat → Nat → Nat
  | 0, k => k
  | n + 1, k => if k + 1 < s.size ∧ bt s (k + 1 : Nat) ≠ 10 then skipC s n (k + 1) else k
def stepW (s : ByteArray) (k : Nat) (line frm : Int) (ws : List Wd) : Nat × Int × Int × List Wd :=
  if bt s k = 47 ∧ k + 1 < s.size ∧ bt s (k + 1 : Nat) = 47 then (skipC s s.size k + 1, line, -1, endW s k line frm ws)
  else if bt s k = 32 ∨ bt s k = 9 ∨ bt s k = 10 then (k + 1, (if bt s k = 10 then line + 1 else line), -1, endW s k line frm ws)
  else if bt s k = 123 ∨ bt s k = 125 ∨ bt s k = 59 then (k + 1, line, -1, endW s k line frm ws ++ [⟨s.extract k (k + 1), line⟩])
  else (k + 1, line, (if frm < 0 then (k : Int) else frm), ws)
def tkF (s : ByteArray) : Nat → Nat → Int → Int → List Wd → List Wd
  | 0, _, _, _, ws => ws
  | n + 1, k, line, frm, ws => if k < s.size then tkF s n (stepW s k line frm ws).1 (stepW s k line frm ws).2.1 (stepW s k line frm ws).2.2.1 (stepW s k line frm ws).2.2.2 else endW s s.size line frm ws ++ [⟨⟨#[]⟩, line⟩]
def wordsS (s : ByteArray) : List Wd := tkF s (s.size + 1) 0 1 (-1) []
theorem skipC_le (s : ByteArray) : ∀ n k, k < s.size → k ≤ skipC s n k ∧ skipC s n k < s.size
  | 0, k, h => ⟨Nat.le_refl _, h⟩
  | n + 1, k, h => by
    unfold skipC
    split
    · rename_i hc
      have := skipC_le s n (k + 1) hc.1
      omega
    · exact ⟨Nat.le_refl _, h⟩
theorem endW_len (s : ByteArray) (i : Nat) (line frm : Int) (ws : List Wd) : (endW s i line frm ws).length ≤ ws.length + 1 := by
  unfold endW
  split <;> simp
set_option maxRecDepth 100000 in
set_option maxHeartbeats 3200000 in
theorem conf_words_calls (a0 : ByteArray) (w : World) (hs : a0.size ≤ 274877906944) :
    Calls Tryz.prog 45 #[.string a0] w fun e w' => ∃ v, e = .returned v ∧ w'.ownsRow w.heap.size 130 2 v (wordsS a0).length (cellsW (wordsS a0)) ∧ Below w.heap.size w w' ∧ (wordsS a0).length ≤ 2 * a0.size + 2 := by
  obtain ⟨i0, hi0, hz0, hz1, hz2⟩ := info_parts infoW
  have hst0 : Aside0 (WSt w ((((w.alloc (.cells #[.string a0] 9)).alloc (.cells #[.slice none 0 0] 94)).alloc (.cells #[.int .i64 1] 3)).alloc (.cells #[.int .i64 (-1)] 3)) w.heap.size (w.heap.size + 1) (w.heap.size + 1 + 1) (w.heap.size + 1 + 1 + 1) a0 1 (-1) [] (.slice none 0 0)) := ⟨by
    refine ⟨?_, ?_, ?_, ?_, own_nil _ _ _ _, ?_, by omega, by omega⟩
    · exact (blk_alloc (blk_alloc (blk_alloc (heap_alloc_new w _) _) _) _)
    · exact (blk_alloc (blk_alloc (by simpa using heap_alloc_new (w.alloc (.cells #[.string a0] 9)) _) _) _)
    · exact (blk_alloc (by simpa using heap_alloc_new ((w.alloc (.cells #[.string a0] 9)).alloc (.cells #[.slice none 0 0] 94)) _) _)
    · simpa using heap_alloc_new (((w.alloc (.cells #[.string a0] 9)).alloc (.cells #[.slice none 0 0] 94)).alloc (.cells #[.int .i64 1] 3)) _
    · exact below_alloc (below_alloc (below_alloc (below_alloc (Below.refl _ _) _) _) _) _⟩
  go_enter Tryz.func45, Tryz.ntmps45
  go_wp2
  generalize (((w.alloc (.cells #[.string a0] 9)).alloc (.cells #[.slice none 0 0] 94)).alloc (.cells #[.int .i64 1] 3)).alloc (.cells #[.int .i64 (-1)] 3) = w1 at hst0 ⊢
  obtain ⟨b0, eb0⟩ : ∃ b, b = w.heap.size := ⟨_, rfl⟩
  obtain ⟨b1, eb1⟩ : ∃ b, b = w.heap.size + 1 := ⟨_, rfl⟩
  obtain ⟨b2, eb2⟩ : ∃ b, b = w.heap.size + 1 + 1 := ⟨_, rfl⟩
  obtain ⟨b3, eb3⟩ : ∃ b, b = w.heap.size + 1 + 1 + 1 := ⟨_, rfl⟩
  rw [← eb3, ← eb2, ← eb1, ← eb0] at hst0 ⊢
  clear eb0 eb1 eb2 eb3
  go_loopw [7] (fun i wr => ∃ (k n : Nat) (line frm : Int) (ws : List Wd) (v : Value), k ≤ a0.size ∧ i = .int .i64 k ∧ Aside0 (WSt w wr b0 b1 b2 b3 a0 line frm ws v) ∧ Aside0 (tkF a0 n k line frm ws = wordsS a0) ∧ a0.size - k < n ∧ frm ≤ k ∧ 0 < line ∧ line ≤ k + 1 ∧ ws.length ≤ 2 * k)
    (fun i _ => a0.size + 1 - (intOf i).toNat)
  case atStart => exact ⟨0, a0.size + 1, 1, -1, [], .slice none 0 0, Nat.zero_le _, rfl, hst0, ⟨rfl⟩, by omega, by omega, by omega, by omega, by simp⟩
  case round =>
    obtain ⟨k, n, line, frm, ws, v, hk, rfl, hst, htk, hn, hfr, hl0, hl1, hlen⟩ := hrel
    clear hst0
    obtain ⟨m, rfl⟩ : ∃ m, n = m + 1 := ⟨n - 1, by omega⟩
    have c0 : wr.cell? ⟨b0, 0, none⟩ = some (.string a0) := (blk_cell hst.out.text 0).trans rfl
    by_cases hlt : k < a0.size
    · have HT : Aside0 (tkF a0 m (stepW a0 k line frm ws).1 (stepW a0 k line frm ws).2.1 (stepW a0 k line frm ws).2.2.1 (stepW a0 k line frm ws).2.2.2 = wordsS a0) := ⟨by
        have := htk.out
        rw [tkF, if_pos hlt] at this
        exact this⟩
      clear htk
      have hc : ∀ h : k < a0.size, ((a0[k]'h).toNat : Int) = bt a0 k := fun h => by simp [bt, h]
      have hr := bt_range a0 k
      have hend := Aside0.mk (fun W (ww : Value) (h' : WSt w W b0 b1 b2 b3 a0 line frm ws ww) => words_end_any w W b0 b1 b2 b3 a0 line frm k ws ww h' hfr hk (by omega) (by omega))
      have hendl := endW_len a0 k line frm ws
      by_cases hA : bt a0 k = 47 ∧ k + 1 < a0.size ∧ bt a0 (k + 1 : Nat) = 47
      · rw [stepW, if_pos hA] at HT
        obtain ⟨hA1, hA2, hA3⟩ := hA
        generalize endW a0 k line frm ws = ws2 at *
        have q47 : (bt a0 k == 47) = true := beq_iff_eq.2 hA1
        have q10 : (bt a0 k == 10) = false := beq_eq_false_iff_ne.2 (by omega)
        have q1 : (bt a0 (k + 1 : Nat) == 47) = true := beq_iff_eq.2 hA3
        have hc1 : ∀ h : k + 1 < a0.size, ((a0[k + 1]'h).toNat : Int) = bt a0 (k + 1 : Nat) := fun h => by simp [bt, h]
        clear hA1 hA3
        generalize bt a0 (k + 1 : Nat) = c1 at *
        generalize bt a0 k = c at *
        go_wp2_with fail
        refine (hend.out _ _ hst.out).mono ?_
        rintro e w' ⟨rfl, v', hst'⟩
        have hset := Aside0.mk hst'
        have d0 : w'.cell? ⟨b0, 0, none⟩ = some (.string a0) := (blk_cell hst'.text 0).trans rfl
        clear hst' hst hend c0 hc1 q1
        go_wp2_with fail
        go_loop [7] (fun i => ∃ (j n' : Nat), k ≤ j ∧ j < a0.size ∧ i = .int .i64 j ∧ Aside0 (skipC a0 n' j = skipC a0 a0.size k) ∧ a0.size ≤ n' + j) (fun i => a0.size - (intOf i).toNat)
        case atStart => exact ⟨k, a0.size, Nat.le_refl _, hlt, rfl, ⟨rfl⟩, by omega⟩
        case round =>
          obtain ⟨j, n', hj1, hj2, rfl, hsk, hn'⟩ := hrel
          by_cases hj : j + 1 < a0.size
          · have hd1 : ∀ h : j + 1 < a0.size, ((a0[j + 1]'h).toNat : Int) = bt a0 (j + 1 : Nat) := fun h => by simp [bt, h]
            obtain ⟨n2, rfl⟩ : ∃ n2, n' = n2 + 1 := ⟨n' - 1, by omega⟩
            by_cases h10 : bt a0 (j + 1 : Nat) = 10
            · have p10 : (bt a0 (j + 1 : Nat) != 10) = false := by rw [h10]; rfl
              have hs1 : skipC a0 a0.size k = j := by rw [← hsk.out, skipC, if_neg (by rintro ⟨_, h⟩; exact h h10)]
              rw [hs1] at HT
              clear h10 hs1 hsk
              generalize bt a0 (j + 1 : Nat) = c2 at *
              go_wp2
              go_roundw
              case rel => exact ⟨j + 1, m, line, -1, ws2, v', by omega, by go_num, hset, HT, by omega, by omega, by omega, by omega, by omega⟩
              case measure => simp [intOf]; omega
            · have p10 : (bt a0 (j + 1 : Nat) != 10) = true := by simpa using h10
              have hs1 : Aside0 (skipC a0 n2 (j + 1) = skipC a0 a0.size k) := ⟨by
                have := hsk.out
                rw [skipC, if_pos ⟨hj, h10⟩] at this
                exact this⟩
              clear h10 hsk
              generalize bt a0 (j + 1 : Nat) = c2 at *
              go_wp2
              go_round
              case rel => exact ⟨j + 1, n2, by omega, by omega, by go_num, hs1, by omega⟩
              case measure => simp [intOf]; omega
          · have hs1 : skipC a0 a0.size k = j := by
              rw [← hsk.out]
              cases n' with
              | zero => rfl
              | succ n2 => rw [skipC, if_neg (by rintro ⟨h, _⟩; exact hj h)]
            rw [hs1] at HT
            clear hs1 hsk
            go_wp2
            go_roundw
            case rel => exact ⟨j + 1, m, line, -1, ws2, v', by omega, by go_num, hset, HT, by omega, by omega, by omega, by omega, by omega⟩
            case measure => simp [intOf]; omega
      · rw [stepW, if_neg hA] at HT
        by_cases hB : bt a0 k = 32 ∨ bt a0 k = 9 ∨ bt a0 k = 10
        · rw [if_pos hB] at HT
          generalize endW a0 k line frm ws = ws2 at *
          clear hA
          generalize bt a0 k = c at *
          have q47 : (c == 47) = false := beq_eq_false_iff_ne.2 (by rcases hB with h | h | h <;> omega)
          by_cases h10 : c = 10
          · rw [if_pos h10] at HT
            subst h10
            clear hB
            go_wp2_with (go_at_call 68; refine (hend.out _ _ hst.out).mono ?_; rintro e w' ⟨rfl, v', hst'⟩; have d2 : w'.cell? ⟨b2, 0, none⟩ = some (.int .i64 line) := (blk_cell hst'.line 0).trans rfl; have e2 : w'.frozen? ⟨b2, 0, none⟩ = false := blk_frozen hst'.line 0; have hset := Aside0.mk (hst'.setLine (line + 1)); clear hst')
            go_roundw
            case rel => exact ⟨k + 1, m, line + 1, -1, ws2, v', by omega, by go_num, hset, HT, by omega, by omega, by omega, by omega, by omega⟩
            case measure => simp [intOf]; omega
          · rw [if_neg h10] at HT
            have q10 : (c == 10) = false := beq_eq_false_iff_ne.2 h10
            rcases hB with h | h | h
            · have q32 : (c == 32) = true := beq_iff_eq.2 h
              clear h h10
              go_wp2_with (go_at_call 68; refine (hend.out _ _ hst.out).mono ?_; rintro e w' ⟨rfl, v', hst'⟩; have hset := Aside0.mk hst'; clear hst')
              go_roundw
              case rel => exact ⟨k + 1, m, line, -1, ws2, v', by omega, by go_num, hset, HT, by omega, by omega, by omega, by omega, by omega⟩
              case measure => simp [intOf]; omega
            · have q32 : (c == 32) = false := beq_eq_false_iff_ne.2 (by omega)
              have q9 : (c == 9) = true := beq_iff_eq.2 h
              clear h h10
              go_wp2_with (go_at_call 68; refine (hend.out _ _ hst.out).mono ?_; rintro e w' ⟨rfl, v', hst'⟩; have hset := Aside0.mk hst'; clear hst')
              go_roundw
              case rel => exact ⟨k + 1, m, line, -1, ws2, v', by omega, by go_num, hset, HT, by omega, by omega, by omega, by omega, by omega⟩
              case measure => simp [intOf]; omega
            · exact absurd h h10
        · rw [if_neg hB] at HT
          by_cases hC : bt a0 k = 123 ∨ bt a0 k = 125 ∨ bt a0 k = 59
          · rw [if_pos hC] at HT
            generalize endW a0 k line frm ws = ws2 at *
            clear hA
            generalize bt a0 k = c at *
            have q47 : (c == 47) = false := beq_eq_false_iff_ne.2 (by omega)
            have hc32 : (c == 32) = false := beq_eq_false_iff_ne.2 (fun e => hB (.inl e))
            have hc9 : (c == 9) = false := beq_eq_false_iff_ne.2 (fun e => hB (.inr (.inl e)))
            have hc10 : (c == 10) = false := beq_eq_false_iff_ne.2 (fun e => hB (.inr (.inr e)))
            clear hB
            have hq : ((c == 123) = true) ∨ ((c == 123) = false ∧ (c == 125) = true) ∨ ((c == 123) = false ∧ (c == 125) = false ∧ (c == 59) = true) := by
              rcases hC with h | h | h
              · exact .inl (beq_iff_eq.2 h)
              · exact .inr (.inl ⟨beq_eq_false_iff_ne.2 (by omega), beq_iff_eq.2 h⟩)
              · exact .inr (.inr ⟨beq_eq_false_iff_ne.2 (by omega), beq_eq_false_iff_ne.2 (by omega), beq_iff_eq.2 h⟩)
            clear hC
            rcases hq with q123 | ⟨q123, q125⟩ | ⟨q123, q125, q59⟩
            all_goals
              go_wp2_with fail
              refine (hend.out _ _ hst.out).mono ?_
              rintro e w' ⟨rfl, v', hst'⟩
              have H := Aside0.mk hst'
              have hown := Aside0.mk hst'.row
              have d0 : w'.cell? ⟨b0, 0, none⟩ = some (.string a0) := (blk_cell hst'.text 0).trans rfl
              have d1 : w'.cell? ⟨b1, 0, none⟩ = some v' := (blk_cell hst'.out 0).trans rfl
              have d2 : w'.cell? ⟨b2, 0, none⟩ = some (.int .i64 line) := (blk_cell hst'.line 0).trans rfl
              have lt0 : b0 < w'.heap.size := blk_lt hst'.text
              have lt1 : b1 < w'.heap.size := blk_lt hst'.out
              have lt2 : b2 < w'.heap.size := blk_lt hst'.line
              have lw : w.heap.size ≤ w'.heap.size := hst'.bel.size
              have e1 : w'.frozen? ⟨b1, 0, none⟩ = false := blk_frozen hst'.out 0
              have far1 := hst'.far_of hst'.out (by decide)
              have f0 : ∀ o, (w'.alloc o).cell? ⟨b0, 0, none⟩ = some (.string a0) := fun o => cell_new_ lt0 d0
              have f1 : ∀ o, (w'.alloc o).cell? ⟨b1, 0, none⟩ = some v' := fun o => cell_new_ lt1 d1
              have f2 : ∀ o, (w'.alloc o).cell? ⟨b2, 0, none⟩ = some (.int .i64 line) := fun o => cell_new_ lt2 d2
              clear hst' hst hend
              have g0 : (0 : Int) ≤ (k : Int) := Int.natCast_nonneg _
              have g1 : (k : Int) ≤ (k : Int) + 1 := by omega
              have g2 : (k : Int) + 1 ≤ (a0.size : Int) := by omega
              have gw : IntKind.i64.wrap ((k : Int) + 1) = (k : Int) + 1 := by rw [IntKind.wrap_i64]; omega
              have gt : ((k : Int) + 1).toNat = k + 1 := by omega
              go_wp2_with fail
              go_region_law ((refine step_append_lies _ (by rfl) _ _ _ (by rfl) w.heap.size 130 i0 _ 2 24 Tryz.underlying94 hi0 hz0 hz1 hz2 rfl (by omega) v' ws2.length (cellsW ws2) (by rfl) ((hown.out.alloc _).drew) ⟨w'.heap.size, 0, none⟩ 1 1 [.string (a0.extract k (k + 1)), .int .i64 line] (by rfl) (by rfl) (World.news_of_block (cs := #[.string (a0.extract k (k + 1)), .int .i64 line]) (t := 130) (fr := (0, 0)) (heap_alloc_new w' _)) (by simp [Value.oneCell']) (by omega) (by unfold maxLen; omega) (by omega) (by simp; omega) (w'.heap.size + 1) (by simp) ?_; intro gg cap w2 hown1 hgrow hat hlt; have c1b : w2.cell? ⟨b1, 0, none⟩ = some v' := (hgrow.cell_far _ (by simp; omega) (Ne.symm far1)).trans (cell_new_ lt1 d1); have z1b : w2.frozen? ⟨b1, 0, none⟩ = false := (hgrow.frozen_far _ (by simp; omega) (Ne.symm far1)).trans (frz_new lt1 e1)))
              all_goals
                have hty : (Value.slice (some ⟨gg, 0, none⟩) (ws2.length + 1) cap).ownBlock ≠ some b1 := by
                  rcases hat with hat | hat
                  · exact fun e => far1 (hat.trans (show some gg = _ from e))
                  · simp only [Value.ownBlock]; intro e; injection e with e; omega
                have hst2 := Aside0.mk (H.out.grow ⟨a0.extract k (k + 1), line⟩ hown1 hgrow hty)
                clear hown1 hgrow hat hlt c1b z1b hty gw gt
                generalize w2.setCell ⟨b1, 0, none⟩ (Value.slice (some ⟨gg, 0, none⟩) (ws2.length + 1) cap) = w3 at hst2 ⊢
                generalize Value.slice (some ⟨gg, 0, none⟩) (ws2.length + 1) cap = v3 at hst2
                go_wp2
                go_roundw
                case rel => exact ⟨k + 1, m, line, -1, ws2 ++ [⟨a0.extract k (k + 1), line⟩], v3, by omega, by go_num, hst2, HT, by omega, by omega, by omega, by omega, by simp; omega⟩
                case measure => simp [intOf]; omega
          · rw [if_neg hC] at HT
            clear hend hendl
            have c3 : wr.cell? ⟨b3, 0, none⟩ = some (.int .i64 frm) := (blk_cell hst.out.frm 0).trans rfl
            have z3 : wr.frozen? ⟨b3, 0, none⟩ = false := blk_frozen hst.out.frm 0
            have hset := Aside0.mk (hst.out.setFrom (k : Int))
            have hc1 : ∀ h : k + 1 < a0.size, ((a0[k + 1]'h).toNat : Int) = bt a0 (k + 1 : Nat) := fun h => by simp [bt, h]
            generalize bt a0 (k + 1 : Nat) = c1 at *
            generalize bt a0 k = c at *
            have hc32 : (c == 32) = false := beq_eq_false_iff_ne.2 (fun e => hB (.inl e))
            have hc9 : (c == 9) = false := beq_eq_false_iff_ne.2 (fun e => hB (.inr (.inl e)))
            have hc10 : (c == 10) = false := beq_eq_false_iff_ne.2 (fun e => hB (.inr (.inr e)))
            have hc123 : (c == 123) = false := beq_eq_false_iff_ne.2 (fun e => hC (.inl e))
            have hc125 : (c == 125) = false := beq_eq_false_iff_ne.2 (fun e => hC (.inr (.inl e)))
            have hc59 : (c == 59) = false := beq_eq_false_iff_ne.2 (fun e => hC (.inr (.inr e)))
            clear hB hC
            by_cases hf : frm < 0
            · rw [if_pos hf] at HT
              by_cases h47 : c = 47
              · have q47 : (c == 47) = true := beq_iff_eq.2 h47
                by_cases hk1 : k + 1 < a0.size
                · have hn47 : (c1 == 47) = false := beq_eq_false_iff_ne.2 (fun e => hA ⟨h47, hk1, e⟩)
                  clear hA h47
                  go_wp2
                  go_roundw
                  case rel => exact ⟨k + 1, m, line, k, ws, v, by omega, by go_num, hset, HT, by omega, by omega, by omega, by omega, by omega⟩
                  case measure => simp [intOf]; omega
                · clear hA h47
                  go_wp2
                  go_roundw
                  case rel => exact ⟨k + 1, m, line, k, ws, v, by omega, by go_num, hset, HT, by omega, by omega, by omega, by omega, by omega⟩
                  case measure => simp [intOf]; omega
              · have q47 : (c == 47) = false := beq_eq_false_iff_ne.2 h47
                clear hA h47
                go_wp2
                go_roundw
                case rel => exact ⟨k + 1, m, line, k, ws, v, by omega, by go_num, hset, HT, by omega, by omega, by omega, by omega, by omega⟩
                case measure => simp [intOf]; omega
            · rw [if_neg hf] at HT
              clear hset
              by_cases h47 : c = 47
              · have q47 : (c == 47) = true := beq_iff_eq.2 h47
                by_cases hk1 : k + 1 < a0.size
                · have hn47 : (c1 == 47) = false := beq_eq_false_iff_ne.2 (fun e => hA ⟨h47, hk1, e⟩)
                  clear hA h47
                  go_wp2
                  go_roundw
                  case rel => exact ⟨k + 1, m, line, frm, ws, v, by omega, by go_num, hst, HT, by omega, by omega, by omega, by omega, by omega⟩
                  case measure => simp [intOf]; omega
                · clear hA h47
                  go_wp2
                  go_roundw
                  case rel => exact ⟨k + 1, m, line, frm, ws, v, by omega, by go_num, hst, HT, by omega, by omega, by omega, by omega, by omega⟩
                  case measure => simp [intOf]; omega
              · have q47 : (c == 47) = false := beq_eq_false_iff_ne.2 h47
                clear hA h47
                go_wp2
                go_roundw
                case rel => exact ⟨k + 1, m, line, frm, ws, v, by omega, by go_num, hst, HT, by omega, by omega, by omega, by omega, by omega⟩
                case measure => simp [intOf]; omega
    · obtain rfl : k = a0.size := by omega
      have HT : Aside0 (endW a0 a0.size line frm ws ++ [⟨⟨#[]⟩, line⟩] = wordsS a0) := ⟨by
        have := htk.out
        rw [tkF, if_neg hlt] at this
        exact this⟩
      clear htk
      have hend := Aside0.mk (words_end_any w wr b0 b1 b2 b3 a0 line frm a0.size ws v hst.out hfr (Nat.le_refl _) (by omega) (by omega))
      have hendl := endW_len a0 a0.size line frm ws
      generalize endW a0 a0.size line frm ws = ws2 at *
      go_wp2_with fail
      refine hend.out.mono ?_
      rintro e w' ⟨rfl, v', hst'⟩
      have H := Aside0.mk hst'
      have hown := Aside0.mk hst'.row
      have d1 : w'.cell? ⟨b1, 0, none⟩ = some v' := (blk_cell hst'.out 0).trans rfl
      have d2 : w'.cell? ⟨b2, 0, none⟩ = some (.int .i64 line) := (blk_cell hst'.line 0).trans rfl
      have lw : w.heap.size ≤ w'.heap.size := hst'.bel.size
      clear hst' hst hend
      go_wp2_with (at_builtin; refine wpList_append_lies _ rfl _ _ _ rfl w.heap.size 130 i0 _ 2 24 Tryz.underlying94 hi0 hz0 hz1 hz2 rfl (by omega) v' ws2.length (cellsW ws2) (by rfl) (hown.out.alloc _) ⟨w'.heap.size, 0, none⟩ 1 1 [.string ⟨#[]⟩, .int .i64 line] (by rfl) (by rfl) (World.news_of_block (cs := #[.string ⟨#[]⟩, .int .i64 line]) (t := 130) (fr := (0, 0)) (heap_alloc_new w' _)) (by simp [Value.oneCell']) (by omega) (by unfold maxLen; omega) (by omega) (by simp; omega) (w'.heap.size + 1) (by simp) ?_; intro gg cap w2 hown1 hgrow hat hlt)
      go_ret
      refine ⟨_, rfl, ?_, ?_, ?_⟩
      · rw [← HT.out, List.length_append, List.length_singleton, cellsW_snoc]
        exact hown1
      · exact (below_alloc H.out.bel _).grown hgrow (by simp; omega) (fun k hk => own_base H.out.row k hk)
      · rw [← HT.out, List.length_append, List.length_singleton]; omega
end Go.Proofs.YtcoaajkhfgakgaaGreatDoor.Pr
end

section
namespace Go.Proofs.YtcoaajkhfgakgaaGreatDoor.Pr
open Go.RowKit Go.Proofs.YtcoaajkhfgakgaaGreatDoorW.PrintWords Go.Proofs.YtcoaajkhfgakgaaGreatDoorW.PrintLast Go.Proofs.YtcoaajkhfgakgaaGreatDoorW.PrintMore
set_option linter.unusedVariables false
set_option linter.unusedSimpArgs false
theorem endW_small (s : ByteArray) (i : Nat) (line frm : Int) (ws : List Wd) (h : ∀ x ∈ ws, x.s.size ≤ s.size) : ∀ x ∈ endW s i line frm ws, x.s.size ≤ s.size := by
  intro x hx
  unfold endW at hx
  split at hx
  · rcases List.mem_append.1 hx with hx | hx
    · exact h x hx
    · rw [List.mem_singleton.1 hx]
      simp only [ByteArray.size_extract]
      omega
  · exact h x hx
theorem stepW_small (s : ByteArray) (k : Nat) (line frm : Int) (ws : List Wd) (h : ∀ x ∈ ws, x.s.size ≤ s.size) : ∀ x ∈ (stepW s k line frm ws).2.2.2, x.s.size ≤ s.size := by
  intro x hx
  unfold stepW at hx
  split at hx
  · exact endW_small s k line frm ws h x hx
  · split at hx
    · exact endW_small s k line frm ws h x hx
    · split at hx
      · rcases List.mem_append.1 hx with hx | hx
        · exact endW_small s k line frm ws h x hx
        · rw [List.mem_singleton.1 hx]
          simp only [ByteArray.size_extract]
          omega
      · exact h x hx
theorem tkF_small (s : ByteArray) : ∀ (n k : Nat) (line frm : Int) (ws : List Wd), (∀ x ∈ ws, x.s.size ≤ s.size) → ∀ x ∈ tkF s n k line frm ws, x.s.size ≤ s.size
  | 0, k, line, frm, ws, h => h
  | n + 1, k, line, frm, ws, h => by
    unfold tkF
    split
    · exact tkF_small s n _ _ _ _ (stepW_small s k line frm ws h)
    · intro x hx
      rcases List.mem_append.1 hx with hx | hx
      · exact endW_small s _ line frm ws h x hx
      · rw [List.mem_singleton.1 hx]
        exact Nat.zero_le _
theorem words_small (s : ByteArray) : ∀ x ∈ wordsS s, x.s.size ≤ s.size := tkF_small s _ _ _ _ _ (by simp)
theorem stepW_at (s : ByteArray) (k : Nat) (line frm : Int) (ws : List Wd) (h : k < s.size) : k + 1 ≤ (stepW s k line frm ws).1 ∧ (stepW s k line frm ws).1 ≤ s.size := by
  have := skipC_le s s.size k h
  unfold stepW
  split
  · simp only; omega
  · split
    · simp only; omega
    · split <;> (simp only; omega)
theorem tkF_pos (s : ByteArray) : ∀ (n k : Nat) (line frm : Int) (ws : List Wd), k ≤ s.size → s.size - k < n → 0 < (tkF s n k line frm ws).length
  | 0, k, line, frm, ws, _, h => by omega
  | n + 1, k, line, frm, ws, hk, h => by
    unfold tkF
    split
    · rename_i hlt
      have := stepW_at s k line frm ws hlt
      exact tkF_pos s n _ _ _ _ this.2 (by omega)
    · simp
theorem words_pos (s : ByteArray) : 0 < (wordsS s).length := tkF_pos s _ _ _ _ _ (Nat.zero_le _) (by omega)
theorem cellsW_cons (x : Wd) (ws : List Wd) : cellsW (x :: ws) = .string x.s :: .int .i64 x.line :: cellsW ws := by simp [cellsW]
theorem cellsW_at : ∀ (ws : List Wd) (j : Nat) (p : Wd), ws[j]? = some p → ((cellsW ws).drop (j * 2)).take 2 = [.string p.s, .int .i64 p.line]
  | [], j, p, h => by simp at h
  | x :: r, 0, p, h => by
    simp only [List.getElem?_cons_zero, Option.some.injEq] at h
    subst h
    rw [cellsW_cons]
    rfl
  | x :: r, j + 1, p, h => by
    rw [List.getElem?_cons_succ] at h
    rw [cellsW_cons, show (j + 1) * 2 = j * 2 + 1 + 1 from by omega, List.drop_succ_cons, List.drop_succ_cons]
    exact cellsW_at r j p h
theorem cellsW_len : ∀ ws : List Wd, (cellsW ws).length = ws.length * 2
  | [] => rfl
  | x :: r => by rw [cellsW_cons, List.length_cons, List.length_cons, cellsW_len r, List.length_cons]; omega
theorem reps_words (ws : List Wd) : Reps (fun (x : Wd) cs => cs = [.string x.s, .int .i64 x.line]) 2 ws (cellsW ws) := ⟨cellsW_len ws, cellsW_at ws⟩
def sitesF : Nat → St → List S52 → Option (St × List S52)
  | 0, _, _ => none
  | f + 1, st, sites => if st.code = 0 ∧ 1 < st.l.length then (siteF f st sites).bind fun r => sitesF f r.1 r.2 else some (st, sites)
def conf_Read.f (a0 : ByteArray) : Option ((List (S52)) × Int × Int) :=
  if 4096 < a0.size then some ([], 32, 1)
  else (sitesF (8 * a0.size + 64) ⟨wordsS a0, 0, 0⟩ []).map fun r => if r.1.code = 0 ∧ r.1.line = 0 then (r.2, 0, 0) else ([], r.1.code, r.1.line)
end Go.Proofs.YtcoaajkhfgakgaaGreatDoor.Pr
end

section
namespace Go.Proofs.YtcoaajkhfgakgaaGreatDoor.Pr
open Go.RowKit Go.Proofs.YtcoaajkhfgakgaaGreatDoorW.PrintWords Go.Proofs.YtcoaajkhfgakgaaGreatDoorW.PrintLast Go.Proofs.YtcoaajkhfgakgaaGreatDoorW.PrintMore
set_option linter.unusedVariables false
set_option linter.unusedSimpArgs false
theorem siteF_len {k : Nat} {st st' : St} {sites sites' : List S52} (h : siteF k st sites = some (st', sites')) : sites'.length = sites.length + 1 := by
  unfold siteF at h
  cases hr : rulesF k (mustS (takeS (hostS (headS st sites) sites)) ⟨#[123]⟩) ⟨nextS (headS st sites), 1, 0, 3600, true, true, []⟩ [] with
  | none => rw [hr] at h; simp at h
  | some r =>
    rw [hr] at h
    simp only [Option.map_some, Option.some.injEq, Prod.mk.injEq] at h
    rw [← h.2]
    simp
set_option maxRecDepth 100000 in
set_option maxHeartbeats 8000000 in
theorem conf_Read.calls (a0 : ByteArray) (r1 : List (S52)) (r2 : Int) (r3 : Int) (w : World) (hG : GL w) (h : conf_Read.f a0 = some (r1, r2, r3)) :
    Calls Tryz.prog 19 #[.string a0] w fun e w' => ∃ v0_ : Value, e = .returned (.tuple #[.agg #[v0_], .agg #[.int .i64 r2, .int .i64 r3]]) ∧ Kd.V k52 52 w' w.heap.size (fun k_ => (w.heap.size ≤ k_)) v0_ r1 ∧ Below w.heap.size w w' := by
  have hu := Tryz.underlying97
  have hu2 := Tryz.underlying43
  have hu4 := Tryz.underlying24
  have HG := Aside0.mk hG
  clear hG
  by_cases t0 : 4096 < a0.size
  · unfold conf_Read.f at h
    rw [if_pos t0] at h
    simp only [Option.some.injEq, Prod.mk.injEq] at h
    obtain ⟨rfl, rfl, rfl⟩ := h
    have t0' : (a0.size : Int) > 4096 := by omega
    clear t0
    go_enter Tryz.func19, Tryz.ntmps19
    go_wp2
    have hb2 : Below w.heap.size w ((w.alloc (.cells #[.slice none 0 0] 24)).alloc (.cells #[.int .i64 32, .int .i64 1] 43)) := below_alloc (below_alloc (Below.refl _ _) _) _
    have h1 : ((w.alloc (.cells #[.slice none 0 0] 24)).alloc (.cells #[.int .i64 32, .int .i64 1] 43)).heap[w.heap.size]? = some (.cells #[.slice none 0 0] 24 (0, 0)) := ((below_alloc (Below.refl (w.alloc (.cells #[.slice none 0 0] 24)).heap.size _) (.cells #[.int .i64 32, .int .i64 1] 43)).block w.heap.size (by simp)).trans (heap_alloc_new w _)
    have h2 : ((w.alloc (.cells #[.slice none 0 0] 24)).alloc (.cells #[.int .i64 32, .int .i64 1] 43)).heap[w.heap.size + 1]? = some (.cells #[.int .i64 32, .int .i64 1] 43 (0, 0)) := by
      have := heap_alloc_new (w.alloc (.cells #[.slice none 0 0] 24)) (.cells #[.int .i64 32, .int .i64 1] 43)
      simpa using this
    refine bodyPost_ret (results_cc rfl _ _ w.heap.size (w.heap.size + 1) 24 43 #[.slice none 0 0] #[.int .i64 32, .int .i64 1] (0, 0) (0, 0) _ _ rfl h1 Tryz.underlying24 rfl (by kernel_rfl) rfl h2 Tryz.underlying43 rfl (by kernel_rfl)) rfl ?_
    exact ⟨_, rfl, Kd.R_V (Kd.R_nil _ _ _ w.heap.size _), hb2⟩
  · unfold conf_Read.f at h
    rw [if_neg t0] at h
    have t0' : ¬ (a0.size : Int) > 4096 := by omega
    cases hs : sitesF (8 * a0.size + 64) ⟨wordsS a0, 0, 0⟩ [] with
    | none => rw [hs] at h; simp at h
    | some r =>
    rw [hs] at h
    obtain ⟨stf, sf⟩ := r
    simp only [Option.map_some, Option.some.injEq] at h
    have HW := Aside0.mk (fun W => conf_words_calls a0 W (by omega))
    have HSM := Aside0.mk (words_small a0)
    have HPO := Aside0.mk (words_pos a0)
    have HRE := Aside0.mk h
    have HSF := Aside0.mk hs
    have HT0 := Aside0.mk t0
    clear h hs t0
    go_enter Tryz.func19, Tryz.ntmps19
    go_wp2_with fail
    refine (HW.out _).mono ?_
    rintro e w0 ⟨vw, rfl, hown, hbw, hlw⟩
    obtain ⟨AW, cW, hvw, hrdW⟩ := own_reads_row (R := fun (x : Wd) cs => cs = [.string x.s, .int .i64 x.line]) hown (reps_words (wordsS a0)) rfl
    have hcW : (wordsS a0).length ≤ cW := by
      rcases hown.2 with ⟨h1, h2⟩ | ⟨g, cap, cur, h1, h2, h3, h4, h5⟩
      · omega
      · rw [h1] at hvw
        injection hvw with _ _ hc
        omega
    subst hvw
    have hb2 : Below w.heap.size w ((w.alloc (.cells #[.slice none 0 0] 24)).alloc (.cells #[.int .i64 0, .int .i64 0] 43)) := below_alloc (below_alloc (Below.refl _ _) _) _
    have hsz2 : ((w.alloc (.cells #[.slice none 0 0] 24)).alloc (.cells #[.int .i64 0, .int .i64 0] 43)).heap.size = w.heap.size + 2 := by simp
    have h1 : w0.heap[w.heap.size]? = some (.cells #[.slice none 0 0] 24 (0, 0)) := (hbw.block _ (by simp; omega)).trans (((below_alloc (Below.refl (w.alloc (.cells #[.slice none 0 0] 24)).heap.size _) (.cells #[.int .i64 0, .int .i64 0] 43)).block w.heap.size (by simp)).trans (heap_alloc_new w _))
    have h2 : w0.heap[w.heap.size + 1]? = some (.cells #[.int .i64 0, .int .i64 0] 43 (0, 0)) := (hbw.block _ (by simp)).trans (by
      have := heap_alloc_new (w.alloc (.cells #[.slice none 0 0] 24)) (.cells #[.int .i64 0, .int .i64 0] 43)
      simpa using this)
    have hw0 : w.heap.size + 2 ≤ w0.heap.size := by rw [← hsz2]; exact hbw.size
    have hB0 : Below w.heap.size w w0 := below_then hb2 (by omega) hbw
    have HB0 := Aside0.mk hB0
    have HG0 := Aside0.mk (HG.out.below hB0)
    have H1 := Aside0.mk h1
    have H2 := Aside0.mk h2
    have HSI : Aside0 (SI w0 ((w0.alloc (.cells #[.slice AW (wordsS a0).length cW, .int .i64 0, .int .i64 0] 97)).alloc (.cells #[.slice none 0 0] 24)) w0.heap.size (w0.heap.size + 1) ⟨wordsS a0, 0, 0⟩ [] (.slice none 0 0)) := ⟨by
      have hba := below_alloc (Below.refl (w0.alloc (.cells #[.slice AW (wordsS a0).length cW, .int .i64 0, .int .i64 0] 97)).heap.size _) (.cells #[.slice none 0 0] 24)
      refine ⟨⟨AW, cW, (hba.block w0.heap.size (by simp)).trans (heap_alloc_new w0 _), hcW, Nat.le_refl _, hrdW, HPO.out⟩, below_alloc (below_alloc (Below.refl _ _) _) _, ?_, Kd.R_nil _ _ _ _ _, fun x hx => ?_, by simp⟩
      · have := heap_alloc_new (w0.alloc (.cells #[.slice AW (wordsS a0).length cW, .int .i64 0, .int .i64 0] 97)) (.cells #[.slice none 0 0] 24)
        simpa using this
      · have := HSM.out x hx
        omega⟩
    clear hown hbw hrdW hb2 hsz2 h1 h2 hB0 HW
    go_wp2
    go_loopg [30] (8 * a0.size + 64) (fun kq v30 wr => ∃ (s1 : St) (l1 : List S52) (v1 : Value), Aside0 (sitesF kq s1 l1 = some (stf, sf)) ∧ Aside0 (SI w0 wr w0.heap.size (w0.heap.size + 1) s1 l1 v1) ∧ Aside0 (l1.length + kq ≤ 8 * a0.size + 64))
    case atStart => exact ⟨_, [], _, HSF, HSI, ⟨by simp⟩⟩
    case round =>
      clear HSF HSI
      obtain ⟨s1, l1, v1, HF, HS, HL⟩ := hrel
      cases gk with
      | zero => exact absurd HF.out (by simp [sitesF])
      | succ k1 =>
        have hrd := HS.out.rd
        obtain ⟨AR, cR, hbR, hlcR, _, _, _⟩ := hrd
        have c1 : wr.cell? ⟨w0.heap.size, 1, none⟩ = some (.int .i64 s1.code) := (blk_cell hbR 1).trans rfl
        have c0 : wr.cell? ⟨w0.heap.size, 0, none⟩ = some (.slice AR s1.l.length cR) := (blk_cell hbR 0).trans rfl
        have c2 : wr.cell? ⟨w0.heap.size, 2, none⟩ = some (.int .i64 s1.line) := (blk_cell hbR 2).trans rfl
        clear hbR
        go_upto_region 5 with fail
        go_cut [28] from 15 to 30 (fun v28 W => ∃ b, v28 = .bool b ∧ Aside0 (b = (decide (s1.code = 0) && decide (1 < s1.l.length))) ∧ W = wr)
        case first =>
          by_cases t1 : s1.code = 0
          · have E : Aside0 (decide ((1 : Int) < (s1.l.length : Int)) = (decide (s1.code = 0) && decide (1 < s1.l.length))) := ⟨by rw [decide_eq_true t1, Bool.true_and]; exact decide_eq_decide.2 (by omega)⟩
            rw [t1] at c1
            clear t1
            go_wp2
            go_meet
            case rel => exact ⟨_, rfl, E, rfl⟩
          · have E : Aside0 (false = (decide (s1.code = 0) && decide (1 < s1.l.length))) := ⟨by rw [decide_eq_false t1]; rfl⟩
            have q1 : (s1.code == 0) = false := beq_eq_false_iff_ne.2 t1
            clear t1
            go_wp2
            go_meet
            case rel => exact ⟨_, rfl, E, rfl⟩
        case rest =>
        obtain ⟨b, rfl, HB, hW⟩ := hcut
        obtain rfl : wr = wc := hW.symm
        clear hW
        have HT := HF.out
        unfold sitesF at HT
        cases b with
        | true =>
          have hb := HB.out.symm
          simp only [Bool.and_eq_true, decide_eq_true_eq] at hb
          rw [if_pos hb] at HT
          cases hrr : siteF k1 s1 l1 with
          | none => rw [hrr] at HT; simp at HT
          | some rr =>
          rw [hrr] at HT
          obtain ⟨sa, sb⟩ := rr
          have HTN : Aside0 (sitesF k1 sa sb = some (stf, sf)) := ⟨HT⟩
          have HLN := Aside0.mk (siteF_len hrr)
          have HRU := Aside0.mk (reader_site_calls k1 w0 _ w0.heap.size (w0.heap.size + 1) s1 l1 v1 sa sb HS.out (by omega) (Nat.le_refl _) (by omega) HG0.out (by have := HL.out; have := HT0.out; omega) (by have := HL.out; have := HT0.out; omega) hrr)
          clear HT hrr hb HB HF c0 c1 c2
          go_wp2_with fail
          refine HRU.out.mono ?_
          rintro e w6 ⟨rfl, v6, hr6⟩
          have HR6 := Aside0.mk hr6
          clear hr6 HRU
          go_wp2
          go_roundg k1
          case measure => omega
          case rel => exact ⟨_, _, _, HTN, HR6, ⟨by rw [HLN.out]; have := HL.out; omega⟩⟩
        | false =>
          have HE : Aside0 (s1 = stf ∧ l1 = sf) := ⟨by
            rw [if_neg (fun hh => by have := HB.out; rw [decide_eq_true hh.1, decide_eq_true hh.2] at this; simp at this)] at HT
            simpa using HT⟩
          obtain ⟨e1, e2⟩ := HE.out
          subst e1 e2
          clear HE HB HF HT
          have b2 : wr.heap[w.heap.size]? = some (.cells #[.slice none 0 0] 24 (0, 0)) := (HS.out.bel.block _ (by omega)).trans H1.out
          have b3 : wr.heap[w.heap.size + 1]? = some (.cells #[.int .i64 0, .int .i64 0] 43 (0, 0)) := (HS.out.bel.block _ (by omega)).trans H2.out
          have k2 : wr.cell? ⟨w.heap.size, 0, none⟩ = some (.slice none 0 0) := (blk_cell b2 0).trans rfl
          have k30 : wr.cell? ⟨w.heap.size + 1, 0, none⟩ = some (.int .i64 0) := (blk_cell b3 0).trans rfl
          have k31 : wr.cell? ⟨w.heap.size + 1, 1, none⟩ = some (.int .i64 0) := (blk_cell b3 1).trans rfl
          have z2 : wr.frozen? ⟨w.heap.size, 0, none⟩ = false := blk_frozen b2 0
          have z30 : wr.frozen? ⟨w.heap.size + 1, 0, none⟩ = false := blk_frozen b3 0
          have z31 : wr.frozen? ⟨w.heap.size + 1, 1, none⟩ = false := blk_frozen b3 1
          have HB2 := Aside0.mk b2
          have HB3 := Aside0.mk b3
          obtain ⟨A1, n1, hv1⟩ := Kd.R_slice HS.out.own
          subst hv1
          have kg : wr.cell? ⟨w0.heap.size + 1, 0, none⟩ = some (.slice A1 l1.length n1) := (blk_cell HS.out.box 0).trans rfl
          have HR := HRE.out
          clear b2 b3 HRE
          by_cases t1 : s1.code = 0 ∧ s1.line = 0
          · rw [if_pos t1] at HR
            simp only [Prod.mk.injEq] at HR
            obtain ⟨rfl, rfl, rfl⟩ := HR
            rw [t1.1] at c1
            rw [t1.2] at c2
            clear t1
            go_wp2
            have g2 : (((wr.setCell ⟨w.heap.size, 0, none⟩ (.slice A1 l1.length n1)).setCell ⟨w.heap.size + 1, 0, none⟩ (.int .i64 0)).setCell ⟨w.heap.size + 1, 1, none⟩ (.int .i64 0)).heap[w.heap.size]? = some (.cells #[.slice A1 l1.length n1] 24 (0, 0)) := (Below.heap_setCell _ _ _ _ (by simp)).trans ((Below.heap_setCell _ _ _ _ (by simp)).trans (blk_put HB2.out 0 _ rfl))
            have g3 : (((wr.setCell ⟨w.heap.size, 0, none⟩ (.slice A1 l1.length n1)).setCell ⟨w.heap.size + 1, 0, none⟩ (.int .i64 0)).setCell ⟨w.heap.size + 1, 1, none⟩ (.int .i64 0)).heap[w.heap.size + 1]? = some (.cells #[.int .i64 0, .int .i64 0] 43 (0, 0)) := blk_put (blk_put ((Below.heap_setCell _ _ _ _ (by simp)).trans HB3.out) 0 _ rfl) 1 _ rfl
            have gb : Below w.heap.size w (((wr.setCell ⟨w.heap.size, 0, none⟩ (.slice A1 l1.length n1)).setCell ⟨w.heap.size + 1, 0, none⟩ (.int .i64 0)).setCell ⟨w.heap.size + 1, 1, none⟩ (.int .i64 0)) := below_set (below_set (below_set (below_then HB0.out HB0.out.size HS.out.bel) (by simp)) (by simp)) (by simp)
            refine bodyPost_ret (results_cc rfl _ _ w.heap.size (w.heap.size + 1) 24 43 #[.slice A1 l1.length n1] #[.int .i64 0, .int .i64 0] (0, 0) (0, 0) _ _ rfl g2 Tryz.underlying24 rfl (by kernel_rfl) rfl g3 Tryz.underlying43 rfl (by kernel_rfl)) rfl ?_
            have hR0 := Kd.R_mono (ok' := fun k => w0.heap.size ≤ k) (Kd.R_bound HS.out.own) (fun k hk => hk.2.1)
            have hR1 := Kd.R_far (Kd.R_far (Kd.R_far hR0 (p := ⟨w.heap.size, 0, none⟩) (fun k hk => by simp only; omega) (.slice A1 l1.length n1)) (p := ⟨w.heap.size + 1, 0, none⟩) (fun k hk => by simp only; omega) (.int .i64 0)) (p := ⟨w.heap.size + 1, 1, none⟩) (fun k hk => by simp only; omega) (.int .i64 0)
            exact ⟨_, rfl, Kd.R_V (Kd.R_mono hR1 (fun k hk => by omega)), gb⟩
          · rw [if_neg t1] at HR
            simp only [Prod.mk.injEq] at HR
            obtain ⟨rfl, rfl, rfl⟩ := HR
            have n1 : w0.heap.size ≠ w.heap.size := by omega
            have n2 : w.heap.size ≠ w0.heap.size := by omega
            by_cases t2 : s1.code = 0
            · have q2 : (s1.line == 0) = false := beq_eq_false_iff_ne.2 (fun h => t1 ⟨t2, h⟩)
              have T2 := Aside0.mk t2
              rw [t2] at c1
              clear t1 t2
              go_upto_region 8 with fail
              go_region
              all_goals
                go_wp2
                have g2 : ((((wr.setCell ⟨w.heap.size, 0, none⟩ (.slice none 0 0)).setCell ⟨w.heap.size + 1, 0, none⟩ (.int .i64 0)).setCell ⟨w.heap.size + 1, 1, none⟩ (.int .i64 s1.line)).drew).heap[w.heap.size]? = some (.cells #[.slice none 0 0] 24 (0, 0)) := blk_drew ((Below.heap_setCell _ _ _ _ (by simp)).trans ((Below.heap_setCell _ _ _ _ (by simp)).trans (blk_put HB2.out 0 _ rfl)))
                have g3 : ((((wr.setCell ⟨w.heap.size, 0, none⟩ (.slice none 0 0)).setCell ⟨w.heap.size + 1, 0, none⟩ (.int .i64 0)).setCell ⟨w.heap.size + 1, 1, none⟩ (.int .i64 s1.line)).drew).heap[w.heap.size + 1]? = some (.cells #[.int .i64 0, .int .i64 s1.line] 43 (0, 0)) := blk_drew (blk_put (blk_put ((Below.heap_setCell _ _ _ _ (by simp)).trans HB3.out) 0 _ rfl) 1 _ rfl)
                have gb : Below w.heap.size w ((((wr.setCell ⟨w.heap.size, 0, none⟩ (.slice none 0 0)).setCell ⟨w.heap.size + 1, 0, none⟩ (.int .i64 0)).setCell ⟨w.heap.size + 1, 1, none⟩ (.int .i64 s1.line)).drew) := below_drew (below_set (below_set (below_set (below_then HB0.out HB0.out.size HS.out.bel) (by simp)) (by simp)) (by simp))
                refine bodyPost_ret (results_cc rfl _ _ w.heap.size (w.heap.size + 1) 24 43 #[.slice none 0 0] #[.int .i64 0, .int .i64 s1.line] (0, 0) (0, 0) _ _ rfl g2 Tryz.underlying24 rfl (by kernel_rfl) rfl g3 Tryz.underlying43 rfl (by kernel_rfl)) rfl ?_
                exact ⟨_, by rw [T2.out], Kd.R_V (Kd.R_nil _ _ _ w.heap.size _), gb⟩
            · have q2 : (s1.code == 0) = false := beq_eq_false_iff_ne.2 t2
              clear t1 t2
              go_upto_region 8 with fail
              go_region
              all_goals
                go_wp2
                have g2 : ((((wr.setCell ⟨w.heap.size, 0, none⟩ (.slice none 0 0)).setCell ⟨w.heap.size + 1, 0, none⟩ (.int .i64 s1.code)).setCell ⟨w.heap.size + 1, 1, none⟩ (.int .i64 s1.line)).drew).heap[w.heap.size]? = some (.cells #[.slice none 0 0] 24 (0, 0)) := blk_drew ((Below.heap_setCell _ _ _ _ (by simp)).trans ((Below.heap_setCell _ _ _ _ (by simp)).trans (blk_put HB2.out 0 _ rfl)))
                have g3 : ((((wr.setCell ⟨w.heap.size, 0, none⟩ (.slice none 0 0)).setCell ⟨w.heap.size + 1, 0, none⟩ (.int .i64 s1.code)).setCell ⟨w.heap.size + 1, 1, none⟩ (.int .i64 s1.line)).drew).heap[w.heap.size + 1]? = some (.cells #[.int .i64 s1.code, .int .i64 s1.line] 43 (0, 0)) := blk_drew (blk_put (blk_put ((Below.heap_setCell _ _ _ _ (by simp)).trans HB3.out) 0 _ rfl) 1 _ rfl)
                have gb : Below w.heap.size w ((((wr.setCell ⟨w.heap.size, 0, none⟩ (.slice none 0 0)).setCell ⟨w.heap.size + 1, 0, none⟩ (.int .i64 s1.code)).setCell ⟨w.heap.size + 1, 1, none⟩ (.int .i64 s1.line)).drew) := below_drew (below_set (below_set (below_set (below_then HB0.out HB0.out.size HS.out.bel) (by simp)) (by simp)) (by simp))
                refine bodyPost_ret (results_cc rfl _ _ w.heap.size (w.heap.size + 1) 24 43 #[.slice none 0 0] #[.int .i64 s1.code, .int .i64 s1.line] (0, 0) (0, 0) _ _ rfl g2 Tryz.underlying24 rfl (by kernel_rfl) rfl g3 Tryz.underlying43 rfl (by kernel_rfl)) rfl ?_
                exact ⟨_, rfl, Kd.R_V (Kd.R_nil _ _ _ w.heap.size _), gb⟩
end Go.Proofs.YtcoaajkhfgakgaaGreatDoor.Pr
end

section
namespace Go.Proofs.YtcoaajkhfgakgaaGreatDoor.Pr
open Go.RowKit Go.Proofs.YtcoaajkhfgakgaaGreatDoorW.PrintWords Go.Proofs.YtcoaajkhfgakgaaGreatDoorW.PrintLast Go.Proofs.YtcoaajkhfgakgaaGreatDoorW.PrintMore
attribute [local go_sem] max2_int min2_int max_two min_two max_three min_three max_four min_four   -- for this text's walks alone
set_option linter.unusedVariables false
set_option linter.unusedSimpArgs false
attribute [local go_sem high] eqA40
def pantrylaw10_anchor.f (k : Nat)  : Option (Bool) := (conf_Read.f (⟨#[115, 105, 116, 101, 32, 97, 32, 123, 125]⟩ : ByteArray)).bind fun bt165 => ((conf_Read.f (⟨#[115, 105, 116, 101, 32, 97, 32, 123, 32, 116, 116, 108, 32, 48, 32, 57, 59, 32, 125]⟩ : ByteArray)).bind fun bt172 => ((plan_First.f).bind fun bt179 => ((plan_Table_Next.f k bt179.1 bt179.2 bt165.1).bind fun bt183 => ((plan_Table_Next.f k bt183.1 bt183.2.1 bt172.1).bind fun bt192 => (if bt183.2.2.2 = 0 then (if bt192.2.2.2 = 0 then (if (bt183.2.2.1.length : Int) = 1 then (if 0 < (bt183.2.2.1.length : Int) then (if (((rd_T40 bt183.2.2.1 0).f0) == 3 && ((((rd_T40 bt183.2.2.1 0).f1).toList) == ([97] : List UInt8))) = true then (if 0 < (bt183.2.1.length : Int) then (if ((rd_T70 bt183.2.1 0).f1) = 1 then (if 0 < (bt192.2.2.1.length : Int) then (if ((rd_T40 bt192.2.2.1 0).f0) = 1 then (if 0 < (bt192.2.1.length : Int) then (if ((rd_T70 bt192.2.1 0).f1) = 2 then (some (bt192.1 == 2)) else (some false)) else (none)) else (some false)) else (none)) else (some false)) else (none)) else (some false)) else (none)) else (some false)) else (some false)) else (some false))))))
theorem pantrylaw10_anchor.mono : ∀ k, LeO (pantrylaw10_anchor.f k ) (pantrylaw10_anchor.f (k + 1) ) := by
  intro  k
  unfold pantrylaw10_anchor.f
  repeat' first
      | (with_reducible exact plan_Table_Next.mono _ _ _ _)
      | (with_reducible exact LeO.refl _)
      | (with_reducible exact LeO.none _)
      | (with_reducible refine LeO.ite ?_ ?_)
      | (with_reducible refine LeO.bind ?_ (fun _ => ?_))
      | exact plan_Table_Next.mono _ _ _ _
      | exact LeO.none _
      | refine LeO.ite ?_ ?_
      | refine LeO.bind ?_ (fun _ => ?_)
def pantrylaw10_anchor.T3 : Bool × List (List Nat × List Nat) := (true, [([], []), ([], []), ([0, 1, 0], [0, 1]), ([2], [2]), ([3], [3]), ([3], [3]), ([3], [3]), ([], []), ([7, 4, 2, 0, 1, 2, 3, 4, 7], [4, 7]), ([5, 8, 0, 1, 2, 3, 4, 5, 7, 8], [5]), ([6, 9, 0, 1, 2, 3, 4, 5, 6, 7, 8, 9], [6])])
def pantrylaw10_anchor.B3 : List Nat := [0, 0, 3, 7, 15, 15, 15, 0, 159, 447, 1023]
theorem pantrylaw10_anchor.tab3 : rtab .any (opsOf Tryz.f10 3) = pantrylaw10_anchor.T3 := by kernel_rfl
theorem pantrylaw10_anchor.bits3 : waitsOk pantrylaw10_anchor.T3.2 pantrylaw10_anchor.B3 = true := by kernel_rfl
end Go.Proofs.YtcoaajkhfgakgaaGreatDoor.Pr
end
